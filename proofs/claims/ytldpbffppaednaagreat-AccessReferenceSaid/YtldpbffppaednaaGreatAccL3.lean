/-
  The laws of access. No condition.
-/
import Derived.Test.YtldpbffppaednaaGreatAccL2
set_option linter.unusedVariables false
namespace Go.Proofs
open Go.Den Go.Tot
theorem Zqn : Zbk = some true:=by decide +kernel
theorem sleep29 : (Zbk.bind fun v=>some v) = some true:=by rw [Zqn]; rfl
abbrev Yes (o : Option Bool) : Prop:=Ok o fun r=>r = true
theorem Yes.eq {o : Option Bool} (h : Yes o) : o = some true:=by obtain ⟨r,e,h⟩:=h; rw [e,h]
theorem few29 {w : Z09} {f : Bool → Option Bool} (hf : Yes (f false)) (ht : Yes (f true)) : Yes ((Zco w).bind f):=by
  unfold Zco
  cases decide ((w.Z1c.length : Int) ≤ 40) <;> assumption
theorem guard29 {w : Z09} (hw : Z4u w) {s k : Option Bool} (hs : s = some true) (h : Z5f w → Yes k) :
    Yes ((Zco w).bind fun v0=>if (!v0) = true then s else (Zck w).bind fun v1=>if (!v1) = true then s else k):=
  have z : Yes s:=ok' hs rfl
  few29 z (bd (Y06 w hw) fun b hb=>br! (fun _=>z) fun e=>h (hb e))
structure Two (w : Z09) (a b : Int) (s t : Bool) : Prop where
  s1 : Z95 w a b = some s
  s2 : Z90 w a b = some s
  t1 : Ze6 w a b = some t
  t2 : Zba w a b = some t
theorem two29 (w : Z09) (hw : Z4u w) (hv : Z5f w) (a b : Int) : ∃ s t,Two w a b s t:=by
  obtain ⟨s,h1,h2,_⟩:=same_eq w hw a b
  obtain ⟨t,h3,h4,_⟩:=sub_eq w hv a b
  exact ⟨s,t,h1,h2,h3,h4⟩
theorem cls_eq {w : Z09} {a b : Int} {s t : Bool} (h : Two w a b s t) : ∃ p : Bool,Z9p w a b = some (decide (In w a) && decide (In w b) && (p || s)) ∧ Zht w a b = some (decide (In w a) && decide (In w b) && (p || s)):=by
  unfold Z9p Zht j11x1
  rw [Z7w,Z7w,Zb8,Zb8,h.s1,h.s2]
  by_cases hb : In w b
  · obtain ⟨c,ec,mc,_⟩:=hb.get
    refine ⟨Z20 .i64 c.Z0s.Z0h 1 != 0,?_⟩
    rw [ec]
    by_cases ha : In w a <;> by_cases hp : Z20 .i64 c.Z0s.Z0h 1 = 0 <;> simp [ha,hb,hp]
  · refine ⟨false,?_⟩
    by_cases ha : In w a <;> simp [ha,hb]
def memb (f a b : Int) (s t : Bool) : Bool:=
  if Z20 .i64 f 1 ≠ 0 then true else if Z20 .i64 f 2 ≠ 0 then a == b else s || (Z20 .i64 f 4 != 0 && t)
theorem Zpw {w : Z09} {a b : Int} {s t : Bool} (h : Two w a b s t) (f : Int) : Z84 w a b f = some (decide (In w a) && decide (In w b) && memb f a b s t) ∧ Ziy w a b f = some (decide (In w a) && decide (In w b) && memb f a b s t):=by
  unfold Z84 Ziy j13x1 j14x1 Zje memb
  rw [Z7w,Z7w,Zb8,Zb8,h.s1,h.s2,h.t1,h.t2]
  by_cases ha : In w a <;> by_cases hb : In w b <;> simp [ha,hb]
  by_cases h1 : Z20 .i64 f 1 = 0 <;> simp [h1]
  by_cases h2 : Z20 .i64 f 2 = 0 <;> simp [h2]
  by_cases h4 : Z20 .i64 f 4 = 0 <;> cases s <;> cases t <;> simp [h4]
def over (f : Int) (s : Bool) : Bool:=if Z20 .i64 f 10 ≠ 0 then false else Z20 .i64 f 5 != 0 || s
theorem Zv6 {w : Z09} {a b : Int} {s t : Bool} (h : Two w a b s t) (f : Int) : Z91 w a b f = some (decide (In w a) && decide (In w b) && over f s) ∧ Zjw w a b f = some (decide (In w a) && decide (In w b) && over f s):=by
  unfold Z91 Zjw j15x1 j16x1 over
  rw [Z7w,Z7w,Zb8,Zb8,h.s1,h.s2]
  by_cases ha : In w a <;> by_cases hb : In w b <;> simp [ha,hb]
  by_cases h1 : Z20 .i64 f 10 = 0 <;> simp [h1]
  by_cases h2 : Z20 .i64 f 5 = 0 <;> simp [h2]
theorem Zyb (w : Z09) (hw : Z4u w) (a b f : Int) : Zqy w a b f = some true:=by
  refine (guard29 hw sleep29 fun hv=>?_ : Yes _).eq
  obtain ⟨s,t,h⟩:=two29 w hw hv a b
  unfold j3x1
  obtain ⟨p,e1,e2⟩:=cls_eq h
  rw [Zqn,e1,e2,(Zpw h f).1,(Zpw h f).2,(Zv6 h f).1,(Zv6 h f).2]
  exact ok' (by simp) rfl
end Go.Proofs
