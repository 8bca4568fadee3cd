/-
  The laws of access. No condition.
-/
import Derived.Test.YtldpbffppaednaaGreatAccL2
set_option linter.unusedVariables false
namespace Go.Proofs
open Go.Den Go.Tot
theorem Ztp : Zbh = some true:=by decide +kernel
theorem sleep29 : (Zbh.bind fun v=>some v) = some true:=by rw [Ztp]; rfl
abbrev Yes (o : Option Bool) : Prop:=Ok o fun r=>r = true
theorem Yes.eq {o : Option Bool} (h : Yes o) : o = some true:=by obtain ⟨r,e,h⟩:=h; rw [e,h]
theorem few29 {w : Z09} {f : Bool → Option Bool} (hf : Yes (f false)) (ht : Yes (f true)) : Yes ((Zds w).bind f):=by
  unfold Zds
  cases decide ((w.Z1b.length : Int) ≤ 40) <;> assumption
theorem guard29 {w : Z09} (hw : Z4t w) {s k : Option Bool} (hs : s = some true) (h : Z5h w → Yes k) :
    Yes ((Zds w).bind fun v0=>if (!v0) = true then s else (Zcn w).bind fun v1=>if (!v1) = true then s else k):=
  have z : Yes s:=ok' hs rfl
  few29 z (bd (Zzc w hw) fun b hb=>br! (fun _=>z) fun e=>h (hb e))
structure Two (w : Z09) (a b : Int) (s t : Bool) : Prop where
  s1 : Z9d w a b = some s
  s2 : Z8p w a b = some s
  t1 : Zco w a b = some t
  t2 : Zdn w a b = some t
theorem two29 (w : Z09) (hw : Z4t w) (hv : Z5h w) (a b : Int) : ∃ s t,Two w a b s t:=by
  obtain ⟨s,h1,h2,_⟩:=same_eq w hw a b
  obtain ⟨t,h3,h4,_⟩:=sub_eq w hv a b
  exact ⟨s,t,h1,h2,h3,h4⟩
theorem cls_eq {w : Z09} {a b : Int} {s t : Bool} (h : Two w a b s t) : ∃ p : Bool,Z9j w a b = some (decide (In w a) && decide (In w b) && (p || s)) ∧ Zjt w a b = some (decide (In w a) && decide (In w b) && (p || s)):=by
  unfold Z9j Zjt j11x1
  rw [Z8m,Z8m,Za3,Za3,h.s1,h.s2]
  by_cases hb : In w b
  · obtain ⟨c,ec,mc,_⟩:=hb.get
    refine ⟨Z1z .i64 c.Z0s.Z0h 1 != 0,?_⟩
    rw [ec]
    by_cases ha : In w a <;> by_cases hp : Z1z .i64 c.Z0s.Z0h 1 = 0 <;> simp [ha,hb,hp]
  · refine ⟨false,?_⟩
    by_cases ha : In w a <;> simp [ha,hb]
def memb (f a b : Int) (s t : Bool) : Bool:=
  if Z1z .i64 f 1 ≠ 0 then true else if Z1z .i64 f 2 ≠ 0 then a == b else s || (Z1z .i64 f 4 != 0 && t)
theorem Zrb {w : Z09} {a b : Int} {s t : Bool} (h : Two w a b s t) (f : Int) : Z8e w a b f = some (decide (In w a) && decide (In w b) && memb f a b s t) ∧ Zfj w a b f = some (decide (In w a) && decide (In w b) && memb f a b s t):=by
  unfold Z8e Zfj j13x1 j14x1 Zep memb
  rw [Z8m,Z8m,Za3,Za3,h.s1,h.s2,h.t1,h.t2]
  by_cases ha : In w a <;> by_cases hb : In w b <;> simp [ha,hb]
  by_cases h1 : Z1z .i64 f 1 = 0 <;> simp [h1]
  by_cases h2 : Z1z .i64 f 2 = 0 <;> simp [h2]
  by_cases h4 : Z1z .i64 f 4 = 0 <;> cases s <;> cases t <;> simp [h4]
def over (f : Int) (s : Bool) : Bool:=if Z1z .i64 f 10 ≠ 0 then false else Z1z .i64 f 5 != 0 || s
theorem Zux {w : Z09} {a b : Int} {s t : Bool} (h : Two w a b s t) (f : Int) : Z9i w a b f = some (decide (In w a) && decide (In w b) && over f s) ∧ Zim w a b f = some (decide (In w a) && decide (In w b) && over f s):=by
  unfold Z9i Zim j15x1 j16x1 over
  rw [Z8m,Z8m,Za3,Za3,h.s1,h.s2]
  by_cases ha : In w a <;> by_cases hb : In w b <;> simp [ha,hb]
  by_cases h1 : Z1z .i64 f 10 = 0 <;> simp [h1]
  by_cases h2 : Z1z .i64 f 5 = 0 <;> simp [h2]
theorem Zz0 (w : Z09) (hw : Z4t w) (a b f : Int) : Zsw w a b f = some true:=by
  refine (guard29 hw sleep29 fun hv=>?_ : Yes _).eq
  obtain ⟨s,t,h⟩:=two29 w hw hv a b
  unfold j3x1
  obtain ⟨p,e1,e2⟩:=cls_eq h
  rw [Ztp,e1,e2,(Zrb h f).1,(Zrb h f).2,(Zux h f).1,(Zux h f).2]
  exact ok' (by simp) rfl
end Go.Proofs
