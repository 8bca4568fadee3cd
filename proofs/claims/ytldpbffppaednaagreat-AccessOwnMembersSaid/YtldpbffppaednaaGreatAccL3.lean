/-
  The laws of access. No condition.
-/
import Derived.Test.YtldpbffppaednaaGreatAccL2
set_option linter.unusedVariables false
namespace Go.Proofs
open Go.Den Go.Tot
theorem Zov : Zdh = some true:=by decide +kernel
theorem sleep29 : (Zdh.bind fun v=>some v) = some true:=by rw [Zov]; rfl
abbrev Yes (o : Option Bool) : Prop:=Ok o fun r=>r = true
theorem Yes.eq {o : Option Bool} (h : Yes o) : o = some true:=by obtain ⟨r,e,h⟩:=h; rw [e,h]
theorem few29 {w : Z0c} {f : Bool → Option Bool} (hf : Yes (f false)) (ht : Yes (f true)) : Yes ((Zdp w).bind f):=by
  unfold Zdp
  cases decide ((w.Z19.length : Int) ≤ 40) <;> assumption
theorem guard29 {w : Z0c} (hw : Z4k w) {s k : Option Bool} (hs : s = some true) (h : Z5d w → Yes k) :
    Yes ((Zdp w).bind fun v0=>if (!v0) = true then s else (Zbb w).bind fun v1=>if (!v1) = true then s else k):=
  have z : Yes s:=ok' hs rfl
  few29 z (bd (Zyr w hw) fun b hb=>br! (fun _=>z) fun e=>h (hb e))
theorem Zxy (w : Z0c) (hw : Z4k w) {a : Int} (ha : In w a) : Z7a w a a = some true:=by
  unfold Z7a Zfv
  obtain ⟨c,ec,mc,_⟩:=ha.get
  obtain ⟨p,e1,_⟩:=Zo6 _ (hw.cls c mc).1.n
  rw [Zca,ec]
  simp [ha,e1]
structure Two (w : Z0c) (a b : Int) (s t : Bool) : Prop where
  s1 : Z7a w a b = some s
  s2 : Z9u w a b = some s
  t1 : Zdm w a b = some t
  t2 : Zez w a b = some t
theorem two29 (w : Z0c) (hw : Z4k w) (hv : Z5d w) (a b : Int) : ∃ s t,Two w a b s t:=by
  obtain ⟨s,h1,h2,_⟩:=same_eq w hw a b
  obtain ⟨t,h3,h4,_⟩:=sub_eq w hv a b
  exact ⟨s,t,h1,h2,h3,h4⟩
theorem Zr2 {w : Z0c} {a b : Int} {s t : Bool} (h : Two w a b s t) : ∃ p : Bool,Z6y w a b = some (decide (In w a) && decide (In w b) && (p || s)) ∧ Zsi w a b = some (decide (In w a) && decide (In w b) && (p || s)):=by
  unfold Z6y Zsi j11x1
  rw [Z81,Z81,Zb4,Zb4,h.s1,h.s2]
  by_cases hb : In w b
  · obtain ⟨c,ec,mc,_⟩:=hb.get
    refine ⟨Z1z .i64 c.Z0s.Z0g 1 != 0,?_⟩
    rw [ec]
    by_cases ha : In w a <;> by_cases hp : Z1z .i64 c.Z0s.Z0g 1 = 0 <;> simp [ha,hb,hp]
  · refine ⟨false,?_⟩
    by_cases ha : In w a <;> simp [ha,hb]
def memb (f a b : Int) (s t : Bool) : Bool:=
  if Z1z .i64 f 1 ≠ 0 then true else if Z1z .i64 f 2 ≠ 0 then a == b else s || (Z1z .i64 f 4 != 0 && t)
theorem Znf {w : Z0c} {a b : Int} {s t : Bool} (h : Two w a b s t) (f : Int) : Z61 w a b f = some (decide (In w a) && decide (In w b) && memb f a b s t) ∧ Zrp w a b f = some (decide (In w a) && decide (In w b) && memb f a b s t):=by
  unfold Z61 Zrp j13x1 j14x1 j14x2 memb
  rw [Z81,Z81,Zb4,Zb4,h.s1,h.s2,h.t1,h.t2]
  by_cases ha : In w a <;> by_cases hb : In w b <;> simp [ha,hb]
  by_cases h1 : Z1z .i64 f 1 = 0 <;> simp [h1]
  by_cases h2 : Z1z .i64 f 2 = 0 <;> simp [h2]
  by_cases h4 : Z1z .i64 f 4 = 0 <;> cases s <;> cases t <;> simp [h4]
def over (f : Int) (s : Bool) : Bool:=if Z1z .i64 f 10 ≠ 0 then false else Z1z .i64 f 5 != 0 || s
theorem ovr_eq {w : Z0c} {a b : Int} {s t : Bool} (h : Two w a b s t) (f : Int) : Z82 w a b f = some (decide (In w a) && decide (In w b) && over f s) ∧ Zqn w a b f = some (decide (In w a) && decide (In w b) && over f s):=by
  unfold Z82 Zqn j15x1 j16x1 over
  rw [Z81,Z81,Zb4,Zb4,h.s1,h.s2]
  by_cases ha : In w a <;> by_cases hb : In w b <;> simp [ha,hb]
  by_cases h1 : Z1z .i64 f 10 = 0 <;> simp [h1]
  by_cases h2 : Z1z .i64 f 5 = 0 <;> simp [h2]
theorem Y04 (w : Z0c) (hw : Z4k w) (a b f : Int) : Zvq w a b f = some true:=by
  refine (guard29 hw sleep29 fun hv=>?_ : Yes _).eq
  obtain ⟨s,t,h⟩:=two29 w hw hv a b
  obtain ⟨s',t',h'⟩:=two29 w hw hv a a
  have e : j4x1 w a b f = j4x2 w a b f (decide (In w a)) (decide (In w b)):=by
    unfold j4x1 In
    by_cases h1 : a ≥ 0 <;> by_cases h2 : b ≥ 0 <;> simp [h1,h2]
  rw [e]
  unfold j4x2 j4x3
  obtain ⟨p,e1,_⟩:=Zr2 h
  obtain ⟨p',e1',_⟩:=Zr2 h'
  rw [Zov,e1,e1',(Znf h' f).1,(Znf h 1).1,(Znf h f).1,(ovr_eq h f).1]
  have hm : memb 1 a b s t = true:=by unfold memb; rw [if_pos (by decide)]
  refine ok' ?_ rfl
  by_cases ha : In w a
  · have hs : s' = true:=Option.some.inj (h'.s1.symm.trans (Zxy w hw ha))
    subst hs
    have hm' : memb f a a true t' = true:=by
      unfold memb
      split
      · rfl
      · split <;> simp
    by_cases hb : In w b <;> simp [ha,hb,hm,hm']
  · by_cases hb : In w b <;> simp [ha,hb,hm]
end Go.Proofs
