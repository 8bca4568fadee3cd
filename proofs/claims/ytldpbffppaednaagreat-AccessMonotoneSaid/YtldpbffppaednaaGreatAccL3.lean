/-
  The laws of access. No condition.
-/
import Derived.Test.YtldpbffppaednaaGreatAccL2
set_option linter.unusedVariables false
namespace Go.Proofs
open Go.Den Go.Tot
theorem Zr5 : Zba = some true:=by decide +kernel
theorem sleep29 : (Zba.bind fun v=>some v) = some true:=by rw [Zr5]; rfl
abbrev Yes (o : Option Bool) : Prop:=Ok o fun r=>r = true
theorem Yes.eq {o : Option Bool} (h : Yes o) : o = some true:=by obtain ⟨r,e,h⟩:=h; rw [e,h]
theorem few29 {w : Z0d} {f : Bool → Option Bool} (hf : Yes (f false)) (ht : Yes (f true)) : Yes ((Zdj w).bind f):=by
  unfold Zdj
  cases decide ((w.Z1k.length : Int) ≤ 40) <;> assumption
theorem guard29 {w : Z0d} (hw : Z4h w) {s k : Option Bool} (hs : s = some true) (h : Z5c w → Yes k) :
    Yes ((Zdj w).bind fun v0=>if (!v0) = true then s else (Zbq w).bind fun v1=>if (!v1) = true then s else k):=
  have z : Yes s:=ok' hs rfl
  few29 z (bd (Zw2 w hw) fun b hb=>br! (fun _=>z) fun e=>h (hb e))
theorem Zy9 (w : Z0d) (hw : Z4h w) {a : Int} (ha : In w a) : Z76 w a a = some true:=by
  unfold Z76 Zh6
  obtain ⟨c,ec,mc,_⟩:=ha.get
  obtain ⟨p,e1,_⟩:=Zkq _ (hw.cls c mc).1.n
  rw [Zdm,ec]
  simp [ha,e1]
structure Two (w : Z0d) (a b : Int) (s t : Bool) : Prop where
  s1 : Z76 w a b = some s
  s2 : Zdp w a b = some s
  t1 : Zc6 w a b = some t
  t2 : Zgq w a b = some t
theorem two29 (w : Z0d) (hw : Z4h w) (hv : Z5c w) (a b : Int) : ∃ s t,Two w a b s t:=by
  obtain ⟨s,h1,h2,_⟩:=same_eq w hw a b
  obtain ⟨t,h3,h4,_⟩:=sub_eq w hv a b
  exact ⟨s,t,h1,h2,h3,h4⟩
def Z6e (f a b : Int) (s t : Bool) : Bool:=
  if Z1y .i64 f 1 ≠ 0 then true else if Z1y .i64 f 2 ≠ 0 then a == b else s || (Z1y .i64 f 4 != 0 && t)
theorem Zfe {w : Z0d} {a b : Int} {s t : Bool} (h : Two w a b s t) (f : Int) : Z69 w a b f = some (decide (In w a) && decide (In w b) && Z6e f a b s t) ∧ Zt5 w a b f = some (decide (In w a) && decide (In w b) && Z6e f a b s t):=by
  unfold Z69 Zt5 j13x1 j14x1 j14x2 Z6e
  rw [Z9t,Z9t,Zf1,Zf1,h.s1,h.s2,h.t1,h.t2]
  by_cases ha : In w a <;> by_cases hb : In w b <;> simp [ha,hb]
  by_cases h1 : Z1y .i64 f 1 = 0 <;> simp [h1]
  by_cases h2 : Z1y .i64 f 2 = 0 <;> simp [h2]
  by_cases h4 : Z1y .i64 f 4 = 0 <;> cases s <;> cases t <;> simp [h4]
def over (f : Int) (s : Bool) : Bool:=if Z1y .i64 f 10 ≠ 0 then false else Z1y .i64 f 5 != 0 || s
theorem Znp {w : Z0d} {a b : Int} {s t : Bool} (h : Two w a b s t) (f : Int) : Z5w w a b f = some (decide (In w a) && decide (In w b) && over f s) ∧ Zri w a b f = some (decide (In w a) && decide (In w b) && over f s):=by
  unfold Z5w Zri j15x1 j16x1 over
  rw [Z9t,Z9t,Zf1,Zf1,h.s1,h.s2]
  by_cases ha : In w a <;> by_cases hb : In w b <;> simp [ha,hb]
  by_cases h1 : Z1y .i64 f 10 = 0 <;> simp [h1]
  by_cases h2 : Z1y .i64 f 5 = 0 <;> simp [h2]
theorem Y0i (b2 b3 b4 b5 : Bool) (h1 : b2 = true → b3 = true) (h2 : b3 = true → b4 = true) (h3 : b4 = true → b5 = true) : Z0c (l5x1 b2 b3 b4 b5) Z0h 1 = some (.inl ()):=by
  cases b2 <;> cases b3 <;> cases b4 <;> cases b5 <;> first | exact absurd (h1 rfl) (by decide) | exact absurd (h2 rfl) (by decide) | exact absurd (h3 rfl) (by decide) | exact (by decide +kernel)
theorem Zyb (w : Z0d) (hw : Z4h w) (a b : Int) : Zp4 w a b = some true:=by
  refine (guard29 hw sleep29 fun hv=>?_ : Yes _).eq
  obtain ⟨s,t,h⟩:=two29 w hw hv a b
  unfold j5x1
  rw [(Zfe h 2).1,(Zfe h 0).1,(Zfe h 4).1,(Zfe h 1).1,(Znp h 0).1,(Znp h 4).1,(Znp h 1).1]
  have m2 : Z6e 2 a b s t = (a == b):=by unfold Z6e; rw [if_neg (by decide),if_pos (by decide)]
  have m0 : Z6e 0 a b s t = s:=by unfold Z6e; rw [if_neg (by decide),if_neg (by decide)]; simp [show Z1y .i64 0 4 = 0 by decide]
  have m4 : Z6e 4 a b s t = (s || t):=by unfold Z6e; rw [if_neg (by decide),if_neg (by decide)]; simp [show Z1y .i64 4 4 = 4 by decide]
  have m1 : Z6e 1 a b s t = true:=by unfold Z6e; rw [if_pos (by decide)]
  have o0 : over 0 s = s:=by unfold over; rw [if_neg (by decide)]; simp [show Z1y .i64 0 5 = 0 by decide]
  have o4 : over 4 s = true:=by unfold over; rw [if_neg (by decide)]; simp [show Z1y .i64 4 5 = 4 by decide]
  have o1 : over 1 s = true:=by unfold over; rw [if_neg (by decide)]; simp [show Z1y .i64 1 5 = 1 by decide]
  rw [m2,m0,m4,m1,o0,o4,o1]
  dsimp only [Option.bind]
  rw [Y0i _ _ _ _ (fun g=>?_) (fun g=>?_) (fun g=>?_)]
  · rw [Zr5]
    refine ok' ?_ rfl
    by_cases ha : In w a <;> by_cases hb : In w b <;> cases s <;> simp [ha,hb]
  · simp only [Bool.and_eq_true,decide_eq_true_eq,beq_iff_eq] at g
    obtain ⟨⟨g1,g2⟩,g3⟩:=g
    subst g3
    have hs : s = true:=Option.some.inj (h.s1.symm.trans (Zy9 w hw g1))
    simp [g1,hs]
  · simp only [Bool.and_eq_true,Bool.or_eq_true] at g ⊢
    exact ⟨g.1,.inl g.2⟩
  · simp only [Bool.and_eq_true] at g ⊢
    exact ⟨g.1,trivial⟩
end Go.Proofs
