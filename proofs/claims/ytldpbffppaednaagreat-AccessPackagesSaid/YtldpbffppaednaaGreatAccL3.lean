/-
  The laws of access. No condition.
-/
import Derived.Test.YtldpbffppaednaaGreatAccL2
set_option linter.unusedVariables false
namespace Go.Proofs
open Go.Den Go.Tot
theorem Zsp : Ze9 = some true:=by decide +kernel
theorem Zjy : (Ze9.bind fun v=>some v) = some true:=by rw [Zsp]; rfl
abbrev Yes (o : Option Bool) : Prop:=Ok o fun r=>r = true
theorem Yes.eq {o : Option Bool} (h : Yes o) : o = some true:=by obtain ⟨r,e,h⟩:=h; rw [e,h]
theorem few29 {w : Z0c} {f : Bool → Option Bool} (hf : Yes (f false)) (ht : Yes (f true)) : Yes ((Ze3 w).bind f):=by
  unfold Ze3
  cases decide ((w.Z1i.length : Int) ≤ 40) <;> assumption
theorem guard29 {w : Z0c} (hw : Z4f w) {s k : Option Bool} (hs : s = some true) (h : Z5k w → Yes k) :
    Yes ((Ze3 w).bind fun v0=>if (!v0) = true then s else (Zcz w).bind fun v1=>if (!v1) = true then s else k):=
  have z : Yes s:=ok' hs rfl
  few29 z (bd (Zzy w hw) fun b hb=>br! (fun _=>z) fun e=>h (hb e))
theorem Zyi (w : Z0c) (hw : Z4f w) {a b : Int} (h : Z6f w a b = some true) : Z6f w b a = some true:=by
  unfold Z6f Zfx at *
  rw [Z9v,Z9v] at *
  by_cases ha : In w a <;> by_cases hb : In w b <;> simp only [ha,hb,decide_true,decide_false,Option.bind,Bool.not_true,Bool.not_false,Bool.false_eq_true,if_true,if_false] at h ⊢ <;> try cases h
  obtain ⟨c,ec,mc,_⟩:=ha.get
  obtain ⟨d,ed,md,_⟩:=hb.get
  rw [ec,ed] at h
  rw [ed,ec]
  obtain ⟨p,e1,_⟩:=Zgm _ (hw.cls c mc).1.n
  obtain ⟨q,e2,_⟩:=Zgm _ (hw.cls d md).1.n
  simp only [e1,e2] at h ⊢
  by_cases hl : c.Z0u = d.Z0u
  · simp [hl] at h ⊢
    exact h.symm
  · simp [hl] at h
structure Two (w : Z0c) (a b : Int) (s t : Bool) : Prop where
  s1 : Z6f w a b = some s
  s2 : Z7z w a b = some s
  t1 : Zch w a b = some t
  t2 : Zen w a b = some t
theorem two29 (w : Z0c) (hw : Z4f w) (hv : Z5k w) (a b : Int) : ∃ s t,Two w a b s t:=by
  obtain ⟨s,h1,h2,_⟩:=Zvj w hw a b
  obtain ⟨t,h3,h4,_⟩:=sub_eq w hv a b
  exact ⟨s,t,h1,h2,h3,h4⟩
theorem Zsa {w : Z0c} {a b : Int} {s t : Bool} (h : Two w a b s t) : ∃ p : Bool,Z8h w a b = some (decide (In w a) && decide (In w b) && (p || s)) ∧ Zr0 w a b = some (decide (In w a) && decide (In w b) && (p || s)):=by
  unfold Z8h Zr0 j11x1
  rw [Z7x,Z7x,Zb3,Zb3,h.s1,h.s2]
  by_cases hb : In w b
  · obtain ⟨c,ec,mc,_⟩:=hb.get
    refine ⟨Z1r .i64 c.Z0s.Z0h 1 != 0,?_⟩
    rw [ec]
    by_cases ha : In w a <;> by_cases hp : Z1r .i64 c.Z0s.Z0h 1 = 0 <;> simp [ha,hb,hp]
  · refine ⟨false,?_⟩
    by_cases ha : In w a <;> simp [ha,hb]
def memb (f a b : Int) (s t : Bool) : Bool:=
  if Z1r .i64 f 1 ≠ 0 then true else if Z1r .i64 f 2 ≠ 0 then a == b else s || (Z1r .i64 f 4 != 0 && t)
theorem Zv7 {w : Z0c} {a b : Int} {s t : Bool} (h : Two w a b s t) (f : Int) : Z7k w a b f = some (decide (In w a) && decide (In w b) && memb f a b s t) ∧ Zu8 w a b f = some (decide (In w a) && decide (In w b) && memb f a b s t):=by
  unfold Z7k Zu8 j13x1 j14x1 j14x2 memb
  rw [Z7x,Z7x,Zb3,Zb3,h.s1,h.s2,h.t1,h.t2]
  by_cases ha : In w a <;> by_cases hb : In w b <;> simp [ha,hb]
  by_cases h1 : Z1r .i64 f 1 = 0 <;> simp [h1]
  by_cases h2 : Z1r .i64 f 2 = 0 <;> simp [h2]
  by_cases h4 : Z1r .i64 f 4 = 0 <;> cases s <;> cases t <;> simp [h4]
def over (f : Int) (s : Bool) : Bool:=if Z1r .i64 f 10 ≠ 0 then false else Z1r .i64 f 5 != 0 || s
theorem ovr_eq {w : Z0c} {a b : Int} {s t : Bool} (h : Two w a b s t) (f : Int) : Z9n w a b f = some (decide (In w a) && decide (In w b) && over f s) ∧ Zq4 w a b f = some (decide (In w a) && decide (In w b) && over f s):=by
  unfold Z9n Zq4 j15x1 j16x1 over
  rw [Z7x,Z7x,Zb3,Zb3,h.s1,h.s2]
  by_cases ha : In w a <;> by_cases hb : In w b <;> simp [ha,hb]
  by_cases h1 : Z1r .i64 f 10 = 0 <;> simp [h1]
  by_cases h2 : Z1r .i64 f 5 = 0 <;> simp [h2]
theorem Zyo {n : Nat} (h : n < 18446744073709551616) (h0 : IntKind.wrap .i64 (n : Int) = 0) : n = 0:=by
  unfold IntKind.wrap at h0
  simp [IntKind.bits,IntKind.signed,Int.bmod] at h0
  omega
theorem Zq3 {x y : Int} : Z1r .i64 x y = 0 ↔ BitVec.ofInt 64 x &&& BitVec.ofInt 64 y = 0#64:=by
  unfold Z1r
  constructor
  · intro h
    have:=Zyo (BitVec.isLt _) h
    exact BitVec.eq_of_toNat_eq this
  · intro h
    rw [show IntKind.bits .i64 = 64 from rfl,h]
    decide
theorem and_10 {f : Int} (h : Z1r .i64 f 2 = 0) : Z1r .i64 f 10 = 0 ↔ Z1r .i64 f 8 = 0:=by
  rw [Zq3] at *
  rw [Zq3,show BitVec.ofInt 64 10 = BitVec.ofInt 64 8 ||| BitVec.ofInt 64 2 by decide,BitVec.and_or_distrib_left,h,BitVec.or_zero]
theorem Zx8 (w : Z0c) (hw : Z4f w) (a b f : Int) : Zqh w a b f = some true:=by
  refine (guard29 hw Zjy fun hv=>?_ : Yes _).eq
  obtain ⟨s,t,h⟩:=two29 w hw hv a b
  obtain ⟨s',t',h'⟩:=two29 w hw hv b a
  rw [h.s2]
  refine bs (br! (fun _=>ok' Zjy rfl) fun e=>bs (brN (fun _=>ok' Zjy rfl) fun h2=>?_))
  subst e
  have hs : s' = true:=Option.some.inj (h'.s1.symm.trans (Zyi w hw h.s1))
  subst hs
  have hin : In w a ∧ In w b:=by
    refine Decidable.byContradiction fun hn=>?_
    obtain ⟨r,e1,_,e3⟩:=Zvj w hw a b
    rw [h.s1] at e1; cases e1
    exact absurd (e3 hn) (by simp)
  unfold j6x1
  obtain ⟨p,e1,_⟩:=Zsa h
  obtain ⟨p',e1',_⟩:=Zsa h'
  rw [Zsp,e1,e1',(Zv7 h f).1,(Zv7 h' f).1,(ovr_eq h f).1]
  have hm : ∀ x y t,memb f x y true t = true:=fun x y t=>by
    unfold memb
    split
    · rfl
    · rw [if_neg (by simpa using h2)]; simp
  have ho : over f true = (Z1r .i64 f 8 == 0):=by
    unfold over
    have:=and_10 h2
    by_cases h8 : Z1r .i64 f 8 = 0
    · rw [if_neg (by simpa using this.2 h8)]; simp [h8]
    · rw [if_pos (fun e=>h8 (this.1 e))]; simp [h8]
  exact ok' (by simp [hin.1,hin.2,hm,ho]) rfl
end Go.Proofs
