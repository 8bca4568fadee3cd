/-
  The laws of constraints. No condition.
-/
import Derived.Test.YtoijcliccgjolaaGreatConS
set_option linter.unusedVariables false
namespace Go.Proofs
open Go.Den Go.Tot
theorem works26 : Zbm = some true:=by decide +kernel
abbrev Yes (o : Option Bool) : Prop:=Ok o fun r=>r = true
theorem Yes.eq {o : Option Bool} (h : Yes o) : o = some true:=by obtain ⟨r,e,h⟩:=h; rw [e,h]
theorem Zc8 : Yes (Zbm.bind fun v=>some v):=ok' (by rw [works26]; rfl) rfl
theorem small26 (w : Z07) : Ok (Zi8 w) (fun b=>b = true → w.Z0g.length ≤ 30):=by
 unfold Zi8
 exact brD (fun _=>brD (fun _=>brD (fun _=>ok fun h=>by have:=of_decide_eq_true h; omega) fun _=>ok (by simp)) fun _=>ok (by simp)) fun _=>ok (by simp)
theorem bool_eq {a b : Bool} {P : Prop} (h : a = true ↔ P) (g : b = true ↔ P) : a = b:=by
 cases a <;> cases b <;> simp_all
theorem brF {α : Type} {b : Bool} {x y : Option α} {P : α → Prop} (hb : b = false) (h : Ok y P) : Ok (if b = true then x else y) P:=by rw [if_neg (by simp [hb])]; exact h
theorem Y3s (w : Z07) (hw : Z31 w) (s : List UInt8) (x : Z1e) (E : ∀ w,Z31 w → Zb2 w w = some true) : Zqa w s x = some true:=by
 refine Yes.eq ?_
 unfold Zqa
 refine bd (small26 w) fun b hb=>br! (fun _=>Zc8) fun e=>brD (fun _=>Zc8) fun hs200=>bd (Zsk w hw) fun v hv=>br! (fun _=>Zc8) fun e'=>?_
 have hc:=hb e; have hi:=hw.iniL
 have S : Sp w:=⟨hw,hv.1 e',by omega⟩
 have hs : Str s:=by unfold Str; omega
 unfold j5x1
 refine bd (add_ok w S s hs x.a0 x.a1) fun r hr=>brN (fun hne=>?_) fun h0=>?_
 ·rw [hr.err hne,E w hw]
  exact bs Zc8
 obtain ⟨sw,sv,sc,e1,e2,e3⟩:=hr.sp S hs
 obtain ⟨same,ia,ib,nm⟩:=hr.same h0
 have il : ∀ a,InL r.1 a ↔ InL w a:=fun a=>by unfold InL; rw [e1]
 have key : ∀ i j,Z11 r.1.Z0g s i j ↔ Z11 w.Z0g s i j ∨ (Z11 w.Z0g s i x.a0 ∧ Z11 w.Z0g s x.a1 j) ∨ (Z11 w.Z0g s i x.a1 ∧ Z11 w.Z0g s x.a0 j):=fun i j=>(same s i j).trans Zh9
 have ry : r.1.Z0g.length ≤ 1000:=by omega
 refine bd (Zsk r.1 sw) fun v hv=>br! (fun e=>absurd (hv.2 sv) (by simp [e])) fun _=>bd (cons_ok r.1 ry (by rw [e2]; exact hi)) fun c hc'=>br! (fun e=>absurd (hc'.2 (sv.cons sw)) (by simp [e])) fun _=>?_
 refine bd (Zd8 r.1 s x.a0 x.a1 ry) fun c1 h1=>br! (fun e=>absurd (h1.2 ⟨(il _).2 ia,(il _).2 ib,(key _ _).2 (.inr (.inl ⟨.refl,.refl⟩))⟩) (by simp [e])) fun _=>bd (Zd8 r.1 s x.a1 x.a0 ry) fun c2 h2=>br! (fun e=>absurd (h2.2 ⟨(il _).2 ib,(il _).2 ia,(key _ _).2 (.inr (.inr ⟨.refl,.refl⟩))⟩) (by simp [e])) fun _=>?_
 unfold j5x2
 have hj : ∀ i j k : Int,InL w i → InL w j → k = j → j < 9 → ∀ p : Bool,(p = true ↔ (Z11 w.Z0g s i x.a0 ∧ Z11 w.Z0g s x.a1 j) ∨ (Z11 w.Z0g s i x.a1 ∧ Z11 w.Z0g s x.a0 j)) → Ok (Z83 i j r w s p) (fun q=>q = .next (j + 1)):=fun i j k hi hj hk hl p hp=>by
  unfold Z83
  have hj0:=hj.1
  have nx' : Ok ((some (IntKind.wrap .i64 (j + 1))).bind fun v=>some (Ctl.next v : Ctl Int (Unit ⊕ Bool))) (fun q=>q = .next (j + 1)):=bd (wr (by omega) (by omega)) fun k hk=>ok (by rw [hk])
  refine bd (Zd8 r.1 s i j ry) fun c1 h1=>bd (Zd8 w s i j (by omega)) fun c2 h2=>?_
  have h1' : c1 = true ↔ Z11 r.1.Z0g s i j:=h1.trans ⟨fun h=>h.2.2,fun h=>⟨(il _).2 hi,(il _).2 hj,h⟩⟩
  have h2' : c2 = true ↔ Z11 w.Z0g s i j:=h2.trans ⟨fun h=>h.2.2,fun h=>⟨hi,hj,h⟩⟩
  rw [key] at h1'
  refine br (fun e=>brF ?_ nx') fun e=>brF ?_ nx'
  ·rw [h1'.2 (.inl (h2'.1 e))]; rfl
  ·have : c1 = p:=by
    refine bool_eq h1' (hp.trans ⟨.inr,fun h=>h.elim (fun h=>?_) id⟩)
    rw [h2'.2 h] at e; cases e
   rw [this]; simp
 have hlod:=S.sv.lod hw
 have h2 : ∀ i : Int,InL w i → Ok (Z09 (l5x2 i r w s x) Z0a 0) (fun q=>q = .inl ()):=fun i hi=>by
  refine li w.Z12.length (fun t h0 h1=>?_) (by omega) (by omega) (by omega)
  unfold l5x2
  refine brD (fun hlt=>?_) fun _=>di rfl
  have ht : InL w t:=⟨h0,hlt⟩
  have st : ∀ {o : Option (Ctl Int (Unit ⊕ Bool))},Ok o (fun q=>q = .next (t + 1)) → Ok o (Si (w.Z12.length : Int) (fun q=>q = .inl ()) t):=fun h=>h.mono fun q hq=>by subst hq; exact ⟨by omega,by omega⟩
  have cw : ∀ i j,InL w i → InL w j → Ok (Z4o w s i j) (fun c=>c = true ↔ Z11 w.Z0g s i j):=fun i j hi hj=>(Zd8 w s i j (by omega)).mono fun c h=>h.trans ⟨fun h=>h.2.2,fun h=>⟨hi,hj,h⟩⟩
  refine bd (cw i x.a0 hi ia) fun c h=>br (fun e=>bd (cw x.a1 t ib ht) fun c' h'=>br (fun e'=>st (hj i t t hi ht rfl (by omega) _ ⟨fun _=> .inl ⟨h.1 e,h'.1 e'⟩,fun _=>rfl⟩)) fun e'=>bd (cw i x.a1 hi ib) fun d g=>br (fun f=>bd (cw x.a0 t ia ht) fun d' g'=>st (hj i t t hi ht rfl (by omega) _ ?_)) fun f=>st (hj i t t hi ht rfl (by omega) _ ?_)) fun e=>bd (cw i x.a1 hi ib) fun d g=>br (fun f=>bd (cw x.a0 t ia ht) fun d' g'=>st (hj i t t hi ht rfl (by omega) _ ?_)) fun f=>st (hj i t t hi ht rfl (by omega) _ ?_)
  ·exact ⟨fun k=> .inr ⟨g.1 f,g'.1 k⟩,fun k=>k.elim (fun k=>(by rw [h'.2 k.2] at e'; cases e')) fun k=>g'.2 k.2⟩
  ·exact ⟨fun k=>(by cases k),fun k=>k.elim (fun k=>(by rw [h'.2 k.2] at e'; cases e')) fun k=>by rw [g.2 k.1] at f; cases f⟩
  ·exact ⟨fun k=> .inr ⟨g.1 f,g'.1 k⟩,fun k=>k.elim (fun k=>by rw [h.2 k.1] at e; cases e) fun k=>g'.2 k.2⟩
  ·exact ⟨fun k=>(by cases k),fun k=>k.elim (fun k=>by rw [h.2 k.1] at e; cases e) fun k=>by rw [g.2 k.1] at f; cases f⟩
 refine bd (P:=fun q=>q = .inl ()) (li w.Z12.length (fun t h0 h1=>?_) (by omega) (by omega) (by omega)) fun q hq=>?_
 ·unfold l5x1
  refine brD (fun hlt=>bd (h2 t ⟨h0,hlt⟩) fun q hq=>?_) fun _=>di rfl
  subst hq
  exact bd (wr (by omega) (by omega)) fun k hk=>ni (by omega) (by omega)
 ·subst hq
  rw [e1,e2,e3]
  dsimp only
  rw [E w hw]
  exact bs Zc8
end Go.Proofs
