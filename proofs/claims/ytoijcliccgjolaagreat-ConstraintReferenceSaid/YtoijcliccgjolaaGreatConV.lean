/-
  What classspace's Valid (the reference) says, both ways. No condition.
-/
import Derived.Test.YtoijcliccgjolaaGreatConG
set_option linter.unusedVariables false
namespace Go.Proofs
open Go.Den Go.Tot
structure Val (w : Z0b) : Prop where
 chk : Zc2 w.Z15 = some 0
 few : w.Z2g.length ≤ 200
 inL : w.Z1c.length ≤ 1600
 con : ∀ b ∈ w.Z0s,Z58 w b ∧ Z7b b.Z05 = some true
 ini : ∀ t : Int,0 ≤ t → t < w.Z1c.length → Z91 w t = some true ∧ Zb7 w t = some true
 cls : ∀ t : Int,0 ≤ t → t < w.Z2g.length → Zat w t = some true
theorem Zpv {w : Z0b} (hw : Z4r w) {t : Int} (h0 : 0 ≤ t) (h1 : t < w.Z1c.length) (h : Z91 w t = some true) : ∀ v,w.Z1c[t.toNat]? = some v → Z6f w v:=by
 obtain ⟨b,e,g⟩:=Zq2 w t hw h0 h1
 rw [h] at e; cases e
 exact g rfl
theorem Y0i (w : Z0b) (hw : Z4r w) : Ok (Zgm w) (fun b=>b = true ↔ Val w):=by
 have hcl:=hw.clsL; have hil:=hw.iniL; have hcon:=hw.conL
 unfold Zgm
 refine bdE (Zud _ hw.lod hw.lodL) fun v0 he h0=>brN (fun h=>ok ⟨fun h'=>(by cases h'),fun V=>(by rw [V.chk] at he; cases he; exact absurd rfl h)⟩) fun h=>brD (fun hc=>ok ⟨fun h'=>(by cases h'),fun V=>(by have:=V.few; omega)⟩) fun hc2=>brD (fun hc=>ok ⟨fun h'=>(by cases h'),fun V=>(by have:=V.inL; omega)⟩) fun hi2=>?_
 subst h
 have hl8:=h0 rfl
 unfold j9x1
 refine bd (allP (l:=w.Z0s) (p:=fun b=>Z58 w b ∧ Z7b b.Z05 = some true) (y:= .inr false) (z:= .inl ()) (by omega) (fun t v g0 g1 hv hvm hvg=>?_) ?_) fun q hq=>?_
 ·unfold l9x1
  rw [hvg]
  have no : ∀ {P : Prop},(P → False) → Ok (some (Ctl.done (Sum.inr false) : Ctl Int (Unit ⊕ Bool))) (fun x=>(x = .next (t + 1) ∧ P) ∨ (x = .done (.inr false) ∧ ¬P)):=fun h=>ok (.inr ⟨rfl,h⟩)
  exact brD (fun _=>bs (brD (fun a=>no fun h=>(by have:=h.1.1; omega)) fun a0=>brD (fun a=>no fun h=>(by have:=h.1.2.1; omega)) fun a1=>brD (fun a=>no fun h=>(by have:=h.1.2.2.1; omega)) fun a2=>brD (fun a=>no fun h=>(by have:=h.1.2.2.2; omega)) fun a3=>bdE (Zju _ (hw.con v hvm)) fun b eb _=>br! (fun hb=>no fun h=>(by rw [h.2] at eb; cases eb; cases hb)) fun hb=>bd (wr (by omega) (by omega)) fun k hk=>ok (.inl ⟨by rw [hk],⟨by omega,by omega,by omega,by omega⟩,by rw [eb,hb]⟩))) fun h=>absurd g1 h
 ·unfold l9x1
  exact brD (fun h=>absurd h (by omega)) fun _=>ok rfl
 rcases hq with ⟨rfl,hcons⟩ | ⟨rfl,b,hb,hn⟩
 rotate_left
 ·exact ok ⟨fun h'=>(by cases h'),fun V=>absurd (V.con b hb) hn⟩
 have hcons' : ∀ b ∈ w.Z0s,Z58 w b:=fun b hb=>(hcons b hb).1
 refine bd (allL (n:=w.Z1c.length) (p:=fun t=>Z91 w t = some true ∧ Zb7 w t = some true) (y:= .inr false) (z:= .inl ()) (by omega) (by omega) (fun t g0 g1 hI=>?_) ?_) fun q hq=>?_
 ·unfold l9x2
  have no : ∀ {P : Prop},(P → False) → Ok (some (Ctl.done (Sum.inr false) : Ctl Int (Unit ⊕ Bool))) (fun x=>(x = .next (t + 1) ∧ P) ∨ (x = .done (.inr false) ∧ ¬P)):=fun h=>ok (.inr ⟨rfl,h⟩)
  refine brD (fun hlt=>bdE (Zq2 w t hw g0 hlt) fun b eb hb=>br! (fun h=>no fun h'=>(by rw [h'.1] at eb; cases eb; cases h)) fun h=>?_) fun h=>absurd g1 h
  have hall : ∀ (j : Nat) v,(j : Int) ≤ t → w.Z1c[j]? = some v → Z6f w v:=fun j v hj hv=>by
   rcases Int.lt_or_le (j : Int) t with h' | h'
   ·exact Zpv hw (by omega) (by omega) (hI j (by omega) h').1 v (by rwa [show ((j : Nat) : Int).toNat = j by omega])
   ·have : j = t.toNat:=by omega
    subst this
    exact hb h v hv
  exact bdE (Zx3 w t hw hl8 hcons' g0 hlt hall) fun b' eb' _=>br! (fun h'=>no fun g=>(by rw [g.2] at eb'; cases eb'; cases h')) fun h'=>bd (wr (by omega) (by omega)) fun k hk=>ok (.inl ⟨by rw [hk],by rw [eb,h],by rw [eb',h']⟩)
 ·unfold l9x2
  exact brD (fun h=>absurd h (by omega)) fun _=>ok rfl
 rcases hq with ⟨rfl,hini⟩ | ⟨rfl,t,g0,g1,hn⟩
 rotate_left
 ·exact ok ⟨fun h'=>(by cases h'),fun V=>absurd (V.ini t g0 g1) hn⟩
 refine bd (allL (n:=w.Z2g.length) (p:=fun t=>Zat w t = some true) (y:= .inr false) (z:= .inl ()) (by omega) (by omega) (fun t g0 g1 hI=>?_) ?_) fun q hq=>?_
 ·unfold l9x3
  have no : ∀ {P : Prop},(P → False) → Ok (some (Ctl.done (Sum.inr false) : Ctl Int (Unit ⊕ Bool))) (fun x=>(x = .next (t + 1) ∧ P) ∨ (x = .done (.inr false) ∧ ¬P)):=fun h=>ok (.inr ⟨rfl,h⟩)
  refine brD (fun hlt=>?_) fun h=>absurd g1 h
  obtain ⟨c,hg,hm,hi⟩:=gri (l:=w.Z2g) g0 hlt
  exact bdE (Zyc w hw t g0 hlt c hg hm) fun b eb _=>br! (fun h=>no fun h'=>(by rw [h'] at eb; cases eb; cases h)) fun h=>bd (wr (by omega) (by omega)) fun k hk=>ok (.inl ⟨by rw [hk],by rw [eb,h]⟩)
 ·unfold l9x3
  exact brD (fun h=>absurd h (by omega)) fun _=>ok rfl
 rcases hq with ⟨rfl,hcls⟩ | ⟨rfl,t,g0,g1,hn⟩
 ·exact ok ⟨fun _=>⟨he,by omega,by omega,hcons,hini,hcls⟩,fun _=>rfl⟩
 ·exact ok ⟨fun h'=>(by cases h'),fun V=>absurd (V.cls t g0 g1) hn⟩
theorem Val.lod {w : Z0b} (hw : Z4r w) (V : Val w) : w.Z15.length ≤ 8:=by
 obtain ⟨v,e,h⟩:=Zud _ hw.lod hw.lodL
 rw [V.chk] at e; cases e
 exact h rfl
theorem Val.con' {w : Z0b} (V : Val w) : ∀ b ∈ w.Z0s,Z58 w b:=fun b hb=>(V.con b hb).1
theorem Val.seen {w : Z0b} (hw : Z4r w) (V : Val w) : ∀ v ∈ w.Z1c,Z6f w v:=fun v hv=>by
 obtain ⟨j,hj⟩:=List.mem_iff_getElem?.1 hv
 have hlt:=(List.getElem?_eq_some_iff.1 hj).1
 exact Zpv hw (by omega) (by omega) (V.ini j (by omega) (by omega)).1 v (by rwa [show ((j : Nat) : Int).toNat = j by omega])
end Go.Proofs
