/-
  What classspace's Valid (the reference) says, both ways. No condition.
-/
import Derived.Test.YtoijcliccgjolaaGreatConG
set_option linter.unusedVariables false
namespace Go.Proofs
open Go.Den Go.Tot
structure Val (w : Z04) : Prop where
 chk : Zcx w.Z0w = some 0
 few : w.Z1x.length ≤ 200
 inL : w.Z0l.length ≤ 1600
 con : ∀ b ∈ w.Z0g,Z4i w b ∧ Z4f b.Z02 = some true
 ini : ∀ t : Int,0 ≤ t → t < w.Z0l.length → Z9l w t = some true ∧ Z96 w t = some true
 cls : ∀ t : Int,0 ≤ t → t < w.Z1x.length → Zbi w t = some true
theorem Zr9 {w : Z04} (hw : Z30 w) {t : Int} (h0 : 0 ≤ t) (h1 : t < w.Z0l.length) (h : Z9l w t = some true) : ∀ v,w.Z0l[t.toNat]? = some v → Z5f w v:=by
 obtain ⟨b,e,g⟩:=Zwb w t hw h0 h1
 rw [h] at e; cases e
 exact g rfl
theorem Y0g (w : Z04) (hw : Z30 w) : Ok (Zgb w) (fun b=>b = true ↔ Val w):=by
 have hcl:=hw.clsL; have hil:=hw.iniL; have hcon:=hw.conL
 unfold Zgb
 refine bdE (Zr6 _ hw.lod hw.lodL) fun v0 he h0=>brN (fun h=>ok ⟨fun h'=>(by cases h'),fun V=>(by rw [V.chk] at he; cases he; exact absurd rfl h)⟩) fun h=>brD (fun hc=>ok ⟨fun h'=>(by cases h'),fun V=>(by have:=V.few; omega)⟩) fun hc2=>brD (fun hc=>ok ⟨fun h'=>(by cases h'),fun V=>(by have:=V.inL; omega)⟩) fun hi2=>?_
 subst h
 have hl8:=h0 rfl
 unfold j9x1
 refine bd (allP (l:=w.Z0g) (p:=fun b=>Z4i w b ∧ Z4f b.Z02 = some true) (y:= .inr false) (z:= .inl ()) (by omega) (fun t v g0 g1 hv hvm hvg=>?_) ?_) fun q hq=>?_
 ·unfold l9x1
  rw [hvg]
  have no : ∀ {P : Prop},(P → False) → Ok (some (Ctl.done (Sum.inr false) : Ctl Int (Unit ⊕ Bool))) (fun x=>(x = .next (t + 1) ∧ P) ∨ (x = .done (.inr false) ∧ ¬P)):=fun h=>ok (.inr ⟨rfl,h⟩)
  exact brD (fun _=>bs (brD (fun a=>no fun h=>(by have:=h.1.1; omega)) fun a0=>brD (fun a=>no fun h=>(by have:=h.1.2.1; omega)) fun a1=>brD (fun a=>no fun h=>(by have:=h.1.2.2.1; omega)) fun a2=>brD (fun a=>no fun h=>(by have:=h.1.2.2.2; omega)) fun a3=>bdE (Zjz _ (hw.con v hvm)) fun b eb _=>br! (fun hb=>no fun h=>(by rw [h.2] at eb; cases eb; cases hb)) fun hb=>bd (wr (by omega) (by omega)) fun k hk=>ok (.inl ⟨by rw [hk],⟨by omega,by omega,by omega,by omega⟩,by rw [eb,hb]⟩))) fun h=>absurd g1 h
 ·unfold l9x1
  exact brD (fun h=>absurd h (by omega)) fun _=>ok rfl
 rcases hq with ⟨rfl,hcons⟩ | ⟨rfl,b,hb,hn⟩
 rotate_left
 ·exact ok ⟨fun h'=>(by cases h'),fun V=>absurd (V.con b hb) hn⟩
 have hcons' : ∀ b ∈ w.Z0g,Z4i w b:=fun b hb=>(hcons b hb).1
 refine bd (allL (n:=w.Z0l.length) (p:=fun t=>Z9l w t = some true ∧ Z96 w t = some true) (y:= .inr false) (z:= .inl ()) (by omega) (by omega) (fun t g0 g1 hI=>?_) ?_) fun q hq=>?_
 ·unfold l9x2
  have no : ∀ {P : Prop},(P → False) → Ok (some (Ctl.done (Sum.inr false) : Ctl Int (Unit ⊕ Bool))) (fun x=>(x = .next (t + 1) ∧ P) ∨ (x = .done (.inr false) ∧ ¬P)):=fun h=>ok (.inr ⟨rfl,h⟩)
  refine brD (fun hlt=>bdE (Zwb w t hw g0 hlt) fun b eb hb=>br! (fun h=>no fun h'=>(by rw [h'.1] at eb; cases eb; cases h)) fun h=>?_) fun h=>absurd g1 h
  have hall : ∀ (j : Nat) v,(j : Int) ≤ t → w.Z0l[j]? = some v → Z5f w v:=fun j v hj hv=>by
   rcases Int.lt_or_le (j : Int) t with h' | h'
   ·exact Zr9 hw (by omega) (by omega) (hI j (by omega) h').1 v (by rwa [show ((j : Nat) : Int).toNat = j by omega])
   ·have : j = t.toNat:=by omega
    subst this
    exact hb h v hv
  exact bdE (Y1e w t hw hl8 hcons' g0 hlt hall) fun b' eb' _=>br! (fun h'=>no fun g=>(by rw [g.2] at eb'; cases eb'; cases h')) fun h'=>bd (wr (by omega) (by omega)) fun k hk=>ok (.inl ⟨by rw [hk],by rw [eb,h],by rw [eb',h']⟩)
 ·unfold l9x2
  exact brD (fun h=>absurd h (by omega)) fun _=>ok rfl
 rcases hq with ⟨rfl,hini⟩ | ⟨rfl,t,g0,g1,hn⟩
 rotate_left
 ·exact ok ⟨fun h'=>(by cases h'),fun V=>absurd (V.ini t g0 g1) hn⟩
 refine bd (allL (n:=w.Z1x.length) (p:=fun t=>Zbi w t = some true) (y:= .inr false) (z:= .inl ()) (by omega) (by omega) (fun t g0 g1 hI=>?_) ?_) fun q hq=>?_
 ·unfold l9x3
  have no : ∀ {P : Prop},(P → False) → Ok (some (Ctl.done (Sum.inr false) : Ctl Int (Unit ⊕ Bool))) (fun x=>(x = .next (t + 1) ∧ P) ∨ (x = .done (.inr false) ∧ ¬P)):=fun h=>ok (.inr ⟨rfl,h⟩)
  refine brD (fun hlt=>?_) fun h=>absurd g1 h
  obtain ⟨c,hg,hm,hi⟩:=gri (l:=w.Z1x) g0 hlt
  exact bdE (Y3l w hw t g0 hlt c hg hm) fun b eb _=>br! (fun h=>no fun h'=>(by rw [h'] at eb; cases eb; cases h)) fun h=>bd (wr (by omega) (by omega)) fun k hk=>ok (.inl ⟨by rw [hk],by rw [eb,h]⟩)
 ·unfold l9x3
  exact brD (fun h=>absurd h (by omega)) fun _=>ok rfl
 rcases hq with ⟨rfl,hcls⟩ | ⟨rfl,t,g0,g1,hn⟩
 ·exact ok ⟨fun _=>⟨he,by omega,by omega,hcons,hini,hcls⟩,fun _=>rfl⟩
 ·exact ok ⟨fun h'=>(by cases h'),fun V=>absurd (V.cls t g0 g1) hn⟩
theorem Val.lod {w : Z04} (hw : Z30 w) (V : Val w) : w.Z0w.length ≤ 8:=by
 obtain ⟨v,e,h⟩:=Zr6 _ hw.lod hw.lodL
 rw [V.chk] at e; cases e
 exact h rfl
theorem Val.con' {w : Z04} (V : Val w) : ∀ b ∈ w.Z0g,Z4i w b:=fun b hb=>(V.con b hb).1
theorem Val.seen {w : Z04} (hw : Z30 w) (V : Val w) : ∀ v ∈ w.Z0l,Z5f w v:=fun v hv=>by
 obtain ⟨j,hj⟩:=List.mem_iff_getElem?.1 hv
 have hlt:=(List.getElem?_eq_some_iff.1 hj).1
 exact Zr9 hw (by omega) (by omega) (V.ini j (by omega) (by omega)).1 v (by rwa [show ((j : Nat) : Int).toNat = j by omega])
def OneI (w : Z04) (i : Int) : Prop:=∀ u v,w.Z0l[i.toNat]? = some u → ∀ k : Nat,(k : Int) < i → w.Z0l[k]? = some v → v.Z02 = u.Z02 → Z1e w.Z0g u.Z02 u.Z1f v.Z1f → v.Z0o = u.Z0o
theorem Zxi (w : Z04) (hw : Z30 w) (hl : w.Z0w.length ≤ 8) (hc : ∀ b ∈ w.Z0g,Z4i w b) (hs : ∀ v ∈ w.Z0l,Z5f w v) (i : Int) (h0 : 0 ≤ i) (h1 : i < w.Z0l.length) :
  Ok (Z96 w i) (fun b=>b = true ↔ OneI w i):=by
 have hil:=hw.iniL
 unfold Z96
 refine bd (gri h0 h1) fun u hu=>?_
 obtain ⟨hum,hui⟩:=hu
 have hsu:=hs u hum
 refine bd (Zie w u.Z02 u.Z1f hw.conL hl hc hsu.1 hsu.2.1) fun g hg=>?_
 refine bd (allL (n:=i) (p:=fun t=>∀ v,w.Z0l[t.toNat]? = some v → v.Z02 = u.Z02 → Z1e w.Z0g u.Z02 u.Z1f v.Z1f → v.Z0o = u.Z0o) (y:= .inr false) (z:= .inl ()) h0 (by omega) (fun t g0 g1 _=>?_) ?_) fun q hq=>?_
 ·unfold Zb4
  refine brD (fun _=>bd (gri (l:=w.Z0l) (by omega) (by omega)) fun v hv=>?_) fun h=>absurd g1 h
  obtain ⟨hvm,hvi⟩:=hv
  have hsv:=hs v hvm
  have yes : (v.Z02 = u.Z02 → Z1e w.Z0g u.Z02 u.Z1f v.Z1f → v.Z0o = u.Z0o) → ∀ k,k = t + 1 → Ok (some (Ctl.next k : Ctl Int (Unit ⊕ Bool))) (fun x=>(x = .next (t + 1) ∧ ∀ v,w.Z0l[t.toNat]? = some v → v.Z02 = u.Z02 → Z1e w.Z0g u.Z02 u.Z1f v.Z1f → v.Z0o = u.Z0o) ∨ (x = .done (.inr false) ∧ ¬∀ v,w.Z0l[t.toNat]? = some v → v.Z02 = u.Z02 → Z1e w.Z0g u.Z02 u.Z1f v.Z1f → v.Z0o = u.Z0o)):=fun h k hk=>
   ok (.inl ⟨by rw [hk],fun v' hv'=>by rw [hvi] at hv'; cases hv'; exact h⟩)
  refine br (fun hn=>bd (gri (l:=g) hsv.1 (by rw [hg.1]; exact hsv.2.1)) fun b hb=>?_) fun hn=>bd (wr (by omega) (by omega)) fun k hk=>yes (fun h=>by rw [h] at hn; simp at hn) k hk
  have hn' : v.Z02 = u.Z02:=by simpa using hn
  have hbit : b = true ↔ Z1e w.Z0g u.Z02 u.Z1f v.Z1f:=by
   rw [← hg.2]; exact (Bit.of hb.2 (by have:=hsv.1; omega)).symm
  refine br (fun e=>brN (fun hne=>ok (.inr ⟨rfl,fun h=>hne (h v hvi hn' (hbit.1 e))⟩)) fun he=>bd (wr (by omega) (by omega)) fun k hk=>yes (fun _ _=>he) k hk) fun e=>bd (wr (by omega) (by omega)) fun k hk=>yes (fun _ h=>by rw [hbit.2 h] at e; cases e) k hk
 ·unfold Zb4
  exact brD (fun h=>absurd h (by omega)) fun _=>ok rfl
 rcases hq with ⟨rfl,hall⟩ | ⟨rfl,t,g0,g1,hn⟩
 ·refine ok ⟨fun _ u' v hu' k hk hv=>?_,fun _=>rfl⟩
  rw [hui] at hu'; cases hu'
  exact hall k (by omega) hk v (by rwa [show ((k : Nat) : Int).toNat = k by omega])
 ·exact ok ⟨fun h=>(by cases h),fun h=>absurd (fun v hv=>h u v hui t.toNat (by omega) hv) hn⟩
theorem Val.agree {w : Z04} (hw : Z30 w) (V : Val w) {u v : Z1o} (hu : u ∈ w.Z0l) (hv : v ∈ w.Z0l) (hn : u.Z02 = v.Z02) (hc : Z1e w.Z0g u.Z02 u.Z1f v.Z1f) : u.Z0o = v.Z0o:=by
 obtain ⟨i,hi⟩:=List.mem_iff_getElem?.1 hu
 obtain ⟨j,hj⟩:=List.mem_iff_getElem?.1 hv
 have li:=(List.getElem?_eq_some_iff.1 hi).1
 have lj:=(List.getElem?_eq_some_iff.1 hj).1
 have key : ∀ t : Nat,t < w.Z0l.length → OneI w t:=fun t ht=>by
  obtain ⟨b,e,h⟩:=Zxi w hw (V.lod hw) V.con' (V.seen hw) t (by omega) (by omega)
  rw [(V.ini t (by omega) (by omega)).2] at e; cases e
  exact h.1 rfl
 rcases Nat.lt_trichotomy i j with h | h | h
 ·exact key j lj v u (by rwa [show ((j : Nat) : Int).toNat = j by omega]) i (by omega) hi hn (hn ▸ hc.symm)
 ·subst h; rw [hi] at hj; cases hj; rfl
 ·exact (key i li u v (by rwa [show ((i : Nat) : Int).toNat = i by omega]) j (by omega) hj hn.symm hc).symm
end Go.Proofs
