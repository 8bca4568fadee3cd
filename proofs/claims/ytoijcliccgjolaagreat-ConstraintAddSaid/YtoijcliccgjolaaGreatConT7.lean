/-
  That the models come to an answer, part seven: code that is checked and written. No condition.
-/
import Derived.Test.YtoijcliccgjolaaGreatConT5
import Derived.Test.YtoijcliccgjolaaGreatConT6
set_option linter.unusedVariables false
namespace Go.Proofs
open Go.Den Go.Tot
theorem Z67 {α R : Type} {l : List α} {P : α → Prop} {f : Int → Option (Ctl Int R)} {Q : R → Prop} (hn : l.length ≤ 140737488355328) (h : ∀ t : Int,0 ≤ t → t < l.length → ∀ v,l[t.toNat]? = some v → v ∈ l → Z08 l t = some v → Ok (f t) (fun x=>match x with | .next t'=>t' = t + 1 ∧ P v | .done r=>Q r))
  (he : ∀ t : Int,0 ≤ t → t = (l.length : Int) → (∀ v ∈ l,P v) → Ok (f t) (fun x=>match x with | .next _=>False | .done r=>Q r)) : Ok (Z09 f Z0a 0) Q:=by
 refine lp (fun t=>t) l.length (fun t=>∀ (j : Nat) v,(j : Int) < t → l[j]? = some v → P v) (fun t hI h0 h1=>?_) (by omega) (fun j v h=>by omega) (by omega) (by omega)
 rcases Int.lt_or_le t (l.length : Int) with hlt | hge
 ·obtain ⟨v,hg,hm,hi⟩:=gri (l:=l) h0 hlt
  refine (h t h0 hlt v hi hm hg).mono fun x hx=>?_
  cases x with
  | done r=>exact hx
  | next t'=>
   obtain ⟨rfl,hP⟩:=hx
   refine ⟨fun j w hj hw=>?_,by dsimp only; omega,by dsimp only; omega⟩
   rcases Int.lt_or_le (j : Int) t with h' | h'
   ·exact hI j w h' hw
   ·have : j = t.toNat:=by omega
    subst this
    rw [hi] at hw; cases hw; exact hP
 ·refine (he t h0 (by omega) fun v hv=>?_).mono fun x hx=>?_
  ·obtain ⟨j,hj⟩:=List.mem_iff_getElem?.1 hv
   exact hI j v (by have:=(List.getElem?_eq_some_iff.1 hj).1; omega) hj
  ·cases x with
   | done r=>exact hx
   | next t'=>exact absurd hx id
def tgt (x : Z01) : List Int:=if 36 ≤ x.f_Op ∧ x.f_Op ≤ 54 then [x.f_To] ++ x.Z0d else []
theorem Z41.tosL {x : Z01} (h : Z41 x) : x.Z0d.length ≤ 64:=by
 by_cases h1 : x.f_Op = 53
 ·exact (h.tab h1).2
 ·by_cases h2 : x.f_Op = 54
  ·have:=h.look h2; omega
  ·rw [h.few h1 h2]; simp
theorem Zra (x : Z01) (h : Z41 x) : Zc5 x = some (tgt x):=by
 unfold Zc5 tgt
 rw [Zww]
 have:=h.tosL
 by_cases hb : 36 ≤ x.f_Op ∧ x.f_Op ≤ 54
 ·rw [if_pos hb]
  simp only [Option.bind_some,hb]
  obtain ⟨u,hu,-⟩:=gk (b:=8) (n:=([x.f_To] ++ x.Z0d).length) (by simp only [List.length_append,List.length_cons,List.length_nil]; omega) (by simp only [List.length_append,List.length_cons,List.length_nil]; omega)
  simp only [List.length_append,List.length_cons,List.length_nil,Nat.zero_add,Nat.add_comm] at hu
  simp [hu]
 ·rw [if_neg hb]
  simp [hb]
theorem put_ok (x : Z01) (at_ : List Int) (hx : Z2t x) (hc : Z41 x) (ht : ∀ t ∈ tgt x,t < at_.length) : Ok (Zhk x at_) (fun r=>r.length ≤ 1000):=by
 have htl:=hc.tosL
 have hbr : 36 ≤ x.f_Op → x.f_Op ≤ 54 → 0 ≤ x.f_To ∧ x.f_To < at_.length ∧ ∀ v ∈ x.Z0d,0 ≤ v ∧ v < at_.length:=fun h h'=>by
  have e : tgt x = [x.f_To] ++ x.Z0d:=if_pos ⟨h,h'⟩
  rw [e] at ht
  exact ⟨(hc.aim h h').1,ht _ (by simp),fun v hv=>⟨(hc.aim h h').2 v hv,ht v (by simp [hv])⟩⟩
 have num:=fun y n hn=>Y01 y n hn
 unfold Zhk
 refine bd (num _ 1 (by omega)) fun v0 h0=>bd (Ze0 x.f_Op) fun k hk=>?_
 obtain ⟨k3,k6,k7,km,k0,k1⟩:=hk
 refine brE (fun _=>?_) fun _=>brE (fun _=>?_) fun _=>brE (fun h3=>?_) fun _=>brE (fun _=>?_) fun _=>brE (fun _=>?_) fun _=>brE (fun h6=>?_) fun _=>brE (fun h7=>?_) fun _=>ok (by omega)
 ·exact bd (num _ 1 (by omega)) fun v1 h1=>bd (ct (by omega)) fun v2 h2=>ok (by omega)
 ·exact bd (num _ 2 (by omega)) fun v1 h1=>bd (ct (by omega)) fun v2 h2=>ok (by omega)
 ·have hb:=hbr (by omega) (by omega)
  exact bd (gr hb.1 hb.2.1) fun v _=>bd (num _ 2 (by omega)) fun v1 h1=>bd (ct (by omega)) fun v2 h2=>ok (by omega)
 ·exact bd (num _ 1 (by omega)) fun v1 h1=>bd (ct (by omega)) fun v2 h2=>ok (by omega)
 ·exact bd (num _ 1 (by omega)) fun v1 h1=>bd (ct (by omega)) fun v2 h2=>bd (num _ 1 (by omega)) fun v3 h3=>bd (ct (by omega)) fun v4 h4=>ok (by omega)
 ·have hb:=hbr (by omega) (by omega)
  refine bd (gr hb.1 hb.2.1) fun v _=>bd (num _ 2 (by omega)) fun v1 h1=>bd (ct (by omega)) fun v2 h2=>bd (num _ 4 (by omega)) fun v3 h3=>bd (ct (by omega)) fun v4 h4=>bd (num _ 2 (by omega)) fun v5 h5=>bd (ct (by omega)) fun v6 h6=>bd (P:=fun r=>r.length ≤ 1000) ?_ fun q hq=>ok hq
  refine lp (fun t=>t.2) x.Z0d.length (fun t=>(t.1.length : Int) ≤ 100 + 8 * t.2) (fun t hI g0 g1=>?_) (by omega) (by dsimp only; omega) (by dsimp only; omega) (by dsimp only; omega)
  unfold l97x1
  refine brD (fun hlt=>bd (gr (by omega) (by omega)) fun w hw=>bd (gr (hb.2.2 w hw).1 (hb.2.2 w hw).2) fun z _=>bd (num _ 2 (by omega)) fun y1 e1=>bd (ct (by omega)) fun y2 e2=>bd (wr (by omega) (by omega)) fun k hk=>nx (by dsimp only; omega) (by dsimp only; omega) (by dsimp only; omega)) fun _=>dn (by omega)
 ·have hb:=hbr (by omega) (by omega)
  have hlk:=hc.look (by omega)
  refine bd (gr hb.1 hb.2.1) fun v _=>bd (num _ 2 (by omega)) fun v1 h1=>bd (ct (by omega)) fun v2 h2=>bd (num _ 2 (by omega)) fun v3 h3=>bd (ct (by omega)) fun v4 h4=>bd (P:=fun r=>r.length ≤ 1000) ?_ fun q hq=>ok hq
  refine lp (fun t=>t.2) x.Z0r.length (fun t=>(t.1.length : Int) ≤ 100 + 8 * t.2) (fun t hI g0 g1=>?_) (by omega) (by dsimp only; omega) (by dsimp only; omega) (by dsimp only; omega)
  unfold l97x2
  refine brD (fun hlt=>bd (gr (by omega) (by omega)) fun w0 hw0=>bd (num _ 4 (by omega)) fun z1 e1=>bd (ct (by omega)) fun z2 e2=>bd (gr (by omega) (by omega)) fun w hw=>bd (gr (hb.2.2 w hw).1 (hb.2.2 w hw).2) fun z _=>bd (num _ 2 (by omega)) fun y1 e1=>bd (ct (by omega)) fun y2 e2=>bd (wr (by omega) (by omega)) fun k hk=>nx (by dsimp only; omega) (by dsimp only; omega) (by dsimp only; omega)) fun _=>dn (by omega)
theorem enc_ok (l : List Z01) (hl : ∀ i ∈ l,Z2t i) (hn : l.length ≤ 140737488355328) : Ok (Zfz l) (fun r=>r.1.length ≤ 1000000):=by
 unfold Zfz
 refine bd (Zpr l hl hn) fun v0 h0=>brN (fun _=>ok (by simp)) fun h=>?_
 obtain ⟨g1,g2,g3⟩:=h0.1 h
 refine bd (P:=fun q : Unit ⊕ (List UInt8 × Int)=>match q with | .inl _=>∀ i ∈ l,∀ t ∈ tgt i,t < l.length | .inr y=>y.1 = []) (Z67 (P:=fun i=>∀ t ∈ tgt i,t < l.length) hn (fun t h0 h1 i hi hm hg=>?_) fun t h0 h1 ha=>?_) fun q hq=>?_
 ·unfold Zh3
  rw [hg]
  have hf : (tgt i).length ≤ 65:=by
   have:=(g3 i hm).tosL
   unfold tgt; split <;> simp; omega
  refine brD (fun _=>bs ?_) fun h=>absurd h1 h
  rw [Zra i (g3 i hm)]
  refine bs (bd (P:=fun q : Unit ⊕ (List UInt8 × Int)=>match q with | .inl _=>∀ t ∈ tgt i,t < l.length | .inr y=>y.1 = []) (Z67 (l:=tgt i) (P:=fun t=>t < (l.length : Int)) (by omega) (fun k k0 k1 v hv hvm hvg=>?_) fun k k0 k1 ha=>?_) fun q hq=>?_)
  ·unfold Zjs
   rw [hvg]
   exact brD (fun _=>bs (brD (fun _=>ok rfl) fun _=>bd (wr (by omega) (by omega)) fun w hw=>ok ⟨hw,by omega⟩)) fun h=>absurd k1 h
  ·unfold Zjs
   exact brD (fun h=>absurd h (by omega)) fun _=>ok ha
  ·cases q with
   | inl _=>exact bd (wr (by omega) (by omega)) fun w hw=>ok ⟨hw,hq⟩
   | inr y=>exact ok hq
 ·unfold Zh3
  exact brD (fun h=>absurd h (by omega)) fun _=>ok ha
 ·cases q with
  | inr y=>exact ok (by rw [hq]; simp)
  | inl _=>
   refine bd (P:=fun r=>r.length ≤ 1000000) (lp (fun t=>t.2) l.length (fun t=>(t.1.length : Int) ≤ 1000 * t.2) (fun t hI k0 k1=>?_) (by omega) (by simp) (by dsimp only; omega) (by dsimp only; omega)) fun q6 h6=>ok h6
   unfold l71x3
   refine brD (fun hlt=>bd (gr (by omega) (by omega)) fun i hi=>bd (put_ok i v0.1 (hl i hi) (g3 i hi) fun t ht=>by have:=hq i hi t ht; omega) fun y hy=>bd (ct (by omega)) fun z hz=>bd (wr (by omega) (by omega)) fun w hw=>nx (by dsimp only; omega) (by dsimp only; omega) (by dsimp only; omega)) fun _=>dn (by omega)
theorem Ztm (l : List Z0f) (at_ : List Int) (hn : l.length ≤ 140737488355328) (h5 : ∀ v ∈ l,v.Z2f = 5 → 0 ≤ v.Z2v ∧ v.Z2v < at_.length) : Ok (Zcv l at_) (fun r=>r.length ≤ 1 + 5 * l.length):=by
 unfold Zcv
 refine bd (Znc _) fun v0 h0=>bd (P:=fun r=>r.length ≤ 1 + 5 * l.length) (lp (fun t=>t.2) l.length (fun t=>(t.1.length : Int) ≤ 1 + 5 * t.2) (fun t hI k0 k1=>?_) (by omega) (by dsimp only; omega) (by dsimp only; omega) (by dsimp only; omega)) fun q hq=>ok hq
 unfold l75x1
 refine brD (fun hlt=>?_) fun _=>dn (by omega)
 obtain ⟨v,hg,hm⟩:=gr (l:=l) (i:=t.2) (by omega) hlt
 simp only [hg]
 have hj : ∀ p : List UInt8,(p.length : Int) ≤ 1 + 5 * t.2 + 3 → Ok (Zck t l p) (St (fun t=>(t.1.length : Int) ≤ 1 + 5 * t.2) (fun t=>t.2) l.length (fun r=>r.length ≤ 1 + 5 * l.length) t):=fun p hp=>by
  unfold Zck
  simp only [hg]
  exact bs (brD (fun _=>bs (bd (Z4m _) fun z hz=>bd (ct (by omega)) fun y hy=>bd (wr (by omega) (by omega)) fun w hw=>nx (by dsimp only; omega) (by dsimp only; omega) (by dsimp only; omega))) fun _=>bd (wr (by omega) (by omega)) fun w hw=>nx (by dsimp only; omega) (by dsimp only; omega) (by dsimp only; omega))
 refine bs (bd (Znc _) fun a ha=>bd (ct (by omega)) fun b hb=>bs (brE (fun h=>bs (bd (gr (h5 v hm h).1 (h5 v hm h).2) fun y _=>bd (Z4m _) fun z hz=>bd (ct (by omega)) fun w hw=>hj w (by omega))) fun _=>hj b (by omega)))
theorem Zw5 (l : List Int) : Ok (Zct l) (fun r=>Str r.1):=by
 unfold Zct
 refine brD (fun _=>ok (by simp)) fun _=>bd (Z4m _) fun v0 h0=>bd (P:=fun q : List UInt8 ⊕ (List UInt8 × Int)=>match q with | .inl q=>q.length ≤ 1000 | .inr y=>y.1 = []) (lp (fun t=>t.2) l.length (fun t=>(t.1.length : Int) ≤ 2 + 2 * t.2) (fun t hI k0 k1=>?_) (by omega) (by dsimp only; omega) (by dsimp only; omega) (by dsimp only; omega)) fun q hq=>?_
 ·unfold l59x1 j59x1
  refine brD (fun hlt=>bd (gr (by omega) (by omega)) fun _ _=>brD (fun _=>dn rfl) fun _=>bd (gr (by omega) (by omega)) fun _ _=>brD (fun _=>dn rfl) fun _=>bd (gr (by omega) (by omega)) fun _ _=>bd (Z4m _) fun y hy=>bd (ct (by omega)) fun z hz=>bd (wr (by omega) (by omega)) fun w hw=>nx (by dsimp only; omega) (by dsimp only; omega) (by dsimp only; omega)) fun _=>dn (by dsimp only; omega)
 ·cases q with
  | inl q => exact ok (by have h : q.length ≤ 1000:=hq
                          show q.length ≤ _; omega)
  | inr y=>exact ok (by rw [hq]; simp)
structure CPre (c : Z07) : Prop where
 ins : ∀ i ∈ c.Z0k,Z2t i
 insL : c.Z0k.length ≤ 140737488355328
 hndL : c.Z1d.length ≤ 140737488355328
 mapL : c.Z16.length ≤ 140737488355328
 linL : c.Z1b.length ≤ 140737488355328
 frm : ∀ m ∈ c.Z16,m.Z1p.Z0q.length ≤ 140737488355328 ∧ m.Z1p.Z0s.length ≤ 140737488355328
theorem Z4n.pre {c : Z07} (h : Z4n c) : CPre c:=⟨h.ins,by have:=h.insL; omega,by have:=h.hndL; omega,by have:=h.mapL; omega,by have:=h.linL; omega,fun m hm=>⟨by have:=(h.map m hm).locL; omega,by have:=(h.map m hm).stkL; omega⟩⟩
def Chk0 (l : List Z01) : Prop:=∀ i ∈ l,Z4v i = some 0
theorem all_ok (l : List Z01) (hl : ∀ i ∈ l,Z2t i) (hn : l.length ≤ 140737488355328) : Ok (Zk3 l) (fun b=>Chk0 l → b = true):=by
 unfold Zk3
 refine bd (P:=fun q : Unit ⊕ Bool=>match q with | .inl _=>True | .inr b=>¬ Chk0 l) (li l.length (fun t h0 h1=>?_) (by omega) (by omega) (by omega)) fun q hq=>?_
 ·unfold Zqj
  refine brD (fun _=>bd (gr (by omega) (by omega)) fun i hi=>bdE (Ze7 i (hl i hi)) fun e he _=>brN (fun h=>di fun hc=>h ?_) fun _=>bd (wr (by omega) (by omega)) fun _ _=>ni (by omega) (by omega)) fun _=>di trivial
  rw [hc i hi] at he; cases he; rfl
 ·cases q with
  | inl _=>exact ok fun _=>rfl
  | inr b=>exact ok fun h=>absurd h hq
theorem Y0z (l : List Z01) (hl : ∀ i ∈ l,Z2t i) (hn : l.length ≤ 1000) : Ok (Z62 l) (fun r=>Chk0 l → r.2 = 0 ∨ r.2 = 8):=by
 unfold Z62
 refine bd (P:=fun q : Unit ⊕ (List Int × Int)=>match q with | .inl _=>∀ i ∈ l,Z41 i | .inr y=>¬ Chk0 l) (Z67 (l:=l) (P:=Z41) (by omega) (fun t h0 h1 i hi hm hg=>?_) fun t h0 h1 ha=>?_) fun q hq=>?_
 ·unfold Zbl
  rw [hg]
  refine brD (fun _=>bs (bdE (Ze7 i (hl i hm)) fun e he hc=>brN (fun h=>ok fun hc=>h ?_) fun h=>bd (wr (by omega) (by omega)) fun w hw=>ok ⟨hw,hc h⟩)) fun h=>absurd h1 h
  rw [hc i hm] at he; cases he; rfl
 ·unfold Zbl
  exact brD (fun h=>absurd h (by omega)) fun _=>ok ha
 ·cases q with
  | inr y=>exact ok fun h=>absurd h hq
  | inl _=>
   have hch : ∀ i ∈ l,Z41 i:=hq
   refine brD (fun h=>absurd h (by omega)) fun _=>bd (P:=fun r=>r.length = l.length + 1) ?_ fun q2 hq2=>bd (ik (by omega) (by omega)) fun j hj=>bd (la (by omega)) fun _ _=>brD (fun _=>ok fun _=> .inr rfl) fun _=>ok fun _=> .inl rfl
   refine lp (fun t=>t.1) l.length (fun t=>(t.2.length : Int) = t.1 + 1 ∧ ∀ v ∈ t.2,0 ≤ v ∧ v ≤ 400 * t.1) (fun t hI h0 h1=>?_) (by omega) ⟨rfl,by simp⟩ (by dsimp only; omega) (by dsimp only; omega)
   obtain ⟨hI1,hI2⟩:=hI
   unfold Zkg
   refine brD (fun hlt=>?_) fun hge=>dn (by omega)
   refine bd (ik (by omega) (by omega)) fun j hj=>bd (la (by omega)) fun v hv=>bd (gr (by omega) (by omega)) fun i hi=>bd (Zwz i (hl i hi) (hch i hi)) fun n hn=>?_
   have hv2:=hI2 v hv.2
   refine bd (wr (by omega) (by omega)) fun w hw=>bd (gk (by simp only [List.length_append,List.length_cons,List.length_nil]; omega) (by simp only [List.length_append,List.length_cons,List.length_nil]; omega)) fun _ _=>bd (wr (by omega) (by omega)) fun k hk=>?_
   refine nx ⟨by simp only [List.length_append,List.length_cons,List.length_nil]; omega,Z7b (fun v hv=>?_) ?_⟩ (by dsimp only; omega) (by dsimp only; omega)
   ·have:=hI2 v hv; dsimp only; omega
   ·dsimp only; omega
theorem head_ok (p : List Z00) (c : Z07) (hp : Z1g p) (hc : CPre c) : Ok (Zij p c) (fun e=>e = 0 → PS p 1024 ∧ (c.Z0q ≤ 32 ∧ c.Z0s ≤ 32) ∧ 1 ≤ c.Z0k.length ∧ c.Z0k.length ≤ 1000 ∧ (Chk0 c.Z0k → ∃ v,Z62 c.Z0k = some v ∧ v.2 = 0)):=by
 unfold Zij
 refine bd (Zss p hp) fun v0 h0=>brN (fun h=>ok fun h'=>absurd h' h) fun h=>?_
 have hps:=h0 h
 have hj : c.Z0q ≤ 32 ∧ c.Z0s ≤ 32 → Ok (Zix c) (fun e=>e = 0 → PS p 1024 ∧ (c.Z0q ≤ 32 ∧ c.Z0s ≤ 32) ∧ 1 ≤ c.Z0k.length ∧ c.Z0k.length ≤ 1000 ∧ (Chk0 c.Z0k → ∃ v,Z62 c.Z0k = some v ∧ v.2 = 0)):=fun hLT=>by
  unfold Zix j90x2
  refine brE (fun _=>ok (by simp)) fun h1=>brD (fun _=>ok (by simp)) fun h2=>bd (all_ok _ hc.ins hc.insL) fun b hb=>br (fun _=>bdE (Y0z _ hc.ins (by omega)) fun v hv hv2=>brE (fun he=>ok fun h=>?_) fun he=>ok fun _=>⟨hps,hLT,by omega,by omega,fun hk=>⟨v,hv,(hv2 hk).resolve_right he⟩⟩) fun hf=>ok fun _=>⟨hps,hLT,by omega,by omega,fun hk=>?_⟩
  ·omega
  ·rw [hb hk] at hf; cases hf
 exact brD (fun _=>ok (by simp)) fun _=>brD (fun _=>ok (by simp)) fun _=>brD (fun _=>ok (by simp)) fun _=>brD (fun _=>ok (by simp)) fun _=>hj ⟨by omega,by omega⟩
theorem has_ok (l : List Int) (x : Int) (hl : l.length ≤ 140737488355328) : Ok (Zfr l x) (fun _=>True):=by
 unfold Zfr
 refine bd (li l.length (Q:=fun _=>True) (fun t h0 h1=>?_) (by omega) (by omega) (by omega)) fun q _=>by cases q <;> exact ok trivial
 unfold Znr
 exact brD (fun _=>bd (gr (by omega) (by omega)) fun _ _=>br (fun _=>di trivial) fun _=>bd (wr (by omega) (by omega)) fun _ _=>ni (by omega) (by omega)) fun _=>di trivial
section
variable {p : List Z00} (hp : p.length ≤ 1000) (hS : PS p 1024)
include hp hS
theorem Zmd (i : Int) : Ok (Z8j p i) (fun _=>True):=by
 unfold Z8j
 exact bd (Zpm p i (by omega) hS) fun v hv=>brE (fun _=>brD (fun _=>bd (gs (by omega) (by omega)) fun _ _=>ok trivial) fun _=>ok trivial) fun _=>ok trivial
theorem Y0q (i : Int) : Ok (Z9w p i) (fun _=>True):=by
 unfold Z9w
 exact bd (Zf4 p i (by omega)) fun v _=>bd (Y1i p i _ (by omega) hS) fun _ _=>brE (fun _=>ok trivial) fun _=>ok trivial
theorem Y10 (x : Z01) : Ok (Zhq p x) (fun _=>True):=by
 have h2 : Ok (Zdm p x) (fun _=>True):=by
  unfold Zdm
  have hn : Ok ((Z9w p x.f_A).bind fun v=>if v = true then some 12 else some 0) (fun _ : Int=>True):=bd (Y0q hp hS _) fun _ _=>br (fun _=>ok trivial) fun _=>ok trivial
  exact brE (fun _=>hn) fun _=>brE (fun _=>hn) fun _=>brE (fun _=>hn) fun _=>ok trivial
 unfold Zhq
 refine bd (Zf4 p x.f_A (by omega)) fun v0 h0=>brN (fun _=>ok trivial) fun he=>?_
 have h1 : Ok (Z64 v0 p x) (fun _=>True):=by
  unfold Z64
  exact brE (fun _=>bd (Zde _ (by have:=hS _ (h0.1 he).mem; unfold Str; omega)) fun _ _=>brN (fun _=>ok trivial) fun _=>brE (fun _=>ok trivial) fun _=>h2) fun _=>h2
 have h3 : Ok (if decide (x.f_Op ≥ 59) = true then (if decide (x.f_Op ≤ 66) = true then ((Z8j p v0.1.f_A).bind fun v4=>if (!v4) = true then some 13 else Z64 v0 p x) else Z64 v0 p x) else Z64 v0 p x) (fun _=>True):=
  brD (fun _=>brD (fun _=>bd (Zmd hp hS _) fun _ _=>br! (fun _=>ok trivial) fun _=>h1) fun _=>h1) fun _=>h1
 exact bd (Ztt _) fun v1 g1=>bd (has_ok _ _ (by omega)) fun _ _=>br! (fun _=>ok trivial) fun _=>brE (fun _=>bd (Zmd hp hS _) fun _ _=>br! (fun _=>ok trivial) fun _=>h3) fun _=>h3
theorem Zzm (c : Z07) (x : Z01) (hx : Z2t x) : Ok (Zhx p c x) (fun e=>e = 0 → Z4v x = some 0 ∧ Z41 x):=by
 unfold Zhx
 refine bdE (Ze7 x hx) fun v0 e0 h0=>brN (fun h=>ok fun h'=>absurd h' h) fun h=>?_
 have hc:=h0 h
 rw [h] at e0
 rw [Zra x hc]
 have hj : ∀ v7,Ok (Zai v7 p x) (fun e=>e = 0 → Z4v x = some 0 ∧ Z41 x):=fun v7=>by
  unfold Zai
  exact brE (fun _=>bd (Y10 hp hS x) fun _ _=>ok fun _=>⟨e0,hc⟩) fun _=>ok fun _=>⟨e0,hc⟩
 have hf : (tgt x).length ≤ 65:=by
  have:=hc.tosL
  unfold tgt; split <;> simp; omega
 refine bs (bd (P:=fun q : Unit ⊕ Int=>match q with | .inl _=>True | .inr e=>e ≠ 0) (li (tgt x).length (fun t h0 h1=>?_) (by omega) (by omega) (by omega)) fun q hq=>?_)
 ·unfold l91x1
  exact brD (fun _=>bd (gr (by omega) (by omega)) fun _ _=>brD (fun _=>di (by simp)) fun _=>bd (gr (by omega) (by omega)) fun _ _=>brD (fun _=>di (by simp)) fun _=>bd (wr (by omega) (by omega)) fun _ _=>ni (by omega) (by omega)) fun _=>di trivial
 ·cases q with
  | inr e=>exact ok fun h=>absurd h hq
  | inl _=>exact bd (Ze0 _) fun v7 _=>brE (fun _=>brD (fun _=>ok (by simp)) fun _=>hj _) fun _=>brE (fun _=>brD (fun _=>ok (by simp)) fun _=>hj _) fun _=>hj _
def Zey (n : Int) (h : Z0h) : Prop:=0 ≤ h.Z3u ∧ h.Z3u < h.f_To ∧ h.f_To ≤ n ∧ 0 ≤ h.Z3q ∧ h.Z3q < n
theorem row9_ok (n : Int) (h : Z0h) : Ok (Zi6 p n h) (fun b=>b = true → Zey n h):=by
 unfold Zi6
 have z : Ok (some false) (fun b=>b = true → Zey n h):=ok fun h=>by cases h
 exact brD (fun h1=>brD (fun h2=>brD (fun h3=>brD (fun h4=>brD (fun h5=>br (fun _=>brE (fun _=>ok fun _=>⟨by omega,h2,h3,by omega,h5⟩) fun _=>bd (Zmd hp hS _) fun _ _=>ok fun _=>⟨by omega,h2,h3,by omega,h5⟩) fun _=>z) fun _=>z) fun _=>z) fun _=>z) fun _=>z) fun _=>z
theorem Zq5 (i : Int) (b : Bool) : Ok (Zbv p i b) (fun _=>True):=by
 unfold Zbv
 exact bd (Z4d p i (by omega)) fun v hv=>brN (fun _=>ok trivial) fun _=>bd (Zde _ (by have:=Zbc hS hv; unfold Str; omega)) fun _ _=>brN (fun _=>ok trivial) fun _=>brD (fun _=>ok trivial) fun _=>ok trivial
def VOk (n : Int) (v : Z0f) : Prop:=v.Z2f = 5 → 0 ≤ v.Z2v ∧ v.Z2v < n
theorem Zzn (c : Z07) (v : Z0f) : Ok (Zky p c v) (fun b=>b = true → VOk c.Z0k.length v):=by
 unfold Zky Zm0 Zq2
 have z : Ok (some false) (fun b=>b = true → VOk c.Z0k.length v):=ok fun h=>by cases h
 have y : ∀ b,v.Z2f ≠ 5 → Ok (some b) (fun b=>b = true → VOk c.Z0k.length v):=fun b h=>ok fun _ h'=>absurd h' h
 refine br! (fun _=>z) fun _=>brE (fun h=>brE (fun _=>y _ (by omega)) fun _=>z) fun _=>brE (fun h=>brE (fun _=>y _ (by omega)) fun _=>z) fun _=>brE (fun h=>brE (fun _=>y _ (by omega)) fun _=>z) fun _=>brE (fun h=>brE (fun _=>y _ (by omega)) fun _=>z) fun _=>?_
 refine brE (fun h=>brE (fun _=>bd (Zq5 hp hS _ _) fun _ _=>y _ (by omega)) fun _=>z) fun _=>brE (fun h=>brE (fun _=>bd (Zq5 hp hS _ _) fun _ _=>y _ (by omega)) fun _=>z) fun _=>brE (fun h=>brD (fun h1=>brD (fun h2=>bd (gr (by omega) (by omega)) fun _ _=>brE (fun _=>bd (Zq5 hp hS _ _) fun _ _=>ok fun _ _=>⟨by omega,h2⟩) fun _=>z) fun _=>z) fun _=>z) fun _=>z
theorem Zvd (c : Z07) (l : List Z0f) (hl : l.length ≤ 140737488355328) : Ok (Ze8 p c l) (fun b=>b = true → ∀ v ∈ l,VOk c.Z0k.length v):=by
 unfold Ze8
 refine bd (P:=fun q : Unit ⊕ Bool=>match q with | .inl _=>∀ v ∈ l,VOk c.Z0k.length v | .inr b=>b = false) (Z67 (P:=VOk c.Z0k.length) hl (fun t h0 h1 v hv hm hg=>?_) fun t h0 h1 ha=>?_) fun q hq=>?_
 ·unfold Zhd
  rw [hg]
  exact brD (fun _=>bs (bd (Zzn hp hS c v) fun b hb=>br! (fun _=>ok rfl) fun h=>bd (wr (by omega) (by omega)) fun w hw=>ok ⟨hw,hb h⟩)) fun h=>absurd h1 h
 ·unfold Zhd
  exact brD (fun h=>absurd h (by omega)) fun _=>ok ha
 ·cases q with
  | inl _=>exact ok fun _=>hq
  | inr b=>exact ok fun h=>by cases hq.symm.trans h
def Z9z (n : Int) (m : Z0j) : Prop:=0 ≤ m.Z2b ∧ m.Z2b < n ∧ (∀ v ∈ m.Z1p.Z0q,VOk n v) ∧ (∀ v ∈ m.Z1p.Z0s,VOk n v) ∧ m.Z1p.Z0q.length ≤ 32 ∧ m.Z1p.Z0s.length ≤ 32
theorem Y27 (c : Z07) (hc : CPre c) (hL : c.Z0q ≤ 32) (hT : c.Z0s ≤ 32) (i : Int) (h0 : 0 ≤ i) (h1 : i < c.Z16.length) (m : Z0j) (hg : Z08 c.Z16 i = some m) (hm : m ∈ c.Z16) : Ok (Zhb p c i) (fun b=>b = true → Z9z c.Z0k.length m):=by
 have:=hc.mapL
 have z : Ok (some false) (fun b=>b = true → Z9z c.Z0k.length m):=ok fun h=>by cases h
 unfold Zhb
 rw [hg]
 refine bs (brD (fun _=>z) fun g0=>brD (fun _=>z) fun g1=>?_)
 have hj : (m.Z1p.Z0q.length : Int) ≤ c.Z0q → (m.Z1p.Z0s.length : Int) ≤ c.Z0s → Ok (Zah m p c) (fun b=>b = true → Z9z c.Z0k.length m):=fun q1 q2=>by
  unfold Zah
  exact bd (Zvd hp hS c _ (hc.frm m hm).1) fun b hb=>br (fun h=>bd (Zvd hp hS c _ (hc.frm m hm).2) fun b' hb'=>ok fun h'=>⟨by omega,by omega,hb h,hb' h',by omega,by omega⟩) fun _=>z
 have hk : Ok (if decide ((m.Z1p.Z0q.length : Int) > c.Z0q) = true then some false else if decide ((m.Z1p.Z0s.length : Int) > c.Z0s) = true then some false else Zah m p c) (fun b=>b = true → Z9z c.Z0k.length m):=brD (fun _=>z) fun q1=>brD (fun _=>z) fun q2=>hj (by omega) (by omega)
 exact brD (fun _=>bd (wr (by omega) (by omega)) fun v1 e1=>bd (gr (by omega) (by omega)) fun v2 _=>brD (fun _=>z) fun _=>hk) fun _=>hk
def LinOk (n : Int) (x : Z0v) : Prop:=0 ≤ x.Z2b ∧ x.Z2b < n
structure Zx3 (c : Z07) : Prop where
 hnd : ∀ h ∈ c.Z1d,Zey c.Z0k.length h
 map : ∀ m ∈ c.Z16,Z9z c.Z0k.length m
 lin : ∀ x ∈ c.Z1b,LinOk c.Z0k.length x
theorem Y1w (c : Z07) (hc : CPre c) (hL : c.Z0q ≤ 32) (hT : c.Z0s ≤ 32) : Ok (Zh8 p c) (fun r=>r.2 = 0 → Zx3 c):=by
 have g1:=hc.hndL; have g2:=hc.mapL; have g3:=hc.linL
 unfold Zh8
 refine brD (fun _=>ok (by simp)) fun _=>bd (P:=fun q : Unit ⊕ (Int × Int)=>match q with | .inl _=>∀ h ∈ c.Z1d,Zey c.Z0k.length h | .inr y=>y.2 ≠ 0) (Z67 (P:=Zey c.Z0k.length) g1 (fun t h0 h1 v hv hm hg=>?_) fun t h0 h1 ha=>?_) fun q1 hq1=>?_
 ·unfold Zji
  rw [hg]
  exact brD (fun _=>bs (bd (row9_ok hp hS _ v) fun b hb=>br! (fun _=>ok (by simp)) fun h=>bd (wr (by omega) (by omega)) fun w hw=>ok ⟨hw,hb h⟩)) fun h=>absurd h1 h
 ·unfold Zji
  exact brD (fun h=>absurd h (by omega)) fun _=>ok ha
 cases q1 with
 | inr y=>exact ok fun h=>absurd h hq1
 | inl _=>
 refine bd (P:=fun q : Unit ⊕ (Int × Int)=>match q with | .inl _=>∀ m ∈ c.Z16,Z9z c.Z0k.length m | .inr y=>y.2 ≠ 0) (Z67 (P:=Z9z c.Z0k.length) g2 (fun t h0 h1 v hv hm hg=>?_) fun t h0 h1 ha=>?_) fun q2 hq2=>?_
 ·unfold Zje
  exact brD (fun _=>bd (Y27 hp hS c hc hL hT t h0 h1 v hg hm) fun b hb=>br! (fun _=>ok (by simp)) fun h=>bd (wr (by omega) (by omega)) fun w hw=>ok ⟨hw,hb h⟩) fun h=>absurd h1 h
 ·unfold Zje
  exact brD (fun h=>absurd h (by omega)) fun _=>ok ha
 cases q2 with
 | inr y=>exact ok fun h=>absurd h hq2
 | inl _=>
 refine bd (P:=fun q : Unit ⊕ (Int × Int)=>match q with | .inl _=>∀ x ∈ c.Z1b,LinOk c.Z0k.length x | .inr y=>y.2 ≠ 0) (Z67 (P:=LinOk c.Z0k.length) g3 (fun t h0 h1 v hv hm hg=>?_) fun t h0 h1 ha=>?_) fun q3 hq3=>?_
 ·unfold Zgz
  rw [hg]
  exact brD (fun _=>bs (brD (fun _=>ok (by simp)) fun k0=>brD (fun _=>ok (by simp)) fun k1=>brD (fun _=>bd (wr (by omega) (by omega)) fun w hw=>bd (gr (by omega) (by omega)) fun _ _=>brD (fun _=>ok (by simp)) fun _=>brD (fun _=>ok (by simp)) fun _=>brD (fun _=>ok (by simp)) fun _=>bd (wr (by omega) (by omega)) fun w hw=>ok ⟨hw,by omega,by omega⟩) fun _=>brD (fun _=>ok (by simp)) fun _=>brD (fun _=>ok (by simp)) fun _=>bd (wr (by omega) (by omega)) fun w hw=>ok ⟨hw,by omega,by omega⟩)) fun h=>absurd h1 h
 ·unfold Zgz
  exact brD (fun h=>absurd h (by omega)) fun _=>ok ha
 cases q3 with
 | inr y=>exact ok fun h=>absurd h hq3
 | inl _=>exact ok fun _=>⟨hq1,hq2,hq3⟩
end
theorem Zug (p : List Z00) (c : Z07) (hp : Z1g p) (hc : CPre c) : Ok (Zc4 p c) (fun r=>r.2 = 0 → Zx3 c ∧ ∃ v,Z62 c.Z0k = some v ∧ v.2 = 0):=by
 unfold Zc4
 refine bd (head_ok p c hp hc) fun v0 h0=>brN (fun h=>ok fun h'=>absurd h' h) fun h=>?_
 obtain ⟨hS,⟨hL,hT⟩,hn1,hn2,hoff⟩:=h0 h
 have hl:=hp.len
 refine bd (P:=fun q : Unit ⊕ (Int × Int)=>match q with | .inl _=>∀ i ∈ c.Z0k,Z4v i = some 0 | .inr y=>y.2 ≠ 0) (Z67 (l:=c.Z0k) (P:=fun i=>Z4v i = some 0) (by omega) (fun t h0 h1 v hv hm hg=>?_) fun t h0 h1 ha=>?_) fun q hq=>?_
 ·unfold Zk1
  rw [hg]
  exact brD (fun _=>bs (bd (Zzm hl hS c v (hc.ins v hm)) fun e he=>brN (fun h=>ok h) fun h=>bd (wr (by omega) (by omega)) fun w hw=>ok ⟨hw,(he h).1⟩)) fun h=>absurd h1 h
 ·unfold Zk1
  exact brD (fun h=>absurd h (by omega)) fun _=>ok ha
 ·cases q with
  | inr y=>exact ok fun h=>absurd h hq
  | inl _=>
   refine bd (wr (by omega) (by omega)) fun v6 e6=>bd (gr (by omega) (by omega)) fun v7 _=>bd (P:=fun _=>True) ?_ fun v8 _=>br! (fun _=>bd (wr (by omega) (by omega)) fun _ _=>ok (by simp)) fun _=>bd (Y1w hl hS c hc hL hT) fun r hr=>ok fun h=>⟨hr h,hoff hq⟩
   unfold Zok
   rw [Zoo]
   exact bs (br (fun _=>ok trivial) fun _=>ok trivial)
end Go.Proofs
