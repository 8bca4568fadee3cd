/-
  That the models come to an answer, part ten: class spaces. No condition.
-/
import Derived.Test.YtldpbffppaednaaGreatAccT9
set_option linter.unusedVariables false
namespace Go.Proofs
open Go.Den Go.Tot
def FewM (u : Z0j) : Prop:=u.Z05.length ≤ 8 ∧ u.Z0n.length ≤ 64 ∧ u.Z0m.length ≤ 64
theorem Zwe (u : Z0j) (hu : Z51 u) : Ok (Zhn u) (fun r=>r.2 = 0 → FewM u):=by
 have gm:=hu.metL
 unfold Zhn
 refine bd (Y0j u hu) fun _ _=>br! (fun _=>ok (by simp)) fun _=>bd (Zyj _ u Z1e.nil hu) fun v1 h1=>brN (fun h=>ok fun h'=>absurd h' h) fun _=>?_
 have hm:=h1.fam.m; have hc:=h1.fam.c; have ht:=h1.fam.t; have hs:=h1.fam.s
 refine bd (P:=fun q : List (List UInt8) ⊕ (Z0z × Int)=>match q with | .inl q=>(q.length : Int) = u.Z0m.length ∧ ∀ s ∈ q,Str s | .inr y=>y.2 ≠ 0) (lp (fun t=>t.1) u.Z0m.length (fun t=>(t.2.length : Int) = t.1 ∧ ∀ s ∈ t.2,Str s) (fun t hI h0 h1'=>?_) (by omega) ⟨rfl,Z3r⟩ (by dsimp only; omega) (by dsimp only; omega)) fun q1 hq1=>?_
 ·obtain ⟨hI1,hI2⟩:=hI
  unfold l44x1
  have hj : t.1 < u.Z0m.length → ∀ s e,Str s → Ok (Zcs t s e) (St (fun t=>(t.2.length : Int) = t.1 ∧ ∀ s ∈ t.2,Str s) (fun t=>t.1) u.Z0m.length (fun q : List (List UInt8) ⊕ (Z0z × Int)=>match q with | .inl q=>(q.length : Int) = u.Z0m.length ∧ ∀ s ∈ q,Str s | .inr y=>y.2 ≠ 0) t):=fun hlt s e hs'=>by
   unfold Zcs
   exact brN (fun h=>dn h) fun _=>bd (gk (by simp only [List.length_append,List.length_cons,List.length_nil]; omega) (by simp only [List.length_append,List.length_cons,List.length_nil]; omega)) fun _ _=>bd (wr (by omega) (by omega)) fun _ hv=>nx ⟨by simp only [List.length_append,List.length_cons,List.length_nil]; omega,Z5y hI2 hs'⟩ (by dsimp only; omega) (by dsimp only; omega)
  exact brD (fun hlt=>bd (gr (by omega) (by omega)) fun _ _=>br (fun _=>bd (gr (by omega) (by omega)) fun c hcm=>bd (Zxe _ c h1.pool (h1.fam.code c hcm)) fun v8 h8=>hj (by omega) _ _ h8) fun _=>hj (by omega) _ _ (by simp)) fun hge=>dn ⟨by omega,hI2⟩
 cases q1 with
 | inr y=>exact ok fun h=>absurd h hq1
 | inl q0=>
 obtain ⟨k1,k2⟩:=hq1
 refine bd (P:=fun q : List Z0a ⊕ (Z0z × Int)=>match q with | .inl q=>(q.length : Int) = u.Z0m.length ∧ ∀ m ∈ q,m.Z1i.length ≤ 2 ∧ ∀ a ∈ m.Z1i,Str a.Z2a | .inr y=>y.2 ≠ 0) (lp (fun t=>t.1) u.Z0m.length (fun t=>(t.2.length : Int) = t.1 ∧ ∀ m ∈ t.2,m.Z1i.length ≤ 2 ∧ ∀ a ∈ m.Z1i,Str a.Z2a) (fun t hI h0 h1'=>?_) (by omega) ⟨rfl,Z3r⟩ (by dsimp only; omega) (by dsimp only; omega)) fun q3 hq3=>?_
 ·obtain ⟨hI1,hI2⟩:=hI
  have h3 : t.1 < u.Z0m.length → ∀ p : List Z14,(p.length ≤ 2 ∧ ∀ a ∈ p,Str a.Z2a) → Ok (Ze6 t v1 p) (St (fun t=>(t.2.length : Int) = t.1 ∧ ∀ m ∈ t.2,m.Z1i.length ≤ 2 ∧ ∀ a ∈ m.Z1i,Str a.Z2a) (fun t=>t.1) u.Z0m.length (fun q : List Z0a ⊕ (Z0z × Int)=>match q with | .inl q=>(q.length : Int) = u.Z0m.length ∧ ∀ m ∈ q,m.Z1i.length ≤ 2 ∧ ∀ a ∈ m.Z1i,Str a.Z2a | .inr y=>y.2 ≠ 0) t):=fun hlt p hp=>by
   unfold Ze6
   exact bd (gr (by omega) (by omega)) fun _ _=>bd (gk (by simp only [List.length_append,List.length_cons,List.length_nil]; omega) (by simp only [List.length_append,List.length_cons,List.length_nil]; omega)) fun _ _=>bd (wr (by omega) (by omega)) fun _ hv=>nx ⟨by simp only [List.length_append,List.length_cons,List.length_nil]; omega,Z5y hI2 hp⟩ (by dsimp only; omega) (by dsimp only; omega)
  have h2 : t.1 < u.Z0m.length → ∀ p : List Z14,(p.length ≤ 1 ∧ ∀ a ∈ p,Str a.Z2a) → Ok (Zbw t v1 p) (St (fun t=>(t.2.length : Int) = t.1 ∧ ∀ m ∈ t.2,m.Z1i.length ≤ 2 ∧ ∀ a ∈ m.Z1i,Str a.Z2a) (fun t=>t.1) u.Z0m.length (fun q : List Z0a ⊕ (Z0z × Int)=>match q with | .inl q=>(q.length : Int) = u.Z0m.length ∧ ∀ m ∈ q,m.Z1i.length ≤ 2 ∧ ∀ a ∈ m.Z1i,Str a.Z2a | .inr y=>y.2 ≠ 0) t):=fun hlt p hp=>by
   unfold Zbw
   exact bd (gr (by omega) (by omega)) fun _ _=>brN (fun _=>bd (gr (by omega) (by omega)) fun _ _=>bd (Ztz _) fun v30 h30=>brN (fun h=>dn h) fun _=>bd (gr (by omega) (by omega)) fun _ _=>bd (gk (by simp only [List.length_append,List.length_cons,List.length_nil]; omega) (by simp only [List.length_append,List.length_cons,List.length_nil]; omega)) fun _ _=>h3 hlt _ ⟨by simp only [List.length_append,List.length_cons,List.length_nil]; omega,Z5y hp.2 h30⟩) fun _=>h3 hlt p ⟨by omega,hp.2⟩
  unfold l44x2
  exact brD (fun hlt=>bd (gr (by omega) (by omega)) fun _ _=>br (fun _=>bd (gr (by omega) (by omega)) fun _ _=>bd (ik (by omega) (by omega)) fun j hj=>bd (la (by omega)) fun b hb=>bd (gk (by simp) (by simp)) fun _ _=>h2 (by omega) _ ⟨by simp,Z5y Z3r (k2 b hb.2)⟩) fun _=>h2 (by omega) _ ⟨by simp,Z3r⟩) fun hge=>dn ⟨by omega,hI2⟩
 cases q3 with
 | inr y=>exact ok fun h=>absurd h hq3
 | inl q2=>
 obtain ⟨e1,e2⟩:=hq3
 refine bd (Zwf _ ⟨h1.pool,by have:=h1.ifsL; have:=hu.ifsL; dsimp only; omega,by have:=h1.fldL; have:=hu.fldL; dsimp only; omega,by dsimp only; omega,by have:=h1.attL; dsimp only; omega,h1.att,fun m hm=>?_⟩) fun w hw=>brN (fun h=>ok fun h'=>absurd h' h) fun h=>ok fun _=>?_
 rotate_left
 ·have hF : v1.2.f_F.Z05.length ≤ 8 ∧ v1.2.f_F.Z0n.length ≤ 64 ∧ q2.length ≤ 64:=hw h
  have:=h1.ifsL; have:=h1.fldL; exact ⟨by omega,by omega,by omega⟩
 rcases hm with hm | hm
 ·have:=h1.fld m hm; exact ⟨by omega,this.2⟩
 ·have:=e2 m hm; exact ⟨by omega,this.2⟩
theorem Zxf (u : Z0j) (hu : Z51 u) : Ok (Zlc u) (fun e=>e = 0 → FewM u):=bd (Zwe u hu) fun _ h=>ok h
theorem Zk7 (w : Z0c) (n i : Int) (s : List UInt8) (b : Bool) (hi : i ≤ w.Z1d.length) : Ok (Za2 w n i s b) (fun r=>r = true → 0 ≤ n ∧ n < i):=by
 unfold Za2
 exact brD (fun _=>brD (fun _=>bd (gr (by omega) (by omega)) fun _ _=>br (fun _=>bd (gr (by omega) (by omega)) fun _ _=>bs (ok fun _=>⟨by omega,by omega⟩)) fun _=>ok (by simp)) fun _=>ok (by simp)) fun _=>ok (by simp)
theorem find_ok (w : Z0c) (l : Int) (s : List UInt8) (hw : Z4u w) : Ok (Zg3 w l s) (fun _=>True):=by
 have:=hw.iniL
 unfold Zg3
 refine bd (P:=fun _=>True) (li w.Z2q.length (fun t h0 h1=>?_) (by omega) (by omega) (by omega)) fun q _=>by cases q <;> exact ok trivial
 unfold l39x1
 exact brD (fun _=>bd (gr (by omega) (by omega)) fun _ _=>br (fun _=>bd (gr (by omega) (by omega)) fun _ _=>br (fun _=>bd (gr (by omega) (by omega)) fun _ _=>di trivial) fun _=>bd (wr (by omega) (by omega)) fun _ _=>ni (by omega) (by omega)) fun _=>bd (wr (by omega) (by omega)) fun _ _=>ni (by omega) (by omega)) fun _=>di trivial
structure Z8o (w : Z0c) (i : Int) (c : Z0w) : Prop where
 sup : c.Z07 = -1 ∨ (0 ≤ c.Z07 ∧ c.Z07 < i)
 ifs : ∀ n ∈ c.Z05,0 ≤ n ∧ n < i
 ifsL : c.Z05.length ≤ 8
 few : FewM c.Z0t
 lod : 0 ≤ c.Z0u ∧ c.Z0u < w.Z23.length
 lang : c.Z0u ≠ 0 → Z81 c.Z0t.Z02 [108,97,110,103,47] = some false
theorem Zwn (w : Z0c) (hw : Z4u w) (i : Int) (h0 : 0 ≤ i) (h1 : i < w.Z1d.length) (c : Z0w) (hg : Z0g w.Z1d i = some c) (hm : c ∈ w.Z1d) : Ok (Zhk w i) (fun b=>b = true → Z8o w i c):=by
 have hcl:=hw.clsL
 obtain ⟨hmod,hifs⟩:=hw.cls c hm
 have hmi:=hmod.ifsL
 have z : Ok (some false) (fun b=>b = true → Z8o w i c):=ok (by simp)
 unfold Zhk
 rw [hg]
 refine bs (brD (fun _=>z) fun k0=>brD (fun _=>z) fun k1=>bd (Zxf _ hmod) fun _ hck=>brN (fun _=>z) fun hck0=>brN (fun _=>z) fun hlen=>?_)
 have h2 : (c.Z07 = -1 ∨ (0 ≤ c.Z07 ∧ c.Z07 < i)) → (c.Z0u ≠ 0 → Z81 c.Z0t.Z02 [108,97,110,103,47] = some false) → Ok (Z9v c w i) (fun b=>b = true → Z8o w i c):=fun hs hl=>by
  unfold Z9v
  refine bd (P:=fun q : Unit ⊕ Bool=>match q with | .inl _=>∀ n ∈ c.Z05,0 ≤ n ∧ n < i | .inr b=>b = false) (Z5v (P:=fun n=>0 ≤ n ∧ n < i) hifs (fun t g0 g1 v hv hvm hvg=>?_) fun t g0 g1 ha=>?_) fun q hq=>?_
  ·unfold Zhd
   rw [hvg]
   exact brD (fun _=>bs (bd (gr (by omega) (by omega)) fun _ _=>bd (Zk7 w v i _ _ (by omega)) fun b hb=>br! (fun _=>ok rfl) fun h=>bd (wr (by omega) (by omega)) fun _ hw'=>ok ⟨hw',hb h⟩)) fun h=>absurd g1 h
  ·unfold Zhd
   exact brD (fun h=>absurd h (by omega)) fun _=>ok ha
  cases q with
  | inr b=>exact ok fun h=>by cases hq.symm.trans h
  | inl _=>
   have hd : Z8o w i c:=⟨hs,hq,by have:=(hck hck0).1; omega,hck hck0,⟨by omega,by omega⟩,hl⟩
   refine bd (P:=fun _=>True) (li i (fun t g0 g1=>?_) (by omega) (by omega) (by omega)) fun q _=>?_
   ·unfold l23x2
    exact brD (fun _=>bd (gr (by omega) (by omega)) fun _ _=>br (fun _=>bd (gr (by omega) (by omega)) fun _ _=>br (fun _=>di trivial) fun _=>bd (wr (by omega) (by omega)) fun _ _=>ni (by omega) (by omega)) fun _=>bd (wr (by omega) (by omega)) fun _ _=>ni (by omega) (by omega)) fun _=>di trivial
   cases q with
   | inr _=>exact ok fun _=>hd
   | inl _=>exact bd (find_ok w _ _ hw) fun _ _=>br (fun _=>br (fun _=>brD (fun _=>brD (fun _=>ok fun _=>hd) fun _=>ok fun _=>hd) fun _=>ok fun _=>hd) fun _=>ok fun _=>hd) fun _=>ok fun _=>hd
 have h3 : (c.Z0u ≠ 0 → Z81 c.Z0t.Z02 [108,97,110,103,47] = some false) → Ok (Zcb c w i) (fun b=>b = true → Z8o w i c):=fun hl=>by
  unfold Zcb
  exact brE (fun he=>br! (fun _=>bd (Zk7 w _ i _ _ (by omega)) fun b hb=>br! (fun _=>z) fun h=>h2 (.inr (hb h)) hl) fun _=>h2 (.inl he) hl) fun _=>br! (fun _=>bd (Zk7 w _ i _ _ (by omega)) fun b hb=>br! (fun _=>z) fun h=>h2 (.inr (hb h)) hl) fun _=>z
 exact brN (fun _=>bdE (Zrw _ _) fun b hb _=>br (fun _=>z) fun h=>h3 fun _=>by rw [hb,h]) fun h=>h3 fun h'=>absurd h h'
structure Z5g (w : Z0c) : Prop where
 cls : ∀ (i : Nat) c,w.Z1d[i]? = some c → Z8o w i c
 few : w.Z1d.length ≤ 200
theorem Zwm (w : Z0c) (hw : Z4u w) : Ok (Zda w) (fun b=>b = true → Z5g w):=by
 have hcl:=hw.clsL; have hil:=hw.iniL; have hcon:=hw.conL
 unfold Zda
 refine bd (Zx3 _ hw.lod hw.lodL) fun v0 h0=>brN (fun _=>ok (by simp)) fun h=>brD (fun _=>ok (by simp)) fun hc2=>brD (fun _=>ok (by simp)) fun _=>?_
 have hl8:=h0 h
 unfold j9x1
 refine bd (P:=fun q : Unit ⊕ Bool=>match q with | .inl _=>∀ b ∈ w.Z3q,Z71 w b | .inr b=>b = false) (Z5v (P:=Z71 w) hcon (fun t g0 g1 v hv hvm hvg=>?_) fun t g0 g1 ha=>?_) fun q hq=>?_
 ·unfold l9x1
  rw [hvg]
  exact brD (fun _=>bs (brD (fun _=>ok rfl) fun _=>brD (fun _=>ok rfl) fun _=>brD (fun _=>ok rfl) fun _=>brD (fun _=>ok rfl) fun _=>bd (Zgv _ (hw.con v hvm)) fun _ _=>br! (fun _=>ok rfl) fun _=>bd (wr (by omega) (by omega)) fun _ hw'=>ok ⟨hw',by omega,by omega,by omega,by omega⟩)) fun h=>absurd g1 h
 ·unfold l9x1
  exact brD (fun h=>absurd h (by omega)) fun _=>ok ha
 cases q with
 | inr b=>exact ok fun h=>by cases hq.symm.trans h
 | inl _=>
 have hcons : ∀ b ∈ w.Z3q,Z71 w b:=hq
 refine bd (P:=fun q : Unit ⊕ Bool=>match q with | .inl _=>True | .inr b=>b = false) (lp (fun t=>t) w.Z2q.length (fun t=>∀ (j : Nat) v,(j : Int) < t → w.Z2q[j]? = some v → Z7q w v) (fun t hI g0 g1=>?_) (by omega) (fun j v h=>by omega) (by omega) (by omega)) fun q hq=>?_
 ·unfold l9x2
  refine brD (fun hlt=>bd (Zxd w t hw g0 hlt) fun b hb=>br! (fun _=>dn rfl) fun h=>?_) fun _=>dn trivial
  have hall : ∀ (j : Nat) v,(j : Int) ≤ t → w.Z2q[j]? = some v → Z7q w v:=fun j v hj hv=>by
   rcases Int.lt_or_le (j : Int) t with h' | h'
   ·exact hI j v h' hv
   ·have : j = t.toNat:=by omega
    subst this
    exact hb h v hv
  exact bd (Zxm w t hw hl8 hcons g0 hlt hall) fun _ _=>br! (fun _=>dn rfl) fun _=>bd (wr (by omega) (by omega)) fun k hk=>nx (fun j v hj hv=>hall j v (by omega) hv) (by omega) (by omega)
 cases q with
 | inr b=>exact ok fun h=>by cases hq.symm.trans h
 | inl _=>
 refine bd (P:=fun q : Unit ⊕ Bool=>match q with | .inl _=>Z5g w | .inr b=>b = false) (lp (fun t=>t) w.Z1d.length (fun t=>∀ (j : Nat) c,(j : Int) < t → w.Z1d[j]? = some c → Z8o w j c) (fun t hI g0 g1=>?_) (by omega) (fun j v h=>by omega) (by omega) (by omega)) fun q hq=>?_
 ·unfold l9x3
  refine brD (fun hlt=>?_) fun hge=>dn ⟨fun j c hc=>hI j c (by have:=(List.getElem?_eq_some_iff.1 hc).1; omega) hc,by omega⟩
  obtain ⟨c,hg,hm,hi⟩:=gri (l:=w.Z1d) g0 hlt
  refine bd (Zwn w hw t g0 hlt c hg hm) fun b hb=>br! (fun _=>dn rfl) fun h=>bd (wr (by omega) (by omega)) fun k hk=>nx (fun j d hj hd=>?_) (by omega) (by omega)
  rcases Int.lt_or_le (j : Int) t with h' | h'
  ·exact hI j d h' hd
  ·have : j = t.toNat:=by omega
   subst this
   rw [hi] at hd; cases hd
   have:=hb h
   rwa [show ((t.toNat : Nat) : Int) = t by omega]
 cases q with
 | inr b=>exact ok fun h=>by cases hq.symm.trans h
 | inl _=>exact ok fun _=>hq
end Go.Proofs
