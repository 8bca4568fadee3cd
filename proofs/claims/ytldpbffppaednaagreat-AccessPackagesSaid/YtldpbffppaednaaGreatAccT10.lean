/-
  That the models come to an answer, part ten: class spaces. No condition.
-/
import Derived.Test.YtldpbffppaednaaGreatAccT9
set_option linter.unusedVariables false
namespace Go.Proofs
open Go.Den Go.Tot
def FewM (u : Z0j) : Prop:=u.Z06.length ≤ 8 ∧ u.Z0n.length ≤ 64 ∧ u.Z0m.length ≤ 64
theorem Zxy (u : Z0j) (hu : Z53 u) : Ok (Zg2 u) (fun r=>r.2 = 0 → FewM u):=by
  have gm:=hu.metL
  unfold Zg2
  refine bd (Y0d u hu) fun _ _=>br! (fun _=>ok (by simp)) fun _=>bd (Zwd _ u Z1e.nil hu) fun v1 h1=>brN (fun h=>ok fun h'=>absurd h' h) fun _=>?_
  have hm:=h1.fam.m; have hc:=h1.fam.c; have ht:=h1.fam.t; have hs:=h1.fam.s
  refine bd (P:=fun q : List (List UInt8) ⊕ (Z0w × Int)=>match q with | .inl q=>(q.length : Int) = u.Z0m.length ∧ ∀ s ∈ q,Str s | .inr y=>y.2 ≠ 0) (lp (fun t=>t.1) u.Z0m.length (fun t=>(t.2.length : Int) = t.1 ∧ ∀ s ∈ t.2,Str s) (fun t hI h0 h1'=>?_) (by omega) ⟨rfl,Z3u⟩ (by dsimp only; omega) (by dsimp only; omega)) fun q1 hq1=>?_
  · obtain ⟨hI1,hI2⟩:=hI
    unfold l44x1
    have hj : t.1 < u.Z0m.length → ∀ s e,Str s → Ok (Zbi t s e) (St (fun t=>(t.2.length : Int) = t.1 ∧ ∀ s ∈ t.2,Str s) (fun t=>t.1) u.Z0m.length (fun q : List (List UInt8) ⊕ (Z0w × Int)=>match q with | .inl q=>(q.length : Int) = u.Z0m.length ∧ ∀ s ∈ q,Str s | .inr y=>y.2 ≠ 0) t):=fun hlt s e hs'=>by
      unfold Zbi
      exact brN (fun h=>dn h) fun _=>bd (gk (by simp only [List.length_append,List.length_cons,List.length_nil]; omega) (by simp only [List.length_append,List.length_cons,List.length_nil]; omega)) fun _ _=>bd (wr (by omega) (by omega)) fun _ hv=>nx ⟨by simp only [List.length_append,List.length_cons,List.length_nil]; omega,Z5t hI2 hs'⟩ (by dsimp only; omega) (by dsimp only; omega)
    exact brD (fun hlt=>bd (gr (by omega) (by omega)) fun _ _=>br (fun _=>bd (gr (by omega) (by omega)) fun c hcm=>bd (Zz9 _ c h1.pool (h1.fam.code c hcm)) fun v8 h8=>hj (by omega) _ _ h8) fun _=>hj (by omega) _ _ (by simp)) fun hge=>dn ⟨by omega,hI2⟩
  cases q1 with
  | inr y=>exact ok fun h=>absurd h hq1
  | inl q0=>
  obtain ⟨k1,k2⟩:=hq1
  refine bd (P:=fun q : List Z0b ⊕ (Z0w × Int)=>match q with | .inl q=>(q.length : Int) = u.Z0m.length ∧ ∀ m ∈ q,m.Z1g.length ≤ 2 ∧ ∀ a ∈ m.Z1g,Str a.Z29 | .inr y=>y.2 ≠ 0) (lp (fun t=>t.1) u.Z0m.length (fun t=>(t.2.length : Int) = t.1 ∧ ∀ m ∈ t.2,m.Z1g.length ≤ 2 ∧ ∀ a ∈ m.Z1g,Str a.Z29) (fun t hI h0 h1'=>?_) (by omega) ⟨rfl,Z3u⟩ (by dsimp only; omega) (by dsimp only; omega)) fun q3 hq3=>?_
  · obtain ⟨hI1,hI2⟩:=hI
    have h3 : t.1 < u.Z0m.length → ∀ p : List Z14,(p.length ≤ 2 ∧ ∀ a ∈ p,Str a.Z29) → Ok (Zc7 t v1 p) (St (fun t=>(t.2.length : Int) = t.1 ∧ ∀ m ∈ t.2,m.Z1g.length ≤ 2 ∧ ∀ a ∈ m.Z1g,Str a.Z29) (fun t=>t.1) u.Z0m.length (fun q : List Z0b ⊕ (Z0w × Int)=>match q with | .inl q=>(q.length : Int) = u.Z0m.length ∧ ∀ m ∈ q,m.Z1g.length ≤ 2 ∧ ∀ a ∈ m.Z1g,Str a.Z29 | .inr y=>y.2 ≠ 0) t):=fun hlt p hp=>by
      unfold Zc7
      exact bd (gr (by omega) (by omega)) fun _ _=>bd (gk (by simp only [List.length_append,List.length_cons,List.length_nil]; omega) (by simp only [List.length_append,List.length_cons,List.length_nil]; omega)) fun _ _=>bd (wr (by omega) (by omega)) fun _ hv=>nx ⟨by simp only [List.length_append,List.length_cons,List.length_nil]; omega,Z5t hI2 hp⟩ (by dsimp only; omega) (by dsimp only; omega)
    have h2 : t.1 < u.Z0m.length → ∀ p : List Z14,(p.length ≤ 1 ∧ ∀ a ∈ p,Str a.Z29) → Ok (Zcl t v1 p) (St (fun t=>(t.2.length : Int) = t.1 ∧ ∀ m ∈ t.2,m.Z1g.length ≤ 2 ∧ ∀ a ∈ m.Z1g,Str a.Z29) (fun t=>t.1) u.Z0m.length (fun q : List Z0b ⊕ (Z0w × Int)=>match q with | .inl q=>(q.length : Int) = u.Z0m.length ∧ ∀ m ∈ q,m.Z1g.length ≤ 2 ∧ ∀ a ∈ m.Z1g,Str a.Z29 | .inr y=>y.2 ≠ 0) t):=fun hlt p hp=>by
      unfold Zcl
      exact bd (gr (by omega) (by omega)) fun _ _=>brN (fun _=>bd (gr (by omega) (by omega)) fun _ _=>bd (Ztw _) fun v30 h30=>brN (fun h=>dn h) fun _=>bd (gr (by omega) (by omega)) fun _ _=>bd (gk (by simp only [List.length_append,List.length_cons,List.length_nil]; omega) (by simp only [List.length_append,List.length_cons,List.length_nil]; omega)) fun _ _=>h3 hlt _ ⟨by simp only [List.length_append,List.length_cons,List.length_nil]; omega,Z5t hp.2 h30⟩) fun _=>h3 hlt p ⟨by omega,hp.2⟩
    unfold l44x2
    exact brD (fun hlt=>bd (gr (by omega) (by omega)) fun _ _=>br (fun _=>bd (gr (by omega) (by omega)) fun _ _=>bd (ik (by omega) (by omega)) fun j hj=>bd (la (by omega)) fun b hb=>bd (gk (by simp) (by simp)) fun _ _=>h2 (by omega) _ ⟨by simp,Z5t Z3u (k2 b hb.2)⟩) fun _=>h2 (by omega) _ ⟨by simp,Z3u⟩) fun hge=>dn ⟨by omega,hI2⟩
  cases q3 with
  | inr y=>exact ok fun h=>absurd h hq3
  | inl q2=>
  obtain ⟨e1,e2⟩:=hq3
  refine bd (Zy9 _ ⟨h1.pool,by have:=h1.ifsL; have:=hu.ifsL; dsimp only; omega,by have:=h1.fldL; have:=hu.fldL; dsimp only; omega,by dsimp only; omega,by have:=h1.attL; dsimp only; omega,h1.att,fun m hm=>?_⟩) fun w hw=>brN (fun h=>ok fun h'=>absurd h' h) fun h=>ok fun _=>?_
  rotate_left
  · have hF : v1.2.f_F.Z06.length ≤ 8 ∧ v1.2.f_F.Z0n.length ≤ 64 ∧ q2.length ≤ 64:=hw h
    have:=h1.ifsL; have:=h1.fldL; exact ⟨by omega,by omega,by omega⟩
  rcases hm with hm | hm
  · have:=h1.fld m hm; exact ⟨by omega,this.2⟩
  · have:=e2 m hm; exact ⟨by omega,this.2⟩
theorem Zwh (u : Z0j) (hu : Z53 u) : Ok (Zln u) (fun e=>e = 0 → FewM u):=bd (Zxy u hu) fun _ h=>ok h
theorem Zny (w : Z0c) (n i : Int) (s : List UInt8) (b : Bool) (hi : i ≤ w.Z1i.length) : Ok (Zab w n i s b) (fun r=>r = true → 0 ≤ n ∧ n < i):=by
  unfold Zab
  exact brD (fun _=>brD (fun _=>bd (gr (by omega) (by omega)) fun _ _=>br (fun _=>bd (gr (by omega) (by omega)) fun _ _=>bs (ok fun _=>⟨by omega,by omega⟩)) fun _=>ok (by simp)) fun _=>ok (by simp)) fun _=>ok (by simp)
theorem find_ok (w : Z0c) (l : Int) (s : List UInt8) (hw : Z4f w) : Ok (Zgs w l s) (fun _=>True):=by
  have:=hw.iniL
  unfold Zgs
  refine bd (P:=fun _=>True) (li w.Z2p.length (fun t h0 h1=>?_) (by omega) (by omega) (by omega)) fun q _=>by cases q <;> exact ok trivial
  unfold l39x1
  exact brD (fun _=>bd (gr (by omega) (by omega)) fun _ _=>br (fun _=>bd (gr (by omega) (by omega)) fun _ _=>br (fun _=>bd (gr (by omega) (by omega)) fun _ _=>di trivial) fun _=>bd (wr (by omega) (by omega)) fun _ _=>ni (by omega) (by omega)) fun _=>bd (wr (by omega) (by omega)) fun _ _=>ni (by omega) (by omega)) fun _=>di trivial
structure Z9i (w : Z0c) (i : Int) (c : Z0z) : Prop where
  sup : c.Z07 = -1 ∨ (0 ≤ c.Z07 ∧ c.Z07 < i)
  ifs : ∀ n ∈ c.Z06,0 ≤ n ∧ n < i
  ifsL : c.Z06.length ≤ 8
  few : FewM c.Z0s
  lod : 0 ≤ c.Z0u ∧ c.Z0u < w.Z23.length
  lang : c.Z0u ≠ 0 → Z87 c.Z0s.Z02 [108,97,110,103,47] = some false
theorem Zxx (w : Z0c) (hw : Z4f w) (i : Int) (h0 : 0 ≤ i) (h1 : i < w.Z1i.length) (c : Z0z) (hg : Z0g w.Z1i i = some c) (hm : c ∈ w.Z1i) : Ok (Zgx w i) (fun b=>b = true → Z9i w i c):=by
  have hcl:=hw.clsL
  obtain ⟨hmod,hifs⟩:=hw.cls c hm
  have hmi:=hmod.ifsL
  have z : Ok (some false) (fun b=>b = true → Z9i w i c):=ok (by simp)
  unfold Zgx
  rw [hg]
  refine bs (brD (fun _=>z) fun k0=>brD (fun _=>z) fun k1=>bd (Zwh _ hmod) fun _ hck=>brN (fun _=>z) fun hck0=>brN (fun _=>z) fun hlen=>?_)
  have h2 : (c.Z07 = -1 ∨ (0 ≤ c.Z07 ∧ c.Z07 < i)) → (c.Z0u ≠ 0 → Z87 c.Z0s.Z02 [108,97,110,103,47] = some false) → Ok (Zal c w i) (fun b=>b = true → Z9i w i c):=fun hs hl=>by
    unfold Zal
    refine bd (P:=fun q : Unit ⊕ Bool=>match q with | .inl _=>∀ n ∈ c.Z06,0 ≤ n ∧ n < i | .inr b=>b = false) (Z5u (P:=fun n=>0 ≤ n ∧ n < i) hifs (fun t g0 g1 v hv hvm hvg=>?_) fun t g0 g1 ha=>?_) fun q hq=>?_
    · unfold Zj5
      rw [hvg]
      exact brD (fun _=>bs (bd (gr (by omega) (by omega)) fun _ _=>bd (Zny w v i _ _ (by omega)) fun b hb=>br! (fun _=>ok rfl) fun h=>bd (wr (by omega) (by omega)) fun _ hw'=>ok ⟨hw',hb h⟩)) fun h=>absurd g1 h
    · unfold Zj5
      exact brD (fun h=>absurd h (by omega)) fun _=>ok ha
    cases q with
    | inr b=>exact ok fun h=>by cases hq.symm.trans h
    | inl _=>
      have hd : Z9i w i c:=⟨hs,hq,by have:=(hck hck0).1; omega,hck hck0,⟨by omega,by omega⟩,hl⟩
      refine bd (P:=fun _=>True) (li i (fun t g0 g1=>?_) (by omega) (by omega) (by omega)) fun q _=>?_
      · unfold l23x2
        exact brD (fun _=>bd (gr (by omega) (by omega)) fun _ _=>br (fun _=>bd (gr (by omega) (by omega)) fun _ _=>br (fun _=>di trivial) fun _=>bd (wr (by omega) (by omega)) fun _ _=>ni (by omega) (by omega)) fun _=>bd (wr (by omega) (by omega)) fun _ _=>ni (by omega) (by omega)) fun _=>di trivial
      cases q with
      | inr _=>exact ok fun _=>hd
      | inl _=>exact bd (find_ok w _ _ hw) fun _ _=>br (fun _=>br (fun _=>brD (fun _=>brD (fun _=>ok fun _=>hd) fun _=>ok fun _=>hd) fun _=>ok fun _=>hd) fun _=>ok fun _=>hd) fun _=>ok fun _=>hd
  have h3 : (c.Z0u ≠ 0 → Z87 c.Z0s.Z02 [108,97,110,103,47] = some false) → Ok (Zcs c w i) (fun b=>b = true → Z9i w i c):=fun hl=>by
    unfold Zcs
    exact brE (fun he=>br! (fun _=>bd (Zny w _ i _ _ (by omega)) fun b hb=>br! (fun _=>z) fun h=>h2 (.inr (hb h)) hl) fun _=>h2 (.inl he) hl) fun _=>br! (fun _=>bd (Zny w _ i _ _ (by omega)) fun b hb=>br! (fun _=>z) fun h=>h2 (.inr (hb h)) hl) fun _=>z
  exact brN (fun _=>bdE (Zr4 _ _) fun b hb _=>br (fun _=>z) fun h=>h3 fun _=>by rw [hb,h]) fun h=>h3 fun h'=>absurd h h'
structure Z5k (w : Z0c) : Prop where
  cls : ∀ (i : Nat) c,w.Z1i[i]? = some c → Z9i w i c
  few : w.Z1i.length ≤ 200
theorem Zzy (w : Z0c) (hw : Z4f w) : Ok (Zcz w) (fun b=>b = true → Z5k w):=by
  have hcl:=hw.clsL; have hil:=hw.iniL; have hcon:=hw.conL
  unfold Zcz
  refine bd (Zx1 _ hw.lod hw.lodL) fun v0 h0=>brN (fun _=>ok (by simp)) fun h=>brD (fun _=>ok (by simp)) fun hc2=>brD (fun _=>ok (by simp)) fun _=>?_
  have hl8:=h0 h
  unfold j9x1
  refine bd (P:=fun q : Unit ⊕ Bool=>match q with | .inl _=>∀ b ∈ w.Z3p,Z71 w b | .inr b=>b = false) (Z5u (P:=Z71 w) hcon (fun t g0 g1 v hv hvm hvg=>?_) fun t g0 g1 ha=>?_) fun q hq=>?_
  · unfold l9x1
    rw [hvg]
    exact brD (fun _=>bs (brD (fun _=>ok rfl) fun _=>brD (fun _=>ok rfl) fun _=>brD (fun _=>ok rfl) fun _=>brD (fun _=>ok rfl) fun _=>bd (Zf6 _ (hw.con v hvm)) fun _ _=>br! (fun _=>ok rfl) fun _=>bd (wr (by omega) (by omega)) fun _ hw'=>ok ⟨hw',by omega,by omega,by omega,by omega⟩)) fun h=>absurd g1 h
  · unfold l9x1
    exact brD (fun h=>absurd h (by omega)) fun _=>ok ha
  cases q with
  | inr b=>exact ok fun h=>by cases hq.symm.trans h
  | inl _=>
  have hcons : ∀ b ∈ w.Z3p,Z71 w b:=hq
  refine bd (P:=fun q : Unit ⊕ Bool=>match q with | .inl _=>True | .inr b=>b = false) (lp (fun t=>t) w.Z2p.length (fun t=>∀ (j : Nat) v,(j : Int) < t → w.Z2p[j]? = some v → Z7l w v) (fun t hI g0 g1=>?_) (by omega) (fun j v h=>by omega) (by omega) (by omega)) fun q hq=>?_
  · unfold l9x2
    refine brD (fun hlt=>bd (Zwu w t hw g0 hlt) fun b hb=>br! (fun _=>dn rfl) fun h=>?_) fun _=>dn trivial
    have hall : ∀ (j : Nat) v,(j : Int) ≤ t → w.Z2p[j]? = some v → Z7l w v:=fun j v hj hv=>by
      rcases Int.lt_or_le (j : Int) t with h' | h'
      · exact hI j v h' hv
      · have : j = t.toNat:=by omega
        subst this
        exact hb h v hv
    exact bd (Zyc w t hw hl8 hcons g0 hlt hall) fun _ _=>br! (fun _=>dn rfl) fun _=>bd (wr (by omega) (by omega)) fun k hk=>nx (fun j v hj hv=>hall j v (by omega) hv) (by omega) (by omega)
  cases q with
  | inr b=>exact ok fun h=>by cases hq.symm.trans h
  | inl _=>
  refine bd (P:=fun q : Unit ⊕ Bool=>match q with | .inl _=>Z5k w | .inr b=>b = false) (lp (fun t=>t) w.Z1i.length (fun t=>∀ (j : Nat) c,(j : Int) < t → w.Z1i[j]? = some c → Z9i w j c) (fun t hI g0 g1=>?_) (by omega) (fun j v h=>by omega) (by omega) (by omega)) fun q hq=>?_
  · unfold l9x3
    refine brD (fun hlt=>?_) fun hge=>dn ⟨fun j c hc=>hI j c (by have:=(List.getElem?_eq_some_iff.1 hc).1; omega) hc,by omega⟩
    obtain ⟨c,hg,hm,hi⟩:=gri (l:=w.Z1i) g0 hlt
    refine bd (Zxx w hw t g0 hlt c hg hm) fun b hb=>br! (fun _=>dn rfl) fun h=>bd (wr (by omega) (by omega)) fun k hk=>nx (fun j d hj hd=>?_) (by omega) (by omega)
    rcases Int.lt_or_le (j : Int) t with h' | h'
    · exact hI j d h' hd
    · have : j = t.toNat:=by omega
      subst this
      rw [hi] at hd; cases hd
      have:=hb h
      rwa [show ((t.toNat : Nat) : Int) = t by omega]
  cases q with
  | inr b=>exact ok fun h=>by cases hq.symm.trans h
  | inl _=>exact ok fun _=>hq
end Go.Proofs
