/-
  That the models come to an answer, part ten: class spaces. No condition.
-/
import Derived.Test.YtoijcliccgjolaaGreatConT9
set_option linter.unusedVariables false
namespace Go.Proofs
open Go.Den Go.Tot
def FewM (u : Z10) : Prop:=u.Z11.length ≤ 8 ∧ u.Z1a.length ≤ 64 ∧ u.Z17.length ≤ 64
theorem Y1u (u : Z10) (hu : Z4t u) : Ok (Zjc u) (fun r=>r.2 = 0 → FewM u):=by
 have gm:=hu.metL
 unfold Zjc
 refine bd (Y4c u hu) fun _ _=>br! (fun _=>ok (by simp)) fun _=>bd (Y2q _ u Z1g.nil hu) fun v1 h1=>brN (fun h=>ok fun h'=>absurd h' h) fun _=>?_
 have hm:=h1.fam.m; have hc:=h1.fam.c; have ht:=h1.fam.t; have hs:=h1.fam.s
 refine bd (P:=fun q : List (List UInt8) ⊕ (Z0u × Int)=>match q with | .inl q=>(q.length : Int) = u.Z17.length ∧ ∀ s ∈ q,Str s | .inr y=>y.2 ≠ 0) (lp (fun t=>t.1) u.Z17.length (fun t=>(t.2.length : Int) = t.1 ∧ ∀ s ∈ t.2,Str s) (fun t hI h0 h1'=>?_) (by omega) ⟨rfl,Z3x⟩ (by dsimp only; omega) (by dsimp only; omega)) fun q1 hq1=>?_
 ·obtain ⟨hI1,hI2⟩:=hI
  unfold l53x1
  have hj : t.1 < u.Z17.length → ∀ s e,Str s → Ok (Zdz t s e) (St (fun t=>(t.2.length : Int) = t.1 ∧ ∀ s ∈ t.2,Str s) (fun t=>t.1) u.Z17.length (fun q : List (List UInt8) ⊕ (Z0u × Int)=>match q with | .inl q=>(q.length : Int) = u.Z17.length ∧ ∀ s ∈ q,Str s | .inr y=>y.2 ≠ 0) t):=fun hlt s e hs'=>by
   unfold Zdz
   exact brN (fun h=>dn h) fun _=>bd (gk (by simp only [List.length_append,List.length_cons,List.length_nil]; omega) (by simp only [List.length_append,List.length_cons,List.length_nil]; omega)) fun _ _=>bd (wr (by omega) (by omega)) fun _ hv=>nx ⟨by simp only [List.length_append,List.length_cons,List.length_nil]; omega,Z5y hI2 hs'⟩ (by dsimp only; omega) (by dsimp only; omega)
  exact brD (fun hlt=>bd (gr (by omega) (by omega)) fun _ _=>br (fun _=>bd (gr (by omega) (by omega)) fun c hcm=>bd (Y2k _ c h1.pool (h1.fam.code c hcm)) fun v8 h8=>hj (by omega) _ _ h8) fun _=>hj (by omega) _ _ (by simp)) fun hge=>dn ⟨by omega,hI2⟩
 cases q1 with
 | inr y=>exact ok fun h=>absurd h hq1
 | inl q0=>
 obtain ⟨k1,k2⟩:=hq1
 refine bd (P:=fun q : List Z0e ⊕ (Z0u × Int)=>match q with | .inl q=>(q.length : Int) = u.Z17.length ∧ ∀ m ∈ q,m.Z1i.length ≤ 2 ∧ ∀ a ∈ m.Z1i,Str a.Z27 | .inr y=>y.2 ≠ 0) (lp (fun t=>t.1) u.Z17.length (fun t=>(t.2.length : Int) = t.1 ∧ ∀ m ∈ t.2,m.Z1i.length ≤ 2 ∧ ∀ a ∈ m.Z1i,Str a.Z27) (fun t hI h0 h1'=>?_) (by omega) ⟨rfl,Z3x⟩ (by dsimp only; omega) (by dsimp only; omega)) fun q3 hq3=>?_
 ·obtain ⟨hI1,hI2⟩:=hI
  have h3 : t.1 < u.Z17.length → ∀ p : List Z13,(p.length ≤ 2 ∧ ∀ a ∈ p,Str a.Z27) → Ok (Zby t v1 p) (St (fun t=>(t.2.length : Int) = t.1 ∧ ∀ m ∈ t.2,m.Z1i.length ≤ 2 ∧ ∀ a ∈ m.Z1i,Str a.Z27) (fun t=>t.1) u.Z17.length (fun q : List Z0e ⊕ (Z0u × Int)=>match q with | .inl q=>(q.length : Int) = u.Z17.length ∧ ∀ m ∈ q,m.Z1i.length ≤ 2 ∧ ∀ a ∈ m.Z1i,Str a.Z27 | .inr y=>y.2 ≠ 0) t):=fun hlt p hp=>by
   unfold Zby
   exact bd (gr (by omega) (by omega)) fun _ _=>bd (gk (by simp only [List.length_append,List.length_cons,List.length_nil]; omega) (by simp only [List.length_append,List.length_cons,List.length_nil]; omega)) fun _ _=>bd (wr (by omega) (by omega)) fun _ hv=>nx ⟨by simp only [List.length_append,List.length_cons,List.length_nil]; omega,Z5y hI2 hp⟩ (by dsimp only; omega) (by dsimp only; omega)
  have h2 : t.1 < u.Z17.length → ∀ p : List Z13,(p.length ≤ 1 ∧ ∀ a ∈ p,Str a.Z27) → Ok (Zes t v1 p) (St (fun t=>(t.2.length : Int) = t.1 ∧ ∀ m ∈ t.2,m.Z1i.length ≤ 2 ∧ ∀ a ∈ m.Z1i,Str a.Z27) (fun t=>t.1) u.Z17.length (fun q : List Z0e ⊕ (Z0u × Int)=>match q with | .inl q=>(q.length : Int) = u.Z17.length ∧ ∀ m ∈ q,m.Z1i.length ≤ 2 ∧ ∀ a ∈ m.Z1i,Str a.Z27 | .inr y=>y.2 ≠ 0) t):=fun hlt p hp=>by
   unfold Zes
   exact bd (gr (by omega) (by omega)) fun _ _=>brN (fun _=>bd (gr (by omega) (by omega)) fun _ _=>bd (Zw5 _) fun v30 h30=>brN (fun h=>dn h) fun _=>bd (gr (by omega) (by omega)) fun _ _=>bd (gk (by simp only [List.length_append,List.length_cons,List.length_nil]; omega) (by simp only [List.length_append,List.length_cons,List.length_nil]; omega)) fun _ _=>h3 hlt _ ⟨by simp only [List.length_append,List.length_cons,List.length_nil]; omega,Z5y hp.2 h30⟩) fun _=>h3 hlt p ⟨by omega,hp.2⟩
  unfold l53x2
  exact brD (fun hlt=>bd (gr (by omega) (by omega)) fun _ _=>br (fun _=>bd (gr (by omega) (by omega)) fun _ _=>bd (ik (by omega) (by omega)) fun j hj=>bd (la (by omega)) fun b hb=>bd (gk (by simp) (by simp)) fun _ _=>h2 (by omega) _ ⟨by simp,Z5y Z3x (k2 b hb.2)⟩) fun _=>h2 (by omega) _ ⟨by simp,Z3x⟩) fun hge=>dn ⟨by omega,hI2⟩
 cases q3 with
 | inr y=>exact ok fun h=>absurd h hq3
 | inl q2=>
 obtain ⟨e1,e2⟩:=hq3
 refine bd (Y0i _ ⟨h1.pool,by have:=h1.ifsL; have:=hu.ifsL; dsimp only; omega,by have:=h1.fldL; have:=hu.fldL; dsimp only; omega,by dsimp only; omega,by have:=h1.attL; dsimp only; omega,h1.att,fun m hm=>?_⟩) fun w hw=>brN (fun h=>ok fun h'=>absurd h' h) fun h=>ok fun _=>?_
 rotate_left
 ·have hF : v1.2.f_F.Z11.length ≤ 8 ∧ v1.2.f_F.Z1a.length ≤ 64 ∧ q2.length ≤ 64:=hw h
  have:=h1.ifsL; have:=h1.fldL; exact ⟨by omega,by omega,by omega⟩
 rcases hm with hm | hm
 ·have:=h1.fld m hm; exact ⟨by omega,this.2⟩
 ·have:=e2 m hm; exact ⟨by omega,this.2⟩
theorem Y19 (u : Z10) (hu : Z4t u) : Ok (Zo7 u) (fun e=>e = 0 → FewM u):=bd (Y1u u hu) fun _ h=>ok h
theorem Znh (w : Z04) (n i : Int) (s : List UInt8) (b : Bool) (hi : i ≤ w.Z1x.length) : Ok (Zae w n i s b) (fun r=>r = true → 0 ≤ n ∧ n < i):=by
 unfold Zae
 exact brD (fun _=>brD (fun _=>bd (gr (by omega) (by omega)) fun _ _=>br (fun _=>bd (gr (by omega) (by omega)) fun _ _=>bs (ok fun _=>⟨by omega,by omega⟩)) fun _=>ok (by simp)) fun _=>ok (by simp)) fun _=>ok (by simp)
theorem find_ok (w : Z04) (l : Int) (s : List UInt8) (hw : Z30 w) : Ok (Zg2 w l s) (fun _=>True):=by
 have:=hw.iniL
 unfold Zg2
 refine bd (P:=fun _=>True) (li w.Z0l.length (fun t h0 h1=>?_) (by omega) (by omega) (by omega)) fun q _=>by cases q <;> exact ok trivial
 unfold l47x1
 exact brD (fun _=>bd (gr (by omega) (by omega)) fun _ _=>br (fun _=>bd (gr (by omega) (by omega)) fun _ _=>br (fun _=>bd (gr (by omega) (by omega)) fun _ _=>di trivial) fun _=>bd (wr (by omega) (by omega)) fun _ _=>ni (by omega) (by omega)) fun _=>bd (wr (by omega) (by omega)) fun _ _=>ni (by omega) (by omega)) fun _=>di trivial
structure Zc3 (w : Z04) (i : Int) (c : Z1m) : Prop where
 sup : c.Z1q = -1 ∨ (0 ≤ c.Z1q ∧ c.Z1q < i)
 ifs : ∀ n ∈ c.Z11,0 ≤ n ∧ n < i
 ifsL : c.Z11.length ≤ 8
 few : FewM c.Z2n
 lod : 0 ≤ c.Z1f ∧ c.Z1f < w.Z0w.length
 lang : c.Z1f ≠ 0 → Z88 c.Z2n.Z02 [108,97,110,103,47] = some false
theorem Y3l (w : Z04) (hw : Z30 w) (i : Int) (h0 : 0 ≤ i) (h1 : i < w.Z1x.length) (c : Z1m) (hg : Z08 w.Z1x i = some c) (hm : c ∈ w.Z1x) : Ok (Zbi w i) (fun b=>b = true → Zc3 w i c):=by
 have hcl:=hw.clsL
 obtain ⟨hmod,hifs⟩:=hw.cls c hm
 have hmi:=hmod.ifsL
 have z : Ok (some false) (fun b=>b = true → Zc3 w i c):=ok (by simp)
 unfold Zbi
 rw [hg]
 refine bs (brD (fun _=>z) fun k0=>brD (fun _=>z) fun k1=>bd (Y19 _ hmod) fun _ hck=>brN (fun _=>z) fun hck0=>brN (fun _=>z) fun hlen=>?_)
 have h2 : (c.Z1q = -1 ∨ (0 ≤ c.Z1q ∧ c.Z1q < i)) → (c.Z1f ≠ 0 → Z88 c.Z2n.Z02 [108,97,110,103,47] = some false) → Ok (Zbs c w i) (fun b=>b = true → Zc3 w i c):=fun hs hl=>by
  unfold Zbs
  refine bd (P:=fun q : Unit ⊕ Bool=>match q with | .inl _=>∀ n ∈ c.Z11,0 ≤ n ∧ n < i | .inr b=>b = false) (Z67 (P:=fun n=>0 ≤ n ∧ n < i) hifs (fun t g0 g1 v hv hvm hvg=>?_) fun t g0 g1 ha=>?_) fun q hq=>?_
  ·unfold Zg0
   rw [hvg]
   exact brD (fun _=>bs (bd (gr (by omega) (by omega)) fun _ _=>bd (Znh w v i _ _ (by omega)) fun b hb=>br! (fun _=>ok rfl) fun h=>bd (wr (by omega) (by omega)) fun _ hw'=>ok ⟨hw',hb h⟩)) fun h=>absurd g1 h
  ·unfold Zg0
   exact brD (fun h=>absurd h (by omega)) fun _=>ok ha
  cases q with
  | inr b=>exact ok fun h=>by cases hq.symm.trans h
  | inl _=>
   have hd : Zc3 w i c:=⟨hs,hq,by have:=(hck hck0).1; omega,hck hck0,⟨by omega,by omega⟩,hl⟩
   refine bd (P:=fun _=>True) (li i (fun t g0 g1=>?_) (by omega) (by omega) (by omega)) fun q _=>?_
   ·unfold l26x2
    exact brD (fun _=>bd (gr (by omega) (by omega)) fun _ _=>br (fun _=>bd (gr (by omega) (by omega)) fun _ _=>br (fun _=>di trivial) fun _=>bd (wr (by omega) (by omega)) fun _ _=>ni (by omega) (by omega)) fun _=>bd (wr (by omega) (by omega)) fun _ _=>ni (by omega) (by omega)) fun _=>di trivial
   cases q with
   | inr _=>exact ok fun _=>hd
   | inl _=>exact bd (find_ok w _ _ hw) fun _ _=>br (fun _=>br (fun _=>brD (fun _=>brD (fun _=>ok fun _=>hd) fun _=>ok fun _=>hd) fun _=>ok fun _=>hd) fun _=>ok fun _=>hd) fun _=>ok fun _=>hd
 have h3 : (c.Z1f ≠ 0 → Z88 c.Z2n.Z02 [108,97,110,103,47] = some false) → Ok (Zd4 c w i) (fun b=>b = true → Zc3 w i c):=fun hl=>by
  unfold Zd4
  exact brE (fun he=>br! (fun _=>bd (Znh w _ i _ _ (by omega)) fun b hb=>br! (fun _=>z) fun h=>h2 (.inr (hb h)) hl) fun _=>h2 (.inl he) hl) fun _=>br! (fun _=>bd (Znh w _ i _ _ (by omega)) fun b hb=>br! (fun _=>z) fun h=>h2 (.inr (hb h)) hl) fun _=>z
 exact brN (fun _=>bdE (Zye _ _) fun b hb _=>br (fun _=>z) fun h=>h3 fun _=>by rw [hb,h]) fun h=>h3 fun h'=>absurd h h'
end Go.Proofs
