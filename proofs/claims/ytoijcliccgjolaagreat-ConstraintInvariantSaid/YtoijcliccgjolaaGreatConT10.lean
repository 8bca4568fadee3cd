/-
  That the models come to an answer, part ten: class spaces. No condition.
-/
import Derived.Test.YtoijcliccgjolaaGreatConT9
set_option linter.unusedVariables false
namespace Go.Proofs
open Go.Den Go.Tot
def FewM (u : Z0x) : Prop:=u.Z0y.length ≤ 8 ∧ u.Z17.length ≤ 64 ∧ u.Z16.length ≤ 64
theorem Y2w (u : Z0x) (hu : Z4n u) : Ok (Zks u) (fun r=>r.2 = 0 → FewM u):=by
 have gm:=hu.metL
 unfold Zks
 refine bd (Y26 u hu) fun _ _=>br! (fun _=>ok (by simp)) fun _=>bd (Y2e _ u Z1f.nil hu) fun v1 h1=>brN (fun h=>ok fun h'=>absurd h' h) fun _=>?_
 have hm:=h1.fam.m; have hc:=h1.fam.c; have ht:=h1.fam.t; have hs:=h1.fam.s
 refine bd (P:=fun q : List (List UInt8) ⊕ (Z0t × Int)=>match q with | .inl q=>(q.length : Int) = u.Z16.length ∧ ∀ s ∈ q,Str s | .inr y=>y.2 ≠ 0) (lp (fun t=>t.1) u.Z16.length (fun t=>(t.2.length : Int) = t.1 ∧ ∀ s ∈ t.2,Str s) (fun t hI h0 h1'=>?_) (by omega) ⟨rfl,Z3z⟩ (by dsimp only; omega) (by dsimp only; omega)) fun q1 hq1=>?_
 ·obtain ⟨hI1,hI2⟩:=hI
  unfold l53x1
  have hj : t.1 < u.Z16.length → ∀ s e,Str s → Ok (Zd1 t s e) (St (fun t=>(t.2.length : Int) = t.1 ∧ ∀ s ∈ t.2,Str s) (fun t=>t.1) u.Z16.length (fun q : List (List UInt8) ⊕ (Z0t × Int)=>match q with | .inl q=>(q.length : Int) = u.Z16.length ∧ ∀ s ∈ q,Str s | .inr y=>y.2 ≠ 0) t):=fun hlt s e hs'=>by
   unfold Zd1
   exact brN (fun h=>dn h) fun _=>bd (gk (by simp only [List.length_append,List.length_cons,List.length_nil]; omega) (by simp only [List.length_append,List.length_cons,List.length_nil]; omega)) fun _ _=>bd (wr (by omega) (by omega)) fun _ hv=>nx ⟨by simp only [List.length_append,List.length_cons,List.length_nil]; omega,Z63 hI2 hs'⟩ (by dsimp only; omega) (by dsimp only; omega)
  exact brD (fun hlt=>bd (gr (by omega) (by omega)) fun _ _=>br (fun _=>bd (gr (by omega) (by omega)) fun c hcm=>bd (Zzg _ c h1.pool (h1.fam.code c hcm)) fun v8 h8=>hj (by omega) _ _ h8) fun _=>hj (by omega) _ _ (by simp)) fun hge=>dn ⟨by omega,hI2⟩
 cases q1 with
 | inr y=>exact ok fun h=>absurd h hq1
 | inl q0=>
 obtain ⟨k1,k2⟩:=hq1
 refine bd (P:=fun q : List Z0d ⊕ (Z0t × Int)=>match q with | .inl q=>(q.length : Int) = u.Z16.length ∧ ∀ m ∈ q,m.Z1g.length ≤ 2 ∧ ∀ a ∈ m.Z1g,Str a.Z26 | .inr y=>y.2 ≠ 0) (lp (fun t=>t.1) u.Z16.length (fun t=>(t.2.length : Int) = t.1 ∧ ∀ m ∈ t.2,m.Z1g.length ≤ 2 ∧ ∀ a ∈ m.Z1g,Str a.Z26) (fun t hI h0 h1'=>?_) (by omega) ⟨rfl,Z3z⟩ (by dsimp only; omega) (by dsimp only; omega)) fun q3 hq3=>?_
 ·obtain ⟨hI1,hI2⟩:=hI
  have h3 : t.1 < u.Z16.length → ∀ p : List Z10,(p.length ≤ 2 ∧ ∀ a ∈ p,Str a.Z26) → Ok (Zd6 t v1 p) (St (fun t=>(t.2.length : Int) = t.1 ∧ ∀ m ∈ t.2,m.Z1g.length ≤ 2 ∧ ∀ a ∈ m.Z1g,Str a.Z26) (fun t=>t.1) u.Z16.length (fun q : List Z0d ⊕ (Z0t × Int)=>match q with | .inl q=>(q.length : Int) = u.Z16.length ∧ ∀ m ∈ q,m.Z1g.length ≤ 2 ∧ ∀ a ∈ m.Z1g,Str a.Z26 | .inr y=>y.2 ≠ 0) t):=fun hlt p hp=>by
   unfold Zd6
   exact bd (gr (by omega) (by omega)) fun _ _=>bd (gk (by simp only [List.length_append,List.length_cons,List.length_nil]; omega) (by simp only [List.length_append,List.length_cons,List.length_nil]; omega)) fun _ _=>bd (wr (by omega) (by omega)) fun _ hv=>nx ⟨by simp only [List.length_append,List.length_cons,List.length_nil]; omega,Z63 hI2 hp⟩ (by dsimp only; omega) (by dsimp only; omega)
  have h2 : t.1 < u.Z16.length → ∀ p : List Z10,(p.length ≤ 1 ∧ ∀ a ∈ p,Str a.Z26) → Ok (Zf2 t v1 p) (St (fun t=>(t.2.length : Int) = t.1 ∧ ∀ m ∈ t.2,m.Z1g.length ≤ 2 ∧ ∀ a ∈ m.Z1g,Str a.Z26) (fun t=>t.1) u.Z16.length (fun q : List Z0d ⊕ (Z0t × Int)=>match q with | .inl q=>(q.length : Int) = u.Z16.length ∧ ∀ m ∈ q,m.Z1g.length ≤ 2 ∧ ∀ a ∈ m.Z1g,Str a.Z26 | .inr y=>y.2 ≠ 0) t):=fun hlt p hp=>by
   unfold Zf2
   exact bd (gr (by omega) (by omega)) fun _ _=>brN (fun _=>bd (gr (by omega) (by omega)) fun _ _=>bd (Zwo _) fun v30 h30=>brN (fun h=>dn h) fun _=>bd (gr (by omega) (by omega)) fun _ _=>bd (gk (by simp only [List.length_append,List.length_cons,List.length_nil]; omega) (by simp only [List.length_append,List.length_cons,List.length_nil]; omega)) fun _ _=>h3 hlt _ ⟨by simp only [List.length_append,List.length_cons,List.length_nil]; omega,Z63 hp.2 h30⟩) fun _=>h3 hlt p ⟨by omega,hp.2⟩
  unfold l53x2
  exact brD (fun hlt=>bd (gr (by omega) (by omega)) fun _ _=>br (fun _=>bd (gr (by omega) (by omega)) fun _ _=>bd (ik (by omega) (by omega)) fun j hj=>bd (la (by omega)) fun b hb=>bd (gk (by simp) (by simp)) fun _ _=>h2 (by omega) _ ⟨by simp,Z63 Z3z (k2 b hb.2)⟩) fun _=>h2 (by omega) _ ⟨by simp,Z3z⟩) fun hge=>dn ⟨by omega,hI2⟩
 cases q3 with
 | inr y=>exact ok fun h=>absurd h hq3
 | inl q2=>
 obtain ⟨e1,e2⟩:=hq3
 refine bd (Zz2 _ ⟨h1.pool,by have:=h1.ifsL; have:=hu.ifsL; dsimp only; omega,by have:=h1.fldL; have:=hu.fldL; dsimp only; omega,by dsimp only; omega,by have:=h1.attL; dsimp only; omega,h1.att,fun m hm=>?_⟩) fun w hw=>brN (fun h=>ok fun h'=>absurd h' h) fun h=>ok fun _=>?_
 rotate_left
 ·have hF : v1.2.f_F.Z0y.length ≤ 8 ∧ v1.2.f_F.Z17.length ≤ 64 ∧ q2.length ≤ 64:=hw h
  have:=h1.ifsL; have:=h1.fldL; exact ⟨by omega,by omega,by omega⟩
 rcases hm with hm | hm
 ·have:=h1.fld m hm; exact ⟨by omega,this.2⟩
 ·have:=e2 m hm; exact ⟨by omega,this.2⟩
theorem Y3k (u : Z0x) (hu : Z4n u) : Ok (Zp1 u) (fun e=>e = 0 → FewM u):=bd (Y2w u hu) fun _ h=>ok h
theorem Znt (w : Z07) (n i : Int) (s : List UInt8) (b : Bool) (hi : i ≤ w.Z2c.length) : Ok (Zb4 w n i s b) (fun r=>r = true → 0 ≤ n ∧ n < i):=by
 unfold Zb4
 exact brD (fun _=>brD (fun _=>bd (gr (by omega) (by omega)) fun _ _=>br (fun _=>bd (gr (by omega) (by omega)) fun _ _=>bs (ok fun _=>⟨by omega,by omega⟩)) fun _=>ok (by simp)) fun _=>ok (by simp)) fun _=>ok (by simp)
theorem find_ok (w : Z07) (l : Int) (s : List UInt8) (hw : Z31 w) : Ok (Zl8 w l s) (fun _=>True):=by
 have:=hw.iniL
 unfold Zl8
 refine bd (P:=fun _=>True) (li w.Z0p.length (fun t h0 h1=>?_) (by omega) (by omega) (by omega)) fun q _=>by cases q <;> exact ok trivial
 unfold l47x1
 exact brD (fun _=>bd (gr (by omega) (by omega)) fun _ _=>br (fun _=>bd (gr (by omega) (by omega)) fun _ _=>br (fun _=>bd (gr (by omega) (by omega)) fun _ _=>di trivial) fun _=>bd (wr (by omega) (by omega)) fun _ _=>ni (by omega) (by omega)) fun _=>bd (wr (by omega) (by omega)) fun _ _=>ni (by omega) (by omega)) fun _=>di trivial
structure Zev (w : Z07) (i : Int) (c : Z1z) : Prop where
 sup : c.Z1o = -1 ∨ (0 ≤ c.Z1o ∧ c.Z1o < i)
 ifs : ∀ n ∈ c.Z0y,0 ≤ n ∧ n < i
 ifsL : c.Z0y.length ≤ 8
 few : FewM c.Z2l
 lod : 0 ≤ c.Z1k ∧ c.Z1k < w.Z12.length
 lang : c.Z1k ≠ 0 → Z90 c.Z2l.Z02 [108,97,110,103,47] = some false
theorem Y0v (w : Z07) (hw : Z31 w) (i : Int) (h0 : 0 ≤ i) (h1 : i < w.Z2c.length) (c : Z1z) (hg : Z08 w.Z2c i = some c) (hm : c ∈ w.Z2c) : Ok (Zbn w i) (fun b=>b = true → Zev w i c):=by
 have hcl:=hw.clsL
 obtain ⟨hmod,hifs⟩:=hw.cls c hm
 have hmi:=hmod.ifsL
 have z : Ok (some false) (fun b=>b = true → Zev w i c):=ok (by simp)
 unfold Zbn
 rw [hg]
 refine bs (brD (fun _=>z) fun k0=>brD (fun _=>z) fun k1=>bd (Y3k _ hmod) fun _ hck=>brN (fun _=>z) fun hck0=>brN (fun _=>z) fun hlen=>?_)
 have h2 : (c.Z1o = -1 ∨ (0 ≤ c.Z1o ∧ c.Z1o < i)) → (c.Z1k ≠ 0 → Z90 c.Z2l.Z02 [108,97,110,103,47] = some false) → Ok (Zba c w i) (fun b=>b = true → Zev w i c):=fun hs hl=>by
  unfold Zba
  refine bd (P:=fun q : Unit ⊕ Bool=>match q with | .inl _=>∀ n ∈ c.Z0y,0 ≤ n ∧ n < i | .inr b=>b = false) (Z64 (P:=fun n=>0 ≤ n ∧ n < i) hifs (fun t g0 g1 v hv hvm hvg=>?_) fun t g0 g1 ha=>?_) fun q hq=>?_
  ·unfold Zhv
   rw [hvg]
   exact brD (fun _=>bs (bd (gr (by omega) (by omega)) fun _ _=>bd (Znt w v i _ _ (by omega)) fun b hb=>br! (fun _=>ok rfl) fun h=>bd (wr (by omega) (by omega)) fun _ hw'=>ok ⟨hw',hb h⟩)) fun h=>absurd g1 h
  ·unfold Zhv
   exact brD (fun h=>absurd h (by omega)) fun _=>ok ha
  cases q with
  | inr b=>exact ok fun h=>by cases hq.symm.trans h
  | inl _=>
   have hd : Zev w i c:=⟨hs,hq,by have:=(hck hck0).1; omega,hck hck0,⟨by omega,by omega⟩,hl⟩
   refine bd (P:=fun _=>True) (li i (fun t g0 g1=>?_) (by omega) (by omega) (by omega)) fun q _=>?_
   ·unfold l26x2
    exact brD (fun _=>bd (gr (by omega) (by omega)) fun _ _=>br (fun _=>bd (gr (by omega) (by omega)) fun _ _=>br (fun _=>di trivial) fun _=>bd (wr (by omega) (by omega)) fun _ _=>ni (by omega) (by omega)) fun _=>bd (wr (by omega) (by omega)) fun _ _=>ni (by omega) (by omega)) fun _=>di trivial
   cases q with
   | inr _=>exact ok fun _=>hd
   | inl _=>exact bd (find_ok w _ _ hw) fun _ _=>br (fun _=>br (fun _=>brD (fun _=>brD (fun _=>ok fun _=>hd) fun _=>ok fun _=>hd) fun _=>ok fun _=>hd) fun _=>ok fun _=>hd) fun _=>ok fun _=>hd
 have h3 : (c.Z1k ≠ 0 → Z90 c.Z2l.Z02 [108,97,110,103,47] = some false) → Ok (Zcc c w i) (fun b=>b = true → Zev w i c):=fun hl=>by
  unfold Zcc
  exact brE (fun he=>br! (fun _=>bd (Znt w _ i _ _ (by omega)) fun b hb=>br! (fun _=>z) fun h=>h2 (.inr (hb h)) hl) fun _=>h2 (.inl he) hl) fun _=>br! (fun _=>bd (Znt w _ i _ _ (by omega)) fun b hb=>br! (fun _=>z) fun h=>h2 (.inr (hb h)) hl) fun _=>z
 exact brN (fun _=>bdE (Zrh _ _) fun b hb _=>br (fun _=>z) fun h=>h3 fun _=>by rw [hb,h]) fun h=>h3 fun h'=>absurd h h'
end Go.Proofs
