/-
  That the models come to an answer, part six: descriptors, a pool that is checked. No condition.
-/
import Derived.Test.YtoijcliccgjolaaGreatConT3
set_option linter.unusedVariables false
namespace Go.Proofs
open Go.Den Go.Tot
theorem Zpb (s : List UInt8) (a : Int) (hs : Str s) (h0 : 0 ≤ a) (h1 : a ≤ s.length) : Ok (Zbm s a) (fun r=>r.2 = -1 ∨ (a < r.2 ∧ r.2 ≤ s.length)):=by
 unfold Zbm
 refine bd (P:=fun q : Int × Int=>a ≤ q.2 ∧ q.2 ≤ (s.length : Int) ∧ 0 ≤ q.1 ∧ q.1 ≤ 4503599627370496) (lp (fun t=>t.1) s.length (fun t=>0 ≤ t.2 ∧ t.2 ≤ t.1 ∧ a ≤ t.1) (fun t hI g0 g1=>?_) (by omega) ⟨by omega,h0,by omega⟩ h0 h1) fun q hq=>?_
 ·unfold Zm2 Zpv
  refine brD (fun hlt=>bd (gs (by omega) (by omega)) fun _ _=>brE (fun _=>bd (wr (by omega) (by omega)) fun _ _=>bd (wr (by omega) (by omega)) fun _ _=>nx ?_ ?_ ?_) fun _=>dn ?_) fun _=>dn ?_ <;> dsimp only <;> omega
 ·obtain ⟨q1,q2⟩:=q
  dsimp only at hq ⊢
  have j2 : ∀ (v : Int) (p0 : List UInt8) (p1 : Int),Str p0 → a < p1 → p1 ≤ s.length → Ok (Zca (q1,q2) v p0 p1) (fun r=>r.2 = -1 ∨ (a < r.2 ∧ r.2 ≤ s.length)):=fun v p0 p1 g1 g2 g3=>by
   unfold Zca
   exact bd (Zr0 _ g1) fun b _=>br! (fun _=>ok (.inl rfl)) fun _=>ok (.inr ⟨g2,g3⟩)
  refine brD (fun _=>ok (.inl rfl)) fun _=>bd (gs (by omega) (by omega)) fun v5 _=>bd (wr (by omega) (by omega)) fun v6 h6=>brE (fun _=>?_) fun _=>j2 _ _ _ (by simp) (by omega) (by omega)
  refine bd (P:=fun q : Int=>v6 ≤ q ∧ q ≤ (s.length : Int)) (lp (fun t=>t) s.length (fun t=>v6 ≤ t) (fun t hI g0 g1=>?_) (by omega) (by omega) (by omega) (by omega)) fun q hq2=>?_
  ·unfold Zns
   exact brD (fun hlt=>bd (gs (by omega) (by omega)) fun _ _=>brN (fun _=>bd (wr (by omega) (by omega)) fun _ _=>nx (by omega) (by omega) (by omega)) fun _=>dn ⟨by omega,by omega⟩) fun _=>dn ⟨by omega,by omega⟩
  ·exact brD (fun _=>ok (.inl rfl)) fun _=>bd (sb (by omega) (by omega) (by omega)) fun v11 h11=>bd (wr (by omega) (by omega)) fun v12 h12=>j2 _ _ _ (by have:=h11.1; unfold Str at *; omega) (by omega) (by omega)
theorem Zde (s : List UInt8) (hs : Str s) : Ok (Z84 s) (fun _=>True):=by
 unfold Z84
 exact bd (Zpb s 0 hs (by omega) (by omega)) fun v _=>brN (fun _=>ok trivial) fun _=>ok trivial
theorem Zwm {s : List UInt8} (h : (s == ([] : List UInt8)) = false) : 0 < s.length:=by
 cases s with
 | nil=>simp at h
 | cons a r=>simp
theorem Y1r (s : List UInt8) (hs : Str s) : Ok (Zho s) (fun _=>True):=by
 unfold Zho Zn8
 exact bd (Zjz s hs) fun b _=>br (fun _=>ok trivial) fun _=>br (fun _=>ok trivial) fun h=>by
  have:=Zwm h
  exact bd (gs (by omega) (by omega)) fun v _=>brN (fun _=>ok trivial) fun _=>bd (Zde s hs) fun v _=>ok trivial
theorem Zpw (s : List UInt8) (hs : Str s) : Ok (Zan s) (fun b=>b = true → 0 < s.length):=by
 unfold Zan
 refine br (fun h=>ok fun _=>?_) fun _=>br (fun h=>ok fun _=>?_) fun _=>brD (fun _=>bd (Zob s hs) fun b hb=>ok fun h=>?_) fun _=>ok fun h=>by cases h
 ·rw [eq_of_beq h]; simp
 ·rw [eq_of_beq h]; simp
 ·exact List.length_pos_iff.2 (hb h)
theorem Zq8 (s : List UInt8) (hs : s.length ≤ 1048576) : Ok (Za6 s) (fun r=>r.1.Z36.length ≤ 1048576):=by
 unfold Za6
 refine br (fun _=>ok (by simp)) fun h=>?_
 have hpos:=Zwm h
 refine bd (gs (by omega) (by omega)) fun v _=>brN (fun _=>ok (by simp)) fun _=>?_
 unfold Zq7
 refine bd (P:=fun q : (List Z0n × Int) ⊕ (Z29 × Int)=>match q with | .inl q=>q.1.length ≤ 1048576 ∧ 0 ≤ q.2 ∧ q.2 ≤ (s.length : Int) | .inr y=>y.1.Z36 = []) (lp (fun t=>t.1) s.length (fun t=>(t.2.length : Int) ≤ t.1) (fun t hI g0 g1=>?_) (by omega) (by simp) (by dsimp only; omega) (by dsimp only; omega)) fun q hq=>?_
 ·unfold Zlz Zm9 Zoq
  have hd : t.2.length ≤ 1048576 ∧ 0 ≤ t.1 ∧ t.1 ≤ s.length:=⟨by omega,g0,g1⟩
  refine brD (fun hlt=>bd (gs (by omega) (by omega)) fun _ _=>brN (fun _=>?_) fun _=>dn hd) fun _=>dn hd
  refine bd (Zpb s t.1 (by unfold Str; omega) g0 g1) fun r hr=>brD (fun _=>dn rfl) fun hnn=>brE (fun _=>dn rfl) fun _=>?_
  have hlt2 : t.1 < r.2 ∧ r.2 ≤ s.length:=by omega
  exact bd (gk (by simp only [List.length_append,List.length_cons,List.length_nil]; omega) (by simp only [List.length_append,List.length_cons,List.length_nil]; omega)) fun _ _=>nx (by simp only [List.length_append,List.length_cons,List.length_nil]; omega) hlt2.1 hlt2.2
 ·cases q with
  | inr y=>exact ok (by rw [hq]; simp)
  | inl q=>
   obtain ⟨h1,h2,h3⟩:=hq
   refine brD (fun _=>ok (by simp)) fun _=>bd (wr (by omega) (by omega)) fun v hv=>bd (Zpb s v (by unfold Str; omega) (by omega) (by omega)) fun r _=>brN (fun _=>ok (by simp)) fun _=>brD (fun _=>ok (by simp)) fun _=>ok (by dsimp only; exact h1)
theorem Y3w (s : List UInt8) (hs : s.length ≤ 1048576) : Ok (Zh5 s) (fun _=>True):=by
 unfold Zh5
 exact bd (Zde s (by unfold Str; omega)) fun v _=>brE (fun _=>ok trivial) fun _=>bd (Zq8 s hs) fun _ _=>ok trivial
def Ent (p : List Z00) (i : Int) (c : Z00) : Prop:=∃ k : Nat,i = (k : Int) + 1 ∧ p[k]? = some c
theorem Ent.mem {p : List Z00} {i : Int} {c : Z00} (h : Ent p i c) : c ∈ p:=by
 obtain ⟨k,-,h⟩:=h
 exact List.mem_of_getElem? h
theorem Zf4 (p : List Z00) (i : Int) (hp : p.length ≤ 140737488355328) : Ok (Z91 p i) (fun r=>(r.2 = 0 → Ent p i r.1) ∧ (r.2 ≠ 0 → r.1.f_S = [])):=by
 unfold Z91
 refine brD (fun _=>ok ⟨by simp,by simp⟩) fun _=>brD (fun _=>ok ⟨by simp,by simp⟩) fun _=>bd (wr (by omega) (by omega)) fun v hv=>bd (gri (by omega) (by omega)) fun c hc=>ok ⟨fun _=>⟨v.toNat,by omega,hc.2⟩,by simp⟩
theorem Zha (p : List Z00) (i t : Int) (hp : p.length ≤ 140737488355328) : Ok (Z9f p i t) (fun r=>(r.2 = 0 → Ent p i r.1 ∧ r.1.Z1v = t) ∧ (r.2 ≠ 0 → r.1.f_S = [])):=by
 unfold Z9f
 exact bd (Zf4 p i hp) fun v hv=>brN (fun h=>ok ⟨fun h'=>absurd h' h,fun _=>rfl⟩) fun h=>brN (fun _=>ok ⟨by simp,by simp⟩) fun ht=>ok ⟨fun _=>⟨hv.1 h,ht⟩,by simp⟩
theorem Z4d (p : List Z00) (i : Int) (hp : p.length ≤ 140737488355328) : Ok (Z3r p i) (fun r=>r.1 = [] ∨ ∃ c,Ent p i c ∧ r.1 = c.f_S):=by
 unfold Z3r
 refine bd (Zha p i 1 hp) fun v hv=>ok ?_
 by_cases h : v.2 = 0
 ·exact .inr ⟨_,(hv.1 h).1,rfl⟩
 ·exact .inl (hv.2 h)
abbrev PS (p : List Z00) (B : Nat) : Prop:=∀ c ∈ p,c.f_S.length ≤ B
theorem Zbc {p : List Z00} {i : Int} {B : Nat} (h : PS p B) {s : List UInt8} (hs : s = [] ∨ ∃ c,Ent p i c ∧ s = c.f_S) : s.length ≤ B:=by
 rcases hs with rfl | ⟨c,hc,rfl⟩
 ·simp
 ·exact h c hc.mem
theorem Zpm (p : List Z00) (i : Int) {B : Nat} (hp : p.length ≤ 140737488355328) (h : PS p B) : Ok (Zb3 p i) (fun r=>r.1.length ≤ B):=by
 unfold Zb3
 exact bd (Zha p i 7 hp) fun v hv=>brN (fun _=>ok (by simp)) fun _=>bd (Z4d p _ hp) fun r hr=>ok (Zbc h hr)
theorem Ze6 (t : Int) : Ok (Z8d t) (fun _=>True):=by
 unfold Z8d
 exact br (fun _=>ok trivial) fun _=>br (fun _=>ok trivial) fun _=>ok trivial
theorem Zr2 (p : List Z00) (i : Int) (hp : p.length ≤ 140737488355328) : Ok (Zet p i) (fun r=>(r.1 = [] ∨ ∃ c,c ∈ p ∧ r.1 = c.f_S) ∧ (r.2.1 = [] ∨ ∃ c d,Ent p i c ∧ Ent p c.f_B d ∧ r.2.1 = d.f_S)):=by
 unfold Zet
 refine bd (Zha p i 12 hp) fun v hv=>brN (fun _=>ok ⟨.inl rfl,.inl rfl⟩) fun h=>bd (Z4d p _ hp) fun a ha=>brN (fun _=>ok ⟨.inl rfl,.inl rfl⟩) fun _=>bd (Z4d p _ hp) fun b hb=>brN (fun _=>ok ⟨.inl rfl,.inl rfl⟩) fun _=>ok ⟨?_,?_⟩
 ·rcases ha with h1 | ⟨c,hc,h1⟩
  ·exact .inl h1
  ·exact .inr ⟨c,hc.mem,h1⟩
 ·rcases hb with h1 | ⟨c,hc,h1⟩
  ·exact .inl h1
  ·exact .inr ⟨_,c,(hv.1 h).1,hc,h1⟩
theorem Y1i (p : List Z00) (i t : Int) {B : Nat} (hp : p.length ≤ 140737488355328) (h : PS p B) : Ok (Zkl p i t) (fun _=>True):=by
 unfold Zkl Zq1
 exact bd (Zf4 p i hp) fun v hv=>brN (fun _=>ok trivial) fun _=>bd (Ze6 t) fun b _=>br! (fun _=>ok trivial) fun _=>brN (fun _=>ok trivial) fun _=>bd (Zpm p _ hp h) fun r _=>brN (fun _=>ok trivial) fun _=>bd (Zr2 p _ hp) fun r _=>brN (fun _=>ok trivial) fun _=>ok trivial
theorem Y0a (t : Int) : Ok (Zla t) (fun _=>True):=by
 unfold Zla
 repeat' first
  | exact ok trivial
  | with_reducible refine br (fun _=>?_) fun _=>?_
  | exact bd (Ze6 t) fun _ _=>ok trivial
theorem Y39 (c : Z00) : Ok (Zkj c) (fun b=>b = true → c.Z1v ≠ 1 → c.f_S = []):=by
 have h2 : (c.Z1v ≠ 1 → c.f_S = []) → ∀ p,Ok (Zc1 c p) (fun b=>b = true → c.Z1v ≠ 1 → c.f_S = []):=fun h p=>by
  unfold Zc1
  repeat' first
   | exact ok fun _=>h
   | with_reducible refine br (fun _=>?_) fun _=>?_
 have h1 : (c.Z1v ≠ 1 → c.f_S = []) → Ok (Z7i c) (fun b=>b = true → c.Z1v ≠ 1 → c.f_S = []):=fun h=>by
  unfold Z7i
  exact br (fun _=>h2 h _) fun _=>bd (Ze6 _) fun _ _=>h2 h _
 unfold Zkj
 refine brN (fun _=>br! (fun _=>ok fun h=>by cases h) fun he=>?_) fun h1'=>?_
 ·have hS : c.f_S = [] :=by simpa using he
  repeat' first
   | exact h1 fun _=>hS
   | exact ok fun h=>by cases h
   | with_reducible refine brN (fun _=>?_) fun _=>?_
 ·repeat' first
   | exact h1 fun h=>absurd h1' h
   | exact ok fun h=>by cases h
   | with_reducible refine brN (fun _=>?_) fun _=>?_
theorem Y4e (p : List Z00) (c : Z00) (hp : p.length ≤ 140737488355328) : Ok (Zlg p c) (fun _=>True):=by
 have hr : ∀ i t,Ok (Zhu p i t) (fun _=>True):=fun i t=>bd (Zha p i t hp) fun _ _=>ok trivial
 have h1 : ∀ a b,Ok (Zdk p c a b) (fun _=>True):=fun a b=>by
  unfold Zdk Zmk
  exact bd (hr _ _) fun v _=>brN (fun _=>ok trivial) fun _=>br (fun _=>ok trivial) fun _=>br (fun _=>ok trivial) fun _=>bd (hr _ _) fun _ _=>ok trivial
 unfold Zlg
 exact bd (Ze6 _) fun b _=>br (fun _=>h1 _ _) fun _=>h1 _ _
theorem Zzk (t : Int) (a b : List UInt8) (hb : b.length ≤ 1048576) : Ok (Zgs t a b) (fun _=>True):=by
 unfold Zgs
 refine bd (Zq8 b hb) fun v _=>?_
 repeat' first
  | exact ok trivial
  | with_reducible refine brD (fun _=>?_) fun _=>?_
  | with_reducible refine br (fun _=>?_) fun _=>?_
  | with_reducible refine bd (gs (by omega) (by omega)) fun _ _=>?_
theorem Y03 (p : List Z00) (hp : Z1g p) (k : Nat) (c : Z00) (hc : p[k]? = some c) (hG : ∀ (j : Nat) d,j < k → p[j]? = some d → d.f_S.length ≤ 1024) : Ok (Zg7 p c) (fun e=>e = 0 → c.f_S.length ≤ 1024):=by
 have hl : p.length ≤ 140737488355328:=by have:=hp.len; omega
 have ho:=hp.ord k c hc
 have hu : ∀ i : Int,i ≤ k → ∀ s : List UInt8,(s = [] ∨ ∃ d,Ent p i d ∧ s = d.f_S) → s.length ≤ 1024:=fun i hi s hs=>by
  rcases hs with rfl | ⟨d,⟨j,h1,h2⟩,rfl⟩
  ·simp
  ·exact hG j d (by omega) h2
 have h2 : Ok (Zcw p c) (fun _=>True):=by
  unfold Zcw
  refine bd (Ze6 _) fun b _=>br (fun _=>bd (Zr2 p _ hl) fun r hr=>brE (fun _=>bd (Zzk _ _ _ ?_) fun _ _=>ok trivial) fun _=>ok trivial) fun _=>ok trivial
  rcases hr.2 with h | ⟨d,e,h1,h2,h3⟩
  ·rw [h]; simp
  ·obtain ⟨j,e1,e2⟩:=h1
   have:=hp.ord j d e2
   exact Nat.le_trans (hu d.f_B (by omega) _ (.inr ⟨e,h2,h3⟩)) (by omega)
 have h1 : Ok (Zeu p c) (fun _=>True):=by
  unfold Zeu
  refine brE (fun _=>bd (Z4d p _ hl) fun a ha=>bd (Z4d p _ hl) fun b hb=>bd (Zpw _ (by have:=hu _ ho.1 _ ha; unfold Str; omega)) fun _ _=>br! (fun _=>ok trivial) fun _=>bd (Y3w _ (by have:=hu _ ho.2 _ hb; omega)) fun _ _=>br! (fun _=>ok trivial) fun _=>h2) fun _=>h2
 have hcont : Ok (Zfw p c) (fun _=>True):=by
  unfold Zfw
  exact brE (fun _=>bd (Z4d p _ hl) fun a ha=>bd (Y1r _ (by have:=hu _ ho.1 _ ha; unfold Str; omega)) fun _ _=>brN (fun _=>ok trivial) fun _=>h1) fun _=>h1
 have hj : c.f_S.length ≤ 1024 → Ok (Z9t p c) (fun e=>e = 0 → c.f_S.length ≤ 1024):=fun hs=>by
  unfold Z9t j99x2
  refine br (fun _=>ok fun _=>hs) fun _=>br (fun _=>ok fun _=>hs) fun _=>br (fun _=>ok fun _=>hs) fun _=>bd (Y4e p c hl) fun _ _=>brN (fun _=>ok fun _=>hs) fun _=>bd hcont fun _ _=>ok fun _=>hs
 unfold Zg7
 refine bd (Y0a _) fun _ _=>br! (fun _=>ok (by simp)) fun _=>bd (Y39 c) fun b hb=>br! (fun _=>ok (by simp)) fun hf=>brE (fun ht=>brD (fun _=>ok (by simp)) fun hs=>?_) fun ht=>?_
 ·repeat' first
   | exact hj (by omega)
   | exact ok (by simp)
   | with_reducible refine brD (fun _=>?_) fun _=>?_
   | with_reducible refine brE (fun _=>?_) fun _=>?_
 ·have hS:=hb hf ht
  repeat' first
   | exact hj (by rw [hS]; simp)
   | exact ok (by simp)
   | with_reducible refine brD (fun _=>?_) fun _=>?_
   | with_reducible refine brE (fun _=>?_) fun _=>?_
theorem Zss (p : List Z00) (hp : Z1g p) : Ok (Zc2 p) (fun r=>r.2 = 0 → PS p 1024):=by
 have:=hp.len
 unfold Zc2
 refine brD (fun _=>ok (by simp)) fun _=>bd (P:=fun q : Unit ⊕ (Int × Int)=>match q with | .inl _=>PS p 1024 | .inr y=>y.2 ≠ 0) (lp (fun t=>t) p.length (fun t=>∀ (j : Nat) d,(j : Int) < t → p[j]? = some d → d.f_S.length ≤ 1024) (fun t hI h0 h1=>?_) (by omega) (fun j v h=>by omega) (by omega) (by omega)) fun q hq=>?_
 ·unfold l76x1
  refine brD (fun hlt=>?_) fun hge=>dn fun v hv=>?_
  ·refine bd (gri (by omega) (by omega)) fun c hc=>bd (Y03 p hp t.toNat c hc.2 fun j d hj hd=>hI j d (by omega) hd) fun e he=>brN (fun h=>bd (wr (by omega) (by omega)) fun _ _=>dn h) fun h=>bd (wr (by omega) (by omega)) fun v2 h2=>nx (fun j v hj hv=>?_) (by omega) (by omega)
   rcases Int.lt_or_le (j : Int) t with hlt | hge
   ·exact hI j v hlt hv
   ·have : j = t.toNat:=by omega
    subst this
    rw [hc.2] at hv; cases hv
    exact he h
  ·obtain ⟨j,hj⟩:=List.mem_iff_getElem?.1 hv
   exact hI j v (by have:=(List.getElem?_eq_some_iff.1 hj).1; omega) hj
 ·cases q with
  | inl _=>exact ok fun _=>hq
  | inr y=>exact ok fun h=>absurd h hq
end Go.Proofs
