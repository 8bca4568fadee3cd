/-
  That the models come to an answer, part five: instructions. No condition.
-/
import Derived.Test.YtoijcliccgjolaaGreatConT2
import Derived.Test.YtoijcliccgjolaaGreatConT4
set_option linter.unusedVariables false
namespace Go.Proofs
open Go.Den Go.Tot
theorem is_eq (x : Int) : Z9y x = some (decide (0 ≤ x ∧ x < 81)):=by
 unfold Z9y
 by_cases h : x ≥ 0
 ·rw [if_pos (by simpa using h)]; congr 1; simp [h]
 ·rw [if_neg (by simpa using h)]; congr 1; simp; omega
theorem Zoo (x a b : Int) : Z6h x a b = some (decide (a ≤ x ∧ x ≤ b)):=by
 unfold Z6h
 by_cases h : x ≥ a
 ·rw [if_pos (by simpa using h)]; congr 1; simp [h]
 ·rw [if_neg (by simpa using h)]; congr 1; simp; omega
def KindP (x k : Int) : Prop:=(k = 3 ↔ 36 ≤ x ∧ x ≤ 52) ∧ (k = 6 ↔ x = 53) ∧ (k = 7 ↔ x = 54) ∧ (k = -1 ↔ ¬(0 ≤ x ∧ x < 81)) ∧ -1 ≤ k ∧ k ≤ 7
theorem Ze0 (x : Int) : Ok (Z69 x) (KindP x):=by
 unfold Z69 Zhc Zh0
 simp only [is_eq,Zoo]
 unfold KindP
 repeat' first
  | with_reducible refine br! (fun _=>?_) fun _=>?_
  | with_reducible refine brD (fun _=>?_) fun _=>?_
  | with_reducible refine brE (fun _=>?_) fun _=>?_
  | with_reducible refine bs ?_
  | with_reducible refine ok ?_
  | (have h0:=of_decide_eq_true (by assumption : decide (0 ≤ x ∧ x < 81) = true); refine ⟨?_,?_,?_,?_,?_,?_⟩ <;> omega)
  | (have h0:=of_decide_eq_false (by assumption : decide (0 ≤ x ∧ x < 81) = false); refine ⟨?_,?_,?_,?_,?_,?_⟩ <;> omega)
theorem Zww (x : Int) : Zbk x = some (decide (36 ≤ x ∧ x ≤ 54)):=by
 unfold Zbk; rw [Zoo]; rfl
theorem Y3n (x : Z01) (hx : Z2t x) : Ok (Z09 (Zbd x) Z0a 0) (fun q=>match q with | .inl _=>∀ v ∈ x.Z0d,0 ≤ v ∧ v < 1000 | .inr b=>b = false):=by
 have:=hx.tos
 refine lp (fun t=>t) x.Z0d.length (fun t=>∀ (j : Nat) v,(j : Int) < t → x.Z0d[j]? = some v → 0 ≤ v ∧ v < 1000) (fun t hI h0 h1=>?_) (by omega) (fun j v h=>by omega) (by omega) (by omega)
 unfold Zbd
 refine brD (fun hlt=>?_) fun hge=>dn fun v hv=>?_
 ·obtain ⟨y,hy,hm,hi⟩:=gri (l:=x.Z0d) (i:=t) (by omega) hlt
  rw [hy]
  refine bs (brD (fun _=>dn rfl) fun _=>bs (brD (fun _=>dn rfl) fun _=>bd (wr (by omega) (by omega)) fun v2 h2=>nx (fun j v hj hv=>?_) (by omega) (by omega)))
  rcases Int.lt_or_le (j : Int) t with hlt | hge
  ·exact hI j v hlt hv
  ·have : j = t.toNat:=by omega
   subst this
   rw [hi] at hv; cases hv
   omega
 ·obtain ⟨j,hj⟩:=List.mem_iff_getElem?.1 hv
  exact hI j v (by have:=(List.getElem?_eq_some_iff.1 hj).1; omega) hj
theorem aims_ok (x : Z01) (hx : Z2t x) : Ok (Z7t x) (fun b=>b = true → 0 ≤ x.f_To ∧ x.f_To < 1000 ∧ ∀ v ∈ x.Z0d,0 ≤ v ∧ v < 1000):=by
 unfold Z7t
 refine brD (fun _=>ok fun h=>by cases h) fun _=>brD (fun _=>ok fun h=>by cases h) fun _=>?_
 unfold Zic
 refine bd (Y3n x hx) fun q hq=>?_
 cases q with
 | inl _=>exact ok fun _=>⟨by omega,by omega,hq⟩
 | inr b=>exact ok fun h=>by cases hq.symm.trans h
theorem keys_ok (x : Z01) (hx : Z2t x) : Ok (Zay x) (fun e=>e = 0 → (x.f_Op = 53 → 1 ≤ x.Z0d.length ∧ x.Z0d.length ≤ 64) ∧ (x.f_Op ≠ 53 → x.Z0r.length ≤ 64 ∧ x.Z0d.length = x.Z0r.length)):=by
 have:=hx.tos
 have:=hx.keys
 unfold Zay Zhl Zhv
 refine brE (fun _=>brE (fun _=>ok (by omega)) fun _=>brD (fun _=>ok (by omega)) fun _=>bd (Zmh _) fun v h=>br! (fun _=>ok (by omega)) fun _=>bd (wr (by omega) (by omega)) fun _ _=>bd (wr (by omega) (by omega)) fun _ _=>brD (fun _=>ok (by omega)) fun _=>ok (by omega)) fun _=>?_
 refine brD (fun _=>ok (by omega)) fun _=>brN (fun _=>ok (by omega)) fun _=>bd (Zqq x hx) fun q _=>?_
 have h : ∀ e : Int,Ok (some e) (fun e=>e = 0 → (x.f_Op = 53 → 1 ≤ x.Z0d.length ∧ x.Z0d.length ≤ 64) ∧ (x.f_Op ≠ 53 → x.Z0r.length ≤ 64 ∧ x.Z0d.length = x.Z0r.length)):=fun e=>ok fun _=>⟨by omega,by omega⟩
 cases q with
 | inl _ => refine bd (Zw7 x hx) fun q _=>?_
            cases q <;> exact h _
 | inr _=>exact h _
structure Z41 (x : Z01) : Prop where
 op : 0 ≤ x.f_Op ∧ x.f_Op < 81
 tab : x.f_Op = 53 → 1 ≤ x.Z0d.length ∧ x.Z0d.length ≤ 64
 look : x.f_Op = 54 → x.Z0r.length ≤ 64 ∧ x.Z0d.length = x.Z0r.length
 aim : 36 ≤ x.f_Op → x.f_Op ≤ 54 → 0 ≤ x.f_To ∧ ∀ v ∈ x.Z0d,0 ≤ v
 few : x.f_Op ≠ 53 → x.f_Op ≠ 54 → x.Z0d = []
theorem used_ok (x : Z01) (k : Int) : Ok (Zb1 x k) (fun b=>b = true → k ≠ 6 → k ≠ 7 → x.Z0d.length = 0):=by
 unfold Zb1 Ziu Zcm Zcc
 repeat' first
  | with_reducible refine br! (fun _=>?_) fun _=>?_
  | with_reducible refine brD (fun _=>?_) fun _=>?_
  | with_reducible refine brE (fun _=>?_) fun _=>?_
  | with_reducible refine brN (fun _=>?_) fun _=>?_
  | with_reducible refine br (fun _=>?_) fun _=>?_
  | with_reducible refine bs ?_
  | with_reducible refine ok ?_
  | (intro hb h6 h7; first | (cases hb; done) | (simp only [beq_iff_eq] at *; omega))
theorem Ze7 (x : Z01) (hx : Z2t x) : Ok (Z4v x) (fun e=>e = 0 → Z41 x):=by
 unfold Z4v
 refine bd (Ze0 x.f_Op) fun k hk=>brD (fun _=>ok (by omega)) fun hk0=>bd (used_ok x k) fun b hb=>br! (fun _=>ok (by omega)) fun hu=>?_
 obtain ⟨k3,k6,k7,km,k0,k1⟩:=hk
 have hfew:=hb hu
 have h5 : (k = 6 ∨ k = 7) → (0 ≤ x.f_To ∧ ∀ v ∈ x.Z0d,0 ≤ v) → Ok (Zak x) (fun e=>e = 0 → Z41 x):=fun h ha=>by
  unfold Zak
  exact bd (keys_ok x hx) fun v hv=>ok fun he=>⟨by omega,fun h=>(hv he).1 h,fun h=>(hv he).2 (by omega),fun _ _=>ha,fun _ _=>by omega⟩
 have h4 : (k = 3 ∨ k = 6 ∨ k = 7 → 0 ≤ x.f_To ∧ ∀ v ∈ x.Z0d,0 ≤ v) → Ok (Z8x k x) (fun e=>e = 0 → Z41 x):=fun ha=>by
  unfold Z8x
  exact brE (fun h=>h5 (.inl h) (ha (.inr (.inl h)))) fun h6=>brE (fun h=>h5 (.inr h) (ha (.inr (.inr h)))) fun h7=>ok fun _=>⟨by omega,by omega,by omega,fun h h'=>ha (by omega),fun _ _=>List.eq_nil_of_length_eq_zero (hfew h6 h7)⟩
 have ha : Ok (Z7t x) (fun b=>b = true → 0 ≤ x.f_To ∧ ∀ v ∈ x.Z0d,0 ≤ v):=(aims_ok x hx).mono fun b h hb=>⟨(h hb).1,fun v hv=>((h hb).2.2 v hv).1⟩
 have h3 : Ok (Zbx k x) (fun e=>e = 0 → Z41 x):=by
  unfold Zbx
  refine brE (fun _=>bd ha fun b hb=>br! (fun _=>ok (by omega)) fun h=>h4 fun _=>hb h) fun h3=>brE (fun _=>bd ha fun b hb=>br! (fun _=>ok (by omega)) fun h=>h4 fun _=>hb h) fun h6=>brE (fun _=>bd ha fun b hb=>br! (fun _=>ok (by omega)) fun h=>h4 fun _=>hb h) fun h7=>h4 fun h=>by omega
 have h2 : Ok (Za3 k x) (fun e=>e = 0 → Z41 x):=by
  unfold Za3
  exact brE (fun _=>brD (fun _=>ok (by omega)) fun _=>brD (fun _=>ok (by omega)) fun _=>h3) fun _=>h3
 have h1 : Ok (Z8o k x) (fun e=>e = 0 → Z41 x):=by
  unfold Z8o
  exact brE (fun _=>brD (fun _=>ok (by omega)) fun _=>brD (fun _=>ok (by omega)) fun _=>h2) fun _=>brE (fun _=>brD (fun _=>ok (by omega)) fun _=>brD (fun _=>ok (by omega)) fun _=>h2) fun _=>h2
 repeat' first
  | exact h1
  | with_reducible refine brE (fun _=>?_) fun _=>?_
  | with_reducible refine brD (fun _=>?_) fun _=>?_
  | exact ok (by omega)
theorem Zz4 (x : Int) : Ok (Zcj x) (fun n=>0 ≤ n ∧ n ≤ 3 ∧ (0 ≤ x → x < 81 → x ≠ 53 → x ≠ 54 → 1 ≤ n)):=by
 unfold Zcj Zoa Zpn Zmw
 refine bd (Ze0 x) fun k hk=>?_
 obtain ⟨k3,k6,k7,km,k0,k1⟩:=hk
 repeat' first
  | with_reducible refine brE (fun _=>?_) fun _=>?_
  | with_reducible refine ok ?_
  | exact ⟨by omega,by omega,by omega⟩
theorem Zwz (x : Z01) (hx : Z2t x) (hc : Z41 x) : Ok (Zgr x) (fun n=>0 ≤ n ∧ n ≤ 400):=by
 have:=hx.tos
 have:=hx.keys
 have:=hc.tab
 have:=hc.look
 unfold Zgr
 exact brE (fun _=>bd (wr (by omega) (by omega)) fun _ _=>bd (wr (by omega) (by omega)) fun _ _=>ok (by omega)) fun _=>brE (fun _=>bd (wr (by omega) (by omega)) fun _ _=>bd (wr (by omega) (by omega)) fun _ _=>ok (by omega)) fun _=>bd (Zz4 _) fun n hn=>ok (by omega)
theorem L60x1 (l : List Z01) (hl : ∀ i ∈ l,Z2t i) (hn : l.length ≤ 140737488355328) : Ok (Z09 (Zbl l) Z0a 0) (fun q=>match q with | .inl _=>∀ i ∈ l,Z41 i | .inr y=>y.2 ≠ 0 ∧ y.1 = []):=by
 refine lp (fun t=>t) l.length (fun t=>∀ (j : Nat) v,(j : Int) < t → l[j]? = some v → Z41 v) (fun t hI h0 h1=>?_) (by omega) (fun j v h=>by omega) (by omega) (by omega)
 unfold Zbl
 refine brD (fun hlt=>?_) fun hge=>dn fun v hv=>?_
 ·refine bd (gri (by omega) (by omega)) fun i hi=>bd (Ze7 i (hl i hi.1)) fun e he=>brN (fun h=>dn ⟨h,rfl⟩) fun h=>bd (wr (by omega) (by omega)) fun v2 h2=>nx (fun j v hj hv=>?_) (by omega) (by omega)
  rcases Int.lt_or_le (j : Int) t with hlt | hge
  ·exact hI j v hlt hv
  ·have : j = t.toNat:=by omega
   subst this
   rw [hi.2] at hv; cases hv
   exact he h
 ·obtain ⟨j,hj⟩:=List.mem_iff_getElem?.1 hv
  exact hI j v (by have:=(List.getElem?_eq_some_iff.1 hj).1; omega) hj
theorem Zpr (l : List Z01) (hl : ∀ i ∈ l,Z2t i) (hn : l.length ≤ 140737488355328) : Ok (Z62 l) (fun r=>(r.2 = 0 → r.1.length = l.length + 1 ∧ l.length ≤ 1000 ∧ ∀ i ∈ l,Z41 i) ∧ r.1.length ≤ 1001):=by
 unfold Z62
 refine bd (L60x1 l hl hn) fun q hq=>?_
 cases q with
 | inr y=>exact ok ⟨fun h=>absurd h hq.1,by rw [hq.2]; simp⟩
 | inl _=>
  refine brD (fun _=>ok ⟨by omega,by simp⟩) fun hs=>?_
  refine bd (P:=fun r=>r.length = l.length + 1) ?_ fun q2 hq2=>bd (ik (by omega) (by omega)) fun j hj=>bd (la (by omega)) fun _ _=>brD (fun _=>ok ⟨by omega,by simp⟩) fun _=>ok ⟨fun _=>⟨hq2,by omega,hq⟩,by dsimp only; omega⟩
  refine lp (fun t=>t.1) l.length (fun t=>(t.2.length : Int) = t.1 + 1 ∧ ∀ v ∈ t.2,0 ≤ v ∧ v ≤ 400 * t.1) (fun t hI h0 h1=>?_) (by omega) ⟨rfl,by simp⟩ (by dsimp only; omega) (by dsimp only; omega)
  obtain ⟨hI1,hI2⟩:=hI
  unfold Zkg
  refine brD (fun hlt=>?_) fun hge=>dn (by omega)
  refine bd (ik (by omega) (by omega)) fun j hj=>bd (la (by omega)) fun v hv=>bd (gr (by omega) (by omega)) fun i hi=>bd (Zwz i (hl i hi) (hq i hi)) fun n hn=>?_
  have hv2:=hI2 v hv.2
  refine bd (wr (by omega) (by omega)) fun w hw=>bd (gk (by simp only [List.length_append,List.length_cons,List.length_nil]; omega) (by simp only [List.length_append,List.length_cons,List.length_nil]; omega)) fun _ _=>bd (wr (by omega) (by omega)) fun k hk=>?_
  refine nx ⟨by simp only [List.length_append,List.length_cons,List.length_nil]; omega,Z7b (fun v hv=>?_) ?_⟩ (by dsimp only; omega) (by dsimp only; omega)
  ·have:=hI2 v hv; dsimp only; omega
  ·dsimp only; omega
theorem Z72 (s : List UInt8) (a n : Int) (hn : n = 1 ∨ n = 2 ∨ n = 4) (hs : Str s) : Ok (Z5x s a n) (Us n):=bd (Zcz s a n hn hs) fun v h=>ok h.2
theorem Zj5 (s : List UInt8) (a n : Int) (hn : n = 1 ∨ n = 2 ∨ n = 4) (hs : Str s) : Ok (Zb6 s a n) (fun _=>True):=bd (Zrj s a n hn hs) fun v h=>ok trivial
theorem need_ok (s : List UInt8) (a op : Int) (hs : Str s) (h0 : 0 ≤ a) (h1 : a ≤ s.length) (ho : 0 ≤ op) (h81 : op < 81) : Ok (Ze3 s a op) (fun n=>n < 0 ∨ (1 ≤ n ∧ a + n ≤ s.length)):=by
 have h4 : ∀ p : Int,1 ≤ p → p ≤ 1000000 → Ok (Zeb s a p) (fun n=>n < 0 ∨ (1 ≤ n ∧ a + n ≤ s.length)):=fun p hp hp'=>by
  unfold Zeb
  exact bd (wr (by omega) (by omega)) fun v hv=>brD (fun _=>ok (by omega)) fun _=>ok (by omega)
 have h2 : ∀ p q : Int,5 ≤ p → p ≤ 9 → 0 ≤ q → q ≤ 6 → Ok (Zdc s a p q) (fun n=>n < 0 ∨ (1 ≤ n ∧ a + n ≤ s.length)):=fun p q hp hp' hq hq'=>by
  unfold Zdc Zma
  refine bd (wr (by omega) (by omega)) fun v1 e1=>bd (wr (by omega) (by omega)) fun v2 e2=>bd (Zcz s v2 2 (by omega) hs) fun v3 e3=>bd (wr (by omega) (by omega)) fun v4 e4=>brD (fun _=>ok (by omega)) fun _=>brN (fun _=>ok (by omega)) fun _=>?_
  have hu:=e3.2.2.2.1 rfl
  have hu0:=e3.2.1
  have hm : 0 ≤ q * v3.1 ∧ q * v3.1 ≤ 6 * 65536:=⟨Int.mul_nonneg hq hu0,Int.le_trans (Int.mul_le_mul_of_nonneg_right hq' hu0) (by omega)⟩
  exact bd (wr (by omega) (by omega)) fun v5 e5=>bd (wr (by omega) (by omega)) fun v6 e6=>h4 v6 (by omega) (by omega)
 unfold Ze3 Zl9
 exact bd (Zz4 op) fun n hn=>brE (fun _=>brE (fun _=>h2 5 6 (by omega) (by omega) (by omega) (by omega)) fun _=>h2 9 2 (by omega) (by omega) (by omega) (by omega)) fun _=>brE (fun _=>brE (fun _=>h2 5 6 (by omega) (by omega) (by omega) (by omega)) fun _=>h2 9 2 (by omega) (by omega) (by omega) (by omega)) fun _=>h4 n (by omega) (by omega)
theorem L164x1 (n : Int) (s : List UInt8) (a : Int) (hs : Str s) (h0 : 0 ≤ a) (h1 : a ≤ s.length) (hn : 0 ≤ n) (hn' : n < 65536) : Ok (Z09 (Zgj n s a) Z0a (0,([] : List Int))) (fun r=>r.length ≤ 65536):=by
 refine lp (fun t=>t.1) n (fun t=>(t.2.length : Int) = t.1) (fun t hI g0 g1=>?_) (by omega) rfl (by dsimp only; omega) (by dsimp only; omega)
 unfold Zgj
 refine brD (fun hlt=>bd (wr (by omega) (by omega)) fun v1 e1=>bd (wr (by omega) (by omega)) fun v2 e2=>bd (wr (by omega) (by omega)) fun v3 e3=>bd (Z72 s v3 2 (by omega) hs) fun v4 e4=>?_) fun _=>dn (by omega)
 exact bd (gk (by simp only [List.length_append,List.length_cons,List.length_nil]; omega) (by simp only [List.length_append,List.length_cons,List.length_nil]; omega)) fun _ _=>bd (wr (by omega) (by omega)) fun k hk=>nx (by simp only [List.length_append,List.length_cons,List.length_nil]; omega) (by dsimp only; omega) (by dsimp only; omega)
theorem L164x2 (n : Int) (s : List UInt8) (a : Int) (hs : Str s) (h0 : 0 ≤ a) (h1 : a ≤ s.length) (hn : 0 ≤ n) (hn' : n < 65536) : Ok (Z09 (Zhw n s a) Z0a (0,([] : List Int),([] : List Int))) (fun r=>r.1.length ≤ 65536 ∧ r.2.length ≤ 65536):=by
 refine lp (fun t=>t.1) n (fun t=>(t.2.1.length : Int) = t.1 ∧ (t.2.2.length : Int) = t.1) (fun t hI g0 g1=>?_) (by omega) ⟨rfl,rfl⟩ (by dsimp only; omega) (by dsimp only; omega)
 unfold Zhw
 refine brD (fun hlt=>bd (wr (by omega) (by omega)) fun v1 e1=>bd (wr (by omega) (by omega)) fun v2 e2=>bd (wr (by omega) (by omega)) fun v3 e3=>bd (Zj5 s v3 4 (by omega) hs) fun v4 e4=>?_) fun _=>dn (by dsimp only at *; omega)
 refine bd (gk (by simp only [List.length_append,List.length_cons,List.length_nil]; omega) (by simp only [List.length_append,List.length_cons,List.length_nil]; omega)) fun _ _=>bd (wr (by omega) (by omega)) fun _ _=>bd (wr (by omega) (by omega)) fun _ _=>bd (wr (by omega) (by omega)) fun v5 _=>bd (Z72 s v5 2 (by omega) hs) fun _ _=>?_
 exact bd (gk (by simp only [List.length_append,List.length_cons,List.length_nil]; omega) (by simp only [List.length_append,List.length_cons,List.length_nil]; omega)) fun _ _=>bd (wr (by omega) (by omega)) fun k hk=>nx (by simp only [List.length_append,List.length_cons,List.length_nil]; omega) (by dsimp only; omega) (by dsimp only; omega)
def TkI (i : Z01) : Prop:=i.Z0r.length ≤ 65536 ∧ i.Z0d.length ≤ 65536 ∧ i.Z15 = { Z0o:=[],Z02:=[],Z1h:=[] } ∧ i.f_S = []
theorem TkI.w {i : Z01} (h : TkI i) : Z2t i:=⟨by have:=h.1; omega,by have:=h.2.1; omega,by rw [h.2.2.1]; exact ⟨by simp,by simp,by simp⟩,by rw [h.2.2.2]; simp⟩
theorem take_ok (s : List UInt8) (a op : Int) (hs : Str s) (h0 : 0 ≤ a) (h1 : a ≤ s.length) : Ok (Zi2 s a op) TkI:=by
 unfold Zi2
 have z : ∀ x y w v,TkI { f_Op:=x,f_A:=y,f_B:=w,f_To:=v,Z0r:=[],Z0d:=[],Z15:={ Z0o:=[],Z02:=[],Z1h:=[] },f_S:=[] }:=fun _ _ _ _=>⟨by simp,by simp,rfl,rfl⟩
 refine bd (Ze0 op) fun k _=>brE (fun _=>?_) fun _=>brE (fun _=>?_) fun _=>brE (fun _=>?_) fun _=>brE (fun _=>?_) fun _=>brE (fun _=>?_) fun _=>brE (fun _=>?_) fun _=>brE (fun _=>?_) fun _=>ok (z _ _ _ _)
 ·exact bd (wr (by omega) (by omega)) fun _ _=>bd (Zj5 s _ 1 (by omega) hs) fun _ _=>ok (z _ _ _ _)
 ·exact bd (wr (by omega) (by omega)) fun _ _=>bd (Z72 s _ 2 (by omega) hs) fun _ _=>ok (z _ _ _ _)
 ·exact bd (wr (by omega) (by omega)) fun _ _=>bd (Z72 s _ 2 (by omega) hs) fun _ _=>ok (z _ _ _ _)
 ·exact bd (wr (by omega) (by omega)) fun _ _=>bd (Z72 s _ 1 (by omega) hs) fun _ _=>ok (z _ _ _ _)
 ·exact bd (wr (by omega) (by omega)) fun _ _=>bd (Z72 s _ 1 (by omega) hs) fun _ _=>bd (wr (by omega) (by omega)) fun _ _=>bd (Zj5 s _ 1 (by omega) hs) fun _ _=>ok (z _ _ _ _)
 ·refine bd (wr (by omega) (by omega)) fun _ _=>bd (Z72 s _ 2 (by omega) hs) fun _ _=>bd (wr (by omega) (by omega)) fun _ _=>bd (Zj5 s _ 4 (by omega) hs) fun _ _=>bd (wr (by omega) (by omega)) fun _ _=>bd (Z72 s _ 2 (by omega) hs) fun n hn=>?_
  exact bd (L164x1 n s a hs h0 h1 hn.1 (hn.2.2.1 rfl)) fun q hq=>ok ⟨by simp,hq,rfl,rfl⟩
 ·refine bd (wr (by omega) (by omega)) fun _ _=>bd (Z72 s _ 2 (by omega) hs) fun _ _=>bd (wr (by omega) (by omega)) fun _ _=>bd (Z72 s _ 2 (by omega) hs) fun n hn=>?_
  exact bd (L164x2 n s a hs h0 h1 hn.1 (hn.2.2.1 rfl)) fun q hq=>ok ⟨hq.1,hq.2,rfl,rfl⟩
theorem Zw3 (l : List Int) (x : Int) (hl : l.length ≤ 140737488355328) : Ok (Zbp l x) (fun k=>k < l.length):=by
 unfold Zbp
 refine bd (P:=fun q : Unit ⊕ Int=>match q with | .inl _=>True | .inr y=>y < l.length) (li l.length (fun t h0 h1=>?_) (by omega) (by omega) (by omega)) fun q hq=>?_
 ·unfold Zno
  exact brD (fun _=>bd (gr (by omega) (by omega)) fun v _=>br (fun _=>di (by assumption)) fun _=>bd (wr (by omega) (by omega)) fun _ _=>ni (by omega) (by omega)) fun _=>di trivial
 ·cases q with
  | inl _=>exact ok (by omega)
  | inr y=>exact ok hq
theorem L153x1 (s : List UInt8) (hs : s.length ≤ 20000) : Ok (Z09 (Zej s) Z0a (0,([] : List Z01),([] : List Int))) (fun q=>match q with | .inl q=>(∀ i ∈ q.1,TkI i) ∧ q.1.length ≤ 20000 ∧ q.2.length ≤ 20000 | .inr y=>y.2 ≠ 0):=by
 refine lp (fun t=>t.1) s.length (fun t=>(∀ i ∈ t.2.1,TkI i) ∧ (t.2.1.length : Int) ≤ t.1 ∧ (t.2.2.length : Int) ≤ t.1) (fun t hI h0 h1=>?_) (by omega) ⟨Z3x,by simp,by simp⟩ (by dsimp only; omega) (by dsimp only; omega)
 obtain ⟨hI1,hI2,hI3⟩:=hI
 unfold Zej
 refine brD (fun hlt=>?_) fun _=>dn ⟨hI1,by dsimp only at *; omega,by dsimp only at *; omega⟩
 refine bd (gs (by omega) (by omega)) fun v hv=>bd (wr (by omega) (by omega)) fun op hop=>brD (fun _=>dn (by simp)) fun _=>bd (need_ok s t.1 op (by unfold Str; omega) h0 (by omega) (by omega) (by omega)) fun n hn=>brD (fun _=>dn (by simp)) fun _=>?_
 refine bd (take_ok s t.1 op (by unfold Str; omega) h0 (by omega)) fun i hi=>?_
 refine bd (gk (by simp only [List.length_append,List.length_cons,List.length_nil]; omega) (by simp only [List.length_append,List.length_cons,List.length_nil]; omega)) fun _ _=>?_
 refine bd (gk (by simp only [List.length_append,List.length_cons,List.length_nil]; omega) (by simp only [List.length_append,List.length_cons,List.length_nil]; omega)) fun _ _=>bd (wr (by omega) (by omega)) fun k hk=>?_
 exact nx ⟨Z7b hI1 hi,by simp only [List.length_append,List.length_cons,List.length_nil]; omega,by simp only [List.length_append,List.length_cons,List.length_nil]; omega⟩ (by dsimp only; omega) (by dsimp only; omega)
theorem L153x3 (ps : List Int) (l : List Int) (hp : ps.length ≤ 20000) (hl : l.length ≤ 65536) : Ok (Z09 (Z8y ps l.length) Z0a (0,l)) (fun q=>match q with | .inl r=>r.length = l.length | .inr y=>y.2 ≠ 0):=by
 refine lp (fun t=>t.1) l.length (fun t=>t.2.length = l.length) (fun t hI h0 h1=>?_) (by omega) rfl (by dsimp only; omega) (by dsimp only; omega)
 unfold Z8y
 refine brD (fun hlt=>?_) fun _=>dn hI
 refine bd (ik (by omega) (by omega)) fun j hj=>bd (la (by omega)) fun v hv=>bd (Zw3 ps v (by omega)) fun y hy=>bd (la (by rw [List.length_set]; omega)) fun z hz=>brD (fun _=>dn (by simp)) fun _=>bd (wr (by omega) (by omega)) fun k hk=>?_
 exact nx (by dsimp only; rw [List.length_set]; exact hI) (by dsimp only; omega) (by dsimp only; omega)
theorem L153x2 (ps : List Int) (l : List Z01) (hp : ps.length ≤ 20000) (hl : ∀ i ∈ l,TkI i) (hn : l.length ≤ 20000) : Ok (Z09 (Zch ps) Z0a (0,l)) (fun q=>match q with | .inl r=>(∀ i ∈ r,TkI i) ∧ r.length = l.length | .inr y=>y.2 ≠ 0):=by
 refine lp (fun t=>t.1) l.length (fun t=>(∀ i ∈ t.2,TkI i) ∧ t.2.length = l.length) (fun t hI h0 h1=>?_) (by omega) ⟨hl,rfl⟩ (by dsimp only; omega) (by dsimp only; omega)
 obtain ⟨hI1,hI2⟩:=hI
 unfold Zch
 refine brD (fun hlt=>?_) fun _=>dn ⟨hI1,hI2⟩
 refine bd (ik (by omega) (by omega)) fun j hj=>bd (la (by omega)) fun v hv=>?_
 rw [Zww]
 refine bs (br! (fun _=>bd (wr (by omega) (by omega)) fun k hk=>nx ⟨hI1,hI2⟩ (by dsimp only; omega) (by dsimp only; omega)) fun _=>?_)
 have hi:=hI1 v hv.2
 refine bd (Zw3 ps _ (by omega)) fun y hy=>brD (fun _=>dn (by simp)) fun _=>bd (L153x3 ps v.Z0d hp hi.2.1) fun q hq=>?_
 cases q with
 | inr y=>exact dn hq
 | inl r=>
  refine bd (wr (by omega) (by omega)) fun k hk=>nx ⟨fun i hi'=>?_,by dsimp only; rw [List.length_set]; exact hI2⟩ (by dsimp only; omega) (by dsimp only; omega)
  rcases List.mem_or_eq_of_mem_set hi' with h | rfl
  ·exact hI1 i h
  ·exact ⟨hi.1,by have:=hi.2.1; dsimp only at *; omega,hi.2.2.1,hi.2.2.2⟩
theorem dec_ok (s : List UInt8) : Ok (Zbr s) (fun r=>r.2 = 0 → (∀ i ∈ r.1,TkI i) ∧ r.1.length ≤ 20000):=by
 unfold Zbr
 refine brD (fun _=>ok (by simp)) fun hs=>bd (L153x1 s (by omega)) fun q hq=>?_
 cases q with
 | inr y=>exact ok fun h=>absurd h hq
 | inl q=>
  obtain ⟨h1,h2,h3⟩:=hq
  refine brD (fun _=>ok (by simp)) fun _=>bd (L153x2 q.2 q.1 h3 h1 h2) fun q7 hq7=>?_
  cases q7 with
  | inr y=>exact ok fun h=>absurd h hq7
  | inl l=>
   obtain ⟨k1,k2⟩:=hq7
   refine bd (P:=fun q : Unit ⊕ (List Z01 × Int)=>match q with | .inl _=>True | .inr y=>y.2 ≠ 0) (li l.length (fun t h0 h1=>?_) (by omega) (by omega) (by omega)) fun q9 hq9=>?_
   ·unfold Zir
    exact brD (fun _=>bd (ik (by omega) (by omega)) fun j hj=>bd (la (by omega)) fun v hv=>bd (Ze7 v (k1 v hv.2).w) fun e _=>brN (fun h=>di h) fun _=>bd (wr (by omega) (by omega)) fun _ _=>ni (by omega) (by omega)) fun _=>di trivial
   ·cases q9 with
    | inl _=>exact ok fun _=>⟨k1,by dsimp only; omega⟩
    | inr y=>exact ok fun h=>absurd h hq9
end Go.Proofs
