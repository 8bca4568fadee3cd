/-
  That the models come to an answer, part four: numbers in strings, readers. No condition.
-/
import Derived.Test.YtoijcliccgjolaaGreatConT1
set_option linter.unusedVariables false
namespace Go.Proofs
open Go.Den Go.Tot
theorem Y0p (l : List Int) : (bytesOf l).length = l.length:=by simp [bytesOf]
theorem Ztc {n : Int} (hn : n = 1 ∨ n = 2 ∨ n = 4) : Zgi n = some true:=by
 rcases hn with rfl | rfl | rfl <;> rfl
theorem L62x1 (x n k : Int) (l : List Int) (hk : k = n - 1) (h0 : 0 ≤ n) (hl : (l.length : Int) = n) (hn : n ≤ 8) : Ok (Z09 Zhr Z0a (x,k,l)) (fun r=>(r.length : Int) = n):=by
 refine lp (fun t=>n - 1 - t.2.1) n (fun t=>(t.2.2.length : Int) = n) (fun t hI h0 h1=>?_) (by omega) hl (by dsimp only; omega) (by dsimp only; omega)
 unfold Zhr
 refine brD (fun hlt=>?_) fun hge=>dn hI
 refine bs (bs (bd (ik (by omega) (by omega)) fun j hj=>bd (la (by omega)) fun _ _=>?_))
 refine bd (P:=fun _=>True) ⟨_,by unfold shrK; rw [if_pos (by decide)],trivial⟩ fun _ _=>bd (wr (by omega) (by omega)) fun v hv=>nx ?_ (by dsimp only; omega) (by dsimp only; omega)
 dsimp only
 rw [List.length_set]; exact hI
theorem Zdl (x n : Int) (hn : n = 1 ∨ n = 2 ∨ n = 4) : Ok (Z95 x n) (fun r=>(r.1.length : Int) ≤ n):=by
 have hj : Ok (Zem x n) (fun r=>(r.1.length : Int) ≤ n):=by
  unfold Zem
  refine bd (mk (by omega) (by omega) (by omega) (by omega)) fun _ _=>bd (wr (by omega) (by omega)) fun k hk=>?_
  exact bd (L62x1 x n k _ hk (by omega) (by simp; omega) (by omega)) fun q hq=>ok (by dsimp only; rw [Y0p]; omega)
 unfold Z95
 rw [Ztc hn]
 refine bs (br! (fun h=>by cases h) fun _=>brD (fun _=>?_) fun _=>hj)
 have hs : ∀ y : Int,0 ≤ y → Ok (Z6d .i64 1 y) (fun _=>True):=fun y hy=>⟨_,by unfold Z6d; rw [if_pos hy],trivial⟩
 refine bd (wr (by omega) (by omega)) fun _ _=>bd (wr (by omega) (by omega)) fun _ _=>bd (hs _ (by omega)) fun _ _=>bs (brD (fun _=>ok (by dsimp only; simp; omega)) fun _=>?_)
 exact bd (wr (by omega) (by omega)) fun _ _=>bd (hs _ (by omega)) fun _ _=>bs (brD (fun _=>ok (by dsimp only; simp; omega)) fun _=>hj)
theorem Zsg (x : Int) : Ok (Zfj x) (fun r=>r.length ≤ 2):=bd (Zdl x 2 (.inr (.inl rfl))) fun v h=>ok (by omega)
theorem Z4m (x : Int) : Ok (Z48 x) (fun r=>r.length ≤ 2):=bd (Zdl x 2 (.inr (.inl rfl))) fun v h=>ok (by omega)
theorem Znc (x : Int) : Ok (Zdo x) (fun r=>r.length ≤ 1):=bd (Zdl x 1 (.inl rfl)) fun v h=>ok (by omega)
theorem Y01 (x n : Int) (hn : n = 1 ∨ n = 2 ∨ n = 4) : Ok (Z4c x n) (fun r=>r.length ≤ 4):=bd (Zdl x n hn) fun v h=>ok (by omega)
theorem Y0s (s : List UInt8) (a n : Int) (hn : n = 1 ∨ n = 2 ∨ n = 4) (hl : Str s) : Ok (Zg8 s a n) (fun e=>e = 0 → 0 ≤ a ∧ a + n ≤ s.length):=by
 unfold Zg8
 rw [Ztc hn]
 refine bs (br! (fun h=>by cases h) fun _=>brD (fun _=>ok (by omega)) fun _=>brD (fun _=>ok (by omega)) fun _=>?_)
 unfold Znk
 exact bd (wr (by omega) (by omega)) fun v hv=>brD (fun _=>ok (by omega)) fun _=>ok (by omega)
def Sg (n v : Int) : Prop:=(n = 1 ∧ -128 ≤ v ∧ v < 128) ∨ (n = 2 ∧ -32768 ≤ v ∧ v < 32768) ∨ (n = 3 ∧ -8388608 ≤ v ∧ v < 8388608) ∨ (n = 4 ∧ -2147483648 ≤ v ∧ v < 2147483648)
theorem L134x1 (s : List UInt8) (a n p : Int) (hn : 1 ≤ n ∧ n ≤ 4) (hl : Str s) (h0 : 0 ≤ a) (h1 : a + n ≤ s.length) (hp : -128 ≤ p ∧ p < 128) : Ok (Z09 (Zin s a n) Z0a (p,1)) (Sg n):=by
 refine lp (fun t=>t.2) n (fun t=>Sg t.2 t.1) (fun t hI g0 g1=>?_) (by omega) (.inl ⟨rfl,hp⟩) (by dsimp only; omega) (by dsimp only; omega)
 unfold Zin
 unfold Sg at hI
 refine brD (fun hlt => ?_) fun hge => dn (by have : t.2 = n:=by omega
                                              rw [← this]; exact hI)
 refine bd (wr (by omega) (by omega)) fun v9 e9=>bd (wr (by omega) (by omega)) fun v10 e10=>bd (gs (by omega) (by omega)) fun v11 e11=>bd (wr (by omega) (by omega)) fun v12 e12=>bd (wr (by omega) (by omega)) fun v13 e13=>bd (wr (by omega) (by omega)) fun v14 e14=>?_
 exact nx (by dsimp only; unfold Sg; omega) (by dsimp only; omega) (by dsimp only; omega)
theorem Zrj (s : List UInt8) (a n : Int) (hn : n = 1 ∨ n = 2 ∨ n = 4) (hl : Str s) : Ok (Ze4 s a n) (fun r=>(r.2 = 0 → 0 ≤ a ∧ a + n ≤ s.length ∧ Sg n r.1) ∧ (r.2 ≠ 0 → r.1 = 0)):=by
 unfold Ze4
 refine bd (Y0s s a n hn hl) fun v0 h0=>brN (fun h=>ok ⟨fun h'=>absurd h' h,fun _=>rfl⟩) fun h=>?_
 obtain ⟨k0,k1⟩:=h0 h
 refine bd (gs (by omega) (by omega)) fun v1 h1=>bd (wr (by omega) (by omega)) fun v2 h2=>?_
 have key : ∀ p : Int,-128 ≤ p → p < 128 → Ok (Zc9 s a n p) (fun r=>(r.2 = 0 → 0 ≤ a ∧ a + n ≤ s.length ∧ Sg n r.1) ∧ (r.2 ≠ 0 → r.1 = 0)):=fun p h h'=>by
  unfold Zc9
  exact bd (L134x1 s a n p (by omega) hl k0 k1 ⟨h,h'⟩) fun q hq=>ok ⟨fun _=>⟨k0,k1,hq⟩,fun h=>absurd rfl h⟩
 exact brD (fun _=>bd (wr (by omega) (by omega)) fun v3 h3=>key v3 (by omega) (by omega)) fun _=>key v2 (by omega) (by omega)
def Us (n v : Int) : Prop:=0 ≤ v ∧ (n = 1 → v < 256) ∧ (n = 2 → v < 65536) ∧ (n = 4 → v < 4294967296)
theorem Zcz (s : List UInt8) (a n : Int) (hn : n = 1 ∨ n = 2 ∨ n = 4) (hl : Str s) : Ok (Z8t s a n) (fun r=>(r.2 = 0 → 0 ≤ a ∧ a + n ≤ s.length) ∧ Us n r.1):=by
 unfold Z8t
 refine bd (Zrj s a n hn hl) fun v h=>?_
 have h2:=h.2
 refine brE (fun he=>?_) fun he=>ok ⟨fun h'=>absurd h' he,by dsimp only; unfold Us; rw [h2 he]; omega⟩
 obtain ⟨h0,h1,hs⟩:=h.1 he
 unfold Sg at hs
 refine brD (fun _=>brD (fun hneg=>?_) fun hnn=>ok ⟨fun _=>⟨h0,h1⟩,by dsimp only; unfold Us; omega⟩) fun hlt=>absurd hlt (by omega)
 unfold Zo2
 rcases hn with rfl | rfl | rfl
 ·refine bd (wr (by omega) (by omega)) fun v1 e1=>?_
  subst e1
  rw [show Z6d .i64 1 (8 * 1) = some 256 by decide]
  exact bs (bd (wr (by omega) (by omega)) fun v3 e3=>ok ⟨fun _=>⟨h0,h1⟩,by dsimp only; unfold Us; omega⟩)
 ·refine bd (wr (by omega) (by omega)) fun v1 e1=>?_
  subst e1
  rw [show Z6d .i64 1 (8 * 2) = some 65536 by decide]
  exact bs (bd (wr (by omega) (by omega)) fun v3 e3=>ok ⟨fun _=>⟨h0,h1⟩,by dsimp only; unfold Us; omega⟩)
 ·refine bd (wr (by omega) (by omega)) fun v1 e1=>?_
  subst e1
  rw [show Z6d .i64 1 (8 * 4) = some 4294967296 by decide]
  exact bs (bd (wr (by omega) (by omega)) fun v3 e3=>ok ⟨fun _=>⟨h0,h1⟩,by dsimp only; unfold Us; omega⟩)
def Z4k (s : List UInt8) (r : Z12) : Prop:=r.f_S = s ∧ 0 ≤ r.f_At ∧ r.f_At ≤ s.length
theorem Z3p (s : List UInt8) (r : Z12) (n : Int) (hn : n = 1 ∨ n = 2 ∨ n = 4) (hl : Str s) (hr : Z4k s r) : Ok (Z3f r n) (fun x=>Us n x.1 ∧ Z4k s x.2):=by
 obtain ⟨h1,h2,h3⟩:=hr
 unfold Z3f
 rw [h1]
 refine bd (Zcz s r.f_At n hn hl) fun v hv=>br (fun _=>ok ⟨by dsimp only; unfold Us; omega,rfl,h2,h3⟩) fun _=>brN (fun _=>ok ⟨by dsimp only; unfold Us; omega,rfl,h2,h3⟩) fun he=>?_
 obtain ⟨k0,k1⟩:=hv.1 he
 exact bd (wr (by omega) (by omega)) fun v1 e1=>ok ⟨hv.2,rfl,by dsimp only; omega,by dsimp only; omega⟩
abbrev SL_:=Int × (List UInt8) × Int × Bool × (List Z0f)
def IL (s : List UInt8) (t : SL_) : Prop:=Z4k s ⟨t.2.1,t.2.2.1,t.2.2.2.1⟩ ∧ (t.2.2.2.2.length : Int) = t.1 ∧ ∀ v ∈ t.2.2.2.2,v.Z1k.Z02 = []
def QL (s : List UInt8) (q : (List UInt8) × Int × Bool × (List Z0f)) : Prop:=Z4k s ⟨q.1,q.2.1,q.2.2.1⟩ ∧ q.2.2.2.length ≤ 256 ∧ ∀ v ∈ q.2.2.2,v.Z1k.Z02 = []
theorem Z7b {α : Type} {P : α → Prop} {l : List α} {x : α} (h : ∀ v ∈ l,P v) (hx : P x) : ∀ v ∈ l ++ [x],P v:=fun v hv=>by
 rcases List.mem_append.1 hv with hv | hv
 ·exact h v hv
 ·rw [List.mem_singleton.1 hv]; exact hx
theorem Zog {s : List UInt8} {n p11 p13 p15 : Int} {t0 : SL_} {v5 : Int × Z12} {p12 : List UInt8} {p14 : Bool} (hI : IL s t0) (hr : Z4k s ⟨p12,p13,p14⟩) (h0 : 0 ≤ t0.1) (h1 : t0.1 < n) (hn : n ≤ 256) : Ok (Zat p11 t0 v5 p12 p13 p14 p15) (St (IL s) (fun t=>t.1) n (QL s) t0):=by
 unfold Zat
 have:=hI.2.1
 refine bd (gk (by simp only [List.length_append,List.length_cons,List.length_nil]; omega) (by simp only [List.length_append,List.length_cons,List.length_nil]; omega)) fun _ _=>bd (wr (by omega) (by omega)) fun _ hv=>?_
 exact nx ⟨hr,by simp only [List.length_append,List.length_cons,List.length_nil]; omega,Z7b hI.2.2 rfl⟩ (by dsimp only; omega) (by dsimp only; omega)
theorem Zsk {s : List UInt8} (hs : Str s) {n p9 p11 : Int} {t0 : SL_} {v5 : Int × Z12} {p8 : List UInt8} {p10 : Bool} (hI : IL s t0) (hr : Z4k s ⟨p8,p9,p10⟩) (h0 : 0 ≤ t0.1) (h1 : t0.1 < n) (hn : n ≤ 256) : Ok (Zc6 t0 v5 p8 p9 p10 p11) (St (IL s) (fun t=>t.1) n (QL s) t0):=by
 unfold Zc6
 refine brD (fun _=>brD (fun _=>?_) fun _=>Zog hI hr h0 h1 hn) fun _=>Zog hI hr h0 h1 hn
 unfold Zpx
 exact bd (Z3p s _ 2 (by omega) hs hr) fun v hv=>Zog hI hv.2 h0 h1 hn
theorem Zxw (s : List UInt8) (r : Z12) (hs : Str s) (hr : Z4k s r) : Ok (Zdw r) (fun x=>(x.1.length ≤ 256 ∧ ∀ v ∈ x.1,v.Z1k.Z02 = []) ∧ Z4k s x.2):=by
 unfold Zdw
 refine bd (Z3p s r 1 (by omega) hs hr) fun v0 h0=>bd (P:=QL s) ?_ fun q hq=>ok ⟨hq.2,hq.1⟩
 have hu : 0 ≤ v0.1 ∧ v0.1 < 256:=⟨h0.1.1,h0.1.2.1 rfl⟩
 refine lp (fun t=>t.1) v0.1 (IL s) (fun t hI g0 g1=>?_) (by omega) ⟨h0.2,rfl,fun v hv=>by simp at hv⟩ (by dsimp only; omega) (by dsimp only; omega)
 have hl:=hI.2.1
 have hd : QL s (t.2.1,t.2.2.1,t.2.2.2.1,t.2.2.2.2):=⟨hI.1,by dsimp only at *; omega,hI.2.2⟩
 unfold Zqa
 refine brD (fun hlt=>br! (fun _=>?_) fun _=>dn hd) fun _=>dn hd
 unfold Zpi
 exact bd (Z3p s _ 1 (by omega) hs hI.1) fun v5 h5=>brE (fun _=>bd (Z3p s _ 2 (by omega) hs h5.2) fun v6 h6=>Zsk hs hI h6.2 g0 hlt (by omega)) fun _=>Zsk hs hI h5.2 g0 hlt (by omega)
def RdT {α : Type} (s : List UInt8) (B : Nat) (P : α → Prop) (q : (List UInt8) × Int × Bool × (List α)) : Prop:=Z4k s ⟨q.1,q.2.1,q.2.2.1⟩ ∧ q.2.2.2.length ≤ B ∧ ∀ v ∈ q.2.2.2,P v
def RdI {α : Type} (s : List UInt8) (P : α → Prop) (t : Int × (List UInt8) × Int × Bool × (List α)) : Prop:=Z4k s ⟨t.2.1,t.2.2.1,t.2.2.2.1⟩ ∧ (t.2.2.2.2.length : Int) = t.1 ∧ ∀ v ∈ t.2.2.2.2,P v
theorem rdL {α : Type} {s : List UInt8} {P : α → Prop} {n p2 : Int} {p1 : List UInt8} {p3 : Bool} (hn : 0 ≤ n ∧ n < 65536) (hr : Z4k s ⟨p1,p2,p3⟩) {f : Int × (List UInt8) × Int × Bool × (List α) → Option (Ctl (Int × (List UInt8) × Int × Bool × (List α)) ((List UInt8) × Int × Bool × (List α)))}
  (h : ∀ t,RdI s P t → 0 ≤ t.1 → t.1 ≤ n → RdT s 65536 P (t.2.1,t.2.2.1,t.2.2.2.1,t.2.2.2.2) → Ok (f t) (St (RdI s P) (fun t=>t.1) n (RdT s 65536 P) t)) : Ok (Z09 f Z0a (0,p1,p2,p3,[])) (RdT s 65536 P):=
 lp (fun t=>t.1) n (RdI s P) (fun t hI g0 g1=>h t hI g0 g1 ⟨hI.1,by have:=hI.2.1; dsimp only at *; omega,hI.2.2⟩) (by omega) ⟨hr,rfl,fun v hv=>by simp at hv⟩ (by dsimp only; omega) hn.1
theorem L152x1 {s : List UInt8} (hs : Str s) {v7 : Int × Z12} (h7 : Us 2 v7.1 ∧ Z4k s v7.2) : Ok (Z09 (Zjr v7) Z0a (0,v7.2.f_S,v7.2.f_At,v7.2.Z2h,[])) (RdT s 65536 fun v=>v.Z1k = []):=by
 refine rdL (n:=v7.1) ⟨h7.1.1,h7.1.2.2.1 rfl⟩ h7.2 fun t hI g0 g1 hd=>?_
 have hl:=hI.2.1
 have:=h7.1.2.2.1 rfl
 unfold Zjr
 refine brD (fun hlt=>br! (fun _=>?_) fun _=>dn hd) fun _=>dn hd
 unfold Zow
 refine bd (Z3p s _ 2 (by omega) hs hI.1) fun v1 h1=>bd (Z3p s _ 2 (by omega) hs h1.2) fun v2 h2=>bd (Z3p s _ 2 (by omega) hs h2.2) fun v3 h3=>bd (Z3p s _ 2 (by omega) hs h3.2) fun v4 h4=>?_
 refine bd (gk (by simp only [List.length_append,List.length_cons,List.length_nil]; omega) (by simp only [List.length_append,List.length_cons,List.length_nil]; omega)) fun _ _=>bd (wr (by omega) (by omega)) fun _ hv=>?_
 exact nx ⟨h4.2,by simp only [List.length_append,List.length_cons,List.length_nil]; omega,Z7b hI.2.2 rfl⟩ (by dsimp only; omega) (by dsimp only; omega)
theorem L152x3 {s : List UInt8} (hs : Str s) {v7 : Int × Z12} (h7 : Us 2 v7.1 ∧ Z4k s v7.2) : Ok (Z09 (Zgq v7) Z0a (0,v7.2.f_S,v7.2.f_At,v7.2.Z2h,[])) (RdT s 65536 fun _=>True):=by
 refine rdL (n:=v7.1) ⟨h7.1.1,h7.1.2.2.1 rfl⟩ h7.2 fun t hI g0 g1 hd=>?_
 have hl:=hI.2.1
 have:=h7.1.2.2.1 rfl
 unfold Zgq
 refine brD (fun hlt=>br! (fun _=>?_) fun _=>dn hd) fun _=>dn hd
 unfold Zp7
 refine bd (Z3p s _ 2 (by omega) hs hI.1) fun v1 h1=>bd (Z3p s _ 2 (by omega) hs h1.2) fun v2 h2=>?_
 refine bd (gk (by simp only [List.length_append,List.length_cons,List.length_nil]; omega) (by simp only [List.length_append,List.length_cons,List.length_nil]; omega)) fun _ _=>bd (wr (by omega) (by omega)) fun _ hv=>?_
 exact nx ⟨h2.2,by simp only [List.length_append,List.length_cons,List.length_nil]; omega,Z7b hI.2.2 trivial⟩ (by dsimp only; omega) (by dsimp only; omega)
def RFr (m : Z0j) : Prop:=(m.Z1p.Z0q.length ≤ 256 ∧ ∀ v ∈ m.Z1p.Z0q,v.Z1k.Z02 = []) ∧ m.Z1p.Z0s.length ≤ 256 ∧ ∀ v ∈ m.Z1p.Z0s,v.Z1k.Z02 = []
def QM (s : List UInt8) (q : (List UInt8) × Int × Bool × (List Z0j) × (List Int)) : Prop:=Z4k s ⟨q.1,q.2.1,q.2.2.1⟩ ∧ q.2.2.2.1.length ≤ 65536 ∧ q.2.2.2.2.length = q.2.2.2.1.length ∧ ∀ v ∈ q.2.2.2.1,RFr v
def IM (s : List UInt8) (t : Int × (List UInt8) × Int × Bool × (List Z0j) × (List Int)) : Prop:=Z4k s ⟨t.2.1,t.2.2.1,t.2.2.2.1⟩ ∧ (t.2.2.2.2.1.length : Int) = t.1 ∧ t.2.2.2.2.2.length = t.2.2.2.2.1.length ∧ ∀ v ∈ t.2.2.2.2.1,RFr v
theorem L152x2 {s : List UInt8} (hs : Str s) {v7 : Int × Z12} (h7 : Us 2 v7.1 ∧ Z4k s v7.2) : Ok (Z09 (Zj7 v7) Z0a (0,v7.2.f_S,v7.2.f_At,v7.2.Z2h,[],[])) (QM s):=by
 have:=h7.1.2.2.1 rfl
 have:=h7.1.1
 refine lp (fun t=>t.1) v7.1 (IM s) (fun t hI g0 g1=>?_) (by omega) ⟨h7.2,rfl,rfl,fun v hv=>by simp at hv⟩ (by dsimp only; omega) (by dsimp only; omega)
 have hl:=hI.2.1
 have hl2:=hI.2.2.1
 have hd : QM s (t.2.1,t.2.2.1,t.2.2.2.1,t.2.2.2.2.1,t.2.2.2.2.2):=⟨hI.1,by dsimp only at *; omega,hI.2.2⟩
 unfold Zj7
 refine brD (fun hlt=>br! (fun _=>?_) fun _=>dn hd) fun _=>dn hd
 unfold Zq0
 refine bd (Z3p s _ 2 (by omega) hs hI.1) fun v1 h1=>bd (Z3p s _ 1 (by omega) hs h1.2) fun v2 h2=>bd (Zxw s _ hs h2.2) fun v3 h3=>bd (Zxw s _ hs h3.2) fun v4 h4=>?_
 refine bd (gk (by simp only [List.length_append,List.length_cons,List.length_nil]; omega) (by simp only [List.length_append,List.length_cons,List.length_nil]; omega)) fun _ _=>?_
 refine bd (gk (by simp only [List.length_append,List.length_cons,List.length_nil]; omega) (by simp only [List.length_append,List.length_cons,List.length_nil]; omega)) fun _ _=>bd (wr (by omega) (by omega)) fun _ hv=>?_
 exact nx ⟨h4.2,by simp only [List.length_append,List.length_cons,List.length_nil]; omega,by simp only [List.length_append,List.length_cons,List.length_nil]; omega,Z7b hI.2.2.2 ⟨h3.1,h4.1⟩⟩ (by dsimp only; omega) (by dsimp only; omega)
structure TkOk (s : List UInt8) (t : Z2y) : Prop where
 ins : t.f_C.Z0k = []
 hnd : ∀ h ∈ t.f_C.Z1d,h.Z1k = []
 hndL : t.f_C.Z1d.length ≤ 65536
 map : ∀ m ∈ t.f_C.Z16,RFr m
 mapL : t.f_C.Z16.length ≤ 65536
 raw : t.Zcq.length = t.f_C.Z16.length
 lin : t.f_C.Z1b.length ≤ 65536
 byt : t.Z27.length ≤ s.length
theorem Y32 (s : List UInt8) (hs : Str s) : Ok (Ziv s) (fun r=>TkOk s r.1):=by
 unfold Ziv
 refine bd (Z3p s _ 2 (by omega) hs ⟨rfl,by dsimp only; omega,by dsimp only; omega⟩) fun v0 h0=>bd (Z3p s _ 2 (by omega) hs h0.2) fun v1 h1=>bd (Z3p s _ 4 (by omega) hs h1.2) fun v2 h2=>?_
 have h5 : Ok (Zf5 v0 v1 v2) (fun r=>TkOk s r.1):=by
  unfold Zf5
  exact ok ⟨rfl,fun h hh=>by simp at hh,by simp,fun h hh=>by simp at hh,by simp,rfl,by simp,by simp⟩
 obtain ⟨k1,k2,k3⟩:=h2.2
 have k4:=h2.1.1
 have k5:=h2.1.2.2.2 rfl
 refine br (fun _=>h5) fun _=>bd (wr (by omega) (by omega)) fun v3 h3=>brD (fun _=>h5) fun hle=>?_
 unfold Zpj
 refine bd (wr (by omega) (by omega)) fun v4 h4=>bd (sb (by omega) (by omega) (by omega)) fun v5 h5=>bd (wr (by omega) (by omega)) fun v6 h6=>?_
 refine bd (Z3p s _ 2 (by omega) hs ⟨k1,by dsimp only; omega,by dsimp only; omega⟩) fun v7 h7=>bd (L152x1 hs h7) fun q0 hq0=>bd (Z3p s _ 2 (by omega) hs hq0.1) fun v24 h24=>bd (L152x2 hs h24) fun q2 hq2=>bd (Z3p s _ 2 (by omega) hs hq2.1) fun v44 h44=>bd (L152x3 hs h44) fun q4 hq4=>?_
 exact ok ⟨rfl,hq0.2.2,hq0.2.1,hq2.2.2.2,hq2.2.1,hq2.2.2.1,hq4.2.1,by have:=h5.1; dsimp only; omega⟩
end Go.Proofs
