/-
  That the models come to an answer, part nine: class files, class spaces. No condition.
-/
import Derived.Test.YtoijcliccgjolaaGreatConT8
set_option linter.unusedVariables false
namespace Go.Proofs
open Go.Den Go.Tot
section
variable {p : List Z00} (hp : p.length ≤ 1000)
include hp
theorem Zkf (a : Z0x) (s : List UInt8) : Ok (Zax p a s) (fun _=>True):=by
 unfold Zax
 exact bd (Z4b p _ (by omega)) fun _ _=>brE (fun _=>ok trivial) fun _=>ok trivial
theorem Zui (l : List Z0a) (i : Int) (hl : l.length ≤ 140737488355328) (h0 : 0 ≤ i) (h1 : i < l.length) : Ok (Zec p l i) (fun _=>True):=by
 unfold Zec
 refine bd (gr h0 h1) fun _ _=>bd (Z4b p _ (by omega)) fun v1 _=>bd (gr h0 h1) fun _ _=>bd (Z4b p _ (by omega)) fun v3 _=>bd (P:=fun _=>True) (li i (fun t g0 g1=>?_) (by omega) (by omega) (by omega)) fun q _=>by cases q <;> exact ok trivial
 unfold Zk8
 exact brD (fun _=>bd (gr (by omega) (by omega)) fun _ _=>bd (Z4b p _ (by omega)) fun _ _=>bd (gr (by omega) (by omega)) fun _ _=>bd (Z4b p _ (by omega)) fun _ _=>br (fun _=>br (fun _=>di trivial) fun _=>bd (wr (by omega) (by omega)) fun _ _=>ni (by omega) (by omega)) fun _=>bd (wr (by omega) (by omega)) fun _ _=>ni (by omega) (by omega)) fun _=>di trivial
theorem Zzv (i : Int) (d : List UInt8) : Ok (Zhm p i d) (fun _=>True):=by
 unfold Zhm
 refine bd (Zdf p i (by omega)) fun v _=>brN (fun _=>ok trivial) fun _=>?_
 repeat' first
  | exact ok trivial
  | with_reducible refine br (fun _=>?_) fun _=>?_
theorem Zze (m : Z0a) (d : List UInt8) (hm : ∀ a ∈ m.Z18,Str a.Z23) : Ok (Zhb p m d) (fun _=>True):=by
 unfold Zhb Zlq
 refine brE (fun _=>ok trivial) fun _=>bd (gr (by omega) (by omega)) fun a ha=>brD (fun _=>ok trivial) fun _=>bs (br (fun _=>ok trivial) fun _=>bd (Zkf hp _ _) fun _ _=>br! (fun _=>ok trivial) fun _=>brN (fun _=>ok trivial) fun _=>bd (Zcw _ 0 2 (by omega) (hm a ha)) fun _ _=>bd (Zzv hp _ _) fun _ _=>ok trivial)
theorem Zvy (l : List Z0x) (s : List UInt8) (hl : l.length ≤ 140737488355328) (ha : ∀ a ∈ l,Str a.Z23) : Ok (Zc9 p l s) (fun r=>Str r.1 ∧ 0 ≤ r.2 ∧ r.2 ≤ l.length):=by
 unfold Zc9
 refine bd (P:=fun q : List UInt8 × Int=>Str q.1 ∧ 0 ≤ q.2 ∧ q.2 ≤ (l.length : Int)) (lp (fun t=>t.2.2) l.length (fun t=>Str t.1 ∧ 0 ≤ t.2.1 ∧ t.2.1 ≤ t.2.2) (fun t hI h0 h1=>?_) (by omega) ⟨by simp,by dsimp only; omega,by dsimp only; omega⟩ (by dsimp only; omega) (by dsimp only; omega)) fun q hq=>ok hq
 obtain ⟨hI1,hI2,hI3⟩:=hI
 unfold Zma
 exact brD (fun hlt=>bd (gr (by omega) (by omega)) fun a _=>bd (Zkf hp _ _) fun _ _=>br (fun _=>bd (gr (by omega) (by omega)) fun b hb=>bd (wr (by omega) (by omega)) fun _ _=>bd (wr (by omega) (by omega)) fun _ _=>nx ⟨ha b hb,by dsimp only; omega,by dsimp only; omega⟩ (by dsimp only; omega) (by dsimp only; omega)) fun _=>bd (wr (by omega) (by omega)) fun _ _=>nx ⟨hI1,by dsimp only; omega,by dsimp only; omega⟩ (by dsimp only; omega) (by dsimp only; omega)) fun _=>dn ⟨hI1,by dsimp only; omega,by dsimp only; omega⟩
variable (hS : PS p 1024)
include hS
theorem Zd2 (i : Int) : Ok (Z8o p i) (fun _=>True):=by
 unfold Z8o Znv
 exact brD (fun _=>ok trivial) fun _=>brD (fun _=>ok trivial) fun _=>bd (Zob p i (by omega) hS) fun v hv=>brN (fun _=>ok trivial) fun _=>brE (fun _=>ok trivial) fun _=>bd (gs (by omega) (by omega)) fun _ _=>brE (fun _=>ok trivial) fun _=>ok trivial
theorem Zvz (l : List Int) (s : List UInt8) (hl : l.length ≤ 140737488355328) : Ok (Zcq p l s) (fun _=>True):=by
 unfold Zcq
 refine bd (P:=fun _=>True) (li l.length (fun t h0 h1=>?_) (by omega) (by omega) (by omega)) fun q _=>by cases q <;> exact ok trivial
 unfold Zmk
 exact brD (fun _=>bd (gr (by omega) (by omega)) fun _ _=>bd (Zd2 hp hS _) fun _ _=>brE (fun _=>br (fun _=>di trivial) fun _=>bd (wr (by omega) (by omega)) fun _ _=>ni (by omega) (by omega)) fun _=>bd (wr (by omega) (by omega)) fun _ _=>ni (by omega) (by omega)) fun _=>di trivial
end
theorem Y11 (x y : Int) : Ok (Z8j x y) (fun _=>True):=bs (ok trivial)
theorem Zuf (x y : Int) : Ok (Z8s x y) (fun _=>True):=by
 unfold Z8s
 exact brD (fun _=>bs (ok trivial)) fun _=>ok trivial
theorem Zys (x : Int) : Ok (Zdd x) (fun _=>True):=by
 unfold Zdd Zhz Zj0
 have h : ∀ n : Int,Ok ((some (Z2v .i64 x (4 : Int))).bind fun v3=>if (v3 != 0) = true then ((some (IntKind.wrap .i64 (n + (1 : Int)))).bind fun v4=>some (decide (v4 ≤ 1))) else (some (decide (n ≤ 1)))) (fun _=>True):=fun n=>bs (br (fun _=>bs (ok trivial)) fun _=>ok trivial)
 have h1 : ∀ n : Int,Ok ((some (Z2v .i64 x (2 : Int))).bind fun v1=>if (v1 != 0) = true then ((some (IntKind.wrap .i64 (n + (1 : Int)))).bind fun v2=>(some (Z2v .i64 x (4 : Int))).bind fun v3=>if (v3 != 0) = true then ((some (IntKind.wrap .i64 (v2 + (1 : Int)))).bind fun v4=>some (decide (v4 ≤ 1))) else (some (decide (v2 ≤ 1)))) else ((some (Z2v .i64 x (4 : Int))).bind fun v3=>if (v3 != 0) = true then ((some (IntKind.wrap .i64 (n + (1 : Int)))).bind fun v4=>some (decide (v4 ≤ 1))) else (some (decide (n ≤ 1))))) (fun _=>True):=fun n=>bs (br (fun _=>bs (h _)) fun _=>h _)
 exact bs (br (fun _=>h1 1) fun _=>h1 0)
theorem Zld (s : List UInt8) (x : Int) : Ok (Z97 s x) (fun _=>True):=by
 unfold Z97 Zal Za6
 repeat' first
  | exact ok trivial
  | with_reducible refine br (fun _=>?_) fun _=>?_
  | with_reducible refine bd (Y11 _ _) fun _ _=>?_
  | with_reducible refine bd (Zuf _ _) fun _ _=>?_
  | with_reducible refine bd (Zys _) fun _ _=>?_
  | with_reducible refine bs ?_
structure Z7c (f : Z0q) : Prop where
 pool : Z16 f.Z1v
 ifsL : f.Z14.length ≤ 140737488355328
 fldL : f.Z19.length ≤ 140737488355328
 metL : f.Z17.length ≤ 140737488355328
 attL : f.Z18.length ≤ 140737488355328
 att : ∀ a ∈ f.Z18,Str a.Z23
 mem : ∀ m,m ∈ f.Z19 ∨ m ∈ f.Z17 → m.Z18.length ≤ 140737488355328 ∧ ∀ a ∈ m.Z18,Str a.Z23
def FewF (f : Z0q) : Prop:=f.Z14.length ≤ 8 ∧ f.Z19.length ≤ 64 ∧ f.Z17.length ≤ 64
theorem Y0h (f : Z0q) (hf : Z7c f) : Ok (Zgl f) (fun b=>b = false → FewF f):=by
 have g1:=hf.fldL; have g2:=hf.metL
 unfold Zgl Zn1
 refine brD (fun _=>ok (by simp)) fun _=>brD (fun _=>ok (by simp)) fun _=>brD (fun _=>ok (by simp)) fun _=>brD (fun _=>ok (by simp)) fun _=>?_
 have hd : FewF f:=⟨by omega,by omega,by omega⟩
 refine bd (P:=fun _=>True) (li f.Z19.length (fun t h0 h1=>?_) (by omega) (by omega) (by omega)) fun q _=>?_
 ·unfold Zkb
  exact brD (fun _=>bd (gr (by omega) (by omega)) fun _ _=>brD (fun _=>di trivial) fun _=>bd (wr (by omega) (by omega)) fun _ _=>ni (by omega) (by omega)) fun _=>di trivial
 cases q with
 | inr _=>exact ok fun _=>hd
 | inl _=>
  refine bd (P:=fun _=>True) (li f.Z17.length (fun t h0 h1=>?_) (by omega) (by omega) (by omega)) fun q _=>by cases q <;> exact ok fun _=>hd
  unfold Zl8
  exact brD (fun _=>bd (gr (by omega) (by omega)) fun _ _=>brD (fun _=>di trivial) fun _=>bd (wr (by omega) (by omega)) fun _ _=>ni (by omega) (by omega)) fun _=>di trivial
theorem Zyk (f : Z0q) (hf : Z7c f) (hS : PS f.Z1v 1024) : Ok (Zez f) (fun e=>e = 0 → FewF f):=by
 have hp:=hf.pool.len
 have hi:=hf.ifsL
 have h3 : ∀ a (v : List UInt8 × Int),Ok (Zeb a v f) (fun e=>e = 0 → FewF f):=fun a v=>by
  unfold Zeb
  exact bd (Y0h f hf) fun b hb=>br (fun _=>ok (by simp)) fun h=>br (fun _=>ok (by simp)) fun _=>bd (Zvz hp hS _ _ hi) fun _ _=>br (fun _=>ok (by simp)) fun _=>ok fun _=>hb h
 have h2 : ∀ (v : List UInt8 × Int) a,Ok (Zdx v f a) (fun e=>e = 0 → FewF f):=fun v a=>by
  unfold Zdx
  exact bd (Zld _ _) fun _ _=>br! (fun _=>ok (by simp)) fun _=>br (fun _=>ok (by simp)) fun _=>bs (br (fun _=>br (fun _=>ok (by simp)) fun _=>h3 _ _) fun _=>h3 _ _)
 have h1 : Ok (Zd3 f) (fun e=>e = 0 → FewF f):=by
  unfold Zd3
  exact bd (Zd2 hp hS _) fun v _=>brN (fun h=>ok fun h'=>absurd h' h) fun _=>brN (fun _=>bd (Zd2 hp hS _) fun w _=>brN (fun h=>ok fun h'=>absurd h' h) fun _=>h2 _ _) fun _=>h2 _ _
 have hpl : ∀ i,Ok (Ze2 f.Z1v i) (fun _=>True):=fun i=>by
  unfold Ze2
  exact brD (fun _=>ok trivial) fun _=>ok trivial
 unfold Zez
 exact bd (hpl _) fun _ _=>br! (fun _=>ok (by simp)) fun _=>brN (fun _=>bd (hpl _) fun _ _=>br! (fun _=>ok (by simp)) fun _=>h1) fun _=>h1
theorem Zz9 (f : Z0q) (hf : Z7c f) (hS : PS f.Z1v 1024) (i : Int) (h0 : 0 ≤ i) (h1 : i < f.Z14.length) : Ok (Ziq f i) (fun _=>True):=by
 have:=hf.ifsL
 unfold Ziq
 exact bd (gr h0 h1) fun _ _=>bd (Zd2 hf.pool.len hS _) fun _ _=>brN (fun _=>ok trivial) fun _=>bd (sb (by omega) (by omega) (by omega)) fun r hr=>bd (Zvz hf.pool.len hS r _ (by have:=hr.1; omega)) fun _ _=>br (fun _=>ok trivial) fun _=>ok trivial
theorem Y0c (f : Z0q) (hf : Z7c f) (hS : PS f.Z1v 1024) (i : Int) (h0 : 0 ≤ i) (h1 : i < f.Z19.length) : Ok (Zeu f i) (fun _=>True):=by
 have hp:=hf.pool.len
 have hl : f.Z1v.length ≤ 140737488355328:=by omega
 unfold Zeu
 refine bd (gr h0 h1) fun m hm=>bd (Z4b _ _ hl) fun v1 e1=>brN (fun _=>ok trivial) fun _=>bd (Zk7 _ (by have:=Za2 hS e1; unfold Str; omega)) fun b hb=>br! (fun _=>ok trivial) fun h=>?_
 have hpos:=hb h
 refine bd (gs (by omega) (by omega)) fun _ _=>br (fun _=>ok trivial) fun _=>?_
 have h3 : ∀ v4 w,Ok (Zcj m v4 f i w) (fun _=>True):=fun v4 w=>by
  unfold Zcj
  exact bd (Zld _ _) fun _ _=>br! (fun _=>ok trivial) fun _=>bd (Zui hp _ i hf.fldL h0 h1) fun _ _=>br (fun _=>ok trivial) fun _=>bd (Zze hp m _ (hf.mem m (.inl hm)).2) fun _ _=>br! (fun _=>ok trivial) fun _=>ok trivial
 unfold j80x1 j80x2
 exact bd (Z4b _ _ hl) fun v4 e4=>brN (fun _=>ok trivial) fun _=>bd (Zdp _ (by have:=Za2 hS e4; unfold Str; omega)) fun _ _=>brN (fun _=>ok trivial) fun _=>br (fun _=>ok trivial) fun _=>bs (br (fun _=>h3 _ _) fun _=>h3 _ _)
theorem Zyg (f : Z0q) (hf : Z7c f) (hS : PS f.Z1v 1024) (m : Z0a) : Ok (Zj7 f m) (fun r=>r.2.1.Z2y.length ≤ 1048576):=by
 have hl : f.Z1v.length ≤ 140737488355328:=by have:=hf.pool.len; omega
 have h1 : ∀ v0,Ok (Ze1 v0 f m) (fun r=>r.2.1.Z2y.length ≤ 1048576):=fun v0=>by
  unfold Ze1
  refine bd (Z4b _ _ hl) fun v3 e3=>brN (fun _=>ok (by simp)) fun _=>bd (Zmm _ (by have:=Za2 hS e3; omega)) fun v4 e4=>brN (fun _=>ok (by simp)) fun _=>?_
  repeat' first
   | exact ok e4
   | exact ok (by simp)
   | with_reducible refine br (fun _=>?_) fun _=>?_
 unfold Zj7
 exact bd (Z4b _ _ hl) fun v0 e0=>brN (fun _=>ok (by simp)) fun _=>bd (Zk7 _ (by have:=Za2 hS e0; unfold Str; omega)) fun _ _=>br! (fun _=>ok (by simp)) fun _=>br (fun _=>bs (br (fun _=>ok (by simp)) fun _=>h1 _)) fun _=>h1 _
theorem Zyc (f : Z0q) (m : Z0a) (s : List UInt8) : Ok (Zgd f m s) (fun _=>True):=by
 unfold Zgd Zif
 repeat' first
  | exact ok trivial
  | with_reducible refine br (fun _=>?_) fun _=>?_
  | with_reducible refine bd (Zld _ _) fun _ _=>?_
  | with_reducible refine bd (Zuf _ _) fun _ _=>?_
  | with_reducible refine bs ?_
theorem Y0s (f : Z0q) (hf : Z7c f) (hS : PS f.Z1v 1024) (m : Z0a) (hm : m.Z18.length ≤ 140737488355328 ∧ ∀ a ∈ m.Z18,Str a.Z23) (g : Z22) (hg : g.Z2y.length ≤ 1048576) : Ok (Zhx f.Z1v m g) (fun _=>True):=by
 have hp:=hf.pool.len
 unfold Zhx
 refine bd (Zvy hp _ _ hm.1 hm.2) fun v0 e0=>bd (Zvy hp _ _ hm.1 hm.2) fun v1 e1=>bs (brD (fun _=>ok trivial) fun _=>brD (fun _=>ok trivial) fun _=>bd (wr (by omega) (by omega)) fun _ _=>brN (fun _=>ok trivial) fun _=>br (fun _=>ok trivial) fun _=>?_)
 have h4 : ∀ a b,Ok (Zdy a b) (fun _=>True):=fun a b=>by
  unfold Zdy
  exact brD (fun _=>ok trivial) fun _=>ok trivial
 have h3 : ∀ a b,Ok (Zd7 a v1 f.Z1v b) (fun _=>True):=fun a b=>by
  unfold Zd7
  refine brD (fun _=>bd (Zxb _ e1.1) fun v7 e7=>brN (fun _=>ok trivial) fun _=>bd (P:=fun _=>True) (li v7.1.length (fun t h0 h1=>?_) (by omega) (by omega) (by omega)) fun q _=>?_) fun _=>h4 _ _
  ·unfold Znp
   exact brD (fun _=>bd (gr (by omega) (by omega)) fun _ _=>bd (Zd2 hp hS _) fun _ _=>brN (fun _=>di trivial) fun _=>bd (wr (by omega) (by omega)) fun _ _=>ni (by omega) (by omega)) fun _=>di trivial
  ·cases q with
   | inl _=>exact h4 _ _
   | inr _=>exact ok trivial
 unfold Zo0 Zf0
 exact bs (br (fun _=>bd (wr (by omega) (by omega)) fun _ _=>br (fun _=>bd (Zvg _ _ hf.pool e0.1) fun _ _=>brN (fun _=>ok trivial) fun _=>h3 _ _) fun _=>h3 _ _) fun _=>br (fun _=>bd (Zvg _ _ hf.pool e0.1) fun _ _=>brN (fun _=>ok trivial) fun _=>h3 _ _) fun _=>h3 _ _)
theorem Y0l (f : Z0q) (hf : Z7c f) (hS : PS f.Z1v 1024) (i : Int) (h0 : 0 ≤ i) (h1 : i < f.Z17.length) : Ok (Zh1 f i) (fun _=>True):=by
 unfold Zh1
 exact bd (gr h0 h1) fun m hm=>bd (Zyg f hf hS m) fun v1 e1=>brN (fun _=>ok trivial) fun _=>bd (Zyc _ _ _) fun _ _=>br! (fun _=>ok trivial) fun _=>bd (Zui hf.pool.len _ i hf.metL h0 h1) fun _ _=>br (fun _=>ok trivial) fun _=>bd (Y0s f hf hS m (hf.mem m (.inr hm)) _ e1) fun _ _=>ok trivial
theorem Zy9 (f : Z0q) (hf : Z7c f) (hS : PS f.Z1v 1024) : Ok (Zi3 f) (fun _=>True):=by
 unfold Zi3 j82x1
 exact brE (fun _=>ok trivial) fun _=>bd (gr (by omega) (by omega)) fun a ha=>brD (fun _=>ok trivial) fun _=>bd (Zkf hf.pool.len _ _) fun _ _=>br! (fun _=>ok trivial) fun _=>brN (fun _=>ok trivial) fun _=>bd (Zcw _ 0 2 (by omega) (hf.att a ha)) fun _ _=>bd (Z4b _ _ (by have:=hf.pool.len; omega)) fun _ _=>ok trivial
theorem Znj (s : List UInt8) (n : Int) (hs : s.length ≤ 1000) (h0 : 0 ≤ n) (h1 : n < 100) : Ok (Zao s n) (fun _=>True):=by
 unfold Zao
 have h10 : ∀ a : Int,0 ≤ a → a < 10 → Ok (sub ([48,49,50,51,52,53,54,55,56,57] : List UInt8) a (a + 1)) (fun r=>r.length ≤ 1):=fun a ha hb=>(sb ha (by omega) (by simp; omega)).mono fun r hr=>by have:=hr.1; omega
 refine brD (fun _=>bd (ct (by simp; omega)) fun v0 e0=>bd (wr (by omega) (by omega)) fun v1 e1=>?_) fun _=>bd (ct (by simp; omega)) fun v4 e4=>?_
 ·rw [e1]
  exact bd (h10 n h0 (by omega)) fun v2 e2=>bd (ct (by have:=e0.2; simp at this; omega)) fun _ _=>ok trivial
 ·have hd : divK .i64 n 10 = some (n / 10):=by
   unfold divK
   rw [if_pos (by decide)]
   congr 1
   rw [Int.tdiv_eq_ediv_of_nonneg h0]
   exact wrapI (by omega) (by omega)
  have hm : modK n 10 = some (n % 10):=by
   unfold modK
   rw [if_pos (by decide)]
   congr 1
   exact Int.tmod_eq_emod_of_nonneg h0
  rw [hd,hm]
  refine bs (bs (bd (wr (by omega) (by omega)) fun v7 e7=>?_))
  rw [e7]
  refine bd (h10 _ (by omega) (by omega)) fun v8 e8=>bd (ct (by have:=e4.2; simp at this; omega)) fun v9 e9=>bs (bs (bd (wr (by omega) (by omega)) fun v12 e12=>?_))
  rw [e12]
  exact bd (h10 _ (by omega) (by omega)) fun v13 e13=>bd (ct (by have:=e4.2; have:=e9.2; simp at *; omega)) fun _ _=>ok trivial
theorem Zyz (f : Z0q) (hf : Z7c f) : Ok (Zhd f) (fun r=>r.2 = 0 → FewF f):=by
 unfold Zhd
 refine bd (Zt1 _ hf.pool) fun v0 h0=>brN (fun h=>ok fun h'=>absurd h' h) fun h=>?_
 have hS:=h0 h
 refine bd (Zyk f hf hS) fun v1 h1=>brN (fun h=>ok fun h'=>absurd h' h) fun h=>?_
 have hF:=h1 h
 have k1:=hF.1; have k2:=hF.2.1; have k3:=hF.2.2
 refine bd (P:=fun _=>True) (li f.Z14.length (fun t h0 h1=>?_) (by omega) (by omega) (by omega)) fun q _=>?_
 ·unfold l60x1
  exact brD (fun hlt=>bd (Zz9 f hf hS t h0 hlt) fun _ _=>brN (fun _=>bd (Znj _ t (by simp) h0 (by omega)) fun _ _=>di trivial) fun _=>bd (wr (by omega) (by omega)) fun _ _=>ni (by omega) (by omega)) fun _=>di trivial
 cases q with
 | inr _=>exact ok fun _=>hF
 | inl _=>
 refine bd (P:=fun _=>True) (li f.Z19.length (fun t h0 h1=>?_) (by omega) (by omega) (by omega)) fun q _=>?_
 ·unfold l60x2
  exact brD (fun hlt=>bd (Y0c f hf hS t h0 hlt) fun _ _=>brN (fun _=>bd (Znj _ t (by simp) h0 (by omega)) fun _ _=>di trivial) fun _=>bd (wr (by omega) (by omega)) fun _ _=>ni (by omega) (by omega)) fun _=>di trivial
 cases q with
 | inr _=>exact ok fun _=>hF
 | inl _=>
 refine bd (P:=fun _=>True) (li f.Z17.length (fun t h0 h1=>?_) (by omega) (by omega) (by omega)) fun q _=>?_
 ·unfold l60x3
  exact brD (fun hlt=>bd (Y0l f hf hS t h0 hlt) fun _ _=>brN (fun _=>bd (Znj _ t (by simp) h0 (by omega)) fun _ _=>di trivial) fun _=>bd (wr (by omega) (by omega)) fun _ _=>ni (by omega) (by omega)) fun _=>di trivial
 cases q with
 | inr _=>exact ok fun _=>hF
 | inl _=>exact bd (Zy9 f hf hS) fun _ _=>br! (fun _=>ok fun _=>hF) fun _=>ok fun _=>hF
end Go.Proofs
