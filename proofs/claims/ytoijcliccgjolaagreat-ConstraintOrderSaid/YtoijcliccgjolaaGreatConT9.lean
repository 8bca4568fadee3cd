/-
  That the models come to an answer, part nine: class files, class spaces. No condition.
-/
import Derived.Test.YtoijcliccgjolaaGreatConT8
set_option linter.unusedVariables false
namespace Go.Proofs
open Go.Den Go.Tot
section
variable {p : List Z00} (hp : p.length ≤ 1000)
include hp
theorem Zmv (a : Z0x) (s : List UInt8) : Ok (Zat p a s) (fun _=>True):=by
 unfold Zat
 exact bd (Z4h p _ (by omega)) fun _ _=>brE (fun _=>ok trivial) fun _=>ok trivial
theorem Zsu (l : List Z0a) (i : Int) (hl : l.length ≤ 140737488355328) (h0 : 0 ≤ i) (h1 : i < l.length) : Ok (Zdu p l i) (fun _=>True):=by
 unfold Zdu
 refine bd (gr h0 h1) fun _ _=>bd (Z4h p _ (by omega)) fun v1 _=>bd (gr h0 h1) fun _ _=>bd (Z4h p _ (by omega)) fun v3 _=>bd (P:=fun _=>True) (li i (fun t g0 g1=>?_) (by omega) (by omega) (by omega)) fun q _=>by cases q <;> exact ok trivial
 unfold Zl3
 exact brD (fun _=>bd (gr (by omega) (by omega)) fun _ _=>bd (Z4h p _ (by omega)) fun _ _=>bd (gr (by omega) (by omega)) fun _ _=>bd (Z4h p _ (by omega)) fun _ _=>br (fun _=>br (fun _=>di trivial) fun _=>bd (wr (by omega) (by omega)) fun _ _=>ni (by omega) (by omega)) fun _=>bd (wr (by omega) (by omega)) fun _ _=>ni (by omega) (by omega)) fun _=>di trivial
theorem Y0t (i : Int) (d : List UInt8) : Ok (Zix p i d) (fun _=>True):=by
 unfold Zix
 refine bd (Zeg p i (by omega)) fun v _=>brN (fun _=>ok trivial) fun _=>?_
 repeat' first
  | exact ok trivial
  | with_reducible refine br (fun _=>?_) fun _=>?_
theorem Zz8 (m : Z0a) (d : List UInt8) (hm : ∀ a ∈ m.Z1d,Str a.Z25) : Ok (Ziy p m d) (fun _=>True):=by
 unfold Ziy Zm4
 refine brE (fun _=>ok trivial) fun _=>bd (gr (by omega) (by omega)) fun a ha=>brD (fun _=>ok trivial) fun _=>bs (br (fun _=>ok trivial) fun _=>bd (Zmv hp _ _) fun _ _=>br! (fun _=>ok trivial) fun _=>brN (fun _=>ok trivial) fun _=>bd (Zdx _ 0 2 (by omega) (hm a ha)) fun _ _=>bd (Y0t hp _ _) fun _ _=>ok trivial)
theorem Zx8 (l : List Z0x) (s : List UInt8) (hl : l.length ≤ 140737488355328) (ha : ∀ a ∈ l,Str a.Z25) : Ok (Zcr p l s) (fun r=>Str r.1 ∧ 0 ≤ r.2 ∧ r.2 ≤ l.length):=by
 unfold Zcr
 refine bd (P:=fun q : List UInt8 × Int=>Str q.1 ∧ 0 ≤ q.2 ∧ q.2 ≤ (l.length : Int)) (lp (fun t=>t.2.2) l.length (fun t=>Str t.1 ∧ 0 ≤ t.2.1 ∧ t.2.1 ≤ t.2.2) (fun t hI h0 h1=>?_) (by omega) ⟨by simp,by dsimp only; omega,by dsimp only; omega⟩ (by dsimp only; omega) (by dsimp only; omega)) fun q hq=>ok hq
 obtain ⟨hI1,hI2,hI3⟩:=hI
 unfold Znk
 exact brD (fun hlt=>bd (gr (by omega) (by omega)) fun a _=>bd (Zmv hp _ _) fun _ _=>br (fun _=>bd (gr (by omega) (by omega)) fun b hb=>bd (wr (by omega) (by omega)) fun _ _=>bd (wr (by omega) (by omega)) fun _ _=>nx ⟨ha b hb,by dsimp only; omega,by dsimp only; omega⟩ (by dsimp only; omega) (by dsimp only; omega)) fun _=>bd (wr (by omega) (by omega)) fun _ _=>nx ⟨hI1,by dsimp only; omega,by dsimp only; omega⟩ (by dsimp only; omega) (by dsimp only; omega)) fun _=>dn ⟨hI1,by dsimp only; omega,by dsimp only; omega⟩
variable (hS : PS p 1024)
include hS
theorem Zee (i : Int) : Ok (Z80 p i) (fun _=>True):=by
 unfold Z80 Zlf
 exact brD (fun _=>ok trivial) fun _=>brD (fun _=>ok trivial) fun _=>bd (Zn5 p i (by omega) hS) fun v hv=>brN (fun _=>ok trivial) fun _=>brE (fun _=>ok trivial) fun _=>bd (gs (by omega) (by omega)) fun _ _=>brE (fun _=>ok trivial) fun _=>ok trivial
theorem Zrp (l : List Int) (s : List UInt8) (hl : l.length ≤ 140737488355328) : Ok (Zep p l s) (fun _=>True):=by
 unfold Zep
 refine bd (P:=fun _=>True) (li l.length (fun t h0 h1=>?_) (by omega) (by omega) (by omega)) fun q _=>by cases q <;> exact ok trivial
 unfold Zm9
 exact brD (fun _=>bd (gr (by omega) (by omega)) fun _ _=>bd (Zee hp hS _) fun _ _=>brE (fun _=>br (fun _=>di trivial) fun _=>bd (wr (by omega) (by omega)) fun _ _=>ni (by omega) (by omega)) fun _=>bd (wr (by omega) (by omega)) fun _ _=>ni (by omega) (by omega)) fun _=>di trivial
end
theorem Y22 (x y : Int) : Ok (Z83 x y) (fun _=>True):=bs (ok trivial)
theorem Zvi (x y : Int) : Ok (Z9w x y) (fun _=>True):=by
 unfold Z9w
 exact brD (fun _=>bs (ok trivial)) fun _=>ok trivial
theorem Zzz (x : Int) : Ok (Zc1 x) (fun _=>True):=by
 unfold Zc1 Zho Zg2
 have h : ∀ n : Int,Ok ((some (Z2w .i64 x (4 : Int))).bind fun v3=>if (v3 != 0) = true then ((some (IntKind.wrap .i64 (n + (1 : Int)))).bind fun v4=>some (decide (v4 ≤ 1))) else (some (decide (n ≤ 1)))) (fun _=>True):=fun n=>bs (br (fun _=>bs (ok trivial)) fun _=>ok trivial)
 have h1 : ∀ n : Int,Ok ((some (Z2w .i64 x (2 : Int))).bind fun v1=>if (v1 != 0) = true then ((some (IntKind.wrap .i64 (n + (1 : Int)))).bind fun v2=>(some (Z2w .i64 x (4 : Int))).bind fun v3=>if (v3 != 0) = true then ((some (IntKind.wrap .i64 (v2 + (1 : Int)))).bind fun v4=>some (decide (v4 ≤ 1))) else (some (decide (v2 ≤ 1)))) else ((some (Z2w .i64 x (4 : Int))).bind fun v3=>if (v3 != 0) = true then ((some (IntKind.wrap .i64 (n + (1 : Int)))).bind fun v4=>some (decide (v4 ≤ 1))) else (some (decide (n ≤ 1))))) (fun _=>True):=fun n=>bs (br (fun _=>bs (h _)) fun _=>h _)
 exact bs (br (fun _=>h1 1) fun _=>h1 0)
theorem Zkt (s : List UInt8) (x : Int) : Ok (Z9a s x) (fun _=>True):=by
 unfold Z9a Zbs Zaq
 repeat' first
  | exact ok trivial
  | with_reducible refine br (fun _=>?_) fun _=>?_
  | with_reducible refine bd (Y22 _ _) fun _ _=>?_
  | with_reducible refine bd (Zvi _ _) fun _ _=>?_
  | with_reducible refine bd (Zzz _) fun _ _=>?_
  | with_reducible refine bs ?_
structure Z7r (f : Z0p) : Prop where
 pool : Z19 f.Z1w
 ifsL : f.Z15.length ≤ 140737488355328
 fldL : f.Z1c.length ≤ 140737488355328
 metL : f.Z18.length ≤ 140737488355328
 attL : f.Z1d.length ≤ 140737488355328
 att : ∀ a ∈ f.Z1d,Str a.Z25
 mem : ∀ m,m ∈ f.Z1c ∨ m ∈ f.Z18 → m.Z1d.length ≤ 140737488355328 ∧ ∀ a ∈ m.Z1d,Str a.Z25
def FewF (f : Z0p) : Prop:=f.Z15.length ≤ 8 ∧ f.Z1c.length ≤ 64 ∧ f.Z18.length ≤ 64
theorem Zxz (f : Z0p) (hf : Z7r f) : Ok (Zi7 f) (fun b=>b = false → FewF f):=by
 have g1:=hf.fldL; have g2:=hf.metL
 unfold Zi7 Zm5
 refine brD (fun _=>ok (by simp)) fun _=>brD (fun _=>ok (by simp)) fun _=>brD (fun _=>ok (by simp)) fun _=>brD (fun _=>ok (by simp)) fun _=>?_
 have hd : FewF f:=⟨by omega,by omega,by omega⟩
 refine bd (P:=fun _=>True) (li f.Z1c.length (fun t h0 h1=>?_) (by omega) (by omega) (by omega)) fun q _=>?_
 ·unfold Zml
  exact brD (fun _=>bd (gr (by omega) (by omega)) fun _ _=>brD (fun _=>di trivial) fun _=>bd (wr (by omega) (by omega)) fun _ _=>ni (by omega) (by omega)) fun _=>di trivial
 cases q with
 | inr _=>exact ok fun _=>hd
 | inl _=>
  refine bd (P:=fun _=>True) (li f.Z18.length (fun t h0 h1=>?_) (by omega) (by omega) (by omega)) fun q _=>by cases q <;> exact ok fun _=>hd
  unfold Zmj
  exact brD (fun _=>bd (gr (by omega) (by omega)) fun _ _=>brD (fun _=>di trivial) fun _=>bd (wr (by omega) (by omega)) fun _ _=>ni (by omega) (by omega)) fun _=>di trivial
theorem Y01 (f : Z0p) (hf : Z7r f) (hS : PS f.Z1w 1024) : Ok (Zfh f) (fun e=>e = 0 → FewF f):=by
 have hp:=hf.pool.len
 have hi:=hf.ifsL
 have h3 : ∀ a (v : List UInt8 × Int),Ok (Zc8 a v f) (fun e=>e = 0 → FewF f):=fun a v=>by
  unfold Zc8
  exact bd (Zxz f hf) fun b hb=>br (fun _=>ok (by simp)) fun h=>br (fun _=>ok (by simp)) fun _=>bd (Zrp hp hS _ _ hi) fun _ _=>br (fun _=>ok (by simp)) fun _=>ok fun _=>hb h
 have h2 : ∀ (v : List UInt8 × Int) a,Ok (Zcd v f a) (fun e=>e = 0 → FewF f):=fun v a=>by
  unfold Zcd
  exact bd (Zkt _ _) fun _ _=>br! (fun _=>ok (by simp)) fun _=>br (fun _=>ok (by simp)) fun _=>bs (br (fun _=>br (fun _=>ok (by simp)) fun _=>h3 _ _) fun _=>h3 _ _)
 have h1 : Ok (Zc7 f) (fun e=>e = 0 → FewF f):=by
  unfold Zc7
  exact bd (Zee hp hS _) fun v _=>brN (fun h=>ok fun h'=>absurd h' h) fun _=>brN (fun _=>bd (Zee hp hS _) fun w _=>brN (fun h=>ok fun h'=>absurd h' h) fun _=>h2 _ _) fun _=>h2 _ _
 have hpl : ∀ i,Ok (Zcn f.Z1w i) (fun _=>True):=fun i=>by
  unfold Zcn
  exact brD (fun _=>ok trivial) fun _=>ok trivial
 unfold Zfh
 exact bd (hpl _) fun _ _=>br! (fun _=>ok (by simp)) fun _=>brN (fun _=>bd (hpl _) fun _ _=>br! (fun _=>ok (by simp)) fun _=>h1) fun _=>h1
theorem Y14 (f : Z0p) (hf : Z7r f) (hS : PS f.Z1w 1024) (i : Int) (h0 : 0 ≤ i) (h1 : i < f.Z15.length) : Ok (Zhp f i) (fun _=>True):=by
 have:=hf.ifsL
 unfold Zhp
 exact bd (gr h0 h1) fun _ _=>bd (Zee hf.pool.len hS _) fun _ _=>brN (fun _=>ok trivial) fun _=>bd (sb (by omega) (by omega) (by omega)) fun r hr=>bd (Zrp hf.pool.len hS r _ (by have:=hr.1; omega)) fun _ _=>br (fun _=>ok trivial) fun _=>ok trivial
theorem Y20 (f : Z0p) (hf : Z7r f) (hS : PS f.Z1w 1024) (i : Int) (h0 : 0 ≤ i) (h1 : i < f.Z1c.length) : Ok (Zit f i) (fun _=>True):=by
 have hp:=hf.pool.len
 have hl : f.Z1w.length ≤ 140737488355328:=by omega
 unfold Zit
 refine bd (gr h0 h1) fun m hm=>bd (Z4h _ _ hl) fun v1 e1=>brN (fun _=>ok trivial) fun _=>bd (Znt _ (by have:=Zb1 hS e1; unfold Str; omega)) fun b hb=>br! (fun _=>ok trivial) fun h=>?_
 have hpos:=hb h
 refine bd (gs (by omega) (by omega)) fun _ _=>br (fun _=>ok trivial) fun _=>?_
 have h3 : ∀ v4 w,Ok (Zcs m v4 f i w) (fun _=>True):=fun v4 w=>by
  unfold Zcs
  exact bd (Zkt _ _) fun _ _=>br! (fun _=>ok trivial) fun _=>bd (Zsu hp _ i hf.fldL h0 h1) fun _ _=>br (fun _=>ok trivial) fun _=>bd (Zz8 hp m _ (hf.mem m (.inl hm)).2) fun _ _=>br! (fun _=>ok trivial) fun _=>ok trivial
 unfold j80x1 j80x2
 exact bd (Z4h _ _ hl) fun v4 e4=>brN (fun _=>ok trivial) fun _=>bd (Zdw _ (by have:=Zb1 hS e4; unfold Str; omega)) fun _ _=>brN (fun _=>ok trivial) fun _=>br (fun _=>ok trivial) fun _=>bs (br (fun _=>h3 _ _) fun _=>h3 _ _)
theorem Zxr (f : Z0p) (hf : Z7r f) (hS : PS f.Z1w 1024) (m : Z0a) : Ok (Zfx f m) (fun r=>r.2.1.Z30.length ≤ 1048576):=by
 have hl : f.Z1w.length ≤ 140737488355328:=by have:=hf.pool.len; omega
 have h1 : ∀ v0,Ok (Zcu v0 f m) (fun r=>r.2.1.Z30.length ≤ 1048576):=fun v0=>by
  unfold Zcu
  refine bd (Z4h _ _ hl) fun v3 e3=>brN (fun _=>ok (by simp)) fun _=>bd (Zmq _ (by have:=Zb1 hS e3; omega)) fun v4 e4=>brN (fun _=>ok (by simp)) fun _=>?_
  repeat' first
   | exact ok e4
   | exact ok (by simp)
   | with_reducible refine br (fun _=>?_) fun _=>?_
 unfold Zfx
 exact bd (Z4h _ _ hl) fun v0 e0=>brN (fun _=>ok (by simp)) fun _=>bd (Znt _ (by have:=Zb1 hS e0; unfold Str; omega)) fun _ _=>br! (fun _=>ok (by simp)) fun _=>br (fun _=>bs (br (fun _=>ok (by simp)) fun _=>h1 _)) fun _=>h1 _
theorem Zyn (f : Z0p) (m : Z0a) (s : List UInt8) : Ok (Zii f m s) (fun _=>True):=by
 unfold Zii Zhd
 repeat' first
  | exact ok trivial
  | with_reducible refine br (fun _=>?_) fun _=>?_
  | with_reducible refine bd (Zkt _ _) fun _ _=>?_
  | with_reducible refine bd (Zvi _ _) fun _ _=>?_
  | with_reducible refine bs ?_
theorem Zxy (f : Z0p) (hf : Z7r f) (hS : PS f.Z1w 1024) (m : Z0a) (hm : m.Z1d.length ≤ 140737488355328 ∧ ∀ a ∈ m.Z1d,Str a.Z25) (g : Z24) (hg : g.Z30.length ≤ 1048576) : Ok (Zhv f.Z1w m g) (fun _=>True):=by
 have hp:=hf.pool.len
 unfold Zhv
 refine bd (Zx8 hp _ _ hm.1 hm.2) fun v0 e0=>bd (Zx8 hp _ _ hm.1 hm.2) fun v1 e1=>bs (brD (fun _=>ok trivial) fun _=>brD (fun _=>ok trivial) fun _=>bd (wr (by omega) (by omega)) fun _ _=>brN (fun _=>ok trivial) fun _=>br (fun _=>ok trivial) fun _=>?_)
 have h4 : ∀ a b,Ok (Zc0 a b) (fun _=>True):=fun a b=>by
  unfold Zc0
  exact brD (fun _=>ok trivial) fun _=>ok trivial
 have h3 : ∀ a b,Ok (Zdc a v1 f.Z1w b) (fun _=>True):=fun a b=>by
  unfold Zdc
  refine brD (fun _=>bd (Zyz _ e1.1) fun v7 e7=>brN (fun _=>ok trivial) fun _=>bd (P:=fun _=>True) (li v7.1.length (fun t h0 h1=>?_) (by omega) (by omega) (by omega)) fun q _=>?_) fun _=>h4 _ _
  ·unfold Zod
   exact brD (fun _=>bd (gr (by omega) (by omega)) fun _ _=>bd (Zee hp hS _) fun _ _=>brN (fun _=>di trivial) fun _=>bd (wr (by omega) (by omega)) fun _ _=>ni (by omega) (by omega)) fun _=>di trivial
  ·cases q with
   | inl _=>exact h4 _ _
   | inr _=>exact ok trivial
 unfold Zp7 Zhh
 exact bs (br (fun _=>bd (wr (by omega) (by omega)) fun _ _=>br (fun _=>bd (Zx5 _ _ hf.pool e0.1) fun _ _=>brN (fun _=>ok trivial) fun _=>h3 _ _) fun _=>h3 _ _) fun _=>br (fun _=>bd (Zx5 _ _ hf.pool e0.1) fun _ _=>brN (fun _=>ok trivial) fun _=>h3 _ _) fun _=>h3 _ _)
theorem Zz4 (f : Z0p) (hf : Z7r f) (hS : PS f.Z1w 1024) (i : Int) (h0 : 0 ≤ i) (h1 : i < f.Z18.length) : Ok (Zgm f i) (fun _=>True):=by
 unfold Zgm
 exact bd (gr h0 h1) fun m hm=>bd (Zxr f hf hS m) fun v1 e1=>brN (fun _=>ok trivial) fun _=>bd (Zyn _ _ _) fun _ _=>br! (fun _=>ok trivial) fun _=>bd (Zsu hf.pool.len _ i hf.metL h0 h1) fun _ _=>br (fun _=>ok trivial) fun _=>bd (Zxy f hf hS m (hf.mem m (.inr hm)) _ e1) fun _ _=>ok trivial
theorem Zzj (f : Z0p) (hf : Z7r f) (hS : PS f.Z1w 1024) : Ok (Zip f) (fun _=>True):=by
 unfold Zip j82x1
 exact brE (fun _=>ok trivial) fun _=>bd (gr (by omega) (by omega)) fun a ha=>brD (fun _=>ok trivial) fun _=>bd (Zmv hf.pool.len _ _) fun _ _=>br! (fun _=>ok trivial) fun _=>brN (fun _=>ok trivial) fun _=>bd (Zdx _ 0 2 (by omega) (hf.att a ha)) fun _ _=>bd (Z4h _ _ (by have:=hf.pool.len; omega)) fun _ _=>ok trivial
theorem Zol (s : List UInt8) (n : Int) (hs : s.length ≤ 1000) (h0 : 0 ≤ n) (h1 : n < 100) : Ok (Zb0 s n) (fun _=>True):=by
 unfold Zb0
 have h10 : ∀ a : Int,0 ≤ a → a < 10 → Ok (sub ([48,49,50,51,52,53,54,55,56,57] : List UInt8) a (a + 1)) (fun r=>r.length ≤ 1):=fun a ha hb=>(sb ha (by omega) (by simp; omega)).mono fun r hr=>by have:=hr.1; omega
 refine brD (fun _=>bd (ct (by simp; omega)) fun v0 e0=>bd (wr (by omega) (by omega)) fun v1 e1=>?_) fun _=>bd (ct (by simp; omega)) fun v4 e4=>?_
 ·rw [e1]
  exact bd (h10 n h0 (by omega)) fun v2 e2=>bd (ct (by have:=e0.2; simp at this; omega)) fun _ _=>ok trivial
 ·have hd : divK .i64 n 10 = some (n / 10):=by
   unfold divK
   rw [if_pos (by decide)]
   congr 1
   rw [Int.tdiv_eq_ediv_of_nonneg h0]
   exact wrapI (by omega) (by omega)
  have hm : modK n 10 = some (n % 10):=by
   unfold modK
   rw [if_pos (by decide)]
   congr 1
   exact Int.tmod_eq_emod_of_nonneg h0
  rw [hd,hm]
  refine bs (bs (bd (wr (by omega) (by omega)) fun v7 e7=>?_))
  rw [e7]
  refine bd (h10 _ (by omega) (by omega)) fun v8 e8=>bd (ct (by have:=e4.2; simp at this; omega)) fun v9 e9=>bs (bs (bd (wr (by omega) (by omega)) fun v12 e12=>?_))
  rw [e12]
  exact bd (h10 _ (by omega) (by omega)) fun v13 e13=>bd (ct (by have:=e4.2; have:=e9.2; simp at *; omega)) fun _ _=>ok trivial
theorem Zym (f : Z0p) (hf : Z7r f) : Ok (Zhs f) (fun r=>r.2 = 0 → FewF f):=by
 unfold Zhs
 refine bd (Zws _ hf.pool) fun v0 h0=>brN (fun h=>ok fun h'=>absurd h' h) fun h=>?_
 have hS:=h0 h
 refine bd (Y01 f hf hS) fun v1 h1=>brN (fun h=>ok fun h'=>absurd h' h) fun h=>?_
 have hF:=h1 h
 have k1:=hF.1; have k2:=hF.2.1; have k3:=hF.2.2
 refine bd (P:=fun _=>True) (li f.Z15.length (fun t h0 h1=>?_) (by omega) (by omega) (by omega)) fun q _=>?_
 ·unfold l60x1
  exact brD (fun hlt=>bd (Y14 f hf hS t h0 hlt) fun _ _=>brN (fun _=>bd (Zol _ t (by simp) h0 (by omega)) fun _ _=>di trivial) fun _=>bd (wr (by omega) (by omega)) fun _ _=>ni (by omega) (by omega)) fun _=>di trivial
 cases q with
 | inr _=>exact ok fun _=>hF
 | inl _=>
 refine bd (P:=fun _=>True) (li f.Z1c.length (fun t h0 h1=>?_) (by omega) (by omega) (by omega)) fun q _=>?_
 ·unfold l60x2
  exact brD (fun hlt=>bd (Y20 f hf hS t h0 hlt) fun _ _=>brN (fun _=>bd (Zol _ t (by simp) h0 (by omega)) fun _ _=>di trivial) fun _=>bd (wr (by omega) (by omega)) fun _ _=>ni (by omega) (by omega)) fun _=>di trivial
 cases q with
 | inr _=>exact ok fun _=>hF
 | inl _=>
 refine bd (P:=fun _=>True) (li f.Z18.length (fun t h0 h1=>?_) (by omega) (by omega) (by omega)) fun q _=>?_
 ·unfold l60x3
  exact brD (fun hlt=>bd (Zz4 f hf hS t h0 hlt) fun _ _=>brN (fun _=>bd (Zol _ t (by simp) h0 (by omega)) fun _ _=>di trivial) fun _=>bd (wr (by omega) (by omega)) fun _ _=>ni (by omega) (by omega)) fun _=>di trivial
 cases q with
 | inr _=>exact ok fun _=>hF
 | inl _=>exact bd (Zzj f hf hS) fun _ _=>br! (fun _=>ok fun _=>hF) fun _=>ok fun _=>hF
end Go.Proofs
