/-
  That the models come to an answer, part nine: class files, class spaces. No condition.
-/
import Derived.Test.YtldpbffppaednaaGreatAccT8
set_option linter.unusedVariables false
namespace Go.Proofs
open Go.Den Go.Tot
section
variable {p : List Z00} (hp : p.length ≤ 1000)
include hp
theorem Zo0 (a : Z14) (s : List UInt8) : Ok (Z9x p a s) (fun _=>True):=by
  unfold Z9x
  exact bd (Z4b p _ (by omega)) fun _ _=>brE (fun _=>ok trivial) fun _=>ok trivial
theorem Zsx (l : List Z0a) (i : Int) (hl : l.length ≤ 140737488355328) (h0 : 0 ≤ i) (h1 : i < l.length) : Ok (Zcw p l i) (fun _=>True):=by
  unfold Zcw
  refine bd (gr h0 h1) fun _ _=>bd (Z4b p _ (by omega)) fun v1 _=>bd (gr h0 h1) fun _ _=>bd (Z4b p _ (by omega)) fun v3 _=>bd (P:=fun _=>True) (li i (fun t g0 g1=>?_) (by omega) (by omega) (by omega)) fun q _=>by cases q <;> exact ok trivial
  unfold l97x1
  exact brD (fun _=>bd (gr (by omega) (by omega)) fun _ _=>bd (Z4b p _ (by omega)) fun _ _=>bd (gr (by omega) (by omega)) fun _ _=>bd (Z4b p _ (by omega)) fun _ _=>br (fun _=>br (fun _=>di trivial) fun _=>bd (wr (by omega) (by omega)) fun _ _=>ni (by omega) (by omega)) fun _=>bd (wr (by omega) (by omega)) fun _ _=>ni (by omega) (by omega)) fun _=>di trivial
theorem Zzp (i : Int) (d : List UInt8) : Ok (Zjd p i d) (fun _=>True):=by
  unfold Zjd
  refine bd (Zdi p i (by omega)) fun v _=>brN (fun _=>ok trivial) fun _=>?_
  repeat' first
    | exact ok trivial
    | with_reducible refine br (fun _=>?_) fun _=>?_
theorem Zx6 (m : Z0a) (d : List UInt8) (hm : ∀ a ∈ m.Z1f,Str a.Z29) : Ok (Zj8 p m d) (fun _=>True):=by
  unfold Zj8 j98x1
  refine brE (fun _=>ok trivial) fun _=>bd (gr (by omega) (by omega)) fun a ha=>brD (fun _=>ok trivial) fun _=>bs (br (fun _=>ok trivial) fun _=>bd (Zo0 hp _ _) fun _ _=>br! (fun _=>ok trivial) fun _=>brN (fun _=>ok trivial) fun _=>bd (Zed _ 0 2 (by omega) (hm a ha)) fun _ _=>bd (Zzp hp _ _) fun _ _=>ok trivial)
theorem Zqb (l : List Z14) (s : List UInt8) (hl : l.length ≤ 140737488355328) (ha : ∀ a ∈ l,Str a.Z29) : Ok (Zcz p l s) (fun r=>Str r.1 ∧ 0 ≤ r.2 ∧ r.2 ≤ l.length):=by
  unfold Zcz
  refine bd (P:=fun q : List UInt8 × Int=>Str q.1 ∧ 0 ≤ q.2 ∧ q.2 ≤ (l.length : Int)) (lp (fun t=>t.2.2) l.length (fun t=>Str t.1 ∧ 0 ≤ t.2.1 ∧ t.2.1 ≤ t.2.2) (fun t hI h0 h1=>?_) (by omega) ⟨by simp,by dsimp only; omega,by dsimp only; omega⟩ (by dsimp only; omega) (by dsimp only; omega)) fun q hq=>ok hq
  obtain ⟨hI1,hI2,hI3⟩:=hI
  unfold Zny
  exact brD (fun hlt=>bd (gr (by omega) (by omega)) fun a _=>bd (Zo0 hp _ _) fun _ _=>br (fun _=>bd (gr (by omega) (by omega)) fun b hb=>bd (wr (by omega) (by omega)) fun _ _=>bd (wr (by omega) (by omega)) fun _ _=>nx ⟨ha b hb,by dsimp only; omega,by dsimp only; omega⟩ (by dsimp only; omega) (by dsimp only; omega)) fun _=>bd (wr (by omega) (by omega)) fun _ _=>nx ⟨hI1,by dsimp only; omega,by dsimp only; omega⟩ (by dsimp only; omega) (by dsimp only; omega)) fun _=>dn ⟨hI1,by dsimp only; omega,by dsimp only; omega⟩
variable (hS : PS p 1024)
include hS
theorem Zco (i : Int) : Ok (Z7x p i) (fun _=>True):=by
  unfold Z7x j90x1
  exact brD (fun _=>ok trivial) fun _=>brD (fun _=>ok trivial) fun _=>bd (Zk3 p i (by omega) hS) fun v hv=>brN (fun _=>ok trivial) fun _=>brE (fun _=>ok trivial) fun _=>bd (gs (by omega) (by omega)) fun _ _=>brE (fun _=>ok trivial) fun _=>ok trivial
theorem Zuj (l : List Int) (s : List UInt8) (hl : l.length ≤ 140737488355328) : Ok (Zdz p l s) (fun _=>True):=by
  unfold Zdz
  refine bd (P:=fun _=>True) (li l.length (fun t h0 h1=>?_) (by omega) (by omega) (by omega)) fun q _=>by cases q <;> exact ok trivial
  unfold l93x1
  exact brD (fun _=>bd (gr (by omega) (by omega)) fun _ _=>bd (Zco hp hS _) fun _ _=>brE (fun _=>br (fun _=>di trivial) fun _=>bd (wr (by omega) (by omega)) fun _ _=>ni (by omega) (by omega)) fun _=>bd (wr (by omega) (by omega)) fun _ _=>ni (by omega) (by omega)) fun _=>di trivial
end
theorem Zxs (x y : Int) : Ok (Z89 x y) (fun _=>True):=bs (ok trivial)
theorem Zrt (x y : Int) : Ok (Z95 x y) (fun _=>True):=by
  unfold Z95
  exact brD (fun _=>bs (ok trivial)) fun _=>ok trivial
theorem Zwa (x : Int) : Ok (Zc8 x) (fun _=>True):=by
  unfold Zc8 Zhz Zj3
  have h : ∀ n : Int,Ok ((some (Z1y .i64 x (4 : Int))).bind fun v3=>if (v3 != 0) = true then ((some (IntKind.wrap .i64 (n + (1 : Int)))).bind fun v4=>some (decide (v4 ≤ 1))) else (some (decide (n ≤ 1)))) (fun _=>True):=fun n=>bs (br (fun _=>bs (ok trivial)) fun _=>ok trivial)
  have h1 : ∀ n : Int,Ok ((some (Z1y .i64 x (2 : Int))).bind fun v1=>if (v1 != 0) = true then ((some (IntKind.wrap .i64 (n + (1 : Int)))).bind fun v2=>(some (Z1y .i64 x (4 : Int))).bind fun v3=>if (v3 != 0) = true then ((some (IntKind.wrap .i64 (v2 + (1 : Int)))).bind fun v4=>some (decide (v4 ≤ 1))) else (some (decide (v2 ≤ 1)))) else ((some (Z1y .i64 x (4 : Int))).bind fun v3=>if (v3 != 0) = true then ((some (IntKind.wrap .i64 (n + (1 : Int)))).bind fun v4=>some (decide (v4 ≤ 1))) else (some (decide (n ≤ 1))))) (fun _=>True):=fun n=>bs (br (fun _=>bs (h _)) fun _=>h _)
  exact bs (br (fun _=>h1 1) fun _=>h1 0)
theorem Zmi (s : List UInt8) (x : Int) : Ok (Z97 s x) (fun _=>True):=by
  unfold Z97 Zaj Zat
  repeat' first
    | exact ok trivial
    | with_reducible refine br (fun _=>?_) fun _=>?_
    | with_reducible refine bd (Zxs _ _) fun _ _=>?_
    | with_reducible refine bd (Zrt _ _) fun _ _=>?_
    | with_reducible refine bd (Zwa _) fun _ _=>?_
    | with_reducible refine bs ?_
structure Z7t (f : Z0y) : Prop where
  pool : Z1e f.Z20
  ifsL : f.Z06.length ≤ 140737488355328
  fldL : f.Z0n.length ≤ 140737488355328
  metL : f.Z0m.length ≤ 140737488355328
  attL : f.Z1f.length ≤ 140737488355328
  att : ∀ a ∈ f.Z1f,Str a.Z29
  mem : ∀ m,m ∈ f.Z0n ∨ m ∈ f.Z0m → m.Z1f.length ≤ 140737488355328 ∧ ∀ a ∈ m.Z1f,Str a.Z29
def FewF (f : Z0y) : Prop:=f.Z06.length ≤ 8 ∧ f.Z0n.length ≤ 64 ∧ f.Z0m.length ≤ 64
theorem Zwd (f : Z0y) (hf : Z7t f) : Ok (Zho f) (fun b=>b = false → FewF f):=by
  have g1:=hf.fldL; have g2:=hf.metL
  unfold Zho j92x1
  refine brD (fun _=>ok (by simp)) fun _=>brD (fun _=>ok (by simp)) fun _=>brD (fun _=>ok (by simp)) fun _=>brD (fun _=>ok (by simp)) fun _=>?_
  have hd : FewF f:=⟨by omega,by omega,by omega⟩
  refine bd (P:=fun _=>True) (li f.Z0n.length (fun t h0 h1=>?_) (by omega) (by omega) (by omega)) fun q _=>?_
  · unfold l92x1
    exact brD (fun _=>bd (gr (by omega) (by omega)) fun _ _=>brD (fun _=>di trivial) fun _=>bd (wr (by omega) (by omega)) fun _ _=>ni (by omega) (by omega)) fun _=>di trivial
  cases q with
  | inr _=>exact ok fun _=>hd
  | inl _=>
    refine bd (P:=fun _=>True) (li f.Z0m.length (fun t h0 h1=>?_) (by omega) (by omega) (by omega)) fun q _=>by cases q <;> exact ok fun _=>hd
    unfold l92x2
    exact brD (fun _=>bd (gr (by omega) (by omega)) fun _ _=>brD (fun _=>di trivial) fun _=>bd (wr (by omega) (by omega)) fun _ _=>ni (by omega) (by omega)) fun _=>di trivial
theorem Zz6 (f : Z0y) (hf : Z7t f) (hS : PS f.Z20 1024) : Ok (Zil f) (fun e=>e = 0 → FewF f):=by
  have hp:=hf.pool.len
  have hi:=hf.ifsL
  have h3 : ∀ a (v : List UInt8 × Int),Ok (Zbc a v f) (fun e=>e = 0 → FewF f):=fun a v=>by
    unfold Zbc
    exact bd (Zwd f hf) fun b hb=>br (fun _=>ok (by simp)) fun h=>br (fun _=>ok (by simp)) fun _=>bd (Zuj hp hS _ _ hi) fun _ _=>br (fun _=>ok (by simp)) fun _=>ok fun _=>hb h
  have h2 : ∀ (v : List UInt8 × Int) a,Ok (Zdw v f a) (fun e=>e = 0 → FewF f):=fun v a=>by
    unfold Zdw
    exact bd (Zmi _ _) fun _ _=>br! (fun _=>ok (by simp)) fun _=>br (fun _=>ok (by simp)) fun _=>bs (br (fun _=>br (fun _=>ok (by simp)) fun _=>h3 _ _) fun _=>h3 _ _)
  have h1 : Ok (Zcd f) (fun e=>e = 0 → FewF f):=by
    unfold Zcd
    exact bd (Zco hp hS _) fun v _=>brN (fun h=>ok fun h'=>absurd h' h) fun _=>brN (fun _=>bd (Zco hp hS _) fun w _=>brN (fun h=>ok fun h'=>absurd h' h) fun _=>h2 _ _) fun _=>h2 _ _
  have hpl : ∀ i,Ok (Ze2 f.Z20 i) (fun _=>True):=fun i=>by
    unfold Ze2
    exact brD (fun _=>ok trivial) fun _=>ok trivial
  unfold Zil
  exact bd (hpl _) fun _ _=>br! (fun _=>ok (by simp)) fun _=>brN (fun _=>bd (hpl _) fun _ _=>br! (fun _=>ok (by simp)) fun _=>h1) fun _=>h1
theorem Y0h (f : Z0y) (hf : Z7t f) (hS : PS f.Z20 1024) (i : Int) (h0 : 0 ≤ i) (h1 : i < f.Z06.length) : Ok (Zej f i) (fun _=>True):=by
  have:=hf.ifsL
  unfold Zej
  exact bd (gr h0 h1) fun _ _=>bd (Zco hf.pool.len hS _) fun _ _=>brN (fun _=>ok trivial) fun _=>bd (sb (by omega) (by omega) (by omega)) fun r hr=>bd (Zuj hf.pool.len hS r _ (by have:=hr.1; omega)) fun _ _=>br (fun _=>ok trivial) fun _=>ok trivial
theorem Zxh (f : Z0y) (hf : Z7t f) (hS : PS f.Z20 1024) (i : Int) (h0 : 0 ≤ i) (h1 : i < f.Z0n.length) : Ok (Zhn f i) (fun _=>True):=by
  have hp:=hf.pool.len
  have hl : f.Z20.length ≤ 140737488355328:=by omega
  unfold Zhn
  refine bd (gr h0 h1) fun m hm=>bd (Z4b _ _ hl) fun v1 e1=>brN (fun _=>ok trivial) fun _=>bd (Zm5 _ (by have:=Zb2 hS e1; unfold Str; omega)) fun b hb=>br! (fun _=>ok trivial) fun h=>?_
  have hpos:=hb h
  refine bd (gs (by omega) (by omega)) fun _ _=>br (fun _=>ok trivial) fun _=>?_
  have h3 : ∀ v4 w,Ok (Zd9 m v4 f i w) (fun _=>True):=fun v4 w=>by
    unfold Zd9
    exact bd (Zmi _ _) fun _ _=>br! (fun _=>ok trivial) fun _=>bd (Zsx hp _ i hf.fldL h0 h1) fun _ _=>br (fun _=>ok trivial) fun _=>bd (Zx6 hp m _ (hf.mem m (.inl hm)).2) fun _ _=>br! (fun _=>ok trivial) fun _=>ok trivial
  unfold j70x1 j70x2
  exact bd (Z4b _ _ hl) fun v4 e4=>brN (fun _=>ok trivial) fun _=>bd (Ze5 _ (by have:=Zb2 hS e4; unfold Str; omega)) fun _ _=>brN (fun _=>ok trivial) fun _=>br (fun _=>ok trivial) fun _=>bs (br (fun _=>h3 _ _) fun _=>h3 _ _)
theorem Zx4 (f : Z0y) (hf : Z7t f) (hS : PS f.Z20 1024) (m : Z0a) : Ok (Zj9 f m) (fun r=>r.2.1.Z34.length ≤ 1048576):=by
  have hl : f.Z20.length ≤ 140737488355328:=by have:=hf.pool.len; omega
  have h1 : ∀ v0,Ok (Ze7 v0 f m) (fun r=>r.2.1.Z34.length ≤ 1048576):=fun v0=>by
    unfold Ze7
    refine bd (Z4b _ _ hl) fun v3 e3=>brN (fun _=>ok (by simp)) fun _=>bd (Zkn _ (by have:=Zb2 hS e3; omega)) fun v4 e4=>brN (fun _=>ok (by simp)) fun _=>?_
    repeat' first
      | exact ok e4
      | exact ok (by simp)
      | with_reducible refine br (fun _=>?_) fun _=>?_
  unfold Zj9
  exact bd (Z4b _ _ hl) fun v0 e0=>brN (fun _=>ok (by simp)) fun _=>bd (Zm5 _ (by have:=Zb2 hS e0; unfold Str; omega)) fun _ _=>br! (fun _=>ok (by simp)) fun _=>br (fun _=>bs (br (fun _=>ok (by simp)) fun _=>h1 _)) fun _=>h1 _
theorem Zzc (f : Z0y) (m : Z0a) (s : List UInt8) : Ok (Zg6 f m s) (fun _=>True):=by
  unfold Zg6 Zin
  repeat' first
    | exact ok trivial
    | with_reducible refine br (fun _=>?_) fun _=>?_
    | with_reducible refine bd (Zmi _ _) fun _ _=>?_
    | with_reducible refine bd (Zrt _ _) fun _ _=>?_
    | with_reducible refine bs ?_
theorem Zx8 (f : Z0y) (hf : Z7t f) (hS : PS f.Z20 1024) (m : Z0a) (hm : m.Z1f.length ≤ 140737488355328 ∧ ∀ a ∈ m.Z1f,Str a.Z29) (g : Z28) (hg : g.Z34.length ≤ 1048576) : Ok (Zf2 f.Z20 m g) (fun _=>True):=by
  have hp:=hf.pool.len
  unfold Zf2
  refine bd (Zqb hp _ _ hm.1 hm.2) fun v0 e0=>bd (Zqb hp _ _ hm.1 hm.2) fun v1 e1=>bs (brD (fun _=>ok trivial) fun _=>brD (fun _=>ok trivial) fun _=>bd (wr (by omega) (by omega)) fun _ _=>brN (fun _=>ok trivial) fun _=>br (fun _=>ok trivial) fun _=>?_)
  have h4 : ∀ a b,Ok (Zeb a b) (fun _=>True):=fun a b=>by
    unfold Zeb
    exact brD (fun _=>ok trivial) fun _=>ok trivial
  have h3 : ∀ a b,Ok (Zd3 a v1 f.Z20 b) (fun _=>True):=fun a b=>by
    unfold Zd3
    refine brD (fun _=>bd (Zz7 _ e1.1) fun v7 e7=>brN (fun _=>ok trivial) fun _=>bd (P:=fun _=>True) (li v7.1.length (fun t h0 h1=>?_) (by omega) (by omega) (by omega)) fun q _=>?_) fun _=>h4 _ _
    · unfold Zlr
      exact brD (fun _=>bd (gr (by omega) (by omega)) fun _ _=>bd (Zco hp hS _) fun _ _=>brN (fun _=>di trivial) fun _=>bd (wr (by omega) (by omega)) fun _ _=>ni (by omega) (by omega)) fun _=>di trivial
    · cases q with
      | inl _=>exact h4 _ _
      | inr _=>exact ok trivial
  unfold Zmb Zjk
  exact bs (br (fun _=>bd (wr (by omega) (by omega)) fun _ _=>br (fun _=>bd (Zqe _ _ hf.pool e0.1) fun _ _=>brN (fun _=>ok trivial) fun _=>h3 _ _) fun _=>h3 _ _) fun _=>br (fun _=>bd (Zqe _ _ hf.pool e0.1) fun _ _=>brN (fun _=>ok trivial) fun _=>h3 _ _) fun _=>h3 _ _)
theorem Zx9 (f : Z0y) (hf : Z7t f) (hS : PS f.Z20 1024) (i : Int) (h0 : 0 ≤ i) (h1 : i < f.Z0m.length) : Ok (Zi2 f i) (fun _=>True):=by
  unfold Zi2
  exact bd (gr h0 h1) fun m hm=>bd (Zx4 f hf hS m) fun v1 e1=>brN (fun _=>ok trivial) fun _=>bd (Zzc _ _ _) fun _ _=>br! (fun _=>ok trivial) fun _=>bd (Zsx hf.pool.len _ i hf.metL h0 h1) fun _ _=>br (fun _=>ok trivial) fun _=>bd (Zx8 f hf hS m (hf.mem m (.inr hm)) _ e1) fun _ _=>ok trivial
theorem Zyl (f : Z0y) (hf : Z7t f) (hS : PS f.Z20 1024) : Ok (Zi9 f) (fun _=>True):=by
  unfold Zi9 j72x1
  exact brE (fun _=>ok trivial) fun _=>bd (gr (by omega) (by omega)) fun a ha=>brD (fun _=>ok trivial) fun _=>bd (Zo0 hf.pool.len _ _) fun _ _=>br! (fun _=>ok trivial) fun _=>brN (fun _=>ok trivial) fun _=>bd (Zed _ 0 2 (by omega) (hf.att a ha)) fun _ _=>bd (Z4b _ _ (by have:=hf.pool.len; omega)) fun _ _=>ok trivial
theorem Zl5 (s : List UInt8) (n : Int) (hs : s.length ≤ 1000) (h0 : 0 ≤ n) (h1 : n < 100) : Ok (Z9o s n) (fun _=>True):=by
  unfold Z9o
  have h10 : ∀ a : Int,0 ≤ a → a < 10 → Ok (sub ([48,49,50,51,52,53,54,55,56,57] : List UInt8) a (a + 1)) (fun r=>r.length ≤ 1):=fun a ha hb=>(sb ha (by omega) (by simp; omega)).mono fun r hr=>by have:=hr.1; omega
  refine brD (fun _=>bd (ct (by simp; omega)) fun v0 e0=>bd (wr (by omega) (by omega)) fun v1 e1=>?_) fun _=>bd (ct (by simp; omega)) fun v4 e4=>?_
  · rw [e1]
    exact bd (h10 n h0 (by omega)) fun v2 e2=>bd (ct (by have:=e0.2; simp at this; omega)) fun _ _=>ok trivial
  · have hd : divK .i64 n 10 = some (n / 10):=by
      unfold divK
      rw [if_pos (by decide)]
      congr 1
      rw [Int.tdiv_eq_ediv_of_nonneg h0]
      exact wrapI (by omega) (by omega)
    have hm : modK n 10 = some (n % 10):=by
      unfold modK
      rw [if_pos (by decide)]
      congr 1
      exact Int.tmod_eq_emod_of_nonneg h0
    rw [hd,hm]
    refine bs (bs (bd (wr (by omega) (by omega)) fun v7 e7=>?_))
    rw [e7]
    refine bd (h10 _ (by omega) (by omega)) fun v8 e8=>bd (ct (by have:=e4.2; simp at this; omega)) fun v9 e9=>bs (bs (bd (wr (by omega) (by omega)) fun v12 e12=>?_))
    rw [e12]
    exact bd (h10 _ (by omega) (by omega)) fun v13 e13=>bd (ct (by have:=e4.2; have:=e9.2; simp at *; omega)) fun _ _=>ok trivial
theorem Zzf (f : Z0y) (hf : Z7t f) : Ok (Zgu f) (fun r=>r.2 = 0 → FewF f):=by
  unfold Zgu
  refine bd (Zpi _ hf.pool) fun v0 h0=>brN (fun h=>ok fun h'=>absurd h' h) fun h=>?_
  have hS:=h0 h
  refine bd (Zz6 f hf hS) fun v1 h1=>brN (fun h=>ok fun h'=>absurd h' h) fun h=>?_
  have hF:=h1 h
  have k1:=hF.1; have k2:=hF.2.1; have k3:=hF.2.2
  refine bd (P:=fun _=>True) (li f.Z06.length (fun t h0 h1=>?_) (by omega) (by omega) (by omega)) fun q _=>?_
  · unfold l51x1
    exact brD (fun hlt=>bd (Y0h f hf hS t h0 hlt) fun _ _=>brN (fun _=>bd (Zl5 _ t (by simp) h0 (by omega)) fun _ _=>di trivial) fun _=>bd (wr (by omega) (by omega)) fun _ _=>ni (by omega) (by omega)) fun _=>di trivial
  cases q with
  | inr _=>exact ok fun _=>hF
  | inl _=>
  refine bd (P:=fun _=>True) (li f.Z0n.length (fun t h0 h1=>?_) (by omega) (by omega) (by omega)) fun q _=>?_
  · unfold l51x2
    exact brD (fun hlt=>bd (Zxh f hf hS t h0 hlt) fun _ _=>brN (fun _=>bd (Zl5 _ t (by simp) h0 (by omega)) fun _ _=>di trivial) fun _=>bd (wr (by omega) (by omega)) fun _ _=>ni (by omega) (by omega)) fun _=>di trivial
  cases q with
  | inr _=>exact ok fun _=>hF
  | inl _=>
  refine bd (P:=fun _=>True) (li f.Z0m.length (fun t h0 h1=>?_) (by omega) (by omega) (by omega)) fun q _=>?_
  · unfold l51x3
    exact brD (fun hlt=>bd (Zx9 f hf hS t h0 hlt) fun _ _=>brN (fun _=>bd (Zl5 _ t (by simp) h0 (by omega)) fun _ _=>di trivial) fun _=>bd (wr (by omega) (by omega)) fun _ _=>ni (by omega) (by omega)) fun _=>di trivial
  cases q with
  | inr _=>exact ok fun _=>hF
  | inl _=>exact bd (Zyl f hf hS) fun _ _=>br! (fun _=>ok fun _=>hF) fun _=>ok fun _=>hF
end Go.Proofs
