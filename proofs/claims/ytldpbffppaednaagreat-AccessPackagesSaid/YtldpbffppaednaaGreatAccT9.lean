/-
  That the models come to an answer, part nine: class files, class spaces. No condition.
-/
import Derived.Test.YtldpbffppaednaaGreatAccT8
set_option linter.unusedVariables false
namespace Go.Proofs
open Go.Den Go.Tot
section
variable {p : List Z00} (hp : p.length ≤ 1000)
include hp
theorem Zm3 (a : Z14) (s : List UInt8) : Ok (Zak p a s) (fun _=>True):=by
  unfold Zak
  exact bd (Z4b p _ (by omega)) fun _ _=>brE (fun _=>ok trivial) fun _=>ok trivial
theorem Zsv (l : List Z0b) (i : Int) (hl : l.length ≤ 140737488355328) (h0 : 0 ≤ i) (h1 : i < l.length) : Ok (Zdp p l i) (fun _=>True):=by
  unfold Zdp
  refine bd (gr h0 h1) fun _ _=>bd (Z4b p _ (by omega)) fun v1 _=>bd (gr h0 h1) fun _ _=>bd (Z4b p _ (by omega)) fun v3 _=>bd (P:=fun _=>True) (li i (fun t g0 g1=>?_) (by omega) (by omega) (by omega)) fun q _=>by cases q <;> exact ok trivial
  unfold l97x1
  exact brD (fun _=>bd (gr (by omega) (by omega)) fun _ _=>bd (Z4b p _ (by omega)) fun _ _=>bd (gr (by omega) (by omega)) fun _ _=>bd (Z4b p _ (by omega)) fun _ _=>br (fun _=>br (fun _=>di trivial) fun _=>bd (wr (by omega) (by omega)) fun _ _=>ni (by omega) (by omega)) fun _=>bd (wr (by omega) (by omega)) fun _ _=>ni (by omega) (by omega)) fun _=>di trivial
theorem Y0b (i : Int) (d : List UInt8) : Ok (Zgd p i d) (fun _=>True):=by
  unfold Zgd
  refine bd (Zco p i (by omega)) fun v _=>brN (fun _=>ok trivial) fun _=>?_
  repeat' first
    | exact ok trivial
    | with_reducible refine br (fun _=>?_) fun _=>?_
theorem Zzo (m : Z0b) (d : List UInt8) (hm : ∀ a ∈ m.Z1g,Str a.Z29) : Ok (Zi0 p m d) (fun _=>True):=by
  unfold Zi0 j98x1
  refine brE (fun _=>ok trivial) fun _=>bd (gr (by omega) (by omega)) fun a ha=>brD (fun _=>ok trivial) fun _=>bs (br (fun _=>ok trivial) fun _=>bd (Zm3 hp _ _) fun _ _=>br! (fun _=>ok trivial) fun _=>brN (fun _=>ok trivial) fun _=>bd (Zd3 _ 0 2 (by omega) (hm a ha)) fun _ _=>bd (Y0b hp _ _) fun _ _=>ok trivial)
theorem Zpq (l : List Z14) (s : List UInt8) (hl : l.length ≤ 140737488355328) (ha : ∀ a ∈ l,Str a.Z29) : Ok (Zdx p l s) (fun r=>Str r.1 ∧ 0 ≤ r.2 ∧ r.2 ≤ l.length):=by
  unfold Zdx
  refine bd (P:=fun q : List UInt8 × Int=>Str q.1 ∧ 0 ≤ q.2 ∧ q.2 ≤ (l.length : Int)) (lp (fun t=>t.2.2) l.length (fun t=>Str t.1 ∧ 0 ≤ t.2.1 ∧ t.2.1 ≤ t.2.2) (fun t hI h0 h1=>?_) (by omega) ⟨by simp,by dsimp only; omega,by dsimp only; omega⟩ (by dsimp only; omega) (by dsimp only; omega)) fun q hq=>ok hq
  obtain ⟨hI1,hI2,hI3⟩:=hI
  unfold Zmy
  exact brD (fun hlt=>bd (gr (by omega) (by omega)) fun a _=>bd (Zm3 hp _ _) fun _ _=>br (fun _=>bd (gr (by omega) (by omega)) fun b hb=>bd (wr (by omega) (by omega)) fun _ _=>bd (wr (by omega) (by omega)) fun _ _=>nx ⟨ha b hb,by dsimp only; omega,by dsimp only; omega⟩ (by dsimp only; omega) (by dsimp only; omega)) fun _=>bd (wr (by omega) (by omega)) fun _ _=>nx ⟨hI1,by dsimp only; omega,by dsimp only; omega⟩ (by dsimp only; omega) (by dsimp only; omega)) fun _=>dn ⟨hI1,by dsimp only; omega,by dsimp only; omega⟩
variable (hS : PS p 1024)
include hS
theorem Zdt (i : Int) : Ok (Z83 p i) (fun _=>True):=by
  unfold Z83 j90x1
  exact brD (fun _=>ok trivial) fun _=>brD (fun _=>ok trivial) fun _=>bd (Zm7 p i (by omega) hS) fun v hv=>brN (fun _=>ok trivial) fun _=>brE (fun _=>ok trivial) fun _=>bd (gs (by omega) (by omega)) fun _ _=>brE (fun _=>ok trivial) fun _=>ok trivial
theorem Zqd (l : List Int) (s : List UInt8) (hl : l.length ≤ 140737488355328) : Ok (Zd2 p l s) (fun _=>True):=by
  unfold Zd2
  refine bd (P:=fun _=>True) (li l.length (fun t h0 h1=>?_) (by omega) (by omega) (by omega)) fun q _=>by cases q <;> exact ok trivial
  unfold l93x1
  exact brD (fun _=>bd (gr (by omega) (by omega)) fun _ _=>bd (Zdt hp hS _) fun _ _=>brE (fun _=>br (fun _=>di trivial) fun _=>bd (wr (by omega) (by omega)) fun _ _=>ni (by omega) (by omega)) fun _=>bd (wr (by omega) (by omega)) fun _ _=>ni (by omega) (by omega)) fun _=>di trivial
end
theorem Zyq (x y : Int) : Ok (Z8e x y) (fun _=>True):=bs (ok trivial)
theorem Zs3 (x y : Int) : Ok (Z94 x y) (fun _=>True):=by
  unfold Z94
  exact brD (fun _=>bs (ok trivial)) fun _=>ok trivial
theorem Zz4 (x : Int) : Ok (Zce x) (fun _=>True):=by
  unfold Zce Zgj Zin
  have h : ∀ n : Int,Ok ((some (Z1r .i64 x (4 : Int))).bind fun v3=>if (v3 != 0) = true then ((some (IntKind.wrap .i64 (n + (1 : Int)))).bind fun v4=>some (decide (v4 ≤ 1))) else (some (decide (n ≤ 1)))) (fun _=>True):=fun n=>bs (br (fun _=>bs (ok trivial)) fun _=>ok trivial)
  have h1 : ∀ n : Int,Ok ((some (Z1r .i64 x (2 : Int))).bind fun v1=>if (v1 != 0) = true then ((some (IntKind.wrap .i64 (n + (1 : Int)))).bind fun v2=>(some (Z1r .i64 x (4 : Int))).bind fun v3=>if (v3 != 0) = true then ((some (IntKind.wrap .i64 (v2 + (1 : Int)))).bind fun v4=>some (decide (v4 ≤ 1))) else (some (decide (v2 ≤ 1)))) else ((some (Z1r .i64 x (4 : Int))).bind fun v3=>if (v3 != 0) = true then ((some (IntKind.wrap .i64 (n + (1 : Int)))).bind fun v4=>some (decide (v4 ≤ 1))) else (some (decide (n ≤ 1))))) (fun _=>True):=fun n=>bs (br (fun _=>bs (h _)) fun _=>h _)
  exact bs (br (fun _=>h1 1) fun _=>h1 0)
theorem Zl6 (s : List UInt8) (x : Int) : Ok (Z90 s x) (fun _=>True):=by
  unfold Z90 Za1 Zag
  repeat' first
    | exact ok trivial
    | with_reducible refine br (fun _=>?_) fun _=>?_
    | with_reducible refine bd (Zyq _ _) fun _ _=>?_
    | with_reducible refine bd (Zs3 _ _) fun _ _=>?_
    | with_reducible refine bd (Zz4 _) fun _ _=>?_
    | with_reducible refine bs ?_
structure Z73 (f : Z0w) : Prop where
  pool : Z1e f.Z20
  ifsL : f.Z06.length ≤ 140737488355328
  fldL : f.Z0n.length ≤ 140737488355328
  metL : f.Z0m.length ≤ 140737488355328
  attL : f.Z1g.length ≤ 140737488355328
  att : ∀ a ∈ f.Z1g,Str a.Z29
  mem : ∀ m,m ∈ f.Z0n ∨ m ∈ f.Z0m → m.Z1g.length ≤ 140737488355328 ∧ ∀ a ∈ m.Z1g,Str a.Z29
def FewF (f : Z0w) : Prop:=f.Z06.length ≤ 8 ∧ f.Z0n.length ≤ 64 ∧ f.Z0m.length ≤ 64
theorem Zwy (f : Z0w) (hf : Z73 f) : Ok (Zgv f) (fun b=>b = false → FewF f):=by
  have g1:=hf.fldL; have g2:=hf.metL
  unfold Zgv j92x1
  refine brD (fun _=>ok (by simp)) fun _=>brD (fun _=>ok (by simp)) fun _=>brD (fun _=>ok (by simp)) fun _=>brD (fun _=>ok (by simp)) fun _=>?_
  have hd : FewF f:=⟨by omega,by omega,by omega⟩
  refine bd (P:=fun _=>True) (li f.Z0n.length (fun t h0 h1=>?_) (by omega) (by omega) (by omega)) fun q _=>?_
  · unfold l92x1
    exact brD (fun _=>bd (gr (by omega) (by omega)) fun _ _=>brD (fun _=>di trivial) fun _=>bd (wr (by omega) (by omega)) fun _ _=>ni (by omega) (by omega)) fun _=>di trivial
  cases q with
  | inr _=>exact ok fun _=>hd
  | inl _=>
    refine bd (P:=fun _=>True) (li f.Z0m.length (fun t h0 h1=>?_) (by omega) (by omega) (by omega)) fun q _=>by cases q <;> exact ok fun _=>hd
    unfold l92x2
    exact brD (fun _=>bd (gr (by omega) (by omega)) fun _ _=>brD (fun _=>di trivial) fun _=>bd (wr (by omega) (by omega)) fun _ _=>ni (by omega) (by omega)) fun _=>di trivial
theorem Y0g (f : Z0w) (hf : Z73 f) (hS : PS f.Z20 1024) : Ok (Zep f) (fun e=>e = 0 → FewF f):=by
  have hp:=hf.pool.len
  have hi:=hf.ifsL
  have h3 : ∀ a (v : List UInt8 × Int),Ok (Zei a v f) (fun e=>e = 0 → FewF f):=fun a v=>by
    unfold Zei
    exact bd (Zwy f hf) fun b hb=>br (fun _=>ok (by simp)) fun h=>br (fun _=>ok (by simp)) fun _=>bd (Zqd hp hS _ _ hi) fun _ _=>br (fun _=>ok (by simp)) fun _=>ok fun _=>hb h
  have h2 : ∀ (v : List UInt8 × Int) a,Ok (Zcc v f a) (fun e=>e = 0 → FewF f):=fun v a=>by
    unfold Zcc
    exact bd (Zl6 _ _) fun _ _=>br! (fun _=>ok (by simp)) fun _=>br (fun _=>ok (by simp)) fun _=>bs (br (fun _=>br (fun _=>ok (by simp)) fun _=>h3 _ _) fun _=>h3 _ _)
  have h1 : Ok (Zdj f) (fun e=>e = 0 → FewF f):=by
    unfold Zdj
    exact bd (Zdt hp hS _) fun v _=>brN (fun h=>ok fun h'=>absurd h' h) fun _=>brN (fun _=>bd (Zdt hp hS _) fun w _=>brN (fun h=>ok fun h'=>absurd h' h) fun _=>h2 _ _) fun _=>h2 _ _
  have hpl : ∀ i,Ok (Zcy f.Z20 i) (fun _=>True):=fun i=>by
    unfold Zcy
    exact brD (fun _=>ok trivial) fun _=>ok trivial
  unfold Zep
  exact bd (hpl _) fun _ _=>br! (fun _=>ok (by simp)) fun _=>brN (fun _=>bd (hpl _) fun _ _=>br! (fun _=>ok (by simp)) fun _=>h1) fun _=>h1
theorem Zw5 (f : Z0w) (hf : Z73 f) (hS : PS f.Z20 1024) (i : Int) (h0 : 0 ≤ i) (h1 : i < f.Z06.length) : Ok (Zgy f i) (fun _=>True):=by
  have:=hf.ifsL
  unfold Zgy
  exact bd (gr h0 h1) fun _ _=>bd (Zdt hf.pool.len hS _) fun _ _=>brN (fun _=>ok trivial) fun _=>bd (sb (by omega) (by omega) (by omega)) fun r hr=>bd (Zqd hf.pool.len hS r _ (by have:=hr.1; omega)) fun _ _=>br (fun _=>ok trivial) fun _=>ok trivial
theorem Zxz (f : Z0w) (hf : Z73 f) (hS : PS f.Z20 1024) (i : Int) (h0 : 0 ≤ i) (h1 : i < f.Z0n.length) : Ok (Zfd f i) (fun _=>True):=by
  have hp:=hf.pool.len
  have hl : f.Z20.length ≤ 140737488355328:=by omega
  unfold Zfd
  refine bd (gr h0 h1) fun m hm=>bd (Z4b _ _ hl) fun v1 e1=>brN (fun _=>ok trivial) fun _=>bd (Zks _ (by have:=Za5 hS e1; unfold Str; omega)) fun b hb=>br! (fun _=>ok trivial) fun h=>?_
  have hpos:=hb h
  refine bd (gs (by omega) (by omega)) fun _ _=>br (fun _=>ok trivial) fun _=>?_
  have h3 : ∀ v4 w,Ok (Zd5 m v4 f i w) (fun _=>True):=fun v4 w=>by
    unfold Zd5
    exact bd (Zl6 _ _) fun _ _=>br! (fun _=>ok trivial) fun _=>bd (Zsv hp _ i hf.fldL h0 h1) fun _ _=>br (fun _=>ok trivial) fun _=>bd (Zzo hp m _ (hf.mem m (.inl hm)).2) fun _ _=>br! (fun _=>ok trivial) fun _=>ok trivial
  unfold j70x1 j70x2
  exact bd (Z4b _ _ hl) fun v4 e4=>brN (fun _=>ok trivial) fun _=>bd (Zdy _ (by have:=Za5 hS e4; unfold Str; omega)) fun _ _=>brN (fun _=>ok trivial) fun _=>br (fun _=>ok trivial) fun _=>bs (br (fun _=>h3 _ _) fun _=>h3 _ _)
theorem Zwt (f : Z0w) (hf : Z73 f) (hS : PS f.Z20 1024) (m : Z0b) : Ok (Zi7 f m) (fun r=>r.2.1.Z32.length ≤ 1048576):=by
  have hl : f.Z20.length ≤ 140737488355328:=by have:=hf.pool.len; omega
  have h1 : ∀ v0,Ok (Zdu v0 f m) (fun r=>r.2.1.Z32.length ≤ 1048576):=fun v0=>by
    unfold Zdu
    refine bd (Z4b _ _ hl) fun v3 e3=>brN (fun _=>ok (by simp)) fun _=>bd (Zk4 _ (by have:=Za5 hS e3; omega)) fun v4 e4=>brN (fun _=>ok (by simp)) fun _=>?_
    repeat' first
      | exact ok e4
      | exact ok (by simp)
      | with_reducible refine br (fun _=>?_) fun _=>?_
  unfold Zi7
  exact bd (Z4b _ _ hl) fun v0 e0=>brN (fun _=>ok (by simp)) fun _=>bd (Zks _ (by have:=Za5 hS e0; unfold Str; omega)) fun _ _=>br! (fun _=>ok (by simp)) fun _=>br (fun _=>bs (br (fun _=>ok (by simp)) fun _=>h1 _)) fun _=>h1 _
theorem Zxf (f : Z0w) (m : Z0b) (s : List UInt8) : Ok (Zhr f m s) (fun _=>True):=by
  unfold Zhr Zip
  repeat' first
    | exact ok trivial
    | with_reducible refine br (fun _=>?_) fun _=>?_
    | with_reducible refine bd (Zl6 _ _) fun _ _=>?_
    | with_reducible refine bd (Zs3 _ _) fun _ _=>?_
    | with_reducible refine bs ?_
theorem Y0c (f : Z0w) (hf : Z73 f) (hS : PS f.Z20 1024) (m : Z0b) (hm : m.Z1g.length ≤ 140737488355328 ∧ ∀ a ∈ m.Z1g,Str a.Z29) (g : Z28) (hg : g.Z32.length ≤ 1048576) : Ok (Zhl f.Z20 m g) (fun _=>True):=by
  have hp:=hf.pool.len
  unfold Zhl
  refine bd (Zpq hp _ _ hm.1 hm.2) fun v0 e0=>bd (Zpq hp _ _ hm.1 hm.2) fun v1 e1=>bs (brD (fun _=>ok trivial) fun _=>brD (fun _=>ok trivial) fun _=>bd (wr (by omega) (by omega)) fun _ _=>brN (fun _=>ok trivial) fun _=>br (fun _=>ok trivial) fun _=>?_)
  have h4 : ∀ a b,Ok (Zcv a b) (fun _=>True):=fun a b=>by
    unfold Zcv
    exact brD (fun _=>ok trivial) fun _=>ok trivial
  have h3 : ∀ a b,Ok (Zby a v1 f.Z20 b) (fun _=>True):=fun a b=>by
    unfold Zby
    refine brD (fun _=>bd (Zwc _ e1.1) fun v7 e7=>brN (fun _=>ok trivial) fun _=>bd (P:=fun _=>True) (li v7.1.length (fun t h0 h1=>?_) (by omega) (by omega) (by omega)) fun q _=>?_) fun _=>h4 _ _
    · unfold Zmr
      exact brD (fun _=>bd (gr (by omega) (by omega)) fun _ _=>bd (Zdt hp hS _) fun _ _=>brN (fun _=>di trivial) fun _=>bd (wr (by omega) (by omega)) fun _ _=>ni (by omega) (by omega)) fun _=>di trivial
    · cases q with
      | inl _=>exact h4 _ _
      | inr _=>exact ok trivial
  unfold Zkl Ziz
  exact bs (br (fun _=>bd (wr (by omega) (by omega)) fun _ _=>br (fun _=>bd (Zpf _ _ hf.pool e0.1) fun _ _=>brN (fun _=>ok trivial) fun _=>h3 _ _) fun _=>h3 _ _) fun _=>br (fun _=>bd (Zpf _ _ hf.pool e0.1) fun _ _=>brN (fun _=>ok trivial) fun _=>h3 _ _) fun _=>h3 _ _)
theorem Zzf (f : Z0w) (hf : Z73 f) (hS : PS f.Z20 1024) (i : Int) (h0 : 0 ≤ i) (h1 : i < f.Z0m.length) : Ok (Zfa f i) (fun _=>True):=by
  unfold Zfa
  exact bd (gr h0 h1) fun m hm=>bd (Zwt f hf hS m) fun v1 e1=>brN (fun _=>ok trivial) fun _=>bd (Zxf _ _ _) fun _ _=>br! (fun _=>ok trivial) fun _=>bd (Zsv hf.pool.len _ i hf.metL h0 h1) fun _ _=>br (fun _=>ok trivial) fun _=>bd (Y0c f hf hS m (hf.mem m (.inr hm)) _ e1) fun _ _=>ok trivial
theorem Zx6 (f : Z0w) (hf : Z73 f) (hS : PS f.Z20 1024) : Ok (Zjj f) (fun _=>True):=by
  unfold Zjj j72x1
  exact brE (fun _=>ok trivial) fun _=>bd (gr (by omega) (by omega)) fun a ha=>brD (fun _=>ok trivial) fun _=>bd (Zm3 hf.pool.len _ _) fun _ _=>br! (fun _=>ok trivial) fun _=>brN (fun _=>ok trivial) fun _=>bd (Zd3 _ 0 2 (by omega) (hf.att a ha)) fun _ _=>bd (Z4b _ _ (by have:=hf.pool.len; omega)) fun _ _=>ok trivial
theorem Zn8 (s : List UInt8) (n : Int) (hs : s.length ≤ 1000) (h0 : 0 ≤ n) (h1 : n < 100) : Ok (Zam s n) (fun _=>True):=by
  unfold Zam
  have h10 : ∀ a : Int,0 ≤ a → a < 10 → Ok (sub ([48,49,50,51,52,53,54,55,56,57] : List UInt8) a (a + 1)) (fun r=>r.length ≤ 1):=fun a ha hb=>(sb ha (by omega) (by simp; omega)).mono fun r hr=>by have:=hr.1; omega
  refine brD (fun _=>bd (ct (by simp; omega)) fun v0 e0=>bd (wr (by omega) (by omega)) fun v1 e1=>?_) fun _=>bd (ct (by simp; omega)) fun v4 e4=>?_
  · rw [e1]
    exact bd (h10 n h0 (by omega)) fun v2 e2=>bd (ct (by have:=e0.2; simp at this; omega)) fun _ _=>ok trivial
  · have hd : divK .i64 n 10 = some (n / 10):=by
      unfold divK
      rw [if_pos (by decide)]
      congr 1
      rw [Int.tdiv_eq_ediv_of_nonneg h0]
      exact wrapI (by omega) (by omega)
    have hm : modK n 10 = some (n % 10):=by
      unfold modK
      rw [if_pos (by decide)]
      congr 1
      exact Int.tmod_eq_emod_of_nonneg h0
    rw [hd,hm]
    refine bs (bs (bd (wr (by omega) (by omega)) fun v7 e7=>?_))
    rw [e7]
    refine bd (h10 _ (by omega) (by omega)) fun v8 e8=>bd (ct (by have:=e4.2; simp at this; omega)) fun v9 e9=>bs (bs (bd (wr (by omega) (by omega)) fun v12 e12=>?_))
    rw [e12]
    exact bd (h10 _ (by omega) (by omega)) fun v13 e13=>bd (ct (by have:=e4.2; have:=e9.2; simp at *; omega)) fun _ _=>ok trivial
theorem Zy9 (f : Z0w) (hf : Z73 f) : Ok (Zha f) (fun r=>r.2 = 0 → FewF f):=by
  unfold Zha
  refine bd (Zsr _ hf.pool) fun v0 h0=>brN (fun h=>ok fun h'=>absurd h' h) fun h=>?_
  have hS:=h0 h
  refine bd (Y0g f hf hS) fun v1 h1=>brN (fun h=>ok fun h'=>absurd h' h) fun h=>?_
  have hF:=h1 h
  have k1:=hF.1; have k2:=hF.2.1; have k3:=hF.2.2
  refine bd (P:=fun _=>True) (li f.Z06.length (fun t h0 h1=>?_) (by omega) (by omega) (by omega)) fun q _=>?_
  · unfold l51x1
    exact brD (fun hlt=>bd (Zw5 f hf hS t h0 hlt) fun _ _=>brN (fun _=>bd (Zn8 _ t (by simp) h0 (by omega)) fun _ _=>di trivial) fun _=>bd (wr (by omega) (by omega)) fun _ _=>ni (by omega) (by omega)) fun _=>di trivial
  cases q with
  | inr _=>exact ok fun _=>hF
  | inl _=>
  refine bd (P:=fun _=>True) (li f.Z0n.length (fun t h0 h1=>?_) (by omega) (by omega) (by omega)) fun q _=>?_
  · unfold l51x2
    exact brD (fun hlt=>bd (Zxz f hf hS t h0 hlt) fun _ _=>brN (fun _=>bd (Zn8 _ t (by simp) h0 (by omega)) fun _ _=>di trivial) fun _=>bd (wr (by omega) (by omega)) fun _ _=>ni (by omega) (by omega)) fun _=>di trivial
  cases q with
  | inr _=>exact ok fun _=>hF
  | inl _=>
  refine bd (P:=fun _=>True) (li f.Z0m.length (fun t h0 h1=>?_) (by omega) (by omega) (by omega)) fun q _=>?_
  · unfold l51x3
    exact brD (fun hlt=>bd (Zzf f hf hS t h0 hlt) fun _ _=>brN (fun _=>bd (Zn8 _ t (by simp) h0 (by omega)) fun _ _=>di trivial) fun _=>bd (wr (by omega) (by omega)) fun _ _=>ni (by omega) (by omega)) fun _=>di trivial
  cases q with
  | inr _=>exact ok fun _=>hF
  | inl _=>exact bd (Zx6 f hf hS) fun _ _=>br! (fun _=>ok fun _=>hF) fun _=>ok fun _=>hF
end Go.Proofs
