/-
  That the models come to an answer, part nine: class files, class spaces. No condition.
-/
import Derived.Test.YtldpbffppaednaaGreatAccT8
set_option linter.unusedVariables false
namespace Go.Proofs
open Go.Den Go.Tot
section
variable {p : List Z00} (hp : p.length ≤ 1000)
include hp
theorem Zn3 (a : Z14) (s : List UInt8) : Ok (Zak p a s) (fun _=>True):=by
 unfold Zak
 exact bd (Z46 p _ (by omega)) fun _ _=>brE (fun _=>ok trivial) fun _=>ok trivial
theorem Zv3 (l : List Z0a) (i : Int) (hl : l.length ≤ 140737488355328) (h0 : 0 ≤ i) (h1 : i < l.length) : Ok (Zbu p l i) (fun _=>True):=by
 unfold Zbu
 refine bd (gr h0 h1) fun _ _=>bd (Z46 p _ (by omega)) fun v1 _=>bd (gr h0 h1) fun _ _=>bd (Z46 p _ (by omega)) fun v3 _=>bd (P:=fun _=>True) (li i (fun t g0 g1=>?_) (by omega) (by omega) (by omega)) fun q _=>by cases q <;> exact ok trivial
 unfold l97x1
 exact brD (fun _=>bd (gr (by omega) (by omega)) fun _ _=>bd (Z46 p _ (by omega)) fun _ _=>bd (gr (by omega) (by omega)) fun _ _=>bd (Z46 p _ (by omega)) fun _ _=>br (fun _=>br (fun _=>di trivial) fun _=>bd (wr (by omega) (by omega)) fun _ _=>ni (by omega) (by omega)) fun _=>bd (wr (by omega) (by omega)) fun _ _=>ni (by omega) (by omega)) fun _=>di trivial
theorem Zx6 (i : Int) (d : List UInt8) : Ok (Zfm p i d) (fun _=>True):=by
 unfold Zfm
 refine bd (Zbm p i (by omega)) fun v _=>brN (fun _=>ok trivial) fun _=>?_
 repeat' first
  | exact ok trivial
  | with_reducible refine br (fun _=>?_) fun _=>?_
theorem Zxl (m : Z0a) (d : List UInt8) (hm : ∀ a ∈ m.Z1i,Str a.Z2a) : Ok (Zfa p m d) (fun _=>True):=by
 unfold Zfa j98x1
 refine brE (fun _=>ok trivial) fun _=>bd (gr (by omega) (by omega)) fun a ha=>brD (fun _=>ok trivial) fun _=>bs (br (fun _=>ok trivial) fun _=>bd (Zn3 hp _ _) fun _ _=>br! (fun _=>ok trivial) fun _=>brN (fun _=>ok trivial) fun _=>bd (Zcw _ 0 2 (by omega) (hm a ha)) fun _ _=>bd (Zx6 hp _ _) fun _ _=>ok trivial)
theorem Zr3 (l : List Z14) (s : List UInt8) (hl : l.length ≤ 140737488355328) (ha : ∀ a ∈ l,Str a.Z2a) : Ok (Zcg p l s) (fun r=>Str r.1 ∧ 0 ≤ r.2 ∧ r.2 ≤ l.length):=by
 unfold Zcg
 refine bd (P:=fun q : List UInt8 × Int=>Str q.1 ∧ 0 ≤ q.2 ∧ q.2 ≤ (l.length : Int)) (lp (fun t=>t.2.2) l.length (fun t=>Str t.1 ∧ 0 ≤ t.2.1 ∧ t.2.1 ≤ t.2.2) (fun t hI h0 h1=>?_) (by omega) ⟨by simp,by dsimp only; omega,by dsimp only; omega⟩ (by dsimp only; omega) (by dsimp only; omega)) fun q hq=>ok hq
 obtain ⟨hI1,hI2,hI3⟩:=hI
 unfold Zmn
 exact brD (fun hlt=>bd (gr (by omega) (by omega)) fun a _=>bd (Zn3 hp _ _) fun _ _=>br (fun _=>bd (gr (by omega) (by omega)) fun b hb=>bd (wr (by omega) (by omega)) fun _ _=>bd (wr (by omega) (by omega)) fun _ _=>nx ⟨ha b hb,by dsimp only; omega,by dsimp only; omega⟩ (by dsimp only; omega) (by dsimp only; omega)) fun _=>bd (wr (by omega) (by omega)) fun _ _=>nx ⟨hI1,by dsimp only; omega,by dsimp only; omega⟩ (by dsimp only; omega) (by dsimp only; omega)) fun _=>dn ⟨hI1,by dsimp only; omega,by dsimp only; omega⟩
variable (hS : PS p 1024)
include hS
theorem Zdm (i : Int) : Ok (Z8k p i) (fun _=>True):=by
 unfold Z8k j90x1
 exact brD (fun _=>ok trivial) fun _=>brD (fun _=>ok trivial) fun _=>bd (Znf p i (by omega) hS) fun v hv=>brN (fun _=>ok trivial) fun _=>brE (fun _=>ok trivial) fun _=>bd (gs (by omega) (by omega)) fun _ _=>brE (fun _=>ok trivial) fun _=>ok trivial
theorem Zs8 (l : List Int) (s : List UInt8) (hl : l.length ≤ 140737488355328) : Ok (Zdn p l s) (fun _=>True):=by
 unfold Zdn
 refine bd (P:=fun _=>True) (li l.length (fun t h0 h1=>?_) (by omega) (by omega) (by omega)) fun q _=>by cases q <;> exact ok trivial
 unfold l93x1
 exact brD (fun _=>bd (gr (by omega) (by omega)) fun _ _=>bd (Zdm hp hS _) fun _ _=>brE (fun _=>br (fun _=>di trivial) fun _=>bd (wr (by omega) (by omega)) fun _ _=>ni (by omega) (by omega)) fun _=>bd (wr (by omega) (by omega)) fun _ _=>ni (by omega) (by omega)) fun _=>di trivial
end
theorem Zzr (x y : Int) : Ok (Z7v x y) (fun _=>True):=bs (ok trivial)
theorem Zqk (x y : Int) : Ok (Z9a x y) (fun _=>True):=by
 unfold Z9a
 exact brD (fun _=>bs (ok trivial)) fun _=>ok trivial
theorem Zzy (x : Int) : Ok (Zcy x) (fun _=>True):=by
 unfold Zcy Zie Ziz
 have h : ∀ n : Int,Ok ((some (Z26 .i64 x (4 : Int))).bind fun v3=>if (v3 != 0) = true then ((some (IntKind.wrap .i64 (n + (1 : Int)))).bind fun v4=>some (decide (v4 ≤ 1))) else (some (decide (n ≤ 1)))) (fun _=>True):=fun n=>bs (br (fun _=>bs (ok trivial)) fun _=>ok trivial)
 have h1 : ∀ n : Int,Ok ((some (Z26 .i64 x (2 : Int))).bind fun v1=>if (v1 != 0) = true then ((some (IntKind.wrap .i64 (n + (1 : Int)))).bind fun v2=>(some (Z26 .i64 x (4 : Int))).bind fun v3=>if (v3 != 0) = true then ((some (IntKind.wrap .i64 (v2 + (1 : Int)))).bind fun v4=>some (decide (v4 ≤ 1))) else (some (decide (v2 ≤ 1)))) else ((some (Z26 .i64 x (4 : Int))).bind fun v3=>if (v3 != 0) = true then ((some (IntKind.wrap .i64 (n + (1 : Int)))).bind fun v4=>some (decide (v4 ≤ 1))) else (some (decide (n ≤ 1))))) (fun _=>True):=fun n=>bs (br (fun _=>bs (h _)) fun _=>h _)
 exact bs (br (fun _=>h1 1) fun _=>h1 0)
theorem Zns (s : List UInt8) (x : Int) : Ok (Z8s s x) (fun _=>True):=by
 unfold Z8s Za3 Zag
 repeat' first
  | exact ok trivial
  | with_reducible refine br (fun _=>?_) fun _=>?_
  | with_reducible refine bd (Zzr _ _) fun _ _=>?_
  | with_reducible refine bd (Zqk _ _) fun _ _=>?_
  | with_reducible refine bd (Zzy _) fun _ _=>?_
  | with_reducible refine bs ?_
structure Z7f (f : Z0z) : Prop where
 pool : Z1e f.Z1z
 ifsL : f.Z05.length ≤ 140737488355328
 fldL : f.Z0n.length ≤ 140737488355328
 metL : f.Z0m.length ≤ 140737488355328
 attL : f.Z1i.length ≤ 140737488355328
 att : ∀ a ∈ f.Z1i,Str a.Z2a
 mem : ∀ m,m ∈ f.Z0n ∨ m ∈ f.Z0m → m.Z1i.length ≤ 140737488355328 ∧ ∀ a ∈ m.Z1i,Str a.Z2a
def FewF (f : Z0z) : Prop:=f.Z05.length ≤ 8 ∧ f.Z0n.length ≤ 64 ∧ f.Z0m.length ≤ 64
theorem Zxy (f : Z0z) (hf : Z7f f) : Ok (Zes f) (fun b=>b = false → FewF f):=by
 have g1:=hf.fldL; have g2:=hf.metL
 unfold Zes j92x1
 refine brD (fun _=>ok (by simp)) fun _=>brD (fun _=>ok (by simp)) fun _=>brD (fun _=>ok (by simp)) fun _=>brD (fun _=>ok (by simp)) fun _=>?_
 have hd : FewF f:=⟨by omega,by omega,by omega⟩
 refine bd (P:=fun _=>True) (li f.Z0n.length (fun t h0 h1=>?_) (by omega) (by omega) (by omega)) fun q _=>?_
 ·unfold l92x1
  exact brD (fun _=>bd (gr (by omega) (by omega)) fun _ _=>brD (fun _=>di trivial) fun _=>bd (wr (by omega) (by omega)) fun _ _=>ni (by omega) (by omega)) fun _=>di trivial
 cases q with
 | inr _=>exact ok fun _=>hd
 | inl _=>
  refine bd (P:=fun _=>True) (li f.Z0m.length (fun t h0 h1=>?_) (by omega) (by omega) (by omega)) fun q _=>by cases q <;> exact ok fun _=>hd
  unfold l92x2
  exact brD (fun _=>bd (gr (by omega) (by omega)) fun _ _=>brD (fun _=>di trivial) fun _=>bd (wr (by omega) (by omega)) fun _ _=>ni (by omega) (by omega)) fun _=>di trivial
theorem Y0i (f : Z0z) (hf : Z7f f) (hS : PS f.Z1z 1024) : Ok (Zfe f) (fun e=>e = 0 → FewF f):=by
 have hp:=hf.pool.len
 have hi:=hf.ifsL
 have h3 : ∀ a (v : List UInt8 × Int),Ok (Zcv a v f) (fun e=>e = 0 → FewF f):=fun a v=>by
  unfold Zcv
  exact bd (Zxy f hf) fun b hb=>br (fun _=>ok (by simp)) fun h=>br (fun _=>ok (by simp)) fun _=>bd (Zs8 hp hS _ _ hi) fun _ _=>br (fun _=>ok (by simp)) fun _=>ok fun _=>hb h
 have h2 : ∀ (v : List UInt8 × Int) a,Ok (Zcz v f a) (fun e=>e = 0 → FewF f):=fun v a=>by
  unfold Zcz
  exact bd (Zns _ _) fun _ _=>br! (fun _=>ok (by simp)) fun _=>br (fun _=>ok (by simp)) fun _=>bs (br (fun _=>br (fun _=>ok (by simp)) fun _=>h3 _ _) fun _=>h3 _ _)
 have h1 : Ok (Zc4 f) (fun e=>e = 0 → FewF f):=by
  unfold Zc4
  exact bd (Zdm hp hS _) fun v _=>brN (fun h=>ok fun h'=>absurd h' h) fun _=>brN (fun _=>bd (Zdm hp hS _) fun w _=>brN (fun h=>ok fun h'=>absurd h' h) fun _=>h2 _ _) fun _=>h2 _ _
 have hpl : ∀ i,Ok (Zc6 f.Z1z i) (fun _=>True):=fun i=>by
  unfold Zc6
  exact brD (fun _=>ok trivial) fun _=>ok trivial
 unfold Zfe
 exact bd (hpl _) fun _ _=>br! (fun _=>ok (by simp)) fun _=>brN (fun _=>bd (hpl _) fun _ _=>br! (fun _=>ok (by simp)) fun _=>h1) fun _=>h1
theorem Zyv (f : Z0z) (hf : Z7f f) (hS : PS f.Z1z 1024) (i : Int) (h0 : 0 ≤ i) (h1 : i < f.Z05.length) : Ok (Zgr f i) (fun _=>True):=by
 have:=hf.ifsL
 unfold Zgr
 exact bd (gr h0 h1) fun _ _=>bd (Zdm hf.pool.len hS _) fun _ _=>brN (fun _=>ok trivial) fun _=>bd (sb (by omega) (by omega) (by omega)) fun r hr=>bd (Zs8 hf.pool.len hS r _ (by have:=hr.1; omega)) fun _ _=>br (fun _=>ok trivial) fun _=>ok trivial
theorem Zx9 (f : Z0z) (hf : Z7f f) (hS : PS f.Z1z 1024) (i : Int) (h0 : 0 ≤ i) (h1 : i < f.Z0n.length) : Ok (Zhm f i) (fun _=>True):=by
 have hp:=hf.pool.len
 have hl : f.Z1z.length ≤ 140737488355328:=by omega
 unfold Zhm
 refine bd (gr h0 h1) fun m hm=>bd (Z46 _ _ hl) fun v1 e1=>brN (fun _=>ok trivial) fun _=>bd (Zn4 _ (by have:=Zac hS e1; unfold Str; omega)) fun b hb=>br! (fun _=>ok trivial) fun h=>?_
 have hpos:=hb h
 refine bd (gs (by omega) (by omega)) fun _ _=>br (fun _=>ok trivial) fun _=>?_
 have h3 : ∀ v4 w,Ok (Zcr m v4 f i w) (fun _=>True):=fun v4 w=>by
  unfold Zcr
  exact bd (Zns _ _) fun _ _=>br! (fun _=>ok trivial) fun _=>bd (Zv3 hp _ i hf.fldL h0 h1) fun _ _=>br (fun _=>ok trivial) fun _=>bd (Zxl hp m _ (hf.mem m (.inl hm)).2) fun _ _=>br! (fun _=>ok trivial) fun _=>ok trivial
 unfold j70x1 j70x2
 exact bd (Z46 _ _ hl) fun v4 e4=>brN (fun _=>ok trivial) fun _=>bd (Zbr _ (by have:=Zac hS e4; unfold Str; omega)) fun _ _=>brN (fun _=>ok trivial) fun _=>br (fun _=>ok trivial) fun _=>bs (br (fun _=>h3 _ _) fun _=>h3 _ _)
theorem Zyb (f : Z0z) (hf : Z7f f) (hS : PS f.Z1z 1024) (m : Z0a) : Ok (Zeh f m) (fun r=>r.2.1.Z32.length ≤ 1048576):=by
 have hl : f.Z1z.length ≤ 140737488355328:=by have:=hf.pool.len; omega
 have h1 : ∀ v0,Ok (Zde v0 f m) (fun r=>r.2.1.Z32.length ≤ 1048576):=fun v0=>by
  unfold Zde
  refine bd (Z46 _ _ hl) fun v3 e3=>brN (fun _=>ok (by simp)) fun _=>bd (Znx _ (by have:=Zac hS e3; omega)) fun v4 e4=>brN (fun _=>ok (by simp)) fun _=>?_
  repeat' first
   | exact ok e4
   | exact ok (by simp)
   | with_reducible refine br (fun _=>?_) fun _=>?_
 unfold Zeh
 exact bd (Z46 _ _ hl) fun v0 e0=>brN (fun _=>ok (by simp)) fun _=>bd (Zn4 _ (by have:=Zac hS e0; unfold Str; omega)) fun _ _=>br! (fun _=>ok (by simp)) fun _=>br (fun _=>bs (br (fun _=>ok (by simp)) fun _=>h1 _)) fun _=>h1 _
theorem Zzf (f : Z0z) (m : Z0a) (s : List UInt8) : Ok (Zhh f m s) (fun _=>True):=by
 unfold Zhh Zft
 repeat' first
  | exact ok trivial
  | with_reducible refine br (fun _=>?_) fun _=>?_
  | with_reducible refine bd (Zns _ _) fun _ _=>?_
  | with_reducible refine bd (Zqk _ _) fun _ _=>?_
  | with_reducible refine bs ?_
theorem Zxc (f : Z0z) (hf : Z7f f) (hS : PS f.Z1z 1024) (m : Z0a) (hm : m.Z1i.length ≤ 140737488355328 ∧ ∀ a ∈ m.Z1i,Str a.Z2a) (g : Z29) (hg : g.Z32.length ≤ 1048576) : Ok (Zjj f.Z1z m g) (fun _=>True):=by
 have hp:=hf.pool.len
 unfold Zjj
 refine bd (Zr3 hp _ _ hm.1 hm.2) fun v0 e0=>bd (Zr3 hp _ _ hm.1 hm.2) fun v1 e1=>bs (brD (fun _=>ok trivial) fun _=>brD (fun _=>ok trivial) fun _=>bd (wr (by omega) (by omega)) fun _ _=>brN (fun _=>ok trivial) fun _=>br (fun _=>ok trivial) fun _=>?_)
 have h4 : ∀ a b,Ok (Zc2 a b) (fun _=>True):=fun a b=>by
  unfold Zc2
  exact brD (fun _=>ok trivial) fun _=>ok trivial
 have h3 : ∀ a b,Ok (Zd3 a v1 f.Z1z b) (fun _=>True):=fun a b=>by
  unfold Zd3
  refine brD (fun _=>bd (Zyp _ e1.1) fun v7 e7=>brN (fun _=>ok trivial) fun _=>bd (P:=fun _=>True) (li v7.1.length (fun t h0 h1=>?_) (by omega) (by omega) (by omega)) fun q _=>?_) fun _=>h4 _ _
  ·unfold Zkb
   exact brD (fun _=>bd (gr (by omega) (by omega)) fun _ _=>bd (Zdm hp hS _) fun _ _=>brN (fun _=>di trivial) fun _=>bd (wr (by omega) (by omega)) fun _ _=>ni (by omega) (by omega)) fun _=>di trivial
  ·cases q with
   | inl _=>exact h4 _ _
   | inr _=>exact ok trivial
 unfold Zkn Zgj
 exact bs (br (fun _=>bd (wr (by omega) (by omega)) fun _ _=>br (fun _=>bd (Zr2 _ _ hf.pool e0.1) fun _ _=>brN (fun _=>ok trivial) fun _=>h3 _ _) fun _=>h3 _ _) fun _=>br (fun _=>bd (Zr2 _ _ hf.pool e0.1) fun _ _=>brN (fun _=>ok trivial) fun _=>h3 _ _) fun _=>h3 _ _)
theorem Zxi (f : Z0z) (hf : Z7f f) (hS : PS f.Z1z 1024) (i : Int) (h0 : 0 ≤ i) (h1 : i < f.Z0m.length) : Ok (Zgp f i) (fun _=>True):=by
 unfold Zgp
 exact bd (gr h0 h1) fun m hm=>bd (Zyb f hf hS m) fun v1 e1=>brN (fun _=>ok trivial) fun _=>bd (Zzf _ _ _) fun _ _=>br! (fun _=>ok trivial) fun _=>bd (Zv3 hf.pool.len _ i hf.metL h0 h1) fun _ _=>br (fun _=>ok trivial) fun _=>bd (Zxc f hf hS m (hf.mem m (.inr hm)) _ e1) fun _ _=>ok trivial
theorem Zxx (f : Z0z) (hf : Z7f f) (hS : PS f.Z1z 1024) : Ok (Zfx f) (fun _=>True):=by
 unfold Zfx j72x1
 exact brE (fun _=>ok trivial) fun _=>bd (gr (by omega) (by omega)) fun a ha=>brD (fun _=>ok trivial) fun _=>bd (Zn3 hf.pool.len _ _) fun _ _=>br! (fun _=>ok trivial) fun _=>brN (fun _=>ok trivial) fun _=>bd (Zcw _ 0 2 (by omega) (hf.att a ha)) fun _ _=>bd (Z46 _ _ (by have:=hf.pool.len; omega)) fun _ _=>ok trivial
theorem Zm8 (s : List UInt8) (n : Int) (hs : s.length ≤ 1000) (h0 : 0 ≤ n) (h1 : n < 100) : Ok (Zaq s n) (fun _=>True):=by
 unfold Zaq
 have h10 : ∀ a : Int,0 ≤ a → a < 10 → Ok (sub ([48,49,50,51,52,53,54,55,56,57] : List UInt8) a (a + 1)) (fun r=>r.length ≤ 1):=fun a ha hb=>(sb ha (by omega) (by simp; omega)).mono fun r hr=>by have:=hr.1; omega
 refine brD (fun _=>bd (ct (by simp; omega)) fun v0 e0=>bd (wr (by omega) (by omega)) fun v1 e1=>?_) fun _=>bd (ct (by simp; omega)) fun v4 e4=>?_
 ·rw [e1]
  exact bd (h10 n h0 (by omega)) fun v2 e2=>bd (ct (by have:=e0.2; simp at this; omega)) fun _ _=>ok trivial
 ·have hd : divK .i64 n 10 = some (n / 10):=by
   unfold divK
   rw [if_pos (by decide)]
   congr 1
   rw [Int.tdiv_eq_ediv_of_nonneg h0]
   exact wrapI (by omega) (by omega)
  have hm : modK n 10 = some (n % 10):=by
   unfold modK
   rw [if_pos (by decide)]
   congr 1
   exact Int.tmod_eq_emod_of_nonneg h0
  rw [hd,hm]
  refine bs (bs (bd (wr (by omega) (by omega)) fun v7 e7=>?_))
  rw [e7]
  refine bd (h10 _ (by omega) (by omega)) fun v8 e8=>bd (ct (by have:=e4.2; simp at this; omega)) fun v9 e9=>bs (bs (bd (wr (by omega) (by omega)) fun v12 e12=>?_))
  rw [e12]
  exact bd (h10 _ (by omega) (by omega)) fun v13 e13=>bd (ct (by have:=e4.2; have:=e9.2; simp at *; omega)) fun _ _=>ok trivial
theorem Zwf (f : Z0z) (hf : Z7f f) : Ok (Zgt f) (fun r=>r.2 = 0 → FewF f):=by
 unfold Zgt
 refine bd (Zqj _ hf.pool) fun v0 h0=>brN (fun h=>ok fun h'=>absurd h' h) fun h=>?_
 have hS:=h0 h
 refine bd (Y0i f hf hS) fun v1 h1=>brN (fun h=>ok fun h'=>absurd h' h) fun h=>?_
 have hF:=h1 h
 have k1:=hF.1; have k2:=hF.2.1; have k3:=hF.2.2
 refine bd (P:=fun _=>True) (li f.Z05.length (fun t h0 h1=>?_) (by omega) (by omega) (by omega)) fun q _=>?_
 ·unfold l51x1
  exact brD (fun hlt=>bd (Zyv f hf hS t h0 hlt) fun _ _=>brN (fun _=>bd (Zm8 _ t (by simp) h0 (by omega)) fun _ _=>di trivial) fun _=>bd (wr (by omega) (by omega)) fun _ _=>ni (by omega) (by omega)) fun _=>di trivial
 cases q with
 | inr _=>exact ok fun _=>hF
 | inl _=>
 refine bd (P:=fun _=>True) (li f.Z0n.length (fun t h0 h1=>?_) (by omega) (by omega) (by omega)) fun q _=>?_
 ·unfold l51x2
  exact brD (fun hlt=>bd (Zx9 f hf hS t h0 hlt) fun _ _=>brN (fun _=>bd (Zm8 _ t (by simp) h0 (by omega)) fun _ _=>di trivial) fun _=>bd (wr (by omega) (by omega)) fun _ _=>ni (by omega) (by omega)) fun _=>di trivial
 cases q with
 | inr _=>exact ok fun _=>hF
 | inl _=>
 refine bd (P:=fun _=>True) (li f.Z0m.length (fun t h0 h1=>?_) (by omega) (by omega) (by omega)) fun q _=>?_
 ·unfold l51x3
  exact brD (fun hlt=>bd (Zxi f hf hS t h0 hlt) fun _ _=>brN (fun _=>bd (Zm8 _ t (by simp) h0 (by omega)) fun _ _=>di trivial) fun _=>bd (wr (by omega) (by omega)) fun _ _=>ni (by omega) (by omega)) fun _=>di trivial
 cases q with
 | inr _=>exact ok fun _=>hF
 | inl _=>exact bd (Zxx f hf hS) fun _ _=>br! (fun _=>ok fun _=>hF) fun _=>ok fun _=>hF
end Go.Proofs
