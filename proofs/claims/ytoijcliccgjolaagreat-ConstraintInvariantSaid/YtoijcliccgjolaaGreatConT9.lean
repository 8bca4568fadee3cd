/-
  That the models come to an answer, part nine: class files, class spaces. No condition.
-/
import Derived.Test.YtoijcliccgjolaaGreatConT8
set_option linter.unusedVariables false
namespace Go.Proofs
open Go.Den Go.Tot
section
variable {p : List Z00} (hp : p.length ≤ 1000)
include hp
theorem Zn7 (a : Z10) (s : List UInt8) : Ok (Zbb p a s) (fun _=>True):=by
 unfold Zbb
 exact bd (Z4d p _ (by omega)) fun _ _=>brE (fun _=>ok trivial) fun _=>ok trivial
theorem Zsz (l : List Z0d) (i : Int) (hl : l.length ≤ 140737488355328) (h0 : 0 ≤ i) (h1 : i < l.length) : Ok (Zdn p l i) (fun _=>True):=by
 unfold Zdn
 refine bd (gr h0 h1) fun _ _=>bd (Z4d p _ (by omega)) fun v1 _=>bd (gr h0 h1) fun _ _=>bd (Z4d p _ (by omega)) fun v3 _=>bd (P:=fun _=>True) (li i (fun t g0 g1=>?_) (by omega) (by omega) (by omega)) fun q _=>by cases q <;> exact ok trivial
 unfold Zn2
 exact brD (fun _=>bd (gr (by omega) (by omega)) fun _ _=>bd (Z4d p _ (by omega)) fun _ _=>bd (gr (by omega) (by omega)) fun _ _=>bd (Z4d p _ (by omega)) fun _ _=>br (fun _=>br (fun _=>di trivial) fun _=>bd (wr (by omega) (by omega)) fun _ _=>ni (by omega) (by omega)) fun _=>bd (wr (by omega) (by omega)) fun _ _=>ni (by omega) (by omega)) fun _=>di trivial
theorem Y20 (i : Int) (d : List UInt8) : Ok (Zh8 p i d) (fun _=>True):=by
 unfold Zh8
 refine bd (Zd7 p i (by omega)) fun v _=>brN (fun _=>ok trivial) fun _=>?_
 repeat' first
  | exact ok trivial
  | with_reducible refine br (fun _=>?_) fun _=>?_
theorem Zzw (m : Z0d) (d : List UInt8) (hm : ∀ a ∈ m.Z1g,Str a.Z26) : Ok (Zir p m d) (fun _=>True):=by
 unfold Zir Zp6
 refine brE (fun _=>ok trivial) fun _=>bd (gr (by omega) (by omega)) fun a ha=>brD (fun _=>ok trivial) fun _=>bs (br (fun _=>ok trivial) fun _=>bd (Zn7 hp _ _) fun _ _=>br! (fun _=>ok trivial) fun _=>brN (fun _=>ok trivial) fun _=>bd (Zdk _ 0 2 (by omega) (hm a ha)) fun _ _=>bd (Y20 hp _ _) fun _ _=>ok trivial)
theorem Zwp (l : List Z10) (s : List UInt8) (hl : l.length ≤ 140737488355328) (ha : ∀ a ∈ l,Str a.Z26) : Ok (Zep p l s) (fun r=>Str r.1 ∧ 0 ≤ r.2 ∧ r.2 ≤ l.length):=by
 unfold Zep
 refine bd (P:=fun q : List UInt8 × Int=>Str q.1 ∧ 0 ≤ q.2 ∧ q.2 ≤ (l.length : Int)) (lp (fun t=>t.2.2) l.length (fun t=>Str t.1 ∧ 0 ≤ t.2.1 ∧ t.2.1 ≤ t.2.2) (fun t hI h0 h1=>?_) (by omega) ⟨by simp,by dsimp only; omega,by dsimp only; omega⟩ (by dsimp only; omega) (by dsimp only; omega)) fun q hq=>ok hq
 obtain ⟨hI1,hI2,hI3⟩:=hI
 unfold Zlm
 exact brD (fun hlt=>bd (gr (by omega) (by omega)) fun a _=>bd (Zn7 hp _ _) fun _ _=>br (fun _=>bd (gr (by omega) (by omega)) fun b hb=>bd (wr (by omega) (by omega)) fun _ _=>bd (wr (by omega) (by omega)) fun _ _=>nx ⟨ha b hb,by dsimp only; omega,by dsimp only; omega⟩ (by dsimp only; omega) (by dsimp only; omega)) fun _=>bd (wr (by omega) (by omega)) fun _ _=>nx ⟨hI1,by dsimp only; omega,by dsimp only; omega⟩ (by dsimp only; omega) (by dsimp only; omega)) fun _=>dn ⟨hI1,by dsimp only; omega,by dsimp only; omega⟩
variable (hS : PS p 1024)
include hS
theorem Zfd (i : Int) : Ok (Z8t p i) (fun _=>True):=by
 unfold Z8t Zny
 exact brD (fun _=>ok trivial) fun _=>brD (fun _=>ok trivial) fun _=>bd (Zo7 p i (by omega) hS) fun v hv=>brN (fun _=>ok trivial) fun _=>brE (fun _=>ok trivial) fun _=>bd (gs (by omega) (by omega)) fun _ _=>brE (fun _=>ok trivial) fun _=>ok trivial
theorem Zr9 (l : List Int) (s : List UInt8) (hl : l.length ≤ 140737488355328) : Ok (Zcf p l s) (fun _=>True):=by
 unfold Zcf
 refine bd (P:=fun _=>True) (li l.length (fun t h0 h1=>?_) (by omega) (by omega) (by omega)) fun q _=>by cases q <;> exact ok trivial
 unfold Zlo
 exact brD (fun _=>bd (gr (by omega) (by omega)) fun _ _=>bd (Zfd hp hS _) fun _ _=>brE (fun _=>br (fun _=>di trivial) fun _=>bd (wr (by omega) (by omega)) fun _ _=>ni (by omega) (by omega)) fun _=>bd (wr (by omega) (by omega)) fun _ _=>ni (by omega) (by omega)) fun _=>di trivial
end
theorem Y3l (x y : Int) : Ok (Z80 x y) (fun _=>True):=bs (ok trivial)
theorem Zwf (x y : Int) : Ok (Z97 x y) (fun _=>True):=by
 unfold Z97
 exact brD (fun _=>bs (ok trivial)) fun _=>ok trivial
theorem Zz6 (x : Int) : Ok (Zeb x) (fun _=>True):=by
 unfold Zeb Zk9 Zjj
 have h : ∀ n : Int,Ok ((some (Z30 .i64 x (4 : Int))).bind fun v3=>if (v3 != 0) = true then ((some (IntKind.wrap .i64 (n + (1 : Int)))).bind fun v4=>some (decide (v4 ≤ 1))) else (some (decide (n ≤ 1)))) (fun _=>True):=fun n=>bs (br (fun _=>bs (ok trivial)) fun _=>ok trivial)
 have h1 : ∀ n : Int,Ok ((some (Z30 .i64 x (2 : Int))).bind fun v1=>if (v1 != 0) = true then ((some (IntKind.wrap .i64 (n + (1 : Int)))).bind fun v2=>(some (Z30 .i64 x (4 : Int))).bind fun v3=>if (v3 != 0) = true then ((some (IntKind.wrap .i64 (v2 + (1 : Int)))).bind fun v4=>some (decide (v4 ≤ 1))) else (some (decide (v2 ≤ 1)))) else ((some (Z30 .i64 x (4 : Int))).bind fun v3=>if (v3 != 0) = true then ((some (IntKind.wrap .i64 (n + (1 : Int)))).bind fun v4=>some (decide (v4 ≤ 1))) else (some (decide (n ≤ 1))))) (fun _=>True):=fun n=>bs (br (fun _=>bs (h _)) fun _=>h _)
 exact bs (br (fun _=>h1 1) fun _=>h1 0)
theorem Znc (s : List UInt8) (x : Int) : Ok (Z9l s x) (fun _=>True):=by
 unfold Z9l Zbg Za3
 repeat' first
  | exact ok trivial
  | with_reducible refine br (fun _=>?_) fun _=>?_
  | with_reducible refine bd (Y3l _ _) fun _ _=>?_
  | with_reducible refine bd (Zwf _ _) fun _ _=>?_
  | with_reducible refine bd (Zz6 _) fun _ _=>?_
  | with_reducible refine bs ?_
structure Z7q (f : Z0t) : Prop where
 pool : Z1f f.Z1w
 ifsL : f.Z0y.length ≤ 140737488355328
 fldL : f.Z17.length ≤ 140737488355328
 metL : f.Z16.length ≤ 140737488355328
 attL : f.Z1g.length ≤ 140737488355328
 att : ∀ a ∈ f.Z1g,Str a.Z26
 mem : ∀ m,m ∈ f.Z17 ∨ m ∈ f.Z16 → m.Z1g.length ≤ 140737488355328 ∧ ∀ a ∈ m.Z1g,Str a.Z26
def FewF (f : Z0t) : Prop:=f.Z0y.length ≤ 8 ∧ f.Z17.length ≤ 64 ∧ f.Z16.length ≤ 64
theorem Y2s (f : Z0t) (hf : Z7q f) : Ok (Zfi f) (fun b=>b = false → FewF f):=by
 have g1:=hf.fldL; have g2:=hf.metL
 unfold Zfi Zmk
 refine brD (fun _=>ok (by simp)) fun _=>brD (fun _=>ok (by simp)) fun _=>brD (fun _=>ok (by simp)) fun _=>brD (fun _=>ok (by simp)) fun _=>?_
 have hd : FewF f:=⟨by omega,by omega,by omega⟩
 refine bd (P:=fun _=>True) (li f.Z17.length (fun t h0 h1=>?_) (by omega) (by omega) (by omega)) fun q _=>?_
 ·unfold Zoa
  exact brD (fun _=>bd (gr (by omega) (by omega)) fun _ _=>brD (fun _=>di trivial) fun _=>bd (wr (by omega) (by omega)) fun _ _=>ni (by omega) (by omega)) fun _=>di trivial
 cases q with
 | inr _=>exact ok fun _=>hd
 | inl _=>
  refine bd (P:=fun _=>True) (li f.Z16.length (fun t h0 h1=>?_) (by omega) (by omega) (by omega)) fun q _=>by cases q <;> exact ok fun _=>hd
  unfold Zp3
  exact brD (fun _=>bd (gr (by omega) (by omega)) fun _ _=>brD (fun _=>di trivial) fun _=>bd (wr (by omega) (by omega)) fun _ _=>ni (by omega) (by omega)) fun _=>di trivial
theorem Y01 (f : Z0t) (hf : Z7q f) (hS : PS f.Z1w 1024) : Ok (Zjb f) (fun e=>e = 0 → FewF f):=by
 have hp:=hf.pool.len
 have hi:=hf.ifsL
 have h3 : ∀ a (v : List UInt8 × Int),Ok (Zda a v f) (fun e=>e = 0 → FewF f):=fun a v=>by
  unfold Zda
  exact bd (Y2s f hf) fun b hb=>br (fun _=>ok (by simp)) fun h=>br (fun _=>ok (by simp)) fun _=>bd (Zr9 hp hS _ _ hi) fun _ _=>br (fun _=>ok (by simp)) fun _=>ok fun _=>hb h
 have h2 : ∀ (v : List UInt8 × Int) a,Ok (Zcr v f a) (fun e=>e = 0 → FewF f):=fun v a=>by
  unfold Zcr
  exact bd (Znc _ _) fun _ _=>br! (fun _=>ok (by simp)) fun _=>br (fun _=>ok (by simp)) fun _=>bs (br (fun _=>br (fun _=>ok (by simp)) fun _=>h3 _ _) fun _=>h3 _ _)
 have h1 : Ok (Ze2 f) (fun e=>e = 0 → FewF f):=by
  unfold Ze2
  exact bd (Zfd hp hS _) fun v _=>brN (fun h=>ok fun h'=>absurd h' h) fun _=>brN (fun _=>bd (Zfd hp hS _) fun w _=>brN (fun h=>ok fun h'=>absurd h' h) fun _=>h2 _ _) fun _=>h2 _ _
 have hpl : ∀ i,Ok (Zdd f.Z1w i) (fun _=>True):=fun i=>by
  unfold Zdd
  exact brD (fun _=>ok trivial) fun _=>ok trivial
 unfold Zjb
 exact bd (hpl _) fun _ _=>br! (fun _=>ok (by simp)) fun _=>brN (fun _=>bd (hpl _) fun _ _=>br! (fun _=>ok (by simp)) fun _=>h1) fun _=>h1
theorem Y2u (f : Z0t) (hf : Z7q f) (hS : PS f.Z1w 1024) (i : Int) (h0 : 0 ≤ i) (h1 : i < f.Z0y.length) : Ok (Zhh f i) (fun _=>True):=by
 have:=hf.ifsL
 unfold Zhh
 exact bd (gr h0 h1) fun _ _=>bd (Zfd hf.pool.len hS _) fun _ _=>brN (fun _=>ok trivial) fun _=>bd (sb (by omega) (by omega) (by omega)) fun r hr=>bd (Zr9 hf.pool.len hS r _ (by have:=hr.1; omega)) fun _ _=>br (fun _=>ok trivial) fun _=>ok trivial
theorem Y24 (f : Z0t) (hf : Z7q f) (hS : PS f.Z1w 1024) (i : Int) (h0 : 0 ≤ i) (h1 : i < f.Z17.length) : Ok (Zku f i) (fun _=>True):=by
 have hp:=hf.pool.len
 have hl : f.Z1w.length ≤ 140737488355328:=by omega
 unfold Zku
 refine bd (gr h0 h1) fun m hm=>bd (Z4d _ _ hl) fun v1 e1=>brN (fun _=>ok trivial) fun _=>bd (Zni _ (by have:=Zan hS e1; unfold Str; omega)) fun b hb=>br! (fun _=>ok trivial) fun h=>?_
 have hpos:=hb h
 refine bd (gs (by omega) (by omega)) fun _ _=>br (fun _=>ok trivial) fun _=>?_
 have h3 : ∀ v4 w,Ok (Zcl m v4 f i w) (fun _=>True):=fun v4 w=>by
  unfold Zcl
  exact bd (Znc _ _) fun _ _=>br! (fun _=>ok trivial) fun _=>bd (Zsz hp _ i hf.fldL h0 h1) fun _ _=>br (fun _=>ok trivial) fun _=>bd (Zzw hp m _ (hf.mem m (.inl hm)).2) fun _ _=>br! (fun _=>ok trivial) fun _=>ok trivial
 unfold j80x1 j80x2
 exact bd (Z4d _ _ hl) fun v4 e4=>brN (fun _=>ok trivial) fun _=>bd (Zdz _ (by have:=Zan hS e4; unfold Str; omega)) fun _ _=>brN (fun _=>ok trivial) fun _=>br (fun _=>ok trivial) fun _=>bs (br (fun _=>h3 _ _) fun _=>h3 _ _)
theorem Y0p (f : Z0t) (hf : Z7q f) (hS : PS f.Z1w 1024) (m : Z0d) : Ok (Zhu f m) (fun r=>r.2.1.Z33.length ≤ 1048576):=by
 have hl : f.Z1w.length ≤ 140737488355328:=by have:=hf.pool.len; omega
 have h1 : ∀ v0,Ok (Zej v0 f m) (fun r=>r.2.1.Z33.length ≤ 1048576):=fun v0=>by
  unfold Zej
  refine bd (Z4d _ _ hl) fun v3 e3=>brN (fun _=>ok (by simp)) fun _=>bd (Zp9 _ (by have:=Zan hS e3; omega)) fun v4 e4=>brN (fun _=>ok (by simp)) fun _=>?_
  repeat' first
   | exact ok e4
   | exact ok (by simp)
   | with_reducible refine br (fun _=>?_) fun _=>?_
 unfold Zhu
 exact bd (Z4d _ _ hl) fun v0 e0=>brN (fun _=>ok (by simp)) fun _=>bd (Zni _ (by have:=Zan hS e0; unfold Str; omega)) fun _ _=>br! (fun _=>ok (by simp)) fun _=>br (fun _=>bs (br (fun _=>ok (by simp)) fun _=>h1 _)) fun _=>h1 _
theorem Y0n (f : Z0t) (m : Z0d) (s : List UInt8) : Ok (Zkg f m s) (fun _=>True):=by
 unfold Zkg Zja
 repeat' first
  | exact ok trivial
  | with_reducible refine br (fun _=>?_) fun _=>?_
  | with_reducible refine bd (Znc _ _) fun _ _=>?_
  | with_reducible refine bd (Zwf _ _) fun _ _=>?_
  | with_reducible refine bs ?_
theorem Y02 (f : Z0t) (hf : Z7q f) (hS : PS f.Z1w 1024) (m : Z0d) (hm : m.Z1g.length ≤ 140737488355328 ∧ ∀ a ∈ m.Z1g,Str a.Z26) (g : Z27) (hg : g.Z33.length ≤ 1048576) : Ok (Zfo f.Z1w m g) (fun _=>True):=by
 have hp:=hf.pool.len
 unfold Zfo
 refine bd (Zwp hp _ _ hm.1 hm.2) fun v0 e0=>bd (Zwp hp _ _ hm.1 hm.2) fun v1 e1=>bs (brD (fun _=>ok trivial) fun _=>brD (fun _=>ok trivial) fun _=>bd (wr (by omega) (by omega)) fun _ _=>brN (fun _=>ok trivial) fun _=>br (fun _=>ok trivial) fun _=>?_)
 have h4 : ∀ a b,Ok (Zcj a b) (fun _=>True):=fun a b=>by
  unfold Zcj
  exact brD (fun _=>ok trivial) fun _=>ok trivial
 have h3 : ∀ a b,Ok (Zbw a v1 f.Z1w b) (fun _=>True):=fun a b=>by
  unfold Zbw
  refine brD (fun _=>bd (Y15 _ e1.1) fun v7 e7=>brN (fun _=>ok trivial) fun _=>bd (P:=fun _=>True) (li v7.1.length (fun t h0 h1=>?_) (by omega) (by omega) (by omega)) fun q _=>?_) fun _=>h4 _ _
  ·unfold Zm0
   exact brD (fun _=>bd (gr (by omega) (by omega)) fun _ _=>bd (Zfd hp hS _) fun _ _=>brN (fun _=>di trivial) fun _=>bd (wr (by omega) (by omega)) fun _ _=>ni (by omega) (by omega)) fun _=>di trivial
  ·cases q with
   | inl _=>exact h4 _ _
   | inr _=>exact ok trivial
 unfold Zme Zld
 exact bs (br (fun _=>bd (wr (by omega) (by omega)) fun _ _=>br (fun _=>bd (Zv8 _ _ hf.pool e0.1) fun _ _=>brN (fun _=>ok trivial) fun _=>h3 _ _) fun _=>h3 _ _) fun _=>br (fun _=>bd (Zv8 _ _ hf.pool e0.1) fun _ _=>brN (fun _=>ok trivial) fun _=>h3 _ _) fun _=>h3 _ _)
theorem Y30 (f : Z0t) (hf : Z7q f) (hS : PS f.Z1w 1024) (i : Int) (h0 : 0 ≤ i) (h1 : i < f.Z16.length) : Ok (Zka f i) (fun _=>True):=by
 unfold Zka
 exact bd (gr h0 h1) fun m hm=>bd (Y0p f hf hS m) fun v1 e1=>brN (fun _=>ok trivial) fun _=>bd (Y0n _ _ _) fun _ _=>br! (fun _=>ok trivial) fun _=>bd (Zsz hf.pool.len _ i hf.metL h0 h1) fun _ _=>br (fun _=>ok trivial) fun _=>bd (Y02 f hf hS m (hf.mem m (.inr hm)) _ e1) fun _ _=>ok trivial
theorem Zzb (f : Z0t) (hf : Z7q f) (hS : PS f.Z1w 1024) : Ok (Zjk f) (fun _=>True):=by
 unfold Zjk j82x1
 exact brE (fun _=>ok trivial) fun _=>bd (gr (by omega) (by omega)) fun a ha=>brD (fun _=>ok trivial) fun _=>bd (Zn7 hf.pool.len _ _) fun _ _=>br! (fun _=>ok trivial) fun _=>brN (fun _=>ok trivial) fun _=>bd (Zdk _ 0 2 (by omega) (hf.att a ha)) fun _ _=>bd (Z4d _ _ (by have:=hf.pool.len; omega)) fun _ _=>ok trivial
theorem Zpk (s : List UInt8) (n : Int) (hs : s.length ≤ 1000) (h0 : 0 ≤ n) (h1 : n < 100) : Ok (Zaz s n) (fun _=>True):=by
 unfold Zaz
 have h10 : ∀ a : Int,0 ≤ a → a < 10 → Ok (sub ([48,49,50,51,52,53,54,55,56,57] : List UInt8) a (a + 1)) (fun r=>r.length ≤ 1):=fun a ha hb=>(sb ha (by omega) (by simp; omega)).mono fun r hr=>by have:=hr.1; omega
 refine brD (fun _=>bd (ct (by simp; omega)) fun v0 e0=>bd (wr (by omega) (by omega)) fun v1 e1=>?_) fun _=>bd (ct (by simp; omega)) fun v4 e4=>?_
 ·rw [e1]
  exact bd (h10 n h0 (by omega)) fun v2 e2=>bd (ct (by have:=e0.2; simp at this; omega)) fun _ _=>ok trivial
 ·have hd : divK .i64 n 10 = some (n / 10):=by
   unfold divK
   rw [if_pos (by decide)]
   congr 1
   rw [Int.tdiv_eq_ediv_of_nonneg h0]
   exact wrapI (by omega) (by omega)
  have hm : modK n 10 = some (n % 10):=by
   unfold modK
   rw [if_pos (by decide)]
   congr 1
   exact Int.tmod_eq_emod_of_nonneg h0
  rw [hd,hm]
  refine bs (bs (bd (wr (by omega) (by omega)) fun v7 e7=>?_))
  rw [e7]
  refine bd (h10 _ (by omega) (by omega)) fun v8 e8=>bd (ct (by have:=e4.2; simp at this; omega)) fun v9 e9=>bs (bs (bd (wr (by omega) (by omega)) fun v12 e12=>?_))
  rw [e12]
  exact bd (h10 _ (by omega) (by omega)) fun v13 e13=>bd (ct (by have:=e4.2; have:=e9.2; simp at *; omega)) fun _ _=>ok trivial
theorem Zz2 (f : Z0t) (hf : Z7q f) : Ok (Zfj f) (fun r=>r.2 = 0 → FewF f):=by
 unfold Zfj
 refine bd (Zwb _ hf.pool) fun v0 h0=>brN (fun h=>ok fun h'=>absurd h' h) fun h=>?_
 have hS:=h0 h
 refine bd (Y01 f hf hS) fun v1 h1=>brN (fun h=>ok fun h'=>absurd h' h) fun h=>?_
 have hF:=h1 h
 have k1:=hF.1; have k2:=hF.2.1; have k3:=hF.2.2
 refine bd (P:=fun _=>True) (li f.Z0y.length (fun t h0 h1=>?_) (by omega) (by omega) (by omega)) fun q _=>?_
 ·unfold l60x1
  exact brD (fun hlt=>bd (Y2u f hf hS t h0 hlt) fun _ _=>brN (fun _=>bd (Zpk _ t (by simp) h0 (by omega)) fun _ _=>di trivial) fun _=>bd (wr (by omega) (by omega)) fun _ _=>ni (by omega) (by omega)) fun _=>di trivial
 cases q with
 | inr _=>exact ok fun _=>hF
 | inl _=>
 refine bd (P:=fun _=>True) (li f.Z17.length (fun t h0 h1=>?_) (by omega) (by omega) (by omega)) fun q _=>?_
 ·unfold l60x2
  exact brD (fun hlt=>bd (Y24 f hf hS t h0 hlt) fun _ _=>brN (fun _=>bd (Zpk _ t (by simp) h0 (by omega)) fun _ _=>di trivial) fun _=>bd (wr (by omega) (by omega)) fun _ _=>ni (by omega) (by omega)) fun _=>di trivial
 cases q with
 | inr _=>exact ok fun _=>hF
 | inl _=>
 refine bd (P:=fun _=>True) (li f.Z16.length (fun t h0 h1=>?_) (by omega) (by omega) (by omega)) fun q _=>?_
 ·unfold l60x3
  exact brD (fun hlt=>bd (Y30 f hf hS t h0 hlt) fun _ _=>brN (fun _=>bd (Zpk _ t (by simp) h0 (by omega)) fun _ _=>di trivial) fun _=>bd (wr (by omega) (by omega)) fun _ _=>ni (by omega) (by omega)) fun _=>di trivial
 cases q with
 | inr _=>exact ok fun _=>hF
 | inl _=>exact bd (Zzb f hf hS) fun _ _=>br! (fun _=>ok fun _=>hF) fun _=>ok fun _=>hF
end Go.Proofs
