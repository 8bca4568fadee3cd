/-
  That the models come to an answer, part nine: class files, class spaces. No condition.
-/
import Derived.Test.YtoijcliccgjolaaGreatConT8
set_option linter.unusedVariables false
namespace Go.Proofs
open Go.Den Go.Tot
section
variable {p : List Z00} (hp : p.length ≤ 1000)
include hp
theorem Zm4 (a : Z0w) (s : List UInt8) : Ok (Zaa p a s) (fun _=>True):=by
 unfold Zaa
 exact bd (Z4a p _ (by omega)) fun _ _=>brE (fun _=>ok trivial) fun _=>ok trivial
theorem Zpw (l : List Z08) (i : Int) (hl : l.length ≤ 140737488355328) (h0 : 0 ≤ i) (h1 : i < l.length) : Ok (Zds p l i) (fun _=>True):=by
 unfold Zds
 refine bd (gr h0 h1) fun _ _=>bd (Z4a p _ (by omega)) fun v1 _=>bd (gr h0 h1) fun _ _=>bd (Z4a p _ (by omega)) fun v3 _=>bd (P:=fun _=>True) (li i (fun t g0 g1=>?_) (by omega) (by omega) (by omega)) fun q _=>by cases q <;> exact ok trivial
 unfold Zly
 exact brD (fun _=>bd (gr (by omega) (by omega)) fun _ _=>bd (Z4a p _ (by omega)) fun _ _=>bd (gr (by omega) (by omega)) fun _ _=>bd (Z4a p _ (by omega)) fun _ _=>br (fun _=>br (fun _=>di trivial) fun _=>bd (wr (by omega) (by omega)) fun _ _=>ni (by omega) (by omega)) fun _=>bd (wr (by omega) (by omega)) fun _ _=>ni (by omega) (by omega)) fun _=>di trivial
theorem Y0f (i : Int) (d : List UInt8) : Ok (Zif p i d) (fun _=>True):=by
 unfold Zif
 refine bd (Zce p i (by omega)) fun v _=>brN (fun _=>ok trivial) fun _=>?_
 repeat' first
  | exact ok trivial
  | with_reducible refine br (fun _=>?_) fun _=>?_
theorem Y0e (m : Z08) (d : List UInt8) (hm : ∀ a ∈ m.Z18,Str a.Z23) : Ok (Zi2 p m d) (fun _=>True):=by
 unfold Zi2 Zmv
 refine brE (fun _=>ok trivial) fun _=>bd (gr (by omega) (by omega)) fun a ha=>brD (fun _=>ok trivial) fun _=>bs (br (fun _=>ok trivial) fun _=>bd (Zm4 hp _ _) fun _ _=>br! (fun _=>ok trivial) fun _=>brN (fun _=>ok trivial) fun _=>bd (Zco _ 0 2 (by omega) (hm a ha)) fun _ _=>bd (Y0f hp _ _) fun _ _=>ok trivial)
theorem Zug (l : List Z0w) (s : List UInt8) (hl : l.length ≤ 140737488355328) (ha : ∀ a ∈ l,Str a.Z23) : Ok (Zcf p l s) (fun r=>Str r.1 ∧ 0 ≤ r.2 ∧ r.2 ≤ l.length):=by
 unfold Zcf
 refine bd (P:=fun q : List UInt8 × Int=>Str q.1 ∧ 0 ≤ q.2 ∧ q.2 ≤ (l.length : Int)) (lp (fun t=>t.2.2) l.length (fun t=>Str t.1 ∧ 0 ≤ t.2.1 ∧ t.2.1 ≤ t.2.2) (fun t hI h0 h1=>?_) (by omega) ⟨by simp,by dsimp only; omega,by dsimp only; omega⟩ (by dsimp only; omega) (by dsimp only; omega)) fun q hq=>ok hq
 obtain ⟨hI1,hI2,hI3⟩:=hI
 unfold Zlg
 exact brD (fun hlt=>bd (gr (by omega) (by omega)) fun a _=>bd (Zm4 hp _ _) fun _ _=>br (fun _=>bd (gr (by omega) (by omega)) fun b hb=>bd (wr (by omega) (by omega)) fun _ _=>bd (wr (by omega) (by omega)) fun _ _=>nx ⟨ha b hb,by dsimp only; omega,by dsimp only; omega⟩ (by dsimp only; omega) (by dsimp only; omega)) fun _=>bd (wr (by omega) (by omega)) fun _ _=>nx ⟨hI1,by dsimp only; omega,by dsimp only; omega⟩ (by dsimp only; omega) (by dsimp only; omega)) fun _=>dn ⟨hI1,by dsimp only; omega,by dsimp only; omega⟩
variable (hS : PS p 1024)
include hS
theorem Zcn (i : Int) : Ok (Z8n p i) (fun _=>True):=by
 unfold Z8n Zng
 exact brD (fun _=>ok trivial) fun _=>brD (fun _=>ok trivial) fun _=>bd (Zoa p i (by omega) hS) fun v hv=>brN (fun _=>ok trivial) fun _=>brE (fun _=>ok trivial) fun _=>bd (gs (by omega) (by omega)) fun _ _=>brE (fun _=>ok trivial) fun _=>ok trivial
theorem Zop (l : List Int) (s : List UInt8) (hl : l.length ≤ 140737488355328) : Ok (Zca p l s) (fun _=>True):=by
 unfold Zca
 refine bd (P:=fun _=>True) (li l.length (fun t h0 h1=>?_) (by omega) (by omega) (by omega)) fun q _=>by cases q <;> exact ok trivial
 unfold Zkq
 exact brD (fun _=>bd (gr (by omega) (by omega)) fun _ _=>bd (Zcn hp hS _) fun _ _=>brE (fun _=>br (fun _=>di trivial) fun _=>bd (wr (by omega) (by omega)) fun _ _=>ni (by omega) (by omega)) fun _=>bd (wr (by omega) (by omega)) fun _ _=>ni (by omega) (by omega)) fun _=>di trivial
end
theorem Y1a (x y : Int) : Ok (Z7u x y) (fun _=>True):=bs (ok trivial)
theorem Ztg (x y : Int) : Ok (Z9f x y) (fun _=>True):=by
 unfold Z9f
 exact brD (fun _=>bs (ok trivial)) fun _=>ok trivial
theorem Y0h (x : Int) : Ok (Zbj x) (fun _=>True):=by
 unfold Zbj Zhh Zfs
 have h : ∀ n : Int,Ok ((some (Z2w .i64 x (4 : Int))).bind fun v3=>if (v3 != 0) = true then ((some (IntKind.wrap .i64 (n + (1 : Int)))).bind fun v4=>some (decide (v4 ≤ 1))) else (some (decide (n ≤ 1)))) (fun _=>True):=fun n=>bs (br (fun _=>bs (ok trivial)) fun _=>ok trivial)
 have h1 : ∀ n : Int,Ok ((some (Z2w .i64 x (2 : Int))).bind fun v1=>if (v1 != 0) = true then ((some (IntKind.wrap .i64 (n + (1 : Int)))).bind fun v2=>(some (Z2w .i64 x (4 : Int))).bind fun v3=>if (v3 != 0) = true then ((some (IntKind.wrap .i64 (v2 + (1 : Int)))).bind fun v4=>some (decide (v4 ≤ 1))) else (some (decide (v2 ≤ 1)))) else ((some (Z2w .i64 x (4 : Int))).bind fun v3=>if (v3 != 0) = true then ((some (IntKind.wrap .i64 (n + (1 : Int)))).bind fun v4=>some (decide (v4 ≤ 1))) else (some (decide (n ≤ 1))))) (fun _=>True):=fun n=>bs (br (fun _=>bs (h _)) fun _=>h _)
 exact bs (br (fun _=>h1 1) fun _=>h1 0)
theorem Zlm (s : List UInt8) (x : Int) : Ok (Z8z s x) (fun _=>True):=by
 unfold Z8z Z9s Zaw
 repeat' first
  | exact ok trivial
  | with_reducible refine br (fun _=>?_) fun _=>?_
  | with_reducible refine bd (Y1a _ _) fun _ _=>?_
  | with_reducible refine bd (Ztg _ _) fun _ _=>?_
  | with_reducible refine bd (Y0h _) fun _ _=>?_
  | with_reducible refine bs ?_
structure Z7s (f : Z0p) : Prop where
 pool : Z16 f.Z1u
 ifsL : f.Z13.length ≤ 140737488355328
 fldL : f.Z19.length ≤ 140737488355328
 metL : f.Z17.length ≤ 140737488355328
 attL : f.Z18.length ≤ 140737488355328
 att : ∀ a ∈ f.Z18,Str a.Z23
 mem : ∀ m,m ∈ f.Z19 ∨ m ∈ f.Z17 → m.Z18.length ≤ 140737488355328 ∧ ∀ a ∈ m.Z18,Str a.Z23
def FewF (f : Z0p) : Prop:=f.Z13.length ≤ 8 ∧ f.Z19.length ≤ 64 ∧ f.Z17.length ≤ 64
theorem Zzp (f : Z0p) (hf : Z7s f) : Ok (Zes f) (fun b=>b = false → FewF f):=by
 have g1:=hf.fldL; have g2:=hf.metL
 unfold Zes Znx
 refine brD (fun _=>ok (by simp)) fun _=>brD (fun _=>ok (by simp)) fun _=>brD (fun _=>ok (by simp)) fun _=>brD (fun _=>ok (by simp)) fun _=>?_
 have hd : FewF f:=⟨by omega,by omega,by omega⟩
 refine bd (P:=fun _=>True) (li f.Z19.length (fun t h0 h1=>?_) (by omega) (by omega) (by omega)) fun q _=>?_
 ·unfold Zln
  exact brD (fun _=>bd (gr (by omega) (by omega)) fun _ _=>brD (fun _=>di trivial) fun _=>bd (wr (by omega) (by omega)) fun _ _=>ni (by omega) (by omega)) fun _=>di trivial
 cases q with
 | inr _=>exact ok fun _=>hd
 | inl _=>
  refine bd (P:=fun _=>True) (li f.Z17.length (fun t h0 h1=>?_) (by omega) (by omega) (by omega)) fun q _=>by cases q <;> exact ok fun _=>hd
  unfold Zlk
  exact brD (fun _=>bd (gr (by omega) (by omega)) fun _ _=>brD (fun _=>di trivial) fun _=>bd (wr (by omega) (by omega)) fun _ _=>ni (by omega) (by omega)) fun _=>di trivial
theorem Zx9 (f : Z0p) (hf : Z7s f) (hS : PS f.Z1u 1024) : Ok (Zg0 f) (fun e=>e = 0 → FewF f):=by
 have hp:=hf.pool.len
 have hi:=hf.ifsL
 have h3 : ∀ a (v : List UInt8 × Int),Ok (Zdd a v f) (fun e=>e = 0 → FewF f):=fun a v=>by
  unfold Zdd
  exact bd (Zzp f hf) fun b hb=>br (fun _=>ok (by simp)) fun h=>br (fun _=>ok (by simp)) fun _=>bd (Zop hp hS _ _ hi) fun _ _=>br (fun _=>ok (by simp)) fun _=>ok fun _=>hb h
 have h2 : ∀ (v : List UInt8 × Int) a,Ok (Zcl v f a) (fun e=>e = 0 → FewF f):=fun v a=>by
  unfold Zcl
  exact bd (Zlm _ _) fun _ _=>br! (fun _=>ok (by simp)) fun _=>br (fun _=>ok (by simp)) fun _=>bs (br (fun _=>br (fun _=>ok (by simp)) fun _=>h3 _ _) fun _=>h3 _ _)
 have h1 : Ok (Zbt f) (fun e=>e = 0 → FewF f):=by
  unfold Zbt
  exact bd (Zcn hp hS _) fun v _=>brN (fun h=>ok fun h'=>absurd h' h) fun _=>brN (fun _=>bd (Zcn hp hS _) fun w _=>brN (fun h=>ok fun h'=>absurd h' h) fun _=>h2 _ _) fun _=>h2 _ _
 have hpl : ∀ i,Ok (Zch f.Z1u i) (fun _=>True):=fun i=>by
  unfold Zch
  exact brD (fun _=>ok trivial) fun _=>ok trivial
 unfold Zg0
 exact bd (hpl _) fun _ _=>br! (fun _=>ok (by simp)) fun _=>brN (fun _=>bd (hpl _) fun _ _=>br! (fun _=>ok (by simp)) fun _=>h1) fun _=>h1
theorem Zx7 (f : Z0p) (hf : Z7s f) (hS : PS f.Z1u 1024) (i : Int) (h0 : 0 ≤ i) (h1 : i < f.Z13.length) : Ok (Zfg f i) (fun _=>True):=by
 have:=hf.ifsL
 unfold Zfg
 exact bd (gr h0 h1) fun _ _=>bd (Zcn hf.pool.len hS _) fun _ _=>brN (fun _=>ok trivial) fun _=>bd (sb (by omega) (by omega) (by omega)) fun r hr=>bd (Zop hf.pool.len hS r _ (by have:=hr.1; omega)) fun _ _=>br (fun _=>ok trivial) fun _=>ok trivial
theorem Zzz (f : Z0p) (hf : Z7s f) (hS : PS f.Z1u 1024) (i : Int) (h0 : 0 ≤ i) (h1 : i < f.Z19.length) : Ok (Zgo f i) (fun _=>True):=by
 have hp:=hf.pool.len
 have hl : f.Z1u.length ≤ 140737488355328:=by omega
 unfold Zgo
 refine bd (gr h0 h1) fun m hm=>bd (Z4a _ _ hl) fun v1 e1=>brN (fun _=>ok trivial) fun _=>bd (Zo1 _ (by have:=Zb9 hS e1; unfold Str; omega)) fun b hb=>br! (fun _=>ok trivial) fun h=>?_
 have hpos:=hb h
 refine bd (gs (by omega) (by omega)) fun _ _=>br (fun _=>ok trivial) fun _=>?_
 have h3 : ∀ v4 w,Ok (Zcm m v4 f i w) (fun _=>True):=fun v4 w=>by
  unfold Zcm
  exact bd (Zlm _ _) fun _ _=>br! (fun _=>ok trivial) fun _=>bd (Zpw hp _ i hf.fldL h0 h1) fun _ _=>br (fun _=>ok trivial) fun _=>bd (Y0e hp m _ (hf.mem m (.inl hm)).2) fun _ _=>br! (fun _=>ok trivial) fun _=>ok trivial
 unfold j80x1 j80x2
 exact bd (Z4a _ _ hl) fun v4 e4=>brN (fun _=>ok trivial) fun _=>bd (Zd1 _ (by have:=Zb9 hS e4; unfold Str; omega)) fun _ _=>brN (fun _=>ok trivial) fun _=>br (fun _=>ok trivial) fun _=>bs (br (fun _=>h3 _ _) fun _=>h3 _ _)
theorem Zx4 (f : Z0p) (hf : Z7s f) (hS : PS f.Z1u 1024) (m : Z08) : Ok (Zgi f m) (fun r=>r.2.1.Z2y.length ≤ 1048576):=by
 have hl : f.Z1u.length ≤ 140737488355328:=by have:=hf.pool.len; omega
 have h1 : ∀ v0,Ok (Ze5 v0 f m) (fun r=>r.2.1.Z2y.length ≤ 1048576):=fun v0=>by
  unfold Ze5
  refine bd (Z4a _ _ hl) fun v3 e3=>brN (fun _=>ok (by simp)) fun _=>bd (Zms _ (by have:=Zb9 hS e3; omega)) fun v4 e4=>brN (fun _=>ok (by simp)) fun _=>?_
  repeat' first
   | exact ok e4
   | exact ok (by simp)
   | with_reducible refine br (fun _=>?_) fun _=>?_
 unfold Zgi
 exact bd (Z4a _ _ hl) fun v0 e0=>brN (fun _=>ok (by simp)) fun _=>bd (Zo1 _ (by have:=Zb9 hS e0; unfold Str; omega)) fun _ _=>br! (fun _=>ok (by simp)) fun _=>br (fun _=>bs (br (fun _=>ok (by simp)) fun _=>h1 _)) fun _=>h1 _
theorem Zx0 (f : Z0p) (m : Z08) (s : List UInt8) : Ok (Zi7 f m s) (fun _=>True):=by
 unfold Zi7 Zez
 repeat' first
  | exact ok trivial
  | with_reducible refine br (fun _=>?_) fun _=>?_
  | with_reducible refine bd (Zlm _ _) fun _ _=>?_
  | with_reducible refine bd (Ztg _ _) fun _ _=>?_
  | with_reducible refine bs ?_
theorem Y11 (f : Z0p) (hf : Z7s f) (hS : PS f.Z1u 1024) (m : Z08) (hm : m.Z18.length ≤ 140737488355328 ∧ ∀ a ∈ m.Z18,Str a.Z23) (g : Z22) (hg : g.Z2y.length ≤ 1048576) : Ok (Zge f.Z1u m g) (fun _=>True):=by
 have hp:=hf.pool.len
 unfold Zge
 refine bd (Zug hp _ _ hm.1 hm.2) fun v0 e0=>bd (Zug hp _ _ hm.1 hm.2) fun v1 e1=>bs (brD (fun _=>ok trivial) fun _=>brD (fun _=>ok trivial) fun _=>bd (wr (by omega) (by omega)) fun _ _=>brN (fun _=>ok trivial) fun _=>br (fun _=>ok trivial) fun _=>?_)
 have h4 : ∀ a b,Ok (Zdt a b) (fun _=>True):=fun a b=>by
  unfold Zdt
  exact brD (fun _=>ok trivial) fun _=>ok trivial
 have h3 : ∀ a b,Ok (Zdy a v1 f.Z1u b) (fun _=>True):=fun a b=>by
  unfold Zdy
  refine brD (fun _=>bd (Zzy _ e1.1) fun v7 e7=>brN (fun _=>ok trivial) fun _=>bd (P:=fun _=>True) (li v7.1.length (fun t h0 h1=>?_) (by omega) (by omega) (by omega)) fun q _=>?_) fun _=>h4 _ _
  ·unfold Zn3
   exact brD (fun _=>bd (gr (by omega) (by omega)) fun _ _=>bd (Zcn hp hS _) fun _ _=>brN (fun _=>di trivial) fun _=>bd (wr (by omega) (by omega)) fun _ _=>ni (by omega) (by omega)) fun _=>di trivial
  ·cases q with
   | inl _=>exact h4 _ _
   | inr _=>exact ok trivial
 unfold Zmh Zgt
 exact bs (br (fun _=>bd (wr (by omega) (by omega)) fun _ _=>br (fun _=>bd (Zrx _ _ hf.pool e0.1) fun _ _=>brN (fun _=>ok trivial) fun _=>h3 _ _) fun _=>h3 _ _) fun _=>br (fun _=>bd (Zrx _ _ hf.pool e0.1) fun _ _=>brN (fun _=>ok trivial) fun _=>h3 _ _) fun _=>h3 _ _)
theorem Y0p (f : Z0p) (hf : Z7s f) (hS : PS f.Z1u 1024) (i : Int) (h0 : 0 ≤ i) (h1 : i < f.Z17.length) : Ok (Zjx f i) (fun _=>True):=by
 unfold Zjx
 exact bd (gr h0 h1) fun m hm=>bd (Zx4 f hf hS m) fun v1 e1=>brN (fun _=>ok trivial) fun _=>bd (Zx0 _ _ _) fun _ _=>br! (fun _=>ok trivial) fun _=>bd (Zpw hf.pool.len _ i hf.metL h0 h1) fun _ _=>br (fun _=>ok trivial) fun _=>bd (Y11 f hf hS m (hf.mem m (.inr hm)) _ e1) fun _ _=>ok trivial
theorem Zya (f : Z0p) (hf : Z7s f) (hS : PS f.Z1u 1024) : Ok (Zfo f) (fun _=>True):=by
 unfold Zfo j82x1
 exact brE (fun _=>ok trivial) fun _=>bd (gr (by omega) (by omega)) fun a ha=>brD (fun _=>ok trivial) fun _=>bd (Zm4 hf.pool.len _ _) fun _ _=>br! (fun _=>ok trivial) fun _=>brN (fun _=>ok trivial) fun _=>bd (Zco _ 0 2 (by omega) (hf.att a ha)) fun _ _=>bd (Z4a _ _ (by have:=hf.pool.len; omega)) fun _ _=>ok trivial
theorem Zkt (s : List UInt8) (n : Int) (hs : s.length ≤ 1000) (h0 : 0 ≤ n) (h1 : n < 100) : Ok (Zam s n) (fun _=>True):=by
 unfold Zam
 have h10 : ∀ a : Int,0 ≤ a → a < 10 → Ok (sub ([48,49,50,51,52,53,54,55,56,57] : List UInt8) a (a + 1)) (fun r=>r.length ≤ 1):=fun a ha hb=>(sb ha (by omega) (by simp; omega)).mono fun r hr=>by have:=hr.1; omega
 refine brD (fun _=>bd (ct (by simp; omega)) fun v0 e0=>bd (wr (by omega) (by omega)) fun v1 e1=>?_) fun _=>bd (ct (by simp; omega)) fun v4 e4=>?_
 ·rw [e1]
  exact bd (h10 n h0 (by omega)) fun v2 e2=>bd (ct (by have:=e0.2; simp at this; omega)) fun _ _=>ok trivial
 ·have hd : divK .i64 n 10 = some (n / 10):=by
   unfold divK
   rw [if_pos (by decide)]
   congr 1
   rw [Int.tdiv_eq_ediv_of_nonneg h0]
   exact wrapI (by omega) (by omega)
  have hm : modK n 10 = some (n % 10):=by
   unfold modK
   rw [if_pos (by decide)]
   congr 1
   exact Int.tmod_eq_emod_of_nonneg h0
  rw [hd,hm]
  refine bs (bs (bd (wr (by omega) (by omega)) fun v7 e7=>?_))
  rw [e7]
  refine bd (h10 _ (by omega) (by omega)) fun v8 e8=>bd (ct (by have:=e4.2; simp at this; omega)) fun v9 e9=>bs (bs (bd (wr (by omega) (by omega)) fun v12 e12=>?_))
  rw [e12]
  exact bd (h10 _ (by omega) (by omega)) fun v13 e13=>bd (ct (by have:=e4.2; have:=e9.2; simp at *; omega)) fun _ _=>ok trivial
theorem Y12 (f : Z0p) (hf : Z7s f) : Ok (Zia f) (fun r=>r.2 = 0 → FewF f):=by
 unfold Zia
 refine bd (Ztk _ hf.pool) fun v0 h0=>brN (fun h=>ok fun h'=>absurd h' h) fun h=>?_
 have hS:=h0 h
 refine bd (Zx9 f hf hS) fun v1 h1=>brN (fun h=>ok fun h'=>absurd h' h) fun h=>?_
 have hF:=h1 h
 have k1:=hF.1; have k2:=hF.2.1; have k3:=hF.2.2
 refine bd (P:=fun _=>True) (li f.Z13.length (fun t h0 h1=>?_) (by omega) (by omega) (by omega)) fun q _=>?_
 ·unfold l60x1
  exact brD (fun hlt=>bd (Zx7 f hf hS t h0 hlt) fun _ _=>brN (fun _=>bd (Zkt _ t (by simp) h0 (by omega)) fun _ _=>di trivial) fun _=>bd (wr (by omega) (by omega)) fun _ _=>ni (by omega) (by omega)) fun _=>di trivial
 cases q with
 | inr _=>exact ok fun _=>hF
 | inl _=>
 refine bd (P:=fun _=>True) (li f.Z19.length (fun t h0 h1=>?_) (by omega) (by omega) (by omega)) fun q _=>?_
 ·unfold l60x2
  exact brD (fun hlt=>bd (Zzz f hf hS t h0 hlt) fun _ _=>brN (fun _=>bd (Zkt _ t (by simp) h0 (by omega)) fun _ _=>di trivial) fun _=>bd (wr (by omega) (by omega)) fun _ _=>ni (by omega) (by omega)) fun _=>di trivial
 cases q with
 | inr _=>exact ok fun _=>hF
 | inl _=>
 refine bd (P:=fun _=>True) (li f.Z17.length (fun t h0 h1=>?_) (by omega) (by omega) (by omega)) fun q _=>?_
 ·unfold l60x3
  exact brD (fun hlt=>bd (Y0p f hf hS t h0 hlt) fun _ _=>brN (fun _=>bd (Zkt _ t (by simp) h0 (by omega)) fun _ _=>di trivial) fun _=>bd (wr (by omega) (by omega)) fun _ _=>ni (by omega) (by omega)) fun _=>di trivial
 cases q with
 | inr _=>exact ok fun _=>hF
 | inl _=>exact bd (Zya f hf hS) fun _ _=>br! (fun _=>ok fun _=>hF) fun _=>ok fun _=>hF
end Go.Proofs
