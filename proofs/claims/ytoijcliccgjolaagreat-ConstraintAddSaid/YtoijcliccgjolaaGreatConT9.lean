/-
  That the models come to an answer, part nine: class files, class spaces. No condition.
-/
import Derived.Test.YtoijcliccgjolaaGreatConT8
set_option linter.unusedVariables false
namespace Go.Proofs
open Go.Den Go.Tot
section
variable {p : List Z00} (hp : p.length ≤ 1000)
include hp
theorem Zmy (a : Z13) (s : List UInt8) : Ok (Zb0 p a s) (fun _=>True):=by
 unfold Zb0
 exact bd (Z4d p _ (by omega)) fun _ _=>brE (fun _=>ok trivial) fun _=>ok trivial
theorem Zyw (l : List Z0e) (i : Int) (hl : l.length ≤ 140737488355328) (h0 : 0 ≤ i) (h1 : i < l.length) : Ok (Zd7 p l i) (fun _=>True):=by
 unfold Zd7
 refine bd (gr h0 h1) fun _ _=>bd (Z4d p _ (by omega)) fun v1 _=>bd (gr h0 h1) fun _ _=>bd (Z4d p _ (by omega)) fun v3 _=>bd (P:=fun _=>True) (li i (fun t g0 g1=>?_) (by omega) (by omega) (by omega)) fun q _=>by cases q <;> exact ok trivial
 unfold Zpu
 exact brD (fun _=>bd (gr (by omega) (by omega)) fun _ _=>bd (Z4d p _ (by omega)) fun _ _=>bd (gr (by omega) (by omega)) fun _ _=>bd (Z4d p _ (by omega)) fun _ _=>br (fun _=>br (fun _=>di trivial) fun _=>bd (wr (by omega) (by omega)) fun _ _=>ni (by omega) (by omega)) fun _=>bd (wr (by omega) (by omega)) fun _ _=>ni (by omega) (by omega)) fun _=>di trivial
theorem Y06 (i : Int) (d : List UInt8) : Ok (Zhg p i d) (fun _=>True):=by
 unfold Zhg
 refine bd (Zf4 p i (by omega)) fun v _=>brN (fun _=>ok trivial) fun _=>?_
 repeat' first
  | exact ok trivial
  | with_reducible refine br (fun _=>?_) fun _=>?_
theorem Y1z (m : Z0e) (d : List UInt8) (hm : ∀ a ∈ m.Z1i,Str a.Z27) : Ok (Zjm p m d) (fun _=>True):=by
 unfold Zjm Zn7
 refine brE (fun _=>ok trivial) fun _=>bd (gr (by omega) (by omega)) fun a ha=>brD (fun _=>ok trivial) fun _=>bs (br (fun _=>ok trivial) fun _=>bd (Zmy hp _ _) fun _ _=>br! (fun _=>ok trivial) fun _=>brN (fun _=>ok trivial) fun _=>bd (Zcz _ 0 2 (by omega) (hm a ha)) fun _ _=>bd (Y06 hp _ _) fun _ _=>ok trivial)
theorem Zw4 (l : List Z13) (s : List UInt8) (hl : l.length ≤ 140737488355328) (ha : ∀ a ∈ l,Str a.Z27) : Ok (Zdr p l s) (fun r=>Str r.1 ∧ 0 ≤ r.2 ∧ r.2 ≤ l.length):=by
 unfold Zdr
 refine bd (P:=fun q : List UInt8 × Int=>Str q.1 ∧ 0 ≤ q.2 ∧ q.2 ≤ (l.length : Int)) (lp (fun t=>t.2.2) l.length (fun t=>Str t.1 ∧ 0 ≤ t.2.1 ∧ t.2.1 ≤ t.2.2) (fun t hI h0 h1=>?_) (by omega) ⟨by simp,by dsimp only; omega,by dsimp only; omega⟩ (by dsimp only; omega) (by dsimp only; omega)) fun q hq=>ok hq
 obtain ⟨hI1,hI2,hI3⟩:=hI
 unfold Zod
 exact brD (fun hlt=>bd (gr (by omega) (by omega)) fun a _=>bd (Zmy hp _ _) fun _ _=>br (fun _=>bd (gr (by omega) (by omega)) fun b hb=>bd (wr (by omega) (by omega)) fun _ _=>bd (wr (by omega) (by omega)) fun _ _=>nx ⟨ha b hb,by dsimp only; omega,by dsimp only; omega⟩ (by dsimp only; omega) (by dsimp only; omega)) fun _=>bd (wr (by omega) (by omega)) fun _ _=>nx ⟨hI1,by dsimp only; omega,by dsimp only; omega⟩ (by dsimp only; omega) (by dsimp only; omega)) fun _=>dn ⟨hI1,by dsimp only; omega,by dsimp only; omega⟩
variable (hS : PS p 1024)
include hS
theorem Zci (i : Int) : Ok (Z86 p i) (fun _=>True):=by
 unfold Z86 Zor
 exact brD (fun _=>ok trivial) fun _=>brD (fun _=>ok trivial) fun _=>bd (Zpm p i (by omega) hS) fun v hv=>brN (fun _=>ok trivial) fun _=>brE (fun _=>ok trivial) fun _=>bd (gs (by omega) (by omega)) fun _ _=>brE (fun _=>ok trivial) fun _=>ok trivial
theorem Zsi (l : List Int) (s : List UInt8) (hl : l.length ≤ 140737488355328) : Ok (Zd2 p l s) (fun _=>True):=by
 unfold Zd2
 refine bd (P:=fun _=>True) (li l.length (fun t h0 h1=>?_) (by omega) (by omega) (by omega)) fun q _=>by cases q <;> exact ok trivial
 unfold Zqf
 exact brD (fun _=>bd (gr (by omega) (by omega)) fun _ _=>bd (Zci hp hS _) fun _ _=>brE (fun _=>br (fun _=>di trivial) fun _=>bd (wr (by omega) (by omega)) fun _ _=>ni (by omega) (by omega)) fun _=>bd (wr (by omega) (by omega)) fun _ _=>ni (by omega) (by omega)) fun _=>di trivial
end
theorem Y2f (x y : Int) : Ok (Z94 x y) (fun _=>True):=bs (ok trivial)
theorem Zti (x y : Int) : Ok (Z9i x y) (fun _=>True):=by
 unfold Z9i
 exact brD (fun _=>bs (ok trivial)) fun _=>ok trivial
theorem Y1l (x : Int) : Ok (Zcs x) (fun _=>True):=by
 unfold Zcs Zhn Zkz
 have h : ∀ n : Int,Ok ((some (Z34 .i64 x (4 : Int))).bind fun v3=>if (v3 != 0) = true then ((some (IntKind.wrap .i64 (n + (1 : Int)))).bind fun v4=>some (decide (v4 ≤ 1))) else (some (decide (n ≤ 1)))) (fun _=>True):=fun n=>bs (br (fun _=>bs (ok trivial)) fun _=>ok trivial)
 have h1 : ∀ n : Int,Ok ((some (Z34 .i64 x (2 : Int))).bind fun v1=>if (v1 != 0) = true then ((some (IntKind.wrap .i64 (n + (1 : Int)))).bind fun v2=>(some (Z34 .i64 x (4 : Int))).bind fun v3=>if (v3 != 0) = true then ((some (IntKind.wrap .i64 (v2 + (1 : Int)))).bind fun v4=>some (decide (v4 ≤ 1))) else (some (decide (v2 ≤ 1)))) else ((some (Z34 .i64 x (4 : Int))).bind fun v3=>if (v3 != 0) = true then ((some (IntKind.wrap .i64 (n + (1 : Int)))).bind fun v4=>some (decide (v4 ≤ 1))) else (some (decide (n ≤ 1))))) (fun _=>True):=fun n=>bs (br (fun _=>bs (h _)) fun _=>h _)
 exact bs (br (fun _=>h1 1) fun _=>h1 0)
theorem Zln (s : List UInt8) (x : Int) : Ok (Za0 s x) (fun _=>True):=by
 unfold Za0 Zax Zas
 repeat' first
  | exact ok trivial
  | with_reducible refine br (fun _=>?_) fun _=>?_
  | with_reducible refine bd (Y2f _ _) fun _ _=>?_
  | with_reducible refine bd (Zti _ _) fun _ _=>?_
  | with_reducible refine bd (Y1l _) fun _ _=>?_
  | with_reducible refine bs ?_
structure Z7x (f : Z0u) : Prop where
 pool : Z1g f.Z1z
 ifsL : f.Z11.length ≤ 140737488355328
 fldL : f.Z1a.length ≤ 140737488355328
 metL : f.Z17.length ≤ 140737488355328
 attL : f.Z1i.length ≤ 140737488355328
 att : ∀ a ∈ f.Z1i,Str a.Z27
 mem : ∀ m,m ∈ f.Z1a ∨ m ∈ f.Z17 → m.Z1i.length ≤ 140737488355328 ∧ ∀ a ∈ m.Z1i,Str a.Z27
def FewF (f : Z0u) : Prop:=f.Z11.length ≤ 8 ∧ f.Z1a.length ≤ 64 ∧ f.Z17.length ≤ 64
theorem Zzi (f : Z0u) (hf : Z7x f) : Ok (Zgo f) (fun b=>b = false → FewF f):=by
 have g1:=hf.fldL; have g2:=hf.metL
 unfold Zgo Zn6
 refine brD (fun _=>ok (by simp)) fun _=>brD (fun _=>ok (by simp)) fun _=>brD (fun _=>ok (by simp)) fun _=>brD (fun _=>ok (by simp)) fun _=>?_
 have hd : FewF f:=⟨by omega,by omega,by omega⟩
 refine bd (P:=fun _=>True) (li f.Z1a.length (fun t h0 h1=>?_) (by omega) (by omega) (by omega)) fun q _=>?_
 ·unfold Zpy
  exact brD (fun _=>bd (gr (by omega) (by omega)) fun _ _=>brD (fun _=>di trivial) fun _=>bd (wr (by omega) (by omega)) fun _ _=>ni (by omega) (by omega)) fun _=>di trivial
 cases q with
 | inr _=>exact ok fun _=>hd
 | inl _=>
  refine bd (P:=fun _=>True) (li f.Z17.length (fun t h0 h1=>?_) (by omega) (by omega) (by omega)) fun q _=>by cases q <;> exact ok fun _=>hd
  unfold Zm5
  exact brD (fun _=>bd (gr (by omega) (by omega)) fun _ _=>brD (fun _=>di trivial) fun _=>bd (wr (by omega) (by omega)) fun _ _=>ni (by omega) (by omega)) fun _=>di trivial
theorem Y17 (f : Z0u) (hf : Z7x f) (hS : PS f.Z1z 1024) : Ok (Zia f) (fun e=>e = 0 → FewF f):=by
 have hp:=hf.pool.len
 have hi:=hf.ifsL
 have h3 : ∀ a (v : List UInt8 × Int),Ok (Zcf a v f) (fun e=>e = 0 → FewF f):=fun a v=>by
  unfold Zcf
  exact bd (Zzi f hf) fun b hb=>br (fun _=>ok (by simp)) fun h=>br (fun _=>ok (by simp)) fun _=>bd (Zsi hp hS _ _ hi) fun _ _=>br (fun _=>ok (by simp)) fun _=>ok fun _=>hb h
 have h2 : ∀ (v : List UInt8 × Int) a,Ok (Zel v f a) (fun e=>e = 0 → FewF f):=fun v a=>by
  unfold Zel
  exact bd (Zln _ _) fun _ _=>br! (fun _=>ok (by simp)) fun _=>br (fun _=>ok (by simp)) fun _=>bs (br (fun _=>br (fun _=>ok (by simp)) fun _=>h3 _ _) fun _=>h3 _ _)
 have h1 : Ok (Zen f) (fun e=>e = 0 → FewF f):=by
  unfold Zen
  exact bd (Zci hp hS _) fun v _=>brN (fun h=>ok fun h'=>absurd h' h) fun _=>brN (fun _=>bd (Zci hp hS _) fun w _=>brN (fun h=>ok fun h'=>absurd h' h) fun _=>h2 _ _) fun _=>h2 _ _
 have hpl : ∀ i,Ok (Zdh f.Z1z i) (fun _=>True):=fun i=>by
  unfold Zdh
  exact brD (fun _=>ok trivial) fun _=>ok trivial
 unfold Zia
 exact bd (hpl _) fun _ _=>br! (fun _=>ok (by simp)) fun _=>brN (fun _=>bd (hpl _) fun _ _=>br! (fun _=>ok (by simp)) fun _=>h1) fun _=>h1
theorem Y04 (f : Z0u) (hf : Z7x f) (hS : PS f.Z1z 1024) (i : Int) (h0 : 0 ≤ i) (h1 : i < f.Z11.length) : Ok (Zj9 f i) (fun _=>True):=by
 have:=hf.ifsL
 unfold Zj9
 exact bd (gr h0 h1) fun _ _=>bd (Zci hf.pool.len hS _) fun _ _=>brN (fun _=>ok trivial) fun _=>bd (sb (by omega) (by omega) (by omega)) fun r hr=>bd (Zsi hf.pool.len hS r _ (by have:=hr.1; omega)) fun _ _=>br (fun _=>ok trivial) fun _=>ok trivial
theorem Y3c (f : Z0u) (hf : Z7x f) (hS : PS f.Z1z 1024) (i : Int) (h0 : 0 ≤ i) (h1 : i < f.Z1a.length) : Ok (Zko f i) (fun _=>True):=by
 have hp:=hf.pool.len
 have hl : f.Z1z.length ≤ 140737488355328:=by omega
 unfold Zko
 refine bd (gr h0 h1) fun m hm=>bd (Z4d _ _ hl) fun v1 e1=>brN (fun _=>ok trivial) fun _=>bd (Zpw _ (by have:=Zbc hS e1; unfold Str; omega)) fun b hb=>br! (fun _=>ok trivial) fun h=>?_
 have hpos:=hb h
 refine bd (gs (by omega) (by omega)) fun _ _=>br (fun _=>ok trivial) fun _=>?_
 have h3 : ∀ v4 w,Ok (Zdx m v4 f i w) (fun _=>True):=fun v4 w=>by
  unfold Zdx
  exact bd (Zln _ _) fun _ _=>br! (fun _=>ok trivial) fun _=>bd (Zyw hp _ i hf.fldL h0 h1) fun _ _=>br (fun _=>ok trivial) fun _=>bd (Y1z hp m _ (hf.mem m (.inl hm)).2) fun _ _=>br! (fun _=>ok trivial) fun _=>ok trivial
 unfold j80x1 j80x2
 exact bd (Z4d _ _ hl) fun v4 e4=>brN (fun _=>ok trivial) fun _=>bd (Zde _ (by have:=Zbc hS e4; unfold Str; omega)) fun _ _=>brN (fun _=>ok trivial) fun _=>br (fun _=>ok trivial) fun _=>bs (br (fun _=>h3 _ _) fun _=>h3 _ _)
theorem Y44 (f : Z0u) (hf : Z7x f) (hS : PS f.Z1z 1024) (m : Z0e) : Ok (Zg4 f m) (fun r=>r.2.1.Z36.length ≤ 1048576):=by
 have hl : f.Z1z.length ≤ 140737488355328:=by have:=hf.pool.len; omega
 have h1 : ∀ v0,Ok (Zfi v0 f m) (fun r=>r.2.1.Z36.length ≤ 1048576):=fun v0=>by
  unfold Zfi
  refine bd (Z4d _ _ hl) fun v3 e3=>brN (fun _=>ok (by simp)) fun _=>bd (Zq8 _ (by have:=Zbc hS e3; omega)) fun v4 e4=>brN (fun _=>ok (by simp)) fun _=>?_
  repeat' first
   | exact ok e4
   | exact ok (by simp)
   | with_reducible refine br (fun _=>?_) fun _=>?_
 unfold Zg4
 exact bd (Z4d _ _ hl) fun v0 e0=>brN (fun _=>ok (by simp)) fun _=>bd (Zpw _ (by have:=Zbc hS e0; unfold Str; omega)) fun _ _=>br! (fun _=>ok (by simp)) fun _=>br (fun _=>bs (br (fun _=>ok (by simp)) fun _=>h1 _)) fun _=>h1 _
theorem Y1g (f : Z0u) (m : Z0e) (s : List UInt8) : Ok (Zhy f m s) (fun _=>True):=by
 unfold Zhy Zka
 repeat' first
  | exact ok trivial
  | with_reducible refine br (fun _=>?_) fun _=>?_
  | with_reducible refine bd (Zln _ _) fun _ _=>?_
  | with_reducible refine bd (Zti _ _) fun _ _=>?_
  | with_reducible refine bs ?_
theorem Y3m (f : Z0u) (hf : Z7x f) (hS : PS f.Z1z 1024) (m : Z0e) (hm : m.Z1i.length ≤ 140737488355328 ∧ ∀ a ∈ m.Z1i,Str a.Z27) (g : Z29) (hg : g.Z36.length ≤ 1048576) : Ok (Zfk f.Z1z m g) (fun _=>True):=by
 have hp:=hf.pool.len
 unfold Zfk
 refine bd (Zw4 hp _ _ hm.1 hm.2) fun v0 e0=>bd (Zw4 hp _ _ hm.1 hm.2) fun v1 e1=>bs (brD (fun _=>ok trivial) fun _=>brD (fun _=>ok trivial) fun _=>bd (wr (by omega) (by omega)) fun _ _=>brN (fun _=>ok trivial) fun _=>br (fun _=>ok trivial) fun _=>?_)
 have h4 : ∀ a b,Ok (Zcy a b) (fun _=>True):=fun a b=>by
  unfold Zcy
  exact brD (fun _=>ok trivial) fun _=>ok trivial
 have h3 : ∀ a b,Ok (Zc8 a v1 f.Z1z b) (fun _=>True):=fun a b=>by
  unfold Zc8
  refine brD (fun _=>bd (Zzu _ e1.1) fun v7 e7=>brN (fun _=>ok trivial) fun _=>bd (P:=fun _=>True) (li v7.1.length (fun t h0 h1=>?_) (by omega) (by omega) (by omega)) fun q _=>?_) fun _=>h4 _ _
  ·unfold Zp2
   exact brD (fun _=>bd (gr (by omega) (by omega)) fun _ _=>bd (Zci hp hS _) fun _ _=>brN (fun _=>di trivial) fun _=>bd (wr (by omega) (by omega)) fun _ _=>ni (by omega) (by omega)) fun _=>di trivial
  ·cases q with
   | inl _=>exact h4 _ _
   | inr _=>exact ok trivial
 unfold Zq9 Zlh
 exact bs (br (fun _=>bd (wr (by omega) (by omega)) fun _ _=>br (fun _=>bd (Zvi _ _ hf.pool e0.1) fun _ _=>brN (fun _=>ok trivial) fun _=>h3 _ _) fun _=>h3 _ _) fun _=>br (fun _=>bd (Zvi _ _ hf.pool e0.1) fun _ _=>brN (fun _=>ok trivial) fun _=>h3 _ _) fun _=>h3 _ _)
theorem Y4b (f : Z0u) (hf : Z7x f) (hS : PS f.Z1z 1024) (i : Int) (h0 : 0 ≤ i) (h1 : i < f.Z17.length) : Ok (Zi3 f i) (fun _=>True):=by
 unfold Zi3
 exact bd (gr h0 h1) fun m hm=>bd (Y44 f hf hS m) fun v1 e1=>brN (fun _=>ok trivial) fun _=>bd (Y1g _ _ _) fun _ _=>br! (fun _=>ok trivial) fun _=>bd (Zyw hf.pool.len _ i hf.metL h0 h1) fun _ _=>br (fun _=>ok trivial) fun _=>bd (Y3m f hf hS m (hf.mem m (.inr hm)) _ e1) fun _ _=>ok trivial
theorem Y1j (f : Z0u) (hf : Z7x f) (hS : PS f.Z1z 1024) : Ok (Zkf f) (fun _=>True):=by
 unfold Zkf j82x1
 exact brE (fun _=>ok trivial) fun _=>bd (gr (by omega) (by omega)) fun a ha=>brD (fun _=>ok trivial) fun _=>bd (Zmy hf.pool.len _ _) fun _ _=>br! (fun _=>ok trivial) fun _=>brN (fun _=>ok trivial) fun _=>bd (Zcz _ 0 2 (by omega) (hf.att a ha)) fun _ _=>bd (Z4d _ _ (by have:=hf.pool.len; omega)) fun _ _=>ok trivial
theorem Zo3 (s : List UInt8) (n : Int) (hs : s.length ≤ 1000) (h0 : 0 ≤ n) (h1 : n < 100) : Ok (Zb9 s n) (fun _=>True):=by
 unfold Zb9
 have h10 : ∀ a : Int,0 ≤ a → a < 10 → Ok (sub ([48,49,50,51,52,53,54,55,56,57] : List UInt8) a (a + 1)) (fun r=>r.length ≤ 1):=fun a ha hb=>(sb ha (by omega) (by simp; omega)).mono fun r hr=>by have:=hr.1; omega
 refine brD (fun _=>bd (ct (by simp; omega)) fun v0 e0=>bd (wr (by omega) (by omega)) fun v1 e1=>?_) fun _=>bd (ct (by simp; omega)) fun v4 e4=>?_
 ·rw [e1]
  exact bd (h10 n h0 (by omega)) fun v2 e2=>bd (ct (by have:=e0.2; simp at this; omega)) fun _ _=>ok trivial
 ·have hd : divK .i64 n 10 = some (n / 10):=by
   unfold divK
   rw [if_pos (by decide)]
   congr 1
   rw [Int.tdiv_eq_ediv_of_nonneg h0]
   exact Zjf (by omega) (by omega)
  have hm : modK n 10 = some (n % 10):=by
   unfold modK
   rw [if_pos (by decide)]
   congr 1
   exact Int.tmod_eq_emod_of_nonneg h0
  rw [hd,hm]
  refine bs (bs (bd (wr (by omega) (by omega)) fun v7 e7=>?_))
  rw [e7]
  refine bd (h10 _ (by omega) (by omega)) fun v8 e8=>bd (ct (by have:=e4.2; simp at this; omega)) fun v9 e9=>bs (bs (bd (wr (by omega) (by omega)) fun v12 e12=>?_))
  rw [e12]
  exact bd (h10 _ (by omega) (by omega)) fun v13 e13=>bd (ct (by have:=e4.2; have:=e9.2; simp at *; omega)) fun _ _=>ok trivial
theorem Y0i (f : Z0u) (hf : Z7x f) : Ok (Zkp f) (fun r=>r.2 = 0 → FewF f):=by
 unfold Zkp
 refine bd (Zss _ hf.pool) fun v0 h0=>brN (fun h=>ok fun h'=>absurd h' h) fun h=>?_
 have hS:=h0 h
 refine bd (Y17 f hf hS) fun v1 h1=>brN (fun h=>ok fun h'=>absurd h' h) fun h=>?_
 have hF:=h1 h
 have k1:=hF.1; have k2:=hF.2.1; have k3:=hF.2.2
 refine bd (P:=fun _=>True) (li f.Z11.length (fun t h0 h1=>?_) (by omega) (by omega) (by omega)) fun q _=>?_
 ·unfold l60x1
  exact brD (fun hlt=>bd (Y04 f hf hS t h0 hlt) fun _ _=>brN (fun _=>bd (Zo3 _ t (by simp) h0 (by omega)) fun _ _=>di trivial) fun _=>bd (wr (by omega) (by omega)) fun _ _=>ni (by omega) (by omega)) fun _=>di trivial
 cases q with
 | inr _=>exact ok fun _=>hF
 | inl _=>
 refine bd (P:=fun _=>True) (li f.Z1a.length (fun t h0 h1=>?_) (by omega) (by omega) (by omega)) fun q _=>?_
 ·unfold l60x2
  exact brD (fun hlt=>bd (Y3c f hf hS t h0 hlt) fun _ _=>brN (fun _=>bd (Zo3 _ t (by simp) h0 (by omega)) fun _ _=>di trivial) fun _=>bd (wr (by omega) (by omega)) fun _ _=>ni (by omega) (by omega)) fun _=>di trivial
 cases q with
 | inr _=>exact ok fun _=>hF
 | inl _=>
 refine bd (P:=fun _=>True) (li f.Z17.length (fun t h0 h1=>?_) (by omega) (by omega) (by omega)) fun q _=>?_
 ·unfold l60x3
  exact brD (fun hlt=>bd (Y4b f hf hS t h0 hlt) fun _ _=>brN (fun _=>bd (Zo3 _ t (by simp) h0 (by omega)) fun _ _=>di trivial) fun _=>bd (wr (by omega) (by omega)) fun _ _=>ni (by omega) (by omega)) fun _=>di trivial
 cases q with
 | inr _=>exact ok fun _=>hF
 | inl _=>exact bd (Y1j f hf hS) fun _ _=>br! (fun _=>ok fun _=>hF) fun _=>ok fun _=>hF
end Go.Proofs
