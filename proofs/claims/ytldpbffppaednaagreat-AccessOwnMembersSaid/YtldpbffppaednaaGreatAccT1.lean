/-
  That the models come to an answer, part one: names and loaders. No condition.
-/
import Derived.Test.YtldpbffppaednaaGreatAcc8
import Derived.Test.YtldpbffppaednaaGreatDenTot
set_option linter.unusedVariables false
namespace Go.Proofs
open Go.Den Go.Tot
abbrev Str (s : List UInt8) : Prop:=s.length ≤ 4503599627370496
structure WRef (r : Z27) : Prop where
  c : Str r.Z1h
  n : Str r.Z02
  d : Str r.Z1l
structure Z2q (i : Z01) : Prop where
  keys : i.Z0x.length * 8 ≤ 140737488355328
  tos : i.Z0b.length * 8 ≤ 140737488355328
  ref : WRef i.Z16
  s : Str i.f_S
structure Z9g (f : Z59) : Prop where
  loc : ∀ v ∈ f.Z0v,Str v.Z1o.Z02
  locL : f.Z0v.length * 56 ≤ 140737488355328
  stk : ∀ v ∈ f.Z10,Str v.Z1o.Z02
  stkL : f.Z10.length * 56 ≤ 140737488355328
structure Z4r (c : Z08) : Prop where
  ins : ∀ i ∈ c.Z0q,Z2q i
  insL : c.Z0q.length * 144 ≤ 140737488355328
  hnd : ∀ h ∈ c.Z1m,Str h.Z1o
  hndL : c.Z1m.length * 48 ≤ 140737488355328
  map : ∀ m ∈ c.Z17,Z9g m.Z1p
  mapL : c.Z17.length * 64 ≤ 140737488355328
  linL : c.Z1i.length * 16 ≤ 140737488355328
structure Z8z (m : Z0y) : Prop where
  n : Str m.Z02
  d : Str m.Z1l
  code : Z4r m.Z2l
  exc : ∀ s ∈ m.Z64,Str s
  excL : m.Z64.length * 16 ≤ 140737488355328
structure Zmf (f : Z13) : Prop where
  n : Str f.Z02
  d : Str f.Z1l
  s : Str f.f_S
structure Z53 (u : Z0j) : Prop where
  n : Str u.Z02
  sup : Str u.Z07
  ifs : ∀ s ∈ u.Z06,Str s
  ifsL : u.Z06.length * 16 ≤ 140737488355328
  fld : ∀ f ∈ u.Z0n,Zmf f
  fldL : u.Z0n.length * 72 ≤ 140737488355328
  met : ∀ m ∈ u.Z0m,Z8z m
  metL : u.Z0m.length * 184 ≤ 140737488355328
  src : Str u.Z1a
structure Z6q (l : Z1n) : Prop where
  del : ∀ d ∈ l.Z3h,Str d.Zfi
  delL : l.Z3h.length ≤ 140737488355328
  sto : ∀ c ∈ l.Z2z,Str c.Z02
  stoL : l.Z2z.length ≤ 140737488355328
structure Z4k (w : Z0c) : Prop where
  lod : ∀ l ∈ w.Z22,Z6q l
  lodL : w.Z22.length ≤ 140737488355328
  cls : ∀ c ∈ w.Z19,Z53 c.Z0s ∧ c.Z06.length ≤ 140737488355328
  clsL : w.Z19.length ≤ 140737488355328
  ini : ∀ x ∈ w.Z2p,Str x.Z02
  iniL : w.Z2p.length ≤ 140737488355328
  con : ∀ x ∈ w.Z3u,Str x.Z02
  conL : w.Z3u.length ≤ 140737488355328
theorem Zxg (x : Int) : Ok (Zfa x) (fun _=>True):=by
  unfold Zfa
  repeat' first
    | with_reducible refine brD (fun _=>?_) fun _=>?_
    | with_reducible refine brE (fun _=>?_) fun _=>?_
    | with_reducible refine br (fun _=>?_) fun _=>?_
    | with_reducible refine bs ?_
    | with_reducible refine ok ?_
    | with_reducible refine And.intro ?_ ?_
    | assumption
    | exact True.intro
    | omega
    | (dsimp only; omega)
    | (simp only [List.length_set,List.length_append,List.length_cons,List.length_nil,List.length_replicate]; omega)
    | (obtain ⟨_,_⟩:=‹_ ∧ _›)
theorem L34x1 (x : List UInt8) (h : Str x) : Ok (Z0d (Zg5 x) Z0i 0) (fun q=>match q with | .inl _=>True | .inr y=>y = false):=by
  refine li (x.length) (fun t _ _=>?_) (by omega) (by omega) (by omega)
  unfold Zg5
  repeat' first
    | with_reducible refine ni ?_ ?_
    | with_reducible refine di ?_
    | with_reducible refine brD (fun _=>?_) fun _=>?_
    | with_reducible refine br! (fun _=>?_) fun _=>?_
    | with_reducible refine brE (fun _=>?_) fun _=>?_
    | with_reducible refine br (fun _=>?_) fun _=>?_
    | with_reducible refine bd (gs (by omega) (by omega)) fun _ _=>?_
    | with_reducible refine bd (wr (by omega) (by omega)) fun _ _=>?_
    | with_reducible refine bd (Zxg _) fun _ _=>?_
    | with_reducible refine bs ?_
    | (rfl)
    | with_reducible refine And.intro ?_ ?_
    | assumption
    | exact True.intro
    | omega
    | (dsimp only; omega)
    | (simp only [List.length_set,List.length_append,List.length_cons,List.length_nil,List.length_replicate]; omega)
    | (obtain ⟨_,_⟩:=‹_ ∧ _›)
theorem Znq (x : List UInt8) (h : Str x) : Ok (Z9s x) (fun b=>b = true → x ≠ []):=by
  unfold Z9s
  repeat' first
    | with_reducible refine bd (L34x1 _ (by first | assumption | omega | exact And.left (by assumption) | (dsimp only; omega))) fun _ _=>?_
    | with_reducible refine bs ?_
    | with_reducible refine ok ?_
    | split
    | (first | (intro h; rintro rfl; simp at h; done) | (simp_all; done))
    | with_reducible refine And.intro ?_ ?_
    | assumption
    | exact True.intro
    | omega
    | (dsimp only; omega)
    | (simp only [List.length_set,List.length_append,List.length_cons,List.length_nil,List.length_replicate]; omega)
    | (obtain ⟨_,_⟩:=‹_ ∧ _›)
theorem L20x1 (x : List UInt8) (h : Str x) : Ok (Z0d (Zhj x) Z0i (0,0)) (fun q=>match q with | .inl y=>0 ≤ y ∧ y ≤ x.length | .inr y=>True):=by
  refine lp (fun t=>t.2) (x.length) (fun t=>0 ≤ t.1 ∧ t.1 ≤ t.2) (fun t hI _ _=>?_) (by omega) (by omega) (by omega) (by omega)
  try dsimp only at *
  unfold Zhj
  repeat' first
    | with_reducible refine nx ?_ ?_ ?_
    | with_reducible refine dn ?_
    | with_reducible refine brD (fun _=>?_) fun _=>?_
    | with_reducible refine br! (fun _=>?_) fun _=>?_
    | with_reducible refine brE (fun _=>?_) fun _=>?_
    | with_reducible refine br (fun _=>?_) fun _=>?_
    | with_reducible refine bd (gs (by omega) (by omega)) fun _ _=>?_
    | with_reducible refine bd (wr (by omega) (by omega)) fun _ _=>?_
    | with_reducible refine bd (sb (by omega) (by omega) (by omega)) fun _ _=>?_
    | with_reducible refine bd (Znq _ (by unfold Str; omega)) fun _ _=>?_
    | with_reducible refine bs ?_
    | with_reducible refine And.intro ?_ ?_
    | assumption
    | exact True.intro
    | omega
    | (dsimp only; omega)
    | (simp only [List.length_set,List.length_append,List.length_cons,List.length_nil,List.length_replicate]; omega)
    | (obtain ⟨_,_⟩:=‹_ ∧ _›)
theorem Ziv (x : List UInt8) (h : Str x) : Ok (Z99 x) (fun b=>b = true → x.length ≤ 64):=by
  unfold Z99
  repeat' first
    | with_reducible refine bdE (L20x1 _ (by assumption)) fun q _ hq=>?_
    | with_reducible refine brD (fun _=>?_) fun _=>?_
    | with_reducible refine br (fun _=>?_) fun _=>?_
    | with_reducible refine bd (sb (by omega) (by omega) (by omega)) fun _ _=>?_
    | with_reducible refine bd (L20x1 _ (by first | assumption | omega | exact And.left (by assumption) | (dsimp only; omega))) fun _ _=>?_
    | with_reducible refine bd (Znq _ (by unfold Str; omega)) fun _ _=>?_
    | with_reducible refine bs ?_
    | with_reducible refine ok ?_
    | split
    | ((intro hb; first | (cases hb; done) | omega))
    | with_reducible refine And.intro ?_ ?_
    | assumption
    | exact True.intro
    | omega
    | (dsimp only; omega)
    | (simp only [List.length_set,List.length_append,List.length_cons,List.length_nil,List.length_replicate]; omega)
    | (obtain ⟨_,_⟩:=‹_ ∧ _›)
theorem Zrw (x y : List UInt8) : Ok (Z8g x y) (fun _=>True):=by
  unfold Z8g
  repeat' first
    | with_reducible refine brD (fun _=>?_) fun _=>?_
    | with_reducible refine br (fun _=>?_) fun _=>?_
    | with_reducible refine bd (sb (by omega) (by omega) (by omega)) fun _ _=>?_
    | with_reducible refine ok ?_
    | with_reducible refine And.intro ?_ ?_
    | assumption
    | exact True.intro
    | omega
    | (dsimp only; omega)
    | (simp only [List.length_set,List.length_append,List.length_cons,List.length_nil,List.length_replicate]; omega)
    | (obtain ⟨_,_⟩:=‹_ ∧ _›)
theorem L32x1 (x : Z1n) (i : Int) (h : Z6q x) : Ok (Z0d (Zhx x i) Z0i 0) (fun _=>True):=by
  have:=h.stoL
  refine li (x.Z2z.length) (fun t _ _=>?_) (by omega) (by omega) (by omega)
  unfold Zhx
  repeat' first
    | with_reducible refine ni ?_ ?_
    | with_reducible refine di ?_
    | with_reducible refine brD (fun _=>?_) fun _=>?_
    | with_reducible refine br! (fun _=>?_) fun _=>?_
    | with_reducible refine br (fun _=>?_) fun _=>?_
    | with_reducible refine bd (gr (by omega) (by omega)) fun _ _=>?_
    | with_reducible refine bd (wr (by omega) (by omega)) fun _ _=>?_
    | with_reducible refine bd (Ziv _ (by exact h.sto _ (by assumption))) fun _ _=>?_
    | with_reducible refine bd (Zrw _ _) fun _ _=>?_
    | with_reducible refine bs ?_
    | with_reducible refine And.intro ?_ ?_
    | assumption
    | exact True.intro
    | omega
    | (dsimp only; omega)
    | (simp only [List.length_set,List.length_append,List.length_cons,List.length_nil,List.length_replicate]; omega)
    | (obtain ⟨_,_⟩:=‹_ ∧ _›)
theorem Zz8 (x : Z1n) (i : Int) (h : Z6q x) : Ok (Zhc x i) (fun _=>True):=by
  unfold Zhc
  repeat' first
    | with_reducible refine bd (L32x1 _ _ (by first | assumption | omega | exact And.left (by assumption) | (dsimp only; omega))) fun _ _=>?_
    | with_reducible refine ok ?_
    | split
    | with_reducible refine And.intro ?_ ?_
    | assumption
    | exact True.intro
    | omega
    | (dsimp only; omega)
    | (simp only [List.length_set,List.length_append,List.length_cons,List.length_nil,List.length_replicate]; omega)
    | (obtain ⟨_,_⟩:=‹_ ∧ _›)
theorem L33x2 (k : Int) (x : Z1n) (hl : x.Z2z.length ≤ 140737488355328) (h0 : 0 ≤ k) (h1 : k < x.Z2z.length) : Ok (Z0d (Zgl k x) Z0i 0) (fun _=>True):=by
  refine li (k) (fun t _ _=>?_) (by omega) (by omega) (by omega)
  unfold Zgl
  repeat' first
    | with_reducible refine ni ?_ ?_
    | with_reducible refine di ?_
    | with_reducible refine brD (fun _=>?_) fun _=>?_
    | with_reducible refine brE (fun _=>?_) fun _=>?_
    | with_reducible refine br (fun _=>?_) fun _=>?_
    | with_reducible refine bd (gr (by omega) (by omega)) fun _ _=>?_
    | with_reducible refine bd (wr (by omega) (by omega)) fun _ _=>?_
    | with_reducible refine bs ?_
    | with_reducible refine And.intro ?_ ?_
    | assumption
    | exact True.intro
    | omega
    | (dsimp only; omega)
    | (simp only [List.length_set,List.length_append,List.length_cons,List.length_nil,List.length_replicate]; omega)
    | (obtain ⟨_,_⟩:=‹_ ∧ _›)
theorem L33x1 (x : Z1n) (hl : x.Z2z.length ≤ 140737488355328) : Ok (Z0d (Zgr x) Z0i 0) (fun _=>True):=by
  refine li (x.Z2z.length) (fun t _ _=>?_) (by omega) (by omega) (by omega)
  unfold Zgr
  repeat' first
    | with_reducible refine ni ?_ ?_
    | with_reducible refine di ?_
    | with_reducible refine brD (fun _=>?_) fun _=>?_
    | with_reducible refine br (fun _=>?_) fun _=>?_
    | with_reducible refine bd (wr (by omega) (by omega)) fun _ _=>?_
    | with_reducible refine bd (L33x2 _ _ (by first | assumption | omega | exact And.left (by assumption) | (dsimp only; omega)) (by first | assumption | omega | exact And.left (by assumption) | (dsimp only; omega)) (by first | assumption | omega | exact And.left (by assumption) | (dsimp only; omega))) fun _ _=>?_
    | with_reducible refine bs ?_
    | split
    | with_reducible refine And.intro ?_ ?_
    | assumption
    | exact True.intro
    | omega
    | (dsimp only; omega)
    | (simp only [List.length_set,List.length_append,List.length_cons,List.length_nil,List.length_replicate]; omega)
    | (obtain ⟨_,_⟩:=‹_ ∧ _›)
theorem Zwe (x : Z1n) (hl : x.Z2z.length ≤ 140737488355328) : Ok (Zjt x) (fun _=>True):=by
  unfold Zjt
  repeat' first
    | with_reducible refine bd (L33x1 _ (by first | assumption | omega | exact And.left (by assumption) | (dsimp only; omega))) fun _ _=>?_
    | with_reducible refine ok ?_
    | split
    | with_reducible refine And.intro ?_ ?_
    | assumption
    | exact True.intro
    | omega
    | (dsimp only; omega)
    | (simp only [List.length_set,List.length_append,List.length_cons,List.length_nil,List.length_replicate]; omega)
    | (obtain ⟨_,_⟩:=‹_ ∧ _›)
theorem L19x1 (x : List Z1n) (h : ∀ l ∈ x,Z6q l) (hl : x.length ≤ 140737488355328) : Ok (Z0d (Zet x) Z0i 0) (fun _=>True):=by
  refine li (x.length) (fun t _ _=>?_) (by omega) (by omega) (by omega)
  unfold Zet
  repeat' first
    | with_reducible refine ni ?_ ?_
    | with_reducible refine di ?_
    | with_reducible refine brD (fun _=>?_) fun _=>?_
    | with_reducible refine br (fun _=>?_) fun _=>?_
    | with_reducible refine bd (gr (by omega) (by omega)) fun _ _=>?_
    | with_reducible refine bd (wr (by omega) (by omega)) fun _ _=>?_
    | with_reducible refine bs ?_
    | with_reducible refine And.intro ?_ ?_
    | assumption
    | exact True.intro
    | omega
    | (dsimp only; omega)
    | (simp only [List.length_set,List.length_append,List.length_cons,List.length_nil,List.length_replicate]; omega)
    | (obtain ⟨_,_⟩:=‹_ ∧ _›)
theorem L19x3 (k : Int) (x : List Z1n) (h : ∀ l ∈ x,Z6q l) (hl : x.length ≤ 140737488355328) (h0 : 0 ≤ k) (h1 : k < x.length) : Ok (Z0d (Zh2 k x) Z0i 0) (fun _=>True):=by
  obtain ⟨y,hy,hm⟩:=gr h0 h1
  have:=(h y hm).delL
  refine li (y.Z3h.length) (fun t _ _=>?_) (by omega) (by omega) (by omega)
  unfold Zh2
  simp only [hy]
  repeat' first
    | with_reducible refine ni ?_ ?_
    | with_reducible refine di ?_
    | with_reducible refine brD (fun _=>?_) fun _=>?_
    | with_reducible refine br (fun _=>?_) fun _=>?_
    | with_reducible refine bd (gr (by omega) (by omega)) fun _ _=>?_
    | with_reducible refine bd (wr (by omega) (by omega)) fun _ _=>?_
    | with_reducible refine bs ?_
    | with_reducible refine And.intro ?_ ?_
    | assumption
    | exact True.intro
    | omega
    | (dsimp only; omega)
    | (simp only [List.length_set,List.length_append,List.length_cons,List.length_nil,List.length_replicate]; omega)
    | (obtain ⟨_,_⟩:=‹_ ∧ _›)
theorem L19x2 (x : List Z1n) (h : ∀ l ∈ x,Z6q l) (hl : x.length ≤ 140737488355328) : Ok (Z0d (Ziu x) Z0i 0) (fun _=>True):=by
  refine li (x.length) (fun t _ _=>?_) (by omega) (by omega) (by omega)
  unfold Ziu
  repeat' first
    | with_reducible refine ni ?_ ?_
    | with_reducible refine di ?_
    | with_reducible refine brD (fun _=>?_) fun _=>?_
    | with_reducible refine br (fun _=>?_) fun _=>?_
    | with_reducible refine bd (wr (by omega) (by omega)) fun _ _=>?_
    | with_reducible refine bd (L19x3 _ _ (by first | assumption | omega | exact And.left (by assumption) | (dsimp only; omega)) (by first | assumption | omega | exact And.left (by assumption) | (dsimp only; omega)) (by first | assumption | omega | exact And.left (by assumption) | (dsimp only; omega)) (by first | assumption | omega | exact And.left (by assumption) | (dsimp only; omega))) fun _ _=>?_
    | with_reducible refine bs ?_
    | split
    | with_reducible refine And.intro ?_ ?_
    | assumption
    | exact True.intro
    | omega
    | (dsimp only; omega)
    | (simp only [List.length_set,List.length_append,List.length_cons,List.length_nil,List.length_replicate]; omega)
    | (obtain ⟨_,_⟩:=‹_ ∧ _›)
theorem L19x4 (x : List Z1n) (h : ∀ l ∈ x,Z6q l) (hl : x.length ≤ 140737488355328) : Ok (Z0d (Zep x) Z0i 0) (fun _=>True):=by
  refine li (x.length) (fun t _ _=>?_) (by omega) (by omega) (by omega)
  unfold Zep
  repeat' first
    | with_reducible refine ni ?_ ?_
    | with_reducible refine di ?_
    | with_reducible refine brD (fun _=>?_) fun _=>?_
    | with_reducible refine brN (fun _=>?_) fun _=>?_
    | with_reducible refine br (fun _=>?_) fun _=>?_
    | with_reducible refine bd (gr (by omega) (by omega)) fun _ _=>?_
    | with_reducible refine bd (wr (by omega) (by omega)) fun _ _=>?_
    | with_reducible refine bd (Zz8 _ _ (by exact h _ (by assumption))) fun _ _=>?_
    | with_reducible refine bs ?_
    | with_reducible refine And.intro ?_ ?_
    | assumption
    | exact True.intro
    | omega
    | (dsimp only; omega)
    | (simp only [List.length_set,List.length_append,List.length_cons,List.length_nil,List.length_replicate]; omega)
    | (obtain ⟨_,_⟩:=‹_ ∧ _›)
theorem L19x5 (x : List Z1n) (h : ∀ l ∈ x,Z6q l) (hl : x.length ≤ 140737488355328) : Ok (Z0d (Zgj x) Z0i 0) (fun _=>True):=by
  refine li (x.length) (fun t _ _=>?_) (by omega) (by omega) (by omega)
  unfold Zgj
  repeat' first
    | with_reducible refine ni ?_ ?_
    | with_reducible refine di ?_
    | with_reducible refine brD (fun _=>?_) fun _=>?_
    | with_reducible refine br (fun _=>?_) fun _=>?_
    | with_reducible refine bd (gr (by omega) (by omega)) fun _ _=>?_
    | with_reducible refine bd (wr (by omega) (by omega)) fun _ _=>?_
    | with_reducible refine bd (Zwe _ (by exact (h _ (by assumption)).stoL)) fun _ _=>?_
    | with_reducible refine bs ?_
    | with_reducible refine And.intro ?_ ?_
    | assumption
    | exact True.intro
    | omega
    | (dsimp only; omega)
    | (simp only [List.length_set,List.length_append,List.length_cons,List.length_nil,List.length_replicate]; omega)
    | (obtain ⟨_,_⟩:=‹_ ∧ _›)
theorem Zwo (x : List Z1n) (h : ∀ l ∈ x,Z6q l) (hl : x.length ≤ 140737488355328) : Ok (Zhz x) (fun e=>e = 0 → x.length ≤ 8):=by
  unfold Zhz
  repeat' first
    | unfold j19x1
    | with_reducible refine brD (fun _=>?_) fun _=>?_
    | with_reducible refine brE (fun _=>?_) fun _=>?_
    | with_reducible refine br (fun _=>?_) fun _=>?_
    | with_reducible refine bd (L19x1 _ (by first | assumption | omega | exact And.left (by assumption) | (dsimp only; omega)) (by first | assumption | omega | exact And.left (by assumption) | (dsimp only; omega))) fun _ _=>?_
    | with_reducible refine bd (L19x2 _ (by first | assumption | omega | exact And.left (by assumption) | (dsimp only; omega)) (by first | assumption | omega | exact And.left (by assumption) | (dsimp only; omega))) fun _ _=>?_
    | with_reducible refine bd (L19x4 _ (by first | assumption | omega | exact And.left (by assumption) | (dsimp only; omega)) (by first | assumption | omega | exact And.left (by assumption) | (dsimp only; omega))) fun _ _=>?_
    | with_reducible refine bd (L19x5 _ (by first | assumption | omega | exact And.left (by assumption) | (dsimp only; omega)) (by first | assumption | omega | exact And.left (by assumption) | (dsimp only; omega))) fun _ _=>?_
    | with_reducible refine bs ?_
    | with_reducible refine ok ?_
    | split
    | with_reducible refine And.intro ?_ ?_
    | assumption
    | exact True.intro
    | omega
    | (dsimp only; omega)
    | (simp only [List.length_set,List.length_append,List.length_cons,List.length_nil,List.length_replicate]; omega)
    | (obtain ⟨_,_⟩:=‹_ ∧ _›)
theorem L21x1 (v : Z2n) (w : Z0c) (i : Int) (h : Z4k w) (h0 : 0 ≤ i) (h1 : i < w.Z2p.length) : Ok (Z0d (Zge v w i) Z0i 0) (fun _=>True):=by
  have:=h.iniL
  refine li (i) (fun t _ _=>?_) (by omega) (by omega) (by omega)
  unfold Zge
  repeat' first
    | with_reducible refine ni ?_ ?_
    | with_reducible refine di ?_
    | with_reducible refine brD (fun _=>?_) fun _=>?_
    | with_reducible refine brE (fun _=>?_) fun _=>?_
    | with_reducible refine br (fun _=>?_) fun _=>?_
    | with_reducible refine bd (gr (by omega) (by omega)) fun _ _=>?_
    | with_reducible refine bd (wr (by omega) (by omega)) fun _ _=>?_
    | with_reducible refine bs ?_
    | with_reducible refine And.intro ?_ ?_
    | assumption
    | exact True.intro
    | omega
    | (dsimp only; omega)
    | (simp only [List.length_set,List.length_append,List.length_cons,List.length_nil,List.length_replicate]; omega)
    | (obtain ⟨_,_⟩:=‹_ ∧ _›)
def Z7t (w : Z0c) (v : Z2n) : Prop:=0 ≤ v.Z0u ∧ v.Z0u < w.Z22.length ∧ 0 ≤ v.Z1h ∧ v.Z1h < w.Z19.length
def Z7q (w : Z0c) (b : Z4c) : Prop:=0 ≤ b.f_A ∧ b.f_A < w.Z22.length ∧ 0 ≤ b.f_B ∧ b.f_B < w.Z22.length
theorem Zzy (w : Z0c) (i : Int) (h : Z4k w) (h0 : 0 ≤ i) (h1 : i < w.Z2p.length) : Ok (Zj6 w i) (fun b=>b = true → ∀ v,w.Z2p[i.toNat]? = some v → Z7t w v):=by
  have:=h.iniL
  unfold Zj6
  repeat' first
    | with_reducible refine bd (gri (by omega) (by omega)) fun _ _=>?_
    | unfold j21x1
    | with_reducible refine brD (fun _=>?_) fun _=>?_
    | with_reducible refine br! (fun _=>?_) fun _=>?_
    | with_reducible refine br (fun _=>?_) fun _=>?_
    | with_reducible refine bd (gr (by omega) (by omega)) fun _ _=>?_
    | with_reducible refine bd (L21x1 _ _ _ (by first | assumption | omega | exact And.left (by assumption) | (dsimp only; omega)) (by first | assumption | omega | exact And.left (by assumption) | (dsimp only; omega)) (by first | assumption | omega | exact And.left (by assumption) | (dsimp only; omega))) fun _ _=>?_
    | with_reducible refine bs ?_
    | with_reducible refine ok ?_
    | split
    | ((intro hb v hv; first | (cases hb; done) | (have e : ∀ a,w.Z2p[i.toNat]? = some a → a = v:=fun a ha=>by { rw [hv] at ha; cases ha; rfl }; have:=e _ (And.right (by assumption)); subst this; exact ⟨by omega,by omega,by omega,by omega⟩)))
    | with_reducible refine And.intro ?_ ?_
    | assumption
    | exact True.intro
    | omega
    | (dsimp only; omega)
    | (simp only [List.length_set,List.length_append,List.length_cons,List.length_nil,List.length_replicate]; omega)
    | (obtain ⟨_,_⟩:=‹_ ∧ _›)
theorem L35x2 (w : Z0c) (s : List UInt8) (l0 : List Bool) (h : Z4k w) (hl : w.Z22.length ≤ 8) (hc : ∀ b ∈ w.Z3u,Z7q w b) (h0 : l0.length = w.Z22.length) : Ok (Z0d (Zht w s) Z0i (0,l0)) (fun r=>r.length = w.Z22.length):=by
  have:=h.conL
  refine lp (fun t=>t.1) (w.Z3u.length) (fun t=>t.2.length = w.Z22.length) (fun t hI _ _=>?_) (by omega) (by exact h0) (by omega) (by omega)
  try dsimp only at *
  unfold Zht
  repeat' first
    | with_reducible refine bd (ik (by have:=hc _ (by assumption); unfold Z7q at this; omega) (by have:=hc _ (by assumption); unfold Z7q at this; first | omega | (simp only [List.length_set]; omega))) fun _ _=>?_
    | with_reducible refine nx ?_ ?_ ?_
    | with_reducible refine dn ?_
    | unfold Zig
    | with_reducible refine brD (fun _=>?_) fun _=>?_
    | with_reducible refine brE (fun _=>?_) fun _=>?_
    | with_reducible refine br (fun _=>?_) fun _=>?_
    | with_reducible refine bd (gr (by omega) (by omega)) fun _ _=>?_
    | with_reducible refine bd (ik (by omega) (by first | omega | (simp only [List.length_set,List.length_append,List.length_cons,List.length_nil,List.length_replicate]; omega))) fun _ _=>?_
    | with_reducible refine bd (la (by first | omega | (simp only [List.length_set,List.length_append,List.length_cons,List.length_nil,List.length_replicate]; omega))) fun _ _=>?_
    | with_reducible refine bd (wr (by omega) (by omega)) fun _ _=>?_
    | with_reducible refine bs ?_
    | with_reducible refine And.intro ?_ ?_
    | assumption
    | exact True.intro
    | omega
    | (dsimp only; omega)
    | (simp only [List.length_set,List.length_append,List.length_cons,List.length_nil,List.length_replicate]; omega)
    | (obtain ⟨_,_⟩:=‹_ ∧ _›)
theorem L35x1 (w : Z0c) (s : List UInt8) (l0 : List Bool) (h : Z4k w) (hl : w.Z22.length ≤ 8) (hc : ∀ b ∈ w.Z3u,Z7q w b) (h0 : l0.length = w.Z22.length) : Ok (Z0d (Zgt w s) Z0i (0,l0)) (fun r=>r.length = w.Z22.length):=by
  refine lp (fun t=>t.1) (w.Z22.length) (fun t=>t.2.length = w.Z22.length) (fun t hI _ _=>?_) (by omega) (by exact h0) (by omega) (by omega)
  try dsimp only at *
  unfold Zgt
  repeat' first
    | with_reducible refine nx ?_ ?_ ?_
    | with_reducible refine dn ?_
    | with_reducible refine brD (fun _=>?_) fun _=>?_
    | with_reducible refine br (fun _=>?_) fun _=>?_
    | with_reducible refine bd (wr (by omega) (by omega)) fun _ _=>?_
    | with_reducible refine bd (L35x2 _ _ _ (by first | assumption | omega | exact And.left (by assumption) | (dsimp only; omega)) (by first | assumption | omega | exact And.left (by assumption) | (dsimp only; omega)) (by first | assumption | omega | exact And.left (by assumption) | (dsimp only; omega)) (by first | assumption | omega | exact And.left (by assumption) | (dsimp only; omega))) fun _ _=>?_
    | with_reducible refine bs ?_
    | with_reducible refine And.intro ?_ ?_
    | assumption
    | exact True.intro
    | omega
    | (dsimp only; omega)
    | (simp only [List.length_set,List.length_append,List.length_cons,List.length_nil,List.length_replicate]; omega)
    | (obtain ⟨_,_⟩:=‹_ ∧ _›)
theorem Zwp (w : Z0c) (s : List UInt8) (k : Int) (h : Z4k w) (hl : w.Z22.length ≤ 8) (hc : ∀ b ∈ w.Z3u,Z7q w b) (h0 : 0 ≤ k) (h1 : k < w.Z22.length) : Ok (Zhl w s k) (fun r=>r.length = w.Z22.length):=by
  unfold Zhl
  repeat' first
    | with_reducible refine bd (ik (by omega) (by first | omega | (simp only [List.length_set,List.length_append,List.length_cons,List.length_nil,List.length_replicate]; omega))) fun _ _=>?_
    | with_reducible refine bd (la (by first | omega | (simp only [List.length_set,List.length_append,List.length_cons,List.length_nil,List.length_replicate]; omega))) fun _ _=>?_
    | with_reducible refine bd (mk (by omega) (by omega) (by omega) (by omega)) fun _ _=>?_
    | with_reducible refine bd (L35x1 _ _ _ (by first | assumption | (simp only [List.length_set,List.length_replicate]; omega)) (by first | assumption | (simp only [List.length_set,List.length_replicate]; omega)) (by first | assumption | (simp only [List.length_set,List.length_replicate]; omega)) (by first | assumption | (simp only [List.length_set,List.length_replicate]; omega))) fun _ _=>?_
    | with_reducible refine ok ?_
    | with_reducible refine And.intro ?_ ?_
    | assumption
    | exact True.intro
    | omega
    | (dsimp only; omega)
    | (simp only [List.length_set,List.length_append,List.length_cons,List.length_nil,List.length_replicate]; omega)
    | (obtain ⟨_,_⟩:=‹_ ∧ _›)
theorem L22x1 (v : Z2n) (g : List Bool) (w : Z0c) (i : Int) (h : Z4k w) (h0 : 0 ≤ i) (h1 : i < w.Z2p.length) (hg : g.length = w.Z22.length) (hs : ∀ (j : Nat) v,j < i → w.Z2p[j]? = some v → Z7t w v) : Ok (Z0d (Zjm v g w i) Z0i 0) (fun _=>True):=by
  have:=h.iniL
  refine li (i) (fun t _ _=>?_) (by omega) (by omega) (by omega)
  unfold Zjm
  repeat' first
    | with_reducible refine bd (gri (by omega) (by omega)) fun _ _=>?_
    | with_reducible refine bd (gr (by have:=hs t.toNat _ (by omega) (And.right (by assumption)); unfold Z7t at this; omega) (by have:=hs t.toNat _ (by omega) (And.right (by assumption)); unfold Z7t at this; omega)) fun _ _=>?_
    | with_reducible refine ni ?_ ?_
    | with_reducible refine di ?_
    | with_reducible refine brD (fun _=>?_) fun _=>?_
    | with_reducible refine brE (fun _=>?_) fun _=>?_
    | with_reducible refine brN (fun _=>?_) fun _=>?_
    | with_reducible refine br (fun _=>?_) fun _=>?_
    | with_reducible refine bd (gr (by omega) (by omega)) fun _ _=>?_
    | with_reducible refine bd (wr (by omega) (by omega)) fun _ _=>?_
    | with_reducible refine bs ?_
    | with_reducible refine And.intro ?_ ?_
    | assumption
    | exact True.intro
    | omega
    | (dsimp only; omega)
    | (simp only [List.length_set,List.length_append,List.length_cons,List.length_nil,List.length_replicate]; omega)
    | (obtain ⟨_,_⟩:=‹_ ∧ _›)
theorem Zw0 (w : Z0c) (i : Int) (h : Z4k w) (hl : w.Z22.length ≤ 8) (hc : ∀ b ∈ w.Z3u,Z7q w b) (h0 : 0 ≤ i) (h1 : i < w.Z2p.length) (hs : ∀ (j : Nat) v,j ≤ i → w.Z2p[j]? = some v → Z7t w v) : Ok (Zfe w i) (fun _=>True):=by
  have:=h.iniL
  unfold Zfe
  repeat' first
    | with_reducible refine bd (gri (by omega) (by omega)) fun _ _=>?_
    | with_reducible refine bd (Zwp _ _ _ h hl hc (by have:=hs i.toNat _ (by omega) (And.right (by assumption)); unfold Z7t at this; omega) (by have:=hs i.toNat _ (by omega) (And.right (by assumption)); unfold Z7t at this; omega)) fun _ _=>?_
    | with_reducible refine bd (L22x1 _ _ _ _ h h0 h1 (by assumption) (fun j v hj hv=>hs j v (by omega) hv)) fun _ _=>?_
    | with_reducible refine bd (gr (by omega) (by omega)) fun _ _=>?_
    | with_reducible refine ok ?_
    | split
    | with_reducible refine And.intro ?_ ?_
    | assumption
    | exact True.intro
    | omega
    | (dsimp only; omega)
    | (simp only [List.length_set,List.length_append,List.length_cons,List.length_nil,List.length_replicate]; omega)
    | (obtain ⟨_,_⟩:=‹_ ∧ _›)
theorem L53x1 (x : List Z0e) (hl : x.length ≤ 140737488355328) : Ok (Z0d (Zik x) Z0i 0) (fun _=>True):=by
  refine li (x.length) (fun t _ _=>?_) (by omega) (by omega) (by omega)
  unfold Zik
  repeat' first
    | with_reducible refine ni ?_ ?_
    | with_reducible refine di ?_
    | with_reducible refine brD (fun _=>?_) fun _=>?_
    | with_reducible refine brN (fun _=>?_) fun _=>?_
    | with_reducible refine br (fun _=>?_) fun _=>?_
    | with_reducible refine bd (gr (by omega) (by omega)) fun _ _=>?_
    | with_reducible refine bd (wr (by omega) (by omega)) fun _ _=>?_
    | with_reducible refine bs ?_
    | with_reducible refine And.intro ?_ ?_
    | assumption
    | exact True.intro
    | omega
    | (dsimp only; omega)
    | (simp only [List.length_set,List.length_append,List.length_cons,List.length_nil,List.length_replicate]; omega)
    | (obtain ⟨_,_⟩:=‹_ ∧ _›)
theorem Zt2 (x : List Z0e) (hl : x.length ≤ 140737488355328) : Ok (Zcs x) (fun _=>True):=by
  unfold Zcs
  repeat' first
    | with_reducible refine bd (L53x1 _ (by first | assumption | omega | exact And.left (by assumption) | (dsimp only; omega))) fun _ _=>?_
    | with_reducible refine ok ?_
    | split
    | with_reducible refine And.intro ?_ ?_
    | assumption
    | exact True.intro
    | omega
    | (dsimp only; omega)
    | (simp only [List.length_set,List.length_append,List.length_cons,List.length_nil,List.length_replicate]; omega)
    | (obtain ⟨_,_⟩:=‹_ ∧ _›)
theorem L47x1 (u : Z0j) (h : Z53 u) : Ok (Z0d (Zjc u) Z0i 0) (fun _=>True):=by
  have:=h.fldL
  refine li (u.Z0n.length) (fun t _ _=>?_) (by omega) (by omega) (by omega)
  unfold Zjc
  repeat' first
    | with_reducible refine ni ?_ ?_
    | with_reducible refine di ?_
    | unfold Zfr
    | with_reducible refine brD (fun _=>?_) fun _=>?_
    | with_reducible refine br! (fun _=>?_) fun _=>?_
    | with_reducible refine brE (fun _=>?_) fun _=>?_
    | with_reducible refine brN (fun _=>?_) fun _=>?_
    | with_reducible refine br (fun _=>?_) fun _=>?_
    | with_reducible refine bd (gr (by omega) (by omega)) fun _ _=>?_
    | with_reducible refine bd (wr (by omega) (by omega)) fun _ _=>?_
    | with_reducible refine bs ?_
    | with_reducible refine And.intro ?_ ?_
    | assumption
    | exact True.intro
    | omega
    | (dsimp only; omega)
    | (simp only [List.length_set,List.length_append,List.length_cons,List.length_nil,List.length_replicate]; omega)
    | (obtain ⟨_,_⟩:=‹_ ∧ _›)
theorem L47x3 (m : Z0y) (h : Z8z m) : Ok (Z0d (Zhr m) Z0i 0) (fun _=>True):=by
  have:=h.code.hndL
  refine li (m.Z2l.Z1m.length) (fun t _ _=>?_) (by omega) (by omega) (by omega)
  unfold Zhr
  repeat' first
    | with_reducible refine ni ?_ ?_
    | with_reducible refine di ?_
    | with_reducible refine brD (fun _=>?_) fun _=>?_
    | with_reducible refine brN (fun _=>?_) fun _=>?_
    | with_reducible refine br (fun _=>?_) fun _=>?_
    | with_reducible refine bd (gr (by omega) (by omega)) fun _ _=>?_
    | with_reducible refine bd (wr (by omega) (by omega)) fun _ _=>?_
    | with_reducible refine bs ?_
    | with_reducible refine And.intro ?_ ?_
    | assumption
    | exact True.intro
    | omega
    | (dsimp only; omega)
    | (simp only [List.length_set,List.length_append,List.length_cons,List.length_nil,List.length_replicate]; omega)
    | (obtain ⟨_,_⟩:=‹_ ∧ _›)
theorem L47x4 (m : Z0y) (h : Z8z m) : Ok (Z0d (Zjf m) Z0i 0) (fun _=>True):=by
  have:=h.code.mapL
  refine li (m.Z2l.Z17.length) (fun t _ _=>?_) (by omega) (by omega) (by omega)
  unfold Zjf
  repeat' first
    | with_reducible refine bd (Zt2 _ (by have:=(h.code.map _ (by assumption)).locL; omega)) fun _ _=>?_
    | with_reducible refine bd (Zt2 _ (by have:=(h.code.map _ (by assumption)).stkL; omega)) fun _ _=>?_
    | with_reducible refine ni ?_ ?_
    | with_reducible refine di ?_
    | with_reducible refine brD (fun _=>?_) fun _=>?_
    | with_reducible refine br! (fun _=>?_) fun _=>?_
    | with_reducible refine br (fun _=>?_) fun _=>?_
    | with_reducible refine bd (gr (by omega) (by omega)) fun _ _=>?_
    | with_reducible refine bd (wr (by omega) (by omega)) fun _ _=>?_
    | with_reducible refine bs ?_
    | with_reducible refine And.intro ?_ ?_
    | assumption
    | exact True.intro
    | omega
    | (dsimp only; omega)
    | (simp only [List.length_set,List.length_append,List.length_cons,List.length_nil,List.length_replicate]; omega)
    | (obtain ⟨_,_⟩:=‹_ ∧ _›)
theorem L47x2 (u : Z0j) (h : Z53 u) : Ok (Z0d (Zid u) Z0i 0) (fun _=>True):=by
  have:=h.metL
  refine li (u.Z0m.length) (fun t _ _=>?_) (by omega) (by omega) (by omega)
  unfold Zid
  repeat' first
    | with_reducible refine ni ?_ ?_
    | with_reducible refine di ?_
    | unfold Zhp
    | with_reducible refine brD (fun _=>?_) fun _=>?_
    | with_reducible refine br! (fun _=>?_) fun _=>?_
    | with_reducible refine brN (fun _=>?_) fun _=>?_
    | with_reducible refine br (fun _=>?_) fun _=>?_
    | with_reducible refine bd (gr (by omega) (by omega)) fun _ _=>?_
    | with_reducible refine bd (wr (by omega) (by omega)) fun _ _=>?_
    | with_reducible refine bd (L47x3 _ (by exact h.met _ (by assumption))) fun _ _=>?_
    | with_reducible refine bd (L47x4 _ (by exact h.met _ (by assumption))) fun _ _=>?_
    | with_reducible refine bs ?_
    | split
    | with_reducible refine And.intro ?_ ?_
    | assumption
    | exact True.intro
    | omega
    | (dsimp only; omega)
    | (simp only [List.length_set,List.length_append,List.length_cons,List.length_nil,List.length_replicate]; omega)
    | (obtain ⟨_,_⟩:=‹_ ∧ _›)
theorem Zwr (u : Z0j) (h : Z53 u) : Ok (Zfg u) (fun _=>True):=by
  unfold Zfg
  repeat' first
    | with_reducible refine bd (L47x1 _ (by first | assumption | omega | exact And.left (by assumption) | (dsimp only; omega))) fun _ _=>?_
    | with_reducible refine bd (L47x2 _ (by first | assumption | omega | exact And.left (by assumption) | (dsimp only; omega))) fun _ _=>?_
    | with_reducible refine ok ?_
    | split
    | with_reducible refine And.intro ?_ ?_
    | assumption
    | exact True.intro
    | omega
    | (dsimp only; omega)
    | (simp only [List.length_set,List.length_append,List.length_cons,List.length_nil,List.length_replicate]; omega)
    | (obtain ⟨_,_⟩:=‹_ ∧ _›)
end Go.Proofs
