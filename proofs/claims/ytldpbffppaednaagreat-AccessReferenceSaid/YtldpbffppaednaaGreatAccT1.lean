/-
  That the models come to an answer, part one: names and loaders. No condition.
-/
import Derived.Test.YtldpbffppaednaaGreatAcc8
import Derived.Test.YtldpbffppaednaaGreatDenTot
set_option linter.unusedVariables false
namespace Go.Proofs
open Go.Den Go.Tot
abbrev Str (s : List UInt8) : Prop:=s.length ≤ 4503599627370496
structure WRef (r : Z28) : Prop where
  c : Str r.Z1g
  n : Str r.Z02
  d : Str r.Z1m
structure Z2s (i : Z01) : Prop where
  keys : i.Z0y.length * 8 ≤ 140737488355328
  tos : i.Z0c.length * 8 ≤ 140737488355328
  ref : WRef i.Z16
  s : Str i.f_S
structure Z9g (f : Z54) : Prop where
  loc : ∀ v ∈ f.Z0v,Str v.Z1p.Z02
  locL : f.Z0v.length * 56 ≤ 140737488355328
  stk : ∀ v ∈ f.Z10,Str v.Z1p.Z02
  stkL : f.Z10.length * 56 ≤ 140737488355328
structure Z4p (c : Z08) : Prop where
  ins : ∀ i ∈ c.Z0q,Z2s i
  insL : c.Z0q.length * 144 ≤ 140737488355328
  hnd : ∀ h ∈ c.Z1n,Str h.Z1p
  hndL : c.Z1n.length * 48 ≤ 140737488355328
  map : ∀ m ∈ c.Z18,Z9g m.Z1q
  mapL : c.Z18.length * 64 ≤ 140737488355328
  linL : c.Z1i.length * 16 ≤ 140737488355328
structure Z99 (m : Z0z) : Prop where
  n : Str m.Z02
  d : Str m.Z1m
  code : Z4p m.Z2n
  exc : ∀ s ∈ m.Z66,Str s
  excL : m.Z66.length * 16 ≤ 140737488355328
structure Zkf (f : Z13) : Prop where
  n : Str f.Z02
  d : Str f.Z1m
  s : Str f.f_S
structure Z4z (u : Z0j) : Prop where
  n : Str u.Z02
  sup : Str u.Z07
  ifs : ∀ s ∈ u.Z05,Str s
  ifsL : u.Z05.length * 16 ≤ 140737488355328
  fld : ∀ f ∈ u.Z0n,Zkf f
  fldL : u.Z0n.length * 72 ≤ 140737488355328
  met : ∀ m ∈ u.Z0m,Z99 m
  metL : u.Z0m.length * 184 ≤ 140737488355328
  src : Str u.Z19
structure Z6s (l : Z1o) : Prop where
  del : ∀ d ∈ l.Z3i,Str d.Zha
  delL : l.Z3i.length ≤ 140737488355328
  sto : ∀ c ∈ l.Z2y,Str c.Z02
  stoL : l.Z2y.length ≤ 140737488355328
structure Z4t (w : Z09) : Prop where
  lod : ∀ l ∈ w.Z24,Z6s l
  lodL : w.Z24.length ≤ 140737488355328
  cls : ∀ c ∈ w.Z1b,Z4z c.Z0s ∧ c.Z05.length ≤ 140737488355328
  clsL : w.Z1b.length ≤ 140737488355328
  ini : ∀ x ∈ w.Z2q,Str x.Z02
  iniL : w.Z2q.length ≤ 140737488355328
  con : ∀ x ∈ w.Z3t,Str x.Z02
  conL : w.Z3t.length ≤ 140737488355328
theorem Zx2 (x : Int) : Ok (Ziv x) (fun _=>True):=by
  unfold Ziv
  repeat' first
    | with_reducible refine brD (fun _=>?_) fun _=>?_
    | with_reducible refine brE (fun _=>?_) fun _=>?_
    | with_reducible refine br (fun _=>?_) fun _=>?_
    | with_reducible refine bs ?_
    | with_reducible refine ok ?_
    | with_reducible refine And.intro ?_ ?_
    | assumption
    | exact True.intro
    | omega
    | (dsimp only; omega)
    | (simp only [List.length_set,List.length_append,List.length_cons,List.length_nil,List.length_replicate]; omega)
    | (obtain ⟨_,_⟩:=‹_ ∧ _›)
theorem L34x1 (x : List UInt8) (h : Str x) : Ok (Z0e (Zfl x) Z0i 0) (fun q=>match q with | .inl _=>True | .inr y=>y = false):=by
  refine li (x.length) (fun t _ _=>?_) (by omega) (by omega) (by omega)
  unfold Zfl
  repeat' first
    | with_reducible refine ni ?_ ?_
    | with_reducible refine di ?_
    | with_reducible refine brD (fun _=>?_) fun _=>?_
    | with_reducible refine br! (fun _=>?_) fun _=>?_
    | with_reducible refine brE (fun _=>?_) fun _=>?_
    | with_reducible refine br (fun _=>?_) fun _=>?_
    | with_reducible refine bd (gs (by omega) (by omega)) fun _ _=>?_
    | with_reducible refine bd (wr (by omega) (by omega)) fun _ _=>?_
    | with_reducible refine bd (Zx2 _) fun _ _=>?_
    | with_reducible refine bs ?_
    | (rfl)
    | with_reducible refine And.intro ?_ ?_
    | assumption
    | exact True.intro
    | omega
    | (dsimp only; omega)
    | (simp only [List.length_set,List.length_append,List.length_cons,List.length_nil,List.length_replicate]; omega)
    | (obtain ⟨_,_⟩:=‹_ ∧ _›)
theorem Zlv (x : List UInt8) (h : Str x) : Ok (Zas x) (fun b=>b = true → x ≠ []):=by
  unfold Zas
  repeat' first
    | with_reducible refine bd (L34x1 _ (by first | assumption | omega | exact And.left (by assumption) | (dsimp only; omega))) fun _ _=>?_
    | with_reducible refine bs ?_
    | with_reducible refine ok ?_
    | split
    | (first | (intro h; rintro rfl; simp at h; done) | (simp_all; done))
    | with_reducible refine And.intro ?_ ?_
    | assumption
    | exact True.intro
    | omega
    | (dsimp only; omega)
    | (simp only [List.length_set,List.length_append,List.length_cons,List.length_nil,List.length_replicate]; omega)
    | (obtain ⟨_,_⟩:=‹_ ∧ _›)
theorem L20x1 (x : List UInt8) (h : Str x) : Ok (Z0e (Zjh x) Z0i (0,0)) (fun q=>match q with | .inl y=>0 ≤ y ∧ y ≤ x.length | .inr y=>True):=by
  refine lp (fun t=>t.2) (x.length) (fun t=>0 ≤ t.1 ∧ t.1 ≤ t.2) (fun t hI _ _=>?_) (by omega) (by omega) (by omega) (by omega)
  try dsimp only at *
  unfold Zjh
  repeat' first
    | with_reducible refine nx ?_ ?_ ?_
    | with_reducible refine dn ?_
    | with_reducible refine brD (fun _=>?_) fun _=>?_
    | with_reducible refine br! (fun _=>?_) fun _=>?_
    | with_reducible refine brE (fun _=>?_) fun _=>?_
    | with_reducible refine br (fun _=>?_) fun _=>?_
    | with_reducible refine bd (gs (by omega) (by omega)) fun _ _=>?_
    | with_reducible refine bd (wr (by omega) (by omega)) fun _ _=>?_
    | with_reducible refine bd (sb (by omega) (by omega) (by omega)) fun _ _=>?_
    | with_reducible refine bd (Zlv _ (by unfold Str; omega)) fun _ _=>?_
    | with_reducible refine bs ?_
    | with_reducible refine And.intro ?_ ?_
    | assumption
    | exact True.intro
    | omega
    | (dsimp only; omega)
    | (simp only [List.length_set,List.length_append,List.length_cons,List.length_nil,List.length_replicate]; omega)
    | (obtain ⟨_,_⟩:=‹_ ∧ _›)
theorem Zfr (x : List UInt8) (h : Str x) : Ok (Z8x x) (fun b=>b = true → x.length ≤ 64):=by
  unfold Z8x
  repeat' first
    | with_reducible refine bdE (L20x1 _ (by assumption)) fun q _ hq=>?_
    | with_reducible refine brD (fun _=>?_) fun _=>?_
    | with_reducible refine br (fun _=>?_) fun _=>?_
    | with_reducible refine bd (sb (by omega) (by omega) (by omega)) fun _ _=>?_
    | with_reducible refine bd (L20x1 _ (by first | assumption | omega | exact And.left (by assumption) | (dsimp only; omega))) fun _ _=>?_
    | with_reducible refine bd (Zlv _ (by unfold Str; omega)) fun _ _=>?_
    | with_reducible refine bs ?_
    | with_reducible refine ok ?_
    | split
    | ((intro hb; first | (cases hb; done) | omega))
    | with_reducible refine And.intro ?_ ?_
    | assumption
    | exact True.intro
    | omega
    | (dsimp only; omega)
    | (simp only [List.length_set,List.length_append,List.length_cons,List.length_nil,List.length_replicate]; omega)
    | (obtain ⟨_,_⟩:=‹_ ∧ _›)
theorem Zqa (x y : List UInt8) : Ok (Z81 x y) (fun _=>True):=by
  unfold Z81
  repeat' first
    | with_reducible refine brD (fun _=>?_) fun _=>?_
    | with_reducible refine br (fun _=>?_) fun _=>?_
    | with_reducible refine bd (sb (by omega) (by omega) (by omega)) fun _ _=>?_
    | with_reducible refine ok ?_
    | with_reducible refine And.intro ?_ ?_
    | assumption
    | exact True.intro
    | omega
    | (dsimp only; omega)
    | (simp only [List.length_set,List.length_append,List.length_cons,List.length_nil,List.length_replicate]; omega)
    | (obtain ⟨_,_⟩:=‹_ ∧ _›)
theorem L32x1 (x : Z1o) (i : Int) (h : Z6s x) : Ok (Z0e (Zgg x i) Z0i 0) (fun _=>True):=by
  have:=h.stoL
  refine li (x.Z2y.length) (fun t _ _=>?_) (by omega) (by omega) (by omega)
  unfold Zgg
  repeat' first
    | with_reducible refine ni ?_ ?_
    | with_reducible refine di ?_
    | with_reducible refine brD (fun _=>?_) fun _=>?_
    | with_reducible refine br! (fun _=>?_) fun _=>?_
    | with_reducible refine br (fun _=>?_) fun _=>?_
    | with_reducible refine bd (gr (by omega) (by omega)) fun _ _=>?_
    | with_reducible refine bd (wr (by omega) (by omega)) fun _ _=>?_
    | with_reducible refine bd (Zfr _ (by exact h.sto _ (by assumption))) fun _ _=>?_
    | with_reducible refine bd (Zqa _ _) fun _ _=>?_
    | with_reducible refine bs ?_
    | with_reducible refine And.intro ?_ ?_
    | assumption
    | exact True.intro
    | omega
    | (dsimp only; omega)
    | (simp only [List.length_set,List.length_append,List.length_cons,List.length_nil,List.length_replicate]; omega)
    | (obtain ⟨_,_⟩:=‹_ ∧ _›)
theorem Y0r (x : Z1o) (i : Int) (h : Z6s x) : Ok (Zja x i) (fun _=>True):=by
  unfold Zja
  repeat' first
    | with_reducible refine bd (L32x1 _ _ (by first | assumption | omega | exact And.left (by assumption) | (dsimp only; omega))) fun _ _=>?_
    | with_reducible refine ok ?_
    | split
    | with_reducible refine And.intro ?_ ?_
    | assumption
    | exact True.intro
    | omega
    | (dsimp only; omega)
    | (simp only [List.length_set,List.length_append,List.length_cons,List.length_nil,List.length_replicate]; omega)
    | (obtain ⟨_,_⟩:=‹_ ∧ _›)
theorem L33x2 (k : Int) (x : Z1o) (hl : x.Z2y.length ≤ 140737488355328) (h0 : 0 ≤ k) (h1 : k < x.Z2y.length) : Ok (Z0e (Zfu k x) Z0i 0) (fun _=>True):=by
  refine li (k) (fun t _ _=>?_) (by omega) (by omega) (by omega)
  unfold Zfu
  repeat' first
    | with_reducible refine ni ?_ ?_
    | with_reducible refine di ?_
    | with_reducible refine brD (fun _=>?_) fun _=>?_
    | with_reducible refine brE (fun _=>?_) fun _=>?_
    | with_reducible refine br (fun _=>?_) fun _=>?_
    | with_reducible refine bd (gr (by omega) (by omega)) fun _ _=>?_
    | with_reducible refine bd (wr (by omega) (by omega)) fun _ _=>?_
    | with_reducible refine bs ?_
    | with_reducible refine And.intro ?_ ?_
    | assumption
    | exact True.intro
    | omega
    | (dsimp only; omega)
    | (simp only [List.length_set,List.length_append,List.length_cons,List.length_nil,List.length_replicate]; omega)
    | (obtain ⟨_,_⟩:=‹_ ∧ _›)
theorem L33x1 (x : Z1o) (hl : x.Z2y.length ≤ 140737488355328) : Ok (Z0e (Zhk x) Z0i 0) (fun _=>True):=by
  refine li (x.Z2y.length) (fun t _ _=>?_) (by omega) (by omega) (by omega)
  unfold Zhk
  repeat' first
    | with_reducible refine ni ?_ ?_
    | with_reducible refine di ?_
    | with_reducible refine brD (fun _=>?_) fun _=>?_
    | with_reducible refine br (fun _=>?_) fun _=>?_
    | with_reducible refine bd (wr (by omega) (by omega)) fun _ _=>?_
    | with_reducible refine bd (L33x2 _ _ (by first | assumption | omega | exact And.left (by assumption) | (dsimp only; omega)) (by first | assumption | omega | exact And.left (by assumption) | (dsimp only; omega)) (by first | assumption | omega | exact And.left (by assumption) | (dsimp only; omega))) fun _ _=>?_
    | with_reducible refine bs ?_
    | split
    | with_reducible refine And.intro ?_ ?_
    | assumption
    | exact True.intro
    | omega
    | (dsimp only; omega)
    | (simp only [List.length_set,List.length_append,List.length_cons,List.length_nil,List.length_replicate]; omega)
    | (obtain ⟨_,_⟩:=‹_ ∧ _›)
theorem Zx0 (x : Z1o) (hl : x.Z2y.length ≤ 140737488355328) : Ok (Zjd x) (fun _=>True):=by
  unfold Zjd
  repeat' first
    | with_reducible refine bd (L33x1 _ (by first | assumption | omega | exact And.left (by assumption) | (dsimp only; omega))) fun _ _=>?_
    | with_reducible refine ok ?_
    | split
    | with_reducible refine And.intro ?_ ?_
    | assumption
    | exact True.intro
    | omega
    | (dsimp only; omega)
    | (simp only [List.length_set,List.length_append,List.length_cons,List.length_nil,List.length_replicate]; omega)
    | (obtain ⟨_,_⟩:=‹_ ∧ _›)
theorem L19x1 (x : List Z1o) (h : ∀ l ∈ x,Z6s l) (hl : x.length ≤ 140737488355328) : Ok (Z0e (Zfe x) Z0i 0) (fun _=>True):=by
  refine li (x.length) (fun t _ _=>?_) (by omega) (by omega) (by omega)
  unfold Zfe
  repeat' first
    | with_reducible refine ni ?_ ?_
    | with_reducible refine di ?_
    | with_reducible refine brD (fun _=>?_) fun _=>?_
    | with_reducible refine br (fun _=>?_) fun _=>?_
    | with_reducible refine bd (gr (by omega) (by omega)) fun _ _=>?_
    | with_reducible refine bd (wr (by omega) (by omega)) fun _ _=>?_
    | with_reducible refine bs ?_
    | with_reducible refine And.intro ?_ ?_
    | assumption
    | exact True.intro
    | omega
    | (dsimp only; omega)
    | (simp only [List.length_set,List.length_append,List.length_cons,List.length_nil,List.length_replicate]; omega)
    | (obtain ⟨_,_⟩:=‹_ ∧ _›)
theorem L19x3 (k : Int) (x : List Z1o) (h : ∀ l ∈ x,Z6s l) (hl : x.length ≤ 140737488355328) (h0 : 0 ≤ k) (h1 : k < x.length) : Ok (Z0e (Zgc k x) Z0i 0) (fun _=>True):=by
  obtain ⟨y,hy,hm⟩:=gr h0 h1
  have:=(h y hm).delL
  refine li (y.Z3i.length) (fun t _ _=>?_) (by omega) (by omega) (by omega)
  unfold Zgc
  simp only [hy]
  repeat' first
    | with_reducible refine ni ?_ ?_
    | with_reducible refine di ?_
    | with_reducible refine brD (fun _=>?_) fun _=>?_
    | with_reducible refine br (fun _=>?_) fun _=>?_
    | with_reducible refine bd (gr (by omega) (by omega)) fun _ _=>?_
    | with_reducible refine bd (wr (by omega) (by omega)) fun _ _=>?_
    | with_reducible refine bs ?_
    | with_reducible refine And.intro ?_ ?_
    | assumption
    | exact True.intro
    | omega
    | (dsimp only; omega)
    | (simp only [List.length_set,List.length_append,List.length_cons,List.length_nil,List.length_replicate]; omega)
    | (obtain ⟨_,_⟩:=‹_ ∧ _›)
theorem L19x2 (x : List Z1o) (h : ∀ l ∈ x,Z6s l) (hl : x.length ≤ 140737488355328) : Ok (Z0e (Zh3 x) Z0i 0) (fun _=>True):=by
  refine li (x.length) (fun t _ _=>?_) (by omega) (by omega) (by omega)
  unfold Zh3
  repeat' first
    | with_reducible refine ni ?_ ?_
    | with_reducible refine di ?_
    | with_reducible refine brD (fun _=>?_) fun _=>?_
    | with_reducible refine br (fun _=>?_) fun _=>?_
    | with_reducible refine bd (wr (by omega) (by omega)) fun _ _=>?_
    | with_reducible refine bd (L19x3 _ _ (by first | assumption | omega | exact And.left (by assumption) | (dsimp only; omega)) (by first | assumption | omega | exact And.left (by assumption) | (dsimp only; omega)) (by first | assumption | omega | exact And.left (by assumption) | (dsimp only; omega)) (by first | assumption | omega | exact And.left (by assumption) | (dsimp only; omega))) fun _ _=>?_
    | with_reducible refine bs ?_
    | split
    | with_reducible refine And.intro ?_ ?_
    | assumption
    | exact True.intro
    | omega
    | (dsimp only; omega)
    | (simp only [List.length_set,List.length_append,List.length_cons,List.length_nil,List.length_replicate]; omega)
    | (obtain ⟨_,_⟩:=‹_ ∧ _›)
theorem L19x4 (x : List Z1o) (h : ∀ l ∈ x,Z6s l) (hl : x.length ≤ 140737488355328) : Ok (Z0e (Zf4 x) Z0i 0) (fun _=>True):=by
  refine li (x.length) (fun t _ _=>?_) (by omega) (by omega) (by omega)
  unfold Zf4
  repeat' first
    | with_reducible refine ni ?_ ?_
    | with_reducible refine di ?_
    | with_reducible refine brD (fun _=>?_) fun _=>?_
    | with_reducible refine brN (fun _=>?_) fun _=>?_
    | with_reducible refine br (fun _=>?_) fun _=>?_
    | with_reducible refine bd (gr (by omega) (by omega)) fun _ _=>?_
    | with_reducible refine bd (wr (by omega) (by omega)) fun _ _=>?_
    | with_reducible refine bd (Y0r _ _ (by exact h _ (by assumption))) fun _ _=>?_
    | with_reducible refine bs ?_
    | with_reducible refine And.intro ?_ ?_
    | assumption
    | exact True.intro
    | omega
    | (dsimp only; omega)
    | (simp only [List.length_set,List.length_append,List.length_cons,List.length_nil,List.length_replicate]; omega)
    | (obtain ⟨_,_⟩:=‹_ ∧ _›)
theorem L19x5 (x : List Z1o) (h : ∀ l ∈ x,Z6s l) (hl : x.length ≤ 140737488355328) : Ok (Z0e (Zhd x) Z0i 0) (fun _=>True):=by
  refine li (x.length) (fun t _ _=>?_) (by omega) (by omega) (by omega)
  unfold Zhd
  repeat' first
    | with_reducible refine ni ?_ ?_
    | with_reducible refine di ?_
    | with_reducible refine brD (fun _=>?_) fun _=>?_
    | with_reducible refine br (fun _=>?_) fun _=>?_
    | with_reducible refine bd (gr (by omega) (by omega)) fun _ _=>?_
    | with_reducible refine bd (wr (by omega) (by omega)) fun _ _=>?_
    | with_reducible refine bd (Zx0 _ (by exact (h _ (by assumption)).stoL)) fun _ _=>?_
    | with_reducible refine bs ?_
    | with_reducible refine And.intro ?_ ?_
    | assumption
    | exact True.intro
    | omega
    | (dsimp only; omega)
    | (simp only [List.length_set,List.length_append,List.length_cons,List.length_nil,List.length_replicate]; omega)
    | (obtain ⟨_,_⟩:=‹_ ∧ _›)
theorem Zw7 (x : List Z1o) (h : ∀ l ∈ x,Z6s l) (hl : x.length ≤ 140737488355328) : Ok (Zh6 x) (fun e=>e = 0 → x.length ≤ 8):=by
  unfold Zh6
  repeat' first
    | unfold j19x1
    | with_reducible refine brD (fun _=>?_) fun _=>?_
    | with_reducible refine brE (fun _=>?_) fun _=>?_
    | with_reducible refine br (fun _=>?_) fun _=>?_
    | with_reducible refine bd (L19x1 _ (by first | assumption | omega | exact And.left (by assumption) | (dsimp only; omega)) (by first | assumption | omega | exact And.left (by assumption) | (dsimp only; omega))) fun _ _=>?_
    | with_reducible refine bd (L19x2 _ (by first | assumption | omega | exact And.left (by assumption) | (dsimp only; omega)) (by first | assumption | omega | exact And.left (by assumption) | (dsimp only; omega))) fun _ _=>?_
    | with_reducible refine bd (L19x4 _ (by first | assumption | omega | exact And.left (by assumption) | (dsimp only; omega)) (by first | assumption | omega | exact And.left (by assumption) | (dsimp only; omega))) fun _ _=>?_
    | with_reducible refine bd (L19x5 _ (by first | assumption | omega | exact And.left (by assumption) | (dsimp only; omega)) (by first | assumption | omega | exact And.left (by assumption) | (dsimp only; omega))) fun _ _=>?_
    | with_reducible refine bs ?_
    | with_reducible refine ok ?_
    | split
    | with_reducible refine And.intro ?_ ?_
    | assumption
    | exact True.intro
    | omega
    | (dsimp only; omega)
    | (simp only [List.length_set,List.length_append,List.length_cons,List.length_nil,List.length_replicate]; omega)
    | (obtain ⟨_,_⟩:=‹_ ∧ _›)
theorem L21x1 (v : Z2o) (w : Z09) (i : Int) (h : Z4t w) (h0 : 0 ≤ i) (h1 : i < w.Z2q.length) : Ok (Z0e (Zi5 v w i) Z0i 0) (fun _=>True):=by
  have:=h.iniL
  refine li (i) (fun t _ _=>?_) (by omega) (by omega) (by omega)
  unfold Zi5
  repeat' first
    | with_reducible refine ni ?_ ?_
    | with_reducible refine di ?_
    | with_reducible refine brD (fun _=>?_) fun _=>?_
    | with_reducible refine brE (fun _=>?_) fun _=>?_
    | with_reducible refine br (fun _=>?_) fun _=>?_
    | with_reducible refine bd (gr (by omega) (by omega)) fun _ _=>?_
    | with_reducible refine bd (wr (by omega) (by omega)) fun _ _=>?_
    | with_reducible refine bs ?_
    | with_reducible refine And.intro ?_ ?_
    | assumption
    | exact True.intro
    | omega
    | (dsimp only; omega)
    | (simp only [List.length_set,List.length_append,List.length_cons,List.length_nil,List.length_replicate]; omega)
    | (obtain ⟨_,_⟩:=‹_ ∧ _›)
def Z7c (w : Z09) (v : Z2o) : Prop:=0 ≤ v.Z0u ∧ v.Z0u < w.Z24.length ∧ 0 ≤ v.Z1g ∧ v.Z1g < w.Z1b.length
def Z7i (w : Z09) (b : Z4a) : Prop:=0 ≤ b.f_A ∧ b.f_A < w.Z24.length ∧ 0 ≤ b.f_B ∧ b.f_B < w.Z24.length
theorem Zyl (w : Z09) (i : Int) (h : Z4t w) (h0 : 0 ≤ i) (h1 : i < w.Z2q.length) : Ok (Zj4 w i) (fun b=>b = true → ∀ v,w.Z2q[i.toNat]? = some v → Z7c w v):=by
  have:=h.iniL
  unfold Zj4
  repeat' first
    | with_reducible refine bd (gri (by omega) (by omega)) fun _ _=>?_
    | unfold j21x1
    | with_reducible refine brD (fun _=>?_) fun _=>?_
    | with_reducible refine br! (fun _=>?_) fun _=>?_
    | with_reducible refine br (fun _=>?_) fun _=>?_
    | with_reducible refine bd (gr (by omega) (by omega)) fun _ _=>?_
    | with_reducible refine bd (L21x1 _ _ _ (by first | assumption | omega | exact And.left (by assumption) | (dsimp only; omega)) (by first | assumption | omega | exact And.left (by assumption) | (dsimp only; omega)) (by first | assumption | omega | exact And.left (by assumption) | (dsimp only; omega))) fun _ _=>?_
    | with_reducible refine bs ?_
    | with_reducible refine ok ?_
    | split
    | ((intro hb v hv; first | (cases hb; done) | (have e : ∀ a,w.Z2q[i.toNat]? = some a → a = v:=fun a ha=>by { rw [hv] at ha; cases ha; rfl }; have:=e _ (And.right (by assumption)); subst this; exact ⟨by omega,by omega,by omega,by omega⟩)))
    | with_reducible refine And.intro ?_ ?_
    | assumption
    | exact True.intro
    | omega
    | (dsimp only; omega)
    | (simp only [List.length_set,List.length_append,List.length_cons,List.length_nil,List.length_replicate]; omega)
    | (obtain ⟨_,_⟩:=‹_ ∧ _›)
theorem L35x2 (w : Z09) (s : List UInt8) (l0 : List Bool) (h : Z4t w) (hl : w.Z24.length ≤ 8) (hc : ∀ b ∈ w.Z3t,Z7i w b) (h0 : l0.length = w.Z24.length) : Ok (Z0e (Zfp w s) Z0i (0,l0)) (fun r=>r.length = w.Z24.length):=by
  have:=h.conL
  refine lp (fun t=>t.1) (w.Z3t.length) (fun t=>t.2.length = w.Z24.length) (fun t hI _ _=>?_) (by omega) (by exact h0) (by omega) (by omega)
  try dsimp only at *
  unfold Zfp
  repeat' first
    | with_reducible refine bd (ik (by have:=hc _ (by assumption); unfold Z7i at this; omega) (by have:=hc _ (by assumption); unfold Z7i at this; first | omega | (simp only [List.length_set]; omega))) fun _ _=>?_
    | with_reducible refine nx ?_ ?_ ?_
    | with_reducible refine dn ?_
    | unfold Zhe
    | with_reducible refine brD (fun _=>?_) fun _=>?_
    | with_reducible refine brE (fun _=>?_) fun _=>?_
    | with_reducible refine br (fun _=>?_) fun _=>?_
    | with_reducible refine bd (gr (by omega) (by omega)) fun _ _=>?_
    | with_reducible refine bd (ik (by omega) (by first | omega | (simp only [List.length_set,List.length_append,List.length_cons,List.length_nil,List.length_replicate]; omega))) fun _ _=>?_
    | with_reducible refine bd (la (by first | omega | (simp only [List.length_set,List.length_append,List.length_cons,List.length_nil,List.length_replicate]; omega))) fun _ _=>?_
    | with_reducible refine bd (wr (by omega) (by omega)) fun _ _=>?_
    | with_reducible refine bs ?_
    | with_reducible refine And.intro ?_ ?_
    | assumption
    | exact True.intro
    | omega
    | (dsimp only; omega)
    | (simp only [List.length_set,List.length_append,List.length_cons,List.length_nil,List.length_replicate]; omega)
    | (obtain ⟨_,_⟩:=‹_ ∧ _›)
theorem L35x1 (w : Z09) (s : List UInt8) (l0 : List Bool) (h : Z4t w) (hl : w.Z24.length ≤ 8) (hc : ∀ b ∈ w.Z3t,Z7i w b) (h0 : l0.length = w.Z24.length) : Ok (Z0e (Zge w s) Z0i (0,l0)) (fun r=>r.length = w.Z24.length):=by
  refine lp (fun t=>t.1) (w.Z24.length) (fun t=>t.2.length = w.Z24.length) (fun t hI _ _=>?_) (by omega) (by exact h0) (by omega) (by omega)
  try dsimp only at *
  unfold Zge
  repeat' first
    | with_reducible refine nx ?_ ?_ ?_
    | with_reducible refine dn ?_
    | with_reducible refine brD (fun _=>?_) fun _=>?_
    | with_reducible refine br (fun _=>?_) fun _=>?_
    | with_reducible refine bd (wr (by omega) (by omega)) fun _ _=>?_
    | with_reducible refine bd (L35x2 _ _ _ (by first | assumption | omega | exact And.left (by assumption) | (dsimp only; omega)) (by first | assumption | omega | exact And.left (by assumption) | (dsimp only; omega)) (by first | assumption | omega | exact And.left (by assumption) | (dsimp only; omega)) (by first | assumption | omega | exact And.left (by assumption) | (dsimp only; omega))) fun _ _=>?_
    | with_reducible refine bs ?_
    | with_reducible refine And.intro ?_ ?_
    | assumption
    | exact True.intro
    | omega
    | (dsimp only; omega)
    | (simp only [List.length_set,List.length_append,List.length_cons,List.length_nil,List.length_replicate]; omega)
    | (obtain ⟨_,_⟩:=‹_ ∧ _›)
theorem Zyt (w : Z09) (s : List UInt8) (k : Int) (h : Z4t w) (hl : w.Z24.length ≤ 8) (hc : ∀ b ∈ w.Z3t,Z7i w b) (h0 : 0 ≤ k) (h1 : k < w.Z24.length) : Ok (Ziu w s k) (fun r=>r.length = w.Z24.length):=by
  unfold Ziu
  repeat' first
    | with_reducible refine bd (ik (by omega) (by first | omega | (simp only [List.length_set,List.length_append,List.length_cons,List.length_nil,List.length_replicate]; omega))) fun _ _=>?_
    | with_reducible refine bd (la (by first | omega | (simp only [List.length_set,List.length_append,List.length_cons,List.length_nil,List.length_replicate]; omega))) fun _ _=>?_
    | with_reducible refine bd (mk (by omega) (by omega) (by omega) (by omega)) fun _ _=>?_
    | with_reducible refine bd (L35x1 _ _ _ (by first | assumption | (simp only [List.length_set,List.length_replicate]; omega)) (by first | assumption | (simp only [List.length_set,List.length_replicate]; omega)) (by first | assumption | (simp only [List.length_set,List.length_replicate]; omega)) (by first | assumption | (simp only [List.length_set,List.length_replicate]; omega))) fun _ _=>?_
    | with_reducible refine ok ?_
    | with_reducible refine And.intro ?_ ?_
    | assumption
    | exact True.intro
    | omega
    | (dsimp only; omega)
    | (simp only [List.length_set,List.length_append,List.length_cons,List.length_nil,List.length_replicate]; omega)
    | (obtain ⟨_,_⟩:=‹_ ∧ _›)
theorem L22x1 (v : Z2o) (g : List Bool) (w : Z09) (i : Int) (h : Z4t w) (h0 : 0 ≤ i) (h1 : i < w.Z2q.length) (hg : g.length = w.Z24.length) (hs : ∀ (j : Nat) v,j < i → w.Z2q[j]? = some v → Z7c w v) : Ok (Z0e (Zjv v g w i) Z0i 0) (fun _=>True):=by
  have:=h.iniL
  refine li (i) (fun t _ _=>?_) (by omega) (by omega) (by omega)
  unfold Zjv
  repeat' first
    | with_reducible refine bd (gri (by omega) (by omega)) fun _ _=>?_
    | with_reducible refine bd (gr (by have:=hs t.toNat _ (by omega) (And.right (by assumption)); unfold Z7c at this; omega) (by have:=hs t.toNat _ (by omega) (And.right (by assumption)); unfold Z7c at this; omega)) fun _ _=>?_
    | with_reducible refine ni ?_ ?_
    | with_reducible refine di ?_
    | with_reducible refine brD (fun _=>?_) fun _=>?_
    | with_reducible refine brE (fun _=>?_) fun _=>?_
    | with_reducible refine brN (fun _=>?_) fun _=>?_
    | with_reducible refine br (fun _=>?_) fun _=>?_
    | with_reducible refine bd (gr (by omega) (by omega)) fun _ _=>?_
    | with_reducible refine bd (wr (by omega) (by omega)) fun _ _=>?_
    | with_reducible refine bs ?_
    | with_reducible refine And.intro ?_ ?_
    | assumption
    | exact True.intro
    | omega
    | (dsimp only; omega)
    | (simp only [List.length_set,List.length_append,List.length_cons,List.length_nil,List.length_replicate]; omega)
    | (obtain ⟨_,_⟩:=‹_ ∧ _›)
theorem Zym (w : Z09) (i : Int) (h : Z4t w) (hl : w.Z24.length ≤ 8) (hc : ∀ b ∈ w.Z3t,Z7i w b) (h0 : 0 ≤ i) (h1 : i < w.Z2q.length) (hs : ∀ (j : Nat) v,j ≤ i → w.Z2q[j]? = some v → Z7c w v) : Ok (Zex w i) (fun _=>True):=by
  have:=h.iniL
  unfold Zex
  repeat' first
    | with_reducible refine bd (gri (by omega) (by omega)) fun _ _=>?_
    | with_reducible refine bd (Zyt _ _ _ h hl hc (by have:=hs i.toNat _ (by omega) (And.right (by assumption)); unfold Z7c at this; omega) (by have:=hs i.toNat _ (by omega) (And.right (by assumption)); unfold Z7c at this; omega)) fun _ _=>?_
    | with_reducible refine bd (L22x1 _ _ _ _ h h0 h1 (by assumption) (fun j v hj hv=>hs j v (by omega) hv)) fun _ _=>?_
    | with_reducible refine bd (gr (by omega) (by omega)) fun _ _=>?_
    | with_reducible refine ok ?_
    | split
    | with_reducible refine And.intro ?_ ?_
    | assumption
    | exact True.intro
    | omega
    | (dsimp only; omega)
    | (simp only [List.length_set,List.length_append,List.length_cons,List.length_nil,List.length_replicate]; omega)
    | (obtain ⟨_,_⟩:=‹_ ∧ _›)
theorem L53x1 (x : List Z0f) (hl : x.length ≤ 140737488355328) : Ok (Z0e (Zhz x) Z0i 0) (fun _=>True):=by
  refine li (x.length) (fun t _ _=>?_) (by omega) (by omega) (by omega)
  unfold Zhz
  repeat' first
    | with_reducible refine ni ?_ ?_
    | with_reducible refine di ?_
    | with_reducible refine brD (fun _=>?_) fun _=>?_
    | with_reducible refine brN (fun _=>?_) fun _=>?_
    | with_reducible refine br (fun _=>?_) fun _=>?_
    | with_reducible refine bd (gr (by omega) (by omega)) fun _ _=>?_
    | with_reducible refine bd (wr (by omega) (by omega)) fun _ _=>?_
    | with_reducible refine bs ?_
    | with_reducible refine And.intro ?_ ?_
    | assumption
    | exact True.intro
    | omega
    | (dsimp only; omega)
    | (simp only [List.length_set,List.length_append,List.length_cons,List.length_nil,List.length_replicate]; omega)
    | (obtain ⟨_,_⟩:=‹_ ∧ _›)
theorem Zsx (x : List Z0f) (hl : x.length ≤ 140737488355328) : Ok (Zbf x) (fun _=>True):=by
  unfold Zbf
  repeat' first
    | with_reducible refine bd (L53x1 _ (by first | assumption | omega | exact And.left (by assumption) | (dsimp only; omega))) fun _ _=>?_
    | with_reducible refine ok ?_
    | split
    | with_reducible refine And.intro ?_ ?_
    | assumption
    | exact True.intro
    | omega
    | (dsimp only; omega)
    | (simp only [List.length_set,List.length_append,List.length_cons,List.length_nil,List.length_replicate]; omega)
    | (obtain ⟨_,_⟩:=‹_ ∧ _›)
theorem L47x1 (u : Z0j) (h : Z4z u) : Ok (Z0e (Zg8 u) Z0i 0) (fun _=>True):=by
  have:=h.fldL
  refine li (u.Z0n.length) (fun t _ _=>?_) (by omega) (by omega) (by omega)
  unfold Zg8
  repeat' first
    | with_reducible refine ni ?_ ?_
    | with_reducible refine di ?_
    | unfold Zi6
    | with_reducible refine brD (fun _=>?_) fun _=>?_
    | with_reducible refine br! (fun _=>?_) fun _=>?_
    | with_reducible refine brE (fun _=>?_) fun _=>?_
    | with_reducible refine brN (fun _=>?_) fun _=>?_
    | with_reducible refine br (fun _=>?_) fun _=>?_
    | with_reducible refine bd (gr (by omega) (by omega)) fun _ _=>?_
    | with_reducible refine bd (wr (by omega) (by omega)) fun _ _=>?_
    | with_reducible refine bs ?_
    | with_reducible refine And.intro ?_ ?_
    | assumption
    | exact True.intro
    | omega
    | (dsimp only; omega)
    | (simp only [List.length_set,List.length_append,List.length_cons,List.length_nil,List.length_replicate]; omega)
    | (obtain ⟨_,_⟩:=‹_ ∧ _›)
theorem L47x3 (m : Z0z) (h : Z99 m) : Ok (Z0e (Zg9 m) Z0i 0) (fun _=>True):=by
  have:=h.code.hndL
  refine li (m.Z2n.Z1n.length) (fun t _ _=>?_) (by omega) (by omega) (by omega)
  unfold Zg9
  repeat' first
    | with_reducible refine ni ?_ ?_
    | with_reducible refine di ?_
    | with_reducible refine brD (fun _=>?_) fun _=>?_
    | with_reducible refine brN (fun _=>?_) fun _=>?_
    | with_reducible refine br (fun _=>?_) fun _=>?_
    | with_reducible refine bd (gr (by omega) (by omega)) fun _ _=>?_
    | with_reducible refine bd (wr (by omega) (by omega)) fun _ _=>?_
    | with_reducible refine bs ?_
    | with_reducible refine And.intro ?_ ?_
    | assumption
    | exact True.intro
    | omega
    | (dsimp only; omega)
    | (simp only [List.length_set,List.length_append,List.length_cons,List.length_nil,List.length_replicate]; omega)
    | (obtain ⟨_,_⟩:=‹_ ∧ _›)
theorem L47x4 (m : Z0z) (h : Z99 m) : Ok (Z0e (Zh9 m) Z0i 0) (fun _=>True):=by
  have:=h.code.mapL
  refine li (m.Z2n.Z18.length) (fun t _ _=>?_) (by omega) (by omega) (by omega)
  unfold Zh9
  repeat' first
    | with_reducible refine bd (Zsx _ (by have:=(h.code.map _ (by assumption)).locL; omega)) fun _ _=>?_
    | with_reducible refine bd (Zsx _ (by have:=(h.code.map _ (by assumption)).stkL; omega)) fun _ _=>?_
    | with_reducible refine ni ?_ ?_
    | with_reducible refine di ?_
    | with_reducible refine brD (fun _=>?_) fun _=>?_
    | with_reducible refine br! (fun _=>?_) fun _=>?_
    | with_reducible refine br (fun _=>?_) fun _=>?_
    | with_reducible refine bd (gr (by omega) (by omega)) fun _ _=>?_
    | with_reducible refine bd (wr (by omega) (by omega)) fun _ _=>?_
    | with_reducible refine bs ?_
    | with_reducible refine And.intro ?_ ?_
    | assumption
    | exact True.intro
    | omega
    | (dsimp only; omega)
    | (simp only [List.length_set,List.length_append,List.length_cons,List.length_nil,List.length_replicate]; omega)
    | (obtain ⟨_,_⟩:=‹_ ∧ _›)
theorem L47x2 (u : Z0j) (h : Z4z u) : Ok (Z0e (Zi4 u) Z0i 0) (fun _=>True):=by
  have:=h.metL
  refine li (u.Z0m.length) (fun t _ _=>?_) (by omega) (by omega) (by omega)
  unfold Zi4
  repeat' first
    | with_reducible refine ni ?_ ?_
    | with_reducible refine di ?_
    | unfold Zgq
    | with_reducible refine brD (fun _=>?_) fun _=>?_
    | with_reducible refine br! (fun _=>?_) fun _=>?_
    | with_reducible refine brN (fun _=>?_) fun _=>?_
    | with_reducible refine br (fun _=>?_) fun _=>?_
    | with_reducible refine bd (gr (by omega) (by omega)) fun _ _=>?_
    | with_reducible refine bd (wr (by omega) (by omega)) fun _ _=>?_
    | with_reducible refine bd (L47x3 _ (by exact h.met _ (by assumption))) fun _ _=>?_
    | with_reducible refine bd (L47x4 _ (by exact h.met _ (by assumption))) fun _ _=>?_
    | with_reducible refine bs ?_
    | split
    | with_reducible refine And.intro ?_ ?_
    | assumption
    | exact True.intro
    | omega
    | (dsimp only; omega)
    | (simp only [List.length_set,List.length_append,List.length_cons,List.length_nil,List.length_replicate]; omega)
    | (obtain ⟨_,_⟩:=‹_ ∧ _›)
theorem Zwc (u : Z0j) (h : Z4z u) : Ok (Zfd u) (fun _=>True):=by
  unfold Zfd
  repeat' first
    | with_reducible refine bd (L47x1 _ (by first | assumption | omega | exact And.left (by assumption) | (dsimp only; omega))) fun _ _=>?_
    | with_reducible refine bd (L47x2 _ (by first | assumption | omega | exact And.left (by assumption) | (dsimp only; omega))) fun _ _=>?_
    | with_reducible refine ok ?_
    | split
    | with_reducible refine And.intro ?_ ?_
    | assumption
    | exact True.intro
    | omega
    | (dsimp only; omega)
    | (simp only [List.length_set,List.length_append,List.length_cons,List.length_nil,List.length_replicate]; omega)
    | (obtain ⟨_,_⟩:=‹_ ∧ _›)
end Go.Proofs
