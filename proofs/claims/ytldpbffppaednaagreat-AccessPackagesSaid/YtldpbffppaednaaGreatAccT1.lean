/-
  That the models come to an answer, part one: names and loaders. No condition.
-/
import Derived.Test.YtldpbffppaednaaGreatAcc8
import Derived.Test.YtldpbffppaednaaGreatDenTot
set_option linter.unusedVariables false
namespace Go.Proofs
open Go.Den Go.Tot
abbrev Str (s : List UInt8) : Prop:=s.length ≤ 4503599627370496
structure WRef (r : Z27) : Prop where
  c : Str r.Z1f
  n : Str r.Z02
  d : Str r.Z1l
structure Z2q (i : Z01) : Prop where
  keys : i.Z0y.length * 8 ≤ 140737488355328
  tos : i.Z0a.length * 8 ≤ 140737488355328
  ref : WRef i.Z16
  s : Str i.f_S
structure Z98 (f : Z54) : Prop where
  loc : ∀ v ∈ f.Z0v,Str v.Z1o.Z02
  locL : f.Z0v.length * 56 ≤ 140737488355328
  stk : ∀ v ∈ f.Z10,Str v.Z1o.Z02
  stkL : f.Z10.length * 56 ≤ 140737488355328
structure Z4w (c : Z08) : Prop where
  ins : ∀ i ∈ c.Z0q,Z2q i
  insL : c.Z0q.length * 144 ≤ 140737488355328
  hnd : ∀ h ∈ c.Z1n,Str h.Z1o
  hndL : c.Z1n.length * 48 ≤ 140737488355328
  map : ∀ m ∈ c.Z18,Z98 m.Z1p
  mapL : c.Z18.length * 64 ≤ 140737488355328
  linL : c.Z1h.length * 16 ≤ 140737488355328
structure Z9g (m : Z0x) : Prop where
  n : Str m.Z02
  d : Str m.Z1l
  code : Z4w m.Z2m
  exc : ∀ s ∈ m.Z6b,Str s
  excL : m.Z6b.length * 16 ≤ 140737488355328
structure Zn4 (f : Z13) : Prop where
  n : Str f.Z02
  d : Str f.Z1l
  s : Str f.f_S
structure Z53 (u : Z0j) : Prop where
  n : Str u.Z02
  sup : Str u.Z07
  ifs : ∀ s ∈ u.Z06,Str s
  ifsL : u.Z06.length * 16 ≤ 140737488355328
  fld : ∀ f ∈ u.Z0n,Zn4 f
  fldL : u.Z0n.length * 72 ≤ 140737488355328
  met : ∀ m ∈ u.Z0m,Z9g m
  metL : u.Z0m.length * 184 ≤ 140737488355328
  src : Str u.Z19
structure Z6l (l : Z1m) : Prop where
  del : ∀ d ∈ l.Z3h,Str d.Zjo
  delL : l.Z3h.length ≤ 140737488355328
  sto : ∀ c ∈ l.Z2z,Str c.Z02
  stoL : l.Z2z.length ≤ 140737488355328
structure Z4f (w : Z0c) : Prop where
  lod : ∀ l ∈ w.Z23,Z6l l
  lodL : w.Z23.length ≤ 140737488355328
  cls : ∀ c ∈ w.Z1i,Z53 c.Z0s ∧ c.Z06.length ≤ 140737488355328
  clsL : w.Z1i.length ≤ 140737488355328
  ini : ∀ x ∈ w.Z2p,Str x.Z02
  iniL : w.Z2p.length ≤ 140737488355328
  con : ∀ x ∈ w.Z3p,Str x.Z02
  conL : w.Z3p.length ≤ 140737488355328
theorem Zzw (x : Int) : Ok (Zia x) (fun _=>True):=by
  unfold Zia
  repeat' first
    | with_reducible refine brD (fun _=>?_) fun _=>?_
    | with_reducible refine brE (fun _=>?_) fun _=>?_
    | with_reducible refine br (fun _=>?_) fun _=>?_
    | with_reducible refine bs ?_
    | with_reducible refine ok ?_
    | with_reducible refine And.intro ?_ ?_
    | assumption
    | exact True.intro
    | omega
    | (dsimp only; omega)
    | (simp only [List.length_set,List.length_append,List.length_cons,List.length_nil,List.length_replicate]; omega)
    | (obtain ⟨_,_⟩:=‹_ ∧ _›)
theorem L34x1 (x : List UInt8) (h : Str x) : Ok (Z0d (Zh6 x) Z0i 0) (fun q=>match q with | .inl _=>True | .inr y=>y = false):=by
  refine li (x.length) (fun t _ _=>?_) (by omega) (by omega) (by omega)
  unfold Zh6
  repeat' first
    | with_reducible refine ni ?_ ?_
    | with_reducible refine di ?_
    | with_reducible refine brD (fun _=>?_) fun _=>?_
    | with_reducible refine br! (fun _=>?_) fun _=>?_
    | with_reducible refine brE (fun _=>?_) fun _=>?_
    | with_reducible refine br (fun _=>?_) fun _=>?_
    | with_reducible refine bd (gs (by omega) (by omega)) fun _ _=>?_
    | with_reducible refine bd (wr (by omega) (by omega)) fun _ _=>?_
    | with_reducible refine bd (Zzw _) fun _ _=>?_
    | with_reducible refine bs ?_
    | (rfl)
    | with_reducible refine And.intro ?_ ?_
    | assumption
    | exact True.intro
    | omega
    | (dsimp only; omega)
    | (simp only [List.length_set,List.length_append,List.length_cons,List.length_nil,List.length_replicate]; omega)
    | (obtain ⟨_,_⟩:=‹_ ∧ _›)
theorem Zn2 (x : List UInt8) (h : Str x) : Ok (Z9z x) (fun b=>b = true → x ≠ []):=by
  unfold Z9z
  repeat' first
    | with_reducible refine bd (L34x1 _ (by first | assumption | omega | exact And.left (by assumption) | (dsimp only; omega))) fun _ _=>?_
    | with_reducible refine bs ?_
    | with_reducible refine ok ?_
    | split
    | (first | (intro h; rintro rfl; simp at h; done) | (simp_all; done))
    | with_reducible refine And.intro ?_ ?_
    | assumption
    | exact True.intro
    | omega
    | (dsimp only; omega)
    | (simp only [List.length_set,List.length_append,List.length_cons,List.length_nil,List.length_replicate]; omega)
    | (obtain ⟨_,_⟩:=‹_ ∧ _›)
theorem L20x1 (x : List UInt8) (h : Str x) : Ok (Z0d (Zij x) Z0i (0,0)) (fun q=>match q with | .inl y=>0 ≤ y ∧ y ≤ x.length | .inr y=>True):=by
  refine lp (fun t=>t.2) (x.length) (fun t=>0 ≤ t.1 ∧ t.1 ≤ t.2) (fun t hI _ _=>?_) (by omega) (by omega) (by omega) (by omega)
  try dsimp only at *
  unfold Zij
  repeat' first
    | with_reducible refine nx ?_ ?_ ?_
    | with_reducible refine dn ?_
    | with_reducible refine brD (fun _=>?_) fun _=>?_
    | with_reducible refine br! (fun _=>?_) fun _=>?_
    | with_reducible refine brE (fun _=>?_) fun _=>?_
    | with_reducible refine br (fun _=>?_) fun _=>?_
    | with_reducible refine bd (gs (by omega) (by omega)) fun _ _=>?_
    | with_reducible refine bd (wr (by omega) (by omega)) fun _ _=>?_
    | with_reducible refine bd (sb (by omega) (by omega) (by omega)) fun _ _=>?_
    | with_reducible refine bd (Zn2 _ (by unfold Str; omega)) fun _ _=>?_
    | with_reducible refine bs ?_
    | with_reducible refine And.intro ?_ ?_
    | assumption
    | exact True.intro
    | omega
    | (dsimp only; omega)
    | (simp only [List.length_set,List.length_append,List.length_cons,List.length_nil,List.length_replicate]; omega)
    | (obtain ⟨_,_⟩:=‹_ ∧ _›)
theorem Zf6 (x : List UInt8) (h : Str x) : Ok (Z9c x) (fun b=>b = true → x.length ≤ 64):=by
  unfold Z9c
  repeat' first
    | with_reducible refine bdE (L20x1 _ (by assumption)) fun q _ hq=>?_
    | with_reducible refine brD (fun _=>?_) fun _=>?_
    | with_reducible refine br (fun _=>?_) fun _=>?_
    | with_reducible refine bd (sb (by omega) (by omega) (by omega)) fun _ _=>?_
    | with_reducible refine bd (L20x1 _ (by first | assumption | omega | exact And.left (by assumption) | (dsimp only; omega))) fun _ _=>?_
    | with_reducible refine bd (Zn2 _ (by unfold Str; omega)) fun _ _=>?_
    | with_reducible refine bs ?_
    | with_reducible refine ok ?_
    | split
    | ((intro hb; first | (cases hb; done) | omega))
    | with_reducible refine And.intro ?_ ?_
    | assumption
    | exact True.intro
    | omega
    | (dsimp only; omega)
    | (simp only [List.length_set,List.length_append,List.length_cons,List.length_nil,List.length_replicate]; omega)
    | (obtain ⟨_,_⟩:=‹_ ∧ _›)
theorem Zr4 (x y : List UInt8) : Ok (Z87 x y) (fun _=>True):=by
  unfold Z87
  repeat' first
    | with_reducible refine brD (fun _=>?_) fun _=>?_
    | with_reducible refine br (fun _=>?_) fun _=>?_
    | with_reducible refine bd (sb (by omega) (by omega) (by omega)) fun _ _=>?_
    | with_reducible refine ok ?_
    | with_reducible refine And.intro ?_ ?_
    | assumption
    | exact True.intro
    | omega
    | (dsimp only; omega)
    | (simp only [List.length_set,List.length_append,List.length_cons,List.length_nil,List.length_replicate]; omega)
    | (obtain ⟨_,_⟩:=‹_ ∧ _›)
theorem L32x1 (x : Z1m) (i : Int) (h : Z6l x) : Ok (Z0d (Zhw x i) Z0i 0) (fun _=>True):=by
  have:=h.stoL
  refine li (x.Z2z.length) (fun t _ _=>?_) (by omega) (by omega) (by omega)
  unfold Zhw
  repeat' first
    | with_reducible refine ni ?_ ?_
    | with_reducible refine di ?_
    | with_reducible refine brD (fun _=>?_) fun _=>?_
    | with_reducible refine br! (fun _=>?_) fun _=>?_
    | with_reducible refine br (fun _=>?_) fun _=>?_
    | with_reducible refine bd (gr (by omega) (by omega)) fun _ _=>?_
    | with_reducible refine bd (wr (by omega) (by omega)) fun _ _=>?_
    | with_reducible refine bd (Zf6 _ (by exact h.sto _ (by assumption))) fun _ _=>?_
    | with_reducible refine bd (Zr4 _ _) fun _ _=>?_
    | with_reducible refine bs ?_
    | with_reducible refine And.intro ?_ ?_
    | assumption
    | exact True.intro
    | omega
    | (dsimp only; omega)
    | (simp only [List.length_set,List.length_append,List.length_cons,List.length_nil,List.length_replicate]; omega)
    | (obtain ⟨_,_⟩:=‹_ ∧ _›)
theorem Y05 (x : Z1m) (i : Int) (h : Z6l x) : Ok (Zj3 x i) (fun _=>True):=by
  unfold Zj3
  repeat' first
    | with_reducible refine bd (L32x1 _ _ (by first | assumption | omega | exact And.left (by assumption) | (dsimp only; omega))) fun _ _=>?_
    | with_reducible refine ok ?_
    | split
    | with_reducible refine And.intro ?_ ?_
    | assumption
    | exact True.intro
    | omega
    | (dsimp only; omega)
    | (simp only [List.length_set,List.length_append,List.length_cons,List.length_nil,List.length_replicate]; omega)
    | (obtain ⟨_,_⟩:=‹_ ∧ _›)
theorem L33x2 (k : Int) (x : Z1m) (hl : x.Z2z.length ≤ 140737488355328) (h0 : 0 ≤ k) (h1 : k < x.Z2z.length) : Ok (Z0d (Zhk k x) Z0i 0) (fun _=>True):=by
  refine li (k) (fun t _ _=>?_) (by omega) (by omega) (by omega)
  unfold Zhk
  repeat' first
    | with_reducible refine ni ?_ ?_
    | with_reducible refine di ?_
    | with_reducible refine brD (fun _=>?_) fun _=>?_
    | with_reducible refine brE (fun _=>?_) fun _=>?_
    | with_reducible refine br (fun _=>?_) fun _=>?_
    | with_reducible refine bd (gr (by omega) (by omega)) fun _ _=>?_
    | with_reducible refine bd (wr (by omega) (by omega)) fun _ _=>?_
    | with_reducible refine bs ?_
    | with_reducible refine And.intro ?_ ?_
    | assumption
    | exact True.intro
    | omega
    | (dsimp only; omega)
    | (simp only [List.length_set,List.length_append,List.length_cons,List.length_nil,List.length_replicate]; omega)
    | (obtain ⟨_,_⟩:=‹_ ∧ _›)
theorem L33x1 (x : Z1m) (hl : x.Z2z.length ≤ 140737488355328) : Ok (Z0d (Zhx x) Z0i 0) (fun _=>True):=by
  refine li (x.Z2z.length) (fun t _ _=>?_) (by omega) (by omega) (by omega)
  unfold Zhx
  repeat' first
    | with_reducible refine ni ?_ ?_
    | with_reducible refine di ?_
    | with_reducible refine brD (fun _=>?_) fun _=>?_
    | with_reducible refine br (fun _=>?_) fun _=>?_
    | with_reducible refine bd (wr (by omega) (by omega)) fun _ _=>?_
    | with_reducible refine bd (L33x2 _ _ (by first | assumption | omega | exact And.left (by assumption) | (dsimp only; omega)) (by first | assumption | omega | exact And.left (by assumption) | (dsimp only; omega)) (by first | assumption | omega | exact And.left (by assumption) | (dsimp only; omega))) fun _ _=>?_
    | with_reducible refine bs ?_
    | split
    | with_reducible refine And.intro ?_ ?_
    | assumption
    | exact True.intro
    | omega
    | (dsimp only; omega)
    | (simp only [List.length_set,List.length_append,List.length_cons,List.length_nil,List.length_replicate]; omega)
    | (obtain ⟨_,_⟩:=‹_ ∧ _›)
theorem Zyt (x : Z1m) (hl : x.Z2z.length ≤ 140737488355328) : Ok (Zft x) (fun _=>True):=by
  unfold Zft
  repeat' first
    | with_reducible refine bd (L33x1 _ (by first | assumption | omega | exact And.left (by assumption) | (dsimp only; omega))) fun _ _=>?_
    | with_reducible refine ok ?_
    | split
    | with_reducible refine And.intro ?_ ?_
    | assumption
    | exact True.intro
    | omega
    | (dsimp only; omega)
    | (simp only [List.length_set,List.length_append,List.length_cons,List.length_nil,List.length_replicate]; omega)
    | (obtain ⟨_,_⟩:=‹_ ∧ _›)
theorem L19x1 (x : List Z1m) (h : ∀ l ∈ x,Z6l l) (hl : x.length ≤ 140737488355328) : Ok (Z0d (Zgu x) Z0i 0) (fun _=>True):=by
  refine li (x.length) (fun t _ _=>?_) (by omega) (by omega) (by omega)
  unfold Zgu
  repeat' first
    | with_reducible refine ni ?_ ?_
    | with_reducible refine di ?_
    | with_reducible refine brD (fun _=>?_) fun _=>?_
    | with_reducible refine br (fun _=>?_) fun _=>?_
    | with_reducible refine bd (gr (by omega) (by omega)) fun _ _=>?_
    | with_reducible refine bd (wr (by omega) (by omega)) fun _ _=>?_
    | with_reducible refine bs ?_
    | with_reducible refine And.intro ?_ ?_
    | assumption
    | exact True.intro
    | omega
    | (dsimp only; omega)
    | (simp only [List.length_set,List.length_append,List.length_cons,List.length_nil,List.length_replicate]; omega)
    | (obtain ⟨_,_⟩:=‹_ ∧ _›)
theorem L19x3 (k : Int) (x : List Z1m) (h : ∀ l ∈ x,Z6l l) (hl : x.length ≤ 140737488355328) (h0 : 0 ≤ k) (h1 : k < x.length) : Ok (Z0d (Zi4 k x) Z0i 0) (fun _=>True):=by
  obtain ⟨y,hy,hm⟩:=gr h0 h1
  have:=(h y hm).delL
  refine li (y.Z3h.length) (fun t _ _=>?_) (by omega) (by omega) (by omega)
  unfold Zi4
  simp only [hy]
  repeat' first
    | with_reducible refine ni ?_ ?_
    | with_reducible refine di ?_
    | with_reducible refine brD (fun _=>?_) fun _=>?_
    | with_reducible refine br (fun _=>?_) fun _=>?_
    | with_reducible refine bd (gr (by omega) (by omega)) fun _ _=>?_
    | with_reducible refine bd (wr (by omega) (by omega)) fun _ _=>?_
    | with_reducible refine bs ?_
    | with_reducible refine And.intro ?_ ?_
    | assumption
    | exact True.intro
    | omega
    | (dsimp only; omega)
    | (simp only [List.length_set,List.length_append,List.length_cons,List.length_nil,List.length_replicate]; omega)
    | (obtain ⟨_,_⟩:=‹_ ∧ _›)
theorem L19x2 (x : List Z1m) (h : ∀ l ∈ x,Z6l l) (hl : x.length ≤ 140737488355328) : Ok (Z0d (Zjr x) Z0i 0) (fun _=>True):=by
  refine li (x.length) (fun t _ _=>?_) (by omega) (by omega) (by omega)
  unfold Zjr
  repeat' first
    | with_reducible refine ni ?_ ?_
    | with_reducible refine di ?_
    | with_reducible refine brD (fun _=>?_) fun _=>?_
    | with_reducible refine br (fun _=>?_) fun _=>?_
    | with_reducible refine bd (wr (by omega) (by omega)) fun _ _=>?_
    | with_reducible refine bd (L19x3 _ _ (by first | assumption | omega | exact And.left (by assumption) | (dsimp only; omega)) (by first | assumption | omega | exact And.left (by assumption) | (dsimp only; omega)) (by first | assumption | omega | exact And.left (by assumption) | (dsimp only; omega)) (by first | assumption | omega | exact And.left (by assumption) | (dsimp only; omega))) fun _ _=>?_
    | with_reducible refine bs ?_
    | split
    | with_reducible refine And.intro ?_ ?_
    | assumption
    | exact True.intro
    | omega
    | (dsimp only; omega)
    | (simp only [List.length_set,List.length_append,List.length_cons,List.length_nil,List.length_replicate]; omega)
    | (obtain ⟨_,_⟩:=‹_ ∧ _›)
theorem L19x4 (x : List Z1m) (h : ∀ l ∈ x,Z6l l) (hl : x.length ≤ 140737488355328) : Ok (Z0d (Zhn x) Z0i 0) (fun _=>True):=by
  refine li (x.length) (fun t _ _=>?_) (by omega) (by omega) (by omega)
  unfold Zhn
  repeat' first
    | with_reducible refine ni ?_ ?_
    | with_reducible refine di ?_
    | with_reducible refine brD (fun _=>?_) fun _=>?_
    | with_reducible refine brN (fun _=>?_) fun _=>?_
    | with_reducible refine br (fun _=>?_) fun _=>?_
    | with_reducible refine bd (gr (by omega) (by omega)) fun _ _=>?_
    | with_reducible refine bd (wr (by omega) (by omega)) fun _ _=>?_
    | with_reducible refine bd (Y05 _ _ (by exact h _ (by assumption))) fun _ _=>?_
    | with_reducible refine bs ?_
    | with_reducible refine And.intro ?_ ?_
    | assumption
    | exact True.intro
    | omega
    | (dsimp only; omega)
    | (simp only [List.length_set,List.length_append,List.length_cons,List.length_nil,List.length_replicate]; omega)
    | (obtain ⟨_,_⟩:=‹_ ∧ _›)
theorem L19x5 (x : List Z1m) (h : ∀ l ∈ x,Z6l l) (hl : x.length ≤ 140737488355328) : Ok (Z0d (Zf0 x) Z0i 0) (fun _=>True):=by
  refine li (x.length) (fun t _ _=>?_) (by omega) (by omega) (by omega)
  unfold Zf0
  repeat' first
    | with_reducible refine ni ?_ ?_
    | with_reducible refine di ?_
    | with_reducible refine brD (fun _=>?_) fun _=>?_
    | with_reducible refine br (fun _=>?_) fun _=>?_
    | with_reducible refine bd (gr (by omega) (by omega)) fun _ _=>?_
    | with_reducible refine bd (wr (by omega) (by omega)) fun _ _=>?_
    | with_reducible refine bd (Zyt _ (by exact (h _ (by assumption)).stoL)) fun _ _=>?_
    | with_reducible refine bs ?_
    | with_reducible refine And.intro ?_ ?_
    | assumption
    | exact True.intro
    | omega
    | (dsimp only; omega)
    | (simp only [List.length_set,List.length_append,List.length_cons,List.length_nil,List.length_replicate]; omega)
    | (obtain ⟨_,_⟩:=‹_ ∧ _›)
theorem Zx1 (x : List Z1m) (h : ∀ l ∈ x,Z6l l) (hl : x.length ≤ 140737488355328) : Ok (Zg1 x) (fun e=>e = 0 → x.length ≤ 8):=by
  unfold Zg1
  repeat' first
    | unfold j19x1
    | with_reducible refine brD (fun _=>?_) fun _=>?_
    | with_reducible refine brE (fun _=>?_) fun _=>?_
    | with_reducible refine br (fun _=>?_) fun _=>?_
    | with_reducible refine bd (L19x1 _ (by first | assumption | omega | exact And.left (by assumption) | (dsimp only; omega)) (by first | assumption | omega | exact And.left (by assumption) | (dsimp only; omega))) fun _ _=>?_
    | with_reducible refine bd (L19x2 _ (by first | assumption | omega | exact And.left (by assumption) | (dsimp only; omega)) (by first | assumption | omega | exact And.left (by assumption) | (dsimp only; omega))) fun _ _=>?_
    | with_reducible refine bd (L19x4 _ (by first | assumption | omega | exact And.left (by assumption) | (dsimp only; omega)) (by first | assumption | omega | exact And.left (by assumption) | (dsimp only; omega))) fun _ _=>?_
    | with_reducible refine bd (L19x5 _ (by first | assumption | omega | exact And.left (by assumption) | (dsimp only; omega)) (by first | assumption | omega | exact And.left (by assumption) | (dsimp only; omega))) fun _ _=>?_
    | with_reducible refine bs ?_
    | with_reducible refine ok ?_
    | split
    | with_reducible refine And.intro ?_ ?_
    | assumption
    | exact True.intro
    | omega
    | (dsimp only; omega)
    | (simp only [List.length_set,List.length_append,List.length_cons,List.length_nil,List.length_replicate]; omega)
    | (obtain ⟨_,_⟩:=‹_ ∧ _›)
theorem L21x1 (v : Z2k) (w : Z0c) (i : Int) (h : Z4f w) (h0 : 0 ≤ i) (h1 : i < w.Z2p.length) : Ok (Z0d (Ziu v w i) Z0i 0) (fun _=>True):=by
  have:=h.iniL
  refine li (i) (fun t _ _=>?_) (by omega) (by omega) (by omega)
  unfold Ziu
  repeat' first
    | with_reducible refine ni ?_ ?_
    | with_reducible refine di ?_
    | with_reducible refine brD (fun _=>?_) fun _=>?_
    | with_reducible refine brE (fun _=>?_) fun _=>?_
    | with_reducible refine br (fun _=>?_) fun _=>?_
    | with_reducible refine bd (gr (by omega) (by omega)) fun _ _=>?_
    | with_reducible refine bd (wr (by omega) (by omega)) fun _ _=>?_
    | with_reducible refine bs ?_
    | with_reducible refine And.intro ?_ ?_
    | assumption
    | exact True.intro
    | omega
    | (dsimp only; omega)
    | (simp only [List.length_set,List.length_append,List.length_cons,List.length_nil,List.length_replicate]; omega)
    | (obtain ⟨_,_⟩:=‹_ ∧ _›)
def Z7l (w : Z0c) (v : Z2k) : Prop:=0 ≤ v.Z0u ∧ v.Z0u < w.Z23.length ∧ 0 ≤ v.Z1f ∧ v.Z1f < w.Z1i.length
def Z71 (w : Z0c) (b : Z46) : Prop:=0 ≤ b.f_A ∧ b.f_A < w.Z23.length ∧ 0 ≤ b.f_B ∧ b.f_B < w.Z23.length
theorem Zwu (w : Z0c) (i : Int) (h : Z4f w) (h0 : 0 ≤ i) (h1 : i < w.Z2p.length) : Ok (Zh5 w i) (fun b=>b = true → ∀ v,w.Z2p[i.toNat]? = some v → Z7l w v):=by
  have:=h.iniL
  unfold Zh5
  repeat' first
    | with_reducible refine bd (gri (by omega) (by omega)) fun _ _=>?_
    | unfold j21x1
    | with_reducible refine brD (fun _=>?_) fun _=>?_
    | with_reducible refine br! (fun _=>?_) fun _=>?_
    | with_reducible refine br (fun _=>?_) fun _=>?_
    | with_reducible refine bd (gr (by omega) (by omega)) fun _ _=>?_
    | with_reducible refine bd (L21x1 _ _ _ (by first | assumption | omega | exact And.left (by assumption) | (dsimp only; omega)) (by first | assumption | omega | exact And.left (by assumption) | (dsimp only; omega)) (by first | assumption | omega | exact And.left (by assumption) | (dsimp only; omega))) fun _ _=>?_
    | with_reducible refine bs ?_
    | with_reducible refine ok ?_
    | split
    | ((intro hb v hv; first | (cases hb; done) | (have e : ∀ a,w.Z2p[i.toNat]? = some a → a = v:=fun a ha=>by { rw [hv] at ha; cases ha; rfl }; have:=e _ (And.right (by assumption)); subst this; exact ⟨by omega,by omega,by omega,by omega⟩)))
    | with_reducible refine And.intro ?_ ?_
    | assumption
    | exact True.intro
    | omega
    | (dsimp only; omega)
    | (simp only [List.length_set,List.length_append,List.length_cons,List.length_nil,List.length_replicate]; omega)
    | (obtain ⟨_,_⟩:=‹_ ∧ _›)
theorem L35x2 (w : Z0c) (s : List UInt8) (l0 : List Bool) (h : Z4f w) (hl : w.Z23.length ≤ 8) (hc : ∀ b ∈ w.Z3p,Z71 w b) (h0 : l0.length = w.Z23.length) : Ok (Z0d (Zj0 w s) Z0i (0,l0)) (fun r=>r.length = w.Z23.length):=by
  have:=h.conL
  refine lp (fun t=>t.1) (w.Z3p.length) (fun t=>t.2.length = w.Z23.length) (fun t hI _ _=>?_) (by omega) (by exact h0) (by omega) (by omega)
  try dsimp only at *
  unfold Zj0
  repeat' first
    | with_reducible refine bd (ik (by have:=hc _ (by assumption); unfold Z71 at this; omega) (by have:=hc _ (by assumption); unfold Z71 at this; first | omega | (simp only [List.length_set]; omega))) fun _ _=>?_
    | with_reducible refine nx ?_ ?_ ?_
    | with_reducible refine dn ?_
    | unfold Zhz
    | with_reducible refine brD (fun _=>?_) fun _=>?_
    | with_reducible refine brE (fun _=>?_) fun _=>?_
    | with_reducible refine br (fun _=>?_) fun _=>?_
    | with_reducible refine bd (gr (by omega) (by omega)) fun _ _=>?_
    | with_reducible refine bd (ik (by omega) (by first | omega | (simp only [List.length_set,List.length_append,List.length_cons,List.length_nil,List.length_replicate]; omega))) fun _ _=>?_
    | with_reducible refine bd (la (by first | omega | (simp only [List.length_set,List.length_append,List.length_cons,List.length_nil,List.length_replicate]; omega))) fun _ _=>?_
    | with_reducible refine bd (wr (by omega) (by omega)) fun _ _=>?_
    | with_reducible refine bs ?_
    | with_reducible refine And.intro ?_ ?_
    | assumption
    | exact True.intro
    | omega
    | (dsimp only; omega)
    | (simp only [List.length_set,List.length_append,List.length_cons,List.length_nil,List.length_replicate]; omega)
    | (obtain ⟨_,_⟩:=‹_ ∧ _›)
theorem L35x1 (w : Z0c) (s : List UInt8) (l0 : List Bool) (h : Z4f w) (hl : w.Z23.length ≤ 8) (hc : ∀ b ∈ w.Z3p,Z71 w b) (h0 : l0.length = w.Z23.length) : Ok (Z0d (Zew w s) Z0i (0,l0)) (fun r=>r.length = w.Z23.length):=by
  refine lp (fun t=>t.1) (w.Z23.length) (fun t=>t.2.length = w.Z23.length) (fun t hI _ _=>?_) (by omega) (by exact h0) (by omega) (by omega)
  try dsimp only at *
  unfold Zew
  repeat' first
    | with_reducible refine nx ?_ ?_ ?_
    | with_reducible refine dn ?_
    | with_reducible refine brD (fun _=>?_) fun _=>?_
    | with_reducible refine br (fun _=>?_) fun _=>?_
    | with_reducible refine bd (wr (by omega) (by omega)) fun _ _=>?_
    | with_reducible refine bd (L35x2 _ _ _ (by first | assumption | omega | exact And.left (by assumption) | (dsimp only; omega)) (by first | assumption | omega | exact And.left (by assumption) | (dsimp only; omega)) (by first | assumption | omega | exact And.left (by assumption) | (dsimp only; omega)) (by first | assumption | omega | exact And.left (by assumption) | (dsimp only; omega))) fun _ _=>?_
    | with_reducible refine bs ?_
    | with_reducible refine And.intro ?_ ?_
    | assumption
    | exact True.intro
    | omega
    | (dsimp only; omega)
    | (simp only [List.length_set,List.length_append,List.length_cons,List.length_nil,List.length_replicate]; omega)
    | (obtain ⟨_,_⟩:=‹_ ∧ _›)
theorem Zym (w : Z0c) (s : List UInt8) (k : Int) (h : Z4f w) (hl : w.Z23.length ≤ 8) (hc : ∀ b ∈ w.Z3p,Z71 w b) (h0 : 0 ≤ k) (h1 : k < w.Z23.length) : Ok (Zgc w s k) (fun r=>r.length = w.Z23.length):=by
  unfold Zgc
  repeat' first
    | with_reducible refine bd (ik (by omega) (by first | omega | (simp only [List.length_set,List.length_append,List.length_cons,List.length_nil,List.length_replicate]; omega))) fun _ _=>?_
    | with_reducible refine bd (la (by first | omega | (simp only [List.length_set,List.length_append,List.length_cons,List.length_nil,List.length_replicate]; omega))) fun _ _=>?_
    | with_reducible refine bd (mk (by omega) (by omega) (by omega) (by omega)) fun _ _=>?_
    | with_reducible refine bd (L35x1 _ _ _ (by first | assumption | (simp only [List.length_set,List.length_replicate]; omega)) (by first | assumption | (simp only [List.length_set,List.length_replicate]; omega)) (by first | assumption | (simp only [List.length_set,List.length_replicate]; omega)) (by first | assumption | (simp only [List.length_set,List.length_replicate]; omega))) fun _ _=>?_
    | with_reducible refine ok ?_
    | with_reducible refine And.intro ?_ ?_
    | assumption
    | exact True.intro
    | omega
    | (dsimp only; omega)
    | (simp only [List.length_set,List.length_append,List.length_cons,List.length_nil,List.length_replicate]; omega)
    | (obtain ⟨_,_⟩:=‹_ ∧ _›)
theorem L22x1 (v : Z2k) (g : List Bool) (w : Z0c) (i : Int) (h : Z4f w) (h0 : 0 ≤ i) (h1 : i < w.Z2p.length) (hg : g.length = w.Z23.length) (hs : ∀ (j : Nat) v,j < i → w.Z2p[j]? = some v → Z7l w v) : Ok (Z0d (Zf4 v g w i) Z0i 0) (fun _=>True):=by
  have:=h.iniL
  refine li (i) (fun t _ _=>?_) (by omega) (by omega) (by omega)
  unfold Zf4
  repeat' first
    | with_reducible refine bd (gri (by omega) (by omega)) fun _ _=>?_
    | with_reducible refine bd (gr (by have:=hs t.toNat _ (by omega) (And.right (by assumption)); unfold Z7l at this; omega) (by have:=hs t.toNat _ (by omega) (And.right (by assumption)); unfold Z7l at this; omega)) fun _ _=>?_
    | with_reducible refine ni ?_ ?_
    | with_reducible refine di ?_
    | with_reducible refine brD (fun _=>?_) fun _=>?_
    | with_reducible refine brE (fun _=>?_) fun _=>?_
    | with_reducible refine brN (fun _=>?_) fun _=>?_
    | with_reducible refine br (fun _=>?_) fun _=>?_
    | with_reducible refine bd (gr (by omega) (by omega)) fun _ _=>?_
    | with_reducible refine bd (wr (by omega) (by omega)) fun _ _=>?_
    | with_reducible refine bs ?_
    | with_reducible refine And.intro ?_ ?_
    | assumption
    | exact True.intro
    | omega
    | (dsimp only; omega)
    | (simp only [List.length_set,List.length_append,List.length_cons,List.length_nil,List.length_replicate]; omega)
    | (obtain ⟨_,_⟩:=‹_ ∧ _›)
theorem Zyc (w : Z0c) (i : Int) (h : Z4f w) (hl : w.Z23.length ≤ 8) (hc : ∀ b ∈ w.Z3p,Z71 w b) (h0 : 0 ≤ i) (h1 : i < w.Z2p.length) (hs : ∀ (j : Nat) v,j ≤ i → w.Z2p[j]? = some v → Z7l w v) : Ok (Zf3 w i) (fun _=>True):=by
  have:=h.iniL
  unfold Zf3
  repeat' first
    | with_reducible refine bd (gri (by omega) (by omega)) fun _ _=>?_
    | with_reducible refine bd (Zym _ _ _ h hl hc (by have:=hs i.toNat _ (by omega) (And.right (by assumption)); unfold Z7l at this; omega) (by have:=hs i.toNat _ (by omega) (And.right (by assumption)); unfold Z7l at this; omega)) fun _ _=>?_
    | with_reducible refine bd (L22x1 _ _ _ _ h h0 h1 (by assumption) (fun j v hj hv=>hs j v (by omega) hv)) fun _ _=>?_
    | with_reducible refine bd (gr (by omega) (by omega)) fun _ _=>?_
    | with_reducible refine ok ?_
    | split
    | with_reducible refine And.intro ?_ ?_
    | assumption
    | exact True.intro
    | omega
    | (dsimp only; omega)
    | (simp only [List.length_set,List.length_append,List.length_cons,List.length_nil,List.length_replicate]; omega)
    | (obtain ⟨_,_⟩:=‹_ ∧ _›)
theorem L53x1 (x : List Z0f) (hl : x.length ≤ 140737488355328) : Ok (Z0d (Zfv x) Z0i 0) (fun _=>True):=by
  refine li (x.length) (fun t _ _=>?_) (by omega) (by omega) (by omega)
  unfold Zfv
  repeat' first
    | with_reducible refine ni ?_ ?_
    | with_reducible refine di ?_
    | with_reducible refine brD (fun _=>?_) fun _=>?_
    | with_reducible refine brN (fun _=>?_) fun _=>?_
    | with_reducible refine br (fun _=>?_) fun _=>?_
    | with_reducible refine bd (gr (by omega) (by omega)) fun _ _=>?_
    | with_reducible refine bd (wr (by omega) (by omega)) fun _ _=>?_
    | with_reducible refine bs ?_
    | with_reducible refine And.intro ?_ ?_
    | assumption
    | exact True.intro
    | omega
    | (dsimp only; omega)
    | (simp only [List.length_set,List.length_append,List.length_cons,List.length_nil,List.length_replicate]; omega)
    | (obtain ⟨_,_⟩:=‹_ ∧ _›)
theorem Zw0 (x : List Z0f) (hl : x.length ≤ 140737488355328) : Ok (Ze0 x) (fun _=>True):=by
  unfold Ze0
  repeat' first
    | with_reducible refine bd (L53x1 _ (by first | assumption | omega | exact And.left (by assumption) | (dsimp only; omega))) fun _ _=>?_
    | with_reducible refine ok ?_
    | split
    | with_reducible refine And.intro ?_ ?_
    | assumption
    | exact True.intro
    | omega
    | (dsimp only; omega)
    | (simp only [List.length_set,List.length_append,List.length_cons,List.length_nil,List.length_replicate]; omega)
    | (obtain ⟨_,_⟩:=‹_ ∧ _›)
theorem L47x1 (u : Z0j) (h : Z53 u) : Ok (Z0d (Zgw u) Z0i 0) (fun _=>True):=by
  have:=h.fldL
  refine li (u.Z0n.length) (fun t _ _=>?_) (by omega) (by omega) (by omega)
  unfold Zgw
  repeat' first
    | with_reducible refine ni ?_ ?_
    | with_reducible refine di ?_
    | unfold Zhs
    | with_reducible refine brD (fun _=>?_) fun _=>?_
    | with_reducible refine br! (fun _=>?_) fun _=>?_
    | with_reducible refine brE (fun _=>?_) fun _=>?_
    | with_reducible refine brN (fun _=>?_) fun _=>?_
    | with_reducible refine br (fun _=>?_) fun _=>?_
    | with_reducible refine bd (gr (by omega) (by omega)) fun _ _=>?_
    | with_reducible refine bd (wr (by omega) (by omega)) fun _ _=>?_
    | with_reducible refine bs ?_
    | with_reducible refine And.intro ?_ ?_
    | assumption
    | exact True.intro
    | omega
    | (dsimp only; omega)
    | (simp only [List.length_set,List.length_append,List.length_cons,List.length_nil,List.length_replicate]; omega)
    | (obtain ⟨_,_⟩:=‹_ ∧ _›)
theorem L47x3 (m : Z0x) (h : Z9g m) : Ok (Z0d (Zeo m) Z0i 0) (fun _=>True):=by
  have:=h.code.hndL
  refine li (m.Z2m.Z1n.length) (fun t _ _=>?_) (by omega) (by omega) (by omega)
  unfold Zeo
  repeat' first
    | with_reducible refine ni ?_ ?_
    | with_reducible refine di ?_
    | with_reducible refine brD (fun _=>?_) fun _=>?_
    | with_reducible refine brN (fun _=>?_) fun _=>?_
    | with_reducible refine br (fun _=>?_) fun _=>?_
    | with_reducible refine bd (gr (by omega) (by omega)) fun _ _=>?_
    | with_reducible refine bd (wr (by omega) (by omega)) fun _ _=>?_
    | with_reducible refine bs ?_
    | with_reducible refine And.intro ?_ ?_
    | assumption
    | exact True.intro
    | omega
    | (dsimp only; omega)
    | (simp only [List.length_set,List.length_append,List.length_cons,List.length_nil,List.length_replicate]; omega)
    | (obtain ⟨_,_⟩:=‹_ ∧ _›)
theorem L47x4 (m : Z0x) (h : Z9g m) : Ok (Z0d (Zhg m) Z0i 0) (fun _=>True):=by
  have:=h.code.mapL
  refine li (m.Z2m.Z18.length) (fun t _ _=>?_) (by omega) (by omega) (by omega)
  unfold Zhg
  repeat' first
    | with_reducible refine bd (Zw0 _ (by have:=(h.code.map _ (by assumption)).locL; omega)) fun _ _=>?_
    | with_reducible refine bd (Zw0 _ (by have:=(h.code.map _ (by assumption)).stkL; omega)) fun _ _=>?_
    | with_reducible refine ni ?_ ?_
    | with_reducible refine di ?_
    | with_reducible refine brD (fun _=>?_) fun _=>?_
    | with_reducible refine br! (fun _=>?_) fun _=>?_
    | with_reducible refine br (fun _=>?_) fun _=>?_
    | with_reducible refine bd (gr (by omega) (by omega)) fun _ _=>?_
    | with_reducible refine bd (wr (by omega) (by omega)) fun _ _=>?_
    | with_reducible refine bs ?_
    | with_reducible refine And.intro ?_ ?_
    | assumption
    | exact True.intro
    | omega
    | (dsimp only; omega)
    | (simp only [List.length_set,List.length_append,List.length_cons,List.length_nil,List.length_replicate]; omega)
    | (obtain ⟨_,_⟩:=‹_ ∧ _›)
theorem L47x2 (u : Z0j) (h : Z53 u) : Ok (Z0d (Zhj u) Z0i 0) (fun _=>True):=by
  have:=h.metL
  refine li (u.Z0m.length) (fun t _ _=>?_) (by omega) (by omega) (by omega)
  unfold Zhj
  repeat' first
    | with_reducible refine ni ?_ ?_
    | with_reducible refine di ?_
    | unfold Zfj
    | with_reducible refine brD (fun _=>?_) fun _=>?_
    | with_reducible refine br! (fun _=>?_) fun _=>?_
    | with_reducible refine brN (fun _=>?_) fun _=>?_
    | with_reducible refine br (fun _=>?_) fun _=>?_
    | with_reducible refine bd (gr (by omega) (by omega)) fun _ _=>?_
    | with_reducible refine bd (wr (by omega) (by omega)) fun _ _=>?_
    | with_reducible refine bd (L47x3 _ (by exact h.met _ (by assumption))) fun _ _=>?_
    | with_reducible refine bd (L47x4 _ (by exact h.met _ (by assumption))) fun _ _=>?_
    | with_reducible refine bs ?_
    | split
    | with_reducible refine And.intro ?_ ?_
    | assumption
    | exact True.intro
    | omega
    | (dsimp only; omega)
    | (simp only [List.length_set,List.length_append,List.length_cons,List.length_nil,List.length_replicate]; omega)
    | (obtain ⟨_,_⟩:=‹_ ∧ _›)
theorem Y0d (u : Z0j) (h : Z53 u) : Ok (Zhb u) (fun _=>True):=by
  unfold Zhb
  repeat' first
    | with_reducible refine bd (L47x1 _ (by first | assumption | omega | exact And.left (by assumption) | (dsimp only; omega))) fun _ _=>?_
    | with_reducible refine bd (L47x2 _ (by first | assumption | omega | exact And.left (by assumption) | (dsimp only; omega))) fun _ _=>?_
    | with_reducible refine ok ?_
    | split
    | with_reducible refine And.intro ?_ ?_
    | assumption
    | exact True.intro
    | omega
    | (dsimp only; omega)
    | (simp only [List.length_set,List.length_append,List.length_cons,List.length_nil,List.length_replicate]; omega)
    | (obtain ⟨_,_⟩:=‹_ ∧ _›)
end Go.Proofs
