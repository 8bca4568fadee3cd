/-
  That the models come to an answer, part one: names and loaders. No condition.
-/
import Derived.Test.YtldpbffppaednaaGreatAcc8
import Derived.Test.YtldpbffppaednaaGreatDenTot
set_option linter.unusedVariables false
namespace Go.Proofs
open Go.Den Go.Tot
abbrev Str (s : List UInt8) : Prop:=s.length ≤ 4503599627370496
structure WRef (r : Z27) : Prop where
  c : Str r.Z1g
  n : Str r.Z02
  d : Str r.Z1l
structure Z2r (i : Z01) : Prop where
  keys : i.Z0x.length * 8 ≤ 140737488355328
  tos : i.Z0b.length * 8 ≤ 140737488355328
  ref : WRef i.Z16
  s : Str i.f_S
structure Z96 (f : Z4z) : Prop where
  loc : ∀ v ∈ f.Z0v,Str v.Z1o.Z02
  locL : f.Z0v.length * 56 ≤ 140737488355328
  stk : ∀ v ∈ f.Z10,Str v.Z1o.Z02
  stkL : f.Z10.length * 56 ≤ 140737488355328
structure Z4v (c : Z08) : Prop where
  ins : ∀ i ∈ c.Z0q,Z2r i
  insL : c.Z0q.length * 144 ≤ 140737488355328
  hnd : ∀ h ∈ c.Z1m,Str h.Z1o
  hndL : c.Z1m.length * 48 ≤ 140737488355328
  map : ∀ m ∈ c.Z18,Z96 m.Z1p
  mapL : c.Z18.length * 64 ≤ 140737488355328
  linL : c.Z1h.length * 16 ≤ 140737488355328
structure Z92 (m : Z0w) : Prop where
  n : Str m.Z02
  d : Str m.Z1l
  code : Z4v m.Z2k
  exc : ∀ s ∈ m.Z6g,Str s
  excL : m.Z6g.length * 16 ≤ 140737488355328
structure Zjx (f : Z13) : Prop where
  n : Str f.Z02
  d : Str f.Z1l
  s : Str f.f_S
structure Z51 (u : Z0j) : Prop where
  n : Str u.Z02
  sup : Str u.Z07
  ifs : ∀ s ∈ u.Z06,Str s
  ifsL : u.Z06.length * 16 ≤ 140737488355328
  fld : ∀ f ∈ u.Z0n,Zjx f
  fldL : u.Z0n.length * 72 ≤ 140737488355328
  met : ∀ m ∈ u.Z0m,Z92 m
  metL : u.Z0m.length * 184 ≤ 140737488355328
  src : Str u.Z1a
structure Z6u (l : Z1n) : Prop where
  del : ∀ d ∈ l.Z3g,Str d.Zgw
  delL : l.Z3g.length ≤ 140737488355328
  sto : ∀ c ∈ l.Z2x,Str c.Z02
  stoL : l.Z2x.length ≤ 140737488355328
structure Z4h (w : Z0d) : Prop where
  lod : ∀ l ∈ w.Z22,Z6u l
  lodL : w.Z22.length ≤ 140737488355328
  cls : ∀ c ∈ w.Z1k,Z51 c.Z0s ∧ c.Z06.length ≤ 140737488355328
  clsL : w.Z1k.length ≤ 140737488355328
  ini : ∀ x ∈ w.Z2q,Str x.Z02
  iniL : w.Z2q.length ≤ 140737488355328
  con : ∀ x ∈ w.Z3o,Str x.Z02
  conL : w.Z3o.length ≤ 140737488355328
theorem Zw5 (x : Int) : Ok (Zjs x) (fun _=>True):=by
  unfold Zjs
  repeat' first
    | with_reducible refine brD (fun _=>?_) fun _=>?_
    | with_reducible refine brE (fun _=>?_) fun _=>?_
    | with_reducible refine br (fun _=>?_) fun _=>?_
    | with_reducible refine bs ?_
    | with_reducible refine ok ?_
    | with_reducible refine And.intro ?_ ?_
    | assumption
    | exact True.intro
    | omega
    | (dsimp only; omega)
    | (simp only [List.length_set,List.length_append,List.length_cons,List.length_nil,List.length_replicate]; omega)
    | (obtain ⟨_,_⟩:=‹_ ∧ _›)
theorem L34x1 (x : List UInt8) (h : Str x) : Ok (Z0c (Zfy x) Z0h 0) (fun q=>match q with | .inl _=>True | .inr y=>y = false):=by
  refine li (x.length) (fun t _ _=>?_) (by omega) (by omega) (by omega)
  unfold Zfy
  repeat' first
    | with_reducible refine ni ?_ ?_
    | with_reducible refine di ?_
    | with_reducible refine brD (fun _=>?_) fun _=>?_
    | with_reducible refine br! (fun _=>?_) fun _=>?_
    | with_reducible refine brE (fun _=>?_) fun _=>?_
    | with_reducible refine br (fun _=>?_) fun _=>?_
    | with_reducible refine bd (gs (by omega) (by omega)) fun _ _=>?_
    | with_reducible refine bd (wr (by omega) (by omega)) fun _ _=>?_
    | with_reducible refine bd (Zw5 _) fun _ _=>?_
    | with_reducible refine bs ?_
    | (rfl)
    | with_reducible refine And.intro ?_ ?_
    | assumption
    | exact True.intro
    | omega
    | (dsimp only; omega)
    | (simp only [List.length_set,List.length_append,List.length_cons,List.length_nil,List.length_replicate]; omega)
    | (obtain ⟨_,_⟩:=‹_ ∧ _›)
theorem Zkr (x : List UInt8) (h : Str x) : Ok (Zb1 x) (fun b=>b = true → x ≠ []):=by
  unfold Zb1
  repeat' first
    | with_reducible refine bd (L34x1 _ (by first | assumption | omega | exact And.left (by assumption) | (dsimp only; omega))) fun _ _=>?_
    | with_reducible refine bs ?_
    | with_reducible refine ok ?_
    | split
    | (first | (intro h; rintro rfl; simp at h; done) | (simp_all; done))
    | with_reducible refine And.intro ?_ ?_
    | assumption
    | exact True.intro
    | omega
    | (dsimp only; omega)
    | (simp only [List.length_set,List.length_append,List.length_cons,List.length_nil,List.length_replicate]; omega)
    | (obtain ⟨_,_⟩:=‹_ ∧ _›)
theorem L20x1 (x : List UInt8) (h : Str x) : Ok (Z0c (Zeq x) Z0h (0,0)) (fun q=>match q with | .inl y=>0 ≤ y ∧ y ≤ x.length | .inr y=>True):=by
  refine lp (fun t=>t.2) (x.length) (fun t=>0 ≤ t.1 ∧ t.1 ≤ t.2) (fun t hI _ _=>?_) (by omega) (by omega) (by omega) (by omega)
  try dsimp only at *
  unfold Zeq
  repeat' first
    | with_reducible refine nx ?_ ?_ ?_
    | with_reducible refine dn ?_
    | with_reducible refine brD (fun _=>?_) fun _=>?_
    | with_reducible refine br! (fun _=>?_) fun _=>?_
    | with_reducible refine brE (fun _=>?_) fun _=>?_
    | with_reducible refine br (fun _=>?_) fun _=>?_
    | with_reducible refine bd (gs (by omega) (by omega)) fun _ _=>?_
    | with_reducible refine bd (wr (by omega) (by omega)) fun _ _=>?_
    | with_reducible refine bd (sb (by omega) (by omega) (by omega)) fun _ _=>?_
    | with_reducible refine bd (Zkr _ (by unfold Str; omega)) fun _ _=>?_
    | with_reducible refine bs ?_
    | with_reducible refine And.intro ?_ ?_
    | assumption
    | exact True.intro
    | omega
    | (dsimp only; omega)
    | (simp only [List.length_set,List.length_append,List.length_cons,List.length_nil,List.length_replicate]; omega)
    | (obtain ⟨_,_⟩:=‹_ ∧ _›)
theorem Zfi (x : List UInt8) (h : Str x) : Ok (Z8y x) (fun b=>b = true → x.length ≤ 64):=by
  unfold Z8y
  repeat' first
    | with_reducible refine bdE (L20x1 _ (by assumption)) fun q _ hq=>?_
    | with_reducible refine brD (fun _=>?_) fun _=>?_
    | with_reducible refine br (fun _=>?_) fun _=>?_
    | with_reducible refine bd (sb (by omega) (by omega) (by omega)) fun _ _=>?_
    | with_reducible refine bd (L20x1 _ (by first | assumption | omega | exact And.left (by assumption) | (dsimp only; omega))) fun _ _=>?_
    | with_reducible refine bd (Zkr _ (by unfold Str; omega)) fun _ _=>?_
    | with_reducible refine bs ?_
    | with_reducible refine ok ?_
    | split
    | ((intro hb; first | (cases hb; done) | omega))
    | with_reducible refine And.intro ?_ ?_
    | assumption
    | exact True.intro
    | omega
    | (dsimp only; omega)
    | (simp only [List.length_set,List.length_append,List.length_cons,List.length_nil,List.length_replicate]; omega)
    | (obtain ⟨_,_⟩:=‹_ ∧ _›)
theorem Zvr (x y : List UInt8) : Ok (Z8e x y) (fun _=>True):=by
  unfold Z8e
  repeat' first
    | with_reducible refine brD (fun _=>?_) fun _=>?_
    | with_reducible refine br (fun _=>?_) fun _=>?_
    | with_reducible refine bd (sb (by omega) (by omega) (by omega)) fun _ _=>?_
    | with_reducible refine ok ?_
    | with_reducible refine And.intro ?_ ?_
    | assumption
    | exact True.intro
    | omega
    | (dsimp only; omega)
    | (simp only [List.length_set,List.length_append,List.length_cons,List.length_nil,List.length_replicate]; omega)
    | (obtain ⟨_,_⟩:=‹_ ∧ _›)
theorem L32x1 (x : Z1n) (i : Int) (h : Z6u x) : Ok (Z0c (Zj5 x i) Z0h 0) (fun _=>True):=by
  have:=h.stoL
  refine li (x.Z2x.length) (fun t _ _=>?_) (by omega) (by omega) (by omega)
  unfold Zj5
  repeat' first
    | with_reducible refine ni ?_ ?_
    | with_reducible refine di ?_
    | with_reducible refine brD (fun _=>?_) fun _=>?_
    | with_reducible refine br! (fun _=>?_) fun _=>?_
    | with_reducible refine br (fun _=>?_) fun _=>?_
    | with_reducible refine bd (gr (by omega) (by omega)) fun _ _=>?_
    | with_reducible refine bd (wr (by omega) (by omega)) fun _ _=>?_
    | with_reducible refine bd (Zfi _ (by exact h.sto _ (by assumption))) fun _ _=>?_
    | with_reducible refine bd (Zvr _ _) fun _ _=>?_
    | with_reducible refine bs ?_
    | with_reducible refine And.intro ?_ ?_
    | assumption
    | exact True.intro
    | omega
    | (dsimp only; omega)
    | (simp only [List.length_set,List.length_append,List.length_cons,List.length_nil,List.length_replicate]; omega)
    | (obtain ⟨_,_⟩:=‹_ ∧ _›)
theorem Zze (x : Z1n) (i : Int) (h : Z6u x) : Ok (Zfg x i) (fun _=>True):=by
  unfold Zfg
  repeat' first
    | with_reducible refine bd (L32x1 _ _ (by first | assumption | omega | exact And.left (by assumption) | (dsimp only; omega))) fun _ _=>?_
    | with_reducible refine ok ?_
    | split
    | with_reducible refine And.intro ?_ ?_
    | assumption
    | exact True.intro
    | omega
    | (dsimp only; omega)
    | (simp only [List.length_set,List.length_append,List.length_cons,List.length_nil,List.length_replicate]; omega)
    | (obtain ⟨_,_⟩:=‹_ ∧ _›)
theorem L33x2 (k : Int) (x : Z1n) (hl : x.Z2x.length ≤ 140737488355328) (h0 : 0 ≤ k) (h1 : k < x.Z2x.length) : Ok (Z0c (Zid k x) Z0h 0) (fun _=>True):=by
  refine li (k) (fun t _ _=>?_) (by omega) (by omega) (by omega)
  unfold Zid
  repeat' first
    | with_reducible refine ni ?_ ?_
    | with_reducible refine di ?_
    | with_reducible refine brD (fun _=>?_) fun _=>?_
    | with_reducible refine brE (fun _=>?_) fun _=>?_
    | with_reducible refine br (fun _=>?_) fun _=>?_
    | with_reducible refine bd (gr (by omega) (by omega)) fun _ _=>?_
    | with_reducible refine bd (wr (by omega) (by omega)) fun _ _=>?_
    | with_reducible refine bs ?_
    | with_reducible refine And.intro ?_ ?_
    | assumption
    | exact True.intro
    | omega
    | (dsimp only; omega)
    | (simp only [List.length_set,List.length_append,List.length_cons,List.length_nil,List.length_replicate]; omega)
    | (obtain ⟨_,_⟩:=‹_ ∧ _›)
theorem L33x1 (x : Z1n) (hl : x.Z2x.length ≤ 140737488355328) : Ok (Z0c (Zh1 x) Z0h 0) (fun _=>True):=by
  refine li (x.Z2x.length) (fun t _ _=>?_) (by omega) (by omega) (by omega)
  unfold Zh1
  repeat' first
    | with_reducible refine ni ?_ ?_
    | with_reducible refine di ?_
    | with_reducible refine brD (fun _=>?_) fun _=>?_
    | with_reducible refine br (fun _=>?_) fun _=>?_
    | with_reducible refine bd (wr (by omega) (by omega)) fun _ _=>?_
    | with_reducible refine bd (L33x2 _ _ (by first | assumption | omega | exact And.left (by assumption) | (dsimp only; omega)) (by first | assumption | omega | exact And.left (by assumption) | (dsimp only; omega)) (by first | assumption | omega | exact And.left (by assumption) | (dsimp only; omega))) fun _ _=>?_
    | with_reducible refine bs ?_
    | split
    | with_reducible refine And.intro ?_ ?_
    | assumption
    | exact True.intro
    | omega
    | (dsimp only; omega)
    | (simp only [List.length_set,List.length_append,List.length_cons,List.length_nil,List.length_replicate]; omega)
    | (obtain ⟨_,_⟩:=‹_ ∧ _›)
theorem Y0l (x : Z1n) (hl : x.Z2x.length ≤ 140737488355328) : Ok (Zh0 x) (fun _=>True):=by
  unfold Zh0
  repeat' first
    | with_reducible refine bd (L33x1 _ (by first | assumption | omega | exact And.left (by assumption) | (dsimp only; omega))) fun _ _=>?_
    | with_reducible refine ok ?_
    | split
    | with_reducible refine And.intro ?_ ?_
    | assumption
    | exact True.intro
    | omega
    | (dsimp only; omega)
    | (simp only [List.length_set,List.length_append,List.length_cons,List.length_nil,List.length_replicate]; omega)
    | (obtain ⟨_,_⟩:=‹_ ∧ _›)
theorem L19x1 (x : List Z1n) (h : ∀ l ∈ x,Z6u l) (hl : x.length ≤ 140737488355328) : Ok (Z0c (Zjt x) Z0h 0) (fun _=>True):=by
  refine li (x.length) (fun t _ _=>?_) (by omega) (by omega) (by omega)
  unfold Zjt
  repeat' first
    | with_reducible refine ni ?_ ?_
    | with_reducible refine di ?_
    | with_reducible refine brD (fun _=>?_) fun _=>?_
    | with_reducible refine br (fun _=>?_) fun _=>?_
    | with_reducible refine bd (gr (by omega) (by omega)) fun _ _=>?_
    | with_reducible refine bd (wr (by omega) (by omega)) fun _ _=>?_
    | with_reducible refine bs ?_
    | with_reducible refine And.intro ?_ ?_
    | assumption
    | exact True.intro
    | omega
    | (dsimp only; omega)
    | (simp only [List.length_set,List.length_append,List.length_cons,List.length_nil,List.length_replicate]; omega)
    | (obtain ⟨_,_⟩:=‹_ ∧ _›)
theorem L19x3 (k : Int) (x : List Z1n) (h : ∀ l ∈ x,Z6u l) (hl : x.length ≤ 140737488355328) (h0 : 0 ≤ k) (h1 : k < x.length) : Ok (Z0c (Zgs k x) Z0h 0) (fun _=>True):=by
  obtain ⟨y,hy,hm⟩:=gr h0 h1
  have:=(h y hm).delL
  refine li (y.Z3g.length) (fun t _ _=>?_) (by omega) (by omega) (by omega)
  unfold Zgs
  simp only [hy]
  repeat' first
    | with_reducible refine ni ?_ ?_
    | with_reducible refine di ?_
    | with_reducible refine brD (fun _=>?_) fun _=>?_
    | with_reducible refine br (fun _=>?_) fun _=>?_
    | with_reducible refine bd (gr (by omega) (by omega)) fun _ _=>?_
    | with_reducible refine bd (wr (by omega) (by omega)) fun _ _=>?_
    | with_reducible refine bs ?_
    | with_reducible refine And.intro ?_ ?_
    | assumption
    | exact True.intro
    | omega
    | (dsimp only; omega)
    | (simp only [List.length_set,List.length_append,List.length_cons,List.length_nil,List.length_replicate]; omega)
    | (obtain ⟨_,_⟩:=‹_ ∧ _›)
theorem L19x2 (x : List Z1n) (h : ∀ l ∈ x,Z6u l) (hl : x.length ≤ 140737488355328) : Ok (Z0c (Zff x) Z0h 0) (fun _=>True):=by
  refine li (x.length) (fun t _ _=>?_) (by omega) (by omega) (by omega)
  unfold Zff
  repeat' first
    | with_reducible refine ni ?_ ?_
    | with_reducible refine di ?_
    | with_reducible refine brD (fun _=>?_) fun _=>?_
    | with_reducible refine br (fun _=>?_) fun _=>?_
    | with_reducible refine bd (wr (by omega) (by omega)) fun _ _=>?_
    | with_reducible refine bd (L19x3 _ _ (by first | assumption | omega | exact And.left (by assumption) | (dsimp only; omega)) (by first | assumption | omega | exact And.left (by assumption) | (dsimp only; omega)) (by first | assumption | omega | exact And.left (by assumption) | (dsimp only; omega)) (by first | assumption | omega | exact And.left (by assumption) | (dsimp only; omega))) fun _ _=>?_
    | with_reducible refine bs ?_
    | split
    | with_reducible refine And.intro ?_ ?_
    | assumption
    | exact True.intro
    | omega
    | (dsimp only; omega)
    | (simp only [List.length_set,List.length_append,List.length_cons,List.length_nil,List.length_replicate]; omega)
    | (obtain ⟨_,_⟩:=‹_ ∧ _›)
theorem L19x4 (x : List Z1n) (h : ∀ l ∈ x,Z6u l) (hl : x.length ≤ 140737488355328) : Ok (Z0c (Zgc x) Z0h 0) (fun _=>True):=by
  refine li (x.length) (fun t _ _=>?_) (by omega) (by omega) (by omega)
  unfold Zgc
  repeat' first
    | with_reducible refine ni ?_ ?_
    | with_reducible refine di ?_
    | with_reducible refine brD (fun _=>?_) fun _=>?_
    | with_reducible refine brN (fun _=>?_) fun _=>?_
    | with_reducible refine br (fun _=>?_) fun _=>?_
    | with_reducible refine bd (gr (by omega) (by omega)) fun _ _=>?_
    | with_reducible refine bd (wr (by omega) (by omega)) fun _ _=>?_
    | with_reducible refine bd (Zze _ _ (by exact h _ (by assumption))) fun _ _=>?_
    | with_reducible refine bs ?_
    | with_reducible refine And.intro ?_ ?_
    | assumption
    | exact True.intro
    | omega
    | (dsimp only; omega)
    | (simp only [List.length_set,List.length_append,List.length_cons,List.length_nil,List.length_replicate]; omega)
    | (obtain ⟨_,_⟩:=‹_ ∧ _›)
theorem L19x5 (x : List Z1n) (h : ∀ l ∈ x,Z6u l) (hl : x.length ≤ 140737488355328) : Ok (Z0c (Zh8 x) Z0h 0) (fun _=>True):=by
  refine li (x.length) (fun t _ _=>?_) (by omega) (by omega) (by omega)
  unfold Zh8
  repeat' first
    | with_reducible refine ni ?_ ?_
    | with_reducible refine di ?_
    | with_reducible refine brD (fun _=>?_) fun _=>?_
    | with_reducible refine br (fun _=>?_) fun _=>?_
    | with_reducible refine bd (gr (by omega) (by omega)) fun _ _=>?_
    | with_reducible refine bd (wr (by omega) (by omega)) fun _ _=>?_
    | with_reducible refine bd (Y0l _ (by exact (h _ (by assumption)).stoL)) fun _ _=>?_
    | with_reducible refine bs ?_
    | with_reducible refine And.intro ?_ ?_
    | assumption
    | exact True.intro
    | omega
    | (dsimp only; omega)
    | (simp only [List.length_set,List.length_append,List.length_cons,List.length_nil,List.length_replicate]; omega)
    | (obtain ⟨_,_⟩:=‹_ ∧ _›)
theorem Zwf (x : List Z1n) (h : ∀ l ∈ x,Z6u l) (hl : x.length ≤ 140737488355328) : Ok (Zfd x) (fun e=>e = 0 → x.length ≤ 8):=by
  unfold Zfd
  repeat' first
    | unfold j19x1
    | with_reducible refine brD (fun _=>?_) fun _=>?_
    | with_reducible refine brE (fun _=>?_) fun _=>?_
    | with_reducible refine br (fun _=>?_) fun _=>?_
    | with_reducible refine bd (L19x1 _ (by first | assumption | omega | exact And.left (by assumption) | (dsimp only; omega)) (by first | assumption | omega | exact And.left (by assumption) | (dsimp only; omega))) fun _ _=>?_
    | with_reducible refine bd (L19x2 _ (by first | assumption | omega | exact And.left (by assumption) | (dsimp only; omega)) (by first | assumption | omega | exact And.left (by assumption) | (dsimp only; omega))) fun _ _=>?_
    | with_reducible refine bd (L19x4 _ (by first | assumption | omega | exact And.left (by assumption) | (dsimp only; omega)) (by first | assumption | omega | exact And.left (by assumption) | (dsimp only; omega))) fun _ _=>?_
    | with_reducible refine bd (L19x5 _ (by first | assumption | omega | exact And.left (by assumption) | (dsimp only; omega)) (by first | assumption | omega | exact And.left (by assumption) | (dsimp only; omega))) fun _ _=>?_
    | with_reducible refine bs ?_
    | with_reducible refine ok ?_
    | split
    | with_reducible refine And.intro ?_ ?_
    | assumption
    | exact True.intro
    | omega
    | (dsimp only; omega)
    | (simp only [List.length_set,List.length_append,List.length_cons,List.length_nil,List.length_replicate]; omega)
    | (obtain ⟨_,_⟩:=‹_ ∧ _›)
theorem L21x1 (v : Z2l) (w : Z0d) (i : Int) (h : Z4h w) (h0 : 0 ≤ i) (h1 : i < w.Z2q.length) : Ok (Z0c (Zf5 v w i) Z0h 0) (fun _=>True):=by
  have:=h.iniL
  refine li (i) (fun t _ _=>?_) (by omega) (by omega) (by omega)
  unfold Zf5
  repeat' first
    | with_reducible refine ni ?_ ?_
    | with_reducible refine di ?_
    | with_reducible refine brD (fun _=>?_) fun _=>?_
    | with_reducible refine brE (fun _=>?_) fun _=>?_
    | with_reducible refine br (fun _=>?_) fun _=>?_
    | with_reducible refine bd (gr (by omega) (by omega)) fun _ _=>?_
    | with_reducible refine bd (wr (by omega) (by omega)) fun _ _=>?_
    | with_reducible refine bs ?_
    | with_reducible refine And.intro ?_ ?_
    | assumption
    | exact True.intro
    | omega
    | (dsimp only; omega)
    | (simp only [List.length_set,List.length_append,List.length_cons,List.length_nil,List.length_replicate]; omega)
    | (obtain ⟨_,_⟩:=‹_ ∧ _›)
def Z7b (w : Z0d) (v : Z2l) : Prop:=0 ≤ v.Z0u ∧ v.Z0u < w.Z22.length ∧ 0 ≤ v.Z1g ∧ v.Z1g < w.Z1k.length
def Z7u (w : Z0d) (b : Z4c) : Prop:=0 ≤ b.f_A ∧ b.f_A < w.Z22.length ∧ 0 ≤ b.f_B ∧ b.f_B < w.Z22.length
theorem Zx2 (w : Z0d) (i : Int) (h : Z4h w) (h0 : 0 ≤ i) (h1 : i < w.Z2q.length) : Ok (Zfc w i) (fun b=>b = true → ∀ v,w.Z2q[i.toNat]? = some v → Z7b w v):=by
  have:=h.iniL
  unfold Zfc
  repeat' first
    | with_reducible refine bd (gri (by omega) (by omega)) fun _ _=>?_
    | unfold j21x1
    | with_reducible refine brD (fun _=>?_) fun _=>?_
    | with_reducible refine br! (fun _=>?_) fun _=>?_
    | with_reducible refine br (fun _=>?_) fun _=>?_
    | with_reducible refine bd (gr (by omega) (by omega)) fun _ _=>?_
    | with_reducible refine bd (L21x1 _ _ _ (by first | assumption | omega | exact And.left (by assumption) | (dsimp only; omega)) (by first | assumption | omega | exact And.left (by assumption) | (dsimp only; omega)) (by first | assumption | omega | exact And.left (by assumption) | (dsimp only; omega))) fun _ _=>?_
    | with_reducible refine bs ?_
    | with_reducible refine ok ?_
    | split
    | ((intro hb v hv; first | (cases hb; done) | (have e : ∀ a,w.Z2q[i.toNat]? = some a → a = v:=fun a ha=>by { rw [hv] at ha; cases ha; rfl }; have:=e _ (And.right (by assumption)); subst this; exact ⟨by omega,by omega,by omega,by omega⟩)))
    | with_reducible refine And.intro ?_ ?_
    | assumption
    | exact True.intro
    | omega
    | (dsimp only; omega)
    | (simp only [List.length_set,List.length_append,List.length_cons,List.length_nil,List.length_replicate]; omega)
    | (obtain ⟨_,_⟩:=‹_ ∧ _›)
theorem L35x2 (w : Z0d) (s : List UInt8) (l0 : List Bool) (h : Z4h w) (hl : w.Z22.length ≤ 8) (hc : ∀ b ∈ w.Z3o,Z7u w b) (h0 : l0.length = w.Z22.length) : Ok (Z0c (Zga w s) Z0h (0,l0)) (fun r=>r.length = w.Z22.length):=by
  have:=h.conL
  refine lp (fun t=>t.1) (w.Z3o.length) (fun t=>t.2.length = w.Z22.length) (fun t hI _ _=>?_) (by omega) (by exact h0) (by omega) (by omega)
  try dsimp only at *
  unfold Zga
  repeat' first
    | with_reducible refine bd (ik (by have:=hc _ (by assumption); unfold Z7u at this; omega) (by have:=hc _ (by assumption); unfold Z7u at this; first | omega | (simp only [List.length_set]; omega))) fun _ _=>?_
    | with_reducible refine nx ?_ ?_ ?_
    | with_reducible refine dn ?_
    | unfold Zey
    | with_reducible refine brD (fun _=>?_) fun _=>?_
    | with_reducible refine brE (fun _=>?_) fun _=>?_
    | with_reducible refine br (fun _=>?_) fun _=>?_
    | with_reducible refine bd (gr (by omega) (by omega)) fun _ _=>?_
    | with_reducible refine bd (ik (by omega) (by first | omega | (simp only [List.length_set,List.length_append,List.length_cons,List.length_nil,List.length_replicate]; omega))) fun _ _=>?_
    | with_reducible refine bd (la (by first | omega | (simp only [List.length_set,List.length_append,List.length_cons,List.length_nil,List.length_replicate]; omega))) fun _ _=>?_
    | with_reducible refine bd (wr (by omega) (by omega)) fun _ _=>?_
    | with_reducible refine bs ?_
    | with_reducible refine And.intro ?_ ?_
    | assumption
    | exact True.intro
    | omega
    | (dsimp only; omega)
    | (simp only [List.length_set,List.length_append,List.length_cons,List.length_nil,List.length_replicate]; omega)
    | (obtain ⟨_,_⟩:=‹_ ∧ _›)
theorem L35x1 (w : Z0d) (s : List UInt8) (l0 : List Bool) (h : Z4h w) (hl : w.Z22.length ≤ 8) (hc : ∀ b ∈ w.Z3o,Z7u w b) (h0 : l0.length = w.Z22.length) : Ok (Z0c (Zg1 w s) Z0h (0,l0)) (fun r=>r.length = w.Z22.length):=by
  refine lp (fun t=>t.1) (w.Z22.length) (fun t=>t.2.length = w.Z22.length) (fun t hI _ _=>?_) (by omega) (by exact h0) (by omega) (by omega)
  try dsimp only at *
  unfold Zg1
  repeat' first
    | with_reducible refine nx ?_ ?_ ?_
    | with_reducible refine dn ?_
    | with_reducible refine brD (fun _=>?_) fun _=>?_
    | with_reducible refine br (fun _=>?_) fun _=>?_
    | with_reducible refine bd (wr (by omega) (by omega)) fun _ _=>?_
    | with_reducible refine bd (L35x2 _ _ _ (by first | assumption | omega | exact And.left (by assumption) | (dsimp only; omega)) (by first | assumption | omega | exact And.left (by assumption) | (dsimp only; omega)) (by first | assumption | omega | exact And.left (by assumption) | (dsimp only; omega)) (by first | assumption | omega | exact And.left (by assumption) | (dsimp only; omega))) fun _ _=>?_
    | with_reducible refine bs ?_
    | with_reducible refine And.intro ?_ ?_
    | assumption
    | exact True.intro
    | omega
    | (dsimp only; omega)
    | (simp only [List.length_set,List.length_append,List.length_cons,List.length_nil,List.length_replicate]; omega)
    | (obtain ⟨_,_⟩:=‹_ ∧ _›)
theorem Zwj (w : Z0d) (s : List UInt8) (k : Int) (h : Z4h w) (hl : w.Z22.length ≤ 8) (hc : ∀ b ∈ w.Z3o,Z7u w b) (h0 : 0 ≤ k) (h1 : k < w.Z22.length) : Ok (Zf6 w s k) (fun r=>r.length = w.Z22.length):=by
  unfold Zf6
  repeat' first
    | with_reducible refine bd (ik (by omega) (by first | omega | (simp only [List.length_set,List.length_append,List.length_cons,List.length_nil,List.length_replicate]; omega))) fun _ _=>?_
    | with_reducible refine bd (la (by first | omega | (simp only [List.length_set,List.length_append,List.length_cons,List.length_nil,List.length_replicate]; omega))) fun _ _=>?_
    | with_reducible refine bd (mk (by omega) (by omega) (by omega) (by omega)) fun _ _=>?_
    | with_reducible refine bd (L35x1 _ _ _ (by first | assumption | (simp only [List.length_set,List.length_replicate]; omega)) (by first | assumption | (simp only [List.length_set,List.length_replicate]; omega)) (by first | assumption | (simp only [List.length_set,List.length_replicate]; omega)) (by first | assumption | (simp only [List.length_set,List.length_replicate]; omega))) fun _ _=>?_
    | with_reducible refine ok ?_
    | with_reducible refine And.intro ?_ ?_
    | assumption
    | exact True.intro
    | omega
    | (dsimp only; omega)
    | (simp only [List.length_set,List.length_append,List.length_cons,List.length_nil,List.length_replicate]; omega)
    | (obtain ⟨_,_⟩:=‹_ ∧ _›)
theorem L22x1 (v : Z2l) (g : List Bool) (w : Z0d) (i : Int) (h : Z4h w) (h0 : 0 ≤ i) (h1 : i < w.Z2q.length) (hg : g.length = w.Z22.length) (hs : ∀ (j : Nat) v,j < i → w.Z2q[j]? = some v → Z7b w v) : Ok (Z0c (Zgy v g w i) Z0h 0) (fun _=>True):=by
  have:=h.iniL
  refine li (i) (fun t _ _=>?_) (by omega) (by omega) (by omega)
  unfold Zgy
  repeat' first
    | with_reducible refine bd (gri (by omega) (by omega)) fun _ _=>?_
    | with_reducible refine bd (gr (by have:=hs t.toNat _ (by omega) (And.right (by assumption)); unfold Z7b at this; omega) (by have:=hs t.toNat _ (by omega) (And.right (by assumption)); unfold Z7b at this; omega)) fun _ _=>?_
    | with_reducible refine ni ?_ ?_
    | with_reducible refine di ?_
    | with_reducible refine brD (fun _=>?_) fun _=>?_
    | with_reducible refine brE (fun _=>?_) fun _=>?_
    | with_reducible refine brN (fun _=>?_) fun _=>?_
    | with_reducible refine br (fun _=>?_) fun _=>?_
    | with_reducible refine bd (gr (by omega) (by omega)) fun _ _=>?_
    | with_reducible refine bd (wr (by omega) (by omega)) fun _ _=>?_
    | with_reducible refine bs ?_
    | with_reducible refine And.intro ?_ ?_
    | assumption
    | exact True.intro
    | omega
    | (dsimp only; omega)
    | (simp only [List.length_set,List.length_append,List.length_cons,List.length_nil,List.length_replicate]; omega)
    | (obtain ⟨_,_⟩:=‹_ ∧ _›)
theorem Zzh (w : Z0d) (i : Int) (h : Z4h w) (hl : w.Z22.length ≤ 8) (hc : ∀ b ∈ w.Z3o,Z7u w b) (h0 : 0 ≤ i) (h1 : i < w.Z2q.length) (hs : ∀ (j : Nat) v,j ≤ i → w.Z2q[j]? = some v → Z7b w v) : Ok (Zfz w i) (fun _=>True):=by
  have:=h.iniL
  unfold Zfz
  repeat' first
    | with_reducible refine bd (gri (by omega) (by omega)) fun _ _=>?_
    | with_reducible refine bd (Zwj _ _ _ h hl hc (by have:=hs i.toNat _ (by omega) (And.right (by assumption)); unfold Z7b at this; omega) (by have:=hs i.toNat _ (by omega) (And.right (by assumption)); unfold Z7b at this; omega)) fun _ _=>?_
    | with_reducible refine bd (L22x1 _ _ _ _ h h0 h1 (by assumption) (fun j v hj hv=>hs j v (by omega) hv)) fun _ _=>?_
    | with_reducible refine bd (gr (by omega) (by omega)) fun _ _=>?_
    | with_reducible refine ok ?_
    | split
    | with_reducible refine And.intro ?_ ?_
    | assumption
    | exact True.intro
    | omega
    | (dsimp only; omega)
    | (simp only [List.length_set,List.length_append,List.length_cons,List.length_nil,List.length_replicate]; omega)
    | (obtain ⟨_,_⟩:=‹_ ∧ _›)
theorem L53x1 (x : List Z0e) (hl : x.length ≤ 140737488355328) : Ok (Z0c (Zes x) Z0h 0) (fun _=>True):=by
  refine li (x.length) (fun t _ _=>?_) (by omega) (by omega) (by omega)
  unfold Zes
  repeat' first
    | with_reducible refine ni ?_ ?_
    | with_reducible refine di ?_
    | with_reducible refine brD (fun _=>?_) fun _=>?_
    | with_reducible refine brN (fun _=>?_) fun _=>?_
    | with_reducible refine br (fun _=>?_) fun _=>?_
    | with_reducible refine bd (gr (by omega) (by omega)) fun _ _=>?_
    | with_reducible refine bd (wr (by omega) (by omega)) fun _ _=>?_
    | with_reducible refine bs ?_
    | with_reducible refine And.intro ?_ ?_
    | assumption
    | exact True.intro
    | omega
    | (dsimp only; omega)
    | (simp only [List.length_set,List.length_append,List.length_cons,List.length_nil,List.length_replicate]; omega)
    | (obtain ⟨_,_⟩:=‹_ ∧ _›)
theorem Zpv (x : List Z0e) (hl : x.length ≤ 140737488355328) : Ok (Zbs x) (fun _=>True):=by
  unfold Zbs
  repeat' first
    | with_reducible refine bd (L53x1 _ (by first | assumption | omega | exact And.left (by assumption) | (dsimp only; omega))) fun _ _=>?_
    | with_reducible refine ok ?_
    | split
    | with_reducible refine And.intro ?_ ?_
    | assumption
    | exact True.intro
    | omega
    | (dsimp only; omega)
    | (simp only [List.length_set,List.length_append,List.length_cons,List.length_nil,List.length_replicate]; omega)
    | (obtain ⟨_,_⟩:=‹_ ∧ _›)
theorem L47x1 (u : Z0j) (h : Z51 u) : Ok (Z0c (Zjo u) Z0h 0) (fun _=>True):=by
  have:=h.fldL
  refine li (u.Z0n.length) (fun t _ _=>?_) (by omega) (by omega) (by omega)
  unfold Zjo
  repeat' first
    | with_reducible refine ni ?_ ?_
    | with_reducible refine di ?_
    | unfold Zhl
    | with_reducible refine brD (fun _=>?_) fun _=>?_
    | with_reducible refine br! (fun _=>?_) fun _=>?_
    | with_reducible refine brE (fun _=>?_) fun _=>?_
    | with_reducible refine brN (fun _=>?_) fun _=>?_
    | with_reducible refine br (fun _=>?_) fun _=>?_
    | with_reducible refine bd (gr (by omega) (by omega)) fun _ _=>?_
    | with_reducible refine bd (wr (by omega) (by omega)) fun _ _=>?_
    | with_reducible refine bs ?_
    | with_reducible refine And.intro ?_ ?_
    | assumption
    | exact True.intro
    | omega
    | (dsimp only; omega)
    | (simp only [List.length_set,List.length_append,List.length_cons,List.length_nil,List.length_replicate]; omega)
    | (obtain ⟨_,_⟩:=‹_ ∧ _›)
theorem L47x3 (m : Z0w) (h : Z92 m) : Ok (Z0c (Zi6 m) Z0h 0) (fun _=>True):=by
  have:=h.code.hndL
  refine li (m.Z2k.Z1m.length) (fun t _ _=>?_) (by omega) (by omega) (by omega)
  unfold Zi6
  repeat' first
    | with_reducible refine ni ?_ ?_
    | with_reducible refine di ?_
    | with_reducible refine brD (fun _=>?_) fun _=>?_
    | with_reducible refine brN (fun _=>?_) fun _=>?_
    | with_reducible refine br (fun _=>?_) fun _=>?_
    | with_reducible refine bd (gr (by omega) (by omega)) fun _ _=>?_
    | with_reducible refine bd (wr (by omega) (by omega)) fun _ _=>?_
    | with_reducible refine bs ?_
    | with_reducible refine And.intro ?_ ?_
    | assumption
    | exact True.intro
    | omega
    | (dsimp only; omega)
    | (simp only [List.length_set,List.length_append,List.length_cons,List.length_nil,List.length_replicate]; omega)
    | (obtain ⟨_,_⟩:=‹_ ∧ _›)
theorem L47x4 (m : Z0w) (h : Z92 m) : Ok (Z0c (Zfm m) Z0h 0) (fun _=>True):=by
  have:=h.code.mapL
  refine li (m.Z2k.Z18.length) (fun t _ _=>?_) (by omega) (by omega) (by omega)
  unfold Zfm
  repeat' first
    | with_reducible refine bd (Zpv _ (by have:=(h.code.map _ (by assumption)).locL; omega)) fun _ _=>?_
    | with_reducible refine bd (Zpv _ (by have:=(h.code.map _ (by assumption)).stkL; omega)) fun _ _=>?_
    | with_reducible refine ni ?_ ?_
    | with_reducible refine di ?_
    | with_reducible refine brD (fun _=>?_) fun _=>?_
    | with_reducible refine br! (fun _=>?_) fun _=>?_
    | with_reducible refine br (fun _=>?_) fun _=>?_
    | with_reducible refine bd (gr (by omega) (by omega)) fun _ _=>?_
    | with_reducible refine bd (wr (by omega) (by omega)) fun _ _=>?_
    | with_reducible refine bs ?_
    | with_reducible refine And.intro ?_ ?_
    | assumption
    | exact True.intro
    | omega
    | (dsimp only; omega)
    | (simp only [List.length_set,List.length_append,List.length_cons,List.length_nil,List.length_replicate]; omega)
    | (obtain ⟨_,_⟩:=‹_ ∧ _›)
theorem L47x2 (u : Z0j) (h : Z51 u) : Ok (Z0c (Zgn u) Z0h 0) (fun _=>True):=by
  have:=h.metL
  refine li (u.Z0m.length) (fun t _ _=>?_) (by omega) (by omega) (by omega)
  unfold Zgn
  repeat' first
    | with_reducible refine ni ?_ ?_
    | with_reducible refine di ?_
    | unfold Zgo
    | with_reducible refine brD (fun _=>?_) fun _=>?_
    | with_reducible refine br! (fun _=>?_) fun _=>?_
    | with_reducible refine brN (fun _=>?_) fun _=>?_
    | with_reducible refine br (fun _=>?_) fun _=>?_
    | with_reducible refine bd (gr (by omega) (by omega)) fun _ _=>?_
    | with_reducible refine bd (wr (by omega) (by omega)) fun _ _=>?_
    | with_reducible refine bd (L47x3 _ (by exact h.met _ (by assumption))) fun _ _=>?_
    | with_reducible refine bd (L47x4 _ (by exact h.met _ (by assumption))) fun _ _=>?_
    | with_reducible refine bs ?_
    | split
    | with_reducible refine And.intro ?_ ?_
    | assumption
    | exact True.intro
    | omega
    | (dsimp only; omega)
    | (simp only [List.length_set,List.length_append,List.length_cons,List.length_nil,List.length_replicate]; omega)
    | (obtain ⟨_,_⟩:=‹_ ∧ _›)
theorem Zxf (u : Z0j) (h : Z51 u) : Ok (Zgh u) (fun _=>True):=by
  unfold Zgh
  repeat' first
    | with_reducible refine bd (L47x1 _ (by first | assumption | omega | exact And.left (by assumption) | (dsimp only; omega))) fun _ _=>?_
    | with_reducible refine bd (L47x2 _ (by first | assumption | omega | exact And.left (by assumption) | (dsimp only; omega))) fun _ _=>?_
    | with_reducible refine ok ?_
    | split
    | with_reducible refine And.intro ?_ ?_
    | assumption
    | exact True.intro
    | omega
    | (dsimp only; omega)
    | (simp only [List.length_set,List.length_append,List.length_cons,List.length_nil,List.length_replicate]; omega)
    | (obtain ⟨_,_⟩:=‹_ ∧ _›)
end Go.Proofs
