/-
  That the models come to an answer, part one: names and loaders. No condition.
-/
import Derived.Test.YtldpbffppaednaaGreatAcc8
import Derived.Test.YtldpbffppaednaaGreatDenTot
set_option linter.unusedVariables false
namespace Go.Proofs
open Go.Den Go.Tot
abbrev Str (s : List UInt8) : Prop:=s.length ≤ 4503599627370496
structure WRef (r : Z28) : Prop where
  c : Str r.Z1h
  n : Str r.Z02
  d : Str r.Z1m
structure Z2r (i : Z01) : Prop where
  keys : i.Z0z.length * 8 ≤ 140737488355328
  tos : i.Z0b.length * 8 ≤ 140737488355328
  ref : WRef i.Z16
  s : Str i.f_S
structure Z8t (f : Z50) : Prop where
  loc : ∀ v ∈ f.Z0v,Str v.Z1p.Z02
  locL : f.Z0v.length * 56 ≤ 140737488355328
  stk : ∀ v ∈ f.Z10,Str v.Z1p.Z02
  stkL : f.Z10.length * 56 ≤ 140737488355328
structure Z4n (c : Z08) : Prop where
  ins : ∀ i ∈ c.Z0q,Z2r i
  insL : c.Z0q.length * 144 ≤ 140737488355328
  hnd : ∀ h ∈ c.Z1n,Str h.Z1p
  hndL : c.Z1n.length * 48 ≤ 140737488355328
  map : ∀ m ∈ c.Z18,Z8t m.Z1q
  mapL : c.Z18.length * 64 ≤ 140737488355328
  linL : c.Z1g.length * 16 ≤ 140737488355328
structure Z9b (m : Z0y) : Prop where
  n : Str m.Z02
  d : Str m.Z1m
  code : Z4n m.Z2o
  exc : ∀ s ∈ m.Z6e,Str s
  excL : m.Z6e.length * 16 ≤ 140737488355328
structure Zml (f : Z13) : Prop where
  n : Str f.Z02
  d : Str f.Z1m
  s : Str f.f_S
structure Z4y (u : Z0j) : Prop where
  n : Str u.Z02
  sup : Str u.Z07
  ifs : ∀ s ∈ u.Z05,Str s
  ifsL : u.Z05.length * 16 ≤ 140737488355328
  fld : ∀ f ∈ u.Z0n,Zml f
  fldL : u.Z0n.length * 72 ≤ 140737488355328
  met : ∀ m ∈ u.Z0m,Z9b m
  metL : u.Z0m.length * 184 ≤ 140737488355328
  src : Str u.Z19
structure Z6g (l : Z1o) : Prop where
  del : ∀ d ∈ l.Z3h,Str d.Zfn
  delL : l.Z3h.length ≤ 140737488355328
  sto : ∀ c ∈ l.Z2x,Str c.Z02
  stoL : l.Z2x.length ≤ 140737488355328
structure Z4u (w : Z09) : Prop where
  lod : ∀ l ∈ w.Z23,Z6g l
  lodL : w.Z23.length ≤ 140737488355328
  cls : ∀ c ∈ w.Z1c,Z4y c.Z0s ∧ c.Z05.length ≤ 140737488355328
  clsL : w.Z1c.length ≤ 140737488355328
  ini : ∀ x ∈ w.Z2q,Str x.Z02
  iniL : w.Z2q.length ≤ 140737488355328
  con : ∀ x ∈ w.Z3q,Str x.Z02
  conL : w.Z3q.length ≤ 140737488355328
theorem Zys (x : Int) : Ok (Ziu x) (fun _=>True):=by
  unfold Ziu
  repeat' first
    | with_reducible refine brD (fun _=>?_) fun _=>?_
    | with_reducible refine brE (fun _=>?_) fun _=>?_
    | with_reducible refine br (fun _=>?_) fun _=>?_
    | with_reducible refine bs ?_
    | with_reducible refine ok ?_
    | with_reducible refine And.intro ?_ ?_
    | assumption
    | exact True.intro
    | omega
    | (dsimp only; omega)
    | (simp only [List.length_set,List.length_append,List.length_cons,List.length_nil,List.length_replicate]; omega)
    | (obtain ⟨_,_⟩:=‹_ ∧ _›)
theorem L34x1 (x : List UInt8) (h : Str x) : Ok (Z0e (Zga x) Z0i 0) (fun q=>match q with | .inl _=>True | .inr y=>y = false):=by
  refine li (x.length) (fun t _ _=>?_) (by omega) (by omega) (by omega)
  unfold Zga
  repeat' first
    | with_reducible refine ni ?_ ?_
    | with_reducible refine di ?_
    | with_reducible refine brD (fun _=>?_) fun _=>?_
    | with_reducible refine br! (fun _=>?_) fun _=>?_
    | with_reducible refine brE (fun _=>?_) fun _=>?_
    | with_reducible refine br (fun _=>?_) fun _=>?_
    | with_reducible refine bd (gs (by omega) (by omega)) fun _ _=>?_
    | with_reducible refine bd (wr (by omega) (by omega)) fun _ _=>?_
    | with_reducible refine bd (Zys _) fun _ _=>?_
    | with_reducible refine bs ?_
    | (rfl)
    | with_reducible refine And.intro ?_ ?_
    | assumption
    | exact True.intro
    | omega
    | (dsimp only; omega)
    | (simp only [List.length_set,List.length_append,List.length_cons,List.length_nil,List.length_replicate]; omega)
    | (obtain ⟨_,_⟩:=‹_ ∧ _›)
theorem Znt (x : List UInt8) (h : Str x) : Ok (Zau x) (fun b=>b = true → x ≠ []):=by
  unfold Zau
  repeat' first
    | with_reducible refine bd (L34x1 _ (by first | assumption | omega | exact And.left (by assumption) | (dsimp only; omega))) fun _ _=>?_
    | with_reducible refine bs ?_
    | with_reducible refine ok ?_
    | split
    | (first | (intro h; rintro rfl; simp at h; done) | (simp_all; done))
    | with_reducible refine And.intro ?_ ?_
    | assumption
    | exact True.intro
    | omega
    | (dsimp only; omega)
    | (simp only [List.length_set,List.length_append,List.length_cons,List.length_nil,List.length_replicate]; omega)
    | (obtain ⟨_,_⟩:=‹_ ∧ _›)
theorem L20x1 (x : List UInt8) (h : Str x) : Ok (Z0e (Zgt x) Z0i (0,0)) (fun q=>match q with | .inl y=>0 ≤ y ∧ y ≤ x.length | .inr y=>True):=by
  refine lp (fun t=>t.2) (x.length) (fun t=>0 ≤ t.1 ∧ t.1 ≤ t.2) (fun t hI _ _=>?_) (by omega) (by omega) (by omega) (by omega)
  try dsimp only at *
  unfold Zgt
  repeat' first
    | with_reducible refine nx ?_ ?_ ?_
    | with_reducible refine dn ?_
    | with_reducible refine brD (fun _=>?_) fun _=>?_
    | with_reducible refine br! (fun _=>?_) fun _=>?_
    | with_reducible refine brE (fun _=>?_) fun _=>?_
    | with_reducible refine br (fun _=>?_) fun _=>?_
    | with_reducible refine bd (gs (by omega) (by omega)) fun _ _=>?_
    | with_reducible refine bd (wr (by omega) (by omega)) fun _ _=>?_
    | with_reducible refine bd (sb (by omega) (by omega) (by omega)) fun _ _=>?_
    | with_reducible refine bd (Znt _ (by unfold Str; omega)) fun _ _=>?_
    | with_reducible refine bs ?_
    | with_reducible refine And.intro ?_ ?_
    | assumption
    | exact True.intro
    | omega
    | (dsimp only; omega)
    | (simp only [List.length_set,List.length_append,List.length_cons,List.length_nil,List.length_replicate]; omega)
    | (obtain ⟨_,_⟩:=‹_ ∧ _›)
theorem Zfb (x : List UInt8) (h : Str x) : Ok (Z9e x) (fun b=>b = true → x.length ≤ 64):=by
  unfold Z9e
  repeat' first
    | with_reducible refine bdE (L20x1 _ (by assumption)) fun q _ hq=>?_
    | with_reducible refine brD (fun _=>?_) fun _=>?_
    | with_reducible refine br (fun _=>?_) fun _=>?_
    | with_reducible refine bd (sb (by omega) (by omega) (by omega)) fun _ _=>?_
    | with_reducible refine bd (L20x1 _ (by first | assumption | omega | exact And.left (by assumption) | (dsimp only; omega))) fun _ _=>?_
    | with_reducible refine bd (Znt _ (by unfold Str; omega)) fun _ _=>?_
    | with_reducible refine bs ?_
    | with_reducible refine ok ?_
    | split
    | ((intro hb; first | (cases hb; done) | omega))
    | with_reducible refine And.intro ?_ ?_
    | assumption
    | exact True.intro
    | omega
    | (dsimp only; omega)
    | (simp only [List.length_set,List.length_append,List.length_cons,List.length_nil,List.length_replicate]; omega)
    | (obtain ⟨_,_⟩:=‹_ ∧ _›)
theorem Zuw (x y : List UInt8) : Ok (Z8n x y) (fun _=>True):=by
  unfold Z8n
  repeat' first
    | with_reducible refine brD (fun _=>?_) fun _=>?_
    | with_reducible refine br (fun _=>?_) fun _=>?_
    | with_reducible refine bd (sb (by omega) (by omega) (by omega)) fun _ _=>?_
    | with_reducible refine ok ?_
    | with_reducible refine And.intro ?_ ?_
    | assumption
    | exact True.intro
    | omega
    | (dsimp only; omega)
    | (simp only [List.length_set,List.length_append,List.length_cons,List.length_nil,List.length_replicate]; omega)
    | (obtain ⟨_,_⟩:=‹_ ∧ _›)
theorem L32x1 (x : Z1o) (i : Int) (h : Z6g x) : Ok (Z0e (Zjl x i) Z0i 0) (fun _=>True):=by
  have:=h.stoL
  refine li (x.Z2x.length) (fun t _ _=>?_) (by omega) (by omega) (by omega)
  unfold Zjl
  repeat' first
    | with_reducible refine ni ?_ ?_
    | with_reducible refine di ?_
    | with_reducible refine brD (fun _=>?_) fun _=>?_
    | with_reducible refine br! (fun _=>?_) fun _=>?_
    | with_reducible refine br (fun _=>?_) fun _=>?_
    | with_reducible refine bd (gr (by omega) (by omega)) fun _ _=>?_
    | with_reducible refine bd (wr (by omega) (by omega)) fun _ _=>?_
    | with_reducible refine bd (Zfb _ (by exact h.sto _ (by assumption))) fun _ _=>?_
    | with_reducible refine bd (Zuw _ _) fun _ _=>?_
    | with_reducible refine bs ?_
    | with_reducible refine And.intro ?_ ?_
    | assumption
    | exact True.intro
    | omega
    | (dsimp only; omega)
    | (simp only [List.length_set,List.length_append,List.length_cons,List.length_nil,List.length_replicate]; omega)
    | (obtain ⟨_,_⟩:=‹_ ∧ _›)
theorem Zzq (x : Z1o) (i : Int) (h : Z6g x) : Ok (Zgx x i) (fun _=>True):=by
  unfold Zgx
  repeat' first
    | with_reducible refine bd (L32x1 _ _ (by first | assumption | omega | exact And.left (by assumption) | (dsimp only; omega))) fun _ _=>?_
    | with_reducible refine ok ?_
    | split
    | with_reducible refine And.intro ?_ ?_
    | assumption
    | exact True.intro
    | omega
    | (dsimp only; omega)
    | (simp only [List.length_set,List.length_append,List.length_cons,List.length_nil,List.length_replicate]; omega)
    | (obtain ⟨_,_⟩:=‹_ ∧ _›)
theorem L33x2 (k : Int) (x : Z1o) (hl : x.Z2x.length ≤ 140737488355328) (h0 : 0 ≤ k) (h1 : k < x.Z2x.length) : Ok (Z0e (Zjr k x) Z0i 0) (fun _=>True):=by
  refine li (k) (fun t _ _=>?_) (by omega) (by omega) (by omega)
  unfold Zjr
  repeat' first
    | with_reducible refine ni ?_ ?_
    | with_reducible refine di ?_
    | with_reducible refine brD (fun _=>?_) fun _=>?_
    | with_reducible refine brE (fun _=>?_) fun _=>?_
    | with_reducible refine br (fun _=>?_) fun _=>?_
    | with_reducible refine bd (gr (by omega) (by omega)) fun _ _=>?_
    | with_reducible refine bd (wr (by omega) (by omega)) fun _ _=>?_
    | with_reducible refine bs ?_
    | with_reducible refine And.intro ?_ ?_
    | assumption
    | exact True.intro
    | omega
    | (dsimp only; omega)
    | (simp only [List.length_set,List.length_append,List.length_cons,List.length_nil,List.length_replicate]; omega)
    | (obtain ⟨_,_⟩:=‹_ ∧ _›)
theorem L33x1 (x : Z1o) (hl : x.Z2x.length ≤ 140737488355328) : Ok (Z0e (Zeq x) Z0i 0) (fun _=>True):=by
  refine li (x.Z2x.length) (fun t _ _=>?_) (by omega) (by omega) (by omega)
  unfold Zeq
  repeat' first
    | with_reducible refine ni ?_ ?_
    | with_reducible refine di ?_
    | with_reducible refine brD (fun _=>?_) fun _=>?_
    | with_reducible refine br (fun _=>?_) fun _=>?_
    | with_reducible refine bd (wr (by omega) (by omega)) fun _ _=>?_
    | with_reducible refine bd (L33x2 _ _ (by first | assumption | omega | exact And.left (by assumption) | (dsimp only; omega)) (by first | assumption | omega | exact And.left (by assumption) | (dsimp only; omega)) (by first | assumption | omega | exact And.left (by assumption) | (dsimp only; omega))) fun _ _=>?_
    | with_reducible refine bs ?_
    | split
    | with_reducible refine And.intro ?_ ?_
    | assumption
    | exact True.intro
    | omega
    | (dsimp only; omega)
    | (simp only [List.length_set,List.length_append,List.length_cons,List.length_nil,List.length_replicate]; omega)
    | (obtain ⟨_,_⟩:=‹_ ∧ _›)
theorem Zwn (x : Z1o) (hl : x.Z2x.length ≤ 140737488355328) : Ok (Zez x) (fun _=>True):=by
  unfold Zez
  repeat' first
    | with_reducible refine bd (L33x1 _ (by first | assumption | omega | exact And.left (by assumption) | (dsimp only; omega))) fun _ _=>?_
    | with_reducible refine ok ?_
    | split
    | with_reducible refine And.intro ?_ ?_
    | assumption
    | exact True.intro
    | omega
    | (dsimp only; omega)
    | (simp only [List.length_set,List.length_append,List.length_cons,List.length_nil,List.length_replicate]; omega)
    | (obtain ⟨_,_⟩:=‹_ ∧ _›)
theorem L19x1 (x : List Z1o) (h : ∀ l ∈ x,Z6g l) (hl : x.length ≤ 140737488355328) : Ok (Z0e (Zhk x) Z0i 0) (fun _=>True):=by
  refine li (x.length) (fun t _ _=>?_) (by omega) (by omega) (by omega)
  unfold Zhk
  repeat' first
    | with_reducible refine ni ?_ ?_
    | with_reducible refine di ?_
    | with_reducible refine brD (fun _=>?_) fun _=>?_
    | with_reducible refine br (fun _=>?_) fun _=>?_
    | with_reducible refine bd (gr (by omega) (by omega)) fun _ _=>?_
    | with_reducible refine bd (wr (by omega) (by omega)) fun _ _=>?_
    | with_reducible refine bs ?_
    | with_reducible refine And.intro ?_ ?_
    | assumption
    | exact True.intro
    | omega
    | (dsimp only; omega)
    | (simp only [List.length_set,List.length_append,List.length_cons,List.length_nil,List.length_replicate]; omega)
    | (obtain ⟨_,_⟩:=‹_ ∧ _›)
theorem L19x3 (k : Int) (x : List Z1o) (h : ∀ l ∈ x,Z6g l) (hl : x.length ≤ 140737488355328) (h0 : 0 ≤ k) (h1 : k < x.length) : Ok (Z0e (Zf9 k x) Z0i 0) (fun _=>True):=by
  obtain ⟨y,hy,hm⟩:=gr h0 h1
  have:=(h y hm).delL
  refine li (y.Z3h.length) (fun t _ _=>?_) (by omega) (by omega) (by omega)
  unfold Zf9
  simp only [hy]
  repeat' first
    | with_reducible refine ni ?_ ?_
    | with_reducible refine di ?_
    | with_reducible refine brD (fun _=>?_) fun _=>?_
    | with_reducible refine br (fun _=>?_) fun _=>?_
    | with_reducible refine bd (gr (by omega) (by omega)) fun _ _=>?_
    | with_reducible refine bd (wr (by omega) (by omega)) fun _ _=>?_
    | with_reducible refine bs ?_
    | with_reducible refine And.intro ?_ ?_
    | assumption
    | exact True.intro
    | omega
    | (dsimp only; omega)
    | (simp only [List.length_set,List.length_append,List.length_cons,List.length_nil,List.length_replicate]; omega)
    | (obtain ⟨_,_⟩:=‹_ ∧ _›)
theorem L19x2 (x : List Z1o) (h : ∀ l ∈ x,Z6g l) (hl : x.length ≤ 140737488355328) : Ok (Z0e (Zix x) Z0i 0) (fun _=>True):=by
  refine li (x.length) (fun t _ _=>?_) (by omega) (by omega) (by omega)
  unfold Zix
  repeat' first
    | with_reducible refine ni ?_ ?_
    | with_reducible refine di ?_
    | with_reducible refine brD (fun _=>?_) fun _=>?_
    | with_reducible refine br (fun _=>?_) fun _=>?_
    | with_reducible refine bd (wr (by omega) (by omega)) fun _ _=>?_
    | with_reducible refine bd (L19x3 _ _ (by first | assumption | omega | exact And.left (by assumption) | (dsimp only; omega)) (by first | assumption | omega | exact And.left (by assumption) | (dsimp only; omega)) (by first | assumption | omega | exact And.left (by assumption) | (dsimp only; omega)) (by first | assumption | omega | exact And.left (by assumption) | (dsimp only; omega))) fun _ _=>?_
    | with_reducible refine bs ?_
    | split
    | with_reducible refine And.intro ?_ ?_
    | assumption
    | exact True.intro
    | omega
    | (dsimp only; omega)
    | (simp only [List.length_set,List.length_append,List.length_cons,List.length_nil,List.length_replicate]; omega)
    | (obtain ⟨_,_⟩:=‹_ ∧ _›)
theorem L19x4 (x : List Z1o) (h : ∀ l ∈ x,Z6g l) (hl : x.length ≤ 140737488355328) : Ok (Z0e (Zj2 x) Z0i 0) (fun _=>True):=by
  refine li (x.length) (fun t _ _=>?_) (by omega) (by omega) (by omega)
  unfold Zj2
  repeat' first
    | with_reducible refine ni ?_ ?_
    | with_reducible refine di ?_
    | with_reducible refine brD (fun _=>?_) fun _=>?_
    | with_reducible refine brN (fun _=>?_) fun _=>?_
    | with_reducible refine br (fun _=>?_) fun _=>?_
    | with_reducible refine bd (gr (by omega) (by omega)) fun _ _=>?_
    | with_reducible refine bd (wr (by omega) (by omega)) fun _ _=>?_
    | with_reducible refine bd (Zzq _ _ (by exact h _ (by assumption))) fun _ _=>?_
    | with_reducible refine bs ?_
    | with_reducible refine And.intro ?_ ?_
    | assumption
    | exact True.intro
    | omega
    | (dsimp only; omega)
    | (simp only [List.length_set,List.length_append,List.length_cons,List.length_nil,List.length_replicate]; omega)
    | (obtain ⟨_,_⟩:=‹_ ∧ _›)
theorem L19x5 (x : List Z1o) (h : ∀ l ∈ x,Z6g l) (hl : x.length ≤ 140737488355328) : Ok (Z0e (Zf0 x) Z0i 0) (fun _=>True):=by
  refine li (x.length) (fun t _ _=>?_) (by omega) (by omega) (by omega)
  unfold Zf0
  repeat' first
    | with_reducible refine ni ?_ ?_
    | with_reducible refine di ?_
    | with_reducible refine brD (fun _=>?_) fun _=>?_
    | with_reducible refine br (fun _=>?_) fun _=>?_
    | with_reducible refine bd (gr (by omega) (by omega)) fun _ _=>?_
    | with_reducible refine bd (wr (by omega) (by omega)) fun _ _=>?_
    | with_reducible refine bd (Zwn _ (by exact (h _ (by assumption)).stoL)) fun _ _=>?_
    | with_reducible refine bs ?_
    | with_reducible refine And.intro ?_ ?_
    | assumption
    | exact True.intro
    | omega
    | (dsimp only; omega)
    | (simp only [List.length_set,List.length_append,List.length_cons,List.length_nil,List.length_replicate]; omega)
    | (obtain ⟨_,_⟩:=‹_ ∧ _›)
theorem Zww (x : List Z1o) (h : ∀ l ∈ x,Z6g l) (hl : x.length ≤ 140737488355328) : Ok (Zes x) (fun e=>e = 0 → x.length ≤ 8):=by
  unfold Zes
  repeat' first
    | unfold j19x1
    | with_reducible refine brD (fun _=>?_) fun _=>?_
    | with_reducible refine brE (fun _=>?_) fun _=>?_
    | with_reducible refine br (fun _=>?_) fun _=>?_
    | with_reducible refine bd (L19x1 _ (by first | assumption | omega | exact And.left (by assumption) | (dsimp only; omega)) (by first | assumption | omega | exact And.left (by assumption) | (dsimp only; omega))) fun _ _=>?_
    | with_reducible refine bd (L19x2 _ (by first | assumption | omega | exact And.left (by assumption) | (dsimp only; omega)) (by first | assumption | omega | exact And.left (by assumption) | (dsimp only; omega))) fun _ _=>?_
    | with_reducible refine bd (L19x4 _ (by first | assumption | omega | exact And.left (by assumption) | (dsimp only; omega)) (by first | assumption | omega | exact And.left (by assumption) | (dsimp only; omega))) fun _ _=>?_
    | with_reducible refine bd (L19x5 _ (by first | assumption | omega | exact And.left (by assumption) | (dsimp only; omega)) (by first | assumption | omega | exact And.left (by assumption) | (dsimp only; omega))) fun _ _=>?_
    | with_reducible refine bs ?_
    | with_reducible refine ok ?_
    | split
    | with_reducible refine And.intro ?_ ?_
    | assumption
    | exact True.intro
    | omega
    | (dsimp only; omega)
    | (simp only [List.length_set,List.length_append,List.length_cons,List.length_nil,List.length_replicate]; omega)
    | (obtain ⟨_,_⟩:=‹_ ∧ _›)
theorem L21x1 (v : Z2m) (w : Z09) (i : Int) (h : Z4u w) (h0 : 0 ≤ i) (h1 : i < w.Z2q.length) : Ok (Z0e (Zh3 v w i) Z0i 0) (fun _=>True):=by
  have:=h.iniL
  refine li (i) (fun t _ _=>?_) (by omega) (by omega) (by omega)
  unfold Zh3
  repeat' first
    | with_reducible refine ni ?_ ?_
    | with_reducible refine di ?_
    | with_reducible refine brD (fun _=>?_) fun _=>?_
    | with_reducible refine brE (fun _=>?_) fun _=>?_
    | with_reducible refine br (fun _=>?_) fun _=>?_
    | with_reducible refine bd (gr (by omega) (by omega)) fun _ _=>?_
    | with_reducible refine bd (wr (by omega) (by omega)) fun _ _=>?_
    | with_reducible refine bs ?_
    | with_reducible refine And.intro ?_ ?_
    | assumption
    | exact True.intro
    | omega
    | (dsimp only; omega)
    | (simp only [List.length_set,List.length_append,List.length_cons,List.length_nil,List.length_replicate]; omega)
    | (obtain ⟨_,_⟩:=‹_ ∧ _›)
def Z7q (w : Z09) (v : Z2m) : Prop:=0 ≤ v.Z0u ∧ v.Z0u < w.Z23.length ∧ 0 ≤ v.Z1h ∧ v.Z1h < w.Z1c.length
def Z6y (w : Z09) (b : Z47) : Prop:=0 ≤ b.f_A ∧ b.f_A < w.Z23.length ∧ 0 ≤ b.f_B ∧ b.f_B < w.Z23.length
theorem Y0p (w : Z09) (i : Int) (h : Z4u w) (h0 : 0 ≤ i) (h1 : i < w.Z2q.length) : Ok (Zj6 w i) (fun b=>b = true → ∀ v,w.Z2q[i.toNat]? = some v → Z7q w v):=by
  have:=h.iniL
  unfold Zj6
  repeat' first
    | with_reducible refine bd (gri (by omega) (by omega)) fun _ _=>?_
    | unfold j21x1
    | with_reducible refine brD (fun _=>?_) fun _=>?_
    | with_reducible refine br! (fun _=>?_) fun _=>?_
    | with_reducible refine br (fun _=>?_) fun _=>?_
    | with_reducible refine bd (gr (by omega) (by omega)) fun _ _=>?_
    | with_reducible refine bd (L21x1 _ _ _ (by first | assumption | omega | exact And.left (by assumption) | (dsimp only; omega)) (by first | assumption | omega | exact And.left (by assumption) | (dsimp only; omega)) (by first | assumption | omega | exact And.left (by assumption) | (dsimp only; omega))) fun _ _=>?_
    | with_reducible refine bs ?_
    | with_reducible refine ok ?_
    | split
    | ((intro hb v hv; first | (cases hb; done) | (have e : ∀ a,w.Z2q[i.toNat]? = some a → a = v:=fun a ha=>by { rw [hv] at ha; cases ha; rfl }; have:=e _ (And.right (by assumption)); subst this; exact ⟨by omega,by omega,by omega,by omega⟩)))
    | with_reducible refine And.intro ?_ ?_
    | assumption
    | exact True.intro
    | omega
    | (dsimp only; omega)
    | (simp only [List.length_set,List.length_append,List.length_cons,List.length_nil,List.length_replicate]; omega)
    | (obtain ⟨_,_⟩:=‹_ ∧ _›)
theorem L35x2 (w : Z09) (s : List UInt8) (l0 : List Bool) (h : Z4u w) (hl : w.Z23.length ≤ 8) (hc : ∀ b ∈ w.Z3q,Z6y w b) (h0 : l0.length = w.Z23.length) : Ok (Z0e (Zgi w s) Z0i (0,l0)) (fun r=>r.length = w.Z23.length):=by
  have:=h.conL
  refine lp (fun t=>t.1) (w.Z3q.length) (fun t=>t.2.length = w.Z23.length) (fun t hI _ _=>?_) (by omega) (by exact h0) (by omega) (by omega)
  try dsimp only at *
  unfold Zgi
  repeat' first
    | with_reducible refine bd (ik (by have:=hc _ (by assumption); unfold Z6y at this; omega) (by have:=hc _ (by assumption); unfold Z6y at this; first | omega | (simp only [List.length_set]; omega))) fun _ _=>?_
    | with_reducible refine nx ?_ ?_ ?_
    | with_reducible refine dn ?_
    | unfold Zik
    | with_reducible refine brD (fun _=>?_) fun _=>?_
    | with_reducible refine brE (fun _=>?_) fun _=>?_
    | with_reducible refine br (fun _=>?_) fun _=>?_
    | with_reducible refine bd (gr (by omega) (by omega)) fun _ _=>?_
    | with_reducible refine bd (ik (by omega) (by first | omega | (simp only [List.length_set,List.length_append,List.length_cons,List.length_nil,List.length_replicate]; omega))) fun _ _=>?_
    | with_reducible refine bd (la (by first | omega | (simp only [List.length_set,List.length_append,List.length_cons,List.length_nil,List.length_replicate]; omega))) fun _ _=>?_
    | with_reducible refine bd (wr (by omega) (by omega)) fun _ _=>?_
    | with_reducible refine bs ?_
    | with_reducible refine And.intro ?_ ?_
    | assumption
    | exact True.intro
    | omega
    | (dsimp only; omega)
    | (simp only [List.length_set,List.length_append,List.length_cons,List.length_nil,List.length_replicate]; omega)
    | (obtain ⟨_,_⟩:=‹_ ∧ _›)
theorem L35x1 (w : Z09) (s : List UInt8) (l0 : List Bool) (h : Z4u w) (hl : w.Z23.length ≤ 8) (hc : ∀ b ∈ w.Z3q,Z6y w b) (h0 : l0.length = w.Z23.length) : Ok (Z0e (Zh2 w s) Z0i (0,l0)) (fun r=>r.length = w.Z23.length):=by
  refine lp (fun t=>t.1) (w.Z23.length) (fun t=>t.2.length = w.Z23.length) (fun t hI _ _=>?_) (by omega) (by exact h0) (by omega) (by omega)
  try dsimp only at *
  unfold Zh2
  repeat' first
    | with_reducible refine nx ?_ ?_ ?_
    | with_reducible refine dn ?_
    | with_reducible refine brD (fun _=>?_) fun _=>?_
    | with_reducible refine br (fun _=>?_) fun _=>?_
    | with_reducible refine bd (wr (by omega) (by omega)) fun _ _=>?_
    | with_reducible refine bd (L35x2 _ _ _ (by first | assumption | omega | exact And.left (by assumption) | (dsimp only; omega)) (by first | assumption | omega | exact And.left (by assumption) | (dsimp only; omega)) (by first | assumption | omega | exact And.left (by assumption) | (dsimp only; omega)) (by first | assumption | omega | exact And.left (by assumption) | (dsimp only; omega))) fun _ _=>?_
    | with_reducible refine bs ?_
    | with_reducible refine And.intro ?_ ?_
    | assumption
    | exact True.intro
    | omega
    | (dsimp only; omega)
    | (simp only [List.length_set,List.length_append,List.length_cons,List.length_nil,List.length_replicate]; omega)
    | (obtain ⟨_,_⟩:=‹_ ∧ _›)
theorem Y0h (w : Z09) (s : List UInt8) (k : Int) (h : Z4u w) (hl : w.Z23.length ≤ 8) (hc : ∀ b ∈ w.Z3q,Z6y w b) (h0 : 0 ≤ k) (h1 : k < w.Z23.length) : Ok (Zgc w s k) (fun r=>r.length = w.Z23.length):=by
  unfold Zgc
  repeat' first
    | with_reducible refine bd (ik (by omega) (by first | omega | (simp only [List.length_set,List.length_append,List.length_cons,List.length_nil,List.length_replicate]; omega))) fun _ _=>?_
    | with_reducible refine bd (la (by first | omega | (simp only [List.length_set,List.length_append,List.length_cons,List.length_nil,List.length_replicate]; omega))) fun _ _=>?_
    | with_reducible refine bd (mk (by omega) (by omega) (by omega) (by omega)) fun _ _=>?_
    | with_reducible refine bd (L35x1 _ _ _ (by first | assumption | (simp only [List.length_set,List.length_replicate]; omega)) (by first | assumption | (simp only [List.length_set,List.length_replicate]; omega)) (by first | assumption | (simp only [List.length_set,List.length_replicate]; omega)) (by first | assumption | (simp only [List.length_set,List.length_replicate]; omega))) fun _ _=>?_
    | with_reducible refine ok ?_
    | with_reducible refine And.intro ?_ ?_
    | assumption
    | exact True.intro
    | omega
    | (dsimp only; omega)
    | (simp only [List.length_set,List.length_append,List.length_cons,List.length_nil,List.length_replicate]; omega)
    | (obtain ⟨_,_⟩:=‹_ ∧ _›)
theorem L22x1 (v : Z2m) (g : List Bool) (w : Z09) (i : Int) (h : Z4u w) (h0 : 0 ≤ i) (h1 : i < w.Z2q.length) (hg : g.length = w.Z23.length) (hs : ∀ (j : Nat) v,j < i → w.Z2q[j]? = some v → Z7q w v) : Ok (Z0e (Zi8 v g w i) Z0i 0) (fun _=>True):=by
  have:=h.iniL
  refine li (i) (fun t _ _=>?_) (by omega) (by omega) (by omega)
  unfold Zi8
  repeat' first
    | with_reducible refine bd (gri (by omega) (by omega)) fun _ _=>?_
    | with_reducible refine bd (gr (by have:=hs t.toNat _ (by omega) (And.right (by assumption)); unfold Z7q at this; omega) (by have:=hs t.toNat _ (by omega) (And.right (by assumption)); unfold Z7q at this; omega)) fun _ _=>?_
    | with_reducible refine ni ?_ ?_
    | with_reducible refine di ?_
    | with_reducible refine brD (fun _=>?_) fun _=>?_
    | with_reducible refine brE (fun _=>?_) fun _=>?_
    | with_reducible refine brN (fun _=>?_) fun _=>?_
    | with_reducible refine br (fun _=>?_) fun _=>?_
    | with_reducible refine bd (gr (by omega) (by omega)) fun _ _=>?_
    | with_reducible refine bd (wr (by omega) (by omega)) fun _ _=>?_
    | with_reducible refine bs ?_
    | with_reducible refine And.intro ?_ ?_
    | assumption
    | exact True.intro
    | omega
    | (dsimp only; omega)
    | (simp only [List.length_set,List.length_append,List.length_cons,List.length_nil,List.length_replicate]; omega)
    | (obtain ⟨_,_⟩:=‹_ ∧ _›)
theorem Zw9 (w : Z09) (i : Int) (h : Z4u w) (hl : w.Z23.length ≤ 8) (hc : ∀ b ∈ w.Z3q,Z6y w b) (h0 : 0 ≤ i) (h1 : i < w.Z2q.length) (hs : ∀ (j : Nat) v,j ≤ i → w.Z2q[j]? = some v → Z7q w v) : Ok (Zir w i) (fun _=>True):=by
  have:=h.iniL
  unfold Zir
  repeat' first
    | with_reducible refine bd (gri (by omega) (by omega)) fun _ _=>?_
    | with_reducible refine bd (Y0h _ _ _ h hl hc (by have:=hs i.toNat _ (by omega) (And.right (by assumption)); unfold Z7q at this; omega) (by have:=hs i.toNat _ (by omega) (And.right (by assumption)); unfold Z7q at this; omega)) fun _ _=>?_
    | with_reducible refine bd (L22x1 _ _ _ _ h h0 h1 (by assumption) (fun j v hj hv=>hs j v (by omega) hv)) fun _ _=>?_
    | with_reducible refine bd (gr (by omega) (by omega)) fun _ _=>?_
    | with_reducible refine ok ?_
    | split
    | with_reducible refine And.intro ?_ ?_
    | assumption
    | exact True.intro
    | omega
    | (dsimp only; omega)
    | (simp only [List.length_set,List.length_append,List.length_cons,List.length_nil,List.length_replicate]; omega)
    | (obtain ⟨_,_⟩:=‹_ ∧ _›)
theorem L53x1 (x : List Z0f) (hl : x.length ≤ 140737488355328) : Ok (Z0e (Zfz x) Z0i 0) (fun _=>True):=by
  refine li (x.length) (fun t _ _=>?_) (by omega) (by omega) (by omega)
  unfold Zfz
  repeat' first
    | with_reducible refine ni ?_ ?_
    | with_reducible refine di ?_
    | with_reducible refine brD (fun _=>?_) fun _=>?_
    | with_reducible refine brN (fun _=>?_) fun _=>?_
    | with_reducible refine br (fun _=>?_) fun _=>?_
    | with_reducible refine bd (gr (by omega) (by omega)) fun _ _=>?_
    | with_reducible refine bd (wr (by omega) (by omega)) fun _ _=>?_
    | with_reducible refine bs ?_
    | with_reducible refine And.intro ?_ ?_
    | assumption
    | exact True.intro
    | omega
    | (dsimp only; omega)
    | (simp only [List.length_set,List.length_append,List.length_cons,List.length_nil,List.length_replicate]; omega)
    | (obtain ⟨_,_⟩:=‹_ ∧ _›)
theorem Zpt (x : List Z0f) (hl : x.length ≤ 140737488355328) : Ok (Zdy x) (fun _=>True):=by
  unfold Zdy
  repeat' first
    | with_reducible refine bd (L53x1 _ (by first | assumption | omega | exact And.left (by assumption) | (dsimp only; omega))) fun _ _=>?_
    | with_reducible refine ok ?_
    | split
    | with_reducible refine And.intro ?_ ?_
    | assumption
    | exact True.intro
    | omega
    | (dsimp only; omega)
    | (simp only [List.length_set,List.length_append,List.length_cons,List.length_nil,List.length_replicate]; omega)
    | (obtain ⟨_,_⟩:=‹_ ∧ _›)
theorem L47x1 (u : Z0j) (h : Z4y u) : Ok (Z0e (Zex u) Z0i 0) (fun _=>True):=by
  have:=h.fldL
  refine li (u.Z0n.length) (fun t _ _=>?_) (by omega) (by omega) (by omega)
  unfold Zex
  repeat' first
    | with_reducible refine ni ?_ ?_
    | with_reducible refine di ?_
    | unfold Zfq
    | with_reducible refine brD (fun _=>?_) fun _=>?_
    | with_reducible refine br! (fun _=>?_) fun _=>?_
    | with_reducible refine brE (fun _=>?_) fun _=>?_
    | with_reducible refine brN (fun _=>?_) fun _=>?_
    | with_reducible refine br (fun _=>?_) fun _=>?_
    | with_reducible refine bd (gr (by omega) (by omega)) fun _ _=>?_
    | with_reducible refine bd (wr (by omega) (by omega)) fun _ _=>?_
    | with_reducible refine bs ?_
    | with_reducible refine And.intro ?_ ?_
    | assumption
    | exact True.intro
    | omega
    | (dsimp only; omega)
    | (simp only [List.length_set,List.length_append,List.length_cons,List.length_nil,List.length_replicate]; omega)
    | (obtain ⟨_,_⟩:=‹_ ∧ _›)
theorem L47x3 (m : Z0y) (h : Z9b m) : Ok (Z0e (Zf2 m) Z0i 0) (fun _=>True):=by
  have:=h.code.hndL
  refine li (m.Z2o.Z1n.length) (fun t _ _=>?_) (by omega) (by omega) (by omega)
  unfold Zf2
  repeat' first
    | with_reducible refine ni ?_ ?_
    | with_reducible refine di ?_
    | with_reducible refine brD (fun _=>?_) fun _=>?_
    | with_reducible refine brN (fun _=>?_) fun _=>?_
    | with_reducible refine br (fun _=>?_) fun _=>?_
    | with_reducible refine bd (gr (by omega) (by omega)) fun _ _=>?_
    | with_reducible refine bd (wr (by omega) (by omega)) fun _ _=>?_
    | with_reducible refine bs ?_
    | with_reducible refine And.intro ?_ ?_
    | assumption
    | exact True.intro
    | omega
    | (dsimp only; omega)
    | (simp only [List.length_set,List.length_append,List.length_cons,List.length_nil,List.length_replicate]; omega)
    | (obtain ⟨_,_⟩:=‹_ ∧ _›)
theorem L47x4 (m : Z0y) (h : Z9b m) : Ok (Z0e (Zia m) Z0i 0) (fun _=>True):=by
  have:=h.code.mapL
  refine li (m.Z2o.Z18.length) (fun t _ _=>?_) (by omega) (by omega) (by omega)
  unfold Zia
  repeat' first
    | with_reducible refine bd (Zpt _ (by have:=(h.code.map _ (by assumption)).locL; omega)) fun _ _=>?_
    | with_reducible refine bd (Zpt _ (by have:=(h.code.map _ (by assumption)).stkL; omega)) fun _ _=>?_
    | with_reducible refine ni ?_ ?_
    | with_reducible refine di ?_
    | with_reducible refine brD (fun _=>?_) fun _=>?_
    | with_reducible refine br! (fun _=>?_) fun _=>?_
    | with_reducible refine br (fun _=>?_) fun _=>?_
    | with_reducible refine bd (gr (by omega) (by omega)) fun _ _=>?_
    | with_reducible refine bd (wr (by omega) (by omega)) fun _ _=>?_
    | with_reducible refine bs ?_
    | with_reducible refine And.intro ?_ ?_
    | assumption
    | exact True.intro
    | omega
    | (dsimp only; omega)
    | (simp only [List.length_set,List.length_append,List.length_cons,List.length_nil,List.length_replicate]; omega)
    | (obtain ⟨_,_⟩:=‹_ ∧ _›)
theorem L47x2 (u : Z0j) (h : Z4y u) : Ok (Z0e (Zfw u) Z0i 0) (fun _=>True):=by
  have:=h.metL
  refine li (u.Z0m.length) (fun t _ _=>?_) (by omega) (by omega) (by omega)
  unfold Zfw
  repeat' first
    | with_reducible refine ni ?_ ?_
    | with_reducible refine di ?_
    | unfold Zfu
    | with_reducible refine brD (fun _=>?_) fun _=>?_
    | with_reducible refine br! (fun _=>?_) fun _=>?_
    | with_reducible refine brN (fun _=>?_) fun _=>?_
    | with_reducible refine br (fun _=>?_) fun _=>?_
    | with_reducible refine bd (gr (by omega) (by omega)) fun _ _=>?_
    | with_reducible refine bd (wr (by omega) (by omega)) fun _ _=>?_
    | with_reducible refine bd (L47x3 _ (by exact h.met _ (by assumption))) fun _ _=>?_
    | with_reducible refine bd (L47x4 _ (by exact h.met _ (by assumption))) fun _ _=>?_
    | with_reducible refine bs ?_
    | split
    | with_reducible refine And.intro ?_ ?_
    | assumption
    | exact True.intro
    | omega
    | (dsimp only; omega)
    | (simp only [List.length_set,List.length_append,List.length_cons,List.length_nil,List.length_replicate]; omega)
    | (obtain ⟨_,_⟩:=‹_ ∧ _›)
theorem Y03 (u : Z0j) (h : Z4y u) : Ok (Zeo u) (fun _=>True):=by
  unfold Zeo
  repeat' first
    | with_reducible refine bd (L47x1 _ (by first | assumption | omega | exact And.left (by assumption) | (dsimp only; omega))) fun _ _=>?_
    | with_reducible refine bd (L47x2 _ (by first | assumption | omega | exact And.left (by assumption) | (dsimp only; omega))) fun _ _=>?_
    | with_reducible refine ok ?_
    | split
    | with_reducible refine And.intro ?_ ?_
    | assumption
    | exact True.intro
    | omega
    | (dsimp only; omega)
    | (simp only [List.length_set,List.length_append,List.length_cons,List.length_nil,List.length_replicate]; omega)
    | (obtain ⟨_,_⟩:=‹_ ∧ _›)
end Go.Proofs
