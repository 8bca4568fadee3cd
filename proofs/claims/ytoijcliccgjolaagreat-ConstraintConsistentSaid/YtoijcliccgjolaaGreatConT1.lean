/-
  That the models come to an answer, part one: names and loaders. No condition.
-/
import Derived.Test.YtoijcliccgjolaaGreatCon8
import Derived.Test.YtoijcliccgjolaaGreatDenTot
set_option linter.unusedVariables false
namespace Go.Proofs
open Go.Den Go.Tot
abbrev Str (s : List UInt8) : Prop:=s.length ≤ 4503599627370496
structure WRef (r : Z21) : Prop where
 c : Str r.Z0o
 n : Str r.Z03
 d : Str r.Z1f
structure Z2o (i : Z01) : Prop where
 keys : i.Z0r.length * 8 ≤ 140737488355328
 tos : i.Z09.length * 8 ≤ 140737488355328
 ref : WRef i.Z0z
 s : Str i.f_S
structure Z92 (f : Z50) : Prop where
 loc : ∀ v ∈ f.Z0p,Str v.Z1h.Z03
 locL : f.Z0p.length * 56 ≤ 140737488355328
 stk : ∀ v ∈ f.Z0s,Str v.Z1h.Z03
 stkL : f.Z0s.length * 56 ≤ 140737488355328
structure Z4w (c : Z06) : Prop where
 ins : ∀ i ∈ c.Z0k,Z2o i
 insL : c.Z0k.length * 144 ≤ 140737488355328
 hnd : ∀ h ∈ c.Z1g,Str h.Z1h
 hndL : c.Z1g.length * 48 ≤ 140737488355328
 map : ∀ m ∈ c.Z11,Z92 m.Z1i
 mapL : c.Z11.length * 64 ≤ 140737488355328
 linL : c.Z1a.length * 16 ≤ 140737488355328
structure Z94 (m : Z2f) : Prop where
 n : Str m.Z03
 d : Str m.Z1f
 code : Z4w m.Z2k
 exc : ∀ s ∈ m.Z6a,Str s
 excL : m.Z6a.length * 16 ≤ 140737488355328
structure Znl (f : Z3i) : Prop where
 n : Str f.Z03
 d : Str f.Z1f
 s : Str f.f_S
structure Z55 (u : Z12) : Prop where
 n : Str u.Z03
 sup : Str u.Z1k
 ifs : ∀ s ∈ u.Z14,Str s
 ifsL : u.Z14.length * 16 ≤ 140737488355328
 fld : ∀ f ∈ u.Z19,Znl f
 fldL : u.Z19.length * 72 ≤ 140737488355328
 met : ∀ m ∈ u.Z17,Z94 m
 metL : u.Z17.length * 184 ≤ 140737488355328
 src : Str u.Z6p
structure Z6l (l : Z1j) : Prop where
 del : ∀ d ∈ l.Z4c,Str d.Zje
 delL : l.Z4c.length ≤ 140737488355328
 sto : ∀ c ∈ l.Z34,Str c.Z03
 stoL : l.Z34.length ≤ 140737488355328
structure Z47 (w : Z0b) : Prop where
 lod : ∀ l ∈ w.Z1b,Z6l l
 lodL : w.Z1b.length ≤ 140737488355328
 cls : ∀ c ∈ w.Z2i,Z55 c.Z2n ∧ c.Z14.length ≤ 140737488355328
 clsL : w.Z2i.length ≤ 140737488355328
 ini : ∀ x ∈ w.Z0u,Str x.Z03
 iniL : w.Z0u.length ≤ 140737488355328
 con : ∀ x ∈ w.Z0m,Str x.Z03
 conL : w.Z0m.length ≤ 140737488355328
theorem Y0a (x : Int) : Ok (Ziu x) (fun _=>True):=by
 unfold Ziu
 repeat' first
  | with_reducible refine brD (fun _=>?_) fun _=>?_
  | with_reducible refine brE (fun _=>?_) fun _=>?_
  | with_reducible refine br (fun _=>?_) fun _=>?_
  | with_reducible refine bs ?_
  | with_reducible refine ok ?_
  | with_reducible refine And.intro ?_ ?_
  | assumption
  | exact True.intro
  | omega
  | (dsimp only; omega)
  | (simp only [List.length_set,List.length_append,List.length_cons,List.length_nil,List.length_replicate]; omega)
  | (obtain ⟨_,_⟩:=‹_ ∧ _›)
theorem L34x1 (x : List UInt8) (h : Str x) : Ok (Z08 (Zjo x) Z0c 0) (fun q=>match q with | .inl _=>True | .inr y=>y = false):=by
 refine li (x.length) (fun t _ _=>?_) (by omega) (by omega) (by omega)
 unfold Zjo
 repeat' first
  | with_reducible refine ni ?_ ?_
  | with_reducible refine di ?_
  | with_reducible refine brD (fun _=>?_) fun _=>?_
  | with_reducible refine br! (fun _=>?_) fun _=>?_
  | with_reducible refine brE (fun _=>?_) fun _=>?_
  | with_reducible refine br (fun _=>?_) fun _=>?_
  | with_reducible refine bd (gs (by omega) (by omega)) fun _ _=>?_
  | with_reducible refine bd (wr (by omega) (by omega)) fun _ _=>?_
  | with_reducible refine bd (Y0a _) fun _ _=>?_
  | with_reducible refine bs ?_
  | (rfl)
  | with_reducible refine And.intro ?_ ?_
  | assumption
  | exact True.intro
  | omega
  | (dsimp only; omega)
  | (simp only [List.length_set,List.length_append,List.length_cons,List.length_nil,List.length_replicate]; omega)
  | (obtain ⟨_,_⟩:=‹_ ∧ _›)
theorem Zo6 (x : List UInt8) (h : Str x) : Ok (Zb2 x) (fun b=>b = true → x ≠ []):=by
 unfold Zb2
 repeat' first
  | with_reducible refine bd (L34x1 _ (by first | assumption | omega | exact And.left (by assumption) | (dsimp only; omega))) fun _ _=>?_
  | with_reducible refine bs ?_
  | with_reducible refine ok ?_
  | split
  | (first | (intro h; rintro rfl; simp at h; done) | (simp_all; done))
  | with_reducible refine And.intro ?_ ?_
  | assumption
  | exact True.intro
  | omega
  | (dsimp only; omega)
  | (simp only [List.length_set,List.length_append,List.length_cons,List.length_nil,List.length_replicate]; omega)
  | (obtain ⟨_,_⟩:=‹_ ∧ _›)
theorem L20x1 (x : List UInt8) (h : Str x) : Ok (Z08 (Zhq x) Z0c (0,0)) (fun q=>match q with | .inl y=>0 ≤ y ∧ y ≤ x.length | .inr y=>True):=by
 refine lp (fun t=>t.2) (x.length) (fun t=>0 ≤ t.1 ∧ t.1 ≤ t.2) (fun t hI _ _=>?_) (by omega) (by omega) (by omega) (by omega)
 try dsimp only at *
 unfold Zhq
 repeat' first
  | with_reducible refine nx ?_ ?_ ?_
  | with_reducible refine dn ?_
  | with_reducible refine brD (fun _=>?_) fun _=>?_
  | with_reducible refine br! (fun _=>?_) fun _=>?_
  | with_reducible refine brE (fun _=>?_) fun _=>?_
  | with_reducible refine br (fun _=>?_) fun _=>?_
  | with_reducible refine bd (gs (by omega) (by omega)) fun _ _=>?_
  | with_reducible refine bd (wr (by omega) (by omega)) fun _ _=>?_
  | with_reducible refine bd (sb (by omega) (by omega) (by omega)) fun _ _=>?_
  | with_reducible refine bd (Zo6 _ (by unfold Str; omega)) fun _ _=>?_
  | with_reducible refine bs ?_
  | with_reducible refine And.intro ?_ ?_
  | assumption
  | exact True.intro
  | omega
  | (dsimp only; omega)
  | (simp only [List.length_set,List.length_append,List.length_cons,List.length_nil,List.length_replicate]; omega)
  | (obtain ⟨_,_⟩:=‹_ ∧ _›)
theorem Zgo (x : List UInt8) (h : Str x) : Ok (Z7b x) (fun b=>b = true → x.length ≤ 64):=by
 unfold Z7b
 repeat' first
  | with_reducible refine bdE (L20x1 _ (by assumption)) fun q _ hq=>?_
  | with_reducible refine brD (fun _=>?_) fun _=>?_
  | with_reducible refine br (fun _=>?_) fun _=>?_
  | with_reducible refine bd (sb (by omega) (by omega) (by omega)) fun _ _=>?_
  | with_reducible refine bd (L20x1 _ (by first | assumption | omega | exact And.left (by assumption) | (dsimp only; omega))) fun _ _=>?_
  | with_reducible refine bd (Zo6 _ (by unfold Str; omega)) fun _ _=>?_
  | with_reducible refine bs ?_
  | with_reducible refine ok ?_
  | split
  | ((intro hb; first | (cases hb; done) | omega))
  | with_reducible refine And.intro ?_ ?_
  | assumption
  | exact True.intro
  | omega
  | (dsimp only; omega)
  | (simp only [List.length_set,List.length_append,List.length_cons,List.length_nil,List.length_replicate]; omega)
  | (obtain ⟨_,_⟩:=‹_ ∧ _›)
theorem Zp1 (x y : List UInt8) : Ok (Z8d x y) (fun _=>True):=by
 unfold Z8d
 repeat' first
  | with_reducible refine brD (fun _=>?_) fun _=>?_
  | with_reducible refine br (fun _=>?_) fun _=>?_
  | with_reducible refine bd (sb (by omega) (by omega) (by omega)) fun _ _=>?_
  | with_reducible refine ok ?_
  | with_reducible refine And.intro ?_ ?_
  | assumption
  | exact True.intro
  | omega
  | (dsimp only; omega)
  | (simp only [List.length_set,List.length_append,List.length_cons,List.length_nil,List.length_replicate]; omega)
  | (obtain ⟨_,_⟩:=‹_ ∧ _›)
theorem L32x1 (x : Z1j) (i : Int) (h : Z6l x) : Ok (Z08 (Zio x i) Z0c 0) (fun _=>True):=by
 have:=h.stoL
 refine li (x.Z34.length) (fun t _ _=>?_) (by omega) (by omega) (by omega)
 unfold Zio
 repeat' first
  | with_reducible refine ni ?_ ?_
  | with_reducible refine di ?_
  | with_reducible refine brD (fun _=>?_) fun _=>?_
  | with_reducible refine br! (fun _=>?_) fun _=>?_
  | with_reducible refine br (fun _=>?_) fun _=>?_
  | with_reducible refine bd (gr (by omega) (by omega)) fun _ _=>?_
  | with_reducible refine bd (wr (by omega) (by omega)) fun _ _=>?_
  | with_reducible refine bd (Zgo _ (by exact h.sto _ (by assumption))) fun _ _=>?_
  | with_reducible refine bd (Zp1 _ _) fun _ _=>?_
  | with_reducible refine bs ?_
  | with_reducible refine And.intro ?_ ?_
  | assumption
  | exact True.intro
  | omega
  | (dsimp only; omega)
  | (simp only [List.length_set,List.length_append,List.length_cons,List.length_nil,List.length_replicate]; omega)
  | (obtain ⟨_,_⟩:=‹_ ∧ _›)
theorem Y1e (x : Z1j) (i : Int) (h : Z6l x) : Ok (Zex x i) (fun _=>True):=by
 unfold Zex
 repeat' first
  | with_reducible refine bd (L32x1 _ _ (by first | assumption | omega | exact And.left (by assumption) | (dsimp only; omega))) fun _ _=>?_
  | with_reducible refine ok ?_
  | split
  | with_reducible refine And.intro ?_ ?_
  | assumption
  | exact True.intro
  | omega
  | (dsimp only; omega)
  | (simp only [List.length_set,List.length_append,List.length_cons,List.length_nil,List.length_replicate]; omega)
  | (obtain ⟨_,_⟩:=‹_ ∧ _›)
theorem L33x2 (k : Int) (x : Z1j) (hl : x.Z34.length ≤ 140737488355328) (h0 : 0 ≤ k) (h1 : k < x.Z34.length) : Ok (Z08 (Zj4 k x) Z0c 0) (fun _=>True):=by
 refine li (k) (fun t _ _=>?_) (by omega) (by omega) (by omega)
 unfold Zj4
 repeat' first
  | with_reducible refine ni ?_ ?_
  | with_reducible refine di ?_
  | with_reducible refine brD (fun _=>?_) fun _=>?_
  | with_reducible refine brE (fun _=>?_) fun _=>?_
  | with_reducible refine br (fun _=>?_) fun _=>?_
  | with_reducible refine bd (gr (by omega) (by omega)) fun _ _=>?_
  | with_reducible refine bd (wr (by omega) (by omega)) fun _ _=>?_
  | with_reducible refine bs ?_
  | with_reducible refine And.intro ?_ ?_
  | assumption
  | exact True.intro
  | omega
  | (dsimp only; omega)
  | (simp only [List.length_set,List.length_append,List.length_cons,List.length_nil,List.length_replicate]; omega)
  | (obtain ⟨_,_⟩:=‹_ ∧ _›)
theorem L33x1 (x : Z1j) (hl : x.Z34.length ≤ 140737488355328) : Ok (Z08 (Zh9 x) Z0c 0) (fun _=>True):=by
 refine li (x.Z34.length) (fun t _ _=>?_) (by omega) (by omega) (by omega)
 unfold Zh9
 repeat' first
  | with_reducible refine ni ?_ ?_
  | with_reducible refine di ?_
  | with_reducible refine brD (fun _=>?_) fun _=>?_
  | with_reducible refine br (fun _=>?_) fun _=>?_
  | with_reducible refine bd (wr (by omega) (by omega)) fun _ _=>?_
  | with_reducible refine bd (L33x2 _ _ (by first | assumption | omega | exact And.left (by assumption) | (dsimp only; omega)) (by first | assumption | omega | exact And.left (by assumption) | (dsimp only; omega)) (by first | assumption | omega | exact And.left (by assumption) | (dsimp only; omega))) fun _ _=>?_
  | with_reducible refine bs ?_
  | split
  | with_reducible refine And.intro ?_ ?_
  | assumption
  | exact True.intro
  | omega
  | (dsimp only; omega)
  | (simp only [List.length_set,List.length_append,List.length_cons,List.length_nil,List.length_replicate]; omega)
  | (obtain ⟨_,_⟩:=‹_ ∧ _›)
theorem Y08 (x : Z1j) (hl : x.Z34.length ≤ 140737488355328) : Ok (Zg6 x) (fun _=>True):=by
 unfold Zg6
 repeat' first
  | with_reducible refine bd (L33x1 _ (by first | assumption | omega | exact And.left (by assumption) | (dsimp only; omega))) fun _ _=>?_
  | with_reducible refine ok ?_
  | split
  | with_reducible refine And.intro ?_ ?_
  | assumption
  | exact True.intro
  | omega
  | (dsimp only; omega)
  | (simp only [List.length_set,List.length_append,List.length_cons,List.length_nil,List.length_replicate]; omega)
  | (obtain ⟨_,_⟩:=‹_ ∧ _›)
theorem L19x1 (x : List Z1j) (h : ∀ l ∈ x,Z6l l) (hl : x.length ≤ 140737488355328) : Ok (Z08 (Zfr x) Z0c 0) (fun _=>True):=by
 refine li (x.length) (fun t _ _=>?_) (by omega) (by omega) (by omega)
 unfold Zfr
 repeat' first
  | with_reducible refine ni ?_ ?_
  | with_reducible refine di ?_
  | with_reducible refine brD (fun _=>?_) fun _=>?_
  | with_reducible refine br (fun _=>?_) fun _=>?_
  | with_reducible refine bd (gr (by omega) (by omega)) fun _ _=>?_
  | with_reducible refine bd (wr (by omega) (by omega)) fun _ _=>?_
  | with_reducible refine bs ?_
  | with_reducible refine And.intro ?_ ?_
  | assumption
  | exact True.intro
  | omega
  | (dsimp only; omega)
  | (simp only [List.length_set,List.length_append,List.length_cons,List.length_nil,List.length_replicate]; omega)
  | (obtain ⟨_,_⟩:=‹_ ∧ _›)
theorem L19x3 (k : Int) (x : List Z1j) (h : ∀ l ∈ x,Z6l l) (hl : x.length ≤ 140737488355328) (h0 : 0 ≤ k) (h1 : k < x.length) : Ok (Z08 (Zg7 k x) Z0c 0) (fun _=>True):=by
 obtain ⟨y,hy,hm⟩:=gr h0 h1
 have:=(h y hm).delL
 refine li (y.Z4c.length) (fun t _ _=>?_) (by omega) (by omega) (by omega)
 unfold Zg7
 simp only [hy]
 repeat' first
  | with_reducible refine ni ?_ ?_
  | with_reducible refine di ?_
  | with_reducible refine brD (fun _=>?_) fun _=>?_
  | with_reducible refine br (fun _=>?_) fun _=>?_
  | with_reducible refine bd (gr (by omega) (by omega)) fun _ _=>?_
  | with_reducible refine bd (wr (by omega) (by omega)) fun _ _=>?_
  | with_reducible refine bs ?_
  | with_reducible refine And.intro ?_ ?_
  | assumption
  | exact True.intro
  | omega
  | (dsimp only; omega)
  | (simp only [List.length_set,List.length_append,List.length_cons,List.length_nil,List.length_replicate]; omega)
  | (obtain ⟨_,_⟩:=‹_ ∧ _›)
theorem L19x2 (x : List Z1j) (h : ∀ l ∈ x,Z6l l) (hl : x.length ≤ 140737488355328) : Ok (Z08 (Zij x) Z0c 0) (fun _=>True):=by
 refine li (x.length) (fun t _ _=>?_) (by omega) (by omega) (by omega)
 unfold Zij
 repeat' first
  | with_reducible refine ni ?_ ?_
  | with_reducible refine di ?_
  | with_reducible refine brD (fun _=>?_) fun _=>?_
  | with_reducible refine br (fun _=>?_) fun _=>?_
  | with_reducible refine bd (wr (by omega) (by omega)) fun _ _=>?_
  | with_reducible refine bd (L19x3 _ _ (by first | assumption | omega | exact And.left (by assumption) | (dsimp only; omega)) (by first | assumption | omega | exact And.left (by assumption) | (dsimp only; omega)) (by first | assumption | omega | exact And.left (by assumption) | (dsimp only; omega)) (by first | assumption | omega | exact And.left (by assumption) | (dsimp only; omega))) fun _ _=>?_
  | with_reducible refine bs ?_
  | split
  | with_reducible refine And.intro ?_ ?_
  | assumption
  | exact True.intro
  | omega
  | (dsimp only; omega)
  | (simp only [List.length_set,List.length_append,List.length_cons,List.length_nil,List.length_replicate]; omega)
  | (obtain ⟨_,_⟩:=‹_ ∧ _›)
theorem L19x4 (x : List Z1j) (h : ∀ l ∈ x,Z6l l) (hl : x.length ≤ 140737488355328) : Ok (Z08 (Zfc x) Z0c 0) (fun _=>True):=by
 refine li (x.length) (fun t _ _=>?_) (by omega) (by omega) (by omega)
 unfold Zfc
 repeat' first
  | with_reducible refine ni ?_ ?_
  | with_reducible refine di ?_
  | with_reducible refine brD (fun _=>?_) fun _=>?_
  | with_reducible refine brN (fun _=>?_) fun _=>?_
  | with_reducible refine br (fun _=>?_) fun _=>?_
  | with_reducible refine bd (gr (by omega) (by omega)) fun _ _=>?_
  | with_reducible refine bd (wr (by omega) (by omega)) fun _ _=>?_
  | with_reducible refine bd (Y1e _ _ (by exact h _ (by assumption))) fun _ _=>?_
  | with_reducible refine bs ?_
  | with_reducible refine And.intro ?_ ?_
  | assumption
  | exact True.intro
  | omega
  | (dsimp only; omega)
  | (simp only [List.length_set,List.length_append,List.length_cons,List.length_nil,List.length_replicate]; omega)
  | (obtain ⟨_,_⟩:=‹_ ∧ _›)
theorem L19x5 (x : List Z1j) (h : ∀ l ∈ x,Z6l l) (hl : x.length ≤ 140737488355328) : Ok (Z08 (Zga x) Z0c 0) (fun _=>True):=by
 refine li (x.length) (fun t _ _=>?_) (by omega) (by omega) (by omega)
 unfold Zga
 repeat' first
  | with_reducible refine ni ?_ ?_
  | with_reducible refine di ?_
  | with_reducible refine brD (fun _=>?_) fun _=>?_
  | with_reducible refine br (fun _=>?_) fun _=>?_
  | with_reducible refine bd (gr (by omega) (by omega)) fun _ _=>?_
  | with_reducible refine bd (wr (by omega) (by omega)) fun _ _=>?_
  | with_reducible refine bd (Y08 _ (by exact (h _ (by assumption)).stoL)) fun _ _=>?_
  | with_reducible refine bs ?_
  | with_reducible refine And.intro ?_ ?_
  | assumption
  | exact True.intro
  | omega
  | (dsimp only; omega)
  | (simp only [List.length_set,List.length_append,List.length_cons,List.length_nil,List.length_replicate]; omega)
  | (obtain ⟨_,_⟩:=‹_ ∧ _›)
theorem Zqo (x : List Z1j) (h : ∀ l ∈ x,Z6l l) (hl : x.length ≤ 140737488355328) : Ok (Ze5 x) (fun e=>e = 0 → x.length ≤ 8):=by
 unfold Ze5
 repeat' first
  | unfold j22x1
  | with_reducible refine brD (fun _=>?_) fun _=>?_
  | with_reducible refine brE (fun _=>?_) fun _=>?_
  | with_reducible refine br (fun _=>?_) fun _=>?_
  | with_reducible refine bd (L19x1 _ (by first | assumption | omega | exact And.left (by assumption) | (dsimp only; omega)) (by first | assumption | omega | exact And.left (by assumption) | (dsimp only; omega))) fun _ _=>?_
  | with_reducible refine bd (L19x2 _ (by first | assumption | omega | exact And.left (by assumption) | (dsimp only; omega)) (by first | assumption | omega | exact And.left (by assumption) | (dsimp only; omega))) fun _ _=>?_
  | with_reducible refine bd (L19x4 _ (by first | assumption | omega | exact And.left (by assumption) | (dsimp only; omega)) (by first | assumption | omega | exact And.left (by assumption) | (dsimp only; omega))) fun _ _=>?_
  | with_reducible refine bd (L19x5 _ (by first | assumption | omega | exact And.left (by assumption) | (dsimp only; omega)) (by first | assumption | omega | exact And.left (by assumption) | (dsimp only; omega))) fun _ _=>?_
  | with_reducible refine bs ?_
  | with_reducible refine ok ?_
  | split
  | with_reducible refine And.intro ?_ ?_
  | assumption
  | exact True.intro
  | omega
  | (dsimp only; omega)
  | (simp only [List.length_set,List.length_append,List.length_cons,List.length_nil,List.length_replicate]; omega)
  | (obtain ⟨_,_⟩:=‹_ ∧ _›)
theorem L21x1 (v : Z26) (w : Z0b) (i : Int) (h : Z47 w) (h0 : 0 ≤ i) (h1 : i < w.Z0u.length) : Ok (Z08 (Zic v w i) Z0c 0) (fun _=>True):=by
 have:=h.iniL
 refine li (i) (fun t _ _=>?_) (by omega) (by omega) (by omega)
 unfold Zic
 repeat' first
  | with_reducible refine ni ?_ ?_
  | with_reducible refine di ?_
  | with_reducible refine brD (fun _=>?_) fun _=>?_
  | with_reducible refine brE (fun _=>?_) fun _=>?_
  | with_reducible refine br (fun _=>?_) fun _=>?_
  | with_reducible refine bd (gr (by omega) (by omega)) fun _ _=>?_
  | with_reducible refine bd (wr (by omega) (by omega)) fun _ _=>?_
  | with_reducible refine bs ?_
  | with_reducible refine And.intro ?_ ?_
  | assumption
  | exact True.intro
  | omega
  | (dsimp only; omega)
  | (simp only [List.length_set,List.length_append,List.length_cons,List.length_nil,List.length_replicate]; omega)
  | (obtain ⟨_,_⟩:=‹_ ∧ _›)
def Z6b (w : Z0b) (v : Z26) : Prop:=0 ≤ v.Z1e ∧ v.Z1e < w.Z1b.length ∧ 0 ≤ v.Z0o ∧ v.Z0o < w.Z2i.length
def Z5b (w : Z0b) (b : Z1s) : Prop:=0 ≤ b.f_A ∧ b.f_A < w.Z1b.length ∧ 0 ≤ b.f_B ∧ b.f_B < w.Z1b.length
theorem Zvd (w : Z0b) (i : Int) (h : Z47 w) (h0 : 0 ≤ i) (h1 : i < w.Z0u.length) : Ok (Z9e w i) (fun b=>b = true → ∀ v,w.Z0u[i.toNat]? = some v → Z6b w v):=by
 have:=h.iniL
 unfold Z9e
 repeat' first
  | with_reducible refine bd (gri (by omega) (by omega)) fun _ _=>?_
  | unfold j24x1
  | with_reducible refine brD (fun _=>?_) fun _=>?_
  | with_reducible refine br! (fun _=>?_) fun _=>?_
  | with_reducible refine br (fun _=>?_) fun _=>?_
  | with_reducible refine bd (gr (by omega) (by omega)) fun _ _=>?_
  | with_reducible refine bd (L21x1 _ _ _ (by first | assumption | omega | exact And.left (by assumption) | (dsimp only; omega)) (by first | assumption | omega | exact And.left (by assumption) | (dsimp only; omega)) (by first | assumption | omega | exact And.left (by assumption) | (dsimp only; omega))) fun _ _=>?_
  | with_reducible refine bs ?_
  | with_reducible refine ok ?_
  | split
  | ((intro hb v hv; first | (cases hb; done) | (have e : ∀ a,w.Z0u[i.toNat]? = some a → a = v:=fun a ha=>by { rw [hv] at ha; cases ha; rfl }; have:=e _ (And.right (by assumption)); subst this; exact ⟨by omega,by omega,by omega,by omega⟩)))
  | with_reducible refine And.intro ?_ ?_
  | assumption
  | exact True.intro
  | omega
  | (dsimp only; omega)
  | (simp only [List.length_set,List.length_append,List.length_cons,List.length_nil,List.length_replicate]; omega)
  | (obtain ⟨_,_⟩:=‹_ ∧ _›)
theorem L35x2 (w : Z0b) (s : List UInt8) (l0 : List Bool) (h : Z47 w) (hl : w.Z1b.length ≤ 8) (hc : ∀ b ∈ w.Z0m,Z5b w b) (h0 : l0.length = w.Z1b.length) : Ok (Z08 (Z9q w s) Z0c (0,l0)) (fun r=>r.length = w.Z1b.length):=by
 have:=h.conL
 refine lp (fun t=>t.1) (w.Z0m.length) (fun t=>t.2.length = w.Z1b.length) (fun t hI _ _=>?_) (by omega) (by exact h0) (by omega) (by omega)
 try dsimp only at *
 unfold Z9q
 repeat' first
  | with_reducible refine bd (ik (by have:=hc _ (by assumption); unfold Z5b at this; omega) (by have:=hc _ (by assumption); unfold Z5b at this; first | omega | (simp only [List.length_set]; omega))) fun _ _=>?_
  | with_reducible refine nx ?_ ?_ ?_
  | with_reducible refine dn ?_
  | unfold Zaw
  | with_reducible refine brD (fun _=>?_) fun _=>?_
  | with_reducible refine brE (fun _=>?_) fun _=>?_
  | with_reducible refine br (fun _=>?_) fun _=>?_
  | with_reducible refine bd (gr (by omega) (by omega)) fun _ _=>?_
  | with_reducible refine bd (ik (by omega) (by first | omega | (simp only [List.length_set,List.length_append,List.length_cons,List.length_nil,List.length_replicate]; omega))) fun _ _=>?_
  | with_reducible refine bd (la (by first | omega | (simp only [List.length_set,List.length_append,List.length_cons,List.length_nil,List.length_replicate]; omega))) fun _ _=>?_
  | with_reducible refine bd (wr (by omega) (by omega)) fun _ _=>?_
  | with_reducible refine bs ?_
  | with_reducible refine And.intro ?_ ?_
  | assumption
  | exact True.intro
  | omega
  | (dsimp only; omega)
  | (simp only [List.length_set,List.length_append,List.length_cons,List.length_nil,List.length_replicate]; omega)
  | (obtain ⟨_,_⟩:=‹_ ∧ _›)
theorem L35x1 (w : Z0b) (s : List UInt8) (l0 : List Bool) (h : Z47 w) (hl : w.Z1b.length ≤ 8) (hc : ∀ b ∈ w.Z0m,Z5b w b) (h0 : l0.length = w.Z1b.length) : Ok (Z08 (Zef w s) Z0c (0,l0)) (fun r=>r.length = w.Z1b.length):=by
 refine lp (fun t=>t.1) (w.Z1b.length) (fun t=>t.2.length = w.Z1b.length) (fun t hI _ _=>?_) (by omega) (by exact h0) (by omega) (by omega)
 try dsimp only at *
 unfold Zef
 repeat' first
  | with_reducible refine nx ?_ ?_ ?_
  | with_reducible refine dn ?_
  | with_reducible refine brD (fun _=>?_) fun _=>?_
  | with_reducible refine br (fun _=>?_) fun _=>?_
  | with_reducible refine bd (wr (by omega) (by omega)) fun _ _=>?_
  | with_reducible refine bd (L35x2 _ _ _ (by first | assumption | omega | exact And.left (by assumption) | (dsimp only; omega)) (by first | assumption | omega | exact And.left (by assumption) | (dsimp only; omega)) (by first | assumption | omega | exact And.left (by assumption) | (dsimp only; omega)) (by first | assumption | omega | exact And.left (by assumption) | (dsimp only; omega))) fun _ _=>?_
  | with_reducible refine bs ?_
  | with_reducible refine And.intro ?_ ?_
  | assumption
  | exact True.intro
  | omega
  | (dsimp only; omega)
  | (simp only [List.length_set,List.length_append,List.length_cons,List.length_nil,List.length_replicate]; omega)
  | (obtain ⟨_,_⟩:=‹_ ∧ _›)
theorem Y0v (w : Z0b) (s : List UInt8) (k : Int) (h : Z47 w) (hl : w.Z1b.length ≤ 8) (hc : ∀ b ∈ w.Z0m,Z5b w b) (h0 : 0 ≤ k) (h1 : k < w.Z1b.length) : Ok (Z9y w s k) (fun r=>r.length = w.Z1b.length):=by
 unfold Z9y
 repeat' first
  | with_reducible refine bd (ik (by omega) (by first | omega | (simp only [List.length_set,List.length_append,List.length_cons,List.length_nil,List.length_replicate]; omega))) fun _ _=>?_
  | with_reducible refine bd (la (by first | omega | (simp only [List.length_set,List.length_append,List.length_cons,List.length_nil,List.length_replicate]; omega))) fun _ _=>?_
  | with_reducible refine bd (mk (by omega) (by omega) (by omega) (by omega)) fun _ _=>?_
  | with_reducible refine bd (L35x1 _ _ _ (by first | assumption | (simp only [List.length_set,List.length_replicate]; omega)) (by first | assumption | (simp only [List.length_set,List.length_replicate]; omega)) (by first | assumption | (simp only [List.length_set,List.length_replicate]; omega)) (by first | assumption | (simp only [List.length_set,List.length_replicate]; omega))) fun _ _=>?_
  | with_reducible refine ok ?_
  | with_reducible refine And.intro ?_ ?_
  | assumption
  | exact True.intro
  | omega
  | (dsimp only; omega)
  | (simp only [List.length_set,List.length_append,List.length_cons,List.length_nil,List.length_replicate]; omega)
  | (obtain ⟨_,_⟩:=‹_ ∧ _›)
theorem L22x1 (v : Z26) (g : List Bool) (w : Z0b) (i : Int) (h : Z47 w) (h0 : 0 ≤ i) (h1 : i < w.Z0u.length) (hg : g.length = w.Z1b.length) (hs : ∀ (j : Nat) v,j < i → w.Z0u[j]? = some v → Z6b w v) : Ok (Z08 (Z9t v g w i) Z0c 0) (fun _=>True):=by
 have:=h.iniL
 refine li (i) (fun t _ _=>?_) (by omega) (by omega) (by omega)
 unfold Z9t
 repeat' first
  | with_reducible refine bd (gri (by omega) (by omega)) fun _ _=>?_
  | with_reducible refine bd (gr (by have:=hs t.toNat _ (by omega) (And.right (by assumption)); unfold Z6b at this; omega) (by have:=hs t.toNat _ (by omega) (And.right (by assumption)); unfold Z6b at this; omega)) fun _ _=>?_
  | with_reducible refine ni ?_ ?_
  | with_reducible refine di ?_
  | with_reducible refine brD (fun _=>?_) fun _=>?_
  | with_reducible refine brE (fun _=>?_) fun _=>?_
  | with_reducible refine brN (fun _=>?_) fun _=>?_
  | with_reducible refine br (fun _=>?_) fun _=>?_
  | with_reducible refine bd (gr (by omega) (by omega)) fun _ _=>?_
  | with_reducible refine bd (wr (by omega) (by omega)) fun _ _=>?_
  | with_reducible refine bs ?_
  | with_reducible refine And.intro ?_ ?_
  | assumption
  | exact True.intro
  | omega
  | (dsimp only; omega)
  | (simp only [List.length_set,List.length_append,List.length_cons,List.length_nil,List.length_replicate]; omega)
  | (obtain ⟨_,_⟩:=‹_ ∧ _›)
theorem Zy0 (w : Z0b) (i : Int) (h : Z47 w) (hl : w.Z1b.length ≤ 8) (hc : ∀ b ∈ w.Z0m,Z5b w b) (h0 : 0 ≤ i) (h1 : i < w.Z0u.length) (hs : ∀ (j : Nat) v,j ≤ i → w.Z0u[j]? = some v → Z6b w v) : Ok (Z7y w i) (fun _=>True):=by
 have:=h.iniL
 unfold Z7y
 repeat' first
  | with_reducible refine bd (gri (by omega) (by omega)) fun _ _=>?_
  | with_reducible refine bd (Y0v _ _ _ h hl hc (by have:=hs i.toNat _ (by omega) (And.right (by assumption)); unfold Z6b at this; omega) (by have:=hs i.toNat _ (by omega) (And.right (by assumption)); unfold Z6b at this; omega)) fun _ _=>?_
  | with_reducible refine bd (L22x1 _ _ _ _ h h0 h1 (by assumption) (fun j v hj hv=>hs j v (by omega) hv)) fun _ _=>?_
  | with_reducible refine bd (gr (by omega) (by omega)) fun _ _=>?_
  | with_reducible refine ok ?_
  | split
  | with_reducible refine And.intro ?_ ?_
  | assumption
  | exact True.intro
  | omega
  | (dsimp only; omega)
  | (simp only [List.length_set,List.length_append,List.length_cons,List.length_nil,List.length_replicate]; omega)
  | (obtain ⟨_,_⟩:=‹_ ∧ _›)
theorem L53x1 (x : List Z0d) (hl : x.length ≤ 140737488355328) : Ok (Z08 (Zes x) Z0c 0) (fun _=>True):=by
 refine li (x.length) (fun t _ _=>?_) (by omega) (by omega) (by omega)
 unfold Zes
 repeat' first
  | with_reducible refine ni ?_ ?_
  | with_reducible refine di ?_
  | with_reducible refine brD (fun _=>?_) fun _=>?_
  | with_reducible refine brN (fun _=>?_) fun _=>?_
  | with_reducible refine br (fun _=>?_) fun _=>?_
  | with_reducible refine bd (gr (by omega) (by omega)) fun _ _=>?_
  | with_reducible refine bd (wr (by omega) (by omega)) fun _ _=>?_
  | with_reducible refine bs ?_
  | with_reducible refine And.intro ?_ ?_
  | assumption
  | exact True.intro
  | omega
  | (dsimp only; omega)
  | (simp only [List.length_set,List.length_append,List.length_cons,List.length_nil,List.length_replicate]; omega)
  | (obtain ⟨_,_⟩:=‹_ ∧ _›)
theorem Zwc (x : List Z0d) (hl : x.length ≤ 140737488355328) : Ok (Zcb x) (fun _=>True):=by
 unfold Zcb
 repeat' first
  | with_reducible refine bd (L53x1 _ (by first | assumption | omega | exact And.left (by assumption) | (dsimp only; omega))) fun _ _=>?_
  | with_reducible refine ok ?_
  | split
  | with_reducible refine And.intro ?_ ?_
  | assumption
  | exact True.intro
  | omega
  | (dsimp only; omega)
  | (simp only [List.length_set,List.length_append,List.length_cons,List.length_nil,List.length_replicate]; omega)
  | (obtain ⟨_,_⟩:=‹_ ∧ _›)
theorem L47x1 (u : Z12) (h : Z55 u) : Ok (Z08 (Zh0 u) Z0c 0) (fun _=>True):=by
 have:=h.fldL
 refine li (u.Z19.length) (fun t _ _=>?_) (by omega) (by omega) (by omega)
 unfold Zh0
 repeat' first
  | with_reducible refine ni ?_ ?_
  | with_reducible refine di ?_
  | unfold Zfp
  | with_reducible refine brD (fun _=>?_) fun _=>?_
  | with_reducible refine br! (fun _=>?_) fun _=>?_
  | with_reducible refine brE (fun _=>?_) fun _=>?_
  | with_reducible refine brN (fun _=>?_) fun _=>?_
  | with_reducible refine br (fun _=>?_) fun _=>?_
  | with_reducible refine bd (gr (by omega) (by omega)) fun _ _=>?_
  | with_reducible refine bd (wr (by omega) (by omega)) fun _ _=>?_
  | with_reducible refine bs ?_
  | with_reducible refine And.intro ?_ ?_
  | assumption
  | exact True.intro
  | omega
  | (dsimp only; omega)
  | (simp only [List.length_set,List.length_append,List.length_cons,List.length_nil,List.length_replicate]; omega)
  | (obtain ⟨_,_⟩:=‹_ ∧ _›)
theorem L47x3 (m : Z2f) (h : Z94 m) : Ok (Z08 (Zii m) Z0c 0) (fun _=>True):=by
 have:=h.code.hndL
 refine li (m.Z2k.Z1g.length) (fun t _ _=>?_) (by omega) (by omega) (by omega)
 unfold Zii
 repeat' first
  | with_reducible refine ni ?_ ?_
  | with_reducible refine di ?_
  | with_reducible refine brD (fun _=>?_) fun _=>?_
  | with_reducible refine brN (fun _=>?_) fun _=>?_
  | with_reducible refine br (fun _=>?_) fun _=>?_
  | with_reducible refine bd (gr (by omega) (by omega)) fun _ _=>?_
  | with_reducible refine bd (wr (by omega) (by omega)) fun _ _=>?_
  | with_reducible refine bs ?_
  | with_reducible refine And.intro ?_ ?_
  | assumption
  | exact True.intro
  | omega
  | (dsimp only; omega)
  | (simp only [List.length_set,List.length_append,List.length_cons,List.length_nil,List.length_replicate]; omega)
  | (obtain ⟨_,_⟩:=‹_ ∧ _›)
theorem L47x4 (m : Z2f) (h : Z94 m) : Ok (Z08 (Zer m) Z0c 0) (fun _=>True):=by
 have:=h.code.mapL
 refine li (m.Z2k.Z11.length) (fun t _ _=>?_) (by omega) (by omega) (by omega)
 unfold Zer
 repeat' first
  | with_reducible refine bd (Zwc _ (by have:=(h.code.map _ (by assumption)).locL; omega)) fun _ _=>?_
  | with_reducible refine bd (Zwc _ (by have:=(h.code.map _ (by assumption)).stkL; omega)) fun _ _=>?_
  | with_reducible refine ni ?_ ?_
  | with_reducible refine di ?_
  | with_reducible refine brD (fun _=>?_) fun _=>?_
  | with_reducible refine br! (fun _=>?_) fun _=>?_
  | with_reducible refine br (fun _=>?_) fun _=>?_
  | with_reducible refine bd (gr (by omega) (by omega)) fun _ _=>?_
  | with_reducible refine bd (wr (by omega) (by omega)) fun _ _=>?_
  | with_reducible refine bs ?_
  | with_reducible refine And.intro ?_ ?_
  | assumption
  | exact True.intro
  | omega
  | (dsimp only; omega)
  | (simp only [List.length_set,List.length_append,List.length_cons,List.length_nil,List.length_replicate]; omega)
  | (obtain ⟨_,_⟩:=‹_ ∧ _›)
theorem L47x2 (u : Z12) (h : Z55 u) : Ok (Z08 (Zjh u) Z0c 0) (fun _=>True):=by
 have:=h.metL
 refine li (u.Z17.length) (fun t _ _=>?_) (by omega) (by omega) (by omega)
 unfold Zjh
 repeat' first
  | with_reducible refine ni ?_ ?_
  | with_reducible refine di ?_
  | unfold Zey
  | with_reducible refine brD (fun _=>?_) fun _=>?_
  | with_reducible refine br! (fun _=>?_) fun _=>?_
  | with_reducible refine brN (fun _=>?_) fun _=>?_
  | with_reducible refine br (fun _=>?_) fun _=>?_
  | with_reducible refine bd (gr (by omega) (by omega)) fun _ _=>?_
  | with_reducible refine bd (wr (by omega) (by omega)) fun _ _=>?_
  | with_reducible refine bd (L47x3 _ (by exact h.met _ (by assumption))) fun _ _=>?_
  | with_reducible refine bd (L47x4 _ (by exact h.met _ (by assumption))) fun _ _=>?_
  | with_reducible refine bs ?_
  | split
  | with_reducible refine And.intro ?_ ?_
  | assumption
  | exact True.intro
  | omega
  | (dsimp only; omega)
  | (simp only [List.length_set,List.length_append,List.length_cons,List.length_nil,List.length_replicate]; omega)
  | (obtain ⟨_,_⟩:=‹_ ∧ _›)
theorem Zy2 (u : Z12) (h : Z55 u) : Ok (Zi6 u) (fun _=>True):=by
 unfold Zi6
 repeat' first
  | with_reducible refine bd (L47x1 _ (by first | assumption | omega | exact And.left (by assumption) | (dsimp only; omega))) fun _ _=>?_
  | with_reducible refine bd (L47x2 _ (by first | assumption | omega | exact And.left (by assumption) | (dsimp only; omega))) fun _ _=>?_
  | with_reducible refine ok ?_
  | split
  | with_reducible refine And.intro ?_ ?_
  | assumption
  | exact True.intro
  | omega
  | (dsimp only; omega)
  | (simp only [List.length_set,List.length_append,List.length_cons,List.length_nil,List.length_replicate]; omega)
  | (obtain ⟨_,_⟩:=‹_ ∧ _›)
end Go.Proofs
