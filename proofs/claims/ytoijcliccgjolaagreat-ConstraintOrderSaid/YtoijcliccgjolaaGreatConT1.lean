/-
  That the models come to an answer, part one: names and loaders. No condition.
-/
import Derived.Test.YtoijcliccgjolaaGreatCon8
import Derived.Test.YtoijcliccgjolaaGreatDenTot
set_option linter.unusedVariables false
namespace Go.Proofs
open Go.Den Go.Tot
abbrev Str (s : List UInt8) : Prop:=s.length ≤ 4503599627370496
structure WRef (r : Z23) : Prop where
 c : Str r.Z0s
 n : Str r.Z03
 d : Str r.Z1f
structure Z2n (i : Z01) : Prop where
 keys : i.Z0q.length * 8 ≤ 140737488355328
 tos : i.Z09.length * 8 ≤ 140737488355328
 ref : WRef i.Z11
 s : Str i.f_S
structure Z96 (f : Z56) : Prop where
 loc : ∀ v ∈ f.Z0o,Str v.Z1j.Z03
 locL : f.Z0o.length * 56 ≤ 140737488355328
 stk : ∀ v ∈ f.Z0r,Str v.Z1j.Z03
 stkL : f.Z0r.length * 56 ≤ 140737488355328
structure Z4r (c : Z06) : Prop where
 ins : ∀ i ∈ c.Z0l,Z2n i
 insL : c.Z0l.length * 144 ≤ 140737488355328
 hnd : ∀ h ∈ c.Z1i,Str h.Z1j
 hndL : c.Z1i.length * 48 ≤ 140737488355328
 map : ∀ m ∈ c.Z12,Z96 m.Z1k
 mapL : c.Z12.length * 64 ≤ 140737488355328
 linL : c.Z1b.length * 16 ≤ 140737488355328
structure Z97 (m : Z2i) : Prop where
 n : Str m.Z03
 d : Str m.Z1f
 code : Z4r m.Z2m
 exc : ∀ s ∈ m.Z6b,Str s
 excL : m.Z6b.length * 16 ≤ 140737488355328
structure Zog (f : Z3p) : Prop where
 n : Str f.Z03
 d : Str f.Z1f
 s : Str f.f_S
structure Z58 (u : Z14) : Prop where
 n : Str u.Z03
 sup : Str u.Z1n
 ifs : ∀ s ∈ u.Z15,Str s
 ifsL : u.Z15.length * 16 ≤ 140737488355328
 fld : ∀ f ∈ u.Z1c,Zog f
 fldL : u.Z1c.length * 72 ≤ 140737488355328
 met : ∀ m ∈ u.Z18,Z97 m
 metL : u.Z18.length * 184 ≤ 140737488355328
 src : Str u.Z6u
structure Z77 (l : Z1l) : Prop where
 del : ∀ d ∈ l.Z4d,Str d.Zgv
 delL : l.Z4d.length ≤ 140737488355328
 sto : ∀ c ∈ l.Z33,Str c.Z03
 stoL : l.Z33.length ≤ 140737488355328
structure Z39 (w : Z07) : Prop where
 lod : ∀ l ∈ w.Z0z,Z77 l
 lodL : w.Z0z.length ≤ 140737488355328
 cls : ∀ c ∈ w.Z2f,Z58 c.Z2o ∧ c.Z15.length ≤ 140737488355328
 clsL : w.Z2f.length ≤ 140737488355328
 ini : ∀ x ∈ w.Z0u,Str x.Z03
 iniL : w.Z0u.length ≤ 140737488355328
 con : ∀ x ∈ w.Z0j,Str x.Z03
 conL : w.Z0j.length ≤ 140737488355328
theorem Zzh (x : Int) : Ok (Zbo x) (fun _=>True):=by
 unfold Zbo
 repeat' first
  | with_reducible refine brD (fun _=>?_) fun _=>?_
  | with_reducible refine brE (fun _=>?_) fun _=>?_
  | with_reducible refine br (fun _=>?_) fun _=>?_
  | with_reducible refine bs ?_
  | with_reducible refine ok ?_
  | with_reducible refine And.intro ?_ ?_
  | assumption
  | exact True.intro
  | omega
  | (dsimp only; omega)
  | (simp only [List.length_set,List.length_append,List.length_cons,List.length_nil,List.length_replicate]; omega)
  | (obtain ⟨_,_⟩:=‹_ ∧ _›)
theorem L34x1 (x : List UInt8) (h : Str x) : Ok (Z0b (Zah x) Z0c 0) (fun q=>match q with | .inl _=>True | .inr y=>y = false):=by
 refine li (x.length) (fun t _ _=>?_) (by omega) (by omega) (by omega)
 unfold Zah
 repeat' first
  | with_reducible refine ni ?_ ?_
  | with_reducible refine di ?_
  | with_reducible refine brD (fun _=>?_) fun _=>?_
  | with_reducible refine br! (fun _=>?_) fun _=>?_
  | with_reducible refine brE (fun _=>?_) fun _=>?_
  | with_reducible refine br (fun _=>?_) fun _=>?_
  | with_reducible refine bd (gs (by omega) (by omega)) fun _ _=>?_
  | with_reducible refine bd (wr (by omega) (by omega)) fun _ _=>?_
  | with_reducible refine bd (Zzh _) fun _ _=>?_
  | with_reducible refine bs ?_
  | (rfl)
  | with_reducible refine And.intro ?_ ?_
  | assumption
  | exact True.intro
  | omega
  | (dsimp only; omega)
  | (simp only [List.length_set,List.length_append,List.length_cons,List.length_nil,List.length_replicate]; omega)
  | (obtain ⟨_,_⟩:=‹_ ∧ _›)
theorem Zlc (x : List UInt8) (h : Str x) : Ok (Z8s x) (fun b=>b = true → x ≠ []):=by
 unfold Z8s
 repeat' first
  | with_reducible refine bd (L34x1 _ (by first | assumption | omega | exact And.left (by assumption) | (dsimp only; omega))) fun _ _=>?_
  | with_reducible refine bs ?_
  | with_reducible refine ok ?_
  | split
  | (first | (intro h; rintro rfl; simp at h; done) | (simp_all; done))
  | with_reducible refine And.intro ?_ ?_
  | assumption
  | exact True.intro
  | omega
  | (dsimp only; omega)
  | (simp only [List.length_set,List.length_append,List.length_cons,List.length_nil,List.length_replicate]; omega)
  | (obtain ⟨_,_⟩:=‹_ ∧ _›)
theorem L20x1 (x : List UInt8) (h : Str x) : Ok (Z0b (Zbh x) Z0c (0,0)) (fun q=>match q with | .inl y=>0 ≤ y ∧ y ≤ x.length | .inr y=>True):=by
 refine lp (fun t=>t.2) (x.length) (fun t=>0 ≤ t.1 ∧ t.1 ≤ t.2) (fun t hI _ _=>?_) (by omega) (by omega) (by omega) (by omega)
 try dsimp only at *
 unfold Zbh
 repeat' first
  | with_reducible refine nx ?_ ?_ ?_
  | with_reducible refine dn ?_
  | with_reducible refine brD (fun _=>?_) fun _=>?_
  | with_reducible refine br! (fun _=>?_) fun _=>?_
  | with_reducible refine brE (fun _=>?_) fun _=>?_
  | with_reducible refine br (fun _=>?_) fun _=>?_
  | with_reducible refine bd (gs (by omega) (by omega)) fun _ _=>?_
  | with_reducible refine bd (wr (by omega) (by omega)) fun _ _=>?_
  | with_reducible refine bd (sb (by omega) (by omega) (by omega)) fun _ _=>?_
  | with_reducible refine bd (Zlc _ (by unfold Str; omega)) fun _ _=>?_
  | with_reducible refine bs ?_
  | with_reducible refine And.intro ?_ ?_
  | assumption
  | exact True.intro
  | omega
  | (dsimp only; omega)
  | (simp only [List.length_set,List.length_append,List.length_cons,List.length_nil,List.length_replicate]; omega)
  | (obtain ⟨_,_⟩:=‹_ ∧ _›)
theorem Zh1 (x : List UInt8) (h : Str x) : Ok (Z4u x) (fun b=>b = true → x.length ≤ 64):=by
 unfold Z4u
 repeat' first
  | with_reducible refine bdE (L20x1 _ (by assumption)) fun q _ hq=>?_
  | with_reducible refine brD (fun _=>?_) fun _=>?_
  | with_reducible refine br (fun _=>?_) fun _=>?_
  | with_reducible refine bd (sb (by omega) (by omega) (by omega)) fun _ _=>?_
  | with_reducible refine bd (L20x1 _ (by first | assumption | omega | exact And.left (by assumption) | (dsimp only; omega))) fun _ _=>?_
  | with_reducible refine bd (Zlc _ (by unfold Str; omega)) fun _ _=>?_
  | with_reducible refine bs ?_
  | with_reducible refine ok ?_
  | split
  | ((intro hb; first | (cases hb; done) | omega))
  | with_reducible refine And.intro ?_ ?_
  | assumption
  | exact True.intro
  | omega
  | (dsimp only; omega)
  | (simp only [List.length_set,List.length_append,List.length_cons,List.length_nil,List.length_replicate]; omega)
  | (obtain ⟨_,_⟩:=‹_ ∧ _›)
theorem Ztr (x y : List UInt8) : Ok (Z8c x y) (fun _=>True):=by
 unfold Z8c
 repeat' first
  | with_reducible refine brD (fun _=>?_) fun _=>?_
  | with_reducible refine br (fun _=>?_) fun _=>?_
  | with_reducible refine bd (sb (by omega) (by omega) (by omega)) fun _ _=>?_
  | with_reducible refine ok ?_
  | with_reducible refine And.intro ?_ ?_
  | assumption
  | exact True.intro
  | omega
  | (dsimp only; omega)
  | (simp only [List.length_set,List.length_append,List.length_cons,List.length_nil,List.length_replicate]; omega)
  | (obtain ⟨_,_⟩:=‹_ ∧ _›)
theorem L32x1 (x : Z1l) (i : Int) (h : Z77 x) : Ok (Z0b (Zf7 x i) Z0c 0) (fun _=>True):=by
 have:=h.stoL
 refine li (x.Z33.length) (fun t _ _=>?_) (by omega) (by omega) (by omega)
 unfold Zf7
 repeat' first
  | with_reducible refine ni ?_ ?_
  | with_reducible refine di ?_
  | with_reducible refine brD (fun _=>?_) fun _=>?_
  | with_reducible refine br! (fun _=>?_) fun _=>?_
  | with_reducible refine br (fun _=>?_) fun _=>?_
  | with_reducible refine bd (gr (by omega) (by omega)) fun _ _=>?_
  | with_reducible refine bd (wr (by omega) (by omega)) fun _ _=>?_
  | with_reducible refine bd (Zh1 _ (by exact h.sto _ (by assumption))) fun _ _=>?_
  | with_reducible refine bd (Ztr _ _) fun _ _=>?_
  | with_reducible refine bs ?_
  | with_reducible refine And.intro ?_ ?_
  | assumption
  | exact True.intro
  | omega
  | (dsimp only; omega)
  | (simp only [List.length_set,List.length_append,List.length_cons,List.length_nil,List.length_replicate]; omega)
  | (obtain ⟨_,_⟩:=‹_ ∧ _›)
theorem Y0x (x : Z1l) (i : Int) (h : Z77 x) : Ok (Zf8 x i) (fun _=>True):=by
 unfold Zf8
 repeat' first
  | with_reducible refine bd (L32x1 _ _ (by first | assumption | omega | exact And.left (by assumption) | (dsimp only; omega))) fun _ _=>?_
  | with_reducible refine ok ?_
  | split
  | with_reducible refine And.intro ?_ ?_
  | assumption
  | exact True.intro
  | omega
  | (dsimp only; omega)
  | (simp only [List.length_set,List.length_append,List.length_cons,List.length_nil,List.length_replicate]; omega)
  | (obtain ⟨_,_⟩:=‹_ ∧ _›)
theorem L33x2 (k : Int) (x : Z1l) (hl : x.Z33.length ≤ 140737488355328) (h0 : 0 ≤ k) (h1 : k < x.Z33.length) : Ok (Z0b (Zjf k x) Z0c 0) (fun _=>True):=by
 refine li (k) (fun t _ _=>?_) (by omega) (by omega) (by omega)
 unfold Zjf
 repeat' first
  | with_reducible refine ni ?_ ?_
  | with_reducible refine di ?_
  | with_reducible refine brD (fun _=>?_) fun _=>?_
  | with_reducible refine brE (fun _=>?_) fun _=>?_
  | with_reducible refine br (fun _=>?_) fun _=>?_
  | with_reducible refine bd (gr (by omega) (by omega)) fun _ _=>?_
  | with_reducible refine bd (wr (by omega) (by omega)) fun _ _=>?_
  | with_reducible refine bs ?_
  | with_reducible refine And.intro ?_ ?_
  | assumption
  | exact True.intro
  | omega
  | (dsimp only; omega)
  | (simp only [List.length_set,List.length_append,List.length_cons,List.length_nil,List.length_replicate]; omega)
  | (obtain ⟨_,_⟩:=‹_ ∧ _›)
theorem L33x1 (x : Z1l) (hl : x.Z33.length ≤ 140737488355328) : Ok (Z0b (Zga x) Z0c 0) (fun _=>True):=by
 refine li (x.Z33.length) (fun t _ _=>?_) (by omega) (by omega) (by omega)
 unfold Zga
 repeat' first
  | with_reducible refine ni ?_ ?_
  | with_reducible refine di ?_
  | with_reducible refine brD (fun _=>?_) fun _=>?_
  | with_reducible refine br (fun _=>?_) fun _=>?_
  | with_reducible refine bd (wr (by omega) (by omega)) fun _ _=>?_
  | with_reducible refine bd (L33x2 _ _ (by first | assumption | omega | exact And.left (by assumption) | (dsimp only; omega)) (by first | assumption | omega | exact And.left (by assumption) | (dsimp only; omega)) (by first | assumption | omega | exact And.left (by assumption) | (dsimp only; omega))) fun _ _=>?_
  | with_reducible refine bs ?_
  | split
  | with_reducible refine And.intro ?_ ?_
  | assumption
  | exact True.intro
  | omega
  | (dsimp only; omega)
  | (simp only [List.length_set,List.length_append,List.length_cons,List.length_nil,List.length_replicate]; omega)
  | (obtain ⟨_,_⟩:=‹_ ∧ _›)
theorem Y0i (x : Z1l) (hl : x.Z33.length ≤ 140737488355328) : Ok (Zi3 x) (fun _=>True):=by
 unfold Zi3
 repeat' first
  | with_reducible refine bd (L33x1 _ (by first | assumption | omega | exact And.left (by assumption) | (dsimp only; omega))) fun _ _=>?_
  | with_reducible refine ok ?_
  | split
  | with_reducible refine And.intro ?_ ?_
  | assumption
  | exact True.intro
  | omega
  | (dsimp only; omega)
  | (simp only [List.length_set,List.length_append,List.length_cons,List.length_nil,List.length_replicate]; omega)
  | (obtain ⟨_,_⟩:=‹_ ∧ _›)
theorem L19x1 (x : List Z1l) (h : ∀ l ∈ x,Z77 l) (hl : x.length ≤ 140737488355328) : Ok (Z0b (Zjs x) Z0c 0) (fun _=>True):=by
 refine li (x.length) (fun t _ _=>?_) (by omega) (by omega) (by omega)
 unfold Zjs
 repeat' first
  | with_reducible refine ni ?_ ?_
  | with_reducible refine di ?_
  | with_reducible refine brD (fun _=>?_) fun _=>?_
  | with_reducible refine br (fun _=>?_) fun _=>?_
  | with_reducible refine bd (gr (by omega) (by omega)) fun _ _=>?_
  | with_reducible refine bd (wr (by omega) (by omega)) fun _ _=>?_
  | with_reducible refine bs ?_
  | with_reducible refine And.intro ?_ ?_
  | assumption
  | exact True.intro
  | omega
  | (dsimp only; omega)
  | (simp only [List.length_set,List.length_append,List.length_cons,List.length_nil,List.length_replicate]; omega)
  | (obtain ⟨_,_⟩:=‹_ ∧ _›)
theorem L19x3 (k : Int) (x : List Z1l) (h : ∀ l ∈ x,Z77 l) (hl : x.length ≤ 140737488355328) (h0 : 0 ≤ k) (h1 : k < x.length) : Ok (Z0b (Zi8 k x) Z0c 0) (fun _=>True):=by
 obtain ⟨y,hy,hm⟩:=gr h0 h1
 have:=(h y hm).delL
 refine li (y.Z4d.length) (fun t _ _=>?_) (by omega) (by omega) (by omega)
 unfold Zi8
 simp only [hy]
 repeat' first
  | with_reducible refine ni ?_ ?_
  | with_reducible refine di ?_
  | with_reducible refine brD (fun _=>?_) fun _=>?_
  | with_reducible refine br (fun _=>?_) fun _=>?_
  | with_reducible refine bd (gr (by omega) (by omega)) fun _ _=>?_
  | with_reducible refine bd (wr (by omega) (by omega)) fun _ _=>?_
  | with_reducible refine bs ?_
  | with_reducible refine And.intro ?_ ?_
  | assumption
  | exact True.intro
  | omega
  | (dsimp only; omega)
  | (simp only [List.length_set,List.length_append,List.length_cons,List.length_nil,List.length_replicate]; omega)
  | (obtain ⟨_,_⟩:=‹_ ∧ _›)
theorem L19x2 (x : List Z1l) (h : ∀ l ∈ x,Z77 l) (hl : x.length ≤ 140737488355328) : Ok (Z0b (Zif x) Z0c 0) (fun _=>True):=by
 refine li (x.length) (fun t _ _=>?_) (by omega) (by omega) (by omega)
 unfold Zif
 repeat' first
  | with_reducible refine ni ?_ ?_
  | with_reducible refine di ?_
  | with_reducible refine brD (fun _=>?_) fun _=>?_
  | with_reducible refine br (fun _=>?_) fun _=>?_
  | with_reducible refine bd (wr (by omega) (by omega)) fun _ _=>?_
  | with_reducible refine bd (L19x3 _ _ (by first | assumption | omega | exact And.left (by assumption) | (dsimp only; omega)) (by first | assumption | omega | exact And.left (by assumption) | (dsimp only; omega)) (by first | assumption | omega | exact And.left (by assumption) | (dsimp only; omega)) (by first | assumption | omega | exact And.left (by assumption) | (dsimp only; omega))) fun _ _=>?_
  | with_reducible refine bs ?_
  | split
  | with_reducible refine And.intro ?_ ?_
  | assumption
  | exact True.intro
  | omega
  | (dsimp only; omega)
  | (simp only [List.length_set,List.length_append,List.length_cons,List.length_nil,List.length_replicate]; omega)
  | (obtain ⟨_,_⟩:=‹_ ∧ _›)
theorem L19x4 (x : List Z1l) (h : ∀ l ∈ x,Z77 l) (hl : x.length ≤ 140737488355328) : Ok (Z0b (Zjl x) Z0c 0) (fun _=>True):=by
 refine li (x.length) (fun t _ _=>?_) (by omega) (by omega) (by omega)
 unfold Zjl
 repeat' first
  | with_reducible refine ni ?_ ?_
  | with_reducible refine di ?_
  | with_reducible refine brD (fun _=>?_) fun _=>?_
  | with_reducible refine brN (fun _=>?_) fun _=>?_
  | with_reducible refine br (fun _=>?_) fun _=>?_
  | with_reducible refine bd (gr (by omega) (by omega)) fun _ _=>?_
  | with_reducible refine bd (wr (by omega) (by omega)) fun _ _=>?_
  | with_reducible refine bd (Y0x _ _ (by exact h _ (by assumption))) fun _ _=>?_
  | with_reducible refine bs ?_
  | with_reducible refine And.intro ?_ ?_
  | assumption
  | exact True.intro
  | omega
  | (dsimp only; omega)
  | (simp only [List.length_set,List.length_append,List.length_cons,List.length_nil,List.length_replicate]; omega)
  | (obtain ⟨_,_⟩:=‹_ ∧ _›)
theorem L19x5 (x : List Z1l) (h : ∀ l ∈ x,Z77 l) (hl : x.length ≤ 140737488355328) : Ok (Z0b (Zka x) Z0c 0) (fun _=>True):=by
 refine li (x.length) (fun t _ _=>?_) (by omega) (by omega) (by omega)
 unfold Zka
 repeat' first
  | with_reducible refine ni ?_ ?_
  | with_reducible refine di ?_
  | with_reducible refine brD (fun _=>?_) fun _=>?_
  | with_reducible refine br (fun _=>?_) fun _=>?_
  | with_reducible refine bd (gr (by omega) (by omega)) fun _ _=>?_
  | with_reducible refine bd (wr (by omega) (by omega)) fun _ _=>?_
  | with_reducible refine bd (Y0i _ (by exact (h _ (by assumption)).stoL)) fun _ _=>?_
  | with_reducible refine bs ?_
  | with_reducible refine And.intro ?_ ?_
  | assumption
  | exact True.intro
  | omega
  | (dsimp only; omega)
  | (simp only [List.length_set,List.length_append,List.length_cons,List.length_nil,List.length_replicate]; omega)
  | (obtain ⟨_,_⟩:=‹_ ∧ _›)
theorem Zr6 (x : List Z1l) (h : ∀ l ∈ x,Z77 l) (hl : x.length ≤ 140737488355328) : Ok (Zce x) (fun e=>e = 0 → x.length ≤ 8):=by
 unfold Zce
 repeat' first
  | unfold j22x1
  | with_reducible refine brD (fun _=>?_) fun _=>?_
  | with_reducible refine brE (fun _=>?_) fun _=>?_
  | with_reducible refine br (fun _=>?_) fun _=>?_
  | with_reducible refine bd (L19x1 _ (by first | assumption | omega | exact And.left (by assumption) | (dsimp only; omega)) (by first | assumption | omega | exact And.left (by assumption) | (dsimp only; omega))) fun _ _=>?_
  | with_reducible refine bd (L19x2 _ (by first | assumption | omega | exact And.left (by assumption) | (dsimp only; omega)) (by first | assumption | omega | exact And.left (by assumption) | (dsimp only; omega))) fun _ _=>?_
  | with_reducible refine bd (L19x4 _ (by first | assumption | omega | exact And.left (by assumption) | (dsimp only; omega)) (by first | assumption | omega | exact And.left (by assumption) | (dsimp only; omega))) fun _ _=>?_
  | with_reducible refine bd (L19x5 _ (by first | assumption | omega | exact And.left (by assumption) | (dsimp only; omega)) (by first | assumption | omega | exact And.left (by assumption) | (dsimp only; omega))) fun _ _=>?_
  | with_reducible refine bs ?_
  | with_reducible refine ok ?_
  | split
  | with_reducible refine And.intro ?_ ?_
  | assumption
  | exact True.intro
  | omega
  | (dsimp only; omega)
  | (simp only [List.length_set,List.length_append,List.length_cons,List.length_nil,List.length_replicate]; omega)
  | (obtain ⟨_,_⟩:=‹_ ∧ _›)
theorem L21x1 (v : Z21) (w : Z07) (i : Int) (h : Z39 w) (h0 : 0 ≤ i) (h1 : i < w.Z0u.length) : Ok (Z0b (Zj5 v w i) Z0c 0) (fun _=>True):=by
 have:=h.iniL
 refine li (i) (fun t _ _=>?_) (by omega) (by omega) (by omega)
 unfold Zj5
 repeat' first
  | with_reducible refine ni ?_ ?_
  | with_reducible refine di ?_
  | with_reducible refine brD (fun _=>?_) fun _=>?_
  | with_reducible refine brE (fun _=>?_) fun _=>?_
  | with_reducible refine br (fun _=>?_) fun _=>?_
  | with_reducible refine bd (gr (by omega) (by omega)) fun _ _=>?_
  | with_reducible refine bd (wr (by omega) (by omega)) fun _ _=>?_
  | with_reducible refine bs ?_
  | with_reducible refine And.intro ?_ ?_
  | assumption
  | exact True.intro
  | omega
  | (dsimp only; omega)
  | (simp only [List.length_set,List.length_append,List.length_cons,List.length_nil,List.length_replicate]; omega)
  | (obtain ⟨_,_⟩:=‹_ ∧ _›)
def Z62 (w : Z07) (v : Z21) : Prop:=0 ≤ v.Z1m ∧ v.Z1m < w.Z0z.length ∧ 0 ≤ v.Z0s ∧ v.Z0s < w.Z2f.length
def Z5a (w : Z07) (b : Z1a) : Prop:=0 ≤ b.f_A ∧ b.f_A < w.Z0z.length ∧ 0 ≤ b.f_B ∧ b.f_B < w.Z0z.length
theorem Zvg (w : Z07) (i : Int) (h : Z39 w) (h0 : 0 ≤ i) (h1 : i < w.Z0u.length) : Ok (Z9p w i) (fun b=>b = true → ∀ v,w.Z0u[i.toNat]? = some v → Z62 w v):=by
 have:=h.iniL
 unfold Z9p
 repeat' first
  | with_reducible refine bd (gri (by omega) (by omega)) fun _ _=>?_
  | unfold j24x1
  | with_reducible refine brD (fun _=>?_) fun _=>?_
  | with_reducible refine br! (fun _=>?_) fun _=>?_
  | with_reducible refine br (fun _=>?_) fun _=>?_
  | with_reducible refine bd (gr (by omega) (by omega)) fun _ _=>?_
  | with_reducible refine bd (L21x1 _ _ _ (by first | assumption | omega | exact And.left (by assumption) | (dsimp only; omega)) (by first | assumption | omega | exact And.left (by assumption) | (dsimp only; omega)) (by first | assumption | omega | exact And.left (by assumption) | (dsimp only; omega))) fun _ _=>?_
  | with_reducible refine bs ?_
  | with_reducible refine ok ?_
  | split
  | ((intro hb v hv; first | (cases hb; done) | (have e : ∀ a,w.Z0u[i.toNat]? = some a → a = v:=fun a ha=>by { rw [hv] at ha; cases ha; rfl }; have:=e _ (And.right (by assumption)); subst this; exact ⟨by omega,by omega,by omega,by omega⟩)))
  | with_reducible refine And.intro ?_ ?_
  | assumption
  | exact True.intro
  | omega
  | (dsimp only; omega)
  | (simp only [List.length_set,List.length_append,List.length_cons,List.length_nil,List.length_replicate]; omega)
  | (obtain ⟨_,_⟩:=‹_ ∧ _›)
theorem L35x2 (w : Z07) (s : List UInt8) (l0 : List Bool) (h : Z39 w) (hl : w.Z0z.length ≤ 8) (hc : ∀ b ∈ w.Z0j,Z5a w b) (h0 : l0.length = w.Z0z.length) : Ok (Z0b (Zau w s) Z0c (0,l0)) (fun r=>r.length = w.Z0z.length):=by
 have:=h.conL
 refine lp (fun t=>t.1) (w.Z0j.length) (fun t=>t.2.length = w.Z0z.length) (fun t hI _ _=>?_) (by omega) (by exact h0) (by omega) (by omega)
 try dsimp only at *
 unfold Zau
 repeat' first
  | with_reducible refine bd (ik (by have:=hc _ (by assumption); unfold Z5a at this; omega) (by have:=hc _ (by assumption); unfold Z5a at this; first | omega | (simp only [List.length_set]; omega))) fun _ _=>?_
  | with_reducible refine nx ?_ ?_ ?_
  | with_reducible refine dn ?_
  | unfold Zar
  | with_reducible refine brD (fun _=>?_) fun _=>?_
  | with_reducible refine brE (fun _=>?_) fun _=>?_
  | with_reducible refine br (fun _=>?_) fun _=>?_
  | with_reducible refine bd (gr (by omega) (by omega)) fun _ _=>?_
  | with_reducible refine bd (ik (by omega) (by first | omega | (simp only [List.length_set,List.length_append,List.length_cons,List.length_nil,List.length_replicate]; omega))) fun _ _=>?_
  | with_reducible refine bd (la (by first | omega | (simp only [List.length_set,List.length_append,List.length_cons,List.length_nil,List.length_replicate]; omega))) fun _ _=>?_
  | with_reducible refine bd (wr (by omega) (by omega)) fun _ _=>?_
  | with_reducible refine bs ?_
  | with_reducible refine And.intro ?_ ?_
  | assumption
  | exact True.intro
  | omega
  | (dsimp only; omega)
  | (simp only [List.length_set,List.length_append,List.length_cons,List.length_nil,List.length_replicate]; omega)
  | (obtain ⟨_,_⟩:=‹_ ∧ _›)
theorem L35x1 (w : Z07) (s : List UInt8) (l0 : List Bool) (h : Z39 w) (hl : w.Z0z.length ≤ 8) (hc : ∀ b ∈ w.Z0j,Z5a w b) (h0 : l0.length = w.Z0z.length) : Ok (Z0b (Zd6 w s) Z0c (0,l0)) (fun r=>r.length = w.Z0z.length):=by
 refine lp (fun t=>t.1) (w.Z0z.length) (fun t=>t.2.length = w.Z0z.length) (fun t hI _ _=>?_) (by omega) (by exact h0) (by omega) (by omega)
 try dsimp only at *
 unfold Zd6
 repeat' first
  | with_reducible refine nx ?_ ?_ ?_
  | with_reducible refine dn ?_
  | with_reducible refine brD (fun _=>?_) fun _=>?_
  | with_reducible refine br (fun _=>?_) fun _=>?_
  | with_reducible refine bd (wr (by omega) (by omega)) fun _ _=>?_
  | with_reducible refine bd (L35x2 _ _ _ (by first | assumption | omega | exact And.left (by assumption) | (dsimp only; omega)) (by first | assumption | omega | exact And.left (by assumption) | (dsimp only; omega)) (by first | assumption | omega | exact And.left (by assumption) | (dsimp only; omega)) (by first | assumption | omega | exact And.left (by assumption) | (dsimp only; omega))) fun _ _=>?_
  | with_reducible refine bs ?_
  | with_reducible refine And.intro ?_ ?_
  | assumption
  | exact True.intro
  | omega
  | (dsimp only; omega)
  | (simp only [List.length_set,List.length_append,List.length_cons,List.length_nil,List.length_replicate]; omega)
  | (obtain ⟨_,_⟩:=‹_ ∧ _›)
theorem Zyr (w : Z07) (s : List UInt8) (k : Int) (h : Z39 w) (hl : w.Z0z.length ≤ 8) (hc : ∀ b ∈ w.Z0j,Z5a w b) (h0 : 0 ≤ k) (h1 : k < w.Z0z.length) : Ok (Zak w s k) (fun r=>r.length = w.Z0z.length):=by
 unfold Zak
 repeat' first
  | with_reducible refine bd (ik (by omega) (by first | omega | (simp only [List.length_set,List.length_append,List.length_cons,List.length_nil,List.length_replicate]; omega))) fun _ _=>?_
  | with_reducible refine bd (la (by first | omega | (simp only [List.length_set,List.length_append,List.length_cons,List.length_nil,List.length_replicate]; omega))) fun _ _=>?_
  | with_reducible refine bd (mk (by omega) (by omega) (by omega) (by omega)) fun _ _=>?_
  | with_reducible refine bd (L35x1 _ _ _ (by first | assumption | (simp only [List.length_set,List.length_replicate]; omega)) (by first | assumption | (simp only [List.length_set,List.length_replicate]; omega)) (by first | assumption | (simp only [List.length_set,List.length_replicate]; omega)) (by first | assumption | (simp only [List.length_set,List.length_replicate]; omega))) fun _ _=>?_
  | with_reducible refine ok ?_
  | with_reducible refine And.intro ?_ ?_
  | assumption
  | exact True.intro
  | omega
  | (dsimp only; omega)
  | (simp only [List.length_set,List.length_append,List.length_cons,List.length_nil,List.length_replicate]; omega)
  | (obtain ⟨_,_⟩:=‹_ ∧ _›)
theorem L22x1 (v : Z21) (g : List Bool) (w : Z07) (i : Int) (h : Z39 w) (h0 : 0 ≤ i) (h1 : i < w.Z0u.length) (hg : g.length = w.Z0z.length) (hs : ∀ (j : Nat) v,j < i → w.Z0u[j]? = some v → Z62 w v) : Ok (Z0b (Zac v g w i) Z0c 0) (fun _=>True):=by
 have:=h.iniL
 refine li (i) (fun t _ _=>?_) (by omega) (by omega) (by omega)
 unfold Zac
 repeat' first
  | with_reducible refine bd (gri (by omega) (by omega)) fun _ _=>?_
  | with_reducible refine bd (gr (by have:=hs t.toNat _ (by omega) (And.right (by assumption)); unfold Z62 at this; omega) (by have:=hs t.toNat _ (by omega) (And.right (by assumption)); unfold Z62 at this; omega)) fun _ _=>?_
  | with_reducible refine ni ?_ ?_
  | with_reducible refine di ?_
  | with_reducible refine brD (fun _=>?_) fun _=>?_
  | with_reducible refine brE (fun _=>?_) fun _=>?_
  | with_reducible refine brN (fun _=>?_) fun _=>?_
  | with_reducible refine br (fun _=>?_) fun _=>?_
  | with_reducible refine bd (gr (by omega) (by omega)) fun _ _=>?_
  | with_reducible refine bd (wr (by omega) (by omega)) fun _ _=>?_
  | with_reducible refine bs ?_
  | with_reducible refine And.intro ?_ ?_
  | assumption
  | exact True.intro
  | omega
  | (dsimp only; omega)
  | (simp only [List.length_set,List.length_append,List.length_cons,List.length_nil,List.length_replicate]; omega)
  | (obtain ⟨_,_⟩:=‹_ ∧ _›)
theorem Y0d (w : Z07) (i : Int) (h : Z39 w) (hl : w.Z0z.length ≤ 8) (hc : ∀ b ∈ w.Z0j,Z5a w b) (h0 : 0 ≤ i) (h1 : i < w.Z0u.length) (hs : ∀ (j : Nat) v,j ≤ i → w.Z0u[j]? = some v → Z62 w v) : Ok (Z8l w i) (fun _=>True):=by
 have:=h.iniL
 unfold Z8l
 repeat' first
  | with_reducible refine bd (gri (by omega) (by omega)) fun _ _=>?_
  | with_reducible refine bd (Zyr _ _ _ h hl hc (by have:=hs i.toNat _ (by omega) (And.right (by assumption)); unfold Z62 at this; omega) (by have:=hs i.toNat _ (by omega) (And.right (by assumption)); unfold Z62 at this; omega)) fun _ _=>?_
  | with_reducible refine bd (L22x1 _ _ _ _ h h0 h1 (by assumption) (fun j v hj hv=>hs j v (by omega) hv)) fun _ _=>?_
  | with_reducible refine bd (gr (by omega) (by omega)) fun _ _=>?_
  | with_reducible refine ok ?_
  | split
  | with_reducible refine And.intro ?_ ?_
  | assumption
  | exact True.intro
  | omega
  | (dsimp only; omega)
  | (simp only [List.length_set,List.length_append,List.length_cons,List.length_nil,List.length_replicate]; omega)
  | (obtain ⟨_,_⟩:=‹_ ∧ _›)
theorem L53x1 (x : List Z0d) (hl : x.length ≤ 140737488355328) : Ok (Z0b (Zic x) Z0c 0) (fun _=>True):=by
 refine li (x.length) (fun t _ _=>?_) (by omega) (by omega) (by omega)
 unfold Zic
 repeat' first
  | with_reducible refine ni ?_ ?_
  | with_reducible refine di ?_
  | with_reducible refine brD (fun _=>?_) fun _=>?_
  | with_reducible refine brN (fun _=>?_) fun _=>?_
  | with_reducible refine br (fun _=>?_) fun _=>?_
  | with_reducible refine bd (gr (by omega) (by omega)) fun _ _=>?_
  | with_reducible refine bd (wr (by omega) (by omega)) fun _ _=>?_
  | with_reducible refine bs ?_
  | with_reducible refine And.intro ?_ ?_
  | assumption
  | exact True.intro
  | omega
  | (dsimp only; omega)
  | (simp only [List.length_set,List.length_append,List.length_cons,List.length_nil,List.length_replicate]; omega)
  | (obtain ⟨_,_⟩:=‹_ ∧ _›)
theorem Zqq (x : List Z0d) (hl : x.length ≤ 140737488355328) : Ok (Zci x) (fun _=>True):=by
 unfold Zci
 repeat' first
  | with_reducible refine bd (L53x1 _ (by first | assumption | omega | exact And.left (by assumption) | (dsimp only; omega))) fun _ _=>?_
  | with_reducible refine ok ?_
  | split
  | with_reducible refine And.intro ?_ ?_
  | assumption
  | exact True.intro
  | omega
  | (dsimp only; omega)
  | (simp only [List.length_set,List.length_append,List.length_cons,List.length_nil,List.length_replicate]; omega)
  | (obtain ⟨_,_⟩:=‹_ ∧ _›)
theorem L47x1 (u : Z14) (h : Z58 u) : Ok (Z0b (Zfn u) Z0c 0) (fun _=>True):=by
 have:=h.fldL
 refine li (u.Z1c.length) (fun t _ _=>?_) (by omega) (by omega) (by omega)
 unfold Zfn
 repeat' first
  | with_reducible refine ni ?_ ?_
  | with_reducible refine di ?_
  | unfold Zgy
  | with_reducible refine brD (fun _=>?_) fun _=>?_
  | with_reducible refine br! (fun _=>?_) fun _=>?_
  | with_reducible refine brE (fun _=>?_) fun _=>?_
  | with_reducible refine brN (fun _=>?_) fun _=>?_
  | with_reducible refine br (fun _=>?_) fun _=>?_
  | with_reducible refine bd (gr (by omega) (by omega)) fun _ _=>?_
  | with_reducible refine bd (wr (by omega) (by omega)) fun _ _=>?_
  | with_reducible refine bs ?_
  | with_reducible refine And.intro ?_ ?_
  | assumption
  | exact True.intro
  | omega
  | (dsimp only; omega)
  | (simp only [List.length_set,List.length_append,List.length_cons,List.length_nil,List.length_replicate]; omega)
  | (obtain ⟨_,_⟩:=‹_ ∧ _›)
theorem L47x3 (m : Z2i) (h : Z97 m) : Ok (Z0b (Zhn m) Z0c 0) (fun _=>True):=by
 have:=h.code.hndL
 refine li (m.Z2m.Z1i.length) (fun t _ _=>?_) (by omega) (by omega) (by omega)
 unfold Zhn
 repeat' first
  | with_reducible refine ni ?_ ?_
  | with_reducible refine di ?_
  | with_reducible refine brD (fun _=>?_) fun _=>?_
  | with_reducible refine brN (fun _=>?_) fun _=>?_
  | with_reducible refine br (fun _=>?_) fun _=>?_
  | with_reducible refine bd (gr (by omega) (by omega)) fun _ _=>?_
  | with_reducible refine bd (wr (by omega) (by omega)) fun _ _=>?_
  | with_reducible refine bs ?_
  | with_reducible refine And.intro ?_ ?_
  | assumption
  | exact True.intro
  | omega
  | (dsimp only; omega)
  | (simp only [List.length_set,List.length_append,List.length_cons,List.length_nil,List.length_replicate]; omega)
  | (obtain ⟨_,_⟩:=‹_ ∧ _›)
theorem L47x4 (m : Z2i) (h : Z97 m) : Ok (Z0b (Zi2 m) Z0c 0) (fun _=>True):=by
 have:=h.code.mapL
 refine li (m.Z2m.Z12.length) (fun t _ _=>?_) (by omega) (by omega) (by omega)
 unfold Zi2
 repeat' first
  | with_reducible refine bd (Zqq _ (by have:=(h.code.map _ (by assumption)).locL; omega)) fun _ _=>?_
  | with_reducible refine bd (Zqq _ (by have:=(h.code.map _ (by assumption)).stkL; omega)) fun _ _=>?_
  | with_reducible refine ni ?_ ?_
  | with_reducible refine di ?_
  | with_reducible refine brD (fun _=>?_) fun _=>?_
  | with_reducible refine br! (fun _=>?_) fun _=>?_
  | with_reducible refine br (fun _=>?_) fun _=>?_
  | with_reducible refine bd (gr (by omega) (by omega)) fun _ _=>?_
  | with_reducible refine bd (wr (by omega) (by omega)) fun _ _=>?_
  | with_reducible refine bs ?_
  | with_reducible refine And.intro ?_ ?_
  | assumption
  | exact True.intro
  | omega
  | (dsimp only; omega)
  | (simp only [List.length_set,List.length_append,List.length_cons,List.length_nil,List.length_replicate]; omega)
  | (obtain ⟨_,_⟩:=‹_ ∧ _›)
theorem L47x2 (u : Z14) (h : Z58 u) : Ok (Z0b (Zh0 u) Z0c 0) (fun _=>True):=by
 have:=h.metL
 refine li (u.Z18.length) (fun t _ _=>?_) (by omega) (by omega) (by omega)
 unfold Zh0
 repeat' first
  | with_reducible refine ni ?_ ?_
  | with_reducible refine di ?_
  | unfold Zg1
  | with_reducible refine brD (fun _=>?_) fun _=>?_
  | with_reducible refine br! (fun _=>?_) fun _=>?_
  | with_reducible refine brN (fun _=>?_) fun _=>?_
  | with_reducible refine br (fun _=>?_) fun _=>?_
  | with_reducible refine bd (gr (by omega) (by omega)) fun _ _=>?_
  | with_reducible refine bd (wr (by omega) (by omega)) fun _ _=>?_
  | with_reducible refine bd (L47x3 _ (by exact h.met _ (by assumption))) fun _ _=>?_
  | with_reducible refine bd (L47x4 _ (by exact h.met _ (by assumption))) fun _ _=>?_
  | with_reducible refine bs ?_
  | split
  | with_reducible refine And.intro ?_ ?_
  | assumption
  | exact True.intro
  | omega
  | (dsimp only; omega)
  | (simp only [List.length_set,List.length_append,List.length_cons,List.length_nil,List.length_replicate]; omega)
  | (obtain ⟨_,_⟩:=‹_ ∧ _›)
theorem Y1x (u : Z14) (h : Z58 u) : Ok (Zjx u) (fun _=>True):=by
 unfold Zjx
 repeat' first
  | with_reducible refine bd (L47x1 _ (by first | assumption | omega | exact And.left (by assumption) | (dsimp only; omega))) fun _ _=>?_
  | with_reducible refine bd (L47x2 _ (by first | assumption | omega | exact And.left (by assumption) | (dsimp only; omega))) fun _ _=>?_
  | with_reducible refine ok ?_
  | split
  | with_reducible refine And.intro ?_ ?_
  | assumption
  | exact True.intro
  | omega
  | (dsimp only; omega)
  | (simp only [List.length_set,List.length_append,List.length_cons,List.length_nil,List.length_replicate]; omega)
  | (obtain ⟨_,_⟩:=‹_ ∧ _›)
end Go.Proofs
