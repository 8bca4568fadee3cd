/-
  That the models come to an answer, part one: names and loaders. No condition.
-/
import Derived.Test.YtoijcliccgjolaaGreatCon8
import Derived.Test.YtoijcliccgjolaaGreatDenTot
set_option linter.unusedVariables false
namespace Go.Proofs
open Go.Den Go.Tot
abbrev Str (s : List UInt8) : Prop:=s.length ≤ 4503599627370496
structure WRef (r : Z21) : Prop where
 c : Str r.Z0v
 n : Str r.Z05
 d : Str r.Z1e
structure Z2m (i : Z01) : Prop where
 keys : i.Z0o.length * 8 ≤ 140737488355328
 tos : i.Z09.length * 8 ≤ 140737488355328
 ref : WRef i.Z0y
 s : Str i.f_S
structure Z95 (f : Z56) : Prop where
 loc : ∀ v ∈ f.Z0n,Str v.Z1g.Z05
 locL : f.Z0n.length * 56 ≤ 140737488355328
 stk : ∀ v ∈ f.Z0q,Str v.Z1g.Z05
 stkL : f.Z0q.length * 56 ≤ 140737488355328
structure Z4m (c : Z06) : Prop where
 ins : ∀ i ∈ c.Z0k,Z2m i
 insL : c.Z0k.length * 144 ≤ 140737488355328
 hnd : ∀ h ∈ c.Z1f,Str h.Z1g
 hndL : c.Z1f.length * 48 ≤ 140737488355328
 map : ∀ m ∈ c.Z0z,Z95 m.Z1h
 mapL : c.Z0z.length * 64 ≤ 140737488355328
 linL : c.Z1a.length * 16 ≤ 140737488355328
structure Z9h (m : Z2f) : Prop where
 n : Str m.Z05
 d : Str m.Z1e
 code : Z4m m.Z2k
 exc : ∀ s ∈ m.Z64,Str s
 excL : m.Z64.length * 16 ≤ 140737488355328
structure Znb (f : Z3k) : Prop where
 n : Str f.Z05
 d : Str f.Z1e
 s : Str f.f_S
structure Z57 (u : Z12) : Prop where
 n : Str u.Z05
 sup : Str u.Z1j
 ifs : ∀ s ∈ u.Z13,Str s
 ifsL : u.Z13.length * 16 ≤ 140737488355328
 fld : ∀ f ∈ u.Z19,Znb f
 fldL : u.Z19.length * 72 ≤ 140737488355328
 met : ∀ m ∈ u.Z17,Z9h m
 metL : u.Z17.length * 184 ≤ 140737488355328
 src : Str u.Z6o
structure Z6l (l : Z1i) : Prop where
 del : ∀ d ∈ l.Z4c,Str d.Zh2
 delL : l.Z4c.length ≤ 140737488355328
 sto : ∀ c ∈ l.Z35,Str c.Z05
 stoL : l.Z35.length ≤ 140737488355328
structure Z4r (w : Z0b) : Prop where
 lod : ∀ l ∈ w.Z15,Z6l l
 lodL : w.Z15.length ≤ 140737488355328
 cls : ∀ c ∈ w.Z2g,Z57 c.Z2n ∧ c.Z13.length ≤ 140737488355328
 clsL : w.Z2g.length ≤ 140737488355328
 ini : ∀ x ∈ w.Z1c,Str x.Z05
 iniL : w.Z1c.length ≤ 140737488355328
 con : ∀ x ∈ w.Z0s,Str x.Z05
 conL : w.Z0s.length ≤ 140737488355328
theorem Y0d (x : Int) : Ok (Zf0 x) (fun _=>True):=by
 unfold Zf0
 repeat' first
  | with_reducible refine brD (fun _=>?_) fun _=>?_
  | with_reducible refine brE (fun _=>?_) fun _=>?_
  | with_reducible refine br (fun _=>?_) fun _=>?_
  | with_reducible refine bs ?_
  | with_reducible refine ok ?_
  | with_reducible refine And.intro ?_ ?_
  | assumption
  | exact True.intro
  | omega
  | (dsimp only; omega)
  | (simp only [List.length_set,List.length_append,List.length_cons,List.length_nil,List.length_replicate]; omega)
  | (obtain ⟨_,_⟩:=‹_ ∧ _›)
theorem L34x1 (x : List UInt8) (h : Str x) : Ok (Z0a (Zg4 x) Z0e 0) (fun q=>match q with | .inl _=>True | .inr y=>y = false):=by
 refine li (x.length) (fun t _ _=>?_) (by omega) (by omega) (by omega)
 unfold Zg4
 repeat' first
  | with_reducible refine ni ?_ ?_
  | with_reducible refine di ?_
  | with_reducible refine brD (fun _=>?_) fun _=>?_
  | with_reducible refine br! (fun _=>?_) fun _=>?_
  | with_reducible refine brE (fun _=>?_) fun _=>?_
  | with_reducible refine br (fun _=>?_) fun _=>?_
  | with_reducible refine bd (gs (by omega) (by omega)) fun _ _=>?_
  | with_reducible refine bd (wr (by omega) (by omega)) fun _ _=>?_
  | with_reducible refine bd (Y0d _) fun _ _=>?_
  | with_reducible refine bs ?_
  | (rfl)
  | with_reducible refine And.intro ?_ ?_
  | assumption
  | exact True.intro
  | omega
  | (dsimp only; omega)
  | (simp only [List.length_set,List.length_append,List.length_cons,List.length_nil,List.length_replicate]; omega)
  | (obtain ⟨_,_⟩:=‹_ ∧ _›)
theorem Zo6 (x : List UInt8) (h : Str x) : Ok (Zao x) (fun b=>b = true → x ≠ []):=by
 unfold Zao
 repeat' first
  | with_reducible refine bd (L34x1 _ (by first | assumption | omega | exact And.left (by assumption) | (dsimp only; omega))) fun _ _=>?_
  | with_reducible refine bs ?_
  | with_reducible refine ok ?_
  | split
  | (first | (intro h; rintro rfl; simp at h; done) | (simp_all; done))
  | with_reducible refine And.intro ?_ ?_
  | assumption
  | exact True.intro
  | omega
  | (dsimp only; omega)
  | (simp only [List.length_set,List.length_append,List.length_cons,List.length_nil,List.length_replicate]; omega)
  | (obtain ⟨_,_⟩:=‹_ ∧ _›)
theorem L20x1 (x : List UInt8) (h : Str x) : Ok (Z0a (Zi1 x) Z0e (0,0)) (fun q=>match q with | .inl y=>0 ≤ y ∧ y ≤ x.length | .inr y=>True):=by
 refine lp (fun t=>t.2) (x.length) (fun t=>0 ≤ t.1 ∧ t.1 ≤ t.2) (fun t hI _ _=>?_) (by omega) (by omega) (by omega) (by omega)
 try dsimp only at *
 unfold Zi1
 repeat' first
  | with_reducible refine nx ?_ ?_ ?_
  | with_reducible refine dn ?_
  | with_reducible refine brD (fun _=>?_) fun _=>?_
  | with_reducible refine br! (fun _=>?_) fun _=>?_
  | with_reducible refine brE (fun _=>?_) fun _=>?_
  | with_reducible refine br (fun _=>?_) fun _=>?_
  | with_reducible refine bd (gs (by omega) (by omega)) fun _ _=>?_
  | with_reducible refine bd (wr (by omega) (by omega)) fun _ _=>?_
  | with_reducible refine bd (sb (by omega) (by omega) (by omega)) fun _ _=>?_
  | with_reducible refine bd (Zo6 _ (by unfold Str; omega)) fun _ _=>?_
  | with_reducible refine bs ?_
  | with_reducible refine And.intro ?_ ?_
  | assumption
  | exact True.intro
  | omega
  | (dsimp only; omega)
  | (simp only [List.length_set,List.length_append,List.length_cons,List.length_nil,List.length_replicate]; omega)
  | (obtain ⟨_,_⟩:=‹_ ∧ _›)
theorem Zju (x : List UInt8) (h : Str x) : Ok (Z7b x) (fun b=>b = true → x.length ≤ 64):=by
 unfold Z7b
 repeat' first
  | with_reducible refine bdE (L20x1 _ (by assumption)) fun q _ hq=>?_
  | with_reducible refine brD (fun _=>?_) fun _=>?_
  | with_reducible refine br (fun _=>?_) fun _=>?_
  | with_reducible refine bd (sb (by omega) (by omega) (by omega)) fun _ _=>?_
  | with_reducible refine bd (L20x1 _ (by first | assumption | omega | exact And.left (by assumption) | (dsimp only; omega))) fun _ _=>?_
  | with_reducible refine bd (Zo6 _ (by unfold Str; omega)) fun _ _=>?_
  | with_reducible refine bs ?_
  | with_reducible refine ok ?_
  | split
  | ((intro hb; first | (cases hb; done) | omega))
  | with_reducible refine And.intro ?_ ?_
  | assumption
  | exact True.intro
  | omega
  | (dsimp only; omega)
  | (simp only [List.length_set,List.length_append,List.length_cons,List.length_nil,List.length_replicate]; omega)
  | (obtain ⟨_,_⟩:=‹_ ∧ _›)
theorem Zvq (x y : List UInt8) : Ok (Z81 x y) (fun _=>True):=by
 unfold Z81
 repeat' first
  | with_reducible refine brD (fun _=>?_) fun _=>?_
  | with_reducible refine br (fun _=>?_) fun _=>?_
  | with_reducible refine bd (sb (by omega) (by omega) (by omega)) fun _ _=>?_
  | with_reducible refine ok ?_
  | with_reducible refine And.intro ?_ ?_
  | assumption
  | exact True.intro
  | omega
  | (dsimp only; omega)
  | (simp only [List.length_set,List.length_append,List.length_cons,List.length_nil,List.length_replicate]; omega)
  | (obtain ⟨_,_⟩:=‹_ ∧ _›)
theorem L32x1 (x : Z1i) (i : Int) (h : Z6l x) : Ok (Z0a (Zhg x i) Z0e 0) (fun _=>True):=by
 have:=h.stoL
 refine li (x.Z35.length) (fun t _ _=>?_) (by omega) (by omega) (by omega)
 unfold Zhg
 repeat' first
  | with_reducible refine ni ?_ ?_
  | with_reducible refine di ?_
  | with_reducible refine brD (fun _=>?_) fun _=>?_
  | with_reducible refine br! (fun _=>?_) fun _=>?_
  | with_reducible refine br (fun _=>?_) fun _=>?_
  | with_reducible refine bd (gr (by omega) (by omega)) fun _ _=>?_
  | with_reducible refine bd (wr (by omega) (by omega)) fun _ _=>?_
  | with_reducible refine bd (Zju _ (by exact h.sto _ (by assumption))) fun _ _=>?_
  | with_reducible refine bd (Zvq _ _) fun _ _=>?_
  | with_reducible refine bs ?_
  | with_reducible refine And.intro ?_ ?_
  | assumption
  | exact True.intro
  | omega
  | (dsimp only; omega)
  | (simp only [List.length_set,List.length_append,List.length_cons,List.length_nil,List.length_replicate]; omega)
  | (obtain ⟨_,_⟩:=‹_ ∧ _›)
theorem Y14 (x : Z1i) (i : Int) (h : Z6l x) : Ok (Ziz x i) (fun _=>True):=by
 unfold Ziz
 repeat' first
  | with_reducible refine bd (L32x1 _ _ (by first | assumption | omega | exact And.left (by assumption) | (dsimp only; omega))) fun _ _=>?_
  | with_reducible refine ok ?_
  | split
  | with_reducible refine And.intro ?_ ?_
  | assumption
  | exact True.intro
  | omega
  | (dsimp only; omega)
  | (simp only [List.length_set,List.length_append,List.length_cons,List.length_nil,List.length_replicate]; omega)
  | (obtain ⟨_,_⟩:=‹_ ∧ _›)
theorem L33x2 (k : Int) (x : Z1i) (hl : x.Z35.length ≤ 140737488355328) (h0 : 0 ≤ k) (h1 : k < x.Z35.length) : Ok (Z0a (Zij k x) Z0e 0) (fun _=>True):=by
 refine li (k) (fun t _ _=>?_) (by omega) (by omega) (by omega)
 unfold Zij
 repeat' first
  | with_reducible refine ni ?_ ?_
  | with_reducible refine di ?_
  | with_reducible refine brD (fun _=>?_) fun _=>?_
  | with_reducible refine brE (fun _=>?_) fun _=>?_
  | with_reducible refine br (fun _=>?_) fun _=>?_
  | with_reducible refine bd (gr (by omega) (by omega)) fun _ _=>?_
  | with_reducible refine bd (wr (by omega) (by omega)) fun _ _=>?_
  | with_reducible refine bs ?_
  | with_reducible refine And.intro ?_ ?_
  | assumption
  | exact True.intro
  | omega
  | (dsimp only; omega)
  | (simp only [List.length_set,List.length_append,List.length_cons,List.length_nil,List.length_replicate]; omega)
  | (obtain ⟨_,_⟩:=‹_ ∧ _›)
theorem L33x1 (x : Z1i) (hl : x.Z35.length ≤ 140737488355328) : Ok (Z0a (Zjf x) Z0e 0) (fun _=>True):=by
 refine li (x.Z35.length) (fun t _ _=>?_) (by omega) (by omega) (by omega)
 unfold Zjf
 repeat' first
  | with_reducible refine ni ?_ ?_
  | with_reducible refine di ?_
  | with_reducible refine brD (fun _=>?_) fun _=>?_
  | with_reducible refine br (fun _=>?_) fun _=>?_
  | with_reducible refine bd (wr (by omega) (by omega)) fun _ _=>?_
  | with_reducible refine bd (L33x2 _ _ (by first | assumption | omega | exact And.left (by assumption) | (dsimp only; omega)) (by first | assumption | omega | exact And.left (by assumption) | (dsimp only; omega)) (by first | assumption | omega | exact And.left (by assumption) | (dsimp only; omega))) fun _ _=>?_
  | with_reducible refine bs ?_
  | split
  | with_reducible refine And.intro ?_ ?_
  | assumption
  | exact True.intro
  | omega
  | (dsimp only; omega)
  | (simp only [List.length_set,List.length_append,List.length_cons,List.length_nil,List.length_replicate]; omega)
  | (obtain ⟨_,_⟩:=‹_ ∧ _›)
theorem Zzk (x : Z1i) (hl : x.Z35.length ≤ 140737488355328) : Ok (Zf8 x) (fun _=>True):=by
 unfold Zf8
 repeat' first
  | with_reducible refine bd (L33x1 _ (by first | assumption | omega | exact And.left (by assumption) | (dsimp only; omega))) fun _ _=>?_
  | with_reducible refine ok ?_
  | split
  | with_reducible refine And.intro ?_ ?_
  | assumption
  | exact True.intro
  | omega
  | (dsimp only; omega)
  | (simp only [List.length_set,List.length_append,List.length_cons,List.length_nil,List.length_replicate]; omega)
  | (obtain ⟨_,_⟩:=‹_ ∧ _›)
theorem L19x1 (x : List Z1i) (h : ∀ l ∈ x,Z6l l) (hl : x.length ≤ 140737488355328) : Ok (Z0a (Zjj x) Z0e 0) (fun _=>True):=by
 refine li (x.length) (fun t _ _=>?_) (by omega) (by omega) (by omega)
 unfold Zjj
 repeat' first
  | with_reducible refine ni ?_ ?_
  | with_reducible refine di ?_
  | with_reducible refine brD (fun _=>?_) fun _=>?_
  | with_reducible refine br (fun _=>?_) fun _=>?_
  | with_reducible refine bd (gr (by omega) (by omega)) fun _ _=>?_
  | with_reducible refine bd (wr (by omega) (by omega)) fun _ _=>?_
  | with_reducible refine bs ?_
  | with_reducible refine And.intro ?_ ?_
  | assumption
  | exact True.intro
  | omega
  | (dsimp only; omega)
  | (simp only [List.length_set,List.length_append,List.length_cons,List.length_nil,List.length_replicate]; omega)
  | (obtain ⟨_,_⟩:=‹_ ∧ _›)
theorem L19x3 (k : Int) (x : List Z1i) (h : ∀ l ∈ x,Z6l l) (hl : x.length ≤ 140737488355328) (h0 : 0 ≤ k) (h1 : k < x.length) : Ok (Z0a (Zhb k x) Z0e 0) (fun _=>True):=by
 obtain ⟨y,hy,hm⟩:=gr h0 h1
 have:=(h y hm).delL
 refine li (y.Z4c.length) (fun t _ _=>?_) (by omega) (by omega) (by omega)
 unfold Zhb
 simp only [hy]
 repeat' first
  | with_reducible refine ni ?_ ?_
  | with_reducible refine di ?_
  | with_reducible refine brD (fun _=>?_) fun _=>?_
  | with_reducible refine br (fun _=>?_) fun _=>?_
  | with_reducible refine bd (gr (by omega) (by omega)) fun _ _=>?_
  | with_reducible refine bd (wr (by omega) (by omega)) fun _ _=>?_
  | with_reducible refine bs ?_
  | with_reducible refine And.intro ?_ ?_
  | assumption
  | exact True.intro
  | omega
  | (dsimp only; omega)
  | (simp only [List.length_set,List.length_append,List.length_cons,List.length_nil,List.length_replicate]; omega)
  | (obtain ⟨_,_⟩:=‹_ ∧ _›)
theorem L19x2 (x : List Z1i) (h : ∀ l ∈ x,Z6l l) (hl : x.length ≤ 140737488355328) : Ok (Z0a (Zjd x) Z0e 0) (fun _=>True):=by
 refine li (x.length) (fun t _ _=>?_) (by omega) (by omega) (by omega)
 unfold Zjd
 repeat' first
  | with_reducible refine ni ?_ ?_
  | with_reducible refine di ?_
  | with_reducible refine brD (fun _=>?_) fun _=>?_
  | with_reducible refine br (fun _=>?_) fun _=>?_
  | with_reducible refine bd (wr (by omega) (by omega)) fun _ _=>?_
  | with_reducible refine bd (L19x3 _ _ (by first | assumption | omega | exact And.left (by assumption) | (dsimp only; omega)) (by first | assumption | omega | exact And.left (by assumption) | (dsimp only; omega)) (by first | assumption | omega | exact And.left (by assumption) | (dsimp only; omega)) (by first | assumption | omega | exact And.left (by assumption) | (dsimp only; omega))) fun _ _=>?_
  | with_reducible refine bs ?_
  | split
  | with_reducible refine And.intro ?_ ?_
  | assumption
  | exact True.intro
  | omega
  | (dsimp only; omega)
  | (simp only [List.length_set,List.length_append,List.length_cons,List.length_nil,List.length_replicate]; omega)
  | (obtain ⟨_,_⟩:=‹_ ∧ _›)
theorem L19x4 (x : List Z1i) (h : ∀ l ∈ x,Z6l l) (hl : x.length ≤ 140737488355328) : Ok (Z0a (Zja x) Z0e 0) (fun _=>True):=by
 refine li (x.length) (fun t _ _=>?_) (by omega) (by omega) (by omega)
 unfold Zja
 repeat' first
  | with_reducible refine ni ?_ ?_
  | with_reducible refine di ?_
  | with_reducible refine brD (fun _=>?_) fun _=>?_
  | with_reducible refine brN (fun _=>?_) fun _=>?_
  | with_reducible refine br (fun _=>?_) fun _=>?_
  | with_reducible refine bd (gr (by omega) (by omega)) fun _ _=>?_
  | with_reducible refine bd (wr (by omega) (by omega)) fun _ _=>?_
  | with_reducible refine bd (Y14 _ _ (by exact h _ (by assumption))) fun _ _=>?_
  | with_reducible refine bs ?_
  | with_reducible refine And.intro ?_ ?_
  | assumption
  | exact True.intro
  | omega
  | (dsimp only; omega)
  | (simp only [List.length_set,List.length_append,List.length_cons,List.length_nil,List.length_replicate]; omega)
  | (obtain ⟨_,_⟩:=‹_ ∧ _›)
theorem L19x5 (x : List Z1i) (h : ∀ l ∈ x,Z6l l) (hl : x.length ≤ 140737488355328) : Ok (Z0a (Zh5 x) Z0e 0) (fun _=>True):=by
 refine li (x.length) (fun t _ _=>?_) (by omega) (by omega) (by omega)
 unfold Zh5
 repeat' first
  | with_reducible refine ni ?_ ?_
  | with_reducible refine di ?_
  | with_reducible refine brD (fun _=>?_) fun _=>?_
  | with_reducible refine br (fun _=>?_) fun _=>?_
  | with_reducible refine bd (gr (by omega) (by omega)) fun _ _=>?_
  | with_reducible refine bd (wr (by omega) (by omega)) fun _ _=>?_
  | with_reducible refine bd (Zzk _ (by exact (h _ (by assumption)).stoL)) fun _ _=>?_
  | with_reducible refine bs ?_
  | with_reducible refine And.intro ?_ ?_
  | assumption
  | exact True.intro
  | omega
  | (dsimp only; omega)
  | (simp only [List.length_set,List.length_append,List.length_cons,List.length_nil,List.length_replicate]; omega)
  | (obtain ⟨_,_⟩:=‹_ ∧ _›)
theorem Zud (x : List Z1i) (h : ∀ l ∈ x,Z6l l) (hl : x.length ≤ 140737488355328) : Ok (Zc2 x) (fun e=>e = 0 → x.length ≤ 8):=by
 unfold Zc2
 repeat' first
  | unfold j22x1
  | with_reducible refine brD (fun _=>?_) fun _=>?_
  | with_reducible refine brE (fun _=>?_) fun _=>?_
  | with_reducible refine br (fun _=>?_) fun _=>?_
  | with_reducible refine bd (L19x1 _ (by first | assumption | omega | exact And.left (by assumption) | (dsimp only; omega)) (by first | assumption | omega | exact And.left (by assumption) | (dsimp only; omega))) fun _ _=>?_
  | with_reducible refine bd (L19x2 _ (by first | assumption | omega | exact And.left (by assumption) | (dsimp only; omega)) (by first | assumption | omega | exact And.left (by assumption) | (dsimp only; omega))) fun _ _=>?_
  | with_reducible refine bd (L19x4 _ (by first | assumption | omega | exact And.left (by assumption) | (dsimp only; omega)) (by first | assumption | omega | exact And.left (by assumption) | (dsimp only; omega))) fun _ _=>?_
  | with_reducible refine bd (L19x5 _ (by first | assumption | omega | exact And.left (by assumption) | (dsimp only; omega)) (by first | assumption | omega | exact And.left (by assumption) | (dsimp only; omega))) fun _ _=>?_
  | with_reducible refine bs ?_
  | with_reducible refine ok ?_
  | split
  | with_reducible refine And.intro ?_ ?_
  | assumption
  | exact True.intro
  | omega
  | (dsimp only; omega)
  | (simp only [List.length_set,List.length_append,List.length_cons,List.length_nil,List.length_replicate]; omega)
  | (obtain ⟨_,_⟩:=‹_ ∧ _›)
theorem L21x1 (v : Z26) (w : Z0b) (i : Int) (h : Z4r w) (h0 : 0 ≤ i) (h1 : i < w.Z1c.length) : Ok (Z0a (Zfd v w i) Z0e 0) (fun _=>True):=by
 have:=h.iniL
 refine li (i) (fun t _ _=>?_) (by omega) (by omega) (by omega)
 unfold Zfd
 repeat' first
  | with_reducible refine ni ?_ ?_
  | with_reducible refine di ?_
  | with_reducible refine brD (fun _=>?_) fun _=>?_
  | with_reducible refine brE (fun _=>?_) fun _=>?_
  | with_reducible refine br (fun _=>?_) fun _=>?_
  | with_reducible refine bd (gr (by omega) (by omega)) fun _ _=>?_
  | with_reducible refine bd (wr (by omega) (by omega)) fun _ _=>?_
  | with_reducible refine bs ?_
  | with_reducible refine And.intro ?_ ?_
  | assumption
  | exact True.intro
  | omega
  | (dsimp only; omega)
  | (simp only [List.length_set,List.length_append,List.length_cons,List.length_nil,List.length_replicate]; omega)
  | (obtain ⟨_,_⟩:=‹_ ∧ _›)
def Z6f (w : Z0b) (v : Z26) : Prop:=0 ≤ v.Z1x ∧ v.Z1x < w.Z15.length ∧ 0 ≤ v.Z0v ∧ v.Z0v < w.Z2g.length
def Z58 (w : Z0b) (b : Z1s) : Prop:=0 ≤ b.f_A ∧ b.f_A < w.Z15.length ∧ 0 ≤ b.f_B ∧ b.f_B < w.Z15.length
theorem Zq2 (w : Z0b) (i : Int) (h : Z4r w) (h0 : 0 ≤ i) (h1 : i < w.Z1c.length) : Ok (Z91 w i) (fun b=>b = true → ∀ v,w.Z1c[i.toNat]? = some v → Z6f w v):=by
 have:=h.iniL
 unfold Z91
 repeat' first
  | with_reducible refine bd (gri (by omega) (by omega)) fun _ _=>?_
  | unfold j24x1
  | with_reducible refine brD (fun _=>?_) fun _=>?_
  | with_reducible refine br! (fun _=>?_) fun _=>?_
  | with_reducible refine br (fun _=>?_) fun _=>?_
  | with_reducible refine bd (gr (by omega) (by omega)) fun _ _=>?_
  | with_reducible refine bd (L21x1 _ _ _ (by first | assumption | omega | exact And.left (by assumption) | (dsimp only; omega)) (by first | assumption | omega | exact And.left (by assumption) | (dsimp only; omega)) (by first | assumption | omega | exact And.left (by assumption) | (dsimp only; omega))) fun _ _=>?_
  | with_reducible refine bs ?_
  | with_reducible refine ok ?_
  | split
  | ((intro hb v hv; first | (cases hb; done) | (have e : ∀ a,w.Z1c[i.toNat]? = some a → a = v:=fun a ha=>by { rw [hv] at ha; cases ha; rfl }; have:=e _ (And.right (by assumption)); subst this; exact ⟨by omega,by omega,by omega,by omega⟩)))
  | with_reducible refine And.intro ?_ ?_
  | assumption
  | exact True.intro
  | omega
  | (dsimp only; omega)
  | (simp only [List.length_set,List.length_append,List.length_cons,List.length_nil,List.length_replicate]; omega)
  | (obtain ⟨_,_⟩:=‹_ ∧ _›)
theorem L35x2 (w : Z0b) (s : List UInt8) (l0 : List Bool) (h : Z4r w) (hl : w.Z15.length ≤ 8) (hc : ∀ b ∈ w.Z0s,Z58 w b) (h0 : l0.length = w.Z15.length) : Ok (Z0a (Zb5 w s) Z0e (0,l0)) (fun r=>r.length = w.Z15.length):=by
 have:=h.conL
 refine lp (fun t=>t.1) (w.Z0s.length) (fun t=>t.2.length = w.Z15.length) (fun t hI _ _=>?_) (by omega) (by exact h0) (by omega) (by omega)
 try dsimp only at *
 unfold Zb5
 repeat' first
  | with_reducible refine bd (ik (by have:=hc _ (by assumption); unfold Z58 at this; omega) (by have:=hc _ (by assumption); unfold Z58 at this; first | omega | (simp only [List.length_set]; omega))) fun _ _=>?_
  | with_reducible refine nx ?_ ?_ ?_
  | with_reducible refine dn ?_
  | unfold Zav
  | with_reducible refine brD (fun _=>?_) fun _=>?_
  | with_reducible refine brE (fun _=>?_) fun _=>?_
  | with_reducible refine br (fun _=>?_) fun _=>?_
  | with_reducible refine bd (gr (by omega) (by omega)) fun _ _=>?_
  | with_reducible refine bd (ik (by omega) (by first | omega | (simp only [List.length_set,List.length_append,List.length_cons,List.length_nil,List.length_replicate]; omega))) fun _ _=>?_
  | with_reducible refine bd (la (by first | omega | (simp only [List.length_set,List.length_append,List.length_cons,List.length_nil,List.length_replicate]; omega))) fun _ _=>?_
  | with_reducible refine bd (wr (by omega) (by omega)) fun _ _=>?_
  | with_reducible refine bs ?_
  | with_reducible refine And.intro ?_ ?_
  | assumption
  | exact True.intro
  | omega
  | (dsimp only; omega)
  | (simp only [List.length_set,List.length_append,List.length_cons,List.length_nil,List.length_replicate]; omega)
  | (obtain ⟨_,_⟩:=‹_ ∧ _›)
theorem L35x1 (w : Z0b) (s : List UInt8) (l0 : List Bool) (h : Z4r w) (hl : w.Z15.length ≤ 8) (hc : ∀ b ∈ w.Z0s,Z58 w b) (h0 : l0.length = w.Z15.length) : Ok (Z0a (Zd0 w s) Z0e (0,l0)) (fun r=>r.length = w.Z15.length):=by
 refine lp (fun t=>t.1) (w.Z15.length) (fun t=>t.2.length = w.Z15.length) (fun t hI _ _=>?_) (by omega) (by exact h0) (by omega) (by omega)
 try dsimp only at *
 unfold Zd0
 repeat' first
  | with_reducible refine nx ?_ ?_ ?_
  | with_reducible refine dn ?_
  | with_reducible refine brD (fun _=>?_) fun _=>?_
  | with_reducible refine br (fun _=>?_) fun _=>?_
  | with_reducible refine bd (wr (by omega) (by omega)) fun _ _=>?_
  | with_reducible refine bd (L35x2 _ _ _ (by first | assumption | omega | exact And.left (by assumption) | (dsimp only; omega)) (by first | assumption | omega | exact And.left (by assumption) | (dsimp only; omega)) (by first | assumption | omega | exact And.left (by assumption) | (dsimp only; omega)) (by first | assumption | omega | exact And.left (by assumption) | (dsimp only; omega))) fun _ _=>?_
  | with_reducible refine bs ?_
  | with_reducible refine And.intro ?_ ?_
  | assumption
  | exact True.intro
  | omega
  | (dsimp only; omega)
  | (simp only [List.length_set,List.length_append,List.length_cons,List.length_nil,List.length_replicate]; omega)
  | (obtain ⟨_,_⟩:=‹_ ∧ _›)
theorem Zyb (w : Z0b) (s : List UInt8) (k : Int) (h : Z4r w) (hl : w.Z15.length ≤ 8) (hc : ∀ b ∈ w.Z0s,Z58 w b) (h0 : 0 ≤ k) (h1 : k < w.Z15.length) : Ok (Z8a w s k) (fun r=>r.length = w.Z15.length):=by
 unfold Z8a
 repeat' first
  | with_reducible refine bd (ik (by omega) (by first | omega | (simp only [List.length_set,List.length_append,List.length_cons,List.length_nil,List.length_replicate]; omega))) fun _ _=>?_
  | with_reducible refine bd (la (by first | omega | (simp only [List.length_set,List.length_append,List.length_cons,List.length_nil,List.length_replicate]; omega))) fun _ _=>?_
  | with_reducible refine bd (mk (by omega) (by omega) (by omega) (by omega)) fun _ _=>?_
  | with_reducible refine bd (L35x1 _ _ _ (by first | assumption | (simp only [List.length_set,List.length_replicate]; omega)) (by first | assumption | (simp only [List.length_set,List.length_replicate]; omega)) (by first | assumption | (simp only [List.length_set,List.length_replicate]; omega)) (by first | assumption | (simp only [List.length_set,List.length_replicate]; omega))) fun _ _=>?_
  | with_reducible refine ok ?_
  | with_reducible refine And.intro ?_ ?_
  | assumption
  | exact True.intro
  | omega
  | (dsimp only; omega)
  | (simp only [List.length_set,List.length_append,List.length_cons,List.length_nil,List.length_replicate]; omega)
  | (obtain ⟨_,_⟩:=‹_ ∧ _›)
theorem L22x1 (v : Z26) (g : List Bool) (w : Z0b) (i : Int) (h : Z4r w) (h0 : 0 ≤ i) (h1 : i < w.Z1c.length) (hg : g.length = w.Z15.length) (hs : ∀ (j : Nat) v,j < i → w.Z1c[j]? = some v → Z6f w v) : Ok (Z0a (Zis v g w i) Z0e 0) (fun _=>True):=by
 have:=h.iniL
 refine li (i) (fun t _ _=>?_) (by omega) (by omega) (by omega)
 unfold Zis
 repeat' first
  | with_reducible refine bd (gri (by omega) (by omega)) fun _ _=>?_
  | with_reducible refine bd (gr (by have:=hs t.toNat _ (by omega) (And.right (by assumption)); unfold Z6f at this; omega) (by have:=hs t.toNat _ (by omega) (And.right (by assumption)); unfold Z6f at this; omega)) fun _ _=>?_
  | with_reducible refine ni ?_ ?_
  | with_reducible refine di ?_
  | with_reducible refine brD (fun _=>?_) fun _=>?_
  | with_reducible refine brE (fun _=>?_) fun _=>?_
  | with_reducible refine brN (fun _=>?_) fun _=>?_
  | with_reducible refine br (fun _=>?_) fun _=>?_
  | with_reducible refine bd (gr (by omega) (by omega)) fun _ _=>?_
  | with_reducible refine bd (wr (by omega) (by omega)) fun _ _=>?_
  | with_reducible refine bs ?_
  | with_reducible refine And.intro ?_ ?_
  | assumption
  | exact True.intro
  | omega
  | (dsimp only; omega)
  | (simp only [List.length_set,List.length_append,List.length_cons,List.length_nil,List.length_replicate]; omega)
  | (obtain ⟨_,_⟩:=‹_ ∧ _›)
theorem Zx3 (w : Z0b) (i : Int) (h : Z4r w) (hl : w.Z15.length ≤ 8) (hc : ∀ b ∈ w.Z0s,Z58 w b) (h0 : 0 ≤ i) (h1 : i < w.Z1c.length) (hs : ∀ (j : Nat) v,j ≤ i → w.Z1c[j]? = some v → Z6f w v) : Ok (Zb7 w i) (fun _=>True):=by
 have:=h.iniL
 unfold Zb7
 repeat' first
  | with_reducible refine bd (gri (by omega) (by omega)) fun _ _=>?_
  | with_reducible refine bd (Zyb _ _ _ h hl hc (by have:=hs i.toNat _ (by omega) (And.right (by assumption)); unfold Z6f at this; omega) (by have:=hs i.toNat _ (by omega) (And.right (by assumption)); unfold Z6f at this; omega)) fun _ _=>?_
  | with_reducible refine bd (L22x1 _ _ _ _ h h0 h1 (by assumption) (fun j v hj hv=>hs j v (by omega) hv)) fun _ _=>?_
  | with_reducible refine bd (gr (by omega) (by omega)) fun _ _=>?_
  | with_reducible refine ok ?_
  | split
  | with_reducible refine And.intro ?_ ?_
  | assumption
  | exact True.intro
  | omega
  | (dsimp only; omega)
  | (simp only [List.length_set,List.length_append,List.length_cons,List.length_nil,List.length_replicate]; omega)
  | (obtain ⟨_,_⟩:=‹_ ∧ _›)
theorem L53x1 (x : List Z0d) (hl : x.length ≤ 140737488355328) : Ok (Z0a (Zi3 x) Z0e 0) (fun _=>True):=by
 refine li (x.length) (fun t _ _=>?_) (by omega) (by omega) (by omega)
 unfold Zi3
 repeat' first
  | with_reducible refine ni ?_ ?_
  | with_reducible refine di ?_
  | with_reducible refine brD (fun _=>?_) fun _=>?_
  | with_reducible refine brN (fun _=>?_) fun _=>?_
  | with_reducible refine br (fun _=>?_) fun _=>?_
  | with_reducible refine bd (gr (by omega) (by omega)) fun _ _=>?_
  | with_reducible refine bd (wr (by omega) (by omega)) fun _ _=>?_
  | with_reducible refine bs ?_
  | with_reducible refine And.intro ?_ ?_
  | assumption
  | exact True.intro
  | omega
  | (dsimp only; omega)
  | (simp only [List.length_set,List.length_append,List.length_cons,List.length_nil,List.length_replicate]; omega)
  | (obtain ⟨_,_⟩:=‹_ ∧ _›)
theorem Ztm (x : List Z0d) (hl : x.length ≤ 140737488355328) : Ok (Zc5 x) (fun _=>True):=by
 unfold Zc5
 repeat' first
  | with_reducible refine bd (L53x1 _ (by first | assumption | omega | exact And.left (by assumption) | (dsimp only; omega))) fun _ _=>?_
  | with_reducible refine ok ?_
  | split
  | with_reducible refine And.intro ?_ ?_
  | assumption
  | exact True.intro
  | omega
  | (dsimp only; omega)
  | (simp only [List.length_set,List.length_append,List.length_cons,List.length_nil,List.length_replicate]; omega)
  | (obtain ⟨_,_⟩:=‹_ ∧ _›)
theorem L47x1 (u : Z12) (h : Z57 u) : Ok (Z0a (Zi8 u) Z0e 0) (fun _=>True):=by
 have:=h.fldL
 refine li (u.Z19.length) (fun t _ _=>?_) (by omega) (by omega) (by omega)
 unfold Zi8
 repeat' first
  | with_reducible refine ni ?_ ?_
  | with_reducible refine di ?_
  | unfold Zgf
  | with_reducible refine brD (fun _=>?_) fun _=>?_
  | with_reducible refine br! (fun _=>?_) fun _=>?_
  | with_reducible refine brE (fun _=>?_) fun _=>?_
  | with_reducible refine brN (fun _=>?_) fun _=>?_
  | with_reducible refine br (fun _=>?_) fun _=>?_
  | with_reducible refine bd (gr (by omega) (by omega)) fun _ _=>?_
  | with_reducible refine bd (wr (by omega) (by omega)) fun _ _=>?_
  | with_reducible refine bs ?_
  | with_reducible refine And.intro ?_ ?_
  | assumption
  | exact True.intro
  | omega
  | (dsimp only; omega)
  | (simp only [List.length_set,List.length_append,List.length_cons,List.length_nil,List.length_replicate]; omega)
  | (obtain ⟨_,_⟩:=‹_ ∧ _›)
theorem L47x3 (m : Z2f) (h : Z9h m) : Ok (Z0a (Zf6 m) Z0e 0) (fun _=>True):=by
 have:=h.code.hndL
 refine li (m.Z2k.Z1f.length) (fun t _ _=>?_) (by omega) (by omega) (by omega)
 unfold Zf6
 repeat' first
  | with_reducible refine ni ?_ ?_
  | with_reducible refine di ?_
  | with_reducible refine brD (fun _=>?_) fun _=>?_
  | with_reducible refine brN (fun _=>?_) fun _=>?_
  | with_reducible refine br (fun _=>?_) fun _=>?_
  | with_reducible refine bd (gr (by omega) (by omega)) fun _ _=>?_
  | with_reducible refine bd (wr (by omega) (by omega)) fun _ _=>?_
  | with_reducible refine bs ?_
  | with_reducible refine And.intro ?_ ?_
  | assumption
  | exact True.intro
  | omega
  | (dsimp only; omega)
  | (simp only [List.length_set,List.length_append,List.length_cons,List.length_nil,List.length_replicate]; omega)
  | (obtain ⟨_,_⟩:=‹_ ∧ _›)
theorem L47x4 (m : Z2f) (h : Z9h m) : Ok (Z0a (Zf3 m) Z0e 0) (fun _=>True):=by
 have:=h.code.mapL
 refine li (m.Z2k.Z0z.length) (fun t _ _=>?_) (by omega) (by omega) (by omega)
 unfold Zf3
 repeat' first
  | with_reducible refine bd (Ztm _ (by have:=(h.code.map _ (by assumption)).locL; omega)) fun _ _=>?_
  | with_reducible refine bd (Ztm _ (by have:=(h.code.map _ (by assumption)).stkL; omega)) fun _ _=>?_
  | with_reducible refine ni ?_ ?_
  | with_reducible refine di ?_
  | with_reducible refine brD (fun _=>?_) fun _=>?_
  | with_reducible refine br! (fun _=>?_) fun _=>?_
  | with_reducible refine br (fun _=>?_) fun _=>?_
  | with_reducible refine bd (gr (by omega) (by omega)) fun _ _=>?_
  | with_reducible refine bd (wr (by omega) (by omega)) fun _ _=>?_
  | with_reducible refine bs ?_
  | with_reducible refine And.intro ?_ ?_
  | assumption
  | exact True.intro
  | omega
  | (dsimp only; omega)
  | (simp only [List.length_set,List.length_append,List.length_cons,List.length_nil,List.length_replicate]; omega)
  | (obtain ⟨_,_⟩:=‹_ ∧ _›)
theorem L47x2 (u : Z12) (h : Z57 u) : Ok (Z0a (Zgk u) Z0e 0) (fun _=>True):=by
 have:=h.metL
 refine li (u.Z17.length) (fun t _ _=>?_) (by omega) (by omega) (by omega)
 unfold Zgk
 repeat' first
  | with_reducible refine ni ?_ ?_
  | with_reducible refine di ?_
  | unfold Zfz
  | with_reducible refine brD (fun _=>?_) fun _=>?_
  | with_reducible refine br! (fun _=>?_) fun _=>?_
  | with_reducible refine brN (fun _=>?_) fun _=>?_
  | with_reducible refine br (fun _=>?_) fun _=>?_
  | with_reducible refine bd (gr (by omega) (by omega)) fun _ _=>?_
  | with_reducible refine bd (wr (by omega) (by omega)) fun _ _=>?_
  | with_reducible refine bd (L47x3 _ (by exact h.met _ (by assumption))) fun _ _=>?_
  | with_reducible refine bd (L47x4 _ (by exact h.met _ (by assumption))) fun _ _=>?_
  | with_reducible refine bs ?_
  | split
  | with_reducible refine And.intro ?_ ?_
  | assumption
  | exact True.intro
  | omega
  | (dsimp only; omega)
  | (simp only [List.length_set,List.length_append,List.length_cons,List.length_nil,List.length_replicate]; omega)
  | (obtain ⟨_,_⟩:=‹_ ∧ _›)
theorem Zzi (u : Z12) (h : Z57 u) : Ok (Zjv u) (fun _=>True):=by
 unfold Zjv
 repeat' first
  | with_reducible refine bd (L47x1 _ (by first | assumption | omega | exact And.left (by assumption) | (dsimp only; omega))) fun _ _=>?_
  | with_reducible refine bd (L47x2 _ (by first | assumption | omega | exact And.left (by assumption) | (dsimp only; omega))) fun _ _=>?_
  | with_reducible refine ok ?_
  | split
  | with_reducible refine And.intro ?_ ?_
  | assumption
  | exact True.intro
  | omega
  | (dsimp only; omega)
  | (simp only [List.length_set,List.length_append,List.length_cons,List.length_nil,List.length_replicate]; omega)
  | (obtain ⟨_,_⟩:=‹_ ∧ _›)
end Go.Proofs
