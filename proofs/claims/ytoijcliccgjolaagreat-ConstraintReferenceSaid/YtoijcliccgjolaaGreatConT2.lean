/-
  That the models come to an answer, part two: the pool that is built. No condition.
-/
import Derived.Test.YtoijcliccgjolaaGreatConT1
set_option linter.unusedVariables false
namespace Go.Proofs
open Go.Den Go.Tot
structure Z16 (p : List Z00) : Prop where
 len : p.length ≤ 1000
 ord : ∀ (k : Nat) c,p[k]? = some c → c.f_A ≤ k ∧ c.f_B ≤ k
 str : ∀ c ∈ p,Str c.f_S
theorem Z16.app {p : List Z00} {c : Z00} (h : Z16 p) (hl : p.length < 1000) (ha : c.f_A ≤ p.length) (hb : c.f_B ≤ p.length) (hs : Str c.f_S) : Z16 (([] ++ p) ++ [c]):=by
 refine ⟨by simp; omega,fun k d hd=>?_,fun d hd=>?_⟩
 ·rw [List.nil_append] at hd
  rcases Nat.lt_trichotomy k p.length with h1 | h1 | h1
  ·rw [List.getElem?_append_left h1] at hd; exact h.ord k d hd
  ·subst h1
   rw [List.getElem?_append_right (Nat.le_refl _),Nat.sub_self] at hd
   cases hd; exact ⟨ha,hb⟩
  ·rw [List.getElem?_eq_none (by simp; omega)] at hd; cases hd
 ·rw [List.nil_append] at hd
  rcases List.mem_append.1 hd with hd | hd
  ·exact h.str d hd
  ·rw [List.mem_singleton.1 hd]; exact hs
theorem Z16.nil : Z16 [] :=⟨by simp,fun k c h=>by simp at h,fun c h=>by simp at h⟩
abbrev PR (p : List Z00) (r : List Z00 × Int × Int) : Prop:=Z16 r.1 ∧ p.length ≤ r.1.length ∧ 0 ≤ r.2.1 ∧ r.2.1 ≤ r.1.length ∧ r.1.length ≤ 1000
theorem Z5l {α : Type} {P : α → Prop} {l : List α} {x : α} (h : ∀ v ∈ l,P v) (hx : P x) : ∀ v ∈ l ++ [x],P v:=fun v hv=>by
 rcases List.mem_append.1 hv with hv | hv
 ·exact h v hv
 ·rw [List.mem_singleton.1 hv]; exact hx
theorem Z3u {α : Type} {P : α → Prop} : ∀ v ∈ ([] : List α),P v:=fun v hv=>by simp at hv
theorem W0 {op a : Int} : Z2m { f_Op:=op,f_A:=a,f_B:=0,f_To:=0,Z0o:=[],Z09:=[],Z0y:={ Z0v:=[],Z05:=[],Z1e:=[] },f_S:=[] }:=⟨by simp,by simp,⟨by simp,by simp,by simp⟩,by simp⟩
theorem L77x1 (p : List Z00) (c : Z00) (hp : Z16 p) : Ok (Z0a (Zfh p c) Z0e 0) (fun q=>match q with | .inl _=>True | .inr y=>PR p y):=by
 have:=hp.len
 refine li (p.length) (fun t _ _=>?_) (by omega) (by omega) (by omega)
 unfold Zfh
 repeat' first
  | with_reducible refine ni ?_ ?_
  | with_reducible refine di ?_
  | with_reducible refine brD (fun _=>?_) fun _=>?_
  | with_reducible refine br (fun _=>?_) fun _=>?_
  | with_reducible refine bd (gr (by omega) (by omega)) fun _ _=>?_
  | with_reducible refine bd (wr (by omega) (by omega)) fun _ _=>?_
  | with_reducible refine bs ?_
  | (exact ⟨hp,by omega,by omega,by omega,by omega⟩)
  | with_reducible refine And.intro ?_ ?_
  | assumption
  | exact True.intro
  | omega
  | (dsimp only; omega)
  | (simp only [List.length_set,List.length_append,List.length_cons,List.length_nil,List.length_replicate]; omega)
  | (obtain ⟨_,_⟩:=‹_ ∧ _›)
theorem Zdu (p : List Z00) (c : Z00) (hp : Z16 p) (ha : c.f_A ≤ p.length) (hb : c.f_B ≤ p.length) (hs : Str c.f_S) : Ok (Z7m p c) (PR p):=by
 have:=hp.len
 unfold Z7m
 repeat' first
  | with_reducible refine brD (fun _=>?_) fun _=>?_
  | with_reducible refine br (fun _=>?_) fun _=>?_
  | with_reducible refine bd (wr (by omega) (by omega)) fun _ _=>?_
  | with_reducible refine bd (gk (by simp only [List.length_append,List.length_cons,List.length_nil]; omega) (by simp only [List.length_append,List.length_cons,List.length_nil]; omega)) fun _ _=>?_
  | with_reducible refine bd (L77x1 _ _ (by first | assumption | omega | exact And.left (by assumption) | (dsimp only; omega))) fun _ _=>?_
  | with_reducible refine bs ?_
  | with_reducible refine ok ?_
  | split
  | (first | exact ⟨hp.app (by omega) ha hb hs,by simp,by dsimp only; omega,by simp; omega,by simp; omega⟩ | exact ⟨hp,by dsimp only; omega,by dsimp only; omega,by dsimp only; omega,by dsimp only; omega⟩ | (dsimp only at *; assumption))
  | with_reducible refine And.intro ?_ ?_
  | assumption
  | exact True.intro
  | omega
  | (dsimp only; omega)
  | (simp only [List.length_set,List.length_append,List.length_cons,List.length_nil,List.length_replicate]; omega)
  | (obtain ⟨_,_⟩:=‹_ ∧ _›)
theorem Zdn (p : List Z00) (s : List UInt8) (hp : Z16 p) (hs : Str s) : Ok (Z8c p s) (PR p):=by
 have:=hp.len
 unfold Z8c
 repeat' first
  | with_reducible refine bd (Zdu _ _ (by first | assumption | omega | (dsimp only; omega) | exact And.left (by assumption) | (simp; done)) (by first | assumption | omega | (dsimp only; omega) | exact And.left (by assumption) | (simp; done)) (by first | assumption | omega | (dsimp only; omega) | exact And.left (by assumption) | (simp; done)) (by first | assumption | omega | (dsimp only; omega) | exact And.left (by assumption) | (simp; done))) fun _ _=>?_
  | with_reducible refine ok ?_
  | (first | exact ⟨by first | exact hp | exact And.left (by assumption),by dsimp only; omega,by dsimp only; omega,by dsimp only; omega,by dsimp only; omega⟩ | exact ⟨hp,by dsimp only; omega,by dsimp only; omega,by dsimp only; omega,by dsimp only; omega⟩)
  | with_reducible refine And.intro ?_ ?_
  | assumption
  | exact True.intro
  | omega
  | (dsimp only; omega)
  | (simp only [List.length_set,List.length_append,List.length_cons,List.length_nil,List.length_replicate]; omega)
  | (obtain ⟨_,_⟩:=‹_ ∧ _›)
theorem Zqo (p : List Z00) (tag : Int) (s : List UInt8) (hp : Z16 p) (hs : Str s) : Ok (Zej p tag s) (PR p):=by
 have:=hp.len
 unfold Zej
 repeat' first
  | with_reducible refine brN (fun _=>?_) fun _=>?_
  | with_reducible refine br (fun _=>?_) fun _=>?_
  | with_reducible refine bd (Zdn _ _ (by first | assumption | omega | exact And.left (by assumption) | (dsimp only; omega)) (by first | assumption | omega | exact And.left (by assumption) | (dsimp only; omega))) fun _ _=>?_
  | with_reducible refine bd (Zdu _ _ (by first | assumption | omega | (dsimp only; omega) | exact And.left (by assumption) | (simp; done)) (by first | assumption | omega | (dsimp only; omega) | exact And.left (by assumption) | (simp; done)) (by first | assumption | omega | (dsimp only; omega) | exact And.left (by assumption) | (simp; done)) (by first | assumption | omega | (dsimp only; omega) | exact And.left (by assumption) | (simp; done))) fun _ _=>?_
  | with_reducible refine bs ?_
  | with_reducible refine ok ?_
  | (first | exact ⟨by first | exact hp | exact And.left (by assumption),by dsimp only; omega,by dsimp only; omega,by dsimp only; omega,by dsimp only; omega⟩ | exact ⟨hp,by dsimp only; omega,by dsimp only; omega,by dsimp only; omega,by dsimp only; omega⟩)
  | with_reducible refine And.intro ?_ ?_
  | assumption
  | exact True.intro
  | omega
  | (dsimp only; omega)
  | (simp only [List.length_set,List.length_append,List.length_cons,List.length_nil,List.length_replicate]; omega)
  | (obtain ⟨_,_⟩:=‹_ ∧ _›)
theorem Zn1 (p : List Z00) (s : List UInt8) (hp : Z16 p) (hs : Str s) : Ok (Zay p s) (PR p):=by
 have:=hp.len
 unfold Zay
 repeat' first
  | with_reducible refine bd (Zqo _ _ _ (by first | assumption | omega | exact And.left (by assumption) | (dsimp only; omega)) (by first | assumption | omega | exact And.left (by assumption) | (dsimp only; omega))) fun _ _=>?_
  | with_reducible refine ok ?_
  | (first | exact ⟨by first | exact hp | exact And.left (by assumption),by dsimp only; omega,by dsimp only; omega,by dsimp only; omega,by dsimp only; omega⟩ | exact ⟨hp,by dsimp only; omega,by dsimp only; omega,by dsimp only; omega,by dsimp only; omega⟩)
  | with_reducible refine And.intro ?_ ?_
  | assumption
  | exact True.intro
  | omega
  | (dsimp only; omega)
  | (simp only [List.length_set,List.length_append,List.length_cons,List.length_nil,List.length_replicate]; omega)
  | (obtain ⟨_,_⟩:=‹_ ∧ _›)
theorem Zr8 (p : List Z00) (s : List UInt8) (hp : Z16 p) (hs : Str s) : Ok (Zbv p s) (PR p):=by
 have:=hp.len
 unfold Zbv
 repeat' first
  | with_reducible refine bd (Zqo _ _ _ (by first | assumption | omega | exact And.left (by assumption) | (dsimp only; omega)) (by first | assumption | omega | exact And.left (by assumption) | (dsimp only; omega))) fun _ _=>?_
  | with_reducible refine ok ?_
  | (first | exact ⟨by first | exact hp | exact And.left (by assumption),by dsimp only; omega,by dsimp only; omega,by dsimp only; omega,by dsimp only; omega⟩ | exact ⟨hp,by dsimp only; omega,by dsimp only; omega,by dsimp only; omega,by dsimp only; omega⟩)
  | with_reducible refine And.intro ?_ ?_
  | assumption
  | exact True.intro
  | omega
  | (dsimp only; omega)
  | (simp only [List.length_set,List.length_append,List.length_cons,List.length_nil,List.length_replicate]; omega)
  | (obtain ⟨_,_⟩:=‹_ ∧ _›)
theorem Zcr (x : Z0j) (s : List UInt8) (hp : Z16 x.f_P) (hs : Str s) : Ok (Z85 x s) (fun r=>Z16 r.1.f_P):=by
 unfold Z85
 repeat' first
  | with_reducible refine brN (fun _=>?_) fun _=>?_
  | with_reducible refine br (fun _=>?_) fun _=>?_
  | with_reducible refine bd (Zn1 _ _ (by first | assumption | omega | exact And.left (by assumption) | (dsimp only; omega)) (by first | assumption | omega | exact And.left (by assumption) | (dsimp only; omega))) fun _ _=>?_
  | with_reducible refine bs ?_
  | with_reducible refine ok ?_
  | (exact And.left (by assumption))
  | with_reducible refine And.intro ?_ ?_
  | assumption
  | exact True.intro
  | omega
  | (dsimp only; omega)
  | (simp only [List.length_set,List.length_append,List.length_cons,List.length_nil,List.length_replicate]; omega)
  | (obtain ⟨_,_⟩:=‹_ ∧ _›)
theorem Z6m (x : Z0j) (s : List UInt8) (hp : Z16 x.f_P) (hs : Str s) : Ok (Z5d x s) (fun r=>Z16 r.1.f_P):=by
 unfold Z5d
 repeat' first
  | with_reducible refine brN (fun _=>?_) fun _=>?_
  | with_reducible refine br (fun _=>?_) fun _=>?_
  | with_reducible refine bd (Zdn _ _ (by first | assumption | omega | exact And.left (by assumption) | (dsimp only; omega)) (by first | assumption | omega | exact And.left (by assumption) | (dsimp only; omega))) fun _ _=>?_
  | with_reducible refine bs ?_
  | with_reducible refine ok ?_
  | (exact And.left (by assumption))
  | with_reducible refine And.intro ?_ ?_
  | assumption
  | exact True.intro
  | omega
  | (dsimp only; omega)
  | (simp only [List.length_set,List.length_append,List.length_cons,List.length_nil,List.length_replicate]; omega)
  | (obtain ⟨_,_⟩:=‹_ ∧ _›)
theorem Zzg (x : Z0j) (f : Z3k) (hp : Z16 x.f_P) (hf : Znb f) : Ok (Zio x f) (fun r=>Z16 r.1.f_P):=by
 unfold Zio
 repeat' first
  | unfold Zjs
  | with_reducible refine brE (fun _=>?_) fun _=>?_
  | with_reducible refine brN (fun _=>?_) fun _=>?_
  | with_reducible refine br (fun _=>?_) fun _=>?_
  | with_reducible refine bd (Zr8 _ _ (by first | exact hf.s | assumption) (by first | exact hf.s | assumption)) fun _ _=>?_
  | with_reducible refine bd (Zdu _ _ (by first | assumption | omega | (dsimp only; omega) | exact And.left (by assumption) | (simp; done)) (by first | assumption | omega | (dsimp only; omega) | exact And.left (by assumption) | (simp; done)) (by first | assumption | omega | (dsimp only; omega) | exact And.left (by assumption) | (simp; done)) (by first | assumption | omega | (dsimp only; omega) | exact And.left (by assumption) | (simp; done))) fun _ _=>?_
  | with_reducible refine bs ?_
  | with_reducible refine ok ?_
  | (exact And.left (by assumption))
  | with_reducible refine And.intro ?_ ?_
  | assumption
  | exact True.intro
  | omega
  | (dsimp only; omega)
  | (simp only [List.length_set,List.length_append,List.length_cons,List.length_nil,List.length_replicate]; omega)
  | (obtain ⟨_,_⟩:=‹_ ∧ _›)
theorem Zwo (p : List Z00) (tag : Int) (r : Z21) (hp : Z16 p) (hr : WRef r) : Ok (Zae p tag r) (PR p):=by
 have:=hp.len
 unfold Zae
 repeat' first
  | with_reducible refine bd (Zdn _ _ (And.left (by assumption)) hr.n) fun _ _=>?_
  | with_reducible refine bd (Zdn _ _ (And.left (by assumption)) hr.d) fun _ _=>?_
  | with_reducible refine brN (fun _=>?_) fun _=>?_
  | with_reducible refine br (fun _=>?_) fun _=>?_
  | with_reducible refine bd (Zn1 _ _ (by first | exact hr.c | assumption) (by first | exact hr.c | assumption)) fun _ _=>?_
  | with_reducible refine bd (Zdu _ _ (by first | assumption | omega | (dsimp only; omega) | exact And.left (by assumption) | (simp; done)) (by first | assumption | omega | (dsimp only; omega) | exact And.left (by assumption) | (simp; done)) (by first | assumption | omega | (dsimp only; omega) | exact And.left (by assumption) | (simp; done)) (by first | assumption | omega | (dsimp only; omega) | exact And.left (by assumption) | (simp; done))) fun _ _=>?_
  | with_reducible refine bs ?_
  | with_reducible refine ok ?_
  | (first | exact ⟨by first | exact hp | exact And.left (by assumption),by dsimp only; omega,by dsimp only; omega,by dsimp only; omega,by dsimp only; omega⟩ | exact ⟨hp,by dsimp only; omega,by dsimp only; omega,by dsimp only; omega,by dsimp only; omega⟩)
  | with_reducible refine And.intro ?_ ?_
  | assumption
  | exact True.intro
  | omega
  | (dsimp only; omega)
  | (simp only [List.length_set,List.length_append,List.length_cons,List.length_nil,List.length_replicate]; omega)
  | (obtain ⟨_,_⟩:=‹_ ∧ _›)
theorem Zsv (x : Int) : Ok (Z8w x) (fun _=>True):=by
 unfold Z8w
 repeat' first
  | with_reducible refine brD (fun _=>?_) fun _=>?_
  | with_reducible refine br (fun _=>?_) fun _=>?_
  | with_reducible refine bs ?_
  | with_reducible refine ok ?_
  | with_reducible refine And.intro ?_ ?_
  | assumption
  | exact True.intro
  | omega
  | (dsimp only; omega)
  | (simp only [List.length_set,List.length_append,List.length_cons,List.length_nil,List.length_replicate]; omega)
  | (obtain ⟨_,_⟩:=‹_ ∧ _›)
theorem Zt0 (x a b : Int) : Ok (Z6a x a b) (fun _=>True):=by
 unfold Z6a
 repeat' first
  | with_reducible refine brD (fun _=>?_) fun _=>?_
  | with_reducible refine br (fun _=>?_) fun _=>?_
  | with_reducible refine bs ?_
  | with_reducible refine ok ?_
  | with_reducible refine And.intro ?_ ?_
  | assumption
  | exact True.intro
  | omega
  | (dsimp only; omega)
  | (simp only [List.length_set,List.length_append,List.length_cons,List.length_nil,List.length_replicate]; omega)
  | (obtain ⟨_,_⟩:=‹_ ∧ _›)
theorem Zpn (x : Int) : Ok (Zcq x) (fun _=>True):=by
 unfold Zcq
 repeat' first
  | with_reducible refine brD (fun _=>?_) fun _=>?_
  | with_reducible refine br (fun _=>?_) fun _=>?_
  | with_reducible refine bs ?_
  | with_reducible refine ok ?_
  | with_reducible refine And.intro ?_ ?_
  | assumption
  | exact True.intro
  | omega
  | (dsimp only; omega)
  | (simp only [List.length_set,List.length_append,List.length_cons,List.length_nil,List.length_replicate]; omega)
  | (obtain ⟨_,_⟩:=‹_ ∧ _›)
theorem Zyt (x : Int) : Ok (Zin x) (fun _=>True):=by
 unfold Zin
 repeat' first
  | with_reducible refine brD (fun _=>?_) fun _=>?_
  | with_reducible refine br (fun _=>?_) fun _=>?_
  | with_reducible refine bs ?_
  | with_reducible refine ok ?_
  | with_reducible refine And.intro ?_ ?_
  | assumption
  | exact True.intro
  | omega
  | (dsimp only; omega)
  | (simp only [List.length_set,List.length_append,List.length_cons,List.length_nil,List.length_replicate]; omega)
  | (obtain ⟨_,_⟩:=‹_ ∧ _›)
theorem Zs8 (x : Int) : Ok (Zbu x) (fun _=>True):=by
 unfold Zbu
 repeat' first
  | with_reducible refine brE (fun _=>?_) fun _=>?_
  | with_reducible refine br (fun _=>?_) fun _=>?_
  | with_reducible refine bs ?_
  | with_reducible refine ok ?_
  | with_reducible refine And.intro ?_ ?_
  | assumption
  | exact True.intro
  | omega
  | (dsimp only; omega)
  | (simp only [List.length_set,List.length_append,List.length_cons,List.length_nil,List.length_replicate]; omega)
  | (obtain ⟨_,_⟩:=‹_ ∧ _›)
theorem Zm0 (x : Int) : Ok (Zbe x) (fun _=>True):=by
 unfold Zbe
 repeat' first
  | with_reducible refine brD (fun _=>?_) fun _=>?_
  | with_reducible refine br (fun _=>?_) fun _=>?_
  | with_reducible refine bs ?_
  | with_reducible refine ok ?_
  | with_reducible refine And.intro ?_ ?_
  | assumption
  | exact True.intro
  | omega
  | (dsimp only; omega)
  | (simp only [List.length_set,List.length_append,List.length_cons,List.length_nil,List.length_replicate]; omega)
  | (obtain ⟨_,_⟩:=‹_ ∧ _›)
theorem Zp0 (x : Int) : Ok (Z67 x) (fun _=>True):=by
 unfold Z67
 repeat' first
  | unfold Zj1
  | unfold Zhs
  | with_reducible refine br! (fun _=>?_) fun _=>?_
  | with_reducible refine brE (fun _=>?_) fun _=>?_
  | with_reducible refine br (fun _=>?_) fun _=>?_
  | with_reducible refine bd (Zsv _) fun _ _=>?_
  | with_reducible refine bd (Zt0 _ _ _) fun _ _=>?_
  | with_reducible refine bs ?_
  | with_reducible refine ok ?_
  | with_reducible refine And.intro ?_ ?_
  | assumption
  | exact True.intro
  | omega
  | (dsimp only; omega)
  | (simp only [List.length_set,List.length_append,List.length_cons,List.length_nil,List.length_replicate]; omega)
  | (obtain ⟨_,_⟩:=‹_ ∧ _›)
theorem Y1d (x : Z01) (k : Int) : Ok (Zax x k) (fun _=>True):=by
 unfold Zax
 repeat' first
  | unfold Zg1
  | unfold Ze0
  | unfold Zec
  | with_reducible refine br! (fun _=>?_) fun _=>?_
  | with_reducible refine brE (fun _=>?_) fun _=>?_
  | with_reducible refine brN (fun _=>?_) fun _=>?_
  | with_reducible refine br (fun _=>?_) fun _=>?_
  | with_reducible refine bs ?_
  | with_reducible refine ok ?_
  | with_reducible refine And.intro ?_ ?_
  | assumption
  | exact True.intro
  | omega
  | (dsimp only; omega)
  | (simp only [List.length_set,List.length_append,List.length_cons,List.length_nil,List.length_replicate]; omega)
  | (obtain ⟨_,_⟩:=‹_ ∧ _›)
theorem L114x1 (x : Z01) (hx : Z2m x) : Ok (Z0a (Zal x) Z0e 0) (fun _=>True):=by
 have:=hx.tos
 refine li (x.Z09.length) (fun t _ _=>?_) (by omega) (by omega) (by omega)
 unfold Zal
 repeat' first
  | with_reducible refine ni ?_ ?_
  | with_reducible refine di ?_
  | with_reducible refine brD (fun _=>?_) fun _=>?_
  | with_reducible refine br (fun _=>?_) fun _=>?_
  | with_reducible refine bd (gr (by omega) (by omega)) fun _ _=>?_
  | with_reducible refine bd (wr (by omega) (by omega)) fun _ _=>?_
  | with_reducible refine bs ?_
  | with_reducible refine And.intro ?_ ?_
  | assumption
  | exact True.intro
  | omega
  | (dsimp only; omega)
  | (simp only [List.length_set,List.length_append,List.length_cons,List.length_nil,List.length_replicate]; omega)
  | (obtain ⟨_,_⟩:=‹_ ∧ _›)
theorem Zyw (x : Z01) (hx : Z2m x) : Ok (Z77 x) (fun _=>True):=by
 unfold Z77
 repeat' first
  | unfold Zg6
  | with_reducible refine brD (fun _=>?_) fun _=>?_
  | with_reducible refine br (fun _=>?_) fun _=>?_
  | with_reducible refine bd (L114x1 _ (by first | assumption | omega | exact And.left (by assumption) | (dsimp only; omega))) fun _ _=>?_
  | with_reducible refine bs ?_
  | with_reducible refine ok ?_
  | split
  | with_reducible refine And.intro ?_ ?_
  | assumption
  | exact True.intro
  | omega
  | (dsimp only; omega)
  | (simp only [List.length_set,List.length_append,List.length_cons,List.length_nil,List.length_replicate]; omega)
  | (obtain ⟨_,_⟩:=‹_ ∧ _›)
theorem Zr3 (x : Z01) (hx : Z2m x) : Ok (Z0a (Zf2 x) Z0e 0) (fun _=>True):=by
 have:=hx.keys
 refine li (x.Z0o.length) (fun t _ _=>?_) (by omega) (by omega) (by omega)
 unfold Zf2
 repeat' first
  | with_reducible refine ni ?_ ?_
  | with_reducible refine di ?_
  | with_reducible refine brD (fun _=>?_) fun _=>?_
  | with_reducible refine br! (fun _=>?_) fun _=>?_
  | with_reducible refine br (fun _=>?_) fun _=>?_
  | with_reducible refine bd (gr (by omega) (by omega)) fun _ _=>?_
  | with_reducible refine bd (wr (by omega) (by omega)) fun _ _=>?_
  | with_reducible refine bd (Zm0 _) fun _ _=>?_
  | with_reducible refine bs ?_
  | with_reducible refine And.intro ?_ ?_
  | assumption
  | exact True.intro
  | omega
  | (dsimp only; omega)
  | (simp only [List.length_set,List.length_append,List.length_cons,List.length_nil,List.length_replicate]; omega)
  | (obtain ⟨_,_⟩:=‹_ ∧ _›)
theorem Zon (x : Z01) (hx : Z2m x) : Ok (Z0a (Zfi x) Z0e 1) (fun _=>True):=by
 have:=hx.keys
 refine lp (fun t=>t) (max 1 x.Z0o.length) (fun t=>1 ≤ t) (fun t hI _ _=>?_) (by omega) (by omega) (by omega) (by omega)
 unfold Zfi
 repeat' first
  | with_reducible refine nx ?_ ?_ ?_
  | with_reducible refine dn ?_
  | with_reducible refine brD (fun _=>?_) fun _=>?_
  | with_reducible refine bd (gr (by omega) (by omega)) fun _ _=>?_
  | with_reducible refine bd (wr (by omega) (by omega)) fun _ _=>?_
  | exact True.intro
  | omega
theorem Zyo (x : Z01) (hx : Z2m x) : Ok (Zap x) (fun _=>True):=by
 unfold Zap
 repeat' first
  | unfold Zhi
  | unfold Zgv
  | with_reducible refine brD (fun _=>?_) fun _=>?_
  | with_reducible refine br! (fun _=>?_) fun _=>?_
  | with_reducible refine brE (fun _=>?_) fun _=>?_
  | with_reducible refine brN (fun _=>?_) fun _=>?_
  | with_reducible refine br (fun _=>?_) fun _=>?_
  | with_reducible refine bd (wr (by omega) (by omega)) fun _ _=>?_
  | with_reducible refine bd (Zm0 _) fun _ _=>?_
  | with_reducible refine bd (Zr3 _ (by first | assumption | omega | exact And.left (by assumption) | (dsimp only; omega))) fun _ _=>?_
  | with_reducible refine bd (Zon _ (by assumption)) fun _ _=>?_
  | with_reducible refine bs ?_
  | with_reducible refine ok ?_
  | split
  | with_reducible refine And.intro ?_ ?_
  | assumption
  | exact True.intro
  | omega
  | (dsimp only; omega)
  | (simp only [List.length_set,List.length_append,List.length_cons,List.length_nil,List.length_replicate]; omega)
  | (obtain ⟨_,_⟩:=‹_ ∧ _›)
theorem Y04 (x : Z01) (hx : Z2m x) : Ok (Z4t x) (fun _=>True):=by
 unfold Z4t
 repeat' first
  | unfold Z7t
  | unfold Z9c
  | unfold Zbd
  | unfold Z82
  | unfold Zau
  | with_reducible refine brD (fun _=>?_) fun _=>?_
  | with_reducible refine br! (fun _=>?_) fun _=>?_
  | with_reducible refine brE (fun _=>?_) fun _=>?_
  | with_reducible refine br (fun _=>?_) fun _=>?_
  | with_reducible refine bd (Zp0 _) fun _ _=>?_
  | with_reducible refine bd (Y1d _ _) fun _ _=>?_
  | with_reducible refine bd (Zyw _ (by first | assumption | omega | exact And.left (by assumption) | (dsimp only; omega))) fun _ _=>?_
  | with_reducible refine bd (Zyo _ (by first | assumption | omega | exact And.left (by assumption) | (dsimp only; omega))) fun _ _=>?_
  | with_reducible refine bs ?_
  | with_reducible refine ok ?_
  | with_reducible refine And.intro ?_ ?_
  | assumption
  | exact True.intro
  | omega
  | (dsimp only; omega)
  | (simp only [List.length_set,List.length_append,List.length_cons,List.length_nil,List.length_replicate]; omega)
  | (obtain ⟨_,_⟩:=‹_ ∧ _›)
theorem Zxa (x : Z01) (hx : Z2m x) : Ok (Zf1 x) (fun _=>True):=by
 unfold Zf1
 repeat' first
  | unfold Zku
  | unfold Zjk
  | unfold Zcu
  | with_reducible refine brD (fun _=>?_) fun _=>?_
  | with_reducible refine br! (fun _=>?_) fun _=>?_
  | with_reducible refine brE (fun _=>?_) fun _=>?_
  | with_reducible refine brN (fun _=>?_) fun _=>?_
  | with_reducible refine br (fun _=>?_) fun _=>?_
  | with_reducible refine bd (wr (by omega) (by omega)) fun _ _=>?_
  | with_reducible refine bd (Zpn _) fun _ _=>?_
  | with_reducible refine bd (Zyt _) fun _ _=>?_
  | with_reducible refine bd (Zs8 _) fun _ _=>?_
  | with_reducible refine bs ?_
  | with_reducible refine ok ?_
  | with_reducible refine And.intro ?_ ?_
  | assumption
  | exact True.intro
  | omega
  | (dsimp only; omega)
  | (simp only [List.length_set,List.length_append,List.length_cons,List.length_nil,List.length_replicate]; omega)
  | (obtain ⟨_,_⟩:=‹_ ∧ _›)
theorem Zv1 (x : Int) : Ok (Ze2 x) (fun l=>l.length ≤ 3):=by
 unfold Ze2
 repeat' first
  | unfold Znn
  | unfold Zo8
  | unfold Zkv
  | unfold Znq
  | with_reducible refine brE (fun _=>?_) fun _=>?_
  | with_reducible refine br (fun _=>?_) fun _=>?_
  | with_reducible refine bd (Zt0 _ _ _) fun _ _=>?_
  | with_reducible refine bs ?_
  | with_reducible refine ok ?_
  | (first | (simp; done) | decide)
  | with_reducible refine And.intro ?_ ?_
  | assumption
  | exact True.intro
  | omega
  | (dsimp only; omega)
  | (simp only [List.length_set,List.length_append,List.length_cons,List.length_nil,List.length_replicate]; omega)
  | (obtain ⟨_,_⟩:=‹_ ∧ _›)
theorem L158x1 (l : List Int) (x : Int) (hl : l.length ≤ 140737488355328) : Ok (Z0a (Zhr l x) Z0e 0) (fun _=>True):=by
 refine li (l.length) (fun t _ _=>?_) (by omega) (by omega) (by omega)
 unfold Zhr
 repeat' first
  | with_reducible refine ni ?_ ?_
  | with_reducible refine di ?_
  | with_reducible refine brD (fun _=>?_) fun _=>?_
  | with_reducible refine brE (fun _=>?_) fun _=>?_
  | with_reducible refine br (fun _=>?_) fun _=>?_
  | with_reducible refine bd (gr (by omega) (by omega)) fun _ _=>?_
  | with_reducible refine bd (wr (by omega) (by omega)) fun _ _=>?_
  | with_reducible refine bs ?_
  | with_reducible refine And.intro ?_ ?_
  | assumption
  | exact True.intro
  | omega
  | (dsimp only; omega)
  | (simp only [List.length_set,List.length_append,List.length_cons,List.length_nil,List.length_replicate]; omega)
  | (obtain ⟨_,_⟩:=‹_ ∧ _›)
theorem Zx8 (l : List Int) (x : Int) (hl : l.length ≤ 140737488355328) : Ok (Zib l x) (fun _=>True):=by
 unfold Zib
 repeat' first
  | with_reducible refine bd (L158x1 _ _ (by first | assumption | omega | exact And.left (by assumption) | (dsimp only; omega))) fun _ _=>?_
  | with_reducible refine ok ?_
  | split
  | with_reducible refine And.intro ?_ ?_
  | assumption
  | exact True.intro
  | omega
  | (dsimp only; omega)
  | (simp only [List.length_set,List.length_append,List.length_cons,List.length_nil,List.length_replicate]; omega)
  | (obtain ⟨_,_⟩:=‹_ ∧ _›)
theorem Y0l (p : List Z00) (x : Z01) (hp : Z16 p) (hx : Z2m x) : Ok (Zhy p x) (PR p):=by
 have:=hp.len
 unfold Zhy
 repeat' first
  | unfold Zm6
  | unfold Zgq
  | unfold Zfc
  | unfold Zki
  | with_reducible refine brE (fun _=>?_) fun _=>?_
  | with_reducible refine br (fun _=>?_) fun _=>?_
  | with_reducible refine bd (Zr8 _ _ (by first | exact hx.s | assumption) (by first | exact hx.s | assumption)) fun _ _=>?_
  | with_reducible refine bd (Zdu _ _ (by first | assumption | omega | (dsimp only; omega) | exact And.left (by assumption) | (simp; done)) (by first | assumption | omega | (dsimp only; omega) | exact And.left (by assumption) | (simp; done)) (by first | assumption | omega | (dsimp only; omega) | exact And.left (by assumption) | (simp; done)) (by first | assumption | omega | (dsimp only; omega) | exact And.left (by assumption) | (simp; done))) fun _ _=>?_
  | with_reducible refine bd (Zs8 _) fun _ _=>?_
  | with_reducible refine bd (Zn1 _ _ (by first | exact hx.ref.c | assumption) (by first | exact hx.ref.c | assumption)) fun _ _=>?_
  | with_reducible refine bd (Zdn _ _ (by first | exact hx.s | assumption) (by first | exact hx.s | assumption)) fun _ _=>?_
  | with_reducible refine bd (Zpn _) fun _ _=>?_
  | with_reducible refine bd (Zwo _ _ _ (by first | exact hx.ref | assumption) (by first | exact hx.ref | assumption)) fun _ _=>?_
  | with_reducible refine ok ?_
  | (first | exact ⟨by first | exact hp | exact And.left (by assumption),by dsimp only; omega,by dsimp only; omega,by dsimp only; omega,by dsimp only; omega⟩ | exact ⟨hp,by dsimp only; omega,by dsimp only; omega,by dsimp only; omega,by dsimp only; omega⟩)
  | with_reducible refine And.intro ?_ ?_
  | assumption
  | exact True.intro
  | omega
  | (dsimp only; omega)
  | (simp only [List.length_set,List.length_append,List.length_cons,List.length_nil,List.length_replicate]; omega)
  | (obtain ⟨_,_⟩:=‹_ ∧ _›)
theorem Zxp (p : List Z00) (x : Z01) (hp : Z16 p) (hx : Z2m x) : Ok (Zew p x) (fun r=>Z16 r.1 ∧ Z2m r.2.1):=by
 unfold Zew
 repeat' first
  | unfold Zhn
  | unfold Zd6
  | with_reducible refine br! (fun _=>?_) fun _=>?_
  | with_reducible refine brE (fun _=>?_) fun _=>?_
  | with_reducible refine brN (fun _=>?_) fun _=>?_
  | with_reducible refine br (fun _=>?_) fun _=>?_
  | with_reducible refine bd (Zsv _) fun _ _=>?_
  | with_reducible refine bd (Zp0 _) fun _ _=>?_
  | with_reducible refine bd (Y04 _ (by first | assumption | omega | exact And.left (by assumption) | (dsimp only; omega))) fun _ _=>?_
  | with_reducible refine bd (Zxa _ (by first | assumption | omega | exact And.left (by assumption) | (dsimp only; omega))) fun _ _=>?_
  | with_reducible refine bd (Zv1 _) fun _ _=>?_
  | with_reducible refine bd (Zx8 _ _ (by first | assumption | omega | exact And.left (by assumption) | (dsimp only; omega))) fun _ _=>?_
  | with_reducible refine bd (Y0l _ _ (by first | assumption | omega | exact And.left (by assumption) | (dsimp only; omega)) (by first | assumption | omega | exact And.left (by assumption) | (dsimp only; omega))) fun _ _=>?_
  | with_reducible refine bs ?_
  | with_reducible refine ok ?_
  | (first | exact ⟨hp,W0⟩ | exact ⟨hp,hx⟩ | exact ⟨And.left (by assumption),W0⟩)
  | with_reducible refine And.intro ?_ ?_
  | assumption
  | exact True.intro
  | omega
  | (dsimp only; omega)
  | (simp only [List.length_set,List.length_append,List.length_cons,List.length_nil,List.length_replicate]; omega)
  | (obtain ⟨_,_⟩:=‹_ ∧ _›)
theorem Zwr (x : Z0j) (i : Z01) (hp : Z16 x.f_P) (hx : Z2m i) : Ok (Zj2 x i) (fun r=>Z16 r.1.f_P ∧ Z2m r.2):=by
 unfold Zj2
 repeat' first
  | with_reducible refine brN (fun _=>?_) fun _=>?_
  | with_reducible refine br (fun _=>?_) fun _=>?_
  | with_reducible refine bd (Zxp _ _ (by first | assumption | omega | exact And.left (by assumption) | (dsimp only; omega)) (by first | assumption | omega | exact And.left (by assumption) | (dsimp only; omega))) fun _ _=>?_
  | with_reducible refine bs ?_
  | with_reducible refine ok ?_
  | (first | exact ⟨hp,W0⟩ | (dsimp only; assumption))
  | with_reducible refine And.intro ?_ ?_
  | assumption
  | exact True.intro
  | omega
  | (dsimp only; omega)
  | (simp only [List.length_set,List.length_append,List.length_cons,List.length_nil,List.length_replicate]; omega)
  | (obtain ⟨_,_⟩:=‹_ ∧ _›)
end Go.Proofs
