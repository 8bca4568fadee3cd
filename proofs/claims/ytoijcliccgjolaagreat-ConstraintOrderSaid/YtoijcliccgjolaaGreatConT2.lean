/-
  That the models come to an answer, part two: the pool that is built. No condition.
-/
import Derived.Test.YtoijcliccgjolaaGreatConT1
set_option linter.unusedVariables false
namespace Go.Proofs
open Go.Den Go.Tot
structure Z19 (p : List Z00) : Prop where
 len : p.length ≤ 1000
 ord : ∀ (k : Nat) c,p[k]? = some c → c.f_A ≤ k ∧ c.f_B ≤ k
 str : ∀ c ∈ p,Str c.f_S
theorem Z19.app {p : List Z00} {c : Z00} (h : Z19 p) (hl : p.length < 1000) (ha : c.f_A ≤ p.length) (hb : c.f_B ≤ p.length) (hs : Str c.f_S) : Z19 (([] ++ p) ++ [c]):=by
 refine ⟨by simp; omega,fun k d hd=>?_,fun d hd=>?_⟩
 ·rw [List.nil_append] at hd
  rcases Nat.lt_trichotomy k p.length with h1 | h1 | h1
  ·rw [List.getElem?_append_left h1] at hd; exact h.ord k d hd
  ·subst h1
   rw [List.getElem?_append_right (Nat.le_refl _),Nat.sub_self] at hd
   cases hd; exact ⟨ha,hb⟩
  ·rw [List.getElem?_eq_none (by simp; omega)] at hd; cases hd
 ·rw [List.nil_append] at hd
  rcases List.mem_append.1 hd with hd | hd
  ·exact h.str d hd
  ·rw [List.mem_singleton.1 hd]; exact hs
theorem Z19.nil : Z19 [] :=⟨by simp,fun k c h=>by simp at h,fun c h=>by simp at h⟩
abbrev PR (p : List Z00) (r : List Z00 × Int × Int) : Prop:=Z19 r.1 ∧ p.length ≤ r.1.length ∧ 0 ≤ r.2.1 ∧ r.2.1 ≤ r.1.length ∧ r.1.length ≤ 1000
theorem Z5v {α : Type} {P : α → Prop} {l : List α} {x : α} (h : ∀ v ∈ l,P v) (hx : P x) : ∀ v ∈ l ++ [x],P v:=fun v hv=>by
 rcases List.mem_append.1 hv with hv | hv
 ·exact h v hv
 ·rw [List.mem_singleton.1 hv]; exact hx
theorem Z3y {α : Type} {P : α → Prop} : ∀ v ∈ ([] : List α),P v:=fun v hv=>by simp at hv
theorem W0 {op a : Int} : Z2n { f_Op:=op,f_A:=a,f_B:=0,f_To:=0,Z0q:=[],Z09:=[],Z11:={ Z0s:=[],Z03:=[],Z1f:=[] },f_S:=[] }:=⟨by simp,by simp,⟨by simp,by simp,by simp⟩,by simp⟩
theorem L77x1 (p : List Z00) (c : Z00) (hp : Z19 p) : Ok (Z0b (Zg3 p c) Z0c 0) (fun q=>match q with | .inl _=>True | .inr y=>PR p y):=by
 have:=hp.len
 refine li (p.length) (fun t _ _=>?_) (by omega) (by omega) (by omega)
 unfold Zg3
 repeat' first
  | with_reducible refine ni ?_ ?_
  | with_reducible refine di ?_
  | with_reducible refine brD (fun _=>?_) fun _=>?_
  | with_reducible refine br (fun _=>?_) fun _=>?_
  | with_reducible refine bd (gr (by omega) (by omega)) fun _ _=>?_
  | with_reducible refine bd (wr (by omega) (by omega)) fun _ _=>?_
  | with_reducible refine bs ?_
  | (exact ⟨hp,by omega,by omega,by omega,by omega⟩)
  | with_reducible refine And.intro ?_ ?_
  | assumption
  | exact True.intro
  | omega
  | (dsimp only; omega)
  | (simp only [List.length_set,List.length_append,List.length_cons,List.length_nil,List.length_replicate]; omega)
  | (obtain ⟨_,_⟩:=‹_ ∧ _›)
theorem Ze2 (p : List Z00) (c : Z00) (hp : Z19 p) (ha : c.f_A ≤ p.length) (hb : c.f_B ≤ p.length) (hs : Str c.f_S) : Ok (Z7j p c) (PR p):=by
 have:=hp.len
 unfold Z7j
 repeat' first
  | with_reducible refine brD (fun _=>?_) fun _=>?_
  | with_reducible refine br (fun _=>?_) fun _=>?_
  | with_reducible refine bd (wr (by omega) (by omega)) fun _ _=>?_
  | with_reducible refine bd (gk (by simp only [List.length_append,List.length_cons,List.length_nil]; omega) (by simp only [List.length_append,List.length_cons,List.length_nil]; omega)) fun _ _=>?_
  | with_reducible refine bd (L77x1 _ _ (by first | assumption | omega | exact And.left (by assumption) | (dsimp only; omega))) fun _ _=>?_
  | with_reducible refine bs ?_
  | with_reducible refine ok ?_
  | split
  | (first | exact ⟨hp.app (by omega) ha hb hs,by simp,by dsimp only; omega,by simp; omega,by simp; omega⟩ | exact ⟨hp,by dsimp only; omega,by dsimp only; omega,by dsimp only; omega,by dsimp only; omega⟩ | (dsimp only at *; assumption))
  | with_reducible refine And.intro ?_ ?_
  | assumption
  | exact True.intro
  | omega
  | (dsimp only; omega)
  | (simp only [List.length_set,List.length_append,List.length_cons,List.length_nil,List.length_replicate]; omega)
  | (obtain ⟨_,_⟩:=‹_ ∧ _›)
theorem Zc2 (p : List Z00) (s : List UInt8) (hp : Z19 p) (hs : Str s) : Ok (Z89 p s) (PR p):=by
 have:=hp.len
 unfold Z89
 repeat' first
  | with_reducible refine bd (Ze2 _ _ (by first | assumption | omega | (dsimp only; omega) | exact And.left (by assumption) | (simp; done)) (by first | assumption | omega | (dsimp only; omega) | exact And.left (by assumption) | (simp; done)) (by first | assumption | omega | (dsimp only; omega) | exact And.left (by assumption) | (simp; done)) (by first | assumption | omega | (dsimp only; omega) | exact And.left (by assumption) | (simp; done))) fun _ _=>?_
  | with_reducible refine ok ?_
  | (first | exact ⟨by first | exact hp | exact And.left (by assumption),by dsimp only; omega,by dsimp only; omega,by dsimp only; omega,by dsimp only; omega⟩ | exact ⟨hp,by dsimp only; omega,by dsimp only; omega,by dsimp only; omega,by dsimp only; omega⟩)
  | with_reducible refine And.intro ?_ ?_
  | assumption
  | exact True.intro
  | omega
  | (dsimp only; omega)
  | (simp only [List.length_set,List.length_append,List.length_cons,List.length_nil,List.length_replicate]; omega)
  | (obtain ⟨_,_⟩:=‹_ ∧ _›)
theorem Zw0 (p : List Z00) (tag : Int) (s : List UInt8) (hp : Z19 p) (hs : Str s) : Ok (Zf5 p tag s) (PR p):=by
 have:=hp.len
 unfold Zf5
 repeat' first
  | with_reducible refine brN (fun _=>?_) fun _=>?_
  | with_reducible refine br (fun _=>?_) fun _=>?_
  | with_reducible refine bd (Zc2 _ _ (by first | assumption | omega | exact And.left (by assumption) | (dsimp only; omega)) (by first | assumption | omega | exact And.left (by assumption) | (dsimp only; omega))) fun _ _=>?_
  | with_reducible refine bd (Ze2 _ _ (by first | assumption | omega | (dsimp only; omega) | exact And.left (by assumption) | (simp; done)) (by first | assumption | omega | (dsimp only; omega) | exact And.left (by assumption) | (simp; done)) (by first | assumption | omega | (dsimp only; omega) | exact And.left (by assumption) | (simp; done)) (by first | assumption | omega | (dsimp only; omega) | exact And.left (by assumption) | (simp; done))) fun _ _=>?_
  | with_reducible refine bs ?_
  | with_reducible refine ok ?_
  | (first | exact ⟨by first | exact hp | exact And.left (by assumption),by dsimp only; omega,by dsimp only; omega,by dsimp only; omega,by dsimp only; omega⟩ | exact ⟨hp,by dsimp only; omega,by dsimp only; omega,by dsimp only; omega,by dsimp only; omega⟩)
  | with_reducible refine And.intro ?_ ?_
  | assumption
  | exact True.intro
  | omega
  | (dsimp only; omega)
  | (simp only [List.length_set,List.length_append,List.length_cons,List.length_nil,List.length_replicate]; omega)
  | (obtain ⟨_,_⟩:=‹_ ∧ _›)
theorem Zmk (p : List Z00) (s : List UInt8) (hp : Z19 p) (hs : Str s) : Ok (Zad p s) (PR p):=by
 have:=hp.len
 unfold Zad
 repeat' first
  | with_reducible refine bd (Zw0 _ _ _ (by first | assumption | omega | exact And.left (by assumption) | (dsimp only; omega)) (by first | assumption | omega | exact And.left (by assumption) | (dsimp only; omega))) fun _ _=>?_
  | with_reducible refine ok ?_
  | (first | exact ⟨by first | exact hp | exact And.left (by assumption),by dsimp only; omega,by dsimp only; omega,by dsimp only; omega,by dsimp only; omega⟩ | exact ⟨hp,by dsimp only; omega,by dsimp only; omega,by dsimp only; omega,by dsimp only; omega⟩)
  | with_reducible refine And.intro ?_ ?_
  | assumption
  | exact True.intro
  | omega
  | (dsimp only; omega)
  | (simp only [List.length_set,List.length_append,List.length_cons,List.length_nil,List.length_replicate]; omega)
  | (obtain ⟨_,_⟩:=‹_ ∧ _›)
theorem Zv6 (p : List Z00) (s : List UInt8) (hp : Z19 p) (hs : Str s) : Ok (Zc6 p s) (PR p):=by
 have:=hp.len
 unfold Zc6
 repeat' first
  | with_reducible refine bd (Zw0 _ _ _ (by first | assumption | omega | exact And.left (by assumption) | (dsimp only; omega)) (by first | assumption | omega | exact And.left (by assumption) | (dsimp only; omega))) fun _ _=>?_
  | with_reducible refine ok ?_
  | (first | exact ⟨by first | exact hp | exact And.left (by assumption),by dsimp only; omega,by dsimp only; omega,by dsimp only; omega,by dsimp only; omega⟩ | exact ⟨hp,by dsimp only; omega,by dsimp only; omega,by dsimp only; omega,by dsimp only; omega⟩)
  | with_reducible refine And.intro ?_ ?_
  | assumption
  | exact True.intro
  | omega
  | (dsimp only; omega)
  | (simp only [List.length_set,List.length_append,List.length_cons,List.length_nil,List.length_replicate]; omega)
  | (obtain ⟨_,_⟩:=‹_ ∧ _›)
theorem Zct (x : Z0k) (s : List UInt8) (hp : Z19 x.f_P) (hs : Str s) : Ok (Z87 x s) (fun r=>Z19 r.1.f_P):=by
 unfold Z87
 repeat' first
  | with_reducible refine brN (fun _=>?_) fun _=>?_
  | with_reducible refine br (fun _=>?_) fun _=>?_
  | with_reducible refine bd (Zmk _ _ (by first | assumption | omega | exact And.left (by assumption) | (dsimp only; omega)) (by first | assumption | omega | exact And.left (by assumption) | (dsimp only; omega))) fun _ _=>?_
  | with_reducible refine bs ?_
  | with_reducible refine ok ?_
  | (exact And.left (by assumption))
  | with_reducible refine And.intro ?_ ?_
  | assumption
  | exact True.intro
  | omega
  | (dsimp only; omega)
  | (simp only [List.length_set,List.length_append,List.length_cons,List.length_nil,List.length_replicate]; omega)
  | (obtain ⟨_,_⟩:=‹_ ∧ _›)
theorem Z6r (x : Z0k) (s : List UInt8) (hp : Z19 x.f_P) (hs : Str s) : Ok (Z5m x s) (fun r=>Z19 r.1.f_P):=by
 unfold Z5m
 repeat' first
  | with_reducible refine brN (fun _=>?_) fun _=>?_
  | with_reducible refine br (fun _=>?_) fun _=>?_
  | with_reducible refine bd (Zc2 _ _ (by first | assumption | omega | exact And.left (by assumption) | (dsimp only; omega)) (by first | assumption | omega | exact And.left (by assumption) | (dsimp only; omega))) fun _ _=>?_
  | with_reducible refine bs ?_
  | with_reducible refine ok ?_
  | (exact And.left (by assumption))
  | with_reducible refine And.intro ?_ ?_
  | assumption
  | exact True.intro
  | omega
  | (dsimp only; omega)
  | (simp only [List.length_set,List.length_append,List.length_cons,List.length_nil,List.length_replicate]; omega)
  | (obtain ⟨_,_⟩:=‹_ ∧ _›)
theorem Y1w (x : Z0k) (f : Z3p) (hp : Z19 x.f_P) (hf : Zog f) : Ok (Zhj x f) (fun r=>Z19 r.1.f_P):=by
 unfold Zhj
 repeat' first
  | unfold Zgb
  | with_reducible refine brE (fun _=>?_) fun _=>?_
  | with_reducible refine brN (fun _=>?_) fun _=>?_
  | with_reducible refine br (fun _=>?_) fun _=>?_
  | with_reducible refine bd (Zv6 _ _ (by first | exact hf.s | assumption) (by first | exact hf.s | assumption)) fun _ _=>?_
  | with_reducible refine bd (Ze2 _ _ (by first | assumption | omega | (dsimp only; omega) | exact And.left (by assumption) | (simp; done)) (by first | assumption | omega | (dsimp only; omega) | exact And.left (by assumption) | (simp; done)) (by first | assumption | omega | (dsimp only; omega) | exact And.left (by assumption) | (simp; done)) (by first | assumption | omega | (dsimp only; omega) | exact And.left (by assumption) | (simp; done))) fun _ _=>?_
  | with_reducible refine bs ?_
  | with_reducible refine ok ?_
  | (exact And.left (by assumption))
  | with_reducible refine And.intro ?_ ?_
  | assumption
  | exact True.intro
  | omega
  | (dsimp only; omega)
  | (simp only [List.length_set,List.length_append,List.length_cons,List.length_nil,List.length_replicate]; omega)
  | (obtain ⟨_,_⟩:=‹_ ∧ _›)
theorem Zy7 (p : List Z00) (tag : Int) (r : Z23) (hp : Z19 p) (hr : WRef r) : Ok (Zaz p tag r) (PR p):=by
 have:=hp.len
 unfold Zaz
 repeat' first
  | with_reducible refine bd (Zc2 _ _ (And.left (by assumption)) hr.n) fun _ _=>?_
  | with_reducible refine bd (Zc2 _ _ (And.left (by assumption)) hr.d) fun _ _=>?_
  | with_reducible refine brN (fun _=>?_) fun _=>?_
  | with_reducible refine br (fun _=>?_) fun _=>?_
  | with_reducible refine bd (Zmk _ _ (by first | exact hr.c | assumption) (by first | exact hr.c | assumption)) fun _ _=>?_
  | with_reducible refine bd (Ze2 _ _ (by first | assumption | omega | (dsimp only; omega) | exact And.left (by assumption) | (simp; done)) (by first | assumption | omega | (dsimp only; omega) | exact And.left (by assumption) | (simp; done)) (by first | assumption | omega | (dsimp only; omega) | exact And.left (by assumption) | (simp; done)) (by first | assumption | omega | (dsimp only; omega) | exact And.left (by assumption) | (simp; done))) fun _ _=>?_
  | with_reducible refine bs ?_
  | with_reducible refine ok ?_
  | (first | exact ⟨by first | exact hp | exact And.left (by assumption),by dsimp only; omega,by dsimp only; omega,by dsimp only; omega,by dsimp only; omega⟩ | exact ⟨hp,by dsimp only; omega,by dsimp only; omega,by dsimp only; omega,by dsimp only; omega⟩)
  | with_reducible refine And.intro ?_ ?_
  | assumption
  | exact True.intro
  | omega
  | (dsimp only; omega)
  | (simp only [List.length_set,List.length_append,List.length_cons,List.length_nil,List.length_replicate]; omega)
  | (obtain ⟨_,_⟩:=‹_ ∧ _›)
theorem Zsi (x : Int) : Ok (Z99 x) (fun _=>True):=by
 unfold Z99
 repeat' first
  | with_reducible refine brD (fun _=>?_) fun _=>?_
  | with_reducible refine br (fun _=>?_) fun _=>?_
  | with_reducible refine bs ?_
  | with_reducible refine ok ?_
  | with_reducible refine And.intro ?_ ?_
  | assumption
  | exact True.intro
  | omega
  | (dsimp only; omega)
  | (simp only [List.length_set,List.length_append,List.length_cons,List.length_nil,List.length_replicate]; omega)
  | (obtain ⟨_,_⟩:=‹_ ∧ _›)
theorem Zr4 (x a b : Int) : Ok (Z6g x a b) (fun _=>True):=by
 unfold Z6g
 repeat' first
  | with_reducible refine brD (fun _=>?_) fun _=>?_
  | with_reducible refine br (fun _=>?_) fun _=>?_
  | with_reducible refine bs ?_
  | with_reducible refine ok ?_
  | with_reducible refine And.intro ?_ ?_
  | assumption
  | exact True.intro
  | omega
  | (dsimp only; omega)
  | (simp only [List.length_set,List.length_append,List.length_cons,List.length_nil,List.length_replicate]; omega)
  | (obtain ⟨_,_⟩:=‹_ ∧ _›)
theorem Zta (x : Int) : Ok (Zew x) (fun _=>True):=by
 unfold Zew
 repeat' first
  | with_reducible refine brD (fun _=>?_) fun _=>?_
  | with_reducible refine br (fun _=>?_) fun _=>?_
  | with_reducible refine bs ?_
  | with_reducible refine ok ?_
  | with_reducible refine And.intro ?_ ?_
  | assumption
  | exact True.intro
  | omega
  | (dsimp only; omega)
  | (simp only [List.length_set,List.length_append,List.length_cons,List.length_nil,List.length_replicate]; omega)
  | (obtain ⟨_,_⟩:=‹_ ∧ _›)
theorem Y0a (x : Int) : Ok (Zj1 x) (fun _=>True):=by
 unfold Zj1
 repeat' first
  | with_reducible refine brD (fun _=>?_) fun _=>?_
  | with_reducible refine br (fun _=>?_) fun _=>?_
  | with_reducible refine bs ?_
  | with_reducible refine ok ?_
  | with_reducible refine And.intro ?_ ?_
  | assumption
  | exact True.intro
  | omega
  | (dsimp only; omega)
  | (simp only [List.length_set,List.length_append,List.length_cons,List.length_nil,List.length_replicate]; omega)
  | (obtain ⟨_,_⟩:=‹_ ∧ _›)
theorem Zuj (x : Int) : Ok (Zd1 x) (fun _=>True):=by
 unfold Zd1
 repeat' first
  | with_reducible refine brE (fun _=>?_) fun _=>?_
  | with_reducible refine br (fun _=>?_) fun _=>?_
  | with_reducible refine bs ?_
  | with_reducible refine ok ?_
  | with_reducible refine And.intro ?_ ?_
  | assumption
  | exact True.intro
  | omega
  | (dsimp only; omega)
  | (simp only [List.length_set,List.length_append,List.length_cons,List.length_nil,List.length_replicate]; omega)
  | (obtain ⟨_,_⟩:=‹_ ∧ _›)
theorem Zl4 (x : Int) : Ok (Zcp x) (fun _=>True):=by
 unfold Zcp
 repeat' first
  | with_reducible refine brD (fun _=>?_) fun _=>?_
  | with_reducible refine br (fun _=>?_) fun _=>?_
  | with_reducible refine bs ?_
  | with_reducible refine ok ?_
  | with_reducible refine And.intro ?_ ?_
  | assumption
  | exact True.intro
  | omega
  | (dsimp only; omega)
  | (simp only [List.length_set,List.length_append,List.length_cons,List.length_nil,List.length_replicate]; omega)
  | (obtain ⟨_,_⟩:=‹_ ∧ _›)
theorem Zs8 (x : Int) : Ok (Z6c x) (fun _=>True):=by
 unfold Z6c
 repeat' first
  | unfold Zg6
  | unfold Zj6
  | with_reducible refine br! (fun _=>?_) fun _=>?_
  | with_reducible refine brE (fun _=>?_) fun _=>?_
  | with_reducible refine br (fun _=>?_) fun _=>?_
  | with_reducible refine bd (Zsi _) fun _ _=>?_
  | with_reducible refine bd (Zr4 _ _ _) fun _ _=>?_
  | with_reducible refine bs ?_
  | with_reducible refine ok ?_
  | with_reducible refine And.intro ?_ ?_
  | assumption
  | exact True.intro
  | omega
  | (dsimp only; omega)
  | (simp only [List.length_set,List.length_append,List.length_cons,List.length_nil,List.length_replicate]; omega)
  | (obtain ⟨_,_⟩:=‹_ ∧ _›)
theorem Zyu (x : Z01) (k : Int) : Ok (Zba x k) (fun _=>True):=by
 unfold Zba
 repeat' first
  | unfold Zjh
  | unfold Zer
  | unfold Zeo
  | with_reducible refine br! (fun _=>?_) fun _=>?_
  | with_reducible refine brE (fun _=>?_) fun _=>?_
  | with_reducible refine brN (fun _=>?_) fun _=>?_
  | with_reducible refine br (fun _=>?_) fun _=>?_
  | with_reducible refine bs ?_
  | with_reducible refine ok ?_
  | with_reducible refine And.intro ?_ ?_
  | assumption
  | exact True.intro
  | omega
  | (dsimp only; omega)
  | (simp only [List.length_set,List.length_append,List.length_cons,List.length_nil,List.length_replicate]; omega)
  | (obtain ⟨_,_⟩:=‹_ ∧ _›)
theorem L114x1 (x : Z01) (hx : Z2n x) : Ok (Z0b (Zag x) Z0c 0) (fun _=>True):=by
 have:=hx.tos
 refine li (x.Z09.length) (fun t _ _=>?_) (by omega) (by omega) (by omega)
 unfold Zag
 repeat' first
  | with_reducible refine ni ?_ ?_
  | with_reducible refine di ?_
  | with_reducible refine brD (fun _=>?_) fun _=>?_
  | with_reducible refine br (fun _=>?_) fun _=>?_
  | with_reducible refine bd (gr (by omega) (by omega)) fun _ _=>?_
  | with_reducible refine bd (wr (by omega) (by omega)) fun _ _=>?_
  | with_reducible refine bs ?_
  | with_reducible refine And.intro ?_ ?_
  | assumption
  | exact True.intro
  | omega
  | (dsimp only; omega)
  | (simp only [List.length_set,List.length_append,List.length_cons,List.length_nil,List.length_replicate]; omega)
  | (obtain ⟨_,_⟩:=‹_ ∧ _›)
theorem Y1z (x : Z01) (hx : Z2n x) : Ok (Z7o x) (fun _=>True):=by
 unfold Z7o
 repeat' first
  | unfold Zj0
  | with_reducible refine brD (fun _=>?_) fun _=>?_
  | with_reducible refine br (fun _=>?_) fun _=>?_
  | with_reducible refine bd (L114x1 _ (by first | assumption | omega | exact And.left (by assumption) | (dsimp only; omega))) fun _ _=>?_
  | with_reducible refine bs ?_
  | with_reducible refine ok ?_
  | split
  | with_reducible refine And.intro ?_ ?_
  | assumption
  | exact True.intro
  | omega
  | (dsimp only; omega)
  | (simp only [List.length_set,List.length_append,List.length_cons,List.length_nil,List.length_replicate]; omega)
  | (obtain ⟨_,_⟩:=‹_ ∧ _›)
theorem Zrr (x : Z01) (hx : Z2n x) : Ok (Z0b (Zk0 x) Z0c 0) (fun _=>True):=by
 have:=hx.keys
 refine li (x.Z0q.length) (fun t _ _=>?_) (by omega) (by omega) (by omega)
 unfold Zk0
 repeat' first
  | with_reducible refine ni ?_ ?_
  | with_reducible refine di ?_
  | with_reducible refine brD (fun _=>?_) fun _=>?_
  | with_reducible refine br! (fun _=>?_) fun _=>?_
  | with_reducible refine br (fun _=>?_) fun _=>?_
  | with_reducible refine bd (gr (by omega) (by omega)) fun _ _=>?_
  | with_reducible refine bd (wr (by omega) (by omega)) fun _ _=>?_
  | with_reducible refine bd (Zl4 _) fun _ _=>?_
  | with_reducible refine bs ?_
  | with_reducible refine And.intro ?_ ?_
  | assumption
  | exact True.intro
  | omega
  | (dsimp only; omega)
  | (simp only [List.length_set,List.length_append,List.length_cons,List.length_nil,List.length_replicate]; omega)
  | (obtain ⟨_,_⟩:=‹_ ∧ _›)
theorem Zr1 (x : Z01) (hx : Z2n x) : Ok (Z0b (Zfs x) Z0c 1) (fun _=>True):=by
 have:=hx.keys
 refine lp (fun t=>t) (max 1 x.Z0q.length) (fun t=>1 ≤ t) (fun t hI _ _=>?_) (by omega) (by omega) (by omega) (by omega)
 unfold Zfs
 repeat' first
  | with_reducible refine nx ?_ ?_ ?_
  | with_reducible refine dn ?_
  | with_reducible refine brD (fun _=>?_) fun _=>?_
  | with_reducible refine bd (gr (by omega) (by omega)) fun _ _=>?_
  | with_reducible refine bd (wr (by omega) (by omega)) fun _ _=>?_
  | exact True.intro
  | omega
theorem Y25 (x : Z01) (hx : Z2n x) : Ok (Zb5 x) (fun _=>True):=by
 unfold Zb5
 repeat' first
  | unfold Zie
  | unfold Zik
  | with_reducible refine brD (fun _=>?_) fun _=>?_
  | with_reducible refine br! (fun _=>?_) fun _=>?_
  | with_reducible refine brE (fun _=>?_) fun _=>?_
  | with_reducible refine brN (fun _=>?_) fun _=>?_
  | with_reducible refine br (fun _=>?_) fun _=>?_
  | with_reducible refine bd (wr (by omega) (by omega)) fun _ _=>?_
  | with_reducible refine bd (Zl4 _) fun _ _=>?_
  | with_reducible refine bd (Zrr _ (by first | assumption | omega | exact And.left (by assumption) | (dsimp only; omega))) fun _ _=>?_
  | with_reducible refine bd (Zr1 _ (by assumption)) fun _ _=>?_
  | with_reducible refine bs ?_
  | with_reducible refine ok ?_
  | split
  | with_reducible refine And.intro ?_ ?_
  | assumption
  | exact True.intro
  | omega
  | (dsimp only; omega)
  | (simp only [List.length_set,List.length_append,List.length_cons,List.length_nil,List.length_replicate]; omega)
  | (obtain ⟨_,_⟩:=‹_ ∧ _›)
theorem Zy8 (x : Z01) (hx : Z2n x) : Ok (Z4t x) (fun _=>True):=by
 unfold Z4t
 repeat' first
  | unfold Z8q
  | unfold Z98
  | unfold Zb7
  | unfold Z8d
  | unfold Za8
  | with_reducible refine brD (fun _=>?_) fun _=>?_
  | with_reducible refine br! (fun _=>?_) fun _=>?_
  | with_reducible refine brE (fun _=>?_) fun _=>?_
  | with_reducible refine br (fun _=>?_) fun _=>?_
  | with_reducible refine bd (Zs8 _) fun _ _=>?_
  | with_reducible refine bd (Zyu _ _) fun _ _=>?_
  | with_reducible refine bd (Y1z _ (by first | assumption | omega | exact And.left (by assumption) | (dsimp only; omega))) fun _ _=>?_
  | with_reducible refine bd (Y25 _ (by first | assumption | omega | exact And.left (by assumption) | (dsimp only; omega))) fun _ _=>?_
  | with_reducible refine bs ?_
  | with_reducible refine ok ?_
  | with_reducible refine And.intro ?_ ?_
  | assumption
  | exact True.intro
  | omega
  | (dsimp only; omega)
  | (simp only [List.length_set,List.length_append,List.length_cons,List.length_nil,List.length_replicate]; omega)
  | (obtain ⟨_,_⟩:=‹_ ∧ _›)
theorem Zzy (x : Z01) (hx : Z2n x) : Ok (Zj3 x) (fun _=>True):=by
 unfold Zj3
 repeat' first
  | unfold Zom
  | unfold Ziv
  | unfold Zec
  | with_reducible refine brD (fun _=>?_) fun _=>?_
  | with_reducible refine br! (fun _=>?_) fun _=>?_
  | with_reducible refine brE (fun _=>?_) fun _=>?_
  | with_reducible refine brN (fun _=>?_) fun _=>?_
  | with_reducible refine br (fun _=>?_) fun _=>?_
  | with_reducible refine bd (wr (by omega) (by omega)) fun _ _=>?_
  | with_reducible refine bd (Zta _) fun _ _=>?_
  | with_reducible refine bd (Y0a _) fun _ _=>?_
  | with_reducible refine bd (Zuj _) fun _ _=>?_
  | with_reducible refine bs ?_
  | with_reducible refine ok ?_
  | with_reducible refine And.intro ?_ ?_
  | assumption
  | exact True.intro
  | omega
  | (dsimp only; omega)
  | (simp only [List.length_set,List.length_append,List.length_cons,List.length_nil,List.length_replicate]; omega)
  | (obtain ⟨_,_⟩:=‹_ ∧ _›)
theorem Zr7 (x : Int) : Ok (Zby x) (fun l=>l.length ≤ 3):=by
 unfold Zby
 repeat' first
  | unfold Znl
  | unfold Zl2
  | unfold Zm6
  | unfold Zo2
  | with_reducible refine brE (fun _=>?_) fun _=>?_
  | with_reducible refine br (fun _=>?_) fun _=>?_
  | with_reducible refine bd (Zr4 _ _ _) fun _ _=>?_
  | with_reducible refine bs ?_
  | with_reducible refine ok ?_
  | (first | (simp; done) | decide)
  | with_reducible refine And.intro ?_ ?_
  | assumption
  | exact True.intro
  | omega
  | (dsimp only; omega)
  | (simp only [List.length_set,List.length_append,List.length_cons,List.length_nil,List.length_replicate]; omega)
  | (obtain ⟨_,_⟩:=‹_ ∧ _›)
theorem L158x1 (l : List Int) (x : Int) (hl : l.length ≤ 140737488355328) : Ok (Z0b (Zh5 l x) Z0c 0) (fun _=>True):=by
 refine li (l.length) (fun t _ _=>?_) (by omega) (by omega) (by omega)
 unfold Zh5
 repeat' first
  | with_reducible refine ni ?_ ?_
  | with_reducible refine di ?_
  | with_reducible refine brD (fun _=>?_) fun _=>?_
  | with_reducible refine brE (fun _=>?_) fun _=>?_
  | with_reducible refine br (fun _=>?_) fun _=>?_
  | with_reducible refine bd (gr (by omega) (by omega)) fun _ _=>?_
  | with_reducible refine bd (wr (by omega) (by omega)) fun _ _=>?_
  | with_reducible refine bs ?_
  | with_reducible refine And.intro ?_ ?_
  | assumption
  | exact True.intro
  | omega
  | (dsimp only; omega)
  | (simp only [List.length_set,List.length_append,List.length_cons,List.length_nil,List.length_replicate]; omega)
  | (obtain ⟨_,_⟩:=‹_ ∧ _›)
theorem Zyo (l : List Int) (x : Int) (hl : l.length ≤ 140737488355328) : Ok (Zk1 l x) (fun _=>True):=by
 unfold Zk1
 repeat' first
  | with_reducible refine bd (L158x1 _ _ (by first | assumption | omega | exact And.left (by assumption) | (dsimp only; omega))) fun _ _=>?_
  | with_reducible refine ok ?_
  | split
  | with_reducible refine And.intro ?_ ?_
  | assumption
  | exact True.intro
  | omega
  | (dsimp only; omega)
  | (simp only [List.length_set,List.length_append,List.length_cons,List.length_nil,List.length_replicate]; omega)
  | (obtain ⟨_,_⟩:=‹_ ∧ _›)
theorem Zya (p : List Z00) (x : Z01) (hp : Z19 p) (hx : Z2n x) : Ok (Zgp p x) (PR p):=by
 have:=hp.len
 unfold Zgp
 repeat' first
  | unfold Zm1
  | unfold Zhb
  | unfold Zj9
  | unfold Zoc
  | with_reducible refine brE (fun _=>?_) fun _=>?_
  | with_reducible refine br (fun _=>?_) fun _=>?_
  | with_reducible refine bd (Zv6 _ _ (by first | exact hx.s | assumption) (by first | exact hx.s | assumption)) fun _ _=>?_
  | with_reducible refine bd (Ze2 _ _ (by first | assumption | omega | (dsimp only; omega) | exact And.left (by assumption) | (simp; done)) (by first | assumption | omega | (dsimp only; omega) | exact And.left (by assumption) | (simp; done)) (by first | assumption | omega | (dsimp only; omega) | exact And.left (by assumption) | (simp; done)) (by first | assumption | omega | (dsimp only; omega) | exact And.left (by assumption) | (simp; done))) fun _ _=>?_
  | with_reducible refine bd (Zuj _) fun _ _=>?_
  | with_reducible refine bd (Zmk _ _ (by first | exact hx.ref.c | assumption) (by first | exact hx.ref.c | assumption)) fun _ _=>?_
  | with_reducible refine bd (Zc2 _ _ (by first | exact hx.s | assumption) (by first | exact hx.s | assumption)) fun _ _=>?_
  | with_reducible refine bd (Zta _) fun _ _=>?_
  | with_reducible refine bd (Zy7 _ _ _ (by first | exact hx.ref | assumption) (by first | exact hx.ref | assumption)) fun _ _=>?_
  | with_reducible refine ok ?_
  | (first | exact ⟨by first | exact hp | exact And.left (by assumption),by dsimp only; omega,by dsimp only; omega,by dsimp only; omega,by dsimp only; omega⟩ | exact ⟨hp,by dsimp only; omega,by dsimp only; omega,by dsimp only; omega,by dsimp only; omega⟩)
  | with_reducible refine And.intro ?_ ?_
  | assumption
  | exact True.intro
  | omega
  | (dsimp only; omega)
  | (simp only [List.length_set,List.length_append,List.length_cons,List.length_nil,List.length_replicate]; omega)
  | (obtain ⟨_,_⟩:=‹_ ∧ _›)
theorem Y05 (p : List Z00) (x : Z01) (hp : Z19 p) (hx : Z2n x) : Ok (Zj8 p x) (fun r=>Z19 r.1 ∧ Z2n r.2.1):=by
 unfold Zj8
 repeat' first
  | unfold Zi9
  | unfold Zes
  | with_reducible refine br! (fun _=>?_) fun _=>?_
  | with_reducible refine brE (fun _=>?_) fun _=>?_
  | with_reducible refine brN (fun _=>?_) fun _=>?_
  | with_reducible refine br (fun _=>?_) fun _=>?_
  | with_reducible refine bd (Zsi _) fun _ _=>?_
  | with_reducible refine bd (Zs8 _) fun _ _=>?_
  | with_reducible refine bd (Zy8 _ (by first | assumption | omega | exact And.left (by assumption) | (dsimp only; omega))) fun _ _=>?_
  | with_reducible refine bd (Zzy _ (by first | assumption | omega | exact And.left (by assumption) | (dsimp only; omega))) fun _ _=>?_
  | with_reducible refine bd (Zr7 _) fun _ _=>?_
  | with_reducible refine bd (Zyo _ _ (by first | assumption | omega | exact And.left (by assumption) | (dsimp only; omega))) fun _ _=>?_
  | with_reducible refine bd (Zya _ _ (by first | assumption | omega | exact And.left (by assumption) | (dsimp only; omega)) (by first | assumption | omega | exact And.left (by assumption) | (dsimp only; omega))) fun _ _=>?_
  | with_reducible refine bs ?_
  | with_reducible refine ok ?_
  | (first | exact ⟨hp,W0⟩ | exact ⟨hp,hx⟩ | exact ⟨And.left (by assumption),W0⟩)
  | with_reducible refine And.intro ?_ ?_
  | assumption
  | exact True.intro
  | omega
  | (dsimp only; omega)
  | (simp only [List.length_set,List.length_append,List.length_cons,List.length_nil,List.length_replicate]; omega)
  | (obtain ⟨_,_⟩:=‹_ ∧ _›)
theorem Zy0 (x : Z0k) (i : Z01) (hp : Z19 x.f_P) (hx : Z2n i) : Ok (Zhq x i) (fun r=>Z19 r.1.f_P ∧ Z2n r.2):=by
 unfold Zhq
 repeat' first
  | with_reducible refine brN (fun _=>?_) fun _=>?_
  | with_reducible refine br (fun _=>?_) fun _=>?_
  | with_reducible refine bd (Y05 _ _ (by first | assumption | omega | exact And.left (by assumption) | (dsimp only; omega)) (by first | assumption | omega | exact And.left (by assumption) | (dsimp only; omega))) fun _ _=>?_
  | with_reducible refine bs ?_
  | with_reducible refine ok ?_
  | (first | exact ⟨hp,W0⟩ | (dsimp only; assumption))
  | with_reducible refine And.intro ?_ ?_
  | assumption
  | exact True.intro
  | omega
  | (dsimp only; omega)
  | (simp only [List.length_set,List.length_append,List.length_cons,List.length_nil,List.length_replicate]; omega)
  | (obtain ⟨_,_⟩:=‹_ ∧ _›)
end Go.Proofs
