/-
  That the models come to an answer, part two: the pool that is built. No condition.
-/
import Derived.Test.YtldpbffppaednaaGreatAccT1
set_option linter.unusedVariables false
namespace Go.Proofs
open Go.Den Go.Tot
structure Z1e (p : List Z00) : Prop where
  len : p.length ≤ 1000
  ord : ∀ (k : Nat) c,p[k]? = some c → c.f_A ≤ k ∧ c.f_B ≤ k
  str : ∀ c ∈ p,Str c.f_S
theorem Z1e.app {p : List Z00} {c : Z00} (h : Z1e p) (hl : p.length < 1000) (ha : c.f_A ≤ p.length) (hb : c.f_B ≤ p.length) (hs : Str c.f_S) : Z1e (([] ++ p) ++ [c]):=by
  refine ⟨by simp; omega,fun k d hd=>?_,fun d hd=>?_⟩
  · rw [List.nil_append] at hd
    rcases Nat.lt_trichotomy k p.length with h1 | h1 | h1
    · rw [List.getElem?_append_left h1] at hd; exact h.ord k d hd
    · subst h1
      rw [List.getElem?_append_right (Nat.le_refl _),Nat.sub_self] at hd
      cases hd; exact ⟨ha,hb⟩
    · rw [List.getElem?_eq_none (by simp; omega)] at hd; cases hd
  · rw [List.nil_append] at hd
    rcases List.mem_append.1 hd with hd | hd
    · exact h.str d hd
    · rw [List.mem_singleton.1 hd]; exact hs
theorem Z1e.nil : Z1e [] :=⟨by simp,fun k c h=>by simp at h,fun c h=>by simp at h⟩
abbrev PR (p : List Z00) (r : List Z00 × Int × Int) : Prop:=Z1e r.1 ∧ p.length ≤ r.1.length ∧ 0 ≤ r.2.1 ∧ r.2.1 ≤ r.1.length ∧ r.1.length ≤ 1000
theorem Z5t {α : Type} {P : α → Prop} {l : List α} {x : α} (h : ∀ v ∈ l,P v) (hx : P x) : ∀ v ∈ l ++ [x],P v:=fun v hv=>by
  rcases List.mem_append.1 hv with hv | hv
  · exact h v hv
  · rw [List.mem_singleton.1 hv]; exact hx
theorem Z3u {α : Type} {P : α → Prop} : ∀ v ∈ ([] : List α),P v:=fun v hv=>by simp at hv
theorem W0 {op a : Int} : Z2q { f_Op:=op,f_A:=a,f_B:=0,f_To:=0,Z0y:=[],Z0a:=[],Z16:={ Z1f:=[],Z02:=[],Z1l:=[] },f_S:=[] }:=⟨by simp,by simp,⟨by simp,by simp,by simp⟩,by simp⟩
theorem L77x1 (p : List Z00) (c : Z00) (hp : Z1e p) : Ok (Z0d (Zic p c) Z0i 0) (fun q=>match q with | .inl _=>True | .inr y=>PR p y):=by
  have:=hp.len
  refine li (p.length) (fun t _ _=>?_) (by omega) (by omega) (by omega)
  unfold Zic
  repeat' first
    | with_reducible refine ni ?_ ?_
    | with_reducible refine di ?_
    | with_reducible refine brD (fun _=>?_) fun _=>?_
    | with_reducible refine br (fun _=>?_) fun _=>?_
    | with_reducible refine bd (gr (by omega) (by omega)) fun _ _=>?_
    | with_reducible refine bd (wr (by omega) (by omega)) fun _ _=>?_
    | with_reducible refine bs ?_
    | (exact ⟨hp,by omega,by omega,by omega,by omega⟩)
    | with_reducible refine And.intro ?_ ?_
    | assumption
    | exact True.intro
    | omega
    | (dsimp only; omega)
    | (simp only [List.length_set,List.length_append,List.length_cons,List.length_nil,List.length_replicate]; omega)
    | (obtain ⟨_,_⟩:=‹_ ∧ _›)
theorem Zbx (p : List Z00) (c : Z00) (hp : Z1e p) (ha : c.f_A ≤ p.length) (hb : c.f_B ≤ p.length) (hs : Str c.f_S) : Ok (Z6y p c) (PR p):=by
  have:=hp.len
  unfold Z6y
  repeat' first
    | with_reducible refine brD (fun _=>?_) fun _=>?_
    | with_reducible refine br (fun _=>?_) fun _=>?_
    | with_reducible refine bd (wr (by omega) (by omega)) fun _ _=>?_
    | with_reducible refine bd (gk (by simp only [List.length_append,List.length_cons,List.length_nil]; omega) (by simp only [List.length_append,List.length_cons,List.length_nil]; omega)) fun _ _=>?_
    | with_reducible refine bd (L77x1 _ _ (by first | assumption | omega | exact And.left (by assumption) | (dsimp only; omega))) fun _ _=>?_
    | with_reducible refine bs ?_
    | with_reducible refine ok ?_
    | split
    | (first | exact ⟨hp.app (by omega) ha hb hs,by simp,by dsimp only; omega,by simp; omega,by simp; omega⟩ | exact ⟨hp,by dsimp only; omega,by dsimp only; omega,by dsimp only; omega,by dsimp only; omega⟩ | (dsimp only at *; assumption))
    | with_reducible refine And.intro ?_ ?_
    | assumption
    | exact True.intro
    | omega
    | (dsimp only; omega)
    | (simp only [List.length_set,List.length_append,List.length_cons,List.length_nil,List.length_replicate]; omega)
    | (obtain ⟨_,_⟩:=‹_ ∧ _›)
theorem Zdf (p : List Z00) (s : List UInt8) (hp : Z1e p) (hs : Str s) : Ok (Z82 p s) (PR p):=by
  have:=hp.len
  unfold Z82
  repeat' first
    | with_reducible refine bd (Zbx _ _ (by first | assumption | omega | (dsimp only; omega) | exact And.left (by assumption) | (simp; done)) (by first | assumption | omega | (dsimp only; omega) | exact And.left (by assumption) | (simp; done)) (by first | assumption | omega | (dsimp only; omega) | exact And.left (by assumption) | (simp; done)) (by first | assumption | omega | (dsimp only; omega) | exact And.left (by assumption) | (simp; done))) fun _ _=>?_
    | with_reducible refine ok ?_
    | (first | exact ⟨by first | exact hp | exact And.left (by assumption),by dsimp only; omega,by dsimp only; omega,by dsimp only; omega,by dsimp only; omega⟩ | exact ⟨hp,by dsimp only; omega,by dsimp only; omega,by dsimp only; omega,by dsimp only; omega⟩)
    | with_reducible refine And.intro ?_ ?_
    | assumption
    | exact True.intro
    | omega
    | (dsimp only; omega)
    | (simp only [List.length_set,List.length_append,List.length_cons,List.length_nil,List.length_replicate]; omega)
    | (obtain ⟨_,_⟩:=‹_ ∧ _›)
theorem Zt1 (p : List Z00) (tag : Int) (s : List UInt8) (hp : Z1e p) (hs : Str s) : Ok (Ze6 p tag s) (PR p):=by
  have:=hp.len
  unfold Ze6
  repeat' first
    | with_reducible refine brN (fun _=>?_) fun _=>?_
    | with_reducible refine br (fun _=>?_) fun _=>?_
    | with_reducible refine bd (Zdf _ _ (by first | assumption | omega | exact And.left (by assumption) | (dsimp only; omega)) (by first | assumption | omega | exact And.left (by assumption) | (dsimp only; omega))) fun _ _=>?_
    | with_reducible refine bd (Zbx _ _ (by first | assumption | omega | (dsimp only; omega) | exact And.left (by assumption) | (simp; done)) (by first | assumption | omega | (dsimp only; omega) | exact And.left (by assumption) | (simp; done)) (by first | assumption | omega | (dsimp only; omega) | exact And.left (by assumption) | (simp; done)) (by first | assumption | omega | (dsimp only; omega) | exact And.left (by assumption) | (simp; done))) fun _ _=>?_
    | with_reducible refine bs ?_
    | with_reducible refine ok ?_
    | (first | exact ⟨by first | exact hp | exact And.left (by assumption),by dsimp only; omega,by dsimp only; omega,by dsimp only; omega,by dsimp only; omega⟩ | exact ⟨hp,by dsimp only; omega,by dsimp only; omega,by dsimp only; omega,by dsimp only; omega⟩)
    | with_reducible refine And.intro ?_ ?_
    | assumption
    | exact True.intro
    | omega
    | (dsimp only; omega)
    | (simp only [List.length_set,List.length_append,List.length_cons,List.length_nil,List.length_replicate]; omega)
    | (obtain ⟨_,_⟩:=‹_ ∧ _›)
theorem Zlr (p : List Z00) (s : List UInt8) (hp : Z1e p) (hs : Str s) : Ok (Zb5 p s) (PR p):=by
  have:=hp.len
  unfold Zb5
  repeat' first
    | with_reducible refine bd (Zt1 _ _ _ (by first | assumption | omega | exact And.left (by assumption) | (dsimp only; omega)) (by first | assumption | omega | exact And.left (by assumption) | (dsimp only; omega))) fun _ _=>?_
    | with_reducible refine ok ?_
    | (first | exact ⟨by first | exact hp | exact And.left (by assumption),by dsimp only; omega,by dsimp only; omega,by dsimp only; omega,by dsimp only; omega⟩ | exact ⟨hp,by dsimp only; omega,by dsimp only; omega,by dsimp only; omega,by dsimp only; omega⟩)
    | with_reducible refine And.intro ?_ ?_
    | assumption
    | exact True.intro
    | omega
    | (dsimp only; omega)
    | (simp only [List.length_set,List.length_append,List.length_cons,List.length_nil,List.length_replicate]; omega)
    | (obtain ⟨_,_⟩:=‹_ ∧ _›)
theorem Zqp (p : List Z00) (s : List UInt8) (hp : Z1e p) (hs : Str s) : Ok (Zd6 p s) (PR p):=by
  have:=hp.len
  unfold Zd6
  repeat' first
    | with_reducible refine bd (Zt1 _ _ _ (by first | assumption | omega | exact And.left (by assumption) | (dsimp only; omega)) (by first | assumption | omega | exact And.left (by assumption) | (dsimp only; omega))) fun _ _=>?_
    | with_reducible refine ok ?_
    | (first | exact ⟨by first | exact hp | exact And.left (by assumption),by dsimp only; omega,by dsimp only; omega,by dsimp only; omega,by dsimp only; omega⟩ | exact ⟨hp,by dsimp only; omega,by dsimp only; omega,by dsimp only; omega,by dsimp only; omega⟩)
    | with_reducible refine And.intro ?_ ?_
    | assumption
    | exact True.intro
    | omega
    | (dsimp only; omega)
    | (simp only [List.length_set,List.length_append,List.length_cons,List.length_nil,List.length_replicate]; omega)
    | (obtain ⟨_,_⟩:=‹_ ∧ _›)
theorem Zcg (x : Z0p) (s : List UInt8) (hp : Z1e x.f_P) (hs : Str s) : Ok (Z85 x s) (fun r=>Z1e r.1.f_P):=by
  unfold Z85
  repeat' first
    | with_reducible refine brN (fun _=>?_) fun _=>?_
    | with_reducible refine br (fun _=>?_) fun _=>?_
    | with_reducible refine bd (Zlr _ _ (by first | assumption | omega | exact And.left (by assumption) | (dsimp only; omega)) (by first | assumption | omega | exact And.left (by assumption) | (dsimp only; omega))) fun _ _=>?_
    | with_reducible refine bs ?_
    | with_reducible refine ok ?_
    | (exact And.left (by assumption))
    | with_reducible refine And.intro ?_ ?_
    | assumption
    | exact True.intro
    | omega
    | (dsimp only; omega)
    | (simp only [List.length_set,List.length_append,List.length_cons,List.length_nil,List.length_replicate]; omega)
    | (obtain ⟨_,_⟩:=‹_ ∧ _›)
theorem Z6j (x : Z0p) (s : List UInt8) (hp : Z1e x.f_P) (hs : Str s) : Ok (Z5i x s) (fun r=>Z1e r.1.f_P):=by
  unfold Z5i
  repeat' first
    | with_reducible refine brN (fun _=>?_) fun _=>?_
    | with_reducible refine br (fun _=>?_) fun _=>?_
    | with_reducible refine bd (Zdf _ _ (by first | assumption | omega | exact And.left (by assumption) | (dsimp only; omega)) (by first | assumption | omega | exact And.left (by assumption) | (dsimp only; omega))) fun _ _=>?_
    | with_reducible refine bs ?_
    | with_reducible refine ok ?_
    | (exact And.left (by assumption))
    | with_reducible refine And.intro ?_ ?_
    | assumption
    | exact True.intro
    | omega
    | (dsimp only; omega)
    | (simp only [List.length_set,List.length_append,List.length_cons,List.length_nil,List.length_replicate]; omega)
    | (obtain ⟨_,_⟩:=‹_ ∧ _›)
theorem Zx7 (x : Z0p) (f : Z13) (hp : Z1e x.f_P) (hf : Zn4 f) : Ok (Zeq x f) (fun r=>Z1e r.1.f_P):=by
  unfold Zeq
  repeat' first
    | unfold Zjq
    | with_reducible refine brE (fun _=>?_) fun _=>?_
    | with_reducible refine brN (fun _=>?_) fun _=>?_
    | with_reducible refine br (fun _=>?_) fun _=>?_
    | with_reducible refine bd (Zqp _ _ (by first | exact hf.s | assumption) (by first | exact hf.s | assumption)) fun _ _=>?_
    | with_reducible refine bd (Zbx _ _ (by first | assumption | omega | (dsimp only; omega) | exact And.left (by assumption) | (simp; done)) (by first | assumption | omega | (dsimp only; omega) | exact And.left (by assumption) | (simp; done)) (by first | assumption | omega | (dsimp only; omega) | exact And.left (by assumption) | (simp; done)) (by first | assumption | omega | (dsimp only; omega) | exact And.left (by assumption) | (simp; done))) fun _ _=>?_
    | with_reducible refine bs ?_
    | with_reducible refine ok ?_
    | (exact And.left (by assumption))
    | with_reducible refine And.intro ?_ ?_
    | assumption
    | exact True.intro
    | omega
    | (dsimp only; omega)
    | (simp only [List.length_set,List.length_append,List.length_cons,List.length_nil,List.length_replicate]; omega)
    | (obtain ⟨_,_⟩:=‹_ ∧ _›)
theorem Zxb (p : List Z00) (tag : Int) (r : Z27) (hp : Z1e p) (hr : WRef r) : Ok (Zb1 p tag r) (PR p):=by
  have:=hp.len
  unfold Zb1
  repeat' first
    | with_reducible refine bd (Zdf _ _ (And.left (by assumption)) hr.n) fun _ _=>?_
    | with_reducible refine bd (Zdf _ _ (And.left (by assumption)) hr.d) fun _ _=>?_
    | with_reducible refine brN (fun _=>?_) fun _=>?_
    | with_reducible refine br (fun _=>?_) fun _=>?_
    | with_reducible refine bd (Zlr _ _ (by first | exact hr.c | assumption) (by first | exact hr.c | assumption)) fun _ _=>?_
    | with_reducible refine bd (Zbx _ _ (by first | assumption | omega | (dsimp only; omega) | exact And.left (by assumption) | (simp; done)) (by first | assumption | omega | (dsimp only; omega) | exact And.left (by assumption) | (simp; done)) (by first | assumption | omega | (dsimp only; omega) | exact And.left (by assumption) | (simp; done)) (by first | assumption | omega | (dsimp only; omega) | exact And.left (by assumption) | (simp; done))) fun _ _=>?_
    | with_reducible refine bs ?_
    | with_reducible refine ok ?_
    | (first | exact ⟨by first | exact hp | exact And.left (by assumption),by dsimp only; omega,by dsimp only; omega,by dsimp only; omega,by dsimp only; omega⟩ | exact ⟨hp,by dsimp only; omega,by dsimp only; omega,by dsimp only; omega,by dsimp only; omega⟩)
    | with_reducible refine And.intro ?_ ?_
    | assumption
    | exact True.intro
    | omega
    | (dsimp only; omega)
    | (simp only [List.length_set,List.length_append,List.length_cons,List.length_nil,List.length_replicate]; omega)
    | (obtain ⟨_,_⟩:=‹_ ∧ _›)
theorem Ztu (x : Int) : Ok (Z8y x) (fun _=>True):=by
  unfold Z8y
  repeat' first
    | with_reducible refine brD (fun _=>?_) fun _=>?_
    | with_reducible refine br (fun _=>?_) fun _=>?_
    | with_reducible refine bs ?_
    | with_reducible refine ok ?_
    | with_reducible refine And.intro ?_ ?_
    | assumption
    | exact True.intro
    | omega
    | (dsimp only; omega)
    | (simp only [List.length_set,List.length_append,List.length_cons,List.length_nil,List.length_replicate]; omega)
    | (obtain ⟨_,_⟩:=‹_ ∧ _›)
theorem Zqf (x a b : Int) : Ok (Z63 x a b) (fun _=>True):=by
  unfold Z63
  repeat' first
    | with_reducible refine brD (fun _=>?_) fun _=>?_
    | with_reducible refine br (fun _=>?_) fun _=>?_
    | with_reducible refine bs ?_
    | with_reducible refine ok ?_
    | with_reducible refine And.intro ?_ ?_
    | assumption
    | exact True.intro
    | omega
    | (dsimp only; omega)
    | (simp only [List.length_set,List.length_append,List.length_cons,List.length_nil,List.length_replicate]; omega)
    | (obtain ⟨_,_⟩:=‹_ ∧ _›)
theorem Zuf (x : Int) : Ok (Ze2 x) (fun _=>True):=by
  unfold Ze2
  repeat' first
    | with_reducible refine brD (fun _=>?_) fun _=>?_
    | with_reducible refine br (fun _=>?_) fun _=>?_
    | with_reducible refine bs ?_
    | with_reducible refine ok ?_
    | with_reducible refine And.intro ?_ ?_
    | assumption
    | exact True.intro
    | omega
    | (dsimp only; omega)
    | (simp only [List.length_set,List.length_append,List.length_cons,List.length_nil,List.length_replicate]; omega)
    | (obtain ⟨_,_⟩:=‹_ ∧ _›)
theorem Zy5 (x : Int) : Ok (Zhq x) (fun _=>True):=by
  unfold Zhq
  repeat' first
    | with_reducible refine brD (fun _=>?_) fun _=>?_
    | with_reducible refine br (fun _=>?_) fun _=>?_
    | with_reducible refine bs ?_
    | with_reducible refine ok ?_
    | with_reducible refine And.intro ?_ ?_
    | assumption
    | exact True.intro
    | omega
    | (dsimp only; omega)
    | (simp only [List.length_set,List.length_append,List.length_cons,List.length_nil,List.length_replicate]; omega)
    | (obtain ⟨_,_⟩:=‹_ ∧ _›)
theorem Zup (x : Int) : Ok (Zcd x) (fun _=>True):=by
  unfold Zcd
  repeat' first
    | with_reducible refine brE (fun _=>?_) fun _=>?_
    | with_reducible refine br (fun _=>?_) fun _=>?_
    | with_reducible refine bs ?_
    | with_reducible refine ok ?_
    | with_reducible refine And.intro ?_ ?_
    | assumption
    | exact True.intro
    | omega
    | (dsimp only; omega)
    | (simp only [List.length_set,List.length_append,List.length_cons,List.length_nil,List.length_replicate]; omega)
    | (obtain ⟨_,_⟩:=‹_ ∧ _›)
theorem Zoa (x : Int) : Ok (Zcr x) (fun _=>True):=by
  unfold Zcr
  repeat' first
    | with_reducible refine brD (fun _=>?_) fun _=>?_
    | with_reducible refine br (fun _=>?_) fun _=>?_
    | with_reducible refine bs ?_
    | with_reducible refine ok ?_
    | with_reducible refine And.intro ?_ ?_
    | assumption
    | exact True.intro
    | omega
    | (dsimp only; omega)
    | (simp only [List.length_set,List.length_append,List.length_cons,List.length_nil,List.length_replicate]; omega)
    | (obtain ⟨_,_⟩:=‹_ ∧ _›)
theorem Zsl (x : Int) : Ok (Z67 x) (fun _=>True):=by
  unfold Z67
  repeat' first
    | unfold Zex
    | unfold Zey
    | with_reducible refine br! (fun _=>?_) fun _=>?_
    | with_reducible refine brE (fun _=>?_) fun _=>?_
    | with_reducible refine br (fun _=>?_) fun _=>?_
    | with_reducible refine bd (Ztu _) fun _ _=>?_
    | with_reducible refine bd (Zqf _ _ _) fun _ _=>?_
    | with_reducible refine bs ?_
    | with_reducible refine ok ?_
    | with_reducible refine And.intro ?_ ?_
    | assumption
    | exact True.intro
    | omega
    | (dsimp only; omega)
    | (simp only [List.length_set,List.length_append,List.length_cons,List.length_nil,List.length_replicate]; omega)
    | (obtain ⟨_,_⟩:=‹_ ∧ _›)
theorem Y08 (x : Z01) (k : Int) : Ok (Zaq x k) (fun _=>True):=by
  unfold Zaq
  repeat' first
    | unfold Zfu
    | unfold Zds
    | unfold Zbp
    | with_reducible refine br! (fun _=>?_) fun _=>?_
    | with_reducible refine brE (fun _=>?_) fun _=>?_
    | with_reducible refine brN (fun _=>?_) fun _=>?_
    | with_reducible refine br (fun _=>?_) fun _=>?_
    | with_reducible refine bs ?_
    | with_reducible refine ok ?_
    | with_reducible refine And.intro ?_ ?_
    | assumption
    | exact True.intro
    | omega
    | (dsimp only; omega)
    | (simp only [List.length_set,List.length_append,List.length_cons,List.length_nil,List.length_replicate]; omega)
    | (obtain ⟨_,_⟩:=‹_ ∧ _›)
theorem L114x1 (x : Z01) (hx : Z2q x) : Ok (Z0d (Zb4 x) Z0i 0) (fun _=>True):=by
  have:=hx.tos
  refine li (x.Z0a.length) (fun t _ _=>?_) (by omega) (by omega) (by omega)
  unfold Zb4
  repeat' first
    | with_reducible refine ni ?_ ?_
    | with_reducible refine di ?_
    | with_reducible refine brD (fun _=>?_) fun _=>?_
    | with_reducible refine br (fun _=>?_) fun _=>?_
    | with_reducible refine bd (gr (by omega) (by omega)) fun _ _=>?_
    | with_reducible refine bd (wr (by omega) (by omega)) fun _ _=>?_
    | with_reducible refine bs ?_
    | with_reducible refine And.intro ?_ ?_
    | assumption
    | exact True.intro
    | omega
    | (dsimp only; omega)
    | (simp only [List.length_set,List.length_append,List.length_cons,List.length_nil,List.length_replicate]; omega)
    | (obtain ⟨_,_⟩:=‹_ ∧ _›)
theorem Zwk (x : Z01) (hx : Z2q x) : Ok (Z76 x) (fun _=>True):=by
  unfold Z76
  repeat' first
    | unfold Zjl
    | with_reducible refine brD (fun _=>?_) fun _=>?_
    | with_reducible refine br (fun _=>?_) fun _=>?_
    | with_reducible refine bd (L114x1 _ (by first | assumption | omega | exact And.left (by assumption) | (dsimp only; omega))) fun _ _=>?_
    | with_reducible refine bs ?_
    | with_reducible refine ok ?_
    | split
    | with_reducible refine And.intro ?_ ?_
    | assumption
    | exact True.intro
    | omega
    | (dsimp only; omega)
    | (simp only [List.length_set,List.length_append,List.length_cons,List.length_nil,List.length_replicate]; omega)
    | (obtain ⟨_,_⟩:=‹_ ∧ _›)
theorem Ztp (x : Z01) (hx : Z2q x) : Ok (Z0d (Zga x) Z0i 0) (fun _=>True):=by
  have:=hx.keys
  refine li (x.Z0y.length) (fun t _ _=>?_) (by omega) (by omega) (by omega)
  unfold Zga
  repeat' first
    | with_reducible refine ni ?_ ?_
    | with_reducible refine di ?_
    | with_reducible refine brD (fun _=>?_) fun _=>?_
    | with_reducible refine br! (fun _=>?_) fun _=>?_
    | with_reducible refine br (fun _=>?_) fun _=>?_
    | with_reducible refine bd (gr (by omega) (by omega)) fun _ _=>?_
    | with_reducible refine bd (wr (by omega) (by omega)) fun _ _=>?_
    | with_reducible refine bd (Zoa _) fun _ _=>?_
    | with_reducible refine bs ?_
    | with_reducible refine And.intro ?_ ?_
    | assumption
    | exact True.intro
    | omega
    | (dsimp only; omega)
    | (simp only [List.length_set,List.length_append,List.length_cons,List.length_nil,List.length_replicate]; omega)
    | (obtain ⟨_,_⟩:=‹_ ∧ _›)
theorem Zp4 (x : Z01) (hx : Z2q x) : Ok (Z0d (Zis x) Z0i 1) (fun _=>True):=by
  have:=hx.keys
  refine lp (fun t=>t) (max 1 x.Z0y.length) (fun t=>1 ≤ t) (fun t hI _ _=>?_) (by omega) (by omega) (by omega) (by omega)
  unfold Zis
  repeat' first
    | with_reducible refine nx ?_ ?_ ?_
    | with_reducible refine dn ?_
    | with_reducible refine brD (fun _=>?_) fun _=>?_
    | with_reducible refine bd (gr (by omega) (by omega)) fun _ _=>?_
    | with_reducible refine bd (wr (by omega) (by omega)) fun _ _=>?_
    | exact True.intro
    | omega
theorem Y0i (x : Z01) (hx : Z2q x) : Ok (Za0 x) (fun _=>True):=by
  unfold Za0
  repeat' first
    | unfold Zi5
    | unfold Zjn
    | with_reducible refine brD (fun _=>?_) fun _=>?_
    | with_reducible refine br! (fun _=>?_) fun _=>?_
    | with_reducible refine brE (fun _=>?_) fun _=>?_
    | with_reducible refine brN (fun _=>?_) fun _=>?_
    | with_reducible refine br (fun _=>?_) fun _=>?_
    | with_reducible refine bd (wr (by omega) (by omega)) fun _ _=>?_
    | with_reducible refine bd (Zoa _) fun _ _=>?_
    | with_reducible refine bd (Ztp _ (by first | assumption | omega | exact And.left (by assumption) | (dsimp only; omega))) fun _ _=>?_
    | with_reducible refine bd (Zp4 _ (by assumption)) fun _ _=>?_
    | with_reducible refine bs ?_
    | with_reducible refine ok ?_
    | split
    | with_reducible refine And.intro ?_ ?_
    | assumption
    | exact True.intro
    | omega
    | (dsimp only; omega)
    | (simp only [List.length_set,List.length_append,List.length_cons,List.length_nil,List.length_replicate]; omega)
    | (obtain ⟨_,_⟩:=‹_ ∧ _›)
theorem Zzc (x : Z01) (hx : Z2q x) : Ok (Z4s x) (fun _=>True):=by
  unfold Z4s
  repeat' first
    | unfold Z81
    | unfold Z9q
    | unfold Za6
    | unfold Z7w
    | unfold Za9
    | with_reducible refine brD (fun _=>?_) fun _=>?_
    | with_reducible refine br! (fun _=>?_) fun _=>?_
    | with_reducible refine brE (fun _=>?_) fun _=>?_
    | with_reducible refine br (fun _=>?_) fun _=>?_
    | with_reducible refine bd (Zsl _) fun _ _=>?_
    | with_reducible refine bd (Y08 _ _) fun _ _=>?_
    | with_reducible refine bd (Zwk _ (by first | assumption | omega | exact And.left (by assumption) | (dsimp only; omega))) fun _ _=>?_
    | with_reducible refine bd (Y0i _ (by first | assumption | omega | exact And.left (by assumption) | (dsimp only; omega))) fun _ _=>?_
    | with_reducible refine bs ?_
    | with_reducible refine ok ?_
    | with_reducible refine And.intro ?_ ?_
    | assumption
    | exact True.intro
    | omega
    | (dsimp only; omega)
    | (simp only [List.length_set,List.length_append,List.length_cons,List.length_nil,List.length_replicate]; omega)
    | (obtain ⟨_,_⟩:=‹_ ∧ _›)
theorem Zx9 (x : Z01) (hx : Z2q x) : Ok (Zf5 x) (fun _=>True):=by
  unfold Zf5
  repeat' first
    | unfold Zns
    | unfold Zeu
    | unfold Zd8
    | with_reducible refine brD (fun _=>?_) fun _=>?_
    | with_reducible refine br! (fun _=>?_) fun _=>?_
    | with_reducible refine brE (fun _=>?_) fun _=>?_
    | with_reducible refine brN (fun _=>?_) fun _=>?_
    | with_reducible refine br (fun _=>?_) fun _=>?_
    | with_reducible refine bd (wr (by omega) (by omega)) fun _ _=>?_
    | with_reducible refine bd (Zuf _) fun _ _=>?_
    | with_reducible refine bd (Zy5 _) fun _ _=>?_
    | with_reducible refine bd (Zup _) fun _ _=>?_
    | with_reducible refine bs ?_
    | with_reducible refine ok ?_
    | with_reducible refine And.intro ?_ ?_
    | assumption
    | exact True.intro
    | omega
    | (dsimp only; omega)
    | (simp only [List.length_set,List.length_append,List.length_cons,List.length_nil,List.length_replicate]; omega)
    | (obtain ⟨_,_⟩:=‹_ ∧ _›)
theorem Zr6 (x : Int) : Ok (Zbb x) (fun l=>l.length ≤ 3):=by
  unfold Zbb
  repeat' first
    | unfold Znm
    | unfold Zmq
    | unfold Zlb
    | unfold Zo9
    | with_reducible refine brE (fun _=>?_) fun _=>?_
    | with_reducible refine br (fun _=>?_) fun _=>?_
    | with_reducible refine bd (Zqf _ _ _) fun _ _=>?_
    | with_reducible refine bs ?_
    | with_reducible refine ok ?_
    | (first | (simp; done) | decide)
    | with_reducible refine And.intro ?_ ?_
    | assumption
    | exact True.intro
    | omega
    | (dsimp only; omega)
    | (simp only [List.length_set,List.length_append,List.length_cons,List.length_nil,List.length_replicate]; omega)
    | (obtain ⟨_,_⟩:=‹_ ∧ _›)
theorem L158x1 (l : List Int) (x : Int) (hl : l.length ≤ 140737488355328) : Ok (Z0d (Zi1 l x) Z0i 0) (fun _=>True):=by
  refine li (l.length) (fun t _ _=>?_) (by omega) (by omega) (by omega)
  unfold Zi1
  repeat' first
    | with_reducible refine ni ?_ ?_
    | with_reducible refine di ?_
    | with_reducible refine brD (fun _=>?_) fun _=>?_
    | with_reducible refine brE (fun _=>?_) fun _=>?_
    | with_reducible refine br (fun _=>?_) fun _=>?_
    | with_reducible refine bd (gr (by omega) (by omega)) fun _ _=>?_
    | with_reducible refine bd (wr (by omega) (by omega)) fun _ _=>?_
    | with_reducible refine bs ?_
    | with_reducible refine And.intro ?_ ?_
    | assumption
    | exact True.intro
    | omega
    | (dsimp only; omega)
    | (simp only [List.length_set,List.length_append,List.length_cons,List.length_nil,List.length_replicate]; omega)
    | (obtain ⟨_,_⟩:=‹_ ∧ _›)
theorem Zzm (l : List Int) (x : Int) (hl : l.length ≤ 140737488355328) : Ok (Zg0 l x) (fun _=>True):=by
  unfold Zg0
  repeat' first
    | with_reducible refine bd (L158x1 _ _ (by first | assumption | omega | exact And.left (by assumption) | (dsimp only; omega))) fun _ _=>?_
    | with_reducible refine ok ?_
    | split
    | with_reducible refine And.intro ?_ ?_
    | assumption
    | exact True.intro
    | omega
    | (dsimp only; omega)
    | (simp only [List.length_set,List.length_append,List.length_cons,List.length_nil,List.length_replicate]; omega)
    | (obtain ⟨_,_⟩:=‹_ ∧ _›)
theorem Zyd (p : List Z00) (x : Z01) (hp : Z1e p) (hx : Z2q x) : Ok (Zfb p x) (PR p):=by
  have:=hp.len
  unfold Zfb
  repeat' first
    | unfold Zkr
    | unfold Zgg
    | unfold Zho
    | unfold Zo5
    | with_reducible refine brE (fun _=>?_) fun _=>?_
    | with_reducible refine br (fun _=>?_) fun _=>?_
    | with_reducible refine bd (Zqp _ _ (by first | exact hx.s | assumption) (by first | exact hx.s | assumption)) fun _ _=>?_
    | with_reducible refine bd (Zbx _ _ (by first | assumption | omega | (dsimp only; omega) | exact And.left (by assumption) | (simp; done)) (by first | assumption | omega | (dsimp only; omega) | exact And.left (by assumption) | (simp; done)) (by first | assumption | omega | (dsimp only; omega) | exact And.left (by assumption) | (simp; done)) (by first | assumption | omega | (dsimp only; omega) | exact And.left (by assumption) | (simp; done))) fun _ _=>?_
    | with_reducible refine bd (Zup _) fun _ _=>?_
    | with_reducible refine bd (Zlr _ _ (by first | exact hx.ref.c | assumption) (by first | exact hx.ref.c | assumption)) fun _ _=>?_
    | with_reducible refine bd (Zdf _ _ (by first | exact hx.s | assumption) (by first | exact hx.s | assumption)) fun _ _=>?_
    | with_reducible refine bd (Zuf _) fun _ _=>?_
    | with_reducible refine bd (Zxb _ _ _ (by first | exact hx.ref | assumption) (by first | exact hx.ref | assumption)) fun _ _=>?_
    | with_reducible refine ok ?_
    | (first | exact ⟨by first | exact hp | exact And.left (by assumption),by dsimp only; omega,by dsimp only; omega,by dsimp only; omega,by dsimp only; omega⟩ | exact ⟨hp,by dsimp only; omega,by dsimp only; omega,by dsimp only; omega,by dsimp only; omega⟩)
    | with_reducible refine And.intro ?_ ?_
    | assumption
    | exact True.intro
    | omega
    | (dsimp only; omega)
    | (simp only [List.length_set,List.length_append,List.length_cons,List.length_nil,List.length_replicate]; omega)
    | (obtain ⟨_,_⟩:=‹_ ∧ _›)
theorem Zyz (p : List Z00) (x : Z01) (hp : Z1e p) (hx : Z2q x) : Ok (Zig p x) (fun r=>Z1e r.1 ∧ Z2q r.2.1):=by
  unfold Zig
  repeat' first
    | unfold Zf2
    | unfold Zef
    | with_reducible refine br! (fun _=>?_) fun _=>?_
    | with_reducible refine brE (fun _=>?_) fun _=>?_
    | with_reducible refine brN (fun _=>?_) fun _=>?_
    | with_reducible refine br (fun _=>?_) fun _=>?_
    | with_reducible refine bd (Ztu _) fun _ _=>?_
    | with_reducible refine bd (Zsl _) fun _ _=>?_
    | with_reducible refine bd (Zzc _ (by first | assumption | omega | exact And.left (by assumption) | (dsimp only; omega))) fun _ _=>?_
    | with_reducible refine bd (Zx9 _ (by first | assumption | omega | exact And.left (by assumption) | (dsimp only; omega))) fun _ _=>?_
    | with_reducible refine bd (Zr6 _) fun _ _=>?_
    | with_reducible refine bd (Zzm _ _ (by first | assumption | omega | exact And.left (by assumption) | (dsimp only; omega))) fun _ _=>?_
    | with_reducible refine bd (Zyd _ _ (by first | assumption | omega | exact And.left (by assumption) | (dsimp only; omega)) (by first | assumption | omega | exact And.left (by assumption) | (dsimp only; omega))) fun _ _=>?_
    | with_reducible refine bs ?_
    | with_reducible refine ok ?_
    | (first | exact ⟨hp,W0⟩ | exact ⟨hp,hx⟩ | exact ⟨And.left (by assumption),W0⟩)
    | with_reducible refine And.intro ?_ ?_
    | assumption
    | exact True.intro
    | omega
    | (dsimp only; omega)
    | (simp only [List.length_set,List.length_append,List.length_cons,List.length_nil,List.length_replicate]; omega)
    | (obtain ⟨_,_⟩:=‹_ ∧ _›)
theorem Zxu (x : Z0p) (i : Z01) (hp : Z1e x.f_P) (hx : Z2q i) : Ok (Zjd x i) (fun r=>Z1e r.1.f_P ∧ Z2q r.2):=by
  unfold Zjd
  repeat' first
    | with_reducible refine brN (fun _=>?_) fun _=>?_
    | with_reducible refine br (fun _=>?_) fun _=>?_
    | with_reducible refine bd (Zyz _ _ (by first | assumption | omega | exact And.left (by assumption) | (dsimp only; omega)) (by first | assumption | omega | exact And.left (by assumption) | (dsimp only; omega))) fun _ _=>?_
    | with_reducible refine bs ?_
    | with_reducible refine ok ?_
    | (first | exact ⟨hp,W0⟩ | (dsimp only; assumption))
    | with_reducible refine And.intro ?_ ?_
    | assumption
    | exact True.intro
    | omega
    | (dsimp only; omega)
    | (simp only [List.length_set,List.length_append,List.length_cons,List.length_nil,List.length_replicate]; omega)
    | (obtain ⟨_,_⟩:=‹_ ∧ _›)
end Go.Proofs
