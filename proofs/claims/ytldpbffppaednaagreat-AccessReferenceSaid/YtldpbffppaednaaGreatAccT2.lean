/-
  That the models come to an answer, part two: the pool that is built. No condition.
-/
import Derived.Test.YtldpbffppaednaaGreatAccT1
set_option linter.unusedVariables false
namespace Go.Proofs
open Go.Den Go.Tot
structure Z1e (p : List Z00) : Prop where
  len : p.length ≤ 1000
  ord : ∀ (k : Nat) c,p[k]? = some c → c.f_A ≤ k ∧ c.f_B ≤ k
  str : ∀ c ∈ p,Str c.f_S
theorem Z1e.app {p : List Z00} {c : Z00} (h : Z1e p) (hl : p.length < 1000) (ha : c.f_A ≤ p.length) (hb : c.f_B ≤ p.length) (hs : Str c.f_S) : Z1e (([] ++ p) ++ [c]):=by
  refine ⟨by simp; omega,fun k d hd=>?_,fun d hd=>?_⟩
  · rw [List.nil_append] at hd
    rcases Nat.lt_trichotomy k p.length with h1 | h1 | h1
    · rw [List.getElem?_append_left h1] at hd; exact h.ord k d hd
    · subst h1
      rw [List.getElem?_append_right (Nat.le_refl _),Nat.sub_self] at hd
      cases hd; exact ⟨ha,hb⟩
    · rw [List.getElem?_eq_none (by simp; omega)] at hd; cases hd
  · rw [List.nil_append] at hd
    rcases List.mem_append.1 hd with hd | hd
    · exact h.str d hd
    · rw [List.mem_singleton.1 hd]; exact hs
theorem Z1e.nil : Z1e [] :=⟨by simp,fun k c h=>by simp at h,fun c h=>by simp at h⟩
abbrev PR (p : List Z00) (r : List Z00 × Int × Int) : Prop:=Z1e r.1 ∧ p.length ≤ r.1.length ∧ 0 ≤ r.2.1 ∧ r.2.1 ≤ r.1.length ∧ r.1.length ≤ 1000
theorem Z5v {α : Type} {P : α → Prop} {l : List α} {x : α} (h : ∀ v ∈ l,P v) (hx : P x) : ∀ v ∈ l ++ [x],P v:=fun v hv=>by
  rcases List.mem_append.1 hv with hv | hv
  · exact h v hv
  · rw [List.mem_singleton.1 hv]; exact hx
theorem all_nil {α : Type} {P : α → Prop} : ∀ v ∈ ([] : List α),P v:=fun v hv=>by simp at hv
theorem W0 {op a : Int} : Z2r { f_Op:=op,f_A:=a,f_B:=0,f_To:=0,Z0x:=[],Z0b:=[],Z16:={ Z1i:=[],Z02:=[],Z1l:=[] },f_S:=[] }:=⟨by simp,by simp,⟨by simp,by simp,by simp⟩,by simp⟩
theorem L77x1 (p : List Z00) (c : Z00) (hp : Z1e p) : Ok (Z0e (Zh1 p c) Z0i 0) (fun q=>match q with | .inl _=>True | .inr y=>PR p y):=by
  have:=hp.len
  refine li (p.length) (fun t _ _=>?_) (by omega) (by omega) (by omega)
  unfold Zh1
  repeat' first
    | with_reducible refine ni ?_ ?_
    | with_reducible refine di ?_
    | with_reducible refine brD (fun _=>?_) fun _=>?_
    | with_reducible refine br (fun _=>?_) fun _=>?_
    | with_reducible refine bd (gr (by omega) (by omega)) fun _ _=>?_
    | with_reducible refine bd (wr (by omega) (by omega)) fun _ _=>?_
    | with_reducible refine bs ?_
    | (exact ⟨hp,by omega,by omega,by omega,by omega⟩)
    | with_reducible refine And.intro ?_ ?_
    | assumption
    | exact True.intro
    | omega
    | (dsimp only; omega)
    | (simp only [List.length_set,List.length_append,List.length_cons,List.length_nil,List.length_replicate]; omega)
    | (obtain ⟨_,_⟩:=‹_ ∧ _›)
theorem Zd8 (p : List Z00) (c : Z00) (hp : Z1e p) (ha : c.f_A ≤ p.length) (hb : c.f_B ≤ p.length) (hs : Str c.f_S) : Ok (Z74 p c) (PR p):=by
  have:=hp.len
  unfold Z74
  repeat' first
    | with_reducible refine brD (fun _=>?_) fun _=>?_
    | with_reducible refine br (fun _=>?_) fun _=>?_
    | with_reducible refine bd (wr (by omega) (by omega)) fun _ _=>?_
    | with_reducible refine bd (gk (by simp only [List.length_append,List.length_cons,List.length_nil]; omega) (by simp only [List.length_append,List.length_cons,List.length_nil]; omega)) fun _ _=>?_
    | with_reducible refine bd (L77x1 _ _ (by first | assumption | omega | exact And.left (by assumption) | (dsimp only; omega))) fun _ _=>?_
    | with_reducible refine bs ?_
    | with_reducible refine ok ?_
    | split
    | (first | exact ⟨hp.app (by omega) ha hb hs,by simp,by dsimp only; omega,by simp; omega,by simp; omega⟩ | exact ⟨hp,by dsimp only; omega,by dsimp only; omega,by dsimp only; omega,by dsimp only; omega⟩ | (dsimp only at *; assumption))
    | with_reducible refine And.intro ?_ ?_
    | assumption
    | exact True.intro
    | omega
    | (dsimp only; omega)
    | (simp only [List.length_set,List.length_append,List.length_cons,List.length_nil,List.length_replicate]; omega)
    | (obtain ⟨_,_⟩:=‹_ ∧ _›)
theorem Zdq (p : List Z00) (s : List UInt8) (hp : Z1e p) (hs : Str s) : Ok (Z8l p s) (PR p):=by
  have:=hp.len
  unfold Z8l
  repeat' first
    | with_reducible refine bd (Zd8 _ _ (by first | assumption | omega | (dsimp only; omega) | exact And.left (by assumption) | (simp; done)) (by first | assumption | omega | (dsimp only; omega) | exact And.left (by assumption) | (simp; done)) (by first | assumption | omega | (dsimp only; omega) | exact And.left (by assumption) | (simp; done)) (by first | assumption | omega | (dsimp only; omega) | exact And.left (by assumption) | (simp; done))) fun _ _=>?_
    | with_reducible refine ok ?_
    | (first | exact ⟨by first | exact hp | exact And.left (by assumption),by dsimp only; omega,by dsimp only; omega,by dsimp only; omega,by dsimp only; omega⟩ | exact ⟨hp,by dsimp only; omega,by dsimp only; omega,by dsimp only; omega,by dsimp only; omega⟩)
    | with_reducible refine And.intro ?_ ?_
    | assumption
    | exact True.intro
    | omega
    | (dsimp only; omega)
    | (simp only [List.length_set,List.length_append,List.length_cons,List.length_nil,List.length_replicate]; omega)
    | (obtain ⟨_,_⟩:=‹_ ∧ _›)
theorem Zp9 (p : List Z00) (tag : Int) (s : List UInt8) (hp : Z1e p) (hs : Str s) : Ok (Zbn p tag s) (PR p):=by
  have:=hp.len
  unfold Zbn
  repeat' first
    | with_reducible refine brN (fun _=>?_) fun _=>?_
    | with_reducible refine br (fun _=>?_) fun _=>?_
    | with_reducible refine bd (Zdq _ _ (by first | assumption | omega | exact And.left (by assumption) | (dsimp only; omega)) (by first | assumption | omega | exact And.left (by assumption) | (dsimp only; omega))) fun _ _=>?_
    | with_reducible refine bd (Zd8 _ _ (by first | assumption | omega | (dsimp only; omega) | exact And.left (by assumption) | (simp; done)) (by first | assumption | omega | (dsimp only; omega) | exact And.left (by assumption) | (simp; done)) (by first | assumption | omega | (dsimp only; omega) | exact And.left (by assumption) | (simp; done)) (by first | assumption | omega | (dsimp only; omega) | exact And.left (by assumption) | (simp; done))) fun _ _=>?_
    | with_reducible refine bs ?_
    | with_reducible refine ok ?_
    | (first | exact ⟨by first | exact hp | exact And.left (by assumption),by dsimp only; omega,by dsimp only; omega,by dsimp only; omega,by dsimp only; omega⟩ | exact ⟨hp,by dsimp only; omega,by dsimp only; omega,by dsimp only; omega,by dsimp only; omega⟩)
    | with_reducible refine And.intro ?_ ?_
    | assumption
    | exact True.intro
    | omega
    | (dsimp only; omega)
    | (simp only [List.length_set,List.length_append,List.length_cons,List.length_nil,List.length_replicate]; omega)
    | (obtain ⟨_,_⟩:=‹_ ∧ _›)
theorem Zmf (p : List Z00) (s : List UInt8) (hp : Z1e p) (hs : Str s) : Ok (Zaq p s) (PR p):=by
  have:=hp.len
  unfold Zaq
  repeat' first
    | with_reducible refine bd (Zp9 _ _ _ (by first | assumption | omega | exact And.left (by assumption) | (dsimp only; omega)) (by first | assumption | omega | exact And.left (by assumption) | (dsimp only; omega))) fun _ _=>?_
    | with_reducible refine ok ?_
    | (first | exact ⟨by first | exact hp | exact And.left (by assumption),by dsimp only; omega,by dsimp only; omega,by dsimp only; omega,by dsimp only; omega⟩ | exact ⟨hp,by dsimp only; omega,by dsimp only; omega,by dsimp only; omega,by dsimp only; omega⟩)
    | with_reducible refine And.intro ?_ ?_
    | assumption
    | exact True.intro
    | omega
    | (dsimp only; omega)
    | (simp only [List.length_set,List.length_append,List.length_cons,List.length_nil,List.length_replicate]; omega)
    | (obtain ⟨_,_⟩:=‹_ ∧ _›)
theorem Ztg (p : List Z00) (s : List UInt8) (hp : Z1e p) (hs : Str s) : Ok (Zd2 p s) (PR p):=by
  have:=hp.len
  unfold Zd2
  repeat' first
    | with_reducible refine bd (Zp9 _ _ _ (by first | assumption | omega | exact And.left (by assumption) | (dsimp only; omega)) (by first | assumption | omega | exact And.left (by assumption) | (dsimp only; omega))) fun _ _=>?_
    | with_reducible refine ok ?_
    | (first | exact ⟨by first | exact hp | exact And.left (by assumption),by dsimp only; omega,by dsimp only; omega,by dsimp only; omega,by dsimp only; omega⟩ | exact ⟨hp,by dsimp only; omega,by dsimp only; omega,by dsimp only; omega,by dsimp only; omega⟩)
    | with_reducible refine And.intro ?_ ?_
    | assumption
    | exact True.intro
    | omega
    | (dsimp only; omega)
    | (simp only [List.length_set,List.length_append,List.length_cons,List.length_nil,List.length_replicate]; omega)
    | (obtain ⟨_,_⟩:=‹_ ∧ _›)
theorem Zbz (x : Z0p) (s : List UInt8) (hp : Z1e x.f_P) (hs : Str s) : Ok (Z7v x s) (fun r=>Z1e r.1.f_P):=by
  unfold Z7v
  repeat' first
    | with_reducible refine brN (fun _=>?_) fun _=>?_
    | with_reducible refine br (fun _=>?_) fun _=>?_
    | with_reducible refine bd (Zmf _ _ (by first | assumption | omega | exact And.left (by assumption) | (dsimp only; omega)) (by first | assumption | omega | exact And.left (by assumption) | (dsimp only; omega))) fun _ _=>?_
    | with_reducible refine bs ?_
    | with_reducible refine ok ?_
    | (exact And.left (by assumption))
    | with_reducible refine And.intro ?_ ?_
    | assumption
    | exact True.intro
    | omega
    | (dsimp only; omega)
    | (simp only [List.length_set,List.length_append,List.length_cons,List.length_nil,List.length_replicate]; omega)
    | (obtain ⟨_,_⟩:=‹_ ∧ _›)
theorem Z6h (x : Z0p) (s : List UInt8) (hp : Z1e x.f_P) (hs : Str s) : Ok (Z5d x s) (fun r=>Z1e r.1.f_P):=by
  unfold Z5d
  repeat' first
    | with_reducible refine brN (fun _=>?_) fun _=>?_
    | with_reducible refine br (fun _=>?_) fun _=>?_
    | with_reducible refine bd (Zdq _ _ (by first | assumption | omega | exact And.left (by assumption) | (dsimp only; omega)) (by first | assumption | omega | exact And.left (by assumption) | (dsimp only; omega))) fun _ _=>?_
    | with_reducible refine bs ?_
    | with_reducible refine ok ?_
    | (exact And.left (by assumption))
    | with_reducible refine And.intro ?_ ?_
    | assumption
    | exact True.intro
    | omega
    | (dsimp only; omega)
    | (simp only [List.length_set,List.length_append,List.length_cons,List.length_nil,List.length_replicate]; omega)
    | (obtain ⟨_,_⟩:=‹_ ∧ _›)
theorem Zxu (x : Z0p) (f : Z13) (hp : Z1e x.f_P) (hf : Zl1 f) : Ok (Zga x f) (fun r=>Z1e r.1.f_P):=by
  unfold Zga
  repeat' first
    | unfold Zet
    | with_reducible refine brE (fun _=>?_) fun _=>?_
    | with_reducible refine brN (fun _=>?_) fun _=>?_
    | with_reducible refine br (fun _=>?_) fun _=>?_
    | with_reducible refine bd (Ztg _ _ (by first | exact hf.s | assumption) (by first | exact hf.s | assumption)) fun _ _=>?_
    | with_reducible refine bd (Zd8 _ _ (by first | assumption | omega | (dsimp only; omega) | exact And.left (by assumption) | (simp; done)) (by first | assumption | omega | (dsimp only; omega) | exact And.left (by assumption) | (simp; done)) (by first | assumption | omega | (dsimp only; omega) | exact And.left (by assumption) | (simp; done)) (by first | assumption | omega | (dsimp only; omega) | exact And.left (by assumption) | (simp; done))) fun _ _=>?_
    | with_reducible refine bs ?_
    | with_reducible refine ok ?_
    | (exact And.left (by assumption))
    | with_reducible refine And.intro ?_ ?_
    | assumption
    | exact True.intro
    | omega
    | (dsimp only; omega)
    | (simp only [List.length_set,List.length_append,List.length_cons,List.length_nil,List.length_replicate]; omega)
    | (obtain ⟨_,_⟩:=‹_ ∧ _›)
theorem Zw6 (p : List Z00) (tag : Int) (r : Z28) (hp : Z1e p) (hr : WRef r) : Ok (Zaj p tag r) (PR p):=by
  have:=hp.len
  unfold Zaj
  repeat' first
    | with_reducible refine bd (Zdq _ _ (And.left (by assumption)) hr.n) fun _ _=>?_
    | with_reducible refine bd (Zdq _ _ (And.left (by assumption)) hr.d) fun _ _=>?_
    | with_reducible refine brN (fun _=>?_) fun _=>?_
    | with_reducible refine br (fun _=>?_) fun _=>?_
    | with_reducible refine bd (Zmf _ _ (by first | exact hr.c | assumption) (by first | exact hr.c | assumption)) fun _ _=>?_
    | with_reducible refine bd (Zd8 _ _ (by first | assumption | omega | (dsimp only; omega) | exact And.left (by assumption) | (simp; done)) (by first | assumption | omega | (dsimp only; omega) | exact And.left (by assumption) | (simp; done)) (by first | assumption | omega | (dsimp only; omega) | exact And.left (by assumption) | (simp; done)) (by first | assumption | omega | (dsimp only; omega) | exact And.left (by assumption) | (simp; done))) fun _ _=>?_
    | with_reducible refine bs ?_
    | with_reducible refine ok ?_
    | (first | exact ⟨by first | exact hp | exact And.left (by assumption),by dsimp only; omega,by dsimp only; omega,by dsimp only; omega,by dsimp only; omega⟩ | exact ⟨hp,by dsimp only; omega,by dsimp only; omega,by dsimp only; omega,by dsimp only; omega⟩)
    | with_reducible refine And.intro ?_ ?_
    | assumption
    | exact True.intro
    | omega
    | (dsimp only; omega)
    | (simp only [List.length_set,List.length_append,List.length_cons,List.length_nil,List.length_replicate]; omega)
    | (obtain ⟨_,_⟩:=‹_ ∧ _›)
theorem Zpg (x : Int) : Ok (Z9h x) (fun _=>True):=by
  unfold Z9h
  repeat' first
    | with_reducible refine brD (fun _=>?_) fun _=>?_
    | with_reducible refine br (fun _=>?_) fun _=>?_
    | with_reducible refine bs ?_
    | with_reducible refine ok ?_
    | with_reducible refine And.intro ?_ ?_
    | assumption
    | exact True.intro
    | omega
    | (dsimp only; omega)
    | (simp only [List.length_set,List.length_append,List.length_cons,List.length_nil,List.length_replicate]; omega)
    | (obtain ⟨_,_⟩:=‹_ ∧ _›)
theorem Ztz (x a b : Int) : Ok (Z66 x a b) (fun _=>True):=by
  unfold Z66
  repeat' first
    | with_reducible refine brD (fun _=>?_) fun _=>?_
    | with_reducible refine br (fun _=>?_) fun _=>?_
    | with_reducible refine bs ?_
    | with_reducible refine ok ?_
    | with_reducible refine And.intro ?_ ?_
    | assumption
    | exact True.intro
    | omega
    | (dsimp only; omega)
    | (simp only [List.length_set,List.length_append,List.length_cons,List.length_nil,List.length_replicate]; omega)
    | (obtain ⟨_,_⟩:=‹_ ∧ _›)
theorem Ztx (x : Int) : Ok (Zbp x) (fun _=>True):=by
  unfold Zbp
  repeat' first
    | with_reducible refine brD (fun _=>?_) fun _=>?_
    | with_reducible refine br (fun _=>?_) fun _=>?_
    | with_reducible refine bs ?_
    | with_reducible refine ok ?_
    | with_reducible refine And.intro ?_ ?_
    | assumption
    | exact True.intro
    | omega
    | (dsimp only; omega)
    | (simp only [List.length_set,List.length_append,List.length_cons,List.length_nil,List.length_replicate]; omega)
    | (obtain ⟨_,_⟩:=‹_ ∧ _›)
theorem Zyr (x : Int) : Ok (Zjm x) (fun _=>True):=by
  unfold Zjm
  repeat' first
    | with_reducible refine brD (fun _=>?_) fun _=>?_
    | with_reducible refine br (fun _=>?_) fun _=>?_
    | with_reducible refine bs ?_
    | with_reducible refine ok ?_
    | with_reducible refine And.intro ?_ ?_
    | assumption
    | exact True.intro
    | omega
    | (dsimp only; omega)
    | (simp only [List.length_set,List.length_append,List.length_cons,List.length_nil,List.length_replicate]; omega)
    | (obtain ⟨_,_⟩:=‹_ ∧ _›)
theorem Zsm (x : Int) : Ok (Zbd x) (fun _=>True):=by
  unfold Zbd
  repeat' first
    | with_reducible refine brE (fun _=>?_) fun _=>?_
    | with_reducible refine br (fun _=>?_) fun _=>?_
    | with_reducible refine bs ?_
    | with_reducible refine ok ?_
    | with_reducible refine And.intro ?_ ?_
    | assumption
    | exact True.intro
    | omega
    | (dsimp only; omega)
    | (simp only [List.length_set,List.length_append,List.length_cons,List.length_nil,List.length_replicate]; omega)
    | (obtain ⟨_,_⟩:=‹_ ∧ _›)
theorem Zk8 (x : Int) : Ok (Zcu x) (fun _=>True):=by
  unfold Zcu
  repeat' first
    | with_reducible refine brD (fun _=>?_) fun _=>?_
    | with_reducible refine br (fun _=>?_) fun _=>?_
    | with_reducible refine bs ?_
    | with_reducible refine ok ?_
    | with_reducible refine And.intro ?_ ?_
    | assumption
    | exact True.intro
    | omega
    | (dsimp only; omega)
    | (simp only [List.length_set,List.length_append,List.length_cons,List.length_nil,List.length_replicate]; omega)
    | (obtain ⟨_,_⟩:=‹_ ∧ _›)
theorem Zvk (x : Int) : Ok (Z63 x) (fun _=>True):=by
  unfold Z63
  repeat' first
    | unfold Zhv
    | unfold Zji
    | with_reducible refine br! (fun _=>?_) fun _=>?_
    | with_reducible refine brE (fun _=>?_) fun _=>?_
    | with_reducible refine br (fun _=>?_) fun _=>?_
    | with_reducible refine bd (Zpg _) fun _ _=>?_
    | with_reducible refine bd (Ztz _ _ _) fun _ _=>?_
    | with_reducible refine bs ?_
    | with_reducible refine ok ?_
    | with_reducible refine And.intro ?_ ?_
    | assumption
    | exact True.intro
    | omega
    | (dsimp only; omega)
    | (simp only [List.length_set,List.length_append,List.length_cons,List.length_nil,List.length_replicate]; omega)
    | (obtain ⟨_,_⟩:=‹_ ∧ _›)
theorem Y06 (x : Z01) (k : Int) : Ok (Z9z x k) (fun _=>True):=by
  unfold Z9z
  repeat' first
    | unfold Zep
    | unfold Zdt
    | unfold Zdf
    | with_reducible refine br! (fun _=>?_) fun _=>?_
    | with_reducible refine brE (fun _=>?_) fun _=>?_
    | with_reducible refine brN (fun _=>?_) fun _=>?_
    | with_reducible refine br (fun _=>?_) fun _=>?_
    | with_reducible refine bs ?_
    | with_reducible refine ok ?_
    | with_reducible refine And.intro ?_ ?_
    | assumption
    | exact True.intro
    | omega
    | (dsimp only; omega)
    | (simp only [List.length_set,List.length_append,List.length_cons,List.length_nil,List.length_replicate]; omega)
    | (obtain ⟨_,_⟩:=‹_ ∧ _›)
theorem L114x1 (x : Z01) (hx : Z2r x) : Ok (Z0e (Za0 x) Z0i 0) (fun _=>True):=by
  have:=hx.tos
  refine li (x.Z0b.length) (fun t _ _=>?_) (by omega) (by omega) (by omega)
  unfold Za0
  repeat' first
    | with_reducible refine ni ?_ ?_
    | with_reducible refine di ?_
    | with_reducible refine brD (fun _=>?_) fun _=>?_
    | with_reducible refine br (fun _=>?_) fun _=>?_
    | with_reducible refine bd (gr (by omega) (by omega)) fun _ _=>?_
    | with_reducible refine bd (wr (by omega) (by omega)) fun _ _=>?_
    | with_reducible refine bs ?_
    | with_reducible refine And.intro ?_ ?_
    | assumption
    | exact True.intro
    | omega
    | (dsimp only; omega)
    | (simp only [List.length_set,List.length_append,List.length_cons,List.length_nil,List.length_replicate]; omega)
    | (obtain ⟨_,_⟩:=‹_ ∧ _›)
theorem Zxp (x : Z01) (hx : Z2r x) : Ok (Z6y x) (fun _=>True):=by
  unfold Z6y
  repeat' first
    | unfold Zhp
    | with_reducible refine brD (fun _=>?_) fun _=>?_
    | with_reducible refine br (fun _=>?_) fun _=>?_
    | with_reducible refine bd (L114x1 _ (by first | assumption | omega | exact And.left (by assumption) | (dsimp only; omega))) fun _ _=>?_
    | with_reducible refine bs ?_
    | with_reducible refine ok ?_
    | split
    | with_reducible refine And.intro ?_ ?_
    | assumption
    | exact True.intro
    | omega
    | (dsimp only; omega)
    | (simp only [List.length_set,List.length_append,List.length_cons,List.length_nil,List.length_replicate]; omega)
    | (obtain ⟨_,_⟩:=‹_ ∧ _›)
theorem Zv4 (x : Z01) (hx : Z2r x) : Ok (Z0e (Zj3 x) Z0i 0) (fun _=>True):=by
  have:=hx.keys
  refine li (x.Z0x.length) (fun t _ _=>?_) (by omega) (by omega) (by omega)
  unfold Zj3
  repeat' first
    | with_reducible refine ni ?_ ?_
    | with_reducible refine di ?_
    | with_reducible refine brD (fun _=>?_) fun _=>?_
    | with_reducible refine br! (fun _=>?_) fun _=>?_
    | with_reducible refine br (fun _=>?_) fun _=>?_
    | with_reducible refine bd (gr (by omega) (by omega)) fun _ _=>?_
    | with_reducible refine bd (wr (by omega) (by omega)) fun _ _=>?_
    | with_reducible refine bd (Zk8 _) fun _ _=>?_
    | with_reducible refine bs ?_
    | with_reducible refine And.intro ?_ ?_
    | assumption
    | exact True.intro
    | omega
    | (dsimp only; omega)
    | (simp only [List.length_set,List.length_append,List.length_cons,List.length_nil,List.length_replicate]; omega)
    | (obtain ⟨_,_⟩:=‹_ ∧ _›)
theorem Zra (x : Z01) (hx : Z2r x) : Ok (Z0e (Zg3 x) Z0i 1) (fun _=>True):=by
  have:=hx.keys
  refine lp (fun t=>t) (max 1 x.Z0x.length) (fun t=>1 ≤ t) (fun t hI _ _=>?_) (by omega) (by omega) (by omega) (by omega)
  unfold Zg3
  repeat' first
    | with_reducible refine nx ?_ ?_ ?_
    | with_reducible refine dn ?_
    | with_reducible refine brD (fun _=>?_) fun _=>?_
    | with_reducible refine bd (gr (by omega) (by omega)) fun _ _=>?_
    | with_reducible refine bd (wr (by omega) (by omega)) fun _ _=>?_
    | exact True.intro
    | omega
theorem Zzc (x : Z01) (hx : Z2r x) : Ok (Zb3 x) (fun _=>True):=by
  unfold Zb3
  repeat' first
    | unfold Zhq
    | unfold Zf8
    | with_reducible refine brD (fun _=>?_) fun _=>?_
    | with_reducible refine br! (fun _=>?_) fun _=>?_
    | with_reducible refine brE (fun _=>?_) fun _=>?_
    | with_reducible refine brN (fun _=>?_) fun _=>?_
    | with_reducible refine br (fun _=>?_) fun _=>?_
    | with_reducible refine bd (wr (by omega) (by omega)) fun _ _=>?_
    | with_reducible refine bd (Zk8 _) fun _ _=>?_
    | with_reducible refine bd (Zv4 _ (by first | assumption | omega | exact And.left (by assumption) | (dsimp only; omega))) fun _ _=>?_
    | with_reducible refine bd (Zra _ (by assumption)) fun _ _=>?_
    | with_reducible refine bs ?_
    | with_reducible refine ok ?_
    | split
    | with_reducible refine And.intro ?_ ?_
    | assumption
    | exact True.intro
    | omega
    | (dsimp only; omega)
    | (simp only [List.length_set,List.length_append,List.length_cons,List.length_nil,List.length_replicate]; omega)
    | (obtain ⟨_,_⟩:=‹_ ∧ _›)
theorem Zzm (x : Z01) (hx : Z2r x) : Ok (Z4s x) (fun _=>True):=by
  unfold Z4s
  repeat' first
    | unfold Z8k
    | unfold Z90
    | unfold Zb8
    | unfold Z7y
    | unfold Zas
    | with_reducible refine brD (fun _=>?_) fun _=>?_
    | with_reducible refine br! (fun _=>?_) fun _=>?_
    | with_reducible refine brE (fun _=>?_) fun _=>?_
    | with_reducible refine br (fun _=>?_) fun _=>?_
    | with_reducible refine bd (Zvk _) fun _ _=>?_
    | with_reducible refine bd (Y06 _ _) fun _ _=>?_
    | with_reducible refine bd (Zxp _ (by first | assumption | omega | exact And.left (by assumption) | (dsimp only; omega))) fun _ _=>?_
    | with_reducible refine bd (Zzc _ (by first | assumption | omega | exact And.left (by assumption) | (dsimp only; omega))) fun _ _=>?_
    | with_reducible refine bs ?_
    | with_reducible refine ok ?_
    | with_reducible refine And.intro ?_ ?_
    | assumption
    | exact True.intro
    | omega
    | (dsimp only; omega)
    | (simp only [List.length_set,List.length_append,List.length_cons,List.length_nil,List.length_replicate]; omega)
    | (obtain ⟨_,_⟩:=‹_ ∧ _›)
theorem Y01 (x : Z01) (hx : Z2r x) : Ok (Zfw x) (fun _=>True):=by
  unfold Zfw
  repeat' first
    | unfold Zkp
    | unfold Zgo
    | unfold Zcd
    | with_reducible refine brD (fun _=>?_) fun _=>?_
    | with_reducible refine br! (fun _=>?_) fun _=>?_
    | with_reducible refine brE (fun _=>?_) fun _=>?_
    | with_reducible refine brN (fun _=>?_) fun _=>?_
    | with_reducible refine br (fun _=>?_) fun _=>?_
    | with_reducible refine bd (wr (by omega) (by omega)) fun _ _=>?_
    | with_reducible refine bd (Ztx _) fun _ _=>?_
    | with_reducible refine bd (Zyr _) fun _ _=>?_
    | with_reducible refine bd (Zsm _) fun _ _=>?_
    | with_reducible refine bs ?_
    | with_reducible refine ok ?_
    | with_reducible refine And.intro ?_ ?_
    | assumption
    | exact True.intro
    | omega
    | (dsimp only; omega)
    | (simp only [List.length_set,List.length_append,List.length_cons,List.length_nil,List.length_replicate]; omega)
    | (obtain ⟨_,_⟩:=‹_ ∧ _›)
theorem Zps (x : Int) : Ok (Zbu x) (fun l=>l.length ≤ 3):=by
  unfold Zbu
  repeat' first
    | unfold Znm
    | unfold Zlm
    | unfold Zm9
    | unfold Zmr
    | with_reducible refine brE (fun _=>?_) fun _=>?_
    | with_reducible refine br (fun _=>?_) fun _=>?_
    | with_reducible refine bd (Ztz _ _ _) fun _ _=>?_
    | with_reducible refine bs ?_
    | with_reducible refine ok ?_
    | (first | (simp; done) | decide)
    | with_reducible refine And.intro ?_ ?_
    | assumption
    | exact True.intro
    | omega
    | (dsimp only; omega)
    | (simp only [List.length_set,List.length_append,List.length_cons,List.length_nil,List.length_replicate]; omega)
    | (obtain ⟨_,_⟩:=‹_ ∧ _›)
theorem L158x1 (l : List Int) (x : Int) (hl : l.length ≤ 140737488355328) : Ok (Z0e (Zij l x) Z0i 0) (fun _=>True):=by
  refine li (l.length) (fun t _ _=>?_) (by omega) (by omega) (by omega)
  unfold Zij
  repeat' first
    | with_reducible refine ni ?_ ?_
    | with_reducible refine di ?_
    | with_reducible refine brD (fun _=>?_) fun _=>?_
    | with_reducible refine brE (fun _=>?_) fun _=>?_
    | with_reducible refine br (fun _=>?_) fun _=>?_
    | with_reducible refine bd (gr (by omega) (by omega)) fun _ _=>?_
    | with_reducible refine bd (wr (by omega) (by omega)) fun _ _=>?_
    | with_reducible refine bs ?_
    | with_reducible refine And.intro ?_ ?_
    | assumption
    | exact True.intro
    | omega
    | (dsimp only; omega)
    | (simp only [List.length_set,List.length_append,List.length_cons,List.length_nil,List.length_replicate]; omega)
    | (obtain ⟨_,_⟩:=‹_ ∧ _›)
theorem Y09 (l : List Int) (x : Int) (hl : l.length ≤ 140737488355328) : Ok (Zjt l x) (fun _=>True):=by
  unfold Zjt
  repeat' first
    | with_reducible refine bd (L158x1 _ _ (by first | assumption | omega | exact And.left (by assumption) | (dsimp only; omega))) fun _ _=>?_
    | with_reducible refine ok ?_
    | split
    | with_reducible refine And.intro ?_ ?_
    | assumption
    | exact True.intro
    | omega
    | (dsimp only; omega)
    | (simp only [List.length_set,List.length_append,List.length_cons,List.length_nil,List.length_replicate]; omega)
    | (obtain ⟨_,_⟩:=‹_ ∧ _›)
theorem Zwi (p : List Z00) (x : Z01) (hp : Z1e p) (hx : Z2r x) : Ok (Zi9 p x) (PR p):=by
  have:=hp.len
  unfold Zi9
  repeat' first
    | unfold Zl0
    | unfold Zfm
    | unfold Zhn
    | unfold Zlj
    | with_reducible refine brE (fun _=>?_) fun _=>?_
    | with_reducible refine br (fun _=>?_) fun _=>?_
    | with_reducible refine bd (Ztg _ _ (by first | exact hx.s | assumption) (by first | exact hx.s | assumption)) fun _ _=>?_
    | with_reducible refine bd (Zd8 _ _ (by first | assumption | omega | (dsimp only; omega) | exact And.left (by assumption) | (simp; done)) (by first | assumption | omega | (dsimp only; omega) | exact And.left (by assumption) | (simp; done)) (by first | assumption | omega | (dsimp only; omega) | exact And.left (by assumption) | (simp; done)) (by first | assumption | omega | (dsimp only; omega) | exact And.left (by assumption) | (simp; done))) fun _ _=>?_
    | with_reducible refine bd (Zsm _) fun _ _=>?_
    | with_reducible refine bd (Zmf _ _ (by first | exact hx.ref.c | assumption) (by first | exact hx.ref.c | assumption)) fun _ _=>?_
    | with_reducible refine bd (Zdq _ _ (by first | exact hx.s | assumption) (by first | exact hx.s | assumption)) fun _ _=>?_
    | with_reducible refine bd (Ztx _) fun _ _=>?_
    | with_reducible refine bd (Zw6 _ _ _ (by first | exact hx.ref | assumption) (by first | exact hx.ref | assumption)) fun _ _=>?_
    | with_reducible refine ok ?_
    | (first | exact ⟨by first | exact hp | exact And.left (by assumption),by dsimp only; omega,by dsimp only; omega,by dsimp only; omega,by dsimp only; omega⟩ | exact ⟨hp,by dsimp only; omega,by dsimp only; omega,by dsimp only; omega,by dsimp only; omega⟩)
    | with_reducible refine And.intro ?_ ?_
    | assumption
    | exact True.intro
    | omega
    | (dsimp only; omega)
    | (simp only [List.length_set,List.length_append,List.length_cons,List.length_nil,List.length_replicate]; omega)
    | (obtain ⟨_,_⟩:=‹_ ∧ _›)
theorem Zyj (p : List Z00) (x : Z01) (hp : Z1e p) (hx : Z2r x) : Ok (Zg0 p x) (fun r=>Z1e r.1 ∧ Z2r r.2.1):=by
  unfold Zg0
  repeat' first
    | unfold Zfa
    | unfold Zcc
    | with_reducible refine br! (fun _=>?_) fun _=>?_
    | with_reducible refine brE (fun _=>?_) fun _=>?_
    | with_reducible refine brN (fun _=>?_) fun _=>?_
    | with_reducible refine br (fun _=>?_) fun _=>?_
    | with_reducible refine bd (Zpg _) fun _ _=>?_
    | with_reducible refine bd (Zvk _) fun _ _=>?_
    | with_reducible refine bd (Zzm _ (by first | assumption | omega | exact And.left (by assumption) | (dsimp only; omega))) fun _ _=>?_
    | with_reducible refine bd (Y01 _ (by first | assumption | omega | exact And.left (by assumption) | (dsimp only; omega))) fun _ _=>?_
    | with_reducible refine bd (Zps _) fun _ _=>?_
    | with_reducible refine bd (Y09 _ _ (by first | assumption | omega | exact And.left (by assumption) | (dsimp only; omega))) fun _ _=>?_
    | with_reducible refine bd (Zwi _ _ (by first | assumption | omega | exact And.left (by assumption) | (dsimp only; omega)) (by first | assumption | omega | exact And.left (by assumption) | (dsimp only; omega))) fun _ _=>?_
    | with_reducible refine bs ?_
    | with_reducible refine ok ?_
    | (first | exact ⟨hp,W0⟩ | exact ⟨hp,hx⟩ | exact ⟨And.left (by assumption),W0⟩)
    | with_reducible refine And.intro ?_ ?_
    | assumption
    | exact True.intro
    | omega
    | (dsimp only; omega)
    | (simp only [List.length_set,List.length_append,List.length_cons,List.length_nil,List.length_replicate]; omega)
    | (obtain ⟨_,_⟩:=‹_ ∧ _›)
theorem Zyz (x : Z0p) (i : Z01) (hp : Z1e x.f_P) (hx : Z2r i) : Ok (Zik x i) (fun r=>Z1e r.1.f_P ∧ Z2r r.2):=by
  unfold Zik
  repeat' first
    | with_reducible refine brN (fun _=>?_) fun _=>?_
    | with_reducible refine br (fun _=>?_) fun _=>?_
    | with_reducible refine bd (Zyj _ _ (by first | assumption | omega | exact And.left (by assumption) | (dsimp only; omega)) (by first | assumption | omega | exact And.left (by assumption) | (dsimp only; omega))) fun _ _=>?_
    | with_reducible refine bs ?_
    | with_reducible refine ok ?_
    | (first | exact ⟨hp,W0⟩ | (dsimp only; assumption))
    | with_reducible refine And.intro ?_ ?_
    | assumption
    | exact True.intro
    | omega
    | (dsimp only; omega)
    | (simp only [List.length_set,List.length_append,List.length_cons,List.length_nil,List.length_replicate]; omega)
    | (obtain ⟨_,_⟩:=‹_ ∧ _›)
end Go.Proofs
