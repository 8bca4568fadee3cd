/-
  That the models come to an answer, part two: the pool that is built. No condition.
-/
import Derived.Test.YtoijcliccgjolaaGreatConT1
set_option linter.unusedVariables false
namespace Go.Proofs
open Go.Den Go.Tot
structure Z1f (p : List Z00) : Prop where
 len : p.length ≤ 1000
 ord : ∀ (k : Nat) c,p[k]? = some c → c.f_A ≤ k ∧ c.f_B ≤ k
 str : ∀ c ∈ p,Str c.f_S
theorem Z1f.app {p : List Z00} {c : Z00} (h : Z1f p) (hl : p.length < 1000) (ha : c.f_A ≤ p.length) (hb : c.f_B ≤ p.length) (hs : Str c.f_S) : Z1f (([] ++ p) ++ [c]):=by
 refine ⟨by simp; omega,fun k d hd=>?_,fun d hd=>?_⟩
 ·rw [List.nil_append] at hd
  rcases Nat.lt_trichotomy k p.length with h1 | h1 | h1
  ·rw [List.getElem?_append_left h1] at hd; exact h.ord k d hd
  ·subst h1
   rw [List.getElem?_append_right (Nat.le_refl _),Nat.sub_self] at hd
   cases hd; exact ⟨ha,hb⟩
  ·rw [List.getElem?_eq_none (by simp; omega)] at hd; cases hd
 ·rw [List.nil_append] at hd
  rcases List.mem_append.1 hd with hd | hd
  ·exact h.str d hd
  ·rw [List.mem_singleton.1 hd]; exact hs
theorem Z1f.nil : Z1f [] :=⟨by simp,fun k c h=>by simp at h,fun c h=>by simp at h⟩
abbrev PR (p : List Z00) (r : List Z00 × Int × Int) : Prop:=Z1f r.1 ∧ p.length ≤ r.1.length ∧ 0 ≤ r.2.1 ∧ r.2.1 ≤ r.1.length ∧ r.1.length ≤ 1000
theorem Z63 {α : Type} {P : α → Prop} {l : List α} {x : α} (h : ∀ v ∈ l,P v) (hx : P x) : ∀ v ∈ l ++ [x],P v:=fun v hv=>by
 rcases List.mem_append.1 hv with hv | hv
 ·exact h v hv
 ·rw [List.mem_singleton.1 hv]; exact hx
theorem Z3z {α : Type} {P : α → Prop} : ∀ v ∈ ([] : List α),P v:=fun v hv=>by simp at hv
theorem W0 {op a : Int} : Z2q { f_Op:=op,f_A:=a,f_B:=0,f_To:=0,Z0r:=[],Z0c:=[],Z13:={ Z0q:=[],Z02:=[],Z1h:=[] },f_S:=[] }:=⟨by simp,by simp,⟨by simp,by simp,by simp⟩,by simp⟩
theorem L77x1 (p : List Z00) (c : Z00) (hp : Z1f p) : Ok (Z09 (Zk3 p c) Z0a 0) (fun q=>match q with | .inl _=>True | .inr y=>PR p y):=by
 have:=hp.len
 refine li (p.length) (fun t _ _=>?_) (by omega) (by omega) (by omega)
 unfold Zk3
 repeat' first
  | with_reducible refine ni ?_ ?_
  | with_reducible refine di ?_
  | with_reducible refine brD (fun _=>?_) fun _=>?_
  | with_reducible refine br (fun _=>?_) fun _=>?_
  | with_reducible refine bd (gr (by omega) (by omega)) fun _ _=>?_
  | with_reducible refine bd (wr (by omega) (by omega)) fun _ _=>?_
  | with_reducible refine bs ?_
  | (exact ⟨hp,by omega,by omega,by omega,by omega⟩)
  | with_reducible refine And.intro ?_ ?_
  | assumption
  | exact True.intro
  | omega
  | (dsimp only; omega)
  | (simp only [List.length_set,List.length_append,List.length_cons,List.length_nil,List.length_replicate]; omega)
  | (obtain ⟨_,_⟩:=‹_ ∧ _›)
theorem Ze0 (p : List Z00) (c : Z00) (hp : Z1f p) (ha : c.f_A ≤ p.length) (hb : c.f_B ≤ p.length) (hs : Str c.f_S) : Ok (Z7g p c) (PR p):=by
 have:=hp.len
 unfold Z7g
 repeat' first
  | with_reducible refine brD (fun _=>?_) fun _=>?_
  | with_reducible refine br (fun _=>?_) fun _=>?_
  | with_reducible refine bd (wr (by omega) (by omega)) fun _ _=>?_
  | with_reducible refine bd (gk (by simp only [List.length_append,List.length_cons,List.length_nil]; omega) (by simp only [List.length_append,List.length_cons,List.length_nil]; omega)) fun _ _=>?_
  | with_reducible refine bd (L77x1 _ _ (by first | assumption | omega | exact And.left (by assumption) | (dsimp only; omega))) fun _ _=>?_
  | with_reducible refine bs ?_
  | with_reducible refine ok ?_
  | split
  | (first | exact ⟨hp.app (by omega) ha hb hs,by simp,by dsimp only; omega,by simp; omega,by simp; omega⟩ | exact ⟨hp,by dsimp only; omega,by dsimp only; omega,by dsimp only; omega,by dsimp only; omega⟩ | (dsimp only at *; assumption))
  | with_reducible refine And.intro ?_ ?_
  | assumption
  | exact True.intro
  | omega
  | (dsimp only; omega)
  | (simp only [List.length_set,List.length_append,List.length_cons,List.length_nil,List.length_replicate]; omega)
  | (obtain ⟨_,_⟩:=‹_ ∧ _›)
theorem Zeh (p : List Z00) (s : List UInt8) (hp : Z1f p) (hs : Str s) : Ok (Z94 p s) (PR p):=by
 have:=hp.len
 unfold Z94
 repeat' first
  | with_reducible refine bd (Ze0 _ _ (by first | assumption | omega | (dsimp only; omega) | exact And.left (by assumption) | (simp; done)) (by first | assumption | omega | (dsimp only; omega) | exact And.left (by assumption) | (simp; done)) (by first | assumption | omega | (dsimp only; omega) | exact And.left (by assumption) | (simp; done)) (by first | assumption | omega | (dsimp only; omega) | exact And.left (by assumption) | (simp; done))) fun _ _=>?_
  | with_reducible refine ok ?_
  | (first | exact ⟨by first | exact hp | exact And.left (by assumption),by dsimp only; omega,by dsimp only; omega,by dsimp only; omega,by dsimp only; omega⟩ | exact ⟨hp,by dsimp only; omega,by dsimp only; omega,by dsimp only; omega,by dsimp only; omega⟩)
  | with_reducible refine And.intro ?_ ?_
  | assumption
  | exact True.intro
  | omega
  | (dsimp only; omega)
  | (simp only [List.length_set,List.length_append,List.length_cons,List.length_nil,List.length_replicate]; omega)
  | (obtain ⟨_,_⟩:=‹_ ∧ _›)
theorem Zut (p : List Z00) (tag : Int) (s : List UInt8) (hp : Z1f p) (hs : Str s) : Ok (Zdj p tag s) (PR p):=by
 have:=hp.len
 unfold Zdj
 repeat' first
  | with_reducible refine brN (fun _=>?_) fun _=>?_
  | with_reducible refine br (fun _=>?_) fun _=>?_
  | with_reducible refine bd (Zeh _ _ (by first | assumption | omega | exact And.left (by assumption) | (dsimp only; omega)) (by first | assumption | omega | exact And.left (by assumption) | (dsimp only; omega))) fun _ _=>?_
  | with_reducible refine bd (Ze0 _ _ (by first | assumption | omega | (dsimp only; omega) | exact And.left (by assumption) | (simp; done)) (by first | assumption | omega | (dsimp only; omega) | exact And.left (by assumption) | (simp; done)) (by first | assumption | omega | (dsimp only; omega) | exact And.left (by assumption) | (simp; done)) (by first | assumption | omega | (dsimp only; omega) | exact And.left (by assumption) | (simp; done))) fun _ _=>?_
  | with_reducible refine bs ?_
  | with_reducible refine ok ?_
  | (first | exact ⟨by first | exact hp | exact And.left (by assumption),by dsimp only; omega,by dsimp only; omega,by dsimp only; omega,by dsimp only; omega⟩ | exact ⟨hp,by dsimp only; omega,by dsimp only; omega,by dsimp only; omega,by dsimp only; omega⟩)
  | with_reducible refine And.intro ?_ ?_
  | assumption
  | exact True.intro
  | omega
  | (dsimp only; omega)
  | (simp only [List.length_set,List.length_append,List.length_cons,List.length_nil,List.length_replicate]; omega)
  | (obtain ⟨_,_⟩:=‹_ ∧ _›)
theorem Zmg (p : List Z00) (s : List UInt8) (hp : Z1f p) (hs : Str s) : Ok (Zau p s) (PR p):=by
 have:=hp.len
 unfold Zau
 repeat' first
  | with_reducible refine bd (Zut _ _ _ (by first | assumption | omega | exact And.left (by assumption) | (dsimp only; omega)) (by first | assumption | omega | exact And.left (by assumption) | (dsimp only; omega))) fun _ _=>?_
  | with_reducible refine ok ?_
  | (first | exact ⟨by first | exact hp | exact And.left (by assumption),by dsimp only; omega,by dsimp only; omega,by dsimp only; omega,by dsimp only; omega⟩ | exact ⟨hp,by dsimp only; omega,by dsimp only; omega,by dsimp only; omega,by dsimp only; omega⟩)
  | with_reducible refine And.intro ?_ ?_
  | assumption
  | exact True.intro
  | omega
  | (dsimp only; omega)
  | (simp only [List.length_set,List.length_append,List.length_cons,List.length_nil,List.length_replicate]; omega)
  | (obtain ⟨_,_⟩:=‹_ ∧ _›)
theorem Zwl (p : List Z00) (s : List UInt8) (hp : Z1f p) (hs : Str s) : Ok (Zd5 p s) (PR p):=by
 have:=hp.len
 unfold Zd5
 repeat' first
  | with_reducible refine bd (Zut _ _ _ (by first | assumption | omega | exact And.left (by assumption) | (dsimp only; omega)) (by first | assumption | omega | exact And.left (by assumption) | (dsimp only; omega))) fun _ _=>?_
  | with_reducible refine ok ?_
  | (first | exact ⟨by first | exact hp | exact And.left (by assumption),by dsimp only; omega,by dsimp only; omega,by dsimp only; omega,by dsimp only; omega⟩ | exact ⟨hp,by dsimp only; omega,by dsimp only; omega,by dsimp only; omega,by dsimp only; omega⟩)
  | with_reducible refine And.intro ?_ ?_
  | assumption
  | exact True.intro
  | omega
  | (dsimp only; omega)
  | (simp only [List.length_set,List.length_append,List.length_cons,List.length_nil,List.length_replicate]; omega)
  | (obtain ⟨_,_⟩:=‹_ ∧ _›)
theorem Zdb (x : Z0l) (s : List UInt8) (hp : Z1f x.f_P) (hs : Str s) : Ok (Z92 x s) (fun r=>Z1f r.1.f_P):=by
 unfold Z92
 repeat' first
  | with_reducible refine brN (fun _=>?_) fun _=>?_
  | with_reducible refine br (fun _=>?_) fun _=>?_
  | with_reducible refine bd (Zmg _ _ (by first | assumption | omega | exact And.left (by assumption) | (dsimp only; omega)) (by first | assumption | omega | exact And.left (by assumption) | (dsimp only; omega))) fun _ _=>?_
  | with_reducible refine bs ?_
  | with_reducible refine ok ?_
  | (exact And.left (by assumption))
  | with_reducible refine And.intro ?_ ?_
  | assumption
  | exact True.intro
  | omega
  | (dsimp only; omega)
  | (simp only [List.length_set,List.length_append,List.length_cons,List.length_nil,List.length_replicate]; omega)
  | (obtain ⟨_,_⟩:=‹_ ∧ _›)
theorem Z6q (x : Z0l) (s : List UInt8) (hp : Z1f x.f_P) (hs : Str s) : Ok (Z5n x s) (fun r=>Z1f r.1.f_P):=by
 unfold Z5n
 repeat' first
  | with_reducible refine brN (fun _=>?_) fun _=>?_
  | with_reducible refine br (fun _=>?_) fun _=>?_
  | with_reducible refine bd (Zeh _ _ (by first | assumption | omega | exact And.left (by assumption) | (dsimp only; omega)) (by first | assumption | omega | exact And.left (by assumption) | (dsimp only; omega))) fun _ _=>?_
  | with_reducible refine bs ?_
  | with_reducible refine ok ?_
  | (exact And.left (by assumption))
  | with_reducible refine And.intro ?_ ?_
  | assumption
  | exact True.intro
  | omega
  | (dsimp only; omega)
  | (simp only [List.length_set,List.length_append,List.length_cons,List.length_nil,List.length_replicate]; omega)
  | (obtain ⟨_,_⟩:=‹_ ∧ _›)
theorem Y2i (x : Z0l) (f : Z3o) (hp : Z1f x.f_P) (hf : Zlz f) : Ok (Zgp x f) (fun r=>Z1f r.1.f_P):=by
 unfold Zgp
 repeat' first
  | unfold Zkm
  | with_reducible refine brE (fun _=>?_) fun _=>?_
  | with_reducible refine brN (fun _=>?_) fun _=>?_
  | with_reducible refine br (fun _=>?_) fun _=>?_
  | with_reducible refine bd (Zwl _ _ (by first | exact hf.s | assumption) (by first | exact hf.s | assumption)) fun _ _=>?_
  | with_reducible refine bd (Ze0 _ _ (by first | assumption | omega | (dsimp only; omega) | exact And.left (by assumption) | (simp; done)) (by first | assumption | omega | (dsimp only; omega) | exact And.left (by assumption) | (simp; done)) (by first | assumption | omega | (dsimp only; omega) | exact And.left (by assumption) | (simp; done)) (by first | assumption | omega | (dsimp only; omega) | exact And.left (by assumption) | (simp; done))) fun _ _=>?_
  | with_reducible refine bs ?_
  | with_reducible refine ok ?_
  | (exact And.left (by assumption))
  | with_reducible refine And.intro ?_ ?_
  | assumption
  | exact True.intro
  | omega
  | (dsimp only; omega)
  | (simp only [List.length_set,List.length_append,List.length_cons,List.length_nil,List.length_replicate]; omega)
  | (obtain ⟨_,_⟩:=‹_ ∧ _›)
theorem Y2j (p : List Z00) (tag : Int) (r : Z25) (hp : Z1f p) (hr : WRef r) : Ok (Za7 p tag r) (PR p):=by
 have:=hp.len
 unfold Za7
 repeat' first
  | with_reducible refine bd (Zeh _ _ (And.left (by assumption)) hr.n) fun _ _=>?_
  | with_reducible refine bd (Zeh _ _ (And.left (by assumption)) hr.d) fun _ _=>?_
  | with_reducible refine brN (fun _=>?_) fun _=>?_
  | with_reducible refine br (fun _=>?_) fun _=>?_
  | with_reducible refine bd (Zmg _ _ (by first | exact hr.c | assumption) (by first | exact hr.c | assumption)) fun _ _=>?_
  | with_reducible refine bd (Ze0 _ _ (by first | assumption | omega | (dsimp only; omega) | exact And.left (by assumption) | (simp; done)) (by first | assumption | omega | (dsimp only; omega) | exact And.left (by assumption) | (simp; done)) (by first | assumption | omega | (dsimp only; omega) | exact And.left (by assumption) | (simp; done)) (by first | assumption | omega | (dsimp only; omega) | exact And.left (by assumption) | (simp; done))) fun _ _=>?_
  | with_reducible refine bs ?_
  | with_reducible refine ok ?_
  | (first | exact ⟨by first | exact hp | exact And.left (by assumption),by dsimp only; omega,by dsimp only; omega,by dsimp only; omega,by dsimp only; omega⟩ | exact ⟨hp,by dsimp only; omega,by dsimp only; omega,by dsimp only; omega,by dsimp only; omega⟩)
  | with_reducible refine And.intro ?_ ?_
  | assumption
  | exact True.intro
  | omega
  | (dsimp only; omega)
  | (simp only [List.length_set,List.length_append,List.length_cons,List.length_nil,List.length_replicate]; omega)
  | (obtain ⟨_,_⟩:=‹_ ∧ _›)
theorem Zw4 (x : Int) : Ok (Z9u x) (fun _=>True):=by
 unfold Z9u
 repeat' first
  | with_reducible refine brD (fun _=>?_) fun _=>?_
  | with_reducible refine br (fun _=>?_) fun _=>?_
  | with_reducible refine bs ?_
  | with_reducible refine ok ?_
  | with_reducible refine And.intro ?_ ?_
  | assumption
  | exact True.intro
  | omega
  | (dsimp only; omega)
  | (simp only [List.length_set,List.length_append,List.length_cons,List.length_nil,List.length_replicate]; omega)
  | (obtain ⟨_,_⟩:=‹_ ∧ _›)
theorem Zyl (x a b : Int) : Ok (Z6g x a b) (fun _=>True):=by
 unfold Z6g
 repeat' first
  | with_reducible refine brD (fun _=>?_) fun _=>?_
  | with_reducible refine br (fun _=>?_) fun _=>?_
  | with_reducible refine bs ?_
  | with_reducible refine ok ?_
  | with_reducible refine And.intro ?_ ?_
  | assumption
  | exact True.intro
  | omega
  | (dsimp only; omega)
  | (simp only [List.length_set,List.length_append,List.length_cons,List.length_nil,List.length_replicate]; omega)
  | (obtain ⟨_,_⟩:=‹_ ∧ _›)
theorem Zyb (x : Int) : Ok (Ze3 x) (fun _=>True):=by
 unfold Ze3
 repeat' first
  | with_reducible refine brD (fun _=>?_) fun _=>?_
  | with_reducible refine br (fun _=>?_) fun _=>?_
  | with_reducible refine bs ?_
  | with_reducible refine ok ?_
  | with_reducible refine And.intro ?_ ?_
  | assumption
  | exact True.intro
  | omega
  | (dsimp only; omega)
  | (simp only [List.length_set,List.length_append,List.length_cons,List.length_nil,List.length_replicate]; omega)
  | (obtain ⟨_,_⟩:=‹_ ∧ _›)
theorem Zzp (x : Int) : Ok (Zj9 x) (fun _=>True):=by
 unfold Zj9
 repeat' first
  | with_reducible refine brD (fun _=>?_) fun _=>?_
  | with_reducible refine br (fun _=>?_) fun _=>?_
  | with_reducible refine bs ?_
  | with_reducible refine ok ?_
  | with_reducible refine And.intro ?_ ?_
  | assumption
  | exact True.intro
  | omega
  | (dsimp only; omega)
  | (simp only [List.length_set,List.length_append,List.length_cons,List.length_nil,List.length_replicate]; omega)
  | (obtain ⟨_,_⟩:=‹_ ∧ _›)
theorem Zvi (x : Int) : Ok (Zf3 x) (fun _=>True):=by
 unfold Zf3
 repeat' first
  | with_reducible refine brE (fun _=>?_) fun _=>?_
  | with_reducible refine br (fun _=>?_) fun _=>?_
  | with_reducible refine bs ?_
  | with_reducible refine ok ?_
  | with_reducible refine And.intro ?_ ?_
  | assumption
  | exact True.intro
  | omega
  | (dsimp only; omega)
  | (simp only [List.length_set,List.length_append,List.length_cons,List.length_nil,List.length_replicate]; omega)
  | (obtain ⟨_,_⟩:=‹_ ∧ _›)
theorem Zp8 (x : Int) : Ok (Zez x) (fun _=>True):=by
 unfold Zez
 repeat' first
  | with_reducible refine brD (fun _=>?_) fun _=>?_
  | with_reducible refine br (fun _=>?_) fun _=>?_
  | with_reducible refine bs ?_
  | with_reducible refine ok ?_
  | with_reducible refine And.intro ?_ ?_
  | assumption
  | exact True.intro
  | omega
  | (dsimp only; omega)
  | (simp only [List.length_set,List.length_append,List.length_cons,List.length_nil,List.length_replicate]; omega)
  | (obtain ⟨_,_⟩:=‹_ ∧ _›)
theorem Zu9 (x : Int) : Ok (Z6m x) (fun _=>True):=by
 unfold Z6m
 repeat' first
  | unfold Zke
  | unfold Zj6
  | with_reducible refine br! (fun _=>?_) fun _=>?_
  | with_reducible refine brE (fun _=>?_) fun _=>?_
  | with_reducible refine br (fun _=>?_) fun _=>?_
  | with_reducible refine bd (Zw4 _) fun _ _=>?_
  | with_reducible refine bd (Zyl _ _ _) fun _ _=>?_
  | with_reducible refine bs ?_
  | with_reducible refine ok ?_
  | with_reducible refine And.intro ?_ ?_
  | assumption
  | exact True.intro
  | omega
  | (dsimp only; omega)
  | (simp only [List.length_set,List.length_append,List.length_cons,List.length_nil,List.length_replicate]; omega)
  | (obtain ⟨_,_⟩:=‹_ ∧ _›)
theorem Zzn (x : Z01) (k : Int) : Ok (Zbq x k) (fun _=>True):=by
 unfold Zbq
 repeat' first
  | unfold Zha
  | unfold Zee
  | unfold Zew
  | with_reducible refine br! (fun _=>?_) fun _=>?_
  | with_reducible refine brE (fun _=>?_) fun _=>?_
  | with_reducible refine brN (fun _=>?_) fun _=>?_
  | with_reducible refine br (fun _=>?_) fun _=>?_
  | with_reducible refine bs ?_
  | with_reducible refine ok ?_
  | with_reducible refine And.intro ?_ ?_
  | assumption
  | exact True.intro
  | omega
  | (dsimp only; omega)
  | (simp only [List.length_set,List.length_append,List.length_cons,List.length_nil,List.length_replicate]; omega)
  | (obtain ⟨_,_⟩:=‹_ ∧ _›)
theorem L114x1 (x : Z01) (hx : Z2q x) : Ok (Z09 (Zbr x) Z0a 0) (fun _=>True):=by
 have:=hx.tos
 refine li (x.Z0c.length) (fun t _ _=>?_) (by omega) (by omega) (by omega)
 unfold Zbr
 repeat' first
  | with_reducible refine ni ?_ ?_
  | with_reducible refine di ?_
  | with_reducible refine brD (fun _=>?_) fun _=>?_
  | with_reducible refine br (fun _=>?_) fun _=>?_
  | with_reducible refine bd (gr (by omega) (by omega)) fun _ _=>?_
  | with_reducible refine bd (wr (by omega) (by omega)) fun _ _=>?_
  | with_reducible refine bs ?_
  | with_reducible refine And.intro ?_ ?_
  | assumption
  | exact True.intro
  | omega
  | (dsimp only; omega)
  | (simp only [List.length_set,List.length_append,List.length_cons,List.length_nil,List.length_replicate]; omega)
  | (obtain ⟨_,_⟩:=‹_ ∧ _›)
theorem Zzc (x : Z01) (hx : Z2q x) : Ok (Z7o x) (fun _=>True):=by
 unfold Z7o
 repeat' first
  | unfold Zi4
  | with_reducible refine brD (fun _=>?_) fun _=>?_
  | with_reducible refine br (fun _=>?_) fun _=>?_
  | with_reducible refine bd (L114x1 _ (by first | assumption | omega | exact And.left (by assumption) | (dsimp only; omega))) fun _ _=>?_
  | with_reducible refine bs ?_
  | with_reducible refine ok ?_
  | split
  | with_reducible refine And.intro ?_ ?_
  | assumption
  | exact True.intro
  | omega
  | (dsimp only; omega)
  | (simp only [List.length_set,List.length_append,List.length_cons,List.length_nil,List.length_replicate]; omega)
  | (obtain ⟨_,_⟩:=‹_ ∧ _›)
theorem Zs6 (x : Z01) (hx : Z2q x) : Ok (Z09 (Zk8 x) Z0a 0) (fun _=>True):=by
 have:=hx.keys
 refine li (x.Z0r.length) (fun t _ _=>?_) (by omega) (by omega) (by omega)
 unfold Zk8
 repeat' first
  | with_reducible refine ni ?_ ?_
  | with_reducible refine di ?_
  | with_reducible refine brD (fun _=>?_) fun _=>?_
  | with_reducible refine br! (fun _=>?_) fun _=>?_
  | with_reducible refine br (fun _=>?_) fun _=>?_
  | with_reducible refine bd (gr (by omega) (by omega)) fun _ _=>?_
  | with_reducible refine bd (wr (by omega) (by omega)) fun _ _=>?_
  | with_reducible refine bd (Zp8 _) fun _ _=>?_
  | with_reducible refine bs ?_
  | with_reducible refine And.intro ?_ ?_
  | assumption
  | exact True.intro
  | omega
  | (dsimp only; omega)
  | (simp only [List.length_set,List.length_append,List.length_cons,List.length_nil,List.length_replicate]; omega)
  | (obtain ⟨_,_⟩:=‹_ ∧ _›)
theorem Zt2 (x : Z01) (hx : Z2q x) : Ok (Z09 (Ziu x) Z0a 1) (fun _=>True):=by
 have:=hx.keys
 refine lp (fun t=>t) (max 1 x.Z0r.length) (fun t=>1 ≤ t) (fun t hI _ _=>?_) (by omega) (by omega) (by omega) (by omega)
 unfold Ziu
 repeat' first
  | with_reducible refine nx ?_ ?_ ?_
  | with_reducible refine dn ?_
  | with_reducible refine brD (fun _=>?_) fun _=>?_
  | with_reducible refine bd (gr (by omega) (by omega)) fun _ _=>?_
  | with_reducible refine bd (wr (by omega) (by omega)) fun _ _=>?_
  | exact True.intro
  | omega
theorem Zz3 (x : Z01) (hx : Z2q x) : Ok (Zb3 x) (fun _=>True):=by
 unfold Zb3
 repeat' first
  | unfold Zgr
  | unfold Zl0
  | with_reducible refine brD (fun _=>?_) fun _=>?_
  | with_reducible refine br! (fun _=>?_) fun _=>?_
  | with_reducible refine brE (fun _=>?_) fun _=>?_
  | with_reducible refine brN (fun _=>?_) fun _=>?_
  | with_reducible refine br (fun _=>?_) fun _=>?_
  | with_reducible refine bd (wr (by omega) (by omega)) fun _ _=>?_
  | with_reducible refine bd (Zp8 _) fun _ _=>?_
  | with_reducible refine bd (Zs6 _ (by first | assumption | omega | exact And.left (by assumption) | (dsimp only; omega))) fun _ _=>?_
  | with_reducible refine bd (Zt2 _ (by assumption)) fun _ _=>?_
  | with_reducible refine bs ?_
  | with_reducible refine ok ?_
  | split
  | with_reducible refine And.intro ?_ ?_
  | assumption
  | exact True.intro
  | omega
  | (dsimp only; omega)
  | (simp only [List.length_set,List.length_append,List.length_cons,List.length_nil,List.length_replicate]; omega)
  | (obtain ⟨_,_⟩:=‹_ ∧ _›)
theorem Y0y (x : Z01) (hx : Z2q x) : Ok (Z50 x) (fun _=>True):=by
 unfold Z50
 repeat' first
  | unfold Z8n
  | unfold Za1
  | unfold Zb1
  | unfold Z8o
  | unfold Zbf
  | with_reducible refine brD (fun _=>?_) fun _=>?_
  | with_reducible refine br! (fun _=>?_) fun _=>?_
  | with_reducible refine brE (fun _=>?_) fun _=>?_
  | with_reducible refine br (fun _=>?_) fun _=>?_
  | with_reducible refine bd (Zu9 _) fun _ _=>?_
  | with_reducible refine bd (Zzn _ _) fun _ _=>?_
  | with_reducible refine bd (Zzc _ (by first | assumption | omega | exact And.left (by assumption) | (dsimp only; omega))) fun _ _=>?_
  | with_reducible refine bd (Zz3 _ (by first | assumption | omega | exact And.left (by assumption) | (dsimp only; omega))) fun _ _=>?_
  | with_reducible refine bs ?_
  | with_reducible refine ok ?_
  | with_reducible refine And.intro ?_ ?_
  | assumption
  | exact True.intro
  | omega
  | (dsimp only; omega)
  | (simp only [List.length_set,List.length_append,List.length_cons,List.length_nil,List.length_replicate]; omega)
  | (obtain ⟨_,_⟩:=‹_ ∧ _›)
theorem Zzr (x : Z01) (hx : Z2q x) : Ok (Zl1 x) (fun _=>True):=by
 unfold Zl1
 repeat' first
  | unfold Zpn
  | unfold Zhk
  | unfold Zdh
  | with_reducible refine brD (fun _=>?_) fun _=>?_
  | with_reducible refine br! (fun _=>?_) fun _=>?_
  | with_reducible refine brE (fun _=>?_) fun _=>?_
  | with_reducible refine brN (fun _=>?_) fun _=>?_
  | with_reducible refine br (fun _=>?_) fun _=>?_
  | with_reducible refine bd (wr (by omega) (by omega)) fun _ _=>?_
  | with_reducible refine bd (Zyb _) fun _ _=>?_
  | with_reducible refine bd (Zzp _) fun _ _=>?_
  | with_reducible refine bd (Zvi _) fun _ _=>?_
  | with_reducible refine bs ?_
  | with_reducible refine ok ?_
  | with_reducible refine And.intro ?_ ?_
  | assumption
  | exact True.intro
  | omega
  | (dsimp only; omega)
  | (simp only [List.length_set,List.length_append,List.length_cons,List.length_nil,List.length_replicate]; omega)
  | (obtain ⟨_,_⟩:=‹_ ∧ _›)
theorem Zwe (x : Int) : Ok (Zdl x) (fun l=>l.length ≤ 3):=by
 unfold Zdl
 repeat' first
  | unfold Zo8
  | unfold Zpd
  | unfold Zmw
  | unfold Zpm
  | with_reducible refine brE (fun _=>?_) fun _=>?_
  | with_reducible refine br (fun _=>?_) fun _=>?_
  | with_reducible refine bd (Zyl _ _ _) fun _ _=>?_
  | with_reducible refine bs ?_
  | with_reducible refine ok ?_
  | (first | (simp; done) | decide)
  | with_reducible refine And.intro ?_ ?_
  | assumption
  | exact True.intro
  | omega
  | (dsimp only; omega)
  | (simp only [List.length_set,List.length_append,List.length_cons,List.length_nil,List.length_replicate]; omega)
  | (obtain ⟨_,_⟩:=‹_ ∧ _›)
theorem L158x1 (l : List Int) (x : Int) (hl : l.length ≤ 140737488355328) : Ok (Z09 (Zkc l x) Z0a 0) (fun _=>True):=by
 refine li (l.length) (fun t _ _=>?_) (by omega) (by omega) (by omega)
 unfold Zkc
 repeat' first
  | with_reducible refine ni ?_ ?_
  | with_reducible refine di ?_
  | with_reducible refine brD (fun _=>?_) fun _=>?_
  | with_reducible refine brE (fun _=>?_) fun _=>?_
  | with_reducible refine br (fun _=>?_) fun _=>?_
  | with_reducible refine bd (gr (by omega) (by omega)) fun _ _=>?_
  | with_reducible refine bd (wr (by omega) (by omega)) fun _ _=>?_
  | with_reducible refine bs ?_
  | with_reducible refine And.intro ?_ ?_
  | assumption
  | exact True.intro
  | omega
  | (dsimp only; omega)
  | (simp only [List.length_set,List.length_append,List.length_cons,List.length_nil,List.length_replicate]; omega)
  | (obtain ⟨_,_⟩:=‹_ ∧ _›)
theorem Y3f (l : List Int) (x : Int) (hl : l.length ≤ 140737488355328) : Ok (Zfw l x) (fun _=>True):=by
 unfold Zfw
 repeat' first
  | with_reducible refine bd (L158x1 _ _ (by first | assumption | omega | exact And.left (by assumption) | (dsimp only; omega))) fun _ _=>?_
  | with_reducible refine ok ?_
  | split
  | with_reducible refine And.intro ?_ ?_
  | assumption
  | exact True.intro
  | omega
  | (dsimp only; omega)
  | (simp only [List.length_set,List.length_append,List.length_cons,List.length_nil,List.length_replicate]; omega)
  | (obtain ⟨_,_⟩:=‹_ ∧ _›)
theorem Y00 (p : List Z00) (x : Z01) (hp : Z1f p) (hx : Z2q x) : Ok (Zi5 p x) (PR p):=by
 have:=hp.len
 unfold Zi5
 repeat' first
  | unfold Zma
  | unfold Zkr
  | unfold Zjg
  | unfold Zls
  | with_reducible refine brE (fun _=>?_) fun _=>?_
  | with_reducible refine br (fun _=>?_) fun _=>?_
  | with_reducible refine bd (Zwl _ _ (by first | exact hx.s | assumption) (by first | exact hx.s | assumption)) fun _ _=>?_
  | with_reducible refine bd (Ze0 _ _ (by first | assumption | omega | (dsimp only; omega) | exact And.left (by assumption) | (simp; done)) (by first | assumption | omega | (dsimp only; omega) | exact And.left (by assumption) | (simp; done)) (by first | assumption | omega | (dsimp only; omega) | exact And.left (by assumption) | (simp; done)) (by first | assumption | omega | (dsimp only; omega) | exact And.left (by assumption) | (simp; done))) fun _ _=>?_
  | with_reducible refine bd (Zvi _) fun _ _=>?_
  | with_reducible refine bd (Zmg _ _ (by first | exact hx.ref.c | assumption) (by first | exact hx.ref.c | assumption)) fun _ _=>?_
  | with_reducible refine bd (Zeh _ _ (by first | exact hx.s | assumption) (by first | exact hx.s | assumption)) fun _ _=>?_
  | with_reducible refine bd (Zyb _) fun _ _=>?_
  | with_reducible refine bd (Y2j _ _ _ (by first | exact hx.ref | assumption) (by first | exact hx.ref | assumption)) fun _ _=>?_
  | with_reducible refine ok ?_
  | (first | exact ⟨by first | exact hp | exact And.left (by assumption),by dsimp only; omega,by dsimp only; omega,by dsimp only; omega,by dsimp only; omega⟩ | exact ⟨hp,by dsimp only; omega,by dsimp only; omega,by dsimp only; omega,by dsimp only; omega⟩)
  | with_reducible refine And.intro ?_ ?_
  | assumption
  | exact True.intro
  | omega
  | (dsimp only; omega)
  | (simp only [List.length_set,List.length_append,List.length_cons,List.length_nil,List.length_replicate]; omega)
  | (obtain ⟨_,_⟩:=‹_ ∧ _›)
theorem Y1s (p : List Z00) (x : Z01) (hp : Z1f p) (hx : Z2q x) : Ok (Zfs p x) (fun r=>Z1f r.1 ∧ Z2q r.2.1):=by
 unfold Zfs
 repeat' first
  | unfold Zj4
  | unfold Ze1
  | with_reducible refine br! (fun _=>?_) fun _=>?_
  | with_reducible refine brE (fun _=>?_) fun _=>?_
  | with_reducible refine brN (fun _=>?_) fun _=>?_
  | with_reducible refine br (fun _=>?_) fun _=>?_
  | with_reducible refine bd (Zw4 _) fun _ _=>?_
  | with_reducible refine bd (Zu9 _) fun _ _=>?_
  | with_reducible refine bd (Y0y _ (by first | assumption | omega | exact And.left (by assumption) | (dsimp only; omega))) fun _ _=>?_
  | with_reducible refine bd (Zzr _ (by first | assumption | omega | exact And.left (by assumption) | (dsimp only; omega))) fun _ _=>?_
  | with_reducible refine bd (Zwe _) fun _ _=>?_
  | with_reducible refine bd (Y3f _ _ (by first | assumption | omega | exact And.left (by assumption) | (dsimp only; omega))) fun _ _=>?_
  | with_reducible refine bd (Y00 _ _ (by first | assumption | omega | exact And.left (by assumption) | (dsimp only; omega)) (by first | assumption | omega | exact And.left (by assumption) | (dsimp only; omega))) fun _ _=>?_
  | with_reducible refine bs ?_
  | with_reducible refine ok ?_
  | (first | exact ⟨hp,W0⟩ | exact ⟨hp,hx⟩ | exact ⟨And.left (by assumption),W0⟩)
  | with_reducible refine And.intro ?_ ?_
  | assumption
  | exact True.intro
  | omega
  | (dsimp only; omega)
  | (simp only [List.length_set,List.length_append,List.length_cons,List.length_nil,List.length_replicate]; omega)
  | (obtain ⟨_,_⟩:=‹_ ∧ _›)
theorem Y27 (x : Z0l) (i : Z01) (hp : Z1f x.f_P) (hx : Z2q i) : Ok (Zkz x i) (fun r=>Z1f r.1.f_P ∧ Z2q r.2):=by
 unfold Zkz
 repeat' first
  | with_reducible refine brN (fun _=>?_) fun _=>?_
  | with_reducible refine br (fun _=>?_) fun _=>?_
  | with_reducible refine bd (Y1s _ _ (by first | assumption | omega | exact And.left (by assumption) | (dsimp only; omega)) (by first | assumption | omega | exact And.left (by assumption) | (dsimp only; omega))) fun _ _=>?_
  | with_reducible refine bs ?_
  | with_reducible refine ok ?_
  | (first | exact ⟨hp,W0⟩ | (dsimp only; assumption))
  | with_reducible refine And.intro ?_ ?_
  | assumption
  | exact True.intro
  | omega
  | (dsimp only; omega)
  | (simp only [List.length_set,List.length_append,List.length_cons,List.length_nil,List.length_replicate]; omega)
  | (obtain ⟨_,_⟩:=‹_ ∧ _›)
end Go.Proofs
