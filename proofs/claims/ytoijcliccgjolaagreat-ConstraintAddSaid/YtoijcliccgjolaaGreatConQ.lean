/-
  A list of loaders that grows by the constraints. No condition.
-/
import Derived.Test.YtoijcliccgjolaaGreatConP
set_option linter.unusedVariables false
namespace Go.Proofs
open Go.Den Go.Tot
theorem Zur {α : Type} {p q : α → Bool} : ∀ {l : List α},(∀ x ∈ l,p x = true → q x = true) → (∃ c ∈ l,p c = false ∧ q c = true) → l.countP p < l.countP q
 | [],_,⟨c,hc,_⟩=>absurd hc (by simp)
 | x :: l,h,⟨c,hc,e1,e2⟩=>by
  rw [List.countP_cons,List.countP_cons]
  have hm : l.countP p ≤ l.countP q:=List.countP_mono_left fun y hy=>h y (.tail _ hy)
  rcases List.mem_cons.1 hc with rfl | hc
  ·simp only [e1,e2,if_true,Bool.false_eq_true,if_false]; omega
  ·have:=Zur (fun y hy=>h y (.tail _ hy)) ⟨c,hc,e1,e2⟩
   have hx:=h x (.head _)
   cases hp : p x with
   | false=>simp only [Bool.false_eq_true,if_false]; omega
   | true=>rw [hx hp]; omega
def opn (cs : List Z0x) (s : List UInt8) (l : List Int) : Nat:=cs.countP fun c=>decide (c.Z02 = s ∧ ¬(c.f_A ∈ l ∧ c.f_B ∈ l))
theorem Zyk {cs : List Z0x} {s : List UInt8} {l : List Int} : opn cs s l ≤ cs.length:=List.countP_le_length
def Z53 (cs : List Z0x) (s : List UInt8) (a : Int) (l : List Int) : Prop:=a ∈ l ∧ (∀ j ∈ l,Z1e cs s a j) ∧ l.length + opn cs s l ≤ cs.length + 1
theorem Z53.start {cs : List Z0x} {s : List UInt8} {a : Int} : Z53 cs s a [a] :=
 ⟨List.mem_singleton.2 rfl,fun j hj=>by rw [List.mem_singleton.1 hj]; exact .refl,by have:=Zyk (cs:=cs) (s:=s) (l:=[a]); simp only [List.length_cons,List.length_nil]; omega⟩
theorem Z53.len {cs : List Z0x} {s : List UInt8} {a : Int} {l : List Int} (h : Z53 cs s a l) : l.length ≤ cs.length + 1:=by have:=h.2.2; omega
theorem Zs1 {cs : List Z0x} {s : List UInt8} {l : List Int} {c : Z0x} {x : Int} (hc : c ∈ cs) (hn : c.Z02 = s) (hx : ¬(c.f_A ∈ l ∧ c.f_B ∈ l)) (hA : c.f_A ∈ l ++ [x]) (hB : c.f_B ∈ l ++ [x]) : opn cs s (l ++ [x]) < opn cs s l:=by
 refine Zur (fun d hd h=>?_) ⟨c,hc,?_,?_⟩
 ·simp only [decide_eq_true_eq] at h ⊢
  exact ⟨h.1,fun g=>h.2 ⟨List.mem_append_left _ g.1,List.mem_append_left _ g.2⟩⟩
 ·simp only [decide_eq_false_iff_not]
  exact fun g=>g.2 ⟨hA,hB⟩
 ·simp only [decide_eq_true_eq]
  exact ⟨hn,hx⟩
theorem Z53.grow {cs : List Z0x} {s : List UInt8} {a : Int} {l : List Int} (h : Z53 cs s a l) {c : Z0x} {x y : Int} (hc : c ∈ cs) (hn : c.Z02 = s) (hxy : (c.f_A = x ∧ c.f_B = y) ∨ (c.f_A = y ∧ c.f_B = x)) (hx : x ∈ l) (hy : y ∉ l) :
  Z53 cs s a (l ++ [y]) ∧ opn cs s (l ++ [y]) < opn cs s l:=by
 have hlt : opn cs s (l ++ [y]) < opn cs s l:=by
  have h1 : x ∈ l ++ [y] :=List.mem_append_left _ hx
  have h2 : y ∈ l ++ [y] :=List.mem_append_right _ (List.mem_singleton.2 rfl)
  rcases hxy with ⟨e1,e2⟩ | ⟨e1,e2⟩
  ·exact Zs1 hc hn (fun g=>hy (e2 ▸ g.2)) (e1 ▸ h1) (e2 ▸ h2)
  ·exact Zs1 hc hn (fun g=>hy (e1 ▸ g.1)) (e1 ▸ h2) (e2 ▸ h1)
 refine ⟨⟨List.mem_append_left _ h.1,fun j hj=>?_,?_⟩,hlt⟩
 ·rcases List.mem_append.1 hj with hj | hj
  ·exact h.2.1 j hj
  ·rw [List.mem_singleton.1 hj]
   refine .step (h.2.1 x hx) ⟨c,hc,hn,?_⟩
   rcases hxy with ⟨e1,e2⟩ | ⟨e1,e2⟩
   ·exact .inl ⟨e1.symm,e2.symm⟩
   ·exact .inr ⟨e2.symm,e1.symm⟩
 ·have:=h.2.2
  simp only [List.length_append,List.length_cons,List.length_nil]; omega
def Shut (cs : List Z0x) (s : List UInt8) (l : List Int) : Prop:=∀ c ∈ cs,c.Z02 = s → (c.f_A ∈ l ↔ c.f_B ∈ l)
theorem Z53.shut {cs : List Z0x} {s : List UInt8} {a : Int} {l : List Int} (h : Z53 cs s a l) (g : Shut cs s l) (j : Int) : j ∈ l ↔ Z1e cs s a j:=
 ⟨h.2.1 j,fun hj=>Z1e.closed (p:=fun j=>j ∈ l) h.1 g hj⟩
structure Z66 (cs : List Z0x) (s : List UInt8) (a : Int) (l0 : List Int) (i : Nat) (g : Bool) (l : List Int) : Prop where
 comp : Z53 cs s a l
 yes : g = true → opn cs s l < opn cs s l0
 no : g = false → l = l0 ∧ Shut (cs.take i) s l0
theorem Z66.start {cs : List Z0x} {s : List UInt8} {a : Int} {l0 : List Int} (h : Z53 cs s a l0) : Z66 cs s a l0 0 false l0:=⟨h,by simp,fun _=>⟨rfl,fun c hc=>by simp at hc⟩⟩
theorem Y00 {cs : List Z0x} {i : Nat} {c : Z0x} (h : cs[i]? = some c) : cs.take (i + 1) = cs.take i ++ [c] :=by
 rw [List.take_add_one,h]; rfl
theorem Z66.skip {cs : List Z0x} {s : List UInt8} {a : Int} {l0 l : List Int} {i : Nat} {g : Bool} {c : Z0x} (h : Z66 cs s a l0 i g l) (hi : cs[i]? = some c) (hs : c.Z02 = s → (c.f_A ∈ l ↔ c.f_B ∈ l)) : Z66 cs s a l0 (i + 1) g l:=
 ⟨h.comp,h.yes,fun e=>⟨(h.no e).1,by
  rw [Y00 hi]
  intro d hd hn
  rcases List.mem_append.1 hd with hd | hd
  ·exact (h.no e).2 d hd hn
  ·rw [List.mem_singleton.1 hd] at hn ⊢; rw [← (h.no e).1]; exact hs hn⟩⟩
theorem Z66.grow {cs : List Z0x} {s : List UInt8} {a : Int} {l0 l : List Int} {i k : Nat} {g : Bool} {c : Z0x} {x y : Int} (h : Z66 cs s a l0 i g l) (hc : c ∈ cs) (hn : c.Z02 = s) (hxy : (c.f_A = x ∧ c.f_B = y) ∨ (c.f_A = y ∧ c.f_B = x)) (hx : x ∈ l) (hy : y ∉ l) : Z66 cs s a l0 k true (l ++ [y]):=by
 obtain ⟨h1,h2⟩:=h.comp.grow hc hn hxy hx hy
 refine ⟨h1,fun _=>?_,by simp⟩
 cases g with
 | true=>have:=h.yes rfl; omega
 | false=>rw [(h.no rfl).1] at h2 ⊢; exact h2
end Go.Proofs
