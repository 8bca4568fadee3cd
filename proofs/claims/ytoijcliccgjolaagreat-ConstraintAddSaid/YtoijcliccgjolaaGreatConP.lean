/-
  Loaders that constraints connect: one constraint more. No condition.
-/
import Derived.Test.YtoijcliccgjolaaGreatConV
set_option linter.unusedVariables false
namespace Go.Proofs
open Go.Den Go.Tot
theorem Z74.mono {cs cs' : List Z0x} {s : List UInt8} {i j : Int} (h : ∀ c ∈ cs,c ∈ cs') (e : Z74 cs s i j) : Z74 cs' s i j:=by
 obtain ⟨c,hc,hn,e⟩:=e
 exact ⟨c,h c hc,hn,e⟩
theorem Z1e.lift {cs cs' : List Z0x} {s : List UInt8} {i j : Int} (h : ∀ i j,Z74 cs s i j → Z1e cs' s i j) (g : Z1e cs s i j) : Z1e cs' s i j:=by
 induction g with
 | refl=>exact .refl
 | step _ e ih=>exact ih.trans (h _ _ e)
theorem Z1e.mono {cs cs' : List Z0x} {s : List UInt8} {i j : Int} (h : ∀ c ∈ cs,c ∈ cs') (g : Z1e cs s i j) : Z1e cs' s i j:=g.lift fun _ _ e=> .step .refl (e.mono h)
theorem Zyh {cs : List Z0x} {s : List UInt8} {a b i j : Int} :
  Z1e (cs ++ [⟨s,a,b⟩]) s i j ↔ Z1e cs s i j ∨ (Z1e cs s i a ∧ Z1e cs s b j) ∨ (Z1e cs s i b ∧ Z1e cs s a j):=by
 constructor
 ·intro h
  induction h with
  | refl=>exact .inl .refl
  | step _ e ih=>
   obtain ⟨c,hc,hn,e⟩:=e
   rcases List.mem_append.1 hc with hc | hc
   ·have e' : Z74 cs s _ _:=⟨c,hc,hn,e⟩
    rcases ih with h | ⟨h,g⟩ | ⟨h,g⟩
    ·exact .inl (.step h e')
    ·exact .inr (.inl ⟨h,.step g e'⟩)
    ·exact .inr (.inr ⟨h,.step g e'⟩)
   ·rw [List.mem_singleton.1 hc] at e
    rcases e with ⟨rfl,rfl⟩ | ⟨rfl,rfl⟩
    ·rcases ih with h | ⟨h,g⟩ | ⟨h,g⟩
     ·exact .inr (.inl ⟨h,.refl⟩)
     ·exact .inr (.inl ⟨h,.refl⟩)
     ·exact .inl h
    ·rcases ih with h | ⟨h,g⟩ | ⟨h,g⟩
     ·exact .inr (.inr ⟨h,.refl⟩)
     ·exact .inl h
     ·exact .inr (.inr ⟨h,.refl⟩)
 ·have m : ∀ {i j},Z1e cs s i j → Z1e (cs ++ [⟨s,a,b⟩]) s i j:=fun h=>h.mono fun c hc=>List.mem_append_left _ hc
  have e : Z74 (cs ++ [⟨s,a,b⟩]) s a b:=⟨_,List.mem_append_right _ (List.mem_singleton.2 rfl),rfl,.inl ⟨rfl,rfl⟩⟩
  rintro (h | ⟨h,g⟩ | ⟨h,g⟩)
  ·exact m h
  ·exact (Z1e.step (m h) e).trans (m g)
  ·exact (Z1e.step (m h) e.symm).trans (m g)
theorem Y2m {cs : List Z0x} {s n : List UInt8} {a b i j : Int} (hn : s ≠ n) : Z1e (cs ++ [⟨s,a,b⟩]) n i j ↔ Z1e cs n i j:=by
 refine ⟨fun h=>h.lift fun i j e=>?_,fun h=>h.mono fun c hc=>List.mem_append_left _ hc⟩
 obtain ⟨c,hc,h,e⟩:=e
 rcases List.mem_append.1 hc with hc | hc
 ·exact .step .refl ⟨c,hc,h,e⟩
 ·rw [List.mem_singleton.1 hc] at h; exact absurd h hn
def Z81 (l : List Z1o) (cs : List Z0x) : Prop:=∀ u ∈ l,∀ v ∈ l,u.Z02 = v.Z02 → Z1e cs u.Z02 u.Z1f v.Z1f → u.Z0o = v.Z0o
def Cls (l : List Z1o) (cs : List Z0x) (s : List UInt8) (a : Int) (n : Int) : Prop:=∃ u ∈ l,u.Z02 = s ∧ Z1e cs s a u.Z1f ∧ u.Z0o = n
theorem Cls.one {l : List Z1o} {cs : List Z0x} {s : List UInt8} {a n m : Int} (h : Z81 l cs) (g : Cls l cs s a n) (g' : Cls l cs s a m) : n = m:=by
 obtain ⟨u,hu,hs,hc,rfl⟩:=g
 obtain ⟨v,hv,hs',hc',rfl⟩:=g'
 subst hs
 exact h u hu v hv hs'.symm (hc.symm.trans hc')
theorem Zf2 {l : List Z1o} {cs : List Z0x} {s : List UInt8} {a b : Int} (h : Z81 l cs) :
  Z81 l (cs ++ [⟨s,a,b⟩]) ↔ ∀ n m,Cls l cs s a n → Cls l cs s b m → n = m:=by
 constructor
 ·rintro g n m ⟨u,hu,hs,hc,rfl⟩ ⟨v,hv,hs',hc',rfl⟩
  subst hs
  exact g u hu v hv hs'.symm (Zyh.2 (.inr (.inl ⟨hc.symm,hc'⟩)))
 ·intro g u hu v hv hn hc
  by_cases e : s = u.Z02
  ·subst e
   rcases Zyh.1 hc with hc | ⟨h1,h2⟩ | ⟨h1,h2⟩
   ·exact h u hu v hv hn hc
   ·exact g _ _ ⟨u,hu,rfl,h1.symm,rfl⟩ ⟨v,hv,hn.symm,h2,rfl⟩
   ·exact (g _ _ ⟨v,hv,hn.symm,h2,rfl⟩ ⟨u,hu,rfl,h1.symm,rfl⟩).symm
  ·exact h u hu v hv hn ((Y2m e).1 hc)
end Go.Proofs
