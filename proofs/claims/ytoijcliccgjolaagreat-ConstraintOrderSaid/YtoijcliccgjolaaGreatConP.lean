/-
  Loaders that constraints connect: one constraint more. No condition.
-/
import Derived.Test.YtoijcliccgjolaaGreatConV
set_option linter.unusedVariables false
namespace Go.Proofs
open Go.Den Go.Tot
theorem Z6s.mono {cs cs' : List Z1a} {s : List UInt8} {i j : Int} (h : ∀ c ∈ cs,c ∈ cs') (e : Z6s cs s i j) : Z6s cs' s i j:=by
 obtain ⟨c,hc,hn,e⟩:=e
 exact ⟨c,h c hc,hn,e⟩
theorem Z17.lift {cs cs' : List Z1a} {s : List UInt8} {i j : Int} (h : ∀ i j,Z6s cs s i j → Z17 cs' s i j) (g : Z17 cs s i j) : Z17 cs' s i j:=by
 induction g with
 | refl=>exact .refl
 | step _ e ih=>exact ih.trans (h _ _ e)
theorem Z17.mono {cs cs' : List Z1a} {s : List UInt8} {i j : Int} (h : ∀ c ∈ cs,c ∈ cs') (g : Z17 cs s i j) : Z17 cs' s i j:=g.lift fun _ _ e=> .step .refl (e.mono h)
theorem Zoo {cs : List Z1a} {s : List UInt8} {a b i j : Int} :
  Z17 (cs ++ [⟨s,a,b⟩]) s i j ↔ Z17 cs s i j ∨ (Z17 cs s i a ∧ Z17 cs s b j) ∨ (Z17 cs s i b ∧ Z17 cs s a j):=by
 constructor
 ·intro h
  induction h with
  | refl=>exact .inl .refl
  | step _ e ih=>
   obtain ⟨c,hc,hn,e⟩:=e
   rcases List.mem_append.1 hc with hc | hc
   ·have e' : Z6s cs s _ _:=⟨c,hc,hn,e⟩
    rcases ih with h | ⟨h,g⟩ | ⟨h,g⟩
    ·exact .inl (.step h e')
    ·exact .inr (.inl ⟨h,.step g e'⟩)
    ·exact .inr (.inr ⟨h,.step g e'⟩)
   ·rw [List.mem_singleton.1 hc] at e
    rcases e with ⟨rfl,rfl⟩ | ⟨rfl,rfl⟩
    ·rcases ih with h | ⟨h,g⟩ | ⟨h,g⟩
     ·exact .inr (.inl ⟨h,.refl⟩)
     ·exact .inr (.inl ⟨h,.refl⟩)
     ·exact .inl h
    ·rcases ih with h | ⟨h,g⟩ | ⟨h,g⟩
     ·exact .inr (.inr ⟨h,.refl⟩)
     ·exact .inl h
     ·exact .inr (.inr ⟨h,.refl⟩)
 ·have m : ∀ {i j},Z17 cs s i j → Z17 (cs ++ [⟨s,a,b⟩]) s i j:=fun h=>h.mono fun c hc=>List.mem_append_left _ hc
  have e : Z6s (cs ++ [⟨s,a,b⟩]) s a b:=⟨_,List.mem_append_right _ (List.mem_singleton.2 rfl),rfl,.inl ⟨rfl,rfl⟩⟩
  rintro (h | ⟨h,g⟩ | ⟨h,g⟩)
  ·exact m h
  ·exact (Z17.step (m h) e).trans (m g)
  ·exact (Z17.step (m h) e.symm).trans (m g)
theorem Zpb {cs : List Z1a} {s n : List UInt8} {a b i j : Int} (hn : s ≠ n) : Z17 (cs ++ [⟨s,a,b⟩]) n i j ↔ Z17 cs n i j:=by
 refine ⟨fun h=>h.lift fun i j e=>?_,fun h=>h.mono fun c hc=>List.mem_append_left _ hc⟩
 obtain ⟨c,hc,h,e⟩:=e
 rcases List.mem_append.1 hc with hc | hc
 ·exact .step .refl ⟨c,hc,h,e⟩
 ·rw [List.mem_singleton.1 hc] at h; exact absurd h hn
def Z2g (cs cs' : List Z1a) : Prop:=∀ n i j,Z17 cs n i j ↔ Z17 cs' n i j
theorem Z2g.rfl {cs : List Z1a} : Z2g cs cs:=fun _ _ _=>Iff.rfl
theorem Z2g.symm {cs cs' : List Z1a} (h : Z2g cs cs') : Z2g cs' cs:=fun n i j=>(h n i j).symm
theorem Z2g.trans {cs cs' cs'' : List Z1a} (h : Z2g cs cs') (g : Z2g cs' cs'') : Z2g cs cs'':=fun n i j=>(h n i j).trans (g n i j)
theorem Zwf {cs cs' l : List Z1a} (h : Z2g cs cs') (n : List UInt8) (i j : Int) (g : Z17 (cs ++ l) n i j) : Z17 (cs' ++ l) n i j:=g.lift fun i j e=>by
 obtain ⟨c,hc,hn,e⟩:=e
 rcases List.mem_append.1 hc with hc | hc
 ·exact ((h n i j).1 (.step .refl ⟨c,hc,hn,e⟩)).mono fun c hc=>List.mem_append_left _ hc
 ·exact .step .refl ⟨c,List.mem_append_right _ hc,hn,e⟩
theorem Zjm {cs cs' : List Z1a} (l : List Z1a) (h : Z2g cs cs') : Z2g (cs ++ l) (cs' ++ l):=fun n i j=>⟨Zwf h n i j,Zwf h.symm n i j⟩
theorem Zw5 {cs : List Z1a} {s : List UInt8} {a b : Int} (h : Z17 cs s a b) : Z2g (cs ++ [⟨s,a,b⟩]) cs:=fun n i j=>by
 by_cases e : s = n
 ·subst e
  rw [Zoo]
  exact ⟨fun g=>g.elim id fun g=>g.elim (fun g=>(g.1.trans h).trans g.2) fun g=>(g.1.trans h.symm).trans g.2,.inl⟩
 ·exact Zpb e
theorem Zpy {cs : List Z1a} {c d : Z1a} : Z2g (cs ++ [c] ++ [d]) (cs ++ [d] ++ [c]):=fun n i j=>
 ⟨fun h=>h.mono fun x hx=>by simp only [List.mem_append,List.mem_singleton] at hx ⊢; rcases hx with (h | h) | h <;> simp [h],fun h=>h.mono fun x hx=>by simp only [List.mem_append,List.mem_singleton] at hx ⊢; rcases hx with (h | h) | h <;> simp [h]⟩
def Z43 (l : List Z21) (cs : List Z1a) : Prop:=∀ u ∈ l,∀ v ∈ l,u.Z03 = v.Z03 → Z17 cs u.Z03 u.Z1m v.Z1m → u.Z0s = v.Z0s
theorem Z43.same {l : List Z21} {cs cs' : List Z1a} (h : Z2g cs cs') : Z43 l cs ↔ Z43 l cs':=by
 unfold Z43
 constructor
 ·intro g u hu v hv hn hc; exact g u hu v hv hn ((h _ _ _).2 hc)
 ·intro g u hu v hv hn hc; exact g u hu v hv hn ((h _ _ _).1 hc)
def Cls (l : List Z21) (cs : List Z1a) (s : List UInt8) (a : Int) (n : Int) : Prop:=∃ u ∈ l,u.Z03 = s ∧ Z17 cs s a u.Z1m ∧ u.Z0s = n
theorem Cls.one {l : List Z21} {cs : List Z1a} {s : List UInt8} {a n m : Int} (h : Z43 l cs) (g : Cls l cs s a n) (g' : Cls l cs s a m) : n = m:=by
 obtain ⟨u,hu,hs,hc,rfl⟩:=g
 obtain ⟨v,hv,hs',hc',rfl⟩:=g'
 subst hs
 exact h u hu v hv hs'.symm (hc.symm.trans hc')
theorem Zf9 {l : List Z21} {cs : List Z1a} {s : List UInt8} {a b : Int} (h : Z43 l cs) :
  Z43 l (cs ++ [⟨s,a,b⟩]) ↔ ∀ n m,Cls l cs s a n → Cls l cs s b m → n = m:=by
 constructor
 ·rintro g n m ⟨u,hu,hs,hc,rfl⟩ ⟨v,hv,hs',hc',rfl⟩
  subst hs
  exact g u hu v hv hs'.symm (Zoo.2 (.inr (.inl ⟨hc.symm,hc'⟩)))
 ·intro g u hu v hv hn hc
  by_cases e : s = u.Z03
  ·subst e
   rcases Zoo.1 hc with hc | ⟨h1,h2⟩ | ⟨h1,h2⟩
   ·exact h u hu v hv hn hc
   ·exact g _ _ ⟨u,hu,rfl,h1.symm,rfl⟩ ⟨v,hv,hn.symm,h2,rfl⟩
   ·exact (g _ _ ⟨v,hv,hn.symm,h2,rfl⟩ ⟨u,hu,rfl,h1.symm,rfl⟩).symm
  ·exact h u hu v hv hn ((Zpb e).1 hc)
end Go.Proofs
