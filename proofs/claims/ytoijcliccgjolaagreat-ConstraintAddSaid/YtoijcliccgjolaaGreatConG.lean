/-
  Loaders that a name connects, and what the reference's Group marks. No condition.
-/
import Derived.Test.YtoijcliccgjolaaGreatConT10
import Derived.Test.YtoijcliccgjolaaGreatDenLoop
set_option linter.unusedVariables false
namespace Go.Proofs
open Go.Den Go.Tot
def Z74 (cs : List Z0x) (s : List UInt8) (i j : Int) : Prop:=∃ c ∈ cs,c.Z02 = s ∧ ((i = c.f_A ∧ j = c.f_B) ∨ (i = c.f_B ∧ j = c.f_A))
inductive Z1e (cs : List Z0x) (s : List UInt8) (a : Int) : Int → Prop
 | refl : Z1e cs s a a
 | step {i j : Int} : Z1e cs s a i → Z74 cs s i j → Z1e cs s a j
theorem Z74.symm {cs : List Z0x} {s : List UInt8} {i j : Int} (h : Z74 cs s i j) : Z74 cs s j i:=by
 obtain ⟨c,hc,hn,h⟩:=h
 exact ⟨c,hc,hn,h.symm.imp (fun h=>⟨h.2,h.1⟩) fun h=>⟨h.2,h.1⟩⟩
theorem Z1e.trans {cs : List Z0x} {s : List UInt8} {a i j : Int} (h : Z1e cs s a i) (g : Z1e cs s i j) : Z1e cs s a j:=by
 induction g with
 | refl=>exact h
 | step _ e ih=>exact .step ih e
theorem Z1e.symm {cs : List Z0x} {s : List UInt8} {a i : Int} (h : Z1e cs s a i) : Z1e cs s i a:=by
 induction h with
 | refl=>exact .refl
 | step _ e ih=>exact (Z1e.step .refl e.symm).trans ih
theorem Z1e.closed {cs : List Z0x} {s : List UInt8} {a : Int} {p : Int → Prop} (h0 : p a) (h : ∀ c ∈ cs,c.Z02 = s → (p c.f_A ↔ p c.f_B)) {j : Int} (g : Z1e cs s a j) : p j:=by
 induction g with
 | refl=>exact h0
 | step _ e ih=>
  obtain ⟨c,hc,hn,e⟩:=e
  rcases e with ⟨rfl,rfl⟩ | ⟨rfl,rfl⟩
  ·exact (h c hc hn).1 ih
  ·exact (h c hc hn).2 ih
def Z5d (cs : List Z0x) (s : List UInt8) (l : List Bool) : Prop:=∀ c ∈ cs,c.Z02 = s → Bit l c.f_A ∨ Bit l c.f_B → Bit l c.f_A ∧ Bit l c.f_B
theorem pass35 (w : Z04) (s : List UInt8) (a : Int) (l : List Bool) (hcl : w.Z0g.length ≤ 140737488355328) (hc : ∀ b ∈ w.Z0g,Z4i w b) (hl : l.length = w.Z0w.length) (hr : ∀ j,Bit l j → Z1e w.Z0g s a j) :
  Ok (Z09 (Zad w s) Z0a (0,l)) (fun q=>q.length = w.Z0w.length ∧ (∀ j,Bit l j → Bit q j) ∧ (∀ j,Bit q j → Z1e w.Z0g s a j) ∧ (Z5d w.Z0g s l → q = l) ∧ ((q = l ∧ Z5d w.Z0g s l) ∨ l.count true < q.count true)):=by
 refine lp (fun t=>t.1) w.Z0g.length (fun t=>t.2.length = w.Z0w.length ∧ (∀ j,Bit l j → Bit t.2 j) ∧ (∀ j,Bit t.2 j → Z1e w.Z0g s a j) ∧ (Z5d w.Z0g s l → t.2 = l) ∧ ((t.2 = l ∧ Z5d (w.Z0g.take t.1.toNat) s l) ∨ l.count true < t.2.count true)) (fun t hI h0 h1=>?_) (by omega) ⟨hl,fun _ h=>h,hr,fun _=>rfl,.inl ⟨rfl,fun c hc=>by simp at hc⟩⟩ (by dsimp only; omega) (by dsimp only; omega)
 obtain ⟨i1,i2,i3,i4,i5⟩:=hI
 unfold Zad
 refine brD (fun hlt=>bd (gri h0 hlt) fun c hcc=>?_) fun hge=>dn ⟨i1,i2,i3,i4,by
  have e : w.Z0g.take t.1.toNat = w.Z0g:=List.take_of_length_le (by omega)
  rwa [e] at i5⟩
 obtain ⟨hcm,hci⟩:=hcc
 have hok:=hc c hcm
 obtain ⟨ka0,ka1,kb0,kb1⟩:=id hok
 have hA : c.f_A.toNat < t.2.length:=by omega
 have hB : c.f_B.toNat < t.2.length:=by omega
 have htk : w.Z0g.take (t.1 + 1).toNat = w.Z0g.take t.1.toNat ++ [c] :=by
  rw [show (t.1 + 1).toNat = t.1.toNat + 1 by omega,List.take_add_one,hci]; rfl
 -- nothing is done
 have hskip : ∀ k,k = t.1 + 1 → (c.Z02 = s → ¬Bit t.2 c.f_A ∧ ¬Bit t.2 c.f_B) → Ok (some (Ctl.next (k,t.2) : Ctl (Int × (List Bool)) (List Bool))) (St (fun t=>t.2.length = w.Z0w.length ∧ (∀ j,Bit l j → Bit t.2 j) ∧ (∀ j,Bit t.2 j → Z1e w.Z0g s a j) ∧ (Z5d w.Z0g s l → t.2 = l) ∧ ((t.2 = l ∧ Z5d (w.Z0g.take t.1.toNat) s l) ∨ l.count true < t.2.count true)) (fun t=>t.1) w.Z0g.length (fun q=>q.length = w.Z0w.length ∧ (∀ j,Bit l j → Bit q j) ∧ (∀ j,Bit q j → Z1e w.Z0g s a j) ∧ (Z5d w.Z0g s l → q = l) ∧ ((q = l ∧ Z5d w.Z0g s l) ∨ l.count true < q.count true)) t):=fun k hk hn=>by
  subst hk
  refine nx ⟨i1,i2,i3,i4,?_⟩ (by dsimp only; omega) (by dsimp only; omega)
  rcases i5 with ⟨e,g⟩ | g
  ·refine .inl ⟨e,?_⟩
   dsimp only
   rw [htk]
   intro d hd hdn hor
   rcases List.mem_append.1 hd with hd | hd
   ·exact g d hd hdn hor
   ·rw [List.mem_singleton.1 hd] at hdn hor
    have:=hn hdn
    rw [e] at this
    exact absurd hor (fun h=>h.elim this.1 this.2)
  ·exact .inr g
 -- both are marked
 have hmark : c.Z02 = s → Bit t.2 c.f_A ∨ Bit t.2 c.f_B → Ok (Zbg t c) (St (fun t=>t.2.length = w.Z0w.length ∧ (∀ j,Bit l j → Bit t.2 j) ∧ (∀ j,Bit t.2 j → Z1e w.Z0g s a j) ∧ (Z5d w.Z0g s l → t.2 = l) ∧ ((t.2 = l ∧ Z5d (w.Z0g.take t.1.toNat) s l) ∨ l.count true < t.2.count true)) (fun t=>t.1) w.Z0g.length (fun q=>q.length = w.Z0w.length ∧ (∀ j,Bit l j → Bit q j) ∧ (∀ j,Bit q j → Z1e w.Z0g s a j) ∧ (Z5d w.Z0g s l → q = l) ∧ ((q = l ∧ Z5d w.Z0g s l) ∨ l.count true < q.count true)) t):=fun hn hor=>by
  have hconn : Z1e w.Z0g s a c.f_A ∧ Z1e w.Z0g s a c.f_B:=by
   rcases hor with h | h
   ·exact ⟨i3 _ h,.step (i3 _ h) ⟨c,hcm,hn,.inl ⟨rfl,rfl⟩⟩⟩
   ·exact ⟨.step (i3 _ h) ⟨c,hcm,hn,.inr ⟨rfl,rfl⟩⟩,i3 _ h⟩
  unfold Zbg
  refine bd (ik ka0 (by omega)) fun m hm=>bd (la hm.2) fun x hx=>bd (ik kb0 (by rw [List.length_set]; omega)) fun m' hm'=>bd (la hm'.2) fun y hy=>bd (wr (by omega) (by omega)) fun k hk=>?_
  rw [hm.1,hm'.1,hk]
  have hlA : c.f_A.toNat < t.2.length:=hA
  have hlB : c.f_B.toNat < (t.2.set c.f_A.toNat true).length:=by rw [List.length_set]; exact hB
  have hbit : ∀ j,Bit ((t.2.set c.f_A.toNat true).set c.f_B.toNat true) j ↔ j = c.f_B ∨ j = c.f_A ∨ Bit t.2 j:=fun j=>by
   rw [Bit.set hlB,Bit.set hlA]
   rw [show ((c.f_A.toNat : Nat) : Int) = c.f_A by omega,show ((c.f_B.toNat : Nat) : Int) = c.f_B by omega]
  have hboth : Bit t.2 c.f_A → Bit t.2 c.f_B → (t.2.set c.f_A.toNat true).set c.f_B.toNat true = t.2:=fun h h'=>by
   rw [Zhz h.2,Zhz h'.2]
  refine nx ⟨by simp only [List.length_set]; exact i1,fun j hj=>(hbit j).2 (.inr (.inr (i2 j hj))),fun j hj=>?_,fun hcl'=>?_,?_⟩ (by dsimp only; omega) (by dsimp only; omega)
  ·rcases (hbit j).1 hj with e | e | h
   ·rw [e]; exact hconn.2
   ·rw [e]; exact hconn.1
   ·exact i3 j h
  ·have e:=i4 hcl'
   rw [← e] at hcl'
   have:=hcl' c hcm hn hor
   exact (hboth this.1 this.2).trans e
  ·dsimp only
   rw [htk]
   by_cases hb : Bit t.2 c.f_A ∧ Bit t.2 c.f_B
   ·rw [hboth hb.1 hb.2]
    rcases i5 with ⟨e,g⟩ | g
    ·refine .inl ⟨e,?_⟩
     intro d hd hdn hor'
     rcases List.mem_append.1 hd with hd | hd
     ·exact g d hd hdn hor'
     ·rw [List.mem_singleton.1 hd]; rw [← e]; exact hb
    ·exact .inr g
   ·right
    have hle : l.count true ≤ t.2.count true:=by
     rcases i5 with ⟨e,_⟩ | g
     ·rw [e]; exact Nat.le_refl _
     ·omega
    have m1:=Zte hlA
    have m2:=Zte hlB
    by_cases hbA : Bit t.2 c.f_A
    ·have hbB : ¬Bit t.2 c.f_B:=fun h=>hb ⟨hbA,h⟩
     rw [Zhz hbA.2]
     have : t.2[c.f_B.toNat]? = some false:=by
      rw [List.getElem?_eq_getElem hB]
      cases hq : t.2[c.f_B.toNat] with
      | false=>rfl
      | true=>exact absurd ⟨kb0,by rw [List.getElem?_eq_getElem hB,hq]⟩ hbB
     rw [Zki this]
     omega
    ·have : t.2[c.f_A.toNat]? = some false:=by
      rw [List.getElem?_eq_getElem hA]
      cases hq : t.2[c.f_A.toNat] with
      | false=>rfl
      | true=>exact absurd ⟨ka0,by rw [List.getElem?_eq_getElem hA,hq]⟩ hbA
     have:=Zki this
     omega
 refine br (fun hn=>bd (ik ka0 (by omega)) fun m hm=>bd (la hm.2) fun x hx=>?_) fun hn=>bd (wr (by omega) (by omega)) fun k hk=>hskip k hk fun e=>?_
 ·have hn' : c.Z02 = s:=by simpa using hn
  have bA : Bit t.2 c.f_A ↔ x = true:=Bit.of hx.1 (by omega)
  refine br (fun e=>hmark hn' (.inl (bA.2 e))) fun e=>bd (ik kb0 (by omega)) fun m' hm'=>bd (la hm'.2) fun y hy=>?_
  have bB : Bit t.2 c.f_B ↔ y = true:=Bit.of hy.1 (by omega)
  refine br (fun e=>hmark hn' (.inr (bB.2 e))) fun e'=>bd (wr (by omega) (by omega)) fun k hk=>hskip k hk fun _=>⟨fun h=>?_,fun h=>?_⟩
  ·rw [bA.1 h] at e; cases e
  ·rw [bB.1 h] at e'; cases e'
 ·rw [e] at hn; simp at hn
theorem Zie (w : Z04) (s : List UInt8) (a : Int) (hcl : w.Z0g.length ≤ 140737488355328) (hll : w.Z0w.length ≤ 8) (hc : ∀ b ∈ w.Z0g,Z4i w b) (h0 : 0 ≤ a) (h1 : a < w.Z0w.length) :
  Ok (Z7a w s a) (fun q=>q.length = w.Z0w.length ∧ ∀ j,Bit q j ↔ Z1e w.Z0g s a j):=by
 unfold Z7a
 refine bd (mk (by omega) (by omega) (by omega) (by omega)) fun _ _=>bd (ik h0 (by simp; omega)) fun m hm=>bd (la hm.2) fun _ _=>bd (P:=fun q : List Bool=>q.length = w.Z0w.length ∧ ∀ j,Bit q j ↔ Z1e w.Z0g s a j) ?_ fun q hq=>ok hq
 refine lp (fun t=>t.1) w.Z0w.length (fun t=>t.2.length = w.Z0w.length ∧ Bit t.2 a ∧ (∀ j,Bit t.2 j → Z1e w.Z0g s a j) ∧ (Z5d w.Z0g s t.2 ∨ t.1 < t.2.count true)) (fun t hI g0 g1=>?_) (by omega) ⟨by simp,?_,fun j hj=>?_,.inr ?_⟩ (by dsimp only; omega) (by dsimp only; omega)
 ·obtain ⟨i1,i2,i3,i4⟩:=hI
  unfold Zdt
  refine brD (fun hlt=>bd (pass35 w s a t.2 hcl hc i1 i3) fun q hq=>bd (wr (by omega) (by omega)) fun k hk=>?_) fun hge=>dn ⟨i1,fun j=>⟨i3 j,fun hj=>?_⟩⟩
  ·obtain ⟨q1,q2,q3,q4,q5⟩:=hq
   refine nx ⟨q1,q2 a i2,q3,?_⟩ (by dsimp only; omega) (by dsimp only; omega)
   rcases q5 with ⟨e,g⟩ | g
   ·left; dsimp only; rw [e]; exact g
   ·rcases i4 with h | h
    ·left; dsimp only; rw [q4 h]; exact h
    ·right; dsimp only; omega
  ·have hclosed : Z5d w.Z0g s t.2:=by
    rcases i4 with h | h
    ·exact h
    ·have:=List.count_le_length (a:=true) (l:=t.2); omega
   exact Z1e.closed i2 (fun c hcm hn=>⟨fun h=>(hclosed c hcm hn (.inl h)).2,fun h=>(hclosed c hcm hn (.inr h)).1⟩) hj
 ·exact (Bit.set hm.2).2 (.inl (by omega))
 ·rcases (Bit.set hm.2).1 hj with e | e
  ·rw [show j = a by omega]; exact .refl
  ·exact absurd e Bit.rep
 ·dsimp only
  have : (List.replicate (w.Z0w.length : Int).toNat false)[m]? = some false:=by
   rw [List.getElem?_replicate,if_pos]; have:=hm.2; simpa using this
  rw [Zki this]; omega
end Go.Proofs
