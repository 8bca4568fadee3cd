/-
  Class spaces: packages and subtypes, as the program and the reference tell them. No condition.
-/
import Derived.Test.YtldpbffppaednaaGreatAccT10
set_option linter.unusedVariables false
namespace Go.Proofs
open Go.Den Go.Tot
theorem Y0k (s : List UInt8) (hs : Str s) : Ok (Zge s) (fun v=>v = -1 ∨ (0 ≤ v ∧ v < s.length)):=by
 unfold Zge
 refine bd (wr (by omega) (by omega)) fun v0 h0=>bd (P:=fun q : Unit ⊕ Int=>match q with | .inl _=>True | .inr y=>0 ≤ y ∧ y < s.length) ?_ fun q hq=>?_
 ·rw [h0]
  refine lp (fun t : Int=>(s.length : Int) - 1 - t) s.length (fun t=>-1 ≤ t) (fun t hI g0 g1=>?_) (by omega) (by omega) (by omega) (by omega)
  unfold l46x1
  exact brD (fun _=>bd (gs (by omega) (by omega)) fun _ _=>brE (fun _=>dn ⟨by omega,by omega⟩) fun _=>bd (wr (by omega) (by omega)) fun _ hv=>nx (by omega) (by omega) (by omega)) fun _=>dn trivial
 cases q with
 | inl _=>exact ok (.inl rfl)
 | inr y=>exact ok (.inr hq)
theorem Zw3 (s : List UInt8) : Zma s 47 = Zge s:=rfl
theorem Zpv (s : List UInt8) (hs : Str s) : ∃ p,Zb6 s = some p ∧ Zjr s = some p:=by
 obtain ⟨v,e,h⟩:=Y0k s hs
 have e' : Zg8 s = some v:=by
  unfold Zg8 Zmw
  rw [Zw3,e]; rfl
 unfold Zb6 Zjr
 rw [e',e]
 dsimp only [Option.bind]
 rcases h with h | h
 ·subst h
  exact ⟨[],by simp [sub],by simp⟩
 ·have h1 : (if v > (0 : Int) then v else 0) = v:=by split <;> omega
  have h2 : decide (v < 0) = false:=by simp; omega
  rw [h1,h2]
  obtain ⟨r,hr,_⟩:=sb (l:=s) (lo:=0) (hi:=v) (by omega) (by omega) (by omega)
  exact ⟨r,by rw [hr],by rw [hr]; rfl⟩
theorem has_iff (w : Z0c) (a : Int) : Ok (Z6i w a) (fun b=>b = decide (0 ≤ a ∧ a < w.Z1d.length)):=by
 unfold Z6i
 exact brD (fun h=>ok (by simp; omega)) fun h=>ok (by simp; omega)
def In (w : Z0c) (a : Int) : Prop:=0 ≤ a ∧ a < w.Z1d.length
instance (w : Z0c) (a : Int) : Decidable (In w a):=by unfold In; infer_instance
theorem Zha (w : Z0c) (a : Int) : Z6i w a = some (decide (In w a)):=by obtain ⟨b,e,h⟩:=has_iff w a; rw [e,h]; rfl
theorem Zen (w : Z0c) (a : Int) : Z9y w a = some (decide (In w a)):=Zha w a
theorem Zv0 (w : Z0c) (a : Int) : Zkw w a = some (decide (In w a)):=Zha w a
theorem Zoj (w : Z0c) (a b : Int) : Zbn w a b = some (decide (In w a ∧ In w b)):=by
 unfold Zbn
 by_cases h1 : a ≥ 0 <;> by_cases h2 : a < w.Z1d.length <;> by_cases h3 : b ≥ 0 <;> simp [h1,h2,h3,In]
theorem In.get {w : Z0c} {a : Int} (h : In w a) : ∃ c,Z0g w.Z1d a = some c ∧ c ∈ w.Z1d ∧ w.Z1d[a.toNat]? = some c:=by
 obtain ⟨c,e,h1,h2⟩:=gri h.1 h.2; exact ⟨c,e,h1,h2⟩
theorem same_eq (w : Z0c) (hw : Z4u w) (a b : Int) : ∃ r,Z8r w a b = some r ∧ Zix w a b = some r ∧ (¬(In w a ∧ In w b) → r = false):=by
 unfold Z8r Zix
 rw [Zen,Zen,Zoj]
 by_cases ha : In w a <;> by_cases hb : In w b <;> simp only [ha,hb,decide_true,decide_false,Option.bind,and_self,and_true,and_false,false_and,true_and,Bool.not_true,Bool.not_false,Bool.false_eq_true,if_true,if_false,not_true,not_false_eq_true,false_implies]
 ·unfold j26x1 Zq1
  obtain ⟨c,ec,mc,_⟩:=ha.get
  obtain ⟨d,ed,md,_⟩:=hb.get
  rw [ec,ed]
  dsimp only [Option.bind]
  obtain ⟨p,e1,e2⟩:=Zpv _ (hw.cls c mc).1.n
  obtain ⟨q,e3,e4⟩:=Zpv _ (hw.cls d md).1.n
  rw [e1,e2,e3,e4]
  dsimp only [Option.bind]
  split <;> exact ⟨_,rfl,rfl⟩
 all_goals exact ⟨_,rfl,rfl,fun _=>rfl⟩
def Par (w : Z0c) (k j : Int) : Prop:=0 ≤ k ∧ ∃ c,w.Z1d[k.toNat]? = some c ∧ ((j = c.Z07 ∧ 0 ≤ j) ∨ j ∈ c.Z05)
inductive Reach (w : Z0c) (a : Int) : Int → Prop
 | refl : Reach w a a
 | snoc {k j : Int} : Reach w a k → Par w k j → Reach w a j
theorem Par.lt {w : Z0c} (hv : Z5g w) {k j : Int} (h : Par w k j) : 0 ≤ j ∧ j < k ∧ k < w.Z1d.length:=by
 obtain ⟨h0,c,hc,h⟩:=h
 have hk:=(List.getElem?_eq_some_iff.1 hc).1
 have:=hv.cls _ c hc
 rcases h with h | h
 ·rcases this.sup with h' | h' <;> omega
 ·have:=this.ifs j h; omega
theorem Reach.le {w : Z0c} (hv : Z5g w) {a j : Int} (h : Reach w a j) : j ≤ a:=by
 induction h with
 | refl=>omega
 | snoc _ h ih=>have:=h.lt hv; omega
def Bit (l : List Bool) (j : Int) : Prop:=0 ≤ j ∧ l[j.toNat]? = some true
theorem Bit.set {l : List Bool} {v : Nat} {j : Int} (hv : v < l.length) : Bit (l.set v true) j ↔ j = v ∨ Bit l j:=by
 unfold Bit
 rw [List.getElem?_set]
 by_cases h : v = j.toNat
 ·rw [if_pos h,if_pos hv]
  constructor
  ·intro g; left; omega
  ·rintro (g | g)
   ·exact ⟨by omega,rfl⟩
   ·exact ⟨g.1,rfl⟩
 ·rw [if_neg h]
  constructor
  ·intro g; exact .inr g
  ·rintro (g | g)
   ·omega
   ·exact g
theorem Bit.rep {n : Nat} {j : Int} : ¬Bit (List.replicate n false) j:=by
 rintro ⟨h,g⟩
 rw [List.getElem?_replicate] at g
 split at g <;> simp at g
def UpI (w : Z0c) (a i : Int) (l : List Bool) : Prop:=l.length = w.Z1d.length ∧ ∀ j,Bit l j ↔ j = a ∨ ∃ k,i < k ∧ Reach w a k ∧ Par w k j
theorem inner31 (w : Z0c) (c : Z0w) (l : List Bool) (hifs : ∀ n ∈ c.Z05,0 ≤ n ∧ n < l.length) (h8 : c.Z05.length ≤ 8) :
  Ok (Z0d (Zf8 c) Z0h (0,l)) (fun q=>q.length = l.length ∧ ∀ j,Bit q j ↔ j ∈ c.Z05 ∨ Bit l j):=by
 refine lp (fun t=>t.1) c.Z05.length (fun t=>t.2.length = l.length ∧ ∀ j,Bit t.2 j ↔ j ∈ c.Z05.take t.1.toNat ∨ Bit l j) (fun t hI g0 g1=>?_) (by omega) ⟨rfl,fun j=>by simp⟩ (by dsimp only; omega) (by dsimp only; omega)
 obtain ⟨k1,k2⟩:=hI
 unfold Zf8
 refine brD (fun hlt=>bd (gri (by omega) (by omega)) fun v hv=>bd (ik (by have:=hifs _ hv.1; omega) (by have:=hifs _ hv.1; omega)) fun n hn=>bd (la (by omega)) fun _ _=>bd (wr (by omega) (by omega)) fun _ hw=>nx ⟨by rw [List.length_set]; exact k1,fun j=>?_⟩ (by dsimp only; omega) (by dsimp only; omega)) fun hge=>dn ⟨k1,fun j=>?_⟩
 ·rw [Bit.set hn.2,k2,hw,show (t.1 + 1).toNat = t.1.toNat + 1 by omega,List.take_add_one,hv.2]
  simp only [Option.toList,List.mem_append,List.mem_singleton]
  have:=(hifs _ hv.1).1
  have : j = (n : Int) ↔ j = v:=by rw [hn.1]; omega
  rw [this]
  constructor
  ·rintro (h | h | h)
   ·exact .inl (.inr h)
   ·exact .inl (.inl h)
   ·exact .inr h
  ·rintro ((h | h) | h)
   ·exact .inr (.inl h)
   ·exact .inl h
   ·exact .inr (.inr h)
 ·have:=k2 j
  rwa [List.take_of_length_le (by omega)] at this
theorem UpI.step {w : Z0c} (hv : Z5g w) {a i : Int} {l l' : List Bool} (h0 : 0 ≤ i) (h : UpI w a i l) (hi : Bit l i) (hl : l'.length = l.length) (hb : ∀ j,Bit l' j ↔ Par w i j ∨ Bit l j) : UpI w a (i - 1) l':=by
 refine ⟨hl.trans h.1,fun j=>?_⟩
 have hr : Reach w a i:=by
  rcases (h.2 i).1 hi with e | ⟨k,_,hk,hp⟩
  ·rw [e]; exact .refl
  ·exact .snoc hk hp
 rw [hb,h.2]
 constructor
 ·rintro (g | g | ⟨k,g1,g2⟩)
  ·exact .inr ⟨i,by omega,hr,g⟩
  ·exact .inl g
  ·exact .inr ⟨k,by omega,g2⟩
 ·rintro (g | ⟨k,g1,g2,g3⟩)
  ·exact .inr (.inl g)
  ·by_cases e : k = i
   ·exact .inl (e ▸ g3)
   ·exact .inr (.inr ⟨k,by omega,g2,g3⟩)
theorem Reach.inv {w : Z0c} {a j : Int} (h : Reach w a j) : j = a ∨ ∃ k,Reach w a k ∧ Par w k j:=by
 cases h with
 | refl=>exact .inl rfl
 | snoc h g=>exact .inr ⟨_,h,g⟩
theorem UpI.skip {w : Z0c} (hv : Z5g w) {a i : Int} {l : List Bool} (h : UpI w a i l) (hi : ¬Bit l i) : UpI w a (i - 1) l:=by
 refine ⟨h.1,fun j=>?_⟩
 rw [h.2]
 constructor
 ·rintro (g | ⟨k,g1,g2⟩)
  ·exact .inl g
  ·exact .inr ⟨k,by omega,g2⟩
 ·rintro (g | ⟨k,g1,g2,g3⟩)
  ·exact .inl g
  ·by_cases e : k = i
   ·subst e
    refine absurd ((h.2 k).2 ?_) hi
    rcases g2.inv with e | ⟨m,hm,hp⟩
    ·exact .inl e
    ·exact .inr ⟨m,(hp.lt hv).2.1,hm,hp⟩
   ·exact .inr ⟨k,by omega,g2,g3⟩
theorem l31_ok (w : Z0c) (hv : Z5g w) (h40 : w.Z1d.length ≤ 200) (a : Int) (ha : In w a) (l : List Bool) (hl : UpI w a a l) :
  Ok (Z0d (Zhx w) Z0h (a,l)) (fun q=>q.length = w.Z1d.length ∧ ∀ j,Bit q j ↔ Reach w a j):=by
 obtain ⟨ha0,ha1⟩:=ha
 refine lp (fun t=>a - t.1) (a + 1) (fun t=>t.1 ≤ a ∧ -1 ≤ t.1 ∧ UpI w a t.1 t.2) (fun t hI g0 g1=>?_) (by omega) ⟨by dsimp only; omega,by dsimp only; omega,hl⟩ (by dsimp only; omega) (by dsimp only; omega)
 obtain ⟨i0,i1,i2⟩:=hI
 have hle:=i2.1
 unfold Zhx
 refine brD (fun hge=>bd (ik (by omega) (by omega)) fun n hn=>bd (la (by omega)) fun b hb=>?_) fun hlt=>dn ⟨hle,fun j=>?_⟩
 ·have hbit : Bit t.2 t.1 ↔ b = true:=by
   unfold Bit
   rw [← hn.1,hb.1]
   simp; omega
  refine br! (fun e=>bd (wr (by omega) (by omega)) fun k hk=>?_) fun e=>bd (gri (by omega) (by omega)) fun c hc=>?_
  ·subst hk
   exact nx ⟨by dsimp only; omega,by dsimp only; omega,i2.skip hv (by rw [hbit,e]; simp)⟩ (by dsimp only; omega) (by dsimp only; omega)
  ·have hB:=hbit.2 e
   have hcls:=hv.cls _ c hc.2
   have hpar : ∀ j,Par w t.1 j ↔ (j = c.Z07 ∧ 0 ≤ j) ∨ j ∈ c.Z05:=fun j=>by
    unfold Par
    rw [hc.2]
    constructor
    ·rintro ⟨_,d,hd,h⟩
     cases hd; exact h
    ·intro h; exact ⟨by omega,c,rfl,h⟩
   have hj : ∀ l' : List Bool,l'.length = t.2.length → (∀ j,Bit l' j ↔ (j = c.Z07 ∧ 0 ≤ j) ∨ Bit t.2 j) → Ok (Zch t c l') (St (fun t=>t.1 ≤ a ∧ -1 ≤ t.1 ∧ UpI w a t.1 t.2) (fun t=>a - t.1) (a + 1) (fun q=>q.length = w.Z1d.length ∧ ∀ j,Bit q j ↔ Reach w a j) t):=fun l' h1 h2=>by
    unfold Zch
    refine bd (inner31 w c l' (fun n hn=>by have:=hcls.ifs n hn; omega) hcls.ifsL) fun q hq=>bd (wr (by omega) (by omega)) fun k hk=>?_
    subst hk
    refine nx ⟨by dsimp only; omega,by dsimp only; omega,i2.step hv hge hB (hq.1.trans h1) fun j=>?_⟩ (by dsimp only; omega) (by dsimp only; omega)
    rw [hq.2,h2,hpar]
    constructor
    ·rintro (h | h | h)
     ·exact .inl (.inr h)
     ·exact .inl (.inl h)
     ·exact .inr h
    ·rintro ((h | h) | h)
     ·exact .inr (.inl h)
     ·exact .inl h
     ·exact .inr (.inr h)
   refine brD (fun hs=>bd (ik (by omega) (by rcases hcls.sup with h | h <;> omega)) fun m hm=>bd (la hm.2) fun _ _=>hj _ (List.length_set) fun j=>?_) fun hs=>hj _ rfl fun j=>?_
   ·rw [Bit.set hm.2,hm.1]
    constructor
    ·rintro (h | h)
     ·exact .inl (by omega)
     ·exact .inr h
    ·rintro (h | h)
     ·exact .inl (by omega)
     ·exact .inr h
   ·constructor
    ·intro h; exact .inr h
    ·rintro (h | h)
     ·exact absurd h.1 (by omega)
     ·exact h
 ·rw [i2.2]
  constructor
  ·rintro (h | ⟨k,_,h,hp⟩)
   ·rw [h]; exact .refl
   ·exact .snoc h hp
  ·intro h
   rcases h.inv with h | ⟨k,h,hp⟩
   ·exact .inl h
   ·exact .inr ⟨k,by have:=hp.1; omega,h,hp⟩
end Go.Proofs
