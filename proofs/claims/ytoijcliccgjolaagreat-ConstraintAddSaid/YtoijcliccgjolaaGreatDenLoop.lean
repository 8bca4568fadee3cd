/-
  Loops that ask something of Z67 place of a list, as models. No condition.
-/
import Derived.Test.YtoijcliccgjolaaGreatDenTot
namespace Go.Tot
open Go.Den Go.RowKit
variable {R : Type}
theorem allL {f : Int → Option (Ctl Int R)} {n : Int} {p : Int → Prop} {y z : R} (hn : 0 ≤ n) (hm : n ≤ 9223372036854775807)
  (h : ∀ t,0 ≤ t → t < n → (∀ k,0 ≤ k → k < t → p k) → Ok (f t) fun x=>(x = .next (t + 1) ∧ p t) ∨ (x = .done y ∧ ¬p t)) (he : Ok (f n) fun x=>x = .done z) :
  Ok (Z09 f Z0a 0) fun q=>(q = z ∧ ∀ t,0 ≤ t → t < n → p t) ∨ (q = y ∧ ∃ t,0 ≤ t ∧ t < n ∧ ¬p t):=by
 refine lp (fun t=>t) n (fun t=>∀ k,0 ≤ k → k < t → p k) (fun t hI h0 h1=>?_) hm (fun k a b=>by omega) (by omega) (by omega)
 rcases Int.lt_or_le t n with hlt | hge
 ·refine (h t h0 hlt hI).mono fun x hx=>?_
  rcases hx with ⟨e,g⟩ | ⟨e,g⟩
  ·subst e
   exact ⟨fun k a b=>by
    rcases Int.lt_or_le k t with h' | h'
    ·exact hI k a h'
    ·rw [show k = t by omega]; exact g,by dsimp only; omega,by dsimp only; omega⟩
  ·subst e
   exact .inr ⟨rfl,t,h0,hlt,g⟩
 ·have : t = n:=by omega
  subst this
  refine he.mono fun x hx=>?_
  subst hx
  exact .inl ⟨rfl,hI⟩
theorem allP {α : Type} {l : List α} {f : Int → Option (Ctl Int R)} {p : α → Prop} {y z : R} (hm : l.length ≤ 9223372036854775807)
  (h : ∀ (t : Int) v,0 ≤ t → t < l.length → l[t.toNat]? = some v → v ∈ l → Z08 l t = some v → Ok (f t) fun x=>(x = .next (t + 1) ∧ p v) ∨ (x = .done y ∧ ¬p v)) (he : Ok (f l.length) fun x=>x = .done z) :
  Ok (Z09 f Z0a 0) fun q=>(q = z ∧ ∀ v ∈ l,p v) ∨ (q = y ∧ ∃ v ∈ l,¬p v):=by
 refine (allL (n:=l.length) (p:=fun t=>∀ v,l[t.toNat]? = some v → p v) (y:=y) (z:=z) (by omega) (by omega) (fun t h0 h1 _=>?_) he).mono fun q hq=>?_
 ·obtain ⟨v,e,hm',hi⟩:=gri (l:=l) h0 h1
  refine (h t v h0 h1 hi hm' e).mono fun x hx=>?_
  rcases hx with ⟨e,g⟩ | ⟨e,g⟩
  ·exact .inl ⟨e,fun u hu=>by rw [hi] at hu; cases hu; exact g⟩
  ·exact .inr ⟨e,fun g'=>g (g' v hi)⟩
 ·rcases hq with ⟨e,g⟩ | ⟨e,t,h0,h1,g⟩
  ·refine .inl ⟨e,fun v hv=>?_⟩
   obtain ⟨j,hj⟩:=List.mem_iff_getElem?.1 hv
   have hlt:=(List.getElem?_eq_some_iff.1 hj).1
   exact g j (by omega) (by omega) v (by rwa [show ((j : Nat) : Int).toNat = j by omega])
  ·refine .inr ⟨e,?_⟩
   obtain ⟨v,_,hm',hi⟩:=gri (l:=l) h0 h1
   refine ⟨v,hm',fun g'=>g fun u hu=>?_⟩
   rw [hi] at hu; cases hu; exact g'
def Sm {T R : Type} (I : T → Prop) (μ : T → Nat) (Q : R → Prop) (t : T) : Ctl T R → Prop
 | .next t'=>I t' ∧ μ t' < μ t
 | .done r=>Q r
theorem lm {T R : Type} {f : T → Option (Ctl T R)} {Q : R → Prop} (I : T → Prop) (μ : T → Nat) (h : ∀ t,I t → Ok (f t) (Sm I μ Q t)) {t0 : T} (h0 : I t0) (hm : μ t0 < Z0a) : Ok (Z09 f Z0a t0) Q:=
 Zbo I μ Q (fun t ht=>by
  obtain ⟨x,e,p⟩:=h t ht
  refine ⟨x,e,?_⟩
  cases x with
  | next t'=>exact p
  | done r=>exact p) Z0a t0 h0 hm
def Bit (l : List Bool) (j : Int) : Prop:=0 ≤ j ∧ l[j.toNat]? = some true
theorem Bit.set {l : List Bool} {v : Nat} {j : Int} (hv : v < l.length) : Bit (l.set v true) j ↔ j = v ∨ Bit l j:=by
 unfold Bit
 rw [List.getElem?_set]
 by_cases h : v = j.toNat
 ·rw [if_pos h,if_pos hv]
  constructor
  ·intro g; left; omega
  ·rintro (g | g)
   ·exact ⟨by omega,rfl⟩
   ·exact ⟨g.1,rfl⟩
 ·rw [if_neg h]
  constructor
  ·intro g; exact .inr g
  ·rintro (g | g)
   ·omega
   ·exact g
theorem Bit.rep {n : Nat} {j : Int} : ¬Bit (List.replicate n false) j:=by
 rintro ⟨h,g⟩
 rw [List.getElem?_replicate] at g
 split at g <;> simp at g
theorem Bit.of {l : List Bool} {n : Nat} {b : Bool} {j : Int} (h : l[n]? = some b) (hj : j = n) : Bit l j ↔ b = true:=by
 subst hj
 unfold Bit
 rw [show ((n : Nat) : Int).toNat = n by omega,h]
 simp
theorem Zhz {l : List Bool} {n : Nat} (h : l[n]? = some true) : l.set n true = l:=by
 apply List.ext_getElem?
 intro i
 rw [List.getElem?_set]
 have hl:=(List.getElem?_eq_some_iff.1 h).1
 by_cases e : n = i
 ·subst e; rw [if_pos rfl,if_pos hl,h]
 ·rw [if_neg e]
theorem Zki {l : List Bool} {n : Nat} (h : l[n]? = some false) : (l.set n true).count true = l.count true + 1:=by
 have hl:=(List.getElem?_eq_some_iff.1 h).1
 have hg : l[n] = false:=(List.getElem?_eq_some_iff.1 h).2
 rw [List.count_set hl,hg]
 simp
theorem Zte {l : List Bool} {n : Nat} (h : n < l.length) : l.count true ≤ (l.set n true).count true:=by
 cases hb : l[n] with
 | true=>rw [Zhz (by rw [List.getElem?_eq_getElem h,hb])]; exact Nat.le_refl _
 | false=>rw [Zki (by rw [List.getElem?_eq_getElem h,hb])]; omega
end Go.Tot
