/-
  Subtypes as the program tells them: a list of what is still to be looked at. No condition.
-/
import Derived.Test.YtldpbffppaednaaGreatAccL1
set_option linter.unusedVariables false
namespace Go.Proofs
open Go.Den Go.Tot
theorem tk {α : Type} {l : List α} {i : Int} (h0 : 0 ≤ i) (h1 : i ≤ l.length) : Ok (W.Z9k l i) fun r=>r = l.take i.toNat:=⟨_,by unfold W.Z9k; rw [if_pos ⟨h0,h1⟩],rfl⟩
def Sm {T R : Type} (I : T → Prop) (μ : T → Nat) (Q : R → Prop) (t : T) : Ctl T R → Prop
 | .next t'=>I t' ∧ μ t' < μ t
 | .done r=>Q r
theorem lm {T R : Type} {f : T → Option (Ctl T R)} {Q : R → Prop} (I : T → Prop) (μ : T → Nat) (h : ∀ t,I t → Ok (f t) (Sm I μ Q t)) {t0 : T} (h0 : I t0) (hm : μ t0 < Z0h) : Ok (Z0d f Z0h t0) Q:=
 Zku I μ Q (fun t ht=>by
  obtain ⟨x,e,p⟩:=h t ht
  refine ⟨x,e,?_⟩
  cases x with
  | next t'=>exact p
  | done r=>exact p) Z0h t0 h0 hm
theorem Zoi {α : Type} {l : List α} {v : α} (h : l[l.length - 1]? = some v) : l = l.take (l.length - 1) ++ [v] :=by
 have hl:=(List.getElem?_eq_some_iff.1 h).1
 have : l.take (l.length - 1 + 1) = l.take (l.length - 1) ++ [v] :=by rw [List.take_add_one,h]; rfl
 rw [← this,show l.length - 1 + 1 = l.length by omega,List.take_length]
structure Z7b (w : Z0c) (a b : Int) (t : (List Int) × (List Bool)) : Prop where
 len : (t.2.length : Int) = a + 1
 rng : ∀ v ∈ t.1,0 ≤ v ∧ v ≤ a ∧ Reach w a v
 bnd : ∀ k,Bit t.2 k → k ≠ b
 clo : ∀ j,(j = a ∨ ∃ k,Bit t.2 k ∧ Par w k j) → j ∈ t.1 ∨ j < b ∨ Bit t.2 j
 cnt : t.1.length + 9 * t.2.count false ≤ 9 * (a.toNat + 1) + 1
theorem count_set {l : List Bool} {n : Nat} (h : l[n]? = some false) : (l.set n true).count false + 1 = l.count false:=by
 have hl:=(List.getElem?_eq_some_iff.1 h).1
 have hg : l[n] = false:=(List.getElem?_eq_some_iff.1 h).2
 have hp : 0 < l.count false:=List.count_pos_iff.2 (hg ▸ List.getElem_mem hl)
 rw [List.count_set hl,hg]
 simp
 omega
theorem Z7b.drop {w : Z0c} {a b v : Int} {t : (List Int) × (List Bool)} (h : Z7b w a b t) (hl : t.1[t.1.length - 1]? = some v) (hv : v < b ∨ Bit t.2 v) : Z7b w a b (t.1.take (t.1.length - 1),t.2):=by
 have e:=Zoi hl
 refine ⟨h.len,fun x hx=>h.rng x (List.mem_of_mem_take hx),h.bnd,fun j hj=>?_,?_⟩
 ·rcases h.clo j hj with g | g
  ·rw [e] at g
   rcases List.mem_append.1 g with g | g
   ·exact .inl g
   ·rw [List.mem_singleton.1 g]; exact .inr hv
  ·exact .inr g
 ·have:=h.cnt; simp only [List.length_take]; omega
theorem Z7b.push {w : Z0c} (hv : Z5g w) {a b v : Int} {t : (List Int) × (List Bool)} {c : Z0w} (ha : In w a) (h : Z7b w a b t) (hl : t.1[t.1.length - 1]? = some v) (hvb : v ≠ b) (hs : t.2[v.toNat]? = some false) (hc : w.Z1d[v.toNat]? = some c)
  {l : List Int} (hl9 : l.length ≤ 9) (hm : ∀ j,j ∈ l ↔ (j = c.Z07 ∧ 0 ≤ j) ∨ j ∈ c.Z05) : Z7b w a b (t.1.take (t.1.length - 1) ++ l,t.2.set v.toNat true):=by
 have e:=Zoi hl
 have hve:=h.rng v (by rw [e]; simp)
 have hpar : ∀ j,Par w v j ↔ j ∈ l:=fun j=>by
  unfold Par
  rw [hc,hm]
  constructor
  ·rintro ⟨_,d,hd,h⟩
   cases hd; exact h
  ·intro h; exact ⟨by omega,c,rfl,h⟩
 have hlt : v.toNat < t.2.length:=by have:=h.len; omega
 have hset : ∀ j,Bit (t.2.set v.toNat true) j ↔ j = v ∨ Bit t.2 j:=fun j=>by rw [Bit.set hlt]; exact ⟨fun g=>g.imp (fun g=>by omega) id,fun g=>g.imp (fun g=>by omega) id⟩
 have hlen:=h.len
 refine ⟨by rw [List.length_set]; exact hlen,fun x hx=>?_,fun k hk=>?_,fun j hj=>?_,?_⟩
 ·rcases List.mem_append.1 hx with hx | hx
  ·exact h.rng x (List.mem_of_mem_take hx)
  ·have hp:=(hpar x).2 hx
   have:=hp.lt hv
   exact ⟨by omega,by omega,.snoc hve.2.2 hp⟩
 ·rcases (hset k).1 hk with g | g
  ·omega
  ·exact h.bnd k g
 ·rw [hset]
  have key : (j = a ∨ ∃ k,Bit t.2 k ∧ Par w k j) ∨ Par w v j:=by
   rcases hj with hj | ⟨k,hk,hp⟩
   ·exact .inl (.inl hj)
   ·rcases (hset k).1 hk with g | g
    ·exact .inr (g ▸ hp)
    ·exact .inl (.inr ⟨k,g,hp⟩)
  rcases key with g | g
  ·rcases h.clo j g with g | g | g
   ·rw [e] at g
    rcases List.mem_append.1 g with g | g
    ·exact .inl (List.mem_append.2 (.inl g))
    ·exact .inr (.inr (.inl (List.mem_singleton.1 g)))
   ·exact .inr (.inl g)
   ·exact .inr (.inr (.inr g))
  ·exact .inl (List.mem_append.2 (.inr ((hpar j).1 g)))
 ·have h1:=h.cnt; have h2:=count_set hs
  have : 0 < t.1.length:=by have:=(List.getElem?_eq_some_iff.1 hl).1; omega
  simp only [List.length_append,List.length_take]; omega
theorem Z7b.none {w : Z0c} (hv : Z5g w) {a b : Int} {t : (List Int) × (List Bool)} (h : Z7b w a b t) (he : t.1.length = 0) : ¬Reach w a b:=by
 have hn : t.1 = [] :=List.length_eq_zero_iff.1 he
 have key : ∀ j,Reach w a j → j < b ∨ Bit t.2 j:=fun j hj=>by
  induction hj with
  | refl=>
   have:=h.clo a (.inl rfl)
   rw [hn] at this
   simpa using this
  | @snoc k j hk hp ih=>
   rcases ih with g | g
   ·have:=hp.lt hv; exact .inl (by omega)
   ·have:=h.clo j (.inr ⟨k,g,hp⟩)
    rw [hn] at this
    simpa using this
 intro hb
 rcases key b hb with g | g
 ·omega
 ·exact h.bnd b g rfl
theorem l28_ok (w : Z0c) (hv : Z5g w) (a b : Int) (ha : In w a) (hb : In w b) :
  Ok (Z0d (Zfl w b) Z0h ([a],List.replicate (a + 1).toNat false)) (fun q=>match q with | .inl _=>¬Reach w a b | .inr y=>y = true ∧ Reach w a b):=by
 obtain ⟨ha0,ha1⟩:=ha
 have hfew:=hv.few
 refine lm (Z7b w a b) (fun t=>t.1.length + 10 * t.2.count false) (fun t hI=>?_) ⟨?_,?_,?_,?_,?_⟩ ?_
 ·have hcnt:=hI.cnt; have hlen:=hI.len
  unfold Zfl
  refine brD (fun hp=>bd (wr (by omega) (by omega)) fun n hn=>bd (ik (by omega) (by omega)) fun m hm=>bd (la hm.2) fun v hvv=>bd (wr (by omega) (by omega)) fun n' hn'=>bd (tk (by omega) (by omega)) fun r hr=>?_) fun he=>ok (hI.none hv (by omega))
  have em : m = t.1.length - 1:=by omega
  subst em
  have er : r = t.1.take (t.1.length - 1):=by rw [hr,hn']; congr 1; omega
  subst er
  have hrng:=hI.rng v hvv.2
  refine brE (fun e=>ok ⟨rfl,e ▸ hrng.2.2⟩) fun ne=>brD (fun hlt=>ok ⟨hI.drop hvv.1 (.inl hlt),by simp only [List.length_take]; omega⟩) fun hge=>bd (ik (by omega) (by omega)) fun k hk=>bd (la hk.2) fun s hs=>br (fun e=>ok ⟨hI.drop hvv.1 (.inr ⟨by omega,by rw [← hk.1,hs.1,e]⟩),by simp only [List.length_take]; omega⟩) fun e=>?_
  obtain ⟨c,ec,mc,ic⟩:=(show In w v from ⟨by omega,by omega⟩).get
  have hcls:=hv.cls _ c ic
  have hi8:=hcls.ifsL
  have hs' : t.2[v.toNat]? = some false:=by rw [← hk.1,hs.1,e]
  have hcs:=count_set hs'
  unfold j28x3
  rw [ec]
  refine bd (ik (by omega) (by omega)) fun k' hk'=>bd (la hk'.2) fun _ _=>bs (brD (fun hsup=>bd (gk (by simp only [List.length_append,List.length_take,List.length_cons,List.length_nil]; omega) (by simp only [List.length_append,List.length_take,List.length_cons,List.length_nil]; omega)) fun _ _=>bs (bd (gk (by simp only [List.length_append,List.length_take,List.length_cons,List.length_nil]; omega) (by simp only [List.length_append,List.length_take,List.length_cons,List.length_nil]; omega)) fun _ _=>ok ⟨?_,?_⟩)) fun hsup=>bs (bd (gk (by simp only [List.length_append,List.length_take]; omega) (by simp only [List.length_append,List.length_take]; omega)) fun _ _=>ok ⟨?_,?_⟩))
  ·rw [List.append_assoc,hk'.1]
   refine hI.push hv ⟨ha0,ha1⟩ hvv.1 ne hs' ic (by simp; omega) fun j=>?_
   simp only [List.mem_append,List.mem_singleton]
   constructor
   ·rintro (h | h)
    ·exact .inl ⟨h,by omega⟩
    ·exact .inr h
   ·rintro (h | h)
    ·exact .inl h.1
    ·exact .inr h
  ·rw [hk'.1]; simp only [List.length_append,List.length_take,List.length_cons,List.length_nil]; omega
  ·rw [hk'.1]
   refine hI.push hv ⟨ha0,ha1⟩ hvv.1 ne hs' ic (by omega) fun j=>?_
   constructor
   ·intro h; exact .inr h
   ·rintro (h | h)
    ·omega
    ·exact h
  ·rw [hk'.1]; simp only [List.length_append,List.length_take]; omega
 ·simp; omega
 ·intro v hv'
  rw [List.mem_singleton.1 hv']; exact ⟨ha0,by omega,.refl⟩
 ·intro k hk; exact absurd hk Bit.rep
 ·rintro j (h | ⟨k,hk,_⟩)
  ·exact .inl (by simp [h])
  ·exact absurd hk Bit.rep
 ·simp [List.count_replicate]; omega
 ·simp [List.count_replicate,Z0h]; omega
theorem Zpf (w : Z0c) (hv : Z5g w) (a b : Int) : ∃ r,Zbv w a b = some r ∧ Zaa w a b = some r ∧ (¬(In w a ∧ In w b) → r = false):=by
 unfold Zbv Zaa
 rw [Zen,Zen,Zoj]
 by_cases ha : In w a <;> by_cases hb : In w b <;> simp only [ha,hb,decide_true,decide_false,Option.bind,and_self,and_true,and_false,false_and,true_and,Bool.not_true,Bool.not_false,Bool.false_eq_true,if_true,if_false,not_true,not_false_eq_true,false_implies]
 ·obtain ⟨c,ec,mc,ic⟩:=hb.get
  have hfew:=hv.few
  obtain ⟨ha0,ha1⟩:=id ha
  obtain ⟨hb0,hb1⟩:=id hb
  have hcls:=hv.cls _ c ic
  -- both walks
  have hp : Ok (Zeu w a b) (fun r=>r = true ↔ Reach w a b):=by
   unfold Zeu
   refine bd (wr (by omega) (by omega)) fun n hn=>bd (mk (by omega) (by omega) (by omega) (by omega)) fun _ _=>?_
   subst hn
   refine bd (l28_ok w hv a b ha hb) fun q hq=>?_
   cases q with
   | inl _=>exact ok ⟨fun h=>(by cases h),fun h=>absurd h hq⟩
   | inr y=>exact ok ⟨fun _=>hq.2,fun _=>hq.1⟩
  have hr : Ok (Zd7 w a b) (fun r=>r = true ↔ Reach w a b):=by
   unfold Zd7
   refine bd (mk (by omega) (by omega) (by omega) (by omega)) fun _ _=>bd (ik (by omega) (by simp; omega)) fun n hn=>bd (la hn.2) fun _ _=>bd (l31_ok w hv hv.few a ha _ (And.intro (by simp) fun j=>?_)) fun q hq=>bd (ik (by omega) (by rw [hq.1]; omega)) fun m hm=>bd (la hm.2) fun r hr=>ok ?_
   ·rw [Bit.set hn.2]
    constructor
    ·rintro (h | h)
     ·exact .inl (by omega)
     ·exact absurd h Bit.rep
    ·rintro (h | ⟨k,hk,hr,_⟩)
     ·exact .inl (by omega)
     ·have:=hr.le hv; omega
   ·rw [← hq.2]
    unfold Bit
    rw [← hm.1,hr.1]
    simp; omega
  unfold j28x1 Znq
  by_cases e : a = b
  ·simp [e]
  ·have e' : (a == b) = false:=by simpa using e
   simp only [e',Bool.false_eq_true,if_false]
   rw [ec]
   dsimp only [Option.bind]
   by_cases hn : (c.Z0t.Z02 == ([108,97,110,103,47,79,98,106,101,99,116] : List UInt8)) = true
   ·have hL : c.Z0u = 0:=by
     refine Decidable.byContradiction fun h=>?_
     have:=hcls.lang h
     rw [beq_iff_eq.1 hn] at this
     exact absurd this (by decide)
    simp [hn,hL]
   ·simp only [hn,Bool.false_eq_true,if_false]
    obtain ⟨r1,q1,q2⟩:=hp
    obtain ⟨r2,q3,q4⟩:=hr
    have : r1 = r2:=by
     rw [← q4] at q2
     cases r1 <;> cases r2 <;> simp_all
    subst this
    exact ⟨r1,q1,by rw [q3]⟩
 all_goals exact ⟨_,rfl,rfl,fun _=>rfl⟩
end Go.Proofs
