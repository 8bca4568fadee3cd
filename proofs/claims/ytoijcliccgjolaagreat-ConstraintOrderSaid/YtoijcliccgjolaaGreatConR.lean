/-
  Loaders that the program and the reference find connected. No condition.
-/
import Derived.Test.YtoijcliccgjolaaGreatConQ
import Derived.Test.YtoijcliccgjolaaGreatConN
set_option linter.unusedVariables false
namespace Go.Proofs
open Go.Den Go.Tot
theorem Y1u (l : List Int) (x : Int) (hl : l.length ≤ 100000) : Ok (Zji l x) (fun r=>(0 ≤ r ∧ x ∈ l) ∨ (r = -1 ∧ x ∉ l)):=by
 unfold Zji
 refine bd (P:=fun q : Unit ⊕ Int=>match q with | .inl _=>x ∉ l | .inr y=>0 ≤ y ∧ x ∈ l) ?_ fun q hq=>?_
 ·refine lp (fun t=>t) l.length (fun t=>x ∉ l.take t.toNat) (fun t hI g0 g1=>?_) (by omega) (by simp) (by omega) (by omega)
  unfold l49x1
  refine brD (fun hlt=>bd (gri g0 hlt) fun v hv=>brE (fun e=>dn ⟨g0,e ▸ hv.1⟩) fun hne=>bd (wr (by omega) (by omega)) fun k hk=>nx ?_ (by omega) (by omega)) fun hge=>dn ?_
  ·rw [hk,show (t + 1).toNat = t.toNat + 1 by omega,List.take_add_one,hv.2]
   simp only [Option.toList,List.mem_append,List.mem_singleton]
   exact fun h=>h.elim hI hne
  ·have:=hI; rwa [List.take_of_length_le (by omega)] at this
 ·cases q with
  | inl _=>exact ok (.inr ⟨rfl,hq⟩)
  | inr y=>exact ok (.inl hq)
theorem Zjo (l : List Int) (x : Int) (hl : l.length ≤ 100000) : Z6e l x = some (decide (x ∈ l)):=by
 unfold Z6e
 obtain ⟨r,e,h⟩:=Y1u l x hl
 rw [e]
 rcases h with ⟨h,g⟩ | ⟨h,g⟩
 ·simp [g]; omega
 ·simp [h,g]
theorem Ztz (l : List Int) (x : Int) (hl : l.length ≤ 100000) : Ok (Z6e l x) (fun b=>b = true ↔ x ∈ l):=ok' (Zjo l x hl) (by simp)
theorem dec_eq {p q : Prop} [Decidable p] [Decidable q] (h : (decide p == decide q) = true) : p ↔ q:=by
 by_cases hp : p <;> by_cases hq : q <;> simp_all
theorem dec_ne {p q : Prop} [Decidable p] [Decidable q] (h : (decide p == decide q) = false) : ¬(p ↔ q):=by
 by_cases hp : p <;> by_cases hq : q <;> simp_all
theorem pass30 (w : Z07) (s : List UInt8) (a : Int) (l0 : List Int) (hc : w.Z0j.length ≤ 1000) (h : Z4y w.Z0j s a l0) :
  Ok (Z0b (Zke w s) Z0c (0,false,l0)) (fun q=>Z66 w.Z0j s a l0 w.Z0j.length q.2 q.1):=by
 refine lp (fun t=>t.1) w.Z0j.length (fun t=>Z66 w.Z0j s a l0 t.1.toNat t.2.1 t.2.2) (fun t hI g0 g1=>?_) (by omega) (Z66.start h) (by dsimp only; omega) (by dsimp only; omega)
 have hlen:=hI.comp.len
 unfold Zke
 refine brD (fun hlt=>bd (gri g0 hlt) fun c hcc=>?_) fun hge=>dn ?_
 rotate_left
 ·have e : t.1.toNat = w.Z0j.length:=by omega
  dsimp only
  rw [← e]; exact hI
 rw [Zjo _ _ (by omega),Zjo _ _ (by omega)]
 have hk1 : ∀ k : Int,k = t.1 + 1 → k.toNat = t.1.toNat + 1:=fun k h=>by omega
 refine bs (bs (br! (fun hn=>bd (wr (by omega) (by omega)) fun k hk=>nx ?_ (by dsimp only; omega) (by dsimp only; omega)) fun hn=>br (fun e=>bd (wr (by omega) (by omega)) fun k hk=>nx ?_ (by dsimp only; omega) (by dsimp only; omega)) fun e=>?_))
 ·dsimp only; rw [hk1 k hk]
  exact hI.skip hcc.2 fun e=>by simp [e] at hn
 ·dsimp only; rw [hk1 k hk]
  exact hI.skip hcc.2 fun _=>dec_eq e
 ·have hne:=dec_ne e
  have hn' : c.Z03 = s:=by simpa using hn
  unfold j30x1 Zhx
  refine brD (fun hA=>bd (gk (by simp only [List.length_append,List.length_cons,List.length_nil]; omega) (by simp only [List.length_append,List.length_cons,List.length_nil]; omega)) fun _ _=>bd (wr (by omega) (by omega)) fun k hk=>nx ?_ (by dsimp only; omega) (by dsimp only; omega)) fun hA=>bd (gk (by simp only [List.length_append,List.length_cons,List.length_nil]; omega) (by simp only [List.length_append,List.length_cons,List.length_nil]; omega)) fun _ _=>bd (wr (by omega) (by omega)) fun k hk=>nx ?_ (by dsimp only; omega) (by dsimp only; omega)
  ·exact hI.grow hcc.1 hn' (.inl ⟨rfl,rfl⟩) hA fun hB=>hne ⟨fun _=>hB,fun _=>hA⟩
  ·exact hI.grow hcc.1 hn' (.inr ⟨rfl,rfl⟩) (Decidable.byContradiction fun hB=>hne ⟨fun h=>absurd h hA,fun h=>absurd h hB⟩) hA
theorem passes {cs : List Z1a} {s : List UInt8} {a : Int} {f : Bool × List Int → Option (Ctl (Bool × List Int) (List Int))} {g : Bool × List Int → Option (List Int × Bool)} (hc : cs.length ≤ 1000)
  (hf : ∀ t : Bool × List Int,f t = if t.1 = true then (g t).bind fun q=>some (.next (q.2,q.1)) else some (.done t.2))
  (hg : ∀ t : Bool × List Int,Z4y cs s a t.2 → Ok (g t) (fun q=>Z66 cs s a t.2 cs.length q.2 q.1)) :
  Ok (Z0b f Z0c (true,[a])) (fun l=>l.length ≤ 1001 ∧ ∀ j,j ∈ l ↔ Z17 cs s a j):=by
 refine lm (fun t=>Z4y cs s a t.2 ∧ (t.1 = false → Shut cs s t.2)) (fun t=>2 * opn cs s t.2 + (if t.1 = true then 1 else 0)) (fun t hI=>?_) ⟨Z4y.start,by simp⟩ ?_
 ·rw [hf]
  refine br (fun e=>bd (hg t hI.1) fun q hq=>ok ⟨⟨hq.comp,fun e'=>?_⟩,?_⟩) fun e=>ok ⟨by have:=hI.1.len; omega,hI.1.shut (hI.2 e)⟩
  ·obtain ⟨e1,e2⟩:=hq.no e'
   rw [List.take_length] at e2
   dsimp only; rw [e1]; exact e2
  ·dsimp only
   rw [e,if_pos rfl]
   cases hb : q.2 with
   | true=>have:=hq.yes hb; rw [if_pos rfl]; omega
   | false=>rw [(hq.no hb).1,if_neg (by simp)]; omega
 ·have:=Zpz (cs:=cs) (s:=s) (l:=[a])
  unfold Z0c
  dsimp only
  rw [if_pos rfl]
  omega
theorem Zn4 (w : Z07) (s : List UInt8) (a : Int) (hc : w.Z0j.length ≤ 1000) : Ok (Z8a w s a) (fun l=>l.length ≤ 1001 ∧ ∀ j,j ∈ l ↔ Z17 w.Z0j s a j):=by
 unfold Z8a
 exact bd (passes hc (fun t=>by unfold l30x1; rfl) fun t h=>pass30 w s a t.2 hc h) fun q hq=>ok hq
def InL (w : Z07) (a : Int) : Prop:=0 ≤ a ∧ a < w.Z0z.length
instance (w : Z07) (a : Int) : Decidable (InL w a):=by unfold InL; infer_instance
theorem Zg0 (w : Z07) (a : Int) : Z8u w a = some (decide (InL w a)):=by
 unfold Z8u InL
 by_cases h : a ≥ 0 <;> simp [h]
def Zis (w : Z07) (s : List UInt8) (a b : Int) : Prop:=InL w a ∧ InL w b ∧ Z17 w.Z0j s a b
theorem Zia (w : Z07) (s : List UInt8) (a b : Int) (hc : w.Z0j.length ≤ 1000) : Ok (Z4i w s a b) (fun r=>r = true ↔ Zis w s a b):=by
 unfold Z4i
 rw [Zg0,Zg0]
 refine bs (brD (fun ha=>bs (brD (fun hb=>bd (Zn4 w s a hc) fun l hl=>?_) fun h=>ok ⟨by simp,fun g=>absurd g.2.1 h⟩)) fun h=>ok ⟨by simp,fun g=>absurd g.1 h⟩)
 rw [Zjo _ _ (by omega)]
 exact bs (ok (by rw [decide_eq_true_eq,hl.2]; exact ⟨fun h=>⟨ha,hb,h⟩,fun h=>h.2.2⟩))
end Go.Proofs
