/-
  Loaders that the program and the reference find connected. No condition.
-/
import Derived.Test.YtoijcliccgjolaaGreatConQ
import Derived.Test.YtoijcliccgjolaaGreatConN
set_option linter.unusedVariables false
namespace Go.Proofs
open Go.Den Go.Tot
theorem Zzu (l : List Int) (x : Int) (hl : l.length ≤ 100000) : Ok (Zgk l x) (fun r=>(0 ≤ r ∧ x ∈ l) ∨ (r = -1 ∧ x ∉ l)):=by
 unfold Zgk
 refine bd (P:=fun q : Unit ⊕ Int=>match q with | .inl _=>x ∉ l | .inr y=>0 ≤ y ∧ x ∈ l) ?_ fun q hq=>?_
 ·refine lp (fun t=>t) l.length (fun t=>x ∉ l.take t.toNat) (fun t hI g0 g1=>?_) (by omega) (by simp) (by omega) (by omega)
  unfold l49x1
  refine brD (fun hlt=>bd (gri g0 hlt) fun v hv=>brE (fun e=>dn ⟨g0,e ▸ hv.1⟩) fun hne=>bd (wr (by omega) (by omega)) fun k hk=>nx ?_ (by omega) (by omega)) fun hge=>dn ?_
  ·rw [hk,show (t + 1).toNat = t.toNat + 1 by omega,List.take_add_one,hv.2]
   simp only [Option.toList,List.mem_append,List.mem_singleton]
   exact fun h=>h.elim hI hne
  ·have:=hI; rwa [List.take_of_length_le (by omega)] at this
 ·cases q with
  | inl _=>exact ok (.inr ⟨rfl,hq⟩)
  | inr y=>exact ok (.inl hq)
theorem Zmh (l : List Int) (x : Int) (hl : l.length ≤ 100000) : Z6d l x = some (decide (x ∈ l)):=by
 unfold Z6d
 obtain ⟨r,e,h⟩:=Zzu l x hl
 rw [e]
 rcases h with ⟨h,g⟩ | ⟨h,g⟩
 ·simp [g]; omega
 ·simp [h,g]
theorem Zx0 (l : List Int) (x : Int) (hl : l.length ≤ 100000) : Ok (Z6d l x) (fun b=>b = true ↔ x ∈ l):=ok' (Zmh l x hl) (by simp)
theorem Zfa (l : List Int) (x : Int) (hl : l.length ≤ 100000) : Z76 l x = some (decide (x ∈ l)):=by
 have h : Ok (Z76 l x) (fun b=>b = decide (x ∈ l)):=by
  unfold Z76
  refine bd (allP (l:=l) (p:=fun v=>v ≠ x) (y:= .inr true) (z:= .inl ()) (by omega) (fun t v g0 g1 hv hvm hvg=>?_) ?_) fun q hq=>?_
  ·unfold Zeo
   rw [hvg]
   exact brD (fun _=>bs (brE (fun e=>ok (.inr ⟨rfl,fun h=>h e⟩)) fun e=>bd (wr (by omega) (by omega)) fun k hk=>ok (.inl ⟨by rw [hk],e⟩))) fun h=>absurd g1 h
  ·unfold Zeo
   exact brD (fun h=>absurd h (by omega)) fun _=>ok rfl
  ·rcases hq with ⟨rfl,h⟩ | ⟨rfl,v,hv,hn⟩
   ·exact ok (by simp; exact fun hx=>h x hx rfl)
   ·exact ok (by have : v = x:=by simpa using hn
                 subst this; simp [hv])
 obtain ⟨b,e,h⟩:=h
 rw [e,h]
theorem hasI_b (l : List Int) (x : Int) (hl : l.length ≤ 100000) : Ok (Z76 l x) (fun b=>b = true ↔ x ∈ l):=ok' (Zfa l x hl) (by simp)
theorem Zvn {p q : Prop} [Decidable p] [Decidable q] (h : (decide p == decide q) = true) : p ↔ q:=by
 by_cases hp : p <;> by_cases hq : q <;> simp_all
theorem Zwn {p q : Prop} [Decidable p] [Decidable q] (h : (decide p == decide q) = false) : ¬(p ↔ q):=by
 by_cases hp : p <;> by_cases hq : q <;> simp_all
theorem pass30 (w : Z0b) (s : List UInt8) (a : Int) (l0 : List Int) (hc : w.Z0m.length ≤ 1000) (h : Z4i w.Z0m s a l0) :
  Ok (Z08 (Zir w s) Z0c (0,false,l0)) (fun q=>Z4q w.Z0m s a l0 w.Z0m.length q.2 q.1):=by
 refine lp (fun t=>t.1) w.Z0m.length (fun t=>Z4q w.Z0m s a l0 t.1.toNat t.2.1 t.2.2) (fun t hI g0 g1=>?_) (by omega) (Z4q.start h) (by dsimp only; omega) (by dsimp only; omega)
 have hlen:=hI.comp.len
 unfold Zir
 refine brD (fun hlt=>bd (gri g0 hlt) fun c hcc=>?_) fun hge=>dn ?_
 rotate_left
 ·have e : t.1.toNat = w.Z0m.length:=by omega
  dsimp only
  rw [← e]; exact hI
 rw [Zmh _ _ (by omega),Zmh _ _ (by omega)]
 have hk1 : ∀ k : Int,k = t.1 + 1 → k.toNat = t.1.toNat + 1:=fun k h=>by omega
 refine bs (bs (br! (fun hn=>bd (wr (by omega) (by omega)) fun k hk=>nx ?_ (by dsimp only; omega) (by dsimp only; omega)) fun hn=>br (fun e=>bd (wr (by omega) (by omega)) fun k hk=>nx ?_ (by dsimp only; omega) (by dsimp only; omega)) fun e=>?_))
 ·dsimp only; rw [hk1 k hk]
  exact hI.skip hcc.2 fun e=>by simp [e] at hn
 ·dsimp only; rw [hk1 k hk]
  exact hI.skip hcc.2 fun _=>Zvn e
 ·have hne:=Zwn e
  have hn' : c.Z03 = s:=by simpa using hn
  unfold j30x1 Zgw
  refine brD (fun hA=>bd (gk (by simp only [List.length_append,List.length_cons,List.length_nil]; omega) (by simp only [List.length_append,List.length_cons,List.length_nil]; omega)) fun _ _=>bd (wr (by omega) (by omega)) fun k hk=>nx ?_ (by dsimp only; omega) (by dsimp only; omega)) fun hA=>bd (gk (by simp only [List.length_append,List.length_cons,List.length_nil]; omega) (by simp only [List.length_append,List.length_cons,List.length_nil]; omega)) fun _ _=>bd (wr (by omega) (by omega)) fun k hk=>nx ?_ (by dsimp only; omega) (by dsimp only; omega)
  ·exact hI.grow hcc.1 hn' (.inl ⟨rfl,rfl⟩) hA fun hB=>hne ⟨fun _=>hB,fun _=>hA⟩
  ·exact hI.grow hcc.1 hn' (.inr ⟨rfl,rfl⟩) (Decidable.byContradiction fun hB=>hne ⟨fun h=>absurd h hA,fun h=>absurd h hB⟩) hA
theorem pass33 (w : Z0b) (s : List UInt8) (a : Int) (l0 : List Int) (hc : w.Z0m.length ≤ 1000) (h : Z4i w.Z0m s a l0) :
  Ok (Z08 (Zfi w s) Z0c (0,false,l0)) (fun q=>Z4q w.Z0m s a l0 w.Z0m.length q.2 q.1):=by
 refine lp (fun t=>t.1) w.Z0m.length (fun t=>Z4q w.Z0m s a l0 t.1.toNat t.2.1 t.2.2) (fun t hI g0 g1=>?_) (by omega) (Z4q.start h) (by dsimp only; omega) (by dsimp only; omega)
 have hlen:=hI.comp.len
 unfold Zfi
 refine brD (fun hlt=>bd (gri g0 hlt) fun c hcc=>?_) fun hge=>dn ?_
 rotate_left
 ·have e : t.1.toNat = w.Z0m.length:=by omega
  dsimp only
  rw [← e]; exact hI
 rw [Zfa _ _ (by omega),Zfa _ _ (by omega)]
 have hk1 : ∀ k : Int,k = t.1 + 1 → k.toNat = t.1.toNat + 1:=fun k h=>by omega
 refine br! (fun hn=>bd (wr (by omega) (by omega)) fun k hk=>nx ?_ (by dsimp only; omega) (by dsimp only; omega)) fun hn=>bs (bs (br (fun e=>bd (wr (by omega) (by omega)) fun k hk=>nx ?_ (by dsimp only; omega) (by dsimp only; omega)) fun e=>?_))
 ·dsimp only; rw [hk1 k hk]
  exact hI.skip hcc.2 fun e=>by simp [e] at hn
 ·dsimp only; rw [hk1 k hk]
  exact hI.skip hcc.2 fun _=>Zvn e
 ·have hne:=Zwn e
  have hn' : c.Z03 = s:=by simpa using hn
  unfold j33x1
  rw [Zfa _ _ (by omega)]
  refine bs (brD (fun hA=>bd (gk (by simp only [List.length_append,List.length_cons,List.length_nil]; omega) (by simp only [List.length_append,List.length_cons,List.length_nil]; omega)) fun _ _=>bd (wr (by omega) (by omega)) fun k hk=>nx ?_ (by dsimp only; omega) (by dsimp only; omega)) fun hA=>bd (gk (by simp only [List.length_append,List.length_cons,List.length_nil]; omega) (by simp only [List.length_append,List.length_cons,List.length_nil]; omega)) fun _ _=>bd (wr (by omega) (by omega)) fun k hk=>nx ?_ (by dsimp only; omega) (by dsimp only; omega))
  ·exact hI.grow hcc.1 hn' (.inl ⟨rfl,rfl⟩) hA fun hB=>hne ⟨fun _=>hB,fun _=>hA⟩
  ·exact hI.grow hcc.1 hn' (.inr ⟨rfl,rfl⟩) (Decidable.byContradiction fun hB=>hne ⟨fun h=>absurd h hA,fun h=>absurd h hB⟩) hA
theorem Zut {cs : List Z1s} {s : List UInt8} {a : Int} {f : Bool × List Int → Option (Ctl (Bool × List Int) (List Int))} {g : Bool × List Int → Option (List Int × Bool)} (hc : cs.length ≤ 1000)
  (hf : ∀ t : Bool × List Int,f t = if t.1 = true then (g t).bind fun q=>some (.next (q.2,q.1)) else some (.done t.2))
  (hg : ∀ t : Bool × List Int,Z4i cs s a t.2 → Ok (g t) (fun q=>Z4q cs s a t.2 cs.length q.2 q.1)) :
  Ok (Z08 f Z0c (true,[a])) (fun l=>l.length ≤ 1001 ∧ ∀ j,j ∈ l ↔ Z2d cs s a j):=by
 refine lm (fun t=>Z4i cs s a t.2 ∧ (t.1 = false → Shut cs s t.2)) (fun t=>2 * opn cs s t.2 + (if t.1 = true then 1 else 0)) (fun t hI=>?_) ⟨Z4i.start,by simp⟩ ?_
 ·rw [hf]
  refine br (fun e=>bd (hg t hI.1) fun q hq=>ok ⟨⟨hq.comp,fun e'=>?_⟩,?_⟩) fun e=>ok ⟨by have:=hI.1.len; omega,hI.1.shut (hI.2 e)⟩
  ·obtain ⟨e1,e2⟩:=hq.no e'
   rw [List.take_length] at e2
   dsimp only; rw [e1]; exact e2
  ·dsimp only
   rw [e,if_pos rfl]
   cases hb : q.2 with
   | true=>have:=hq.yes hb; rw [if_pos rfl]; omega
   | false=>rw [(hq.no hb).1,if_neg (by simp)]; omega
 ·have:=Zpq (cs:=cs) (s:=s) (l:=[a])
  unfold Z0c
  dsimp only
  rw [if_pos rfl]
  omega
theorem comp_ok (w : Z0b) (s : List UInt8) (a : Int) (hc : w.Z0m.length ≤ 1000) : Ok (Z8i w s a) (fun l=>l.length ≤ 1001 ∧ ∀ j,j ∈ l ↔ Z2d w.Z0m s a j):=by
 unfold Z8i
 exact bd (Zut hc (fun t=>by unfold l30x1; rfl) fun t h=>pass30 w s a t.2 hc h) fun q hq=>ok hq
theorem Zwu (w : Z0b) (s : List UInt8) (a : Int) (hc : w.Z0m.length ≤ 1000) : Ok (Zge w s a) (fun l=>l.length ≤ 1001 ∧ ∀ j,j ∈ l ↔ Z2d w.Z0m s a j):=by
 unfold Zge
 exact bd (Zut hc (fun t=>by unfold l33x1; rfl) fun t h=>pass33 w s a t.2 hc h) fun q hq=>ok hq
def InL (w : Z0b) (a : Int) : Prop:=0 ≤ a ∧ a < w.Z1b.length
instance (w : Z0b) (a : Int) : Decidable (InL w a):=by unfold InL; infer_instance
end Go.Proofs
