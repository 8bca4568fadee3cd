/-
  Loaders that the program and the reference find connected. No condition.
-/
import Derived.Test.YtoijcliccgjolaaGreatConQ
import Derived.Test.YtoijcliccgjolaaGreatConN
set_option linter.unusedVariables false
namespace Go.Proofs
open Go.Den Go.Tot
theorem Y2l (l : List Int) (x : Int) (hl : l.length ≤ 100000) : Ok (Zi0 l x) (fun r=>(0 ≤ r ∧ x ∈ l) ∨ (r = -1 ∧ x ∉ l)):=by
 unfold Zi0
 refine bd (P:=fun q : Unit ⊕ Int=>match q with | .inl _=>x ∉ l | .inr y=>0 ≤ y ∧ x ∈ l) ?_ fun q hq=>?_
 ·refine lp (fun t=>t) l.length (fun t=>x ∉ l.take t.toNat) (fun t hI g0 g1=>?_) (by omega) (by simp) (by omega) (by omega)
  unfold l49x1
  refine brD (fun hlt=>bd (gri g0 hlt) fun v hv=>brE (fun e=>dn ⟨g0,e ▸ hv.1⟩) fun hne=>bd (wr (by omega) (by omega)) fun k hk=>nx ?_ (by omega) (by omega)) fun hge=>dn ?_
  ·rw [hk,show (t + 1).toNat = t.toNat + 1 by omega,List.take_add_one,hv.2]
   simp only [Option.toList,List.mem_append,List.mem_singleton]
   exact fun h=>h.elim hI hne
  ·have:=hI; rwa [List.take_of_length_le (by omega)] at this
 ·cases q with
  | inl _=>exact ok (.inr ⟨rfl,hq⟩)
  | inr y=>exact ok (.inl hq)
theorem Zlp (l : List Int) (x : Int) (hl : l.length ≤ 100000) : Z6n l x = some (decide (x ∈ l)):=by
 unfold Z6n
 obtain ⟨r,e,h⟩:=Y2l l x hl
 rw [e]
 rcases h with ⟨h,g⟩ | ⟨h,g⟩
 ·simp [g]; omega
 ·simp [h,g]
theorem Zyu (l : List Int) (x : Int) (hl : l.length ≤ 100000) : Ok (Z6n l x) (fun b=>b = true ↔ x ∈ l):=ok' (Zlp l x hl) (by simp)
theorem dec_eq {p q : Prop} [Decidable p] [Decidable q] (h : (decide p == decide q) = true) : p ↔ q:=by
 by_cases hp : p <;> by_cases hq : q <;> simp_all
theorem dec_ne {p q : Prop} [Decidable p] [Decidable q] (h : (decide p == decide q) = false) : ¬(p ↔ q):=by
 by_cases hp : p <;> by_cases hq : q <;> simp_all
theorem pass30 (w : Z04) (s : List UInt8) (a : Int) (l0 : List Int) (hc : w.Z0g.length ≤ 1000) (h : Z53 w.Z0g s a l0) :
  Ok (Z09 (Zh1 w s) Z0a (0,false,l0)) (fun q=>Z66 w.Z0g s a l0 w.Z0g.length q.2 q.1):=by
 refine lp (fun t=>t.1) w.Z0g.length (fun t=>Z66 w.Z0g s a l0 t.1.toNat t.2.1 t.2.2) (fun t hI g0 g1=>?_) (by omega) (Z66.start h) (by dsimp only; omega) (by dsimp only; omega)
 have hlen:=hI.comp.len
 unfold Zh1
 refine brD (fun hlt=>bd (gri g0 hlt) fun c hcc=>?_) fun hge=>dn ?_
 rotate_left
 ·have e : t.1.toNat = w.Z0g.length:=by omega
  dsimp only
  rw [← e]; exact hI
 rw [Zlp _ _ (by omega),Zlp _ _ (by omega)]
 have hk1 : ∀ k : Int,k = t.1 + 1 → k.toNat = t.1.toNat + 1:=fun k h=>by omega
 refine bs (bs (br! (fun hn=>bd (wr (by omega) (by omega)) fun k hk=>nx ?_ (by dsimp only; omega) (by dsimp only; omega)) fun hn=>br (fun e=>bd (wr (by omega) (by omega)) fun k hk=>nx ?_ (by dsimp only; omega) (by dsimp only; omega)) fun e=>?_))
 ·dsimp only; rw [hk1 k hk]
  exact hI.skip hcc.2 fun e=>by simp [e] at hn
 ·dsimp only; rw [hk1 k hk]
  exact hI.skip hcc.2 fun _=>dec_eq e
 ·have hne:=dec_ne e
  have hn' : c.Z02 = s:=by simpa using hn
  unfold j30x1 Zif
  refine brD (fun hA=>bd (gk (by simp only [List.length_append,List.length_cons,List.length_nil]; omega) (by simp only [List.length_append,List.length_cons,List.length_nil]; omega)) fun _ _=>bd (wr (by omega) (by omega)) fun k hk=>nx ?_ (by dsimp only; omega) (by dsimp only; omega)) fun hA=>bd (gk (by simp only [List.length_append,List.length_cons,List.length_nil]; omega) (by simp only [List.length_append,List.length_cons,List.length_nil]; omega)) fun _ _=>bd (wr (by omega) (by omega)) fun k hk=>nx ?_ (by dsimp only; omega) (by dsimp only; omega)
  ·exact hI.grow hcc.1 hn' (.inl ⟨rfl,rfl⟩) hA fun hB=>hne ⟨fun _=>hB,fun _=>hA⟩
  ·exact hI.grow hcc.1 hn' (.inr ⟨rfl,rfl⟩) (Decidable.byContradiction fun hB=>hne ⟨fun h=>absurd h hA,fun h=>absurd h hB⟩) hA
theorem passes {cs : List Z0x} {s : List UInt8} {a : Int} {f : Bool × List Int → Option (Ctl (Bool × List Int) (List Int))} {g : Bool × List Int → Option (List Int × Bool)} (hc : cs.length ≤ 1000)
  (hf : ∀ t : Bool × List Int,f t = if t.1 = true then (g t).bind fun q=>some (.next (q.2,q.1)) else some (.done t.2))
  (hg : ∀ t : Bool × List Int,Z53 cs s a t.2 → Ok (g t) (fun q=>Z66 cs s a t.2 cs.length q.2 q.1)) :
  Ok (Z09 f Z0a (true,[a])) (fun l=>l.length ≤ 1001 ∧ ∀ j,j ∈ l ↔ Z1e cs s a j):=by
 refine lm (fun t=>Z53 cs s a t.2 ∧ (t.1 = false → Shut cs s t.2)) (fun t=>2 * opn cs s t.2 + (if t.1 = true then 1 else 0)) (fun t hI=>?_) ⟨Z53.start,by simp⟩ ?_
 ·rw [hf]
  refine br (fun e=>bd (hg t hI.1) fun q hq=>ok ⟨⟨hq.comp,fun e'=>?_⟩,?_⟩) fun e=>ok ⟨by have:=hI.1.len; omega,hI.1.shut (hI.2 e)⟩
  ·obtain ⟨e1,e2⟩:=hq.no e'
   rw [List.take_length] at e2
   dsimp only; rw [e1]; exact e2
  ·dsimp only
   rw [e,if_pos rfl]
   cases hb : q.2 with
   | true=>have:=hq.yes hb; rw [if_pos rfl]; omega
   | false=>rw [(hq.no hb).1,if_neg (by simp)]; omega
 ·have:=Zyk (cs:=cs) (s:=s) (l:=[a])
  unfold Z0a
  dsimp only
  rw [if_pos rfl]
  omega
theorem Ztw (w : Z04) (s : List UInt8) (a : Int) (hc : w.Z0g.length ≤ 1000) : Ok (Z8i w s a) (fun l=>l.length ≤ 1001 ∧ ∀ j,j ∈ l ↔ Z1e w.Z0g s a j):=by
 unfold Z8i
 exact bd (passes hc (fun t=>by unfold l30x1; rfl) fun t h=>pass30 w s a t.2 hc h) fun q hq=>ok hq
def InL (w : Z04) (a : Int) : Prop:=0 ≤ a ∧ a < w.Z0w.length
instance (w : Z04) (a : Int) : Decidable (InL w a):=by unfold InL; infer_instance
theorem Zoe (w : Z04) (a : Int) : Z8m w a = some (decide (InL w a)):=by
 unfold Z8m InL
 by_cases h : a ≥ 0 <;> simp [h]
theorem Zfg (w : Z04) (a : Int) : Z9u w a = some (decide (InL w a)):=Zoe w a
def ConnP (w : Z04) (s : List UInt8) (a b : Int) : Prop:=InL w a ∧ InL w b ∧ Z1e w.Z0g s a b
theorem Y1m (w : Z04) (s : List UInt8) (a b : Int) (hc : w.Z0g.length ≤ 1000) (hl : w.Z0w.length ≤ 8) (hk : ∀ b ∈ w.Z0g,Z4i w b) : Ok (Zk0 w s a b) (fun r=>r = true ↔ ConnP w s a b):=by
 unfold Zk0
 rw [Zfg,Zfg]
 refine bs (br! (fun h=>ok ⟨by simp,fun g=>absurd g.1 (by simpa using h)⟩) fun ha=>bs (br! (fun h=>ok ⟨by simp,fun g=>absurd g.2.1 (by simpa using h)⟩) fun hb=>?_))
 have ha' : InL w a:=by simpa using ha
 have hb' : InL w b:=by simpa using hb
 unfold j12x1
 refine bd (Zie w s a (by omega) hl hk ha'.1 ha'.2) fun q hq=>bd (gri hb'.1 (by rw [hq.1]; exact hb'.2)) fun v hv=>ok ?_
 rw [← Bit.of (j:=b) hv.2 (by have:=hb'.1; omega),hq.2]
 exact ⟨fun h=>⟨ha',hb',h⟩,fun h=>h.2.2⟩
def PermP (w : Z04) (a : Int) (s : List UInt8) (c : Int) : Prop:=InL w a ∧ ∀ u ∈ w.Z0l,u.Z02 = s → Z1e w.Z0g s a u.Z1f → u.Z0o = c
theorem Y0e (w : Z04) (a : Int) (s : List UInt8) (c : Int) (hc : w.Z0g.length ≤ 1000) (hi : w.Z0l.length ≤ 140737488355328) (hl : w.Z0w.length ≤ 8) (hk : ∀ b ∈ w.Z0g,Z4i w b) (hs : ∀ v ∈ w.Z0l,Z5f w v) : Ok (Zik w a s c) (fun r=>r = true ↔ PermP w a s c):=by
 unfold Zik
 rw [Zfg]
 refine bs (br! (fun h=>ok ⟨by simp,fun g=>absurd g.1 (by simpa using h)⟩) fun ha=>?_)
 have ha' : InL w a:=by simpa using ha
 refine bd (Zie w s a (by omega) hl hk ha'.1 ha'.2) fun l hg=>?_
 refine bd (allP (l:=w.Z0l) (p:=fun u=>u.Z02 = s → Z1e w.Z0g s a u.Z1f → u.Z0o = c) (y:= .inr false) (z:= .inl ()) (by omega) (fun t v g0 g1 hv hvm hvg=>?_) ?_) fun q hq=>?_
 ·have hsv:=hs v hvm
  unfold Zfl
  rw [hvg]
  refine brD (fun _=>bs (br (fun hn=>bd (gri hsv.1 (by rw [hg.1]; exact hsv.2.1)) fun b hb=>?_) fun hn=>bd (wr (by omega) (by omega)) fun k hk=>ok (.inl ⟨by rw [hk],fun e=>by simp [e] at hn⟩))) fun h=>absurd g1 h
  have hbit : b = true ↔ Z1e w.Z0g s a v.Z1f:=by
   rw [← hg.2]; exact (Bit.of hb.2 (by have:=hsv.1; omega)).symm
  exact br (fun h=>brN (fun hne=>ok (.inr ⟨rfl,fun g=>hne (g (by simpa using hn) (hbit.1 h))⟩)) fun he=>bd (wr (by omega) (by omega)) fun k hk=>ok (.inl ⟨by rw [hk],fun _ _=>he⟩)) fun h=>bd (wr (by omega) (by omega)) fun k hk=>ok (.inl ⟨by rw [hk],fun _ g=>by rw [hbit.2 g] at h; cases h⟩)
 ·unfold Zfl
  exact brD (fun h=>absurd h (by omega)) fun _=>ok rfl
 ·rcases hq with ⟨rfl,h⟩ | ⟨rfl,v,hv,hn⟩
  ·exact ok ⟨fun _=>⟨ha',h⟩,fun _=>rfl⟩
  ·exact ok ⟨by simp,fun g=>absurd (g.2 v hv) hn⟩
end Go.Proofs
