/-
  Loaders that the program and the reference find connected. No condition.
-/
import Derived.Test.YtoijcliccgjolaaGreatConQ
import Derived.Test.YtoijcliccgjolaaGreatConN
set_option linter.unusedVariables false
namespace Go.Proofs
open Go.Den Go.Tot
theorem Zxk (l : List Int) (x : Int) (hl : l.length ≤ 100000) : Ok (Zg7 l x) (fun r=>(0 ≤ r ∧ x ∈ l) ∨ (r = -1 ∧ x ∉ l)):=by
 unfold Zg7
 refine bd (P:=fun q : Unit ⊕ Int=>match q with | .inl _=>x ∉ l | .inr y=>0 ≤ y ∧ x ∈ l) ?_ fun q hq=>?_
 ·refine lp (fun t=>t) l.length (fun t=>x ∉ l.take t.toNat) (fun t hI g0 g1=>?_) (by omega) (by simp) (by omega) (by omega)
  unfold l49x1
  refine brD (fun hlt=>bd (gri g0 hlt) fun v hv=>brE (fun e=>dn ⟨g0,e ▸ hv.1⟩) fun hne=>bd (wr (by omega) (by omega)) fun k hk=>nx ?_ (by omega) (by omega)) fun hge=>dn ?_
  ·rw [hk,show (t + 1).toNat = t.toNat + 1 by omega,List.take_add_one,hv.2]
   simp only [Option.toList,List.mem_append,List.mem_singleton]
   exact fun h=>h.elim hI hne
  ·have:=hI; rwa [List.take_of_length_le (by omega)] at this
 ·cases q with
  | inl _=>exact ok (.inr ⟨rfl,hq⟩)
  | inr y=>exact ok (.inl hq)
theorem Zjw (l : List Int) (x : Int) (hl : l.length ≤ 100000) : Z6h l x = some (decide (x ∈ l)):=by
 unfold Z6h
 obtain ⟨r,e,h⟩:=Zxk l x hl
 rw [e]
 rcases h with ⟨h,g⟩ | ⟨h,g⟩
 ·simp [g]; omega
 ·simp [h,g]
theorem Zxv (l : List Int) (x : Int) (hl : l.length ≤ 100000) : Ok (Z6h l x) (fun b=>b = true ↔ x ∈ l):=ok' (Zjw l x hl) (by simp)
theorem dec_eq {p q : Prop} [Decidable p] [Decidable q] (h : (decide p == decide q) = true) : p ↔ q:=by
 by_cases hp : p <;> by_cases hq : q <;> simp_all
theorem dec_ne {p q : Prop} [Decidable p] [Decidable q] (h : (decide p == decide q) = false) : ¬(p ↔ q):=by
 by_cases hp : p <;> by_cases hq : q <;> simp_all
theorem pass30 (w : Z0b) (s : List UInt8) (a : Int) (l0 : List Int) (hc : w.Z0s.length ≤ 1000) (h : Z4y w.Z0s s a l0) :
  Ok (Z0a (Zh8 w s) Z0e (0,false,l0)) (fun q=>Z5n w.Z0s s a l0 w.Z0s.length q.2 q.1):=by
 refine lp (fun t=>t.1) w.Z0s.length (fun t=>Z5n w.Z0s s a l0 t.1.toNat t.2.1 t.2.2) (fun t hI g0 g1=>?_) (by omega) (Z5n.start h) (by dsimp only; omega) (by dsimp only; omega)
 have hlen:=hI.comp.len
 unfold Zh8
 refine brD (fun hlt=>bd (gri g0 hlt) fun c hcc=>?_) fun hge=>dn ?_
 rotate_left
 ·have e : t.1.toNat = w.Z0s.length:=by omega
  dsimp only
  rw [← e]; exact hI
 rw [Zjw _ _ (by omega),Zjw _ _ (by omega)]
 have hk1 : ∀ k : Int,k = t.1 + 1 → k.toNat = t.1.toNat + 1:=fun k h=>by omega
 refine bs (bs (br! (fun hn=>bd (wr (by omega) (by omega)) fun k hk=>nx ?_ (by dsimp only; omega) (by dsimp only; omega)) fun hn=>br (fun e=>bd (wr (by omega) (by omega)) fun k hk=>nx ?_ (by dsimp only; omega) (by dsimp only; omega)) fun e=>?_))
 ·dsimp only; rw [hk1 k hk]
  exact hI.skip hcc.2 fun e=>by simp [e] at hn
 ·dsimp only; rw [hk1 k hk]
  exact hI.skip hcc.2 fun _=>dec_eq e
 ·have hne:=dec_ne e
  have hn' : c.Z05 = s:=by simpa using hn
  unfold j30x1 Zjp
  refine brD (fun hA=>bd (gk (by simp only [List.length_append,List.length_cons,List.length_nil]; omega) (by simp only [List.length_append,List.length_cons,List.length_nil]; omega)) fun _ _=>bd (wr (by omega) (by omega)) fun k hk=>nx ?_ (by dsimp only; omega) (by dsimp only; omega)) fun hA=>bd (gk (by simp only [List.length_append,List.length_cons,List.length_nil]; omega) (by simp only [List.length_append,List.length_cons,List.length_nil]; omega)) fun _ _=>bd (wr (by omega) (by omega)) fun k hk=>nx ?_ (by dsimp only; omega) (by dsimp only; omega)
  ·exact hI.grow hcc.1 hn' (.inl ⟨rfl,rfl⟩) hA fun hB=>hne ⟨fun _=>hB,fun _=>hA⟩
  ·exact hI.grow hcc.1 hn' (.inr ⟨rfl,rfl⟩) (Decidable.byContradiction fun hB=>hne ⟨fun h=>absurd h hA,fun h=>absurd h hB⟩) hA
theorem passes {cs : List Z1s} {s : List UInt8} {a : Int} {f : Bool × List Int → Option (Ctl (Bool × List Int) (List Int))} {g : Bool × List Int → Option (List Int × Bool)} (hc : cs.length ≤ 1000)
  (hf : ∀ t : Bool × List Int,f t = if t.1 = true then (g t).bind fun q=>some (.next (q.2,q.1)) else some (.done t.2))
  (hg : ∀ t : Bool × List Int,Z4y cs s a t.2 → Ok (g t) (fun q=>Z5n cs s a t.2 cs.length q.2 q.1)) :
  Ok (Z0a f Z0e (true,[a])) (fun l=>l.length ≤ 1001 ∧ ∀ j,j ∈ l ↔ Z2r cs s a j):=by
 refine lm (fun t=>Z4y cs s a t.2 ∧ (t.1 = false → Shut cs s t.2)) (fun t=>2 * opn cs s t.2 + (if t.1 = true then 1 else 0)) (fun t hI=>?_) ⟨Z4y.start,by simp⟩ ?_
 ·rw [hf]
  refine br (fun e=>bd (hg t hI.1) fun q hq=>ok ⟨⟨hq.comp,fun e'=>?_⟩,?_⟩) fun e=>ok ⟨by have:=hI.1.len; omega,hI.1.shut (hI.2 e)⟩
  ·obtain ⟨e1,e2⟩:=hq.no e'
   rw [List.take_length] at e2
   dsimp only; rw [e1]; exact e2
  ·dsimp only
   rw [e,if_pos rfl]
   cases hb : q.2 with
   | true=>have:=hq.yes hb; rw [if_pos rfl]; omega
   | false=>rw [(hq.no hb).1,if_neg (by simp)]; omega
 ·have:=Ztd (cs:=cs) (s:=s) (l:=[a])
  unfold Z0e
  dsimp only
  rw [if_pos rfl]
  omega
theorem Zos (w : Z0b) (s : List UInt8) (a : Int) (hc : w.Z0s.length ≤ 1000) : Ok (Z8b w s a) (fun l=>l.length ≤ 1001 ∧ ∀ j,j ∈ l ↔ Z2r w.Z0s s a j):=by
 unfold Z8b
 exact bd (passes hc (fun t=>by unfold l30x1; rfl) fun t h=>pass30 w s a t.2 hc h) fun q hq=>ok hq
def InL (w : Z0b) (a : Int) : Prop:=0 ≤ a ∧ a < w.Z15.length
instance (w : Z0b) (a : Int) : Decidable (InL w a):=by unfold InL; infer_instance
theorem Ziw (w : Z0b) (a : Int) : Z8k w a = some (decide (InL w a)):=by
 unfold Z8k InL
 by_cases h : a ≥ 0 <;> simp [h]
theorem Zky (w : Z0b) (a : Int) : Zbw w a = some (decide (InL w a)):=Ziw w a
def ConnP (w : Z0b) (s : List UInt8) (a b : Int) : Prop:=InL w a ∧ InL w b ∧ Z2r w.Z0s s a b
theorem conn_ok (w : Z0b) (s : List UInt8) (a b : Int) (hc : w.Z0s.length ≤ 1000) : Ok (Zar w s a b) (fun r=>r = true ↔ ConnP w s a b):=by
 unfold Zar
 rw [Ziw,Ziw]
 refine bs (brD (fun ha=>bs (brD (fun hb=>bd (Zos w s a hc) fun l hl=>?_) fun h=>ok ⟨by simp,fun g=>absurd g.2.1 h⟩)) fun h=>ok ⟨by simp,fun g=>absurd g.1 h⟩)
 rw [Zjw _ _ (by omega)]
 exact bs (ok (by rw [decide_eq_true_eq,hl.2]; exact ⟨fun h=>⟨ha,hb,h⟩,fun h=>h.2.2⟩))
theorem Zxy (w : Z0b) (s : List UInt8) (a b : Int) (hc : w.Z0s.length ≤ 1000) (hl : w.Z15.length ≤ 8) (hk : ∀ b ∈ w.Z0s,Z58 w b) : Ok (Zgc w s a b) (fun r=>r = true ↔ ConnP w s a b):=by
 unfold Zgc
 rw [Zky,Zky]
 refine bs (br! (fun h=>ok ⟨by simp,fun g=>absurd g.1 (by simpa using h)⟩) fun ha=>bs (br! (fun h=>ok ⟨by simp,fun g=>absurd g.2.1 (by simpa using h)⟩) fun hb=>?_))
 have ha' : InL w a:=by simpa using ha
 have hb' : InL w b:=by simpa using hb
 unfold j12x1
 refine bd (Zw5 w s a (by omega) hl hk ha'.1 ha'.2) fun q hq=>bd (gri hb'.1 (by rw [hq.1]; exact hb'.2)) fun v hv=>ok ?_
 rw [← Bit.of (j:=b) hv.2 (by have:=hb'.1; omega),hq.2]
 exact ⟨fun h=>⟨ha',hb',h⟩,fun h=>h.2.2⟩
def PermP (w : Z0b) (a : Int) (s : List UInt8) (c : Int) : Prop:=InL w a ∧ ∀ u ∈ w.Z1c,u.Z05 = s → Z2r w.Z0s s a u.Z1x → u.Z0v = c
theorem perm_ok (w : Z0b) (a : Int) (s : List UInt8) (c : Int) (hc : w.Z0s.length ≤ 1000) (hi : w.Z1c.length ≤ 140737488355328) : Ok (Za8 w a s c) (fun r=>r = true ↔ PermP w a s c):=by
 unfold Za8
 rw [Ziw]
 refine bs (br! (fun h=>ok ⟨by simp,fun g=>absurd g.1 (by simpa using h)⟩) fun ha=>bd (Zos w s a hc) fun l hl=>?_)
 have ha' : InL w a:=by simpa using ha
 refine bd (allP (l:=w.Z1c) (p:=fun u=>u.Z05 = s → Z2r w.Z0s s a u.Z1x → u.Z0v = c) (y:= .inr false) (z:= .inl ()) (by omega) (fun t v g0 g1 hv hvm hvg=>?_) ?_) fun q hq=>?_
 ·unfold Zeq
  rw [hvg]
  refine brD (fun _=>bs (br (fun hn=>bd (Zxv _ _ (by omega)) fun b hb=>br (fun h=>brN (fun hne=>ok (.inr ⟨rfl,fun g=>hne (g (by simpa using hn) ((hl.2 _).1 (hb.1 h)))⟩)) fun he=>bd (wr (by omega) (by omega)) fun k hk=>ok (.inl ⟨by rw [hk],fun _ _=>he⟩)) fun h=>bd (wr (by omega) (by omega)) fun k hk=>ok (.inl ⟨by rw [hk],fun _ g=>by rw [hb.2 ((hl.2 _).2 g)] at h; cases h⟩)) fun hn=>bd (wr (by omega) (by omega)) fun k hk=>ok (.inl ⟨by rw [hk],fun e=>by simp [e] at hn⟩))) fun h=>absurd g1 h
 ·unfold Zeq
  exact brD (fun h=>absurd h (by omega)) fun _=>ok rfl
 ·rcases hq with ⟨rfl,h⟩ | ⟨rfl,v,hv,hn⟩
  ·exact ok ⟨fun _=>⟨ha',h⟩,fun _=>rfl⟩
  ·exact ok ⟨by simp,fun g=>absurd (g.2 v hv) hn⟩
theorem Zxl (w : Z0b) (a : Int) (s : List UInt8) (c : Int) (hc : w.Z0s.length ≤ 1000) (hi : w.Z1c.length ≤ 140737488355328) (hl : w.Z15.length ≤ 8) (hk : ∀ b ∈ w.Z0s,Z58 w b) (hs : ∀ v ∈ w.Z1c,Z6f w v) : Ok (Zfa w a s c) (fun r=>r = true ↔ PermP w a s c):=by
 unfold Zfa
 rw [Zky]
 refine bs (br! (fun h=>ok ⟨by simp,fun g=>absurd g.1 (by simpa using h)⟩) fun ha=>?_)
 have ha' : InL w a:=by simpa using ha
 refine bd (Zw5 w s a (by omega) hl hk ha'.1 ha'.2) fun l hg=>?_
 refine bd (allP (l:=w.Z1c) (p:=fun u=>u.Z05 = s → Z2r w.Z0s s a u.Z1x → u.Z0v = c) (y:= .inr false) (z:= .inl ()) (by omega) (fun t v g0 g1 hv hvm hvg=>?_) ?_) fun q hq=>?_
 ·have hsv:=hs v hvm
  unfold Zhz
  rw [hvg]
  refine brD (fun _=>bs (br (fun hn=>bd (gri hsv.1 (by rw [hg.1]; exact hsv.2.1)) fun b hb=>?_) fun hn=>bd (wr (by omega) (by omega)) fun k hk=>ok (.inl ⟨by rw [hk],fun e=>by simp [e] at hn⟩))) fun h=>absurd g1 h
  have hbit : b = true ↔ Z2r w.Z0s s a v.Z1x:=by
   rw [← hg.2]; exact (Bit.of hb.2 (by have:=hsv.1; omega)).symm
  exact br (fun h=>brN (fun hne=>ok (.inr ⟨rfl,fun g=>hne (g (by simpa using hn) (hbit.1 h))⟩)) fun he=>bd (wr (by omega) (by omega)) fun k hk=>ok (.inl ⟨by rw [hk],fun _ _=>he⟩)) fun h=>bd (wr (by omega) (by omega)) fun k hk=>ok (.inl ⟨by rw [hk],fun _ g=>by rw [hbit.2 g] at h; cases h⟩)
 ·unfold Zhz
  exact brD (fun h=>absurd h (by omega)) fun _=>ok rfl
 ·rcases hq with ⟨rfl,h⟩ | ⟨rfl,v,hv,hn⟩
  ·exact ok ⟨fun _=>⟨ha',h⟩,fun _=>rfl⟩
  ·exact ok ⟨by simp,fun g=>absurd (g.2 v hv) hn⟩
end Go.Proofs
