/-
  Whether class spaces are consistent, and a constraint that is added: the program and the reference answer alike. No condition.
-/
import Derived.Test.YtoijcliccgjolaaGreatConR
set_option linter.unusedVariables false
namespace Go.Proofs
open Go.Den Go.Tot
def ConsP (w : Z0b) : Prop:=∀ t : Int,0 ≤ t → t < w.Z0u.length → OneI w t
theorem cons_ok (w : Z0b) (hc : w.Z0m.length ≤ 1000) (hi : w.Z0u.length ≤ 140737488355328) : Ok (Zd4 w) (fun r=>r = true ↔ ConsP w):=by
 unfold Zd4
 refine bd (allL (n:=w.Z0u.length) (p:=OneI w) (y:= .inr false) (z:= .inl ()) (by omega) (by omega) (fun t g0 g1 _=>?_) ?_) fun q hq=>?_
 ·unfold Zim
  refine brD (fun _=>bd (gri g0 g1) fun u hu=>bd (comp_ok w u.Z03 u.Z1e hc) fun l hl=>?_) fun h=>absurd g1 h
  have hsub : sub w.Z0u 0 t = some (w.Z0u.take t.toNat):=by unfold sub; rw [if_pos (by omega)]; simp
  rw [hsub]
  have hlen : (w.Z0u.take t.toNat).length = t.toNat:=by rw [List.length_take]; omega
  refine bs (bd (allP (l:=w.Z0u.take t.toNat) (p:=fun v=>v.Z03 = u.Z03 → Z2d w.Z0m u.Z03 u.Z1e v.Z1e → v.Z0o = u.Z0o) (y:= .inr false) (z:= .inl ()) (by omega) (fun k v k0 k1 hv hvm hvg=>?_) ?_) fun q hq=>?_)
  ·unfold Zi7
   rw [hvg]
   refine brD (fun _=>bs (br (fun hn=>brN (fun hne=>bd (Zx0 _ _ (by omega)) fun b hb=>br (fun h=>ok (.inr ⟨rfl,fun g=>hne (g (by simpa using hn) ((hl.2 _).1 (hb.1 h)))⟩)) fun h=>bd (wr (by omega) (by omega)) fun k hk=>ok (.inl ⟨by rw [hk],fun _ g=>(by rw [hb.2 ((hl.2 _).2 g)] at h; cases h)⟩)) fun he=>bd (wr (by omega) (by omega)) fun k hk=>ok (.inl ⟨by rw [hk],fun _ _=>he⟩)) fun hn=>bd (wr (by omega) (by omega)) fun k hk=>ok (.inl ⟨by rw [hk],fun e=>by simp [e] at hn⟩))) fun h=>absurd k1 h
  ·unfold Zi7
   exact brD (fun h=>absurd h (by omega)) fun _=>ok rfl
  ·rcases hq with ⟨rfl,h⟩ | ⟨rfl,v,hv,hn⟩
   ·refine bd (wr (by omega) (by omega)) fun k hk=>ok (.inl ⟨by rw [hk],fun u' v hu' j hj hv=>?_⟩)
    rw [hu.2] at hu'; cases hu'
    exact h v (List.mem_iff_getElem?.2 ⟨j,by rw [List.getElem?_take,if_pos (by omega)]; exact hv⟩)
   ·refine ok (.inr ⟨rfl,fun g=>hn ?_⟩)
    obtain ⟨j,hj⟩:=List.mem_iff_getElem?.1 hv
    have hjl:=(List.getElem?_eq_some_iff.1 hj).1
    rw [List.getElem?_take,if_pos (by omega)] at hj
    exact g u v hu.2 j (by omega) hj
 ·unfold Zim
  exact brD (fun h=>absurd h (by omega)) fun _=>ok rfl
 ·rcases hq with ⟨rfl,h⟩ | ⟨rfl,t,g0,g1,hn⟩
  ·exact ok ⟨fun _=>h,fun _=>rfl⟩
  ·exact ok ⟨by simp,fun g=>absurd (g t g0 g1) hn⟩
theorem Zzf (w : Z0b) (hc : w.Z0m.length ≤ 1000) (hi : w.Z0u.length ≤ 140737488355328) : Ok (Zfl w) (fun r=>r = true ↔ ConsP w):=by
 unfold Zfl
 refine bd (allL (n:=w.Z0u.length) (p:=OneI w) (y:= .inr false) (z:= .inl ()) (by omega) (by omega) (fun t g0 g1 _=>?_) ?_) fun q hq=>?_
 ·unfold Zi2
  refine brD (fun _=>?_) fun h=>absurd g1 h
  obtain ⟨u,hu,hum,hui⟩:=gri (l:=w.Z0u) g0 g1
  rw [hu]
  refine bs (bs (bd (Zwu w u.Z03 u.Z1e hc) fun l hl=>?_))
  refine bd (allL (n:=t) (p:=fun k=>∀ v,w.Z0u[k.toNat]? = some v → v.Z03 = u.Z03 → Z2d w.Z0m u.Z03 u.Z1e v.Z1e → v.Z0o = u.Z0o) (y:= .inr false) (z:= .inl ()) g0 (by omega) (fun k k0 k1 _=>?_) ?_) fun q hq=>?_
  ·unfold Ziz
   obtain ⟨v,hv,hvm,hvi⟩:=gri (l:=w.Z0u) k0 (by omega)
   rw [hu,hv]
   have yes : (v.Z03 = u.Z03 → Z2d w.Z0m u.Z03 u.Z1e v.Z1e → v.Z0o = u.Z0o) → ∀ k',k' = k + 1 → Ok (some (Ctl.next k' : Ctl Int (Unit ⊕ Bool))) (fun x=>(x = .next (k + 1) ∧ ∀ v,w.Z0u[k.toNat]? = some v → v.Z03 = u.Z03 → Z2d w.Z0m u.Z03 u.Z1e v.Z1e → v.Z0o = u.Z0o) ∨ (x = .done (.inr false) ∧ ¬∀ v,w.Z0u[k.toNat]? = some v → v.Z03 = u.Z03 → Z2d w.Z0m u.Z03 u.Z1e v.Z1e → v.Z0o = u.Z0o)):=fun h k' hk=>
    ok (.inl ⟨by rw [hk],fun v' hv'=>by rw [hvi] at hv'; cases hv'; exact h⟩)
   refine brD (fun _=>bs (bs (br (fun hn=>bs (bs (brN (fun hne=>bs (bd (hasI_b _ _ (by omega)) fun b hb=>br (fun h=>ok (.inr ⟨rfl,fun g=>hne (g v hvi (by simpa using hn) ((hl.2 _).1 (hb.1 h)))⟩)) fun h=>bd (wr (by omega) (by omega)) fun k hk=>yes (fun _ g=>(by rw [hb.2 ((hl.2 _).2 g)] at h; cases h)) k hk)) fun he=>bd (wr (by omega) (by omega)) fun k hk=>yes (fun _ _=>he) k hk))) fun hn=>bd (wr (by omega) (by omega)) fun k hk=>yes (fun e=>by simp [e] at hn) k hk))) fun h=>absurd k1 h
  ·unfold Ziz
   exact brD (fun h=>absurd h (by omega)) fun _=>ok rfl
  ·rcases hq with ⟨rfl,h⟩ | ⟨rfl,k,k0,k1,hn⟩
   ·refine bd (wr (by omega) (by omega)) fun k hk=>ok (.inl ⟨by rw [hk],fun u' v hu' j hj hv=>?_⟩)
    rw [hui] at hu'; cases hu'
    exact h j (by omega) hj v (by rwa [show ((j : Nat) : Int).toNat = j by omega])
   ·exact ok (.inr ⟨rfl,fun g=>hn fun v hv=>g u v hui k.toNat (by omega) hv⟩)
 ·unfold Zi2
  exact brD (fun h=>absurd h (by omega)) fun _=>ok rfl
 ·rcases hq with ⟨rfl,h⟩ | ⟨rfl,t,g0,g1,hn⟩
  ·exact ok ⟨fun _=>h,fun _=>rfl⟩
  ·exact ok ⟨by simp,fun g=>absurd (g t g0 g1) hn⟩
theorem Val.cons {w : Z0b} (hw : Z47 w) (V : Val w) : ConsP w:=fun t g0 g1=>by
 obtain ⟨b,e,h⟩:=one_iff w hw (V.lod hw) V.con' (V.seen hw) t g0 g1
 rw [(V.ini t g0 g1).2] at e; cases e
 exact h.1 rfl
end Go.Proofs
