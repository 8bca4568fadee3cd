/-
  The laws of constraints. No condition.
-/
import Derived.Test.YtoijcliccgjolaaGreatConS
set_option linter.unusedVariables false
namespace Go.Proofs
open Go.Den Go.Tot
theorem works26 : Zal = some true:=by decide +kernel
abbrev Yes (o : Option Bool) : Prop:=Ok o fun r=>r = true
theorem Yes.eq {o : Option Bool} (h : Yes o) : o = some true:=by obtain ⟨r,e,h⟩:=h; rw [e,h]
theorem Zb9 : Yes (Zal.bind fun v=>some v):=ok' (by rw [works26]; rfl) rfl
theorem small26 (w : Z07) : Ok (Zjb w) (fun b=>b = true → w.Z0j.length ≤ 30):=by
 unfold Zjb
 exact brD (fun _=>brD (fun _=>brD (fun _=>ok fun h=>by have:=of_decide_eq_true h; omega) fun _=>ok (by simp)) fun _=>ok (by simp)) fun _=>ok (by simp)
theorem Zq3 {a b : Bool} {P : Prop} (h : a = true ↔ P) (g : b = true ↔ P) : a = b:=by
 cases a <;> cases b <;> simp_all
theorem brF {α : Type} {b : Bool} {x y : Option α} {P : α → Prop} (hb : b = false) (h : Ok y P) : Ok (if b = true then x else y) P:=by rw [if_neg (by simp [hb])]; exact h
theorem Y0g (w : Z07) (hw : Z39 w) (x : Z3r) (y : Z68) (hs0 : Str x.a0) (hs1 : Str x.a1) : Zn9 w x y = some true:=by
 refine Yes.eq ?_
 unfold Zn9
 refine bd (small26 w) fun b hb=>br! (fun _=>Zb9) fun e=>bd (wr (by omega) (by omega)) fun _ _=>brD (fun _=>Zb9) fun _=>bd (Y1q w hw) fun v hv=>br! (fun _=>Zb9) fun e'=>?_
 have hc:=hb e; have hi:=hw.iniL
 have S : Sp w:=⟨hw,hv.1 e',by omega⟩
 unfold j6x1
 refine bd (Zfb w S _ hs0 y.a0 y.a1) fun r hr=>bd (Zfb w S _ hs1 y.a2 y.a3) fun q hq=>brN (fun _=>Zb9) fun r0=>brN (fun _=>Zb9) fun q0=>?_
 obtain ⟨rw',rv,rc,r1,r2,r3⟩:=hr.sp S hs0
 obtain ⟨qw,qv,qc,q1,q2,q3⟩:=hq.sp S hs1
 obtain ⟨rs,ra,rb,rn⟩:=hr.same r0
 obtain ⟨qs,qa,qb,qn⟩:=hq.same q0
 have Sr : Sp r.1:=⟨rw',rv,by omega⟩
 have Sq : Sp q.1:=⟨qw,qv,by omega⟩
 unfold j6x2
 refine bd (Zfb r.1 Sr _ hs1 y.a2 y.a3) fun u hu=>bd (Zfb q.1 Sq _ hs0 y.a0 y.a1) fun v hv=>?_
 have h1:=hu.iff Sr qn (by unfold InL at *; rw [r1]; exact qa) (by unfold InL at *; rw [r1]; exact qb)
 have h2:=hv.iff Sq rn (by unfold InL at *; rw [q1]; exact ra) (by unfold InL at *; rw [q1]; exact rb)
 rw [r2,Z43.same (Zjm _ rs)] at h1
 rw [q2,Z43.same (Zjm _ qs),← Z43.same Zpy] at h2
 have h12 : (u.2 == 0) = (v.2 == 0):=Zq3 (P:=Z43 w.Z0u (w.Z0j ++ [⟨x.a0,y.a0,y.a1⟩] ++ [⟨x.a1,y.a2,y.a3⟩])) (by rw [beq_iff_eq]; exact h1) (by rw [beq_iff_eq]; exact h2)
 refine brF (by rw [h12]; simp) ?_
 have hlod:=S.sv.lod hw
 refine bd (P:=fun q=>q = .inl ()) (li w.Z0z.length (fun t h0 t1=>?_) (by omega) (by omega) (by omega)) fun q hq=>by subst hq; exact Zb9
 unfold l6x1
 refine brD (fun hlt=>br (fun e=>?_) fun _=>di rfl) fun _=>di rfl
 have u0 : u.2 = 0:=by simpa using e
 have v0 : v.2 = 0:=by rw [h12] at e; simpa using e
 obtain ⟨us,_⟩:=hu.same u0
 obtain ⟨vs,_⟩:=hv.same v0
 obtain ⟨_,_,uc,u1,_⟩:=hu.sp Sr hs1
 obtain ⟨_,_,vc,v1,_⟩:=hv.sp Sq hs0
 have uv : Z2g u.1.Z0j v.1.Z0j:=(us.trans (Zjm _ rs)).trans (Zpy.trans ((vs.trans (Zjm _ qs)).symm))
 have ce : ∀ (n : List UInt8) (i j : Int) c d,(c = true ↔ Zis u.1 n i j) → (d = true ↔ Zis v.1 n i j) → c = d:=fun n i j c d hc hd=>Zq3 hc (hd.trans (by unfold Zis InL; rw [u1,v1,r1,q1,uv n i j]))
 unfold j6x3
 refine bd (P:=fun q=>q = .inl ()) (li w.Z0z.length (fun k k0 k1=>?_) (by omega) (by omega) (by omega)) fun q hq=>by subst hq; exact bd (wr (by omega) (by omega)) fun k hk=>ni (by omega) (by omega)
 unfold l6x2
 exact brD (fun hlt=>bd (Zia u.1 _ t k (by omega)) fun c hc=>bd (Zia v.1 _ t k (by omega)) fun d hd=>brF (by rw [ce _ _ _ _ _ hc hd]; simp) (bd (Zia u.1 _ t k (by omega)) fun c hc=>bd (Zia v.1 _ t k (by omega)) fun d hd=>brF (by rw [ce _ _ _ _ _ hc hd]; simp) (bd (wr (by omega) (by omega)) fun k hk=>ni (by omega) (by omega)))) fun _=>di rfl
end Go.Proofs
