/-
  A slice that is compared with nil: of a slice with no rows it isn't known. No condition.
-/
import Derived.Test.YtoijcliccgjolaaGreatDenGo
import Derived.Lib.SliceRun
namespace Go.Den
namespace W
open Go.RowKit
variable {P : Program} {Γ : Ctx} {σ : S}
theorem slNil {w : World} {G : Nat → Nat} {β : Nat → Option (Nat × Nat)} {v : Value} {c : Bool} {rows : List (List D)} (h : Z06 w G β v (.sl c rows)) : ∃ a n k,v = .slice a n k ∧ (a.isNone = true → rows = []):=by
 cases h with
 | slnil c x=>exact ⟨x,0,0,rfl,fun _=>rfl⟩
 | sl=>exact ⟨_,_,_,rfl,fun h=>by cases h⟩
theorem eN {ops : Array Oper} {l : List Nat} {K : List Z2a} {Q : Exit → S → Prop} (i t t4 : Nat) (ty ty2 e : TypeId) (c : Bool) (rows : List (List D)) (h : ∀ b : Bool,(b = true → rows = []) → AO P Γ ops l.tail K Q (σ.put (some t4) (.bool b)))
  (hk : (l.head?,(ops[i]?).map fun o=>(o.dst,o.op,o.guard),σ.tmps t,P.underlying ty,Nat.blt t4 σ.n) = (some i,some (some t4,.binOp .eql ty (.tmp t) (.const (.slice none 0 0)) ty2,none),.sl c rows,some (.slice e),true):=by kernel_rfl) : AO P Γ ops l K Q σ:=by
 simp only [Prod.mk.injEq,Option.map_eq_some_iff] at hk
 obtain ⟨h1,⟨o,h2,h3,h4,h5⟩,h6,h7,h8⟩:=hk
 cases l with
 | nil=>cases h1
 | cons j l=>
 cases h1
 refine ⟨fun a w G β hC=>?_⟩
 have hv:=hC.tmps t
 rw [h6] at hv
 obtain ⟨x,n,k,hx,hn⟩:=slNil hv
 have hC' : Z05 Γ (σ.put (some t4) (.bool x.isNone)) (a.put (some t4) (.bool x.isNone)) w G β:=hC.put (fun u hu=>by cases hu; exact Nat.le_of_ble_eq_true h8) (.bool _)
 rw [wpOps_cons]
 unfold wpOp
 rw [h2]
 dsimp only
 rw [Zqd hC (o:=o) (g:=none) (b:=true) (p:=True) (by unfold Z4g; rw [h5]) trivial]
 refine .inl (Reach.of_value (v:= .bool x.isNone) (w':=w) (σ':=σ.put (some t4) (.bool x.isNone)) ?_ (by rw [h3]; exact hC') _ _ (fun a' w' G' β' hC'=>(h _ hn).h a' w' G' β' hC'))
 have hq : (binOp .eql ty (.slice x n k) (.slice none 0 0)).run P w = .ok (.bool x.isNone) w:=Lib.run_eql_slice_nil w _ _ x n k 0 0 h7
 have ha : a.eval (.tmp t) = .slice x n k:=hx
 obtain ⟨dst,op,ty',pos,after,guard⟩:=o
 cases h4
 refine Za2 ?_
 rw [ha]
 show (do eqGuard .eql ty (.tmp t) (.const (.slice none 0 0)) (.slice x n k) (.slice none 0 0); Go.binOp .eql ty (.slice x n k) (.slice none 0 0) : Sem Value).run P w = _
 rw [Sem.run_bind,Za1 (by intro cs h; cases h) (by intro h; cases h)]
 exact hq
theorem bC {Q : Exit → S → Prop} {ev : Ev} {b : Bool} (T : b = true → A P Γ (ex ev) (ek ev) Q σ) (F : b = false → A P Γ (ey ev) (ek ev) Q σ) (hb : eb ev = some b:=by kernel_rfl) : E P Γ Q σ ev:=by
 cases ev <;> cases hb
 exact ⟨fun e=>(T e).h,fun e=>(F e).h⟩
theorem rk {K : List Z2a} {Q : Exit → S → Prop} (x : SL) (cv : List Z4l) (ps : List (Nat × Nat)) (h : A P Γ (((popN K).getD (.skip,[])).1) (((popN K).getD (.skip,[])).2) Q x.s)
  (hk : (Z4u cv x.ts ps σ,σ.n,(popN K).isSome) = (some (x.l,x.bl),x.n,true):=by kernel_rfl) : RK P Γ K Q σ:=by
 have h1:=congrArg Prod.fst hk
 have h2:=congrArg (fun x=>x.2.1) hk
 have h3:=congrArg (fun x=>x.2.2) hk
 dsimp only at h1 h2 h3
 have hs : Sub σ x.s:=Z76 (cv:=cv) (ps:=ps) (by rw [h1,h2])
 refine ⟨Zip (fun z K' hp=>?_) fun hp=>?_⟩
 ·rw [hp] at h
  exact Sub.at hs h.h
 ·rw [hp] at h3; cases h3
theorem nilE {α : Type} [R : Row α] {l : List α} (h : l.map R.row = []) : l = [] :=by
 cases l with
 | nil=>rfl
 | cons=>cases h
end W
end Go.Den
