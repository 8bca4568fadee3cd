/-
  armatureref08.Decode: the slices in its instructions are written where they stand. By hand. No condition.
-/
import Derived.Test.YtoijcliccgjolaaGreatCon5
import Derived.Test.YtoijcliccgjolaaGreatDenFam
set_option linter.unusedVariables false
namespace Go.Proofs
open Go.Den Go.Den.W
def Z8p (x : Z01) : List D:=[dI x.f_Op,dI x.f_A,dI x.f_B,dI x.f_To,.sl false (x.Z0r.map Z03)]
def Z8g (x : Z01) : List D:=[.str x.Z15.Z0o,.str x.Z15.Z02,.str x.Z15.Z1h,.str x.f_S]
abbrev EndT (r : Z01) : Exit → S → Prop:=EndsT Tryz.prog Tryz.f176 (Ztu (Z8p r) (Z8g r) r.Z0d)
theorem rtN {Γ : Ctx} {σ : S} {ev : Ev} {x r : Z01} (h : some x = some r) (hk0 : x.Z0r = []) (ht0 : x.Z0d = [])
  (hk : (fin ev,Z8h Tryz.prog σ Tryz.f176.results.toList) = (true,some ([.agg [dI x.f_Op,dI x.f_A,dI x.f_B,dI x.f_To,.sl true [],.sl true [],.str x.Z15.Z0o,.str x.Z15.Z02,.str x.Z15.Z1h,.str x.f_S]],tN Tryz.f176.results.size)):=by kernel_rfl) : E Tryz.prog Γ (EndT r) σ ev:=by
 cases h
 refine rtT ⟨[dI x.f_Op,dI x.f_A,dI x.f_B,dI x.f_To,.sl true []],.sl true [],Z8g x,[],True ∧ (True ∧ (True ∧ (True ∧ (True ∧ (True ∧ (True ∧ (True ∧ (True ∧ True)))))))),rfl,rfl,?_,?_,.inl ⟨rfl,ht0⟩,fun b n h=>(by cases h)⟩ hk
 ·unfold Z8p; rw [hk0]; rfl
 ·exact ⟨trivial,trivial,trivial,trivial,trivial,trivial,trivial,trivial,trivial,trivial⟩
theorem t164 {x0 : List UInt8} {x1 x2 : Int} {r : Z01} (h : Zi2 x0 x1 x2 = some r) : TakeS Tryz.prog 176 [.str x0,dI x1,dI x2] (Z8p r) (Z8g r) r.Z0d:=by
 refine Y0b (fn:=Tryz.f176) (c:=Z4z Tryz.f176) (by kernel_rfl) (by kernel_rfl) (by kernel_rfl) (Nat.le_of_ble_eq_true (by kernel_rfl)) fun Γ=>A.h (K:=[]) ?_
 exact bd h fun v0 e0 h=>go [] [rg 2 [(1,k (w120 e0))]] <| br h (fun h0 h=>bd h fun v1 e1 h=>bd h fun v2 e2 h=>go [] [rg 4 [(2,n e1),(3,k (w186 e2))]] <| rtN h rfl rfl) fun h0 h=>
 go [] [] <| br h (fun h1 h=>bd h fun v3 e3 h=>bd h fun v4 e4 h=>go [] [rg 6 [(2,n e3),(3,k (Z6x e4))]] <| rtN h rfl rfl) fun h1 h=>
  go [] [] <| br h (fun h2 h=>bd h fun v5 e5 h=>bd h fun v6 e6 h=>go [] [rg 8 [(2,n e5),(3,k (Z6x e6))]] <| rtN h rfl rfl) fun h2 h=>
   go [] [] <| br h (fun h3 h=>bd h fun v7 e7 h=>bd h fun v8 e8 h=>go [] [rg 10 [(2,n e7),(3,k (Z6x e8))]] <| rtN h rfl rfl) fun h3 h=>
    go [] [] <| br h (fun h4 h=>bd h fun v9 e9 h=>bd h fun v10 e10 h=>bd h fun v11 e11 h=>bd h fun v12 e12 h=>go [] [rg 12 [(2,n e9),(3,k (Z6x e10))],rg 13 [(2,n e11),(3,k (w186 e12))]] <| rtN h rfl rfl) fun h4 h=>
     go [] [] <| br h (fun h5 h=>bd h fun v13 e13 h=>bd h fun v14 e14 h=>bd h fun v15 e15 h=>bd h fun v16 e16 h=>bd h fun v17 e17 h=>bd h fun v18 e18 h=>go [] [rg 15 [(2,n e13),(3,k (Z6x e14))],rg 16 [(2,n e15),(3,k (w186 e16))],rg 17 [(2,n e17),(3,k (Z6x e18))]] <| bd h fun q0 e33 h=>lp (cv:=[.blk 7 5 1007 1]) e33 (wl176x1 v14 v16 x2) <| qe <| goN [] [] <| by
       cases h
       exact rtT ⟨[dI x2,dI v16,dI 0,dI v14,.sl true []],.lsl 1007 0 ((q0.map Z03).length),[.str [],.str [],.str [],.str []],[],True ∧ (True ∧ (True ∧ (True ∧ (True ∧ (True ∧ (True ∧ (True ∧ (True ∧ True)))))))),rfl,rfl,rfl,⟨trivial,trivial,trivial,trivial,trivial,trivial,trivial,trivial,trivial,trivial⟩,.inr ⟨1007,rfl,by kernel_rfl⟩,fun b n h=>by simp⟩) fun h5 h=>
      go [] [] <| br h (fun h9 h=>bd h fun v33 e34 h=>bd h fun v34 e35 h=>bd h fun v35 e36 h=>bd h fun v36 e37 h=>go [] [rg 23 [(2,n e34),(3,k (Z6x e35))],rg 24 [(2,n e36),(3,k (Z6x e37))]] <| bd h fun q2 e65 h=>lp (cv:=[.blk 7 4 1007 1,.blk 7 5 2007 1]) e65 (wl176x2 v34 x2) <| qe <| goN [] [] <| by
       cases h
       exact rtT ⟨[dI x2,dI 0,dI 0,dI v34,.lsl 1007 0 ((q2.1.map Z03).length)],.lsl 2007 0 ((q2.2.map Z03).length),[.str [],.str [],.str [],.str []],[1007],True ∧ (True ∧ (True ∧ (True ∧ ((0 + (q2.1.map Z03).length ≤ (q2.1.map Z03).length) ∧ (True ∧ (True ∧ (True ∧ (True ∧ True)))))))),rfl,rfl,
        (Eq.trans (b:=some ([dI x2,dI 0,dI 0,dI v34,rw_ q2.1,.str [],.str [],.str [],.str []],[1007],True ∧ (True ∧ (True ∧ (True ∧ ((0 + (q2.1.map Z03).length ≤ (q2.1.map Z03).length) ∧ (True ∧ (True ∧ (True ∧ (True ∧ True)))))))))) (by kernel_rfl) (by unfold Z8p Z8g; simp only [rwE]; rfl)),⟨trivial,trivial,trivial,trivial,by omega,trivial,trivial,trivial,trivial,trivial⟩,.inr ⟨2007,rfl,by kernel_rfl⟩,fun b n h=>by cases h; simp⟩) fun h9 h=>
       go [] [] <| rtN h rfl rfl
end Go.Proofs
