/-
  Graphs with one more object: what is reachable stays so. No condition.
-/
import Derived.Test.YtiiilinleagffaaGreatDoorRchX
import Derived.Test.YtiiilinleagffaaGreatDoorRch10
import Derived.Test.YtiiilinleagffaaGreatDoorRchZ3
set_option linter.unusedVariables false
set_option linter.unusedSimpArgs false
namespace Go.Proofs
open Go.Den Go.Tot
theorem Gr.Re.carry {g g':Gr} {k:Int} (hr:∀ x,x∈g.roots→x∈g'.roots) (hs:∀ x,g.Re k x→(∀ y,y∈g.refs x→y∈g'.refs x)∧g'.to x=g.to x∧g'.str x=g.str x) {n:Int} (h:g.Re k n):g'.Re k n:=by
 induction h with
 | root h=>exact .root (hr _ h)
 | ref h hm ih=>exact .ref ih ((hs _ h).1 _ hm)
 | @to n h hk h0 ih=>
  obtain⟨_,e1,e2⟩:=hs n h
  have:=Gr.Re.to ih (by rw[e2]; exact hk) (by rw[e1]; exact h0)
  rwa [e1] at this
theorem Gr.Re.same {g g':Gr} {k:Int} (hr:∀ x,x∈g.roots↔x∈g'.roots) (hs:∀ x,g.Re k x→g'.refs x=g.refs x∧g'.to x=g.to x∧g'.str x=g.str x) (n:Int):g.Re k n↔g'.Re k n:=by
 refine⟨λh=>h.carry (λx hx=>(hr x).1 hx) λx hx=>⟨λy hy=>by rw[(hs x hx).1]; exact hy,(hs x hx).2⟩,λh=>?_⟩
 refine Gr.Re.least (S:=g.Re k) (λx hx=> .root ((hr x).2 hx)) (λx hx y hy=> .ref hx ?_) (λx hx hk h0=>?_) h
 ·rwa [(hs x hx).1] at hy
 ·obtain⟨_,e1,e2⟩:=hs x hx
  rw[e1] at h0 ⊢
  exact .to hx (by rwa [e2] at hk) h0
end Go.Proofs
namespace Go.Proofs
open Tryz
open Go.Den Go.Den.W
def R47 (y0:Int):D:= .int .i64 y0
def l47x1 (x0:Z4) (t0:Int×Int):Option (Ctl (Int×Int) (Int)):= if (decide (t0.2<(x0.Z2.length:Int))) then ((Z5 x0.Z2 t0.2).bind λv1=> if (v1.Zn !=0) then ((some (IntKind.wrap .i64 (t0.1+1))).bind λv2=> (some (IntKind.wrap .i64 (t0.2+1))).bind λv3=> some (.next (v2,v3))) else ((some (IntKind.wrap .i64 (t0.2+1))).bind λv4=> some (.next (t0.1,v4)))) else (some (.done (t0.1)))
def Zb4 (x0:Z4):Option (Int):= (Z7 (l47x1 x0) Z8 (0,0)).bind λq0=> some q0
def Zol (x0:Z4):(Int×Int)→SL:= λt0=>⟨22,[(1,.ptr (Zo x0)),(3,dI t0.1),(4,dI t0.2)],[]⟩
def J47x1:JT Int:= je 0 λq0:Int=>⟨22,[(3,dI q0)],[]⟩
theorem wl47x1 {x0 t0 r Γ} (h:(l47x1 x0) t0=some r):A prog Γ (lpC f47 43) [] (Rd (Zol x0) J47x1 r) ((Zol x0) t0).s:= go [] [rg 3 [(3,ln x0.Z2)]]<|br h (λh2 h=>bd h λv1 e1 h=>go [] [rg 5 [(3,ix e1)]]<|br h (λh3 h=>bd h λv2 e2 h=>bd h λv3 e3 h=>go [] [rg 6 [(1,n e2)],rg 4 [(1,n e3)]]<|nx h) λh3 h=> bd h λv4 e4 h=>go [] [rg 4 [(1,n e4)]]<|nx h) λh2 h=> go [] []<|dn h (iE)
theorem w47 {x0 r} (h:Zb4 x0=some r):Zb prog 47 [.agg (Zo x0)] (R47 r):= cs f47<|go [] [rg 0 [(0,bo)]]<|bd h λq0 e5 h=>lp e5 wl47x1<|qe<|goN [] []<|rt h
def R48 (y0:Int):D:= .int .i64 y0
def l48x1 (x0:Z4) (t0:Int):Option (Ctl (Int) (Unit⊕Int)):= if (decide (t0<(x0.Z2.length:Int))) then ((Z5 x0.Z2 t0).bind λv1=> if (v1.Zn==0) then (some (.done (.inr t0))) else ((some (IntKind.wrap .i64 (t0+1))).bind λv2=> some (.next v2))) else (some (.done (.inl (()))))
def Zeo (x0:Z4):Option (Int):= (Z7 (l48x1 x0) Z8 0).bind λq1=> match q1 with | .inl q0=>(some (x0.Z2.length:Int)) | .inr y0=>(some y0)
def Zuo (x0:Z4):Int→SL:= λt0=>⟨22,[(1,.ptr (Zo x0)),(3,dI t0)],[]⟩
def J48x1 (x0:Z4):JT (Unit⊕Int):= ju (je 0 λq0:Unit=>⟨22,[(1,.ptr (Zo x0))],[]⟩) (jr prog f48 R48)
theorem wl48x1 {x0 t0 r Γ} (h:(l48x1 x0) t0=some r):A prog Γ (lpC f48 21) [] (Rd (Zuo x0) (J48x1 x0) r) ((Zuo x0) t0).s:= go [] [rg 2 [(3,ln x0.Z2)]]<|br h (λh2 h=>bd h λv1 e1 h=>go [] [rg 4 [(3,ix e1)]]<|br h (λh3 h=>go [] []<|dn h (i2 iR)) λh3 h=> bd h λv2 e2 h=>go [] [rg 3 [(1,n e2)]]<|nx h) λh2 h=> go [] []<|dn h (i1 iE)
theorem w48 {x0 r} (h:Zeo x0=some r):Zb prog 48 [.agg (Zo x0)] (R48 r):= cs f48<|go [] [rg 0 [(0,bo)]]<|bd h λq1 e3 h=>lp e3 wl48x1<|match q1,h with | .inl q0,h=>j1<|(qe<|goN [] [rg 6 [(2,ln x0.Z2)]]<|rt h) | .inr y0,h=>j2<|(qr h)
def R49 (y0:Z4):D:= .agg (Zo y0)
def Z6e (x0:Z4) (x1:Int) (x2:Zl) (p0:List Zl):Option (Z4):= (Xq x1 p0.length).bind λv2=> (p0[v2]?).bind λv3=> some (Z4.mk x0.Y1 x0.V6 (p0.set v2 x2) x0.X7 x0.Xc x0.Zz x0.W5)
def Zce (x0:Z4) (x1:Int) (x2:Zl):Option (Z4):= (Ye 112 (([]:List Zl)++x0.Z2).length).bind λv0=> if (x1==(x0.Z2.length:Int)) then ((Ye 112 ((([]:List Zl)++x0.Z2)++[x2]).length).bind λv1=> (Z6e x0 x1 x2) ((([]:List Zl)++x0.Z2)++[x2])) else ((Z6e x0 x1 x2) (([]:List Zl)++x0.Z2))
theorem Zvr {x0 x1 x2 p0 r Γ} (h:(Z6e x0 x1 x2) p0=some r):Jn prog f49 Γ (Den.Ends prog f49 (R49 r)) 47 ⟨31,[(1,dI x1),(5,.ptr (X4 x2)),(6,.lptr 6 0 0),(7,.lptr 7 0 0)],[(6,{ sz:=10,rows:=[[.sl true (([]:List Yi).map Xl),.sl true (([]:List Y7).map Xx),.sl true (([]:List Xn).map Q6),.sl true (([]:List Qj).map Qi),dI 0,.sl true (([]:List Zl).map X4),.sl true (([]:List Xm).map Qg),.sl true (([]:List Ql).map Qs),.sl true (([]:List Yu).map Xk),.sl true (([]:List (List UInt8)).map Q2)]],frz:=0,pure:=false }),(7,{ sz:=10,rows:=[[.sl false (x0.Y1.X3.map Xl),.sl false (x0.Y1.Zy.map Xx),.sl false (x0.Y1.X1.map Q6),.sl false (x0.Y1.Qq.map Qi),dI x0.V6,.lsl 9 0 ((p0.map X4).length),.sl false (x0.X7.map Qg),.sl false (x0.Xc.map Qs),.sl false (x0.Zz.map Xk),.sl false (x0.W5.map Q2)]],frz:=0,pure:=false }),(9,{ sz:=9,rows:=(p0.map X4),frz:=0,pure:=true })]⟩:= so<|bd h λv2 e2 h=>bd h λv3 e3 h=>go [6] [rg 5 [(4,ia 9 e2),(5,st e3 0 [dI x2.Zn,dI x2.Zv.Xh,d8 x2.Zv.X0,dI x2.Zv.Zq,.sl false (x2.Yj.map X2),.str x2.Xv,dI x2.Qw,dI x2.Qh,.sl false (x2.Q7.map Z1)] x2)]]<|nm (congrArg (λnn:Nat=>(⟨31,[(6,.lptr 6 0 0),(7,.lptr 7 0 0)],[(6,{ sz:=10,rows:=[[.sl true (([]:List Yi).map Xl),.sl true (([]:List Y7).map Xx),.sl true (([]:List Xn).map Q6),.sl true (([]:List Qj).map Qi),dI 0,.sl true (([]:List Zl).map X4),.sl true (([]:List Xm).map Qg),.sl true (([]:List Ql).map Qs),.sl true (([]:List Yu).map Xk),.sl true (([]:List (List UInt8)).map Q2)]],frz:=0,pure:=false }),(7,{ sz:=10,rows:=[[.sl false (x0.Y1.X3.map Xl),.sl false (x0.Y1.Zy.map Xx),.sl false (x0.Y1.X1.map Q6),.sl false (x0.Y1.Qq.map Qi),dI x0.V6,.lsl 9 0 nn,.sl false (x0.X7.map Qg),.sl false (x0.Xc.map Qs),.sl false (x0.Zz.map Xk),.sl false (x0.W5.map Q2)]],frz:=0,pure:=false }),(9,{ sz:=9,rows:=((p0.set v2 x2).map X4),frz:=0,pure:=true })]⟩:SL)) (by simp only[List.length_map,List.length_set]:(p0.map X4).length=((p0.set v2 x2).map X4).length))<|so<|go [] []<|rtB h (.agg [.sl false (x0.Y1.X3.map Xl),.sl false (x0.Y1.Zy.map Xx),.sl false (x0.Y1.X1.map Q6),.sl false (x0.Y1.Qq.map Qi),dI x0.V6,rw_ (p0.set v2 x2),.sl false (x0.X7.map Qg),.sl false (x0.Xc.map Qs),.sl false (x0.Zz.map Xk),.sl false (x0.W5.map Q2)]) (a2 (a2 trivial (a2 trivial (a2 trivial (a2 trivial (a2 trivial (a2 (rpI (p0.set v2 x2)) (a2 trivial (a2 trivial (a2 trivial (a2 trivial trivial)))))))))) trivial) (by simp only[rwE] <;> kernel_rfl)
theorem w49 {x0 x1 x2 r} (h:Zce x0 x1 x2=some r):Zb prog 49 [.agg (Zo x0),dI x1,.agg (X4 x2)] (R49 r):= cs f49<|bd h λv0 e0 h=>go [] [rg 0 [(0,bo),(1,bo)],rg 2 [(0,bl 0 9),(3,ap e0)],rg 3 [(3,ln x0.Z2)]]<|br h (λh0 h=>bd h λv1 e1 h=>go [5] [rg 4 [(3,br0 1 9),(4,ap e1)]]<|jn (Zvr h)) λh0 h=> go [5] []<|jn (Zvr h)
def R23 (y0:Z4×Int×Int):D:= .tup [.agg (Zo y0.1),.int .i64 y0.2.1,.int .i64 y0.2.2]
def Ziv (x0:Z4) (x1:Zl):Option (Z4×Int×Int):= (Zb4 x0).bind λv0=> if (decide (v0≥x0.V6)) then (some (x0,0,57)) else ((Zeo x0).bind λv1=> (Zce x0 v1 x1).bind λv2=> if (x1.Zn==0) then (some (x0,0,1)) else ((Km v2 v1).bind λv3=> if (!v3) then (some (x0,0,1)) else ((some (IntKind.wrap .i64 (v1+1))).bind λv4=> some (v2,v4,0))))
theorem w23 {x0 x1 r} (h:Ziv x0 x1=some r):Zb prog 23 [.agg (Zo x0),.agg (X4 x1)] (R23 r):= cs f23<|bd h λv0 e0 h=>go [] [rg 0 [(0,bo),(1,bo)],rg 1 [(1,k (w47 e0))]]<|br h (λh0 h=>go [] []<|rt h) λh0 h=> bd h λv1 e1 h=>bd h λv2 e2 h=>sp h (λh1 h=>go [] [rg 3 [(1,k (w48 e1))],rg 4 [(3,k (w49 e2))],rg 5 [(2,kb h1)]]<|bT rfl<|go [] []<|rt h) λh1 h=> bd h λv3 e3 h=>go [] [rg 3 [(1,k (w48 e1))],rg 4 [(3,k (w49 e2))],rg 5 [(2,kb h1),(6,k (w28 e3))]]<|br h (λh2 h=>go [] []<|rt h) λh2 h=> bd h λv4 e4 h=>go [] [rg 7 [(2,n e4)]]<|rt h
def R24 (y0:Z4×Int×Int):D:= .tup [.agg (Zo y0.1),.int .i64 y0.2.1,.int .i64 y0.2.2]
def Za8 (x0:Z4) (x1:Int):Option (Z4×Int×Int):= if (decide ((x0.Zz.length:Int)≥8)) then (some (x0,0,5)) else ((Ye 80 (([]:List Yu)++x0.Zz).length).bind λv1=> (Ye 80 ((([]:List Yu)++x0.Zz)++[(Yu.mk 0 0 0 [] x1 0 (Zg.mk 0 0))]).length).bind λv2=> some ((Z4.mk x0.Y1 x0.V6 x0.Z2 x0.X7 x0.Xc ((([]:List Yu)++x0.Zz)++[(Yu.mk 0 0 0 [] x1 0 (Zg.mk 0 0))]) x0.W5),(x0.Zz.length:Int),0))
def Zk1 (x0:Z4) (x1:Int):Option (Z4×Int×Int):= if (x1 !=0) then ((Uk x0 x1).bind λv0=> if (!v0) then (some (x0,0,2)) else ((Za8 x0 x1))) else ((Za8 x0 x1))
theorem Zrr {x0 x1 r Γ} (h:(Za8 x0 x1)=some r):Jn prog f24 Γ (Den.Ends prog f24 (R24 r)) 19 ⟨36,[(1,dI x1),(2,.ptr (Zo x0)),(4,.lptr 4 0 0)],[(4,{ sz:=10,rows:=[[.sl true (([]:List Yi).map Xl),.sl true (([]:List Y7).map Xx),.sl true (([]:List Xn).map Q6),.sl true (([]:List Qj).map Qi),dI 0,.sl true (([]:List Zl).map X4),.sl true (([]:List Xm).map Qg),.sl true (([]:List Ql).map Qs),.sl true (([]:List Yu).map Xk),.sl true (([]:List (List UInt8)).map Q2)]],frz:=0,pure:=false })]⟩:= so<|go [] [rg 3 [(2,ln x0.Zz)]]<|br h (λh2 h=>go [] []<|rt h) λh2 h=> bd h λv1 e1 h=>bd h λv2 e2 h=>go [] [rg 6 [(0,bl 0 8),(3,ap e1),(6,br0 1 8),(7,ap e2)],rgx 7 [(3,ln x0.Zz)] [4,1001,1002,1003]]<|rtB h (.tup [.agg [.sl false (x0.Y1.X3.map Xl),.sl false (x0.Y1.Zy.map Xx),.sl false (x0.Y1.X1.map Q6),.sl false (x0.Y1.Qq.map Qi),dI x0.V6,.sl false (x0.Z2.map X4),.sl false (x0.X7.map Qg),.sl false (x0.Xc.map Qs),rw_ ((([]:List Yu)++x0.Zz)++[(Yu.mk 0 0 0 [] x1 0 (Zg.mk 0 0))]),.sl false (x0.W5.map Q2)],dI (x0.Zz.length:Int),dI 0]) (a2 (a2 trivial (a2 trivial (a2 trivial (a2 trivial (a2 trivial (a2 trivial (a2 trivial (a2 trivial (a2 (rpI ((([]:List Yu)++x0.Zz)++[(Yu.mk 0 0 0 [] x1 0 (Zg.mk 0 0))])) (a2 trivial trivial)))))))))) (a2 trivial (a2 trivial trivial))) (by simp only[rwE] <;> kernel_rfl)
theorem w24 {x0 x1 r} (h:Zk1 x0 x1=some r):Zb prog 24 [.agg (Zo x0),dI x1] (R24 r):= cs f24<|sp h (λh0 h=>bd h λv0 e0 h=>go [] [rg 0 [(0,bo)],rg 1 [(1,kb h0),(5,k (w50 e0))]]<|br h (λh1 h=>go [] []<|rt h) λh1 h=> go [3] []<|jn (Zrr h)) λh0 h=> go [] [rg 0 [(0,bo)],rg 1 [(1,kb h0)]]<|bF rfl<|go [3] []<|jn (Zrr h)
def R5 (y0:Bool):D:= .bool y0
def Mn:Option (Bool):= (J6).bind λv22=> some v22
def l5x1 (v2:Z4×Int×Int) (v4 v5:(List Int)) (t0:Int):Option (Ctl (Int) (Unit⊕Bool)):= if (decide (t0<(v4.length:Int))) then ((some (IntKind.wrap .i64 (v2.2.1 - 1))).bind λv11=> if (t0 !=v11) then (if (decide (t0≥(v5.length:Int))) then (some (.done (.inr false))) else ((Z5 v4 t0).bind λv12=> (Z5 v5 t0).bind λv13=> if (v12 !=v13) then (some (.done (.inr false))) else ((some (IntKind.wrap .i64 (t0+1))).bind λv14=> some (.next v14)))) else ((some (IntKind.wrap .i64 (t0+1))).bind λv15=> some (.next v15))) else (some (.done (.inl (()))))
def j5x2 (v2:Z4×Int×Int) (v4 v5:(List Int)):Option (Bool):= (Z7 (l5x1 v2 v4 v5) Z8 0).bind λq1=> match q1 with | .inl q0=>((Zk1 v2.1 v2.2.1).bind λv16=> if (v16.2.2 !=0) then ((J6).bind λv17=> some v17) else ((Z1z v16.1).bind λv18=> (J6).bind λv19=> if v19 then (if ((v18.length:Int)==(v16.1.Z2.length:Int)) then ((some (IntKind.wrap .i64 (v2.2.1 - 1))).bind λv20=> (Z5 v18 v20).bind λv21=> some v21) else (some false)) else (some false))) | .inr y0=>(some y0)
def j5x1 (x0:Z4) (x1:Zl):Option (Bool):= (Ziv x0 x1).bind λv2=> if (v2.2.2 !=0) then ((J6).bind λv3=> some v3) else ((Ww x0).bind λv4=> (Ww v2.1).bind λv5=> if ((v5.length:Int)!=(v2.1.Z2.length:Int)) then (some false) else (if (decide (v2.2.1<1)) then (some false) else (if (decide (v2.2.1>(v5.length:Int))) then (some false) else ((some (IntKind.wrap .i64 (v2.2.1 - 1))).bind λv6=> (Z5 v5 v6).bind λv7=> if (v7 !=0) then (some false) else ((j5x2 v2 v4 v5))))))
def Zjz (x0 : Z4) (x1:Zl):Option (Bool):= (Z1k x0).bind λv0=> if (!v0) then (Mn) else (if (decide ((x1.Yj.length:Int)>60)) then (Mn) else (if (decide ((x1.Xv.length:Int)>1000)) then (Mn) else (if (x1.Qw !=0) then (Mn) else (if (decide ((x1.Q7.length:Int)>0)) then (Mn) else ((Mz x0).bind λv1=> if (!v1) then (Mn) else ((j5x1 x0 x1)))))))
theorem Z36 {r Γ} (h:Mn=some r):Jn prog f5 Γ (Den.Ends prog f5 (R5 r)) 37 ⟨140,[],[]⟩:= so<|bd h λv22 e23 h=>go [] [rg 2 [(0,k (w9 e23))]]<|rt h
def st5x1 (v2:Z4×Int×Int) (v4 v5:(List Int)):Int→SL:= λt0=>⟨140,[(5,.lptr 5 0 0),(6,dI v2.2.1),(8,.sl false (v4.map Z1)),(9,.sl false (v5.map Z1)),(10,dI t0)],[(5,{ sz:=10,rows:=[Zo v2.1],frz:=0,pure:=false })]⟩
def J5x1 (v2:Z4×Int×Int):JT (Unit⊕Bool):= ju (je 0 λq0:Unit=>⟨140,[(5,.lptr 5 0 0),(6,dI v2.2.1)],[(5,{ sz:=10,rows:=[Zo v2.1],frz:=0,pure:=false })]⟩) (jr prog f5 R5)
theorem wl5x1 {v2 v4 v5 t0 r Γ} (h:(l5x1 v2 v4 v5) t0=some r):A prog Γ (lpC f5 703) [] (Rd (st5x1 v2 v4 v5) (J5x1 v2) r) ((st5x1 v2 v4 v5) t0).s:= go [] [rg 10 [(2,ln v4)]]<|br h (λh15 h=>bd h λv11 e11 h=>sp h (λh16 h=>sp h (λh17 h=>go [] [rg 12 [(2,n e11),(3,kb h16),(7,ln v5),(8,kb h17)]]<|bT rfl<|go [] []<|dn h (i2 iR)) λh17 h=> bd h λv12 e12 h=>bd h λv13 e13 h=>go [] [rg 12 [(2,n e11),(3,kb h16),(7,ln v5),(8,kb h17),(12,ix e12),(16,ix e13)]]<|br h (λh18 h=>go [] []<|dn h (i2 iR)) λh18 h=> bd h λv14 e14 h=>go [] [rg 11 [(1,n e14)]]<|nx h) λh16 h=> go [] [rg 12 [(2,n e11),(3,kb h16)]]<|bF rfl<|bd h λv15 e15 h=>go [] [rg 11 [(1,n e15)]]<|nx h) λh15 h=> go [] []<|dn h (i1 iE)
theorem wj5x2 {v2 v4 v5 r Γ} (h:(j5x2 v2 v4 v5)=some r):Jn prog f5 Γ (Den.Ends prog f5 (R5 r)) 319 ⟨140,[(5,.lptr 5 0 0),(6,dI v2.2.1),(8,.sl false (v4.map Z1)),(9,.sl false (v5.map Z1))],[(5,{ sz:=10,rows:=[Zo v2.1],frz:=0,pure:=false })]⟩:= so<|go [] []<|bd h λq1 e16 h=>lp e16 wl5x1<|match q1,h with | .inl q0,h=>j1<|(qe<|bd h λv16 e17 h=>goN [] [rg 14 [(2,k (w24 e17))]]<|br h (λh19 h=>bd h λv17 e18 h=>go [] [rg 16 [(0,k (w9 e18))]]<|rt h) λh19 h=> bd h λv18 e19 h=>go [18] [rg 17 [(1,k (w18 e19))]]<|po<|bd h λv19 e20 h=>pr 2 [(0,k (w9 e20))]<|sp h (λh20 h=>pr 8 ((2,gw h20 g0)::(3,gw h20 (ln v18))::gC h20 4 2 [(6,gw h20 (ln v16.1.Z2)),(7,gw h20 g0),(8,py h20)])<|sp h (λh21 h=>bd h λv20 e21 h=>bd h λv21 e22 h=>pr 7 (gC h21 10 2 [(12,gw h21 (n e21)),(13,gw h21 (ix e22)),(14,gw h21 g0),(15,py h21)])<|pe<|goN [] []<|rt h) λh21 h=> pr 7 (gB h21 10 5 [(15,pn h21)])<|pe<|goN [] []<|rt h) λh20 h=> pr 15 (gB h20 2 6 [(8,pn h20)])<|pe<|goN [] []<|rt h) | .inr y0,h=>j2<|(qr h)
theorem wj5x1 {x0 x1 r Γ} (h:(j5x1 x0 x1)=some r):Jn prog f5 Γ (Den.Ends prog f5 (R5 r)) 11 ⟨140,[(2,.ptr (Zo x0)),(3,.ptr (X4 x1))],[]⟩:= so<|bd h λv2 e2 h=>go [] [rg 3 [(2,k (w23 e2))]]<|br h (λh6 h=>bd h λv3 e3 h=>go [] [rg 5 [(0,k (w9 e3))]]<|rt h) λh6 h=> bd h λv4 e4 h=>bd h λv5 e5 h=>go [7] [rg 6 [(1,k (w20 e4)),(3,k (w20 e5))]]<|po<|pr 7 [(1,ln v5),(4,ln v2.1.Z2)]<|sp h (λh7 h=>pr 17 (gA h7 7 2 [(9,py h7)])<|pe<|goN [] []<|bT rfl<|go [] []<|rt h) λh7 h=> pr 4 (gC h7 7 2 [(9,pn h7)])<|sp h (λh8 h=>pr 13 (gA h8 11 4 [(15,py h8)])<|pe<|goN [] []<|bT rfl<|go [] []<|rt h) λh8 h=> pr 6 (gC h8 11 2 [(13,gw h8 (ln v5)),(14,gw h8 g0),(15,pn h8)])<|sp h (λh9 h=>pr 7 (gA h9 17 6 [(23,py h9)])<|pe<|goN [] []<|bT rfl<|go [] []<|rt h) λh9 h=> bd h λv6 e6 h=>bd h λv7 e7 h=>pr 7 (gC h9 17 2 ((19,gw h9 (n e6))::(20,gw h9 (ix e7))::gC h9 21 2 [(23,pn h9)]))<|pe<|goN [] []<|br h (λh10 h=>go [] []<|rt h) λh10 h=> go [9] []<|jn (wj5x2 h)
theorem w5 {x0 x1 r} (h:Zjz x0 x1=some r):Zb prog 5 [.agg (Zo x0),.agg (X4 x1)] (R5 r):= cs f5<|go [1] [rg 0 [(0,bo),(1,bo)]]<|po<|bd h λv0 e0 h=>pr 4 [(1,k (w7 e0))]<|sp h (λh0 h=>pr 27 (gA h0 4 4 [(8,py h0)])<|pe<|goN [] []<|bT rfl<|go [2] []<|jn (Z36 h)) λh0 h=> pr 6 (gC h0 4 2 [(6,gw h0 (ln x1.Yj)),(7,gw h0 g0),(8,pn h0)])<|sp h (λh1 h=>pr 21 (gA h1 10 4 [(14,py h1)])<|pe<|goN [] []<|bT rfl<|go [2] []<|jn (Z36 h)) λh1 h=> pr 6 (gC h1 10 4 [(14,pn h1)])<|sp h (λh2 h=>pr 15 (gA h2 16 3 [(19,py h2)])<|pe<|goN [] []<|bT rfl<|go [2] []<|jn (Z36 h)) λh2 h=> pr 5 (gC h2 16 3 [(19,pn h2)])<|sp h (λh3 h=>pr 10 (gA h3 21 4 [(25,py h3)])<|pe<|goN [] []<|bT rfl<|go [2] []<|jn (Z36 h)) λh3 h=> pr 6 (gC h3 21 2 [(23,gw h3 (ln x1.Q7)),(24,gw h3 g0),(25,pn h3)])<|sp h (λh4 h=>pr 4 (gA h4 27 3 [(30,py h4)])<|pe<|goN [] []<|bT rfl<|go [2] []<|jn (Z36 h)) λh4 h=> bd h λv1 e1 h=>pr 4 [(27,gw h4 g0),(28,gw h4 (k (w8 e1))),(29,gw h4 g0),(30,pn h4)]<|pe<|goN [] []<|br h (λh5 h=>go [2] []<|jn (Z36 h)) λh5 h=> go [3] []<|jn (wj5x1 h)
end Go.Proofs
namespace Go.Proofs
open Go.Den Go.Tot
def V7 (m:Z4) (h:List Zl):Z4:={ Y1:=m.Y1,V6:=m.V6,Z2:=h,X7:=m.X7,Xc:=m.Xc,Zz:=m.Zz,W5:=m.W5 }
def withT (m:Z4) (t:List Yu):Z4:={ Y1:=m.Y1,V6:=m.V6,Z2:=m.Z2,X7:=m.X7,Xc:=m.Xc,Zz:=t,W5:=m.W5 }
theorem Y1g (m:Z4) (hl:m.Z2.length≤5001):Ok (Zb4 m) λ_=>True:=by
 unfold Zb4
 refine bd (P:=λ_=>True) (lp (λt:Int×Int=>t.2) m.Z2.length (λt=>0≤t.1∧t.1≤t.2) (λt ⟨a,b⟩ h0 h1=>?_) (by omega) ⟨by dsimp only; omega,by dsimp only; omega⟩) λq _=>ok trivial
 unfold l47x1
 refine brD (λhlt=>bd (gr h0 hlt) λv _=>brN (λ_=>bd wr λi hi=>bd wr λj hj=>?_) λ_=>bd wr λj hj=>?_) λ_=>dn trivial
 ·subst hi; subst hj
  exact nx ⟨by dsimp only; omega,by dsimp only; omega⟩
 ·subst hj
  exact nx ⟨by dsimp only; omega,by dsimp only; omega⟩
theorem free_ok (m:Z4) (hl:m.Z2.length≤5001):Ok (Zeo m) λi=>0≤i∧(i=m.Z2.length∨∃ o,m.Z2[i.toNat]?=some o∧o.Zn=0):=by
 unfold Zeo
 refine bd (P:=λq:Unit⊕Int=>match q with|.inl _=>True|.inr i=>0≤i∧∃ o,m.Z2[i.toNat]?=some o∧o.Zn=0) (li m.Z2.length λt h0 h1=>?_) λq hq=>?_
 ·unfold l48x1
  exact brD (λhlt=>bd (gri h0 hlt) λv ⟨_,hv⟩=>brE (λe=>di ⟨h0,v,hv,e⟩) λ_=>bd wr λi hi=>by subst hi; exact ni (by omega) (by omega)) λ_=>di trivial
 ·cases q with
  | inl _=>exact ok ⟨by omega,.inl rfl⟩
  | inr i=>exact ok ⟨hq.1,.inr hq.2⟩
def Q1 (m:Z4) (i:Nat) (o:Zl):List Zl:=if i=m.Z2.length then m.Z2++[o] else m.Z2.set i o
theorem Zyi (m:Z4) (hl:m.Z2.length≤5001) (i:Int) (o:Zl) (h0:0≤i) (h1:i≤m.Z2.length):Zce m i o=some (V7 m (Q1 m i.toNat o)):=by
 unfold Zce
 have g1:Ye 112 (([]:List Zl)++m.Z2).length=some ():=by unfold Ye; rw[if_pos (by simp; omega)]
 have g2:Ye 112 ((([]:List Zl)++m.Z2)++[o]).length=some ():=by unfold Ye; rw[if_pos (by simp; omega)]
 rw[g1,Option.bind_some]
 by_cases h:i=(m.Z2.length:Int)
 ·rw[if_pos (by simpa using h),g2,Option.bind_some]
  unfold Z6e Xq
  rw[if_pos (by simp; omega),Option.bind_some,List.getElem?_eq_getElem (by simp; omega),Option.bind_some]
  unfold V7 Q1
  rw[if_pos (by omega)]
  congr 2
  rw[List.nil_append,List.set_append_right _ _ (by omega),show i.toNat - m.Z2.length=0 by omega]; rfl
 ·rw[if_neg (by simpa using h)]
  unfold Z6e Xq
  rw[if_pos (by simp; omega),Option.bind_some,List.getElem?_eq_getElem (by simp; omega),Option.bind_some]
  unfold V7 Q1
  rw[if_neg (by omega)]; rfl
section
variable {m:Z4} {i:Nat} {o:Zl}
theorem Z4i (hi:i≤m.Z2.length):(Q1 m i o)[i]?=some o:=by
 unfold Q1
 split
 ·rename_i h; rw[List.getElem?_append_right (by omega)]; simp[h]
 ·rename_i h; rw[List.getElem?_set,if_pos rfl,if_pos (by omega)]
theorem Zuz {j:Nat} {x:Zl} (hj:m.Z2[j]?=some x) (hne:j≠i):(Q1 m i o)[j]?=some x:=by
 have hlt:=(List.getElem?_eq_some_iff.1 hj).1
 unfold Q1
 split
 ·rw[List.getElem?_append_left hlt]; exact hj
 ·rw[List.getElem?_set,if_neg (Ne.symm hne)]; exact hj
theorem Zh9 {j:Nat} {x:Zl} (hj:(Q1 m i o)[j]?=some x) (hi:i≤m.Z2.length):(j=i∧x=o)∨(j≠i∧m.Z2[j]?=some x):=by
 by_cases h:j=i
 ·subst h
  rw[Z4i hi] at hj
  exact .inl ⟨rfl,(Option.some.inj hj).symm⟩
 ·refine .inr ⟨h,?_⟩
  unfold Q1 at hj
  split at hj
  ·rename_i hc
   have hlt:=(List.getElem?_eq_some_iff.1 hj).1
   rw[List.getElem?_append_left (by simp at hlt; omega)] at hj; exact hj
  ·rw[List.getElem?_set,if_neg (Ne.symm h)] at hj; exact hj
theorem Zv7:(Q1 m i o).length≤m.Z2.length+1∧m.Z2.length≤(Q1 m i o).length:=by
 unfold Q1; split <;> simp
end
def Zkm (m:Z4) (i:Nat):Prop:=i≤m.Z2.length∧∀ x,m.Z2[i]?=some x→x.Zn=0
section
variable {m:Z4} {i:Nat} {o:Zl} (hf:Zkm m i)
include hf
theorem Z9y {n:Int} (h:IsO m n):(n - 1).toNat≠i:=λe=>by
 obtain⟨x,hx⟩:=h
 obtain⟨_,h2,h3⟩:=Jb.1 hx
 exact h3 (hf.2 x (e ▸ h2))
theorem Zmg {n:Int} {x:Zl} (h:Vm m n=some x):Vm (V7 m (Q1 m i o)) n=some x:=by
 obtain⟨h1,h2,h3⟩:=Jb.1 h
 exact Jb.2 ⟨h1,Zuz h2 (Z9y hf ⟨x,h⟩),h3⟩
theorem new_is {n:Int} (h:IsO m n):IsO (V7 m (Q1 m i o)) n:=h.imp λx hx=>Zmg hf hx
theorem new_mg (hg:MG m) (h5:m.Z2.length≤5000) (ho:Zcj (V7 m (Q1 m i o)) o) (hk:o.Zn≠0) (hv:o.Yj.length≤140737488355328):MG (V7 m (Q1 m i o)):=by
 have hmem:∀ x∈Q1 m i o,x=o∨x∈m.Z2:=λx hx=>by
  obtain⟨j,hj⟩:=List.mem_iff_getElem?.1 hx
  rcases Zh9 hj hf.1 with ⟨_,e⟩|⟨_,e⟩
  ·exact .inl e
  ·exact .inr (List.mem_of_getElem? e)
 have hr:∀ n,U2 m n→U2 (V7 m (Q1 m i o)) n:=λn h=>h.imp id λh=>new_is hf h
 refine⟨⟨hg.sz.ini,hg.sz.thr,hg.sz.act,hg.sz.ini2,hg.sz.sta,hg.sz.intr,λx hx=>?_⟩,hg.sp,by show (Q1 m i o).length≤_; have:=(Zv7 (m:=m) (i:=i) (o:=o)).1; omega,λx hx k=>?_,λx hx k=>?_,λx hx k=>?_,λx hx k v hv hk'=>?_,λx hx=>hr x (hg.rt x hx)⟩
 ·rcases hmem x hx with e|e
  ·rw[e]; exact hv
  ·exact hg.sz.vals x e
 ·rcases hmem x hx with e|e
  ·rw[e] at k; exact absurd k hk
  ·exact hg.free x e k
 ·rcases hmem x hx with e|e
  ·rw[e] at k; exact absurd k hk
  ·exact hg.fval x e k
 ·rcases hmem x hx with e|e
  ·rw[e] at k ⊢; exact ho.2.1 k
  ·exact hg.cls x e k
 ·rcases hmem x hx with e|e
  ·rw[e] at hv; exact ho.2.2 v hv hk'
  ·exact hr _ (hg.val x e k v hv hk')
theorem Zqz (hg:MG m) (hh:Wt o=false) (k n:Int):(U7 m).Re k n↔(U7 (V7 m (Q1 m i o))).Re k n:=by
 refine Gr.Re.same (λx=>?_) (λx hx=>?_) n
 ·show x∈Qy m↔x∈Qy (V7 m (Q1 m i o))
  rw[Z40,Z40]
  refine and_congr_right λh1=>?_
  constructor
  ·intro h
   have hx:=hg.root_is ((Z40 m x).2 ⟨h1,h⟩)
   obtain⟨y,hy,hc⟩:=h
   exact⟨y,Zuz hy (Z9y hf hx),hc⟩
  ·rintro⟨y,hy,hc⟩
   rcases Zh9 hy hf.1 with ⟨e1,e2⟩|⟨_,e⟩
   ·subst e2
    rcases hc with hc|hc
    ·have hx:IsO m x:=(hg.rt x hc).resolve_left (by omega)
     exact absurd e1 (Z9y hf hx)
    ·rw[hh] at hc; cases hc
   ·exact⟨y,e,hc⟩
 ·obtain⟨y,hy⟩:=hg.re_is hx
  have hy':=Zmg (o:=o) hf hy
  refine⟨?_,?_,?_⟩
  ·show V8 (V7 m (Q1 m i o)) x=V8 m x
   unfold V8; rw[hy,hy']; rfl
  ·show toO (V7 m (Q1 m i o)) x=toO m x
   unfold toO; rw[hy,hy']; rfl
  ·show V3 (V7 m (Q1 m i o)) x=V3 m x
   unfold V3; rw[hy,hy']; rfl
end
theorem thr_mg {p:Z4} (hg:MG p) {n:Int} (hn:IsO p n) (ht:p.Zz.length≤8):MG (withT p (p.Zz++[Ka n])):=by
 refine⟨⟨hg.sz.ini,by show (p.Zz++[Ka n]).length≤_; simp; omega,λt h=>?_,hg.sz.ini2,hg.sz.sta,hg.sz.intr,hg.sz.vals⟩,hg.sp,hg.len,hg.free,hg.fval,hg.cls,hg.val,λx hx=>?_⟩
 ·rcases List.mem_append.1 h with h|h
  ·exact hg.sz.act t h
  ·rw[List.mem_singleton.1 h]
   exact⟨by simp[Ka],λa ha=>(List.not_mem_nil ha).elim⟩
 ·rcases hx with ⟨t,h,hx⟩|hx
  ·rcases List.mem_append.1 h with h|h
   ·exact hg.rt x (.inl ⟨t,h,hx⟩)
   ·rw[List.mem_singleton.1 h] at hx
    rcases hx with hx|hx|hx|⟨hx,_⟩|⟨a,ha,_⟩
    ·rw[hx]; exact .inr hn
    ·exact .inl hx
    ·exact .inl hx
    ·exact absurd hx (show ¬(0:Int)=3 by decide)
    ·exact(List.not_mem_nil ha).elim
  ·exact hg.rt x (.inr hx)
theorem loop5 {v2:Z4×Int×Int} {a b:List Int} (ha:a.length≤5001) (hi:1≤v2.2.1∧v2.2.1≤5002) (hab:∀ (t:Int) v,0≤t→t≠v2.2.1 - 1→a[t.toNat]?=some v→b[t.toNat]?=some v):Ok (Z7 (l5x1 v2 a b) Z8 0) λq=>q=.inl ():=by
 refine li a.length (λt h0 h1=>?_)
 unfold l5x1
 refine brD (λhlt=>?_) λ_=>di rfl
 rw[Ub (n:=v2.2.1 - 1) (by omega) (by omega),Option.bind_some]
 refine brN (λne=>?_) λ_=>bd wr λk hk=>?_
 ·obtain⟨v,ev,_,hv⟩:=gri (l:=a) h0 hlt
  have hb:=hab t v h0 ne hv
  have hbl:=(List.getElem?_eq_some_iff.1 hb).1
  have eb:Z5 b t=some v:=by unfold Z5; rw[if_pos h0]; exact hb
  rw[if_neg (by simp; omega),ev,Option.bind_some,eb,Option.bind_some]
  refine brN (λne=>absurd rfl ne) λ_=>bd wr λk hk=>?_
  subst hk; exact ni (by omega) (by omega)
 ·subst hk; exact ni (by omega) (by omega)
theorem Zx0 (m:Z4) (h:Vr m) (o:Zl) (ho:Z0h o):Zjz m o=some true:=by
 have aw:Mn=some true:=by unfold Mn; rw[Lj]; rfl
 unfold Zjz
 obtain⟨b,e,_⟩:=Ze3 m
 obtain⟨c,e2,hc⟩:=Z8x m h
 rw[e,Option.bind_some,e2]
 cases b with
 | false=>exact aw
 | true=>
 rw[if_neg (by simp)]
 by_cases c1:(o.Yj.length:Int)>60
 ·rw[if_pos (by simpa using c1)]; exact aw
 rw[if_neg (by simpa using c1)]
 by_cases c2:(o.Xv.length:Int)>1000
 ·rw[if_pos (by simpa using c2)]; exact aw
 rw[if_neg (by simpa using c2)]
 by_cases c3':o.Qw≠0
 ·rw[if_pos (by simpa using c3')]; exact aw
 have c3:o.Qw=0:=by omega
 rw[if_neg (by simpa using c3)]
 by_cases c4:(o.Q7.length:Int)>0
 ·rw[if_pos (by simpa using c4)]; exact aw
 rw[if_neg (by simpa using c4),Option.bind_some]
 cases c with
 | false=>exact aw
 | true=>
 have hv:=hc rfl
 have hg:=Mx.mg h hv
 have hheap:=hv.heap
 have hlen:=hg.len
 have hthr:=hv.thr
 have hh:Wt o=false:=by unfold Wt; rw[c3,decide_eq_false (by omega)]; rfl
 rw[if_neg (by simp)]
 unfold j5x1 Ziv
 obtain⟨cnt,ec,_⟩:=Y1g m hlen
 obtain⟨i,ei,i0,hi⟩:=free_ok m hlen
 have hil:i≤m.Z2.length:=by
  rcases hi with hi|⟨x,hx,_⟩
  ·omega
  ·have:=(List.getElem?_eq_some_iff.1 hx).1; omega
 have hf:Zkm m i.toNat:=⟨by omega,λx hx=>by
  rcases hi with hi|⟨y,hy,hk⟩
  ·have:=(List.getElem?_eq_some_iff.1 hx).1; omega
  ·rw[hx] at hy; cases hy; exact hk⟩
 have no:∀ (x:Z4) (n e:Int),e≠0→((some (x,n,e)).bind λv2=>if (v2.2.2 !=0)=true then (J6).bind λv3=>some v3 else
   (Ww m).bind λv4=>(Ww v2.1).bind λv5=>if ((v5.length:Int)!=(v2.1.Z2.length:Int))=true then some false else if (decide (v2.2.1<1))=true then some false else if (decide (v2.2.1>(v5.length:Int)))=true then some false else
    (some (IntKind.wrap .i64 (v2.2.1 - (1:Int)))).bind λv6=>(Z5 v5 v6).bind λv7=>if (v7 !=0)=true then some false else j5x2 v2 v4 v5)=some true:=λx n e he=>by
  rw[Option.bind_some,if_pos (by simpa using he),Lj]; rfl
 rw[ec,Option.bind_some]
 by_cases d1:cnt≥m.V6
 ·rw[if_pos (by simpa using d1)]; exact no _ _ _ (by decide)
 rw[if_neg (by simpa using d1),ei,Option.bind_some,Zyi m hlen i o i0 hil,Option.bind_some]
 by_cases d2:o.Zn=0
 ·rw[if_pos (by simpa using d2)]; exact no _ _ _ (by decide)
 rw[if_neg (by simpa using d2)]
 have hnl:=Zv7 (m:=m) (i:=i.toNat) (o:=o)
 have hpH:(V7 m (Q1 m i.toNat o)).Z2.length≤140737488355328:=by show (Q1 m i.toNat o).length≤_; omega
 have hget:Z5 (V7 m (Q1 m i.toNat o)).Z2 i=some o:=by unfold Z5; rw[if_pos i0]; exact Z4i hf.1
 cases hob:Km (V7 m (Q1 m i.toNat o)) i with
 | none=>
  exfalso
  have hw:Vr (V7 m (Q1 m i.toNat o)):=⟨h.sp,λx hx=>by
   obtain⟨j,hj⟩:=List.mem_iff_getElem?.1 hx
   rcases Zh9 hj hf.1 with ⟨_,e⟩|⟨_,e⟩
   ·rw[e]; exact ho
   ·exact h.heap x (List.mem_of_getElem? e),hpH,h.ini,h.iniL,h.int,h.intL,h.thr,h.thrL,h.outL⟩
  obtain ⟨r,er,_⟩:=Zub (V7 m (Q1 m i.toNat o)) i hw hv.vok i0 (by
   have:=(List.getElem?_eq_some_iff.1 (Z4i (m:=m) (i:=i.toNat) (o:=o) hf.1)).1
   show i<((Q1 m i.toNat o).length:Int)
   omega)
  rw[hob] at er; cases er
 | some okb=>
 rw[Option.bind_some]
 cases okb with
 | false=>exact no _ _ _ (by decide)
 | true=>
 rw[if_neg (by simp),wrS i0 (by omega),Option.bind_some,Option.bind_some]
 have hoo:Zcj (V7 m (Q1 m i.toNat o)) o:=Zsb hpH i o hget ho.val hob
 have hgp:=new_mg hf hg hheap hoo d2 ho.val
 obtain⟨l,l1,_,l3,l4⟩:=hg.lev_same
 obtain⟨l',k1,_,k3,k4⟩:=hgp.lev_same
 have hl:=Jp.of l3 l4
 have hl':=Jp.of k3 k4
 dsimp only
 rw[if_neg (by simp),l1,Option.bind_some,k1,Option.bind_some,if_neg (by rw[k3]; simp),if_neg (by simp; omega)]
 have hin:i.toNat<(Q1 m i.toNat o).length:=(List.getElem?_eq_some_iff.1 (Z4i (m:=m) (i:=i.toNat) (o:=o) hf.1)).1
 have k3':l'.length=(Q1 m i.toNat o).length:=k3
 rw[if_neg (by simp; omega),show i+1 - 1=i by omega,Ub (by omega) (by omega),Option.bind_some]
 obtain⟨v,ev,_,hvv⟩:=gri (l:=l') (i:=i) i0 (by omega)
 have hv0:v=0:=by
  obtain⟨a,b,c⟩:=hl'.lev i v i0 hvv
  by_cases h1:1≤v
  ·have:=(c 1 (by decide) (by decide)).1 h1
   have:=(Zqz (o:=o) hf hg hh 1 (i+1)).2 this
   exact absurd (by omega) (Z9y hf (hg.re_is this))
  ·omega
 rw[ev,Option.bind_some,hv0,if_neg (by simp)]
 unfold j5x2
 obtain ⟨q,eq,hq⟩:=loop5 (v2:=(V7 m (Q1 m i.toNat o),i+1,0)) (a:=l) (b:=l') (by omega) ⟨by dsimp only; omega,by dsimp only; omega⟩ (λt v h0 ne hv=>by
  have hlt:=(List.getElem?_eq_some_iff.1 hv).1
  have hlt':t.toNat<l'.length:=by omega
  obtain⟨a0,a4,a⟩:=hl.lev t v h0 hv
  obtain⟨b0,b4,b⟩:=hl'.lev t _ h0 (List.getElem?_eq_getElem hlt')
  rw[List.getElem?_eq_getElem hlt']
  congr 1
  have key:∀ k:Int,1≤k→k≤4→(k≤l'[t.toNat]↔k≤v):=λk k1 k4=>by
   rw[b k k1 k4,a k k1 k4,Zqz (o:=o) hf hg hh k (t+1)]
  have e1:=key 1 (by decide) (by decide)
  have e2:=key 2 (by decide) (by decide)
  have e3:=key 3 (by decide) (by decide)
  have e4:=key 4 (by decide) (by decide)
  omega)
 subst hq
 rw[eq]
 dsimp only[Option.bind_some]
 have hisn:IsO (V7 m (Q1 m i.toNat o)) (i+1):=⟨o,Jb.2 ⟨by omega,by rw[show (i+1 - 1).toNat=i.toNat by omega]; exact Z4i hf.1,d2⟩⟩
 unfold Zk1
 rw[if_pos (by simp; omega),Zl3 _ _ hpH]
 obtain⟨x,hx⟩:=hisn
 rw[hx]
 simp only[Option.isSome_some,Option.bind_some,Bool.not_true,Bool.false_eq_true,if_false]
 unfold Za8
 have htp:(V7 m (Q1 m i.toNat o)).Zz=m.Zz:=rfl
 rw[htp]
 by_cases d3:(m.Zz.length:Int)≥8
 ·rw[if_pos (by simpa using d3),Option.bind_some,if_pos (by simp),Lj]; rfl
 rw[if_neg (by simpa using d3)]
 have g1:Ye 80 (([]:List Yu)++m.Zz).length=some ():=by unfold Ye; rw[if_pos (by simp; omega)]
 have g2:Ye 80 ((([]:List Yu)++m.Zz)++[Ka (i+1)]).length=some ():=by unfold Ye; rw[if_pos (by simp; omega)]
 rw[g1,Option.bind_some]
 have hgq:=thr_mg hgp (n:=i+1) ⟨x,hx⟩ hthr
 obtain⟨l2,n1,_,n3,n4⟩:=hgq.lev_same
 have hl2:=Jp.of n3 n4
 show (((Ye 80 ((([]:List Yu)++m.Zz)++[Ka (i+1)]).length).bind λ_=>some (withT (V7 m (Q1 m i.toNat o)) ((V7 m (Q1 m i.toNat o)).Zz++[Ka (i+1)]),(m.Zz.length:Int),(0:Int))).bind _)=_
 rw[g2,Option.bind_some,Option.bind_some,if_neg (by simp),hgq.strongP n1 n3,Option.bind_some,Lj,Option.bind_some,if_pos rfl]
 have n3':l2.length=(Q1 m i.toNat o).length:=n3
 rw[if_pos (by rw[List.length_map,n3]; simp)]
 rw[show i+1 - 1=i by omega,Ub (by omega) (by omega)]
 obtain⟨u,eu,_,hu⟩:=gri (l:=l2) (i:=i) i0 (by omega)
 have hu4:u=4:=by
  obtain⟨a,b,c⟩:=hl2.lev i u i0 hu
  have hroot:(i+1)∈Qy (withT (V7 m (Q1 m i.toNat o)) ((V7 m (Q1 m i.toNat o)).Zz++[Ka (i+1)])):=(Z40 _ _).2 ⟨by omega,o,by rw[show (i+1 - 1).toNat=i.toNat by omega]; exact Z4i hf.1,.inl (.inl ⟨Ka (i+1),List.mem_append_right _ (List.mem_singleton.2 rfl),.inl rfl⟩)⟩
  have:=(c 4 (by decide) (by decide)).2 (.root hroot)
  omega
 have es:Z5 (l2.map (· ==4)) i=some true:=by unfold Z5; rw[if_pos i0,List.getElem?_map,hu,hu4]; rfl
 rw[es]; rfl
end Go.Proofs
