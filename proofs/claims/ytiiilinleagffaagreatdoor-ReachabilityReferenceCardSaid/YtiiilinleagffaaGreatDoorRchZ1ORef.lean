/-
  From a function's contract on data to a law's row.
-/
import Derived.Test.YtiiilinleagffaaGreatDoorDenClaim
import Derived.Test.YtiiilinleagffaaGreatDoorDenGc
import Derived.ProofKit
import Derived.OpenShut
import Derived.SizedLaws
import Derived.Test.YtiiilinleagffaaGreatDoorRch9
import Derived.Test.YtiiilinleagffaaGreatDoorRchW
import Derived.Test.YtiiilinleagffaaGreatDoorRchX
import Derived.Lib.SliceRun
import Derived.Test.YtiiilinleagffaaGreatDoorGcF
import Derived.Test.YtiiilinleagffaaGreatDoorRch10
import Derived.Test.YtiiilinleagffaaGreatDoorRchZ3
set_option linter.unusedVariables false
set_option linter.unusedSimpArgs false
namespace Go.Den
open Go.RowKit Go.ChangeShapes Go.WideShapes Go.ChangeAt
variable {P:Program}
variable {M:Jy P}
theorem arg_one {T:Type} {t:TypeId} {f:T→D} {wf:T→Prop} (hR:Jo M t (λy=>[f y]) wf) {H:Type} {enc:TypeId×Value→H} {W:World} {v:Value} {d:DataW H} {p:List MemPlace}
  (hc:v.cells.toList=[v]) (hd:DataW.Trod enc P W 0 (λ_=>true) true t v d p) (hz:M.q t d):∃ y,Z9 W (L0 W) (λ_=>none) v (f y)∧wf y:=by
 obtain⟨fuel,hf⟩:=hd
 rw[hc] at hf
 obtain⟨y,h1,h2⟩:=hR H enc W fuel _ _ hf hz
 exact⟨y,(h1.rep 0 v _ rfl rfl).2.2,h2⟩
end Go.Den
namespace Go.Den
open Go.RowKit
end Go.Den
namespace Go.Proofs
open Tryz
open Go.Den Go.Den.W
def R39 (y0:Bool):D:= .bool y0
def Zob (x0:List Int) (x1:Int):Int→SL:= λt0=>⟨18,[(0,.sl false (x0.map Z1)),(1,dI x1),(5,dI t0)],[]⟩
def J39x1:JT (Unit⊕Bool):= ju (je 0 λq0:Unit=>⟨18,[],[]⟩) (jr prog f39 R39)
theorem wl39x1 {x0 x1 t0 r Γ} (h:(Z65 x0 x1) t0=some r):A prog Γ (lpC f39 21) [] (Rd (Zob x0 x1) J39x1 r) ((Zob x0 x1) t0).s:= go [] [rg 2 [(2,ln x0)]]<|br h (λh2 h=>bd h λv1 e1 h=>go [] [rg 4 [(2,ix e1)]]<|br h (λh3 h=>go [] []<|dn h (i2 iR)) λh3 h=> bd h λv2 e2 h=>go [] [rg 3 [(1,n e2)]]<|nx h) λh2 h=> go [] []<|dn h (i1 iE)
theorem w39 {x0 x1 r} (h:Zai x0 x1=some r):Zb prog 39 [.sl false (x0.map Z1),dI x1] (R39 r):= cs f39<|go [] []<|bd h λq1 e3 h=>lp e3 wl39x1<|match q1,h with | .inl q0,h=>j1<|(qe<|goN [] []<|rt h) | .inr y0,h=>j2<|(qr h)
def R14 (y0:(List Int)):D:= .sl false (y0.map Z1)
def Zj6 (v0:Zl×Bool):(Int×(List Int))→SL:= λt0=>⟨56,[(5,.lptr 5 0 0),(8,.lsl 8 0 ((t0.2.map Z1).length)),(9,dI t0.1)],[(5,{ sz:=9,rows:=[X4 v0.1],frz:=0,pure:=false }),(8,{ sz:=1,rows:=(t0.2.map Z1),frz:=0,pure:=true })]⟩
def J14x1:JT (((List Int))):= je 0 λq0:(List Int)=>⟨56,[(8,.lsl 8 0 ((q0.map Z1).length))],[(8,{ sz:=1,rows:=(q0.map Z1),frz:=0,pure:=true })]⟩
theorem wj14x2 (v0:Zl×Bool) {t0 v9 r Γ} (h:(j14x2 t0 v9)=some r):Jn prog f14 Γ (Rd (Zj6 v0) J14x1 r) 45663 ⟨56,[(5,.lptr 5 0 0),(8,.lsl 8 0 ((t0.2.map Z1).length)),(9,dI t0.1),(10,.lptr 10 0 0)],[(5,{ sz:=9,rows:=[X4 v0.1],frz:=0,pure:=false }),(8,{ sz:=1,rows:=(t0.2.map Z1),frz:=0,pure:=true }),(10,{ sz:=2,rows:=[X2 v9],frz:=0,pure:=false })]⟩:= so<|bd h λv14 e14 h=>bd h λv15 e15 h=>go [] [rg 11 [(3,br0 1 0),(4,ap e14)],rg 8 [(1,n e15)]]<|nx h
theorem wl14x1 {v0 t0 r Γ} (h:(Z0j v0) t0=some r):A prog Γ (lpC f14 351) [] (Rd (Zj6 v0) J14x1 r) ((Zj6 v0) t0).s:= go [] [rg 7 [(3,ln v0.1.Yj)]]<|br h (λh5 h=>bd h λv9 e9 h=>go [10] [rg 9 [(3,ix e9)]]<|po<|pr 4 []<|sp h (λh6 h=>pr 5 (gC h6 4 3 [(7,py h6)])<|sp h (λh7 h=>bd h λv10 e10 h=>pr 6 (gC h7 9 3 [(12,gw h7 (kB (a2 (rpI t0.2) (a2 trivial trivial)) [rw_ t0.2,dI v9.f_N] (by simp only[rwE] <;> kernel_rfl) (w39 e10))),(13,gw h7 g0),(14,py h7)])<|pe<|goN [] []<|br h (λh8 h=>go [11] []<|jn ((wj14x2 v0) h)) λh8 h=> bd h λv11 e11 h=>go [] [rg 8 [(1,n e11)]]<|nx h) λh7 h=> pr 6 (gB h7 9 5 [(14,pn h7)])<|pe<|goN [] []<|bF rfl<|bd h λv12 e12 h=>go [] [rg 8 [(1,n e12)]]<|nx h) λh6 h=> pr 11 (gB h6 4 3 [(7,pn h6)])<|pe<|goN [] []<|bF rfl<|bd h λv13 e13 h=>go [] [rg 8 [(1,n e13)]]<|nx h) λh5 h=> go [] []<|dn h (iE)
theorem Zou {v0 p0 r Γ} (h:(Z14 v0) p0=some r):Jn prog f14 Γ (Den.Ends prog f14 (R14 r)) 47 ⟨56,[(5,.lptr 5 0 0),(7,dI p0)],[(5,{ sz:=9,rows:=[X4 v0.1],frz:=0,pure:=false })]⟩:= so<|go [] [rg 5 [(0,bl 0 0)]]<|bd h λq0 e16 h=>lp (ps:=[(5,5),(21,8)]) e16 wl14x1<|qe<|goN [] []<|rtB h (rw_ q0) (a2 (rpI q0) trivial) (by simp only[rwE] <;> kernel_rfl)
theorem w14 {x0 x1 r} (h:Z8k x0 x1=some r):Zb prog 14 [.agg (Zo x0),dI x1] (R14 r):= cs f14<|bd h λv0 e0 h=>bd h λv1 e1 h=>go [] [rg 0 [(0,bo)],rg 1 [(2,k (w35 e0))],rg 3 [(2,k (w11 e1))]]<|br h (λh0 h=>go [5] []<|jn (Zou h)) λh0 h=> go [5] []<|jn (Zou h)
def B44 (y0:List Bool):List Blk:=[{ sz:=1,rows:=(y0.map Zk),frz:=0,pure:=true }]
def R44 (y0:List Bool):D:= .lsl 0 0 ((y0.map Zk).length)
theorem wj44x1 {x0 x1 r Γ} (h:(j44x1 x0 x1)=some r):Jn prog f44 Γ (Z0w prog f44 1 [false] (R44 r) (B44 r)) 21 ⟨18,[(0,.lsl 0 0 ((x0.map Zk).length)),(1,dI x1)],[(0,{ sz:=1,rows:=(x0.map Zk),frz:=0,pure:=true })]⟩:= so<|bd h λv0 e0 h=>bd h λv1 e1 h=>bd h λv2 e2 h=>go [3] [rg 2 [(2,n e0),(3,ia 0 e1),(4,st e2 0 [.bool true] true)]]<|nm (congrArg (λnn:Nat=>(⟨18,[(0,.lsl 0 0 nn)],[(0,{ sz:=1,rows:=((x0.set v1 true).map Zk),frz:=0,pure:=true })]⟩:SL)) (by simp only[List.length_map,List.length_set]:(x0.map Zk).length=((x0.set v1 true).map Zk).length))<|so<|go [] []<|rtO h (.lsl 0 0 (((x0.set v1 true).map Zk).length)) [{ sz:=1,rows:=((x0.set v1 true).map Zk),frz:=0,pure:=true }] trivial rfl
theorem w44 {x0 x1 r} (h:Kq x0 x1=some r):Vk prog 44 [.lsl 0 0 ((x0.map Zk).length),dI x1] [{ sz:=1,rows:=(x0.map Zk),frz:=0,pure:=true }] (R44 r) (B44 r):= csO f44 (m:=1) (keep:=[false])<|sp h (λh0 h=>go [] [rg 1 [(1,kb h0),(5,ln x0)]]<|br h (λh1 h=>go [2] []<|jn (wj44x1 h)) λh1 h=> go [] []<|rtO h (.lsl 0 0 ((x0.map Zk).length)) [{ sz:=1,rows:=(x0.map Zk),frz:=0,pure:=true }] trivial rfl) λh0 h=> go [] [rg 1 [(1,kb h0)]]<|bF rfl<|go [] []<|rtO h (.lsl 0 0 ((x0.map Zk).length)) [{ sz:=1,rows:=(x0.map Zk),frz:=0,pure:=true }] trivial rfl
def B43 (y0:List Bool):List Blk:=[{ sz:=1,rows:=(y0.map Zk),frz:=0,pure:=true }]
def R43 (y0:List Bool):D:= .lsl 0 0 ((y0.map Zk).length)
def Zuu (x1:List Zg):(Int×(List Bool))→SL:= λt0=>⟨26,[(0,.lsl 0 0 ((t0.2.map Zk).length)),(1,.sl false (x1.map X2)),(5,dI t0.1)],[(0,{ sz:=1,rows:=(t0.2.map Zk),frz:=0,pure:=true })]⟩
def J43x1:JT (((List Bool))):= je 0 λq0:(List Bool)=>⟨26,[(0,.lsl 0 0 ((q0.map Zk).length))],[(0,{ sz:=1,rows:=(q0.map Zk),frz:=0,pure:=true })]⟩
theorem wl43x1 {x1 t0 r Γ} (h:(Z75 x1) t0=some r):A prog Γ (lpC f43 21) [] (Rd (Zuu x1) J43x1 r) ((Zuu x1) t0).s:= go [] [rg 2 [(2,ln x1)]]<|br h (λh2 h=>bd h λv3 e3 h=>go [] [rg 4 [(2,ix e3)]]<|br h (λh3 h=>bd h λv4 e4 h=>bd h λv5 e5 h=>bd h λv6 e6 h=>go [] [rg 5 [(3,ix e4),(6,ko [0] (w44 e5))],rg 3 [(1,n e6)]]<|nx h) λh3 h=> bd h λv7 e7 h=>go [] [rg 3 [(1,n e7)]]<|nx h) λh2 h=> go [] []<|dn h (iE)
theorem w43 {x0 x1 r} (h:Z0s x0 x1=some r):Vk prog 43 [.lsl 0 0 ((x0.map Zk).length),.sl false (x1.map X2)] [{ sz:=1,rows:=(x0.map Zk),frz:=0,pure:=true }] (R43 r) (B43 r):= csO f43 (m:=1) (keep:=[false])<|go [] []<|bd h λq0 e8 h=>lp e8 wl43x1<|qe<|goN [] []<|rtO h (.lsl 0 0 ((q0.map Zk).length)) [{ sz:=1,rows:=(q0.map Zk),frz:=0,pure:=true }] trivial rfl
def B42 (y0:List Bool):List Blk:=[{ sz:=1,rows:=(y0.map Zk),frz:=0,pure:=true }]
def R42 (y0:List Bool):D:= .lsl 0 0 ((y0.map Zk).length)
def Zoo (x1:Yu):(Int×(List Bool))→SL:= λt0=>⟨50,[(0,.lsl 0 0 ((t0.2.map Zk).length)),(3,.ptr (Xk x1)),(5,dI t0.1)],[(0,{ sz:=1,rows:=(t0.2.map Zk),frz:=0,pure:=true })]⟩
def J42x1:JT (((List Bool))):= je 0 λq0:(List Bool)=>⟨50,[(0,.lsl 0 0 ((q0.map Zk).length))],[(0,{ sz:=1,rows:=(q0.map Zk),frz:=0,pure:=true })]⟩
theorem wl42x1 {x1 t0 r Γ} (h:(Z7y x1) t0=some r):A prog Γ (lpC f42 43) [] (Rd (Zoo x1) J42x1 r) ((Zoo x1) t0).s:= go [] [rg 3 [(3,ln x1.Yx)]]<|br h (λh1 h=>bd h λv10 e10 h=>bd h λv11 e11 h=>bd h λv12 e12 h=>bd h λv13 e13 h=>bd h λv14 e14 h=>bd h λv15 e15 h=>bd h λv16 e16 h=>go [] [rgq 5 [(4,ix e10),(11,ix e11),(18,ix e12),(7,ko [0] (w44 e13)),(14,ko [0] (w43 e14)),(21,ko [0] (w43 e15))] [0,1,2,3,4,5,6,8,9,10,11,12,13,15,16,17,18,19,20,7,14,21,22] [7,14,21,1008,1009,1010,1011,1012,1013,1015,1016,1017,1018,1019,1020],rg 4 [(1,n e16)]]<|nx h) λh1 h=> go [] []<|dn h (iE)
theorem w42 {x0 x1 r} (h:Zbp x0 x1=some r):Vk prog 42 [.lsl 0 0 ((x0.map Zk).length),.agg (Xk x1)] [{ sz:=1,rows:=(x0.map Zk),frz:=0,pure:=true }] (R42 r) (B42 r):= csO f42 (m:=1) (keep:=[false])<|bd h λv0 e0 h=>bd h λv1 e1 h=>bd h λv2 e2 h=>bd h λv3 e3 h=>go [] [rg 0 [(0,bo)],rgq 1 [(12,br0 1 2),(3,ko [0] (w44 e0)),(6,ko [0] (w44 e1)),(9,ko [0] (w44 e2)),(13,ko [0] (w43 e3))] [0,1,2,4,5,7,8,10,11,12,3,6,9,13,14] [3,6,9,13,1004,1005,1007,1008,1010,1011,1012]]<|bd h λq0 e17 h=>lp e17 wl42x1<|qe<|goN [] []<|rtO h (.lsl 0 0 ((q0.map Zk).length)) [{ sz:=1,rows:=(q0.map Zk),frz:=0,pure:=true }] trivial rfl
def R16 (y0:(List Int)):D:= .sl false (y0.map Z1)
def Zvp (x0:Z4):(Int×(List Bool))→SL:= λt0=>⟨94,[(1,.ptr (Zo x0)),(3,.lsl 3 0 ((t0.2.map Zk).length)),(4,dI t0.1)],[(3,{ sz:=1,rows:=(t0.2.map Zk),frz:=0,pure:=true })]⟩
def J16x1 (x0:Z4):JT (((List Bool))):= je 0 λq0:(List Bool)=>⟨94,[(1,.ptr (Zo x0)),(3,.lsl 3 0 ((q0.map Zk).length))],[(3,{ sz:=1,rows:=(q0.map Zk),frz:=0,pure:=true })]⟩
theorem Zt9 {x0 t0 r Γ} (h:(Z6j x0) t0=some r):A prog Γ (lpC f16 43) [] (Rd (Zvp x0) (J16x1 x0) r) ((Zvp x0) t0).s:= go [] [rg 3 [(3,ln x0.Zz)]]<|br h (λh1 h=>bd h λv3 e3 h=>bd h λv4 e4 h=>bd h λv5 e5 h=>go [] [rg 5 [(4,ix e3),(6,ko [3] (w42 e4))],rg 4 [(1,n e5)]]<|nx h) λh1 h=> go [] []<|dn h (iE)
def Ztq (x0:Z4):(Int×(List Bool))→SL:= λt1=>⟨94,[(1,.ptr (Zo x0)),(3,.lsl 3 0 ((t1.2.map Zk).length)),(5,dI t1.1)],[(3,{ sz:=1,rows:=(t1.2.map Zk),frz:=0,pure:=true })]⟩
def J16x2 (x0:Z4):JT (((List Bool))):= je 2 λq2:(List Bool)=>⟨94,[(1,.ptr (Zo x0)),(3,.lsl 3 0 ((q2.map Zk).length))],[(3,{ sz:=1,rows:=(q2.map Zk),frz:=0,pure:=true })]⟩
theorem Zsz {x0 t1 r Γ} (h:(Z4m x0) t1=some r):A prog Γ (lpC f16 87) [] (Rd (Ztq x0) (J16x2 x0) r) ((Ztq x0) t1).s:= go [] [rg 7 [(3,ln x0.X7)]]<|br h (λh3 h=>bd h λv8 e9 h=>bd h λv9 e10 h=>bd h λv10 e11 h=>go [] [rg 9 [(4,ix e9),(7,ko [3] (w43 e10))],rg 8 [(1,n e11)]]<|nx h) λh3 h=> go [] []<|dn h (iE)
def Zw5 (x0:Z4):(Int×(List Bool))→SL:= λt2=>⟨94,[(1,.ptr (Zo x0)),(3,.lsl 3 0 ((t2.2.map Zk).length)),(6,dI t2.1)],[(3,{ sz:=1,rows:=(t2.2.map Zk),frz:=0,pure:=true })]⟩
def J16x3 (x0:Z4):JT (((List Bool))):= je 4 λq4:(List Bool)=>⟨94,[(1,.ptr (Zo x0)),(3,.lsl 3 0 ((q4.map Zk).length))],[(3,{ sz:=1,rows:=(q4.map Zk),frz:=0,pure:=true })]⟩
theorem Zsm {x0 t2 r Γ} (h:(Z4c x0) t2=some r):A prog Γ (lpC f16 175) [] (Rd (Zw5 x0) (J16x3 x0) r) ((Zw5 x0) t2).s:= go [] [rg 11 [(3,ln x0.Xc)]]<|br h (λh5 h=>bd h λv13 e15 h=>bd h λv14 e16 h=>bd h λv15 e17 h=>go [] [rg 13 [(4,ix e15),(7,ko [3] (w44 e16))],rg 12 [(1,n e17)]]<|nx h) λh5 h=> go [] []<|dn h (iE)
def Zij (q4:((List Bool))) (x0:Z4):(Int×(List Int))→SL:= λt3=>⟨94,[(1,.ptr (Zo x0)),(3,.lsl 3 0 ((q4.map Zk).length)),(7,.lsl 7 0 ((t3.2.map Z1).length)),(8,dI t3.1)],[(3,{ sz:=1,rows:=(q4.map Zk),frz:=0,pure:=true }),(7,{ sz:=1,rows:=(t3.2.map Z1),frz:=0,pure:=true })]⟩
def J16x4:JT (((List Int))):= je 6 λq6:(List Int)=>⟨94,[(7,.lsl 7 0 ((q6.map Z1).length))],[(7,{ sz:=1,rows:=(q6.map Z1),frz:=0,pure:=true })]⟩
theorem Zhi (q4:((List Bool))) (x0:Z4) {t3 r Γ} (h:(Z5u t3)=some r):Jn prog f16 Γ (Rd (Zij q4 x0) J16x4 r) 42175 ⟨94,[(1,.ptr (Zo x0)),(3,.lsl 3 0 ((q4.map Zk).length)),(7,.lsl 7 0 ((t3.2.map Z1).length)),(8,dI t3.1)],[(3,{ sz:=1,rows:=(q4.map Zk),frz:=0,pure:=true }),(7,{ sz:=1,rows:=(t3.2.map Z1),frz:=0,pure:=true })]⟩:= so<|bd h λv26 e29 h=>bd h λv27 e30 h=>bd h λv28 e31 h=>go [] [rg 19 [(2,n e29),(3,br0 1 0),(4,ap e30)],rg 17 [(1,n e31)]]<|nx h
theorem Zpk {q4 x0 t3 r Γ} (h:(Z7e q4 x0) t3=some r):A prog Γ (lpC f16 703) [] (Rd (Zij q4 x0) J16x4 r) ((Zij q4 x0) t3).s:= go [] [rg 16 [(3,ln x0.Z2)]]<|br h (λh10 h=>go [18] []<|po<|bd h λv21 e24 h=>bd h λv22 e25 h=>pr 5 [(2,ia 3 e24),(3,lb e25)]<|sp h (λh11 h=>pr 18 (gA h11 5 7 [(12,py h11)])<|pe<|goN [] []<|bT rfl<|go [19] []<|jn ((Zhi q4 x0) h)) λh11 h=> bd h λv23 e26 h=>pr 9 (gC h11 5 3 ((8,gw h11 (ix e26))::gC h11 9 3 [(12,pn h11)]))<|sp h (λh12 h=>pr 9 (gA h12 14 8 [(22,py h12)])<|pe<|goN [] []<|bT rfl<|go [19] []<|jn ((Zhi q4 x0) h)) λh12 h=> bd h λv24 e27 h=>pr 9 (gC h12 14 3 ((17,gw h12 (ix e27))::gC h12 18 2 [(20,gw h12 (ln v24.Q7)),(21,gw h12 g0),(22,pn h12)]))<|pe<|goN [] []<|br h (λh13 h=>go [19] []<|jn ((Zhi q4 x0) h)) λh13 h=> bd h λv25 e28 h=>go [] [rg 17 [(1,n e28)]]<|nx h) λh10 h=> go [] []<|dn h (iE)
theorem w16 {x0 r} (h:Z2g x0=some r):Zb prog 16 [.agg (Zo x0)] (R16 r):= cs f16<|bd h λv0 e0 h=>go [] [rg 0 [(0,bo)],rg 1 [(2,ln x0.Z2),(3,mk false e0)]]<|bd h λq0 e6 h=>lp (ps:=[(12,3)]) e6 Zt9<|qe<|goN [] []<|bd h λq2 e12 h=>lp e12 Zsz<|qe<|goN [] []<|bd h λq4 e18 h=>lp e18 Zsm<|qe<|goN [] [rg 14 [(0,bl 0 0)]]<|bd h λq6 e32 h=>lp (ps:=[(3,3),(57,7)]) e32 Zpk<|qe<|goN [] []<|rtB h (rw_ q6) (a2 (rpI q6) trivial) (by simp only[rwE] <;> kernel_rfl)
end Go.Proofs
namespace Go.Den
namespace W
open Go.RowKit
variable {P:Program} {Γ:Ctx} {σ:S}
theorem rk {K:List Q0} {Q:Exit→S→Prop} (x:SL) (cv:List Wa) (ps:List (Nat×Nat)) (h:A P Γ (((popN K).getD (.skip,[])).1) (((popN K).getD (.skip,[])).2) Q x.s)
  (hk:(Ws cv x.ts ps σ,σ.n,(popN K).isSome)=(some (x.l,x.bl),x.n,true):=by kernel_rfl):RK P Γ K Q σ:=by
 have h1:=congrArg Prod.fst hk
 have h2:=congrArg (λx=>x.2.1) hk
 have h3:=congrArg (λx=>x.2.2) hk
 dsimp only at h1 h2 h3
 have hs:Sub σ x.s:=Jz (cv:=cv) (ps:=ps) (by rw[h1,h2])
 refine⟨Zbt (λz K' hp=>?_) λhp=>?_⟩
 ·rw[hp] at h
  exact Sub.at hs h.h
 ·rw[hp] at h3; cases h3
end W
end Go.Den
namespace Go.Proofs
open Tryz
open Go.Den Go.Den.W Go.RowKit
def B16 (r:List Int):List Blk:=[{ sz:=1,rows:=(r.map Z1),frz:=0,pure:=true }]
def R16o (r:List Int):D:= .lsl 0 0 ((r.map Z1).length)
theorem w16O {x0 r} (h:Z2g x0=some r):Vk prog 16 [.agg (Zo x0)] [{ sz:=1,rows:=[],frz:=0,pure:=true }] (R16o r) (B16 r):=
 csO f16 (m:=1) (keep:=[false])<|bd h λv0 e0 h=>go [] [rg 0 [(0,bo)],rg 1 [(2,ln x0.Z2),(3,mk false e0)]]<|bd h λq0 e6 h=>lp (ps:=[(12,3)]) e6 Zt9<|qe<|goN [] []<|bd h λq2 e12 h=>lp e12 Zsz<|qe<|goN [] []<|bd h λq4 e18 h=>lp e18 Zsm<|qe<|goN [] [rg 14 [(0,bl 0 0)]]<|bd h λq6 e32 h=>lp (ps:=[(3,3),(57,7)]) e32 Zpk<|qe<|
  rk ⟨94,[(7,.lsl 0 0 ((q6.map Z1).length))],[(0,{ sz:=1,rows:=(q6.map Z1),frz:=0,pure:=true })]⟩ [] [(7,0)]<|go [] []<|rtO h (.lsl 0 0 ((q6.map Z1).length)) [{ sz:=1,rows:=(q6.map Z1),frz:=0,pure:=true }] trivial rfl
def R45 (y0:List Bool):D:= .sl false (y0.map Zk)
def Zrm (x0:Z4) (x1:Int):Int×List Bool×List Int→SL:=
 λt0=>⟨57,[(1,dI x1),(2,.ptr (Zo x0)),(5,.lsl 5 0 ((t0.2.1.map Zk).length)),(6,.lsl 6 0 ((t0.2.2.map Z1).length)),(7,dI t0.1)],[(5,{ sz:=1,rows:=(t0.2.1.map Zk),frz:=0,pure:=true }),(6,{ sz:=1,rows:=(t0.2.2.map Z1),frz:=0,pure:=true })]⟩
def J45x1:JT (List Bool):=je 0 λq:List Bool=>⟨57,[(5,.lsl 5 0 ((q.map Zk).length))],[(5,{ sz:=1,rows:=(q.map Zk),frz:=0,pure:=true })]⟩
theorem wl45x1 {x0 x1 t0 r Γ} (h:(rchF (ndR x0) x1) t0=some r):A prog Γ (lpC f45 87) [] (Rd (Zrm x0 x1) J45x1 r) ((Zrm x0 x1) t0).s:=by
 unfold rchF at h
 refine go [] [rg 4 [(2,ln t0.2.2)]]<|br h (λh0 h=>bd h λjq e0 h=>bd h λn0 e1 h=>bd h λi e2 h=>bd h λj e3 h=>bd h λb e4 h=>?_) λh0 h=>go [] []<|dn h (iE)
 refine go [] [rg 6 [(2,ia 6 e0),(3,lb e1)],rg 7 [(2,W.n e2),(3,ia 5 e3),(4,lb e4)]]<|br h (λh1 h=>bd h λi' e5 h=>go [] [rg 5 [(1,W.n e5)]]<|nx h) λh1 h=>?_
 refine bd h λy ey h=>?_
 unfold ndR at ey
 refine bd ey λl e6 ey=>bd ey λs e7 ey=>bd ey λrf e8 ey=>?_
 obtain rfl:=Option.some.inj ey
 refine bd h λ_ e9 h2=>?_
 refine go [9] [rg 8 [(2,W.n e2),(3,ia 5 e3),(4,st e4 0 [.bool true] true)]]<|nm (congrArg (λnn:Nat=>(⟨57,[(1,dI x1),(2,.ptr (Zo x0)),(5,.lsl 5 0 nn),(6,.lsl 6 0 ((t0.2.2.map Z1).length)),(7,dI t0.1),(8,dI n0)],[(5,{ sz:=1,rows:=((t0.2.1.set j true).map Zk),frz:=0,pure:=true }),(6,{ sz:=1,rows:=(t0.2.2.map Z1),frz:=0,pure:=true })]⟩:SL)) (by simp only[List.length_map,List.length_set]:(t0.2.1.map Zk).length=((t0.2.1.set j true).map Zk).length))<|so<| ?_
 refine sp h2 (λh3 h=>?_) λh3 h=>?_
 ·refine go [] [rg 9 [(3,W.k (w14 e6)),(4,ap e9)],rg 10 ((2,W.k (w11 e7))::gC h3 6 2 [(8,gw h3 (W.k (w22 e8))),(9,gw h3 g0),(10,py h3)])]<|br h (λh4 h=>bd h λ_ e10 h=>bd h λi' e5 h=>?_) λh4 h=>bd h λi' e5 h=>?_
  ·exact go [] [rg 11 [(3,W.k (w22 e8)),(4,br0 1 0),(5,ap e10)],rg 5 [(1,W.n e5)]]<|nx h
  ·exact go [] [rg 5 [(1,W.n e5)]]<|nx h
 ·refine bd h λi' e5 h=>?_
  exact go [] [rg 9 [(3,W.k (w14 e6)),(4,ap e9)],rg 10 ((2,W.k (w11 e7))::gB h3 6 4 [(10,pn h3)])]<|bF rfl<|go [] [rg 5 [(1,W.n e5)]]<|nx h
theorem w45 {x0 x1 r} (h:Z3o x0 x1=some r):Zb prog 45 [.agg (Zo x0),dI x1] (R45 r):=by
 unfold Z3o at h
 exact cs f45<|bd h λ_ e0 h=>bd h λrs e1 h=>go [] [rg 0 [(0,bo)],rg 1 [(2,ln x0.Z2),(3,mk false e0)],rg 2 [(1,ko [14] (w16O e1) (fresh:=[(14,1)]))]]<|lp (ps:=[(12,5),(14,6)]) h wl45x1<|qe<|goN [] []<|rtB (R:=R45) (x:=r) rfl (rw_ r) (a2 (rpI r) trivial) (by unfold R45; simp only[rwE] <;> kernel_rfl)
end Go.Proofs
namespace Go.Proofs
open Tryz
open Go.Den Go.Den.W
def R19 (y0:(List Bool)):D:= .sl false (y0.map Zk)
def Zfp (x0:Z4):Option ((List Bool)):= (Z3o x0 4).bind λv0=> some v0
theorem w19 {x0 r} (h:Zfp x0=some r):Zb prog 19 [.agg (Zo x0)] (R19 r):= cs f19<|bd h λv0 e0 h=>go [] [rg 0 [(0,bo)],rg 1 [(1,k (w45 e0))]]<|rt h
def R21 (y0:(List Int)):D:= .sl false (y0.map Z1)
def Zuc (t0:Int×(List Int)) (v10:(List Bool)) (x0:Z4):(Int×(List Int))→SL:= λt2=>⟨33,[(1,.ptr (Zo x0)),(3,.lsl 3 0 ((t2.2.map Z1).length)),(4,dI t0.1),(5,.sl false (v10.map Zk)),(6,dI t2.1)],[(3,{ sz:=1,rows:=(t2.2.map Z1),frz:=0,pure:=true })]⟩
def J21x2 (t0:Int×(List Int)) (x0:Z4):JT (((List Int))):= je 2 λq2:(List Int)=>⟨33,[(1,.ptr (Zo x0)),(3,.lsl 3 0 ((q2.map Z1).length)),(4,dI t0.1)],[(3,{ sz:=1,rows:=(q2.map Z1),frz:=0,pure:=true })]⟩
theorem wl21x2 (x0:Z4) {t0 v10 t2 r Γ} (h:(Zcp t0 v10) t2=some r):A prog Γ (lpC f21 5707) [] (Rd (Zuc t0 v10 x0) (J21x2 t0 x0) r) ((Zuc t0 v10 x0) t2).s:= go [] [rg 7 [(2,ln v10)]]<|br h (λh7 h=>bd h λv14 e15 h=>go [] [rg 9 [(2,ix e15)]]<|br h (λh8 h=>bd h λv15 e16 h=>bd h λv16 e17 h=>go [8] [rg 10 [(3,ia 3 e16),(4,st e17 0 [dI t0.1] t0.1)]]<|nm (congrArg (λnn:Nat=>(⟨33,[(1,.ptr (Zo x0)),(3,.lsl 3 0 nn),(4,dI t0.1),(5,.sl false (v10.map Zk)),(6,dI t2.1)],[(3,{ sz:=1,rows:=((t2.2.set v15 t0.1).map Z1),frz:=0,pure:=true })]⟩:SL)) (by simp only[List.length_map,List.length_set]:(t2.2.map Z1).length=((t2.2.set v15 t0.1).map Z1).length))<|so<|bd h λv17 e18 h=>go [] [rg 8 [(1,n e18)]]<|nx h) λh8 h=> bd h λv18 e19 h=>go [] [rg 8 [(1,n e19)]]<|nx h) λh7 h=> go [] []<|dn h (iE)
def Znu (x0:Z4):(Int×(List Int))→SL:= λt0=>⟨33,[(1,.ptr (Zo x0)),(3,.lsl 3 0 ((t0.2.map Z1).length)),(4,dI t0.1)],[(3,{ sz:=1,rows:=(t0.2.map Z1),frz:=0,pure:=true })]⟩
def J21x1:JT (((List Int))):= je 0 λq4:(List Int)=>⟨33,[(3,.lsl 3 0 ((q4.map Z1).length))],[(3,{ sz:=1,rows:=(q4.map Z1),frz:=0,pure:=true })]⟩
theorem wl21x1 {x0 t0 r Γ} (h:(l21x1 x0) t0=some r):A prog Γ (lpC f21 43) [] (Rd (Znu x0) J21x1 r) ((Znu x0) t0).s:= go [] []<|br h (λh4 h=>bd h λv10 e11 h=>go [] [rg 5 [(2,k (w45 e11))]]<|bd h λq2 e20 h=>lp e20 (wl21x2 x0)<|qe<|bd h λv19 e21 h=>goN [] [rg 4 [(1,n e21)]]<|nx h) λh4 h=> go [] []<|dn h (iE)
theorem w21 {x0 r} (h:Z43 x0=some r):Zb prog 21 [.agg (Zo x0)] (R21 r):= cs f21<|bd h λv0 e0 h=>go [] [rg 0 [(0,bo)],rg 1 [(2,ln x0.Z2),(3,mk (0:Int) e0)]]<|bd h λq4 e22 h=>lp (ps:=[(10,3)]) e22 wl21x1<|qe<|goN [] []<|rtB h (rw_ q4) (a2 (rpI q4) trivial) (by simp only[rwE] <;> kernel_rfl)
def R3 (y0:Bool):D:= .bool y0
def j3x2:Option (Bool):= (J6).bind λv17=> some v17
def j3x1 (x0:Z4) (x1:Int):Option (Bool):= (J6).bind λv2=> if v2 then ((Z1u x0 x1).bind λv3=> (Z1e x0 x1).bind λv4=> if (v3==v4) then ((Z33 x0 x1).bind λv5=> (Z8k x0 x1).bind λv6=> (Kp v5 v6).bind λv7=> if v7 then ((Ke x0).bind λv8=> (Z2g x0).bind λv9=> (Kp v8 v9).bind λv10=> if v10 then ((Z1z x0).bind λv11=> (Zfp x0).bind λv12=> (Z51 v11 v12).bind λv13=> if v13 then ((Ww x0).bind λv14=> (Z43 x0).bind λv15=> (Kp v14 v15).bind λv16=> some v16) else (some false)) else (some false)) else (some false)) else (some false)) else (some false)
def Zgl (x0:Z4) (x1:Int):Option (Bool):= (Z1k x0).bind λv0=> if (!v0) then (j3x2) else ((Mz x0).bind λv1=> if (!v1) then (j3x2) else ((j3x1 x0 x1)))
theorem wj3x2 {r Γ} (h:j3x2=some r):Jn prog f3 Γ (Den.Ends prog f3 (R3 r)) 37 ⟨54,[],[]⟩:= so<|bd h λv17 e17 h=>go [] [rg 2 [(0,k (w9 e17))]]<|rt h
theorem wj3x1 {x0 x1 r Γ} (h:(j3x1 x0 x1)=some r):Jn prog f3 Γ (Den.Ends prog f3 (R3 r)) 11 ⟨54,[(1,dI x1),(2,.ptr (Zo x0))],[]⟩:= so<|bd h λv2 e2 h=>sp h (λh2 h=>bd h λv3 e3 h=>bd h λv4 e4 h=>sp h (λh3 h=>bd h λv5 e5 h=>bd h λv6 e6 h=>bd h λv7 e7 h=>sp h (λh4 h=>bd h λv8 e8 h=>bd h λv9 e9 h=>bd h λv10 e10 h=>sp h (λh5 h=>bd h λv11 e11 h=>bd h λv12 e12 h=>bd h λv13 e13 h=>sp h (λh6 h=>bd h λv14 e14 h=>bd h λv15 e15 h=>bd h λv16 e16 h=>go [] [rg 3 ((0,k (w9 e2))::gC h2 2 2 ((4,gw h2 (k (w10 e3)))::gC h2 5 2 [(7,gw h2 (k (w11 e4))),(8,gw h2 (kb h3)),(9,py h2),(13,k (w13 e5)),(16,k (w14 e6)),(17,k (w12 e7)),(20,gw h4 g0),(21,gw h4 (k (w15 e8))),(22,gw h4 g0),(23,gw h4 (k (w16 e9))),(24,gw h4 (k (w12 e10))),(25,py h4),(27,gw h5 g0),(28,gw h5 (k (w18 e11))),(29,gw h5 g0),(30,gw h5 (k (w19 e12))),(31,gw h5 (k (w17 e13))),(32,py h5),(34,gw h6 g0),(35,gw h6 (k (w20 e14))),(36,gw h6 g0),(37,gw h6 (k (w21 e15))),(38,gw h6 (k (w12 e16))),(39,py h6)]))]<|rt h) λh6 h=> go [] [rg 3 ((0,k (w9 e2))::gC h2 2 2 ((4,gw h2 (k (w10 e3)))::gC h2 5 2 ((7,gw h2 (k (w11 e4)))::(8,gw h2 (kb h3))::(9,py h2)::(13,k (w13 e5))::(16,k (w14 e6))::(17,k (w12 e7))::(20,gw h4 g0)::(21,gw h4 (k (w15 e8)))::(22,gw h4 g0)::(23,gw h4 (k (w16 e9)))::(24,gw h4 (k (w12 e10)))::(25,py h4)::(27,gw h5 g0)::(28,gw h5 (k (w18 e11)))::(29,gw h5 g0)::(30,gw h5 (k (w19 e12)))::(31,gw h5 (k (w17 e13)))::(32,py h5)::gB h6 34 5 [(39,pn h6)])))]<|rt h) λh5 h=> go [] [rg 3 ((0,k (w9 e2))::gC h2 2 2 ((4,gw h2 (k (w10 e3)))::gC h2 5 2 ((7,gw h2 (k (w11 e4)))::(8,gw h2 (kb h3))::(9,py h2)::(13,k (w13 e5))::(16,k (w14 e6))::(17,k (w12 e7))::(20,gw h4 g0)::(21,gw h4 (k (w15 e8)))::(22,gw h4 g0)::(23,gw h4 (k (w16 e9)))::(24,gw h4 (k (w12 e10)))::(25,py h4)::gB h5 27 5 [(32,pn h5)])))]<|rt h) λh4 h=> go [] [rg 3 ((0,k (w9 e2))::gC h2 2 2 ((4,gw h2 (k (w10 e3)))::gC h2 5 2 ((7,gw h2 (k (w11 e4)))::(8,gw h2 (kb h3))::(9,py h2)::(13,k (w13 e5))::(16,k (w14 e6))::(17,k (w12 e7))::gB h4 20 5 [(25,pn h4)])))]<|rt h) λh3 h=> go [] [rg 3 ((0,k (w9 e2))::gC h2 2 2 ((4,gw h2 (k (w10 e3)))::gC h2 5 2 [(7,gw h2 (k (w11 e4))),(8,gw h2 (kb h3)),(9,py h2)]))]<|rt h) λh2 h=> go [] [rg 3 ((0,k (w9 e2))::gB h2 2 7 [(9,pn h2)])]<|rt h
theorem w3 {x0 x1 r} (h:Zgl x0 x1=some r):Zb prog 3 [.agg (Zo x0),dI x1] (R3 r):= cs f3<|bd h λv0 e0 h=>sp h (λh0 h=>go [] [rg 0 [(0,bo)],rg 1 ((1,k (w7 e0))::gA h0 4 3 [(7,py h0)])]<|bT rfl<|go [2] []<|jn (wj3x2 h)) λh0 h=> bd h λv1 e1 h=>go [] [rg 0 [(0,bo)],rg 1 [(1,k (w7 e0)),(4,gw h0 g0),(5,gw h0 (k (w8 e1))),(6,gw h0 g0),(7,pn h0)]]<|br h (λh1 h=>go [2] []<|jn (wj3x2 h)) λh1 h=> go [3] []<|jn (wj3x1 h)
end Go.Proofs
namespace Go.Proofs
open Go.Den Go.Tot
theorem Zzl (l:List Bool) (hl:l.length≤140737488355328):Z51 l l=some true:=by
 unfold Z51
 have h:Ok (Z7 (Zdq l l) Z8 0) λq=>q=.inl ():=by
  refine li l.length (λt h0 h1=>?_)
  unfold Zdq
  refine brD (λhlt=>?_) λ_=>di rfl
  rw[if_pos (by simpa using hlt)]
  unfold j17x1
  refine bd (gri h0 hlt) λa ⟨_,ha⟩=>bd (gri h0 hlt) λb ⟨_,hb⟩=>?_
  rw[ha] at hb; cases hb
  rw[if_neg (by simp)]
  refine bd wr λk hk=>?_
  subst hk; exact ni (by omega) (by omega)
 obtain⟨q,e,rfl⟩:=h
 rw[e]
 show some (_==_)=_
 simp
theorem lev_at {l:List Int} {i:Nat} (h:i<l.length):l.getD (((i:Int)+1) - 1).toNat 0=l[i] :=by
 rw[show (((i:Int)+1) - 1).toNat=i by omega,List.getD_eq_getElem?_getD,List.getElem?_eq_getElem h]; rfl
theorem MG.strongR {m:Z4} (h:MG m) {l:List Int} (hn:l.length=m.Z2.length) (hl:L5 (U7 m) λn=>l.getD (n - 1).toNat 0):Zfp m=some (l.map (· ==4)):=by
 unfold Zfp
 obtain⟨out,e,h1,h2⟩:=h.rchR 4
 rw[e]
 show some out=_
 congr 1
 refine List.ext_getElem (by simp; omega) λi hi hi'=>?_
 have hi2:i<l.length:=by omega
 have hr:(1:Int)≤(i:Int)+1∧(i:Int)+1≤m.Z2.length:=by omega
 obtain⟨b0,b4,b⟩:=hl ((i:Int)+1) hr.1 hr.2
 have hb:=b 4 (by decide) (by decide)
 dsimp only at b0 b4 hb
 rw[lev_at hi2] at b0 b4 hb
 have ho:=h2 ((i:Int)+1) hr.1 hr.2
 rw[← hb] at ho
 have hbit:Bit out (((i:Int)+1) - 1)↔out[i]=true:=by
  unfold Bit
  rw[show (((i:Int)+1) - 1).toNat=i by omega,List.getElem?_eq_getElem hi]
  simp
 rw[hbit] at ho
 rw[List.getElem_map]
 cases hx:out[i] with
 | true=>
  have:=ho.1 hx
  rw[show l[i]=4 by omega]; rfl
 | false=>
  have: ¬4≤l[i] :=λh=>by rw[ho.2 h] at hx; cases hx
  symm
  rw[beq_eq_false_iff_ne]; omega
theorem Zwn (m:Z4) (h:Vr m) (n:Int):Zgl m n=some true:=by
 have aw:j3x2=some true:=by unfold j3x2; rw[Lj]; rfl
 unfold Zgl
 obtain⟨b,e,_⟩:=Ze3 m
 obtain⟨c,e2,hc⟩:=Z8x m h
 rw[e,Option.bind_some,e2,Option.bind_some]
 cases b with
 | false=>exact aw
 | true=>
  cases c with
  | false=>exact aw
  | true=>
   have hg:=Mx.mg h (hc rfl)
   obtain⟨l,l1,l2,l3,l4⟩:=hg.lev_same
   have hlen:=hg.len
   have hr:=hg.refs_len n
   have hro:=hg.roots_len
   rw[if_neg (by simp),if_neg (by simp)]
   unfold j3x1
   rw [Lj,Option.bind_some,if_pos rfl,hg.strP,hg.strR,Option.bind_some,Option.bind_some,if_pos (by simp),hg.refsP,hg.refsR,Option.bind_some,Option.bind_some,Zel _ (by omega),Option.bind_some,if_pos rfl,
    hg.rootsP,hg.rootsR,Option.bind_some,Option.bind_some,Zel _ (by omega),Option.bind_some,if_pos rfl,hg.strongP l1 l3,hg.strongR l3 l4,Option.bind_some,Option.bind_some,Zzl _ (by simp; omega),Option.bind_some,if_pos rfl,l1,l2,Option.bind_some,Option.bind_some,Zel _ (by omega)]
   rfl
end Go.Proofs
