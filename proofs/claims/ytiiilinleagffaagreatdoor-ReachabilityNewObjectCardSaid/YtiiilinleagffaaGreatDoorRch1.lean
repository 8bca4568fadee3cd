/-
  Models of functions of the program, and that the functions compute them. Printed by den3.py. No condition.
-/
import Derived.Test.YtiiilinleagffaaGreatDoorRows
import Derived.Test.YtiiilinleagffaaGreatDoorDenClaim
set_option linter.unusedVariables false
set_option linter.unusedSimpArgs false
namespace Go.Proofs
open Tryz
open Go.Den Go.Den.W
structure Xs where
 a0:Int
 a1:Int
def Qb (x:Xs):List D:=[.int .i64 x.a0,.int .i64 x.a1]
instance:Row Xs:=⟨Qb,2,λ_=>rfl⟩
structure Zg where
 Zn:Int
 f_N:Int
def X2 (x:Zg):List D:=[.int .i64 x.Zn,.int .i64 x.f_N]
instance:Row Zg:=⟨X2,2,λ_=>rfl⟩
structure Q9 where
 Zq:Int
 J4:Int
 f_PC:Int
 Zs:List Zg
 Zw:List Zg
 Vp:Int
 K3:Bool
 Mc:Bool
def Vd (x:Q9):List D:=[.int .i64 x.Zq,.int .i64 x.J4,.int .i64 x.f_PC,.sl false (x.Zs.map X2),.sl false (x.Zw.map X2),.int .i64 x.Vp,.bool x.K3,.bool x.Mc]
instance:Row Q9:=⟨Vd,8,λ_=>rfl⟩
structure Yv where
 Zng:Int
 Q8:List UInt8
def Xa (x:Yv):List D:=[.int .i64 x.Zng,.str x.Q8]
instance:Row Yv:=⟨Xa,2,λ_=>rfl⟩
structure X6 where
 Yb:Int
 Ze:List UInt8
 Xb:List UInt8
 W7:Int
 f_N:Int
 f_S:List UInt8
def Wi (x:X6):List D:=[.int .i64 x.Yb,.str x.Ze,.str x.Xb,.int .i64 x.W7,.int .i64 x.f_N,.str x.f_S]
instance:Row X6:=⟨Wi,6,λ_=>rfl⟩
structure Xp where
 Zq:List UInt8
 Ze:List UInt8
 Xb:List UInt8
def Z2a (x:Xp):List D:=[.str x.Zq,.str x.Ze,.str x.Xb]
instance:Row Xp:=⟨Z2a,3,λ_=>rfl⟩
structure Z6 where
 f_Op:Int
 f_A:Int
 f_B:Int
 f_To:Int
 Y9:List Int
 Zh:List Int
 Yr:Xp
 f_S:List UInt8
def Zm (x:Z6):List D:=[.int .i64 x.f_Op,.int .i64 x.f_A,.int .i64 x.f_B,.int .i64 x.f_To,.sl false (x.Y9.map Z1),.sl false (x.Zh.map Z1),.str x.Yr.Zq,.str x.Yr.Ze,.str x.Yr.Xb,.str x.f_S]
instance:Row Z6:=⟨Zm,10,λ_=>rfl⟩
structure Zt where
 Wp:Int
 f_To:Int
 Wq:Int
 Zq:Int
 Zv:List UInt8
def Y6 (x:Zt):List D:=[.int .i64 x.Wp,.int .i64 x.f_To,.int .i64 x.Wq,.int .i64 x.Zq,.str x.Zv]
instance:Row Zt:=⟨Y6,5,λ_=>rfl⟩
structure Y8 where
 Xh:Int
 X0:Int
 Ze:List UInt8
def Qn (x:Y8):List D:=[.int .i64 x.Xh,.int .u8 x.X0,.str x.Ze]
instance:Row Y8:=⟨Qn,3,λ_=>rfl⟩
structure Zp where
 Zn:Int
 V0:Int
 Zv:Y8
 Vg:Int
def Yw (x:Zp):List D:=[.int .i64 x.Zn,.int .i64 x.V0,.int .i64 x.Zv.Xh,.int .u8 x.Zv.X0,.str x.Zv.Ze,.int .i64 x.Vg]
instance:Row Zp:=⟨Yw,6,λ_=>rfl⟩
structure V5 where
 Zs:List Zp
 Zw:List Zp
 Uc:Bool
def Z7u (x:V5):List D:=[.sl false (x.Zs.map Yw),.sl false (x.Zw.map Yw),.bool x.Uc]
instance:Row V5:=⟨Z7u,3,λ_=>rfl⟩
structure Zx where
 Xw:Int
 Yy:V5
def Yf (x:Zx):List D:=[.int .i64 x.Xw,.sl false (x.Yy.Zs.map Yw),.sl false (x.Yy.Zw.map Yw),.bool x.Yy.Uc]
instance:Row Zx:=⟨Yf,4,λ_=>rfl⟩
structure Yd where
 Xw:Int
 Uh:Int
def Yk (x:Yd):List D:=[.int .i64 x.Xw,.int .i64 x.Uh]
instance:Row Yd:=⟨Yk,2,λ_=>rfl⟩
structure Zi where
 Zw:Int
 Zs:Int
 Y3:List Z6
 Xo:List Zt
 Yz:List Zx
 X9:List Yd
def Yh (x:Zi):List D:=[.int .i64 x.Zw,.int .i64 x.Zs,.sl false (x.Y3.map Zm),.sl false (x.Xo.map Y6),.sl false (x.Yz.map Yf),.sl false (x.X9.map Yk)]
instance:Row Zi:=⟨Yh,6,λ_=>rfl⟩
structure Xy where
 Yb:Int
 Ze:List UInt8
 Xb:List UInt8
 Ja:Bool
 Xz:Zi
 U8:List (List UInt8)
def Wh (x:Xy):List D:=[.int .i64 x.Yb,.str x.Ze,.str x.Xb,.bool x.Ja,.int .i64 x.Xz.Zw,.int .i64 x.Xz.Zs,.sl false (x.Xz.Y3.map Zm),.sl false (x.Xz.Xo.map Y6),.sl false (x.Xz.Yz.map Yf),.sl false (x.Xz.X9.map Yk),.sl false (x.U8.map Q2)]
instance:Row Xy:=⟨Wh,11,λ_=>rfl⟩
structure Zu where
 Yb:Int
 Ze:List UInt8
 Yn:List UInt8
 Ya:List (List UInt8)
 Yl:List X6
 Yo:List Xy
 Jc:List UInt8
def Qc (x:Zu):List D:=[.int .i64 x.Yb,.str x.Ze,.str x.Yn,.sl false (x.Ya.map Q2),.sl false (x.Yl.map Wi),.sl false (x.Yo.map Wh),.str x.Jc]
instance:Row Zu:=⟨Qc,7,λ_=>rfl⟩
structure Y7 where
 Xj:Int
 Xg:Zu
 Yn:Int
 Ya:List Int
 Ln:Int
 Ki:Int
def Xx (x:Y7):List D:=[.int .i64 x.Xj,.int .i64 x.Xg.Yb,.str x.Xg.Ze,.str x.Xg.Yn,.sl false (x.Xg.Ya.map Q2),.sl false (x.Xg.Yl.map Wi),.sl false (x.Xg.Yo.map Wh),.str x.Xg.Jc,.int .i64 x.Yn,.sl false (x.Ya.map Z1),.int .i64 x.Ln,.int .i64 x.Ki]
instance:Row Y7:=⟨Xx,12,λ_=>rfl⟩
structure Vu where
 K9:List UInt8
 f_To:Int
def Jl (x:Vu):List D:=[.str x.K9,.int .i64 x.f_To]
instance:Row Vu:=⟨Jl,2,λ_=>rfl⟩
structure Vq where
 Ze:List UInt8
 Q8:List UInt8
def Jh (x:Vq):List D:=[.str x.Ze,.str x.Q8]
instance:Row Vq:=⟨Jh,2,λ_=>rfl⟩
structure Yi where
 Wl:List Vu
 Vc:List Vq
def Xl (x:Yi):List D:=[.sl false (x.Wl.map Jl),.sl false (x.Vc.map Jh)]
instance:Row Yi:=⟨Xl,2,λ_=>rfl⟩
structure Xn where
 Xj:Int
 Ze:List UInt8
 Zq:Int
def Q6 (x:Xn):List D:=[.int .i64 x.Xj,.str x.Ze,.int .i64 x.Zq]
instance:Row Xn:=⟨Q6,3,λ_=>rfl⟩
structure Qj where
 Ze:List UInt8
 f_A:Int
 f_B:Int
def Qi (x:Qj):List D:=[.str x.Ze,.int .i64 x.f_A,.int .i64 x.f_B]
instance:Row Qj:=⟨Qi,3,λ_=>rfl⟩
structure Zj where
 X3:List Yi
 Zy:List Y7
 X1:List Xn
 Qq:List Qj
def Ys (x:Zj):List D:=[.sl false (x.X3.map Xl),.sl false (x.Zy.map Xx),.sl false (x.X1.map Q6),.sl false (x.Qq.map Qi)]
instance:Row Zj:=⟨Ys,4,λ_=>rfl⟩
structure Z3 where
 Xu:Int
 f_S:List UInt8
 f_N:Int
 f_A:Int
 f_B:Int
def Zf (x:Z3):List D:=[.int .i64 x.Xu,.str x.f_S,.int .i64 x.f_N,.int .i64 x.f_A,.int .i64 x.f_B]
instance:Row Z3:=⟨Zf,5,λ_=>rfl⟩
structure Qo where
 Zq:Int
 Xw:Int
def Kr (x:Qo):List D:=[.int .i64 x.Zq,.int .i64 x.Xw]
instance:Row Qo:=⟨Kr,2,λ_=>rfl⟩
structure Zr where
 Yb:Int
 Ze:Int
 Xb:Int
 Xd:List Yv
def Y0 (x:Zr):List D:=[.int .i64 x.Yb,.int .i64 x.Ze,.int .i64 x.Xb,.sl false (x.Xd.map Xa)]
instance:Row Zr:=⟨Y0,4,λ_=>rfl⟩
structure Yq where
 Q3:List Z3
 Yb:Int
 Wb:Int
 Yn:Int
 Ya:List Int
 Yl:List Zr
 Yo:List Zr
 Xd:List Yv
def Qa (x:Yq):List D:=[.sl false (x.Q3.map Zf),.int .i64 x.Yb,.int .i64 x.Wb,.int .i64 x.Yn,.sl false (x.Ya.map Z1),.sl false (x.Yl.map Y0),.sl false (x.Yo.map Y0),.sl false (x.Xd.map Xa)]
instance:Row Yq:=⟨Qa,8,λ_=>rfl⟩
structure Xm where
 Q5:Int
 Le:Int
 Qu:List Zg
def Qg (x:Xm):List D:=[.int .i64 x.Q5,.int .i64 x.Le,.sl false (x.Qu.map X2)]
instance:Row Xm:=⟨Qg,3,λ_=>rfl⟩
structure Ql where
 Xv:List UInt8
 Xf:Int
def Qs (x:Ql):List D:=[.str x.Xv,.int .i64 x.Xf]
instance:Row Ql:=⟨Qs,2,λ_=>rfl⟩
structure X5 where
 Xh:Int
 X0:Int
 Zq:Int
def L6 (x:X5):List D:=[.int .i64 x.Xh,.int .u8 x.X0,.int .i64 x.Zq]
instance:Row X5:=⟨L6,3,λ_=>rfl⟩
structure Zl where
 Zn:Int
 Zv:X5
 Yj:List Zg
 Xv:List UInt8
 Qw:Int
 Qh:Int
 Q7:List Int
def X4 (x:Zl):List D:=[.int .i64 x.Zn,.int .i64 x.Zv.Xh,.int .u8 x.Zv.X0,.int .i64 x.Zv.Zq,.sl false (x.Yj.map X2),.str x.Xv,.int .i64 x.Qw,.int .i64 x.Qh,.sl false (x.Q7.map Z1)]
instance:Row Zl:=⟨X4,9,λ_=>rfl⟩
structure Yu where
 Q5:Int
 Qx:Int
 Qh:Int
 Yx:List Q9
 Xf:Int
 Vf:Int
 Qm:Zg
def Xk (x:Yu):List D:=[.int .i64 x.Q5,.int .i64 x.Qx,.int .i64 x.Qh,.sl false (x.Yx.map Vd),.int .i64 x.Xf,.int .i64 x.Vf,.int .i64 x.Qm.Zn,.int .i64 x.Qm.f_N]
instance:Row Yu:=⟨Xk,8,λ_=>rfl⟩
structure Z4 where
 Y1:Zj
 V6:Int
 Z2:List Zl
 X7:List Xm
 Xc:List Ql
 Zz:List Yu
 W5:List (List UInt8)
def Zo (x:Z4):List D:=[.sl false (x.Y1.X3.map Xl),.sl false (x.Y1.Zy.map Xx),.sl false (x.Y1.X1.map Q6),.sl false (x.Y1.Qq.map Qi),.int .i64 x.V6,.sl false (x.Z2.map X4),.sl false (x.X7.map Qg),.sl false (x.Xc.map Qs),.sl false (x.Zz.map Xk),.sl false (x.W5.map Q2)]
instance:Row Z4:=⟨Zo,10,λ_=>rfl⟩
structure Qt where
 Mu:List Y8
 Qm:Y8
def Z53 (x:Qt):List D:=[.sl false (x.Mu.map Qn),.int .i64 x.Qm.Xh,.int .u8 x.Qm.X0,.str x.Qm.Ze]
instance:Row Qt:=⟨Z53,4,λ_=>rfl⟩
structure Yp where
 f_S:List UInt8
 f_At:Int
 W9:Bool
def Z16 (x:Yp):List D:=[.str x.f_S,.int .i64 x.f_At,.bool x.W9]
instance:Row Yp:=⟨Z16,3,λ_=>rfl⟩
structure W3 where
 f_C:Zi
 Q8:List UInt8
 Zjt:List Int
def Kh (x:W3):List D:=[.int .i64 x.f_C.Zw,.int .i64 x.f_C.Zs,.sl false (x.f_C.Y3.map Zm),.sl false (x.f_C.Xo.map Y6),.sl false (x.f_C.Yz.map Yf),.sl false (x.f_C.X9.map Yk),.str x.Q8,.sl false (x.Zjt.map Z1)]
instance:Row W3:=⟨Kh,8,λ_=>rfl⟩
structure Qd where
 f_F:Yq
 Z3i:List Zi
 Z2q:List (List Int)
 Z0a:List Xs
def Ml (x:Qd):List D:=[.sl false (x.f_F.Q3.map Zf),.int .i64 x.f_F.Yb,.int .i64 x.f_F.Wb,.int .i64 x.f_F.Yn,.sl false (x.f_F.Ya.map Z1),.sl false (x.f_F.Yl.map Y0),.sl false (x.f_F.Yo.map Y0),.sl false (x.f_F.Xd.map Xa),.sl false (x.Z3i.map Yh),.sl false (x.Z2q.map (rSl Z1)),.sl false (x.Z0a.map Qb)]
instance:Row Qd:=⟨Ml,11,λ_=>rfl⟩
structure Y5 where
 f_P:List Z3
 f_E:Int
def Vz (x:Y5):List D:=[.sl false (x.f_P.map Zf),.int .i64 x.f_E]
instance:Row Y5:=⟨Vz,2,λ_=>rfl⟩
def Zef (x y:X5):Bool:=((x.Xh==y.Xh)&&((x.X0==y.X0)&&((x.Zq==y.Zq)&&true)))
def eqq_47 : Prop := prog.stoodInHeld 47 = false ∧ ("Dim" ≠ "_" ∧ True ∧ ("Base" ≠ "_" ∧ True ∧ ("Class" ≠ "_" ∧ True ∧ True)))
theorem Znf:eqq_47:=⟨by kernel_rfl,⟨by decide,trivial,⟨by decide,trivial,⟨by decide,trivial,trivial⟩⟩⟩⟩
theorem Zs2:prog.eqGuardType prog.depth 47=false:=by kernel_rfl
def Zbe (x y:Zg):Bool:=((x.Zn==y.Zn)&&((x.f_N==y.f_N)&&true))
def eqq_59 : Prop := prog.stoodInHeld 59 = false ∧ ("Kind" ≠ "_" ∧ True ∧ ("N" ≠ "_" ∧ True ∧ True))
theorem Zpn:eqq_59:=⟨by kernel_rfl,⟨by decide,trivial,⟨by decide,trivial,trivial⟩⟩⟩
theorem Zqb:prog.eqGuardType prog.depth 59=false:=by kernel_rfl
def Zti (x y:Y8):Bool:=((x.Xh==y.Xh)&&((x.X0==y.X0)&&((x.Ze==y.Ze)&&true)))
def eqq_155 : Prop := prog.stoodInHeld 155 = false ∧ ("Dim" ≠ "_" ∧ True ∧ ("Base" ≠ "_" ∧ True ∧ ("Name" ≠ "_" ∧ True ∧ True)))
theorem eqp_155:eqq_155:=⟨by kernel_rfl,⟨by decide,trivial,⟨by decide,trivial,⟨by decide,trivial,trivial⟩⟩⟩⟩
theorem eqg_155:prog.eqGuardType prog.depth 155=false:=by kernel_rfl
def Zn5 (x y:Z3):Bool:=((x.Xu==y.Xu)&&((x.f_S==y.f_S)&&((x.f_N==y.f_N)&&((x.f_A==y.f_A)&&((x.f_B==y.f_B)&&true)))))
def eqq_213 : Prop := prog.stoodInHeld 213 = false ∧ ("Tag" ≠ "_" ∧ True ∧ ("S" ≠ "_" ∧ True ∧ ("N" ≠ "_" ∧ True ∧ ("A" ≠ "_" ∧ True ∧ ("B" ≠ "_" ∧ True ∧ True)))))
theorem eqp_213:eqq_213:=⟨by kernel_rfl,⟨by decide,trivial,⟨by decide,trivial,⟨by decide,trivial,⟨by decide,trivial,⟨by decide,trivial,trivial⟩⟩⟩⟩⟩⟩
theorem eqg_213:prog.eqGuardType prog.depth 213=false:=by kernel_rfl
def Zgu (x y:Xp):Bool:=((x.Zq==y.Zq)&&((x.Ze==y.Ze)&&((x.Xb==y.Xb)&&true)))
def eqq_218 : Prop := prog.stoodInHeld 218 = false ∧ ("Class" ≠ "_" ∧ True ∧ ("Name" ≠ "_" ∧ True ∧ ("Desc" ≠ "_" ∧ True ∧ True)))
theorem Zpr:eqq_218:=⟨by kernel_rfl,⟨by decide,trivial,⟨by decide,trivial,⟨by decide,trivial,trivial⟩⟩⟩⟩
theorem Zrq:prog.eqGuardType prog.depth 218=false:=by kernel_rfl
def R7 (y0:Bool):D:= .bool y0
def Z1k (x0:Z4):Option (Bool):= if (decide ((x0.Y1.Zy.length:Int)≤60)) then (if (decide ((x0.Z2.length:Int)≤60)) then (if (decide ((x0.Zz.length:Int)≤10)) then (if (decide ((x0.X7.length:Int)≤60)) then (some (decide ((x0.Xc.length:Int)≤60))) else (some false)) else (some false)) else (some false)) else (some false)
theorem w7 {x0 r} (h:Z1k x0=some r):Zb prog 7 [.agg (Zo x0)] (R7 r):= cs f7<|go [1] [rg 0 [(0,bo)]]<|po<|pr 6 [(3,ln x0.Y1.Zy)]<|sp h (λh0 h=>pr 6 (gC h0 6 2 [(8,gw h0 (ln x0.Z2)),(9,gw h0 g0),(10,py h0)])<|sp h (λh1 h=>pr 6 (gC h1 12 2 [(14,gw h1 (ln x0.Zz)),(15,gw h1 g0),(16,py h1)])<|sp h (λh2 h=>pr 6 (gC h2 18 2 [(20,gw h2 (ln x0.X7)),(21,gw h2 g0),(22,py h2)])<|sp h (λh3 h=>pr 6 (gC h3 24 2 [(26,gw h3 (ln x0.Xc)),(27,gw h3 g0),(28,py h3)])<|pe<|goN [] []<|rt h) λh3 h=> pr 6 (gB h3 24 4 [(28,pn h3)])<|pe<|goN [] []<|rt h) λh2 h=> pr 12 (gB h2 18 4 [(22,pn h2)])<|pe<|goN [] []<|rt h) λh1 h=> pr 18 (gB h1 12 4 [(16,pn h1)])<|pe<|goN [] []<|rt h) λh0 h=> pr 24 (gB h0 6 4 [(10,pn h0)])<|pe<|goN [] []<|rt h
def R92 (y0:Bool):D:= .bool y0
def Zap (x0:Int):Option (Bool):= if (decide (x0≥97)) then (if (decide (x0≤122)) then (some true) else (if (decide (x0≥65)) then (if (decide (x0≤90)) then (some true) else (if (x0==95) then (some true) else (some (x0==36)))) else (if (x0==95) then (some true) else (some (x0==36))))) else (if (decide (x0≥65)) then (if (decide (x0≤90)) then (some true) else (if (x0==95) then (some true) else (some (x0==36)))) else (if (x0==95) then (some true) else (some (x0==36))))
theorem w92 {x0 r} (h:Zap x0=some r):Zb prog 92 [d8 x0] (R92 r):= cs f92<|go [1] []<|po<|pr 3 []<|sp h (λh0 h=>pr 4 (gC h0 3 2 [(5,py h0)])<|sp h (λh1 h=>pr 16 (gA h1 7 3 [(12,gs0 h1),(13,py h1)])<|pe<|goN [] []<|rt h) λh1 h=> pr 3 (gC h1 7 3 [])<|sp h (λh2 h=>pr 5 (gC h2 10 2 [(12,gw h1 (py h2)),(13,pn h1)])<|sp h (λh3 h=>pr 8 (gA h3 15 2 [(17,py h3)])<|pe<|goN [] []<|rt h) λh3 h=> pr 4 (gC h3 15 2 [(17,pn h3)])<|sp h (λh4 h=>pr 4 (gA h4 19 2 [(21,py h4)])<|pe<|goN [] []<|rt h) λh4 h=> pr 4 (gC h4 19 2 [(21,pn h4)])<|pe<|goN [] []<|rt h) λh2 h=> pr 9 (gB h2 10 2 [(12,gw h1 (pn h2)),(13,pn h1)])<|sp h (λh5 h=>pr 4 (gA h5 19 2 [(21,py h5)])<|pe<|goN [] []<|rt h) λh5 h=> pr 4 (gC h5 19 2 [(21,pn h5)])<|pe<|goN [] []<|rt h) λh0 h=> pr 7 (gB h0 3 2 [(5,pn h0)])<|sp h (λh6 h=>pr 5 (gC h6 10 2 [(12,py h6)])<|sp h (λh7 h=>pr 8 (gA h7 15 2 [(17,py h7)])<|pe<|goN [] []<|rt h) λh7 h=> pr 4 (gC h7 15 2 [(17,pn h7)])<|sp h (λh8 h=>pr 4 (gA h8 19 2 [(21,py h8)])<|pe<|goN [] []<|rt h) λh8 h=> pr 4 (gC h8 19 2 [(21,pn h8)])<|pe<|goN [] []<|rt h) λh6 h=> pr 9 (gB h6 10 2 [(12,pn h6)])<|sp h (λh9 h=>pr 4 (gA h9 19 2 [(21,py h9)])<|pe<|goN [] []<|rt h) λh9 h=> pr 4 (gC h9 19 2 [(21,pn h9)])<|pe<|goN [] []<|rt h
def R75 (y0:Bool):D:= .bool y0
def Zem (x0 : List UInt8) (t0:Int):Option (Ctl (Int) (Unit⊕Bool)):= if (decide (t0<(x0.length:Int))) then ((Vh x0 t0).bind λv2=> (Zap v2).bind λv3=> if (!v3) then (if (t0==0) then (some (.done (.inr false))) else ((Vh x0 t0).bind λv4=> if (decide (v4<48)) then (some (.done (.inr false))) else ((Vh x0 t0).bind λv5=> if (decide (v5>57)) then (some (.done (.inr false))) else ((some (IntKind.wrap .i64 (t0+1))).bind λv6=> some (.next v6))))) else ((some (IntKind.wrap .i64 (t0+1))).bind λv7=> some (.next v7))) else (some (.done (.inl (()))))
def Z41 (x0:List UInt8):Option (Bool):= (Z7 (Zem x0) Z8 0).bind λq1=> match q1 with | .inl q0=>(some (decide ((x0.length:Int)>0))) | .inr y0=>(some y0)
def Zt2 (x0:List UInt8):Int→SL:= λt0=>⟨34,[(0,.str x0),(3,dI t0)],[]⟩
def J75x1 (x0:List UInt8):JT (Unit⊕Bool):= ju (je 0 λq0:Unit=>⟨34,[(0,.str x0)],[]⟩) (jr prog f75 R75)
theorem wl75x1 {x0 t0 r Γ} (h:(Zem x0) t0=some r):A prog Γ (lpC f75 21) [] (Rd (Zt2 x0) (J75x1 x0) r) ((Zt2 x0) t0).s:= go [] []<|br h (λh2 h=>go [4] []<|po<|bd h λv2 e2 h=>bd h λv3 e3 h=>pr 6 [(2,ib e2),(3,k (w92 e3))]<|sp h (λh3 h=>pr 3 (gC h3 6 3 [])<|sp h (λh4 h=>pr 12 (gA h4 9 4 [(13,gw h3 (py h4)),(14,gw h3 g0),(19,gw h3 g0),(20,py h3)])<|pe<|goN [] []<|bT rfl<|go [] []<|dn h (i2 iR)) λh4 h=> bd h λv4 e4 h=>pr 6 (gC h4 9 2 [(11,gw h4 (ib e4)),(12,gw h4 g0),(13,gw h3 (pn h4)),(14,gw h3 g0)])<|sp h (λh5 h=>pr 6 (gA h5 15 4 [(19,gw h3 (py h5)),(20,py h3)])<|pe<|goN [] []<|bT rfl<|go [] []<|dn h (i2 iR)) λh5 h=> bd h λv5 e5 h=>pr 6 (gC h5 15 2 [(17,gw h5 (ib e5)),(18,gw h5 g0),(19,gw h3 (pn h5)),(20,py h3)])<|pe<|goN [] []<|br h (λh6 h=>go [] []<|dn h (i2 iR)) λh6 h=> bd h λv6 e6 h=>go [] [rg 3 [(1,n e6)]]<|nx h) λh3 h=> pr 15 (gB h3 6 3 (gB h3 13 2 [(19,gs1 h3),(20,pn h3)]))<|pe<|goN [] []<|bF rfl<|bd h λv7 e7 h=>go [] [rg 3 [(1,n e7)]]<|nx h) λh2 h=> go [] []<|dn h (i1 iE)
theorem w75 {x0 r} (h:Z41 x0=some r):Zb prog 75 [.str x0] (R75 r):= cs f75<|go [] []<|bd h λq1 e8 h=>lp e8 wl75x1<|match q1,h with | .inl q0,h=>j1<|(qe<|goN [] []<|rt h) | .inr y0,h=>j2<|(qr h)
def R53 (y0:Bool):D:= .bool y0
def Zdf (x0:List UInt8) (t0:Int×Int):Option (Ctl (Int×Int) (Int⊕Bool)):= if (decide (t0.2<(x0.length:Int))) then ((Vh x0 t0.2).bind λv3=> if (v3==47) then ((sub x0 t0.1 t0.2).bind λv4=> (Z41 v4).bind λv5=> if (!v5) then (some (.done (.inr false))) else ((some (IntKind.wrap .i64 (t0.2+1))).bind λv6=> (some (IntKind.wrap .i64 (t0.2+1))).bind λv7=> some (.next (v6,v7)))) else ((some (IntKind.wrap .i64 (t0.2+1))).bind λv8=> some (.next (t0.1,v8)))) else (some (.done (.inl (t0.1))))
def Z1d (x0:List UInt8):Option (Bool):= if (decide ((x0.length:Int)>64)) then (some false) else ((Z7 (Zdf x0) Z8 (0,0)).bind λq1=> match q1 with | .inl q0=>((sub x0 q0 (x0.length:Int)).bind λv9=> (Z41 v9).bind λv10=> some v10) | .inr y0=>(some y0))
def Zmw (x0:List UInt8):(Int×Int)→SL:= λt0=>⟨30,[(0,.str x0),(3,dI t0.1),(4,dI t0.2)],[]⟩
def J53x1 (x0:List UInt8):JT (Int⊕Bool):= ju (je 0 λq0:Int=>⟨30,[(0,.str x0),(3,dI q0)],[]⟩) (jr prog f53 R53)
theorem wl53x1 {x0 t0 r Γ} (h:(Zdf x0) t0=some r):A prog Γ (lpC f53 87) [] (Rd (Zmw x0) (J53x1 x0) r) ((Zmw x0) t0).s:= go [] []<|br h (λh4 h=>bd h λv3 e3 h=>go [] [rg 7 [(2,ib e3)]]<|br h (λh5 h=>bd h λv4 e4 h=>bd h λv5 e5 h=>go [] [rg 8 [(3,ss e4),(4,k (w75 e5))]]<|br h (λh6 h=>go [] []<|dn h (i2 iR)) λh6 h=> bd h λv6 e6 h=>bd h λv7 e7 h=>go [] [rg 10 [(1,n e6)],rg 6 [(1,n e7)]]<|nx h) λh5 h=> bd h λv8 e8 h=>go [] [rg 6 [(1,n e8)]]<|nx h) λh4 h=> go [] []<|dn h (i1 iE)
theorem w53 {x0 r} (h:Z1d x0=some r):Zb prog 53 [.str x0] (R53 r):= cs f53<|go [] []<|br h (λh0 h=>go [] []<|rt h) λh0 h=> go [] []<|bd h λq1 e9 h=>lp e9 wl53x1<|match q1,h with | .inl q0,h=>j1<|(qe<|bd h λv9 e10 h=>bd h λv10 e11 h=>goN [] [rg 11 [(2,ss e10),(3,k (w75 e11))]]<|rt h) | .inr y0,h=>j2<|(qr h)
def R78 (y0:Bool):D:= .bool y0
def Z15 (x0 x1:List UInt8):Option (Bool):= if (decide ((x1.length:Int)≤(x0.length:Int))) then ((sub x0 0 (x1.length:Int)).bind λv0=> some (v0==x1)) else (some false)
theorem w78 {x0 x1 r} (h:Z15 x0 x1=some r):Zb prog 78 [.str x0,.str x1] (R78 r):= cs f78<|sp h (λh0 h=>bd h λv0 e0 h=>go [] [rg 1 [(4,kb h0),(9,ss e0)]]<|rt h) λh0 h=> go [] [rg 1 [(4,kb h0)]]<|rt h
def R73 (y0:Int):D:= .int .i64 y0
def Zb8 (x0:Yi) (x1 t0:Int):Option (Ctl (Int) (Unit⊕Int)):= if (decide (t0<(x0.Vc.length:Int))) then ((Z5 x0.Vc t0).bind λv3=> (Z1d v3.Ze).bind λv4=> if (!v4) then (some (.done (.inr 12))) else (if (decide (x1>0)) then ((Z15 v3.Ze [108,97,110,103,47]).bind λv5=> if v5 then (some (.done (.inr 12))) else ((some (IntKind.wrap .i64 (t0+1))).bind λv6=> some (.next v6))) else ((some (IntKind.wrap .i64 (t0+1))).bind λv7=> some (.next v7)))) else (some (.done (.inl (()))))
def Zco (x0:Yi) (x1:Int):Option (Int):= (Z7 (Zb8 x0 x1) Z8 0).bind λq1=> match q1 with | .inl q0=>(some 0) | .inr y0=>(some y0)
def Zqh (x0:Yi) (x1:Int):Int→SL:= λt0=>⟨31,[(1,dI x1),(2,.ptr (Xl x0)),(5,dI t0)],[]⟩
def J73x1:JT (Unit⊕Int):= ju (je 0 λq0:Unit=>⟨31,[],[]⟩) (jr prog f73 R73)
theorem wl73x1 {x0 x1 t0 r Γ} (h:(Zb8 x0 x1) t0=some r):A prog Γ (lpC f73 21) [] (Rd (Zqh x0 x1) J73x1 r) ((Zqh x0 x1) t0).s:= go [] [rg 2 [(3,ln x0.Vc)]]<|br h (λh4 h=>bd h λv3 e3 h=>go [5] [rg 4 [(3,ix e3)]]<|po<|bd h λv4 e4 h=>pr 4 [(1,k (w53 e4))]<|sp h (λh5 h=>pr 7 (gA h5 4 3 [(9,gs0 h5),(10,py h5)])<|pe<|goN [] []<|bT rfl<|go [] []<|dn h (i2 iR)) λh5 h=> pr 3 (gC h5 4 3 [])<|sp h (λh6 h=>bd h λv5 e5 h=>pr 4 [(7,gw h6 g0),(8,gw h6 (k (w78 e5))),(9,gw h5 (py h6)),(10,pn h5)]<|pe<|goN [] []<|br h (λh7 h=>go [] []<|dn h (i2 iR)) λh7 h=> bd h λv6 e6 h=>go [] [rg 3 [(1,n e6)]]<|nx h) λh6 h=> pr 4 (gB h6 7 2 [(9,gw h5 (pn h6)),(10,pn h5)])<|pe<|goN [] []<|bF rfl<|bd h λv7 e7 h=>go [] [rg 3 [(1,n e7)]]<|nx h) λh4 h=> go [] []<|dn h (i1 iE)
theorem w73 {x0 x1 r} (h:Zco x0 x1=some r):Zb prog 73 [.agg (Xl x0),dI x1] (R73 r):= cs f73<|go [] [rg 0 [(0,bo)]]<|bd h λq1 e8 h=>lp e8 wl73x1<|match q1,h with | .inl q0,h=>j1<|(qe<|goN [] []<|rt h) | .inr y0,h=>j2<|(qr h)
def R74 (y0:Bool):D:= .bool y0
def Zch (t0:Int) (x0:Yi) (t2:Int):Option (Ctl (Int) (Unit⊕Bool)):= if (decide (t2<t0)) then ((Z5 x0.Vc t0).bind λv2=> (Z5 x0.Vc t2).bind λv3=> if (v2.Ze==v3.Ze) then (some (.done (.inr true))) else ((some (IntKind.wrap .i64 (t2+1))).bind λv4=> some (.next v4))) else (some (.done (.inl (()))))
def Zat (x0:Yi) (t0:Int):Option (Ctl (Int) (Unit⊕Bool)):= if (decide (t0<(x0.Vc.length:Int))) then ((Z7 (Zch t0 x0) Z8 0).bind λq3=> match q3 with | .inl q2=>((some (IntKind.wrap .i64 (t0+1))).bind λv5=> some (.next v5)) | .inr y1=>(some (.done (.inr y1)))) else (some (.done (.inl (()))))
def Zfr (x0:Yi):Option (Bool):= (Z7 (Zat x0) Z8 0).bind λq5=> match q5 with | .inl q4=>(some false) | .inr y2=>(some y2)
def Zpy (t0:Int) (x0:Yi):Int→SL:= λt2=>⟨30,[(1,.ptr (Xl x0)),(3,dI t0),(4,dI t2)],[]⟩
def J74x2 (t0:Int) (x0:Yi):JT (Unit⊕Bool):= ju (je 2 λq2:Unit=>⟨30,[(1,.ptr (Xl x0)),(3,dI t0)],[]⟩) (jr prog f74 R74)
theorem wl74x2 {t0 x0 t2 r Γ} (h:(Zch t0 x0) t2=some r):A prog Γ (lpC f74 1317) [] (Rd (Zpy t0 x0) (J74x2 t0 x0) r) ((Zpy t0 x0) t2).s:= go [] []<|br h (λh4 h=>bd h λv2 e3 h=>bd h λv3 e4 h=>go [] [rg 7 [(3,ix e3),(9,ix e4)]]<|br h (λh5 h=>go [] []<|dn h (i2 iR)) λh5 h=> bd h λv4 e5 h=>go [] [rg 6 [(1,n e5)]]<|nx h) λh4 h=> go [] []<|dn h (i1 iE)
def Zpd (x0:Yi):Int→SL:= λt0=>⟨30,[(1,.ptr (Xl x0)),(3,dI t0)],[]⟩
def J74x1:JT (Unit⊕Bool):= ju (je 0 λq4:Unit=>⟨30,[],[]⟩) (jr prog f74 R74)
theorem wl74x1 {x0 t0 r Γ} (h:(Zat x0) t0=some r):A prog Γ (lpC f74 21) [] (Rd (Zpd x0) J74x1 r) ((Zpd x0) t0).s:= go [] [rg 2 [(3,ln x0.Vc)]]<|br h (λh1 h=>go [] []<|bd h λq3 e6 h=>lp e6 wl74x2<|match q3,h with | .inl q2,h=>j1<|(qe<|bd h λv5 e7 h=>goN [] [rg 3 [(1,n e7)]]<|nx h) | .inr y1,h=>j2<|(ql h λ_ _ p=>⟨(iS p).1,i2 ((iS p).2)⟩)) λh1 h=> go [] []<|dn h (i1 iE)
theorem w74 {x0 r} (h:Zfr x0=some r):Zb prog 74 [.agg (Xl x0)] (R74 r):= cs f74<|go [] [rg 0 [(0,bo)]]<|bd h λq5 e8 h=>lp e8 wl74x1<|match q5,h with | .inl q4,h=>j1<|(qe<|goN [] []<|rt h) | .inr y2,h=>j2<|(qr h)
def R52 (y0:Int):D:= .int .i64 y0
def Zf0 (x0:List Yi) (t0:Int):Option (Ctl (Int) (Unit⊕Int)):= if (decide (t0<(x0.length:Int))) then ((Z5 x0 t0).bind λv2=> if (decide ((v2.Wl.length:Int)>8)) then (some (.done (.inr 5))) else ((Z5 x0 t0).bind λv3=> if (decide ((v3.Vc.length:Int)>64)) then (some (.done (.inr 5))) else ((some (IntKind.wrap .i64 (t0+1))).bind λv4=> some (.next v4)))) else (some (.done (.inl (()))))
def Za0 (t1:Int) (x0:List Yi) (t3:Int):Option (Ctl (Int) (Unit⊕Int)):= (Z5 x0 t1).bind λv21=> if (decide (t3<(v21.Wl.length:Int))) then ((Z5 x0 t1).bind λv22=> (Z5 v22.Wl t3).bind λv23=> if (decide (v23.f_To<0)) then (some (.done (.inr 2))) else ((Z5 x0 t1).bind λv24=> (Z5 v24.Wl t3).bind λv25=> if (decide (v25.f_To≥t1)) then (some (.done (.inr 2))) else ((some (IntKind.wrap .i64 (t3+1))).bind λv26=> some (.next v26)))) else (some (.done (.inl (()))))
def Za7 (x0:List Yi) (t1:Int):Option (Ctl (Int) (Unit⊕Int)):= if (decide (t1<(x0.length:Int))) then ((Z7 (Za0 t1 x0) Z8 0).bind λq5=> match q5 with | .inl q4=>((some (IntKind.wrap .i64 (t1+1))).bind λv27=> some (.next v27)) | .inr y1=>(some (.done (.inr y1)))) else (some (.done (.inl (()))))
def Zcz (x0:List Yi) (t4:Int):Option (Ctl (Int) (Unit⊕Int)):= if (decide (t4<(x0.length:Int))) then ((Z5 x0 t4).bind λv30=> (Zco v30 t4).bind λv31=> if (v31 !=0) then (some (.done (.inr v31))) else ((some (IntKind.wrap .i64 (t4+1))).bind λv32=> some (.next v32))) else (some (.done (.inl (()))))
def Zdg (x0:List Yi) (t5:Int):Option (Ctl (Int) (Unit⊕Int)):= if (decide (t5<(x0.length:Int))) then ((Z5 x0 t5).bind λv35=> (Zfr v35).bind λv36=> if v36 then (some (.done (.inr 6))) else ((some (IntKind.wrap .i64 (t5+1))).bind λv37=> some (.next v37))) else (some (.done (.inl (()))))
def j52x1 (x0:List Yi):Option (Int):= (Z7 (Zf0 x0) Z8 0).bind λq1=> match q1 with | .inl q0=>((Z7 (Za7 x0) Z8 0).bind λq7=> match q7 with | .inl q6=>((Z7 (Zcz x0) Z8 0).bind λq9=> match q9 with | .inl q8=>((Z7 (Zdg x0) Z8 0).bind λq11=> match q11 with | .inl q10=>(some 0) | .inr y2=>(some y2)) | .inr y3=>(some y3)) | .inr y4=>(some y4)) | .inr y5=>(some y5)
def Zee (x0:List Yi):Option (Int):= if ((x0.length:Int)==0) then (some 5) else (if (decide ((x0.length:Int)>8)) then (some 5) else ((j52x1 x0)))
def Zpe (x0:List Yi):Int→SL:= λt0=>⟨104,[(0,.sl false (x0.map Xl)),(3,dI t0)],[]⟩
def J52x1 (x0:List Yi):JT (Unit⊕Int):= ju (je 0 λq0:Unit=>⟨104,[(0,.sl false (x0.map Xl))],[]⟩) (jr prog f52 R52)
theorem wl52x1 {x0 t0 r Γ} (h:(Zf0 x0) t0=some r):A prog Γ (lpC f52 43) [] (Rd (Zpe x0) (J52x1 x0) r) ((Zpe x0) t0).s:= go [] [rg 4 [(2,ln x0)]]<|br h (λh5 h=>bd h λv2 e2 h=>sp h (λh6 h=>go [] [rg 6 [(2,ix e2),(5,ln v2.Wl),(6,kb h6)]]<|bT rfl<|go [] []<|dn h (i2 iR)) λh6 h=> bd h λv3 e3 h=>go [] [rg 6 [(2,ix e2),(5,ln v2.Wl),(6,kb h6),(10,ix e3),(13,ln v3.Vc)]]<|br h (λh7 h=>go [] []<|dn h (i2 iR)) λh7 h=> bd h λv4 e4 h=>go [] [rg 5 [(1,n e4)]]<|nx h) λh5 h=> go [] []<|dn h (i1 iE)
def Zmb (t1:Int) (x0:List Yi):Int→SL:= λt3=>⟨104,[(0,.sl false (x0.map Xl)),(4,dI t1),(5,dI t3)],[]⟩
def J52x3 (t1:Int) (x0:List Yi):JT (Unit⊕Int):= ju (je 4 λq4:Unit=>⟨104,[(0,.sl false (x0.map Xl)),(4,dI t1)],[]⟩) (jr prog f52 R52)
theorem wl52x3 {t1 x0 t3 r Γ} (h:(Za0 t1 x0) t3=some r):A prog Γ (lpC f52 5271) [] (Rd (Zmb t1 x0) (J52x3 t1 x0) r) ((Zmb t1 x0) t3).s:= bd h λv21 e23 h=>go [] [rg 12 [(3,ix e23),(6,ln v21.Wl)]]<|br h (λh19 h=>bd h λv22 e24 h=>bd h λv23 e25 h=>sp h (λh20 h=>go [] [rg 14 [(2,ix e24),(6,ix e25),(9,kb h20)]]<|bT rfl<|go [] []<|dn h (i2 iR)) λh20 h=> bd h λv24 e26 h=>bd h λv25 e27 h=>go [] [rg 14 [(2,ix e24),(6,ix e25),(9,kb h20),(13,ix e26),(17,ix e27)]]<|br h (λh21 h=>go [] []<|dn h (i2 iR)) λh21 h=> bd h λv26 e28 h=>go [] [rg 13 [(1,n e28)]]<|nx h) λh19 h=> go [] []<|dn h (i1 iE)
def Zu0 (x0:List Yi):Int→SL:= λt1=>⟨104,[(0,.sl false (x0.map Xl)),(4,dI t1)],[]⟩
def J52x2 (x0:List Yi):JT (Unit⊕Int):= ju (je 2 λq6:Unit=>⟨104,[(0,.sl false (x0.map Xl))],[]⟩) (jr prog f52 R52)
theorem wl52x2 {x0 t1 r Γ} (h:(Za7 x0) t1=some r):A prog Γ (lpC f52 87) [] (Rd (Zu0 x0) (J52x2 x0) r) ((Zu0 x0) t1).s:= go [] [rg 9 [(2,ln x0)]]<|br h (λh15 h=>go [] []<|bd h λq5 e29 h=>lp e29 wl52x3<|match q5,h with | .inl q4,h=>j1<|(qe<|bd h λv27 e30 h=>goN [] [rg 10 [(1,n e30)]]<|nx h) | .inr y1,h=>j2<|(ql h λ_ _ p=>⟨(iS p).1,i2 ((iS p).2)⟩)) λh15 h=> go [] []<|dn h (i1 iE)
def Zn0 (x0:List Yi):Int→SL:= λt4=>⟨104,[(0,.sl false (x0.map Xl)),(6,dI t4)],[]⟩
def J52x4 (x0:List Yi):JT (Unit⊕Int):= ju (je 6 λq8:Unit=>⟨104,[(0,.sl false (x0.map Xl))],[]⟩) (jr prog f52 R52)
theorem wl52x4 {x0 t4 r Γ} (h:(Zcz x0) t4=some r):A prog Γ (lpC f52 175) [] (Rd (Zn0 x0) (J52x4 x0) r) ((Zn0 x0) t4).s:= go [] [rg 17 [(2,ln x0)]]<|br h (λh24 h=>bd h λv30 e34 h=>bd h λv31 e35 h=>go [] [rg 19 [(2,ix e34),(5,k (w73 e35))]]<|br h (λh25 h=>go [] []<|dn h (i2 iR)) λh25 h=> bd h λv32 e36 h=>go [] [rg 18 [(1,n e36)]]<|nx h) λh24 h=> go [] []<|dn h (i1 iE)
def Zto (x0:List Yi):Int→SL:= λt5=>⟨104,[(0,.sl false (x0.map Xl)),(8,dI t5)],[]⟩
def J52x5:JT (Unit⊕Int):= ju (je 8 λq10:Unit=>⟨104,[],[]⟩) (jr prog f52 R52)
theorem wl52x5 {x0 t5 r Γ} (h:(Zdg x0) t5=some r):A prog Γ (lpC f52 351) [] (Rd (Zto x0) J52x5 r) ((Zto x0) t5).s:= go [] [rg 23 [(2,ln x0)]]<|br h (λh28 h=>bd h λv35 e40 h=>bd h λv36 e41 h=>go [] [rg 25 [(2,ix e40),(4,k (w74 e41))]]<|br h (λh29 h=>go [] []<|dn h (i2 iR)) λh29 h=> bd h λv37 e42 h=>go [] [rg 24 [(1,n e42)]]<|nx h) λh28 h=> go [] []<|dn h (i1 iE)
theorem wj52x1 {x0 r Γ} (h:(j52x1 x0)=some r):Jn prog f52 Γ (Den.Ends prog f52 (R52 r)) 19 ⟨104,[(0,.sl false (x0.map Xl))],[]⟩:= so<|go [] []<|bd h λq1 e5 h=>lp e5 wl52x1<|match q1,h with | .inl q0,h=>j1<|(qe<|goN [] []<|bd h λq7 e31 h=>lp e31 wl52x2<|match q7,h with | .inl q6,h=>j1<|(qe<|goN [] []<|bd h λq9 e37 h=>lp e37 wl52x4<|match q9,h with | .inl q8,h=>j1<|(qe<|goN [] []<|bd h λq11 e43 h=>lp e43 wl52x5<|match q11,h with | .inl q10,h=>j1<|(qe<|goN [] []<|rt h) | .inr y2,h=>j2<|(qr h)) | .inr y3,h=>j2<|(qr h)) | .inr y4,h=>j2<|(qr h)) | .inr y5,h=>j2<|(qr h)
theorem w52 {x0 r} (h:Zee x0=some r):Zb prog 52 [.sl false (x0.map Xl)] (R52 r):= cs f52<|sp h (λh0 h=>go [] [rg 1 [(1,ln x0),(2,kb h0)]]<|bT rfl<|go [] []<|rt h) λh0 h=> go [] [rg 1 [(1,ln x0),(2,kb h0),(5,ln x0)]]<|br h (λh1 h=>go [] []<|rt h) λh1 h=> go [3] []<|jn (wj52x1 h)
def R54 (y0:Bool):D:= .bool y0
def Zg3 (v0:Xn) (x0:Zj) (x1 t0:Int):Option (Ctl (Int) (Unit⊕Bool)):= if (decide (t0<x1)) then ((Z5 x0.X1 t0).bind λv4=> if (v4.Xj==v0.Xj) then ((Z5 x0.X1 t0).bind λv5=> if (v5.Ze==v0.Ze) then (some (.done (.inr false))) else ((some (IntKind.wrap .i64 (t0+1))).bind λv6=> some (.next v6))) else ((some (IntKind.wrap .i64 (t0+1))).bind λv7=> some (.next v7))) else (some (.done (.inl (()))))
def j54x1 (v0:Xn) (x0:Zj) (x1:Int):Option (Bool):= (Z7 (Zg3 v0 x0 x1) Z8 0).bind λq1=> match q1 with | .inl q0=>(some true) | .inr y0=>(some y0)
def Za4 (x0:Zj) (x1:Int):Option (Bool):= (Z5 x0.X1 x1).bind λv0=> if (decide (v0.Xj<0)) then (some false) else (if (decide (v0.Xj≥(x0.X3.length:Int))) then (some false) else (if (decide (v0.Zq<0)) then (some false) else (if (decide (v0.Zq≥(x0.Zy.length:Int))) then (some false) else ((Z5 x0.Zy v0.Zq).bind λv1=> if (!(v1.Xg.Ze==v0.Ze)) then (some false) else ((j54x1 v0 x0 x1))))))
def Zuw (v0:Xn) (x0:Zj) (x1:Int):Int→SL:= λt0=>⟨74,[(1,dI x1),(2,.ptr (Ys x0)),(5,.lptr 5 0 0),(6,dI t0)],[(5,{ sz:=3,rows:=[Q6 v0],frz:=0,pure:=false })]⟩
def J54x1:JT (Unit⊕Bool):= ju (je 0 λq0:Unit=>⟨74,[],[]⟩) (jr prog f54 R54)
theorem wl54x1 {v0 x0 x1 t0 r Γ} (h:(Zg3 v0 x0 x1) t0=some r):A prog Γ (lpC f54 87) [] (Rd (Zuw v0 x0 x1) J54x1 r) ((Zuw v0 x0 x1) t0).s:= go [] []<|br h (λh8 h=>bd h λv4 e4 h=>sp h (λh9 h=>bd h λv5 e5 h=>go [] [rg 7 [(3,ix e4),(8,kb h9),(13,ix e5)]]<|br h (λh10 h=>go [] []<|dn h (i2 iR)) λh10 h=> bd h λv6 e6 h=>go [] [rg 6 [(1,n e6)]]<|nx h) λh9 h=> go [] [rg 7 [(3,ix e4),(8,kb h9)]]<|bF rfl<|bd h λv7 e7 h=>go [] [rg 6 [(1,n e7)]]<|nx h) λh8 h=> go [] []<|dn h (i1 iE)
theorem wj54x1 {v0 x0 x1 r Γ} (h:(j54x1 v0 x0 x1)=some r):Jn prog f54 Γ (Den.Ends prog f54 (R54 r)) 39 ⟨74,[(1,dI x1),(2,.ptr (Ys x0)),(5,.lptr 5 0 0)],[(5,{ sz:=3,rows:=[Q6 v0],frz:=0,pure:=false })]⟩:= so<|go [] []<|bd h λq1 e8 h=>lp e8 wl54x1<|match q1,h with | .inl q0,h=>j1<|(qe<|goN [] []<|rt h) | .inr y0,h=>j2<|(qr h)
theorem w54 {x0 x1 r} (h:Za4 x0 x1=some r):Zb prog 54 [.agg (Ys x0),dI x1] (R54 r):= cs f54<|bd h λv0 e0 h=>sp h (λh0 h=>go [] [rg 0 [(0,bo)],rg 1 [(3,ix e0)],rg 2 [(2,kb h0)]]<|bT rfl<|go [] []<|rt h) λh0 h=> sp h (λh1 h=>go [] [rg 0 [(0,bo)],rg 1 [(3,ix e0)],rg 2 [(2,kb h0),(8,ln x0.X3),(9,kb h1)]]<|bT rfl<|go [] []<|rt h) λh1 h=> sp h (λh2 h=>go [] [rg 0 [(0,bo)],rg 1 [(3,ix e0)],rg 2 [(2,kb h0),(8,ln x0.X3),(9,kb h1),(14,kb h2)]]<|bT rfl<|go [] []<|rt h) λh2 h=> sp h (λh3 h=>go [] [rg 0 [(0,bo)],rg 1 [(3,ix e0)],rg 2 [(2,kb h0),(8,ln x0.X3),(9,kb h1),(14,kb h2),(21,ln x0.Zy),(22,kb h3)]]<|bT rfl<|go [] []<|rt h) λh3 h=> bd h λv1 e1 h=>go [] [rg 0 [(0,bo)],rg 1 [(3,ix e0)],rg 2 [(2,kb h0),(8,ln x0.X3),(9,kb h1),(14,kb h2),(21,ln x0.Zy),(22,kb h3),(29,ix e1)]]<|br h (λh4 h=>go [] []<|rt h) λh4 h=> go [4] []<|jn (wj54x1 h)
def R76 (y0:(List Bool)):D:= .sl false (y0.map Zk)
def Z9j (t2:Int×(List Bool)) (v33:Qj):Option (Ctl (Int×(List Bool)) (((List Bool)))):= (Xq v33.f_A t2.2.length).bind λv40=> (t2.2[v40]?).bind λv41=> (Xq v33.f_B (t2.2.set v40 true).length).bind λv42=> ((t2.2.set v40 true)[v42]?).bind λv43=> (some (IntKind.wrap .i64 (t2.1+1))).bind λv44=> some (.next (v44,((t2.2.set v40 true).set v42 true)))
def Zd1 (x0:Zj) (x1:List UInt8) (t2:Int×(List Bool)):Option (Ctl (Int×(List Bool)) (((List Bool)))):= if (decide (t2.1<(x0.Qq.length:Int))) then ((Z5 x0.Qq t2.1).bind λv33=> if (v33.Ze==x1) then ((Xq v33.f_A t2.2.length).bind λv34=> (t2.2[v34]?).bind λv35=> if v35 then ((Z9j t2 v33)) else ((Xq v33.f_B t2.2.length).bind λv36=> (t2.2[v36]?).bind λv37=> if v37 then ((Z9j t2 v33)) else ((some (IntKind.wrap .i64 (t2.1+1))).bind λv38=> some (.next (v38,t2.2))))) else ((some (IntKind.wrap .i64 (t2.1+1))).bind λv39=> some (.next (v39,t2.2)))) else (some (.done (t2.2)))
def Zf3 (x0:Zj) (x1:List UInt8) (t0:Int×(List Bool)):Option (Ctl (Int×(List Bool)) (((List Bool)))):= if (decide (t0.1<(x0.X3.length:Int))) then ((Z7 (Zd1 x0 x1) Z8 (0,t0.2)).bind λq2=> (some (IntKind.wrap .i64 (t0.1+1))).bind λv45=> some (.next (v45,q2))) else (some (.done (t0.2)))
def Zak (x0:Zj) (x1:List UInt8) (x2:Int):Option ((List Bool)):= (W1 1 (x0.X3.length:Int) (x0.X3.length:Int)).bind λv0=> (Xq x2 (List.replicate (x0.X3.length:Int).toNat false).length).bind λv1=> ((List.replicate (x0.X3.length:Int).toNat false)[v1]?).bind λv2=> (Z7 (Zf3 x0 x1) Z8 (0,((List.replicate (x0.X3.length:Int).toNat false).set v1 true))).bind λq4=> some q4
def Zhk (t0:Int×(List Bool)) (x0:Zj) (x1:List UInt8):(Int×(List Bool))→SL:= λt2=>⟨64,[(1,.str x1),(3,.ptr (Ys x0)),(7,.lsl 7 0 ((t2.2.map Zk).length)),(8,dI t0.1),(9,dI t2.1)],[(7,{ sz:=1,rows:=(t2.2.map Zk),frz:=0,pure:=true })]⟩
def J76x2 (t0:Int×(List Bool)) (x0:Zj) (x1:List UInt8):JT (((List Bool))):= je 2 λq2:(List Bool)=>⟨64,[(1,.str x1),(3,.ptr (Ys x0)),(7,.lsl 7 0 ((q2.map Zk).length)),(8,dI t0.1)],[(7,{ sz:=1,rows:=(q2.map Zk),frz:=0,pure:=true })]⟩
theorem Zu5 (t0:Int×(List Bool)) (x0:Zj) (x1:List UInt8) {t2 v33 r Γ} (h:(Z9j t2 v33)=some r):Jn prog f76 Γ (Rd (Zhk t0 x0 x1) (J76x2 t0 x0 x1) r) 1254551 ⟨64,[(1,.str x1),(3,.ptr (Ys x0)),(7,.lsl 7 0 ((t2.2.map Zk).length)),(8,dI t0.1),(9,dI t2.1),(10,.lptr 10 0 0)],[(7,{ sz:=1,rows:=(t2.2.map Zk),frz:=0,pure:=true }),(10,{ sz:=3,rows:=[Qi v33],frz:=0,pure:=false })]⟩:= so<|bd h λv40 e41 h=>bd h λv41 e42 h=>go [12] [rg 11 [(3,ia 7 e41),(4,st e42 0 [.bool true] true)]]<|nm (congrArg (λnn:Nat=>(⟨64,[(1,.str x1),(3,.ptr (Ys x0)),(7,.lsl 7 0 nn),(8,dI t0.1),(9,dI t2.1),(10,.lptr 10 0 0)],[(7,{ sz:=1,rows:=((t2.2.set v40 true).map Zk),frz:=0,pure:=true }),(10,{ sz:=3,rows:=[Qi v33],frz:=0,pure:=false })]⟩:SL)) (by simp only[List.length_map,List.length_set]:(t2.2.map Zk).length=((t2.2.set v40 true).map Zk).length))<|so<|bd h λv42 e43 h=>bd h λv43 e44 h=>go [8] [rg 12 [(3,ia 7 e43),(4,st e44 0 [.bool true] true)]]<|nm (congrArg (λnn:Nat=>(⟨64,[(1,.str x1),(3,.ptr (Ys x0)),(7,.lsl 7 0 nn),(8,dI t0.1),(9,dI t2.1)],[(7,{ sz:=1,rows:=(((t2.2.set v40 true).set v42 true).map Zk),frz:=0,pure:=true })]⟩:SL)) (by simp only[List.length_map,List.length_set]:((t2.2.set v40 true).map Zk).length=(((t2.2.set v40 true).set v42 true).map Zk).length))<|so<|bd h λv44 e45 h=>go [] [rg 8 [(1,n e45)]]<|nx h
theorem wl76x2 (t0:Int×(List Bool)) {x0 x1 t2 r Γ} (h:(Zd1 x0 x1) t2=some r):A prog Γ (lpC f76 5271) [] (Rd (Zhk t0 x0 x1) (J76x2 t0 x0 x1) r) ((Zhk t0 x0 x1) t2).s:= go [] [rg 7 [(3,ln x0.Qq)]]<|br h (λh14 h=>bd h λv33 e34 h=>go [10] [rg 9 [(3,ix e34)]]<|po<|pr 5 []<|sp h (λh15 h=>bd h λv34 e35 h=>bd h λv35 e36 h=>pr 6 (gC h15 5 3 [(8,gw h15 (ia 7 e35)),(9,gw h15 (lb e36)),(10,gw h15 g0)])<|sp h (λh16 h=>pr 7 (gA h16 11 5 [(16,gw h15 (py h16)),(17,py h15)])<|pe<|goN [] []<|bT rfl<|go [11] []<|jn ((Zu5 t0 x0 x1) h)) λh16 h=> bd h λv36 e37 h=>bd h λv37 e38 h=>pr 7 (gC h16 11 3 [(14,gw h16 (ia 7 e37)),(15,gw h16 (lb e38)),(16,gw h15 (pn h16)),(17,py h15)])<|pe<|goN [] []<|br h (λh17 h=>go [11] []<|jn ((Zu5 t0 x0 x1) h)) λh17 h=> bd h λv38 e39 h=>go [] [rg 8 [(1,n e39)]]<|nx h) λh15 h=> pr 13 (gB h15 5 6 [(16,gs1 h15),(17,pn h15)])<|pe<|goN [] []<|bF rfl<|bd h λv39 e40 h=>go [] [rg 8 [(1,n e40)]]<|nx h) λh14 h=> go [] []<|dn h (iE)
def Zmf (x0:Zj) (x1:List UInt8):(Int×(List Bool))→SL:= λt0=>⟨64,[(1,.str x1),(3,.ptr (Ys x0)),(7,.lsl 7 0 ((t0.2.map Zk).length)),(8,dI t0.1)],[(7,{ sz:=1,rows:=(t0.2.map Zk),frz:=0,pure:=true })]⟩
def J76x1:JT (((List Bool))):= je 0 λq4:(List Bool)=>⟨64,[(7,.lsl 7 0 ((q4.map Zk).length))],[(7,{ sz:=1,rows:=(q4.map Zk),frz:=0,pure:=true })]⟩
theorem wl76x1 {x0 x1 t0 r Γ} (h:(Zf3 x0 x1) t0=some r):A prog Γ (lpC f76 87) [] (Rd (Zmf x0 x1) J76x1 r) ((Zmf x0 x1) t0).s:= go [] [rg 4 [(3,ln x0.X3)]]<|br h (λh9 h=>go [] []<|bd h λq2 e46 h=>lp e46 (wl76x2 t0)<|qe<|bd h λv45 e47 h=>goN [] [rg 5 [(1,n e47)]]<|nx h) λh9 h=> go [] []<|dn h (iE)
theorem w76 {x0 x1 x2 r} (h:Zak x0 x1 x2=some r):Zb prog 76 [.agg (Ys x0),.str x1,dI x2] (R76 r):= cs f76<|bd h λv0 e0 h=>bd h λv1 e1 h=>bd h λv2 e2 h=>go [3] [rg 0 [(0,bo)],rg 1 [(2,ln x0.X3),(3,mk false e0)],rg 2 [(2,ia 14 e1),(3,st e2 0 [.bool true] true)]]<|nm (congrArg (λnn:Nat=>(⟨64,[(1,.str x1),(3,.ptr (Ys x0)),(7,.lsl 14 0 nn)],[(14,{ sz:=1,rows:=(((List.replicate (x0.X3.length:Int).toNat false).set v1 true).map Zk),frz:=0,pure:=true })]⟩:SL)) (by simp only[List.length_map,List.length_set]:((List.replicate (x0.X3.length:Int).toNat false).map Zk).length=(((List.replicate (x0.X3.length:Int).toNat false).set v1 true).map Zk).length))<|so<|go [] []<|bd h λq4 e48 h=>lp (ps:=[(14,7)]) e48 wl76x1<|qe<|goN [] []<|rtB h (rw_ q4) (a2 (rpI q4) trivial) (by simp only[rwE] <;> kernel_rfl)
def R55 (y0:Bool):D:= .bool y0
def Zdt (v0:Xn) (v1:(List Bool)) (x0:Zj) (x1 t0:Int):Option (Ctl (Int) (Unit⊕Bool)):= if (decide (t0<x1)) then ((Z5 x0.X1 t0).bind λv4=> if (v4.Ze==v0.Ze) then ((Z5 v1 v4.Xj).bind λv5=> if v5 then (if (v4.Zq !=v0.Zq) then (some (.done (.inr false))) else ((some (IntKind.wrap .i64 (t0+1))).bind λv6=> some (.next v6))) else ((some (IntKind.wrap .i64 (t0+1))).bind λv7=> some (.next v7))) else ((some (IntKind.wrap .i64 (t0+1))).bind λv8=> some (.next v8))) else (some (.done (.inl (()))))
def Zg0 (x0:Zj) (x1:Int):Option (Bool):= (Z5 x0.X1 x1).bind λv0=> (Zak x0 v0.Ze v0.Xj).bind λv1=> (Z7 (Zdt v0 v1 x0 x1) Z8 0).bind λq1=> match q1 with | .inl q0=>(some true) | .inr y0=>(some y0)
def Zt3 (v0:Xn) (v1:(List Bool)) (x0:Zj) (x1:Int):Int→SL:= λt0=>⟨49,[(1,dI x1),(2,.ptr (Ys x0)),(5,.lptr 5 0 0),(6,.sl false (v1.map Zk)),(7,dI t0)],[(5,{ sz:=3,rows:=[Q6 v0],frz:=0,pure:=false })]⟩
def J55x1:JT (Unit⊕Bool):= ju (je 0 λq0:Unit=>⟨49,[],[]⟩) (jr prog f55 R55)
theorem wl55x1 {v0 v1 x0 x1 t0 r Γ} (h:(Zdt v0 v1 x0 x1) t0=some r):A prog Γ (lpC f55 87) [] (Rd (Zt3 v0 v1 x0 x1) J55x1 r) ((Zt3 v0 v1 x0 x1) t0).s:= go [] []<|br h (λh4 h=>bd h λv4 e4 h=>go [7] [rg 6 [(3,ix e4)]]<|po<|pr 6 []<|sp h (λh5 h=>bd h λv5 e5 h=>pr 7 (gC h5 6 3 [(9,gw h5 (ix e5)),(10,gw h5 g0),(11,py h5)])<|sp h (λh6 h=>pr 6 (gC h6 13 5 [(18,py h6)])<|pe<|goN [] []<|br h (λh7 h=>go [] []<|dn h (i2 iR)) λh7 h=> bd h λv6 e6 h=>go [] [rg 5 [(1,n e6)]]<|nx h) λh6 h=> pr 6 (gB h6 13 5 [(18,pn h6)])<|pe<|goN [] []<|bF rfl<|bd h λv7 e7 h=>go [] [rg 5 [(1,n e7)]]<|nx h) λh5 h=> pr 13 (gB h5 6 5 [(11,pn h5)])<|pe<|goN [] []<|bF rfl<|bd h λv8 e8 h=>go [] [rg 5 [(1,n e8)]]<|nx h) λh4 h=> go [] []<|dn h (i1 iE)
theorem w55 {x0 x1 r} (h:Zg0 x0 x1=some r):Zb prog 55 [.agg (Ys x0),dI x1] (R55 r):= cs f55<|bd h λv0 e0 h=>bd h λv1 e1 h=>go [] [rg 0 [(0,bo)],rg 1 [(3,ix e0)],rg 2 [(5,k (w76 e1))]]<|bd h λq1 e9 h=>lp e9 wl55x1<|match q1,h with | .inl q0,h=>j1<|(qe<|goN [] []<|rt h) | .inr y0,h=>j2<|(qr h)
def R106 (y0:Bool):D:= .bool y0
def Zbx (x0:List Zp) (t0:Int):Option (Ctl (Int) (Unit⊕Bool)):= if (decide (t0<(x0.length:Int))) then ((Z5 x0 t0).bind λv1=> if (v1.Vg !=0) then (some (.done (.inr false))) else ((some (IntKind.wrap .i64 (t0+1))).bind λv2=> some (.next v2))) else (some (.done (.inl (()))))
def Z8c (x0:List Zp):Option (Bool):= (Z7 (Zbx x0) Z8 0).bind λq1=> match q1 with | .inl q0=>(some true) | .inr y0=>(some y0)
def Zr3 (x0:List Zp):Int→SL:= λt0=>⟨16,[(0,.sl false (x0.map Yw)),(3,dI t0)],[]⟩
def J106x1:JT (Unit⊕Bool):= ju (je 0 λq0:Unit=>⟨16,[],[]⟩) (jr prog f106 R106)
theorem wl106x1 {x0 t0 r Γ} (h:(Zbx x0) t0=some r):A prog Γ (lpC f106 21) [] (Rd (Zr3 x0) J106x1 r) ((Zr3 x0) t0).s:= go [] [rg 2 [(2,ln x0)]]<|br h (λh2 h=>bd h λv1 e1 h=>go [] [rg 4 [(2,ix e1)]]<|br h (λh3 h=>go [] []<|dn h (i2 iR)) λh3 h=> bd h λv2 e2 h=>go [] [rg 3 [(1,n e2)]]<|nx h) λh2 h=> go [] []<|dn h (i1 iE)
theorem w106 {x0 r} (h:Z8c x0=some r):Zb prog 106 [.sl false (x0.map Yw)] (R106 r):= cs f106<|go [] []<|bd h λq1 e3 h=>lp e3 wl106x1<|match q1,h with | .inl q0,h=>j1<|(qe<|goN [] []<|rt h) | .inr y0,h=>j2<|(qr h)
def R99 (y0:Bool):D:= .bool y0
def Zcd (t0 : Int) (v1:X6) (p1:Bool):Option (Ctl (Int) (Unit⊕Bool)):= if (!p1) then (if (v1.W7 !=8) then (if (v1.W7 !=0) then (some (.done (.inr false))) else (if (v1.f_N !=0) then (some (.done (.inr false))) else (if (!(v1.f_S==([]:List UInt8))) then (some (.done (.inr false))) else ((some (IntKind.wrap .i64 (t0+1))).bind λv2=> some (.next v2))))) else (if (v1.f_N !=0) then (some (.done (.inr false))) else (if (!(v1.f_S==([]:List UInt8))) then ((some (IntKind.wrap .i64 (t0+1))).bind λv3=> some (.next v3)) else ((some (IntKind.wrap .i64 (t0+1))).bind λv4=> some (.next v4))))) else (if (v1.f_N !=0) then (if (!(v1.f_S==([]:List UInt8))) then (if (v1.W7 !=8) then (some (.done (.inr false))) else ((some (IntKind.wrap .i64 (t0+1))).bind λv5=> some (.next v5))) else ((some (IntKind.wrap .i64 (t0+1))).bind λv6=> some (.next v6))) else (if (!(v1.f_S==([]:List UInt8))) then (if (v1.W7 !=8) then (some (.done (.inr false))) else ((some (IntKind.wrap .i64 (t0+1))).bind λv7=> some (.next v7))) else ((some (IntKind.wrap .i64 (t0+1))).bind λv8=> some (.next v8))))
def Zez (x0:Zu) (t0:Int):Option (Ctl (Int) (Unit⊕Bool)):= if (decide (t0<(x0.Yl.length:Int))) then ((Z5 x0.Yl t0).bind λv1=> if (v1.W7==3) then ((Zcd t0 v1) true) else ((Zcd t0 v1) (v1.W7==5))) else (some (.done (.inl (()))))
def Zd5 (v26:Xy) (t4:Int):Option (Ctl (Int) (Unit⊕Bool)):= if (decide (t4<(v26.Xz.Xo.length:Int))) then ((Z5 v26.Xz.Xo t4).bind λv32=> if (v32.Zq !=0) then (some (.done (.inr false))) else ((some (IntKind.wrap .i64 (t4+1))).bind λv33=> some (.next v33))) else (some (.done (.inl (()))))
def Zc9 (v26:Xy) (t5:Int):Option (Ctl (Int) (Unit⊕Bool)):= if (decide (t5<(v26.Xz.Yz.length:Int))) then ((Z5 v26.Xz.Yz t5).bind λv38=> (Z8c v38.Yy.Zs).bind λv39=> if (!v39) then (some (.done (.inr false))) else ((Z5 v26.Xz.Yz t5).bind λv40=> (Z8c v40.Yy.Zw).bind λv41=> if (!v41) then (some (.done (.inr false))) else ((some (IntKind.wrap .i64 (t5+1))).bind λv42=> some (.next v42)))) else (some (.done (.inl (()))))
def Zah (t1:Int) (v26:Xy):Option (Ctl (Int) (Unit⊕Bool)):= (Z7 (Zd5 v26) Z8 0).bind λq7=> match q7 with | .inl q6=>((Z7 (Zc9 v26) Z8 0).bind λq9=> match q9 with | .inl q8=>((some (IntKind.wrap .i64 (t1+1))).bind λv43=> some (.next v43)) | .inr y2=>(some (.done (.inr y2)))) | .inr y3=>(some (.done (.inr y3)))
def Zev (x0 : Zu) (t1:Int):Option (Ctl (Int) (Unit⊕Bool)):= if (decide (t1<(x0.Yo.length:Int))) then ((Z5 x0.Yo t1).bind λv26=> (Z5 x0.Yo t1).bind λv27=> if (!v27.Ja) then (if (v26.Xz.Zw !=0) then (some (.done (.inr false))) else (if (v26.Xz.Zs !=0) then (some (.done (.inr false))) else ((some (IntKind.wrap .i64 ((v26.Xz.Y3.length:Int)+(v26.Xz.Xo.length:Int)))).bind λv28=> (some (IntKind.wrap .i64 (v28+(v26.Xz.Yz.length:Int)))).bind λv29=> (some (IntKind.wrap .i64 (v29+(v26.Xz.X9.length:Int)))).bind λv30=> if (decide (v30>0)) then (some (.done (.inr false))) else ((Zah t1 v26))))) else ((Zah t1 v26))) else (some (.done (.inl (()))))
def Zdx (x0:Zu):Option (Bool):= (Z7 (Zez x0) Z8 0).bind λq1=> match q1 with | .inl q0=>((Z7 (Zev x0) Z8 0).bind λq11=> match q11 with | .inl q10=>(some true) | .inr y4=>(some y4)) | .inr y5=>(some y5)
def Zgk (x0:Zu):Int→SL:= λt0=>⟨150,[(1,.ptr (Qc x0)),(3,dI t0)],[]⟩
def J99x1 (x0:Zu):JT (Unit⊕Bool):= ju (je 0 λq0:Unit=>⟨150,[(1,.ptr (Qc x0))],[]⟩) (jr prog f99 R99)
theorem Zmk (x0:Zu) {t0 v1 p1 r Γ} (h:(Zcd t0 v1) p1=some r):Jn prog f99 Γ (Rd (Zgk x0) (J99x1 x0) r) 2853 ⟨150,[(1,.ptr (Qc x0)),(3,dI t0),(4,.lptr 4 0 0),(5,.bool p1)],[(4,{ sz:=6,rows:=[Wi v1],frz:=0,pure:=false })]⟩:= po <| pr 3 []<|sp h (λh16 h=>pr 5 (gC h16 3 3 [(6,py h16)])<|sp h (λh17 h=>pr 5 (gC h17 8 3 [(11,py h17)])<|sp h (λh18 h=>pr 18 (gA h18 13 4 [(19,gs0 h18),(20,py h18)])<|pe<|goN [] []<|bT rfl<|go [] []<|dn h (i2 iR)) λh18 h=> pr 4 (gC h18 13 4 [])<|sp h (λh19 h=>pr 14 (gC h19 17 2 ((19,gw h18 (py h19))::(20,pn h18)::gA h16 22 4 [(29,gs0 h16),(30,py h16)]))<|pe<|goN [] []<|bT rfl<|go [] []<|dn h (i2 iR)) λh19 h=> pr 9 (gB h19 17 2 [(19,gw h18 (pn h19)),(20,pn h18)])<|sp h (λh20 h=>pr 5 (gC h20 26 2 [(28,gw h20 (kb h17)),(29,py h20)])<|pe<|goN [] []<|bT rfl<|go [] []<|dn h (i2 iR)) λh20 h=> pr 5 (gB h20 26 3 [(29,pn h20)])<|pe<|goN [] []<|bF rfl<|bd h λv2 e2 h=>go [] [rg 3 [(1,n e2)]]<|nx h) λh17 h=> pr 9 (gB h17 8 3 [(11,pn h17)])<|sp h (λh21 h=>pr 14 (gC h21 17 2 ((19,py h21)::gA h16 22 4 [(29,gs0 h16),(30,py h16)]))<|pe<|goN [] []<|bT rfl<|go [] []<|dn h (i2 iR)) λh21 h=> pr 9 (gB h21 17 2 [(19,pn h21)])<|sp h (λh22 h=>pr 5 (gC h22 26 2 [(28,gw h22 (kb h17)),(29,py h22)])<|pe<|goN [] []<|bF rfl<|bd h λv3 e3 h=>go [] [rg 3 [(1,n e3)]]<|nx h) λh22 h=> pr 5 (gB h22 26 3 [(29,pn h22)])<|pe<|goN [] []<|bF rfl<|bd h λv4 e4 h=>go [] [rg 3 [(1,n e4)]]<|nx h) λh16 h=> pr 14 (gB h16 3 3 [(6,pn h16)])<|sp h (λh23 h=>pr 9 (gC h23 17 2 ((19,py h23)::gC h16 22 4 []))<|sp h (λh24 h=>pr 5 (gC h24 26 3 [(29,gw h16 (py h24)),(30,pn h16)])<|pe<|goN [] []<|br h (λh25 h=>go [] []<|dn h (i2 iR)) λh25 h=> bd h λv5 e5 h=>go [] [rg 3 [(1,n e5)]]<|nx h) λh24 h=> pr 5 (gB h24 26 3 [(29,gw h16 (pn h24)),(30,pn h16)])<|pe<|goN [] []<|bF rfl<|bd h λv6 e6 h=>go [] [rg 3 [(1,n e6)]]<|nx h) λh23 h=> pr 9 (gB h23 17 2 [(19,pn h23)])<|sp h (λh26 h=>pr 5 (gC h26 26 3 [(29,py h26)])<|pe<|goN [] []<|br h (λh27 h=>go [] []<|dn h (i2 iR)) λh27 h=> bd h λv7 e7 h=>go [] [rg 3 [(1,n e7)]]<|nx h) λh26 h=> pr 5 (gB h26 26 3 [(29,pn h26)])<|pe<|goN [] []<|bF rfl<|bd h λv8 e8 h=>go [] [rg 3 [(1,n e8)]]<|nx h
theorem wl99x1 {x0 t0 r Γ} (h:(Zez x0) t0=some r):A prog Γ (lpC f99 21) [] (Rd (Zgk x0) (J99x1 x0) r) ((Zgk x0) t0).s:= go [] [rg 2 [(3,ln x0.Yl)]]<|br h (λh14 h=>bd h λv1 e1 h=>sp h (λh15 h=>go [6] [rg 4 [(3,ix e1)],rg 5 [(2,kb h15)]]<|jn ((Zmk x0) h)) λh15 h=> go [6] [rg 4 [(3,ix e1)],rg 5 [(2,kb h15)]]<|jn ((Zmk x0) h)) λh14 h=> go [] []<|dn h (i1 iE)
def Zsv (t1:Int) (v26:Xy) (x0:Zu):Int→SL:= λt4=>⟨150,[(1,.ptr (Qc x0)),(6,dI t1),(7,.lptr 7 0 0),(8,dI t4)],[(7,{ sz:=6,rows:=[Yh v26.Xz],frz:=0,pure:=false })]⟩
def J99x3 (t1:Int) (v26:Xy) (x0:Zu):JT (Unit⊕Bool):= ju (je 4 λq6:Unit=>⟨150,[(1,.ptr (Qc x0)),(6,dI t1),(7,.lptr 7 0 0)],[(7,{ sz:=6,rows:=[Yh v26.Xz],frz:=0,pure:=false })]⟩) (jr prog f99 R99)
theorem wl99x3 (t1:Int) (x0:Zu) {v26 t4 r Γ} (h:(Zd5 v26) t4=some r):A prog Γ (lpC f99 22091) [] (Rd (Zsv t1 v26 x0) (J99x3 t1 v26 x0) r) ((Zsv t1 v26 x0) t4).s:= go [] [rg 15 [(3,ln v26.Xz.Xo)]]<|br h (λh50 h=>bd h λv32 e35 h=>go [] [rg 17 [(3,ix e35)]]<|br h (λh51 h=>go [] []<|dn h (i2 iR)) λh51 h=> bd h λv33 e36 h=>go [] [rg 16 [(1,n e36)]]<|nx h) λh50 h=> go [] []<|dn h (i1 iE)
def Zq9 (t1:Int) (v26:Xy) (x0:Zu):Int→SL:= λt5=>⟨150,[(1,.ptr (Qc x0)),(6,dI t1),(7,.lptr 7 0 0),(9,dI t5)],[(7,{ sz:=6,rows:=[Yh v26.Xz],frz:=0,pure:=false })]⟩
def J99x4 (t1:Int) (x0:Zu):JT (Unit⊕Bool):= ju (je 6 λq8:Unit=>⟨150,[(1,.ptr (Qc x0)),(6,dI t1)],[]⟩) (jr prog f99 R99)
theorem wl99x4 (t1:Int) (x0:Zu) {v26 t5 r Γ} (h:(Zc9 v26) t5=some r):A prog Γ (lpC f99 24139) [] (Rd (Zq9 t1 v26 x0) (J99x4 t1 x0) r) ((Zq9 t1 v26 x0) t5).s:= go [] [rg 20 [(3,ln v26.Xz.Yz)]]<|br h (λh55 h=>bd h λv38 e42 h=>bd h λv39 e43 h=>sp h (λh56 h=>go [] [rg 22 ((3,ix e42)::(7,k (w106 e43))::gA h56 10 9 [(19,py h56)])]<|bT rfl<|go [] []<|dn h (i2 iR)) λh56 h=> bd h λv40 e44 h=>bd h λv41 e45 h=>go [] [rg 22 ((3,ix e42)::(7,k (w106 e43))::gC h56 10 3 ((13,gw h56 (ix e44))::gC h56 14 3 [(17,gw h56 (k (w106 e45))),(18,gw h56 g0),(19,pn h56)]))]<|br h (λh57 h=>go [] []<|dn h (i2 iR)) λh57 h=> bd h λv42 e46 h=>go [] [rg 21 [(1,n e46)]]<|nx h) λh55 h=> go [] []<|dn h (i1 iE)
def Zht (x0:Zu):Int→SL:= λt1=>⟨150,[(1,.ptr (Qc x0)),(6,dI t1)],[]⟩
def J99x2:JT (Unit⊕Bool):= ju (je 2 λq10:Unit=>⟨150,[],[]⟩) (jr prog f99 R99)
theorem Zqs (x0:Zu) {t1 v26 r Γ} (h:(Zah t1 v26)=some r):Jn prog f99 Γ (Rd (Zht x0) J99x2 r) 9803 ⟨150,[(1,.ptr (Qc x0)),(6,dI t1),(7,.lptr 7 0 0)],[(7,{ sz:=6,rows:=[Yh v26.Xz],frz:=0,pure:=false })]⟩:= so<|go [] []<|bd h λq7 e37 h=>lp e37 (wl99x3 t1 x0)<|match q7,h with | .inl q6,h=>j1<|(qe<|goN [] []<|bd h λq9 e47 h=>lp e47 (wl99x4 t1 x0)<|match q9,h with | .inl q8,h=>j1<|(qe<|bd h λv43 e48 h=>goN [] [rg 10 [(1,n e48)]]<|nx h) | .inr y2,h=>j2<|(ql h λ_ _ p=>⟨(iS p).1,i2 ((iS p).2)⟩)) | .inr y3,h=>j2<|(ql h λ_ _ p=>⟨(iS p).1,i2 ((iS p).2)⟩)
theorem wl99x2 {x0 t1 r Γ} (h:(Zev x0) t1=some r):A prog Γ (lpC f99 43) [] (Rd (Zht x0) J99x2 r) ((Zht x0) t1).s:= go [] [rg 9 [(3,ln x0.Yo)]]<|br h (λh43 h=>bd h λv26 e29 h=>go [12] [rg 11 [(3,ix e29)]]<|po<|bd h λv27 e30 h=>pr 8 [(3,ix e30)]<|sp h (λh44 h=>pr 4 (gC h44 8 4 [])<|sp h (λh45 h=>pr 23 (gA h45 12 3 [(15,gw h44 (py h45)),(16,gw h44 g0),(33,gw h44 g0),(34,py h44)])<|pe<|goN [] []<|bT rfl<|go [] []<|dn h (i2 iR)) λh45 h=> pr 5 (gC h45 12 3 [(15,gw h44 (pn h45)),(16,gw h44 g0)])<|sp h (λh46 h=>pr 18 (gA h46 17 16 [(33,gw h44 (py h46)),(34,py h44)])<|pe<|goN [] []<|bT rfl<|go [] []<|dn h (i2 iR)) λh46 h=> bd h λv28 e31 h=>bd h λv29 e32 h=>bd h λv30 e33 h=>pr 18 (gC h46 17 2 ((19,gw h46 (ln v26.Xz.Y3))::gC h46 20 2 ((22,gw h46 (ln v26.Xz.Xo))::(23,gw h46 (n e31))::gC h46 24 2 ((26,gw h46 (ln v26.Xz.Yz))::(27,gw h46 (n e32))::gC h46 28 2 [(30,gw h46 (ln v26.Xz.X9)),(31,gw h46 (n e33)),(32,gw h46 g0),(33,gw h44 (pn h46)),(34,py h44)]))))<|pe<|goN [] []<|br h (λh47 h=>go [] []<|dn h (i2 iR)) λh47 h=> go [14] []<|jn ((Zqs x0) h)) λh44 h=> pr 27 (gB h44 8 4 (gB h44 15 2 [(33,gs1 h44),(34,pn h44)]))<|pe<|goN [] []<|bF rfl<|go [14] []<|jn ((Zqs x0) h)) λh43 h=> go [] []<|dn h (i1 iE)
theorem w99 {x0 r} (h:Zdx x0=some r):Zb prog 99 [.agg (Qc x0)] (R99 r):= cs f99<|go [] [rg 0 [(0,bo)]]<|bd h λq1 e9 h=>lp e9 wl99x1<|match q1,h with | .inl q0,h=>j1<|(qe<|goN [] []<|bd h λq11 e49 h=>lp e49 wl99x2<|match q11,h with | .inl q10,h=>j1<|(qe<|goN [] []<|rt h) | .inr y4,h=>j2<|(qr h)) | .inr y5,h=>j2<|(qr h)
def R129 (y0:(List Z3)×Int×Int):D:= .tup [.sl false (y0.1.map Zf),.int .i64 y0.2.1,.int .i64 y0.2.2]
def Zdi (x0:List Z3) (x1:Z3) (t0:Int):Option (Ctl (Int) (Unit⊕((List Z3)×Int×Int))):= if (decide (t0<(x0.length:Int))) then ((Z5 x0 t0).bind λv1=> if (Zn5 v1 x1) then ((some (IntKind.wrap .i64 (t0+1))).bind λv2=> some (.done (.inr (x0,v2,0)))) else ((some (IntKind.wrap .i64 (t0+1))).bind λv3=> some (.next v3))) else (some (.done (.inl (()))))
def M6 (x0:List Z3) (x1:Z3):Option ((List Z3)×Int×Int):= (Z7 (Zdi x0 x1) Z8 0).bind λq1=> match q1 with | .inl q0=>(if (decide ((x0.length:Int)≥1000)) then (some (x0,0,5)) else ((some (IntKind.wrap .i64 ((x0.length:Int)+1))).bind λv4=> (Ye 48 (([]:List Z3)++x0).length).bind λv5=> (Ye 48 ((([]:List Z3)++x0)++[x1]).length).bind λv6=> some (((([]:List Z3)++x0)++[x1]),v4,0))) | .inr y0=>(some y0)
def Zwa (x0:List Z3) (x1:Z3):Int→SL:= λt0=>⟨36,[(0,.sl false (x0.map Zf)),(3,.ptr (Zf x1)),(7,dI t0)],[]⟩
def J129x1 (x0:List Z3) (x1:Z3):JT (Unit⊕((List Z3)×Int×Int)):= ju (je 0 λq0:Unit=>⟨36,[(0,.sl false (x0.map Zf)),(3,.ptr (Zf x1))],[]⟩) (jr prog f129 R129)
theorem wl129x1 {x0 x1 t0 r Γ} (h:(Zdi x0 x1) t0=some r):A prog Γ (lpC f129 21) [] (Rd (Zwa x0 x1) (J129x1 x0 x1) r) ((Zwa x0 x1) t0).s:= go [] [rg 2 [(2,ln x0)]]<|br h (λh2 h=>bd h λv1 e1 h=>go [] [rg 4 [(2,ix e1),(5,qs eqg_213 eqp_213 (Zn5 v1 x1))]]<|br h (λh3 h=>bd h λv2 e2 h=>go [] [rg 5 [(2,n e2)]]<|dn h (i2 iR)) λh3 h=> bd h λv3 e3 h=>go [] [rg 3 [(1,n e3)]]<|nx h) λh2 h=> go [] []<|dn h (i1 iE)
theorem w129 {x0 x1 r} (h:M6 x0 x1=some r):Zb prog 129 [.sl false (x0.map Zf),.agg (Zf x1)] (R129 r):= cs f129<|go [] [rg 0 [(0,bo)]]<|bd h λq1 e4 h=>lp e4 wl129x1<|match q1,h with | .inl q0,h=>j1<|(qe<|goN [] [rg 6 [(1,ln x0)]]<|br h (λh4 h=>go [] []<|rt h) λh4 h=> bd h λv4 e5 h=>bd h λv5 e6 h=>bd h λv6 e7 h=>go [] [rgq 8 [(7,ln x0),(8,n e5),(0,br0 0 5),(4,br0 1 5),(2,an fr0 e6),(5,ap e7)] [1,3,6,7,8,0,4,2,5,9,10,11] [2,5,1003,1006,1007,1008,2004,1004]]<|rtB h (.tup [rw_ ((([]:List Z3)++x0)++[x1]),dI v4,dI 0]) (a2 (rpI ((([]:List Z3)++x0)++[x1])) (a2 trivial (a2 trivial trivial))) (by simp only[rwE] <;> kernel_rfl)) | .inr y0,h=>j2<|(qr h)
def R127 (y0:(List Z3)×Int×Int):D:= .tup [.sl false (y0.1.map Zf),.int .i64 y0.2.1,.int .i64 y0.2.2]
def Z0b (x0:List Z3) (x1:List UInt8):Option ((List Z3)×Int×Int):= (M6 x0 (Z3.mk 1 x1 0 0 0)).bind λv0=> some (v0.1,v0.2.1,v0.2.2)
theorem w127 {x0 x1 r} (h:Z0b x0 x1=some r):Zb prog 127 [.sl false (x0.map Zf),.str x1] (R127 r):= cs f127<|bd h λv0 e0 h=>go [] [rg 1 [(3,k (w129 e0))]]<|rt h
def R155 (y0:(List Z3)×Int×Int):D:= .tup [.sl false (y0.1.map Zf),.int .i64 y0.2.1,.int .i64 y0.2.2]
def Z78 (x0:List Z3) (x1:Int) (x2:List UInt8):Option ((List Z3)×Int×Int):= (Z0b x0 x2).bind λv0=> if (v0.2.2 !=0) then (some (x0,0,v0.2.2)) else ((M6 v0.1 (Z3.mk x1 [] 0 v0.2.1 0)).bind λv1=> if (v1.2.2 !=0) then (some (x0,0,v1.2.2)) else (some (v1.1,v1.2.1,0)))
theorem w155 {x0 x1 x2 r} (h:Z78 x0 x1 x2=some r):Zb prog 155 [.sl false (x0.map Zf),dI x1,.str x2] (R155 r):= cs f155<|bd h λv0 e0 h=>go [] [rg 1 [(2,k (w127 e0))]]<|br h (λh0 h=>go [] []<|rt h) λh0 h=> bd h λv1 e1 h=>go [] [rg 4 [(4,k (w129 e1))]]<|br h (λh1 h=>go [] []<|rt h) λh1 h=> go [] []<|rt h
def R126 (y0:(List Z3)×Int×Int):D:= .tup [.sl false (y0.1.map Zf),.int .i64 y0.2.1,.int .i64 y0.2.2]
def Z2y (x0:List Z3) (x1:List UInt8):Option ((List Z3)×Int×Int):= (Z78 x0 7 x1).bind λv0=> some (v0.1,v0.2.1,v0.2.2)
theorem w126 {x0 x1 r} (h:Z2y x0 x1=some r):Zb prog 126 [.sl false (x0.map Zf),.str x1] (R126 r):= cs f126<|bd h λv0 e0 h=>go [] [rg 1 [(2,k (w155 e0))]]<|rt h
def B107 (y0:Y5×Int):List Blk:=[{ sz:=2,rows:=[Vz y0.1],frz:=0,pure:=false,pin:=some 0 }]
def R107 (y0:Y5×Int):D:= .int .i64 y0.2
def Z0k (x0:Y5) (x1:List UInt8):Option (Y5×Int):= if (x0.f_E !=0) then (some (x0,0)) else ((Z2y x0.f_P x1).bind λv0=> some ((Y5.mk v0.1 v0.2.2),v0.2.1))
theorem w107 {x0 x1 r} (h:Z0k x0 x1=some r):Vk prog 107 [.lptr 0 0 0,.str x1] [{ sz:=2,rows:=[Vz x0],frz:=0,pure:=false,pin:=some 0 }] (R107 r) (B107 r):= csO f107 (m:=1) (keep:=[true])<|go [] []<|br h (λh0 h=>go [] []<|rtO h (dI 0) [{ sz:=2,rows:=[Vz x0],frz:=0,pure:=false,pin:=some 0 }] (a2 trivial trivial) rfl) λh0 h=> bd h λv0 e0 h=>go [] [rg 3 [(5,k (w126 e0))]]<|rtO h (dI v0.2.1) [{ sz:=2,rows:=[[.sl false (v0.1.map Zf),dI v0.2.2]],frz:=0,pure:=false,pin:=some 0 }] (a2 trivial trivial) rfl
def B108 (y0:Y5×Int):List Blk:=[{ sz:=2,rows:=[Vz y0.1],frz:=0,pure:=false,pin:=some 0 }]
def R108 (y0:Y5×Int):D:= .int .i64 y0.2
def L8 (x0:Y5) (x1:List UInt8):Option (Y5×Int):= if (x0.f_E !=0) then (some (x0,0)) else ((Z0b x0.f_P x1).bind λv0=> some ((Y5.mk v0.1 v0.2.2),v0.2.1))
theorem Kf {x0 x1 r} (h:L8 x0 x1=some r):Vk prog 108 [.lptr 0 0 0,.str x1] [{ sz:=2,rows:=[Vz x0],frz:=0,pure:=false,pin:=some 0 }] (R108 r) (B108 r):= csO f108 (m:=1) (keep:=[true])<|go [] []<|br h (λh0 h=>go [] []<|rtO h (dI 0) [{ sz:=2,rows:=[Vz x0],frz:=0,pure:=false,pin:=some 0 }] (a2 trivial trivial) rfl) λh0 h=> bd h λv0 e0 h=>go [] [rg 3 [(5,k (w127 e0))]]<|rtO h (dI v0.2.1) [{ sz:=2,rows:=[[.sl false (v0.1.map Zf),dI v0.2.2]],frz:=0,pure:=false,pin:=some 0 }] (a2 trivial trivial) rfl
def R128 (y0:(List Z3)×Int×Int):D:= .tup [.sl false (y0.1.map Zf),.int .i64 y0.2.1,.int .i64 y0.2.2]
def Z5d (x0:List Z3) (x1:List UInt8):Option ((List Z3)×Int×Int):= (Z78 x0 8 x1).bind λv0=> some (v0.1,v0.2.1,v0.2.2)
theorem w128 {x0 x1 r} (h:Z5d x0 x1=some r):Zb prog 128 [.sl false (x0.map Zf),.str x1] (R128 r):= cs f128<|bd h λv0 e0 h=>go [] [rg 1 [(2,k (w155 e0))]]<|rt h
def B110 (y0:Y5×Int):List Blk:=[{ sz:=2,rows:=[Vz y0.1],frz:=0,pure:=false,pin:=some 0 }]
def R110 (y0:Y5×Int):D:= .int .i64 y0.2
def Z9z (p0:List Z3) (p1 p2:Int):Option (Y5×Int):= some ((Y5.mk p0 p2),p1)
def Zf5 (x0:Y5) (x1:X6):Option (Y5×Int):= if (x0.f_E !=0) then (some (x0,0)) else (if (x1.W7==8) then ((Z5d x0.f_P x1.f_S).bind λv0=> Z9z v0.1 v0.2.1 v0.2.2) else ((M6 x0.f_P (Z3.mk x1.W7 [] x1.f_N 0 0)).bind λv1=> Z9z v1.1 v1.2.1 v1.2.2))
theorem Zn7 (x0:Y5) {p0 p1 p2 r Γ} (h:Z9z p0 p1 p2=some r):Jn prog f110 Γ (Z0w prog f110 1 [true] (R110 r) (B110 r)) 47 ⟨54,[(0,.lptr 0 0 0),(5,.sl false (p0.map Zf)),(6,dI p1),(7,dI p2)],[(0,{ sz:=2,rows:=[Vz x0],frz:=0,pure:=false,pin:=some 0 })]⟩:= so<|go [] []<|rtO h (dI p1) [{ sz:=2,rows:=[[.sl false (p0.map Zf),dI p2]],frz:=0,pure:=false,pin:=some 0 }] (a2 trivial trivial) rfl
theorem w110 {x0 x1 r} (h:Zf5 x0 x1=some r):Vk prog 110 [.lptr 0 0 0,.agg (Wi x1)] [{ sz:=2,rows:=[Vz x0],frz:=0,pure:=false,pin:=some 0 }] (R110 r) (B110 r):= csO f110 (m:=1) (keep:=[true])<|go [] [rg 0 [(0,bo)]]<|br h (λh0 h=>go [] []<|rtO h (dI 0) [{ sz:=2,rows:=[Vz x0],frz:=0,pure:=false,pin:=some 0 }] (a2 trivial trivial) rfl) λh0 h=> go [] []<|br h (λh1 h=>bd h λv0 e0 h=>go [7] [rg 5 [(6,k (w128 e0))]]<|jn ((Zn7 x0) h)) λh1 h=> bd h λv1 e1 h=>go [7] [rg 6 [(9,k (w129 e1))]]<|jn ((Zn7 x0) h)
def R139 (y0:Bool):D:= .bool y0
def Zdl (x0:Int):Option (Bool):= if (x0==1) then (some true) else (if (x0==2) then (some true) else (if (x0==4) then (some true) else (some (x0==8))))
theorem w139 {x0 r} (h:Zdl x0=some r):Zb prog 139 [dI x0] (R139 r):= cs f139<|go [1] []<|po<|pr 3 []<|sp h (λh0 h=>pr 12 (gA h0 3 2 [(5,py h0)])<|pe<|goN [] []<|rt h) λh0 h=> pr 4 (gC h0 3 2 [(5,pn h0)])<|sp h (λh1 h=>pr 8 (gA h1 7 2 [(9,py h1)])<|pe<|goN [] []<|rt h) λh1 h=> pr 4 (gC h1 7 2 [(9,pn h1)])<|sp h (λh2 h=>pr 4 (gA h2 11 2 [(13,py h2)])<|pe<|goN [] []<|rt h) λh2 h=> pr 4 (gC h2 11 2 [(13,pn h2)])<|pe<|goN [] []<|rt h
def R115 (y0:(List UInt8)×Int):D:= .tup [.str y0.1,.int .i64 y0.2]
def Zew (t0:Int×Int×(List Int)):Option (Ctl (Int×Int×(List Int)) (((List Int)))):= if (decide (t0.2.1≥0)) then ((some (V1 .i64 t0.1 255)).bind λv16=> (some (IntKind.wrap .u8 v16)).bind λv17=> (Xq t0.2.1 t0.2.2.length).bind λv18=> (t0.2.2[v18]?).bind λv19=> (shrK .i64 t0.1 8).bind λv20=> (some (IntKind.wrap .i64 (t0.2.1 - 1))).bind λv21=> some (.next (v20,v21,(t0.2.2.set v18 v17)))) else (some (.done (t0.2.2)))
def Z50 (x0 x1:Int):Option ((List UInt8)×Int):= (W1 1 x1 x1).bind λv8=> (some (IntKind.wrap .i64 (x1 - 1))).bind λv9=> (Z7 Zew Z8 (x0,v9,(List.replicate x1.toNat 0))).bind λq0=> some ((bytesOf q0),0)
def Z0t (x0 x1:Int):Option ((List UInt8)×Int):= (Zdl x1).bind λv0=> if (!v0) then (some ([],1)) else (if (decide (x1<8)) then ((some (IntKind.wrap .i64 (8*x1))).bind λv1=> (some (IntKind.wrap .i64 (v1 - 1))).bind λv2=> (K1 .i64 1 v2).bind λv3=> (some (IntKind.wrap .i64 (0 - v3))).bind λv4=> if (decide (x0<v4)) then (some ([],8)) else ((some (IntKind.wrap .i64 (8*x1))).bind λv5=> (K1 .i64 1 v5).bind λv6=> (some (IntKind.wrap .i64 (v6 - 1))).bind λv7=> if (decide (x0>v7)) then (some ([],8)) else ((Z50 x0 x1)))) else ((Z50 x0 x1)))
def Zpb:(Int×Int×(List Int))→SL:= λt0=>⟨50,[(6,.lsl 6 0 ((t0.2.2.map rU8).length)),(7,dI t0.1),(8,dI t0.2.1)],[(6,{ sz:=1,rows:=(t0.2.2.map rU8),frz:=0,pure:=true })]⟩
def J115x1:JT (((List Int))):= je 0 λq0:(List Int)=>⟨50,[(6,.lsl 6 0 ((q0.map rU8).length))],[(6,{ sz:=1,rows:=(q0.map rU8),frz:=0,pure:=true })]⟩
theorem wl115x1 {t0 r Γ} (h:Zew t0=some r):A prog Γ (lpC f115 351) [] (Rd Zpb J115x1 r) (Zpb t0).s:= go [] []<|br h (λh5 h=>bd h λv16 e16 h=>bd h λv17 e17 h=>bd h λv18 e18 h=>bd h λv19 e19 h=>go [11] [rg 10 [(3,n e16),(4,n8 e17),(5,ia (R:=RU8) 6 e18),(6,st (R:=RU8) e19 0 [d8 v17] v17)]]<|nm (congrArg (λnn:Nat=>(⟨50,[(6,.lsl 6 0 nn),(7,dI t0.1),(8,dI t0.2.1)],[(6,{ sz:=1,rows:=((t0.2.2.set v18 v17).map rU8),frz:=0,pure:=true })]⟩:SL)) (by simp only[List.length_map,List.length_set]:(t0.2.2.map rU8).length=((t0.2.2.set v18 v17).map rU8).length))<|so<|bd h λv20 e20 h=>bd h λv21 e21 h=>go [] [rg 11 [(1,sr e20)],rg 9 [(1,n e21)]]<|nx h) λh5 h=> go [] []<|dn h (iE)
theorem Zmc {x0 x1 r Γ} (h:(Z50 x0 x1)=some r):Jn prog f115 Γ (Den.Ends prog f115 (R115 r)) 23 ⟨50,[(0,dI x0),(1,dI x1)],[]⟩:= so<|bd h λv8 e8 h=>bd h λv9 e9 h=>go [] [rg 5 [(1,mk (R:=RU8) 0 e8)],rg 7 [(1,n e9)]]<|bd h λq0 e22 h=>lp (ps:=[(32,6)]) e22 wl115x1<|qe<|goN [] [rg 12 [(1,bsB q0)]]<|rt h
theorem w115 {x0 x1 r} (h:Z0t x0 x1=some r):Zb prog 115 [dI x0,dI x1] (R115 r):= cs f115<|bd h λv0 e0 h=>go [] [rg 1 [(1,k (w139 e0))]]<|br h (λh0 h=>go [] []<|rt h) λh0 h=> go [3] []<|po<|pr 3 []<|sp h (λh1 h=>bd h λv1 e1 h=>bd h λv2 e2 h=>bd h λv3 e3 h=>bd h λv4 e4 h=>pr 8 (gC h1 3 2 ((5,gw h1 (n e1))::(6,gw h1 (n e2))::(7,gw h1 (sl e3))::(8,gw h1 (n e4))::gC h1 9 2 []))<|sp h (λh2 h=>pr 8 (gA h2 11 6 [(17,gw h1 (py h2)),(18,py h1)])<|pe<|goN [] []<|bT rfl<|go [] []<|rt h) λh2 h=> bd h λv5 e5 h=>bd h λv6 e6 h=>bd h λv7 e7 h=>pr 8 (gC h2 11 2 [(13,gw h2 (n e5)),(14,gw h2 (sl e6)),(15,gw h2 (n e7)),(16,gw h2 g0),(17,gw h1 (pn h2)),(18,py h1)])<|pe<|goN [] []<|br h (λh3 h=>go [] []<|rt h) λh3 h=> go [5] []<|jn (Zmc h)) λh1 h=> pr 16 (gB h1 3 8 [(17,gs1 h1),(18,pn h1)])<|pe<|goN [] []<|bF rfl<|go [5] []<|jn (Zmc h)
def R109 (y0:(List UInt8)):D:= .str y0
def Zd4 (x0:Int):Option ((List UInt8)):= (Z0t x0 2).bind λv0=> some v0.1
theorem w109 {x0 r} (h:Zd4 x0=some r):Zb prog 109 [dI x0] (R109 r):= cs f109<|bd h λv0 e0 h=>go [] [rg 1 [(1,k (w115 e0))]]<|rt h
def R187 (y0:Bool):D:= .bool y0
def Z1o (x0:Int):Option (Bool):= if (decide (x0≥0)) then (some (decide (x0<81))) else (some false)
theorem w187 {x0 r} (h:Z1o x0=some r):Zb prog 187 [dI x0] (R187 r):= cs f187<|sp h (λh0 h=>go [] [rg 1 [(1,kb h0)]]<|rt h) λh0 h=> go [] [rg 1 [(1,kb h0)]]<|rt h
def R161 (y0:Bool):D:= .bool y0
def Lx (x0 x1 x2:Int):Option (Bool):= if (decide (x0≥x1)) then (some (decide (x0≤x2))) else (some false)
theorem w161 {x0 x1 x2 r} (h:Lx x0 x1 x2=some r):Zb prog 161 [dI x0,dI x1,dI x2] (R161 r):= cs f161<|sp h (λh0 h=>go [] [rg 1 [(2,kb h0)]]<|rt h) λh0 h=> go [] [rg 1 [(2,kb h0)]]<|rt h
def R159 (y0:Int):D:= .int .i64 y0
def Zca (x0 : Int):Option (Int):= (Lx x0 36 52).bind λv2=> if v2 then (some 3) else ((Lx x0 4 9).bind λv3=> if v3 then (some 4) else (if (x0 == 10) then (some 5) else (if (x0==53) then (some 6) else (if (x0==54) then (some 7) else (some 0)))))
def Zck (x0:Int):Option (Int):= if (x0==77) then (some 2) else ((Zca x0))
def K5 (x0:Int):Option (Int):= (Z1o x0).bind λv0=> if (!v0) then (some (-1)) else (if (x0 == 2) then (some 1) else (if (x0 == 3) then (some 2) else ((Lx x0 59 68).bind λv1=> if v1 then (some 2) else (if (x0==76) then (some 2) else ((Zck x0))))))
theorem wj159x2 {x0 r Γ} (h:(Zca x0)=some r):Jn prog f159 Γ (Den.Ends prog f159 (R159 r)) 1529 ⟨34,[(0,dI x0)],[]⟩:= so<|bd h λv2 e2 h=>go [] [rg 10 [(1,k (w161 e2))]]<|br h (λh6 h=>go [] []<|rt h) λh6 h=> bd h λv3 e3 h=>go [] [rg 12 [(1,k (w161 e3))]]<|br h (λh7 h=>go [] []<|rt h) λh7 h=> go [] []<|br h (λh8 h=>go [] []<|rt h) λh8 h=> go [] []<|br h (λh9 h=>go [] []<|rt h) λh9 h=> go [] []<|br h (λh10 h=>go [] []<|rt h) λh10 h=> go [] []<|rt h
theorem wj159x1 {x0 r Γ} (h:(Zck x0)=some r):Jn prog f159 Γ (Den.Ends prog f159 (R159 r)) 505 ⟨34,[(0,dI x0),(10,.bool (x0==77))],[]⟩ (x0==77):= br h (λh5 h=>go [] []<|rt h) λh5 h=> go [10] []<|jn (wj159x2 h)
theorem w159 {x0 r} (h:K5 x0=some r):Zb prog 159 [dI x0] (R159 r):= cs f159<|bd h λv0 e0 h=>go [] [rg 1 [(1,k (w187 e0))]]<|br h (λh0 h=>go [] []<|rt h) λh0 h=> go [] []<|br h (λh1 h=>go [] []<|rt h) λh1 h=> go [] []<|br h (λh2 h=>go [] []<|bT h2<|go [] []<|rt h) λh2 h=> bd h λv1 e1 h=>go [] [rg 6 [(1,k (w161 e1))]]<|br h (λh3 h=>go [] []<|bT h3<|go [] []<|rt h) λh3 h=> go [] []<|br h (λh4 h=>go [] []<|bT h4<|go [] []<|rt h) λh4 h=> go [] []<|jn (wj159x1 h)
def R164 (y0:Bool):D:= .bool y0
def Z79 (x0 : Z6) (x1:Int):Option (Bool):= if (x0.f_To != 0) then (if (x1 !=3) then (if (x1 !=6) then (if (x1 !=7) then (some false) else (if ((x0.Y9.length:Int)==0) then (if ((x0.Zh.length:Int)==0) then (some true) else (if (x1==6) then (some true) else (some (x1==7)))) else (if (x1==7) then (if ((x0.Zh.length:Int)==0) then (some true) else (if (x1==6) then (some true) else (some true))) else (some false)))) else (if ((x0.Y9.length:Int)==0) then (if ((x0.Zh.length:Int)==0) then (some true) else (if (x1==6) then (some true) else (some (x1==7)))) else (if (x1==7) then (if ((x0.Zh.length:Int)==0) then (some true) else (if (x1==6) then (some true) else (some true))) else (some false)))) else (if ((x0.Y9.length:Int)==0) then (if ((x0.Zh.length:Int)==0) then (some true) else (if (x1==6) then (some true) else (some (x1==7)))) else (if (x1==7) then (if ((x0.Zh.length:Int)==0) then (some true) else (if (x1==6) then (some true) else (some true))) else (some false)))) else (if ((x0.Y9.length:Int)==0) then (if ((x0.Zh.length:Int)==0) then (some true) else (if (x1==6) then (some true) else (some (x1==7)))) else (if (x1==7) then (if ((x0.Zh.length:Int)==0) then (some true) else (if (x1==6) then (some true) else (some true))) else (some false)))
def Z5a (x0:Z6) (x1:Int):Option (Bool):= if (x0.f_B !=0) then (if (x1 !=5) then (some false) else ((Z79 x0 x1))) else ((Z79 x0 x1))
def Zfm (x0:Z6) (x1:Int):Option (Bool):= if (x0.f_A !=0) then (if (x1==0) then (some false) else (if (x1==3) then (some false) else (if (x1==7) then (some false) else ((Z5a x0 x1))))) else ((Z5a x0 x1))
def Z37 (x0:Z6) (x1:Int):Option (Bool):= if (!(Zgu x0.Yr (Xp.mk [] [] []))) then (some false) else (if (!(x0.f_S==([]:List UInt8))) then (some false) else ((Zfm x0 x1)))
theorem Zqk {x0 x1 r Γ} (h:(Z79 x0 x1)=some r):Jn prog f164 Γ (Den.Ends prog f164 (R164 r)) 79 ⟨73,[(1,dI x1),(2,.ptr (Zm x0))],[]⟩:= po <| pr 4 [] <| sp h (λh8 h=>pr 4 (gC h8 4 2 [(6,py h8)])<|sp h (λh9 h=>pr 4 (gC h9 8 2 [(10,py h9)])<|sp h (λh10 h=>pr 3 (gC h10 12 2 [(14,py h10)])<|pe<|goN [] []<|br h (λh11 h=>go [] []<|rt h) λh11 h=> go [9] []<|po<|pr 5 [(2,ln x0.Y9)]<|sp h (λh12 h=>pr 9 (gA h12 5 2 [(7,py h12),(11,ln x0.Zh)])<|sp h (λh13 h=>pr 9 (gA h13 14 2 [(16,py h13)])<|pe<|goN [] []<|rt h) λh13 h=> pr 4 (gC h13 14 2 [(16,pn h13)])<|sp h (λh14 h=>pr 5 (gA h14 18 2 [(20,py h14)])<|pe<|goN [] []<|rt h) λh14 h=> pr 5 (gC h14 18 2 [(20,pn h14)])<|pe<|goN [] []<|rt h) λh12 h=> pr 4 (gC h12 5 2 [(7,pn h12)])<|sp h (λh15 h=>pr 5 (gC h15 9 2 ((11,gw h15 (ln x0.Zh))::gC h15 12 2 []))<|sp h (λh16 h=>pr 9 (gA h16 14 2 [(16,gw h15 (py h16)),(17,gw h15 g0),(20,gw h15 g0),(21,py h15)])<|pe<|goN [] []<|rt h) λh16 h=> pr 4 (gC h16 14 2 [(16,gw h15 (pn h16)),(17,gw h15 g0)])<|sp h (λh17 h=>pr 5 (gA h17 18 2 [(20,gw h15 (py h17)),(21,py h15)])<|pe<|goN [] []<|rt h) λh17 h=> pr 5 [(18,gw h17 g0),(19,gw h17 (kb h15)),(20,gw h15 (pn h17)),(21,py h15)]<|pe<|goN [] []<|rt h) λh15 h=> pr 14 (gB h15 9 5 (gB h15 16 2 [(20,gs1 h15),(21,pn h15)]))<|pe<|goN [] []<|rt h) λh10 h=> pr 3 (gB h10 12 2 [(14,pn h10)])<|pe<|goN [] []<|bF rfl<|go [9] []<|po<|pr 5 [(2,ln x0.Y9)]<|sp h (λh18 h=>pr 9 (gA h18 5 2 [(7,py h18),(11,ln x0.Zh)])<|sp h (λh19 h=>pr 9 (gA h19 14 2 [(16,py h19)])<|pe<|goN [] []<|rt h) λh19 h=> pr 4 (gC h19 14 2 [(16,pn h19)])<|sp h (λh20 h=>pr 5 (gA h20 18 2 [(20,py h20)])<|pe<|goN [] []<|rt h) λh20 h=> pr 5 (gC h20 18 2 [(20,pn h20)])<|pe<|goN [] []<|rt h) λh18 h=> pr 4 (gC h18 5 2 [(7,pn h18)])<|sp h (λh21 h=>pr 5 (gC h21 9 2 ((11,gw h21 (ln x0.Zh))::gC h21 12 2 []))<|sp h (λh22 h=>pr 9 (gA h22 14 2 [(16,gw h21 (py h22)),(17,gw h21 g0),(20,gw h21 g0),(21,py h21)])<|pe<|goN [] []<|rt h) λh22 h=> pr 4 (gC h22 14 2 [(16,gw h21 (pn h22)),(17,gw h21 g0)])<|sp h (λh23 h=>pr 5 (gA h23 18 2 [(20,gw h21 (py h23)),(21,py h21)])<|pe<|goN [] []<|rt h) λh23 h=> pr 5 [(18,gw h23 g0),(19,gw h23 (kb h21)),(20,gw h21 (pn h23)),(21,py h21)]<|pe<|goN [] []<|rt h) λh21 h=> pr 14 (gB h21 9 5 (gB h21 16 2 [(20,gs1 h21),(21,pn h21)]))<|pe<|goN [] []<|rt h) λh9 h=> pr 7 (gB h9 8 2 [(10,pn h9)])<|pe<|goN [] []<|bF rfl<|go [9] []<|po<|pr 5 [(2,ln x0.Y9)]<|sp h (λh24 h=>pr 9 (gA h24 5 2 [(7,py h24),(11,ln x0.Zh)])<|sp h (λh25 h=>pr 9 (gA h25 14 2 [(16,py h25)])<|pe<|goN [] []<|rt h) λh25 h=> pr 4 (gC h25 14 2 [(16,pn h25)])<|sp h (λh26 h=>pr 5 (gA h26 18 2 [(20,py h26)])<|pe<|goN [] []<|rt h) λh26 h=> pr 5 (gC h26 18 2 [(20,pn h26)])<|pe<|goN [] []<|rt h) λh24 h=> pr 4 (gC h24 5 2 [(7,pn h24)])<|sp h (λh27 h=>pr 5 (gC h27 9 2 ((11,gw h27 (ln x0.Zh))::gC h27 12 2 []))<|sp h (λh28 h=>pr 9 (gA h28 14 2 [(16,gw h27 (py h28)),(17,gw h27 g0),(20,gw h27 g0),(21,py h27)])<|pe<|goN [] []<|rt h) λh28 h=> pr 4 (gC h28 14 2 [(16,gw h27 (pn h28)),(17,gw h27 g0)])<|sp h (λh29 h=>pr 5 (gA h29 18 2 [(20,gw h27 (py h29)),(21,py h27)])<|pe<|goN [] []<|rt h) λh29 h=> pr 5 [(18,gw h29 g0),(19,gw h29 (kb h27)),(20,gw h27 (pn h29)),(21,py h27)]<|pe<|goN [] []<|rt h) λh27 h=> pr 14 (gB h27 9 5 (gB h27 16 2 [(20,gs1 h27),(21,pn h27)]))<|pe<|goN [] []<|rt h) λh8 h=> pr 11 (gB h8 4 2 [(6,pn h8)])<|pe<|goN [] []<|bF rfl<|go [9] []<|po<|pr 5 [(2,ln x0.Y9)]<|sp h (λh30 h=>pr 9 (gA h30 5 2 [(7,py h30),(11,ln x0.Zh)])<|sp h (λh31 h=>pr 9 (gA h31 14 2 [(16,py h31)])<|pe<|goN [] []<|rt h) λh31 h=> pr 4 (gC h31 14 2 [(16,pn h31)])<|sp h (λh32 h=>pr 5 (gA h32 18 2 [(20,py h32)])<|pe<|goN [] []<|rt h) λh32 h=> pr 5 (gC h32 18 2 [(20,pn h32)])<|pe<|goN [] []<|rt h) λh30 h=> pr 4 (gC h30 5 2 [(7,pn h30)])<|sp h (λh33 h=>pr 5 (gC h33 9 2 ((11,gw h33 (ln x0.Zh))::gC h33 12 2 []))<|sp h (λh34 h=>pr 9 (gA h34 14 2 [(16,gw h33 (py h34)),(17,gw h33 g0),(20,gw h33 g0),(21,py h33)])<|pe<|goN [] []<|rt h) λh34 h=> pr 4 (gC h34 14 2 [(16,gw h33 (pn h34)),(17,gw h33 g0)])<|sp h (λh35 h=>pr 5 (gA h35 18 2 [(20,gw h33 (py h35)),(21,py h33)])<|pe<|goN [] []<|rt h) λh35 h=> pr 5 [(18,gw h35 g0),(19,gw h35 (kb h33)),(20,gw h33 (pn h35)),(21,py h33)]<|pe<|goN [] []<|rt h) λh33 h=> pr 14 (gB h33 9 5 (gB h33 16 2 [(20,gs1 h33),(21,pn h33)]))<|pe<|goN [] []<|rt h
theorem Zrx {x0 x1 r Γ} (h:(Z5a x0 x1)=some r):Jn prog f164 Γ (Den.Ends prog f164 (R164 r)) 39 ⟨73,[(1,dI x1),(2,.ptr (Zm x0))],[]⟩:= so<|sp h (λh6 h=>go [] [rg 5 [(2,kb h6)]]<|br h (λh7 h=>go [] []<|rt h) λh7 h=> go [7] []<|jn (Zqk h)) λh6 h=> go [] [rg 5 [(2,kb h6)]]<|bF rfl<|go [7] []<|jn (Zqk h)
theorem wj164x1 {x0 x1 r Γ} (h:(Zfm x0 x1)=some r):Jn prog f164 Γ (Den.Ends prog f164 (R164 r)) 19 ⟨73,[(1,dI x1),(2,.ptr (Zm x0))],[]⟩:= po <| pr 4 []<|sp h (λh2 h=>pr 3 (gC h2 4 3 [])<|sp h (λh3 h=>pr 8 (gA h3 7 2 [(9,gw h2 (py h3)),(10,gw h2 g0),(13,gw h2 g0),(14,py h2)])<|pe<|goN [] []<|bT rfl<|go [] []<|rt h) λh3 h=> pr 4 (gC h3 7 2 [(9,gw h2 (pn h3)),(10,gw h2 g0)])<|sp h (λh4 h=>pr 4 (gA h4 11 2 [(13,gw h2 (py h4)),(14,py h2)])<|pe<|goN [] []<|bT rfl<|go [] []<|rt h) λh4 h=> pr 4 (gC h4 11 2 [(13,gw h2 (pn h4)),(14,py h2)])<|pe<|goN [] []<|br h (λh5 h=>go [] []<|rt h) λh5 h=> go [5] []<|jn (Zrx h)) λh2 h=> pr 11 (gB h2 4 3 (gB h2 9 2 [(13,gs1 h2),(14,pn h2)]))<|pe<|goN [] []<|bF rfl<|go [5] []<|jn (Zrx h)
theorem w164 {x0 x1 r} (h:Z37 x0 x1=some r):Zb prog 164 [.agg (Zm x0),dI x1] (R164 r):= cs f164<|sp h (λh0 h=>go [] [rg 0 [(0,bo)],rg 1 ((3,qs Zrq Zpr (!(Zgu x0.Yr (Xp.mk [] [] []))))::gA h0 5 3 [(8,py h0)])]<|bT rfl<|go [] []<|rt h) λh0 h=> go [] [rg 0 [(0,bo)],rg 1 ((3,qs Zrq Zpr (!(Zgu x0.Yr (Xp.mk [] [] []))))::gC h0 5 3 [(8,pn h0)])]<|br h (λh1 h=>go [] []<|rt h) λh1 h=> go [3] []<|jn (wj164x1 h)
def R165 (y0:Bool):D:= .bool y0
def Z3g (x0:Z6) (t0:Int):Option (Ctl (Int) (Unit⊕Bool)):= if (decide (t0<(x0.Zh.length:Int))) then ((Z5 x0.Zh t0).bind λv2=> if (decide (v2<0)) then (some (.done (.inr false))) else ((Z5 x0.Zh t0).bind λv3=> if (decide (v3≥1000)) then (some (.done (.inr false))) else ((some (IntKind.wrap .i64 (t0+1))).bind λv4=> some (.next v4)))) else (some (.done (.inl (()))))
def Zfo (x0:Z6):Option (Bool):= (Z7 (Z3g x0) Z8 0).bind λq1=> match q1 with | .inl q0=>(some true) | .inr y0=>(some y0)
def M0 (x0:Z6):Option (Bool):= if (decide (x0.f_To<0)) then (some false) else (if (decide (x0.f_To≥1000)) then (some false) else ((Zfo x0)))
def Zvs (x0:Z6):Int→SL:= λt0=>⟨33,[(1,.ptr (Zm x0)),(3,dI t0)],[]⟩
def J165x1:JT (Unit⊕Bool):= ju (je 0 λq0:Unit=>⟨33,[],[]⟩) (jr prog f165 R165)
theorem wl165x1 {x0 t0 r Γ} (h:(Z3g x0) t0=some r):A prog Γ (lpC f165 43) [] (Rd (Zvs x0) J165x1 r) ((Zvs x0) t0).s:= go [] [rg 4 [(3,ln x0.Zh)]]<|br h (λh5 h=>bd h λv2 e2 h=>sp h (λh6 h=>go [] [rg 6 [(3,ix e2),(5,kb h6)]]<|bT rfl<|go [] []<|dn h (i2 iR)) λh6 h=> bd h λv3 e3 h=>go [] [rg 6 [(3,ix e2),(5,kb h6),(10,ix e3)]]<|br h (λh7 h=>go [] []<|dn h (i2 iR)) λh7 h=> bd h λv4 e4 h=>go [] [rg 5 [(1,n e4)]]<|nx h) λh5 h=> go [] []<|dn h (i1 iE)
theorem wj165x1 {x0 r Γ} (h:(Zfo x0)=some r):Jn prog f165 Γ (Den.Ends prog f165 (R165 r)) 19 ⟨33,[(1,.ptr (Zm x0))],[]⟩:= so<|go [] []<|bd h λq1 e5 h=>lp e5 wl165x1<|match q1,h with | .inl q0,h=>j1<|(qe<|goN [] []<|rt h) | .inr y0,h=>j2<|(qr h)
theorem w165 {x0 r} (h:M0 x0=some r):Zb prog 165 [.agg (Zm x0)] (R165 r):= cs f165<|sp h (λh0 h=>go [] [rg 0 [(0,bo)],rg 1 [(2,kb h0)]]<|bT rfl<|go [] []<|rt h) λh0 h=> go [] [rg 0 [(0,bo)],rg 1 [(2,kb h0)]]<|br h (λh1 h=>go [] []<|rt h) λh1 h=> go [3] []<|jn (wj165x1 h)
def R194 (y0:Bool):D:= .bool y0
def Z61 (x0:Int):Option (Bool):= if (decide (x0≥(-2147483648))) then (some (decide (x0≤2147483647))) else (some false)
theorem w194 {x0 r} (h:Z61 x0=some r):Zb prog 194 [dI x0] (R194 r):= cs f194<|sp h (λh0 h=>go [] [rg 1 [(1,kb h0)]]<|rt h) λh0 h=> go [] [rg 1 [(1,kb h0)]]<|rt h
def R166 (y0:Int):D:= .int .i64 y0
def Ze4 (x0:Z6):Option (Int):= (Z61 x0.f_A).bind λv11=> if (!v11) then (some 8) else ((some (IntKind.wrap .i64 ((x0.Zh.length:Int) - 1))).bind λv12=> (some (IntKind.wrap .i64 (2147483647 - v12))).bind λv13=> if (decide (x0.f_A>v13)) then (some 8) else (some 0))
def Zfe (x0:Z6) (t0:Int):Option (Ctl (Int) (Unit⊕Int)):= if (decide (t0<(x0.Y9.length:Int))) then ((Z5 x0.Y9 t0).bind λv2=> (Z61 v2).bind λv3=> if (!v3) then (some (.done (.inr 8))) else ((some (IntKind.wrap .i64 (t0+1))).bind λv4=> some (.next v4))) else (some (.done (.inl (()))))
def Zea (x0:Z6) (t1:Int):Option (Ctl (Int) (Unit⊕Int)):= if (decide (t1<(x0.Y9.length:Int))) then ((Z5 x0.Y9 t1).bind λv7=> (some (IntKind.wrap .i64 (t1 - 1))).bind λv8=> (Z5 x0.Y9 v8).bind λv9=> if (decide (v7≤v9)) then (some (.done (.inr 4))) else ((some (IntKind.wrap .i64 (t1+1))).bind λv10=> some (.next v10))) else (some (.done (.inl (()))))
def Zen (x0:Z6):Option (Int):= (Z7 (Zfe x0) Z8 0).bind λq1=> match q1 with | .inl q0=>((Z7 (Zea x0) Z8 1).bind λq3=> match q3 with | .inl q2=>(some 0) | .inr y0=>(some y0)) | .inr y1=>(some y1)
def Z3q (x0:Z6):Option (Int):= if (x0.f_Op==53) then (if ((x0.Zh.length:Int)==0) then (some 5) else (if (decide ((x0.Zh.length:Int)>64)) then (some 5) else ((Ze4 x0)))) else (if (decide ((x0.Y9.length:Int)>64)) then (some 5) else (if ((x0.Zh.length:Int)!=(x0.Y9.length:Int)) then (some 5) else ((Zen x0))))
theorem wj166x2 {x0 r Γ} (h:(Ze4 x0)=some r):Jn prog f166 Γ (Den.Ends prog f166 (R166 r)) 149 ⟨78,[(1,.ptr (Zm x0))],[]⟩:= so<|bd h λv11 e13 h=>sp h (λh13 h=>go [] [rg 4 ((2,k (w194 e13))::gA h13 5 8 [(13,py h13)])]<|bT rfl<|go [] []<|rt h) λh13 h=> bd h λv12 e14 h=>bd h λv13 e15 h=>go [] [rg 4 ((2,k (w194 e13))::gC h13 5 4 [(9,gw h13 (ln x0.Zh)),(10,gw h13 (n e14)),(11,gw h13 (n e15)),(12,gw h13 g0),(13,pn h13)])]<|br h (λh14 h=>go [] []<|rt h) λh14 h=> go [] []<|rt h
def Zov (x0:Z6):Int→SL:= λt0=>⟨78,[(1,.ptr (Zm x0)),(3,dI t0)],[]⟩
def J166x1 (x0:Z6):JT (Unit⊕Int):= ju (je 0 λq0:Unit=>⟨78,[(1,.ptr (Zm x0))],[]⟩) (jr prog f166 R166)
theorem wl166x1 {x0 t0 r Γ} (h:(Zfe x0) t0=some r):A prog Γ (lpC f166 87) [] (Rd (Zov x0) (J166x1 x0) r) ((Zov x0) t0).s:= go [] [rg 10 [(3,ln x0.Y9)]]<|br h (λh7 h=>bd h λv2 e2 h=>bd h λv3 e3 h=>go [] [rg 12 [(3,ix e2),(5,k (w194 e3))]]<|br h (λh8 h=>go [] []<|dn h (i2 iR)) λh8 h=> bd h λv4 e4 h=>go [] [rg 11 [(1,n e4)]]<|nx h) λh7 h=> go [] []<|dn h (i1 iE)
def Zu9 (x0:Z6):Int→SL:= λt1=>⟨78,[(1,.ptr (Zm x0)),(4,dI t1)],[]⟩
def J166x2:JT (Unit⊕Int):= ju (je 2 λq2:Unit=>⟨78,[],[]⟩) (jr prog f166 R166)
theorem wl166x2 {x0 t1 r Γ} (h:(Zea x0) t1=some r):A prog Γ (lpC f166 175) [] (Rd (Zu9 x0) J166x2 r) ((Zu9 x0) t1).s:= go [] [rg 15 [(3,ln x0.Y9)]]<|br h (λh11 h=>bd h λv7 e8 h=>bd h λv8 e9 h=>bd h λv9 e10 h=>go [] [rg 17 [(3,ix e8),(8,n e9),(9,ix e10)]]<|br h (λh12 h=>go [] []<|dn h (i2 iR)) λh12 h=> bd h λv10 e11 h=>go [] [rg 16 [(1,n e11)]]<|nx h) λh11 h=> go [] []<|dn h (i1 iE)
theorem wj166x1 {x0 r Γ} (h:(Zen x0)=some r):Jn prog f166 Γ (Den.Ends prog f166 (R166 r)) 39 ⟨78,[(1,.ptr (Zm x0))],[]⟩:= so<|go [] []<|bd h λq1 e5 h=>lp e5 wl166x1<|match q1,h with | .inl q0,h=>j1<|(qe<|goN [] []<|bd h λq3 e12 h=>lp e12 wl166x2<|match q3,h with | .inl q2,h=>j1<|(qe<|goN [] []<|rt h) | .inr y0,h=>j2<|(qr h)) | .inr y1,h=>j2<|(qr h)
theorem w166 {x0 r} (h:Z3q x0=some r):Zb prog 166 [.agg (Zm x0)] (R166 r):= cs f166<|go [] [rg 0 [(0,bo)]]<|br h (λh0 h=>sp h (λh1 h=>go [] [rg 2 [(2,ln x0.Zh),(3,kb h1)]]<|bT rfl<|go [] []<|rt h) λh1 h=> go [] [rg 2 [(2,ln x0.Zh),(3,kb h1),(7,ln x0.Zh)]]<|br h (λh2 h=>go [] []<|rt h) λh2 h=> go [4] []<|jn (wj166x2 h)) λh0 h=> sp h (λh3 h=>go [] [rg 7 [(2,ln x0.Y9),(3,kb h3)]]<|bT rfl<|go [] []<|rt h) λh3 h=> go [] [rg 7 [(2,ln x0.Y9),(3,kb h3),(7,ln x0.Zh),(10,ln x0.Y9)]]<|br h (λh4 h=>go [] []<|rt h) λh4 h=> go [9] []<|jn (wj166x1 h)
end Go.Proofs
