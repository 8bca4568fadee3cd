/-
  Models of functions of the program, and that the functions compute them. Printed by den3.py. No condition.
-/
import Derived.Test.YtbhghodobphdeaaGreatRows
import Derived.Test.YtbhghodobphdeaaGreatDenClaim
set_option linter.unusedVariables false
namespace Go.Proofs
open Tryz
open Go.Den Go.Den.W
structure Z1q where
 a0:Int
 a1:Int
def Z24 (x:Z1q):List D:=[.int .i64 x.a0,.int .i64 x.a1]
instance:Row Z1q:=⟨Z24,2,fun _=>rfl⟩
structure Z17 where
 Zvh:Int
 Z2g:List UInt8
def Z1k (x:Z17):List D:=[.int .i64 x.Zvh,.str x.Z2g]
instance:Row Z17:=⟨Z1k,2,fun _=>rfl⟩
structure Z1b where
 Z0r:Int
 Z0f:List UInt8
 Z1o:List UInt8
 Z3g:Int
 f_N:Int
 f_S:List UInt8
def Z5p (x:Z1b):List D:=[.int .i64 x.Z0r,.str x.Z0f,.str x.Z1o,.int .i64 x.Z3g,.int .i64 x.f_N,.str x.f_S]
instance:Row Z1b:=⟨Z5p,6,fun _=>rfl⟩
structure Z22 where
 Z0k:List UInt8
 Z0f:List UInt8
 Z1o:List UInt8
def Zkr (x:Z22):List D:=[.str x.Z0k,.str x.Z0f,.str x.Z1o]
instance:Row Z22:=⟨Zkr,3,fun _=>rfl⟩
structure Z01 where
 f_Op:Int
 f_A:Int
 f_B:Int
 f_To:Int
 Z0s:List Int
 Z0b:List Int
 Z1c:Z22
 f_S:List UInt8
def Z0e (x:Z01):List D:=[.int .i64 x.f_Op,.int .i64 x.f_A,.int .i64 x.f_B,.int .i64 x.f_To,.sl false (x.Z0s.map Z02),.sl false (x.Z0b.map Z02),.str x.Z1c.Z0k,.str x.Z1c.Z0f,.str x.Z1c.Z1o,.str x.f_S]
instance:Row Z01:=⟨Z0e,10,fun _=>rfl⟩
structure Z0n where
 Z5z:Int
 f_To:Int
 Z69:Int
 Z0k:Int
 Z1n:List UInt8
def Z0t (x:Z0n):List D:=[.int .i64 x.Z5z,.int .i64 x.f_To,.int .i64 x.Z69,.int .i64 x.Z0k,.str x.Z1n]
instance:Row Z0n:=⟨Z0t,5,fun _=>rfl⟩
structure Z0q where
 Z2t:Int
 Z1z:Int
 Z0f:List UInt8
def Z25 (x:Z0q):List D:=[.int .i64 x.Z2t,.int .u8 x.Z1z,.str x.Z0f]
instance:Row Z0q:=⟨Z25,3,fun _=>rfl⟩
structure Z0h where
 Z2c:Int
 Z3a:Int
 Z1n:Z0q
 Z42:Int
def Z1h (x:Z0h):List D:=[.int .i64 x.Z2c,.int .i64 x.Z3a,.int .i64 x.Z1n.Z2t,.int .u8 x.Z1n.Z1z,.str x.Z1n.Z0f,.int .i64 x.Z42]
instance:Row Z0h:=⟨Z1h,6,fun _=>rfl⟩
structure Z5c where
 Z0u:List Z0h
 Z0z:List Z0h
 Z6p:Bool
def Zxt (x:Z5c):List D:=[.sl false (x.Z0u.map Z1h),.sl false (x.Z0z.map Z1h),.bool x.Z6p]
instance:Row Z5c:=⟨Zxt,3,fun _=>rfl⟩
structure Z0p where
 Z0x:Int
 Z1i:Z5c
def Z0y (x:Z0p):List D:=[.int .i64 x.Z0x,.sl false (x.Z1i.Z0u.map Z1h),.sl false (x.Z1i.Z0z.map Z1h),.bool x.Z1i.Z6p]
instance:Row Z0p:=⟨Z0y,4,fun _=>rfl⟩
structure Z14 where
 Z0x:Int
 Z73:Int
def Z1a (x:Z14):List D:=[.int .i64 x.Z0x,.int .i64 x.Z73]
instance:Row Z14:=⟨Z1a,2,fun _=>rfl⟩
structure Z0a where
 Z0z:Int
 Z0u:Int
 Z0j:List Z01
 Z1w:List Z0n
 Z1f:List Z0p
 Z1r:List Z14
def Z0v (x:Z0a):List D:=[.int .i64 x.Z0z,.int .i64 x.Z0u,.sl false (x.Z0j.map Z0e),.sl false (x.Z1w.map Z0t),.sl false (x.Z1f.map Z0y),.sl false (x.Z1r.map Z1a)]
instance:Row Z0a:=⟨Z0v,6,fun _=>rfl⟩
structure Z2n where
 Z0r:Int
 Z0f:List UInt8
 Z1o:List UInt8
 Z8u:Bool
 Z27:Z0a
 Z6i:List (List UInt8)
def Z70 (x:Z2n):List D:=[.int .i64 x.Z0r,.str x.Z0f,.str x.Z1o,.bool x.Z8u,.int .i64 x.Z27.Z0z,.int .i64 x.Z27.Z0u,.sl false (x.Z27.Z0j.map Z0e),.sl false (x.Z27.Z1w.map Z0t),.sl false (x.Z27.Z1f.map Z0y),.sl false (x.Z27.Z1r.map Z1a),.sl false (x.Z6i.map Z43)]
instance:Row Z2n:=⟨Z70,11,fun _=>rfl⟩
structure Z0m where
 Z0r:Int
 Z0f:List UInt8
 Z16:List UInt8
 Z1e:List (List UInt8)
 Z0g:List Z1b
 Z10:List Z2n
 Z8b:List UInt8
def Z2i (x:Z0m):List D:=[.int .i64 x.Z0r,.str x.Z0f,.str x.Z16,.sl false (x.Z1e.map Z43),.sl false (x.Z0g.map Z5p),.sl false (x.Z10.map Z70),.str x.Z8b]
instance:Row Z0m:=⟨Z2i,7,fun _=>rfl⟩
structure Z1s where
 Z2u:Int
 Z13:Z0m
 Z16:Int
 Z1e:List Int
 Zb0:Int
 Zk7:Int
def Z4f (x:Z1s):List D:=[.int .i64 x.Z2u,.int .i64 x.Z13.Z0r,.str x.Z13.Z0f,.str x.Z13.Z16,.sl false (x.Z13.Z1e.map Z43),.sl false (x.Z13.Z0g.map Z5p),.sl false (x.Z13.Z10.map Z70),.str x.Z13.Z8b,.int .i64 x.Z16,.sl false (x.Z1e.map Z02),.int .i64 x.Zb0,.int .i64 x.Zk7]
instance:Row Z1s:=⟨Z4f,12,fun _=>rfl⟩
structure Z8k where
 Zfy:List UInt8
 f_To:Int
def Zdt (x:Z8k):List D:=[.str x.Zfy,.int .i64 x.f_To]
instance:Row Z8k:=⟨Zdt,2,fun _=>rfl⟩
structure Z8y where
 Z0f:List UInt8
 Z2g:List UInt8
def Zeq (x:Z8y):List D:=[.str x.Z0f,.str x.Z2g]
instance:Row Z8y:=⟨Zeq,2,fun _=>rfl⟩
structure Z1m where
 Z5m:List Z8k
 Z3x:List Z8y
def Z2r (x:Z1m):List D:=[.sl false (x.Z5m.map Zdt),.sl false (x.Z3x.map Zeq)]
instance:Row Z1m:=⟨Z2r,2,fun _=>rfl⟩
structure Z2s where
 Z2u:Int
 Z0f:List UInt8
 Z0k:Int
def Z55 (x:Z2s):List D:=[.int .i64 x.Z2u,.str x.Z0f,.int .i64 x.Z0k]
instance:Row Z2s:=⟨Z55,3,fun _=>rfl⟩
structure Z4z where
 Z0f:List UInt8
 f_A:Int
 f_B:Int
def Z5u (x:Z4z):List D:=[.str x.Z0f,.int .i64 x.f_A,.int .i64 x.f_B]
instance:Row Z4z:=⟨Z5u,3,fun _=>rfl⟩
structure Z0c where
 Z1y:List Z1m
 Z0o:List Z1s
 Z2l:List Z2s
 Z47:List Z4z
def Z1d (x:Z0c):List D:=[.sl false (x.Z1y.map Z2r),.sl false (x.Z0o.map Z4f),.sl false (x.Z2l.map Z55),.sl false (x.Z47.map Z5u)]
instance:Row Z0c:=⟨Z1d,4,fun _=>rfl⟩
structure Z00 where
 Z1p:Int
 f_S:List UInt8
 f_N:Int
 f_A:Int
 f_B:Int
def Z06 (x:Z00):List D:=[.int .i64 x.Z1p,.str x.f_S,.int .i64 x.f_N,.int .i64 x.f_A,.int .i64 x.f_B]
instance:Row Z00:=⟨Z06,5,fun _=>rfl⟩
structure Z19 where
 Z0k:Int
 Z0x:Int
def Z2f (x:Z19):List D:=[.int .i64 x.Z0k,.int .i64 x.Z0x]
instance:Row Z19:=⟨Z2f,2,fun _=>rfl⟩
structure Z0d where
 Z0r:Int
 Z0f:Int
 Z1o:Int
 Z1g:List Z17
def Z0l (x:Z0d):List D:=[.int .i64 x.Z0r,.int .i64 x.Z0f,.int .i64 x.Z1o,.sl false (x.Z1g.map Z1k)]
instance:Row Z0d:=⟨Z0l,4,fun _=>rfl⟩
structure Z12 where
 Z1v:List Z00
 Z0r:Int
 Z3u:Int
 Z16:Int
 Z1e:List Int
 Z0g:List Z0d
 Z10:List Z0d
 Z1g:List Z17
def Z29 (x:Z12):List D:=[.sl false (x.Z1v.map Z06),.int .i64 x.Z0r,.int .i64 x.Z3u,.int .i64 x.Z16,.sl false (x.Z1e.map Z02),.sl false (x.Z0g.map Z0l),.sl false (x.Z10.map Z0l),.sl false (x.Z1g.map Z1k)]
instance:Row Z12:=⟨Z29,8,fun _=>rfl⟩
structure Z36 where
 Z0k:Int
 Z0x:Int
def Z6u (x:Z36):List D:=[.int .i64 x.Z0k,.int .i64 x.Z0x]
instance:Row Z36:=⟨Z6u,2,fun _=>rfl⟩
structure Z2k where
 Z7i:List Z0q
 Zff:Z0q
def Zda (x:Z2k):List D:=[.sl false (x.Z7i.map Z25),.int .i64 x.Zff.Z2t,.int .u8 x.Zff.Z1z,.str x.Zff.Z0f]
instance:Row Z2k:=⟨Zda,4,fun _=>rfl⟩
structure Z21 where
 Z2c:Int
 f_N:Int
def Z3c (x:Z21):List D:=[.int .i64 x.Z2c,.int .i64 x.f_N]
instance:Row Z21:=⟨Z3c,2,fun _=>rfl⟩
structure Z15 where
 f_S:List UInt8
 f_At:Int
 Z3n:Bool
def Z8p (x:Z15):List D:=[.str x.f_S,.int .i64 x.f_At,.bool x.Z3n]
instance:Row Z15:=⟨Z8p,3,fun _=>rfl⟩
structure Z3h where
 f_C:Z0a
 Z2g:List UInt8
 Zmm:List Int
def Z75 (x:Z3h):List D:=[.int .i64 x.f_C.Z0z,.int .i64 x.f_C.Z0u,.sl false (x.f_C.Z0j.map Z0e),.sl false (x.f_C.Z1w.map Z0t),.sl false (x.f_C.Z1f.map Z0y),.sl false (x.f_C.Z1r.map Z1a),.str x.Z2g,.sl false (x.Zmm.map Z02)]
instance:Row Z3h:=⟨Z75,8,fun _=>rfl⟩
structure Z28 where
 f_F:Z12
 Zaj:List Z0a
 Zck:List (List Int)
 Z7k:List Z1q
def Z7h (x:Z28):List D:=[.sl false (x.f_F.Z1v.map Z06),.int .i64 x.f_F.Z0r,.int .i64 x.f_F.Z3u,.int .i64 x.f_F.Z16,.sl false (x.f_F.Z1e.map Z02),.sl false (x.f_F.Z0g.map Z0l),.sl false (x.f_F.Z10.map Z0l),.sl false (x.f_F.Z1g.map Z1k),.sl false (x.Zaj.map Z0v),.sl false (x.Zck.map (rSl Z02)),.sl false (x.Z7k.map Z24)]
instance:Row Z28:=⟨Z7h,11,fun _=>rfl⟩
structure Z0i where
 f_P:List Z00
 f_E:Int
def Z3e (x:Z0i):List D:=[.sl false (x.f_P.map Z06),.int .i64 x.f_E]
instance:Row Z0i:=⟨Z3e,2,fun _=>rfl⟩
def Zh2 (x y:Z21):Bool:=((x.Z2c==y.Z2c)&&((x.f_N==y.f_N)&&true))
def eqq_37 : Prop := prog.stoodInHeld 37 = false ∧ ("Kind" ≠ "_" ∧ True ∧ ("N" ≠ "_" ∧ True ∧ True))
theorem Zqd:eqq_37:=⟨by kernel_rfl,⟨by decide,trivial,⟨by decide,trivial,trivial⟩⟩⟩
theorem Zw4:prog.eqGuardType prog.depth 37=false:=by kernel_rfl
def Zbz (x y:Z19):Bool:=((x.Z0k==y.Z0k)&&((x.Z0x==y.Z0x)&&true))
def eqq_54 : Prop := prog.stoodInHeld 54 = false ∧ ("Class" ≠ "_" ∧ True ∧ ("Index" ≠ "_" ∧ True ∧ True))
theorem Ztk:eqq_54:=⟨by kernel_rfl,⟨by decide,trivial,⟨by decide,trivial,trivial⟩⟩⟩
theorem Zu1:prog.eqGuardType prog.depth 54=false:=by kernel_rfl
def Zxg (x y:Z0q):Bool:=((x.Z2t==y.Z2t)&&((x.Z1z==y.Z1z)&&((x.Z0f==y.Z0f)&&true)))
def eqq_74 : Prop := prog.stoodInHeld 74 = false ∧ ("Dim" ≠ "_" ∧ True ∧ ("Base" ≠ "_" ∧ True ∧ ("Name" ≠ "_" ∧ True ∧ True)))
theorem eqp_74:eqq_74:=⟨by kernel_rfl,⟨by decide,trivial,⟨by decide,trivial,⟨by decide,trivial,trivial⟩⟩⟩⟩
theorem eqg_74:prog.eqGuardType prog.depth 74=false:=by kernel_rfl
def Zl1 (x y:Z00):Bool:=((x.Z1p==y.Z1p)&&((x.f_S==y.f_S)&&((x.f_N==y.f_N)&&((x.f_A==y.f_A)&&((x.f_B==y.f_B)&&true)))))
def eqq_171 : Prop := prog.stoodInHeld 171 = false ∧ ("Tag" ≠ "_" ∧ True ∧ ("S" ≠ "_" ∧ True ∧ ("N" ≠ "_" ∧ True ∧ ("A" ≠ "_" ∧ True ∧ ("B" ≠ "_" ∧ True ∧ True)))))
theorem eqp_171:eqq_171:=⟨by kernel_rfl,⟨by decide,trivial,⟨by decide,trivial,⟨by decide,trivial,⟨by decide,trivial,⟨by decide,trivial,trivial⟩⟩⟩⟩⟩⟩
theorem eqg_171:prog.eqGuardType prog.depth 171=false:=by kernel_rfl
def Zos (x y:Z22):Bool:=((x.Z0k==y.Z0k)&&((x.Z0f==y.Z0f)&&((x.Z1o==y.Z1o)&&true)))
def eqq_176 : Prop := prog.stoodInHeld 176 = false ∧ ("Class" ≠ "_" ∧ True ∧ ("Name" ≠ "_" ∧ True ∧ ("Desc" ≠ "_" ∧ True ∧ True)))
theorem Zs6:eqq_176:=⟨by kernel_rfl,⟨by decide,trivial,⟨by decide,trivial,⟨by decide,trivial,trivial⟩⟩⟩⟩
theorem Zrp:prog.eqGuardType prog.depth 176=false:=by kernel_rfl
def R8 (y0:Bool):D:= .bool y0
def Zla (x0:Z0c):Option (Bool):= some (decide ((x0.Z0o.length:Int)≤40))
theorem w8 {x0 r} (h:Zla x0=some r):Z08 prog 8 [.agg (Z1d x0)] (R8 r):= cs f8<|go [] [rg 0 [(0,bo)],rg 1 [(2,ln x0.Z0o)]]<|rt h
def R63 (y0:Bool):D:= .bool y0
def Zg6 (x0:Int):Option (Bool):= if (decide (x0≥97)) then (if (decide (x0≤122)) then (some true) else (if (decide (x0≥65)) then (if (decide (x0≤90)) then (some true) else (if (x0==95) then (some true) else (some (x0==36)))) else (if (x0==95) then (some true) else (some (x0==36))))) else (if (decide (x0≥65)) then (if (decide (x0≤90)) then (some true) else (if (x0==95) then (some true) else (some (x0==36)))) else (if (x0==95) then (some true) else (some (x0==36))))
theorem w63 {x0 r} (h:Zg6 x0=some r):Z08 prog 63 [d8 x0] (R63 r):= cs f63<|go [1] []<|po<|pr 3 []<|sp h (fun h0 h=>pr 4 (gC h0 3 2 [(5,py h0)])<|sp h (fun h1 h=>pr 16 (gA h1 7 3 [(12,gs0 h1),(13,py h1)])<|pe<|goN [] []<|rt h) fun h1 h=> pr 3 (gC h1 7 3 [])<|sp h (fun h2 h=>pr 5 (gC h2 10 2 [(12,gw h1 (py h2)),(13,pn h1)])<|sp h (fun h3 h=>pr 8 (gA h3 15 2 [(17,py h3)])<|pe<|goN [] []<|rt h) fun h3 h=> pr 4 (gC h3 15 2 [(17,pn h3)])<|sp h (fun h4 h=>pr 4 (gA h4 19 2 [(21,py h4)])<|pe<|goN [] []<|rt h) fun h4 h=> pr 4 (gC h4 19 2 [(21,pn h4)])<|pe<|goN [] []<|rt h) fun h2 h=> pr 9 (gB h2 10 2 [(12,gw h1 (pn h2)),(13,pn h1)])<|sp h (fun h5 h=>pr 4 (gA h5 19 2 [(21,py h5)])<|pe<|goN [] []<|rt h) fun h5 h=> pr 4 (gC h5 19 2 [(21,pn h5)])<|pe<|goN [] []<|rt h) fun h0 h=> pr 7 (gB h0 3 2 [(5,pn h0)])<|sp h (fun h6 h=>pr 5 (gC h6 10 2 [(12,py h6)])<|sp h (fun h7 h=>pr 8 (gA h7 15 2 [(17,py h7)])<|pe<|goN [] []<|rt h) fun h7 h=> pr 4 (gC h7 15 2 [(17,pn h7)])<|sp h (fun h8 h=>pr 4 (gA h8 19 2 [(21,py h8)])<|pe<|goN [] []<|rt h) fun h8 h=> pr 4 (gC h8 19 2 [(21,pn h8)])<|pe<|goN [] []<|rt h) fun h6 h=> pr 9 (gB h6 10 2 [(12,pn h6)])<|sp h (fun h9 h=>pr 4 (gA h9 19 2 [(21,py h9)])<|pe<|goN [] []<|rt h) fun h9 h=> pr 4 (gC h9 19 2 [(21,pn h9)])<|pe<|goN [] []<|rt h
def R50 (y0:Bool):D:= .bool y0
def Zhy (x0 : List UInt8) (t0:Int):Option (Ctl (Int) (Unit⊕Bool)):= if (decide (t0<(x0.length:Int))) then ((Z2q x0 t0).bind fun v2=> (Zg6 v2).bind fun v3=> if (!v3) then (if (t0==0) then (some (.done (.inr false))) else ((Z2q x0 t0).bind fun v4=> if (decide (v4<48)) then (some (.done (.inr false))) else ((Z2q x0 t0).bind fun v5=> if (decide (v5>57)) then (some (.done (.inr false))) else ((some (IntKind.wrap .i64 (t0+1))).bind fun v6=> some (.next v6))))) else ((some (IntKind.wrap .i64 (t0+1))).bind fun v7=> some (.next v7))) else (some (.done (.inl (()))))
def Zbc (x0:List UInt8):Option (Bool):= (Z07 (Zhy x0) Z09 0).bind fun q1=> match q1 with | .inl q0=>(some (decide ((x0.length:Int)>0))) | .inr y0=>(some y0)
def Zwv (x0:List UInt8):Int→SL:= fun t0=>⟨34,[(0,.str x0),(3,dI t0)],[]⟩
def J50x1 (x0:List UInt8):JT (Unit⊕Bool):= ju (je 0 fun q0:Unit=>⟨34,[(0,.str x0)],[]⟩) (jr prog f50 R50)
theorem wl50x1 {x0 t0 r Γ} (h:(Zhy x0) t0=some r):A prog Γ (lpC f50 21) [] (Rd (Zwv x0) (J50x1 x0) r) ((Zwv x0) t0).s:= go [] []<|br h (fun h2 h=>go [4] []<|po<|bd h fun v2 e2 h=>bd h fun v3 e3 h=>pr 6 [(2,ib e2),(3,k (w63 e3))]<|sp h (fun h3 h=>pr 3 (gC h3 6 3 [])<|sp h (fun h4 h=>pr 12 (gA h4 9 4 [(13,gw h3 (py h4)),(14,gw h3 g0),(19,gw h3 g0),(20,py h3)])<|pe<|goN [] []<|bT rfl<|go [] []<|dn h (i2 iR)) fun h4 h=> bd h fun v4 e4 h=>pr 6 (gC h4 9 2 [(11,gw h4 (ib e4)),(12,gw h4 g0),(13,gw h3 (pn h4)),(14,gw h3 g0)])<|sp h (fun h5 h=>pr 6 (gA h5 15 4 [(19,gw h3 (py h5)),(20,py h3)])<|pe<|goN [] []<|bT rfl<|go [] []<|dn h (i2 iR)) fun h5 h=> bd h fun v5 e5 h=>pr 6 (gC h5 15 2 [(17,gw h5 (ib e5)),(18,gw h5 g0),(19,gw h3 (pn h5)),(20,py h3)])<|pe<|goN [] []<|br h (fun h6 h=>go [] []<|dn h (i2 iR)) fun h6 h=> bd h fun v6 e6 h=>go [] [rg 3 [(1,n e6)]]<|nx h) fun h3 h=> pr 15 (gB h3 6 3 (gB h3 13 2 [(19,gs1 h3),(20,pn h3)]))<|pe<|goN [] []<|bF rfl<|bd h fun v7 e7 h=>go [] [rg 3 [(1,n e7)]]<|nx h) fun h2 h=> go [] []<|dn h (i1 iE)
theorem w50 {x0 r} (h:Zbc x0=some r):Z08 prog 50 [.str x0] (R50 r):= cs f50<|go [] []<|bd h fun q1 e8 h=>lp e8 wl50x1<|match q1,h with | .inl q0,h=>j1<|(qe<|goN [] []<|rt h) | .inr y0,h=>j2<|(qr h)
def R29 (y0:Bool):D:= .bool y0
def Zjo (x0:List UInt8) (t0:Int×Int):Option (Ctl (Int×Int) (Int⊕Bool)):= if (decide (t0.2<(x0.length:Int))) then ((Z2q x0 t0.2).bind fun v3=> if (v3==47) then ((sub x0 t0.1 t0.2).bind fun v4=> (Zbc v4).bind fun v5=> if (!v5) then (some (.done (.inr false))) else ((some (IntKind.wrap .i64 (t0.2+1))).bind fun v6=> (some (IntKind.wrap .i64 (t0.2+1))).bind fun v7=> some (.next (v6,v7)))) else ((some (IntKind.wrap .i64 (t0.2+1))).bind fun v8=> some (.next (t0.1,v8)))) else (some (.done (.inl (t0.1))))
def Z9k (x0:List UInt8):Option (Bool):= if (decide ((x0.length:Int)>64)) then (some false) else ((Z07 (Zjo x0) Z09 (0,0)).bind fun q1=> match q1 with | .inl q0=>((sub x0 q0 (x0.length:Int)).bind fun v9=> (Zbc v9).bind fun v10=> some v10) | .inr y0=>(some y0))
def Zr6 (x0:List UInt8):(Int×Int)→SL:= fun t0=>⟨30,[(0,.str x0),(3,dI t0.1),(4,dI t0.2)],[]⟩
def J29x1 (x0:List UInt8):JT (Int⊕Bool):= ju (je 0 fun q0:Int=>⟨30,[(0,.str x0),(3,dI q0)],[]⟩) (jr prog f29 R29)
theorem wl29x1 {x0 t0 r Γ} (h:(Zjo x0) t0=some r):A prog Γ (lpC f29 87) [] (Rd (Zr6 x0) (J29x1 x0) r) ((Zr6 x0) t0).s:= go [] []<|br h (fun h4 h=>bd h fun v3 e3 h=>go [] [rg 7 [(2,ib e3)]]<|br h (fun h5 h=>bd h fun v4 e4 h=>bd h fun v5 e5 h=>go [] [rg 8 [(3,ss e4),(4,k (w50 e5))]]<|br h (fun h6 h=>go [] []<|dn h (i2 iR)) fun h6 h=> bd h fun v6 e6 h=>bd h fun v7 e7 h=>go [] [rg 10 [(1,n e6)],rg 6 [(1,n e7)]]<|nx h) fun h5 h=> bd h fun v8 e8 h=>go [] [rg 6 [(1,n e8)]]<|nx h) fun h4 h=> go [] []<|dn h (i1 iE)
theorem w29 {x0 r} (h:Z9k x0=some r):Z08 prog 29 [.str x0] (R29 r):= cs f29<|go [] []<|br h (fun h0 h=>go [] []<|rt h) fun h0 h=> go [] []<|bd h fun q1 e9 h=>lp e9 wl29x1<|match q1,h with | .inl q0,h=>j1<|(qe<|bd h fun v9 e10 h=>bd h fun v10 e11 h=>goN [] [rg 11 [(2,ss e10),(3,k (w50 e11))]]<|rt h) | .inr y0,h=>j2<|(qr h)
def R53 (y0:Bool):D:= .bool y0
def Z9b (x0 x1:List UInt8):Option (Bool):= if (decide ((x1.length:Int)≤(x0.length:Int))) then ((sub x0 0 (x1.length:Int)).bind fun v0=> some (v0==x1)) else (some false)
theorem w53 {x0 x1 r} (h:Z9b x0 x1=some r):Z08 prog 53 [.str x0,.str x1] (R53 r):= cs f53<|sp h (fun h0 h=>bd h fun v0 e0 h=>go [] [rg 1 [(4,kb h0),(9,ss e0)]]<|rt h) fun h0 h=> go [] [rg 1 [(4,kb h0)]]<|rt h
def R48 (y0:Int):D:= .int .i64 y0
def Zjx (x0:Z1m) (x1 t0:Int):Option (Ctl (Int) (Unit⊕Int)):= if (decide (t0<(x0.Z3x.length:Int))) then ((Z05 x0.Z3x t0).bind fun v3=> (Z9k v3.Z0f).bind fun v4=> if (!v4) then (some (.done (.inr 12))) else (if (decide (x1>0)) then ((Z9b v3.Z0f [108,97,110,103,47]).bind fun v5=> if v5 then (some (.done (.inr 12))) else ((some (IntKind.wrap .i64 (t0+1))).bind fun v6=> some (.next v6))) else ((some (IntKind.wrap .i64 (t0+1))).bind fun v7=> some (.next v7)))) else (some (.done (.inl (()))))
def Zge (x0:Z1m) (x1:Int):Option (Int):= (Z07 (Zjx x0 x1) Z09 0).bind fun q1=> match q1 with | .inl q0=>(some 0) | .inr y0=>(some y0)
def Ztj (x0:Z1m) (x1:Int):Int→SL:= fun t0=>⟨31,[(1,dI x1),(2,.ptr (Z2r x0)),(5,dI t0)],[]⟩
def J48x1:JT (Unit⊕Int):= ju (je 0 fun q0:Unit=>⟨31,[],[]⟩) (jr prog f48 R48)
theorem wl48x1 {x0 x1 t0 r Γ} (h:(Zjx x0 x1) t0=some r):A prog Γ (lpC f48 21) [] (Rd (Ztj x0 x1) J48x1 r) ((Ztj x0 x1) t0).s:= go [] [rg 2 [(3,ln x0.Z3x)]]<|br h (fun h4 h=>bd h fun v3 e3 h=>go [5] [rg 4 [(3,ix e3)]]<|po<|bd h fun v4 e4 h=>pr 4 [(1,k (w29 e4))]<|sp h (fun h5 h=>pr 7 (gA h5 4 3 [(9,gs0 h5),(10,py h5)])<|pe<|goN [] []<|bT rfl<|go [] []<|dn h (i2 iR)) fun h5 h=> pr 3 (gC h5 4 3 [])<|sp h (fun h6 h=>bd h fun v5 e5 h=>pr 4 [(7,gw h6 g0),(8,gw h6 (k (w53 e5))),(9,gw h5 (py h6)),(10,pn h5)]<|pe<|goN [] []<|br h (fun h7 h=>go [] []<|dn h (i2 iR)) fun h7 h=> bd h fun v6 e6 h=>go [] [rg 3 [(1,n e6)]]<|nx h) fun h6 h=> pr 4 (gB h6 7 2 [(9,gw h5 (pn h6)),(10,pn h5)])<|pe<|goN [] []<|bF rfl<|bd h fun v7 e7 h=>go [] [rg 3 [(1,n e7)]]<|nx h) fun h4 h=> go [] []<|dn h (i1 iE)
theorem w48 {x0 x1 r} (h:Zge x0 x1=some r):Z08 prog 48 [.agg (Z2r x0),dI x1] (R48 r):= cs f48<|go [] [rg 0 [(0,bo)]]<|bd h fun q1 e8 h=>lp e8 wl48x1<|match q1,h with | .inl q0,h=>j1<|(qe<|goN [] []<|rt h) | .inr y0,h=>j2<|(qr h)
def R49 (y0:Bool):D:= .bool y0
def Zhr (t0:Int) (x0:Z1m) (t2:Int):Option (Ctl (Int) (Unit⊕Bool)):= if (decide (t2<t0)) then ((Z05 x0.Z3x t0).bind fun v2=> (Z05 x0.Z3x t2).bind fun v3=> if (v2.Z0f==v3.Z0f) then (some (.done (.inr true))) else ((some (IntKind.wrap .i64 (t2+1))).bind fun v4=> some (.next v4))) else (some (.done (.inl (()))))
def Zgk (x0:Z1m) (t0:Int):Option (Ctl (Int) (Unit⊕Bool)):= if (decide (t0<(x0.Z3x.length:Int))) then ((Z07 (Zhr t0 x0) Z09 0).bind fun q3=> match q3 with | .inl q2=>((some (IntKind.wrap .i64 (t0+1))).bind fun v5=> some (.next v5)) | .inr y1=>(some (.done (.inr y1)))) else (some (.done (.inl (()))))
def Zhm (x0:Z1m):Option (Bool):= (Z07 (Zgk x0) Z09 0).bind fun q5=> match q5 with | .inl q4=>(some false) | .inr y2=>(some y2)
def Zy5 (t0:Int) (x0:Z1m):Int→SL:= fun t2=>⟨30,[(1,.ptr (Z2r x0)),(3,dI t0),(4,dI t2)],[]⟩
def J49x2 (t0:Int) (x0:Z1m):JT (Unit⊕Bool):= ju (je 2 fun q2:Unit=>⟨30,[(1,.ptr (Z2r x0)),(3,dI t0)],[]⟩) (jr prog f49 R49)
theorem wl49x2 {t0 x0 t2 r Γ} (h:(Zhr t0 x0) t2=some r):A prog Γ (lpC f49 1317) [] (Rd (Zy5 t0 x0) (J49x2 t0 x0) r) ((Zy5 t0 x0) t2).s:= go [] []<|br h (fun h4 h=>bd h fun v2 e3 h=>bd h fun v3 e4 h=>go [] [rg 7 [(3,ix e3),(9,ix e4)]]<|br h (fun h5 h=>go [] []<|dn h (i2 iR)) fun h5 h=> bd h fun v4 e5 h=>go [] [rg 6 [(1,n e5)]]<|nx h) fun h4 h=> go [] []<|dn h (i1 iE)
def Zwk (x0:Z1m):Int→SL:= fun t0=>⟨30,[(1,.ptr (Z2r x0)),(3,dI t0)],[]⟩
def J49x1:JT (Unit⊕Bool):= ju (je 0 fun q4:Unit=>⟨30,[],[]⟩) (jr prog f49 R49)
theorem wl49x1 {x0 t0 r Γ} (h:(Zgk x0) t0=some r):A prog Γ (lpC f49 21) [] (Rd (Zwk x0) J49x1 r) ((Zwk x0) t0).s:= go [] [rg 2 [(3,ln x0.Z3x)]]<|br h (fun h1 h=>go [] []<|bd h fun q3 e6 h=>lp e6 wl49x2<|match q3,h with | .inl q2,h=>j1<|(qe<|bd h fun v5 e7 h=>goN [] [rg 3 [(1,n e7)]]<|nx h) | .inr y1,h=>j2<|(ql h fun _ _ p=>⟨(iS p).1,i2 ((iS p).2)⟩)) fun h1 h=> go [] []<|dn h (i1 iE)
theorem w49 {x0 r} (h:Zhm x0=some r):Z08 prog 49 [.agg (Z2r x0)] (R49 r):= cs f49<|go [] [rg 0 [(0,bo)]]<|bd h fun q5 e8 h=>lp e8 wl49x1<|match q5,h with | .inl q4,h=>j1<|(qe<|goN [] []<|rt h) | .inr y2,h=>j2<|(qr h)
def R28 (y0:Int):D:= .int .i64 y0
def Zgc (x0:List Z1m) (t0:Int):Option (Ctl (Int) (Unit⊕Int)):= if (decide (t0<(x0.length:Int))) then ((Z05 x0 t0).bind fun v2=> if (decide ((v2.Z5m.length:Int)>8)) then (some (.done (.inr 5))) else ((Z05 x0 t0).bind fun v3=> if (decide ((v3.Z3x.length:Int)>64)) then (some (.done (.inr 5))) else ((some (IntKind.wrap .i64 (t0+1))).bind fun v4=> some (.next v4)))) else (some (.done (.inl (()))))
def Zgb (t1:Int) (x0:List Z1m) (t3:Int):Option (Ctl (Int) (Unit⊕Int)):= (Z05 x0 t1).bind fun v21=> if (decide (t3<(v21.Z5m.length:Int))) then ((Z05 x0 t1).bind fun v22=> (Z05 v22.Z5m t3).bind fun v23=> if (decide (v23.f_To<0)) then (some (.done (.inr 2))) else ((Z05 x0 t1).bind fun v24=> (Z05 v24.Z5m t3).bind fun v25=> if (decide (v25.f_To≥t1)) then (some (.done (.inr 2))) else ((some (IntKind.wrap .i64 (t3+1))).bind fun v26=> some (.next v26)))) else (some (.done (.inl (()))))
def Zgm (x0:List Z1m) (t1:Int):Option (Ctl (Int) (Unit⊕Int)):= if (decide (t1<(x0.length:Int))) then ((Z07 (Zgb t1 x0) Z09 0).bind fun q5=> match q5 with | .inl q4=>((some (IntKind.wrap .i64 (t1+1))).bind fun v27=> some (.next v27)) | .inr y1=>(some (.done (.inr y1)))) else (some (.done (.inl (()))))
def Zkk (x0:List Z1m) (t4:Int):Option (Ctl (Int) (Unit⊕Int)):= if (decide (t4<(x0.length:Int))) then ((Z05 x0 t4).bind fun v30=> (Zge v30 t4).bind fun v31=> if (v31 !=0) then (some (.done (.inr v31))) else ((some (IntKind.wrap .i64 (t4+1))).bind fun v32=> some (.next v32))) else (some (.done (.inl (()))))
def Zij (x0:List Z1m) (t5:Int):Option (Ctl (Int) (Unit⊕Int)):= if (decide (t5<(x0.length:Int))) then ((Z05 x0 t5).bind fun v35=> (Zhm v35).bind fun v36=> if v36 then (some (.done (.inr 6))) else ((some (IntKind.wrap .i64 (t5+1))).bind fun v37=> some (.next v37))) else (some (.done (.inl (()))))
def j28x1 (x0:List Z1m):Option (Int):= (Z07 (Zgc x0) Z09 0).bind fun q1=> match q1 with | .inl q0=>((Z07 (Zgm x0) Z09 0).bind fun q7=> match q7 with | .inl q6=>((Z07 (Zkk x0) Z09 0).bind fun q9=> match q9 with | .inl q8=>((Z07 (Zij x0) Z09 0).bind fun q11=> match q11 with | .inl q10=>(some 0) | .inr y2=>(some y2)) | .inr y3=>(some y3)) | .inr y4=>(some y4)) | .inr y5=>(some y5)
def Zhb (x0:List Z1m):Option (Int):= if ((x0.length:Int)==0) then (some 5) else (if (decide ((x0.length:Int)>8)) then (some 5) else ((j28x1 x0)))
def Zr7 (x0:List Z1m):Int→SL:= fun t0=>⟨104,[(0,.sl false (x0.map Z2r)),(3,dI t0)],[]⟩
def J28x1 (x0:List Z1m):JT (Unit⊕Int):= ju (je 0 fun q0:Unit=>⟨104,[(0,.sl false (x0.map Z2r))],[]⟩) (jr prog f28 R28)
theorem wl28x1 {x0 t0 r Γ} (h:(Zgc x0) t0=some r):A prog Γ (lpC f28 43) [] (Rd (Zr7 x0) (J28x1 x0) r) ((Zr7 x0) t0).s:= go [] [rg 4 [(2,ln x0)]]<|br h (fun h5 h=>bd h fun v2 e2 h=>sp h (fun h6 h=>go [] [rg 6 [(2,ix e2),(5,ln v2.Z5m),(6,kb h6)]]<|bT rfl<|go [] []<|dn h (i2 iR)) fun h6 h=> bd h fun v3 e3 h=>go [] [rg 6 [(2,ix e2),(5,ln v2.Z5m),(6,kb h6),(10,ix e3),(13,ln v3.Z3x)]]<|br h (fun h7 h=>go [] []<|dn h (i2 iR)) fun h7 h=> bd h fun v4 e4 h=>go [] [rg 5 [(1,n e4)]]<|nx h) fun h5 h=> go [] []<|dn h (i1 iE)
def Zws (t1:Int) (x0:List Z1m):Int→SL:= fun t3=>⟨104,[(0,.sl false (x0.map Z2r)),(4,dI t1),(5,dI t3)],[]⟩
def J28x3 (t1:Int) (x0:List Z1m):JT (Unit⊕Int):= ju (je 4 fun q4:Unit=>⟨104,[(0,.sl false (x0.map Z2r)),(4,dI t1)],[]⟩) (jr prog f28 R28)
theorem wl28x3 {t1 x0 t3 r Γ} (h:(Zgb t1 x0) t3=some r):A prog Γ (lpC f28 5271) [] (Rd (Zws t1 x0) (J28x3 t1 x0) r) ((Zws t1 x0) t3).s:= bd h fun v21 e23 h=>go [] [rg 12 [(3,ix e23),(6,ln v21.Z5m)]]<|br h (fun h19 h=>bd h fun v22 e24 h=>bd h fun v23 e25 h=>sp h (fun h20 h=>go [] [rg 14 [(2,ix e24),(6,ix e25),(9,kb h20)]]<|bT rfl<|go [] []<|dn h (i2 iR)) fun h20 h=> bd h fun v24 e26 h=>bd h fun v25 e27 h=>go [] [rg 14 [(2,ix e24),(6,ix e25),(9,kb h20),(13,ix e26),(17,ix e27)]]<|br h (fun h21 h=>go [] []<|dn h (i2 iR)) fun h21 h=> bd h fun v26 e28 h=>go [] [rg 13 [(1,n e28)]]<|nx h) fun h19 h=> go [] []<|dn h (i1 iE)
def Zw7 (x0:List Z1m):Int→SL:= fun t1=>⟨104,[(0,.sl false (x0.map Z2r)),(4,dI t1)],[]⟩
def J28x2 (x0:List Z1m):JT (Unit⊕Int):= ju (je 2 fun q6:Unit=>⟨104,[(0,.sl false (x0.map Z2r))],[]⟩) (jr prog f28 R28)
theorem wl28x2 {x0 t1 r Γ} (h:(Zgm x0) t1=some r):A prog Γ (lpC f28 87) [] (Rd (Zw7 x0) (J28x2 x0) r) ((Zw7 x0) t1).s:= go [] [rg 9 [(2,ln x0)]]<|br h (fun h15 h=>go [] []<|bd h fun q5 e29 h=>lp e29 wl28x3<|match q5,h with | .inl q4,h=>j1<|(qe<|bd h fun v27 e30 h=>goN [] [rg 10 [(1,n e30)]]<|nx h) | .inr y1,h=>j2<|(ql h fun _ _ p=>⟨(iS p).1,i2 ((iS p).2)⟩)) fun h15 h=> go [] []<|dn h (i1 iE)
def Zyh (x0:List Z1m):Int→SL:= fun t4=>⟨104,[(0,.sl false (x0.map Z2r)),(6,dI t4)],[]⟩
def J28x4 (x0:List Z1m):JT (Unit⊕Int):= ju (je 6 fun q8:Unit=>⟨104,[(0,.sl false (x0.map Z2r))],[]⟩) (jr prog f28 R28)
theorem wl28x4 {x0 t4 r Γ} (h:(Zkk x0) t4=some r):A prog Γ (lpC f28 175) [] (Rd (Zyh x0) (J28x4 x0) r) ((Zyh x0) t4).s:= go [] [rg 17 [(2,ln x0)]]<|br h (fun h24 h=>bd h fun v30 e34 h=>bd h fun v31 e35 h=>go [] [rg 19 [(2,ix e34),(5,k (w48 e35))]]<|br h (fun h25 h=>go [] []<|dn h (i2 iR)) fun h25 h=> bd h fun v32 e36 h=>go [] [rg 18 [(1,n e36)]]<|nx h) fun h24 h=> go [] []<|dn h (i1 iE)
def Zvr (x0:List Z1m):Int→SL:= fun t5=>⟨104,[(0,.sl false (x0.map Z2r)),(8,dI t5)],[]⟩
def J28x5:JT (Unit⊕Int):= ju (je 8 fun q10:Unit=>⟨104,[],[]⟩) (jr prog f28 R28)
theorem wl28x5 {x0 t5 r Γ} (h:(Zij x0) t5=some r):A prog Γ (lpC f28 351) [] (Rd (Zvr x0) J28x5 r) ((Zvr x0) t5).s:= go [] [rg 23 [(2,ln x0)]]<|br h (fun h28 h=>bd h fun v35 e40 h=>bd h fun v36 e41 h=>go [] [rg 25 [(2,ix e40),(4,k (w49 e41))]]<|br h (fun h29 h=>go [] []<|dn h (i2 iR)) fun h29 h=> bd h fun v37 e42 h=>go [] [rg 24 [(1,n e42)]]<|nx h) fun h28 h=> go [] []<|dn h (i1 iE)
theorem wj28x1 {x0 r Γ} (h:(j28x1 x0)=some r):Jn prog f28 Γ (Den.Ends prog f28 (R28 r)) 19 ⟨104,[(0,.sl false (x0.map Z2r))],[]⟩:= so<|go [] []<|bd h fun q1 e5 h=>lp e5 wl28x1<|match q1,h with | .inl q0,h=>j1<|(qe<|goN [] []<|bd h fun q7 e31 h=>lp e31 wl28x2<|match q7,h with | .inl q6,h=>j1<|(qe<|goN [] []<|bd h fun q9 e37 h=>lp e37 wl28x4<|match q9,h with | .inl q8,h=>j1<|(qe<|goN [] []<|bd h fun q11 e43 h=>lp e43 wl28x5<|match q11,h with | .inl q10,h=>j1<|(qe<|goN [] []<|rt h) | .inr y2,h=>j2<|(qr h)) | .inr y3,h=>j2<|(qr h)) | .inr y4,h=>j2<|(qr h)) | .inr y5,h=>j2<|(qr h)
theorem w28 {x0 r} (h:Zhb x0=some r):Z08 prog 28 [.sl false (x0.map Z2r)] (R28 r):= cs f28<|sp h (fun h0 h=>go [] [rg 1 [(1,ln x0),(2,kb h0)]]<|bT rfl<|go [] []<|rt h) fun h0 h=> go [] [rg 1 [(1,ln x0),(2,kb h0),(5,ln x0)]]<|br h (fun h1 h=>go [] []<|rt h) fun h1 h=> go [3] []<|jn (wj28x1 h)
def R30 (y0:Bool):D:= .bool y0
def Zhi (v0:Z2s) (x0:Z0c) (x1 t0:Int):Option (Ctl (Int) (Unit⊕Bool)):= if (decide (t0<x1)) then ((Z05 x0.Z2l t0).bind fun v4=> if (v4.Z2u==v0.Z2u) then ((Z05 x0.Z2l t0).bind fun v5=> if (v5.Z0f==v0.Z0f) then (some (.done (.inr false))) else ((some (IntKind.wrap .i64 (t0+1))).bind fun v6=> some (.next v6))) else ((some (IntKind.wrap .i64 (t0+1))).bind fun v7=> some (.next v7))) else (some (.done (.inl (()))))
def j30x1 (v0:Z2s) (x0:Z0c) (x1:Int):Option (Bool):= (Z07 (Zhi v0 x0 x1) Z09 0).bind fun q1=> match q1 with | .inl q0=>(some true) | .inr y0=>(some y0)
def Zgh (x0:Z0c) (x1:Int):Option (Bool):= (Z05 x0.Z2l x1).bind fun v0=> if (decide (v0.Z2u<0)) then (some false) else (if (decide (v0.Z2u≥(x0.Z1y.length:Int))) then (some false) else (if (decide (v0.Z0k<0)) then (some false) else (if (decide (v0.Z0k≥(x0.Z0o.length:Int))) then (some false) else ((Z05 x0.Z0o v0.Z0k).bind fun v1=> if (!(v1.Z13.Z0f==v0.Z0f)) then (some false) else ((j30x1 v0 x0 x1))))))
def Zvk (v0:Z2s) (x0:Z0c) (x1:Int):Int→SL:= fun t0=>⟨74,[(1,dI x1),(2,.ptr (Z1d x0)),(5,.lptr 5 0 0),(6,dI t0)],[(5,{ sz:=3,rows:=[Z55 v0],frz:=0,pure:=false })]⟩
def J30x1:JT (Unit⊕Bool):= ju (je 0 fun q0:Unit=>⟨74,[],[]⟩) (jr prog f30 R30)
theorem wl30x1 {v0 x0 x1 t0 r Γ} (h:(Zhi v0 x0 x1) t0=some r):A prog Γ (lpC f30 87) [] (Rd (Zvk v0 x0 x1) J30x1 r) ((Zvk v0 x0 x1) t0).s:= go [] []<|br h (fun h8 h=>bd h fun v4 e4 h=>sp h (fun h9 h=>bd h fun v5 e5 h=>go [] [rg 7 [(3,ix e4),(8,kb h9),(13,ix e5)]]<|br h (fun h10 h=>go [] []<|dn h (i2 iR)) fun h10 h=> bd h fun v6 e6 h=>go [] [rg 6 [(1,n e6)]]<|nx h) fun h9 h=> go [] [rg 7 [(3,ix e4),(8,kb h9)]]<|bF rfl<|bd h fun v7 e7 h=>go [] [rg 6 [(1,n e7)]]<|nx h) fun h8 h=> go [] []<|dn h (i1 iE)
theorem wj30x1 {v0 x0 x1 r Γ} (h:(j30x1 v0 x0 x1)=some r):Jn prog f30 Γ (Den.Ends prog f30 (R30 r)) 39 ⟨74,[(1,dI x1),(2,.ptr (Z1d x0)),(5,.lptr 5 0 0)],[(5,{ sz:=3,rows:=[Z55 v0],frz:=0,pure:=false })]⟩:= so<|go [] []<|bd h fun q1 e8 h=>lp e8 wl30x1<|match q1,h with | .inl q0,h=>j1<|(qe<|goN [] []<|rt h) | .inr y0,h=>j2<|(qr h)
theorem w30 {x0 x1 r} (h:Zgh x0 x1=some r):Z08 prog 30 [.agg (Z1d x0),dI x1] (R30 r):= cs f30<|bd h fun v0 e0 h=>sp h (fun h0 h=>go [] [rg 0 [(0,bo)],rg 1 [(3,ix e0)],rg 2 [(2,kb h0)]]<|bT rfl<|go [] []<|rt h) fun h0 h=> sp h (fun h1 h=>go [] [rg 0 [(0,bo)],rg 1 [(3,ix e0)],rg 2 [(2,kb h0),(8,ln x0.Z1y),(9,kb h1)]]<|bT rfl<|go [] []<|rt h) fun h1 h=> sp h (fun h2 h=>go [] [rg 0 [(0,bo)],rg 1 [(3,ix e0)],rg 2 [(2,kb h0),(8,ln x0.Z1y),(9,kb h1),(14,kb h2)]]<|bT rfl<|go [] []<|rt h) fun h2 h=> sp h (fun h3 h=>go [] [rg 0 [(0,bo)],rg 1 [(3,ix e0)],rg 2 [(2,kb h0),(8,ln x0.Z1y),(9,kb h1),(14,kb h2),(21,ln x0.Z0o),(22,kb h3)]]<|bT rfl<|go [] []<|rt h) fun h3 h=> bd h fun v1 e1 h=>go [] [rg 0 [(0,bo)],rg 1 [(3,ix e0)],rg 2 [(2,kb h0),(8,ln x0.Z1y),(9,kb h1),(14,kb h2),(21,ln x0.Z0o),(22,kb h3),(29,ix e1)]]<|br h (fun h4 h=>go [] []<|rt h) fun h4 h=> go [4] []<|jn (wj30x1 h)
def R51 (y0:(List Bool)):D:= .sl false (y0.map Z39)
def Zkc (t2:Int×(List Bool)) (v33:Z4z):Option (Ctl (Int×(List Bool)) (((List Bool)))):= (Z3j v33.f_A t2.2.length).bind fun v40=> (t2.2[v40]?).bind fun v41=> (Z3j v33.f_B (t2.2.set v40 true).length).bind fun v42=> ((t2.2.set v40 true)[v42]?).bind fun v43=> (some (IntKind.wrap .i64 (t2.1+1))).bind fun v44=> some (.next (v44,((t2.2.set v40 true).set v42 true)))
def Zg5 (x0:Z0c) (x1:List UInt8) (t2:Int×(List Bool)):Option (Ctl (Int×(List Bool)) (((List Bool)))):= if (decide (t2.1<(x0.Z47.length:Int))) then ((Z05 x0.Z47 t2.1).bind fun v33=> if (v33.Z0f==x1) then ((Z3j v33.f_A t2.2.length).bind fun v34=> (t2.2[v34]?).bind fun v35=> if v35 then ((Zkc t2 v33)) else ((Z3j v33.f_B t2.2.length).bind fun v36=> (t2.2[v36]?).bind fun v37=> if v37 then ((Zkc t2 v33)) else ((some (IntKind.wrap .i64 (t2.1+1))).bind fun v38=> some (.next (v38,t2.2))))) else ((some (IntKind.wrap .i64 (t2.1+1))).bind fun v39=> some (.next (v39,t2.2)))) else (some (.done (t2.2)))
def Zia (x0:Z0c) (x1:List UInt8) (t0:Int×(List Bool)):Option (Ctl (Int×(List Bool)) (((List Bool)))):= if (decide (t0.1<(x0.Z1y.length:Int))) then ((Z07 (Zg5 x0 x1) Z09 (0,t0.2)).bind fun q2=> (some (IntKind.wrap .i64 (t0.1+1))).bind fun v45=> some (.next (v45,q2))) else (some (.done (t0.2)))
def Zj7 (x0:Z0c) (x1:List UInt8) (x2:Int):Option ((List Bool)):= (Z96 1 (x0.Z1y.length:Int) (x0.Z1y.length:Int)).bind fun v0=> (Z3j x2 (List.replicate (x0.Z1y.length:Int).toNat false).length).bind fun v1=> ((List.replicate (x0.Z1y.length:Int).toNat false)[v1]?).bind fun v2=> (Z07 (Zia x0 x1) Z09 (0,((List.replicate (x0.Z1y.length:Int).toNat false).set v1 true))).bind fun q4=> some q4
def Znl (t0:Int×(List Bool)) (x0:Z0c) (x1:List UInt8):(Int×(List Bool))→SL:= fun t2=>⟨64,[(1,.str x1),(3,.ptr (Z1d x0)),(7,.lsl 7 0 ((t2.2.map Z39).length)),(8,dI t0.1),(9,dI t2.1)],[(7,{ sz:=1,rows:=(t2.2.map Z39),frz:=0,pure:=true })]⟩
def J51x2 (t0:Int×(List Bool)) (x0:Z0c) (x1:List UInt8):JT (((List Bool))):= je 2 fun q2:(List Bool)=>⟨64,[(1,.str x1),(3,.ptr (Z1d x0)),(7,.lsl 7 0 ((q2.map Z39).length)),(8,dI t0.1)],[(7,{ sz:=1,rows:=(q2.map Z39),frz:=0,pure:=true })]⟩
theorem Zu5 (t0:Int×(List Bool)) (x0:Z0c) (x1:List UInt8) {t2 v33 r Γ} (h:(Zkc t2 v33)=some r):Jn prog f51 Γ (Rd (Znl t0 x0 x1) (J51x2 t0 x0 x1) r) 1254551 ⟨64,[(1,.str x1),(3,.ptr (Z1d x0)),(7,.lsl 7 0 ((t2.2.map Z39).length)),(8,dI t0.1),(9,dI t2.1),(10,.lptr 10 0 0)],[(7,{ sz:=1,rows:=(t2.2.map Z39),frz:=0,pure:=true }),(10,{ sz:=3,rows:=[Z5u v33],frz:=0,pure:=false })]⟩:= so<|bd h fun v40 e41 h=>bd h fun v41 e42 h=>go [12] [rg 11 [(3,ia 7 e41),(4,st e42 0 [.bool true] true)]]<|nm (congrArg (fun nn:Nat=>(⟨64,[(1,.str x1),(3,.ptr (Z1d x0)),(7,.lsl 7 0 nn),(8,dI t0.1),(9,dI t2.1),(10,.lptr 10 0 0)],[(7,{ sz:=1,rows:=((t2.2.set v40 true).map Z39),frz:=0,pure:=true }),(10,{ sz:=3,rows:=[Z5u v33],frz:=0,pure:=false })]⟩:SL)) (by simp only [List.length_map,List.length_set]:(t2.2.map Z39).length=((t2.2.set v40 true).map Z39).length))<|so<|bd h fun v42 e43 h=>bd h fun v43 e44 h=>go [8] [rg 12 [(3,ia 7 e43),(4,st e44 0 [.bool true] true)]]<|nm (congrArg (fun nn:Nat=>(⟨64,[(1,.str x1),(3,.ptr (Z1d x0)),(7,.lsl 7 0 nn),(8,dI t0.1),(9,dI t2.1)],[(7,{ sz:=1,rows:=(((t2.2.set v40 true).set v42 true).map Z39),frz:=0,pure:=true })]⟩:SL)) (by simp only [List.length_map,List.length_set]:((t2.2.set v40 true).map Z39).length=(((t2.2.set v40 true).set v42 true).map Z39).length))<|so<|bd h fun v44 e45 h=>go [] [rg 8 [(1,n e45)]]<|nx h
theorem wl51x2 (t0:Int×(List Bool)) {x0 x1 t2 r Γ} (h:(Zg5 x0 x1) t2=some r):A prog Γ (lpC f51 5271) [] (Rd (Znl t0 x0 x1) (J51x2 t0 x0 x1) r) ((Znl t0 x0 x1) t2).s:= go [] [rg 7 [(3,ln x0.Z47)]]<|br h (fun h14 h=>bd h fun v33 e34 h=>go [10] [rg 9 [(3,ix e34)]]<|po<|pr 5 []<|sp h (fun h15 h=>bd h fun v34 e35 h=>bd h fun v35 e36 h=>pr 6 (gC h15 5 3 [(8,gw h15 (ia 7 e35)),(9,gw h15 (lb e36)),(10,gw h15 g0)])<|sp h (fun h16 h=>pr 7 (gA h16 11 5 [(16,gw h15 (py h16)),(17,py h15)])<|pe<|goN [] []<|bT rfl<|go [11] []<|jn ((Zu5 t0 x0 x1) h)) fun h16 h=> bd h fun v36 e37 h=>bd h fun v37 e38 h=>pr 7 (gC h16 11 3 [(14,gw h16 (ia 7 e37)),(15,gw h16 (lb e38)),(16,gw h15 (pn h16)),(17,py h15)])<|pe<|goN [] []<|br h (fun h17 h=>go [11] []<|jn ((Zu5 t0 x0 x1) h)) fun h17 h=> bd h fun v38 e39 h=>go [] [rg 8 [(1,n e39)]]<|nx h) fun h15 h=> pr 13 (gB h15 5 6 [(16,gs1 h15),(17,pn h15)])<|pe<|goN [] []<|bF rfl<|bd h fun v39 e40 h=>go [] [rg 8 [(1,n e40)]]<|nx h) fun h14 h=> go [] []<|dn h (iE)
def Zv0 (x0:Z0c) (x1:List UInt8):(Int×(List Bool))→SL:= fun t0=>⟨64,[(1,.str x1),(3,.ptr (Z1d x0)),(7,.lsl 7 0 ((t0.2.map Z39).length)),(8,dI t0.1)],[(7,{ sz:=1,rows:=(t0.2.map Z39),frz:=0,pure:=true })]⟩
def J51x1:JT (((List Bool))):= je 0 fun q4:(List Bool)=>⟨64,[(7,.lsl 7 0 ((q4.map Z39).length))],[(7,{ sz:=1,rows:=(q4.map Z39),frz:=0,pure:=true })]⟩
theorem wl51x1 {x0 x1 t0 r Γ} (h:(Zia x0 x1) t0=some r):A prog Γ (lpC f51 87) [] (Rd (Zv0 x0 x1) J51x1 r) ((Zv0 x0 x1) t0).s:= go [] [rg 4 [(3,ln x0.Z1y)]]<|br h (fun h9 h=>go [] []<|bd h fun q2 e46 h=>lp e46 (wl51x2 t0)<|qe<|bd h fun v45 e47 h=>goN [] [rg 5 [(1,n e47)]]<|nx h) fun h9 h=> go [] []<|dn h (iE)
theorem w51 {x0 x1 x2 r} (h:Zj7 x0 x1 x2=some r):Z08 prog 51 [.agg (Z1d x0),.str x1,dI x2] (R51 r):= cs f51<|bd h fun v0 e0 h=>bd h fun v1 e1 h=>bd h fun v2 e2 h=>go [3] [rg 0 [(0,bo)],rg 1 [(2,ln x0.Z1y),(3,mk false e0)],rg 2 [(2,ia 14 e1),(3,st e2 0 [.bool true] true)]]<|nm (congrArg (fun nn:Nat=>(⟨64,[(1,.str x1),(3,.ptr (Z1d x0)),(7,.lsl 14 0 nn)],[(14,{ sz:=1,rows:=(((List.replicate (x0.Z1y.length:Int).toNat false).set v1 true).map Z39),frz:=0,pure:=true })]⟩:SL)) (by simp only [List.length_map,List.length_set]:((List.replicate (x0.Z1y.length:Int).toNat false).map Z39).length=(((List.replicate (x0.Z1y.length:Int).toNat false).set v1 true).map Z39).length))<|so<|go [] []<|bd h fun q4 e48 h=>lp (ps:=[(14,7)]) e48 wl51x1<|qe<|goN [] []<|rtB h (rw_ q4) (a2 (rpI q4) trivial) (by simp only [rwE] <;> kernel_rfl)
def R31 (y0:Bool):D:= .bool y0
def Zk0 (v0:Z2s) (v1:(List Bool)) (x0:Z0c) (x1 t0:Int):Option (Ctl (Int) (Unit⊕Bool)):= if (decide (t0<x1)) then ((Z05 x0.Z2l t0).bind fun v4=> if (v4.Z0f==v0.Z0f) then ((Z05 v1 v4.Z2u).bind fun v5=> if v5 then (if (v4.Z0k !=v0.Z0k) then (some (.done (.inr false))) else ((some (IntKind.wrap .i64 (t0+1))).bind fun v6=> some (.next v6))) else ((some (IntKind.wrap .i64 (t0+1))).bind fun v7=> some (.next v7))) else ((some (IntKind.wrap .i64 (t0+1))).bind fun v8=> some (.next v8))) else (some (.done (.inl (()))))
def Zgr (x0:Z0c) (x1:Int):Option (Bool):= (Z05 x0.Z2l x1).bind fun v0=> (Zj7 x0 v0.Z0f v0.Z2u).bind fun v1=> (Z07 (Zk0 v0 v1 x0 x1) Z09 0).bind fun q1=> match q1 with | .inl q0=>(some true) | .inr y0=>(some y0)
def Zs9 (v0:Z2s) (v1:(List Bool)) (x0:Z0c) (x1:Int):Int→SL:= fun t0=>⟨49,[(1,dI x1),(2,.ptr (Z1d x0)),(5,.lptr 5 0 0),(6,.sl false (v1.map Z39)),(7,dI t0)],[(5,{ sz:=3,rows:=[Z55 v0],frz:=0,pure:=false })]⟩
def J31x1:JT (Unit⊕Bool):= ju (je 0 fun q0:Unit=>⟨49,[],[]⟩) (jr prog f31 R31)
theorem wl31x1 {v0 v1 x0 x1 t0 r Γ} (h:(Zk0 v0 v1 x0 x1) t0=some r):A prog Γ (lpC f31 87) [] (Rd (Zs9 v0 v1 x0 x1) J31x1 r) ((Zs9 v0 v1 x0 x1) t0).s:= go [] []<|br h (fun h4 h=>bd h fun v4 e4 h=>go [7] [rg 6 [(3,ix e4)]]<|po<|pr 6 []<|sp h (fun h5 h=>bd h fun v5 e5 h=>pr 7 (gC h5 6 3 [(9,gw h5 (ix e5)),(10,gw h5 g0),(11,py h5)])<|sp h (fun h6 h=>pr 6 (gC h6 13 5 [(18,py h6)])<|pe<|goN [] []<|br h (fun h7 h=>go [] []<|dn h (i2 iR)) fun h7 h=> bd h fun v6 e6 h=>go [] [rg 5 [(1,n e6)]]<|nx h) fun h6 h=> pr 6 (gB h6 13 5 [(18,pn h6)])<|pe<|goN [] []<|bF rfl<|bd h fun v7 e7 h=>go [] [rg 5 [(1,n e7)]]<|nx h) fun h5 h=> pr 13 (gB h5 6 5 [(11,pn h5)])<|pe<|goN [] []<|bF rfl<|bd h fun v8 e8 h=>go [] [rg 5 [(1,n e8)]]<|nx h) fun h4 h=> go [] []<|dn h (i1 iE)
theorem w31 {x0 x1 r} (h:Zgr x0 x1=some r):Z08 prog 31 [.agg (Z1d x0),dI x1] (R31 r):= cs f31<|bd h fun v0 e0 h=>bd h fun v1 e1 h=>go [] [rg 0 [(0,bo)],rg 1 [(3,ix e0)],rg 2 [(5,k (w51 e1))]]<|bd h fun q1 e9 h=>lp e9 wl31x1<|match q1,h with | .inl q0,h=>j1<|(qe<|goN [] []<|rt h) | .inr y0,h=>j2<|(qr h)
def R74 (y0:Bool):D:= .bool y0
def Zi0 (x0:List Z0h) (t0:Int):Option (Ctl (Int) (Unit⊕Bool)):= if (decide (t0<(x0.length:Int))) then ((Z05 x0 t0).bind fun v1=> if (v1.Z42 !=0) then (some (.done (.inr false))) else ((some (IntKind.wrap .i64 (t0+1))).bind fun v2=> some (.next v2))) else (some (.done (.inl (()))))
def Zeh (x0:List Z0h):Option (Bool):= (Z07 (Zi0 x0) Z09 0).bind fun q1=> match q1 with | .inl q0=>(some true) | .inr y0=>(some y0)
def Zwj (x0:List Z0h):Int→SL:= fun t0=>⟨16,[(0,.sl false (x0.map Z1h)),(3,dI t0)],[]⟩
def J74x1:JT (Unit⊕Bool):= ju (je 0 fun q0:Unit=>⟨16,[],[]⟩) (jr prog f74 R74)
theorem wl74x1 {x0 t0 r Γ} (h:(Zi0 x0) t0=some r):A prog Γ (lpC f74 21) [] (Rd (Zwj x0) J74x1 r) ((Zwj x0) t0).s:= go [] [rg 2 [(2,ln x0)]]<|br h (fun h2 h=>bd h fun v1 e1 h=>go [] [rg 4 [(2,ix e1)]]<|br h (fun h3 h=>go [] []<|dn h (i2 iR)) fun h3 h=> bd h fun v2 e2 h=>go [] [rg 3 [(1,n e2)]]<|nx h) fun h2 h=> go [] []<|dn h (i1 iE)
theorem w74 {x0 r} (h:Zeh x0=some r):Z08 prog 74 [.sl false (x0.map Z1h)] (R74 r):= cs f74<|go [] []<|bd h fun q1 e3 h=>lp e3 wl74x1<|match q1,h with | .inl q0,h=>j1<|(qe<|goN [] []<|rt h) | .inr y0,h=>j2<|(qr h)
def R67 (y0:Bool):D:= .bool y0
def Zko (t0 : Int) (v1:Z1b) (p1:Bool):Option (Ctl (Int) (Unit⊕Bool)):= if (!p1) then (if (v1.Z3g !=8) then (if (v1.Z3g !=0) then (some (.done (.inr false))) else (if (v1.f_N !=0) then (some (.done (.inr false))) else (if (!(v1.f_S==([]:List UInt8))) then (some (.done (.inr false))) else ((some (IntKind.wrap .i64 (t0+1))).bind fun v2=> some (.next v2))))) else (if (v1.f_N !=0) then (some (.done (.inr false))) else (if (!(v1.f_S==([]:List UInt8))) then ((some (IntKind.wrap .i64 (t0+1))).bind fun v3=> some (.next v3)) else ((some (IntKind.wrap .i64 (t0+1))).bind fun v4=> some (.next v4))))) else (if (v1.f_N !=0) then (if (!(v1.f_S==([]:List UInt8))) then (if (v1.Z3g !=8) then (some (.done (.inr false))) else ((some (IntKind.wrap .i64 (t0+1))).bind fun v5=> some (.next v5))) else ((some (IntKind.wrap .i64 (t0+1))).bind fun v6=> some (.next v6))) else (if (!(v1.f_S==([]:List UInt8))) then (if (v1.Z3g !=8) then (some (.done (.inr false))) else ((some (IntKind.wrap .i64 (t0+1))).bind fun v7=> some (.next v7))) else ((some (IntKind.wrap .i64 (t0+1))).bind fun v8=> some (.next v8))))
def Zj4 (x0:Z0m) (t0:Int):Option (Ctl (Int) (Unit⊕Bool)):= if (decide (t0<(x0.Z0g.length:Int))) then ((Z05 x0.Z0g t0).bind fun v1=> if (v1.Z3g==3) then ((Zko t0 v1) true) else ((Zko t0 v1) (v1.Z3g==5))) else (some (.done (.inl (()))))
def Zjm (v26:Z2n) (t4:Int):Option (Ctl (Int) (Unit⊕Bool)):= if (decide (t4<(v26.Z27.Z1w.length:Int))) then ((Z05 v26.Z27.Z1w t4).bind fun v32=> if (v32.Z0k !=0) then (some (.done (.inr false))) else ((some (IntKind.wrap .i64 (t4+1))).bind fun v33=> some (.next v33))) else (some (.done (.inl (()))))
def Zjh (v26:Z2n) (t5:Int):Option (Ctl (Int) (Unit⊕Bool)):= if (decide (t5<(v26.Z27.Z1f.length:Int))) then ((Z05 v26.Z27.Z1f t5).bind fun v38=> (Zeh v38.Z1i.Z0u).bind fun v39=> if (!v39) then (some (.done (.inr false))) else ((Z05 v26.Z27.Z1f t5).bind fun v40=> (Zeh v40.Z1i.Z0z).bind fun v41=> if (!v41) then (some (.done (.inr false))) else ((some (IntKind.wrap .i64 (t5+1))).bind fun v42=> some (.next v42)))) else (some (.done (.inl (()))))
def Zih (t1:Int) (v26:Z2n):Option (Ctl (Int) (Unit⊕Bool)):= (Z07 (Zjm v26) Z09 0).bind fun q7=> match q7 with | .inl q6=>((Z07 (Zjh v26) Z09 0).bind fun q9=> match q9 with | .inl q8=>((some (IntKind.wrap .i64 (t1+1))).bind fun v43=> some (.next v43)) | .inr y2=>(some (.done (.inr y2)))) | .inr y3=>(some (.done (.inr y3)))
def Zi6 (x0 : Z0m) (t1:Int):Option (Ctl (Int) (Unit⊕Bool)):= if (decide (t1<(x0.Z10.length:Int))) then ((Z05 x0.Z10 t1).bind fun v26=> (Z05 x0.Z10 t1).bind fun v27=> if (!v27.Z8u) then (if (v26.Z27.Z0z !=0) then (some (.done (.inr false))) else (if (v26.Z27.Z0u !=0) then (some (.done (.inr false))) else ((some (IntKind.wrap .i64 ((v26.Z27.Z0j.length:Int)+(v26.Z27.Z1w.length:Int)))).bind fun v28=> (some (IntKind.wrap .i64 (v28+(v26.Z27.Z1f.length:Int)))).bind fun v29=> (some (IntKind.wrap .i64 (v29+(v26.Z27.Z1r.length:Int)))).bind fun v30=> if (decide (v30>0)) then (some (.done (.inr false))) else ((Zih t1 v26))))) else ((Zih t1 v26))) else (some (.done (.inl (()))))
def Zjl (x0:Z0m):Option (Bool):= (Z07 (Zj4 x0) Z09 0).bind fun q1=> match q1 with | .inl q0=>((Z07 (Zi6 x0) Z09 0).bind fun q11=> match q11 with | .inl q10=>(some true) | .inr y4=>(some y4)) | .inr y5=>(some y5)
def Zpu (x0:Z0m):Int→SL:= fun t0=>⟨150,[(1,.ptr (Z2i x0)),(3,dI t0)],[]⟩
def J67x1 (x0:Z0m):JT (Unit⊕Bool):= ju (je 0 fun q0:Unit=>⟨150,[(1,.ptr (Z2i x0))],[]⟩) (jr prog f67 R67)
theorem Zui (x0:Z0m) {t0 v1 p1 r Γ} (h:(Zko t0 v1) p1=some r):Jn prog f67 Γ (Rd (Zpu x0) (J67x1 x0) r) 2853 ⟨150,[(1,.ptr (Z2i x0)),(3,dI t0),(4,.lptr 4 0 0),(5,.bool p1)],[(4,{ sz:=6,rows:=[Z5p v1],frz:=0,pure:=false })]⟩:= po <| pr 3 []<|sp h (fun h16 h=>pr 5 (gC h16 3 3 [(6,py h16)])<|sp h (fun h17 h=>pr 5 (gC h17 8 3 [(11,py h17)])<|sp h (fun h18 h=>pr 18 (gA h18 13 4 [(19,gs0 h18),(20,py h18)])<|pe<|goN [] []<|bT rfl<|go [] []<|dn h (i2 iR)) fun h18 h=> pr 4 (gC h18 13 4 [])<|sp h (fun h19 h=>pr 14 (gC h19 17 2 ((19,gw h18 (py h19))::(20,pn h18)::gA h16 22 4 [(29,gs0 h16),(30,py h16)]))<|pe<|goN [] []<|bT rfl<|go [] []<|dn h (i2 iR)) fun h19 h=> pr 9 (gB h19 17 2 [(19,gw h18 (pn h19)),(20,pn h18)])<|sp h (fun h20 h=>pr 5 (gC h20 26 2 [(28,gw h20 (kb h17)),(29,py h20)])<|pe<|goN [] []<|bT rfl<|go [] []<|dn h (i2 iR)) fun h20 h=> pr 5 (gB h20 26 3 [(29,pn h20)])<|pe<|goN [] []<|bF rfl<|bd h fun v2 e2 h=>go [] [rg 3 [(1,n e2)]]<|nx h) fun h17 h=> pr 9 (gB h17 8 3 [(11,pn h17)])<|sp h (fun h21 h=>pr 14 (gC h21 17 2 ((19,py h21)::gA h16 22 4 [(29,gs0 h16),(30,py h16)]))<|pe<|goN [] []<|bT rfl<|go [] []<|dn h (i2 iR)) fun h21 h=> pr 9 (gB h21 17 2 [(19,pn h21)])<|sp h (fun h22 h=>pr 5 (gC h22 26 2 [(28,gw h22 (kb h17)),(29,py h22)])<|pe<|goN [] []<|bF rfl<|bd h fun v3 e3 h=>go [] [rg 3 [(1,n e3)]]<|nx h) fun h22 h=> pr 5 (gB h22 26 3 [(29,pn h22)])<|pe<|goN [] []<|bF rfl<|bd h fun v4 e4 h=>go [] [rg 3 [(1,n e4)]]<|nx h) fun h16 h=> pr 14 (gB h16 3 3 [(6,pn h16)])<|sp h (fun h23 h=>pr 9 (gC h23 17 2 ((19,py h23)::gC h16 22 4 []))<|sp h (fun h24 h=>pr 5 (gC h24 26 3 [(29,gw h16 (py h24)),(30,pn h16)])<|pe<|goN [] []<|br h (fun h25 h=>go [] []<|dn h (i2 iR)) fun h25 h=> bd h fun v5 e5 h=>go [] [rg 3 [(1,n e5)]]<|nx h) fun h24 h=> pr 5 (gB h24 26 3 [(29,gw h16 (pn h24)),(30,pn h16)])<|pe<|goN [] []<|bF rfl<|bd h fun v6 e6 h=>go [] [rg 3 [(1,n e6)]]<|nx h) fun h23 h=> pr 9 (gB h23 17 2 [(19,pn h23)])<|sp h (fun h26 h=>pr 5 (gC h26 26 3 [(29,py h26)])<|pe<|goN [] []<|br h (fun h27 h=>go [] []<|dn h (i2 iR)) fun h27 h=> bd h fun v7 e7 h=>go [] [rg 3 [(1,n e7)]]<|nx h) fun h26 h=> pr 5 (gB h26 26 3 [(29,pn h26)])<|pe<|goN [] []<|bF rfl<|bd h fun v8 e8 h=>go [] [rg 3 [(1,n e8)]]<|nx h
theorem wl67x1 {x0 t0 r Γ} (h:(Zj4 x0) t0=some r):A prog Γ (lpC f67 21) [] (Rd (Zpu x0) (J67x1 x0) r) ((Zpu x0) t0).s:= go [] [rg 2 [(3,ln x0.Z0g)]]<|br h (fun h14 h=>bd h fun v1 e1 h=>sp h (fun h15 h=>go [6] [rg 4 [(3,ix e1)],rg 5 [(2,kb h15)]]<|jn ((Zui x0) h)) fun h15 h=> go [6] [rg 4 [(3,ix e1)],rg 5 [(2,kb h15)]]<|jn ((Zui x0) h)) fun h14 h=> go [] []<|dn h (i1 iE)
def Zs5 (t1:Int) (v26:Z2n) (x0:Z0m):Int→SL:= fun t4=>⟨150,[(1,.ptr (Z2i x0)),(6,dI t1),(7,.lptr 7 0 0),(8,dI t4)],[(7,{ sz:=6,rows:=[Z0v v26.Z27],frz:=0,pure:=false })]⟩
def J67x3 (t1:Int) (v26:Z2n) (x0:Z0m):JT (Unit⊕Bool):= ju (je 4 fun q6:Unit=>⟨150,[(1,.ptr (Z2i x0)),(6,dI t1),(7,.lptr 7 0 0)],[(7,{ sz:=6,rows:=[Z0v v26.Z27],frz:=0,pure:=false })]⟩) (jr prog f67 R67)
theorem wl67x3 (t1:Int) (x0:Z0m) {v26 t4 r Γ} (h:(Zjm v26) t4=some r):A prog Γ (lpC f67 22091) [] (Rd (Zs5 t1 v26 x0) (J67x3 t1 v26 x0) r) ((Zs5 t1 v26 x0) t4).s:= go [] [rg 15 [(3,ln v26.Z27.Z1w)]]<|br h (fun h50 h=>bd h fun v32 e35 h=>go [] [rg 17 [(3,ix e35)]]<|br h (fun h51 h=>go [] []<|dn h (i2 iR)) fun h51 h=> bd h fun v33 e36 h=>go [] [rg 16 [(1,n e36)]]<|nx h) fun h50 h=> go [] []<|dn h (i1 iE)
def Zq6 (t1:Int) (v26:Z2n) (x0:Z0m):Int→SL:= fun t5=>⟨150,[(1,.ptr (Z2i x0)),(6,dI t1),(7,.lptr 7 0 0),(9,dI t5)],[(7,{ sz:=6,rows:=[Z0v v26.Z27],frz:=0,pure:=false })]⟩
def J67x4 (t1:Int) (x0:Z0m):JT (Unit⊕Bool):= ju (je 6 fun q8:Unit=>⟨150,[(1,.ptr (Z2i x0)),(6,dI t1)],[]⟩) (jr prog f67 R67)
theorem wl67x4 (t1:Int) (x0:Z0m) {v26 t5 r Γ} (h:(Zjh v26) t5=some r):A prog Γ (lpC f67 24139) [] (Rd (Zq6 t1 v26 x0) (J67x4 t1 x0) r) ((Zq6 t1 v26 x0) t5).s:= go [] [rg 20 [(3,ln v26.Z27.Z1f)]]<|br h (fun h55 h=>bd h fun v38 e42 h=>bd h fun v39 e43 h=>sp h (fun h56 h=>go [] [rg 22 ((3,ix e42)::(7,k (w74 e43))::gA h56 10 9 [(19,py h56)])]<|bT rfl<|go [] []<|dn h (i2 iR)) fun h56 h=> bd h fun v40 e44 h=>bd h fun v41 e45 h=>go [] [rg 22 ((3,ix e42)::(7,k (w74 e43))::gC h56 10 3 ((13,gw h56 (ix e44))::gC h56 14 3 [(17,gw h56 (k (w74 e45))),(18,gw h56 g0),(19,pn h56)]))]<|br h (fun h57 h=>go [] []<|dn h (i2 iR)) fun h57 h=> bd h fun v42 e46 h=>go [] [rg 21 [(1,n e46)]]<|nx h) fun h55 h=> go [] []<|dn h (i1 iE)
def Znt (x0:Z0m):Int→SL:= fun t1=>⟨150,[(1,.ptr (Z2i x0)),(6,dI t1)],[]⟩
def J67x2:JT (Unit⊕Bool):= ju (je 2 fun q10:Unit=>⟨150,[],[]⟩) (jr prog f67 R67)
theorem Zvn (x0:Z0m) {t1 v26 r Γ} (h:(Zih t1 v26)=some r):Jn prog f67 Γ (Rd (Znt x0) J67x2 r) 9803 ⟨150,[(1,.ptr (Z2i x0)),(6,dI t1),(7,.lptr 7 0 0)],[(7,{ sz:=6,rows:=[Z0v v26.Z27],frz:=0,pure:=false })]⟩:= so<|go [] []<|bd h fun q7 e37 h=>lp e37 (wl67x3 t1 x0)<|match q7,h with | .inl q6,h=>j1<|(qe<|goN [] []<|bd h fun q9 e47 h=>lp e47 (wl67x4 t1 x0)<|match q9,h with | .inl q8,h=>j1<|(qe<|bd h fun v43 e48 h=>goN [] [rg 10 [(1,n e48)]]<|nx h) | .inr y2,h=>j2<|(ql h fun _ _ p=>⟨(iS p).1,i2 ((iS p).2)⟩)) | .inr y3,h=>j2<|(ql h fun _ _ p=>⟨(iS p).1,i2 ((iS p).2)⟩)
theorem wl67x2 {x0 t1 r Γ} (h:(Zi6 x0) t1=some r):A prog Γ (lpC f67 43) [] (Rd (Znt x0) J67x2 r) ((Znt x0) t1).s:= go [] [rg 9 [(3,ln x0.Z10)]]<|br h (fun h43 h=>bd h fun v26 e29 h=>go [12] [rg 11 [(3,ix e29)]]<|po<|bd h fun v27 e30 h=>pr 8 [(3,ix e30)]<|sp h (fun h44 h=>pr 4 (gC h44 8 4 [])<|sp h (fun h45 h=>pr 23 (gA h45 12 3 [(15,gw h44 (py h45)),(16,gw h44 g0),(33,gw h44 g0),(34,py h44)])<|pe<|goN [] []<|bT rfl<|go [] []<|dn h (i2 iR)) fun h45 h=> pr 5 (gC h45 12 3 [(15,gw h44 (pn h45)),(16,gw h44 g0)])<|sp h (fun h46 h=>pr 18 (gA h46 17 16 [(33,gw h44 (py h46)),(34,py h44)])<|pe<|goN [] []<|bT rfl<|go [] []<|dn h (i2 iR)) fun h46 h=> bd h fun v28 e31 h=>bd h fun v29 e32 h=>bd h fun v30 e33 h=>pr 18 (gC h46 17 2 ((19,gw h46 (ln v26.Z27.Z0j))::gC h46 20 2 ((22,gw h46 (ln v26.Z27.Z1w))::(23,gw h46 (n e31))::gC h46 24 2 ((26,gw h46 (ln v26.Z27.Z1f))::(27,gw h46 (n e32))::gC h46 28 2 [(30,gw h46 (ln v26.Z27.Z1r)),(31,gw h46 (n e33)),(32,gw h46 g0),(33,gw h44 (pn h46)),(34,py h44)]))))<|pe<|goN [] []<|br h (fun h47 h=>go [] []<|dn h (i2 iR)) fun h47 h=> go [14] []<|jn ((Zvn x0) h)) fun h44 h=> pr 27 (gB h44 8 4 (gB h44 15 2 [(33,gs1 h44),(34,pn h44)]))<|pe<|goN [] []<|bF rfl<|go [14] []<|jn ((Zvn x0) h)) fun h43 h=> go [] []<|dn h (i1 iE)
theorem w67 {x0 r} (h:Zjl x0=some r):Z08 prog 67 [.agg (Z2i x0)] (R67 r):= cs f67<|go [] [rg 0 [(0,bo)]]<|bd h fun q1 e9 h=>lp e9 wl67x1<|match q1,h with | .inl q0,h=>j1<|(qe<|goN [] []<|bd h fun q11 e49 h=>lp e49 wl67x2<|match q11,h with | .inl q10,h=>j1<|(qe<|goN [] []<|rt h) | .inr y4,h=>j2<|(qr h)) | .inr y5,h=>j2<|(qr h)
def R98 (y0:(List Z00)×Int×Int):D:= .tup [.sl false (y0.1.map Z06),.int .i64 y0.2.1,.int .i64 y0.2.2]
def Zf2 (x0:List Z00) (x1:Z00) (t0:Int):Option (Ctl (Int) (Unit⊕((List Z00)×Int×Int))):= if (decide (t0<(x0.length:Int))) then ((Z05 x0 t0).bind fun v1=> if (Zl1 v1 x1) then ((some (IntKind.wrap .i64 (t0+1))).bind fun v2=> some (.done (.inr (x0,v2,0)))) else ((some (IntKind.wrap .i64 (t0+1))).bind fun v3=> some (.next v3))) else (some (.done (.inl (()))))
def Z5w (x0:List Z00) (x1:Z00):Option ((List Z00)×Int×Int):= (Z07 (Zf2 x0 x1) Z09 0).bind fun q1=> match q1 with | .inl q0=>(if (decide ((x0.length:Int)≥1000)) then (some (x0,0,5)) else ((some (IntKind.wrap .i64 ((x0.length:Int)+1))).bind fun v4=> (Z1l 48 (([]:List Z00)++x0).length).bind fun v5=> (Z1l 48 ((([]:List Z00)++x0)++[x1]).length).bind fun v6=> some (((([]:List Z00)++x0)++[x1]),v4,0))) | .inr y0=>(some y0)
def Zyn (x0:List Z00) (x1:Z00):Int→SL:= fun t0=>⟨36,[(0,.sl false (x0.map Z06)),(3,.ptr (Z06 x1)),(7,dI t0)],[]⟩
def J98x1 (x0:List Z00) (x1:Z00):JT (Unit⊕((List Z00)×Int×Int)):= ju (je 0 fun q0:Unit=>⟨36,[(0,.sl false (x0.map Z06)),(3,.ptr (Z06 x1))],[]⟩) (jr prog f98 R98)
theorem wl98x1 {x0 x1 t0 r Γ} (h:(Zf2 x0 x1) t0=some r):A prog Γ (lpC f98 21) [] (Rd (Zyn x0 x1) (J98x1 x0 x1) r) ((Zyn x0 x1) t0).s:= go [] [rg 2 [(2,ln x0)]]<|br h (fun h2 h=>bd h fun v1 e1 h=>go [] [rg 4 [(2,ix e1),(5,qs eqg_171 eqp_171 (Zl1 v1 x1))]]<|br h (fun h3 h=>bd h fun v2 e2 h=>go [] [rg 5 [(2,n e2)]]<|dn h (i2 iR)) fun h3 h=> bd h fun v3 e3 h=>go [] [rg 3 [(1,n e3)]]<|nx h) fun h2 h=> go [] []<|dn h (i1 iE)
theorem w98 {x0 x1 r} (h:Z5w x0 x1=some r):Z08 prog 98 [.sl false (x0.map Z06),.agg (Z06 x1)] (R98 r):= cs f98<|go [] [rg 0 [(0,bo)]]<|bd h fun q1 e4 h=>lp e4 wl98x1<|match q1,h with | .inl q0,h=>j1<|(qe<|goN [] [rg 6 [(1,ln x0)]]<|br h (fun h4 h=>go [] []<|rt h) fun h4 h=> bd h fun v4 e5 h=>bd h fun v5 e6 h=>bd h fun v6 e7 h=>go [] [rgq 8 [(7,ln x0),(8,n e5),(0,br0 0 5),(4,br0 1 5),(2,an fr0 e6),(5,ap e7)] [1,3,6,7,8,0,4,2,5,9,10,11] [2,5,1003,1006,1007,1008,2004,1004]]<|rtB h (.tup [rw_ ((([]:List Z00)++x0)++[x1]),dI v4,dI 0]) (a2 (rpI ((([]:List Z00)++x0)++[x1])) (a2 trivial (a2 trivial trivial))) (by simp only [rwE] <;> kernel_rfl)) | .inr y0,h=>j2<|(qr h)
def R96 (y0:(List Z00)×Int×Int):D:= .tup [.sl false (y0.1.map Z06),.int .i64 y0.2.1,.int .i64 y0.2.2]
def Z6f (x0:List Z00) (x1:List UInt8):Option ((List Z00)×Int×Int):= (Z5w x0 (Z00.mk 1 x1 0 0 0)).bind fun v0=> some (v0.1,v0.2.1,v0.2.2)
theorem w96 {x0 x1 r} (h:Z6f x0 x1=some r):Z08 prog 96 [.sl false (x0.map Z06),.str x1] (R96 r):= cs f96<|bd h fun v0 e0 h=>go [] [rg 1 [(3,k (w98 e0))]]<|rt h
def R124 (y0:(List Z00)×Int×Int):D:= .tup [.sl false (y0.1.map Z06),.int .i64 y0.2.1,.int .i64 y0.2.2]
def Zac (x0:List Z00) (x1:Int) (x2:List UInt8):Option ((List Z00)×Int×Int):= (Z6f x0 x2).bind fun v0=> if (v0.2.2 !=0) then (some (x0,0,v0.2.2)) else ((Z5w v0.1 (Z00.mk x1 [] 0 v0.2.1 0)).bind fun v1=> if (v1.2.2 !=0) then (some (x0,0,v1.2.2)) else (some (v1.1,v1.2.1,0)))
theorem w124 {x0 x1 x2 r} (h:Zac x0 x1 x2=some r):Z08 prog 124 [.sl false (x0.map Z06),dI x1,.str x2] (R124 r):= cs f124<|bd h fun v0 e0 h=>go [] [rg 1 [(2,k (w96 e0))]]<|br h (fun h0 h=>go [] []<|rt h) fun h0 h=> bd h fun v1 e1 h=>go [] [rg 4 [(4,k (w98 e1))]]<|br h (fun h1 h=>go [] []<|rt h) fun h1 h=> go [] []<|rt h
def R95 (y0:(List Z00)×Int×Int):D:= .tup [.sl false (y0.1.map Z06),.int .i64 y0.2.1,.int .i64 y0.2.2]
def Z8c (x0:List Z00) (x1:List UInt8):Option ((List Z00)×Int×Int):= (Zac x0 7 x1).bind fun v0=> some (v0.1,v0.2.1,v0.2.2)
theorem w95 {x0 x1 r} (h:Z8c x0 x1=some r):Z08 prog 95 [.sl false (x0.map Z06),.str x1] (R95 r):= cs f95<|bd h fun v0 e0 h=>go [] [rg 1 [(2,k (w124 e0))]]<|rt h
def B75 (y0:Z0i×Int):List Blk:=[{ sz:=2,rows:=[Z3e y0.1],frz:=0,pure:=false,pin:=some 0 }]
def R75 (y0:Z0i×Int):D:= .int .i64 y0.2
def Z76 (x0:Z0i) (x1:List UInt8):Option (Z0i×Int):= if (x0.f_E !=0) then (some (x0,0)) else ((Z8c x0.f_P x1).bind fun v0=> some ((Z0i.mk v0.1 v0.2.2),v0.2.1))
theorem w75 {x0 x1 r} (h:Z76 x0 x1=some r):Z4e prog 75 [.lptr 0 0 0,.str x1] [{ sz:=2,rows:=[Z3e x0],frz:=0,pure:=false,pin:=some 0 }] (R75 r) (B75 r):= csO f75 (m:=1) (keep:=[true])<|go [] []<|br h (fun h0 h=>go [] []<|rtO h (dI 0) [{ sz:=2,rows:=[Z3e x0],frz:=0,pure:=false,pin:=some 0 }] (a2 trivial trivial) rfl) fun h0 h=> bd h fun v0 e0 h=>go [] [rg 3 [(5,k (w95 e0))]]<|rtO h (dI v0.2.1) [{ sz:=2,rows:=[[.sl false (v0.1.map Z06),dI v0.2.2]],frz:=0,pure:=false,pin:=some 0 }] (a2 trivial trivial) rfl
def B76 (y0:Z0i×Int):List Blk:=[{ sz:=2,rows:=[Z3e y0.1],frz:=0,pure:=false,pin:=some 0 }]
def R76 (y0:Z0i×Int):D:= .int .i64 y0.2
def Z4x (x0:Z0i) (x1:List UInt8):Option (Z0i×Int):= if (x0.f_E !=0) then (some (x0,0)) else ((Z6f x0.f_P x1).bind fun v0=> some ((Z0i.mk v0.1 v0.2.2),v0.2.1))
theorem w76 {x0 x1 r} (h:Z4x x0 x1=some r):Z4e prog 76 [.lptr 0 0 0,.str x1] [{ sz:=2,rows:=[Z3e x0],frz:=0,pure:=false,pin:=some 0 }] (R76 r) (B76 r):= csO f76 (m:=1) (keep:=[true])<|go [] []<|br h (fun h0 h=>go [] []<|rtO h (dI 0) [{ sz:=2,rows:=[Z3e x0],frz:=0,pure:=false,pin:=some 0 }] (a2 trivial trivial) rfl) fun h0 h=> bd h fun v0 e0 h=>go [] [rg 3 [(5,k (w96 e0))]]<|rtO h (dI v0.2.1) [{ sz:=2,rows:=[[.sl false (v0.1.map Z06),dI v0.2.2]],frz:=0,pure:=false,pin:=some 0 }] (a2 trivial trivial) rfl
def R97 (y0:(List Z00)×Int×Int):D:= .tup [.sl false (y0.1.map Z06),.int .i64 y0.2.1,.int .i64 y0.2.2]
def Z9v (x0:List Z00) (x1:List UInt8):Option ((List Z00)×Int×Int):= (Zac x0 8 x1).bind fun v0=> some (v0.1,v0.2.1,v0.2.2)
theorem w97 {x0 x1 r} (h:Z9v x0 x1=some r):Z08 prog 97 [.sl false (x0.map Z06),.str x1] (R97 r):= cs f97<|bd h fun v0 e0 h=>go [] [rg 1 [(2,k (w124 e0))]]<|rt h
def B78 (y0:Z0i×Int):List Blk:=[{ sz:=2,rows:=[Z3e y0.1],frz:=0,pure:=false,pin:=some 0 }]
def R78 (y0:Z0i×Int):D:= .int .i64 y0.2
def Zdv (p0:List Z00) (p1 p2:Int):Option (Z0i×Int):= some ((Z0i.mk p0 p2),p1)
def Zc3 (x0:Z0i) (x1:Z1b):Option (Z0i×Int):= if (x0.f_E !=0) then (some (x0,0)) else (if (x1.Z3g==8) then ((Z9v x0.f_P x1.f_S).bind fun v0=> Zdv v0.1 v0.2.1 v0.2.2) else ((Z5w x0.f_P (Z00.mk x1.Z3g [] x1.f_N 0 0)).bind fun v1=> Zdv v1.1 v1.2.1 v1.2.2))
theorem Zr2 (x0:Z0i) {p0 p1 p2 r Γ} (h:Zdv p0 p1 p2=some r):Jn prog f78 Γ (Zbx prog f78 1 [true] (R78 r) (B78 r)) 47 ⟨54,[(0,.lptr 0 0 0),(5,.sl false (p0.map Z06)),(6,dI p1),(7,dI p2)],[(0,{ sz:=2,rows:=[Z3e x0],frz:=0,pure:=false,pin:=some 0 })]⟩:= so<|go [] []<|rtO h (dI p1) [{ sz:=2,rows:=[[.sl false (p0.map Z06),dI p2]],frz:=0,pure:=false,pin:=some 0 }] (a2 trivial trivial) rfl
theorem w78 {x0 x1 r} (h:Zc3 x0 x1=some r):Z4e prog 78 [.lptr 0 0 0,.agg (Z5p x1)] [{ sz:=2,rows:=[Z3e x0],frz:=0,pure:=false,pin:=some 0 }] (R78 r) (B78 r):= csO f78 (m:=1) (keep:=[true])<|go [] [rg 0 [(0,bo)]]<|br h (fun h0 h=>go [] []<|rtO h (dI 0) [{ sz:=2,rows:=[Z3e x0],frz:=0,pure:=false,pin:=some 0 }] (a2 trivial trivial) rfl) fun h0 h=> go [] []<|br h (fun h1 h=>bd h fun v0 e0 h=>go [7] [rg 5 [(6,k (w97 e0))]]<|jn ((Zr2 x0) h)) fun h1 h=> bd h fun v1 e1 h=>go [7] [rg 6 [(9,k (w98 e1))]]<|jn ((Zr2 x0) h)
def R108 (y0:Bool):D:= .bool y0
def Zk8 (x0:Int):Option (Bool):= if (x0==1) then (some true) else (if (x0==2) then (some true) else (if (x0==4) then (some true) else (some (x0==8))))
theorem w108 {x0 r} (h:Zk8 x0=some r):Z08 prog 108 [dI x0] (R108 r):= cs f108<|go [1] []<|po<|pr 3 []<|sp h (fun h0 h=>pr 12 (gA h0 3 2 [(5,py h0)])<|pe<|goN [] []<|rt h) fun h0 h=> pr 4 (gC h0 3 2 [(5,pn h0)])<|sp h (fun h1 h=>pr 8 (gA h1 7 2 [(9,py h1)])<|pe<|goN [] []<|rt h) fun h1 h=> pr 4 (gC h1 7 2 [(9,pn h1)])<|sp h (fun h2 h=>pr 4 (gA h2 11 2 [(13,py h2)])<|pe<|goN [] []<|rt h) fun h2 h=> pr 4 (gC h2 11 2 [(13,pn h2)])<|pe<|goN [] []<|rt h
def R83 (y0:(List UInt8)×Int):D:= .tup [.str y0.1,.int .i64 y0.2]
def Zib (t0:Int×Int×(List Int)):Option (Ctl (Int×Int×(List Int)) (((List Int)))):= if (decide (t0.2.1≥0)) then ((some (Z2b .i64 t0.1 255)).bind fun v16=> (some (IntKind.wrap .u8 v16)).bind fun v17=> (Z3j t0.2.1 t0.2.2.length).bind fun v18=> (t0.2.2[v18]?).bind fun v19=> (shrK .i64 t0.1 8).bind fun v20=> (some (IntKind.wrap .i64 (t0.2.1 - 1))).bind fun v21=> some (.next (v20,v21,(t0.2.2.set v18 v17)))) else (some (.done (t0.2.2)))
def Zcx (x0 x1:Int):Option ((List UInt8)×Int):= (Z96 1 x1 x1).bind fun v8=> (some (IntKind.wrap .i64 (x1 - 1))).bind fun v9=> (Z07 Zib Z09 (x0,v9,(List.replicate x1.toNat 0))).bind fun q0=> some ((bytesOf q0),0)
def Z8i (x0 x1:Int):Option ((List UInt8)×Int):= (Zk8 x1).bind fun v0=> if (!v0) then (some ([],1)) else (if (decide (x1<8)) then ((some (IntKind.wrap .i64 (8*x1))).bind fun v1=> (some (IntKind.wrap .i64 (v1 - 1))).bind fun v2=> (Z6k .i64 1 v2).bind fun v3=> (some (IntKind.wrap .i64 (0 - v3))).bind fun v4=> if (decide (x0<v4)) then (some ([],8)) else ((some (IntKind.wrap .i64 (8*x1))).bind fun v5=> (Z6k .i64 1 v5).bind fun v6=> (some (IntKind.wrap .i64 (v6 - 1))).bind fun v7=> if (decide (x0>v7)) then (some ([],8)) else ((Zcx x0 x1)))) else ((Zcx x0 x1)))
def Zv6:(Int×Int×(List Int))→SL:= fun t0=>⟨50,[(6,.lsl 6 0 ((t0.2.2.map rU8).length)),(7,dI t0.1),(8,dI t0.2.1)],[(6,{ sz:=1,rows:=(t0.2.2.map rU8),frz:=0,pure:=true })]⟩
def J83x1:JT (((List Int))):= je 0 fun q0:(List Int)=>⟨50,[(6,.lsl 6 0 ((q0.map rU8).length))],[(6,{ sz:=1,rows:=(q0.map rU8),frz:=0,pure:=true })]⟩
theorem wl83x1 {t0 r Γ} (h:Zib t0=some r):A prog Γ (lpC f83 351) [] (Rd Zv6 J83x1 r) (Zv6 t0).s:= go [] []<|br h (fun h5 h=>bd h fun v16 e16 h=>bd h fun v17 e17 h=>bd h fun v18 e18 h=>bd h fun v19 e19 h=>go [11] [rg 10 [(3,n e16),(4,n8 e17),(5,ia (R:=RU8) 6 e18),(6,st (R:=RU8) e19 0 [d8 v17] v17)]]<|nm (congrArg (fun nn:Nat=>(⟨50,[(6,.lsl 6 0 nn),(7,dI t0.1),(8,dI t0.2.1)],[(6,{ sz:=1,rows:=((t0.2.2.set v18 v17).map rU8),frz:=0,pure:=true })]⟩:SL)) (by simp only [List.length_map,List.length_set]:(t0.2.2.map rU8).length=((t0.2.2.set v18 v17).map rU8).length))<|so<|bd h fun v20 e20 h=>bd h fun v21 e21 h=>go [] [rg 11 [(1,sr e20)],rg 9 [(1,n e21)]]<|nx h) fun h5 h=> go [] []<|dn h (iE)
theorem Zsx {x0 x1 r Γ} (h:(Zcx x0 x1)=some r):Jn prog f83 Γ (Den.Ends prog f83 (R83 r)) 23 ⟨50,[(0,dI x0),(1,dI x1)],[]⟩:= so<|bd h fun v8 e8 h=>bd h fun v9 e9 h=>go [] [rg 5 [(1,mk (R:=RU8) 0 e8)],rg 7 [(1,n e9)]]<|bd h fun q0 e22 h=>lp (ps:=[(32,6)]) e22 wl83x1<|qe<|goN [] [rg 12 [(1,bsB q0)]]<|rt h
theorem w83 {x0 x1 r} (h:Z8i x0 x1=some r):Z08 prog 83 [dI x0,dI x1] (R83 r):= cs f83<|bd h fun v0 e0 h=>go [] [rg 1 [(1,k (w108 e0))]]<|br h (fun h0 h=>go [] []<|rt h) fun h0 h=> go [3] []<|po<|pr 3 []<|sp h (fun h1 h=>bd h fun v1 e1 h=>bd h fun v2 e2 h=>bd h fun v3 e3 h=>bd h fun v4 e4 h=>pr 8 (gC h1 3 2 ((5,gw h1 (n e1))::(6,gw h1 (n e2))::(7,gw h1 (sl e3))::(8,gw h1 (n e4))::gC h1 9 2 []))<|sp h (fun h2 h=>pr 8 (gA h2 11 6 [(17,gw h1 (py h2)),(18,py h1)])<|pe<|goN [] []<|bT rfl<|go [] []<|rt h) fun h2 h=> bd h fun v5 e5 h=>bd h fun v6 e6 h=>bd h fun v7 e7 h=>pr 8 (gC h2 11 2 [(13,gw h2 (n e5)),(14,gw h2 (sl e6)),(15,gw h2 (n e7)),(16,gw h2 g0),(17,gw h1 (pn h2)),(18,py h1)])<|pe<|goN [] []<|br h (fun h3 h=>go [] []<|rt h) fun h3 h=> go [5] []<|jn (Zsx h)) fun h1 h=> pr 16 (gB h1 3 8 [(17,gs1 h1),(18,pn h1)])<|pe<|goN [] []<|bF rfl<|go [5] []<|jn (Zsx h)
def R77 (y0:(List UInt8)):D:= .str y0
def Z8x (x0:Int):Option ((List UInt8)):= (Z8i x0 2).bind fun v0=> some v0.1
theorem w77 {x0 r} (h:Z8x x0=some r):Z08 prog 77 [dI x0] (R77 r):= cs f77<|bd h fun v0 e0 h=>go [] [rg 1 [(1,k (w83 e0))]]<|rt h
def R156 (y0:Bool):D:= .bool y0
def Z9h (x0:Int):Option (Bool):= if (decide (x0≥0)) then (some (decide (x0<81))) else (some false)
theorem w156 {x0 r} (h:Z9h x0=some r):Z08 prog 156 [dI x0] (R156 r):= cs f156<|sp h (fun h0 h=>go [] [rg 1 [(1,kb h0)]]<|rt h) fun h0 h=> go [] [rg 1 [(1,kb h0)]]<|rt h
def R130 (y0:Bool):D:= .bool y0
def Z6g (x0 x1 x2:Int):Option (Bool):= if (decide (x0≥x1)) then (some (decide (x0≤x2))) else (some false)
theorem w130 {x0 x1 x2 r} (h:Z6g x0 x1 x2=some r):Z08 prog 130 [dI x0,dI x1,dI x2] (R130 r):= cs f130<|sp h (fun h0 h=>go [] [rg 1 [(2,kb h0)]]<|rt h) fun h0 h=> go [] [rg 1 [(2,kb h0)]]<|rt h
def R128 (y0:Int):D:= .int .i64 y0
def Zgf (x0 : Int):Option (Int):= (Z6g x0 36 52).bind fun v2=> if v2 then (some 3) else ((Z6g x0 4 9).bind fun v3=> if v3 then (some 4) else (if (x0 == 10) then (some 5) else (if (x0==53) then (some 6) else (if (x0==54) then (some 7) else (some 0)))))
def Zjq (x0:Int):Option (Int):= if (x0==77) then (some 2) else ((Zgf x0))
def Z6j (x0 : Int):Option (Int):= (Z9h x0).bind fun v0=> if (!v0) then (some (-1)) else (if (x0 == 2) then (some 1) else (if (x0 == 3) then (some 2) else ((Z6g x0 59 68).bind fun v1=> if v1 then (some 2) else (if (x0==76) then (some 2) else ((Zjq x0))))))
theorem wj128x2 {x0 r Γ} (h:(Zgf x0)=some r):Jn prog f128 Γ (Den.Ends prog f128 (R128 r)) 1529 ⟨34,[(0,dI x0)],[]⟩:= so<|bd h fun v2 e2 h=>go [] [rg 10 [(1,k (w130 e2))]]<|br h (fun h6 h=>go [] []<|rt h) fun h6 h=> bd h fun v3 e3 h=>go [] [rg 12 [(1,k (w130 e3))]]<|br h (fun h7 h=>go [] []<|rt h) fun h7 h=> go [] []<|br h (fun h8 h=>go [] []<|rt h) fun h8 h=> go [] []<|br h (fun h9 h=>go [] []<|rt h) fun h9 h=> go [] []<|br h (fun h10 h=>go [] []<|rt h) fun h10 h=> go [] []<|rt h
theorem wj128x1 {x0 r Γ} (h:(Zjq x0)=some r):Jn prog f128 Γ (Den.Ends prog f128 (R128 r)) 505 ⟨34,[(0,dI x0),(10,.bool (x0==77))],[]⟩ (x0==77):= br h (fun h5 h=>go [] []<|rt h) fun h5 h=> go [10] []<|jn (wj128x2 h)
theorem w128 {x0 r} (h:Z6j x0=some r):Z08 prog 128 [dI x0] (R128 r):= cs f128<|bd h fun v0 e0 h=>go [] [rg 1 [(1,k (w156 e0))]]<|br h (fun h0 h=>go [] []<|rt h) fun h0 h=> go [] []<|br h (fun h1 h=>go [] []<|rt h) fun h1 h=> go [] []<|br h (fun h2 h=>go [] []<|bT h2<|go [] []<|rt h) fun h2 h=> bd h fun v1 e1 h=>go [] [rg 6 [(1,k (w130 e1))]]<|br h (fun h3 h=>go [] []<|bT h3<|go [] []<|rt h) fun h3 h=> go [] []<|br h (fun h4 h=>go [] []<|bT h4<|go [] []<|rt h) fun h4 h=> go [] []<|jn (wj128x1 h)
def R133 (y0:Bool):D:= .bool y0
def Zex (x0 : Z01) (x1:Int):Option (Bool):= if (x0.f_To != 0) then (if (x1 !=3) then (if (x1 !=6) then (if (x1 !=7) then (some false) else (if ((x0.Z0s.length:Int)==0) then (if ((x0.Z0b.length:Int)==0) then (some true) else (if (x1==6) then (some true) else (some (x1==7)))) else (if (x1==7) then (if ((x0.Z0b.length:Int)==0) then (some true) else (if (x1==6) then (some true) else (some true))) else (some false)))) else (if ((x0.Z0s.length:Int)==0) then (if ((x0.Z0b.length:Int)==0) then (some true) else (if (x1==6) then (some true) else (some (x1==7)))) else (if (x1==7) then (if ((x0.Z0b.length:Int)==0) then (some true) else (if (x1==6) then (some true) else (some true))) else (some false)))) else (if ((x0.Z0s.length:Int)==0) then (if ((x0.Z0b.length:Int)==0) then (some true) else (if (x1==6) then (some true) else (some (x1==7)))) else (if (x1==7) then (if ((x0.Z0b.length:Int)==0) then (some true) else (if (x1==6) then (some true) else (some true))) else (some false)))) else (if ((x0.Z0s.length:Int)==0) then (if ((x0.Z0b.length:Int)==0) then (some true) else (if (x1==6) then (some true) else (some (x1==7)))) else (if (x1==7) then (if ((x0.Z0b.length:Int)==0) then (some true) else (if (x1==6) then (some true) else (some true))) else (some false)))
def Ze6 (x0:Z01) (x1:Int):Option (Bool):= if (x0.f_B !=0) then (if (x1 !=5) then (some false) else ((Zex x0 x1))) else ((Zex x0 x1))
def Zg3 (x0:Z01) (x1:Int):Option (Bool):= if (x0.f_A !=0) then (if (x1==0) then (some false) else (if (x1==3) then (some false) else (if (x1==7) then (some false) else ((Ze6 x0 x1))))) else ((Ze6 x0 x1))
def Zat (x0:Z01) (x1:Int):Option (Bool):= if (!(Zos x0.Z1c (Z22.mk [] [] []))) then (some false) else (if (!(x0.f_S==([]:List UInt8))) then (some false) else ((Zg3 x0 x1)))
theorem Zxm {x0 x1 r Γ} (h:(Zex x0 x1)=some r):Jn prog f133 Γ (Den.Ends prog f133 (R133 r)) 79 ⟨73,[(1,dI x1),(2,.ptr (Z0e x0))],[]⟩:= po <| pr 4 [] <| sp h (fun h8 h=>pr 4 (gC h8 4 2 [(6,py h8)])<|sp h (fun h9 h=>pr 4 (gC h9 8 2 [(10,py h9)])<|sp h (fun h10 h=>pr 3 (gC h10 12 2 [(14,py h10)])<|pe<|goN [] []<|br h (fun h11 h=>go [] []<|rt h) fun h11 h=> go [9] []<|po<|pr 5 [(2,ln x0.Z0s)]<|sp h (fun h12 h=>pr 9 (gA h12 5 2 [(7,py h12),(11,ln x0.Z0b)])<|sp h (fun h13 h=>pr 9 (gA h13 14 2 [(16,py h13)])<|pe<|goN [] []<|rt h) fun h13 h=> pr 4 (gC h13 14 2 [(16,pn h13)])<|sp h (fun h14 h=>pr 5 (gA h14 18 2 [(20,py h14)])<|pe<|goN [] []<|rt h) fun h14 h=> pr 5 (gC h14 18 2 [(20,pn h14)])<|pe<|goN [] []<|rt h) fun h12 h=> pr 4 (gC h12 5 2 [(7,pn h12)])<|sp h (fun h15 h=>pr 5 (gC h15 9 2 ((11,gw h15 (ln x0.Z0b))::gC h15 12 2 []))<|sp h (fun h16 h=>pr 9 (gA h16 14 2 [(16,gw h15 (py h16)),(17,gw h15 g0),(20,gw h15 g0),(21,py h15)])<|pe<|goN [] []<|rt h) fun h16 h=> pr 4 (gC h16 14 2 [(16,gw h15 (pn h16)),(17,gw h15 g0)])<|sp h (fun h17 h=>pr 5 (gA h17 18 2 [(20,gw h15 (py h17)),(21,py h15)])<|pe<|goN [] []<|rt h) fun h17 h=> pr 5 [(18,gw h17 g0),(19,gw h17 (kb h15)),(20,gw h15 (pn h17)),(21,py h15)]<|pe<|goN [] []<|rt h) fun h15 h=> pr 14 (gB h15 9 5 (gB h15 16 2 [(20,gs1 h15),(21,pn h15)]))<|pe<|goN [] []<|rt h) fun h10 h=> pr 3 (gB h10 12 2 [(14,pn h10)])<|pe<|goN [] []<|bF rfl<|go [9] []<|po<|pr 5 [(2,ln x0.Z0s)]<|sp h (fun h18 h=>pr 9 (gA h18 5 2 [(7,py h18),(11,ln x0.Z0b)])<|sp h (fun h19 h=>pr 9 (gA h19 14 2 [(16,py h19)])<|pe<|goN [] []<|rt h) fun h19 h=> pr 4 (gC h19 14 2 [(16,pn h19)])<|sp h (fun h20 h=>pr 5 (gA h20 18 2 [(20,py h20)])<|pe<|goN [] []<|rt h) fun h20 h=> pr 5 (gC h20 18 2 [(20,pn h20)])<|pe<|goN [] []<|rt h) fun h18 h=> pr 4 (gC h18 5 2 [(7,pn h18)])<|sp h (fun h21 h=>pr 5 (gC h21 9 2 ((11,gw h21 (ln x0.Z0b))::gC h21 12 2 []))<|sp h (fun h22 h=>pr 9 (gA h22 14 2 [(16,gw h21 (py h22)),(17,gw h21 g0),(20,gw h21 g0),(21,py h21)])<|pe<|goN [] []<|rt h) fun h22 h=> pr 4 (gC h22 14 2 [(16,gw h21 (pn h22)),(17,gw h21 g0)])<|sp h (fun h23 h=>pr 5 (gA h23 18 2 [(20,gw h21 (py h23)),(21,py h21)])<|pe<|goN [] []<|rt h) fun h23 h=> pr 5 [(18,gw h23 g0),(19,gw h23 (kb h21)),(20,gw h21 (pn h23)),(21,py h21)]<|pe<|goN [] []<|rt h) fun h21 h=> pr 14 (gB h21 9 5 (gB h21 16 2 [(20,gs1 h21),(21,pn h21)]))<|pe<|goN [] []<|rt h) fun h9 h=> pr 7 (gB h9 8 2 [(10,pn h9)])<|pe<|goN [] []<|bF rfl<|go [9] []<|po<|pr 5 [(2,ln x0.Z0s)]<|sp h (fun h24 h=>pr 9 (gA h24 5 2 [(7,py h24),(11,ln x0.Z0b)])<|sp h (fun h25 h=>pr 9 (gA h25 14 2 [(16,py h25)])<|pe<|goN [] []<|rt h) fun h25 h=> pr 4 (gC h25 14 2 [(16,pn h25)])<|sp h (fun h26 h=>pr 5 (gA h26 18 2 [(20,py h26)])<|pe<|goN [] []<|rt h) fun h26 h=> pr 5 (gC h26 18 2 [(20,pn h26)])<|pe<|goN [] []<|rt h) fun h24 h=> pr 4 (gC h24 5 2 [(7,pn h24)])<|sp h (fun h27 h=>pr 5 (gC h27 9 2 ((11,gw h27 (ln x0.Z0b))::gC h27 12 2 []))<|sp h (fun h28 h=>pr 9 (gA h28 14 2 [(16,gw h27 (py h28)),(17,gw h27 g0),(20,gw h27 g0),(21,py h27)])<|pe<|goN [] []<|rt h) fun h28 h=> pr 4 (gC h28 14 2 [(16,gw h27 (pn h28)),(17,gw h27 g0)])<|sp h (fun h29 h=>pr 5 (gA h29 18 2 [(20,gw h27 (py h29)),(21,py h27)])<|pe<|goN [] []<|rt h) fun h29 h=> pr 5 [(18,gw h29 g0),(19,gw h29 (kb h27)),(20,gw h27 (pn h29)),(21,py h27)]<|pe<|goN [] []<|rt h) fun h27 h=> pr 14 (gB h27 9 5 (gB h27 16 2 [(20,gs1 h27),(21,pn h27)]))<|pe<|goN [] []<|rt h) fun h8 h=> pr 11 (gB h8 4 2 [(6,pn h8)])<|pe<|goN [] []<|bF rfl<|go [9] []<|po<|pr 5 [(2,ln x0.Z0s)]<|sp h (fun h30 h=>pr 9 (gA h30 5 2 [(7,py h30),(11,ln x0.Z0b)])<|sp h (fun h31 h=>pr 9 (gA h31 14 2 [(16,py h31)])<|pe<|goN [] []<|rt h) fun h31 h=> pr 4 (gC h31 14 2 [(16,pn h31)])<|sp h (fun h32 h=>pr 5 (gA h32 18 2 [(20,py h32)])<|pe<|goN [] []<|rt h) fun h32 h=> pr 5 (gC h32 18 2 [(20,pn h32)])<|pe<|goN [] []<|rt h) fun h30 h=> pr 4 (gC h30 5 2 [(7,pn h30)])<|sp h (fun h33 h=>pr 5 (gC h33 9 2 ((11,gw h33 (ln x0.Z0b))::gC h33 12 2 []))<|sp h (fun h34 h=>pr 9 (gA h34 14 2 [(16,gw h33 (py h34)),(17,gw h33 g0),(20,gw h33 g0),(21,py h33)])<|pe<|goN [] []<|rt h) fun h34 h=> pr 4 (gC h34 14 2 [(16,gw h33 (pn h34)),(17,gw h33 g0)])<|sp h (fun h35 h=>pr 5 (gA h35 18 2 [(20,gw h33 (py h35)),(21,py h33)])<|pe<|goN [] []<|rt h) fun h35 h=> pr 5 [(18,gw h35 g0),(19,gw h35 (kb h33)),(20,gw h33 (pn h35)),(21,py h33)]<|pe<|goN [] []<|rt h) fun h33 h=> pr 14 (gB h33 9 5 (gB h33 16 2 [(20,gs1 h33),(21,pn h33)]))<|pe<|goN [] []<|rt h
theorem Zwq {x0 x1 r Γ} (h:(Ze6 x0 x1)=some r):Jn prog f133 Γ (Den.Ends prog f133 (R133 r)) 39 ⟨73,[(1,dI x1),(2,.ptr (Z0e x0))],[]⟩:= so<|sp h (fun h6 h=>go [] [rg 5 [(2,kb h6)]]<|br h (fun h7 h=>go [] []<|rt h) fun h7 h=> go [7] []<|jn (Zxm h)) fun h6 h=> go [] [rg 5 [(2,kb h6)]]<|bF rfl<|go [7] []<|jn (Zxm h)
theorem wj133x1 {x0 x1 r Γ} (h:(Zg3 x0 x1)=some r):Jn prog f133 Γ (Den.Ends prog f133 (R133 r)) 19 ⟨73,[(1,dI x1),(2,.ptr (Z0e x0))],[]⟩:= po <| pr 4 []<|sp h (fun h2 h=>pr 3 (gC h2 4 3 [])<|sp h (fun h3 h=>pr 8 (gA h3 7 2 [(9,gw h2 (py h3)),(10,gw h2 g0),(13,gw h2 g0),(14,py h2)])<|pe<|goN [] []<|bT rfl<|go [] []<|rt h) fun h3 h=> pr 4 (gC h3 7 2 [(9,gw h2 (pn h3)),(10,gw h2 g0)])<|sp h (fun h4 h=>pr 4 (gA h4 11 2 [(13,gw h2 (py h4)),(14,py h2)])<|pe<|goN [] []<|bT rfl<|go [] []<|rt h) fun h4 h=> pr 4 (gC h4 11 2 [(13,gw h2 (pn h4)),(14,py h2)])<|pe<|goN [] []<|br h (fun h5 h=>go [] []<|rt h) fun h5 h=> go [5] []<|jn (Zwq h)) fun h2 h=> pr 11 (gB h2 4 3 (gB h2 9 2 [(13,gs1 h2),(14,pn h2)]))<|pe<|goN [] []<|bF rfl<|go [5] []<|jn (Zwq h)
theorem w133 {x0 x1 r} (h:Zat x0 x1=some r):Z08 prog 133 [.agg (Z0e x0),dI x1] (R133 r):= cs f133<|sp h (fun h0 h=>go [] [rg 0 [(0,bo)],rg 1 ((3,qs Zrp Zs6 (!(Zos x0.Z1c (Z22.mk [] [] []))))::gA h0 5 3 [(8,py h0)])]<|bT rfl<|go [] []<|rt h) fun h0 h=> go [] [rg 0 [(0,bo)],rg 1 ((3,qs Zrp Zs6 (!(Zos x0.Z1c (Z22.mk [] [] []))))::gC h0 5 3 [(8,pn h0)])]<|br h (fun h1 h=>go [] []<|rt h) fun h1 h=> go [3] []<|jn (wj133x1 h)
def R134 (y0:Bool):D:= .bool y0
def Zbq (x0:Z01) (t0:Int):Option (Ctl (Int) (Unit⊕Bool)):= if (decide (t0<(x0.Z0b.length:Int))) then ((Z05 x0.Z0b t0).bind fun v2=> if (decide (v2<0)) then (some (.done (.inr false))) else ((Z05 x0.Z0b t0).bind fun v3=> if (decide (v3≥1000)) then (some (.done (.inr false))) else ((some (IntKind.wrap .i64 (t0+1))).bind fun v4=> some (.next v4)))) else (some (.done (.inl (()))))
def Zio (x0:Z01):Option (Bool):= (Z07 (Zbq x0) Z09 0).bind fun q1=> match q1 with | .inl q0=>(some true) | .inr y0=>(some y0)
def Z83 (x0:Z01):Option (Bool):= if (decide (x0.f_To<0)) then (some false) else (if (decide (x0.f_To≥1000)) then (some false) else ((Zio x0)))
def Zqw (x0:Z01):Int→SL:= fun t0=>⟨33,[(1,.ptr (Z0e x0)),(3,dI t0)],[]⟩
def J134x1:JT (Unit⊕Bool):= ju (je 0 fun q0:Unit=>⟨33,[],[]⟩) (jr prog f134 R134)
theorem wl134x1 {x0 t0 r Γ} (h:(Zbq x0) t0=some r):A prog Γ (lpC f134 43) [] (Rd (Zqw x0) J134x1 r) ((Zqw x0) t0).s:= go [] [rg 4 [(3,ln x0.Z0b)]]<|br h (fun h5 h=>bd h fun v2 e2 h=>sp h (fun h6 h=>go [] [rg 6 [(3,ix e2),(5,kb h6)]]<|bT rfl<|go [] []<|dn h (i2 iR)) fun h6 h=> bd h fun v3 e3 h=>go [] [rg 6 [(3,ix e2),(5,kb h6),(10,ix e3)]]<|br h (fun h7 h=>go [] []<|dn h (i2 iR)) fun h7 h=> bd h fun v4 e4 h=>go [] [rg 5 [(1,n e4)]]<|nx h) fun h5 h=> go [] []<|dn h (i1 iE)
theorem wj134x1 {x0 r Γ} (h:(Zio x0)=some r):Jn prog f134 Γ (Den.Ends prog f134 (R134 r)) 19 ⟨33,[(1,.ptr (Z0e x0))],[]⟩:= so<|go [] []<|bd h fun q1 e5 h=>lp e5 wl134x1<|match q1,h with | .inl q0,h=>j1<|(qe<|goN [] []<|rt h) | .inr y0,h=>j2<|(qr h)
theorem w134 {x0 r} (h:Z83 x0=some r):Z08 prog 134 [.agg (Z0e x0)] (R134 r):= cs f134<|sp h (fun h0 h=>go [] [rg 0 [(0,bo)],rg 1 [(2,kb h0)]]<|bT rfl<|go [] []<|rt h) fun h0 h=> go [] [rg 0 [(0,bo)],rg 1 [(2,kb h0)]]<|br h (fun h1 h=>go [] []<|rt h) fun h1 h=> go [3] []<|jn (wj134x1 h)
def R163 (y0:Bool):D:= .bool y0
def Zde (x0:Int):Option (Bool):= if (decide (x0≥(-2147483648))) then (some (decide (x0≤2147483647))) else (some false)
theorem w163 {x0 r} (h:Zde x0=some r):Z08 prog 163 [dI x0] (R163 r):= cs f163<|sp h (fun h0 h=>go [] [rg 1 [(1,kb h0)]]<|rt h) fun h0 h=> go [] [rg 1 [(1,kb h0)]]<|rt h
def R135 (y0:Int):D:= .int .i64 y0
def Zkt (x0:Z01):Option (Int):= (Zde x0.f_A).bind fun v11=> if (!v11) then (some 8) else ((some (IntKind.wrap .i64 ((x0.Z0b.length:Int) - 1))).bind fun v12=> (some (IntKind.wrap .i64 (2147483647 - v12))).bind fun v13=> if (decide (x0.f_A>v13)) then (some 8) else (some 0))
def Zhw (x0:Z01) (t0:Int):Option (Ctl (Int) (Unit⊕Int)):= if (decide (t0<(x0.Z0s.length:Int))) then ((Z05 x0.Z0s t0).bind fun v2=> (Zde v2).bind fun v3=> if (!v3) then (some (.done (.inr 8))) else ((some (IntKind.wrap .i64 (t0+1))).bind fun v4=> some (.next v4))) else (some (.done (.inl (()))))
def Zg1 (x0:Z01) (t1:Int):Option (Ctl (Int) (Unit⊕Int)):= if (decide (t1<(x0.Z0s.length:Int))) then ((Z05 x0.Z0s t1).bind fun v7=> (some (IntKind.wrap .i64 (t1 - 1))).bind fun v8=> (Z05 x0.Z0s v8).bind fun v9=> if (decide (v7≤v9)) then (some (.done (.inr 4))) else ((some (IntKind.wrap .i64 (t1+1))).bind fun v10=> some (.next v10))) else (some (.done (.inl (()))))
def Zkl (x0:Z01):Option (Int):= (Z07 (Zhw x0) Z09 0).bind fun q1=> match q1 with | .inl q0=>((Z07 (Zg1 x0) Z09 1).bind fun q3=> match q3 with | .inl q2=>(some 0) | .inr y0=>(some y0)) | .inr y1=>(some y1)
def Zc6 (x0:Z01):Option (Int):= if (x0.f_Op==53) then (if ((x0.Z0b.length:Int)==0) then (some 5) else (if (decide ((x0.Z0b.length:Int)>64)) then (some 5) else ((Zkt x0)))) else (if (decide ((x0.Z0s.length:Int)>64)) then (some 5) else (if ((x0.Z0b.length:Int)!=(x0.Z0s.length:Int)) then (some 5) else ((Zkl x0))))
theorem wj135x2 {x0 r Γ} (h:(Zkt x0)=some r):Jn prog f135 Γ (Den.Ends prog f135 (R135 r)) 149 ⟨78,[(1,.ptr (Z0e x0))],[]⟩:= so<|bd h fun v11 e13 h=>sp h (fun h13 h=>go [] [rg 4 ((2,k (w163 e13))::gA h13 5 8 [(13,py h13)])]<|bT rfl<|go [] []<|rt h) fun h13 h=> bd h fun v12 e14 h=>bd h fun v13 e15 h=>go [] [rg 4 ((2,k (w163 e13))::gC h13 5 4 [(9,gw h13 (ln x0.Z0b)),(10,gw h13 (n e14)),(11,gw h13 (n e15)),(12,gw h13 g0),(13,pn h13)])]<|br h (fun h14 h=>go [] []<|rt h) fun h14 h=> go [] []<|rt h
def Zv9 (x0:Z01):Int→SL:= fun t0=>⟨78,[(1,.ptr (Z0e x0)),(3,dI t0)],[]⟩
def J135x1 (x0:Z01):JT (Unit⊕Int):= ju (je 0 fun q0:Unit=>⟨78,[(1,.ptr (Z0e x0))],[]⟩) (jr prog f135 R135)
theorem wl135x1 {x0 t0 r Γ} (h:(Zhw x0) t0=some r):A prog Γ (lpC f135 87) [] (Rd (Zv9 x0) (J135x1 x0) r) ((Zv9 x0) t0).s:= go [] [rg 10 [(3,ln x0.Z0s)]]<|br h (fun h7 h=>bd h fun v2 e2 h=>bd h fun v3 e3 h=>go [] [rg 12 [(3,ix e2),(5,k (w163 e3))]]<|br h (fun h8 h=>go [] []<|dn h (i2 iR)) fun h8 h=> bd h fun v4 e4 h=>go [] [rg 11 [(1,n e4)]]<|nx h) fun h7 h=> go [] []<|dn h (i1 iE)
def Zxi (x0:Z01):Int→SL:= fun t1=>⟨78,[(1,.ptr (Z0e x0)),(4,dI t1)],[]⟩
def J135x2:JT (Unit⊕Int):= ju (je 2 fun q2:Unit=>⟨78,[],[]⟩) (jr prog f135 R135)
theorem wl135x2 {x0 t1 r Γ} (h:(Zg1 x0) t1=some r):A prog Γ (lpC f135 175) [] (Rd (Zxi x0) J135x2 r) ((Zxi x0) t1).s:= go [] [rg 15 [(3,ln x0.Z0s)]]<|br h (fun h11 h=>bd h fun v7 e8 h=>bd h fun v8 e9 h=>bd h fun v9 e10 h=>go [] [rg 17 [(3,ix e8),(8,n e9),(9,ix e10)]]<|br h (fun h12 h=>go [] []<|dn h (i2 iR)) fun h12 h=> bd h fun v10 e11 h=>go [] [rg 16 [(1,n e11)]]<|nx h) fun h11 h=> go [] []<|dn h (i1 iE)
theorem wj135x1 {x0 r Γ} (h:(Zkl x0)=some r):Jn prog f135 Γ (Den.Ends prog f135 (R135 r)) 39 ⟨78,[(1,.ptr (Z0e x0))],[]⟩:= so<|go [] []<|bd h fun q1 e5 h=>lp e5 wl135x1<|match q1,h with | .inl q0,h=>j1<|(qe<|goN [] []<|bd h fun q3 e12 h=>lp e12 wl135x2<|match q3,h with | .inl q2,h=>j1<|(qe<|goN [] []<|rt h) | .inr y0,h=>j2<|(qr h)) | .inr y1,h=>j2<|(qr h)
theorem w135 {x0 r} (h:Zc6 x0=some r):Z08 prog 135 [.agg (Z0e x0)] (R135 r):= cs f135<|go [] [rg 0 [(0,bo)]]<|br h (fun h0 h=>sp h (fun h1 h=>go [] [rg 2 [(2,ln x0.Z0b),(3,kb h1)]]<|bT rfl<|go [] []<|rt h) fun h1 h=> go [] [rg 2 [(2,ln x0.Z0b),(3,kb h1),(7,ln x0.Z0b)]]<|br h (fun h2 h=>go [] []<|rt h) fun h2 h=> go [4] []<|jn (wj135x2 h)) fun h0 h=> sp h (fun h3 h=>go [] [rg 7 [(2,ln x0.Z0s),(3,kb h3)]]<|bT rfl<|go [] []<|rt h) fun h3 h=> go [] [rg 7 [(2,ln x0.Z0s),(3,kb h3),(7,ln x0.Z0b),(10,ln x0.Z0s)]]<|br h (fun h4 h=>go [] []<|rt h) fun h4 h=> go [9] []<|jn (wj135x1 h)
def R104 (y0:Int):D:= .int .i64 y0
def Zb4 (x0:Z01):Option (Int):= (Zc6 x0).bind fun v5=> some v5
def Z8a (v0:Int) (x0:Z01):Option (Int):= if (v0==6) then ((Zb4 x0)) else (if (v0==7) then ((Zb4 x0)) else (some 0))
def Zca (v0:Int) (x0:Z01):Option (Int):= if (v0==3) then ((Z83 x0).bind fun v2=> if (!v2) then (some 16) else ((Z8a v0 x0))) else (if (v0 == 6) then ((Z83 x0).bind fun v3=> if (!v3) then (some 16) else ((Z8a v0 x0))) else (if (v0==7) then ((Z83 x0).bind fun v4=> if (!v4) then (some 16) else ((Z8a v0 x0))) else ((Z8a v0 x0))))
def Za8 (v0:Int) (x0:Z01):Option (Int):= if (v0==2) then (if (decide (x0.f_A<1)) then (some 2) else (if (decide (x0.f_A>1000)) then (some 2) else ((Zca v0 x0)))) else ((Zca v0 x0))
def Z9a (v0:Int) (x0:Z01):Option (Int):= if (v0==4) then (if (decide (x0.f_A<0)) then (some 21) else (if (decide (x0.f_A≥32)) then (some 21) else ((Za8 v0 x0)))) else (if (v0 == 5) then (if (decide (x0.f_A<0)) then (some 21) else (if (decide (x0.f_A≥32)) then (some 21) else ((Za8 v0 x0)))) else ((Za8 v0 x0)))
def Z4s (x0 : Z01):Option (Int):= (Z6j x0.f_Op).bind fun v0=> if (decide (v0<0)) then (some 15) else ((Zat x0 v0).bind fun v1=> if (!v1) then (some 4) else (if (v0 == 1) then (if (decide (x0.f_A<(-128))) then (some 8) else (if (decide (x0.f_A>127)) then (some 8) else (if (v0 == 5) then (if (decide (x0.f_B<(-128))) then (some 8) else (if (decide (x0.f_B>127)) then (some 8) else ((Z9a v0 x0)))) else ((Z9a v0 x0))))) else (if (v0 == 5) then (if (decide (x0.f_B<(-128))) then (some 8) else (if (decide (x0.f_B>127)) then (some 8) else ((Z9a v0 x0)))) else ((Z9a v0 x0)))))
theorem Zry {x0 r Γ} (h:(Zb4 x0)=some r):Jn prog f104 Γ (Den.Ends prog f104 (R104 r)) 4863 ⟨90,[(1,.ptr (Z0e x0))],[]⟩:= so<|bd h fun v5 e5 h=>go [] [rg 15 [(1,k (w135 e5))]]<|rt h
theorem Zie {v0 x0 r Γ} (h:(Z8a v0 x0)=some r):Jn prog f104 Γ (Den.Ends prog f104 (R104 r)) 1279 ⟨90,[(1,.ptr (Z0e x0)),(3,dI v0)],[]⟩:= so<|sp h (fun h26 h=>go [] [rg 14 [(1,kb h26)]]<|bT rfl<|go [15] []<|jn (Zry h)) fun h26 h=> go [] [rg 14 [(1,kb h26)]]<|br h (fun h27 h=>go [15] []<|jn (Zry h)) fun h27 h=> go [] []<|rt h
theorem Zrc {v0 x0 r Γ} (h:(Zca v0 x0)=some r):Jn prog f104 Γ (Den.Ends prog f104 (R104 r)) 639 ⟨90,[(1,.ptr (Z0e x0)),(3,dI v0)],[]⟩:= po<|pr 3 []<|sp h (fun h20 h=>bd h fun v2 e2 h=>pr 12 (gA h20 3 2 [(5,py h20),(12,k (w134 e2))])<|pe<|goN [] []<|br h (fun h21 h=>go [] []<|rt h) fun h21 h=> go [14] []<|jn (Zie h)) fun h20 h=> pr 4 (gC h20 3 2 [(5,pn h20)])<|sp h (fun h22 h=>bd h fun v3 e3 h=>pr 8 (gA h22 7 2 [(9,py h22),(12,k (w134 e3))])<|pe<|goN [] []<|br h (fun h23 h=>go [] []<|rt h) fun h23 h=> go [14] []<|jn (Zie h)) fun h22 h=> pr 4 (gC h22 7 2 [(9,pn h22)])<|sp h (fun h24 h=>bd h fun v4 e4 h=>pr 4 [(11,gw h24 g0),(12,gw h24 (k (w134 e4))),(13,gw h24 g0),(14,py h24)]<|pe<|goN [] []<|br h (fun h25 h=>go [] []<|rt h) fun h25 h=> go [14] []<|jn (Zie h)) fun h24 h=> pr 4 (gB h24 11 3 [(14,pn h24)])<|pe<|goN [] []<|bF rfl<|go [14] []<|jn (Zie h)
theorem Zmd {v0 x0 r Γ} (h:(Za8 v0 x0)=some r):Jn prog f104 Γ (Den.Ends prog f104 (R104 r)) 319 ⟨90,[(1,.ptr (Z0e x0)),(3,dI v0)],[]⟩:= po<|pr 3 []<|sp h (fun h17 h=>pr 4 (gC h17 3 4 [])<|sp h (fun h18 h=>pr 5 (gA h18 7 3 [(10,gw h17 (py h18)),(11,py h17)])<|pe<|goN [] []<|bT rfl<|go [] []<|rt h) fun h18 h=> pr 5 (gC h18 7 3 [(10,gw h17 (pn h18)),(11,py h17)])<|pe<|goN [] []<|br h (fun h19 h=>go [] []<|rt h) fun h19 h=> go [12] []<|jn (Zrc h)) fun h17 h=> pr 9 (gB h17 3 4 [(10,gs1 h17),(11,pn h17)])<|pe<|goN [] []<|bF rfl<|go [12] []<|jn (Zrc h)
theorem Zh0 {v0 x0 r Γ} (h:(Z9a v0 x0)=some r):Jn prog f104 Γ (Den.Ends prog f104 (R104 r)) 159 ⟨90,[(1,.ptr (Z0e x0)),(3,dI v0)],[]⟩:= po<|pr 3 []<|sp h (fun h11 h=>pr 8 (gA h11 3 2 [(5,py h11)])<|sp h (fun h12 h=>pr 5 (gA h12 11 3 [(14,py h12)])<|pe<|goN [] []<|bT rfl<|go [] []<|rt h) fun h12 h=> pr 5 (gC h12 11 3 [(14,pn h12)])<|pe<|goN [] []<|br h (fun h13 h=>go [] []<|rt h) fun h13 h=> go [10] []<|jn (Zmd h)) fun h11 h=> pr 4 (gC h11 3 2 [(5,pn h11)])<|sp h (fun h14 h=>pr 4 (gC h14 7 4 [])<|sp h (fun h15 h=>pr 5 (gA h15 11 3 [(14,gw h14 (py h15)),(15,py h14)])<|pe<|goN [] []<|bT rfl<|go [] []<|rt h) fun h15 h=> pr 5 (gC h15 11 3 [(14,gw h14 (pn h15)),(15,py h14)])<|pe<|goN [] []<|br h (fun h16 h=>go [] []<|rt h) fun h16 h=> go [10] []<|jn (Zmd h)) fun h14 h=> pr 9 (gB h14 7 4 [(14,gs1 h14),(15,pn h14)])<|pe<|goN [] []<|bF rfl<|go [10] []<|jn (Zmd h)
theorem w104 {x0 r} (h:Z4s x0=some r):Z08 prog 104 [.agg (Z0e x0)] (R104 r):= cs f104<|bd h fun v0 e0 h=>go [] [rg 0 [(0,bo)],rg 1 [(2,k (w128 e0))]]<|br h (fun h0 h=>go [] []<|rt h) fun h0 h=> bd h fun v1 e1 h=>go [] [rg 4 [(2,k (w133 e1))]]<|br h (fun h1 h=>go [] []<|rt h) fun h1 h=> go [6] [] <| po<|pr 3 []<|sp h (fun h2 h=>pr 4 (gC h2 3 4 [])<|sp h (fun h3 h=>pr 19 (gA h3 7 3 [(10,gw h2 (py h3)),(11,py h2)])<|pe<|goN [] []<|bT rfl<|go [] []<|rt h) fun h3 h=> pr 6 (gC h3 7 3 [(10,gw h2 (pn h3)),(11,py h2)])<|sp h (fun h4 h=>pr 13 (gA h4 13 3 [(24,gs0 h4),(25,py h4)])<|pe<|goN [] []<|bT rfl<|go [] []<|rt h) fun h4 h=> pr 3 (gC h4 13 3 [])<|sp h (fun h5 h=>pr 4 (gC h5 16 4 [])<|sp h (fun h6 h=>pr 6 (gA h6 20 3 [(23,gw h5 (py h6)),(24,gw h4 (py h5)),(25,pn h4)])<|pe<|goN [] []<|bT rfl<|go [] []<|rt h) fun h6 h=> pr 6 (gC h6 20 3 [(23,gw h5 (pn h6)),(24,gw h4 (py h5)),(25,pn h4)])<|pe<|goN [] []<|br h (fun h7 h=>go [] []<|rt h) fun h7 h=> go [8] []<|jn (Zh0 h)) fun h5 h=> pr 10 (gB h5 16 4 [(23,gs1 h5),(24,gw h4 (pn h5)),(25,pn h4)])<|pe<|goN [] []<|bF rfl<|go [8] []<|jn (Zh0 h)) fun h2 h=> pr 13 (gB h2 3 4 [(10,gs1 h2),(11,pn h2)])<|sp h (fun h8 h=>pr 4 (gC h8 16 4 [])<|sp h (fun h9 h=>pr 6 (gA h9 20 3 [(23,gw h8 (py h9)),(24,py h8)])<|pe<|goN [] []<|bT rfl<|go [] []<|rt h) fun h9 h=> pr 6 (gC h9 20 3 [(23,gw h8 (pn h9)),(24,py h8)])<|pe<|goN [] []<|br h (fun h10 h=>go [] []<|rt h) fun h10 h=> go [8] []<|jn (Zh0 h)) fun h8 h=> pr 10 (gB h8 16 4 [(23,gs1 h8),(24,pn h8)])<|pe<|goN [] []<|bF rfl<|go [8] []<|jn (Zh0 h)
end Go.Proofs
