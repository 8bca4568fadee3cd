/-
  Models of functions of the program, and that the functions compute them. Printed by den3.py. No condition.
-/
import Derived.Test.YtbhghodobphdeaaGreatRows
import Derived.Test.YtbhghodobphdeaaGreatDenClaim
set_option linter.unusedVariables false
namespace Go.Proofs
open Tryz
open Go.Den Go.Den.W
structure Z1t where
 a0:Int
 a1:Int
def Z29 (x:Z1t):List D:=[.int .i64 x.a0,.int .i64 x.a1]
instance:Row Z1t:=⟨Z29,2,fun _=>rfl⟩
structure Z19 where
 Zt5:Int
 Z2h:List UInt8
def Z1o (x:Z19):List D:=[.int .i64 x.Zt5,.str x.Z2h]
instance:Row Z19:=⟨Z1o,2,fun _=>rfl⟩
structure Z1d where
 Z0q:Int
 Z0d:List UInt8
 Z16:List UInt8
 Z2e:Int
 f_N:Int
 f_S:List UInt8
def Z5g (x:Z1d):List D:=[.int .i64 x.Z0q,.str x.Z0d,.str x.Z16,.int .i64 x.Z2e,.int .i64 x.f_N,.str x.f_S]
instance:Row Z1d:=⟨Z5g,6,fun _=>rfl⟩
structure Z26 where
 Z0w:List UInt8
 Z0d:List UInt8
 Z16:List UInt8
def Zls (x:Z26):List D:=[.str x.Z0w,.str x.Z0d,.str x.Z16]
instance:Row Z26:=⟨Zls,3,fun _=>rfl⟩
structure Z01 where
 f_Op:Int
 f_A:Int
 f_B:Int
 f_To:Int
 Z0r:List Int
 Z0b:List Int
 Z1e:Z26
 f_S:List UInt8
def Z0e (x:Z01):List D:=[.int .i64 x.f_Op,.int .i64 x.f_A,.int .i64 x.f_B,.int .i64 x.f_To,.sl false (x.Z0r.map Z03),.sl false (x.Z0b.map Z03),.str x.Z1e.Z0w,.str x.Z1e.Z0d,.str x.Z1e.Z16,.str x.f_S]
instance:Row Z01:=⟨Z0e,10,fun _=>rfl⟩
structure Z0n where
 Z5z:Int
 f_To:Int
 Z6b:Int
 Z0w:Int
 Z1r:List UInt8
def Z0s (x:Z0n):List D:=[.int .i64 x.Z5z,.int .i64 x.f_To,.int .i64 x.Z6b,.int .i64 x.Z0w,.str x.Z1r]
instance:Row Z0n:=⟨Z0s,5,fun _=>rfl⟩
structure Z0h where
 Z0y:Int
 Z1b:Int
 Z0d:List UInt8
def Z2d (x:Z0h):List D:=[.int .i64 x.Z0y,.int .u8 x.Z1b,.str x.Z0d]
instance:Row Z0h:=⟨Z2d,3,fun _=>rfl⟩
structure Z0i where
 Z22:Int
 Z3e:Int
 Z1r:Z0h
 Z41:Int
def Z1l (x:Z0i):List D:=[.int .i64 x.Z22,.int .i64 x.Z3e,.int .i64 x.Z1r.Z0y,.int .u8 x.Z1r.Z1b,.str x.Z1r.Z0d,.int .i64 x.Z41]
instance:Row Z0i:=⟨Z1l,6,fun _=>rfl⟩
structure Z53 where
 Z0t:List Z0i
 Z0x:List Z0i
 Z6h:Bool
def Ztb (x:Z53):List D:=[.sl false (x.Z0t.map Z1l),.sl false (x.Z0x.map Z1l),.bool x.Z6h]
instance:Row Z53:=⟨Ztb,3,fun _=>rfl⟩
structure Z0p where
 Z1h:Int
 Z1m:Z53
def Z0z (x:Z0p):List D:=[.int .i64 x.Z1h,.sl false (x.Z1m.Z0t.map Z1l),.sl false (x.Z1m.Z0x.map Z1l),.bool x.Z1m.Z6h]
instance:Row Z0p:=⟨Z0z,4,fun _=>rfl⟩
structure Z15 where
 Z1h:Int
 Z7c:Int
def Z1a (x:Z15):List D:=[.int .i64 x.Z1h,.int .i64 x.Z7c]
instance:Row Z15:=⟨Z1a,2,fun _=>rfl⟩
structure Z0a where
 Z0x:Int
 Z0t:Int
 Z0k:List Z01
 Z1z:List Z0n
 Z1k:List Z0p
 Z1u:List Z15
def Z0u (x:Z0a):List D:=[.int .i64 x.Z0x,.int .i64 x.Z0t,.sl false (x.Z0k.map Z0e),.sl false (x.Z1z.map Z0s),.sl false (x.Z1k.map Z0z),.sl false (x.Z1u.map Z1a)]
instance:Row Z0a:=⟨Z0u,6,fun _=>rfl⟩
structure Z2r where
 Z0q:Int
 Z0d:List UInt8
 Z16:List UInt8
 Z9g:Bool
 Z2b:Z0a
 Z6e:List (List UInt8)
def Z71 (x:Z2r):List D:=[.int .i64 x.Z0q,.str x.Z0d,.str x.Z16,.bool x.Z9g,.int .i64 x.Z2b.Z0x,.int .i64 x.Z2b.Z0t,.sl false (x.Z2b.Z0k.map Z0e),.sl false (x.Z2b.Z1z.map Z0s),.sl false (x.Z2b.Z1k.map Z0z),.sl false (x.Z2b.Z1u.map Z1a),.sl false (x.Z6e.map Z3z)]
instance:Row Z2r:=⟨Z71,11,fun _=>rfl⟩
structure Z0m where
 Z0q:Int
 Z0d:List UInt8
 Z1c:List UInt8
 Z1f:List (List UInt8)
 Z0g:List Z1d
 Z10:List Z2r
 Z9a:List UInt8
def Z2m (x:Z0m):List D:=[.int .i64 x.Z0q,.str x.Z0d,.str x.Z1c,.sl false (x.Z1f.map Z3z),.sl false (x.Z0g.map Z5g),.sl false (x.Z10.map Z71),.str x.Z9a]
instance:Row Z0m:=⟨Z2m,7,fun _=>rfl⟩
structure Z1v where
 Z2w:Int
 Z11:Z0m
 Z1c:Int
 Z1f:List Int
 Zb3:Int
 Zi9:Int
def Z4c (x:Z1v):List D:=[.int .i64 x.Z2w,.int .i64 x.Z11.Z0q,.str x.Z11.Z0d,.str x.Z11.Z1c,.sl false (x.Z11.Z1f.map Z3z),.sl false (x.Z11.Z0g.map Z5g),.sl false (x.Z11.Z10.map Z71),.str x.Z11.Z9a,.int .i64 x.Z1c,.sl false (x.Z1f.map Z03),.int .i64 x.Zb3,.int .i64 x.Zi9]
instance:Row Z1v:=⟨Z4c,12,fun _=>rfl⟩
structure Z9h where
 Zm0:List UInt8
 f_To:Int
def Zdq (x:Z9h):List D:=[.str x.Zm0,.int .i64 x.f_To]
instance:Row Z9h:=⟨Zdq,2,fun _=>rfl⟩
structure Z8f where
 Z0d:List UInt8
 Z2h:List UInt8
def Zfl (x:Z8f):List D:=[.str x.Z0d,.str x.Z2h]
instance:Row Z8f:=⟨Zfl,2,fun _=>rfl⟩
structure Z1p where
 Z5j:List Z9h
 Z3q:List Z8f
def Z2u (x:Z1p):List D:=[.sl false (x.Z5j.map Zdq),.sl false (x.Z3q.map Zfl)]
instance:Row Z1p:=⟨Z2u,2,fun _=>rfl⟩
structure Z2v where
 Z2w:Int
 Z0d:List UInt8
 Z0w:Int
def Z5b (x:Z2v):List D:=[.int .i64 x.Z2w,.str x.Z0d,.int .i64 x.Z0w]
instance:Row Z2v:=⟨Z5b,3,fun _=>rfl⟩
structure Z4r where
 Z0d:List UInt8
 f_A:Int
 f_B:Int
def Z5x (x:Z4r):List D:=[.str x.Z0d,.int .i64 x.f_A,.int .i64 x.f_B]
instance:Row Z4r:=⟨Z5x,3,fun _=>rfl⟩
structure Z0c where
 Z23:List Z1p
 Z0o:List Z1v
 Z2p:List Z2v
 Z43:List Z4r
def Z1g (x:Z0c):List D:=[.sl false (x.Z23.map Z2u),.sl false (x.Z0o.map Z4c),.sl false (x.Z2p.map Z5b),.sl false (x.Z43.map Z5x)]
instance:Row Z0c:=⟨Z1g,4,fun _=>rfl⟩
structure Z00 where
 Z1s:Int
 f_S:List UInt8
 f_N:Int
 f_A:Int
 f_B:Int
def Z07 (x:Z00):List D:=[.int .i64 x.Z1s,.str x.f_S,.int .i64 x.f_N,.int .i64 x.f_A,.int .i64 x.f_B]
instance:Row Z00:=⟨Z07,5,fun _=>rfl⟩
structure Z0v where
 Z0w:Int
 Z1h:Int
def Z25 (x:Z0v):List D:=[.int .i64 x.Z0w,.int .i64 x.Z1h]
instance:Row Z0v:=⟨Z25,2,fun _=>rfl⟩
structure Z0f where
 Z0q:Int
 Z0d:Int
 Z16:Int
 Z1j:List Z19
def Z0l (x:Z0f):List D:=[.int .i64 x.Z0q,.int .i64 x.Z0d,.int .i64 x.Z16,.sl false (x.Z1j.map Z1o)]
instance:Row Z0f:=⟨Z0l,4,fun _=>rfl⟩
structure Z13 where
 Z20:List Z00
 Z0q:Int
 Z3p:Int
 Z1c:Int
 Z1f:List Int
 Z0g:List Z0f
 Z10:List Z0f
 Z1j:List Z19
def Z28 (x:Z13):List D:=[.sl false (x.Z20.map Z07),.int .i64 x.Z0q,.int .i64 x.Z3p,.int .i64 x.Z1c,.sl false (x.Z1f.map Z03),.sl false (x.Z0g.map Z0l),.sl false (x.Z10.map Z0l),.sl false (x.Z1j.map Z1o)]
instance:Row Z13:=⟨Z28,8,fun _=>rfl⟩
structure Z6r where
 Z0w:Int
 Z1h:Int
def Zdv (x:Z6r):List D:=[.int .i64 x.Z0w,.int .i64 x.Z1h]
instance:Row Z6r:=⟨Zdv,2,fun _=>rfl⟩
structure Z2o where
 Z7u:List Z0h
 Zfj:Z0h
def Zdw (x:Z2o):List D:=[.sl false (x.Z7u.map Z2d),.int .i64 x.Zfj.Z0y,.int .u8 x.Zfj.Z1b,.str x.Zfj.Z0d]
instance:Row Z2o:=⟨Zdw,4,fun _=>rfl⟩
structure Z1i where
 Z22:Int
 f_N:Int
def Z2t (x:Z1i):List D:=[.int .i64 x.Z22,.int .i64 x.f_N]
instance:Row Z1i:=⟨Z2t,2,fun _=>rfl⟩
structure Z17 where
 f_S:List UInt8
 f_At:Int
 Z3l:Bool
def Z8q (x:Z17):List D:=[.str x.f_S,.int .i64 x.f_At,.bool x.Z3l]
instance:Row Z17:=⟨Z8q,3,fun _=>rfl⟩
structure Z3b where
 f_C:Z0a
 Z2h:List UInt8
 Zqj:List Int
def Z6x (x:Z3b):List D:=[.int .i64 x.f_C.Z0x,.int .i64 x.f_C.Z0t,.sl false (x.f_C.Z0k.map Z0e),.sl false (x.f_C.Z1z.map Z0s),.sl false (x.f_C.Z1k.map Z0z),.sl false (x.f_C.Z1u.map Z1a),.str x.Z2h,.sl false (x.Zqj.map Z03)]
instance:Row Z3b:=⟨Z6x,8,fun _=>rfl⟩
structure Z2a where
 f_F:Z13
 Zan:List Z0a
 Zcx:List (List Int)
 Z7k:List Z1t
def Z83 (x:Z2a):List D:=[.sl false (x.f_F.Z20.map Z07),.int .i64 x.f_F.Z0q,.int .i64 x.f_F.Z3p,.int .i64 x.f_F.Z1c,.sl false (x.f_F.Z1f.map Z03),.sl false (x.f_F.Z0g.map Z0l),.sl false (x.f_F.Z10.map Z0l),.sl false (x.f_F.Z1j.map Z1o),.sl false (x.Zan.map Z0u),.sl false (x.Zcx.map (rSl Z03)),.sl false (x.Z7k.map Z29)]
instance:Row Z2a:=⟨Z83,11,fun _=>rfl⟩
structure Z0j where
 f_P:List Z00
 f_E:Int
def Z3c (x:Z0j):List D:=[.sl false (x.f_P.map Z07),.int .i64 x.f_E]
instance:Row Z0j:=⟨Z3c,2,fun _=>rfl⟩
def Z9n (x y:Z1i):Bool:=((x.Z22==y.Z22)&&((x.f_N==y.f_N)&&true))
def eqq_37 : Prop := prog.stoodInHeld 37 = false ∧ ("Kind" ≠ "_" ∧ True ∧ ("N" ≠ "_" ∧ True ∧ True))
theorem Zpj:eqq_37:=⟨by kernel_rfl,⟨by decide,trivial,⟨by decide,trivial,trivial⟩⟩⟩
theorem Zo6:prog.eqGuardType prog.depth 37=false:=by kernel_rfl
def Zhc (x y:Z0v):Bool:=((x.Z0w==y.Z0w)&&((x.Z1h==y.Z1h)&&true))
def eqq_54 : Prop := prog.stoodInHeld 54 = false ∧ ("Class" ≠ "_" ∧ True ∧ ("Index" ≠ "_" ∧ True ∧ True))
theorem Zxe:eqq_54:=⟨by kernel_rfl,⟨by decide,trivial,⟨by decide,trivial,trivial⟩⟩⟩
theorem Zyz:prog.eqGuardType prog.depth 54=false:=by kernel_rfl
def Zw7 (x y:Z0h):Bool:=((x.Z0y==y.Z0y)&&((x.Z1b==y.Z1b)&&((x.Z0d==y.Z0d)&&true)))
def eqq_74 : Prop := prog.stoodInHeld 74 = false ∧ ("Dim" ≠ "_" ∧ True ∧ ("Base" ≠ "_" ∧ True ∧ ("Name" ≠ "_" ∧ True ∧ True)))
theorem eqp_74:eqq_74:=⟨by kernel_rfl,⟨by decide,trivial,⟨by decide,trivial,⟨by decide,trivial,trivial⟩⟩⟩⟩
theorem eqg_74:prog.eqGuardType prog.depth 74=false:=by kernel_rfl
def Zn5 (x y:Z00):Bool:=((x.Z1s==y.Z1s)&&((x.f_S==y.f_S)&&((x.f_N==y.f_N)&&((x.f_A==y.f_A)&&((x.f_B==y.f_B)&&true)))))
def eqq_171 : Prop := prog.stoodInHeld 171 = false ∧ ("Tag" ≠ "_" ∧ True ∧ ("S" ≠ "_" ∧ True ∧ ("N" ≠ "_" ∧ True ∧ ("A" ≠ "_" ∧ True ∧ ("B" ≠ "_" ∧ True ∧ True)))))
theorem eqp_171:eqq_171:=⟨by kernel_rfl,⟨by decide,trivial,⟨by decide,trivial,⟨by decide,trivial,⟨by decide,trivial,⟨by decide,trivial,trivial⟩⟩⟩⟩⟩⟩
theorem eqg_171:prog.eqGuardType prog.depth 171=false:=by kernel_rfl
def Zmb (x y:Z26):Bool:=((x.Z0w==y.Z0w)&&((x.Z0d==y.Z0d)&&((x.Z16==y.Z16)&&true)))
def eqq_176 : Prop := prog.stoodInHeld 176 = false ∧ ("Class" ≠ "_" ∧ True ∧ ("Name" ≠ "_" ∧ True ∧ ("Desc" ≠ "_" ∧ True ∧ True)))
theorem Y02:eqq_176:=⟨by kernel_rfl,⟨by decide,trivial,⟨by decide,trivial,⟨by decide,trivial,trivial⟩⟩⟩⟩
theorem Zyj:prog.eqGuardType prog.depth 176=false:=by kernel_rfl
def R8 (y0:Bool):D:= .bool y0
def Zpu (x0:Z0c):Option (Bool):= some (decide ((x0.Z0o.length:Int)≤40))
theorem w8 {x0 r} (h:Zpu x0=some r):Z09 prog 8 [.agg (Z1g x0)] (R8 r):= cs f8<|go [] [rg 0 [(0,bo)],rg 1 [(2,ln x0.Z0o)]]<|rt h
def R63 (y0:Bool):D:= .bool y0
def Zch (x0:Int):Option (Bool):= if (decide (x0≥97)) then (if (decide (x0≤122)) then (some true) else (if (decide (x0≥65)) then (if (decide (x0≤90)) then (some true) else (if (x0==95) then (some true) else (some (x0==36)))) else (if (x0==95) then (some true) else (some (x0==36))))) else (if (decide (x0≥65)) then (if (decide (x0≤90)) then (some true) else (if (x0==95) then (some true) else (some (x0==36)))) else (if (x0==95) then (some true) else (some (x0==36))))
theorem w63 {x0 r} (h:Zch x0=some r):Z09 prog 63 [d8 x0] (R63 r):= cs f63<|go [1] []<|po<|pr 3 []<|sp h (fun h0 h=>pr 4 (gC h0 3 2 [(5,py h0)])<|sp h (fun h1 h=>pr 16 (gA h1 7 3 [(12,gs0 h1),(13,py h1)])<|pe<|goN [] []<|rt h) fun h1 h=> pr 3 (gC h1 7 3 [])<|sp h (fun h2 h=>pr 5 (gC h2 10 2 [(12,gw h1 (py h2)),(13,pn h1)])<|sp h (fun h3 h=>pr 8 (gA h3 15 2 [(17,py h3)])<|pe<|goN [] []<|rt h) fun h3 h=> pr 4 (gC h3 15 2 [(17,pn h3)])<|sp h (fun h4 h=>pr 4 (gA h4 19 2 [(21,py h4)])<|pe<|goN [] []<|rt h) fun h4 h=> pr 4 (gC h4 19 2 [(21,pn h4)])<|pe<|goN [] []<|rt h) fun h2 h=> pr 9 (gB h2 10 2 [(12,gw h1 (pn h2)),(13,pn h1)])<|sp h (fun h5 h=>pr 4 (gA h5 19 2 [(21,py h5)])<|pe<|goN [] []<|rt h) fun h5 h=> pr 4 (gC h5 19 2 [(21,pn h5)])<|pe<|goN [] []<|rt h) fun h0 h=> pr 7 (gB h0 3 2 [(5,pn h0)])<|sp h (fun h6 h=>pr 5 (gC h6 10 2 [(12,py h6)])<|sp h (fun h7 h=>pr 8 (gA h7 15 2 [(17,py h7)])<|pe<|goN [] []<|rt h) fun h7 h=> pr 4 (gC h7 15 2 [(17,pn h7)])<|sp h (fun h8 h=>pr 4 (gA h8 19 2 [(21,py h8)])<|pe<|goN [] []<|rt h) fun h8 h=> pr 4 (gC h8 19 2 [(21,pn h8)])<|pe<|goN [] []<|rt h) fun h6 h=> pr 9 (gB h6 10 2 [(12,pn h6)])<|sp h (fun h9 h=>pr 4 (gA h9 19 2 [(21,py h9)])<|pe<|goN [] []<|rt h) fun h9 h=> pr 4 (gC h9 19 2 [(21,pn h9)])<|pe<|goN [] []<|rt h
def R50 (y0:Bool):D:= .bool y0
def Zbl (x0 : List UInt8) (t0:Int):Option (Ctl (Int) (Unit⊕Bool)):= if (decide (t0<(x0.length:Int))) then ((Z2g x0 t0).bind fun v2=> (Zch v2).bind fun v3=> if (!v3) then (if (t0==0) then (some (.done (.inr false))) else ((Z2g x0 t0).bind fun v4=> if (decide (v4<48)) then (some (.done (.inr false))) else ((Z2g x0 t0).bind fun v5=> if (decide (v5>57)) then (some (.done (.inr false))) else ((some (IntKind.wrap .i64 (t0+1))).bind fun v6=> some (.next v6))))) else ((some (IntKind.wrap .i64 (t0+1))).bind fun v7=> some (.next v7))) else (some (.done (.inl (()))))
def Z9c (x0:List UInt8):Option (Bool):= (Z06 (Zbl x0) Z08 0).bind fun q1=> match q1 with | .inl q0=>(some (decide ((x0.length:Int)>0))) | .inr y0=>(some y0)
def Zzz (x0:List UInt8):Int→SL:= fun t0=>⟨34,[(0,.str x0),(3,dI t0)],[]⟩
def J50x1 (x0:List UInt8):JT (Unit⊕Bool):= ju (je 0 fun q0:Unit=>⟨34,[(0,.str x0)],[]⟩) (jr prog f50 R50)
theorem wl50x1 {x0 t0 r Γ} (h:(Zbl x0) t0=some r):A prog Γ (lpC f50 21) [] (Rd (Zzz x0) (J50x1 x0) r) ((Zzz x0) t0).s:= go [] []<|br h (fun h2 h=>go [4] []<|po<|bd h fun v2 e2 h=>bd h fun v3 e3 h=>pr 6 [(2,ib e2),(3,k (w63 e3))]<|sp h (fun h3 h=>pr 3 (gC h3 6 3 [])<|sp h (fun h4 h=>pr 12 (gA h4 9 4 [(13,gw h3 (py h4)),(14,gw h3 g0),(19,gw h3 g0),(20,py h3)])<|pe<|goN [] []<|bT rfl<|go [] []<|dn h (i2 iR)) fun h4 h=> bd h fun v4 e4 h=>pr 6 (gC h4 9 2 [(11,gw h4 (ib e4)),(12,gw h4 g0),(13,gw h3 (pn h4)),(14,gw h3 g0)])<|sp h (fun h5 h=>pr 6 (gA h5 15 4 [(19,gw h3 (py h5)),(20,py h3)])<|pe<|goN [] []<|bT rfl<|go [] []<|dn h (i2 iR)) fun h5 h=> bd h fun v5 e5 h=>pr 6 (gC h5 15 2 [(17,gw h5 (ib e5)),(18,gw h5 g0),(19,gw h3 (pn h5)),(20,py h3)])<|pe<|goN [] []<|br h (fun h6 h=>go [] []<|dn h (i2 iR)) fun h6 h=> bd h fun v6 e6 h=>go [] [rg 3 [(1,n e6)]]<|nx h) fun h3 h=> pr 15 (gB h3 6 3 (gB h3 13 2 [(19,gs1 h3),(20,pn h3)]))<|pe<|goN [] []<|bF rfl<|bd h fun v7 e7 h=>go [] [rg 3 [(1,n e7)]]<|nx h) fun h2 h=> go [] []<|dn h (i1 iE)
theorem w50 {x0 r} (h:Z9c x0=some r):Z09 prog 50 [.str x0] (R50 r):= cs f50<|go [] []<|bd h fun q1 e8 h=>lp e8 wl50x1<|match q1,h with | .inl q0,h=>j1<|(qe<|goN [] []<|rt h) | .inr y0,h=>j2<|(qr h)
def R29 (y0:Bool):D:= .bool y0
def Zc9 (x0:List UInt8) (t0:Int×Int):Option (Ctl (Int×Int) (Int⊕Bool)):= if (decide (t0.2<(x0.length:Int))) then ((Z2g x0 t0.2).bind fun v3=> if (v3==47) then ((sub x0 t0.1 t0.2).bind fun v4=> (Z9c v4).bind fun v5=> if (!v5) then (some (.done (.inr false))) else ((some (IntKind.wrap .i64 (t0.2+1))).bind fun v6=> (some (IntKind.wrap .i64 (t0.2+1))).bind fun v7=> some (.next (v6,v7)))) else ((some (IntKind.wrap .i64 (t0.2+1))).bind fun v8=> some (.next (t0.1,v8)))) else (some (.done (.inl (t0.1))))
def Z7l (x0:List UInt8):Option (Bool):= if (decide ((x0.length:Int)>64)) then (some false) else ((Z06 (Zc9 x0) Z08 (0,0)).bind fun q1=> match q1 with | .inl q0=>((sub x0 q0 (x0.length:Int)).bind fun v9=> (Z9c v9).bind fun v10=> some v10) | .inr y0=>(some y0))
def Zyp (x0:List UInt8):(Int×Int)→SL:= fun t0=>⟨30,[(0,.str x0),(3,dI t0.1),(4,dI t0.2)],[]⟩
def J29x1 (x0:List UInt8):JT (Int⊕Bool):= ju (je 0 fun q0:Int=>⟨30,[(0,.str x0),(3,dI q0)],[]⟩) (jr prog f29 R29)
theorem wl29x1 {x0 t0 r Γ} (h:(Zc9 x0) t0=some r):A prog Γ (lpC f29 87) [] (Rd (Zyp x0) (J29x1 x0) r) ((Zyp x0) t0).s:= go [] []<|br h (fun h4 h=>bd h fun v3 e3 h=>go [] [rg 7 [(2,ib e3)]]<|br h (fun h5 h=>bd h fun v4 e4 h=>bd h fun v5 e5 h=>go [] [rg 8 [(3,ss e4),(4,k (w50 e5))]]<|br h (fun h6 h=>go [] []<|dn h (i2 iR)) fun h6 h=> bd h fun v6 e6 h=>bd h fun v7 e7 h=>go [] [rg 10 [(1,n e6)],rg 6 [(1,n e7)]]<|nx h) fun h5 h=> bd h fun v8 e8 h=>go [] [rg 6 [(1,n e8)]]<|nx h) fun h4 h=> go [] []<|dn h (i1 iE)
theorem w29 {x0 r} (h:Z7l x0=some r):Z09 prog 29 [.str x0] (R29 r):= cs f29<|go [] []<|br h (fun h0 h=>go [] []<|rt h) fun h0 h=> go [] []<|bd h fun q1 e9 h=>lp e9 wl29x1<|match q1,h with | .inl q0,h=>j1<|(qe<|bd h fun v9 e10 h=>bd h fun v10 e11 h=>goN [] [rg 11 [(2,ss e10),(3,k (w50 e11))]]<|rt h) | .inr y0,h=>j2<|(qr h)
def R53 (y0:Bool):D:= .bool y0
def Z8m (x0 x1:List UInt8):Option (Bool):= if (decide ((x1.length:Int)≤(x0.length:Int))) then ((sub x0 0 (x1.length:Int)).bind fun v0=> some (v0==x1)) else (some false)
theorem w53 {x0 x1 r} (h:Z8m x0 x1=some r):Z09 prog 53 [.str x0,.str x1] (R53 r):= cs f53<|sp h (fun h0 h=>bd h fun v0 e0 h=>go [] [rg 1 [(4,kb h0),(9,ss e0)]]<|rt h) fun h0 h=> go [] [rg 1 [(4,kb h0)]]<|rt h
def R48 (y0:Int):D:= .int .i64 y0
def Zhh (x0:Z1p) (x1 t0:Int):Option (Ctl (Int) (Unit⊕Int)):= if (decide (t0<(x0.Z3q.length:Int))) then ((Z05 x0.Z3q t0).bind fun v3=> (Z7l v3.Z0d).bind fun v4=> if (!v4) then (some (.done (.inr 12))) else (if (decide (x1>0)) then ((Z8m v3.Z0d [108,97,110,103,47]).bind fun v5=> if v5 then (some (.done (.inr 12))) else ((some (IntKind.wrap .i64 (t0+1))).bind fun v6=> some (.next v6))) else ((some (IntKind.wrap .i64 (t0+1))).bind fun v7=> some (.next v7)))) else (some (.done (.inl (()))))
def Zhs (x0:Z1p) (x1:Int):Option (Int):= (Z06 (Zhh x0 x1) Z08 0).bind fun q1=> match q1 with | .inl q0=>(some 0) | .inr y0=>(some y0)
def Zv8 (x0:Z1p) (x1:Int):Int→SL:= fun t0=>⟨31,[(1,dI x1),(2,.ptr (Z2u x0)),(5,dI t0)],[]⟩
def J48x1:JT (Unit⊕Int):= ju (je 0 fun q0:Unit=>⟨31,[],[]⟩) (jr prog f48 R48)
theorem wl48x1 {x0 x1 t0 r Γ} (h:(Zhh x0 x1) t0=some r):A prog Γ (lpC f48 21) [] (Rd (Zv8 x0 x1) J48x1 r) ((Zv8 x0 x1) t0).s:= go [] [rg 2 [(3,ln x0.Z3q)]]<|br h (fun h4 h=>bd h fun v3 e3 h=>go [5] [rg 4 [(3,ix e3)]]<|po<|bd h fun v4 e4 h=>pr 4 [(1,k (w29 e4))]<|sp h (fun h5 h=>pr 7 (gA h5 4 3 [(9,gs0 h5),(10,py h5)])<|pe<|goN [] []<|bT rfl<|go [] []<|dn h (i2 iR)) fun h5 h=> pr 3 (gC h5 4 3 [])<|sp h (fun h6 h=>bd h fun v5 e5 h=>pr 4 [(7,gw h6 g0),(8,gw h6 (k (w53 e5))),(9,gw h5 (py h6)),(10,pn h5)]<|pe<|goN [] []<|br h (fun h7 h=>go [] []<|dn h (i2 iR)) fun h7 h=> bd h fun v6 e6 h=>go [] [rg 3 [(1,n e6)]]<|nx h) fun h6 h=> pr 4 (gB h6 7 2 [(9,gw h5 (pn h6)),(10,pn h5)])<|pe<|goN [] []<|bF rfl<|bd h fun v7 e7 h=>go [] [rg 3 [(1,n e7)]]<|nx h) fun h4 h=> go [] []<|dn h (i1 iE)
theorem w48 {x0 x1 r} (h:Zhs x0 x1=some r):Z09 prog 48 [.agg (Z2u x0),dI x1] (R48 r):= cs f48<|go [] [rg 0 [(0,bo)]]<|bd h fun q1 e8 h=>lp e8 wl48x1<|match q1,h with | .inl q0,h=>j1<|(qe<|goN [] []<|rt h) | .inr y0,h=>j2<|(qr h)
def R49 (y0:Bool):D:= .bool y0
def Zly (t0:Int) (x0:Z1p) (t2:Int):Option (Ctl (Int) (Unit⊕Bool)):= if (decide (t2<t0)) then ((Z05 x0.Z3q t0).bind fun v2=> (Z05 x0.Z3q t2).bind fun v3=> if (v2.Z0d==v3.Z0d) then (some (.done (.inr true))) else ((some (IntKind.wrap .i64 (t2+1))).bind fun v4=> some (.next v4))) else (some (.done (.inl (()))))
def Zgx (x0:Z1p) (t0:Int):Option (Ctl (Int) (Unit⊕Bool)):= if (decide (t0<(x0.Z3q.length:Int))) then ((Z06 (Zly t0 x0) Z08 0).bind fun q3=> match q3 with | .inl q2=>((some (IntKind.wrap .i64 (t0+1))).bind fun v5=> some (.next v5)) | .inr y1=>(some (.done (.inr y1)))) else (some (.done (.inl (()))))
def Zho (x0:Z1p):Option (Bool):= (Z06 (Zgx x0) Z08 0).bind fun q5=> match q5 with | .inl q4=>(some false) | .inr y2=>(some y2)
def Zvk (t0:Int) (x0:Z1p):Int→SL:= fun t2=>⟨30,[(1,.ptr (Z2u x0)),(3,dI t0),(4,dI t2)],[]⟩
def J49x2 (t0:Int) (x0:Z1p):JT (Unit⊕Bool):= ju (je 2 fun q2:Unit=>⟨30,[(1,.ptr (Z2u x0)),(3,dI t0)],[]⟩) (jr prog f49 R49)
theorem wl49x2 {t0 x0 t2 r Γ} (h:(Zly t0 x0) t2=some r):A prog Γ (lpC f49 1317) [] (Rd (Zvk t0 x0) (J49x2 t0 x0) r) ((Zvk t0 x0) t2).s:= go [] []<|br h (fun h4 h=>bd h fun v2 e3 h=>bd h fun v3 e4 h=>go [] [rg 7 [(3,ix e3),(9,ix e4)]]<|br h (fun h5 h=>go [] []<|dn h (i2 iR)) fun h5 h=> bd h fun v4 e5 h=>go [] [rg 6 [(1,n e5)]]<|nx h) fun h4 h=> go [] []<|dn h (i1 iE)
def Zuy (x0:Z1p):Int→SL:= fun t0=>⟨30,[(1,.ptr (Z2u x0)),(3,dI t0)],[]⟩
def J49x1:JT (Unit⊕Bool):= ju (je 0 fun q4:Unit=>⟨30,[],[]⟩) (jr prog f49 R49)
theorem wl49x1 {x0 t0 r Γ} (h:(Zgx x0) t0=some r):A prog Γ (lpC f49 21) [] (Rd (Zuy x0) J49x1 r) ((Zuy x0) t0).s:= go [] [rg 2 [(3,ln x0.Z3q)]]<|br h (fun h1 h=>go [] []<|bd h fun q3 e6 h=>lp e6 wl49x2<|match q3,h with | .inl q2,h=>j1<|(qe<|bd h fun v5 e7 h=>goN [] [rg 3 [(1,n e7)]]<|nx h) | .inr y1,h=>j2<|(ql h fun _ _ p=>⟨(iS p).1,i2 ((iS p).2)⟩)) fun h1 h=> go [] []<|dn h (i1 iE)
theorem w49 {x0 r} (h:Zho x0=some r):Z09 prog 49 [.agg (Z2u x0)] (R49 r):= cs f49<|go [] [rg 0 [(0,bo)]]<|bd h fun q5 e8 h=>lp e8 wl49x1<|match q5,h with | .inl q4,h=>j1<|(qe<|goN [] []<|rt h) | .inr y2,h=>j2<|(qr h)
def R28 (y0:Int):D:= .int .i64 y0
def Zk1 (x0:List Z1p) (t0:Int):Option (Ctl (Int) (Unit⊕Int)):= if (decide (t0<(x0.length:Int))) then ((Z05 x0 t0).bind fun v2=> if (decide ((v2.Z5j.length:Int)>8)) then (some (.done (.inr 5))) else ((Z05 x0 t0).bind fun v3=> if (decide ((v3.Z3q.length:Int)>64)) then (some (.done (.inr 5))) else ((some (IntKind.wrap .i64 (t0+1))).bind fun v4=> some (.next v4)))) else (some (.done (.inl (()))))
def Zj6 (t1:Int) (x0:List Z1p) (t3:Int):Option (Ctl (Int) (Unit⊕Int)):= (Z05 x0 t1).bind fun v21=> if (decide (t3<(v21.Z5j.length:Int))) then ((Z05 x0 t1).bind fun v22=> (Z05 v22.Z5j t3).bind fun v23=> if (decide (v23.f_To<0)) then (some (.done (.inr 2))) else ((Z05 x0 t1).bind fun v24=> (Z05 v24.Z5j t3).bind fun v25=> if (decide (v25.f_To≥t1)) then (some (.done (.inr 2))) else ((some (IntKind.wrap .i64 (t3+1))).bind fun v26=> some (.next v26)))) else (some (.done (.inl (()))))
def Zjw (x0:List Z1p) (t1:Int):Option (Ctl (Int) (Unit⊕Int)):= if (decide (t1<(x0.length:Int))) then ((Z06 (Zj6 t1 x0) Z08 0).bind fun q5=> match q5 with | .inl q4=>((some (IntKind.wrap .i64 (t1+1))).bind fun v27=> some (.next v27)) | .inr y1=>(some (.done (.inr y1)))) else (some (.done (.inl (()))))
def Zhi (x0:List Z1p) (t4:Int):Option (Ctl (Int) (Unit⊕Int)):= if (decide (t4<(x0.length:Int))) then ((Z05 x0 t4).bind fun v30=> (Zhs v30 t4).bind fun v31=> if (v31 !=0) then (some (.done (.inr v31))) else ((some (IntKind.wrap .i64 (t4+1))).bind fun v32=> some (.next v32))) else (some (.done (.inl (()))))
def Zlp (x0:List Z1p) (t5:Int):Option (Ctl (Int) (Unit⊕Int)):= if (decide (t5<(x0.length:Int))) then ((Z05 x0 t5).bind fun v35=> (Zho v35).bind fun v36=> if v36 then (some (.done (.inr 6))) else ((some (IntKind.wrap .i64 (t5+1))).bind fun v37=> some (.next v37))) else (some (.done (.inl (()))))
def j28x1 (x0:List Z1p):Option (Int):= (Z06 (Zk1 x0) Z08 0).bind fun q1=> match q1 with | .inl q0=>((Z06 (Zjw x0) Z08 0).bind fun q7=> match q7 with | .inl q6=>((Z06 (Zhi x0) Z08 0).bind fun q9=> match q9 with | .inl q8=>((Z06 (Zlp x0) Z08 0).bind fun q11=> match q11 with | .inl q10=>(some 0) | .inr y2=>(some y2)) | .inr y3=>(some y3)) | .inr y4=>(some y4)) | .inr y5=>(some y5)
def Zii (x0:List Z1p):Option (Int):= if ((x0.length:Int)==0) then (some 5) else (if (decide ((x0.length:Int)>8)) then (some 5) else ((j28x1 x0)))
def Zvc (x0:List Z1p):Int→SL:= fun t0=>⟨104,[(0,.sl false (x0.map Z2u)),(3,dI t0)],[]⟩
def J28x1 (x0:List Z1p):JT (Unit⊕Int):= ju (je 0 fun q0:Unit=>⟨104,[(0,.sl false (x0.map Z2u))],[]⟩) (jr prog f28 R28)
theorem wl28x1 {x0 t0 r Γ} (h:(Zk1 x0) t0=some r):A prog Γ (lpC f28 43) [] (Rd (Zvc x0) (J28x1 x0) r) ((Zvc x0) t0).s:= go [] [rg 4 [(2,ln x0)]]<|br h (fun h5 h=>bd h fun v2 e2 h=>sp h (fun h6 h=>go [] [rg 6 [(2,ix e2),(5,ln v2.Z5j),(6,kb h6)]]<|bT rfl<|go [] []<|dn h (i2 iR)) fun h6 h=> bd h fun v3 e3 h=>go [] [rg 6 [(2,ix e2),(5,ln v2.Z5j),(6,kb h6),(10,ix e3),(13,ln v3.Z3q)]]<|br h (fun h7 h=>go [] []<|dn h (i2 iR)) fun h7 h=> bd h fun v4 e4 h=>go [] [rg 5 [(1,n e4)]]<|nx h) fun h5 h=> go [] []<|dn h (i1 iE)
def Zwr (t1:Int) (x0:List Z1p):Int→SL:= fun t3=>⟨104,[(0,.sl false (x0.map Z2u)),(4,dI t1),(5,dI t3)],[]⟩
def J28x3 (t1:Int) (x0:List Z1p):JT (Unit⊕Int):= ju (je 4 fun q4:Unit=>⟨104,[(0,.sl false (x0.map Z2u)),(4,dI t1)],[]⟩) (jr prog f28 R28)
theorem wl28x3 {t1 x0 t3 r Γ} (h:(Zj6 t1 x0) t3=some r):A prog Γ (lpC f28 5271) [] (Rd (Zwr t1 x0) (J28x3 t1 x0) r) ((Zwr t1 x0) t3).s:= bd h fun v21 e23 h=>go [] [rg 12 [(3,ix e23),(6,ln v21.Z5j)]]<|br h (fun h19 h=>bd h fun v22 e24 h=>bd h fun v23 e25 h=>sp h (fun h20 h=>go [] [rg 14 [(2,ix e24),(6,ix e25),(9,kb h20)]]<|bT rfl<|go [] []<|dn h (i2 iR)) fun h20 h=> bd h fun v24 e26 h=>bd h fun v25 e27 h=>go [] [rg 14 [(2,ix e24),(6,ix e25),(9,kb h20),(13,ix e26),(17,ix e27)]]<|br h (fun h21 h=>go [] []<|dn h (i2 iR)) fun h21 h=> bd h fun v26 e28 h=>go [] [rg 13 [(1,n e28)]]<|nx h) fun h19 h=> go [] []<|dn h (i1 iE)
def Zsd (x0:List Z1p):Int→SL:= fun t1=>⟨104,[(0,.sl false (x0.map Z2u)),(4,dI t1)],[]⟩
def J28x2 (x0:List Z1p):JT (Unit⊕Int):= ju (je 2 fun q6:Unit=>⟨104,[(0,.sl false (x0.map Z2u))],[]⟩) (jr prog f28 R28)
theorem wl28x2 {x0 t1 r Γ} (h:(Zjw x0) t1=some r):A prog Γ (lpC f28 87) [] (Rd (Zsd x0) (J28x2 x0) r) ((Zsd x0) t1).s:= go [] [rg 9 [(2,ln x0)]]<|br h (fun h15 h=>go [] []<|bd h fun q5 e29 h=>lp e29 wl28x3<|match q5,h with | .inl q4,h=>j1<|(qe<|bd h fun v27 e30 h=>goN [] [rg 10 [(1,n e30)]]<|nx h) | .inr y1,h=>j2<|(ql h fun _ _ p=>⟨(iS p).1,i2 ((iS p).2)⟩)) fun h15 h=> go [] []<|dn h (i1 iE)
def Zw2 (x0:List Z1p):Int→SL:= fun t4=>⟨104,[(0,.sl false (x0.map Z2u)),(6,dI t4)],[]⟩
def J28x4 (x0:List Z1p):JT (Unit⊕Int):= ju (je 6 fun q8:Unit=>⟨104,[(0,.sl false (x0.map Z2u))],[]⟩) (jr prog f28 R28)
theorem wl28x4 {x0 t4 r Γ} (h:(Zhi x0) t4=some r):A prog Γ (lpC f28 175) [] (Rd (Zw2 x0) (J28x4 x0) r) ((Zw2 x0) t4).s:= go [] [rg 17 [(2,ln x0)]]<|br h (fun h24 h=>bd h fun v30 e34 h=>bd h fun v31 e35 h=>go [] [rg 19 [(2,ix e34),(5,k (w48 e35))]]<|br h (fun h25 h=>go [] []<|dn h (i2 iR)) fun h25 h=> bd h fun v32 e36 h=>go [] [rg 18 [(1,n e36)]]<|nx h) fun h24 h=> go [] []<|dn h (i1 iE)
def Zur (x0:List Z1p):Int→SL:= fun t5=>⟨104,[(0,.sl false (x0.map Z2u)),(8,dI t5)],[]⟩
def J28x5:JT (Unit⊕Int):= ju (je 8 fun q10:Unit=>⟨104,[],[]⟩) (jr prog f28 R28)
theorem wl28x5 {x0 t5 r Γ} (h:(Zlp x0) t5=some r):A prog Γ (lpC f28 351) [] (Rd (Zur x0) J28x5 r) ((Zur x0) t5).s:= go [] [rg 23 [(2,ln x0)]]<|br h (fun h28 h=>bd h fun v35 e40 h=>bd h fun v36 e41 h=>go [] [rg 25 [(2,ix e40),(4,k (w49 e41))]]<|br h (fun h29 h=>go [] []<|dn h (i2 iR)) fun h29 h=> bd h fun v37 e42 h=>go [] [rg 24 [(1,n e42)]]<|nx h) fun h28 h=> go [] []<|dn h (i1 iE)
theorem wj28x1 {x0 r Γ} (h:(j28x1 x0)=some r):Jn prog f28 Γ (Den.Ends prog f28 (R28 r)) 19 ⟨104,[(0,.sl false (x0.map Z2u))],[]⟩:= so<|go [] []<|bd h fun q1 e5 h=>lp e5 wl28x1<|match q1,h with | .inl q0,h=>j1<|(qe<|goN [] []<|bd h fun q7 e31 h=>lp e31 wl28x2<|match q7,h with | .inl q6,h=>j1<|(qe<|goN [] []<|bd h fun q9 e37 h=>lp e37 wl28x4<|match q9,h with | .inl q8,h=>j1<|(qe<|goN [] []<|bd h fun q11 e43 h=>lp e43 wl28x5<|match q11,h with | .inl q10,h=>j1<|(qe<|goN [] []<|rt h) | .inr y2,h=>j2<|(qr h)) | .inr y3,h=>j2<|(qr h)) | .inr y4,h=>j2<|(qr h)) | .inr y5,h=>j2<|(qr h)
theorem w28 {x0 r} (h:Zii x0=some r):Z09 prog 28 [.sl false (x0.map Z2u)] (R28 r):= cs f28<|sp h (fun h0 h=>go [] [rg 1 [(1,ln x0),(2,kb h0)]]<|bT rfl<|go [] []<|rt h) fun h0 h=> go [] [rg 1 [(1,ln x0),(2,kb h0),(5,ln x0)]]<|br h (fun h1 h=>go [] []<|rt h) fun h1 h=> go [3] []<|jn (wj28x1 h)
def R30 (y0:Bool):D:= .bool y0
def Zit (v0:Z2v) (x0:Z0c) (x1 t0:Int):Option (Ctl (Int) (Unit⊕Bool)):= if (decide (t0<x1)) then ((Z05 x0.Z2p t0).bind fun v4=> if (v4.Z2w==v0.Z2w) then ((Z05 x0.Z2p t0).bind fun v5=> if (v5.Z0d==v0.Z0d) then (some (.done (.inr false))) else ((some (IntKind.wrap .i64 (t0+1))).bind fun v6=> some (.next v6))) else ((some (IntKind.wrap .i64 (t0+1))).bind fun v7=> some (.next v7))) else (some (.done (.inl (()))))
def j30x1 (v0:Z2v) (x0:Z0c) (x1:Int):Option (Bool):= (Z06 (Zit v0 x0 x1) Z08 0).bind fun q1=> match q1 with | .inl q0=>(some true) | .inr y0=>(some y0)
def Zlt (x0:Z0c) (x1:Int):Option (Bool):= (Z05 x0.Z2p x1).bind fun v0=> if (decide (v0.Z2w<0)) then (some false) else (if (decide (v0.Z2w≥(x0.Z23.length:Int))) then (some false) else (if (decide (v0.Z0w<0)) then (some false) else (if (decide (v0.Z0w≥(x0.Z0o.length:Int))) then (some false) else ((Z05 x0.Z0o v0.Z0w).bind fun v1=> if (!(v1.Z11.Z0d==v0.Z0d)) then (some false) else ((j30x1 v0 x0 x1))))))
def Zvw (v0:Z2v) (x0:Z0c) (x1:Int):Int→SL:= fun t0=>⟨74,[(1,dI x1),(2,.ptr (Z1g x0)),(5,.lptr 5 0 0),(6,dI t0)],[(5,{ sz:=3,rows:=[Z5b v0],frz:=0,pure:=false })]⟩
def J30x1:JT (Unit⊕Bool):= ju (je 0 fun q0:Unit=>⟨74,[],[]⟩) (jr prog f30 R30)
theorem wl30x1 {v0 x0 x1 t0 r Γ} (h:(Zit v0 x0 x1) t0=some r):A prog Γ (lpC f30 87) [] (Rd (Zvw v0 x0 x1) J30x1 r) ((Zvw v0 x0 x1) t0).s:= go [] []<|br h (fun h8 h=>bd h fun v4 e4 h=>sp h (fun h9 h=>bd h fun v5 e5 h=>go [] [rg 7 [(3,ix e4),(8,kb h9),(13,ix e5)]]<|br h (fun h10 h=>go [] []<|dn h (i2 iR)) fun h10 h=> bd h fun v6 e6 h=>go [] [rg 6 [(1,n e6)]]<|nx h) fun h9 h=> go [] [rg 7 [(3,ix e4),(8,kb h9)]]<|bF rfl<|bd h fun v7 e7 h=>go [] [rg 6 [(1,n e7)]]<|nx h) fun h8 h=> go [] []<|dn h (i1 iE)
theorem wj30x1 {v0 x0 x1 r Γ} (h:(j30x1 v0 x0 x1)=some r):Jn prog f30 Γ (Den.Ends prog f30 (R30 r)) 39 ⟨74,[(1,dI x1),(2,.ptr (Z1g x0)),(5,.lptr 5 0 0)],[(5,{ sz:=3,rows:=[Z5b v0],frz:=0,pure:=false })]⟩:= so<|go [] []<|bd h fun q1 e8 h=>lp e8 wl30x1<|match q1,h with | .inl q0,h=>j1<|(qe<|goN [] []<|rt h) | .inr y0,h=>j2<|(qr h)
theorem w30 {x0 x1 r} (h:Zlt x0 x1=some r):Z09 prog 30 [.agg (Z1g x0),dI x1] (R30 r):= cs f30<|bd h fun v0 e0 h=>sp h (fun h0 h=>go [] [rg 0 [(0,bo)],rg 1 [(3,ix e0)],rg 2 [(2,kb h0)]]<|bT rfl<|go [] []<|rt h) fun h0 h=> sp h (fun h1 h=>go [] [rg 0 [(0,bo)],rg 1 [(3,ix e0)],rg 2 [(2,kb h0),(8,ln x0.Z23),(9,kb h1)]]<|bT rfl<|go [] []<|rt h) fun h1 h=> sp h (fun h2 h=>go [] [rg 0 [(0,bo)],rg 1 [(3,ix e0)],rg 2 [(2,kb h0),(8,ln x0.Z23),(9,kb h1),(14,kb h2)]]<|bT rfl<|go [] []<|rt h) fun h2 h=> sp h (fun h3 h=>go [] [rg 0 [(0,bo)],rg 1 [(3,ix e0)],rg 2 [(2,kb h0),(8,ln x0.Z23),(9,kb h1),(14,kb h2),(21,ln x0.Z0o),(22,kb h3)]]<|bT rfl<|go [] []<|rt h) fun h3 h=> bd h fun v1 e1 h=>go [] [rg 0 [(0,bo)],rg 1 [(3,ix e0)],rg 2 [(2,kb h0),(8,ln x0.Z23),(9,kb h1),(14,kb h2),(21,ln x0.Z0o),(22,kb h3),(29,ix e1)]]<|br h (fun h4 h=>go [] []<|rt h) fun h4 h=> go [4] []<|jn (wj30x1 h)
def R51 (y0:(List Bool)):D:= .sl false (y0.map Z3d)
def Zlw (t2:Int×(List Bool)) (v33:Z4r):Option (Ctl (Int×(List Bool)) (((List Bool)))):= (Z3g v33.f_A t2.2.length).bind fun v40=> (t2.2[v40]?).bind fun v41=> (Z3g v33.f_B (t2.2.set v40 true).length).bind fun v42=> ((t2.2.set v40 true)[v42]?).bind fun v43=> (some (IntKind.wrap .i64 (t2.1+1))).bind fun v44=> some (.next (v44,((t2.2.set v40 true).set v42 true)))
def Ziq (x0:Z0c) (x1:List UInt8) (t2:Int×(List Bool)):Option (Ctl (Int×(List Bool)) (((List Bool)))):= if (decide (t2.1<(x0.Z43.length:Int))) then ((Z05 x0.Z43 t2.1).bind fun v33=> if (v33.Z0d==x1) then ((Z3g v33.f_A t2.2.length).bind fun v34=> (t2.2[v34]?).bind fun v35=> if v35 then ((Zlw t2 v33)) else ((Z3g v33.f_B t2.2.length).bind fun v36=> (t2.2[v36]?).bind fun v37=> if v37 then ((Zlw t2 v33)) else ((some (IntKind.wrap .i64 (t2.1+1))).bind fun v38=> some (.next (v38,t2.2))))) else ((some (IntKind.wrap .i64 (t2.1+1))).bind fun v39=> some (.next (v39,t2.2)))) else (some (.done (t2.2)))
def Zl6 (x0:Z0c) (x1:List UInt8) (t0:Int×(List Bool)):Option (Ctl (Int×(List Bool)) (((List Bool)))):= if (decide (t0.1<(x0.Z23.length:Int))) then ((Z06 (Ziq x0 x1) Z08 (0,t0.2)).bind fun q2=> (some (IntKind.wrap .i64 (t0.1+1))).bind fun v45=> some (.next (v45,q2))) else (some (.done (t0.2)))
def Zi2 (x0:Z0c) (x1:List UInt8) (x2:Int):Option ((List Bool)):= (Z8s 1 (x0.Z23.length:Int) (x0.Z23.length:Int)).bind fun v0=> (Z3g x2 (List.replicate (x0.Z23.length:Int).toNat false).length).bind fun v1=> ((List.replicate (x0.Z23.length:Int).toNat false)[v1]?).bind fun v2=> (Z06 (Zl6 x0 x1) Z08 (0,((List.replicate (x0.Z23.length:Int).toNat false).set v1 true))).bind fun q4=> some q4
def Zoi (t0:Int×(List Bool)) (x0:Z0c) (x1:List UInt8):(Int×(List Bool))→SL:= fun t2=>⟨64,[(1,.str x1),(3,.ptr (Z1g x0)),(7,.lsl 7 0 ((t2.2.map Z3d).length)),(8,dI t0.1),(9,dI t2.1)],[(7,{ sz:=1,rows:=(t2.2.map Z3d),frz:=0,pure:=true })]⟩
def J51x2 (t0:Int×(List Bool)) (x0:Z0c) (x1:List UInt8):JT (((List Bool))):= je 2 fun q2:(List Bool)=>⟨64,[(1,.str x1),(3,.ptr (Z1g x0)),(7,.lsl 7 0 ((q2.map Z3d).length)),(8,dI t0.1)],[(7,{ sz:=1,rows:=(q2.map Z3d),frz:=0,pure:=true })]⟩
theorem Zy2 (t0:Int×(List Bool)) (x0:Z0c) (x1:List UInt8) {t2 v33 r Γ} (h:(Zlw t2 v33)=some r):Jn prog f51 Γ (Rd (Zoi t0 x0 x1) (J51x2 t0 x0 x1) r) 1254551 ⟨64,[(1,.str x1),(3,.ptr (Z1g x0)),(7,.lsl 7 0 ((t2.2.map Z3d).length)),(8,dI t0.1),(9,dI t2.1),(10,.lptr 10 0 0)],[(7,{ sz:=1,rows:=(t2.2.map Z3d),frz:=0,pure:=true }),(10,{ sz:=3,rows:=[Z5x v33],frz:=0,pure:=false })]⟩:= so<|bd h fun v40 e41 h=>bd h fun v41 e42 h=>go [12] [rg 11 [(3,ia 7 e41),(4,st e42 0 [.bool true] true)]]<|nm (congrArg (fun nn:Nat=>(⟨64,[(1,.str x1),(3,.ptr (Z1g x0)),(7,.lsl 7 0 nn),(8,dI t0.1),(9,dI t2.1),(10,.lptr 10 0 0)],[(7,{ sz:=1,rows:=((t2.2.set v40 true).map Z3d),frz:=0,pure:=true }),(10,{ sz:=3,rows:=[Z5x v33],frz:=0,pure:=false })]⟩:SL)) (by simp only [List.length_map,List.length_set]:(t2.2.map Z3d).length=((t2.2.set v40 true).map Z3d).length))<|so<|bd h fun v42 e43 h=>bd h fun v43 e44 h=>go [8] [rg 12 [(3,ia 7 e43),(4,st e44 0 [.bool true] true)]]<|nm (congrArg (fun nn:Nat=>(⟨64,[(1,.str x1),(3,.ptr (Z1g x0)),(7,.lsl 7 0 nn),(8,dI t0.1),(9,dI t2.1)],[(7,{ sz:=1,rows:=(((t2.2.set v40 true).set v42 true).map Z3d),frz:=0,pure:=true })]⟩:SL)) (by simp only [List.length_map,List.length_set]:((t2.2.set v40 true).map Z3d).length=(((t2.2.set v40 true).set v42 true).map Z3d).length))<|so<|bd h fun v44 e45 h=>go [] [rg 8 [(1,n e45)]]<|nx h
theorem wl51x2 (t0:Int×(List Bool)) {x0 x1 t2 r Γ} (h:(Ziq x0 x1) t2=some r):A prog Γ (lpC f51 5271) [] (Rd (Zoi t0 x0 x1) (J51x2 t0 x0 x1) r) ((Zoi t0 x0 x1) t2).s:= go [] [rg 7 [(3,ln x0.Z43)]]<|br h (fun h14 h=>bd h fun v33 e34 h=>go [10] [rg 9 [(3,ix e34)]]<|po<|pr 5 []<|sp h (fun h15 h=>bd h fun v34 e35 h=>bd h fun v35 e36 h=>pr 6 (gC h15 5 3 [(8,gw h15 (ia 7 e35)),(9,gw h15 (lb e36)),(10,gw h15 g0)])<|sp h (fun h16 h=>pr 7 (gA h16 11 5 [(16,gw h15 (py h16)),(17,py h15)])<|pe<|goN [] []<|bT rfl<|go [11] []<|jn ((Zy2 t0 x0 x1) h)) fun h16 h=> bd h fun v36 e37 h=>bd h fun v37 e38 h=>pr 7 (gC h16 11 3 [(14,gw h16 (ia 7 e37)),(15,gw h16 (lb e38)),(16,gw h15 (pn h16)),(17,py h15)])<|pe<|goN [] []<|br h (fun h17 h=>go [11] []<|jn ((Zy2 t0 x0 x1) h)) fun h17 h=> bd h fun v38 e39 h=>go [] [rg 8 [(1,n e39)]]<|nx h) fun h15 h=> pr 13 (gB h15 5 6 [(16,gs1 h15),(17,pn h15)])<|pe<|goN [] []<|bF rfl<|bd h fun v39 e40 h=>go [] [rg 8 [(1,n e40)]]<|nx h) fun h14 h=> go [] []<|dn h (iE)
def Zyg (x0:Z0c) (x1:List UInt8):(Int×(List Bool))→SL:= fun t0=>⟨64,[(1,.str x1),(3,.ptr (Z1g x0)),(7,.lsl 7 0 ((t0.2.map Z3d).length)),(8,dI t0.1)],[(7,{ sz:=1,rows:=(t0.2.map Z3d),frz:=0,pure:=true })]⟩
def J51x1:JT (((List Bool))):= je 0 fun q4:(List Bool)=>⟨64,[(7,.lsl 7 0 ((q4.map Z3d).length))],[(7,{ sz:=1,rows:=(q4.map Z3d),frz:=0,pure:=true })]⟩
theorem wl51x1 {x0 x1 t0 r Γ} (h:(Zl6 x0 x1) t0=some r):A prog Γ (lpC f51 87) [] (Rd (Zyg x0 x1) J51x1 r) ((Zyg x0 x1) t0).s:= go [] [rg 4 [(3,ln x0.Z23)]]<|br h (fun h9 h=>go [] []<|bd h fun q2 e46 h=>lp e46 (wl51x2 t0)<|qe<|bd h fun v45 e47 h=>goN [] [rg 5 [(1,n e47)]]<|nx h) fun h9 h=> go [] []<|dn h (iE)
theorem w51 {x0 x1 x2 r} (h:Zi2 x0 x1 x2=some r):Z09 prog 51 [.agg (Z1g x0),.str x1,dI x2] (R51 r):= cs f51<|bd h fun v0 e0 h=>bd h fun v1 e1 h=>bd h fun v2 e2 h=>go [3] [rg 0 [(0,bo)],rg 1 [(2,ln x0.Z23),(3,mk false e0)],rg 2 [(2,ia 14 e1),(3,st e2 0 [.bool true] true)]]<|nm (congrArg (fun nn:Nat=>(⟨64,[(1,.str x1),(3,.ptr (Z1g x0)),(7,.lsl 14 0 nn)],[(14,{ sz:=1,rows:=(((List.replicate (x0.Z23.length:Int).toNat false).set v1 true).map Z3d),frz:=0,pure:=true })]⟩:SL)) (by simp only [List.length_map,List.length_set]:((List.replicate (x0.Z23.length:Int).toNat false).map Z3d).length=(((List.replicate (x0.Z23.length:Int).toNat false).set v1 true).map Z3d).length))<|so<|go [] []<|bd h fun q4 e48 h=>lp (ps:=[(14,7)]) e48 wl51x1<|qe<|goN [] []<|rtB h (rw_ q4) (a2 (rpI q4) trivial) (by simp only [rwE] <;> kernel_rfl)
def R31 (y0:Bool):D:= .bool y0
def Zih (v0:Z2v) (v1:(List Bool)) (x0:Z0c) (x1 t0:Int):Option (Ctl (Int) (Unit⊕Bool)):= if (decide (t0<x1)) then ((Z05 x0.Z2p t0).bind fun v4=> if (v4.Z0d==v0.Z0d) then ((Z05 v1 v4.Z2w).bind fun v5=> if v5 then (if (v4.Z0w !=v0.Z0w) then (some (.done (.inr false))) else ((some (IntKind.wrap .i64 (t0+1))).bind fun v6=> some (.next v6))) else ((some (IntKind.wrap .i64 (t0+1))).bind fun v7=> some (.next v7))) else ((some (IntKind.wrap .i64 (t0+1))).bind fun v8=> some (.next v8))) else (some (.done (.inl (()))))
def Zjs (x0:Z0c) (x1:Int):Option (Bool):= (Z05 x0.Z2p x1).bind fun v0=> (Zi2 x0 v0.Z0d v0.Z2w).bind fun v1=> (Z06 (Zih v0 v1 x0 x1) Z08 0).bind fun q1=> match q1 with | .inl q0=>(some true) | .inr y0=>(some y0)
def Zt7 (v0:Z2v) (v1:(List Bool)) (x0:Z0c) (x1:Int):Int→SL:= fun t0=>⟨49,[(1,dI x1),(2,.ptr (Z1g x0)),(5,.lptr 5 0 0),(6,.sl false (v1.map Z3d)),(7,dI t0)],[(5,{ sz:=3,rows:=[Z5b v0],frz:=0,pure:=false })]⟩
def J31x1:JT (Unit⊕Bool):= ju (je 0 fun q0:Unit=>⟨49,[],[]⟩) (jr prog f31 R31)
theorem wl31x1 {v0 v1 x0 x1 t0 r Γ} (h:(Zih v0 v1 x0 x1) t0=some r):A prog Γ (lpC f31 87) [] (Rd (Zt7 v0 v1 x0 x1) J31x1 r) ((Zt7 v0 v1 x0 x1) t0).s:= go [] []<|br h (fun h4 h=>bd h fun v4 e4 h=>go [7] [rg 6 [(3,ix e4)]]<|po<|pr 6 []<|sp h (fun h5 h=>bd h fun v5 e5 h=>pr 7 (gC h5 6 3 [(9,gw h5 (ix e5)),(10,gw h5 g0),(11,py h5)])<|sp h (fun h6 h=>pr 6 (gC h6 13 5 [(18,py h6)])<|pe<|goN [] []<|br h (fun h7 h=>go [] []<|dn h (i2 iR)) fun h7 h=> bd h fun v6 e6 h=>go [] [rg 5 [(1,n e6)]]<|nx h) fun h6 h=> pr 6 (gB h6 13 5 [(18,pn h6)])<|pe<|goN [] []<|bF rfl<|bd h fun v7 e7 h=>go [] [rg 5 [(1,n e7)]]<|nx h) fun h5 h=> pr 13 (gB h5 6 5 [(11,pn h5)])<|pe<|goN [] []<|bF rfl<|bd h fun v8 e8 h=>go [] [rg 5 [(1,n e8)]]<|nx h) fun h4 h=> go [] []<|dn h (i1 iE)
theorem w31 {x0 x1 r} (h:Zjs x0 x1=some r):Z09 prog 31 [.agg (Z1g x0),dI x1] (R31 r):= cs f31<|bd h fun v0 e0 h=>bd h fun v1 e1 h=>go [] [rg 0 [(0,bo)],rg 1 [(3,ix e0)],rg 2 [(5,k (w51 e1))]]<|bd h fun q1 e9 h=>lp e9 wl31x1<|match q1,h with | .inl q0,h=>j1<|(qe<|goN [] []<|rt h) | .inr y0,h=>j2<|(qr h)
def R74 (y0:Bool):D:= .bool y0
def Zhf (x0:List Z0i) (t0:Int):Option (Ctl (Int) (Unit⊕Bool)):= if (decide (t0<(x0.length:Int))) then ((Z05 x0 t0).bind fun v1=> if (v1.Z41 !=0) then (some (.done (.inr false))) else ((some (IntKind.wrap .i64 (t0+1))).bind fun v2=> some (.next v2))) else (some (.done (.inl (()))))
def Zdk (x0:List Z0i):Option (Bool):= (Z06 (Zhf x0) Z08 0).bind fun q1=> match q1 with | .inl q0=>(some true) | .inr y0=>(some y0)
def Zx8 (x0:List Z0i):Int→SL:= fun t0=>⟨16,[(0,.sl false (x0.map Z1l)),(3,dI t0)],[]⟩
def J74x1:JT (Unit⊕Bool):= ju (je 0 fun q0:Unit=>⟨16,[],[]⟩) (jr prog f74 R74)
theorem wl74x1 {x0 t0 r Γ} (h:(Zhf x0) t0=some r):A prog Γ (lpC f74 21) [] (Rd (Zx8 x0) J74x1 r) ((Zx8 x0) t0).s:= go [] [rg 2 [(2,ln x0)]]<|br h (fun h2 h=>bd h fun v1 e1 h=>go [] [rg 4 [(2,ix e1)]]<|br h (fun h3 h=>go [] []<|dn h (i2 iR)) fun h3 h=> bd h fun v2 e2 h=>go [] [rg 3 [(1,n e2)]]<|nx h) fun h2 h=> go [] []<|dn h (i1 iE)
theorem w74 {x0 r} (h:Zdk x0=some r):Z09 prog 74 [.sl false (x0.map Z1l)] (R74 r):= cs f74<|go [] []<|bd h fun q1 e3 h=>lp e3 wl74x1<|match q1,h with | .inl q0,h=>j1<|(qe<|goN [] []<|rt h) | .inr y0,h=>j2<|(qr h)
def R67 (y0:Bool):D:= .bool y0
def Zkr (t0 : Int) (v1:Z1d) (p1:Bool):Option (Ctl (Int) (Unit⊕Bool)):= if (!p1) then (if (v1.Z2e !=8) then (if (v1.Z2e !=0) then (some (.done (.inr false))) else (if (v1.f_N !=0) then (some (.done (.inr false))) else (if (!(v1.f_S==([]:List UInt8))) then (some (.done (.inr false))) else ((some (IntKind.wrap .i64 (t0+1))).bind fun v2=> some (.next v2))))) else (if (v1.f_N !=0) then (some (.done (.inr false))) else (if (!(v1.f_S==([]:List UInt8))) then ((some (IntKind.wrap .i64 (t0+1))).bind fun v3=> some (.next v3)) else ((some (IntKind.wrap .i64 (t0+1))).bind fun v4=> some (.next v4))))) else (if (v1.f_N !=0) then (if (!(v1.f_S==([]:List UInt8))) then (if (v1.Z2e !=8) then (some (.done (.inr false))) else ((some (IntKind.wrap .i64 (t0+1))).bind fun v5=> some (.next v5))) else ((some (IntKind.wrap .i64 (t0+1))).bind fun v6=> some (.next v6))) else (if (!(v1.f_S==([]:List UInt8))) then (if (v1.Z2e !=8) then (some (.done (.inr false))) else ((some (IntKind.wrap .i64 (t0+1))).bind fun v7=> some (.next v7))) else ((some (IntKind.wrap .i64 (t0+1))).bind fun v8=> some (.next v8))))
def Zhv (x0:Z0m) (t0:Int):Option (Ctl (Int) (Unit⊕Bool)):= if (decide (t0<(x0.Z0g.length:Int))) then ((Z05 x0.Z0g t0).bind fun v1=> if (v1.Z2e==3) then ((Zkr t0 v1) true) else ((Zkr t0 v1) (v1.Z2e==5))) else (some (.done (.inl (()))))
def Zjt (v26:Z2r) (t4:Int):Option (Ctl (Int) (Unit⊕Bool)):= if (decide (t4<(v26.Z2b.Z1z.length:Int))) then ((Z05 v26.Z2b.Z1z t4).bind fun v32=> if (v32.Z0w !=0) then (some (.done (.inr false))) else ((some (IntKind.wrap .i64 (t4+1))).bind fun v33=> some (.next v33))) else (some (.done (.inl (()))))
def Zgn (v26:Z2r) (t5:Int):Option (Ctl (Int) (Unit⊕Bool)):= if (decide (t5<(v26.Z2b.Z1k.length:Int))) then ((Z05 v26.Z2b.Z1k t5).bind fun v38=> (Zdk v38.Z1m.Z0t).bind fun v39=> if (!v39) then (some (.done (.inr false))) else ((Z05 v26.Z2b.Z1k t5).bind fun v40=> (Zdk v40.Z1m.Z0x).bind fun v41=> if (!v41) then (some (.done (.inr false))) else ((some (IntKind.wrap .i64 (t5+1))).bind fun v42=> some (.next v42)))) else (some (.done (.inl (()))))
def Zh2 (t1:Int) (v26:Z2r):Option (Ctl (Int) (Unit⊕Bool)):= (Z06 (Zjt v26) Z08 0).bind fun q7=> match q7 with | .inl q6=>((Z06 (Zgn v26) Z08 0).bind fun q9=> match q9 with | .inl q8=>((some (IntKind.wrap .i64 (t1+1))).bind fun v43=> some (.next v43)) | .inr y2=>(some (.done (.inr y2)))) | .inr y3=>(some (.done (.inr y3)))
def Zjx (x0 : Z0m) (t1:Int):Option (Ctl (Int) (Unit⊕Bool)):= if (decide (t1<(x0.Z10.length:Int))) then ((Z05 x0.Z10 t1).bind fun v26=> (Z05 x0.Z10 t1).bind fun v27=> if (!v27.Z9g) then (if (v26.Z2b.Z0x !=0) then (some (.done (.inr false))) else (if (v26.Z2b.Z0t !=0) then (some (.done (.inr false))) else ((some (IntKind.wrap .i64 ((v26.Z2b.Z0k.length:Int)+(v26.Z2b.Z1z.length:Int)))).bind fun v28=> (some (IntKind.wrap .i64 (v28+(v26.Z2b.Z1k.length:Int)))).bind fun v29=> (some (IntKind.wrap .i64 (v29+(v26.Z2b.Z1u.length:Int)))).bind fun v30=> if (decide (v30>0)) then (some (.done (.inr false))) else ((Zh2 t1 v26))))) else ((Zh2 t1 v26))) else (some (.done (.inl (()))))
def Ziv (x0:Z0m):Option (Bool):= (Z06 (Zhv x0) Z08 0).bind fun q1=> match q1 with | .inl q0=>((Z06 (Zjx x0) Z08 0).bind fun q11=> match q11 with | .inl q10=>(some true) | .inr y4=>(some y4)) | .inr y5=>(some y5)
def Zpq (x0:Z0m):Int→SL:= fun t0=>⟨150,[(1,.ptr (Z2m x0)),(3,dI t0)],[]⟩
def J67x1 (x0:Z0m):JT (Unit⊕Bool):= ju (je 0 fun q0:Unit=>⟨150,[(1,.ptr (Z2m x0))],[]⟩) (jr prog f67 R67)
theorem Zys (x0:Z0m) {t0 v1 p1 r Γ} (h:(Zkr t0 v1) p1=some r):Jn prog f67 Γ (Rd (Zpq x0) (J67x1 x0) r) 2853 ⟨150,[(1,.ptr (Z2m x0)),(3,dI t0),(4,.lptr 4 0 0),(5,.bool p1)],[(4,{ sz:=6,rows:=[Z5g v1],frz:=0,pure:=false })]⟩:= po <| pr 3 []<|sp h (fun h16 h=>pr 5 (gC h16 3 3 [(6,py h16)])<|sp h (fun h17 h=>pr 5 (gC h17 8 3 [(11,py h17)])<|sp h (fun h18 h=>pr 18 (gA h18 13 4 [(19,gs0 h18),(20,py h18)])<|pe<|goN [] []<|bT rfl<|go [] []<|dn h (i2 iR)) fun h18 h=> pr 4 (gC h18 13 4 [])<|sp h (fun h19 h=>pr 14 (gC h19 17 2 ((19,gw h18 (py h19))::(20,pn h18)::gA h16 22 4 [(29,gs0 h16),(30,py h16)]))<|pe<|goN [] []<|bT rfl<|go [] []<|dn h (i2 iR)) fun h19 h=> pr 9 (gB h19 17 2 [(19,gw h18 (pn h19)),(20,pn h18)])<|sp h (fun h20 h=>pr 5 (gC h20 26 2 [(28,gw h20 (kb h17)),(29,py h20)])<|pe<|goN [] []<|bT rfl<|go [] []<|dn h (i2 iR)) fun h20 h=> pr 5 (gB h20 26 3 [(29,pn h20)])<|pe<|goN [] []<|bF rfl<|bd h fun v2 e2 h=>go [] [rg 3 [(1,n e2)]]<|nx h) fun h17 h=> pr 9 (gB h17 8 3 [(11,pn h17)])<|sp h (fun h21 h=>pr 14 (gC h21 17 2 ((19,py h21)::gA h16 22 4 [(29,gs0 h16),(30,py h16)]))<|pe<|goN [] []<|bT rfl<|go [] []<|dn h (i2 iR)) fun h21 h=> pr 9 (gB h21 17 2 [(19,pn h21)])<|sp h (fun h22 h=>pr 5 (gC h22 26 2 [(28,gw h22 (kb h17)),(29,py h22)])<|pe<|goN [] []<|bF rfl<|bd h fun v3 e3 h=>go [] [rg 3 [(1,n e3)]]<|nx h) fun h22 h=> pr 5 (gB h22 26 3 [(29,pn h22)])<|pe<|goN [] []<|bF rfl<|bd h fun v4 e4 h=>go [] [rg 3 [(1,n e4)]]<|nx h) fun h16 h=> pr 14 (gB h16 3 3 [(6,pn h16)])<|sp h (fun h23 h=>pr 9 (gC h23 17 2 ((19,py h23)::gC h16 22 4 []))<|sp h (fun h24 h=>pr 5 (gC h24 26 3 [(29,gw h16 (py h24)),(30,pn h16)])<|pe<|goN [] []<|br h (fun h25 h=>go [] []<|dn h (i2 iR)) fun h25 h=> bd h fun v5 e5 h=>go [] [rg 3 [(1,n e5)]]<|nx h) fun h24 h=> pr 5 (gB h24 26 3 [(29,gw h16 (pn h24)),(30,pn h16)])<|pe<|goN [] []<|bF rfl<|bd h fun v6 e6 h=>go [] [rg 3 [(1,n e6)]]<|nx h) fun h23 h=> pr 9 (gB h23 17 2 [(19,pn h23)])<|sp h (fun h26 h=>pr 5 (gC h26 26 3 [(29,py h26)])<|pe<|goN [] []<|br h (fun h27 h=>go [] []<|dn h (i2 iR)) fun h27 h=> bd h fun v7 e7 h=>go [] [rg 3 [(1,n e7)]]<|nx h) fun h26 h=> pr 5 (gB h26 26 3 [(29,pn h26)])<|pe<|goN [] []<|bF rfl<|bd h fun v8 e8 h=>go [] [rg 3 [(1,n e8)]]<|nx h
theorem wl67x1 {x0 t0 r Γ} (h:(Zhv x0) t0=some r):A prog Γ (lpC f67 21) [] (Rd (Zpq x0) (J67x1 x0) r) ((Zpq x0) t0).s:= go [] [rg 2 [(3,ln x0.Z0g)]]<|br h (fun h14 h=>bd h fun v1 e1 h=>sp h (fun h15 h=>go [6] [rg 4 [(3,ix e1)],rg 5 [(2,kb h15)]]<|jn ((Zys x0) h)) fun h15 h=> go [6] [rg 4 [(3,ix e1)],rg 5 [(2,kb h15)]]<|jn ((Zys x0) h)) fun h14 h=> go [] []<|dn h (i1 iE)
def Zzq (t1:Int) (v26:Z2r) (x0:Z0m):Int→SL:= fun t4=>⟨150,[(1,.ptr (Z2m x0)),(6,dI t1),(7,.lptr 7 0 0),(8,dI t4)],[(7,{ sz:=6,rows:=[Z0u v26.Z2b],frz:=0,pure:=false })]⟩
def J67x3 (t1:Int) (v26:Z2r) (x0:Z0m):JT (Unit⊕Bool):= ju (je 4 fun q6:Unit=>⟨150,[(1,.ptr (Z2m x0)),(6,dI t1),(7,.lptr 7 0 0)],[(7,{ sz:=6,rows:=[Z0u v26.Z2b],frz:=0,pure:=false })]⟩) (jr prog f67 R67)
theorem wl67x3 (t1:Int) (x0:Z0m) {v26 t4 r Γ} (h:(Zjt v26) t4=some r):A prog Γ (lpC f67 22091) [] (Rd (Zzq t1 v26 x0) (J67x3 t1 v26 x0) r) ((Zzq t1 v26 x0) t4).s:= go [] [rg 15 [(3,ln v26.Z2b.Z1z)]]<|br h (fun h50 h=>bd h fun v32 e35 h=>go [] [rg 17 [(3,ix e35)]]<|br h (fun h51 h=>go [] []<|dn h (i2 iR)) fun h51 h=> bd h fun v33 e36 h=>go [] [rg 16 [(1,n e36)]]<|nx h) fun h50 h=> go [] []<|dn h (i1 iE)
def Zxd (t1:Int) (v26:Z2r) (x0:Z0m):Int→SL:= fun t5=>⟨150,[(1,.ptr (Z2m x0)),(6,dI t1),(7,.lptr 7 0 0),(9,dI t5)],[(7,{ sz:=6,rows:=[Z0u v26.Z2b],frz:=0,pure:=false })]⟩
def J67x4 (t1:Int) (x0:Z0m):JT (Unit⊕Bool):= ju (je 6 fun q8:Unit=>⟨150,[(1,.ptr (Z2m x0)),(6,dI t1)],[]⟩) (jr prog f67 R67)
theorem wl67x4 (t1:Int) (x0:Z0m) {v26 t5 r Γ} (h:(Zgn v26) t5=some r):A prog Γ (lpC f67 24139) [] (Rd (Zxd t1 v26 x0) (J67x4 t1 x0) r) ((Zxd t1 v26 x0) t5).s:= go [] [rg 20 [(3,ln v26.Z2b.Z1k)]]<|br h (fun h55 h=>bd h fun v38 e42 h=>bd h fun v39 e43 h=>sp h (fun h56 h=>go [] [rg 22 ((3,ix e42)::(7,k (w74 e43))::gA h56 10 9 [(19,py h56)])]<|bT rfl<|go [] []<|dn h (i2 iR)) fun h56 h=> bd h fun v40 e44 h=>bd h fun v41 e45 h=>go [] [rg 22 ((3,ix e42)::(7,k (w74 e43))::gC h56 10 3 ((13,gw h56 (ix e44))::gC h56 14 3 [(17,gw h56 (k (w74 e45))),(18,gw h56 g0),(19,pn h56)]))]<|br h (fun h57 h=>go [] []<|dn h (i2 iR)) fun h57 h=> bd h fun v42 e46 h=>go [] [rg 21 [(1,n e46)]]<|nx h) fun h55 h=> go [] []<|dn h (i1 iE)
def Zq6 (x0:Z0m):Int→SL:= fun t1=>⟨150,[(1,.ptr (Z2m x0)),(6,dI t1)],[]⟩
def J67x2:JT (Unit⊕Bool):= ju (je 2 fun q10:Unit=>⟨150,[],[]⟩) (jr prog f67 R67)
theorem Zu9 (x0:Z0m) {t1 v26 r Γ} (h:(Zh2 t1 v26)=some r):Jn prog f67 Γ (Rd (Zq6 x0) J67x2 r) 9803 ⟨150,[(1,.ptr (Z2m x0)),(6,dI t1),(7,.lptr 7 0 0)],[(7,{ sz:=6,rows:=[Z0u v26.Z2b],frz:=0,pure:=false })]⟩:= so<|go [] []<|bd h fun q7 e37 h=>lp e37 (wl67x3 t1 x0)<|match q7,h with | .inl q6,h=>j1<|(qe<|goN [] []<|bd h fun q9 e47 h=>lp e47 (wl67x4 t1 x0)<|match q9,h with | .inl q8,h=>j1<|(qe<|bd h fun v43 e48 h=>goN [] [rg 10 [(1,n e48)]]<|nx h) | .inr y2,h=>j2<|(ql h fun _ _ p=>⟨(iS p).1,i2 ((iS p).2)⟩)) | .inr y3,h=>j2<|(ql h fun _ _ p=>⟨(iS p).1,i2 ((iS p).2)⟩)
theorem wl67x2 {x0 t1 r Γ} (h:(Zjx x0) t1=some r):A prog Γ (lpC f67 43) [] (Rd (Zq6 x0) J67x2 r) ((Zq6 x0) t1).s:= go [] [rg 9 [(3,ln x0.Z10)]]<|br h (fun h43 h=>bd h fun v26 e29 h=>go [12] [rg 11 [(3,ix e29)]]<|po<|bd h fun v27 e30 h=>pr 8 [(3,ix e30)]<|sp h (fun h44 h=>pr 4 (gC h44 8 4 [])<|sp h (fun h45 h=>pr 23 (gA h45 12 3 [(15,gw h44 (py h45)),(16,gw h44 g0),(33,gw h44 g0),(34,py h44)])<|pe<|goN [] []<|bT rfl<|go [] []<|dn h (i2 iR)) fun h45 h=> pr 5 (gC h45 12 3 [(15,gw h44 (pn h45)),(16,gw h44 g0)])<|sp h (fun h46 h=>pr 18 (gA h46 17 16 [(33,gw h44 (py h46)),(34,py h44)])<|pe<|goN [] []<|bT rfl<|go [] []<|dn h (i2 iR)) fun h46 h=> bd h fun v28 e31 h=>bd h fun v29 e32 h=>bd h fun v30 e33 h=>pr 18 (gC h46 17 2 ((19,gw h46 (ln v26.Z2b.Z0k))::gC h46 20 2 ((22,gw h46 (ln v26.Z2b.Z1z))::(23,gw h46 (n e31))::gC h46 24 2 ((26,gw h46 (ln v26.Z2b.Z1k))::(27,gw h46 (n e32))::gC h46 28 2 [(30,gw h46 (ln v26.Z2b.Z1u)),(31,gw h46 (n e33)),(32,gw h46 g0),(33,gw h44 (pn h46)),(34,py h44)]))))<|pe<|goN [] []<|br h (fun h47 h=>go [] []<|dn h (i2 iR)) fun h47 h=> go [14] []<|jn ((Zu9 x0) h)) fun h44 h=> pr 27 (gB h44 8 4 (gB h44 15 2 [(33,gs1 h44),(34,pn h44)]))<|pe<|goN [] []<|bF rfl<|go [14] []<|jn ((Zu9 x0) h)) fun h43 h=> go [] []<|dn h (i1 iE)
theorem w67 {x0 r} (h:Ziv x0=some r):Z09 prog 67 [.agg (Z2m x0)] (R67 r):= cs f67<|go [] [rg 0 [(0,bo)]]<|bd h fun q1 e9 h=>lp e9 wl67x1<|match q1,h with | .inl q0,h=>j1<|(qe<|goN [] []<|bd h fun q11 e49 h=>lp e49 wl67x2<|match q11,h with | .inl q10,h=>j1<|(qe<|goN [] []<|rt h) | .inr y4,h=>j2<|(qr h)) | .inr y5,h=>j2<|(qr h)
def R98 (y0:(List Z00)×Int×Int):D:= .tup [.sl false (y0.1.map Z07),.int .i64 y0.2.1,.int .i64 y0.2.2]
def Zgb (x0:List Z00) (x1:Z00) (t0:Int):Option (Ctl (Int) (Unit⊕((List Z00)×Int×Int))):= if (decide (t0<(x0.length:Int))) then ((Z05 x0 t0).bind fun v1=> if (Zn5 v1 x1) then ((some (IntKind.wrap .i64 (t0+1))).bind fun v2=> some (.done (.inr (x0,v2,0)))) else ((some (IntKind.wrap .i64 (t0+1))).bind fun v3=> some (.next v3))) else (some (.done (.inl (()))))
def Z62 (x0:List Z00) (x1:Z00):Option ((List Z00)×Int×Int):= (Z06 (Zgb x0 x1) Z08 0).bind fun q1=> match q1 with | .inl q0=>(if (decide ((x0.length:Int)≥1000)) then (some (x0,0,5)) else ((some (IntKind.wrap .i64 ((x0.length:Int)+1))).bind fun v4=> (Z1q 48 (([]:List Z00)++x0).length).bind fun v5=> (Z1q 48 ((([]:List Z00)++x0)++[x1]).length).bind fun v6=> some (((([]:List Z00)++x0)++[x1]),v4,0))) | .inr y0=>(some y0)
def Zvf (x0:List Z00) (x1:Z00):Int→SL:= fun t0=>⟨36,[(0,.sl false (x0.map Z07)),(3,.ptr (Z07 x1)),(7,dI t0)],[]⟩
def J98x1 (x0:List Z00) (x1:Z00):JT (Unit⊕((List Z00)×Int×Int)):= ju (je 0 fun q0:Unit=>⟨36,[(0,.sl false (x0.map Z07)),(3,.ptr (Z07 x1))],[]⟩) (jr prog f98 R98)
theorem wl98x1 {x0 x1 t0 r Γ} (h:(Zgb x0 x1) t0=some r):A prog Γ (lpC f98 21) [] (Rd (Zvf x0 x1) (J98x1 x0 x1) r) ((Zvf x0 x1) t0).s:= go [] [rg 2 [(2,ln x0)]]<|br h (fun h2 h=>bd h fun v1 e1 h=>go [] [rg 4 [(2,ix e1),(5,qs eqg_171 eqp_171 (Zn5 v1 x1))]]<|br h (fun h3 h=>bd h fun v2 e2 h=>go [] [rg 5 [(2,n e2)]]<|dn h (i2 iR)) fun h3 h=> bd h fun v3 e3 h=>go [] [rg 3 [(1,n e3)]]<|nx h) fun h2 h=> go [] []<|dn h (i1 iE)
theorem w98 {x0 x1 r} (h:Z62 x0 x1=some r):Z09 prog 98 [.sl false (x0.map Z07),.agg (Z07 x1)] (R98 r):= cs f98<|go [] [rg 0 [(0,bo)]]<|bd h fun q1 e4 h=>lp e4 wl98x1<|match q1,h with | .inl q0,h=>j1<|(qe<|goN [] [rg 6 [(1,ln x0)]]<|br h (fun h4 h=>go [] []<|rt h) fun h4 h=> bd h fun v4 e5 h=>bd h fun v5 e6 h=>bd h fun v6 e7 h=>go [] [rgq 8 [(7,ln x0),(8,n e5),(0,br0 0 5),(4,br0 1 5),(2,an fr0 e6),(5,ap e7)] [1,3,6,7,8,0,4,2,5,9,10,11] [2,5,1003,1006,1007,1008,2004,1004]]<|rtB h (.tup [rw_ ((([]:List Z00)++x0)++[x1]),dI v4,dI 0]) (a2 (rpI ((([]:List Z00)++x0)++[x1])) (a2 trivial (a2 trivial trivial))) (by simp only [rwE] <;> kernel_rfl)) | .inr y0,h=>j2<|(qr h)
def R96 (y0:(List Z00)×Int×Int):D:= .tup [.sl false (y0.1.map Z07),.int .i64 y0.2.1,.int .i64 y0.2.2]
def Z6f (x0:List Z00) (x1:List UInt8):Option ((List Z00)×Int×Int):= (Z62 x0 (Z00.mk 1 x1 0 0 0)).bind fun v0=> some (v0.1,v0.2.1,v0.2.2)
theorem w96 {x0 x1 r} (h:Z6f x0 x1=some r):Z09 prog 96 [.sl false (x0.map Z07),.str x1] (R96 r):= cs f96<|bd h fun v0 e0 h=>go [] [rg 1 [(3,k (w98 e0))]]<|rt h
def R124 (y0:(List Z00)×Int×Int):D:= .tup [.sl false (y0.1.map Z07),.int .i64 y0.2.1,.int .i64 y0.2.2]
def Z9w (x0:List Z00) (x1:Int) (x2:List UInt8):Option ((List Z00)×Int×Int):= (Z6f x0 x2).bind fun v0=> if (v0.2.2 !=0) then (some (x0,0,v0.2.2)) else ((Z62 v0.1 (Z00.mk x1 [] 0 v0.2.1 0)).bind fun v1=> if (v1.2.2 !=0) then (some (x0,0,v1.2.2)) else (some (v1.1,v1.2.1,0)))
theorem w124 {x0 x1 x2 r} (h:Z9w x0 x1 x2=some r):Z09 prog 124 [.sl false (x0.map Z07),dI x1,.str x2] (R124 r):= cs f124<|bd h fun v0 e0 h=>go [] [rg 1 [(2,k (w96 e0))]]<|br h (fun h0 h=>go [] []<|rt h) fun h0 h=> bd h fun v1 e1 h=>go [] [rg 4 [(4,k (w98 e1))]]<|br h (fun h1 h=>go [] []<|rt h) fun h1 h=> go [] []<|rt h
def R95 (y0:(List Z00)×Int×Int):D:= .tup [.sl false (y0.1.map Z07),.int .i64 y0.2.1,.int .i64 y0.2.2]
def Z9b (x0:List Z00) (x1:List UInt8):Option ((List Z00)×Int×Int):= (Z9w x0 7 x1).bind fun v0=> some (v0.1,v0.2.1,v0.2.2)
theorem w95 {x0 x1 r} (h:Z9b x0 x1=some r):Z09 prog 95 [.sl false (x0.map Z07),.str x1] (R95 r):= cs f95<|bd h fun v0 e0 h=>go [] [rg 1 [(2,k (w124 e0))]]<|rt h
def B75 (y0:Z0j×Int):List Blk:=[{ sz:=2,rows:=[Z3c y0.1],frz:=0,pure:=false,pin:=some 0 }]
def R75 (y0:Z0j×Int):D:= .int .i64 y0.2
def Z75 (x0:Z0j) (x1:List UInt8):Option (Z0j×Int):= if (x0.f_E !=0) then (some (x0,0)) else ((Z9b x0.f_P x1).bind fun v0=> some ((Z0j.mk v0.1 v0.2.2),v0.2.1))
theorem w75 {x0 x1 r} (h:Z75 x0 x1=some r):Z47 prog 75 [.lptr 0 0 0,.str x1] [{ sz:=2,rows:=[Z3c x0],frz:=0,pure:=false,pin:=some 0 }] (R75 r) (B75 r):= csO f75 (m:=1) (keep:=[true])<|go [] []<|br h (fun h0 h=>go [] []<|rtO h (dI 0) [{ sz:=2,rows:=[Z3c x0],frz:=0,pure:=false,pin:=some 0 }] (a2 trivial trivial) rfl) fun h0 h=> bd h fun v0 e0 h=>go [] [rg 3 [(5,k (w95 e0))]]<|rtO h (dI v0.2.1) [{ sz:=2,rows:=[[.sl false (v0.1.map Z07),dI v0.2.2]],frz:=0,pure:=false,pin:=some 0 }] (a2 trivial trivial) rfl
def B76 (y0:Z0j×Int):List Blk:=[{ sz:=2,rows:=[Z3c y0.1],frz:=0,pure:=false,pin:=some 0 }]
def R76 (y0:Z0j×Int):D:= .int .i64 y0.2
def Z4u (x0:Z0j) (x1:List UInt8):Option (Z0j×Int):= if (x0.f_E !=0) then (some (x0,0)) else ((Z6f x0.f_P x1).bind fun v0=> some ((Z0j.mk v0.1 v0.2.2),v0.2.1))
theorem w76 {x0 x1 r} (h:Z4u x0 x1=some r):Z47 prog 76 [.lptr 0 0 0,.str x1] [{ sz:=2,rows:=[Z3c x0],frz:=0,pure:=false,pin:=some 0 }] (R76 r) (B76 r):= csO f76 (m:=1) (keep:=[true])<|go [] []<|br h (fun h0 h=>go [] []<|rtO h (dI 0) [{ sz:=2,rows:=[Z3c x0],frz:=0,pure:=false,pin:=some 0 }] (a2 trivial trivial) rfl) fun h0 h=> bd h fun v0 e0 h=>go [] [rg 3 [(5,k (w96 e0))]]<|rtO h (dI v0.2.1) [{ sz:=2,rows:=[[.sl false (v0.1.map Z07),dI v0.2.2]],frz:=0,pure:=false,pin:=some 0 }] (a2 trivial trivial) rfl
def R97 (y0:(List Z00)×Int×Int):D:= .tup [.sl false (y0.1.map Z07),.int .i64 y0.2.1,.int .i64 y0.2.2]
def Zaa (x0:List Z00) (x1:List UInt8):Option ((List Z00)×Int×Int):= (Z9w x0 8 x1).bind fun v0=> some (v0.1,v0.2.1,v0.2.2)
theorem w97 {x0 x1 r} (h:Zaa x0 x1=some r):Z09 prog 97 [.sl false (x0.map Z07),.str x1] (R97 r):= cs f97<|bd h fun v0 e0 h=>go [] [rg 1 [(2,k (w124 e0))]]<|rt h
def B78 (y0:Z0j×Int):List Blk:=[{ sz:=2,rows:=[Z3c y0.1],frz:=0,pure:=false,pin:=some 0 }]
def R78 (y0:Z0j×Int):D:= .int .i64 y0.2
def Zfn (p0:List Z00) (p1 p2:Int):Option (Z0j×Int):= some ((Z0j.mk p0 p2),p1)
def Zcf (x0:Z0j) (x1:Z1d):Option (Z0j×Int):= if (x0.f_E !=0) then (some (x0,0)) else (if (x1.Z2e==8) then ((Zaa x0.f_P x1.f_S).bind fun v0=> Zfn v0.1 v0.2.1 v0.2.2) else ((Z62 x0.f_P (Z00.mk x1.Z2e [] x1.f_N 0 0)).bind fun v1=> Zfn v1.1 v1.2.1 v1.2.2))
theorem Zu6 (x0:Z0j) {p0 p1 p2 r Γ} (h:Zfn p0 p1 p2=some r):Jn prog f78 Γ (Zbd prog f78 1 [true] (R78 r) (B78 r)) 47 ⟨54,[(0,.lptr 0 0 0),(5,.sl false (p0.map Z07)),(6,dI p1),(7,dI p2)],[(0,{ sz:=2,rows:=[Z3c x0],frz:=0,pure:=false,pin:=some 0 })]⟩:= so<|go [] []<|rtO h (dI p1) [{ sz:=2,rows:=[[.sl false (p0.map Z07),dI p2]],frz:=0,pure:=false,pin:=some 0 }] (a2 trivial trivial) rfl
theorem w78 {x0 x1 r} (h:Zcf x0 x1=some r):Z47 prog 78 [.lptr 0 0 0,.agg (Z5g x1)] [{ sz:=2,rows:=[Z3c x0],frz:=0,pure:=false,pin:=some 0 }] (R78 r) (B78 r):= csO f78 (m:=1) (keep:=[true])<|go [] [rg 0 [(0,bo)]]<|br h (fun h0 h=>go [] []<|rtO h (dI 0) [{ sz:=2,rows:=[Z3c x0],frz:=0,pure:=false,pin:=some 0 }] (a2 trivial trivial) rfl) fun h0 h=> go [] []<|br h (fun h1 h=>bd h fun v0 e0 h=>go [7] [rg 5 [(6,k (w97 e0))]]<|jn ((Zu6 x0) h)) fun h1 h=> bd h fun v1 e1 h=>go [7] [rg 6 [(9,k (w98 e1))]]<|jn ((Zu6 x0) h)
def R108 (y0:Bool):D:= .bool y0
def Zku (x0:Int):Option (Bool):= if (x0==1) then (some true) else (if (x0==2) then (some true) else (if (x0==4) then (some true) else (some (x0==8))))
theorem w108 {x0 r} (h:Zku x0=some r):Z09 prog 108 [dI x0] (R108 r):= cs f108<|go [1] []<|po<|pr 3 []<|sp h (fun h0 h=>pr 12 (gA h0 3 2 [(5,py h0)])<|pe<|goN [] []<|rt h) fun h0 h=> pr 4 (gC h0 3 2 [(5,pn h0)])<|sp h (fun h1 h=>pr 8 (gA h1 7 2 [(9,py h1)])<|pe<|goN [] []<|rt h) fun h1 h=> pr 4 (gC h1 7 2 [(9,pn h1)])<|sp h (fun h2 h=>pr 4 (gA h2 11 2 [(13,py h2)])<|pe<|goN [] []<|rt h) fun h2 h=> pr 4 (gC h2 11 2 [(13,pn h2)])<|pe<|goN [] []<|rt h
def R83 (y0:(List UInt8)×Int):D:= .tup [.str y0.1,.int .i64 y0.2]
def Zjl (t0:Int×Int×(List Int)):Option (Ctl (Int×Int×(List Int)) (((List Int)))):= if (decide (t0.2.1≥0)) then ((some (Z2k .i64 t0.1 255)).bind fun v16=> (some (IntKind.wrap .u8 v16)).bind fun v17=> (Z3g t0.2.1 t0.2.2.length).bind fun v18=> (t0.2.2[v18]?).bind fun v19=> (shrK .i64 t0.1 8).bind fun v20=> (some (IntKind.wrap .i64 (t0.2.1 - 1))).bind fun v21=> some (.next (v20,v21,(t0.2.2.set v18 v17)))) else (some (.done (t0.2.2)))
def Zfc (x0 x1:Int):Option ((List UInt8)×Int):= (Z8s 1 x1 x1).bind fun v8=> (some (IntKind.wrap .i64 (x1 - 1))).bind fun v9=> (Z06 Zjl Z08 (x0,v9,(List.replicate x1.toNat 0))).bind fun q0=> some ((bytesOf q0),0)
def Z90 (x0 x1:Int):Option ((List UInt8)×Int):= (Zku x1).bind fun v0=> if (!v0) then (some ([],1)) else (if (decide (x1<8)) then ((some (IntKind.wrap .i64 (8*x1))).bind fun v1=> (some (IntKind.wrap .i64 (v1 - 1))).bind fun v2=> (Z6d .i64 1 v2).bind fun v3=> (some (IntKind.wrap .i64 (0 - v3))).bind fun v4=> if (decide (x0<v4)) then (some ([],8)) else ((some (IntKind.wrap .i64 (8*x1))).bind fun v5=> (Z6d .i64 1 v5).bind fun v6=> (some (IntKind.wrap .i64 (v6 - 1))).bind fun v7=> if (decide (x0>v7)) then (some ([],8)) else ((Zfc x0 x1)))) else ((Zfc x0 x1)))
def Zty:(Int×Int×(List Int))→SL:= fun t0=>⟨50,[(6,.lsl 6 0 ((t0.2.2.map rU8).length)),(7,dI t0.1),(8,dI t0.2.1)],[(6,{ sz:=1,rows:=(t0.2.2.map rU8),frz:=0,pure:=true })]⟩
def J83x1:JT (((List Int))):= je 0 fun q0:(List Int)=>⟨50,[(6,.lsl 6 0 ((q0.map rU8).length))],[(6,{ sz:=1,rows:=(q0.map rU8),frz:=0,pure:=true })]⟩
theorem wl83x1 {t0 r Γ} (h:Zjl t0=some r):A prog Γ (lpC f83 351) [] (Rd Zty J83x1 r) (Zty t0).s:= go [] []<|br h (fun h5 h=>bd h fun v16 e16 h=>bd h fun v17 e17 h=>bd h fun v18 e18 h=>bd h fun v19 e19 h=>go [11] [rg 10 [(3,n e16),(4,n8 e17),(5,ia (R:=RU8) 6 e18),(6,st (R:=RU8) e19 0 [d8 v17] v17)]]<|nm (congrArg (fun nn:Nat=>(⟨50,[(6,.lsl 6 0 nn),(7,dI t0.1),(8,dI t0.2.1)],[(6,{ sz:=1,rows:=((t0.2.2.set v18 v17).map rU8),frz:=0,pure:=true })]⟩:SL)) (by simp only [List.length_map,List.length_set]:(t0.2.2.map rU8).length=((t0.2.2.set v18 v17).map rU8).length))<|so<|bd h fun v20 e20 h=>bd h fun v21 e21 h=>go [] [rg 11 [(1,sr e20)],rg 9 [(1,n e21)]]<|nx h) fun h5 h=> go [] []<|dn h (iE)
theorem Zwf {x0 x1 r Γ} (h:(Zfc x0 x1)=some r):Jn prog f83 Γ (Den.Ends prog f83 (R83 r)) 23 ⟨50,[(0,dI x0),(1,dI x1)],[]⟩:= so<|bd h fun v8 e8 h=>bd h fun v9 e9 h=>go [] [rg 5 [(1,mk (R:=RU8) 0 e8)],rg 7 [(1,n e9)]]<|bd h fun q0 e22 h=>lp (ps:=[(32,6)]) e22 wl83x1<|qe<|goN [] [rg 12 [(1,bsB q0)]]<|rt h
theorem w83 {x0 x1 r} (h:Z90 x0 x1=some r):Z09 prog 83 [dI x0,dI x1] (R83 r):= cs f83<|bd h fun v0 e0 h=>go [] [rg 1 [(1,k (w108 e0))]]<|br h (fun h0 h=>go [] []<|rt h) fun h0 h=> go [3] []<|po<|pr 3 []<|sp h (fun h1 h=>bd h fun v1 e1 h=>bd h fun v2 e2 h=>bd h fun v3 e3 h=>bd h fun v4 e4 h=>pr 8 (gC h1 3 2 ((5,gw h1 (n e1))::(6,gw h1 (n e2))::(7,gw h1 (sl e3))::(8,gw h1 (n e4))::gC h1 9 2 []))<|sp h (fun h2 h=>pr 8 (gA h2 11 6 [(17,gw h1 (py h2)),(18,py h1)])<|pe<|goN [] []<|bT rfl<|go [] []<|rt h) fun h2 h=> bd h fun v5 e5 h=>bd h fun v6 e6 h=>bd h fun v7 e7 h=>pr 8 (gC h2 11 2 [(13,gw h2 (n e5)),(14,gw h2 (sl e6)),(15,gw h2 (n e7)),(16,gw h2 g0),(17,gw h1 (pn h2)),(18,py h1)])<|pe<|goN [] []<|br h (fun h3 h=>go [] []<|rt h) fun h3 h=> go [5] []<|jn (Zwf h)) fun h1 h=> pr 16 (gB h1 3 8 [(17,gs1 h1),(18,pn h1)])<|pe<|goN [] []<|bF rfl<|go [5] []<|jn (Zwf h)
def R77 (y0:(List UInt8)):D:= .str y0
def Z93 (x0:Int):Option ((List UInt8)):= (Z90 x0 2).bind fun v0=> some v0.1
theorem w77 {x0 r} (h:Z93 x0=some r):Z09 prog 77 [dI x0] (R77 r):= cs f77<|bd h fun v0 e0 h=>go [] [rg 1 [(1,k (w83 e0))]]<|rt h
def R156 (y0:Bool):D:= .bool y0
def Zac (x0:Int):Option (Bool):= if (decide (x0≥0)) then (some (decide (x0<81))) else (some false)
theorem w156 {x0 r} (h:Zac x0=some r):Z09 prog 156 [dI x0] (R156 r):= cs f156<|sp h (fun h0 h=>go [] [rg 1 [(1,kb h0)]]<|rt h) fun h0 h=> go [] [rg 1 [(1,kb h0)]]<|rt h
def R130 (y0:Bool):D:= .bool y0
def Z6m (x0 x1 x2:Int):Option (Bool):= if (decide (x0≥x1)) then (some (decide (x0≤x2))) else (some false)
theorem w130 {x0 x1 x2 r} (h:Z6m x0 x1 x2=some r):Z09 prog 130 [dI x0,dI x1,dI x2] (R130 r):= cs f130<|sp h (fun h0 h=>go [] [rg 1 [(2,kb h0)]]<|rt h) fun h0 h=> go [] [rg 1 [(2,kb h0)]]<|rt h
def R128 (y0:Int):D:= .int .i64 y0
def Zi8 (x0 : Int):Option (Int):= (Z6m x0 36 52).bind fun v2=> if v2 then (some 3) else ((Z6m x0 4 9).bind fun v3=> if v3 then (some 4) else (if (x0 == 10) then (some 5) else (if (x0==53) then (some 6) else (if (x0==54) then (some 7) else (some 0)))))
def Zkh (x0:Int):Option (Int):= if (x0==77) then (some 2) else ((Zi8 x0))
def Z6n (x0 : Int):Option (Int):= (Zac x0).bind fun v0=> if (!v0) then (some (-1)) else (if (x0 == 2) then (some 1) else (if (x0 == 3) then (some 2) else ((Z6m x0 59 68).bind fun v1=> if v1 then (some 2) else (if (x0==76) then (some 2) else ((Zkh x0))))))
theorem wj128x2 {x0 r Γ} (h:(Zi8 x0)=some r):Jn prog f128 Γ (Den.Ends prog f128 (R128 r)) 1529 ⟨34,[(0,dI x0)],[]⟩:= so<|bd h fun v2 e2 h=>go [] [rg 10 [(1,k (w130 e2))]]<|br h (fun h6 h=>go [] []<|rt h) fun h6 h=> bd h fun v3 e3 h=>go [] [rg 12 [(1,k (w130 e3))]]<|br h (fun h7 h=>go [] []<|rt h) fun h7 h=> go [] []<|br h (fun h8 h=>go [] []<|rt h) fun h8 h=> go [] []<|br h (fun h9 h=>go [] []<|rt h) fun h9 h=> go [] []<|br h (fun h10 h=>go [] []<|rt h) fun h10 h=> go [] []<|rt h
theorem wj128x1 {x0 r Γ} (h:(Zkh x0)=some r):Jn prog f128 Γ (Den.Ends prog f128 (R128 r)) 505 ⟨34,[(0,dI x0),(10,.bool (x0==77))],[]⟩ (x0==77):= br h (fun h5 h=>go [] []<|rt h) fun h5 h=> go [10] []<|jn (wj128x2 h)
theorem w128 {x0 r} (h:Z6n x0=some r):Z09 prog 128 [dI x0] (R128 r):= cs f128<|bd h fun v0 e0 h=>go [] [rg 1 [(1,k (w156 e0))]]<|br h (fun h0 h=>go [] []<|rt h) fun h0 h=> go [] []<|br h (fun h1 h=>go [] []<|rt h) fun h1 h=> go [] []<|br h (fun h2 h=>go [] []<|bT h2<|go [] []<|rt h) fun h2 h=> bd h fun v1 e1 h=>go [] [rg 6 [(1,k (w130 e1))]]<|br h (fun h3 h=>go [] []<|bT h3<|go [] []<|rt h) fun h3 h=> go [] []<|br h (fun h4 h=>go [] []<|bT h4<|go [] []<|rt h) fun h4 h=> go [] []<|jn (wj128x1 h)
def R133 (y0:Bool):D:= .bool y0
def Ze7 (x0 : Z01) (x1:Int):Option (Bool):= if (x0.f_To != 0) then (if (x1 !=3) then (if (x1 !=6) then (if (x1 !=7) then (some false) else (if ((x0.Z0r.length:Int)==0) then (if ((x0.Z0b.length:Int)==0) then (some true) else (if (x1==6) then (some true) else (some (x1==7)))) else (if (x1==7) then (if ((x0.Z0b.length:Int)==0) then (some true) else (if (x1==6) then (some true) else (some true))) else (some false)))) else (if ((x0.Z0r.length:Int)==0) then (if ((x0.Z0b.length:Int)==0) then (some true) else (if (x1==6) then (some true) else (some (x1==7)))) else (if (x1==7) then (if ((x0.Z0b.length:Int)==0) then (some true) else (if (x1==6) then (some true) else (some true))) else (some false)))) else (if ((x0.Z0r.length:Int)==0) then (if ((x0.Z0b.length:Int)==0) then (some true) else (if (x1==6) then (some true) else (some (x1==7)))) else (if (x1==7) then (if ((x0.Z0b.length:Int)==0) then (some true) else (if (x1==6) then (some true) else (some true))) else (some false)))) else (if ((x0.Z0r.length:Int)==0) then (if ((x0.Z0b.length:Int)==0) then (some true) else (if (x1==6) then (some true) else (some (x1==7)))) else (if (x1==7) then (if ((x0.Z0b.length:Int)==0) then (some true) else (if (x1==6) then (some true) else (some true))) else (some false)))
def Zdd (x0:Z01) (x1:Int):Option (Bool):= if (x0.f_B !=0) then (if (x1 !=5) then (some false) else ((Ze7 x0 x1))) else ((Ze7 x0 x1))
def Zkc (x0:Z01) (x1:Int):Option (Bool):= if (x0.f_A !=0) then (if (x1==0) then (some false) else (if (x1==3) then (some false) else (if (x1==7) then (some false) else ((Zdd x0 x1))))) else ((Zdd x0 x1))
def Zbw (x0:Z01) (x1:Int):Option (Bool):= if (!(Zmb x0.Z1e (Z26.mk [] [] []))) then (some false) else (if (!(x0.f_S==([]:List UInt8))) then (some false) else ((Zkc x0 x1)))
theorem Zwq {x0 x1 r Γ} (h:(Ze7 x0 x1)=some r):Jn prog f133 Γ (Den.Ends prog f133 (R133 r)) 79 ⟨73,[(1,dI x1),(2,.ptr (Z0e x0))],[]⟩:= po <| pr 4 [] <| sp h (fun h8 h=>pr 4 (gC h8 4 2 [(6,py h8)])<|sp h (fun h9 h=>pr 4 (gC h9 8 2 [(10,py h9)])<|sp h (fun h10 h=>pr 3 (gC h10 12 2 [(14,py h10)])<|pe<|goN [] []<|br h (fun h11 h=>go [] []<|rt h) fun h11 h=> go [9] []<|po<|pr 5 [(2,ln x0.Z0r)]<|sp h (fun h12 h=>pr 9 (gA h12 5 2 [(7,py h12),(11,ln x0.Z0b)])<|sp h (fun h13 h=>pr 9 (gA h13 14 2 [(16,py h13)])<|pe<|goN [] []<|rt h) fun h13 h=> pr 4 (gC h13 14 2 [(16,pn h13)])<|sp h (fun h14 h=>pr 5 (gA h14 18 2 [(20,py h14)])<|pe<|goN [] []<|rt h) fun h14 h=> pr 5 (gC h14 18 2 [(20,pn h14)])<|pe<|goN [] []<|rt h) fun h12 h=> pr 4 (gC h12 5 2 [(7,pn h12)])<|sp h (fun h15 h=>pr 5 (gC h15 9 2 ((11,gw h15 (ln x0.Z0b))::gC h15 12 2 []))<|sp h (fun h16 h=>pr 9 (gA h16 14 2 [(16,gw h15 (py h16)),(17,gw h15 g0),(20,gw h15 g0),(21,py h15)])<|pe<|goN [] []<|rt h) fun h16 h=> pr 4 (gC h16 14 2 [(16,gw h15 (pn h16)),(17,gw h15 g0)])<|sp h (fun h17 h=>pr 5 (gA h17 18 2 [(20,gw h15 (py h17)),(21,py h15)])<|pe<|goN [] []<|rt h) fun h17 h=> pr 5 [(18,gw h17 g0),(19,gw h17 (kb h15)),(20,gw h15 (pn h17)),(21,py h15)]<|pe<|goN [] []<|rt h) fun h15 h=> pr 14 (gB h15 9 5 (gB h15 16 2 [(20,gs1 h15),(21,pn h15)]))<|pe<|goN [] []<|rt h) fun h10 h=> pr 3 (gB h10 12 2 [(14,pn h10)])<|pe<|goN [] []<|bF rfl<|go [9] []<|po<|pr 5 [(2,ln x0.Z0r)]<|sp h (fun h18 h=>pr 9 (gA h18 5 2 [(7,py h18),(11,ln x0.Z0b)])<|sp h (fun h19 h=>pr 9 (gA h19 14 2 [(16,py h19)])<|pe<|goN [] []<|rt h) fun h19 h=> pr 4 (gC h19 14 2 [(16,pn h19)])<|sp h (fun h20 h=>pr 5 (gA h20 18 2 [(20,py h20)])<|pe<|goN [] []<|rt h) fun h20 h=> pr 5 (gC h20 18 2 [(20,pn h20)])<|pe<|goN [] []<|rt h) fun h18 h=> pr 4 (gC h18 5 2 [(7,pn h18)])<|sp h (fun h21 h=>pr 5 (gC h21 9 2 ((11,gw h21 (ln x0.Z0b))::gC h21 12 2 []))<|sp h (fun h22 h=>pr 9 (gA h22 14 2 [(16,gw h21 (py h22)),(17,gw h21 g0),(20,gw h21 g0),(21,py h21)])<|pe<|goN [] []<|rt h) fun h22 h=> pr 4 (gC h22 14 2 [(16,gw h21 (pn h22)),(17,gw h21 g0)])<|sp h (fun h23 h=>pr 5 (gA h23 18 2 [(20,gw h21 (py h23)),(21,py h21)])<|pe<|goN [] []<|rt h) fun h23 h=> pr 5 [(18,gw h23 g0),(19,gw h23 (kb h21)),(20,gw h21 (pn h23)),(21,py h21)]<|pe<|goN [] []<|rt h) fun h21 h=> pr 14 (gB h21 9 5 (gB h21 16 2 [(20,gs1 h21),(21,pn h21)]))<|pe<|goN [] []<|rt h) fun h9 h=> pr 7 (gB h9 8 2 [(10,pn h9)])<|pe<|goN [] []<|bF rfl<|go [9] []<|po<|pr 5 [(2,ln x0.Z0r)]<|sp h (fun h24 h=>pr 9 (gA h24 5 2 [(7,py h24),(11,ln x0.Z0b)])<|sp h (fun h25 h=>pr 9 (gA h25 14 2 [(16,py h25)])<|pe<|goN [] []<|rt h) fun h25 h=> pr 4 (gC h25 14 2 [(16,pn h25)])<|sp h (fun h26 h=>pr 5 (gA h26 18 2 [(20,py h26)])<|pe<|goN [] []<|rt h) fun h26 h=> pr 5 (gC h26 18 2 [(20,pn h26)])<|pe<|goN [] []<|rt h) fun h24 h=> pr 4 (gC h24 5 2 [(7,pn h24)])<|sp h (fun h27 h=>pr 5 (gC h27 9 2 ((11,gw h27 (ln x0.Z0b))::gC h27 12 2 []))<|sp h (fun h28 h=>pr 9 (gA h28 14 2 [(16,gw h27 (py h28)),(17,gw h27 g0),(20,gw h27 g0),(21,py h27)])<|pe<|goN [] []<|rt h) fun h28 h=> pr 4 (gC h28 14 2 [(16,gw h27 (pn h28)),(17,gw h27 g0)])<|sp h (fun h29 h=>pr 5 (gA h29 18 2 [(20,gw h27 (py h29)),(21,py h27)])<|pe<|goN [] []<|rt h) fun h29 h=> pr 5 [(18,gw h29 g0),(19,gw h29 (kb h27)),(20,gw h27 (pn h29)),(21,py h27)]<|pe<|goN [] []<|rt h) fun h27 h=> pr 14 (gB h27 9 5 (gB h27 16 2 [(20,gs1 h27),(21,pn h27)]))<|pe<|goN [] []<|rt h) fun h8 h=> pr 11 (gB h8 4 2 [(6,pn h8)])<|pe<|goN [] []<|bF rfl<|go [9] []<|po<|pr 5 [(2,ln x0.Z0r)]<|sp h (fun h30 h=>pr 9 (gA h30 5 2 [(7,py h30),(11,ln x0.Z0b)])<|sp h (fun h31 h=>pr 9 (gA h31 14 2 [(16,py h31)])<|pe<|goN [] []<|rt h) fun h31 h=> pr 4 (gC h31 14 2 [(16,pn h31)])<|sp h (fun h32 h=>pr 5 (gA h32 18 2 [(20,py h32)])<|pe<|goN [] []<|rt h) fun h32 h=> pr 5 (gC h32 18 2 [(20,pn h32)])<|pe<|goN [] []<|rt h) fun h30 h=> pr 4 (gC h30 5 2 [(7,pn h30)])<|sp h (fun h33 h=>pr 5 (gC h33 9 2 ((11,gw h33 (ln x0.Z0b))::gC h33 12 2 []))<|sp h (fun h34 h=>pr 9 (gA h34 14 2 [(16,gw h33 (py h34)),(17,gw h33 g0),(20,gw h33 g0),(21,py h33)])<|pe<|goN [] []<|rt h) fun h34 h=> pr 4 (gC h34 14 2 [(16,gw h33 (pn h34)),(17,gw h33 g0)])<|sp h (fun h35 h=>pr 5 (gA h35 18 2 [(20,gw h33 (py h35)),(21,py h33)])<|pe<|goN [] []<|rt h) fun h35 h=> pr 5 [(18,gw h35 g0),(19,gw h35 (kb h33)),(20,gw h33 (pn h35)),(21,py h33)]<|pe<|goN [] []<|rt h) fun h33 h=> pr 14 (gB h33 9 5 (gB h33 16 2 [(20,gs1 h33),(21,pn h33)]))<|pe<|goN [] []<|rt h
theorem Zzl {x0 x1 r Γ} (h:(Zdd x0 x1)=some r):Jn prog f133 Γ (Den.Ends prog f133 (R133 r)) 39 ⟨73,[(1,dI x1),(2,.ptr (Z0e x0))],[]⟩:= so<|sp h (fun h6 h=>go [] [rg 5 [(2,kb h6)]]<|br h (fun h7 h=>go [] []<|rt h) fun h7 h=> go [7] []<|jn (Zwq h)) fun h6 h=> go [] [rg 5 [(2,kb h6)]]<|bF rfl<|go [7] []<|jn (Zwq h)
theorem wj133x1 {x0 x1 r Γ} (h:(Zkc x0 x1)=some r):Jn prog f133 Γ (Den.Ends prog f133 (R133 r)) 19 ⟨73,[(1,dI x1),(2,.ptr (Z0e x0))],[]⟩:= po <| pr 4 []<|sp h (fun h2 h=>pr 3 (gC h2 4 3 [])<|sp h (fun h3 h=>pr 8 (gA h3 7 2 [(9,gw h2 (py h3)),(10,gw h2 g0),(13,gw h2 g0),(14,py h2)])<|pe<|goN [] []<|bT rfl<|go [] []<|rt h) fun h3 h=> pr 4 (gC h3 7 2 [(9,gw h2 (pn h3)),(10,gw h2 g0)])<|sp h (fun h4 h=>pr 4 (gA h4 11 2 [(13,gw h2 (py h4)),(14,py h2)])<|pe<|goN [] []<|bT rfl<|go [] []<|rt h) fun h4 h=> pr 4 (gC h4 11 2 [(13,gw h2 (pn h4)),(14,py h2)])<|pe<|goN [] []<|br h (fun h5 h=>go [] []<|rt h) fun h5 h=> go [5] []<|jn (Zzl h)) fun h2 h=> pr 11 (gB h2 4 3 (gB h2 9 2 [(13,gs1 h2),(14,pn h2)]))<|pe<|goN [] []<|bF rfl<|go [5] []<|jn (Zzl h)
theorem w133 {x0 x1 r} (h:Zbw x0 x1=some r):Z09 prog 133 [.agg (Z0e x0),dI x1] (R133 r):= cs f133<|sp h (fun h0 h=>go [] [rg 0 [(0,bo)],rg 1 ((3,qs Zyj Y02 (!(Zmb x0.Z1e (Z26.mk [] [] []))))::gA h0 5 3 [(8,py h0)])]<|bT rfl<|go [] []<|rt h) fun h0 h=> go [] [rg 0 [(0,bo)],rg 1 ((3,qs Zyj Y02 (!(Zmb x0.Z1e (Z26.mk [] [] []))))::gC h0 5 3 [(8,pn h0)])]<|br h (fun h1 h=>go [] []<|rt h) fun h1 h=> go [3] []<|jn (wj133x1 h)
def R134 (y0:Bool):D:= .bool y0
def Zbs (x0:Z01) (t0:Int):Option (Ctl (Int) (Unit⊕Bool)):= if (decide (t0<(x0.Z0b.length:Int))) then ((Z05 x0.Z0b t0).bind fun v2=> if (decide (v2<0)) then (some (.done (.inr false))) else ((Z05 x0.Z0b t0).bind fun v3=> if (decide (v3≥1000)) then (some (.done (.inr false))) else ((some (IntKind.wrap .i64 (t0+1))).bind fun v4=> some (.next v4)))) else (some (.done (.inl (()))))
def Zhq (x0:Z01):Option (Bool):= (Z06 (Zbs x0) Z08 0).bind fun q1=> match q1 with | .inl q0=>(some true) | .inr y0=>(some y0)
def Z7s (x0:Z01):Option (Bool):= if (decide (x0.f_To<0)) then (some false) else (if (decide (x0.f_To≥1000)) then (some false) else ((Zhq x0)))
def Zxb (x0:Z01):Int→SL:= fun t0=>⟨33,[(1,.ptr (Z0e x0)),(3,dI t0)],[]⟩
def J134x1:JT (Unit⊕Bool):= ju (je 0 fun q0:Unit=>⟨33,[],[]⟩) (jr prog f134 R134)
theorem wl134x1 {x0 t0 r Γ} (h:(Zbs x0) t0=some r):A prog Γ (lpC f134 43) [] (Rd (Zxb x0) J134x1 r) ((Zxb x0) t0).s:= go [] [rg 4 [(3,ln x0.Z0b)]]<|br h (fun h5 h=>bd h fun v2 e2 h=>sp h (fun h6 h=>go [] [rg 6 [(3,ix e2),(5,kb h6)]]<|bT rfl<|go [] []<|dn h (i2 iR)) fun h6 h=> bd h fun v3 e3 h=>go [] [rg 6 [(3,ix e2),(5,kb h6),(10,ix e3)]]<|br h (fun h7 h=>go [] []<|dn h (i2 iR)) fun h7 h=> bd h fun v4 e4 h=>go [] [rg 5 [(1,n e4)]]<|nx h) fun h5 h=> go [] []<|dn h (i1 iE)
theorem wj134x1 {x0 r Γ} (h:(Zhq x0)=some r):Jn prog f134 Γ (Den.Ends prog f134 (R134 r)) 19 ⟨33,[(1,.ptr (Z0e x0))],[]⟩:= so<|go [] []<|bd h fun q1 e5 h=>lp e5 wl134x1<|match q1,h with | .inl q0,h=>j1<|(qe<|goN [] []<|rt h) | .inr y0,h=>j2<|(qr h)
theorem w134 {x0 r} (h:Z7s x0=some r):Z09 prog 134 [.agg (Z0e x0)] (R134 r):= cs f134<|sp h (fun h0 h=>go [] [rg 0 [(0,bo)],rg 1 [(2,kb h0)]]<|bT rfl<|go [] []<|rt h) fun h0 h=> go [] [rg 0 [(0,bo)],rg 1 [(2,kb h0)]]<|br h (fun h1 h=>go [] []<|rt h) fun h1 h=> go [3] []<|jn (wj134x1 h)
def R163 (y0:Bool):D:= .bool y0
def Zf0 (x0:Int):Option (Bool):= if (decide (x0≥(-2147483648))) then (some (decide (x0≤2147483647))) else (some false)
theorem w163 {x0 r} (h:Zf0 x0=some r):Z09 prog 163 [dI x0] (R163 r):= cs f163<|sp h (fun h0 h=>go [] [rg 1 [(1,kb h0)]]<|rt h) fun h0 h=> go [] [rg 1 [(1,kb h0)]]<|rt h
def R135 (y0:Int):D:= .int .i64 y0
def Zie (x0:Z01):Option (Int):= (Zf0 x0.f_A).bind fun v11=> if (!v11) then (some 8) else ((some (IntKind.wrap .i64 ((x0.Z0b.length:Int) - 1))).bind fun v12=> (some (IntKind.wrap .i64 (2147483647 - v12))).bind fun v13=> if (decide (x0.f_A>v13)) then (some 8) else (some 0))
def Zl9 (x0:Z01) (t0:Int):Option (Ctl (Int) (Unit⊕Int)):= if (decide (t0<(x0.Z0r.length:Int))) then ((Z05 x0.Z0r t0).bind fun v2=> (Zf0 v2).bind fun v3=> if (!v3) then (some (.done (.inr 8))) else ((some (IntKind.wrap .i64 (t0+1))).bind fun v4=> some (.next v4))) else (some (.done (.inl (()))))
def Zli (x0:Z01) (t1:Int):Option (Ctl (Int) (Unit⊕Int)):= if (decide (t1<(x0.Z0r.length:Int))) then ((Z05 x0.Z0r t1).bind fun v7=> (some (IntKind.wrap .i64 (t1 - 1))).bind fun v8=> (Z05 x0.Z0r v8).bind fun v9=> if (decide (v7≤v9)) then (some (.done (.inr 4))) else ((some (IntKind.wrap .i64 (t1+1))).bind fun v10=> some (.next v10))) else (some (.done (.inl (()))))
def Zkx (x0:Z01):Option (Int):= (Z06 (Zl9 x0) Z08 0).bind fun q1=> match q1 with | .inl q0=>((Z06 (Zli x0) Z08 1).bind fun q3=> match q3 with | .inl q2=>(some 0) | .inr y0=>(some y0)) | .inr y1=>(some y1)
def Zcr (x0:Z01):Option (Int):= if (x0.f_Op==53) then (if ((x0.Z0b.length:Int)==0) then (some 5) else (if (decide ((x0.Z0b.length:Int)>64)) then (some 5) else ((Zie x0)))) else (if (decide ((x0.Z0r.length:Int)>64)) then (some 5) else (if ((x0.Z0b.length:Int)!=(x0.Z0r.length:Int)) then (some 5) else ((Zkx x0))))
theorem wj135x2 {x0 r Γ} (h:(Zie x0)=some r):Jn prog f135 Γ (Den.Ends prog f135 (R135 r)) 149 ⟨78,[(1,.ptr (Z0e x0))],[]⟩:= so<|bd h fun v11 e13 h=>sp h (fun h13 h=>go [] [rg 4 ((2,k (w163 e13))::gA h13 5 8 [(13,py h13)])]<|bT rfl<|go [] []<|rt h) fun h13 h=> bd h fun v12 e14 h=>bd h fun v13 e15 h=>go [] [rg 4 ((2,k (w163 e13))::gC h13 5 4 [(9,gw h13 (ln x0.Z0b)),(10,gw h13 (n e14)),(11,gw h13 (n e15)),(12,gw h13 g0),(13,pn h13)])]<|br h (fun h14 h=>go [] []<|rt h) fun h14 h=> go [] []<|rt h
def Zsx (x0:Z01):Int→SL:= fun t0=>⟨78,[(1,.ptr (Z0e x0)),(3,dI t0)],[]⟩
def J135x1 (x0:Z01):JT (Unit⊕Int):= ju (je 0 fun q0:Unit=>⟨78,[(1,.ptr (Z0e x0))],[]⟩) (jr prog f135 R135)
theorem wl135x1 {x0 t0 r Γ} (h:(Zl9 x0) t0=some r):A prog Γ (lpC f135 87) [] (Rd (Zsx x0) (J135x1 x0) r) ((Zsx x0) t0).s:= go [] [rg 10 [(3,ln x0.Z0r)]]<|br h (fun h7 h=>bd h fun v2 e2 h=>bd h fun v3 e3 h=>go [] [rg 12 [(3,ix e2),(5,k (w163 e3))]]<|br h (fun h8 h=>go [] []<|dn h (i2 iR)) fun h8 h=> bd h fun v4 e4 h=>go [] [rg 11 [(1,n e4)]]<|nx h) fun h7 h=> go [] []<|dn h (i1 iE)
def Zrv (x0:Z01):Int→SL:= fun t1=>⟨78,[(1,.ptr (Z0e x0)),(4,dI t1)],[]⟩
def J135x2:JT (Unit⊕Int):= ju (je 2 fun q2:Unit=>⟨78,[],[]⟩) (jr prog f135 R135)
theorem wl135x2 {x0 t1 r Γ} (h:(Zli x0) t1=some r):A prog Γ (lpC f135 175) [] (Rd (Zrv x0) J135x2 r) ((Zrv x0) t1).s:= go [] [rg 15 [(3,ln x0.Z0r)]]<|br h (fun h11 h=>bd h fun v7 e8 h=>bd h fun v8 e9 h=>bd h fun v9 e10 h=>go [] [rg 17 [(3,ix e8),(8,n e9),(9,ix e10)]]<|br h (fun h12 h=>go [] []<|dn h (i2 iR)) fun h12 h=> bd h fun v10 e11 h=>go [] [rg 16 [(1,n e11)]]<|nx h) fun h11 h=> go [] []<|dn h (i1 iE)
theorem wj135x1 {x0 r Γ} (h:(Zkx x0)=some r):Jn prog f135 Γ (Den.Ends prog f135 (R135 r)) 39 ⟨78,[(1,.ptr (Z0e x0))],[]⟩:= so<|go [] []<|bd h fun q1 e5 h=>lp e5 wl135x1<|match q1,h with | .inl q0,h=>j1<|(qe<|goN [] []<|bd h fun q3 e12 h=>lp e12 wl135x2<|match q3,h with | .inl q2,h=>j1<|(qe<|goN [] []<|rt h) | .inr y0,h=>j2<|(qr h)) | .inr y1,h=>j2<|(qr h)
theorem w135 {x0 r} (h:Zcr x0=some r):Z09 prog 135 [.agg (Z0e x0)] (R135 r):= cs f135<|go [] [rg 0 [(0,bo)]]<|br h (fun h0 h=>sp h (fun h1 h=>go [] [rg 2 [(2,ln x0.Z0b),(3,kb h1)]]<|bT rfl<|go [] []<|rt h) fun h1 h=> go [] [rg 2 [(2,ln x0.Z0b),(3,kb h1),(7,ln x0.Z0b)]]<|br h (fun h2 h=>go [] []<|rt h) fun h2 h=> go [4] []<|jn (wj135x2 h)) fun h0 h=> sp h (fun h3 h=>go [] [rg 7 [(2,ln x0.Z0r),(3,kb h3)]]<|bT rfl<|go [] []<|rt h) fun h3 h=> go [] [rg 7 [(2,ln x0.Z0r),(3,kb h3),(7,ln x0.Z0b),(10,ln x0.Z0r)]]<|br h (fun h4 h=>go [] []<|rt h) fun h4 h=> go [9] []<|jn (wj135x1 h)
def R104 (y0:Int):D:= .int .i64 y0
def Zbf (x0:Z01):Option (Int):= (Zcr x0).bind fun v5=> some v5
def Z8r (v0:Int) (x0:Z01):Option (Int):= if (v0==6) then ((Zbf x0)) else (if (v0==7) then ((Zbf x0)) else (some 0))
def Zb7 (v0:Int) (x0:Z01):Option (Int):= if (v0==3) then ((Z7s x0).bind fun v2=> if (!v2) then (some 16) else ((Z8r v0 x0))) else (if (v0 == 6) then ((Z7s x0).bind fun v3=> if (!v3) then (some 16) else ((Z8r v0 x0))) else (if (v0==7) then ((Z7s x0).bind fun v4=> if (!v4) then (some 16) else ((Z8r v0 x0))) else ((Z8r v0 x0))))
def Z9s (v0:Int) (x0:Z01):Option (Int):= if (v0==2) then (if (decide (x0.f_A<1)) then (some 2) else (if (decide (x0.f_A>1000)) then (some 2) else ((Zb7 v0 x0)))) else ((Zb7 v0 x0))
def Z92 (v0:Int) (x0:Z01):Option (Int):= if (v0==4) then (if (decide (x0.f_A<0)) then (some 21) else (if (decide (x0.f_A≥32)) then (some 21) else ((Z9s v0 x0)))) else (if (v0 == 5) then (if (decide (x0.f_A<0)) then (some 21) else (if (decide (x0.f_A≥32)) then (some 21) else ((Z9s v0 x0)))) else ((Z9s v0 x0)))
def Z4q (x0 : Z01):Option (Int):= (Z6n x0.f_Op).bind fun v0=> if (decide (v0<0)) then (some 15) else ((Zbw x0 v0).bind fun v1=> if (!v1) then (some 4) else (if (v0 == 1) then (if (decide (x0.f_A<(-128))) then (some 8) else (if (decide (x0.f_A>127)) then (some 8) else (if (v0 == 5) then (if (decide (x0.f_B<(-128))) then (some 8) else (if (decide (x0.f_B>127)) then (some 8) else ((Z92 v0 x0)))) else ((Z92 v0 x0))))) else (if (v0 == 5) then (if (decide (x0.f_B<(-128))) then (some 8) else (if (decide (x0.f_B>127)) then (some 8) else ((Z92 v0 x0)))) else ((Z92 v0 x0)))))
theorem Zv5 {x0 r Γ} (h:(Zbf x0)=some r):Jn prog f104 Γ (Den.Ends prog f104 (R104 r)) 4863 ⟨90,[(1,.ptr (Z0e x0))],[]⟩:= so<|bd h fun v5 e5 h=>go [] [rg 15 [(1,k (w135 e5))]]<|rt h
theorem Zje {v0 x0 r Γ} (h:(Z8r v0 x0)=some r):Jn prog f104 Γ (Den.Ends prog f104 (R104 r)) 1279 ⟨90,[(1,.ptr (Z0e x0)),(3,dI v0)],[]⟩:= so<|sp h (fun h26 h=>go [] [rg 14 [(1,kb h26)]]<|bT rfl<|go [15] []<|jn (Zv5 h)) fun h26 h=> go [] [rg 14 [(1,kb h26)]]<|br h (fun h27 h=>go [15] []<|jn (Zv5 h)) fun h27 h=> go [] []<|rt h
theorem Zry {v0 x0 r Γ} (h:(Zb7 v0 x0)=some r):Jn prog f104 Γ (Den.Ends prog f104 (R104 r)) 639 ⟨90,[(1,.ptr (Z0e x0)),(3,dI v0)],[]⟩:= po<|pr 3 []<|sp h (fun h20 h=>bd h fun v2 e2 h=>pr 12 (gA h20 3 2 [(5,py h20),(12,k (w134 e2))])<|pe<|goN [] []<|br h (fun h21 h=>go [] []<|rt h) fun h21 h=> go [14] []<|jn (Zje h)) fun h20 h=> pr 4 (gC h20 3 2 [(5,pn h20)])<|sp h (fun h22 h=>bd h fun v3 e3 h=>pr 8 (gA h22 7 2 [(9,py h22),(12,k (w134 e3))])<|pe<|goN [] []<|br h (fun h23 h=>go [] []<|rt h) fun h23 h=> go [14] []<|jn (Zje h)) fun h22 h=> pr 4 (gC h22 7 2 [(9,pn h22)])<|sp h (fun h24 h=>bd h fun v4 e4 h=>pr 4 [(11,gw h24 g0),(12,gw h24 (k (w134 e4))),(13,gw h24 g0),(14,py h24)]<|pe<|goN [] []<|br h (fun h25 h=>go [] []<|rt h) fun h25 h=> go [14] []<|jn (Zje h)) fun h24 h=> pr 4 (gB h24 11 3 [(14,pn h24)])<|pe<|goN [] []<|bF rfl<|go [14] []<|jn (Zje h)
theorem Zr3 {v0 x0 r Γ} (h:(Z9s v0 x0)=some r):Jn prog f104 Γ (Den.Ends prog f104 (R104 r)) 319 ⟨90,[(1,.ptr (Z0e x0)),(3,dI v0)],[]⟩:= po<|pr 3 []<|sp h (fun h17 h=>pr 4 (gC h17 3 4 [])<|sp h (fun h18 h=>pr 5 (gA h18 7 3 [(10,gw h17 (py h18)),(11,py h17)])<|pe<|goN [] []<|bT rfl<|go [] []<|rt h) fun h18 h=> pr 5 (gC h18 7 3 [(10,gw h17 (pn h18)),(11,py h17)])<|pe<|goN [] []<|br h (fun h19 h=>go [] []<|rt h) fun h19 h=> go [12] []<|jn (Zry h)) fun h17 h=> pr 9 (gB h17 3 4 [(10,gs1 h17),(11,pn h17)])<|pe<|goN [] []<|bF rfl<|go [12] []<|jn (Zry h)
theorem Zhd {v0 x0 r Γ} (h:(Z92 v0 x0)=some r):Jn prog f104 Γ (Den.Ends prog f104 (R104 r)) 159 ⟨90,[(1,.ptr (Z0e x0)),(3,dI v0)],[]⟩:= po<|pr 3 []<|sp h (fun h11 h=>pr 8 (gA h11 3 2 [(5,py h11)])<|sp h (fun h12 h=>pr 5 (gA h12 11 3 [(14,py h12)])<|pe<|goN [] []<|bT rfl<|go [] []<|rt h) fun h12 h=> pr 5 (gC h12 11 3 [(14,pn h12)])<|pe<|goN [] []<|br h (fun h13 h=>go [] []<|rt h) fun h13 h=> go [10] []<|jn (Zr3 h)) fun h11 h=> pr 4 (gC h11 3 2 [(5,pn h11)])<|sp h (fun h14 h=>pr 4 (gC h14 7 4 [])<|sp h (fun h15 h=>pr 5 (gA h15 11 3 [(14,gw h14 (py h15)),(15,py h14)])<|pe<|goN [] []<|bT rfl<|go [] []<|rt h) fun h15 h=> pr 5 (gC h15 11 3 [(14,gw h14 (pn h15)),(15,py h14)])<|pe<|goN [] []<|br h (fun h16 h=>go [] []<|rt h) fun h16 h=> go [10] []<|jn (Zr3 h)) fun h14 h=> pr 9 (gB h14 7 4 [(14,gs1 h14),(15,pn h14)])<|pe<|goN [] []<|bF rfl<|go [10] []<|jn (Zr3 h)
theorem w104 {x0 r} (h:Z4q x0=some r):Z09 prog 104 [.agg (Z0e x0)] (R104 r):= cs f104<|bd h fun v0 e0 h=>go [] [rg 0 [(0,bo)],rg 1 [(2,k (w128 e0))]]<|br h (fun h0 h=>go [] []<|rt h) fun h0 h=> bd h fun v1 e1 h=>go [] [rg 4 [(2,k (w133 e1))]]<|br h (fun h1 h=>go [] []<|rt h) fun h1 h=> go [6] [] <| po<|pr 3 []<|sp h (fun h2 h=>pr 4 (gC h2 3 4 [])<|sp h (fun h3 h=>pr 19 (gA h3 7 3 [(10,gw h2 (py h3)),(11,py h2)])<|pe<|goN [] []<|bT rfl<|go [] []<|rt h) fun h3 h=> pr 6 (gC h3 7 3 [(10,gw h2 (pn h3)),(11,py h2)])<|sp h (fun h4 h=>pr 13 (gA h4 13 3 [(24,gs0 h4),(25,py h4)])<|pe<|goN [] []<|bT rfl<|go [] []<|rt h) fun h4 h=> pr 3 (gC h4 13 3 [])<|sp h (fun h5 h=>pr 4 (gC h5 16 4 [])<|sp h (fun h6 h=>pr 6 (gA h6 20 3 [(23,gw h5 (py h6)),(24,gw h4 (py h5)),(25,pn h4)])<|pe<|goN [] []<|bT rfl<|go [] []<|rt h) fun h6 h=> pr 6 (gC h6 20 3 [(23,gw h5 (pn h6)),(24,gw h4 (py h5)),(25,pn h4)])<|pe<|goN [] []<|br h (fun h7 h=>go [] []<|rt h) fun h7 h=> go [8] []<|jn (Zhd h)) fun h5 h=> pr 10 (gB h5 16 4 [(23,gs1 h5),(24,gw h4 (pn h5)),(25,pn h4)])<|pe<|goN [] []<|bF rfl<|go [8] []<|jn (Zhd h)) fun h2 h=> pr 13 (gB h2 3 4 [(10,gs1 h2),(11,pn h2)])<|sp h (fun h8 h=>pr 4 (gC h8 16 4 [])<|sp h (fun h9 h=>pr 6 (gA h9 20 3 [(23,gw h8 (py h9)),(24,py h8)])<|pe<|goN [] []<|bT rfl<|go [] []<|rt h) fun h9 h=> pr 6 (gC h9 20 3 [(23,gw h8 (pn h9)),(24,py h8)])<|pe<|goN [] []<|br h (fun h10 h=>go [] []<|rt h) fun h10 h=> go [8] []<|jn (Zhd h)) fun h8 h=> pr 10 (gB h8 16 4 [(23,gs1 h8),(24,pn h8)])<|pe<|goN [] []<|bF rfl<|go [8] []<|jn (Zhd h)
end Go.Proofs
