/-
  Models of functions of the program, and that the functions compute them. Printed by den3.py. No condition.
-/
import Derived.Test.YtiogflechpgdiaaGreatRows
import Derived.Test.YtiogflechpgdiaaGreatDenOwn
set_option linter.unusedVariables false
namespace Go.Proofs
open Tryz
open Go.Den Go.Den.W
structure Z2a where
 a0:Int
 a1:Int
def Z2q (x:Z2a):List D:=[.int .i64 x.a0,.int .i64 x.a1]
instance:Row Z2a:=⟨Z2q,2,fun _=>rfl⟩
structure Z0d where
 Z15:Int
 f_N:Int
def Z1p (x:Z0d):List D:=[.int .i64 x.Z15,.int .i64 x.f_N]
instance:Row Z0d:=⟨Z1p,2,fun _=>rfl⟩
structure Z1b where
 Z0u:Int
 Z4q:Int
 f_PC:Int
 Z0g:List Z0d
 Z0e:List Z0d
 Z6i:Int
 Z60:Bool
 Z6p:Bool
def Z3i (x:Z1b):List D:=[.int .i64 x.Z0u,.int .i64 x.Z4q,.int .i64 x.f_PC,.sl false (x.Z0g.map Z1p),.sl false (x.Z0e.map Z1p),.int .i64 x.Z6i,.bool x.Z60,.bool x.Z6p]
instance:Row Z1b:=⟨Z3i,8,fun _=>rfl⟩
structure Z1h where
 Y2e:Int
 Z32:List UInt8
def Z1w (x:Z1h):List D:=[.int .i64 x.Y2e,.str x.Z32]
instance:Row Z1h:=⟨Z1w,2,fun _=>rfl⟩
structure Z5m where
 Z0s:Int
 Z0f:List UInt8
 Z2d:List UInt8
 Z68:Int
 f_N:Int
 f_S:List UInt8
def Z89 (x:Z5m):List D:=[.int .i64 x.Z0s,.str x.Z0f,.str x.Z2d,.int .i64 x.Z68,.int .i64 x.f_N,.str x.f_S]
instance:Row Z5m:=⟨Z89,6,fun _=>rfl⟩
structure Z1t where
 Z0u:List UInt8
 Z0f:List UInt8
 Z2d:List UInt8
def Zk8 (x:Z1t):List D:=[.str x.Z0u,.str x.Z0f,.str x.Z2d]
instance:Row Z1t:=⟨Zk8,3,fun _=>rfl⟩
structure Z01 where
 f_Op:Int
 f_A:Int
 f_B:Int
 f_To:Int
 Z0z:List Int
 Z0c:List Int
 Z1k:Z1t
 f_S:List UInt8
def Z0h (x:Z01):List D:=[.int .i64 x.f_Op,.int .i64 x.f_A,.int .i64 x.f_B,.int .i64 x.f_To,.sl false (x.Z0z.map Z03),.sl false (x.Z0c.map Z03),.str x.Z1k.Z0u,.str x.Z1k.Z0f,.str x.Z1k.Z2d,.str x.f_S]
instance:Row Z01:=⟨Z0h,10,fun _=>rfl⟩
structure Z0p where
 Z6s:Int
 f_To:Int
 Z6m:Int
 Z0u:Int
 Z19:List UInt8
def Z10 (x:Z0p):List D:=[.int .i64 x.Z6s,.int .i64 x.f_To,.int .i64 x.Z6m,.int .i64 x.Z0u,.str x.Z19]
instance:Row Z0p:=⟨Z10,5,fun _=>rfl⟩
structure Z0i where
 Z0v:Int
 Z12:Int
 Z0f:List UInt8
def Z20 (x:Z0i):List D:=[.int .i64 x.Z0v,.int .u8 x.Z12,.str x.Z0f]
instance:Row Z0i:=⟨Z20,3,fun _=>rfl⟩
structure Z0l where
 Z15:Int
 Z42:Int
 Z19:Z0i
 Z4o:Int
def Z1r (x:Z0l):List D:=[.int .i64 x.Z15,.int .i64 x.Z42,.int .i64 x.Z19.Z0v,.int .u8 x.Z19.Z12,.str x.Z19.Z0f,.int .i64 x.Z4o]
instance:Row Z0l:=⟨Z1r,6,fun _=>rfl⟩
structure Z66 where
 Z0g:List Z0l
 Z0e:List Z0l
 Z7c:Bool
def Y13 (x:Z66):List D:=[.sl false (x.Z0g.map Z1r),.sl false (x.Z0e.map Z1r),.bool x.Z7c]
instance:Row Z66:=⟨Y13,3,fun _=>rfl⟩
structure Z0q where
 Z2m:Int
 Z1s:Z66
def Z14 (x:Z0q):List D:=[.int .i64 x.Z2m,.sl false (x.Z1s.Z0g.map Z1r),.sl false (x.Z1s.Z0e.map Z1r),.bool x.Z1s.Z7c]
instance:Row Z0q:=⟨Z14,4,fun _=>rfl⟩
structure Z17 where
 Z2m:Int
 Z87:Int
def Z1g (x:Z17):List D:=[.int .i64 x.Z2m,.int .i64 x.Z87]
instance:Row Z17:=⟨Z1g,2,fun _=>rfl⟩
structure Z0a where
 Z0e:Int
 Z0g:Int
 Z0r:List Z01
 Z2f:List Z0p
 Z1q:List Z0q
 Z25:List Z17
def Z13 (x:Z0a):List D:=[.int .i64 x.Z0e,.int .i64 x.Z0g,.sl false (x.Z0r.map Z0h),.sl false (x.Z2f.map Z10),.sl false (x.Z1q.map Z14),.sl false (x.Z25.map Z1g)]
instance:Row Z0a:=⟨Z13,6,fun _=>rfl⟩
structure Z1o where
 Z0s:Int
 Z0f:List UInt8
 Z2d:List UInt8
 Z40:Bool
 Z1f:Z0a
 Z7o:List (List UInt8)
def Z4v (x:Z1o):List D:=[.int .i64 x.Z0s,.str x.Z0f,.str x.Z2d,.bool x.Z40,.int .i64 x.Z1f.Z0e,.int .i64 x.Z1f.Z0g,.sl false (x.Z1f.Z0r.map Z0h),.sl false (x.Z1f.Z2f.map Z10),.sl false (x.Z1f.Z1q.map Z14),.sl false (x.Z1f.Z25.map Z1g),.sl false (x.Z7o.map Z2x)]
instance:Row Z1o:=⟨Z4v,11,fun _=>rfl⟩
structure Z0t where
 Z0s:Int
 Z0f:List UInt8
 Z21:List UInt8
 Z1l:List (List UInt8)
 Z1d:List Z5m
 Z0m:List Z1o
 Z9q:List UInt8
def Z2y (x:Z0t):List D:=[.int .i64 x.Z0s,.str x.Z0f,.str x.Z21,.sl false (x.Z1l.map Z2x),.sl false (x.Z1d.map Z89),.sl false (x.Z0m.map Z4v),.str x.Z9q]
instance:Row Z0t:=⟨Z2y,7,fun _=>rfl⟩
structure Z26 where
 Z38:Int
 Z1j:Z0t
 Z21:Int
 Z1l:List Int
 Zdi:Int
 Zix:Int
def Z36 (x:Z26):List D:=[.int .i64 x.Z38,.int .i64 x.Z1j.Z0s,.str x.Z1j.Z0f,.str x.Z1j.Z21,.sl false (x.Z1j.Z1l.map Z2x),.sl false (x.Z1j.Z1d.map Z89),.sl false (x.Z1j.Z0m.map Z4v),.str x.Z1j.Z9q,.int .i64 x.Z21,.sl false (x.Z1l.map Z03),.int .i64 x.Zdi,.int .i64 x.Zix]
instance:Row Z26:=⟨Z36,12,fun _=>rfl⟩
structure Za6 where
 Zm9:List UInt8
 f_To:Int
def Zeq (x:Za6):List D:=[.str x.Zm9,.int .i64 x.f_To]
instance:Row Za6:=⟨Zeq,2,fun _=>rfl⟩
structure Zaq where
 Z0f:List UInt8
 Z32:List UInt8
def Zh0 (x:Zaq):List D:=[.str x.Z0f,.str x.Z32]
instance:Row Zaq:=⟨Zh0,2,fun _=>rfl⟩
structure Z1m where
 Z6e:List Za6
 Z4b:List Zaq
def Z2n (x:Z1m):List D:=[.sl false (x.Z6e.map Zeq),.sl false (x.Z4b.map Zh0)]
instance:Row Z1m:=⟨Z2n,2,fun _=>rfl⟩
structure Z31 where
 Z38:Int
 Z0f:List UInt8
 Z0u:Int
def Z3g (x:Z31):List D:=[.int .i64 x.Z38,.str x.Z0f,.int .i64 x.Z0u]
instance:Row Z31:=⟨Z3g,3,fun _=>rfl⟩
structure Z46 where
 Z0f:List UInt8
 f_A:Int
 f_B:Int
def Z3r (x:Z46):List D:=[.str x.Z0f,.int .i64 x.f_A,.int .i64 x.f_B]
instance:Row Z46:=⟨Z3r,3,fun _=>rfl⟩
structure Z0w where
 Z23:List Z1m
 Z0x:List Z26
 Z2t:List Z31
 Z3p:List Z46
def Z2g (x:Z0w):List D:=[.sl false (x.Z23.map Z2n),.sl false (x.Z0x.map Z36),.sl false (x.Z2t.map Z3g),.sl false (x.Z3p.map Z3r)]
instance:Row Z0w:=⟨Z2g,4,fun _=>rfl⟩
structure Z00 where
 Z2b:Int
 f_S:List UInt8
 f_N:Int
 f_A:Int
 f_B:Int
def Z09 (x:Z00):List D:=[.int .i64 x.Z2b,.str x.f_S,.int .i64 x.f_N,.int .i64 x.f_A,.int .i64 x.f_B]
instance:Row Z00:=⟨Z09,5,fun _=>rfl⟩
structure Z2z where
 Z0u:Int
 Z2m:Int
def Z86 (x:Z2z):List D:=[.int .i64 x.Z0u,.int .i64 x.Z2m]
instance:Row Z2z:=⟨Z86,2,fun _=>rfl⟩
structure Z0j where
 Z0s:Int
 Z0f:Int
 Z2d:Int
 Z1x:List Z1h
def Z0o (x:Z0j):List D:=[.int .i64 x.Z0s,.int .i64 x.Z0f,.int .i64 x.Z2d,.sl false (x.Z1x.map Z1w)]
instance:Row Z0j:=⟨Z0o,4,fun _=>rfl⟩
structure Z18 where
 Z2i:List Z00
 Z0s:Int
 Z4c:Int
 Z21:Int
 Z1l:List Int
 Z1d:List Z0j
 Z0m:List Z0j
 Z1x:List Z1h
def Z2r (x:Z18):List D:=[.sl false (x.Z2i.map Z09),.int .i64 x.Z0s,.int .i64 x.Z4c,.int .i64 x.Z21,.sl false (x.Z1l.map Z03),.sl false (x.Z1d.map Z0o),.sl false (x.Z0m.map Z0o),.sl false (x.Z1x.map Z1w)]
instance:Row Z18:=⟨Z2r,8,fun _=>rfl⟩
structure Z4y where
 Z2l:Int
 Ze8:Int
 Zbv:List Z0d
def Z4m (x:Z4y):List D:=[.int .i64 x.Z2l,.int .i64 x.Ze8,.sl false (x.Zbv.map Z1p)]
instance:Row Z4y:=⟨Z4m,3,fun _=>rfl⟩
structure Z53 where
 Z49:List UInt8
 Z3s:Int
def Z52 (x:Z53):List D:=[.str x.Z49,.int .i64 x.Z3s]
instance:Row Z53:=⟨Z52,2,fun _=>rfl⟩
structure Z37 where
 Z0v:Int
 Z12:Int
 Z0u:Int
def Z7v (x:Z37):List D:=[.int .i64 x.Z0v,.int .u8 x.Z12,.int .i64 x.Z0u]
instance:Row Z37:=⟨Z7v,3,fun _=>rfl⟩
structure Z2j where
 Z15:Int
 Z19:Z37
 Z55:List Z0d
 Z49:List UInt8
 Z8j:Int
 Z3b:Int
 Z5t:List Int
def Z35 (x:Z2j):List D:=[.int .i64 x.Z15,.int .i64 x.Z19.Z0v,.int .u8 x.Z19.Z12,.int .i64 x.Z19.Z0u,.sl false (x.Z55.map Z1p),.str x.Z49,.int .i64 x.Z8j,.int .i64 x.Z3b,.sl false (x.Z5t.map Z03)]
instance:Row Z2j:=⟨Z35,9,fun _=>rfl⟩
structure Z1n where
 Z2l:Int
 Z4r:Int
 Z3b:Int
 Z1v:List Z1b
 Z3s:Int
 Z5s:Int
 Z3e:Z0d
def Z2v (x:Z1n):List D:=[.int .i64 x.Z2l,.int .i64 x.Z4r,.int .i64 x.Z3b,.sl false (x.Z1v.map Z3i),.int .i64 x.Z3s,.int .i64 x.Z5s,.int .i64 x.Z3e.Z15,.int .i64 x.Z3e.f_N]
instance:Row Z1n:=⟨Z2v,8,fun _=>rfl⟩
structure Z0b where
 Z1e:Z0w
 Z5v:Int
 Z1y:List Z2j
 Z3v:List Z4y
 Z44:List Z53
 Z11:List Z1n
 Z74:List (List UInt8)
def Z1i (x:Z0b):List D:=[.sl false (x.Z1e.Z23.map Z2n),.sl false (x.Z1e.Z0x.map Z36),.sl false (x.Z1e.Z2t.map Z3g),.sl false (x.Z1e.Z3p.map Z3r),.int .i64 x.Z5v,.sl false (x.Z1y.map Z35),.sl false (x.Z3v.map Z4m),.sl false (x.Z44.map Z52),.sl false (x.Z11.map Z2v),.sl false (x.Z74.map Z2x)]
instance:Row Z0b:=⟨Z1i,10,fun _=>rfl⟩
structure Zdu where
 Z0u:Int
 Z2m:Int
def Y1u (x:Zdu):List D:=[.int .i64 x.Z0u,.int .i64 x.Z2m]
instance:Row Zdu:=⟨Y1u,2,fun _=>rfl⟩
structure Z24 where
 Z3z:List Z0i
 Z3e:Z0i
def Zef (x:Z24):List D:=[.sl false (x.Z3z.map Z20),.int .i64 x.Z3e.Z0v,.int .u8 x.Z3e.Z12,.str x.Z3e.Z0f]
instance:Row Z24:=⟨Zef,4,fun _=>rfl⟩
structure Z1a where
 f_S:List UInt8
 f_At:Int
 Z4k:Bool
def Za7 (x:Z1a):List D:=[.str x.f_S,.int .i64 x.f_At,.bool x.Z4k]
instance:Row Z1a:=⟨Za7,3,fun _=>rfl⟩
structure Z41 where
 f_C:Z0a
 Z32:List UInt8
 Zpq:List Int
def Z83 (x:Z41):List D:=[.int .i64 x.f_C.Z0e,.int .i64 x.f_C.Z0g,.sl false (x.f_C.Z0r.map Z0h),.sl false (x.f_C.Z2f.map Z10),.sl false (x.f_C.Z1q.map Z14),.sl false (x.f_C.Z25.map Z1g),.str x.Z32,.sl false (x.Zpq.map Z03)]
instance:Row Z41:=⟨Z83,8,fun _=>rfl⟩
structure Z2p where
 f_F:Z18
 Z8q:List Z0a
 Zcp:List (List Int)
 Z9x:List Z2a
def Z9d (x:Z2p):List D:=[.sl false (x.f_F.Z2i.map Z09),.int .i64 x.f_F.Z0s,.int .i64 x.f_F.Z4c,.int .i64 x.f_F.Z21,.sl false (x.f_F.Z1l.map Z03),.sl false (x.f_F.Z1d.map Z0o),.sl false (x.f_F.Z0m.map Z0o),.sl false (x.f_F.Z1x.map Z1w),.sl false (x.Z8q.map Z13),.sl false (x.Zcp.map (rSl Z03)),.sl false (x.Z9x.map Z2q)]
instance:Row Z2p:=⟨Z9d,11,fun _=>rfl⟩
structure Z0n where
 f_P:List Z00
 f_E:Int
def Z3x (x:Z0n):List D:=[.sl false (x.f_P.map Z09),.int .i64 x.f_E]
instance:Row Z0n:=⟨Z3x,2,fun _=>rfl⟩
def Z3d (x y:Z0d):Bool:=((x.Z15==y.Z15)&&((x.f_N==y.f_N)&&true))
def eqq_56 : Prop := prog.stoodInHeld 56 = false ∧ ("Kind" ≠ "_" ∧ True ∧ ("N" ≠ "_" ∧ True ∧ True))
theorem Z4h:eqq_56:=⟨by kernel_rfl,⟨by decide,trivial,⟨by decide,trivial,trivial⟩⟩⟩
theorem Z4a:prog.eqGuardType prog.depth 56=false:=by kernel_rfl
def Zpe (x y:Z1t):Bool:=((x.Z0u==y.Z0u)&&((x.Z0f==y.Z0f)&&((x.Z2d==y.Z2d)&&true)))
def eqq_61 : Prop := prog.stoodInHeld 61 = false ∧ ("Class" ≠ "_" ∧ True ∧ ("Name" ≠ "_" ∧ True ∧ ("Desc" ≠ "_" ∧ True ∧ True)))
theorem Zy0:eqq_61:=⟨by kernel_rfl,⟨by decide,trivial,⟨by decide,trivial,⟨by decide,trivial,trivial⟩⟩⟩⟩
theorem Y0x:prog.eqGuardType prog.depth 61=false:=by kernel_rfl
def Znq (x y:Z37):Bool:=((x.Z0v==y.Z0v)&&((x.Z12==y.Z12)&&((x.Z0u==y.Z0u)&&true)))
def eqq_79 : Prop := prog.stoodInHeld 79 = false ∧ ("Dim" ≠ "_" ∧ True ∧ ("Base" ≠ "_" ∧ True ∧ ("Class" ≠ "_" ∧ True ∧ True)))
theorem Zxd:eqq_79:=⟨by kernel_rfl,⟨by decide,trivial,⟨by decide,trivial,⟨by decide,trivial,trivial⟩⟩⟩⟩
theorem Y36:prog.eqGuardType prog.depth 79=false:=by kernel_rfl
def Zv3 (x y:Z0i):Bool:=((x.Z0v==y.Z0v)&&((x.Z12==y.Z12)&&((x.Z0f==y.Z0f)&&true)))
def eqq_141 : Prop := prog.stoodInHeld 141 = false ∧ ("Dim" ≠ "_" ∧ True ∧ ("Base" ≠ "_" ∧ True ∧ ("Name" ≠ "_" ∧ True ∧ True)))
theorem eqp_141:eqq_141:=⟨by kernel_rfl,⟨by decide,trivial,⟨by decide,trivial,⟨by decide,trivial,trivial⟩⟩⟩⟩
theorem eqg_141:prog.eqGuardType prog.depth 141=false:=by kernel_rfl
def Zq4 (x y:Z00):Bool:=((x.Z2b==y.Z2b)&&((x.f_S==y.f_S)&&((x.f_N==y.f_N)&&((x.f_A==y.f_A)&&((x.f_B==y.f_B)&&true)))))
def eqq_242 : Prop := prog.stoodInHeld 242 = false ∧ ("Tag" ≠ "_" ∧ True ∧ ("S" ≠ "_" ∧ True ∧ ("N" ≠ "_" ∧ True ∧ ("A" ≠ "_" ∧ True ∧ ("B" ≠ "_" ∧ True ∧ True)))))
theorem eqp_242:eqq_242:=⟨by kernel_rfl,⟨by decide,trivial,⟨by decide,trivial,⟨by decide,trivial,⟨by decide,trivial,⟨by decide,trivial,trivial⟩⟩⟩⟩⟩⟩
theorem eqg_242:prog.eqGuardType prog.depth 242=false:=by kernel_rfl
def R8 (y0:Bool):D:= .bool y0
def Zkn (x0:Z0b):Option (Bool):= if (decide ((x0.Z1e.Z0x.length:Int)≤40)) then (if (decide ((x0.Z1y.length:Int)≤60)) then (if (decide ((x0.Z11.length:Int)≤10)) then (if (decide ((x0.Z3v.length:Int)≤60)) then (some (decide ((x0.Z44.length:Int)≤60))) else (some false)) else (some false)) else (some false)) else (some false)
theorem w8 {x0 r} (h:Zkn x0=some r):Z08 prog 8 [.agg (Z1i x0)] (R8 r):= cs f8<|go [1] [rg 0 [(0,bo)]]<|po<|pr 6 [(3,ln x0.Z1e.Z0x)]<|sp h (fun h0 h=>pr 6 (gC h0 6 2 [(8,gw h0 (ln x0.Z1y)),(9,gw h0 g0),(10,py h0)])<|sp h (fun h1 h=>pr 6 (gC h1 12 2 [(14,gw h1 (ln x0.Z11)),(15,gw h1 g0),(16,py h1)])<|sp h (fun h2 h=>pr 6 (gC h2 18 2 [(20,gw h2 (ln x0.Z3v)),(21,gw h2 g0),(22,py h2)])<|sp h (fun h3 h=>pr 6 (gC h3 24 2 [(26,gw h3 (ln x0.Z44)),(27,gw h3 g0),(28,py h3)])<|pe<|goN [] []<|rt h) fun h3 h=> pr 6 (gB h3 24 4 [(28,pn h3)])<|pe<|goN [] []<|rt h) fun h2 h=> pr 12 (gB h2 18 4 [(22,pn h2)])<|pe<|goN [] []<|rt h) fun h1 h=> pr 18 (gB h1 12 4 [(16,pn h1)])<|pe<|goN [] []<|rt h) fun h0 h=> pr 24 (gB h0 6 4 [(10,pn h0)])<|pe<|goN [] []<|rt h
def R108 (y0:Bool):D:= .bool y0
def Zcs (x0:Int):Option (Bool):= if (decide (x0≥97)) then (if (decide (x0≤122)) then (some true) else (if (decide (x0≥65)) then (if (decide (x0≤90)) then (some true) else (if (x0==95) then (some true) else (some (x0==36)))) else (if (x0==95) then (some true) else (some (x0==36))))) else (if (decide (x0≥65)) then (if (decide (x0≤90)) then (some true) else (if (x0==95) then (some true) else (some (x0==36)))) else (if (x0==95) then (some true) else (some (x0==36))))
theorem w108 {x0 r} (h:Zcs x0=some r):Z08 prog 108 [d8 x0] (R108 r):= cs f108<|go [1] []<|po<|pr 3 []<|sp h (fun h0 h=>pr 4 (gC h0 3 2 [(5,py h0)])<|sp h (fun h1 h=>pr 16 (gA h1 7 3 [(12,gs0 h1),(13,py h1)])<|pe<|goN [] []<|rt h) fun h1 h=> pr 3 (gC h1 7 3 [])<|sp h (fun h2 h=>pr 5 (gC h2 10 2 [(12,gw h1 (py h2)),(13,pn h1)])<|sp h (fun h3 h=>pr 8 (gA h3 15 2 [(17,py h3)])<|pe<|goN [] []<|rt h) fun h3 h=> pr 4 (gC h3 15 2 [(17,pn h3)])<|sp h (fun h4 h=>pr 4 (gA h4 19 2 [(21,py h4)])<|pe<|goN [] []<|rt h) fun h4 h=> pr 4 (gC h4 19 2 [(21,pn h4)])<|pe<|goN [] []<|rt h) fun h2 h=> pr 9 (gB h2 10 2 [(12,gw h1 (pn h2)),(13,pn h1)])<|sp h (fun h5 h=>pr 4 (gA h5 19 2 [(21,py h5)])<|pe<|goN [] []<|rt h) fun h5 h=> pr 4 (gC h5 19 2 [(21,pn h5)])<|pe<|goN [] []<|rt h) fun h0 h=> pr 7 (gB h0 3 2 [(5,pn h0)])<|sp h (fun h6 h=>pr 5 (gC h6 10 2 [(12,py h6)])<|sp h (fun h7 h=>pr 8 (gA h7 15 2 [(17,py h7)])<|pe<|goN [] []<|rt h) fun h7 h=> pr 4 (gC h7 15 2 [(17,pn h7)])<|sp h (fun h8 h=>pr 4 (gA h8 19 2 [(21,py h8)])<|pe<|goN [] []<|rt h) fun h8 h=> pr 4 (gC h8 19 2 [(21,pn h8)])<|pe<|goN [] []<|rt h) fun h6 h=> pr 9 (gB h6 10 2 [(12,pn h6)])<|sp h (fun h9 h=>pr 4 (gA h9 19 2 [(21,py h9)])<|pe<|goN [] []<|rt h) fun h9 h=> pr 4 (gC h9 19 2 [(21,pn h9)])<|pe<|goN [] []<|rt h
def R87 (y0:Bool):D:= .bool y0
def Zcr (x0 : List UInt8) (t0:Int):Option (Ctl (Int) (Unit⊕Bool)):= if (decide (t0<(x0.length:Int))) then ((Z2s x0 t0).bind fun v2=> (Zcs v2).bind fun v3=> if (!v3) then (if (t0==0) then (some (.done (.inr false))) else ((Z2s x0 t0).bind fun v4=> if (decide (v4<48)) then (some (.done (.inr false))) else ((Z2s x0 t0).bind fun v5=> if (decide (v5>57)) then (some (.done (.inr false))) else ((some (IntKind.wrap .i64 (t0+1))).bind fun v6=> some (.next v6))))) else ((some (IntKind.wrap .i64 (t0+1))).bind fun v7=> some (.next v7))) else (some (.done (.inl (()))))
def Zaj (x0:List UInt8):Option (Bool):= (Z06 (Zcr x0) Z07 0).bind fun q1=> match q1 with | .inl q0=>(some (decide ((x0.length:Int)>0))) | .inr y0=>(some y0)
def Y0z (x0:List UInt8):Int→SL:= fun t0=>⟨34,[(0,.str x0),(3,dI t0)],[]⟩
def J87x1 (x0:List UInt8):JT (Unit⊕Bool):= ju (je 0 fun q0:Unit=>⟨34,[(0,.str x0)],[]⟩) (jr prog f87 R87)
theorem wl87x1 {x0 t0 r Γ} (h:(Zcr x0) t0=some r):A prog Γ (lpC f87 21) [] (Rd (Y0z x0) (J87x1 x0) r) ((Y0z x0) t0).s:= go [] []<|br h (fun h2 h=>go [4] []<|po<|bd h fun v2 e2 h=>bd h fun v3 e3 h=>pr 6 [(2,ib e2),(3,k (w108 e3))]<|sp h (fun h3 h=>pr 3 (gC h3 6 3 [])<|sp h (fun h4 h=>pr 12 (gA h4 9 4 [(13,gw h3 (py h4)),(14,gw h3 g0),(19,gw h3 g0),(20,py h3)])<|pe<|goN [] []<|bT rfl<|go [] []<|dn h (i2 iR)) fun h4 h=> bd h fun v4 e4 h=>pr 6 (gC h4 9 2 [(11,gw h4 (ib e4)),(12,gw h4 g0),(13,gw h3 (pn h4)),(14,gw h3 g0)])<|sp h (fun h5 h=>pr 6 (gA h5 15 4 [(19,gw h3 (py h5)),(20,py h3)])<|pe<|goN [] []<|bT rfl<|go [] []<|dn h (i2 iR)) fun h5 h=> bd h fun v5 e5 h=>pr 6 (gC h5 15 2 [(17,gw h5 (ib e5)),(18,gw h5 g0),(19,gw h3 (pn h5)),(20,py h3)])<|pe<|goN [] []<|br h (fun h6 h=>go [] []<|dn h (i2 iR)) fun h6 h=> bd h fun v6 e6 h=>go [] [rg 3 [(1,n e6)]]<|nx h) fun h3 h=> pr 15 (gB h3 6 3 (gB h3 13 2 [(19,gs1 h3),(20,pn h3)]))<|pe<|goN [] []<|bF rfl<|bd h fun v7 e7 h=>go [] [rg 3 [(1,n e7)]]<|nx h) fun h2 h=> go [] []<|dn h (i1 iE)
theorem w87 {x0 r} (h:Zaj x0=some r):Z08 prog 87 [.str x0] (R87 r):= cs f87<|go [] []<|bd h fun q1 e8 h=>lp e8 wl87x1<|match q1,h with | .inl q0,h=>j1<|(qe<|goN [] []<|rt h) | .inr y0,h=>j2<|(qr h)
def R58 (y0:Bool):D:= .bool y0
def Zec (x0:List UInt8) (t0:Int×Int):Option (Ctl (Int×Int) (Int⊕Bool)):= if (decide (t0.2<(x0.length:Int))) then ((Z2s x0 t0.2).bind fun v3=> if (v3==47) then ((sub x0 t0.1 t0.2).bind fun v4=> (Zaj v4).bind fun v5=> if (!v5) then (some (.done (.inr false))) else ((some (IntKind.wrap .i64 (t0.2+1))).bind fun v6=> (some (IntKind.wrap .i64 (t0.2+1))).bind fun v7=> some (.next (v6,v7)))) else ((some (IntKind.wrap .i64 (t0.2+1))).bind fun v8=> some (.next (t0.1,v8)))) else (some (.done (.inl (t0.1))))
def Z8x (x0:List UInt8):Option (Bool):= if (decide ((x0.length:Int)>64)) then (some false) else ((Z06 (Zec x0) Z07 (0,0)).bind fun q1=> match q1 with | .inl q0=>((sub x0 q0 (x0.length:Int)).bind fun v9=> (Zaj v9).bind fun v10=> some v10) | .inr y0=>(some y0))
def Zw9 (x0:List UInt8):(Int×Int)→SL:= fun t0=>⟨30,[(0,.str x0),(3,dI t0.1),(4,dI t0.2)],[]⟩
def J58x1 (x0:List UInt8):JT (Int⊕Bool):= ju (je 0 fun q0:Int=>⟨30,[(0,.str x0),(3,dI q0)],[]⟩) (jr prog f58 R58)
theorem wl58x1 {x0 t0 r Γ} (h:(Zec x0) t0=some r):A prog Γ (lpC f58 87) [] (Rd (Zw9 x0) (J58x1 x0) r) ((Zw9 x0) t0).s:= go [] []<|br h (fun h4 h=>bd h fun v3 e3 h=>go [] [rg 7 [(2,ib e3)]]<|br h (fun h5 h=>bd h fun v4 e4 h=>bd h fun v5 e5 h=>go [] [rg 8 [(3,ss e4),(4,k (w87 e5))]]<|br h (fun h6 h=>go [] []<|dn h (i2 iR)) fun h6 h=> bd h fun v6 e6 h=>bd h fun v7 e7 h=>go [] [rg 10 [(1,n e6)],rg 6 [(1,n e7)]]<|nx h) fun h5 h=> bd h fun v8 e8 h=>go [] [rg 6 [(1,n e8)]]<|nx h) fun h4 h=> go [] []<|dn h (i1 iE)
theorem w58 {x0 r} (h:Z8x x0=some r):Z08 prog 58 [.str x0] (R58 r):= cs f58<|go [] []<|br h (fun h0 h=>go [] []<|rt h) fun h0 h=> go [] []<|bd h fun q1 e9 h=>lp e9 wl58x1<|match q1,h with | .inl q0,h=>j1<|(qe<|bd h fun v9 e10 h=>bd h fun v10 e11 h=>goN [] [rg 11 [(2,ss e10),(3,k (w87 e11))]]<|rt h) | .inr y0,h=>j2<|(qr h)
def R90 (y0:Bool):D:= .bool y0
def Z9w (x0 x1:List UInt8):Option (Bool):= if (decide ((x1.length:Int)≤(x0.length:Int))) then ((sub x0 0 (x1.length:Int)).bind fun v0=> some (v0==x1)) else (some false)
theorem w90 {x0 x1 r} (h:Z9w x0 x1=some r):Z08 prog 90 [.str x0,.str x1] (R90 r):= cs f90<|sp h (fun h0 h=>bd h fun v0 e0 h=>go [] [rg 1 [(4,kb h0),(9,ss e0)]]<|rt h) fun h0 h=> go [] [rg 1 [(4,kb h0)]]<|rt h
def R85 (y0:Int):D:= .int .i64 y0
def Zjs (x0:Z1m) (x1 t0:Int):Option (Ctl (Int) (Unit⊕Int)):= if (decide (t0<(x0.Z4b.length:Int))) then ((Z02 x0.Z4b t0).bind fun v3=> (Z8x v3.Z0f).bind fun v4=> if (!v4) then (some (.done (.inr 12))) else (if (decide (x1>0)) then ((Z9w v3.Z0f [108,97,110,103,47]).bind fun v5=> if v5 then (some (.done (.inr 12))) else ((some (IntKind.wrap .i64 (t0+1))).bind fun v6=> some (.next v6))) else ((some (IntKind.wrap .i64 (t0+1))).bind fun v7=> some (.next v7)))) else (some (.done (.inl (()))))
def Zmx (x0:Z1m) (x1:Int):Option (Int):= (Z06 (Zjs x0 x1) Z07 0).bind fun q1=> match q1 with | .inl q0=>(some 0) | .inr y0=>(some y0)
def Y39 (x0:Z1m) (x1:Int):Int→SL:= fun t0=>⟨31,[(1,dI x1),(2,.ptr (Z2n x0)),(5,dI t0)],[]⟩
def J85x1:JT (Unit⊕Int):= ju (je 0 fun q0:Unit=>⟨31,[],[]⟩) (jr prog f85 R85)
theorem wl85x1 {x0 x1 t0 r Γ} (h:(Zjs x0 x1) t0=some r):A prog Γ (lpC f85 21) [] (Rd (Y39 x0 x1) J85x1 r) ((Y39 x0 x1) t0).s:= go [] [rg 2 [(3,ln x0.Z4b)]]<|br h (fun h4 h=>bd h fun v3 e3 h=>go [5] [rg 4 [(3,ix e3)]]<|po<|bd h fun v4 e4 h=>pr 4 [(1,k (w58 e4))]<|sp h (fun h5 h=>pr 7 (gA h5 4 3 [(9,gs0 h5),(10,py h5)])<|pe<|goN [] []<|bT rfl<|go [] []<|dn h (i2 iR)) fun h5 h=> pr 3 (gC h5 4 3 [])<|sp h (fun h6 h=>bd h fun v5 e5 h=>pr 4 [(7,gw h6 g0),(8,gw h6 (k (w90 e5))),(9,gw h5 (py h6)),(10,pn h5)]<|pe<|goN [] []<|br h (fun h7 h=>go [] []<|dn h (i2 iR)) fun h7 h=> bd h fun v6 e6 h=>go [] [rg 3 [(1,n e6)]]<|nx h) fun h6 h=> pr 4 (gB h6 7 2 [(9,gw h5 (pn h6)),(10,pn h5)])<|pe<|goN [] []<|bF rfl<|bd h fun v7 e7 h=>go [] [rg 3 [(1,n e7)]]<|nx h) fun h4 h=> go [] []<|dn h (i1 iE)
theorem w85 {x0 x1 r} (h:Zmx x0 x1=some r):Z08 prog 85 [.agg (Z2n x0),dI x1] (R85 r):= cs f85<|go [] [rg 0 [(0,bo)]]<|bd h fun q1 e8 h=>lp e8 wl85x1<|match q1,h with | .inl q0,h=>j1<|(qe<|goN [] []<|rt h) | .inr y0,h=>j2<|(qr h)
def R86 (y0:Bool):D:= .bool y0
def Zlw (t0:Int) (x0:Z1m) (t2:Int):Option (Ctl (Int) (Unit⊕Bool)):= if (decide (t2<t0)) then ((Z02 x0.Z4b t0).bind fun v2=> (Z02 x0.Z4b t2).bind fun v3=> if (v2.Z0f==v3.Z0f) then (some (.done (.inr true))) else ((some (IntKind.wrap .i64 (t2+1))).bind fun v4=> some (.next v4))) else (some (.done (.inl (()))))
def Zmo (x0:Z1m) (t0:Int):Option (Ctl (Int) (Unit⊕Bool)):= if (decide (t0<(x0.Z4b.length:Int))) then ((Z06 (Zlw t0 x0) Z07 0).bind fun q3=> match q3 with | .inl q2=>((some (IntKind.wrap .i64 (t0+1))).bind fun v5=> some (.next v5)) | .inr y1=>(some (.done (.inr y1)))) else (some (.done (.inl (()))))
def Zlr (x0:Z1m):Option (Bool):= (Z06 (Zmo x0) Z07 0).bind fun q5=> match q5 with | .inl q4=>(some false) | .inr y2=>(some y2)
def Y2g (t0:Int) (x0:Z1m):Int→SL:= fun t2=>⟨30,[(1,.ptr (Z2n x0)),(3,dI t0),(4,dI t2)],[]⟩
def J86x2 (t0:Int) (x0:Z1m):JT (Unit⊕Bool):= ju (je 2 fun q2:Unit=>⟨30,[(1,.ptr (Z2n x0)),(3,dI t0)],[]⟩) (jr prog f86 R86)
theorem wl86x2 {t0 x0 t2 r Γ} (h:(Zlw t0 x0) t2=some r):A prog Γ (lpC f86 1317) [] (Rd (Y2g t0 x0) (J86x2 t0 x0) r) ((Y2g t0 x0) t2).s:= go [] []<|br h (fun h4 h=>bd h fun v2 e3 h=>bd h fun v3 e4 h=>go [] [rg 7 [(3,ix e3),(9,ix e4)]]<|br h (fun h5 h=>go [] []<|dn h (i2 iR)) fun h5 h=> bd h fun v4 e5 h=>go [] [rg 6 [(1,n e5)]]<|nx h) fun h4 h=> go [] []<|dn h (i1 iE)
def Zw0 (x0:Z1m):Int→SL:= fun t0=>⟨30,[(1,.ptr (Z2n x0)),(3,dI t0)],[]⟩
def J86x1:JT (Unit⊕Bool):= ju (je 0 fun q4:Unit=>⟨30,[],[]⟩) (jr prog f86 R86)
theorem wl86x1 {x0 t0 r Γ} (h:(Zmo x0) t0=some r):A prog Γ (lpC f86 21) [] (Rd (Zw0 x0) J86x1 r) ((Zw0 x0) t0).s:= go [] [rg 2 [(3,ln x0.Z4b)]]<|br h (fun h1 h=>go [] []<|bd h fun q3 e6 h=>lp e6 wl86x2<|match q3,h with | .inl q2,h=>j1<|(qe<|bd h fun v5 e7 h=>goN [] [rg 3 [(1,n e7)]]<|nx h) | .inr y1,h=>j2<|(ql h fun _ _ p=>⟨(iS p).1,i2 ((iS p).2)⟩)) fun h1 h=> go [] []<|dn h (i1 iE)
theorem w86 {x0 r} (h:Zlr x0=some r):Z08 prog 86 [.agg (Z2n x0)] (R86 r):= cs f86<|go [] [rg 0 [(0,bo)]]<|bd h fun q5 e8 h=>lp e8 wl86x1<|match q5,h with | .inl q4,h=>j1<|(qe<|goN [] []<|rt h) | .inr y2,h=>j2<|(qr h)
def R57 (y0:Int):D:= .int .i64 y0
def Zmg (x0:List Z1m) (t0:Int):Option (Ctl (Int) (Unit⊕Int)):= if (decide (t0<(x0.length:Int))) then ((Z02 x0 t0).bind fun v2=> if (decide ((v2.Z6e.length:Int)>8)) then (some (.done (.inr 5))) else ((Z02 x0 t0).bind fun v3=> if (decide ((v3.Z4b.length:Int)>64)) then (some (.done (.inr 5))) else ((some (IntKind.wrap .i64 (t0+1))).bind fun v4=> some (.next v4)))) else (some (.done (.inl (()))))
def Zl1 (t1:Int) (x0:List Z1m) (t3:Int):Option (Ctl (Int) (Unit⊕Int)):= (Z02 x0 t1).bind fun v21=> if (decide (t3<(v21.Z6e.length:Int))) then ((Z02 x0 t1).bind fun v22=> (Z02 v22.Z6e t3).bind fun v23=> if (decide (v23.f_To<0)) then (some (.done (.inr 2))) else ((Z02 x0 t1).bind fun v24=> (Z02 v24.Z6e t3).bind fun v25=> if (decide (v25.f_To≥t1)) then (some (.done (.inr 2))) else ((some (IntKind.wrap .i64 (t3+1))).bind fun v26=> some (.next v26)))) else (some (.done (.inl (()))))
def Zo6 (x0:List Z1m) (t1:Int):Option (Ctl (Int) (Unit⊕Int)):= if (decide (t1<(x0.length:Int))) then ((Z06 (Zl1 t1 x0) Z07 0).bind fun q5=> match q5 with | .inl q4=>((some (IntKind.wrap .i64 (t1+1))).bind fun v27=> some (.next v27)) | .inr y1=>(some (.done (.inr y1)))) else (some (.done (.inl (()))))
def Zlj (x0:List Z1m) (t4:Int):Option (Ctl (Int) (Unit⊕Int)):= if (decide (t4<(x0.length:Int))) then ((Z02 x0 t4).bind fun v30=> (Zmx v30 t4).bind fun v31=> if (v31 !=0) then (some (.done (.inr v31))) else ((some (IntKind.wrap .i64 (t4+1))).bind fun v32=> some (.next v32))) else (some (.done (.inl (()))))
def Zku (x0:List Z1m) (t5:Int):Option (Ctl (Int) (Unit⊕Int)):= if (decide (t5<(x0.length:Int))) then ((Z02 x0 t5).bind fun v35=> (Zlr v35).bind fun v36=> if v36 then (some (.done (.inr 6))) else ((some (IntKind.wrap .i64 (t5+1))).bind fun v37=> some (.next v37))) else (some (.done (.inl (()))))
def j57x1 (x0:List Z1m):Option (Int):= (Z06 (Zmg x0) Z07 0).bind fun q1=> match q1 with | .inl q0=>((Z06 (Zo6 x0) Z07 0).bind fun q7=> match q7 with | .inl q6=>((Z06 (Zlj x0) Z07 0).bind fun q9=> match q9 with | .inl q8=>((Z06 (Zku x0) Z07 0).bind fun q11=> match q11 with | .inl q10=>(some 0) | .inr y2=>(some y2)) | .inr y3=>(some y3)) | .inr y4=>(some y4)) | .inr y5=>(some y5)
def Zn3 (x0:List Z1m):Option (Int):= if ((x0.length:Int)==0) then (some 5) else (if (decide ((x0.length:Int)>8)) then (some 5) else ((j57x1 x0)))
def Y0e (x0:List Z1m):Int→SL:= fun t0=>⟨104,[(0,.sl false (x0.map Z2n)),(3,dI t0)],[]⟩
def J57x1 (x0:List Z1m):JT (Unit⊕Int):= ju (je 0 fun q0:Unit=>⟨104,[(0,.sl false (x0.map Z2n))],[]⟩) (jr prog f57 R57)
theorem wl57x1 {x0 t0 r Γ} (h:(Zmg x0) t0=some r):A prog Γ (lpC f57 43) [] (Rd (Y0e x0) (J57x1 x0) r) ((Y0e x0) t0).s:= go [] [rg 4 [(2,ln x0)]]<|br h (fun h5 h=>bd h fun v2 e2 h=>sp h (fun h6 h=>go [] [rg 6 [(2,ix e2),(5,ln v2.Z6e),(6,kb h6)]]<|bT rfl<|go [] []<|dn h (i2 iR)) fun h6 h=> bd h fun v3 e3 h=>go [] [rg 6 [(2,ix e2),(5,ln v2.Z6e),(6,kb h6),(10,ix e3),(13,ln v3.Z4b)]]<|br h (fun h7 h=>go [] []<|dn h (i2 iR)) fun h7 h=> bd h fun v4 e4 h=>go [] [rg 5 [(1,n e4)]]<|nx h) fun h5 h=> go [] []<|dn h (i1 iE)
def Y2k (t1:Int) (x0:List Z1m):Int→SL:= fun t3=>⟨104,[(0,.sl false (x0.map Z2n)),(4,dI t1),(5,dI t3)],[]⟩
def J57x3 (t1:Int) (x0:List Z1m):JT (Unit⊕Int):= ju (je 4 fun q4:Unit=>⟨104,[(0,.sl false (x0.map Z2n)),(4,dI t1)],[]⟩) (jr prog f57 R57)
theorem wl57x3 {t1 x0 t3 r Γ} (h:(Zl1 t1 x0) t3=some r):A prog Γ (lpC f57 5271) [] (Rd (Y2k t1 x0) (J57x3 t1 x0) r) ((Y2k t1 x0) t3).s:= bd h fun v21 e23 h=>go [] [rg 12 [(3,ix e23),(6,ln v21.Z6e)]]<|br h (fun h19 h=>bd h fun v22 e24 h=>bd h fun v23 e25 h=>sp h (fun h20 h=>go [] [rg 14 [(2,ix e24),(6,ix e25),(9,kb h20)]]<|bT rfl<|go [] []<|dn h (i2 iR)) fun h20 h=> bd h fun v24 e26 h=>bd h fun v25 e27 h=>go [] [rg 14 [(2,ix e24),(6,ix e25),(9,kb h20),(13,ix e26),(17,ix e27)]]<|br h (fun h21 h=>go [] []<|dn h (i2 iR)) fun h21 h=> bd h fun v26 e28 h=>go [] [rg 13 [(1,n e28)]]<|nx h) fun h19 h=> go [] []<|dn h (i1 iE)
def Y0u (x0:List Z1m):Int→SL:= fun t1=>⟨104,[(0,.sl false (x0.map Z2n)),(4,dI t1)],[]⟩
def J57x2 (x0:List Z1m):JT (Unit⊕Int):= ju (je 2 fun q6:Unit=>⟨104,[(0,.sl false (x0.map Z2n))],[]⟩) (jr prog f57 R57)
theorem wl57x2 {x0 t1 r Γ} (h:(Zo6 x0) t1=some r):A prog Γ (lpC f57 87) [] (Rd (Y0u x0) (J57x2 x0) r) ((Y0u x0) t1).s:= go [] [rg 9 [(2,ln x0)]]<|br h (fun h15 h=>go [] []<|bd h fun q5 e29 h=>lp e29 wl57x3<|match q5,h with | .inl q4,h=>j1<|(qe<|bd h fun v27 e30 h=>goN [] [rg 10 [(1,n e30)]]<|nx h) | .inr y1,h=>j2<|(ql h fun _ _ p=>⟨(iS p).1,i2 ((iS p).2)⟩)) fun h15 h=> go [] []<|dn h (i1 iE)
def Zuk (x0:List Z1m):Int→SL:= fun t4=>⟨104,[(0,.sl false (x0.map Z2n)),(6,dI t4)],[]⟩
def J57x4 (x0:List Z1m):JT (Unit⊕Int):= ju (je 6 fun q8:Unit=>⟨104,[(0,.sl false (x0.map Z2n))],[]⟩) (jr prog f57 R57)
theorem wl57x4 {x0 t4 r Γ} (h:(Zlj x0) t4=some r):A prog Γ (lpC f57 175) [] (Rd (Zuk x0) (J57x4 x0) r) ((Zuk x0) t4).s:= go [] [rg 17 [(2,ln x0)]]<|br h (fun h24 h=>bd h fun v30 e34 h=>bd h fun v31 e35 h=>go [] [rg 19 [(2,ix e34),(5,k (w85 e35))]]<|br h (fun h25 h=>go [] []<|dn h (i2 iR)) fun h25 h=> bd h fun v32 e36 h=>go [] [rg 18 [(1,n e36)]]<|nx h) fun h24 h=> go [] []<|dn h (i1 iE)
def Y0l (x0:List Z1m):Int→SL:= fun t5=>⟨104,[(0,.sl false (x0.map Z2n)),(8,dI t5)],[]⟩
def J57x5:JT (Unit⊕Int):= ju (je 8 fun q10:Unit=>⟨104,[],[]⟩) (jr prog f57 R57)
theorem wl57x5 {x0 t5 r Γ} (h:(Zku x0) t5=some r):A prog Γ (lpC f57 351) [] (Rd (Y0l x0) J57x5 r) ((Y0l x0) t5).s:= go [] [rg 23 [(2,ln x0)]]<|br h (fun h28 h=>bd h fun v35 e40 h=>bd h fun v36 e41 h=>go [] [rg 25 [(2,ix e40),(4,k (w86 e41))]]<|br h (fun h29 h=>go [] []<|dn h (i2 iR)) fun h29 h=> bd h fun v37 e42 h=>go [] [rg 24 [(1,n e42)]]<|nx h) fun h28 h=> go [] []<|dn h (i1 iE)
theorem wj57x1 {x0 r Γ} (h:(j57x1 x0)=some r):Jn prog f57 Γ (Den.Ends prog f57 (R57 r)) 19 ⟨104,[(0,.sl false (x0.map Z2n))],[]⟩:= so<|go [] []<|bd h fun q1 e5 h=>lp e5 wl57x1<|match q1,h with | .inl q0,h=>j1<|(qe<|goN [] []<|bd h fun q7 e31 h=>lp e31 wl57x2<|match q7,h with | .inl q6,h=>j1<|(qe<|goN [] []<|bd h fun q9 e37 h=>lp e37 wl57x4<|match q9,h with | .inl q8,h=>j1<|(qe<|goN [] []<|bd h fun q11 e43 h=>lp e43 wl57x5<|match q11,h with | .inl q10,h=>j1<|(qe<|goN [] []<|rt h) | .inr y2,h=>j2<|(qr h)) | .inr y3,h=>j2<|(qr h)) | .inr y4,h=>j2<|(qr h)) | .inr y5,h=>j2<|(qr h)
theorem w57 {x0 r} (h:Zn3 x0=some r):Z08 prog 57 [.sl false (x0.map Z2n)] (R57 r):= cs f57<|sp h (fun h0 h=>go [] [rg 1 [(1,ln x0),(2,kb h0)]]<|bT rfl<|go [] []<|rt h) fun h0 h=> go [] [rg 1 [(1,ln x0),(2,kb h0),(5,ln x0)]]<|br h (fun h1 h=>go [] []<|rt h) fun h1 h=> go [3] []<|jn (wj57x1 h)
def R59 (y0:Bool):D:= .bool y0
def Zn1 (v0:Z31) (x0:Z0w) (x1 t0:Int):Option (Ctl (Int) (Unit⊕Bool)):= if (decide (t0<x1)) then ((Z02 x0.Z2t t0).bind fun v4=> if (v4.Z38==v0.Z38) then ((Z02 x0.Z2t t0).bind fun v5=> if (v5.Z0f==v0.Z0f) then (some (.done (.inr false))) else ((some (IntKind.wrap .i64 (t0+1))).bind fun v6=> some (.next v6))) else ((some (IntKind.wrap .i64 (t0+1))).bind fun v7=> some (.next v7))) else (some (.done (.inl (()))))
def j59x1 (v0:Z31) (x0:Z0w) (x1:Int):Option (Bool):= (Z06 (Zn1 v0 x0 x1) Z07 0).bind fun q1=> match q1 with | .inl q0=>(some true) | .inr y0=>(some y0)
def Ziz (x0:Z0w) (x1:Int):Option (Bool):= (Z02 x0.Z2t x1).bind fun v0=> if (decide (v0.Z38<0)) then (some false) else (if (decide (v0.Z38≥(x0.Z23.length:Int))) then (some false) else (if (decide (v0.Z0u<0)) then (some false) else (if (decide (v0.Z0u≥(x0.Z0x.length:Int))) then (some false) else ((Z02 x0.Z0x v0.Z0u).bind fun v1=> if (!(v1.Z1j.Z0f==v0.Z0f)) then (some false) else ((j59x1 v0 x0 x1))))))
def Zwi (v0:Z31) (x0:Z0w) (x1:Int):Int→SL:= fun t0=>⟨74,[(1,dI x1),(2,.ptr (Z2g x0)),(5,.lptr 5 0 0),(6,dI t0)],[(5,{ sz:=3,rows:=[Z3g v0],frz:=0,pure:=false })]⟩
def J59x1:JT (Unit⊕Bool):= ju (je 0 fun q0:Unit=>⟨74,[],[]⟩) (jr prog f59 R59)
theorem wl59x1 {v0 x0 x1 t0 r Γ} (h:(Zn1 v0 x0 x1) t0=some r):A prog Γ (lpC f59 87) [] (Rd (Zwi v0 x0 x1) J59x1 r) ((Zwi v0 x0 x1) t0).s:= go [] []<|br h (fun h8 h=>bd h fun v4 e4 h=>sp h (fun h9 h=>bd h fun v5 e5 h=>go [] [rg 7 [(3,ix e4),(8,kb h9),(13,ix e5)]]<|br h (fun h10 h=>go [] []<|dn h (i2 iR)) fun h10 h=> bd h fun v6 e6 h=>go [] [rg 6 [(1,n e6)]]<|nx h) fun h9 h=> go [] [rg 7 [(3,ix e4),(8,kb h9)]]<|bF rfl<|bd h fun v7 e7 h=>go [] [rg 6 [(1,n e7)]]<|nx h) fun h8 h=> go [] []<|dn h (i1 iE)
theorem wj59x1 {v0 x0 x1 r Γ} (h:(j59x1 v0 x0 x1)=some r):Jn prog f59 Γ (Den.Ends prog f59 (R59 r)) 39 ⟨74,[(1,dI x1),(2,.ptr (Z2g x0)),(5,.lptr 5 0 0)],[(5,{ sz:=3,rows:=[Z3g v0],frz:=0,pure:=false })]⟩:= so<|go [] []<|bd h fun q1 e8 h=>lp e8 wl59x1<|match q1,h with | .inl q0,h=>j1<|(qe<|goN [] []<|rt h) | .inr y0,h=>j2<|(qr h)
theorem w59 {x0 x1 r} (h:Ziz x0 x1=some r):Z08 prog 59 [.agg (Z2g x0),dI x1] (R59 r):= cs f59<|bd h fun v0 e0 h=>sp h (fun h0 h=>go [] [rg 0 [(0,bo)],rg 1 [(3,ix e0)],rg 2 [(2,kb h0)]]<|bT rfl<|go [] []<|rt h) fun h0 h=> sp h (fun h1 h=>go [] [rg 0 [(0,bo)],rg 1 [(3,ix e0)],rg 2 [(2,kb h0),(8,ln x0.Z23),(9,kb h1)]]<|bT rfl<|go [] []<|rt h) fun h1 h=> sp h (fun h2 h=>go [] [rg 0 [(0,bo)],rg 1 [(3,ix e0)],rg 2 [(2,kb h0),(8,ln x0.Z23),(9,kb h1),(14,kb h2)]]<|bT rfl<|go [] []<|rt h) fun h2 h=> sp h (fun h3 h=>go [] [rg 0 [(0,bo)],rg 1 [(3,ix e0)],rg 2 [(2,kb h0),(8,ln x0.Z23),(9,kb h1),(14,kb h2),(21,ln x0.Z0x),(22,kb h3)]]<|bT rfl<|go [] []<|rt h) fun h3 h=> bd h fun v1 e1 h=>go [] [rg 0 [(0,bo)],rg 1 [(3,ix e0)],rg 2 [(2,kb h0),(8,ln x0.Z23),(9,kb h1),(14,kb h2),(21,ln x0.Z0x),(22,kb h3),(29,ix e1)]]<|br h (fun h4 h=>go [] []<|rt h) fun h4 h=> go [4] []<|jn (wj59x1 h)
def R88 (y0:(List Bool)):D:= .sl false (y0.map Z3y)
def Zjk (t2:Int×(List Bool)) (v33:Z46):Option (Ctl (Int×(List Bool)) (((List Bool)))):= (Z3h v33.f_A t2.2.length).bind fun v40=> (t2.2[v40]?).bind fun v41=> (Z3h v33.f_B (t2.2.set v40 true).length).bind fun v42=> ((t2.2.set v40 true)[v42]?).bind fun v43=> (some (IntKind.wrap .i64 (t2.1+1))).bind fun v44=> some (.next (v44,((t2.2.set v40 true).set v42 true)))
def Zml (x0:Z0w) (x1:List UInt8) (t2:Int×(List Bool)):Option (Ctl (Int×(List Bool)) (((List Bool)))):= if (decide (t2.1<(x0.Z3p.length:Int))) then ((Z02 x0.Z3p t2.1).bind fun v33=> if (v33.Z0f==x1) then ((Z3h v33.f_A t2.2.length).bind fun v34=> (t2.2[v34]?).bind fun v35=> if v35 then ((Zjk t2 v33)) else ((Z3h v33.f_B t2.2.length).bind fun v36=> (t2.2[v36]?).bind fun v37=> if v37 then ((Zjk t2 v33)) else ((some (IntKind.wrap .i64 (t2.1+1))).bind fun v38=> some (.next (v38,t2.2))))) else ((some (IntKind.wrap .i64 (t2.1+1))).bind fun v39=> some (.next (v39,t2.2)))) else (some (.done (t2.2)))
def Zkt (x0:Z0w) (x1:List UInt8) (t0:Int×(List Bool)):Option (Ctl (Int×(List Bool)) (((List Bool)))):= if (decide (t0.1<(x0.Z23.length:Int))) then ((Z06 (Zml x0 x1) Z07 (0,t0.2)).bind fun q2=> (some (IntKind.wrap .i64 (t0.1+1))).bind fun v45=> some (.next (v45,q2))) else (some (.done (t0.2)))
def Znn (x0:Z0w) (x1:List UInt8) (x2:Int):Option ((List Bool)):= (Z7l 1 (x0.Z23.length:Int) (x0.Z23.length:Int)).bind fun v0=> (Z3h x2 (List.replicate (x0.Z23.length:Int).toNat false).length).bind fun v1=> ((List.replicate (x0.Z23.length:Int).toNat false)[v1]?).bind fun v2=> (Z06 (Zkt x0 x1) Z07 (0,((List.replicate (x0.Z23.length:Int).toNat false).set v1 true))).bind fun q4=> some q4
def Zt3 (t0:Int×(List Bool)) (x0:Z0w) (x1:List UInt8):(Int×(List Bool))→SL:= fun t2=>⟨64,[(1,.str x1),(3,.ptr (Z2g x0)),(7,.lsl 7 0 ((t2.2.map Z3y).length)),(8,dI t0.1),(9,dI t2.1)],[(7,{ sz:=1,rows:=(t2.2.map Z3y),frz:=0,pure:=true })]⟩
def J88x2 (t0:Int×(List Bool)) (x0:Z0w) (x1:List UInt8):JT (((List Bool))):= je 2 fun q2:(List Bool)=>⟨64,[(1,.str x1),(3,.ptr (Z2g x0)),(7,.lsl 7 0 ((q2.map Z3y).length)),(8,dI t0.1)],[(7,{ sz:=1,rows:=(q2.map Z3y),frz:=0,pure:=true })]⟩
theorem Y1m (t0:Int×(List Bool)) (x0:Z0w) (x1:List UInt8) {t2 v33 r Γ} (h:(Zjk t2 v33)=some r):Jn prog f88 Γ (Rd (Zt3 t0 x0 x1) (J88x2 t0 x0 x1) r) 1254551 ⟨64,[(1,.str x1),(3,.ptr (Z2g x0)),(7,.lsl 7 0 ((t2.2.map Z3y).length)),(8,dI t0.1),(9,dI t2.1),(10,.lptr 10 0 0)],[(7,{ sz:=1,rows:=(t2.2.map Z3y),frz:=0,pure:=true }),(10,{ sz:=3,rows:=[Z3r v33],frz:=0,pure:=false })]⟩:= so<|bd h fun v40 e41 h=>bd h fun v41 e42 h=>go [12] [rg 11 [(3,ia 7 e41),(4,st e42 0 [.bool true] true)]]<|nm (congrArg (fun nn:Nat=>(⟨64,[(1,.str x1),(3,.ptr (Z2g x0)),(7,.lsl 7 0 nn),(8,dI t0.1),(9,dI t2.1),(10,.lptr 10 0 0)],[(7,{ sz:=1,rows:=((t2.2.set v40 true).map Z3y),frz:=0,pure:=true }),(10,{ sz:=3,rows:=[Z3r v33],frz:=0,pure:=false })]⟩:SL)) (by simp only [List.length_map,List.length_set]:(t2.2.map Z3y).length=((t2.2.set v40 true).map Z3y).length))<|so<|bd h fun v42 e43 h=>bd h fun v43 e44 h=>go [8] [rg 12 [(3,ia 7 e43),(4,st e44 0 [.bool true] true)]]<|nm (congrArg (fun nn:Nat=>(⟨64,[(1,.str x1),(3,.ptr (Z2g x0)),(7,.lsl 7 0 nn),(8,dI t0.1),(9,dI t2.1)],[(7,{ sz:=1,rows:=(((t2.2.set v40 true).set v42 true).map Z3y),frz:=0,pure:=true })]⟩:SL)) (by simp only [List.length_map,List.length_set]:((t2.2.set v40 true).map Z3y).length=(((t2.2.set v40 true).set v42 true).map Z3y).length))<|so<|bd h fun v44 e45 h=>go [] [rg 8 [(1,n e45)]]<|nx h
theorem wl88x2 (t0:Int×(List Bool)) {x0 x1 t2 r Γ} (h:(Zml x0 x1) t2=some r):A prog Γ (lpC f88 5271) [] (Rd (Zt3 t0 x0 x1) (J88x2 t0 x0 x1) r) ((Zt3 t0 x0 x1) t2).s:= go [] [rg 7 [(3,ln x0.Z3p)]]<|br h (fun h14 h=>bd h fun v33 e34 h=>go [10] [rg 9 [(3,ix e34)]]<|po<|pr 5 []<|sp h (fun h15 h=>bd h fun v34 e35 h=>bd h fun v35 e36 h=>pr 6 (gC h15 5 3 [(8,gw h15 (ia 7 e35)),(9,gw h15 (lb e36)),(10,gw h15 g0)])<|sp h (fun h16 h=>pr 7 (gA h16 11 5 [(16,gw h15 (py h16)),(17,py h15)])<|pe<|goN [] []<|bT rfl<|go [11] []<|jn ((Y1m t0 x0 x1) h)) fun h16 h=> bd h fun v36 e37 h=>bd h fun v37 e38 h=>pr 7 (gC h16 11 3 [(14,gw h16 (ia 7 e37)),(15,gw h16 (lb e38)),(16,gw h15 (pn h16)),(17,py h15)])<|pe<|goN [] []<|br h (fun h17 h=>go [11] []<|jn ((Y1m t0 x0 x1) h)) fun h17 h=> bd h fun v38 e39 h=>go [] [rg 8 [(1,n e39)]]<|nx h) fun h15 h=> pr 13 (gB h15 5 6 [(16,gs1 h15),(17,pn h15)])<|pe<|goN [] []<|bF rfl<|bd h fun v39 e40 h=>go [] [rg 8 [(1,n e40)]]<|nx h) fun h14 h=> go [] []<|dn h (iE)
def Y2d (x0:Z0w) (x1:List UInt8):(Int×(List Bool))→SL:= fun t0=>⟨64,[(1,.str x1),(3,.ptr (Z2g x0)),(7,.lsl 7 0 ((t0.2.map Z3y).length)),(8,dI t0.1)],[(7,{ sz:=1,rows:=(t0.2.map Z3y),frz:=0,pure:=true })]⟩
def J88x1:JT (((List Bool))):= je 0 fun q4:(List Bool)=>⟨64,[(7,.lsl 7 0 ((q4.map Z3y).length))],[(7,{ sz:=1,rows:=(q4.map Z3y),frz:=0,pure:=true })]⟩
theorem wl88x1 {x0 x1 t0 r Γ} (h:(Zkt x0 x1) t0=some r):A prog Γ (lpC f88 87) [] (Rd (Y2d x0 x1) J88x1 r) ((Y2d x0 x1) t0).s:= go [] [rg 4 [(3,ln x0.Z23)]]<|br h (fun h9 h=>go [] []<|bd h fun q2 e46 h=>lp e46 (wl88x2 t0)<|qe<|bd h fun v45 e47 h=>goN [] [rg 5 [(1,n e47)]]<|nx h) fun h9 h=> go [] []<|dn h (iE)
theorem w88 {x0 x1 x2 r} (h:Znn x0 x1 x2=some r):Z08 prog 88 [.agg (Z2g x0),.str x1,dI x2] (R88 r):= cs f88<|bd h fun v0 e0 h=>bd h fun v1 e1 h=>bd h fun v2 e2 h=>go [3] [rg 0 [(0,bo)],rg 1 [(2,ln x0.Z23),(3,mk false e0)],rg 2 [(2,ia 14 e1),(3,st e2 0 [.bool true] true)]]<|nm (congrArg (fun nn:Nat=>(⟨64,[(1,.str x1),(3,.ptr (Z2g x0)),(7,.lsl 14 0 nn)],[(14,{ sz:=1,rows:=(((List.replicate (x0.Z23.length:Int).toNat false).set v1 true).map Z3y),frz:=0,pure:=true })]⟩:SL)) (by simp only [List.length_map,List.length_set]:((List.replicate (x0.Z23.length:Int).toNat false).map Z3y).length=(((List.replicate (x0.Z23.length:Int).toNat false).set v1 true).map Z3y).length))<|so<|go [] []<|bd h fun q4 e48 h=>lp (ps:=[(14,7)]) e48 wl88x1<|qe<|goN [] []<|rtB h (rw_ q4) (a2 (rpI q4) trivial) (by simp only [rwE] <;> kernel_rfl)
def R60 (y0:Bool):D:= .bool y0
def Zoj (v0:Z31) (v1:(List Bool)) (x0:Z0w) (x1 t0:Int):Option (Ctl (Int) (Unit⊕Bool)):= if (decide (t0<x1)) then ((Z02 x0.Z2t t0).bind fun v4=> if (v4.Z0f==v0.Z0f) then ((Z02 v1 v4.Z38).bind fun v5=> if v5 then (if (v4.Z0u !=v0.Z0u) then (some (.done (.inr false))) else ((some (IntKind.wrap .i64 (t0+1))).bind fun v6=> some (.next v6))) else ((some (IntKind.wrap .i64 (t0+1))).bind fun v7=> some (.next v7))) else ((some (IntKind.wrap .i64 (t0+1))).bind fun v8=> some (.next v8))) else (some (.done (.inl (()))))
def Zoc (x0:Z0w) (x1:Int):Option (Bool):= (Z02 x0.Z2t x1).bind fun v0=> (Znn x0 v0.Z0f v0.Z38).bind fun v1=> (Z06 (Zoj v0 v1 x0 x1) Z07 0).bind fun q1=> match q1 with | .inl q0=>(some true) | .inr y0=>(some y0)
def Zz4 (v0:Z31) (v1:(List Bool)) (x0:Z0w) (x1:Int):Int→SL:= fun t0=>⟨49,[(1,dI x1),(2,.ptr (Z2g x0)),(5,.lptr 5 0 0),(6,.sl false (v1.map Z3y)),(7,dI t0)],[(5,{ sz:=3,rows:=[Z3g v0],frz:=0,pure:=false })]⟩
def J60x1:JT (Unit⊕Bool):= ju (je 0 fun q0:Unit=>⟨49,[],[]⟩) (jr prog f60 R60)
theorem wl60x1 {v0 v1 x0 x1 t0 r Γ} (h:(Zoj v0 v1 x0 x1) t0=some r):A prog Γ (lpC f60 87) [] (Rd (Zz4 v0 v1 x0 x1) J60x1 r) ((Zz4 v0 v1 x0 x1) t0).s:= go [] []<|br h (fun h4 h=>bd h fun v4 e4 h=>go [7] [rg 6 [(3,ix e4)]]<|po<|pr 6 []<|sp h (fun h5 h=>bd h fun v5 e5 h=>pr 7 (gC h5 6 3 [(9,gw h5 (ix e5)),(10,gw h5 g0),(11,py h5)])<|sp h (fun h6 h=>pr 6 (gC h6 13 5 [(18,py h6)])<|pe<|goN [] []<|br h (fun h7 h=>go [] []<|dn h (i2 iR)) fun h7 h=> bd h fun v6 e6 h=>go [] [rg 5 [(1,n e6)]]<|nx h) fun h6 h=> pr 6 (gB h6 13 5 [(18,pn h6)])<|pe<|goN [] []<|bF rfl<|bd h fun v7 e7 h=>go [] [rg 5 [(1,n e7)]]<|nx h) fun h5 h=> pr 13 (gB h5 6 5 [(11,pn h5)])<|pe<|goN [] []<|bF rfl<|bd h fun v8 e8 h=>go [] [rg 5 [(1,n e8)]]<|nx h) fun h4 h=> go [] []<|dn h (i1 iE)
theorem w60 {x0 x1 r} (h:Zoc x0 x1=some r):Z08 prog 60 [.agg (Z2g x0),dI x1] (R60 r):= cs f60<|bd h fun v0 e0 h=>bd h fun v1 e1 h=>go [] [rg 0 [(0,bo)],rg 1 [(3,ix e0)],rg 2 [(5,k (w88 e1))]]<|bd h fun q1 e9 h=>lp e9 wl60x1<|match q1,h with | .inl q0,h=>j1<|(qe<|goN [] []<|rt h) | .inr y0,h=>j2<|(qr h)
def R127 (y0:Bool):D:= .bool y0
def Zip (x0:List Z0l) (t0:Int):Option (Ctl (Int) (Unit⊕Bool)):= if (decide (t0<(x0.length:Int))) then ((Z02 x0 t0).bind fun v1=> if (v1.Z4o !=0) then (some (.done (.inr false))) else ((some (IntKind.wrap .i64 (t0+1))).bind fun v2=> some (.next v2))) else (some (.done (.inl (()))))
def Zib (x0:List Z0l):Option (Bool):= (Z06 (Zip x0) Z07 0).bind fun q1=> match q1 with | .inl q0=>(some true) | .inr y0=>(some y0)
def Zxe (x0:List Z0l):Int→SL:= fun t0=>⟨16,[(0,.sl false (x0.map Z1r)),(3,dI t0)],[]⟩
def J127x1:JT (Unit⊕Bool):= ju (je 0 fun q0:Unit=>⟨16,[],[]⟩) (jr prog f127 R127)
theorem wl127x1 {x0 t0 r Γ} (h:(Zip x0) t0=some r):A prog Γ (lpC f127 21) [] (Rd (Zxe x0) J127x1 r) ((Zxe x0) t0).s:= go [] [rg 2 [(2,ln x0)]]<|br h (fun h2 h=>bd h fun v1 e1 h=>go [] [rg 4 [(2,ix e1)]]<|br h (fun h3 h=>go [] []<|dn h (i2 iR)) fun h3 h=> bd h fun v2 e2 h=>go [] [rg 3 [(1,n e2)]]<|nx h) fun h2 h=> go [] []<|dn h (i1 iE)
theorem w127 {x0 r} (h:Zib x0=some r):Z08 prog 127 [.sl false (x0.map Z1r)] (R127 r):= cs f127<|go [] []<|bd h fun q1 e3 h=>lp e3 wl127x1<|match q1,h with | .inl q0,h=>j1<|(qe<|goN [] []<|rt h) | .inr y0,h=>j2<|(qr h)
def R118 (y0:Bool):D:= .bool y0
def Zjc (t0 : Int) (v1:Z5m) (p1:Bool):Option (Ctl (Int) (Unit⊕Bool)):= if (!p1) then (if (v1.Z68 !=8) then (if (v1.Z68 !=0) then (some (.done (.inr false))) else (if (v1.f_N !=0) then (some (.done (.inr false))) else (if (!(v1.f_S==([]:List UInt8))) then (some (.done (.inr false))) else ((some (IntKind.wrap .i64 (t0+1))).bind fun v2=> some (.next v2))))) else (if (v1.f_N !=0) then (some (.done (.inr false))) else (if (!(v1.f_S==([]:List UInt8))) then ((some (IntKind.wrap .i64 (t0+1))).bind fun v3=> some (.next v3)) else ((some (IntKind.wrap .i64 (t0+1))).bind fun v4=> some (.next v4))))) else (if (v1.f_N !=0) then (if (!(v1.f_S==([]:List UInt8))) then (if (v1.Z68 !=8) then (some (.done (.inr false))) else ((some (IntKind.wrap .i64 (t0+1))).bind fun v5=> some (.next v5))) else ((some (IntKind.wrap .i64 (t0+1))).bind fun v6=> some (.next v6))) else (if (!(v1.f_S==([]:List UInt8))) then (if (v1.Z68 !=8) then (some (.done (.inr false))) else ((some (IntKind.wrap .i64 (t0+1))).bind fun v7=> some (.next v7))) else ((some (IntKind.wrap .i64 (t0+1))).bind fun v8=> some (.next v8))))
def Zis (x0:Z0t) (t0:Int):Option (Ctl (Int) (Unit⊕Bool)):= if (decide (t0<(x0.Z1d.length:Int))) then ((Z02 x0.Z1d t0).bind fun v1=> if (v1.Z68==3) then ((Zjc t0 v1) true) else ((Zjc t0 v1) (v1.Z68==5))) else (some (.done (.inl (()))))
def Zky (v26:Z1o) (t4:Int):Option (Ctl (Int) (Unit⊕Bool)):= if (decide (t4<(v26.Z1f.Z2f.length:Int))) then ((Z02 v26.Z1f.Z2f t4).bind fun v32=> if (v32.Z0u !=0) then (some (.done (.inr false))) else ((some (IntKind.wrap .i64 (t4+1))).bind fun v33=> some (.next v33))) else (some (.done (.inl (()))))
def Zne (v26:Z1o) (t5:Int):Option (Ctl (Int) (Unit⊕Bool)):= if (decide (t5<(v26.Z1f.Z1q.length:Int))) then ((Z02 v26.Z1f.Z1q t5).bind fun v38=> (Zib v38.Z1s.Z0g).bind fun v39=> if (!v39) then (some (.done (.inr false))) else ((Z02 v26.Z1f.Z1q t5).bind fun v40=> (Zib v40.Z1s.Z0e).bind fun v41=> if (!v41) then (some (.done (.inr false))) else ((some (IntKind.wrap .i64 (t5+1))).bind fun v42=> some (.next v42)))) else (some (.done (.inl (()))))
def Zje (t1:Int) (v26:Z1o):Option (Ctl (Int) (Unit⊕Bool)):= (Z06 (Zky v26) Z07 0).bind fun q7=> match q7 with | .inl q6=>((Z06 (Zne v26) Z07 0).bind fun q9=> match q9 with | .inl q8=>((some (IntKind.wrap .i64 (t1+1))).bind fun v43=> some (.next v43)) | .inr y2=>(some (.done (.inr y2)))) | .inr y3=>(some (.done (.inr y3)))
def Zir (x0 : Z0t) (t1:Int):Option (Ctl (Int) (Unit⊕Bool)):= if (decide (t1<(x0.Z0m.length:Int))) then ((Z02 x0.Z0m t1).bind fun v26=> (Z02 x0.Z0m t1).bind fun v27=> if (!v27.Z40) then (if (v26.Z1f.Z0e !=0) then (some (.done (.inr false))) else (if (v26.Z1f.Z0g !=0) then (some (.done (.inr false))) else ((some (IntKind.wrap .i64 ((v26.Z1f.Z0r.length:Int)+(v26.Z1f.Z2f.length:Int)))).bind fun v28=> (some (IntKind.wrap .i64 (v28+(v26.Z1f.Z1q.length:Int)))).bind fun v29=> (some (IntKind.wrap .i64 (v29+(v26.Z1f.Z25.length:Int)))).bind fun v30=> if (decide (v30>0)) then (some (.done (.inr false))) else ((Zje t1 v26))))) else ((Zje t1 v26))) else (some (.done (.inl (()))))
def Zmf (x0:Z0t):Option (Bool):= (Z06 (Zis x0) Z07 0).bind fun q1=> match q1 with | .inl q0=>((Z06 (Zir x0) Z07 0).bind fun q11=> match q11 with | .inl q10=>(some true) | .inr y4=>(some y4)) | .inr y5=>(some y5)
def Zr6 (x0:Z0t):Int→SL:= fun t0=>⟨150,[(1,.ptr (Z2y x0)),(3,dI t0)],[]⟩
def Zxw (x0:Z0t):JT (Unit⊕Bool):= ju (je 0 fun q0:Unit=>⟨150,[(1,.ptr (Z2y x0))],[]⟩) (jr prog f118 R118)
theorem Zwr (x0:Z0t) {t0 v1 p1 r Γ} (h:(Zjc t0 v1) p1=some r):Jn prog f118 Γ (Rd (Zr6 x0) (Zxw x0) r) 2853 ⟨150,[(1,.ptr (Z2y x0)),(3,dI t0),(4,.lptr 4 0 0),(5,.bool p1)],[(4,{ sz:=6,rows:=[Z89 v1],frz:=0,pure:=false })]⟩:= po <| pr 3 []<|sp h (fun h16 h=>pr 5 (gC h16 3 3 [(6,py h16)])<|sp h (fun h17 h=>pr 5 (gC h17 8 3 [(11,py h17)])<|sp h (fun h18 h=>pr 18 (gA h18 13 4 [(19,gs0 h18),(20,py h18)])<|pe<|goN [] []<|bT rfl<|go [] []<|dn h (i2 iR)) fun h18 h=> pr 4 (gC h18 13 4 [])<|sp h (fun h19 h=>pr 14 (gC h19 17 2 ((19,gw h18 (py h19))::(20,pn h18)::gA h16 22 4 [(29,gs0 h16),(30,py h16)]))<|pe<|goN [] []<|bT rfl<|go [] []<|dn h (i2 iR)) fun h19 h=> pr 9 (gB h19 17 2 [(19,gw h18 (pn h19)),(20,pn h18)])<|sp h (fun h20 h=>pr 5 (gC h20 26 2 [(28,gw h20 (kb h17)),(29,py h20)])<|pe<|goN [] []<|bT rfl<|go [] []<|dn h (i2 iR)) fun h20 h=> pr 5 (gB h20 26 3 [(29,pn h20)])<|pe<|goN [] []<|bF rfl<|bd h fun v2 e2 h=>go [] [rg 3 [(1,n e2)]]<|nx h) fun h17 h=> pr 9 (gB h17 8 3 [(11,pn h17)])<|sp h (fun h21 h=>pr 14 (gC h21 17 2 ((19,py h21)::gA h16 22 4 [(29,gs0 h16),(30,py h16)]))<|pe<|goN [] []<|bT rfl<|go [] []<|dn h (i2 iR)) fun h21 h=> pr 9 (gB h21 17 2 [(19,pn h21)])<|sp h (fun h22 h=>pr 5 (gC h22 26 2 [(28,gw h22 (kb h17)),(29,py h22)])<|pe<|goN [] []<|bF rfl<|bd h fun v3 e3 h=>go [] [rg 3 [(1,n e3)]]<|nx h) fun h22 h=> pr 5 (gB h22 26 3 [(29,pn h22)])<|pe<|goN [] []<|bF rfl<|bd h fun v4 e4 h=>go [] [rg 3 [(1,n e4)]]<|nx h) fun h16 h=> pr 14 (gB h16 3 3 [(6,pn h16)])<|sp h (fun h23 h=>pr 9 (gC h23 17 2 ((19,py h23)::gC h16 22 4 []))<|sp h (fun h24 h=>pr 5 (gC h24 26 3 [(29,gw h16 (py h24)),(30,pn h16)])<|pe<|goN [] []<|br h (fun h25 h=>go [] []<|dn h (i2 iR)) fun h25 h=> bd h fun v5 e5 h=>go [] [rg 3 [(1,n e5)]]<|nx h) fun h24 h=> pr 5 (gB h24 26 3 [(29,gw h16 (pn h24)),(30,pn h16)])<|pe<|goN [] []<|bF rfl<|bd h fun v6 e6 h=>go [] [rg 3 [(1,n e6)]]<|nx h) fun h23 h=> pr 9 (gB h23 17 2 [(19,pn h23)])<|sp h (fun h26 h=>pr 5 (gC h26 26 3 [(29,py h26)])<|pe<|goN [] []<|br h (fun h27 h=>go [] []<|dn h (i2 iR)) fun h27 h=> bd h fun v7 e7 h=>go [] [rg 3 [(1,n e7)]]<|nx h) fun h26 h=> pr 5 (gB h26 26 3 [(29,pn h26)])<|pe<|goN [] []<|bF rfl<|bd h fun v8 e8 h=>go [] [rg 3 [(1,n e8)]]<|nx h
theorem wl118x1 {x0 t0 r Γ} (h:(Zis x0) t0=some r):A prog Γ (lpC f118 21) [] (Rd (Zr6 x0) (Zxw x0) r) ((Zr6 x0) t0).s:= go [] [rg 2 [(3,ln x0.Z1d)]]<|br h (fun h14 h=>bd h fun v1 e1 h=>sp h (fun h15 h=>go [6] [rg 4 [(3,ix e1)],rg 5 [(2,kb h15)]]<|jn ((Zwr x0) h)) fun h15 h=> go [6] [rg 4 [(3,ix e1)],rg 5 [(2,kb h15)]]<|jn ((Zwr x0) h)) fun h14 h=> go [] []<|dn h (i1 iE)
def Zvz (t1:Int) (v26:Z1o) (x0:Z0t):Int→SL:= fun t4=>⟨150,[(1,.ptr (Z2y x0)),(6,dI t1),(7,.lptr 7 0 0),(8,dI t4)],[(7,{ sz:=6,rows:=[Z13 v26.Z1f],frz:=0,pure:=false })]⟩
def J118x3 (t1:Int) (v26:Z1o) (x0:Z0t):JT (Unit⊕Bool):= ju (je 4 fun q6:Unit=>⟨150,[(1,.ptr (Z2y x0)),(6,dI t1),(7,.lptr 7 0 0)],[(7,{ sz:=6,rows:=[Z13 v26.Z1f],frz:=0,pure:=false })]⟩) (jr prog f118 R118)
theorem wl118x3 (t1:Int) (x0:Z0t) {v26 t4 r Γ} (h:(Zky v26) t4=some r):A prog Γ (lpC f118 22091) [] (Rd (Zvz t1 v26 x0) (J118x3 t1 v26 x0) r) ((Zvz t1 v26 x0) t4).s:= go [] [rg 15 [(3,ln v26.Z1f.Z2f)]]<|br h (fun h50 h=>bd h fun v32 e35 h=>go [] [rg 17 [(3,ix e35)]]<|br h (fun h51 h=>go [] []<|dn h (i2 iR)) fun h51 h=> bd h fun v33 e36 h=>go [] [rg 16 [(1,n e36)]]<|nx h) fun h50 h=> go [] []<|dn h (i1 iE)
def Y02 (t1:Int) (v26:Z1o) (x0:Z0t):Int→SL:= fun t5=>⟨150,[(1,.ptr (Z2y x0)),(6,dI t1),(7,.lptr 7 0 0),(9,dI t5)],[(7,{ sz:=6,rows:=[Z13 v26.Z1f],frz:=0,pure:=false })]⟩
def J118x4 (t1:Int) (x0:Z0t):JT (Unit⊕Bool):= ju (je 6 fun q8:Unit=>⟨150,[(1,.ptr (Z2y x0)),(6,dI t1)],[]⟩) (jr prog f118 R118)
theorem wl118x4 (t1:Int) (x0:Z0t) {v26 t5 r Γ} (h:(Zne v26) t5=some r):A prog Γ (lpC f118 24139) [] (Rd (Y02 t1 v26 x0) (J118x4 t1 x0) r) ((Y02 t1 v26 x0) t5).s:= go [] [rg 20 [(3,ln v26.Z1f.Z1q)]]<|br h (fun h55 h=>bd h fun v38 e42 h=>bd h fun v39 e43 h=>sp h (fun h56 h=>go [] [rg 22 ((3,ix e42)::(7,k (w127 e43))::gA h56 10 9 [(19,py h56)])]<|bT rfl<|go [] []<|dn h (i2 iR)) fun h56 h=> bd h fun v40 e44 h=>bd h fun v41 e45 h=>go [] [rg 22 ((3,ix e42)::(7,k (w127 e43))::gC h56 10 3 ((13,gw h56 (ix e44))::gC h56 14 3 [(17,gw h56 (k (w127 e45))),(18,gw h56 g0),(19,pn h56)]))]<|br h (fun h57 h=>go [] []<|dn h (i2 iR)) fun h57 h=> bd h fun v42 e46 h=>go [] [rg 21 [(1,n e46)]]<|nx h) fun h55 h=> go [] []<|dn h (i1 iE)
def Zrh (x0:Z0t):Int→SL:= fun t1=>⟨150,[(1,.ptr (Z2y x0)),(6,dI t1)],[]⟩
def Zzj:JT (Unit⊕Bool):= ju (je 2 fun q10:Unit=>⟨150,[],[]⟩) (jr prog f118 R118)
theorem Zuz (x0:Z0t) {t1 v26 r Γ} (h:(Zje t1 v26)=some r):Jn prog f118 Γ (Rd (Zrh x0) Zzj r) 9803 ⟨150,[(1,.ptr (Z2y x0)),(6,dI t1),(7,.lptr 7 0 0)],[(7,{ sz:=6,rows:=[Z13 v26.Z1f],frz:=0,pure:=false })]⟩:= so<|go [] []<|bd h fun q7 e37 h=>lp e37 (wl118x3 t1 x0)<|match q7,h with | .inl q6,h=>j1<|(qe<|goN [] []<|bd h fun q9 e47 h=>lp e47 (wl118x4 t1 x0)<|match q9,h with | .inl q8,h=>j1<|(qe<|bd h fun v43 e48 h=>goN [] [rg 10 [(1,n e48)]]<|nx h) | .inr y2,h=>j2<|(ql h fun _ _ p=>⟨(iS p).1,i2 ((iS p).2)⟩)) | .inr y3,h=>j2<|(ql h fun _ _ p=>⟨(iS p).1,i2 ((iS p).2)⟩)
theorem wl118x2 {x0 t1 r Γ} (h:(Zir x0) t1=some r):A prog Γ (lpC f118 43) [] (Rd (Zrh x0) Zzj r) ((Zrh x0) t1).s:= go [] [rg 9 [(3,ln x0.Z0m)]]<|br h (fun h43 h=>bd h fun v26 e29 h=>go [12] [rg 11 [(3,ix e29)]]<|po<|bd h fun v27 e30 h=>pr 8 [(3,ix e30)]<|sp h (fun h44 h=>pr 4 (gC h44 8 4 [])<|sp h (fun h45 h=>pr 23 (gA h45 12 3 [(15,gw h44 (py h45)),(16,gw h44 g0),(33,gw h44 g0),(34,py h44)])<|pe<|goN [] []<|bT rfl<|go [] []<|dn h (i2 iR)) fun h45 h=> pr 5 (gC h45 12 3 [(15,gw h44 (pn h45)),(16,gw h44 g0)])<|sp h (fun h46 h=>pr 18 (gA h46 17 16 [(33,gw h44 (py h46)),(34,py h44)])<|pe<|goN [] []<|bT rfl<|go [] []<|dn h (i2 iR)) fun h46 h=> bd h fun v28 e31 h=>bd h fun v29 e32 h=>bd h fun v30 e33 h=>pr 18 (gC h46 17 2 ((19,gw h46 (ln v26.Z1f.Z0r))::gC h46 20 2 ((22,gw h46 (ln v26.Z1f.Z2f))::(23,gw h46 (n e31))::gC h46 24 2 ((26,gw h46 (ln v26.Z1f.Z1q))::(27,gw h46 (n e32))::gC h46 28 2 [(30,gw h46 (ln v26.Z1f.Z25)),(31,gw h46 (n e33)),(32,gw h46 g0),(33,gw h44 (pn h46)),(34,py h44)]))))<|pe<|goN [] []<|br h (fun h47 h=>go [] []<|dn h (i2 iR)) fun h47 h=> go [14] []<|jn ((Zuz x0) h)) fun h44 h=> pr 27 (gB h44 8 4 (gB h44 15 2 [(33,gs1 h44),(34,pn h44)]))<|pe<|goN [] []<|bF rfl<|go [14] []<|jn ((Zuz x0) h)) fun h43 h=> go [] []<|dn h (i1 iE)
theorem w118 {x0 r} (h:Zmf x0=some r):Z08 prog 118 [.agg (Z2y x0)] (R118 r):= cs f118<|go [] [rg 0 [(0,bo)]]<|bd h fun q1 e9 h=>lp e9 wl118x1<|match q1,h with | .inl q0,h=>j1<|(qe<|goN [] []<|bd h fun q11 e49 h=>lp e49 wl118x2<|match q11,h with | .inl q10,h=>j1<|(qe<|goN [] []<|rt h) | .inr y4,h=>j2<|(qr h)) | .inr y5,h=>j2<|(qr h)
def R153 (y0:(List Z00)×Int×Int):D:= .tup [.sl false (y0.1.map Z09),.int .i64 y0.2.1,.int .i64 y0.2.2]
def Zfi (x0:List Z00) (x1:Z00) (t0:Int):Option (Ctl (Int) (Unit⊕((List Z00)×Int×Int))):= if (decide (t0<(x0.length:Int))) then ((Z02 x0 t0).bind fun v1=> if (Zq4 v1 x1) then ((some (IntKind.wrap .i64 (t0+1))).bind fun v2=> some (.done (.inr (x0,v2,0)))) else ((some (IntKind.wrap .i64 (t0+1))).bind fun v3=> some (.next v3))) else (some (.done (.inl (()))))
def Z6o (x0:List Z00) (x1:Z00):Option ((List Z00)×Int×Int):= (Z06 (Zfi x0 x1) Z07 0).bind fun q1=> match q1 with | .inl q0=>(if (decide ((x0.length:Int)≥1000)) then (some (x0,0,5)) else ((some (IntKind.wrap .i64 ((x0.length:Int)+1))).bind fun v4=> (Z0y 48 (([]:List Z00)++x0).length).bind fun v5=> (Z0y 48 ((([]:List Z00)++x0)++[x1]).length).bind fun v6=> some (((([]:List Z00)++x0)++[x1]),v4,0))) | .inr y0=>(some y0)
def Zvk (x0:List Z00) (x1:Z00):Int→SL:= fun t0=>⟨36,[(0,.sl false (x0.map Z09)),(3,.ptr (Z09 x1)),(7,dI t0)],[]⟩
def J153x1 (x0:List Z00) (x1:Z00):JT (Unit⊕((List Z00)×Int×Int)):= ju (je 0 fun q0:Unit=>⟨36,[(0,.sl false (x0.map Z09)),(3,.ptr (Z09 x1))],[]⟩) (jr prog f153 R153)
theorem wl153x1 {x0 x1 t0 r Γ} (h:(Zfi x0 x1) t0=some r):A prog Γ (lpC f153 21) [] (Rd (Zvk x0 x1) (J153x1 x0 x1) r) ((Zvk x0 x1) t0).s:= go [] [rg 2 [(2,ln x0)]]<|br h (fun h2 h=>bd h fun v1 e1 h=>go [] [rg 4 [(2,ix e1),(5,qs eqg_242 eqp_242 (Zq4 v1 x1))]]<|br h (fun h3 h=>bd h fun v2 e2 h=>go [] [rg 5 [(2,n e2)]]<|dn h (i2 iR)) fun h3 h=> bd h fun v3 e3 h=>go [] [rg 3 [(1,n e3)]]<|nx h) fun h2 h=> go [] []<|dn h (i1 iE)
theorem w153 {x0 x1 r} (h:Z6o x0 x1=some r):Z08 prog 153 [.sl false (x0.map Z09),.agg (Z09 x1)] (R153 r):= cs f153<|go [] [rg 0 [(0,bo)]]<|bd h fun q1 e4 h=>lp e4 wl153x1<|match q1,h with | .inl q0,h=>j1<|(qe<|goN [] [rg 6 [(1,ln x0)]]<|br h (fun h4 h=>go [] []<|rt h) fun h4 h=> bd h fun v4 e5 h=>bd h fun v5 e6 h=>bd h fun v6 e7 h=>go [] [rgq 8 [(7,ln x0),(8,n e5),(0,br0 0 5),(4,br0 1 5),(2,an fr0 e6),(5,ap e7)] [1,3,6,7,8,0,4,2,5,9,10,11] [2,5,1003,1006,1007,1008,2004,1004]]<|rtB h (.tup [rw_ ((([]:List Z00)++x0)++[x1]),dI v4,dI 0]) (a2 (rpI ((([]:List Z00)++x0)++[x1])) (a2 trivial (a2 trivial trivial))) (by simp only [rwE] <;> kernel_rfl)) | .inr y0,h=>j2<|(qr h)
def R151 (y0:(List Z00)×Int×Int):D:= .tup [.sl false (y0.1.map Z09),.int .i64 y0.2.1,.int .i64 y0.2.2]
def Z7j (x0:List Z00) (x1:List UInt8):Option ((List Z00)×Int×Int):= (Z6o x0 (Z00.mk 1 x1 0 0 0)).bind fun v0=> some (v0.1,v0.2.1,v0.2.2)
theorem w151 {x0 x1 r} (h:Z7j x0 x1=some r):Z08 prog 151 [.sl false (x0.map Z09),.str x1] (R151 r):= cs f151<|bd h fun v0 e0 h=>go [] [rg 1 [(3,k (w153 e0))]]<|rt h
def R180 (y0:(List Z00)×Int×Int):D:= .tup [.sl false (y0.1.map Z09),.int .i64 y0.2.1,.int .i64 y0.2.2]
def Zbz (x0:List Z00) (x1:Int) (x2:List UInt8):Option ((List Z00)×Int×Int):= (Z7j x0 x2).bind fun v0=> if (v0.2.2 !=0) then (some (x0,0,v0.2.2)) else ((Z6o v0.1 (Z00.mk x1 [] 0 v0.2.1 0)).bind fun v1=> if (v1.2.2 !=0) then (some (x0,0,v1.2.2)) else (some (v1.1,v1.2.1,0)))
theorem w180 {x0 x1 x2 r} (h:Zbz x0 x1 x2=some r):Z08 prog 180 [.sl false (x0.map Z09),dI x1,.str x2] (R180 r):= cs f180<|bd h fun v0 e0 h=>go [] [rg 1 [(2,k (w151 e0))]]<|br h (fun h0 h=>go [] []<|rt h) fun h0 h=> bd h fun v1 e1 h=>go [] [rg 4 [(4,k (w153 e1))]]<|br h (fun h1 h=>go [] []<|rt h) fun h1 h=> go [] []<|rt h
def R150 (y0:(List Z00)×Int×Int):D:= .tup [.sl false (y0.1.map Z09),.int .i64 y0.2.1,.int .i64 y0.2.2]
def Zah (x0:List Z00) (x1:List UInt8):Option ((List Z00)×Int×Int):= (Zbz x0 7 x1).bind fun v0=> some (v0.1,v0.2.1,v0.2.2)
theorem w150 {x0 x1 r} (h:Zah x0 x1=some r):Z08 prog 150 [.sl false (x0.map Z09),.str x1] (R150 r):= cs f150<|bd h fun v0 e0 h=>go [] [rg 1 [(2,k (w180 e0))]]<|rt h
def B128 (y0:Z0n×Int):List Blk:=[{ sz:=2,rows:=[Z3x y0.1],frz:=0,pure:=false,pin:=some 0 }]
def R128 (y0:Z0n×Int):D:= .int .i64 y0.2
def Z7z (x0:Z0n) (x1:List UInt8):Option (Z0n×Int):= if (x0.f_E !=0) then (some (x0,0)) else ((Zah x0.f_P x1).bind fun v0=> some ((Z0n.mk v0.1 v0.2.2),v0.2.1))
theorem w128 {x0 x1 r} (h:Z7z x0 x1=some r):Z4e prog 128 [.lptr 0 0 0,.str x1] [{ sz:=2,rows:=[Z3x x0],frz:=0,pure:=false,pin:=some 0 }] (R128 r) (B128 r):= csO f128 (m:=1) (keep:=[true])<|go [] []<|br h (fun h0 h=>go [] []<|rtO h (dI 0) [{ sz:=2,rows:=[Z3x x0],frz:=0,pure:=false,pin:=some 0 }] (a2 trivial trivial) rfl) fun h0 h=> bd h fun v0 e0 h=>go [] [rg 3 [(5,k (w150 e0))]]<|rtO h (dI v0.2.1) [{ sz:=2,rows:=[[.sl false (v0.1.map Z09),dI v0.2.2]],frz:=0,pure:=false,pin:=some 0 }] (a2 trivial trivial) rfl
def B129 (y0:Z0n×Int):List Blk:=[{ sz:=2,rows:=[Z3x y0.1],frz:=0,pure:=false,pin:=some 0 }]
def R129 (y0:Z0n×Int):D:= .int .i64 y0.2
def Z5u (x0:Z0n) (x1:List UInt8):Option (Z0n×Int):= if (x0.f_E !=0) then (some (x0,0)) else ((Z7j x0.f_P x1).bind fun v0=> some ((Z0n.mk v0.1 v0.2.2),v0.2.1))
theorem Z8g {x0 x1 r} (h:Z5u x0 x1=some r):Z4e prog 129 [.lptr 0 0 0,.str x1] [{ sz:=2,rows:=[Z3x x0],frz:=0,pure:=false,pin:=some 0 }] (R129 r) (B129 r):= csO f129 (m:=1) (keep:=[true])<|go [] []<|br h (fun h0 h=>go [] []<|rtO h (dI 0) [{ sz:=2,rows:=[Z3x x0],frz:=0,pure:=false,pin:=some 0 }] (a2 trivial trivial) rfl) fun h0 h=> bd h fun v0 e0 h=>go [] [rg 3 [(5,k (w151 e0))]]<|rtO h (dI v0.2.1) [{ sz:=2,rows:=[[.sl false (v0.1.map Z09),dI v0.2.2]],frz:=0,pure:=false,pin:=some 0 }] (a2 trivial trivial) rfl
def R152 (y0:(List Z00)×Int×Int):D:= .tup [.sl false (y0.1.map Z09),.int .i64 y0.2.1,.int .i64 y0.2.2]
def Zb0 (x0:List Z00) (x1:List UInt8):Option ((List Z00)×Int×Int):= (Zbz x0 8 x1).bind fun v0=> some (v0.1,v0.2.1,v0.2.2)
theorem w152 {x0 x1 r} (h:Zb0 x0 x1=some r):Z08 prog 152 [.sl false (x0.map Z09),.str x1] (R152 r):= cs f152<|bd h fun v0 e0 h=>go [] [rg 1 [(2,k (w180 e0))]]<|rt h
def B131 (y0:Z0n×Int):List Blk:=[{ sz:=2,rows:=[Z3x y0.1],frz:=0,pure:=false,pin:=some 0 }]
def R131 (y0:Z0n×Int):D:= .int .i64 y0.2
def Zng (p0:List Z00) (p1 p2:Int):Option (Z0n×Int):= some ((Z0n.mk p0 p2),p1)
def Zob (x0:Z0n) (x1:Z5m):Option (Z0n×Int):= if (x0.f_E !=0) then (some (x0,0)) else (if (x1.Z68==8) then ((Zb0 x0.f_P x1.f_S).bind fun v0=> Zng v0.1 v0.2.1 v0.2.2) else ((Z6o x0.f_P (Z00.mk x1.Z68 [] x1.f_N 0 0)).bind fun v1=> Zng v1.1 v1.2.1 v1.2.2))
theorem Zwq (x0:Z0n) {p0 p1 p2 r Γ} (h:Zng p0 p1 p2=some r):Jn prog f131 Γ (Zci prog f131 1 [true] (R131 r) (B131 r)) 47 ⟨54,[(0,.lptr 0 0 0),(5,.sl false (p0.map Z09)),(6,dI p1),(7,dI p2)],[(0,{ sz:=2,rows:=[Z3x x0],frz:=0,pure:=false,pin:=some 0 })]⟩:= so<|go [] []<|rtO h (dI p1) [{ sz:=2,rows:=[[.sl false (p0.map Z09),dI p2]],frz:=0,pure:=false,pin:=some 0 }] (a2 trivial trivial) rfl
theorem w131 {x0 x1 r} (h:Zob x0 x1=some r):Z4e prog 131 [.lptr 0 0 0,.agg (Z89 x1)] [{ sz:=2,rows:=[Z3x x0],frz:=0,pure:=false,pin:=some 0 }] (R131 r) (B131 r):= csO f131 (m:=1) (keep:=[true])<|go [] [rg 0 [(0,bo)]]<|br h (fun h0 h=>go [] []<|rtO h (dI 0) [{ sz:=2,rows:=[Z3x x0],frz:=0,pure:=false,pin:=some 0 }] (a2 trivial trivial) rfl) fun h0 h=> go [] []<|br h (fun h1 h=>bd h fun v0 e0 h=>go [7] [rg 5 [(6,k (w152 e0))]]<|jn ((Zwq x0) h)) fun h1 h=> bd h fun v1 e1 h=>go [7] [rg 6 [(9,k (w153 e1))]]<|jn ((Zwq x0) h)
def R163 (y0:Bool):D:= .bool y0
def Zii (x0:Int):Option (Bool):= if (x0==1) then (some true) else (if (x0==2) then (some true) else (if (x0==4) then (some true) else (some (x0==8))))
theorem w163 {x0 r} (h:Zii x0=some r):Z08 prog 163 [dI x0] (R163 r):= cs f163<|go [1] []<|po<|pr 3 []<|sp h (fun h0 h=>pr 12 (gA h0 3 2 [(5,py h0)])<|pe<|goN [] []<|rt h) fun h0 h=> pr 4 (gC h0 3 2 [(5,pn h0)])<|sp h (fun h1 h=>pr 8 (gA h1 7 2 [(9,py h1)])<|pe<|goN [] []<|rt h) fun h1 h=> pr 4 (gC h1 7 2 [(9,pn h1)])<|sp h (fun h2 h=>pr 4 (gA h2 11 2 [(13,py h2)])<|pe<|goN [] []<|rt h) fun h2 h=> pr 4 (gC h2 11 2 [(13,pn h2)])<|pe<|goN [] []<|rt h
def R136 (y0:(List UInt8)×Int):D:= .tup [.str y0.1,.int .i64 y0.2]
def Zo1 (t0:Int×Int×(List Int)):Option (Ctl (Int×Int×(List Int)) (((List Int)))):= if (decide (t0.2.1≥0)) then ((some (Z27 .i64 t0.1 255)).bind fun v16=> (some (IntKind.wrap .u8 v16)).bind fun v17=> (Z3h t0.2.1 t0.2.2.length).bind fun v18=> (t0.2.2[v18]?).bind fun v19=> (shrK .i64 t0.1 8).bind fun v20=> (some (IntKind.wrap .i64 (t0.2.1 - 1))).bind fun v21=> some (.next (v20,v21,(t0.2.2.set v18 v17)))) else (some (.done (t0.2.2)))
def Zg8 (x0 x1:Int):Option ((List UInt8)×Int):= (Z7l 1 x1 x1).bind fun v8=> (some (IntKind.wrap .i64 (x1 - 1))).bind fun v9=> (Z06 Zo1 Z07 (x0,v9,(List.replicate x1.toNat 0))).bind fun q0=> some ((bytesOf q0),0)
def Z9n (x0 x1:Int):Option ((List UInt8)×Int):= (Zii x1).bind fun v0=> if (!v0) then (some ([],1)) else (if (decide (x1<8)) then ((some (IntKind.wrap .i64 (8*x1))).bind fun v1=> (some (IntKind.wrap .i64 (v1 - 1))).bind fun v2=> (Z7e .i64 1 v2).bind fun v3=> (some (IntKind.wrap .i64 (0 - v3))).bind fun v4=> if (decide (x0<v4)) then (some ([],8)) else ((some (IntKind.wrap .i64 (8*x1))).bind fun v5=> (Z7e .i64 1 v5).bind fun v6=> (some (IntKind.wrap .i64 (v6 - 1))).bind fun v7=> if (decide (x0>v7)) then (some ([],8)) else ((Zg8 x0 x1)))) else ((Zg8 x0 x1)))
def Y2x:(Int×Int×(List Int))→SL:= fun t0=>⟨50,[(6,.lsl 6 0 ((t0.2.2.map rU8).length)),(7,dI t0.1),(8,dI t0.2.1)],[(6,{ sz:=1,rows:=(t0.2.2.map rU8),frz:=0,pure:=true })]⟩
def J136x1:JT (((List Int))):= je 0 fun q0:(List Int)=>⟨50,[(6,.lsl 6 0 ((q0.map rU8).length))],[(6,{ sz:=1,rows:=(q0.map rU8),frz:=0,pure:=true })]⟩
theorem wl136x1 {t0 r Γ} (h:Zo1 t0=some r):A prog Γ (lpC f136 351) [] (Rd Y2x J136x1 r) (Y2x t0).s:= go [] []<|br h (fun h5 h=>bd h fun v16 e16 h=>bd h fun v17 e17 h=>bd h fun v18 e18 h=>bd h fun v19 e19 h=>go [11] [rg 10 [(3,n e16),(4,n8 e17),(5,ia (R:=RU8) 6 e18),(6,st (R:=RU8) e19 0 [d8 v17] v17)]]<|nm (congrArg (fun nn:Nat=>(⟨50,[(6,.lsl 6 0 nn),(7,dI t0.1),(8,dI t0.2.1)],[(6,{ sz:=1,rows:=((t0.2.2.set v18 v17).map rU8),frz:=0,pure:=true })]⟩:SL)) (by simp only [List.length_map,List.length_set]:(t0.2.2.map rU8).length=((t0.2.2.set v18 v17).map rU8).length))<|so<|bd h fun v20 e20 h=>bd h fun v21 e21 h=>go [] [rg 11 [(1,sr e20)],rg 9 [(1,n e21)]]<|nx h) fun h5 h=> go [] []<|dn h (iE)
theorem Zya {x0 x1 r Γ} (h:(Zg8 x0 x1)=some r):Jn prog f136 Γ (Den.Ends prog f136 (R136 r)) 23 ⟨50,[(0,dI x0),(1,dI x1)],[]⟩:= so<|bd h fun v8 e8 h=>bd h fun v9 e9 h=>go [] [rg 5 [(1,mk (R:=RU8) 0 e8)],rg 7 [(1,n e9)]]<|bd h fun q0 e22 h=>lp (ps:=[(32,6)]) e22 wl136x1<|qe<|goN [] [rg 12 [(1,bsB q0)]]<|rt h
theorem w136 {x0 x1 r} (h:Z9n x0 x1=some r):Z08 prog 136 [dI x0,dI x1] (R136 r):= cs f136<|bd h fun v0 e0 h=>go [] [rg 1 [(1,k (w163 e0))]]<|br h (fun h0 h=>go [] []<|rt h) fun h0 h=> go [3] []<|po<|pr 3 []<|sp h (fun h1 h=>bd h fun v1 e1 h=>bd h fun v2 e2 h=>bd h fun v3 e3 h=>bd h fun v4 e4 h=>pr 8 (gC h1 3 2 ((5,gw h1 (n e1))::(6,gw h1 (n e2))::(7,gw h1 (sl e3))::(8,gw h1 (n e4))::gC h1 9 2 []))<|sp h (fun h2 h=>pr 8 (gA h2 11 6 [(17,gw h1 (py h2)),(18,py h1)])<|pe<|goN [] []<|bT rfl<|go [] []<|rt h) fun h2 h=> bd h fun v5 e5 h=>bd h fun v6 e6 h=>bd h fun v7 e7 h=>pr 8 (gC h2 11 2 [(13,gw h2 (n e5)),(14,gw h2 (sl e6)),(15,gw h2 (n e7)),(16,gw h2 g0),(17,gw h1 (pn h2)),(18,py h1)])<|pe<|goN [] []<|br h (fun h3 h=>go [] []<|rt h) fun h3 h=> go [5] []<|jn (Zya h)) fun h1 h=> pr 16 (gB h1 3 8 [(17,gs1 h1),(18,pn h1)])<|pe<|goN [] []<|bF rfl<|go [5] []<|jn (Zya h)
def R130 (y0:(List UInt8)):D:= .str y0
def Zlf (x0:Int):Option ((List UInt8)):= (Z9n x0 2).bind fun v0=> some v0.1
theorem w130 {x0 r} (h:Zlf x0=some r):Z08 prog 130 [dI x0] (R130 r):= cs f130<|bd h fun v0 e0 h=>go [] [rg 1 [(1,k (w136 e0))]]<|rt h
def R211 (y0:Bool):D:= .bool y0
def Zas (x0:Int):Option (Bool):= if (decide (x0≥0)) then (some (decide (x0<81))) else (some false)
theorem w211 {x0 r} (h:Zas x0=some r):Z08 prog 211 [dI x0] (R211 r):= cs f211<|sp h (fun h0 h=>go [] [rg 1 [(1,kb h0)]]<|rt h) fun h0 h=> go [] [rg 1 [(1,kb h0)]]<|rt h
def R186 (y0:Bool):D:= .bool y0
def Z7q (x0 x1 x2:Int):Option (Bool):= if (decide (x0≥x1)) then (some (decide (x0≤x2))) else (some false)
theorem w186 {x0 x1 x2 r} (h:Z7q x0 x1 x2=some r):Z08 prog 186 [dI x0,dI x1,dI x2] (R186 r):= cs f186<|sp h (fun h0 h=>go [] [rg 1 [(2,kb h0)]]<|rt h) fun h0 h=> go [] [rg 1 [(2,kb h0)]]<|rt h
def R184 (y0:Int):D:= .int .i64 y0
def Zlo (x0 : Int):Option (Int):= (Z7q x0 36 52).bind fun v2=> if v2 then (some 3) else ((Z7q x0 4 9).bind fun v3=> if v3 then (some 4) else (if (x0 == 10) then (some 5) else (if (x0==53) then (some 6) else (if (x0==54) then (some 7) else (some 0)))))
def Zoo (x0:Int):Option (Int):= if (x0==77) then (some 2) else ((Zlo x0))
def Z7g (x0 : Int):Option (Int):= (Zas x0).bind fun v0=> if (!v0) then (some (-1)) else (if (x0 == 2) then (some 1) else (if (x0 == 3) then (some 2) else ((Z7q x0 59 68).bind fun v1=> if v1 then (some 2) else (if (x0==76) then (some 2) else ((Zoo x0))))))
theorem wj184x2 {x0 r Γ} (h:(Zlo x0)=some r):Jn prog f184 Γ (Den.Ends prog f184 (R184 r)) 1529 ⟨34,[(0,dI x0)],[]⟩:= so<|bd h fun v2 e2 h=>go [] [rg 10 [(1,k (w186 e2))]]<|br h (fun h6 h=>go [] []<|rt h) fun h6 h=> bd h fun v3 e3 h=>go [] [rg 12 [(1,k (w186 e3))]]<|br h (fun h7 h=>go [] []<|rt h) fun h7 h=> go [] []<|br h (fun h8 h=>go [] []<|rt h) fun h8 h=> go [] []<|br h (fun h9 h=>go [] []<|rt h) fun h9 h=> go [] []<|br h (fun h10 h=>go [] []<|rt h) fun h10 h=> go [] []<|rt h
theorem wj184x1 {x0 r Γ} (h:(Zoo x0)=some r):Jn prog f184 Γ (Den.Ends prog f184 (R184 r)) 505 ⟨34,[(0,dI x0),(10,.bool (x0==77))],[]⟩ (x0==77):= br h (fun h5 h=>go [] []<|rt h) fun h5 h=> go [10] []<|jn (wj184x2 h)
theorem w184 {x0 r} (h:Z7g x0=some r):Z08 prog 184 [dI x0] (R184 r):= cs f184<|bd h fun v0 e0 h=>go [] [rg 1 [(1,k (w211 e0))]]<|br h (fun h0 h=>go [] []<|rt h) fun h0 h=> go [] []<|br h (fun h1 h=>go [] []<|rt h) fun h1 h=> go [] []<|br h (fun h2 h=>go [] []<|bT h2<|go [] []<|rt h) fun h2 h=> bd h fun v1 e1 h=>go [] [rg 6 [(1,k (w186 e1))]]<|br h (fun h3 h=>go [] []<|bT h3<|go [] []<|rt h) fun h3 h=> go [] []<|br h (fun h4 h=>go [] []<|bT h4<|go [] []<|rt h) fun h4 h=> go [] []<|jn (wj184x1 h)
def R189 (y0:Bool):D:= .bool y0
def Zhw (x0 : Z01) (x1:Int):Option (Bool):= if (x0.f_To != 0) then (if (x1 !=3) then (if (x1 !=6) then (if (x1 !=7) then (some false) else (if ((x0.Z0z.length:Int)==0) then (if ((x0.Z0c.length:Int)==0) then (some true) else (if (x1==6) then (some true) else (some (x1==7)))) else (if (x1==7) then (if ((x0.Z0c.length:Int)==0) then (some true) else (if (x1==6) then (some true) else (some true))) else (some false)))) else (if ((x0.Z0z.length:Int)==0) then (if ((x0.Z0c.length:Int)==0) then (some true) else (if (x1==6) then (some true) else (some (x1==7)))) else (if (x1==7) then (if ((x0.Z0c.length:Int)==0) then (some true) else (if (x1==6) then (some true) else (some true))) else (some false)))) else (if ((x0.Z0z.length:Int)==0) then (if ((x0.Z0c.length:Int)==0) then (some true) else (if (x1==6) then (some true) else (some (x1==7)))) else (if (x1==7) then (if ((x0.Z0c.length:Int)==0) then (some true) else (if (x1==6) then (some true) else (some true))) else (some false)))) else (if ((x0.Z0z.length:Int)==0) then (if ((x0.Z0c.length:Int)==0) then (some true) else (if (x1==6) then (some true) else (some (x1==7)))) else (if (x1==7) then (if ((x0.Z0c.length:Int)==0) then (some true) else (if (x1==6) then (some true) else (some true))) else (some false)))
def Zi1 (x0:Z01) (x1:Int):Option (Bool):= if (x0.f_B !=0) then (if (x1 !=5) then (some false) else ((Zhw x0 x1))) else ((Zhw x0 x1))
def Zji (x0:Z01) (x1:Int):Option (Bool):= if (x0.f_A !=0) then (if (x1==0) then (some false) else (if (x1==3) then (some false) else (if (x1==7) then (some false) else ((Zi1 x0 x1))))) else ((Zi1 x0 x1))
def Zeb (x0:Z01) (x1:Int):Option (Bool):= if (!(Zpe x0.Z1k (Z1t.mk [] [] []))) then (some false) else (if (!(x0.f_S==([]:List UInt8))) then (some false) else ((Zji x0 x1)))
theorem Y05 {x0 x1 r Γ} (h:(Zhw x0 x1)=some r):Jn prog f189 Γ (Den.Ends prog f189 (R189 r)) 79 ⟨73,[(1,dI x1),(2,.ptr (Z0h x0))],[]⟩:= po <| pr 4 [] <| sp h (fun h8 h=>pr 4 (gC h8 4 2 [(6,py h8)])<|sp h (fun h9 h=>pr 4 (gC h9 8 2 [(10,py h9)])<|sp h (fun h10 h=>pr 3 (gC h10 12 2 [(14,py h10)])<|pe<|goN [] []<|br h (fun h11 h=>go [] []<|rt h) fun h11 h=> go [9] []<|po<|pr 5 [(2,ln x0.Z0z)]<|sp h (fun h12 h=>pr 9 (gA h12 5 2 [(7,py h12),(11,ln x0.Z0c)])<|sp h (fun h13 h=>pr 9 (gA h13 14 2 [(16,py h13)])<|pe<|goN [] []<|rt h) fun h13 h=> pr 4 (gC h13 14 2 [(16,pn h13)])<|sp h (fun h14 h=>pr 5 (gA h14 18 2 [(20,py h14)])<|pe<|goN [] []<|rt h) fun h14 h=> pr 5 (gC h14 18 2 [(20,pn h14)])<|pe<|goN [] []<|rt h) fun h12 h=> pr 4 (gC h12 5 2 [(7,pn h12)])<|sp h (fun h15 h=>pr 5 (gC h15 9 2 ((11,gw h15 (ln x0.Z0c))::gC h15 12 2 []))<|sp h (fun h16 h=>pr 9 (gA h16 14 2 [(16,gw h15 (py h16)),(17,gw h15 g0),(20,gw h15 g0),(21,py h15)])<|pe<|goN [] []<|rt h) fun h16 h=> pr 4 (gC h16 14 2 [(16,gw h15 (pn h16)),(17,gw h15 g0)])<|sp h (fun h17 h=>pr 5 (gA h17 18 2 [(20,gw h15 (py h17)),(21,py h15)])<|pe<|goN [] []<|rt h) fun h17 h=> pr 5 [(18,gw h17 g0),(19,gw h17 (kb h15)),(20,gw h15 (pn h17)),(21,py h15)]<|pe<|goN [] []<|rt h) fun h15 h=> pr 14 (gB h15 9 5 (gB h15 16 2 [(20,gs1 h15),(21,pn h15)]))<|pe<|goN [] []<|rt h) fun h10 h=> pr 3 (gB h10 12 2 [(14,pn h10)])<|pe<|goN [] []<|bF rfl<|go [9] []<|po<|pr 5 [(2,ln x0.Z0z)]<|sp h (fun h18 h=>pr 9 (gA h18 5 2 [(7,py h18),(11,ln x0.Z0c)])<|sp h (fun h19 h=>pr 9 (gA h19 14 2 [(16,py h19)])<|pe<|goN [] []<|rt h) fun h19 h=> pr 4 (gC h19 14 2 [(16,pn h19)])<|sp h (fun h20 h=>pr 5 (gA h20 18 2 [(20,py h20)])<|pe<|goN [] []<|rt h) fun h20 h=> pr 5 (gC h20 18 2 [(20,pn h20)])<|pe<|goN [] []<|rt h) fun h18 h=> pr 4 (gC h18 5 2 [(7,pn h18)])<|sp h (fun h21 h=>pr 5 (gC h21 9 2 ((11,gw h21 (ln x0.Z0c))::gC h21 12 2 []))<|sp h (fun h22 h=>pr 9 (gA h22 14 2 [(16,gw h21 (py h22)),(17,gw h21 g0),(20,gw h21 g0),(21,py h21)])<|pe<|goN [] []<|rt h) fun h22 h=> pr 4 (gC h22 14 2 [(16,gw h21 (pn h22)),(17,gw h21 g0)])<|sp h (fun h23 h=>pr 5 (gA h23 18 2 [(20,gw h21 (py h23)),(21,py h21)])<|pe<|goN [] []<|rt h) fun h23 h=> pr 5 [(18,gw h23 g0),(19,gw h23 (kb h21)),(20,gw h21 (pn h23)),(21,py h21)]<|pe<|goN [] []<|rt h) fun h21 h=> pr 14 (gB h21 9 5 (gB h21 16 2 [(20,gs1 h21),(21,pn h21)]))<|pe<|goN [] []<|rt h) fun h9 h=> pr 7 (gB h9 8 2 [(10,pn h9)])<|pe<|goN [] []<|bF rfl<|go [9] []<|po<|pr 5 [(2,ln x0.Z0z)]<|sp h (fun h24 h=>pr 9 (gA h24 5 2 [(7,py h24),(11,ln x0.Z0c)])<|sp h (fun h25 h=>pr 9 (gA h25 14 2 [(16,py h25)])<|pe<|goN [] []<|rt h) fun h25 h=> pr 4 (gC h25 14 2 [(16,pn h25)])<|sp h (fun h26 h=>pr 5 (gA h26 18 2 [(20,py h26)])<|pe<|goN [] []<|rt h) fun h26 h=> pr 5 (gC h26 18 2 [(20,pn h26)])<|pe<|goN [] []<|rt h) fun h24 h=> pr 4 (gC h24 5 2 [(7,pn h24)])<|sp h (fun h27 h=>pr 5 (gC h27 9 2 ((11,gw h27 (ln x0.Z0c))::gC h27 12 2 []))<|sp h (fun h28 h=>pr 9 (gA h28 14 2 [(16,gw h27 (py h28)),(17,gw h27 g0),(20,gw h27 g0),(21,py h27)])<|pe<|goN [] []<|rt h) fun h28 h=> pr 4 (gC h28 14 2 [(16,gw h27 (pn h28)),(17,gw h27 g0)])<|sp h (fun h29 h=>pr 5 (gA h29 18 2 [(20,gw h27 (py h29)),(21,py h27)])<|pe<|goN [] []<|rt h) fun h29 h=> pr 5 [(18,gw h29 g0),(19,gw h29 (kb h27)),(20,gw h27 (pn h29)),(21,py h27)]<|pe<|goN [] []<|rt h) fun h27 h=> pr 14 (gB h27 9 5 (gB h27 16 2 [(20,gs1 h27),(21,pn h27)]))<|pe<|goN [] []<|rt h) fun h8 h=> pr 11 (gB h8 4 2 [(6,pn h8)])<|pe<|goN [] []<|bF rfl<|go [9] []<|po<|pr 5 [(2,ln x0.Z0z)]<|sp h (fun h30 h=>pr 9 (gA h30 5 2 [(7,py h30),(11,ln x0.Z0c)])<|sp h (fun h31 h=>pr 9 (gA h31 14 2 [(16,py h31)])<|pe<|goN [] []<|rt h) fun h31 h=> pr 4 (gC h31 14 2 [(16,pn h31)])<|sp h (fun h32 h=>pr 5 (gA h32 18 2 [(20,py h32)])<|pe<|goN [] []<|rt h) fun h32 h=> pr 5 (gC h32 18 2 [(20,pn h32)])<|pe<|goN [] []<|rt h) fun h30 h=> pr 4 (gC h30 5 2 [(7,pn h30)])<|sp h (fun h33 h=>pr 5 (gC h33 9 2 ((11,gw h33 (ln x0.Z0c))::gC h33 12 2 []))<|sp h (fun h34 h=>pr 9 (gA h34 14 2 [(16,gw h33 (py h34)),(17,gw h33 g0),(20,gw h33 g0),(21,py h33)])<|pe<|goN [] []<|rt h) fun h34 h=> pr 4 (gC h34 14 2 [(16,gw h33 (pn h34)),(17,gw h33 g0)])<|sp h (fun h35 h=>pr 5 (gA h35 18 2 [(20,gw h33 (py h35)),(21,py h33)])<|pe<|goN [] []<|rt h) fun h35 h=> pr 5 [(18,gw h35 g0),(19,gw h35 (kb h33)),(20,gw h33 (pn h35)),(21,py h33)]<|pe<|goN [] []<|rt h) fun h33 h=> pr 14 (gB h33 9 5 (gB h33 16 2 [(20,gs1 h33),(21,pn h33)]))<|pe<|goN [] []<|rt h
theorem Y24 {x0 x1 r Γ} (h:(Zi1 x0 x1)=some r):Jn prog f189 Γ (Den.Ends prog f189 (R189 r)) 39 ⟨73,[(1,dI x1),(2,.ptr (Z0h x0))],[]⟩:= so<|sp h (fun h6 h=>go [] [rg 5 [(2,kb h6)]]<|br h (fun h7 h=>go [] []<|rt h) fun h7 h=> go [7] []<|jn (Y05 h)) fun h6 h=> go [] [rg 5 [(2,kb h6)]]<|bF rfl<|go [7] []<|jn (Y05 h)
theorem wj189x1 {x0 x1 r Γ} (h:(Zji x0 x1)=some r):Jn prog f189 Γ (Den.Ends prog f189 (R189 r)) 19 ⟨73,[(1,dI x1),(2,.ptr (Z0h x0))],[]⟩:= po <| pr 4 []<|sp h (fun h2 h=>pr 3 (gC h2 4 3 [])<|sp h (fun h3 h=>pr 8 (gA h3 7 2 [(9,gw h2 (py h3)),(10,gw h2 g0),(13,gw h2 g0),(14,py h2)])<|pe<|goN [] []<|bT rfl<|go [] []<|rt h) fun h3 h=> pr 4 (gC h3 7 2 [(9,gw h2 (pn h3)),(10,gw h2 g0)])<|sp h (fun h4 h=>pr 4 (gA h4 11 2 [(13,gw h2 (py h4)),(14,py h2)])<|pe<|goN [] []<|bT rfl<|go [] []<|rt h) fun h4 h=> pr 4 (gC h4 11 2 [(13,gw h2 (pn h4)),(14,py h2)])<|pe<|goN [] []<|br h (fun h5 h=>go [] []<|rt h) fun h5 h=> go [5] []<|jn (Y24 h)) fun h2 h=> pr 11 (gB h2 4 3 (gB h2 9 2 [(13,gs1 h2),(14,pn h2)]))<|pe<|goN [] []<|bF rfl<|go [5] []<|jn (Y24 h)
theorem w189 {x0 x1 r} (h:Zeb x0 x1=some r):Z08 prog 189 [.agg (Z0h x0),dI x1] (R189 r):= cs f189<|sp h (fun h0 h=>go [] [rg 0 [(0,bo)],rg 1 ((3,qs Y0x Zy0 (!(Zpe x0.Z1k (Z1t.mk [] [] []))))::gA h0 5 3 [(8,py h0)])]<|bT rfl<|go [] []<|rt h) fun h0 h=> go [] [rg 0 [(0,bo)],rg 1 ((3,qs Y0x Zy0 (!(Zpe x0.Z1k (Z1t.mk [] [] []))))::gC h0 5 3 [(8,pn h0)])]<|br h (fun h1 h=>go [] []<|rt h) fun h1 h=> go [3] []<|jn (wj189x1 h)
def R190 (y0:Bool):D:= .bool y0
def Zcv (x0:Z01) (t0:Int):Option (Ctl (Int) (Unit⊕Bool)):= if (decide (t0<(x0.Z0c.length:Int))) then ((Z02 x0.Z0c t0).bind fun v2=> if (decide (v2<0)) then (some (.done (.inr false))) else ((Z02 x0.Z0c t0).bind fun v3=> if (decide (v3≥1000)) then (some (.done (.inr false))) else ((some (IntKind.wrap .i64 (t0+1))).bind fun v4=> some (.next v4)))) else (some (.done (.inl (()))))
def Zmh (x0:Z01):Option (Bool):= (Z06 (Zcv x0) Z07 0).bind fun q1=> match q1 with | .inl q0=>(some true) | .inr y0=>(some y0)
def Z8r (x0:Z01):Option (Bool):= if (decide (x0.f_To<0)) then (some false) else (if (decide (x0.f_To≥1000)) then (some false) else ((Zmh x0)))
def Y0d (x0:Z01):Int→SL:= fun t0=>⟨33,[(1,.ptr (Z0h x0)),(3,dI t0)],[]⟩
def J190x1:JT (Unit⊕Bool):= ju (je 0 fun q0:Unit=>⟨33,[],[]⟩) (jr prog f190 R190)
theorem wl190x1 {x0 t0 r Γ} (h:(Zcv x0) t0=some r):A prog Γ (lpC f190 43) [] (Rd (Y0d x0) J190x1 r) ((Y0d x0) t0).s:= go [] [rg 4 [(3,ln x0.Z0c)]]<|br h (fun h5 h=>bd h fun v2 e2 h=>sp h (fun h6 h=>go [] [rg 6 [(3,ix e2),(5,kb h6)]]<|bT rfl<|go [] []<|dn h (i2 iR)) fun h6 h=> bd h fun v3 e3 h=>go [] [rg 6 [(3,ix e2),(5,kb h6),(10,ix e3)]]<|br h (fun h7 h=>go [] []<|dn h (i2 iR)) fun h7 h=> bd h fun v4 e4 h=>go [] [rg 5 [(1,n e4)]]<|nx h) fun h5 h=> go [] []<|dn h (i1 iE)
theorem wj190x1 {x0 r Γ} (h:(Zmh x0)=some r):Jn prog f190 Γ (Den.Ends prog f190 (R190 r)) 19 ⟨33,[(1,.ptr (Z0h x0))],[]⟩:= so<|go [] []<|bd h fun q1 e5 h=>lp e5 wl190x1<|match q1,h with | .inl q0,h=>j1<|(qe<|goN [] []<|rt h) | .inr y0,h=>j2<|(qr h)
theorem w190 {x0 r} (h:Z8r x0=some r):Z08 prog 190 [.agg (Z0h x0)] (R190 r):= cs f190<|sp h (fun h0 h=>go [] [rg 0 [(0,bo)],rg 1 [(2,kb h0)]]<|bT rfl<|go [] []<|rt h) fun h0 h=> go [] [rg 0 [(0,bo)],rg 1 [(2,kb h0)]]<|br h (fun h1 h=>go [] []<|rt h) fun h1 h=> go [3] []<|jn (wj190x1 h)
def R218 (y0:Bool):D:= .bool y0
def Zhd (x0:Int):Option (Bool):= if (decide (x0≥(-2147483648))) then (some (decide (x0≤2147483647))) else (some false)
theorem w218 {x0 r} (h:Zhd x0=some r):Z08 prog 218 [dI x0] (R218 r):= cs f218<|sp h (fun h0 h=>go [] [rg 1 [(1,kb h0)]]<|rt h) fun h0 h=> go [] [rg 1 [(1,kb h0)]]<|rt h
end Go.Proofs
