/-
  Models of functions of the program, and that the functions compute them. Printed by den3.py. No condition.
-/
import Derived.Test.YtiogflechpgdiaaGreatRows
import Derived.Test.YtiogflechpgdiaaGreatDenOwn
set_option linter.unusedVariables false
namespace Go.Proofs
open Tryz
open Go.Den Go.Den.W
structure Z2b where
 a0:Int
 a1:Int
def Z2t (x:Z2b):List D:=[.int .i64 x.a0,.int .i64 x.a1]
instance:Row Z2b:=⟨Z2t,2,fun _=>rfl⟩
structure Z0h where
 Z1d:Int
 f_N:Int
def Z1m (x:Z0h):List D:=[.int .i64 x.Z1d,.int .i64 x.f_N]
instance:Row Z0h:=⟨Z1m,2,fun _=>rfl⟩
structure Z0x where
 Z0s:Int
 Z4a:Int
 f_PC:Int
 Z0d:List Z0h
 Z0i:List Z0h
 Z64:Int
 Z6j:Bool
 Z93:Bool
def Z2g (x:Z0x):List D:=[.int .i64 x.Z0s,.int .i64 x.Z4a,.int .i64 x.f_PC,.sl false (x.Z0d.map Z1m),.sl false (x.Z0i.map Z1m),.int .i64 x.Z64,.bool x.Z6j,.bool x.Z93]
instance:Row Z0x:=⟨Z2g,8,fun _=>rfl⟩
structure Z1g where
 Zxu:Int
 Z2y:List UInt8
def Z1u (x:Z1g):List D:=[.int .i64 x.Zxu,.str x.Z2y]
instance:Row Z1g:=⟨Z1u,2,fun _=>rfl⟩
structure Z5s where
 Z14:Int
 Z0f:List UInt8
 Z2i:List UInt8
 Z5h:Int
 f_N:Int
 f_S:List UInt8
def Z8c (x:Z5s):List D:=[.int .i64 x.Z14,.str x.Z0f,.str x.Z2i,.int .i64 x.Z5h,.int .i64 x.f_N,.str x.f_S]
instance:Row Z5s:=⟨Z8c,6,fun _=>rfl⟩
structure Z1w where
 Z0s:List UInt8
 Z0f:List UInt8
 Z2i:List UInt8
def Zj8 (x:Z1w):List D:=[.str x.Z0s,.str x.Z0f,.str x.Z2i]
instance:Row Z1w:=⟨Zj8,3,fun _=>rfl⟩
structure Z02 where
 f_Op:Int
 f_A:Int
 f_B:Int
 f_To:Int
 Z0z:List Int
 Z0c:List Int
 Z1f:Z1w
 f_S:List UInt8
def Z0e (x:Z02):List D:=[.int .i64 x.f_Op,.int .i64 x.f_A,.int .i64 x.f_B,.int .i64 x.f_To,.sl false (x.Z0z.map Z03),.sl false (x.Z0c.map Z03),.str x.Z1f.Z0s,.str x.Z1f.Z0f,.str x.Z1f.Z2i,.str x.f_S]
instance:Row Z02:=⟨Z0e,10,fun _=>rfl⟩
structure Z0o where
 Z6a:Int
 f_To:Int
 Z6e:Int
 Z0s:Int
 Z12:List UInt8
def Z10 (x:Z0o):List D:=[.int .i64 x.Z6a,.int .i64 x.f_To,.int .i64 x.Z6e,.int .i64 x.Z0s,.str x.Z12]
instance:Row Z0o:=⟨Z10,5,fun _=>rfl⟩
structure Z0j where
 Z2l:Int
 Z1p:Int
 Z0f:List UInt8
def Z1y (x:Z0j):List D:=[.int .i64 x.Z2l,.int .u8 x.Z1p,.str x.Z0f]
instance:Row Z0j:=⟨Z1y,3,fun _=>rfl⟩
structure Z0k where
 Z1d:Int
 Z3s:Int
 Z12:Z0j
 Z4h:Int
def Z1n (x:Z0k):List D:=[.int .i64 x.Z1d,.int .i64 x.Z3s,.int .i64 x.Z12.Z2l,.int .u8 x.Z12.Z1p,.str x.Z12.Z0f,.int .i64 x.Z4h]
instance:Row Z0k:=⟨Z1n,6,fun _=>rfl⟩
structure Z5t where
 Z0d:List Z0k
 Z0i:List Z0k
 Z6r:Bool
def Zo8 (x:Z5t):List D:=[.sl false (x.Z0d.map Z1n),.sl false (x.Z0i.map Z1n),.bool x.Z6r]
instance:Row Z5t:=⟨Zo8,3,fun _=>rfl⟩
structure Z0p where
 Z2o:Int
 Z1o:Z5t
def Z11 (x:Z0p):List D:=[.int .i64 x.Z2o,.sl false (x.Z1o.Z0d.map Z1n),.sl false (x.Z1o.Z0i.map Z1n),.bool x.Z1o.Z6r]
instance:Row Z0p:=⟨Z11,4,fun _=>rfl⟩
structure Z17 where
 Z2o:Int
 Z74:Int
def Z1h (x:Z17):List D:=[.int .i64 x.Z2o,.int .i64 x.Z74]
instance:Row Z17:=⟨Z1h,2,fun _=>rfl⟩
structure Z0b where
 Z0i:Int
 Z0d:Int
 Z0l:List Z02
 Z20:List Z0o
 Z1q:List Z0p
 Z1r:List Z17
def Z0t (x:Z0b):List D:=[.int .i64 x.Z0i,.int .i64 x.Z0d,.sl false (x.Z0l.map Z0e),.sl false (x.Z20.map Z10),.sl false (x.Z1q.map Z11),.sl false (x.Z1r.map Z1h)]
instance:Row Z0b:=⟨Z0t,6,fun _=>rfl⟩
structure Z2d where
 Z14:Int
 Z0f:List UInt8
 Z2i:List UInt8
 Z6k:Bool
 Z1v:Z0b
 Z67:List (List UInt8)
def Z55 (x:Z2d):List D:=[.int .i64 x.Z14,.str x.Z0f,.str x.Z2i,.bool x.Z6k,.int .i64 x.Z1v.Z0i,.int .i64 x.Z1v.Z0d,.sl false (x.Z1v.Z0l.map Z0e),.sl false (x.Z1v.Z20.map Z10),.sl false (x.Z1v.Z1q.map Z11),.sl false (x.Z1v.Z1r.map Z1h),.sl false (x.Z67.map Z2s)]
instance:Row Z2d:=⟨Z55,11,fun _=>rfl⟩
structure Z0y where
 Z14:Int
 Z0f:List UInt8
 Z21:List UInt8
 Z16:List (List UInt8)
 Z15:List Z5s
 Z13:List Z2d
 Z89:List UInt8
def Z2k (x:Z0y):List D:=[.int .i64 x.Z14,.str x.Z0f,.str x.Z21,.sl false (x.Z16.map Z2s),.sl false (x.Z15.map Z8c),.sl false (x.Z13.map Z55),.str x.Z89]
instance:Row Z0y:=⟨Z2k,7,fun _=>rfl⟩
structure Z1s where
 Z37:Int
 Z25:Z0y
 Z21:Int
 Z16:List Int
 Za2:Int
 Zdj:Int
def Z2h (x:Z1s):List D:=[.int .i64 x.Z37,.int .i64 x.Z25.Z14,.str x.Z25.Z0f,.str x.Z25.Z21,.sl false (x.Z25.Z16.map Z2s),.sl false (x.Z25.Z15.map Z8c),.sl false (x.Z25.Z13.map Z55),.str x.Z25.Z89,.int .i64 x.Z21,.sl false (x.Z16.map Z03),.int .i64 x.Za2,.int .i64 x.Zdj]
instance:Row Z1s:=⟨Z2h,12,fun _=>rfl⟩
structure Z8r where
 Zcc:List UInt8
 f_To:Int
def Zgc (x:Z8r):List D:=[.str x.Zcc,.int .i64 x.f_To]
instance:Row Z8r:=⟨Zgc,2,fun _=>rfl⟩
structure Z99 where
 Z0f:List UInt8
 Z2y:List UInt8
def Zgr (x:Z99):List D:=[.str x.Z0f,.str x.Z2y]
instance:Row Z99:=⟨Zgr,2,fun _=>rfl⟩
structure Z18 where
 Z3y:List Z8r
 Z3d:List Z99
def Z1z (x:Z18):List D:=[.sl false (x.Z3y.map Zgc),.sl false (x.Z3d.map Zgr)]
instance:Row Z18:=⟨Z1z,2,fun _=>rfl⟩
structure Z2x where
 Z37:Int
 Z0f:List UInt8
 Z0s:Int
def Z3k (x:Z2x):List D:=[.int .i64 x.Z37,.str x.Z0f,.int .i64 x.Z0s]
instance:Row Z2x:=⟨Z3k,3,fun _=>rfl⟩
structure Z45 where
 Z0f:List UInt8
 f_A:Int
 f_B:Int
def Z3q (x:Z45):List D:=[.str x.Z0f,.int .i64 x.f_A,.int .i64 x.f_B]
instance:Row Z45:=⟨Z3q,3,fun _=>rfl⟩
structure Z0v where
 Z24:List Z18
 Z1a:List Z1s
 Z2e:List Z2x
 Z31:List Z45
def Z23 (x:Z0v):List D:=[.sl false (x.Z24.map Z1z),.sl false (x.Z1a.map Z2h),.sl false (x.Z2e.map Z3k),.sl false (x.Z31.map Z3q)]
instance:Row Z0v:=⟨Z23,4,fun _=>rfl⟩
structure Z00 where
 Z2f:Int
 f_S:List UInt8
 f_N:Int
 f_A:Int
 f_B:Int
def Z0a (x:Z00):List D:=[.int .i64 x.Z2f,.str x.f_S,.int .i64 x.f_N,.int .i64 x.f_A,.int .i64 x.f_B]
instance:Row Z00:=⟨Z0a,5,fun _=>rfl⟩
structure Z33 where
 Z0s:Int
 Z2o:Int
def Z8a (x:Z33):List D:=[.int .i64 x.Z0s,.int .i64 x.Z2o]
instance:Row Z33:=⟨Z8a,2,fun _=>rfl⟩
structure Z0g where
 Z14:Int
 Z0f:Int
 Z2i:Int
 Z1x:List Z1g
def Z0n (x:Z0g):List D:=[.int .i64 x.Z14,.int .i64 x.Z0f,.int .i64 x.Z2i,.sl false (x.Z1x.map Z1u)]
instance:Row Z0g:=⟨Z0n,4,fun _=>rfl⟩
structure Z1b where
 Z2p:List Z00
 Z14:Int
 Z4p:Int
 Z21:Int
 Z16:List Int
 Z15:List Z0g
 Z13:List Z0g
 Z1x:List Z1g
def Z2u (x:Z1b):List D:=[.sl false (x.Z2p.map Z0a),.int .i64 x.Z14,.int .i64 x.Z4p,.int .i64 x.Z21,.sl false (x.Z16.map Z03),.sl false (x.Z15.map Z0n),.sl false (x.Z13.map Z0n),.sl false (x.Z1x.map Z1u)]
instance:Row Z1b:=⟨Z2u,8,fun _=>rfl⟩
structure Z3j where
 Z2n:Int
 Z9r:Int
 Z84:List Z0h
def Z3a (x:Z3j):List D:=[.int .i64 x.Z2n,.int .i64 x.Z9r,.sl false (x.Z84.map Z1m)]
instance:Row Z3j:=⟨Z3a,3,fun _=>rfl⟩
structure Z4v where
 Z3r:List UInt8
 Z3o:Int
def Z4n (x:Z4v):List D:=[.str x.Z3r,.int .i64 x.Z3o]
instance:Row Z4v:=⟨Z4n,2,fun _=>rfl⟩
structure Z3f where
 Z2l:Int
 Z1p:Int
 Z0s:Int
def Z7x (x:Z3f):List D:=[.int .i64 x.Z2l,.int .u8 x.Z1p,.int .i64 x.Z0s]
instance:Row Z3f:=⟨Z7x,3,fun _=>rfl⟩
structure Z2c where
 Z1d:Int
 Z12:Z3f
 Z4s:List Z0h
 Z3r:List UInt8
 Z7p:Int
 Z3g:Int
 Z57:List Int
def Z32 (x:Z2c):List D:=[.int .i64 x.Z1d,.int .i64 x.Z12.Z2l,.int .u8 x.Z12.Z1p,.int .i64 x.Z12.Z0s,.sl false (x.Z4s.map Z1m),.str x.Z3r,.int .i64 x.Z7p,.int .i64 x.Z3g,.sl false (x.Z57.map Z03)]
instance:Row Z2c:=⟨Z32,9,fun _=>rfl⟩
structure Z1i where
 Z2n:Int
 Z4u:Int
 Z3g:Int
 Z0w:List Z0x
 Z3o:Int
 Z5x:Int
 Z3m:Z0h
def Z2m (x:Z1i):List D:=[.int .i64 x.Z2n,.int .i64 x.Z4u,.int .i64 x.Z3g,.sl false (x.Z0w.map Z2g),.int .i64 x.Z3o,.int .i64 x.Z5x,.int .i64 x.Z3m.Z1d,.int .i64 x.Z3m.f_N]
instance:Row Z1i:=⟨Z2m,8,fun _=>rfl⟩
structure Z09 where
 Z1l:Z0v
 Z5a:Int
 Z1j:List Z2c
 Z3n:List Z3j
 Z38:List Z4v
 Z0r:List Z1i
 Z4d:List (List UInt8)
def Z0q (x:Z09):List D:=[.sl false (x.Z1l.Z24.map Z1z),.sl false (x.Z1l.Z1a.map Z2h),.sl false (x.Z1l.Z2e.map Z3k),.sl false (x.Z1l.Z31.map Z3q),.int .i64 x.Z5a,.sl false (x.Z1j.map Z32),.sl false (x.Z3n.map Z3a),.sl false (x.Z38.map Z4n),.sl false (x.Z0r.map Z2m),.sl false (x.Z4d.map Z2s)]
instance:Row Z09:=⟨Z0q,10,fun _=>rfl⟩
structure Zaj where
 Z0s:Int
 Z2o:Int
def Zvv (x:Zaj):List D:=[.int .i64 x.Z0s,.int .i64 x.Z2o]
instance:Row Zaj:=⟨Zvv,2,fun _=>rfl⟩
structure Z28 where
 Z6d:List Z0j
 Z3m:Z0j
def Zbu (x:Z28):List D:=[.sl false (x.Z6d.map Z1y),.int .i64 x.Z3m.Z2l,.int .u8 x.Z3m.Z1p,.str x.Z3m.Z0f]
instance:Row Z28:=⟨Zbu,4,fun _=>rfl⟩
structure Z1c where
 f_S:List UInt8
 f_At:Int
 Z4k:Bool
def Z9u (x:Z1c):List D:=[.str x.f_S,.int .i64 x.f_At,.bool x.Z4k]
instance:Row Z1c:=⟨Z9u,3,fun _=>rfl⟩
structure Z47 where
 f_C:Z0b
 Z2y:List UInt8
 Zri:List Int
def Z7v (x:Z47):List D:=[.int .i64 x.f_C.Z0i,.int .i64 x.f_C.Z0d,.sl false (x.f_C.Z0l.map Z0e),.sl false (x.f_C.Z20.map Z10),.sl false (x.f_C.Z1q.map Z11),.sl false (x.f_C.Z1r.map Z1h),.str x.Z2y,.sl false (x.Zri.map Z03)]
instance:Row Z47:=⟨Z7v,8,fun _=>rfl⟩
structure Z2v where
 f_F:Z1b
 Zdh:List Z0b
 Zbw:List (List Int)
 Za4:List Z2b
def Z8w (x:Z2v):List D:=[.sl false (x.f_F.Z2p.map Z0a),.int .i64 x.f_F.Z14,.int .i64 x.f_F.Z4p,.int .i64 x.f_F.Z21,.sl false (x.f_F.Z16.map Z03),.sl false (x.f_F.Z15.map Z0n),.sl false (x.f_F.Z13.map Z0n),.sl false (x.f_F.Z1x.map Z1u),.sl false (x.Zdh.map Z0t),.sl false (x.Zbw.map (rSl Z03)),.sl false (x.Za4.map Z2t)]
instance:Row Z2v:=⟨Z8w,11,fun _=>rfl⟩
structure Z0u where
 f_P:List Z00
 f_E:Int
def Z49 (x:Z0u):List D:=[.sl false (x.f_P.map Z0a),.int .i64 x.f_E]
instance:Row Z0u:=⟨Z49,2,fun _=>rfl⟩
def Z34 (x y:Z0h):Bool:=((x.Z1d==y.Z1d)&&((x.f_N==y.f_N)&&true))
def eqq_56 : Prop := prog.stoodInHeld 56 = false ∧ ("Kind" ≠ "_" ∧ True ∧ ("N" ≠ "_" ∧ True ∧ True))
theorem Z4g:eqq_56:=⟨by kernel_rfl,⟨by decide,trivial,⟨by decide,trivial,trivial⟩⟩⟩
theorem Z4i:prog.eqGuardType prog.depth 56=false:=by kernel_rfl
def Zd6 (x y:Z1w):Bool:=((x.Z0s==y.Z0s)&&((x.Z0f==y.Z0f)&&((x.Z2i==y.Z2i)&&true)))
def eqq_61 : Prop := prog.stoodInHeld 61 = false ∧ ("Class" ≠ "_" ∧ True ∧ ("Name" ≠ "_" ∧ True ∧ ("Desc" ≠ "_" ∧ True ∧ True)))
theorem Zpy:eqq_61:=⟨by kernel_rfl,⟨by decide,trivial,⟨by decide,trivial,⟨by decide,trivial,trivial⟩⟩⟩⟩
theorem Zsk:prog.eqGuardType prog.depth 61=false:=by kernel_rfl
def Zb3 (x y:Z3f):Bool:=((x.Z2l==y.Z2l)&&((x.Z1p==y.Z1p)&&((x.Z0s==y.Z0s)&&true)))
def eqq_79 : Prop := prog.stoodInHeld 79 = false ∧ ("Dim" ≠ "_" ∧ True ∧ ("Base" ≠ "_" ∧ True ∧ ("Class" ≠ "_" ∧ True ∧ True)))
theorem Zrc:eqq_79:=⟨by kernel_rfl,⟨by decide,trivial,⟨by decide,trivial,⟨by decide,trivial,trivial⟩⟩⟩⟩
theorem Zqi:prog.eqGuardType prog.depth 79=false:=by kernel_rfl
def Zqb (x y:Z0o):Bool:=((x.Z6a==y.Z6a)&&((x.f_To==y.f_To)&&((x.Z6e==y.Z6e)&&((x.Z0s==y.Z0s)&&((x.Z12==y.Z12)&&true)))))
def eqq_111 : Prop := prog.stoodInHeld 111 = false ∧ ("From" ≠ "_" ∧ True ∧ ("To" ≠ "_" ∧ True ∧ ("Target" ≠ "_" ∧ True ∧ ("Class" ≠ "_" ∧ True ∧ ("Type" ≠ "_" ∧ True ∧ True)))))
theorem eqp_111:eqq_111:=⟨by kernel_rfl,⟨by decide,trivial,⟨by decide,trivial,⟨by decide,trivial,⟨by decide,trivial,⟨by decide,trivial,trivial⟩⟩⟩⟩⟩⟩
theorem eqg_111:prog.eqGuardType prog.depth 111=false:=by kernel_rfl
def Zrf (x y:Z17):Bool:=((x.Z2o==y.Z2o)&&((x.Z74==y.Z74)&&true))
def eqq_119 : Prop := prog.stoodInHeld 119 = false ∧ ("Index" ≠ "_" ∧ True ∧ ("Line" ≠ "_" ∧ True ∧ True))
theorem eqp_119:eqq_119:=⟨by kernel_rfl,⟨by decide,trivial,⟨by decide,trivial,trivial⟩⟩⟩
theorem eqg_119:prog.eqGuardType prog.depth 119=false:=by kernel_rfl
def Zsl (x y:Z45):Bool:=((x.Z0f==y.Z0f)&&((x.f_A==y.f_A)&&((x.f_B==y.f_B)&&true)))
def eqq_122 : Prop := prog.stoodInHeld 122 = false ∧ ("Name" ≠ "_" ∧ True ∧ ("A" ≠ "_" ∧ True ∧ ("B" ≠ "_" ∧ True ∧ True)))
theorem eqp_122:eqq_122:=⟨by kernel_rfl,⟨by decide,trivial,⟨by decide,trivial,⟨by decide,trivial,trivial⟩⟩⟩⟩
theorem eqg_122:prog.eqGuardType prog.depth 122=false:=by kernel_rfl
def Zpc (x y:Z4v):Bool:=((x.Z3r==y.Z3r)&&((x.Z3o==y.Z3o)&&true))
def eqq_126 : Prop := prog.stoodInHeld 126 = false ∧ ("String" ≠ "_" ∧ True ∧ ("Object" ≠ "_" ∧ True ∧ True))
theorem eqp_126:eqq_126:=⟨by kernel_rfl,⟨by decide,trivial,⟨by decide,trivial,trivial⟩⟩⟩
theorem eqg_126:prog.eqGuardType prog.depth 126=false:=by kernel_rfl
def Zp7 (x y:Z2x):Bool:=((x.Z37==y.Z37)&&((x.Z0f==y.Z0f)&&((x.Z0s==y.Z0s)&&true)))
def eqq_133 : Prop := prog.stoodInHeld 133 = false ∧ ("Loader" ≠ "_" ∧ True ∧ ("Name" ≠ "_" ∧ True ∧ ("Class" ≠ "_" ∧ True ∧ True)))
theorem eqp_133:eqq_133:=⟨by kernel_rfl,⟨by decide,trivial,⟨by decide,trivial,⟨by decide,trivial,trivial⟩⟩⟩⟩
theorem eqg_133:prog.eqGuardType prog.depth 133=false:=by kernel_rfl
def Zi4 (x y:Z0j):Bool:=((x.Z2l==y.Z2l)&&((x.Z1p==y.Z1p)&&((x.Z0f==y.Z0f)&&true)))
def Zxa : Prop := prog.stoodInHeld 141 = false ∧ ("Dim" ≠ "_" ∧ True ∧ ("Base" ≠ "_" ∧ True ∧ ("Name" ≠ "_" ∧ True ∧ True)))
theorem Zwu:Zxa:=⟨by kernel_rfl,⟨by decide,trivial,⟨by decide,trivial,⟨by decide,trivial,trivial⟩⟩⟩⟩
theorem eqg_141:prog.eqGuardType prog.depth 141=false:=by kernel_rfl
def Zov (x y:Z0k):Bool:=((x.Z1d==y.Z1d)&&((x.Z3s==y.Z3s)&&((Zi4 x.Z12 y.Z12)&&((x.Z4h==y.Z4h)&&true))))
def eqq_150 : Prop := prog.stoodInHeld 150 = false ∧ ("Kind" ≠ "_" ∧ True ∧ ("NewIndex" ≠ "_" ∧ True ∧ ("Type" ≠ "_" ∧ Zxa ∧ ("PoolIndex" ≠ "_" ∧ True ∧ True))))
theorem eqp_150:eqq_150:=⟨by kernel_rfl,⟨by decide,trivial,⟨by decide,trivial,⟨by decide,Zwu,⟨by decide,trivial,trivial⟩⟩⟩⟩⟩
theorem eqg_150:prog.eqGuardType prog.depth 150=false:=by kernel_rfl
def Ztn (x y:Z8r):Bool:=((x.Zcc==y.Zcc)&&((x.f_To==y.f_To)&&true))
def eqq_156 : Prop := prog.stoodInHeld 156 = false ∧ ("Prefix" ≠ "_" ∧ True ∧ ("To" ≠ "_" ∧ True ∧ True))
theorem eqp_156:eqq_156:=⟨by kernel_rfl,⟨by decide,trivial,⟨by decide,trivial,trivial⟩⟩⟩
theorem eqg_156:prog.eqGuardType prog.depth 156=false:=by kernel_rfl
def Zte (x y:Z5s):Bool:=((x.Z14==y.Z14)&&((x.Z0f==y.Z0f)&&((x.Z2i==y.Z2i)&&((x.Z5h==y.Z5h)&&((x.f_N==y.f_N)&&((x.f_S==y.f_S)&&true))))))
def eqq_173 : Prop := prog.stoodInHeld 173 = false ∧ ("Flags" ≠ "_" ∧ True ∧ ("Name" ≠ "_" ∧ True ∧ ("Desc" ≠ "_" ∧ True ∧ ("Const" ≠ "_" ∧ True ∧ ("N" ≠ "_" ∧ True ∧ ("S" ≠ "_" ∧ True ∧ True))))))
theorem eqp_173:eqq_173:=⟨by kernel_rfl,⟨by decide,trivial,⟨by decide,trivial,⟨by decide,trivial,⟨by decide,trivial,⟨by decide,trivial,⟨by decide,trivial,trivial⟩⟩⟩⟩⟩⟩⟩
theorem eqg_173:prog.eqGuardType prog.depth 173=false:=by kernel_rfl
def Zsf (x y:Z99):Bool:=((x.Z0f==y.Z0f)&&((x.Z2y==y.Z2y)&&true))
def eqq_178 : Prop := prog.stoodInHeld 178 = false ∧ ("Name" ≠ "_" ∧ True ∧ ("Bytes" ≠ "_" ∧ True ∧ True))
theorem eqp_178:eqq_178:=⟨by kernel_rfl,⟨by decide,trivial,⟨by decide,trivial,trivial⟩⟩⟩
theorem eqg_178:prog.eqGuardType prog.depth 178=false:=by kernel_rfl
def Y1w (x y:Z00):Bool:=((x.Z2f==y.Z2f)&&((x.f_S==y.f_S)&&((x.f_N==y.f_N)&&((x.f_A==y.f_A)&&((x.f_B==y.f_B)&&true)))))
def eqq_242 : Prop := prog.stoodInHeld 242 = false ∧ ("Tag" ≠ "_" ∧ True ∧ ("S" ≠ "_" ∧ True ∧ ("N" ≠ "_" ∧ True ∧ ("A" ≠ "_" ∧ True ∧ ("B" ≠ "_" ∧ True ∧ True)))))
theorem eqp_242:eqq_242:=⟨by kernel_rfl,⟨by decide,trivial,⟨by decide,trivial,⟨by decide,trivial,⟨by decide,trivial,⟨by decide,trivial,trivial⟩⟩⟩⟩⟩⟩
theorem eqg_242:prog.eqGuardType prog.depth 242=false:=by kernel_rfl
def R8 (y0:Bool):D:= .bool y0
def Ziu (x0:Z09):Option (Bool):= if (decide ((x0.Z1l.Z1a.length:Int)≤40)) then (if (decide ((x0.Z1j.length:Int)≤60)) then (if (decide ((x0.Z0r.length:Int)≤10)) then (if (decide ((x0.Z3n.length:Int)≤60)) then (some (decide ((x0.Z38.length:Int)≤60))) else (some false)) else (some false)) else (some false)) else (some false)
theorem w8 {x0 r} (h:Ziu x0=some r):Z06 prog 8 [.agg (Z0q x0)] (R8 r):= cs f8<|go [1] [rg 0 [(0,bo)]]<|po<|pr 6 [(3,ln x0.Z1l.Z1a)]<|sp h (fun h0 h=>pr 6 (gC h0 6 2 [(8,gw h0 (ln x0.Z1j)),(9,gw h0 g0),(10,py h0)])<|sp h (fun h1 h=>pr 6 (gC h1 12 2 [(14,gw h1 (ln x0.Z0r)),(15,gw h1 g0),(16,py h1)])<|sp h (fun h2 h=>pr 6 (gC h2 18 2 [(20,gw h2 (ln x0.Z3n)),(21,gw h2 g0),(22,py h2)])<|sp h (fun h3 h=>pr 6 (gC h3 24 2 [(26,gw h3 (ln x0.Z38)),(27,gw h3 g0),(28,py h3)])<|pe<|goN [] []<|rt h) fun h3 h=> pr 6 (gB h3 24 4 [(28,pn h3)])<|pe<|goN [] []<|rt h) fun h2 h=> pr 12 (gB h2 18 4 [(22,pn h2)])<|pe<|goN [] []<|rt h) fun h1 h=> pr 18 (gB h1 12 4 [(16,pn h1)])<|pe<|goN [] []<|rt h) fun h0 h=> pr 24 (gB h0 6 4 [(10,pn h0)])<|pe<|goN [] []<|rt h
def R108 (y0:Bool):D:= .bool y0
def Zob (x0:Int):Option (Bool):= if (decide (x0≥97)) then (if (decide (x0≤122)) then (some true) else (if (decide (x0≥65)) then (if (decide (x0≤90)) then (some true) else (if (x0==95) then (some true) else (some (x0==36)))) else (if (x0==95) then (some true) else (some (x0==36))))) else (if (decide (x0≥65)) then (if (decide (x0≤90)) then (some true) else (if (x0==95) then (some true) else (some (x0==36)))) else (if (x0==95) then (some true) else (some (x0==36))))
theorem w108 {x0 r} (h:Zob x0=some r):Z06 prog 108 [d8 x0] (R108 r):= cs f108<|go [1] []<|po<|pr 3 []<|sp h (fun h0 h=>pr 4 (gC h0 3 2 [(5,py h0)])<|sp h (fun h1 h=>pr 16 (gA h1 7 3 [(12,gs0 h1),(13,py h1)])<|pe<|goN [] []<|rt h) fun h1 h=> pr 3 (gC h1 7 3 [])<|sp h (fun h2 h=>pr 5 (gC h2 10 2 [(12,gw h1 (py h2)),(13,pn h1)])<|sp h (fun h3 h=>pr 8 (gA h3 15 2 [(17,py h3)])<|pe<|goN [] []<|rt h) fun h3 h=> pr 4 (gC h3 15 2 [(17,pn h3)])<|sp h (fun h4 h=>pr 4 (gA h4 19 2 [(21,py h4)])<|pe<|goN [] []<|rt h) fun h4 h=> pr 4 (gC h4 19 2 [(21,pn h4)])<|pe<|goN [] []<|rt h) fun h2 h=> pr 9 (gB h2 10 2 [(12,gw h1 (pn h2)),(13,pn h1)])<|sp h (fun h5 h=>pr 4 (gA h5 19 2 [(21,py h5)])<|pe<|goN [] []<|rt h) fun h5 h=> pr 4 (gC h5 19 2 [(21,pn h5)])<|pe<|goN [] []<|rt h) fun h0 h=> pr 7 (gB h0 3 2 [(5,pn h0)])<|sp h (fun h6 h=>pr 5 (gC h6 10 2 [(12,py h6)])<|sp h (fun h7 h=>pr 8 (gA h7 15 2 [(17,py h7)])<|pe<|goN [] []<|rt h) fun h7 h=> pr 4 (gC h7 15 2 [(17,pn h7)])<|sp h (fun h8 h=>pr 4 (gA h8 19 2 [(21,py h8)])<|pe<|goN [] []<|rt h) fun h8 h=> pr 4 (gC h8 19 2 [(21,pn h8)])<|pe<|goN [] []<|rt h) fun h6 h=> pr 9 (gB h6 10 2 [(12,pn h6)])<|sp h (fun h9 h=>pr 4 (gA h9 19 2 [(21,py h9)])<|pe<|goN [] []<|rt h) fun h9 h=> pr 4 (gC h9 19 2 [(21,pn h9)])<|pe<|goN [] []<|rt h
def R87 (y0:Bool):D:= .bool y0
def Zi8 (x0 : List UInt8) (t0:Int):Option (Ctl (Int) (Unit⊕Bool)):= if (decide (t0<(x0.length:Int))) then ((Z39 x0 t0).bind fun v2=> (Zob v2).bind fun v3=> if (!v3) then (if (t0==0) then (some (.done (.inr false))) else ((Z39 x0 t0).bind fun v4=> if (decide (v4<48)) then (some (.done (.inr false))) else ((Z39 x0 t0).bind fun v5=> if (decide (v5>57)) then (some (.done (.inr false))) else ((some (IntKind.wrap .i64 (t0+1))).bind fun v6=> some (.next v6))))) else ((some (IntKind.wrap .i64 (t0+1))).bind fun v7=> some (.next v7))) else (some (.done (.inl (()))))
def Zc5 (x0:List UInt8):Option (Bool):= (Z07 (Zi8 x0) Z08 0).bind fun q1=> match q1 with | .inl q0=>(some (decide ((x0.length:Int)>0))) | .inr y0=>(some y0)
def Y04 (x0:List UInt8):Int→SL:= fun t0=>⟨34,[(0,.str x0),(3,dI t0)],[]⟩
def J87x1 (x0:List UInt8):JT (Unit⊕Bool):= ju (je 0 fun q0:Unit=>⟨34,[(0,.str x0)],[]⟩) (jr prog f87 R87)
theorem wl87x1 {x0 t0 r Γ} (h:(Zi8 x0) t0=some r):A prog Γ (lpC f87 21) [] (Rd (Y04 x0) (J87x1 x0) r) ((Y04 x0) t0).s:= go [] []<|br h (fun h2 h=>go [4] []<|po<|bd h fun v2 e2 h=>bd h fun v3 e3 h=>pr 6 [(2,ib e2),(3,k (w108 e3))]<|sp h (fun h3 h=>pr 3 (gC h3 6 3 [])<|sp h (fun h4 h=>pr 12 (gA h4 9 4 [(13,gw h3 (py h4)),(14,gw h3 g0),(19,gw h3 g0),(20,py h3)])<|pe<|goN [] []<|bT rfl<|go [] []<|dn h (i2 iR)) fun h4 h=> bd h fun v4 e4 h=>pr 6 (gC h4 9 2 [(11,gw h4 (ib e4)),(12,gw h4 g0),(13,gw h3 (pn h4)),(14,gw h3 g0)])<|sp h (fun h5 h=>pr 6 (gA h5 15 4 [(19,gw h3 (py h5)),(20,py h3)])<|pe<|goN [] []<|bT rfl<|go [] []<|dn h (i2 iR)) fun h5 h=> bd h fun v5 e5 h=>pr 6 (gC h5 15 2 [(17,gw h5 (ib e5)),(18,gw h5 g0),(19,gw h3 (pn h5)),(20,py h3)])<|pe<|goN [] []<|br h (fun h6 h=>go [] []<|dn h (i2 iR)) fun h6 h=> bd h fun v6 e6 h=>go [] [rg 3 [(1,n e6)]]<|nx h) fun h3 h=> pr 15 (gB h3 6 3 (gB h3 13 2 [(19,gs1 h3),(20,pn h3)]))<|pe<|goN [] []<|bF rfl<|bd h fun v7 e7 h=>go [] [rg 3 [(1,n e7)]]<|nx h) fun h2 h=> go [] []<|dn h (i1 iE)
theorem w87 {x0 r} (h:Zc5 x0=some r):Z06 prog 87 [.str x0] (R87 r):= cs f87<|go [] []<|bd h fun q1 e8 h=>lp e8 wl87x1<|match q1,h with | .inl q0,h=>j1<|(qe<|goN [] []<|rt h) | .inr y0,h=>j2<|(qr h)
def R58 (y0:Bool):D:= .bool y0
def Zj3 (x0:List UInt8) (t0:Int×Int):Option (Ctl (Int×Int) (Int⊕Bool)):= if (decide (t0.2<(x0.length:Int))) then ((Z39 x0 t0.2).bind fun v3=> if (v3==47) then ((sub x0 t0.1 t0.2).bind fun v4=> (Zc5 v4).bind fun v5=> if (!v5) then (some (.done (.inr false))) else ((some (IntKind.wrap .i64 (t0.2+1))).bind fun v6=> (some (IntKind.wrap .i64 (t0.2+1))).bind fun v7=> some (.next (v6,v7)))) else ((some (IntKind.wrap .i64 (t0.2+1))).bind fun v8=> some (.next (t0.1,v8)))) else (some (.done (.inl (t0.1))))
def Zar (x0:List UInt8):Option (Bool):= if (decide ((x0.length:Int)>64)) then (some false) else ((Z07 (Zj3 x0) Z08 (0,0)).bind fun q1=> match q1 with | .inl q0=>((sub x0 q0 (x0.length:Int)).bind fun v9=> (Zc5 v9).bind fun v10=> some v10) | .inr y0=>(some y0))
def Y4b (x0:List UInt8):(Int×Int)→SL:= fun t0=>⟨30,[(0,.str x0),(3,dI t0.1),(4,dI t0.2)],[]⟩
def J58x1 (x0:List UInt8):JT (Int⊕Bool):= ju (je 0 fun q0:Int=>⟨30,[(0,.str x0),(3,dI q0)],[]⟩) (jr prog f58 R58)
theorem wl58x1 {x0 t0 r Γ} (h:(Zj3 x0) t0=some r):A prog Γ (lpC f58 87) [] (Rd (Y4b x0) (J58x1 x0) r) ((Y4b x0) t0).s:= go [] []<|br h (fun h4 h=>bd h fun v3 e3 h=>go [] [rg 7 [(2,ib e3)]]<|br h (fun h5 h=>bd h fun v4 e4 h=>bd h fun v5 e5 h=>go [] [rg 8 [(3,ss e4),(4,k (w87 e5))]]<|br h (fun h6 h=>go [] []<|dn h (i2 iR)) fun h6 h=> bd h fun v6 e6 h=>bd h fun v7 e7 h=>go [] [rg 10 [(1,n e6)],rg 6 [(1,n e7)]]<|nx h) fun h5 h=> bd h fun v8 e8 h=>go [] [rg 6 [(1,n e8)]]<|nx h) fun h4 h=> go [] []<|dn h (i1 iE)
theorem w58 {x0 r} (h:Zar x0=some r):Z06 prog 58 [.str x0] (R58 r):= cs f58<|go [] []<|br h (fun h0 h=>go [] []<|rt h) fun h0 h=> go [] []<|bd h fun q1 e9 h=>lp e9 wl58x1<|match q1,h with | .inl q0,h=>j1<|(qe<|bd h fun v9 e10 h=>bd h fun v10 e11 h=>goN [] [rg 11 [(2,ss e10),(3,k (w87 e11))]]<|rt h) | .inr y0,h=>j2<|(qr h)
def R90 (y0:Bool):D:= .bool y0
def Zag (x0 x1:List UInt8):Option (Bool):= if (decide ((x1.length:Int)≤(x0.length:Int))) then ((sub x0 0 (x1.length:Int)).bind fun v0=> some (v0==x1)) else (some false)
theorem w90 {x0 x1 r} (h:Zag x0 x1=some r):Z06 prog 90 [.str x0,.str x1] (R90 r):= cs f90<|sp h (fun h0 h=>bd h fun v0 e0 h=>go [] [rg 1 [(4,kb h0),(9,ss e0)]]<|rt h) fun h0 h=> go [] [rg 1 [(4,kb h0)]]<|rt h
def R85 (y0:Int):D:= .int .i64 y0
def Zlt (x0:Z18) (x1 t0:Int):Option (Ctl (Int) (Unit⊕Int)):= if (decide (t0<(x0.Z3d.length:Int))) then ((Z01 x0.Z3d t0).bind fun v3=> (Zar v3.Z0f).bind fun v4=> if (!v4) then (some (.done (.inr 12))) else (if (decide (x1>0)) then ((Zag v3.Z0f [108,97,110,103,47]).bind fun v5=> if v5 then (some (.done (.inr 12))) else ((some (IntKind.wrap .i64 (t0+1))).bind fun v6=> some (.next v6))) else ((some (IntKind.wrap .i64 (t0+1))).bind fun v7=> some (.next v7)))) else (some (.done (.inl (()))))
def Zif (x0:Z18) (x1:Int):Option (Int):= (Z07 (Zlt x0 x1) Z08 0).bind fun q1=> match q1 with | .inl q0=>(some 0) | .inr y0=>(some y0)
def Y3d (x0:Z18) (x1:Int):Int→SL:= fun t0=>⟨31,[(1,dI x1),(2,.ptr (Z1z x0)),(5,dI t0)],[]⟩
def J85x1:JT (Unit⊕Int):= ju (je 0 fun q0:Unit=>⟨31,[],[]⟩) (jr prog f85 R85)
theorem wl85x1 {x0 x1 t0 r Γ} (h:(Zlt x0 x1) t0=some r):A prog Γ (lpC f85 21) [] (Rd (Y3d x0 x1) J85x1 r) ((Y3d x0 x1) t0).s:= go [] [rg 2 [(3,ln x0.Z3d)]]<|br h (fun h4 h=>bd h fun v3 e3 h=>go [5] [rg 4 [(3,ix e3)]]<|po<|bd h fun v4 e4 h=>pr 4 [(1,k (w58 e4))]<|sp h (fun h5 h=>pr 7 (gA h5 4 3 [(9,gs0 h5),(10,py h5)])<|pe<|goN [] []<|bT rfl<|go [] []<|dn h (i2 iR)) fun h5 h=> pr 3 (gC h5 4 3 [])<|sp h (fun h6 h=>bd h fun v5 e5 h=>pr 4 [(7,gw h6 g0),(8,gw h6 (k (w90 e5))),(9,gw h5 (py h6)),(10,pn h5)]<|pe<|goN [] []<|br h (fun h7 h=>go [] []<|dn h (i2 iR)) fun h7 h=> bd h fun v6 e6 h=>go [] [rg 3 [(1,n e6)]]<|nx h) fun h6 h=> pr 4 (gB h6 7 2 [(9,gw h5 (pn h6)),(10,pn h5)])<|pe<|goN [] []<|bF rfl<|bd h fun v7 e7 h=>go [] [rg 3 [(1,n e7)]]<|nx h) fun h4 h=> go [] []<|dn h (i1 iE)
theorem w85 {x0 x1 r} (h:Zif x0 x1=some r):Z06 prog 85 [.agg (Z1z x0),dI x1] (R85 r):= cs f85<|go [] [rg 0 [(0,bo)]]<|bd h fun q1 e8 h=>lp e8 wl85x1<|match q1,h with | .inl q0,h=>j1<|(qe<|goN [] []<|rt h) | .inr y0,h=>j2<|(qr h)
def R86 (y0:Bool):D:= .bool y0
def Znq (t0:Int) (x0:Z18) (t2:Int):Option (Ctl (Int) (Unit⊕Bool)):= if (decide (t2<t0)) then ((Z01 x0.Z3d t0).bind fun v2=> (Z01 x0.Z3d t2).bind fun v3=> if (v2.Z0f==v3.Z0f) then (some (.done (.inr true))) else ((some (IntKind.wrap .i64 (t2+1))).bind fun v4=> some (.next v4))) else (some (.done (.inl (()))))
def Zna (x0:Z18) (t0:Int):Option (Ctl (Int) (Unit⊕Bool)):= if (decide (t0<(x0.Z3d.length:Int))) then ((Z07 (Znq t0 x0) Z08 0).bind fun q3=> match q3 with | .inl q2=>((some (IntKind.wrap .i64 (t0+1))).bind fun v5=> some (.next v5)) | .inr y1=>(some (.done (.inr y1)))) else (some (.done (.inl (()))))
def Zlh (x0:Z18):Option (Bool):= (Z07 (Zna x0) Z08 0).bind fun q5=> match q5 with | .inl q4=>(some false) | .inr y2=>(some y2)
def Zzd (t0:Int) (x0:Z18):Int→SL:= fun t2=>⟨30,[(1,.ptr (Z1z x0)),(3,dI t0),(4,dI t2)],[]⟩
def J86x2 (t0:Int) (x0:Z18):JT (Unit⊕Bool):= ju (je 2 fun q2:Unit=>⟨30,[(1,.ptr (Z1z x0)),(3,dI t0)],[]⟩) (jr prog f86 R86)
theorem wl86x2 {t0 x0 t2 r Γ} (h:(Znq t0 x0) t2=some r):A prog Γ (lpC f86 1317) [] (Rd (Zzd t0 x0) (J86x2 t0 x0) r) ((Zzd t0 x0) t2).s:= go [] []<|br h (fun h4 h=>bd h fun v2 e3 h=>bd h fun v3 e4 h=>go [] [rg 7 [(3,ix e3),(9,ix e4)]]<|br h (fun h5 h=>go [] []<|dn h (i2 iR)) fun h5 h=> bd h fun v4 e5 h=>go [] [rg 6 [(1,n e5)]]<|nx h) fun h4 h=> go [] []<|dn h (i1 iE)
def Y39 (x0:Z18):Int→SL:= fun t0=>⟨30,[(1,.ptr (Z1z x0)),(3,dI t0)],[]⟩
def J86x1:JT (Unit⊕Bool):= ju (je 0 fun q4:Unit=>⟨30,[],[]⟩) (jr prog f86 R86)
theorem wl86x1 {x0 t0 r Γ} (h:(Zna x0) t0=some r):A prog Γ (lpC f86 21) [] (Rd (Y39 x0) J86x1 r) ((Y39 x0) t0).s:= go [] [rg 2 [(3,ln x0.Z3d)]]<|br h (fun h1 h=>go [] []<|bd h fun q3 e6 h=>lp e6 wl86x2<|match q3,h with | .inl q2,h=>j1<|(qe<|bd h fun v5 e7 h=>goN [] [rg 3 [(1,n e7)]]<|nx h) | .inr y1,h=>j2<|(ql h fun _ _ p=>⟨(iS p).1,i2 ((iS p).2)⟩)) fun h1 h=> go [] []<|dn h (i1 iE)
theorem w86 {x0 r} (h:Zlh x0=some r):Z06 prog 86 [.agg (Z1z x0)] (R86 r):= cs f86<|go [] [rg 0 [(0,bo)]]<|bd h fun q5 e8 h=>lp e8 wl86x1<|match q5,h with | .inl q4,h=>j1<|(qe<|goN [] []<|rt h) | .inr y2,h=>j2<|(qr h)
def R57 (y0:Int):D:= .int .i64 y0
def Zm2 (x0:List Z18) (t0:Int):Option (Ctl (Int) (Unit⊕Int)):= if (decide (t0<(x0.length:Int))) then ((Z01 x0 t0).bind fun v2=> if (decide ((v2.Z3y.length:Int)>8)) then (some (.done (.inr 5))) else ((Z01 x0 t0).bind fun v3=> if (decide ((v3.Z3d.length:Int)>64)) then (some (.done (.inr 5))) else ((some (IntKind.wrap .i64 (t0+1))).bind fun v4=> some (.next v4)))) else (some (.done (.inl (()))))
def Zo3 (t1:Int) (x0:List Z18) (t3:Int):Option (Ctl (Int) (Unit⊕Int)):= (Z01 x0 t1).bind fun v21=> if (decide (t3<(v21.Z3y.length:Int))) then ((Z01 x0 t1).bind fun v22=> (Z01 v22.Z3y t3).bind fun v23=> if (decide (v23.f_To<0)) then (some (.done (.inr 2))) else ((Z01 x0 t1).bind fun v24=> (Z01 v24.Z3y t3).bind fun v25=> if (decide (v25.f_To≥t1)) then (some (.done (.inr 2))) else ((some (IntKind.wrap .i64 (t3+1))).bind fun v26=> some (.next v26)))) else (some (.done (.inl (()))))
def Zmj (x0:List Z18) (t1:Int):Option (Ctl (Int) (Unit⊕Int)):= if (decide (t1<(x0.length:Int))) then ((Z07 (Zo3 t1 x0) Z08 0).bind fun q5=> match q5 with | .inl q4=>((some (IntKind.wrap .i64 (t1+1))).bind fun v27=> some (.next v27)) | .inr y1=>(some (.done (.inr y1)))) else (some (.done (.inl (()))))
def Zmi (x0:List Z18) (t4:Int):Option (Ctl (Int) (Unit⊕Int)):= if (decide (t4<(x0.length:Int))) then ((Z01 x0 t4).bind fun v30=> (Zif v30 t4).bind fun v31=> if (v31 !=0) then (some (.done (.inr v31))) else ((some (IntKind.wrap .i64 (t4+1))).bind fun v32=> some (.next v32))) else (some (.done (.inl (()))))
def Zo7 (x0:List Z18) (t5:Int):Option (Ctl (Int) (Unit⊕Int)):= if (decide (t5<(x0.length:Int))) then ((Z01 x0 t5).bind fun v35=> (Zlh v35).bind fun v36=> if v36 then (some (.done (.inr 6))) else ((some (IntKind.wrap .i64 (t5+1))).bind fun v37=> some (.next v37))) else (some (.done (.inl (()))))
def j57x1 (x0:List Z18):Option (Int):= (Z07 (Zm2 x0) Z08 0).bind fun q1=> match q1 with | .inl q0=>((Z07 (Zmj x0) Z08 0).bind fun q7=> match q7 with | .inl q6=>((Z07 (Zmi x0) Z08 0).bind fun q9=> match q9 with | .inl q8=>((Z07 (Zo7 x0) Z08 0).bind fun q11=> match q11 with | .inl q10=>(some 0) | .inr y2=>(some y2)) | .inr y3=>(some y3)) | .inr y4=>(some y4)) | .inr y5=>(some y5)
def Zoi (x0:List Z18):Option (Int):= if ((x0.length:Int)==0) then (some 5) else (if (decide ((x0.length:Int)>8)) then (some 5) else ((j57x1 x0)))
def Zv1 (x0:List Z18):Int→SL:= fun t0=>⟨104,[(0,.sl false (x0.map Z1z)),(3,dI t0)],[]⟩
def J57x1 (x0:List Z18):JT (Unit⊕Int):= ju (je 0 fun q0:Unit=>⟨104,[(0,.sl false (x0.map Z1z))],[]⟩) (jr prog f57 R57)
theorem wl57x1 {x0 t0 r Γ} (h:(Zm2 x0) t0=some r):A prog Γ (lpC f57 43) [] (Rd (Zv1 x0) (J57x1 x0) r) ((Zv1 x0) t0).s:= go [] [rg 4 [(2,ln x0)]]<|br h (fun h5 h=>bd h fun v2 e2 h=>sp h (fun h6 h=>go [] [rg 6 [(2,ix e2),(5,ln v2.Z3y),(6,kb h6)]]<|bT rfl<|go [] []<|dn h (i2 iR)) fun h6 h=> bd h fun v3 e3 h=>go [] [rg 6 [(2,ix e2),(5,ln v2.Z3y),(6,kb h6),(10,ix e3),(13,ln v3.Z3d)]]<|br h (fun h7 h=>go [] []<|dn h (i2 iR)) fun h7 h=> bd h fun v4 e4 h=>go [] [rg 5 [(1,n e4)]]<|nx h) fun h5 h=> go [] []<|dn h (i1 iE)
def Zzv (t1:Int) (x0:List Z18):Int→SL:= fun t3=>⟨104,[(0,.sl false (x0.map Z1z)),(4,dI t1),(5,dI t3)],[]⟩
def J57x3 (t1:Int) (x0:List Z18):JT (Unit⊕Int):= ju (je 4 fun q4:Unit=>⟨104,[(0,.sl false (x0.map Z1z)),(4,dI t1)],[]⟩) (jr prog f57 R57)
theorem wl57x3 {t1 x0 t3 r Γ} (h:(Zo3 t1 x0) t3=some r):A prog Γ (lpC f57 5271) [] (Rd (Zzv t1 x0) (J57x3 t1 x0) r) ((Zzv t1 x0) t3).s:= bd h fun v21 e23 h=>go [] [rg 12 [(3,ix e23),(6,ln v21.Z3y)]]<|br h (fun h19 h=>bd h fun v22 e24 h=>bd h fun v23 e25 h=>sp h (fun h20 h=>go [] [rg 14 [(2,ix e24),(6,ix e25),(9,kb h20)]]<|bT rfl<|go [] []<|dn h (i2 iR)) fun h20 h=> bd h fun v24 e26 h=>bd h fun v25 e27 h=>go [] [rg 14 [(2,ix e24),(6,ix e25),(9,kb h20),(13,ix e26),(17,ix e27)]]<|br h (fun h21 h=>go [] []<|dn h (i2 iR)) fun h21 h=> bd h fun v26 e28 h=>go [] [rg 13 [(1,n e28)]]<|nx h) fun h19 h=> go [] []<|dn h (i1 iE)
def Zun (x0:List Z18):Int→SL:= fun t1=>⟨104,[(0,.sl false (x0.map Z1z)),(4,dI t1)],[]⟩
def J57x2 (x0:List Z18):JT (Unit⊕Int):= ju (je 2 fun q6:Unit=>⟨104,[(0,.sl false (x0.map Z1z))],[]⟩) (jr prog f57 R57)
theorem wl57x2 {x0 t1 r Γ} (h:(Zmj x0) t1=some r):A prog Γ (lpC f57 87) [] (Rd (Zun x0) (J57x2 x0) r) ((Zun x0) t1).s:= go [] [rg 9 [(2,ln x0)]]<|br h (fun h15 h=>go [] []<|bd h fun q5 e29 h=>lp e29 wl57x3<|match q5,h with | .inl q4,h=>j1<|(qe<|bd h fun v27 e30 h=>goN [] [rg 10 [(1,n e30)]]<|nx h) | .inr y1,h=>j2<|(ql h fun _ _ p=>⟨(iS p).1,i2 ((iS p).2)⟩)) fun h15 h=> go [] []<|dn h (i1 iE)
def Zwq (x0:List Z18):Int→SL:= fun t4=>⟨104,[(0,.sl false (x0.map Z1z)),(6,dI t4)],[]⟩
def J57x4 (x0:List Z18):JT (Unit⊕Int):= ju (je 6 fun q8:Unit=>⟨104,[(0,.sl false (x0.map Z1z))],[]⟩) (jr prog f57 R57)
theorem wl57x4 {x0 t4 r Γ} (h:(Zmi x0) t4=some r):A prog Γ (lpC f57 175) [] (Rd (Zwq x0) (J57x4 x0) r) ((Zwq x0) t4).s:= go [] [rg 17 [(2,ln x0)]]<|br h (fun h24 h=>bd h fun v30 e34 h=>bd h fun v31 e35 h=>go [] [rg 19 [(2,ix e34),(5,k (w85 e35))]]<|br h (fun h25 h=>go [] []<|dn h (i2 iR)) fun h25 h=> bd h fun v32 e36 h=>go [] [rg 18 [(1,n e36)]]<|nx h) fun h24 h=> go [] []<|dn h (i1 iE)
def Zz3 (x0:List Z18):Int→SL:= fun t5=>⟨104,[(0,.sl false (x0.map Z1z)),(8,dI t5)],[]⟩
def J57x5:JT (Unit⊕Int):= ju (je 8 fun q10:Unit=>⟨104,[],[]⟩) (jr prog f57 R57)
theorem wl57x5 {x0 t5 r Γ} (h:(Zo7 x0) t5=some r):A prog Γ (lpC f57 351) [] (Rd (Zz3 x0) J57x5 r) ((Zz3 x0) t5).s:= go [] [rg 23 [(2,ln x0)]]<|br h (fun h28 h=>bd h fun v35 e40 h=>bd h fun v36 e41 h=>go [] [rg 25 [(2,ix e40),(4,k (w86 e41))]]<|br h (fun h29 h=>go [] []<|dn h (i2 iR)) fun h29 h=> bd h fun v37 e42 h=>go [] [rg 24 [(1,n e42)]]<|nx h) fun h28 h=> go [] []<|dn h (i1 iE)
theorem wj57x1 {x0 r Γ} (h:(j57x1 x0)=some r):Jn prog f57 Γ (Den.Ends prog f57 (R57 r)) 19 ⟨104,[(0,.sl false (x0.map Z1z))],[]⟩:= so<|go [] []<|bd h fun q1 e5 h=>lp e5 wl57x1<|match q1,h with | .inl q0,h=>j1<|(qe<|goN [] []<|bd h fun q7 e31 h=>lp e31 wl57x2<|match q7,h with | .inl q6,h=>j1<|(qe<|goN [] []<|bd h fun q9 e37 h=>lp e37 wl57x4<|match q9,h with | .inl q8,h=>j1<|(qe<|goN [] []<|bd h fun q11 e43 h=>lp e43 wl57x5<|match q11,h with | .inl q10,h=>j1<|(qe<|goN [] []<|rt h) | .inr y2,h=>j2<|(qr h)) | .inr y3,h=>j2<|(qr h)) | .inr y4,h=>j2<|(qr h)) | .inr y5,h=>j2<|(qr h)
theorem w57 {x0 r} (h:Zoi x0=some r):Z06 prog 57 [.sl false (x0.map Z1z)] (R57 r):= cs f57<|sp h (fun h0 h=>go [] [rg 1 [(1,ln x0),(2,kb h0)]]<|bT rfl<|go [] []<|rt h) fun h0 h=> go [] [rg 1 [(1,ln x0),(2,kb h0),(5,ln x0)]]<|br h (fun h1 h=>go [] []<|rt h) fun h1 h=> go [3] []<|jn (wj57x1 h)
def R59 (y0:Bool):D:= .bool y0
def Znp (v0:Z2x) (x0:Z0v) (x1 t0:Int):Option (Ctl (Int) (Unit⊕Bool)):= if (decide (t0<x1)) then ((Z01 x0.Z2e t0).bind fun v4=> if (v4.Z37==v0.Z37) then ((Z01 x0.Z2e t0).bind fun v5=> if (v5.Z0f==v0.Z0f) then (some (.done (.inr false))) else ((some (IntKind.wrap .i64 (t0+1))).bind fun v6=> some (.next v6))) else ((some (IntKind.wrap .i64 (t0+1))).bind fun v7=> some (.next v7))) else (some (.done (.inl (()))))
def j59x1 (v0:Z2x) (x0:Z0v) (x1:Int):Option (Bool):= (Z07 (Znp v0 x0 x1) Z08 0).bind fun q1=> match q1 with | .inl q0=>(some true) | .inr y0=>(some y0)
def Zko (x0:Z0v) (x1:Int):Option (Bool):= (Z01 x0.Z2e x1).bind fun v0=> if (decide (v0.Z37<0)) then (some false) else (if (decide (v0.Z37≥(x0.Z24.length:Int))) then (some false) else (if (decide (v0.Z0s<0)) then (some false) else (if (decide (v0.Z0s≥(x0.Z1a.length:Int))) then (some false) else ((Z01 x0.Z1a v0.Z0s).bind fun v1=> if (!(v1.Z25.Z0f==v0.Z0f)) then (some false) else ((j59x1 v0 x0 x1))))))
def Y3h (v0:Z2x) (x0:Z0v) (x1:Int):Int→SL:= fun t0=>⟨74,[(1,dI x1),(2,.ptr (Z23 x0)),(5,.lptr 5 0 0),(6,dI t0)],[(5,{ sz:=3,rows:=[Z3k v0],frz:=0,pure:=false })]⟩
def J59x1:JT (Unit⊕Bool):= ju (je 0 fun q0:Unit=>⟨74,[],[]⟩) (jr prog f59 R59)
theorem wl59x1 {v0 x0 x1 t0 r Γ} (h:(Znp v0 x0 x1) t0=some r):A prog Γ (lpC f59 87) [] (Rd (Y3h v0 x0 x1) J59x1 r) ((Y3h v0 x0 x1) t0).s:= go [] []<|br h (fun h8 h=>bd h fun v4 e4 h=>sp h (fun h9 h=>bd h fun v5 e5 h=>go [] [rg 7 [(3,ix e4),(8,kb h9),(13,ix e5)]]<|br h (fun h10 h=>go [] []<|dn h (i2 iR)) fun h10 h=> bd h fun v6 e6 h=>go [] [rg 6 [(1,n e6)]]<|nx h) fun h9 h=> go [] [rg 7 [(3,ix e4),(8,kb h9)]]<|bF rfl<|bd h fun v7 e7 h=>go [] [rg 6 [(1,n e7)]]<|nx h) fun h8 h=> go [] []<|dn h (i1 iE)
theorem wj59x1 {v0 x0 x1 r Γ} (h:(j59x1 v0 x0 x1)=some r):Jn prog f59 Γ (Den.Ends prog f59 (R59 r)) 39 ⟨74,[(1,dI x1),(2,.ptr (Z23 x0)),(5,.lptr 5 0 0)],[(5,{ sz:=3,rows:=[Z3k v0],frz:=0,pure:=false })]⟩:= so<|go [] []<|bd h fun q1 e8 h=>lp e8 wl59x1<|match q1,h with | .inl q0,h=>j1<|(qe<|goN [] []<|rt h) | .inr y0,h=>j2<|(qr h)
theorem w59 {x0 x1 r} (h:Zko x0 x1=some r):Z06 prog 59 [.agg (Z23 x0),dI x1] (R59 r):= cs f59<|bd h fun v0 e0 h=>sp h (fun h0 h=>go [] [rg 0 [(0,bo)],rg 1 [(3,ix e0)],rg 2 [(2,kb h0)]]<|bT rfl<|go [] []<|rt h) fun h0 h=> sp h (fun h1 h=>go [] [rg 0 [(0,bo)],rg 1 [(3,ix e0)],rg 2 [(2,kb h0),(8,ln x0.Z24),(9,kb h1)]]<|bT rfl<|go [] []<|rt h) fun h1 h=> sp h (fun h2 h=>go [] [rg 0 [(0,bo)],rg 1 [(3,ix e0)],rg 2 [(2,kb h0),(8,ln x0.Z24),(9,kb h1),(14,kb h2)]]<|bT rfl<|go [] []<|rt h) fun h2 h=> sp h (fun h3 h=>go [] [rg 0 [(0,bo)],rg 1 [(3,ix e0)],rg 2 [(2,kb h0),(8,ln x0.Z24),(9,kb h1),(14,kb h2),(21,ln x0.Z1a),(22,kb h3)]]<|bT rfl<|go [] []<|rt h) fun h3 h=> bd h fun v1 e1 h=>go [] [rg 0 [(0,bo)],rg 1 [(3,ix e0)],rg 2 [(2,kb h0),(8,ln x0.Z24),(9,kb h1),(14,kb h2),(21,ln x0.Z1a),(22,kb h3),(29,ix e1)]]<|br h (fun h4 h=>go [] []<|rt h) fun h4 h=> go [4] []<|jn (wj59x1 h)
def R88 (y0:(List Bool)):D:= .sl false (y0.map Z48)
def Zkt (t2:Int×(List Bool)) (v33:Z45):Option (Ctl (Int×(List Bool)) (((List Bool)))):= (Z3e v33.f_A t2.2.length).bind fun v40=> (t2.2[v40]?).bind fun v41=> (Z3e v33.f_B (t2.2.set v40 true).length).bind fun v42=> ((t2.2.set v40 true)[v42]?).bind fun v43=> (some (IntKind.wrap .i64 (t2.1+1))).bind fun v44=> some (.next (v44,((t2.2.set v40 true).set v42 true)))
def Zjg (x0:Z0v) (x1:List UInt8) (t2:Int×(List Bool)):Option (Ctl (Int×(List Bool)) (((List Bool)))):= if (decide (t2.1<(x0.Z31.length:Int))) then ((Z01 x0.Z31 t2.1).bind fun v33=> if (v33.Z0f==x1) then ((Z3e v33.f_A t2.2.length).bind fun v34=> (t2.2[v34]?).bind fun v35=> if v35 then ((Zkt t2 v33)) else ((Z3e v33.f_B t2.2.length).bind fun v36=> (t2.2[v36]?).bind fun v37=> if v37 then ((Zkt t2 v33)) else ((some (IntKind.wrap .i64 (t2.1+1))).bind fun v38=> some (.next (v38,t2.2))))) else ((some (IntKind.wrap .i64 (t2.1+1))).bind fun v39=> some (.next (v39,t2.2)))) else (some (.done (t2.2)))
def Zhi (x0:Z0v) (x1:List UInt8) (t0:Int×(List Bool)):Option (Ctl (Int×(List Bool)) (((List Bool)))):= if (decide (t0.1<(x0.Z24.length:Int))) then ((Z07 (Zjg x0 x1) Z08 (0,t0.2)).bind fun q2=> (some (IntKind.wrap .i64 (t0.1+1))).bind fun v45=> some (.next (v45,q2))) else (some (.done (t0.2)))
def Zl1 (x0:Z0v) (x1:List UInt8) (x2:Int):Option ((List Bool)):= (Z95 1 (x0.Z24.length:Int) (x0.Z24.length:Int)).bind fun v0=> (Z3e x2 (List.replicate (x0.Z24.length:Int).toNat false).length).bind fun v1=> ((List.replicate (x0.Z24.length:Int).toNat false)[v1]?).bind fun v2=> (Z07 (Zhi x0 x1) Z08 (0,((List.replicate (x0.Z24.length:Int).toNat false).set v1 true))).bind fun q4=> some q4
def Zsa (t0:Int×(List Bool)) (x0:Z0v) (x1:List UInt8):(Int×(List Bool))→SL:= fun t2=>⟨64,[(1,.str x1),(3,.ptr (Z23 x0)),(7,.lsl 7 0 ((t2.2.map Z48).length)),(8,dI t0.1),(9,dI t2.1)],[(7,{ sz:=1,rows:=(t2.2.map Z48),frz:=0,pure:=true })]⟩
def J88x2 (t0:Int×(List Bool)) (x0:Z0v) (x1:List UInt8):JT (((List Bool))):= je 2 fun q2:(List Bool)=>⟨64,[(1,.str x1),(3,.ptr (Z23 x0)),(7,.lsl 7 0 ((q2.map Z48).length)),(8,dI t0.1)],[(7,{ sz:=1,rows:=(q2.map Z48),frz:=0,pure:=true })]⟩
theorem Zvd (t0:Int×(List Bool)) (x0:Z0v) (x1:List UInt8) {t2 v33 r Γ} (h:(Zkt t2 v33)=some r):Jn prog f88 Γ (Rd (Zsa t0 x0 x1) (J88x2 t0 x0 x1) r) 1254551 ⟨64,[(1,.str x1),(3,.ptr (Z23 x0)),(7,.lsl 7 0 ((t2.2.map Z48).length)),(8,dI t0.1),(9,dI t2.1),(10,.lptr 10 0 0)],[(7,{ sz:=1,rows:=(t2.2.map Z48),frz:=0,pure:=true }),(10,{ sz:=3,rows:=[Z3q v33],frz:=0,pure:=false })]⟩:= so<|bd h fun v40 e41 h=>bd h fun v41 e42 h=>go [12] [rg 11 [(3,ia 7 e41),(4,st e42 0 [.bool true] true)]]<|nm (congrArg (fun nn:Nat=>(⟨64,[(1,.str x1),(3,.ptr (Z23 x0)),(7,.lsl 7 0 nn),(8,dI t0.1),(9,dI t2.1),(10,.lptr 10 0 0)],[(7,{ sz:=1,rows:=((t2.2.set v40 true).map Z48),frz:=0,pure:=true }),(10,{ sz:=3,rows:=[Z3q v33],frz:=0,pure:=false })]⟩:SL)) (by simp only [List.length_map,List.length_set]:(t2.2.map Z48).length=((t2.2.set v40 true).map Z48).length))<|so<|bd h fun v42 e43 h=>bd h fun v43 e44 h=>go [8] [rg 12 [(3,ia 7 e43),(4,st e44 0 [.bool true] true)]]<|nm (congrArg (fun nn:Nat=>(⟨64,[(1,.str x1),(3,.ptr (Z23 x0)),(7,.lsl 7 0 nn),(8,dI t0.1),(9,dI t2.1)],[(7,{ sz:=1,rows:=(((t2.2.set v40 true).set v42 true).map Z48),frz:=0,pure:=true })]⟩:SL)) (by simp only [List.length_map,List.length_set]:((t2.2.set v40 true).map Z48).length=(((t2.2.set v40 true).set v42 true).map Z48).length))<|so<|bd h fun v44 e45 h=>go [] [rg 8 [(1,n e45)]]<|nx h
theorem wl88x2 (t0:Int×(List Bool)) {x0 x1 t2 r Γ} (h:(Zjg x0 x1) t2=some r):A prog Γ (lpC f88 5271) [] (Rd (Zsa t0 x0 x1) (J88x2 t0 x0 x1) r) ((Zsa t0 x0 x1) t2).s:= go [] [rg 7 [(3,ln x0.Z31)]]<|br h (fun h14 h=>bd h fun v33 e34 h=>go [10] [rg 9 [(3,ix e34)]]<|po<|pr 5 []<|sp h (fun h15 h=>bd h fun v34 e35 h=>bd h fun v35 e36 h=>pr 6 (gC h15 5 3 [(8,gw h15 (ia 7 e35)),(9,gw h15 (lb e36)),(10,gw h15 g0)])<|sp h (fun h16 h=>pr 7 (gA h16 11 5 [(16,gw h15 (py h16)),(17,py h15)])<|pe<|goN [] []<|bT rfl<|go [11] []<|jn ((Zvd t0 x0 x1) h)) fun h16 h=> bd h fun v36 e37 h=>bd h fun v37 e38 h=>pr 7 (gC h16 11 3 [(14,gw h16 (ia 7 e37)),(15,gw h16 (lb e38)),(16,gw h15 (pn h16)),(17,py h15)])<|pe<|goN [] []<|br h (fun h17 h=>go [11] []<|jn ((Zvd t0 x0 x1) h)) fun h17 h=> bd h fun v38 e39 h=>go [] [rg 8 [(1,n e39)]]<|nx h) fun h15 h=> pr 13 (gB h15 5 6 [(16,gs1 h15),(17,pn h15)])<|pe<|goN [] []<|bF rfl<|bd h fun v39 e40 h=>go [] [rg 8 [(1,n e40)]]<|nx h) fun h14 h=> go [] []<|dn h (iE)
def Y0d (x0:Z0v) (x1:List UInt8):(Int×(List Bool))→SL:= fun t0=>⟨64,[(1,.str x1),(3,.ptr (Z23 x0)),(7,.lsl 7 0 ((t0.2.map Z48).length)),(8,dI t0.1)],[(7,{ sz:=1,rows:=(t0.2.map Z48),frz:=0,pure:=true })]⟩
def J88x1:JT (((List Bool))):= je 0 fun q4:(List Bool)=>⟨64,[(7,.lsl 7 0 ((q4.map Z48).length))],[(7,{ sz:=1,rows:=(q4.map Z48),frz:=0,pure:=true })]⟩
theorem wl88x1 {x0 x1 t0 r Γ} (h:(Zhi x0 x1) t0=some r):A prog Γ (lpC f88 87) [] (Rd (Y0d x0 x1) J88x1 r) ((Y0d x0 x1) t0).s:= go [] [rg 4 [(3,ln x0.Z24)]]<|br h (fun h9 h=>go [] []<|bd h fun q2 e46 h=>lp e46 (wl88x2 t0)<|qe<|bd h fun v45 e47 h=>goN [] [rg 5 [(1,n e47)]]<|nx h) fun h9 h=> go [] []<|dn h (iE)
theorem w88 {x0 x1 x2 r} (h:Zl1 x0 x1 x2=some r):Z06 prog 88 [.agg (Z23 x0),.str x1,dI x2] (R88 r):= cs f88<|bd h fun v0 e0 h=>bd h fun v1 e1 h=>bd h fun v2 e2 h=>go [3] [rg 0 [(0,bo)],rg 1 [(2,ln x0.Z24),(3,mk false e0)],rg 2 [(2,ia 14 e1),(3,st e2 0 [.bool true] true)]]<|nm (congrArg (fun nn:Nat=>(⟨64,[(1,.str x1),(3,.ptr (Z23 x0)),(7,.lsl 14 0 nn)],[(14,{ sz:=1,rows:=(((List.replicate (x0.Z24.length:Int).toNat false).set v1 true).map Z48),frz:=0,pure:=true })]⟩:SL)) (by simp only [List.length_map,List.length_set]:((List.replicate (x0.Z24.length:Int).toNat false).map Z48).length=(((List.replicate (x0.Z24.length:Int).toNat false).set v1 true).map Z48).length))<|so<|go [] []<|bd h fun q4 e48 h=>lp (ps:=[(14,7)]) e48 wl88x1<|qe<|goN [] []<|rtB h (rw_ q4) (a2 (rpI q4) trivial) (by simp only [rwE] <;> kernel_rfl)
def R60 (y0:Bool):D:= .bool y0
def Zim (v0:Z2x) (v1:(List Bool)) (x0:Z0v) (x1 t0:Int):Option (Ctl (Int) (Unit⊕Bool)):= if (decide (t0<x1)) then ((Z01 x0.Z2e t0).bind fun v4=> if (v4.Z0f==v0.Z0f) then ((Z01 v1 v4.Z37).bind fun v5=> if v5 then (if (v4.Z0s !=v0.Z0s) then (some (.done (.inr false))) else ((some (IntKind.wrap .i64 (t0+1))).bind fun v6=> some (.next v6))) else ((some (IntKind.wrap .i64 (t0+1))).bind fun v7=> some (.next v7))) else ((some (IntKind.wrap .i64 (t0+1))).bind fun v8=> some (.next v8))) else (some (.done (.inl (()))))
def Zhh (x0:Z0v) (x1:Int):Option (Bool):= (Z01 x0.Z2e x1).bind fun v0=> (Zl1 x0 v0.Z0f v0.Z37).bind fun v1=> (Z07 (Zim v0 v1 x0 x1) Z08 0).bind fun q1=> match q1 with | .inl q0=>(some true) | .inr y0=>(some y0)
def Zwc (v0:Z2x) (v1:(List Bool)) (x0:Z0v) (x1:Int):Int→SL:= fun t0=>⟨49,[(1,dI x1),(2,.ptr (Z23 x0)),(5,.lptr 5 0 0),(6,.sl false (v1.map Z48)),(7,dI t0)],[(5,{ sz:=3,rows:=[Z3k v0],frz:=0,pure:=false })]⟩
def J60x1:JT (Unit⊕Bool):= ju (je 0 fun q0:Unit=>⟨49,[],[]⟩) (jr prog f60 R60)
theorem wl60x1 {v0 v1 x0 x1 t0 r Γ} (h:(Zim v0 v1 x0 x1) t0=some r):A prog Γ (lpC f60 87) [] (Rd (Zwc v0 v1 x0 x1) J60x1 r) ((Zwc v0 v1 x0 x1) t0).s:= go [] []<|br h (fun h4 h=>bd h fun v4 e4 h=>go [7] [rg 6 [(3,ix e4)]]<|po<|pr 6 []<|sp h (fun h5 h=>bd h fun v5 e5 h=>pr 7 (gC h5 6 3 [(9,gw h5 (ix e5)),(10,gw h5 g0),(11,py h5)])<|sp h (fun h6 h=>pr 6 (gC h6 13 5 [(18,py h6)])<|pe<|goN [] []<|br h (fun h7 h=>go [] []<|dn h (i2 iR)) fun h7 h=> bd h fun v6 e6 h=>go [] [rg 5 [(1,n e6)]]<|nx h) fun h6 h=> pr 6 (gB h6 13 5 [(18,pn h6)])<|pe<|goN [] []<|bF rfl<|bd h fun v7 e7 h=>go [] [rg 5 [(1,n e7)]]<|nx h) fun h5 h=> pr 13 (gB h5 6 5 [(11,pn h5)])<|pe<|goN [] []<|bF rfl<|bd h fun v8 e8 h=>go [] [rg 5 [(1,n e8)]]<|nx h) fun h4 h=> go [] []<|dn h (i1 iE)
theorem w60 {x0 x1 r} (h:Zhh x0 x1=some r):Z06 prog 60 [.agg (Z23 x0),dI x1] (R60 r):= cs f60<|bd h fun v0 e0 h=>bd h fun v1 e1 h=>go [] [rg 0 [(0,bo)],rg 1 [(3,ix e0)],rg 2 [(5,k (w88 e1))]]<|bd h fun q1 e9 h=>lp e9 wl60x1<|match q1,h with | .inl q0,h=>j1<|(qe<|goN [] []<|rt h) | .inr y0,h=>j2<|(qr h)
def R127 (y0:Bool):D:= .bool y0
def Zo5 (x0:List Z0k) (t0:Int):Option (Ctl (Int) (Unit⊕Bool)):= if (decide (t0<(x0.length:Int))) then ((Z01 x0 t0).bind fun v1=> if (v1.Z4h !=0) then (some (.done (.inr false))) else ((some (IntKind.wrap .i64 (t0+1))).bind fun v2=> some (.next v2))) else (some (.done (.inl (()))))
def Zf1 (x0:List Z0k):Option (Bool):= (Z07 (Zo5 x0) Z08 0).bind fun q1=> match q1 with | .inl q0=>(some true) | .inr y0=>(some y0)
def Y0g (x0:List Z0k):Int→SL:= fun t0=>⟨16,[(0,.sl false (x0.map Z1n)),(3,dI t0)],[]⟩
def J127x1:JT (Unit⊕Bool):= ju (je 0 fun q0:Unit=>⟨16,[],[]⟩) (jr prog f127 R127)
theorem wl127x1 {x0 t0 r Γ} (h:(Zo5 x0) t0=some r):A prog Γ (lpC f127 21) [] (Rd (Y0g x0) J127x1 r) ((Y0g x0) t0).s:= go [] [rg 2 [(2,ln x0)]]<|br h (fun h2 h=>bd h fun v1 e1 h=>go [] [rg 4 [(2,ix e1)]]<|br h (fun h3 h=>go [] []<|dn h (i2 iR)) fun h3 h=> bd h fun v2 e2 h=>go [] [rg 3 [(1,n e2)]]<|nx h) fun h2 h=> go [] []<|dn h (i1 iE)
theorem w127 {x0 r} (h:Zf1 x0=some r):Z06 prog 127 [.sl false (x0.map Z1n)] (R127 r):= cs f127<|go [] []<|bd h fun q1 e3 h=>lp e3 wl127x1<|match q1,h with | .inl q0,h=>j1<|(qe<|goN [] []<|rt h) | .inr y0,h=>j2<|(qr h)
def R118 (y0:Bool):D:= .bool y0
def Zio (t0 : Int) (v1:Z5s) (p1:Bool):Option (Ctl (Int) (Unit⊕Bool)):= if (!p1) then (if (v1.Z5h !=8) then (if (v1.Z5h !=0) then (some (.done (.inr false))) else (if (v1.f_N !=0) then (some (.done (.inr false))) else (if (!(v1.f_S==([]:List UInt8))) then (some (.done (.inr false))) else ((some (IntKind.wrap .i64 (t0+1))).bind fun v2=> some (.next v2))))) else (if (v1.f_N !=0) then (some (.done (.inr false))) else (if (!(v1.f_S==([]:List UInt8))) then ((some (IntKind.wrap .i64 (t0+1))).bind fun v3=> some (.next v3)) else ((some (IntKind.wrap .i64 (t0+1))).bind fun v4=> some (.next v4))))) else (if (v1.f_N !=0) then (if (!(v1.f_S==([]:List UInt8))) then (if (v1.Z5h !=8) then (some (.done (.inr false))) else ((some (IntKind.wrap .i64 (t0+1))).bind fun v5=> some (.next v5))) else ((some (IntKind.wrap .i64 (t0+1))).bind fun v6=> some (.next v6))) else (if (!(v1.f_S==([]:List UInt8))) then (if (v1.Z5h !=8) then (some (.done (.inr false))) else ((some (IntKind.wrap .i64 (t0+1))).bind fun v7=> some (.next v7))) else ((some (IntKind.wrap .i64 (t0+1))).bind fun v8=> some (.next v8))))
def Znl (x0:Z0y) (t0:Int):Option (Ctl (Int) (Unit⊕Bool)):= if (decide (t0<(x0.Z15.length:Int))) then ((Z01 x0.Z15 t0).bind fun v1=> if (v1.Z5h==3) then ((Zio t0 v1) true) else ((Zio t0 v1) (v1.Z5h==5))) else (some (.done (.inl (()))))
def Zlf (v26:Z2d) (t4:Int):Option (Ctl (Int) (Unit⊕Bool)):= if (decide (t4<(v26.Z1v.Z20.length:Int))) then ((Z01 v26.Z1v.Z20 t4).bind fun v32=> if (v32.Z0s !=0) then (some (.done (.inr false))) else ((some (IntKind.wrap .i64 (t4+1))).bind fun v33=> some (.next v33))) else (some (.done (.inl (()))))
def Zhx (v26:Z2d) (t5:Int):Option (Ctl (Int) (Unit⊕Bool)):= if (decide (t5<(v26.Z1v.Z1q.length:Int))) then ((Z01 v26.Z1v.Z1q t5).bind fun v38=> (Zf1 v38.Z1o.Z0d).bind fun v39=> if (!v39) then (some (.done (.inr false))) else ((Z01 v26.Z1v.Z1q t5).bind fun v40=> (Zf1 v40.Z1o.Z0i).bind fun v41=> if (!v41) then (some (.done (.inr false))) else ((some (IntKind.wrap .i64 (t5+1))).bind fun v42=> some (.next v42)))) else (some (.done (.inl (()))))
def Znw (t1:Int) (v26:Z2d):Option (Ctl (Int) (Unit⊕Bool)):= (Z07 (Zlf v26) Z08 0).bind fun q7=> match q7 with | .inl q6=>((Z07 (Zhx v26) Z08 0).bind fun q9=> match q9 with | .inl q8=>((some (IntKind.wrap .i64 (t1+1))).bind fun v43=> some (.next v43)) | .inr y2=>(some (.done (.inr y2)))) | .inr y3=>(some (.done (.inr y3)))
def Zkn (x0 : Z0y) (t1:Int):Option (Ctl (Int) (Unit⊕Bool)):= if (decide (t1<(x0.Z13.length:Int))) then ((Z01 x0.Z13 t1).bind fun v26=> (Z01 x0.Z13 t1).bind fun v27=> if (!v27.Z6k) then (if (v26.Z1v.Z0i !=0) then (some (.done (.inr false))) else (if (v26.Z1v.Z0d !=0) then (some (.done (.inr false))) else ((some (IntKind.wrap .i64 ((v26.Z1v.Z0l.length:Int)+(v26.Z1v.Z20.length:Int)))).bind fun v28=> (some (IntKind.wrap .i64 (v28+(v26.Z1v.Z1q.length:Int)))).bind fun v29=> (some (IntKind.wrap .i64 (v29+(v26.Z1v.Z1r.length:Int)))).bind fun v30=> if (decide (v30>0)) then (some (.done (.inr false))) else ((Znw t1 v26))))) else ((Znw t1 v26))) else (some (.done (.inl (()))))
def Zit (x0:Z0y):Option (Bool):= (Z07 (Znl x0) Z08 0).bind fun q1=> match q1 with | .inl q0=>((Z07 (Zkn x0) Z08 0).bind fun q11=> match q11 with | .inl q10=>(some true) | .inr y4=>(some y4)) | .inr y5=>(some y5)
def Zpg (x0:Z0y):Int→SL:= fun t0=>⟨150,[(1,.ptr (Z2k x0)),(3,dI t0)],[]⟩
def Zxh (x0:Z0y):JT (Unit⊕Bool):= ju (je 0 fun q0:Unit=>⟨150,[(1,.ptr (Z2k x0))],[]⟩) (jr prog f118 R118)
theorem Zws (x0:Z0y) {t0 v1 p1 r Γ} (h:(Zio t0 v1) p1=some r):Jn prog f118 Γ (Rd (Zpg x0) (Zxh x0) r) 2853 ⟨150,[(1,.ptr (Z2k x0)),(3,dI t0),(4,.lptr 4 0 0),(5,.bool p1)],[(4,{ sz:=6,rows:=[Z8c v1],frz:=0,pure:=false })]⟩:= po <| pr 3 []<|sp h (fun h16 h=>pr 5 (gC h16 3 3 [(6,py h16)])<|sp h (fun h17 h=>pr 5 (gC h17 8 3 [(11,py h17)])<|sp h (fun h18 h=>pr 18 (gA h18 13 4 [(19,gs0 h18),(20,py h18)])<|pe<|goN [] []<|bT rfl<|go [] []<|dn h (i2 iR)) fun h18 h=> pr 4 (gC h18 13 4 [])<|sp h (fun h19 h=>pr 14 (gC h19 17 2 ((19,gw h18 (py h19))::(20,pn h18)::gA h16 22 4 [(29,gs0 h16),(30,py h16)]))<|pe<|goN [] []<|bT rfl<|go [] []<|dn h (i2 iR)) fun h19 h=> pr 9 (gB h19 17 2 [(19,gw h18 (pn h19)),(20,pn h18)])<|sp h (fun h20 h=>pr 5 (gC h20 26 2 [(28,gw h20 (kb h17)),(29,py h20)])<|pe<|goN [] []<|bT rfl<|go [] []<|dn h (i2 iR)) fun h20 h=> pr 5 (gB h20 26 3 [(29,pn h20)])<|pe<|goN [] []<|bF rfl<|bd h fun v2 e2 h=>go [] [rg 3 [(1,n e2)]]<|nx h) fun h17 h=> pr 9 (gB h17 8 3 [(11,pn h17)])<|sp h (fun h21 h=>pr 14 (gC h21 17 2 ((19,py h21)::gA h16 22 4 [(29,gs0 h16),(30,py h16)]))<|pe<|goN [] []<|bT rfl<|go [] []<|dn h (i2 iR)) fun h21 h=> pr 9 (gB h21 17 2 [(19,pn h21)])<|sp h (fun h22 h=>pr 5 (gC h22 26 2 [(28,gw h22 (kb h17)),(29,py h22)])<|pe<|goN [] []<|bF rfl<|bd h fun v3 e3 h=>go [] [rg 3 [(1,n e3)]]<|nx h) fun h22 h=> pr 5 (gB h22 26 3 [(29,pn h22)])<|pe<|goN [] []<|bF rfl<|bd h fun v4 e4 h=>go [] [rg 3 [(1,n e4)]]<|nx h) fun h16 h=> pr 14 (gB h16 3 3 [(6,pn h16)])<|sp h (fun h23 h=>pr 9 (gC h23 17 2 ((19,py h23)::gC h16 22 4 []))<|sp h (fun h24 h=>pr 5 (gC h24 26 3 [(29,gw h16 (py h24)),(30,pn h16)])<|pe<|goN [] []<|br h (fun h25 h=>go [] []<|dn h (i2 iR)) fun h25 h=> bd h fun v5 e5 h=>go [] [rg 3 [(1,n e5)]]<|nx h) fun h24 h=> pr 5 (gB h24 26 3 [(29,gw h16 (pn h24)),(30,pn h16)])<|pe<|goN [] []<|bF rfl<|bd h fun v6 e6 h=>go [] [rg 3 [(1,n e6)]]<|nx h) fun h23 h=> pr 9 (gB h23 17 2 [(19,pn h23)])<|sp h (fun h26 h=>pr 5 (gC h26 26 3 [(29,py h26)])<|pe<|goN [] []<|br h (fun h27 h=>go [] []<|dn h (i2 iR)) fun h27 h=> bd h fun v7 e7 h=>go [] [rg 3 [(1,n e7)]]<|nx h) fun h26 h=> pr 5 (gB h26 26 3 [(29,pn h26)])<|pe<|goN [] []<|bF rfl<|bd h fun v8 e8 h=>go [] [rg 3 [(1,n e8)]]<|nx h
theorem wl118x1 {x0 t0 r Γ} (h:(Znl x0) t0=some r):A prog Γ (lpC f118 21) [] (Rd (Zpg x0) (Zxh x0) r) ((Zpg x0) t0).s:= go [] [rg 2 [(3,ln x0.Z15)]]<|br h (fun h14 h=>bd h fun v1 e1 h=>sp h (fun h15 h=>go [6] [rg 4 [(3,ix e1)],rg 5 [(2,kb h15)]]<|jn ((Zws x0) h)) fun h15 h=> go [6] [rg 4 [(3,ix e1)],rg 5 [(2,kb h15)]]<|jn ((Zws x0) h)) fun h14 h=> go [] []<|dn h (i1 iE)
def Y48 (t1:Int) (v26:Z2d) (x0:Z0y):Int→SL:= fun t4=>⟨150,[(1,.ptr (Z2k x0)),(6,dI t1),(7,.lptr 7 0 0),(8,dI t4)],[(7,{ sz:=6,rows:=[Z0t v26.Z1v],frz:=0,pure:=false })]⟩
def J118x3 (t1:Int) (v26:Z2d) (x0:Z0y):JT (Unit⊕Bool):= ju (je 4 fun q6:Unit=>⟨150,[(1,.ptr (Z2k x0)),(6,dI t1),(7,.lptr 7 0 0)],[(7,{ sz:=6,rows:=[Z0t v26.Z1v],frz:=0,pure:=false })]⟩) (jr prog f118 R118)
theorem wl118x3 (t1:Int) (x0:Z0y) {v26 t4 r Γ} (h:(Zlf v26) t4=some r):A prog Γ (lpC f118 22091) [] (Rd (Y48 t1 v26 x0) (J118x3 t1 v26 x0) r) ((Y48 t1 v26 x0) t4).s:= go [] [rg 15 [(3,ln v26.Z1v.Z20)]]<|br h (fun h50 h=>bd h fun v32 e35 h=>go [] [rg 17 [(3,ix e35)]]<|br h (fun h51 h=>go [] []<|dn h (i2 iR)) fun h51 h=> bd h fun v33 e36 h=>go [] [rg 16 [(1,n e36)]]<|nx h) fun h50 h=> go [] []<|dn h (i1 iE)
def Zzz (t1:Int) (v26:Z2d) (x0:Z0y):Int→SL:= fun t5=>⟨150,[(1,.ptr (Z2k x0)),(6,dI t1),(7,.lptr 7 0 0),(9,dI t5)],[(7,{ sz:=6,rows:=[Z0t v26.Z1v],frz:=0,pure:=false })]⟩
def J118x4 (t1:Int) (x0:Z0y):JT (Unit⊕Bool):= ju (je 6 fun q8:Unit=>⟨150,[(1,.ptr (Z2k x0)),(6,dI t1)],[]⟩) (jr prog f118 R118)
theorem wl118x4 (t1:Int) (x0:Z0y) {v26 t5 r Γ} (h:(Zhx v26) t5=some r):A prog Γ (lpC f118 24139) [] (Rd (Zzz t1 v26 x0) (J118x4 t1 x0) r) ((Zzz t1 v26 x0) t5).s:= go [] [rg 20 [(3,ln v26.Z1v.Z1q)]]<|br h (fun h55 h=>bd h fun v38 e42 h=>bd h fun v39 e43 h=>sp h (fun h56 h=>go [] [rg 22 ((3,ix e42)::(7,k (w127 e43))::gA h56 10 9 [(19,py h56)])]<|bT rfl<|go [] []<|dn h (i2 iR)) fun h56 h=> bd h fun v40 e44 h=>bd h fun v41 e45 h=>go [] [rg 22 ((3,ix e42)::(7,k (w127 e43))::gC h56 10 3 ((13,gw h56 (ix e44))::gC h56 14 3 [(17,gw h56 (k (w127 e45))),(18,gw h56 g0),(19,pn h56)]))]<|br h (fun h57 h=>go [] []<|dn h (i2 iR)) fun h57 h=> bd h fun v42 e46 h=>go [] [rg 21 [(1,n e46)]]<|nx h) fun h55 h=> go [] []<|dn h (i1 iE)
def Zt4 (x0:Z0y):Int→SL:= fun t1=>⟨150,[(1,.ptr (Z2k x0)),(6,dI t1)],[]⟩
def Y2t:JT (Unit⊕Bool):= ju (je 2 fun q10:Unit=>⟨150,[],[]⟩) (jr prog f118 R118)
theorem Y36 (x0:Z0y) {t1 v26 r Γ} (h:(Znw t1 v26)=some r):Jn prog f118 Γ (Rd (Zt4 x0) Y2t r) 9803 ⟨150,[(1,.ptr (Z2k x0)),(6,dI t1),(7,.lptr 7 0 0)],[(7,{ sz:=6,rows:=[Z0t v26.Z1v],frz:=0,pure:=false })]⟩:= so<|go [] []<|bd h fun q7 e37 h=>lp e37 (wl118x3 t1 x0)<|match q7,h with | .inl q6,h=>j1<|(qe<|goN [] []<|bd h fun q9 e47 h=>lp e47 (wl118x4 t1 x0)<|match q9,h with | .inl q8,h=>j1<|(qe<|bd h fun v43 e48 h=>goN [] [rg 10 [(1,n e48)]]<|nx h) | .inr y2,h=>j2<|(ql h fun _ _ p=>⟨(iS p).1,i2 ((iS p).2)⟩)) | .inr y3,h=>j2<|(ql h fun _ _ p=>⟨(iS p).1,i2 ((iS p).2)⟩)
theorem wl118x2 {x0 t1 r Γ} (h:(Zkn x0) t1=some r):A prog Γ (lpC f118 43) [] (Rd (Zt4 x0) Y2t r) ((Zt4 x0) t1).s:= go [] [rg 9 [(3,ln x0.Z13)]]<|br h (fun h43 h=>bd h fun v26 e29 h=>go [12] [rg 11 [(3,ix e29)]]<|po<|bd h fun v27 e30 h=>pr 8 [(3,ix e30)]<|sp h (fun h44 h=>pr 4 (gC h44 8 4 [])<|sp h (fun h45 h=>pr 23 (gA h45 12 3 [(15,gw h44 (py h45)),(16,gw h44 g0),(33,gw h44 g0),(34,py h44)])<|pe<|goN [] []<|bT rfl<|go [] []<|dn h (i2 iR)) fun h45 h=> pr 5 (gC h45 12 3 [(15,gw h44 (pn h45)),(16,gw h44 g0)])<|sp h (fun h46 h=>pr 18 (gA h46 17 16 [(33,gw h44 (py h46)),(34,py h44)])<|pe<|goN [] []<|bT rfl<|go [] []<|dn h (i2 iR)) fun h46 h=> bd h fun v28 e31 h=>bd h fun v29 e32 h=>bd h fun v30 e33 h=>pr 18 (gC h46 17 2 ((19,gw h46 (ln v26.Z1v.Z0l))::gC h46 20 2 ((22,gw h46 (ln v26.Z1v.Z20))::(23,gw h46 (n e31))::gC h46 24 2 ((26,gw h46 (ln v26.Z1v.Z1q))::(27,gw h46 (n e32))::gC h46 28 2 [(30,gw h46 (ln v26.Z1v.Z1r)),(31,gw h46 (n e33)),(32,gw h46 g0),(33,gw h44 (pn h46)),(34,py h44)]))))<|pe<|goN [] []<|br h (fun h47 h=>go [] []<|dn h (i2 iR)) fun h47 h=> go [14] []<|jn ((Y36 x0) h)) fun h44 h=> pr 27 (gB h44 8 4 (gB h44 15 2 [(33,gs1 h44),(34,pn h44)]))<|pe<|goN [] []<|bF rfl<|go [14] []<|jn ((Y36 x0) h)) fun h43 h=> go [] []<|dn h (i1 iE)
theorem w118 {x0 r} (h:Zit x0=some r):Z06 prog 118 [.agg (Z2k x0)] (R118 r):= cs f118<|go [] [rg 0 [(0,bo)]]<|bd h fun q1 e9 h=>lp e9 wl118x1<|match q1,h with | .inl q0,h=>j1<|(qe<|goN [] []<|bd h fun q11 e49 h=>lp e49 wl118x2<|match q11,h with | .inl q10,h=>j1<|(qe<|goN [] []<|rt h) | .inr y4,h=>j2<|(qr h)) | .inr y5,h=>j2<|(qr h)
def R153 (y0:(List Z00)×Int×Int):D:= .tup [.sl false (y0.1.map Z0a),.int .i64 y0.2.1,.int .i64 y0.2.2]
def Zl7 (x0:List Z00) (x1:Z00) (t0:Int):Option (Ctl (Int) (Unit⊕((List Z00)×Int×Int))):= if (decide (t0<(x0.length:Int))) then ((Z01 x0 t0).bind fun v1=> if (Y1w v1 x1) then ((some (IntKind.wrap .i64 (t0+1))).bind fun v2=> some (.done (.inr (x0,v2,0)))) else ((some (IntKind.wrap .i64 (t0+1))).bind fun v3=> some (.next v3))) else (some (.done (.inl (()))))
def Z9c (x0:List Z00) (x1:Z00):Option ((List Z00)×Int×Int):= (Z07 (Zl7 x0 x1) Z08 0).bind fun q1=> match q1 with | .inl q0=>(if (decide ((x0.length:Int)≥1000)) then (some (x0,0,5)) else ((some (IntKind.wrap .i64 ((x0.length:Int)+1))).bind fun v4=> (Z1k 48 (([]:List Z00)++x0).length).bind fun v5=> (Z1k 48 ((([]:List Z00)++x0)++[x1]).length).bind fun v6=> some (((([]:List Z00)++x0)++[x1]),v4,0))) | .inr y0=>(some y0)
def Zz7 (x0:List Z00) (x1:Z00):Int→SL:= fun t0=>⟨36,[(0,.sl false (x0.map Z0a)),(3,.ptr (Z0a x1)),(7,dI t0)],[]⟩
def J153x1 (x0:List Z00) (x1:Z00):JT (Unit⊕((List Z00)×Int×Int)):= ju (je 0 fun q0:Unit=>⟨36,[(0,.sl false (x0.map Z0a)),(3,.ptr (Z0a x1))],[]⟩) (jr prog f153 R153)
theorem wl153x1 {x0 x1 t0 r Γ} (h:(Zl7 x0 x1) t0=some r):A prog Γ (lpC f153 21) [] (Rd (Zz7 x0 x1) (J153x1 x0 x1) r) ((Zz7 x0 x1) t0).s:= go [] [rg 2 [(2,ln x0)]]<|br h (fun h2 h=>bd h fun v1 e1 h=>go [] [rg 4 [(2,ix e1),(5,qs eqg_242 eqp_242 (Y1w v1 x1))]]<|br h (fun h3 h=>bd h fun v2 e2 h=>go [] [rg 5 [(2,n e2)]]<|dn h (i2 iR)) fun h3 h=> bd h fun v3 e3 h=>go [] [rg 3 [(1,n e3)]]<|nx h) fun h2 h=> go [] []<|dn h (i1 iE)
theorem w153 {x0 x1 r} (h:Z9c x0 x1=some r):Z06 prog 153 [.sl false (x0.map Z0a),.agg (Z0a x1)] (R153 r):= cs f153<|go [] [rg 0 [(0,bo)]]<|bd h fun q1 e4 h=>lp e4 wl153x1<|match q1,h with | .inl q0,h=>j1<|(qe<|goN [] [rg 6 [(1,ln x0)]]<|br h (fun h4 h=>go [] []<|rt h) fun h4 h=> bd h fun v4 e5 h=>bd h fun v5 e6 h=>bd h fun v6 e7 h=>go [] [rgq 8 [(7,ln x0),(8,n e5),(0,br0 0 5),(4,br0 1 5),(2,an fr0 e6),(5,ap e7)] [1,3,6,7,8,0,4,2,5,9,10,11] [2,5,1003,1006,1007,1008,2004,1004]]<|rtB h (.tup [rw_ ((([]:List Z00)++x0)++[x1]),dI v4,dI 0]) (a2 (rpI ((([]:List Z00)++x0)++[x1])) (a2 trivial (a2 trivial trivial))) (by simp only [rwE] <;> kernel_rfl)) | .inr y0,h=>j2<|(qr h)
def R151 (y0:(List Z00)×Int×Int):D:= .tup [.sl false (y0.1.map Z0a),.int .i64 y0.2.1,.int .i64 y0.2.2]
def Za6 (x0:List Z00) (x1:List UInt8):Option ((List Z00)×Int×Int):= (Z9c x0 (Z00.mk 1 x1 0 0 0)).bind fun v0=> some (v0.1,v0.2.1,v0.2.2)
theorem w151 {x0 x1 r} (h:Za6 x0 x1=some r):Z06 prog 151 [.sl false (x0.map Z0a),.str x1] (R151 r):= cs f151<|bd h fun v0 e0 h=>go [] [rg 1 [(3,k (w153 e0))]]<|rt h
def R180 (y0:(List Z00)×Int×Int):D:= .tup [.sl false (y0.1.map Z0a),.int .i64 y0.2.1,.int .i64 y0.2.2]
def Zgi (x0:List Z00) (x1:Int) (x2:List UInt8):Option ((List Z00)×Int×Int):= (Za6 x0 x2).bind fun v0=> if (v0.2.2 !=0) then (some (x0,0,v0.2.2)) else ((Z9c v0.1 (Z00.mk x1 [] 0 v0.2.1 0)).bind fun v1=> if (v1.2.2 !=0) then (some (x0,0,v1.2.2)) else (some (v1.1,v1.2.1,0)))
theorem w180 {x0 x1 x2 r} (h:Zgi x0 x1 x2=some r):Z06 prog 180 [.sl false (x0.map Z0a),dI x1,.str x2] (R180 r):= cs f180<|bd h fun v0 e0 h=>go [] [rg 1 [(2,k (w151 e0))]]<|br h (fun h0 h=>go [] []<|rt h) fun h0 h=> bd h fun v1 e1 h=>go [] [rg 4 [(4,k (w153 e1))]]<|br h (fun h1 h=>go [] []<|rt h) fun h1 h=> go [] []<|rt h
def R150 (y0:(List Z00)×Int×Int):D:= .tup [.sl false (y0.1.map Z0a),.int .i64 y0.2.1,.int .i64 y0.2.2]
def Zbz (x0:List Z00) (x1:List UInt8):Option ((List Z00)×Int×Int):= (Zgi x0 7 x1).bind fun v0=> some (v0.1,v0.2.1,v0.2.2)
theorem w150 {x0 x1 r} (h:Zbz x0 x1=some r):Z06 prog 150 [.sl false (x0.map Z0a),.str x1] (R150 r):= cs f150<|bd h fun v0 e0 h=>go [] [rg 1 [(2,k (w180 e0))]]<|rt h
def B128 (y0:Z0u×Int):List Blk:=[{ sz:=2,rows:=[Z49 y0.1],frz:=0,pure:=false,pin:=some 0 }]
def R128 (y0:Z0u×Int):D:= .int .i64 y0.2
def Z9s (x0:Z0u) (x1:List UInt8):Option (Z0u×Int):= if (x0.f_E !=0) then (some (x0,0)) else ((Zbz x0.f_P x1).bind fun v0=> some ((Z0u.mk v0.1 v0.2.2),v0.2.1))
theorem w128 {x0 x1 r} (h:Z9s x0 x1=some r):Z4f prog 128 [.lptr 0 0 0,.str x1] [{ sz:=2,rows:=[Z49 x0],frz:=0,pure:=false,pin:=some 0 }] (R128 r) (B128 r):= csO f128 (m:=1) (keep:=[true])<|go [] []<|br h (fun h0 h=>go [] []<|rtO h (dI 0) [{ sz:=2,rows:=[Z49 x0],frz:=0,pure:=false,pin:=some 0 }] (a2 trivial trivial) rfl) fun h0 h=> bd h fun v0 e0 h=>go [] [rg 3 [(5,k (w150 e0))]]<|rtO h (dI v0.2.1) [{ sz:=2,rows:=[[.sl false (v0.1.map Z0a),dI v0.2.2]],frz:=0,pure:=false,pin:=some 0 }] (a2 trivial trivial) rfl
def B129 (y0:Z0u×Int):List Blk:=[{ sz:=2,rows:=[Z49 y0.1],frz:=0,pure:=false,pin:=some 0 }]
def R129 (y0:Z0u×Int):D:= .int .i64 y0.2
def Z6l (x0:Z0u) (x1:List UInt8):Option (Z0u×Int):= if (x0.f_E !=0) then (some (x0,0)) else ((Za6 x0.f_P x1).bind fun v0=> some ((Z0u.mk v0.1 v0.2.2),v0.2.1))
theorem Z88 {x0 x1 r} (h:Z6l x0 x1=some r):Z4f prog 129 [.lptr 0 0 0,.str x1] [{ sz:=2,rows:=[Z49 x0],frz:=0,pure:=false,pin:=some 0 }] (R129 r) (B129 r):= csO f129 (m:=1) (keep:=[true])<|go [] []<|br h (fun h0 h=>go [] []<|rtO h (dI 0) [{ sz:=2,rows:=[Z49 x0],frz:=0,pure:=false,pin:=some 0 }] (a2 trivial trivial) rfl) fun h0 h=> bd h fun v0 e0 h=>go [] [rg 3 [(5,k (w151 e0))]]<|rtO h (dI v0.2.1) [{ sz:=2,rows:=[[.sl false (v0.1.map Z0a),dI v0.2.2]],frz:=0,pure:=false,pin:=some 0 }] (a2 trivial trivial) rfl
def R152 (y0:(List Z00)×Int×Int):D:= .tup [.sl false (y0.1.map Z0a),.int .i64 y0.2.1,.int .i64 y0.2.2]
def Zgv (x0:List Z00) (x1:List UInt8):Option ((List Z00)×Int×Int):= (Zgi x0 8 x1).bind fun v0=> some (v0.1,v0.2.1,v0.2.2)
theorem w152 {x0 x1 r} (h:Zgv x0 x1=some r):Z06 prog 152 [.sl false (x0.map Z0a),.str x1] (R152 r):= cs f152<|bd h fun v0 e0 h=>go [] [rg 1 [(2,k (w180 e0))]]<|rt h
def B131 (y0:Z0u×Int):List Blk:=[{ sz:=2,rows:=[Z49 y0.1],frz:=0,pure:=false,pin:=some 0 }]
def R131 (y0:Z0u×Int):D:= .int .i64 y0.2
def Zhd (p0:List Z00) (p1 p2:Int):Option (Z0u×Int):= some ((Z0u.mk p0 p2),p1)
def Zl9 (x0:Z0u) (x1:Z5s):Option (Z0u×Int):= if (x0.f_E !=0) then (some (x0,0)) else (if (x1.Z5h==8) then ((Zgv x0.f_P x1.f_S).bind fun v0=> Zhd v0.1 v0.2.1 v0.2.2) else ((Z9c x0.f_P (Z00.mk x1.Z5h [] x1.f_N 0 0)).bind fun v1=> Zhd v1.1 v1.2.1 v1.2.2))
theorem Y2p (x0:Z0u) {p0 p1 p2 r Γ} (h:Zhd p0 p1 p2=some r):Jn prog f131 Γ (Zd8 prog f131 1 [true] (R131 r) (B131 r)) 47 ⟨54,[(0,.lptr 0 0 0),(5,.sl false (p0.map Z0a)),(6,dI p1),(7,dI p2)],[(0,{ sz:=2,rows:=[Z49 x0],frz:=0,pure:=false,pin:=some 0 })]⟩:= so<|go [] []<|rtO h (dI p1) [{ sz:=2,rows:=[[.sl false (p0.map Z0a),dI p2]],frz:=0,pure:=false,pin:=some 0 }] (a2 trivial trivial) rfl
theorem w131 {x0 x1 r} (h:Zl9 x0 x1=some r):Z4f prog 131 [.lptr 0 0 0,.agg (Z8c x1)] [{ sz:=2,rows:=[Z49 x0],frz:=0,pure:=false,pin:=some 0 }] (R131 r) (B131 r):= csO f131 (m:=1) (keep:=[true])<|go [] [rg 0 [(0,bo)]]<|br h (fun h0 h=>go [] []<|rtO h (dI 0) [{ sz:=2,rows:=[Z49 x0],frz:=0,pure:=false,pin:=some 0 }] (a2 trivial trivial) rfl) fun h0 h=> go [] []<|br h (fun h1 h=>bd h fun v0 e0 h=>go [7] [rg 5 [(6,k (w152 e0))]]<|jn ((Y2p x0) h)) fun h1 h=> bd h fun v1 e1 h=>go [7] [rg 6 [(9,k (w153 e1))]]<|jn ((Y2p x0) h)
def R163 (y0:Bool):D:= .bool y0
def Zis (x0:Int):Option (Bool):= if (x0==1) then (some true) else (if (x0==2) then (some true) else (if (x0==4) then (some true) else (some (x0==8))))
theorem w163 {x0 r} (h:Zis x0=some r):Z06 prog 163 [dI x0] (R163 r):= cs f163<|go [1] []<|po<|pr 3 []<|sp h (fun h0 h=>pr 12 (gA h0 3 2 [(5,py h0)])<|pe<|goN [] []<|rt h) fun h0 h=> pr 4 (gC h0 3 2 [(5,pn h0)])<|sp h (fun h1 h=>pr 8 (gA h1 7 2 [(9,py h1)])<|pe<|goN [] []<|rt h) fun h1 h=> pr 4 (gC h1 7 2 [(9,pn h1)])<|sp h (fun h2 h=>pr 4 (gA h2 11 2 [(13,py h2)])<|pe<|goN [] []<|rt h) fun h2 h=> pr 4 (gC h2 11 2 [(13,pn h2)])<|pe<|goN [] []<|rt h
def R136 (y0:(List UInt8)×Int):D:= .tup [.str y0.1,.int .i64 y0.2]
def Zma (t0:Int×Int×(List Int)):Option (Ctl (Int×Int×(List Int)) (((List Int)))):= if (decide (t0.2.1≥0)) then ((some (Z3c .i64 t0.1 255)).bind fun v16=> (some (IntKind.wrap .u8 v16)).bind fun v17=> (Z3e t0.2.1 t0.2.2.length).bind fun v18=> (t0.2.2[v18]?).bind fun v19=> (shrK .i64 t0.1 8).bind fun v20=> (some (IntKind.wrap .i64 (t0.2.1 - 1))).bind fun v21=> some (.next (v20,v21,(t0.2.2.set v18 v17)))) else (some (.done (t0.2.2)))
def Zdv (x0 x1:Int):Option ((List UInt8)×Int):= (Z95 1 x1 x1).bind fun v8=> (some (IntKind.wrap .i64 (x1 - 1))).bind fun v9=> (Z07 Zma Z08 (x0,v9,(List.replicate x1.toNat 0))).bind fun q0=> some ((bytesOf q0),0)
def Z9n (x0 x1:Int):Option ((List UInt8)×Int):= (Zis x1).bind fun v0=> if (!v0) then (some ([],1)) else (if (decide (x1<8)) then ((some (IntKind.wrap .i64 (8*x1))).bind fun v1=> (some (IntKind.wrap .i64 (v1 - 1))).bind fun v2=> (Z7i .i64 1 v2).bind fun v3=> (some (IntKind.wrap .i64 (0 - v3))).bind fun v4=> if (decide (x0<v4)) then (some ([],8)) else ((some (IntKind.wrap .i64 (8*x1))).bind fun v5=> (Z7i .i64 1 v5).bind fun v6=> (some (IntKind.wrap .i64 (v6 - 1))).bind fun v7=> if (decide (x0>v7)) then (some ([],8)) else ((Zdv x0 x1)))) else ((Zdv x0 x1)))
def Zx5:(Int×Int×(List Int))→SL:= fun t0=>⟨50,[(6,.lsl 6 0 ((t0.2.2.map rU8).length)),(7,dI t0.1),(8,dI t0.2.1)],[(6,{ sz:=1,rows:=(t0.2.2.map rU8),frz:=0,pure:=true })]⟩
def J136x1:JT (((List Int))):= je 0 fun q0:(List Int)=>⟨50,[(6,.lsl 6 0 ((q0.map rU8).length))],[(6,{ sz:=1,rows:=(q0.map rU8),frz:=0,pure:=true })]⟩
theorem wl136x1 {t0 r Γ} (h:Zma t0=some r):A prog Γ (lpC f136 351) [] (Rd Zx5 J136x1 r) (Zx5 t0).s:= go [] []<|br h (fun h5 h=>bd h fun v16 e16 h=>bd h fun v17 e17 h=>bd h fun v18 e18 h=>bd h fun v19 e19 h=>go [11] [rg 10 [(3,n e16),(4,n8 e17),(5,ia (R:=RU8) 6 e18),(6,st (R:=RU8) e19 0 [d8 v17] v17)]]<|nm (congrArg (fun nn:Nat=>(⟨50,[(6,.lsl 6 0 nn),(7,dI t0.1),(8,dI t0.2.1)],[(6,{ sz:=1,rows:=((t0.2.2.set v18 v17).map rU8),frz:=0,pure:=true })]⟩:SL)) (by simp only [List.length_map,List.length_set]:(t0.2.2.map rU8).length=((t0.2.2.set v18 v17).map rU8).length))<|so<|bd h fun v20 e20 h=>bd h fun v21 e21 h=>go [] [rg 11 [(1,sr e20)],rg 9 [(1,n e21)]]<|nx h) fun h5 h=> go [] []<|dn h (iE)
theorem Zzw {x0 x1 r Γ} (h:(Zdv x0 x1)=some r):Jn prog f136 Γ (Den.Ends prog f136 (R136 r)) 23 ⟨50,[(0,dI x0),(1,dI x1)],[]⟩:= so<|bd h fun v8 e8 h=>bd h fun v9 e9 h=>go [] [rg 5 [(1,mk (R:=RU8) 0 e8)],rg 7 [(1,n e9)]]<|bd h fun q0 e22 h=>lp (ps:=[(32,6)]) e22 wl136x1<|qe<|goN [] [rg 12 [(1,bsB q0)]]<|rt h
theorem w136 {x0 x1 r} (h:Z9n x0 x1=some r):Z06 prog 136 [dI x0,dI x1] (R136 r):= cs f136<|bd h fun v0 e0 h=>go [] [rg 1 [(1,k (w163 e0))]]<|br h (fun h0 h=>go [] []<|rt h) fun h0 h=> go [3] []<|po<|pr 3 []<|sp h (fun h1 h=>bd h fun v1 e1 h=>bd h fun v2 e2 h=>bd h fun v3 e3 h=>bd h fun v4 e4 h=>pr 8 (gC h1 3 2 ((5,gw h1 (n e1))::(6,gw h1 (n e2))::(7,gw h1 (sl e3))::(8,gw h1 (n e4))::gC h1 9 2 []))<|sp h (fun h2 h=>pr 8 (gA h2 11 6 [(17,gw h1 (py h2)),(18,py h1)])<|pe<|goN [] []<|bT rfl<|go [] []<|rt h) fun h2 h=> bd h fun v5 e5 h=>bd h fun v6 e6 h=>bd h fun v7 e7 h=>pr 8 (gC h2 11 2 [(13,gw h2 (n e5)),(14,gw h2 (sl e6)),(15,gw h2 (n e7)),(16,gw h2 g0),(17,gw h1 (pn h2)),(18,py h1)])<|pe<|goN [] []<|br h (fun h3 h=>go [] []<|rt h) fun h3 h=> go [5] []<|jn (Zzw h)) fun h1 h=> pr 16 (gB h1 3 8 [(17,gs1 h1),(18,pn h1)])<|pe<|goN [] []<|bF rfl<|go [5] []<|jn (Zzw h)
def R130 (y0:(List UInt8)):D:= .str y0
def Znc (x0:Int):Option ((List UInt8)):= (Z9n x0 2).bind fun v0=> some v0.1
theorem w130 {x0 r} (h:Znc x0=some r):Z06 prog 130 [dI x0] (R130 r):= cs f130<|bd h fun v0 e0 h=>go [] [rg 1 [(1,k (w136 e0))]]<|rt h
def R211 (y0:Bool):D:= .bool y0
def Zbc (x0:Int):Option (Bool):= if (decide (x0≥0)) then (some (decide (x0<81))) else (some false)
theorem w211 {x0 r} (h:Zbc x0=some r):Z06 prog 211 [dI x0] (R211 r):= cs f211<|sp h (fun h0 h=>go [] [rg 1 [(1,kb h0)]]<|rt h) fun h0 h=> go [] [rg 1 [(1,kb h0)]]<|rt h
def R186 (y0:Bool):D:= .bool y0
def Z7h (x0 x1 x2:Int):Option (Bool):= if (decide (x0≥x1)) then (some (decide (x0≤x2))) else (some false)
theorem w186 {x0 x1 x2 r} (h:Z7h x0 x1 x2=some r):Z06 prog 186 [dI x0,dI x1,dI x2] (R186 r):= cs f186<|sp h (fun h0 h=>go [] [rg 1 [(2,kb h0)]]<|rt h) fun h0 h=> go [] [rg 1 [(2,kb h0)]]<|rt h
def R184 (y0:Int):D:= .int .i64 y0
def Zid (x0 : Int):Option (Int):= (Z7h x0 36 52).bind fun v2=> if v2 then (some 3) else ((Z7h x0 4 9).bind fun v3=> if v3 then (some 4) else (if (x0 == 10) then (some 5) else (if (x0==53) then (some 6) else (if (x0==54) then (some 7) else (some 0)))))
def Zno (x0:Int):Option (Int):= if (x0==77) then (some 2) else ((Zid x0))
def Z7m (x0 : Int):Option (Int):= (Zbc x0).bind fun v0=> if (!v0) then (some (-1)) else (if (x0 == 2) then (some 1) else (if (x0 == 3) then (some 2) else ((Z7h x0 59 68).bind fun v1=> if v1 then (some 2) else (if (x0==76) then (some 2) else ((Zno x0))))))
theorem wj184x2 {x0 r Γ} (h:(Zid x0)=some r):Jn prog f184 Γ (Den.Ends prog f184 (R184 r)) 1529 ⟨34,[(0,dI x0)],[]⟩:= so<|bd h fun v2 e2 h=>go [] [rg 10 [(1,k (w186 e2))]]<|br h (fun h6 h=>go [] []<|rt h) fun h6 h=> bd h fun v3 e3 h=>go [] [rg 12 [(1,k (w186 e3))]]<|br h (fun h7 h=>go [] []<|rt h) fun h7 h=> go [] []<|br h (fun h8 h=>go [] []<|rt h) fun h8 h=> go [] []<|br h (fun h9 h=>go [] []<|rt h) fun h9 h=> go [] []<|br h (fun h10 h=>go [] []<|rt h) fun h10 h=> go [] []<|rt h
theorem wj184x1 {x0 r Γ} (h:(Zno x0)=some r):Jn prog f184 Γ (Den.Ends prog f184 (R184 r)) 505 ⟨34,[(0,dI x0),(10,.bool (x0==77))],[]⟩ (x0==77):= br h (fun h5 h=>go [] []<|rt h) fun h5 h=> go [10] []<|jn (wj184x2 h)
theorem w184 {x0 r} (h:Z7m x0=some r):Z06 prog 184 [dI x0] (R184 r):= cs f184<|bd h fun v0 e0 h=>go [] [rg 1 [(1,k (w211 e0))]]<|br h (fun h0 h=>go [] []<|rt h) fun h0 h=> go [] []<|br h (fun h1 h=>go [] []<|rt h) fun h1 h=> go [] []<|br h (fun h2 h=>go [] []<|bT h2<|go [] []<|rt h) fun h2 h=> bd h fun v1 e1 h=>go [] [rg 6 [(1,k (w186 e1))]]<|br h (fun h3 h=>go [] []<|bT h3<|go [] []<|rt h) fun h3 h=> go [] []<|br h (fun h4 h=>go [] []<|bT h4<|go [] []<|rt h) fun h4 h=> go [] []<|jn (wj184x1 h)
def R189 (y0:Bool):D:= .bool y0
def Zeu (x0 : Z02) (x1:Int):Option (Bool):= if (x0.f_To != 0) then (if (x1 !=3) then (if (x1 !=6) then (if (x1 !=7) then (some false) else (if ((x0.Z0z.length:Int)==0) then (if ((x0.Z0c.length:Int)==0) then (some true) else (if (x1==6) then (some true) else (some (x1==7)))) else (if (x1==7) then (if ((x0.Z0c.length:Int)==0) then (some true) else (if (x1==6) then (some true) else (some true))) else (some false)))) else (if ((x0.Z0z.length:Int)==0) then (if ((x0.Z0c.length:Int)==0) then (some true) else (if (x1==6) then (some true) else (some (x1==7)))) else (if (x1==7) then (if ((x0.Z0c.length:Int)==0) then (some true) else (if (x1==6) then (some true) else (some true))) else (some false)))) else (if ((x0.Z0z.length:Int)==0) then (if ((x0.Z0c.length:Int)==0) then (some true) else (if (x1==6) then (some true) else (some (x1==7)))) else (if (x1==7) then (if ((x0.Z0c.length:Int)==0) then (some true) else (if (x1==6) then (some true) else (some true))) else (some false)))) else (if ((x0.Z0z.length:Int)==0) then (if ((x0.Z0c.length:Int)==0) then (some true) else (if (x1==6) then (some true) else (some (x1==7)))) else (if (x1==7) then (if ((x0.Z0c.length:Int)==0) then (some true) else (if (x1==6) then (some true) else (some true))) else (some false)))
def Zdy (x0:Z02) (x1:Int):Option (Bool):= if (x0.f_B !=0) then (if (x1 !=5) then (some false) else ((Zeu x0 x1))) else ((Zeu x0 x1))
def Zkp (x0:Z02) (x1:Int):Option (Bool):= if (x0.f_A !=0) then (if (x1==0) then (some false) else (if (x1==3) then (some false) else (if (x1==7) then (some false) else ((Zdy x0 x1))))) else ((Zdy x0 x1))
def Zcw (x0:Z02) (x1:Int):Option (Bool):= if (!(Zd6 x0.Z1f (Z1w.mk [] [] []))) then (some false) else (if (!(x0.f_S==([]:List UInt8))) then (some false) else ((Zkp x0 x1)))
theorem Y2w {x0 x1 r Γ} (h:(Zeu x0 x1)=some r):Jn prog f189 Γ (Den.Ends prog f189 (R189 r)) 79 ⟨73,[(1,dI x1),(2,.ptr (Z0e x0))],[]⟩:= po <| pr 4 [] <| sp h (fun h8 h=>pr 4 (gC h8 4 2 [(6,py h8)])<|sp h (fun h9 h=>pr 4 (gC h9 8 2 [(10,py h9)])<|sp h (fun h10 h=>pr 3 (gC h10 12 2 [(14,py h10)])<|pe<|goN [] []<|br h (fun h11 h=>go [] []<|rt h) fun h11 h=> go [9] []<|po<|pr 5 [(2,ln x0.Z0z)]<|sp h (fun h12 h=>pr 9 (gA h12 5 2 [(7,py h12),(11,ln x0.Z0c)])<|sp h (fun h13 h=>pr 9 (gA h13 14 2 [(16,py h13)])<|pe<|goN [] []<|rt h) fun h13 h=> pr 4 (gC h13 14 2 [(16,pn h13)])<|sp h (fun h14 h=>pr 5 (gA h14 18 2 [(20,py h14)])<|pe<|goN [] []<|rt h) fun h14 h=> pr 5 (gC h14 18 2 [(20,pn h14)])<|pe<|goN [] []<|rt h) fun h12 h=> pr 4 (gC h12 5 2 [(7,pn h12)])<|sp h (fun h15 h=>pr 5 (gC h15 9 2 ((11,gw h15 (ln x0.Z0c))::gC h15 12 2 []))<|sp h (fun h16 h=>pr 9 (gA h16 14 2 [(16,gw h15 (py h16)),(17,gw h15 g0),(20,gw h15 g0),(21,py h15)])<|pe<|goN [] []<|rt h) fun h16 h=> pr 4 (gC h16 14 2 [(16,gw h15 (pn h16)),(17,gw h15 g0)])<|sp h (fun h17 h=>pr 5 (gA h17 18 2 [(20,gw h15 (py h17)),(21,py h15)])<|pe<|goN [] []<|rt h) fun h17 h=> pr 5 [(18,gw h17 g0),(19,gw h17 (kb h15)),(20,gw h15 (pn h17)),(21,py h15)]<|pe<|goN [] []<|rt h) fun h15 h=> pr 14 (gB h15 9 5 (gB h15 16 2 [(20,gs1 h15),(21,pn h15)]))<|pe<|goN [] []<|rt h) fun h10 h=> pr 3 (gB h10 12 2 [(14,pn h10)])<|pe<|goN [] []<|bF rfl<|go [9] []<|po<|pr 5 [(2,ln x0.Z0z)]<|sp h (fun h18 h=>pr 9 (gA h18 5 2 [(7,py h18),(11,ln x0.Z0c)])<|sp h (fun h19 h=>pr 9 (gA h19 14 2 [(16,py h19)])<|pe<|goN [] []<|rt h) fun h19 h=> pr 4 (gC h19 14 2 [(16,pn h19)])<|sp h (fun h20 h=>pr 5 (gA h20 18 2 [(20,py h20)])<|pe<|goN [] []<|rt h) fun h20 h=> pr 5 (gC h20 18 2 [(20,pn h20)])<|pe<|goN [] []<|rt h) fun h18 h=> pr 4 (gC h18 5 2 [(7,pn h18)])<|sp h (fun h21 h=>pr 5 (gC h21 9 2 ((11,gw h21 (ln x0.Z0c))::gC h21 12 2 []))<|sp h (fun h22 h=>pr 9 (gA h22 14 2 [(16,gw h21 (py h22)),(17,gw h21 g0),(20,gw h21 g0),(21,py h21)])<|pe<|goN [] []<|rt h) fun h22 h=> pr 4 (gC h22 14 2 [(16,gw h21 (pn h22)),(17,gw h21 g0)])<|sp h (fun h23 h=>pr 5 (gA h23 18 2 [(20,gw h21 (py h23)),(21,py h21)])<|pe<|goN [] []<|rt h) fun h23 h=> pr 5 [(18,gw h23 g0),(19,gw h23 (kb h21)),(20,gw h21 (pn h23)),(21,py h21)]<|pe<|goN [] []<|rt h) fun h21 h=> pr 14 (gB h21 9 5 (gB h21 16 2 [(20,gs1 h21),(21,pn h21)]))<|pe<|goN [] []<|rt h) fun h9 h=> pr 7 (gB h9 8 2 [(10,pn h9)])<|pe<|goN [] []<|bF rfl<|go [9] []<|po<|pr 5 [(2,ln x0.Z0z)]<|sp h (fun h24 h=>pr 9 (gA h24 5 2 [(7,py h24),(11,ln x0.Z0c)])<|sp h (fun h25 h=>pr 9 (gA h25 14 2 [(16,py h25)])<|pe<|goN [] []<|rt h) fun h25 h=> pr 4 (gC h25 14 2 [(16,pn h25)])<|sp h (fun h26 h=>pr 5 (gA h26 18 2 [(20,py h26)])<|pe<|goN [] []<|rt h) fun h26 h=> pr 5 (gC h26 18 2 [(20,pn h26)])<|pe<|goN [] []<|rt h) fun h24 h=> pr 4 (gC h24 5 2 [(7,pn h24)])<|sp h (fun h27 h=>pr 5 (gC h27 9 2 ((11,gw h27 (ln x0.Z0c))::gC h27 12 2 []))<|sp h (fun h28 h=>pr 9 (gA h28 14 2 [(16,gw h27 (py h28)),(17,gw h27 g0),(20,gw h27 g0),(21,py h27)])<|pe<|goN [] []<|rt h) fun h28 h=> pr 4 (gC h28 14 2 [(16,gw h27 (pn h28)),(17,gw h27 g0)])<|sp h (fun h29 h=>pr 5 (gA h29 18 2 [(20,gw h27 (py h29)),(21,py h27)])<|pe<|goN [] []<|rt h) fun h29 h=> pr 5 [(18,gw h29 g0),(19,gw h29 (kb h27)),(20,gw h27 (pn h29)),(21,py h27)]<|pe<|goN [] []<|rt h) fun h27 h=> pr 14 (gB h27 9 5 (gB h27 16 2 [(20,gs1 h27),(21,pn h27)]))<|pe<|goN [] []<|rt h) fun h8 h=> pr 11 (gB h8 4 2 [(6,pn h8)])<|pe<|goN [] []<|bF rfl<|go [9] []<|po<|pr 5 [(2,ln x0.Z0z)]<|sp h (fun h30 h=>pr 9 (gA h30 5 2 [(7,py h30),(11,ln x0.Z0c)])<|sp h (fun h31 h=>pr 9 (gA h31 14 2 [(16,py h31)])<|pe<|goN [] []<|rt h) fun h31 h=> pr 4 (gC h31 14 2 [(16,pn h31)])<|sp h (fun h32 h=>pr 5 (gA h32 18 2 [(20,py h32)])<|pe<|goN [] []<|rt h) fun h32 h=> pr 5 (gC h32 18 2 [(20,pn h32)])<|pe<|goN [] []<|rt h) fun h30 h=> pr 4 (gC h30 5 2 [(7,pn h30)])<|sp h (fun h33 h=>pr 5 (gC h33 9 2 ((11,gw h33 (ln x0.Z0c))::gC h33 12 2 []))<|sp h (fun h34 h=>pr 9 (gA h34 14 2 [(16,gw h33 (py h34)),(17,gw h33 g0),(20,gw h33 g0),(21,py h33)])<|pe<|goN [] []<|rt h) fun h34 h=> pr 4 (gC h34 14 2 [(16,gw h33 (pn h34)),(17,gw h33 g0)])<|sp h (fun h35 h=>pr 5 (gA h35 18 2 [(20,gw h33 (py h35)),(21,py h33)])<|pe<|goN [] []<|rt h) fun h35 h=> pr 5 [(18,gw h35 g0),(19,gw h35 (kb h33)),(20,gw h33 (pn h35)),(21,py h33)]<|pe<|goN [] []<|rt h) fun h33 h=> pr 14 (gB h33 9 5 (gB h33 16 2 [(20,gs1 h33),(21,pn h33)]))<|pe<|goN [] []<|rt h
theorem Zw3 {x0 x1 r Γ} (h:(Zdy x0 x1)=some r):Jn prog f189 Γ (Den.Ends prog f189 (R189 r)) 39 ⟨73,[(1,dI x1),(2,.ptr (Z0e x0))],[]⟩:= so<|sp h (fun h6 h=>go [] [rg 5 [(2,kb h6)]]<|br h (fun h7 h=>go [] []<|rt h) fun h7 h=> go [7] []<|jn (Y2w h)) fun h6 h=> go [] [rg 5 [(2,kb h6)]]<|bF rfl<|go [7] []<|jn (Y2w h)
theorem wj189x1 {x0 x1 r Γ} (h:(Zkp x0 x1)=some r):Jn prog f189 Γ (Den.Ends prog f189 (R189 r)) 19 ⟨73,[(1,dI x1),(2,.ptr (Z0e x0))],[]⟩:= po <| pr 4 []<|sp h (fun h2 h=>pr 3 (gC h2 4 3 [])<|sp h (fun h3 h=>pr 8 (gA h3 7 2 [(9,gw h2 (py h3)),(10,gw h2 g0),(13,gw h2 g0),(14,py h2)])<|pe<|goN [] []<|bT rfl<|go [] []<|rt h) fun h3 h=> pr 4 (gC h3 7 2 [(9,gw h2 (pn h3)),(10,gw h2 g0)])<|sp h (fun h4 h=>pr 4 (gA h4 11 2 [(13,gw h2 (py h4)),(14,py h2)])<|pe<|goN [] []<|bT rfl<|go [] []<|rt h) fun h4 h=> pr 4 (gC h4 11 2 [(13,gw h2 (pn h4)),(14,py h2)])<|pe<|goN [] []<|br h (fun h5 h=>go [] []<|rt h) fun h5 h=> go [5] []<|jn (Zw3 h)) fun h2 h=> pr 11 (gB h2 4 3 (gB h2 9 2 [(13,gs1 h2),(14,pn h2)]))<|pe<|goN [] []<|bF rfl<|go [5] []<|jn (Zw3 h)
theorem w189 {x0 x1 r} (h:Zcw x0 x1=some r):Z06 prog 189 [.agg (Z0e x0),dI x1] (R189 r):= cs f189<|sp h (fun h0 h=>go [] [rg 0 [(0,bo)],rg 1 ((3,qs Zsk Zpy (!(Zd6 x0.Z1f (Z1w.mk [] [] []))))::gA h0 5 3 [(8,py h0)])]<|bT rfl<|go [] []<|rt h) fun h0 h=> go [] [rg 0 [(0,bo)],rg 1 ((3,qs Zsk Zpy (!(Zd6 x0.Z1f (Z1w.mk [] [] []))))::gC h0 5 3 [(8,pn h0)])]<|br h (fun h1 h=>go [] []<|rt h) fun h1 h=> go [3] []<|jn (wj189x1 h)
def R190 (y0:Bool):D:= .bool y0
def Zcp (x0:Z02) (t0:Int):Option (Ctl (Int) (Unit⊕Bool)):= if (decide (t0<(x0.Z0c.length:Int))) then ((Z01 x0.Z0c t0).bind fun v2=> if (decide (v2<0)) then (some (.done (.inr false))) else ((Z01 x0.Z0c t0).bind fun v3=> if (decide (v3≥1000)) then (some (.done (.inr false))) else ((some (IntKind.wrap .i64 (t0+1))).bind fun v4=> some (.next v4)))) else (some (.done (.inl (()))))
def Zmq (x0:Z02):Option (Bool):= (Z07 (Zcp x0) Z08 0).bind fun q1=> match q1 with | .inl q0=>(some true) | .inr y0=>(some y0)
def Z97 (x0:Z02):Option (Bool):= if (decide (x0.f_To<0)) then (some false) else (if (decide (x0.f_To≥1000)) then (some false) else ((Zmq x0)))
def Y3o (x0:Z02):Int→SL:= fun t0=>⟨33,[(1,.ptr (Z0e x0)),(3,dI t0)],[]⟩
def J190x1:JT (Unit⊕Bool):= ju (je 0 fun q0:Unit=>⟨33,[],[]⟩) (jr prog f190 R190)
theorem wl190x1 {x0 t0 r Γ} (h:(Zcp x0) t0=some r):A prog Γ (lpC f190 43) [] (Rd (Y3o x0) J190x1 r) ((Y3o x0) t0).s:= go [] [rg 4 [(3,ln x0.Z0c)]]<|br h (fun h5 h=>bd h fun v2 e2 h=>sp h (fun h6 h=>go [] [rg 6 [(3,ix e2),(5,kb h6)]]<|bT rfl<|go [] []<|dn h (i2 iR)) fun h6 h=> bd h fun v3 e3 h=>go [] [rg 6 [(3,ix e2),(5,kb h6),(10,ix e3)]]<|br h (fun h7 h=>go [] []<|dn h (i2 iR)) fun h7 h=> bd h fun v4 e4 h=>go [] [rg 5 [(1,n e4)]]<|nx h) fun h5 h=> go [] []<|dn h (i1 iE)
theorem wj190x1 {x0 r Γ} (h:(Zmq x0)=some r):Jn prog f190 Γ (Den.Ends prog f190 (R190 r)) 19 ⟨33,[(1,.ptr (Z0e x0))],[]⟩:= so<|go [] []<|bd h fun q1 e5 h=>lp e5 wl190x1<|match q1,h with | .inl q0,h=>j1<|(qe<|goN [] []<|rt h) | .inr y0,h=>j2<|(qr h)
theorem w190 {x0 r} (h:Z97 x0=some r):Z06 prog 190 [.agg (Z0e x0)] (R190 r):= cs f190<|sp h (fun h0 h=>go [] [rg 0 [(0,bo)],rg 1 [(2,kb h0)]]<|bT rfl<|go [] []<|rt h) fun h0 h=> go [] [rg 0 [(0,bo)],rg 1 [(2,kb h0)]]<|br h (fun h1 h=>go [] []<|rt h) fun h1 h=> go [3] []<|jn (wj190x1 h)
def R218 (y0:Bool):D:= .bool y0
def Zgt (x0:Int):Option (Bool):= if (decide (x0≥(-2147483648))) then (some (decide (x0≤2147483647))) else (some false)
theorem w218 {x0 r} (h:Zgt x0=some r):Z06 prog 218 [dI x0] (R218 r):= cs f218<|sp h (fun h0 h=>go [] [rg 1 [(1,kb h0)]]<|rt h) fun h0 h=> go [] [rg 1 [(1,kb h0)]]<|rt h
end Go.Proofs
