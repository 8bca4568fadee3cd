/-
  Models of functions of the program, and that the functions compute them. Printed by den3.py. No condition.
-/
import Derived.Test.YtoijcliccgjolaaGreatRows
import Derived.Test.YtoijcliccgjolaaGreatDenNil
import Derived.Test.YtoijcliccgjolaaGreatDenClaim
set_option linter.unusedVariables false
namespace Go.Proofs
open Go.Den Go.Den.W
structure A_28 where
 a0 : Int
 a1 : Int
 a2 : Int
def Zzh (x : A_28) : List D:=[.int .i64 x.a0,.int .i64 x.a1,.int .i64 x.a2]
instance : Row A_28:=⟨Zzh,3,fun _=>rfl⟩
structure Z1l where
 a0 : Int
 a1 : Int
def Z2e (x : Z1l) : List D:=[.int .i64 x.a0,.int .i64 x.a1]
instance : Row Z1l:=⟨Z2e,2,fun _=>rfl⟩
structure A_40 where
 a0 : List UInt8
 a1 : List UInt8
def Y0v (x : A_40) : List D:=[.str x.a0,.str x.a1]
instance : Row A_40:=⟨Y0v,2,fun _=>rfl⟩
structure A_41 where
 a0 : Int
 a1 : Int
 a2 : Int
 a3 : Int
def Y12 (x : A_41) : List D:=[.int .i64 x.a0,.int .i64 x.a1,.int .i64 x.a2,.int .i64 x.a3]
instance : Row A_41:=⟨Y12,4,fun _=>rfl⟩
structure Z13 where
 Z8a : Int
 Z27 : List UInt8
def Z1u (x : Z13) : List D:=[.int .i64 x.Z8a,.str x.Z27]
instance : Row Z13:=⟨Z1u,2,fun _=>rfl⟩
structure Z3n where
 Z0y : Int
 Z02 : List UInt8
 Z1h : List UInt8
 Z5c : Int
 f_N : Int
 f_S : List UInt8
def Z7k (x : Z3n) : List D:=[.int .i64 x.Z0y,.str x.Z02,.str x.Z1h,.int .i64 x.Z5c,.int .i64 x.f_N,.str x.f_S]
instance : Row Z3n:=⟨Z7k,6,fun _=>rfl⟩
structure Z28 where
 Z0o : List UInt8
 Z02 : List UInt8
 Z1h : List UInt8
def Zl7 (x : Z28) : List D:=[.str x.Z0o,.str x.Z02,.str x.Z1h]
instance : Row Z28:=⟨Zl7,3,fun _=>rfl⟩
structure Z01 where
 f_Op : Int
 f_A : Int
 f_B : Int
 f_To : Int
 Z0r : List Int
 Z0d : List Int
 Z15 : Z28
 f_S : List UInt8
def Z0i (x : Z01) : List D:=[.int .i64 x.f_Op,.int .i64 x.f_A,.int .i64 x.f_B,.int .i64 x.f_To,.sl false (x.Z0r.map Z03),.sl false (x.Z0d.map Z03),.str x.Z15.Z0o,.str x.Z15.Z02,.str x.Z15.Z1h,.str x.f_S]
instance : Row Z01:=⟨Z0i,10,fun _=>rfl⟩
structure Z0h where
 Z3u : Int
 f_To : Int
 Z3q : Int
 Z0o : Int
 Z1k : List UInt8
def Z14 (x : Z0h) : List D:=[.int .i64 x.Z3u,.int .i64 x.f_To,.int .i64 x.Z3q,.int .i64 x.Z0o,.str x.Z1k]
instance : Row Z0h:=⟨Z14,5,fun _=>rfl⟩
structure Z0n where
 Z1w : Int
 Z1s : Int
 Z02 : List UInt8
def Z32 (x : Z0n) : List D:=[.int .i64 x.Z1w,.int .u8 x.Z1s,.str x.Z02]
instance : Row Z0n:=⟨Z32,3,fun _=>rfl⟩
structure Z0f where
 Z2f : Int
 Z2v : Int
 Z1k : Z0n
 Z33 : Int
def Z1r (x : Z0f) : List D:=[.int .i64 x.Z2f,.int .i64 x.Z2v,.int .i64 x.Z1k.Z1w,.int .u8 x.Z1k.Z1s,.str x.Z1k.Z02,.int .i64 x.Z33]
instance : Row Z0f:=⟨Z1r,6,fun _=>rfl⟩
structure Z4h where
 Z0q : List Z0f
 Z0s : List Z0f
 Z3z : Bool
def Zgy (x : Z4h) : List D:=[.sl false (x.Z0q.map Z1r),.sl false (x.Z0s.map Z1r),.bool x.Z3z]
instance : Row Z4h:=⟨Zgy,3,fun _=>rfl⟩
structure Z0j where
 Z2b : Int
 Z1p : Z4h
def Z19 (x : Z0j) : List D:=[.int .i64 x.Z2b,.sl false (x.Z1p.Z0q.map Z1r),.sl false (x.Z1p.Z0s.map Z1r),.bool x.Z1p.Z3z]
instance : Row Z0j:=⟨Z19,4,fun _=>rfl⟩
structure Z0v where
 Z2b : Int
 Z4s : Int
def Z1n (x : Z0v) : List D:=[.int .i64 x.Z2b,.int .i64 x.Z4s]
instance : Row Z0v:=⟨Z1n,2,fun _=>rfl⟩
structure Z07 where
 Z0s : Int
 Z0q : Int
 Z0k : List Z01
 Z1d : List Z0h
 Z16 : List Z0j
 Z1b : List Z0v
def Z0z (x : Z07) : List D:=[.int .i64 x.Z0s,.int .i64 x.Z0q,.sl false (x.Z0k.map Z0i),.sl false (x.Z1d.map Z14),.sl false (x.Z16.map Z19),.sl false (x.Z1b.map Z1n)]
instance : Row Z07:=⟨Z0z,6,fun _=>rfl⟩
structure Z2m where
 Z0y : Int
 Z02 : List UInt8
 Z1h : List UInt8
 Z7w : Bool
 Z2j : Z07
 Z5b : List (List UInt8)
def Z6q (x : Z2m) : List D:=[.int .i64 x.Z0y,.str x.Z02,.str x.Z1h,.bool x.Z7w,.int .i64 x.Z2j.Z0s,.int .i64 x.Z2j.Z0q,.sl false (x.Z2j.Z0k.map Z0i),.sl false (x.Z2j.Z1d.map Z14),.sl false (x.Z2j.Z16.map Z19),.sl false (x.Z2j.Z1b.map Z1n),.sl false (x.Z5b.map Z2s)]
instance : Row Z2m:=⟨Z6q,11,fun _=>rfl⟩
structure Z10 where
 Z0y : Int
 Z02 : List UInt8
 Z1q : List UInt8
 Z11 : List (List UInt8)
 Z1a : List Z3n
 Z17 : List Z2m
 Z5t : List UInt8
def Z25 (x : Z10) : List D:=[.int .i64 x.Z0y,.str x.Z02,.str x.Z1q,.sl false (x.Z11.map Z2s),.sl false (x.Z1a.map Z7k),.sl false (x.Z17.map Z6q),.str x.Z5t]
instance : Row Z10:=⟨Z25,7,fun _=>rfl⟩
structure Z1m where
 Z1f : Int
 Z2n : Z10
 Z1q : Int
 Z11 : List Int
 Z6s : Int
 Z92 : Int
def Z2d (x : Z1m) : List D:=[.int .i64 x.Z1f,.int .i64 x.Z2n.Z0y,.str x.Z2n.Z02,.str x.Z2n.Z1q,.sl false (x.Z2n.Z11.map Z2s),.sl false (x.Z2n.Z1a.map Z7k),.sl false (x.Z2n.Z17.map Z6q),.str x.Z2n.Z5t,.int .i64 x.Z1q,.sl false (x.Z11.map Z03),.int .i64 x.Z6s,.int .i64 x.Z92]
instance : Row Z1m:=⟨Z2d,12,fun _=>rfl⟩
structure Z5l where
 Zaz : List UInt8
 f_To : Int
def Zf6 (x : Z5l) : List D:=[.str x.Zaz,.int .i64 x.f_To]
instance : Row Z5l:=⟨Zf6,2,fun _=>rfl⟩
structure Z5g where
 Z02 : List UInt8
 Z27 : List UInt8
def Zeg (x : Z5g) : List D:=[.str x.Z02,.str x.Z27]
instance : Row Z5g:=⟨Zeg,2,fun _=>rfl⟩
structure Z0t where
 Z31 : List Z5l
 Z2p : List Z5g
def Z22 (x : Z0t) : List D:=[.sl false (x.Z31.map Zf6),.sl false (x.Z2p.map Zeg)]
instance : Row Z0t:=⟨Z22,2,fun _=>rfl⟩
structure Z1o where
 Z1f : Int
 Z02 : List UInt8
 Z0o : Int
def Z2z (x : Z1o) : List D:=[.int .i64 x.Z1f,.str x.Z02,.int .i64 x.Z0o]
instance : Row Z1o:=⟨Z2z,3,fun _=>rfl⟩
structure Z0x where
 Z02 : List UInt8
 f_A : Int
 f_B : Int
def Z2r (x : Z0x) : List D:=[.str x.Z02,.int .i64 x.f_A,.int .i64 x.f_B]
instance : Row Z0x:=⟨Z2r,3,fun _=>rfl⟩
structure Z04 where
 Z0w : List Z0t
 Z1x : List Z1m
 Z0l : List Z1o
 Z0g : List Z0x
def Z18 (x : Z04) : List D:=[.sl false (x.Z0w.map Z22),.sl false (x.Z1x.map Z2d),.sl false (x.Z0l.map Z2z),.sl false (x.Z0g.map Z2r)]
instance : Row Z04:=⟨Z18,4,fun _=>rfl⟩
structure Z00 where
 Z1v : Int
 f_S : List UInt8
 f_N : Int
 f_A : Int
 f_B : Int
def Z0b (x : Z00) : List D:=[.int .i64 x.Z1v,.str x.f_S,.int .i64 x.f_N,.int .i64 x.f_A,.int .i64 x.f_B]
instance : Row Z00:=⟨Z0b,5,fun _=>rfl⟩
structure Z0e where
 Z0y : Int
 Z02 : Int
 Z1h : Int
 Z1i : List Z13
def Z0p (x : Z0e) : List D:=[.int .i64 x.Z0y,.int .i64 x.Z02,.int .i64 x.Z1h,.sl false (x.Z1i.map Z1u)]
instance : Row Z0e:=⟨Z0p,4,fun _=>rfl⟩
structure Z0u where
 Z1z : List Z00
 Z0y : Int
 Z2u : Int
 Z1q : Int
 Z11 : List Int
 Z1a : List Z0e
 Z17 : List Z0e
 Z1i : List Z13
def Z2g (x : Z0u) : List D:=[.sl false (x.Z1z.map Z0b),.int .i64 x.Z0y,.int .i64 x.Z2u,.int .i64 x.Z1q,.sl false (x.Z11.map Z03),.sl false (x.Z1a.map Z0p),.sl false (x.Z17.map Z0p),.sl false (x.Z1i.map Z1u)]
instance : Row Z0u:=⟨Z2g,8,fun _=>rfl⟩
structure Z29 where
 Z36 : List Z0n
 Z3k : Z0n
def Zcb (x : Z29) : List D:=[.sl false (x.Z36.map Z32),.int .i64 x.Z3k.Z1w,.int .u8 x.Z3k.Z1s,.str x.Z3k.Z02]
instance : Row Z29:=⟨Zcb,4,fun _=>rfl⟩
structure Z12 where
 f_S : List UInt8
 f_At : Int
 Z2h : Bool
def Z8q (x : Z12) : List D:=[.str x.f_S,.int .i64 x.f_At,.bool x.Z2h]
instance : Row Z12:=⟨Z8q,3,fun _=>rfl⟩
structure Z2y where
 f_C : Z07
 Z27 : List UInt8
 Zcq : List Int
def Z71 (x : Z2y) : List D:=[.int .i64 x.f_C.Z0s,.int .i64 x.f_C.Z0q,.sl false (x.f_C.Z0k.map Z0i),.sl false (x.f_C.Z1d.map Z14),.sl false (x.f_C.Z16.map Z19),.sl false (x.f_C.Z1b.map Z1n),.str x.Z27,.sl false (x.Zcq.map Z03)]
instance : Row Z2y:=⟨Z71,8,fun _=>rfl⟩
structure Z24 where
 f_F : Z0u
 Z7s : List Z07
 Z7g : List (List Int)
 Z6k : List Z1l
def Z7o (x : Z24) : List D:=[.sl false (x.f_F.Z1z.map Z0b),.int .i64 x.f_F.Z0y,.int .i64 x.f_F.Z2u,.int .i64 x.f_F.Z1q,.sl false (x.f_F.Z11.map Z03),.sl false (x.f_F.Z1a.map Z0p),.sl false (x.f_F.Z17.map Z0p),.sl false (x.f_F.Z1i.map Z1u),.sl false (x.Z7s.map Z0z),.sl false (x.Z7g.map (rSl Z03)),.sl false (x.Z6k.map Z2e)]
instance : Row Z24:=⟨Z7o,11,fun _=>rfl⟩
structure Z0m where
 f_P : List Z00
 f_E : Int
def Z3i (x : Z0m) : List D:=[.sl false (x.f_P.map Z0b),.int .i64 x.f_E]
instance : Row Z0m:=⟨Z3i,2,fun _=>rfl⟩
def Zpa (x y : Z0x) : Bool:=((x.Z02 == y.Z02) && ((x.f_A == y.f_A) && ((x.f_B == y.f_B) && true)))
def eqq_48 : Prop := Tryz.prog.stoodInHeld 48 = false ∧ ("Name" ≠ "_" ∧ True ∧ ("A" ≠ "_" ∧ True ∧ ("B" ≠ "_" ∧ True ∧ True)))
theorem eqp_48 : eqq_48:=⟨by kernel_rfl,⟨by decide,trivial,⟨by decide,trivial,⟨by decide,trivial,trivial⟩⟩⟩⟩
theorem eqg_48 : Tryz.prog.eqGuardType Tryz.prog.depth 48 = false:=by kernel_rfl
def Zmv (x y : Z1o) : Bool:=((x.Z1f == y.Z1f) && ((x.Z02 == y.Z02) && ((x.Z0o == y.Z0o) && true)))
def eqq_58 : Prop := Tryz.prog.stoodInHeld 58 = false ∧ ("Loader" ≠ "_" ∧ True ∧ ("Name" ≠ "_" ∧ True ∧ ("Class" ≠ "_" ∧ True ∧ True)))
theorem eqp_58 : eqq_58:=⟨by kernel_rfl,⟨by decide,trivial,⟨by decide,trivial,⟨by decide,trivial,trivial⟩⟩⟩⟩
theorem eqg_58 : Tryz.prog.eqGuardType Tryz.prog.depth 58 = false:=by kernel_rfl
def Zmp (x y : Z5l) : Bool:=((x.Zaz == y.Zaz) && ((x.f_To == y.f_To) && true))
def eqq_69 : Prop := Tryz.prog.stoodInHeld 69 = false ∧ ("Prefix" ≠ "_" ∧ True ∧ ("To" ≠ "_" ∧ True ∧ True))
theorem eqp_69 : eqq_69:=⟨by kernel_rfl,⟨by decide,trivial,⟨by decide,trivial,trivial⟩⟩⟩
theorem eqg_69 : Tryz.prog.eqGuardType Tryz.prog.depth 69 = false:=by kernel_rfl
def Zm4 (x y : Z5g) : Bool:=((x.Z02 == y.Z02) && ((x.Z27 == y.Z27) && true))
def eqq_86 : Prop := Tryz.prog.stoodInHeld 86 = false ∧ ("Name" ≠ "_" ∧ True ∧ ("Bytes" ≠ "_" ∧ True ∧ True))
theorem eqp_86 : eqq_86:=⟨by kernel_rfl,⟨by decide,trivial,⟨by decide,trivial,trivial⟩⟩⟩
theorem eqg_86 : Tryz.prog.eqGuardType Tryz.prog.depth 86 = false:=by kernel_rfl
def Zly (x y : Z3n) : Bool:=((x.Z0y == y.Z0y) && ((x.Z02 == y.Z02) && ((x.Z1h == y.Z1h) && ((x.Z5c == y.Z5c) && ((x.f_N == y.f_N) && ((x.f_S == y.f_S) && true))))))
def eqq_98 : Prop := Tryz.prog.stoodInHeld 98 = false ∧ ("Flags" ≠ "_" ∧ True ∧ ("Name" ≠ "_" ∧ True ∧ ("Desc" ≠ "_" ∧ True ∧ ("Const" ≠ "_" ∧ True ∧ ("N" ≠ "_" ∧ True ∧ ("S" ≠ "_" ∧ True ∧ True))))))
theorem eqp_98 : eqq_98:=⟨by kernel_rfl,⟨by decide,trivial,⟨by decide,trivial,⟨by decide,trivial,⟨by decide,trivial,⟨by decide,trivial,⟨by decide,trivial,trivial⟩⟩⟩⟩⟩⟩⟩
theorem eqg_98 : Tryz.prog.eqGuardType Tryz.prog.depth 98 = false:=by kernel_rfl
def Zb8 (x y : Z28) : Bool:=((x.Z0o == y.Z0o) && ((x.Z02 == y.Z02) && ((x.Z1h == y.Z1h) && true)))
def eqq_129 : Prop := Tryz.prog.stoodInHeld 129 = false ∧ ("Class" ≠ "_" ∧ True ∧ ("Name" ≠ "_" ∧ True ∧ ("Desc" ≠ "_" ∧ True ∧ True)))
theorem Zoz : eqq_129:=⟨by kernel_rfl,⟨by decide,trivial,⟨by decide,trivial,⟨by decide,trivial,trivial⟩⟩⟩⟩
theorem Znf : Tryz.prog.eqGuardType Tryz.prog.depth 129 = false:=by kernel_rfl
def Zo6 (x y : Z0h) : Bool:=((x.Z3u == y.Z3u) && ((x.f_To == y.f_To) && ((x.Z3q == y.Z3q) && ((x.Z0o == y.Z0o) && ((x.Z1k == y.Z1k) && true)))))
def eqq_133 : Prop := Tryz.prog.stoodInHeld 133 = false ∧ ("From" ≠ "_" ∧ True ∧ ("To" ≠ "_" ∧ True ∧ ("Target" ≠ "_" ∧ True ∧ ("Class" ≠ "_" ∧ True ∧ ("Type" ≠ "_" ∧ True ∧ True)))))
theorem eqp_133 : eqq_133:=⟨by kernel_rfl,⟨by decide,trivial,⟨by decide,trivial,⟨by decide,trivial,⟨by decide,trivial,⟨by decide,trivial,trivial⟩⟩⟩⟩⟩⟩
theorem eqg_133 : Tryz.prog.eqGuardType Tryz.prog.depth 133 = false:=by kernel_rfl
def Znq (x y : Z0v) : Bool:=((x.Z2b == y.Z2b) && ((x.Z4s == y.Z4s) && true))
def eqq_135 : Prop := Tryz.prog.stoodInHeld 135 = false ∧ ("Index" ≠ "_" ∧ True ∧ ("Line" ≠ "_" ∧ True ∧ True))
theorem eqp_135 : eqq_135:=⟨by kernel_rfl,⟨by decide,trivial,⟨by decide,trivial,trivial⟩⟩⟩
theorem eqg_135 : Tryz.prog.eqGuardType Tryz.prog.depth 135 = false:=by kernel_rfl
def Zj2 (x y : Z0n) : Bool:=((x.Z1w == y.Z1w) && ((x.Z1s == y.Z1s) && ((x.Z02 == y.Z02) && true)))
def Zta : Prop := Tryz.prog.stoodInHeld 161 = false ∧ ("Dim" ≠ "_" ∧ True ∧ ("Base" ≠ "_" ∧ True ∧ ("Name" ≠ "_" ∧ True ∧ True)))
theorem Zxn : Zta:=⟨by kernel_rfl,⟨by decide,trivial,⟨by decide,trivial,⟨by decide,trivial,trivial⟩⟩⟩⟩
theorem eqg_161 : Tryz.prog.eqGuardType Tryz.prog.depth 161 = false:=by kernel_rfl
def Zoh (x y : Z0f) : Bool:=((x.Z2f == y.Z2f) && ((x.Z2v == y.Z2v) && ((Zj2 x.Z1k y.Z1k) && ((x.Z33 == y.Z33) && true))))
def eqq_163 : Prop := Tryz.prog.stoodInHeld 163 = false ∧ ("Kind" ≠ "_" ∧ True ∧ ("NewIndex" ≠ "_" ∧ True ∧ ("Type" ≠ "_" ∧ Zta ∧ ("PoolIndex" ≠ "_" ∧ True ∧ True))))
theorem eqp_163 : eqq_163:=⟨by kernel_rfl,⟨by decide,trivial,⟨by decide,trivial,⟨by decide,Zxn,⟨by decide,trivial,trivial⟩⟩⟩⟩⟩
theorem eqg_163 : Tryz.prog.eqGuardType Tryz.prog.depth 163 = false:=by kernel_rfl
def Zx8 (x y : Z00) : Bool:=((x.Z1v == y.Z1v) && ((x.f_S == y.f_S) && ((x.f_N == y.f_N) && ((x.f_A == y.f_A) && ((x.f_B == y.f_B) && true)))))
def eqq_168 : Prop := Tryz.prog.stoodInHeld 168 = false ∧ ("Tag" ≠ "_" ∧ True ∧ ("S" ≠ "_" ∧ True ∧ ("N" ≠ "_" ∧ True ∧ ("A" ≠ "_" ∧ True ∧ ("B" ≠ "_" ∧ True ∧ True)))))
theorem eqp_168 : eqq_168:=⟨by kernel_rfl,⟨by decide,trivial,⟨by decide,trivial,⟨by decide,trivial,⟨by decide,trivial,⟨by decide,trivial,trivial⟩⟩⟩⟩⟩⟩
theorem eqg_168 : Tryz.prog.eqGuardType Tryz.prog.depth 168 = false:=by kernel_rfl
def R8 (y0 : Bool) : D:= .bool y0
def Zi9 (x0 : Z04) : Option (Bool):= if (decide ((x0.Z0w.length : Int) ≤ 8)) = true then (if (decide ((x0.Z1x.length : Int) ≤ 30)) = true then (if (decide ((x0.Z0l.length : Int) ≤ 60)) = true then (some (decide ((x0.Z0g.length : Int) ≤ 30))) else (some false)) else (some false)) else (some false)
theorem w8 {x0 : Z04} {r : Bool} (h : Zi9 x0 = some r) : Z0c Tryz.prog 8 [.agg (Z18 x0)] (R8 r):= cs Tryz.f8 <| go [1] [rg 0 [(0,bo)]] <| po <| pr 5 [(2,ln x0.Z0w)] <| sp h (fun h0 h=>pr 6 [(5,gw h0 g0),(6,gw h0 g0),(7,gw h0 (ln x0.Z1x)),(8,gw h0 g0),(9,py h0)] <| sp h (fun h1 h=>pr 6 [(11,gw h1 g0),(12,gw h1 g0),(13,gw h1 (ln x0.Z0l)),(14,gw h1 g0),(15,py h1)] <| sp h (fun h2 h=>pr 6 [(17,gw h2 g0),(18,gw h2 g0),(19,gw h2 (ln x0.Z0g)),(20,gw h2 g0),(21,py h2)] <| pe <| goN [] [] <| rt h) fun h2 h=> pr 6 [(17,gs1 h2),(18,gs1 h2),(19,gs1 h2),(20,gs1 h2),(21,pn h2)] <| pe <| goN [] [] <| rt h) fun h1 h=> pr 12 [(11,gs1 h1),(12,gs1 h1),(13,gs1 h1),(14,gs1 h1),(15,pn h1)] <| pe <| goN [] [] <| rt h) fun h0 h=> pr 18 [(5,gs1 h0),(6,gs1 h0),(7,gs1 h0),(8,gs1 h0),(9,pn h0)] <| pe <| goN [] [] <| rt h
def R52 (y0 : Bool) : D:= .bool y0
def Zaj (x0 : Int) : Option (Bool):= if (decide (x0 ≥ 97)) = true then (if (decide (x0 ≤ 122)) = true then (some true) else (if (decide (x0 ≥ 65)) = true then (if (decide (x0 ≤ 90)) = true then (some true) else (if (x0 == 95) = true then (some true) else (some (x0 == 36)))) else (if (x0 == 95) = true then (some true) else (some (x0 == 36))))) else (if (decide (x0 ≥ 65)) = true then (if (decide (x0 ≤ 90)) = true then (some true) else (if (x0 == 95) = true then (some true) else (some (x0 == 36)))) else (if (x0 == 95) = true then (some true) else (some (x0 == 36))))
theorem w52 {x0 : Int} {r : Bool} (h : Zaj x0 = some r) : Z0c Tryz.prog 52 [d8 x0] (R52 r):= cs Tryz.f52 <| go [1] [] <| po <| pr 3 [] <| sp h (fun h0 h=>pr 4 [(3,gw h0 g0),(4,gw h0 g0),(5,py h0)] <| sp h (fun h1 h=>pr 16 [(7,gs0 h1),(8,gs0 h1),(9,gs0 h1),(12,gs0 h1),(13,py h1)] <| pe <| goN [] [] <| rt h) fun h1 h=> pr 3 [(7,gw h1 g0),(8,gw h1 g0),(9,gw h1 g0)] <| sp h (fun h2 h=>pr 5 [(10,gw h2 g0),(11,gw h2 g0),(12,gw h1 (py h2)),(13,pn h1)] <| sp h (fun h3 h=>pr 8 [(15,gs0 h3),(16,gs0 h3),(17,py h3)] <| pe <| goN [] [] <| rt h) fun h3 h=> pr 4 [(15,gw h3 g0),(16,gw h3 g0),(17,pn h3)] <| sp h (fun h4 h=>pr 4 [(19,gs0 h4),(20,gs0 h4),(21,py h4)] <| pe <| goN [] [] <| rt h) fun h4 h=> pr 4 [(19,gw h4 g0),(20,gw h4 g0),(21,pn h4)] <| pe <| goN [] [] <| rt h) fun h2 h=> pr 9 [(10,gs1 h2),(11,gs1 h2),(12,gw h1 (pn h2)),(13,pn h1)] <| sp h (fun h5 h=>pr 4 [(19,gs0 h5),(20,gs0 h5),(21,py h5)] <| pe <| goN [] [] <| rt h) fun h5 h=> pr 4 [(19,gw h5 g0),(20,gw h5 g0),(21,pn h5)] <| pe <| goN [] [] <| rt h) fun h0 h=> pr 7 [(3,gs1 h0),(4,gs1 h0),(5,pn h0)] <| sp h (fun h6 h=>pr 5 [(10,gw h6 g0),(11,gw h6 g0),(12,py h6)] <| sp h (fun h7 h=>pr 8 [(15,gs0 h7),(16,gs0 h7),(17,py h7)] <| pe <| goN [] [] <| rt h) fun h7 h=> pr 4 [(15,gw h7 g0),(16,gw h7 g0),(17,pn h7)] <| sp h (fun h8 h=>pr 4 [(19,gs0 h8),(20,gs0 h8),(21,py h8)] <| pe <| goN [] [] <| rt h) fun h8 h=> pr 4 [(19,gw h8 g0),(20,gw h8 g0),(21,pn h8)] <| pe <| goN [] [] <| rt h) fun h6 h=> pr 9 [(10,gs1 h6),(11,gs1 h6),(12,pn h6)] <| sp h (fun h9 h=>pr 4 [(19,gs0 h9),(20,gs0 h9),(21,py h9)] <| pe <| goN [] [] <| rt h) fun h9 h=> pr 4 [(19,gw h9 g0),(20,gw h9 g0),(21,pn h9)] <| pe <| goN [] [] <| rt h
def R43 (y0 : Bool) : D:= .bool y0
def Zbq (x0 : List UInt8) (t0 : Int) : Option (Ctl (Int) (Unit ⊕ Bool)):= if (decide (t0 < (x0.length : Int))) = true then ((Z2x x0 t0).bind fun v2=> (Zaj v2).bind fun v3=> if (!v3) = true then (if (t0 == 0) = true then (some (.done (.inr false))) else ((Z2x x0 t0).bind fun v4=> if (decide (v4 < 48)) = true then (some (.done (.inr false))) else ((Z2x x0 t0).bind fun v5=> if (decide (v5 > 57)) = true then (some (.done (.inr false))) else ((some (IntKind.wrap .i64 (t0 + (1 : Int)))).bind fun v6=> some (.next v6))))) else ((some (IntKind.wrap .i64 (t0 + (1 : Int)))).bind fun v7=> some (.next v7))) else (some (.done (.inl (()))))
def Z8b (x0 : List UInt8) : Option (Bool):= (Z09 (Zbq x0) Z0a 0).bind fun q1=> match q1 with | .inl q0=>(some (decide ((x0.length : Int) > 0))) | .inr y0=>(some y0)
def Ztp (x0 : List UInt8) : Int → SL:= fun t0=>⟨34,[(0,.str x0),(3,dI t0)],[]⟩
def J43x1 (x0 : List UInt8) : JT (Unit ⊕ Bool):= ju (je 0 fun q0 : Unit=>⟨34,[(0,.str x0)],[]⟩) (jr Tryz.prog Tryz.f43 R43)
theorem wl43x1 {x0 : List UInt8} {t0 : Int} {r : Ctl (Int) (Unit ⊕ Bool)} {Γ : Ctx} (h : (Zbq x0) t0 = some r) : A Tryz.prog Γ (lpC Tryz.f43 21) [] (Rd (Ztp x0) (J43x1 x0) r) ((Ztp x0) t0).s:= go [] [] <| br h (fun h2 h=>go [4] [] <| po <| bd h fun v2 e2 h=>bd h fun v3 e3 h=>pr 6 [(2,ib e2),(3,k (w52 e3))] <| sp h (fun h3 h=>pr 3 [(6,gw h3 g0),(7,gw h3 g0),(8,gw h3 g0)] <| sp h (fun h4 h=>pr 12 [(9,gs0 h4),(10,gs0 h4),(11,gs0 h4),(12,gs0 h4),(13,gw h3 (py h4)),(14,gw h3 g0),(19,gw h3 g0),(20,py h3)] <| pe <| goN [] [] <| bT rfl <| go [] [] <| dn h (i2 iR)) fun h4 h=> bd h fun v4 e4 h=>pr 6 [(9,gw h4 g0),(10,gw h4 g0),(11,gw h4 (ib e4)),(12,gw h4 g0),(13,gw h3 (pn h4)),(14,gw h3 g0)] <| sp h (fun h5 h=>pr 6 [(15,gs0 h5),(16,gs0 h5),(17,gs0 h5),(18,gs0 h5),(19,gw h3 (py h5)),(20,py h3)] <| pe <| goN [] [] <| bT rfl <| go [] [] <| dn h (i2 iR)) fun h5 h=> bd h fun v5 e5 h=>pr 6 [(15,gw h5 g0),(16,gw h5 g0),(17,gw h5 (ib e5)),(18,gw h5 g0),(19,gw h3 (pn h5)),(20,py h3)] <| pe <| goN [] [] <| br h (fun h6 h=>go [] [] <| dn h (i2 iR)) fun h6 h=> bd h fun v6 e6 h=>go [] [rg 3 [(1,n e6)]] <| nx h) fun h3 h=> pr 15 [(6,gs1 h3),(7,gs1 h3),(8,gs1 h3),(13,gs1 h3),(14,gs1 h3),(19,gs1 h3),(20,pn h3)] <| pe <| goN [] [] <| bF rfl <| bd h fun v7 e7 h=>go [] [rg 3 [(1,n e7)]] <| nx h) fun h2 h=> go [] [] <| dn h (i1 iE)
theorem w43 {x0 : List UInt8} {r : Bool} (h : Z8b x0 = some r) : Z0c Tryz.prog 43 [.str x0] (R43 r):= cs Tryz.f43 <| go [] [] <| bd h fun q1 e8 h=>lp e8 wl43x1 <| match q1,h with | .inl q0,h=>j1 <| (qe <| goN [] [] <| rt h) | .inr y0,h=>j2 <| (qr h)
def R23 (y0 : Bool) : D:= .bool y0
def Zam (x0 : List UInt8) (t0 : Int × Int) : Option (Ctl (Int × Int) (Int ⊕ Bool)):= if (decide (t0.2 < (x0.length : Int))) = true then ((Z2x x0 t0.2).bind fun v3=> if (v3 == 47) = true then ((sub x0 t0.1 t0.2).bind fun v4=> (Z8b v4).bind fun v5=> if (!v5) = true then (some (.done (.inr false))) else ((some (IntKind.wrap .i64 (t0.2 + (1 : Int)))).bind fun v6=> (some (IntKind.wrap .i64 (t0.2 + (1 : Int)))).bind fun v7=> some (.next (v6,v7)))) else ((some (IntKind.wrap .i64 (t0.2 + (1 : Int)))).bind fun v8=> some (.next (t0.1,v8)))) else (some (.done (.inl (t0.1))))
def Z4f (x0 : List UInt8) : Option (Bool):= if (decide ((x0.length : Int) > 64)) = true then (some false) else ((Z09 (Zam x0) Z0a (0,0)).bind fun q1=> match q1 with | .inl q0=>((sub x0 q0 (x0.length : Int)).bind fun v9=> (Z8b v9).bind fun v10=> some v10) | .inr y0=>(some y0))
def Zwq (x0 : List UInt8) : (Int × Int) → SL:= fun t0=>⟨30,[(0,.str x0),(3,dI t0.1),(4,dI t0.2)],[]⟩
def J23x1 (x0 : List UInt8) : JT (Int ⊕ Bool):= ju (je 0 fun q0 : Int=>⟨30,[(0,.str x0),(3,dI q0)],[]⟩) (jr Tryz.prog Tryz.f23 R23)
theorem wl23x1 {x0 : List UInt8} {t0 : Int × Int} {r : Ctl (Int × Int) (Int ⊕ Bool)} {Γ : Ctx} (h : (Zam x0) t0 = some r) : A Tryz.prog Γ (lpC Tryz.f23 87) [] (Rd (Zwq x0) (J23x1 x0) r) ((Zwq x0) t0).s:= go [] [] <| br h (fun h4 h=>bd h fun v3 e3 h=>go [] [rg 7 [(2,ib e3)]] <| br h (fun h5 h=>bd h fun v4 e4 h=>bd h fun v5 e5 h=>go [] [rg 8 [(3,ss e4),(4,k (w43 e5))]] <| br h (fun h6 h=>go [] [] <| dn h (i2 iR)) fun h6 h=> bd h fun v6 e6 h=>bd h fun v7 e7 h=>go [] [rg 10 [(1,n e6)],rg 6 [(1,n e7)]] <| nx h) fun h5 h=> bd h fun v8 e8 h=>go [] [rg 6 [(1,n e8)]] <| nx h) fun h4 h=> go [] [] <| dn h (i1 iE)
theorem w23 {x0 : List UInt8} {r : Bool} (h : Z4f x0 = some r) : Z0c Tryz.prog 23 [.str x0] (R23 r):= cs Tryz.f23 <| go [] [] <| br h (fun h0 h=>go [] [] <| rt h) fun h0 h=> go [] [] <| bd h fun q1 e9 h=>lp e9 wl23x1 <| match q1,h with | .inl q0,h=>j1 <| (qe <| bd h fun v9 e10 h=>bd h fun v10 e11 h=>goN [] [rg 11 [(2,ss e10),(3,k (w43 e11))]] <| rt h) | .inr y0,h=>j2 <| (qr h)
def R45 (y0 : Bool) : D:= .bool y0
def Z88 (x0 x1 : List UInt8) : Option (Bool):= if (decide ((x1.length : Int) ≤ (x0.length : Int))) = true then ((sub x0 0 (x1.length : Int)).bind fun v0=> some (v0 == x1)) else (some false)
theorem w45 {x0 x1 : List UInt8} {r : Bool} (h : Z88 x0 x1 = some r) : Z0c Tryz.prog 45 [.str x0,.str x1] (R45 r):= cs Tryz.f45 <| sp h (fun h0 h=>bd h fun v0 e0 h=>go [] [rg 1 [(4,kb h0),(9,ss e0)]] <| rt h) fun h0 h=> go [] [rg 1 [(4,kb h0)]] <| rt h
def R41 (y0 : Int) : D:= .int .i64 y0
def Zgl (x0 : Z0t) (x1 t0 : Int) : Option (Ctl (Int) (Unit ⊕ Int)):= if (decide (t0 < (x0.Z2p.length : Int))) = true then ((Z08 x0.Z2p t0).bind fun v3=> (Z4f v3.Z02).bind fun v4=> if (!v4) = true then (some (.done (.inr 12))) else (if (decide (x1 > 0)) = true then ((Z88 v3.Z02 [108,97,110,103,47]).bind fun v5=> if v5 = true then (some (.done (.inr 12))) else ((some (IntKind.wrap .i64 (t0 + (1 : Int)))).bind fun v6=> some (.next v6))) else ((some (IntKind.wrap .i64 (t0 + (1 : Int)))).bind fun v7=> some (.next v7)))) else (some (.done (.inl (()))))
def Zgd (x0 : Z0t) (x1 : Int) : Option (Int):= (Z09 (Zgl x0 x1) Z0a 0).bind fun q1=> match q1 with | .inl q0=>(some 0) | .inr y0=>(some y0)
def Zud (x0 : Z0t) (x1 : Int) : Int → SL:= fun t0=>⟨31,[(1,dI x1),(2,.ptr (Z22 x0)),(5,dI t0)],[]⟩
def J41x1 : JT (Unit ⊕ Int):= ju (je 0 fun q0 : Unit=>⟨31,[],[]⟩) (jr Tryz.prog Tryz.f41 R41)
theorem wl41x1 {x0 : Z0t} {x1 t0 : Int} {r : Ctl (Int) (Unit ⊕ Int)} {Γ : Ctx} (h : (Zgl x0 x1) t0 = some r) : A Tryz.prog Γ (lpC Tryz.f41 21) [] (Rd (Zud x0 x1) J41x1 r) ((Zud x0 x1) t0).s:= go [] [rg 2 [(3,ln x0.Z2p)]] <| br h (fun h4 h=>bd h fun v3 e3 h=>go [5] [rg 4 [(3,ix e3)]] <| po <| bd h fun v4 e4 h=>pr 4 [(1,k (w23 e4))] <| sp h (fun h5 h=>pr 7 [(4,gs0 h5),(5,gs0 h5),(6,gs0 h5),(9,gs0 h5),(10,py h5)] <| pe <| goN [] [] <| bT rfl <| go [] [] <| dn h (i2 iR)) fun h5 h=> pr 3 [(4,gw h5 g0),(5,gw h5 g0),(6,gw h5 g0)] <| sp h (fun h6 h=>bd h fun v5 e5 h=>pr 4 [(7,gw h6 g0),(8,gw h6 (k (w45 e5))),(9,gw h5 (py h6)),(10,pn h5)] <| pe <| goN [] [] <| br h (fun h7 h=>go [] [] <| dn h (i2 iR)) fun h7 h=> bd h fun v6 e6 h=>go [] [rg 3 [(1,n e6)]] <| nx h) fun h6 h=> pr 4 [(7,gs1 h6),(8,gs1 h6),(9,gw h5 (pn h6)),(10,pn h5)] <| pe <| goN [] [] <| bF rfl <| bd h fun v7 e7 h=>go [] [rg 3 [(1,n e7)]] <| nx h) fun h4 h=> go [] [] <| dn h (i1 iE)
theorem w41 {x0 : Z0t} {x1 : Int} {r : Int} (h : Zgd x0 x1 = some r) : Z0c Tryz.prog 41 [.agg (Z22 x0),dI x1] (R41 r):= cs Tryz.f41 <| go [] [rg 0 [(0,bo)]] <| bd h fun q1 e8 h=>lp e8 wl41x1 <| match q1,h with | .inl q0,h=>j1 <| (qe <| goN [] [] <| rt h) | .inr y0,h=>j2 <| (qr h)
def R42 (y0 : Bool) : D:= .bool y0
def Zis (t0 : Int) (x0 : Z0t) (t2 : Int) : Option (Ctl (Int) (Unit ⊕ Bool)):= if (decide (t2 < t0)) = true then ((Z08 x0.Z2p t0).bind fun v2=> (Z08 x0.Z2p t2).bind fun v3=> if (v2.Z02 == v3.Z02) = true then (some (.done (.inr true))) else ((some (IntKind.wrap .i64 (t2 + (1 : Int)))).bind fun v4=> some (.next v4))) else (some (.done (.inl (()))))
def Zgg (x0 : Z0t) (t0 : Int) : Option (Ctl (Int) (Unit ⊕ Bool)):= if (decide (t0 < (x0.Z2p.length : Int))) = true then ((Z09 (Zis t0 x0) Z0a 0).bind fun q3=> match q3 with | .inl q2=>((some (IntKind.wrap .i64 (t0 + (1 : Int)))).bind fun v5=> some (.next v5)) | .inr y1=>(some (.done (.inr y1)))) else (some (.done (.inl (()))))
def Zfq (x0 : Z0t) : Option (Bool):= (Z09 (Zgg x0) Z0a 0).bind fun q5=> match q5 with | .inl q4=>(some false) | .inr y2=>(some y2)
def Zto (t0 : Int) (x0 : Z0t) : Int → SL:= fun t2=>⟨30,[(1,.ptr (Z22 x0)),(3,dI t0),(4,dI t2)],[]⟩
def J42x2 (t0 : Int) (x0 : Z0t) : JT (Unit ⊕ Bool):= ju (je 2 fun q2 : Unit=>⟨30,[(1,.ptr (Z22 x0)),(3,dI t0)],[]⟩) (jr Tryz.prog Tryz.f42 R42)
theorem wl42x2 {t0 : Int} {x0 : Z0t} {t2 : Int} {r : Ctl (Int) (Unit ⊕ Bool)} {Γ : Ctx} (h : (Zis t0 x0) t2 = some r) : A Tryz.prog Γ (lpC Tryz.f42 1317) [] (Rd (Zto t0 x0) (J42x2 t0 x0) r) ((Zto t0 x0) t2).s:= go [] [] <| br h (fun h4 h=>bd h fun v2 e3 h=>bd h fun v3 e4 h=>go [] [rgo 7 [(3,ix e3),(9,ix e4)] [0,1,2,3,4,5,6,7,8,9,10,11,12] [] [(1,[0]),(3,[0,1,2]),(4,[0,1,2,3]),(5,[0,1,2,3,4]),(7,[6]),(9,[6,7,8]),(10,[6,7,8,9]),(11,[6,7,8,9,10]),(12,[0,1,2,3,4,5,6,7,8,9,10,11])]] <| br h (fun h5 h=>go [] [] <| dn h (i2 iR)) fun h5 h=> bd h fun v4 e5 h=>go [] [rg 6 [(1,n e5)]] <| nx h) fun h4 h=> go [] [] <| dn h (i1 iE)
def Zuu (x0 : Z0t) : Int → SL:= fun t0=>⟨30,[(1,.ptr (Z22 x0)),(3,dI t0)],[]⟩
def J42x1 : JT (Unit ⊕ Bool):= ju (je 0 fun q4 : Unit=>⟨30,[],[]⟩) (jr Tryz.prog Tryz.f42 R42)
theorem wl42x1 {x0 : Z0t} {t0 : Int} {r : Ctl (Int) (Unit ⊕ Bool)} {Γ : Ctx} (h : (Zgg x0) t0 = some r) : A Tryz.prog Γ (lpC Tryz.f42 21) [] (Rd (Zuu x0) J42x1 r) ((Zuu x0) t0).s:= go [] [rg 2 [(3,ln x0.Z2p)]] <| br h (fun h1 h=>go [] [] <| bd h fun q3 e6 h=>lp e6 wl42x2 <| match q3,h with | .inl q2,h=>j1 <| (qe <| bd h fun v5 e7 h=>goN [] [rg 3 [(1,n e7)]] <| nx h) | .inr y1,h=>j2 <| (ql h fun _ _ p=>⟨(iS p).1,i2 ((iS p).2)⟩)) fun h1 h=> go [] [] <| dn h (i1 iE)
theorem w42 {x0 : Z0t} {r : Bool} (h : Zfq x0 = some r) : Z0c Tryz.prog 42 [.agg (Z22 x0)] (R42 r):= cs Tryz.f42 <| go [] [rg 0 [(0,bo)]] <| bd h fun q5 e8 h=>lp e8 wl42x1 <| match q5,h with | .inl q4,h=>j1 <| (qe <| goN [] [] <| rt h) | .inr y2,h=>j2 <| (qr h)
def R22 (y0 : Int) : D:= .int .i64 y0
def Zkn (x0 : List Z0t) (t0 : Int) : Option (Ctl (Int) (Unit ⊕ Int)):= if (decide (t0 < (x0.length : Int))) = true then ((Z08 x0 t0).bind fun v2=> if (decide ((v2.Z31.length : Int) > 8)) = true then (some (.done (.inr 5))) else ((Z08 x0 t0).bind fun v3=> if (decide ((v3.Z2p.length : Int) > 64)) = true then (some (.done (.inr 5))) else ((some (IntKind.wrap .i64 (t0 + (1 : Int)))).bind fun v4=> some (.next v4)))) else (some (.done (.inl (()))))
def Zj3 (t1 : Int) (x0 : List Z0t) (t3 : Int) : Option (Ctl (Int) (Unit ⊕ Int)):= (Z08 x0 t1).bind fun v21=> if (decide (t3 < (v21.Z31.length : Int))) = true then ((Z08 x0 t1).bind fun v22=> (Z08 v22.Z31 t3).bind fun v23=> if (decide (v23.f_To < 0)) = true then (some (.done (.inr 2))) else ((Z08 x0 t1).bind fun v24=> (Z08 v24.Z31 t3).bind fun v25=> if (decide (v25.f_To ≥ t1)) = true then (some (.done (.inr 2))) else ((some (IntKind.wrap .i64 (t3 + (1 : Int)))).bind fun v26=> some (.next v26)))) else (some (.done (.inl (()))))
def Zh7 (x0 : List Z0t) (t1 : Int) : Option (Ctl (Int) (Unit ⊕ Int)):= if (decide (t1 < (x0.length : Int))) = true then ((Z09 (Zj3 t1 x0) Z0a 0).bind fun q5=> match q5 with | .inl q4=>((some (IntKind.wrap .i64 (t1 + (1 : Int)))).bind fun v27=> some (.next v27)) | .inr y1=>(some (.done (.inr y1)))) else (some (.done (.inl (()))))
def Zh9 (x0 : List Z0t) (t4 : Int) : Option (Ctl (Int) (Unit ⊕ Int)):= if (decide (t4 < (x0.length : Int))) = true then ((Z08 x0 t4).bind fun v30=> (Zgd v30 t4).bind fun v31=> if (v31 != 0) = true then (some (.done (.inr v31))) else ((some (IntKind.wrap .i64 (t4 + (1 : Int)))).bind fun v32=> some (.next v32))) else (some (.done (.inl (()))))
def Zgp (x0 : List Z0t) (t5 : Int) : Option (Ctl (Int) (Unit ⊕ Int)):= if (decide (t5 < (x0.length : Int))) = true then ((Z08 x0 t5).bind fun v35=> (Zfq v35).bind fun v36=> if v36 = true then (some (.done (.inr 6))) else ((some (IntKind.wrap .i64 (t5 + (1 : Int)))).bind fun v37=> some (.next v37))) else (some (.done (.inl (()))))
def j22x1 (x0 : List Z0t) : Option (Int):= (Z09 (Zkn x0) Z0a 0).bind fun q1=> match q1 with | .inl q0=>((Z09 (Zh7 x0) Z0a 0).bind fun q7=> match q7 with | .inl q6=>((Z09 (Zh9 x0) Z0a 0).bind fun q9=> match q9 with | .inl q8=>((Z09 (Zgp x0) Z0a 0).bind fun q11=> match q11 with | .inl q10=>(some 0) | .inr y2=>(some y2)) | .inr y3=>(some y3)) | .inr y4=>(some y4)) | .inr y5=>(some y5)
def Zcx (x0 : List Z0t) : Option (Int):= if ((x0.length : Int) == 0) = true then (some 5) else (if (decide ((x0.length : Int) > 8)) = true then (some 5) else ((j22x1 x0)))
def Zt0 (x0 : List Z0t) : Int → SL:= fun t0=>⟨104,[(0,.sl false (x0.map Z22)),(3,dI t0)],[]⟩
def J22x1 (x0 : List Z0t) : JT (Unit ⊕ Int):= ju (je 0 fun q0 : Unit=>⟨104,[(0,.sl false (x0.map Z22))],[]⟩) (jr Tryz.prog Tryz.f22 R22)
theorem wl22x1 {x0 : List Z0t} {t0 : Int} {r : Ctl (Int) (Unit ⊕ Int)} {Γ : Ctx} (h : (Zkn x0) t0 = some r) : A Tryz.prog Γ (lpC Tryz.f22 43) [] (Rd (Zt0 x0) (J22x1 x0) r) ((Zt0 x0) t0).s:= go [] [rg 4 [(2,ln x0)]] <| br h (fun h5 h=>bd h fun v2 e2 h=>sp h (fun h6 h=>go [] [rg 6 [(2,ix e2),(5,ln v2.Z31),(6,kb h6)]] <| bT rfl <| go [] [] <| dn h (i2 iR)) fun h6 h=> bd h fun v3 e3 h=>go [] [rg 6 [(2,ix e2),(5,ln v2.Z31),(6,kb h6),(10,ix e3),(13,ln v3.Z2p)]] <| br h (fun h7 h=>go [] [] <| dn h (i2 iR)) fun h7 h=> bd h fun v4 e4 h=>go [] [rg 5 [(1,n e4)]] <| nx h) fun h5 h=> go [] [] <| dn h (i1 iE)
def Zyo (t1 : Int) (x0 : List Z0t) : Int → SL:= fun t3=>⟨104,[(0,.sl false (x0.map Z22)),(4,dI t1),(5,dI t3)],[]⟩
def J22x3 (t1 : Int) (x0 : List Z0t) : JT (Unit ⊕ Int):= ju (je 4 fun q4 : Unit=>⟨104,[(0,.sl false (x0.map Z22)),(4,dI t1)],[]⟩) (jr Tryz.prog Tryz.f22 R22)
theorem wl22x3 {t1 : Int} {x0 : List Z0t} {t3 : Int} {r : Ctl (Int) (Unit ⊕ Int)} {Γ : Ctx} (h : (Zj3 t1 x0) t3 = some r) : A Tryz.prog Γ (lpC Tryz.f22 5271) [] (Rd (Zyo t1 x0) (J22x3 t1 x0) r) ((Zyo t1 x0) t3).s:= bd h fun v21 e23 h=>go [] [rg 12 [(3,ix e23),(6,ln v21.Z31)]] <| br h (fun h19 h=>bd h fun v22 e24 h=>bd h fun v23 e25 h=>sp h (fun h20 h=>go [] [rg 14 [(2,ix e24),(6,ix e25),(9,kb h20)]] <| bT rfl <| go [] [] <| dn h (i2 iR)) fun h20 h=> bd h fun v24 e26 h=>bd h fun v25 e27 h=>go [] [rg 14 [(2,ix e24),(6,ix e25),(9,kb h20),(13,ix e26),(17,ix e27)]] <| br h (fun h21 h=>go [] [] <| dn h (i2 iR)) fun h21 h=> bd h fun v26 e28 h=>go [] [rg 13 [(1,n e28)]] <| nx h) fun h19 h=> go [] [] <| dn h (i1 iE)
def Zqo (x0 : List Z0t) : Int → SL:= fun t1=>⟨104,[(0,.sl false (x0.map Z22)),(4,dI t1)],[]⟩
def J22x2 (x0 : List Z0t) : JT (Unit ⊕ Int):= ju (je 2 fun q6 : Unit=>⟨104,[(0,.sl false (x0.map Z22))],[]⟩) (jr Tryz.prog Tryz.f22 R22)
theorem wl22x2 {x0 : List Z0t} {t1 : Int} {r : Ctl (Int) (Unit ⊕ Int)} {Γ : Ctx} (h : (Zh7 x0) t1 = some r) : A Tryz.prog Γ (lpC Tryz.f22 87) [] (Rd (Zqo x0) (J22x2 x0) r) ((Zqo x0) t1).s:= go [] [rg 9 [(2,ln x0)]] <| br h (fun h15 h=>go [] [] <| bd h fun q5 e29 h=>lp e29 wl22x3 <| match q5,h with | .inl q4,h=>j1 <| (qe <| bd h fun v27 e30 h=>goN [] [rg 10 [(1,n e30)]] <| nx h) | .inr y1,h=>j2 <| (ql h fun _ _ p=>⟨(iS p).1,i2 ((iS p).2)⟩)) fun h15 h=> go [] [] <| dn h (i1 iE)
def Zr3 (x0 : List Z0t) : Int → SL:= fun t4=>⟨104,[(0,.sl false (x0.map Z22)),(6,dI t4)],[]⟩
def J22x4 (x0 : List Z0t) : JT (Unit ⊕ Int):= ju (je 6 fun q8 : Unit=>⟨104,[(0,.sl false (x0.map Z22))],[]⟩) (jr Tryz.prog Tryz.f22 R22)
theorem wl22x4 {x0 : List Z0t} {t4 : Int} {r : Ctl (Int) (Unit ⊕ Int)} {Γ : Ctx} (h : (Zh9 x0) t4 = some r) : A Tryz.prog Γ (lpC Tryz.f22 175) [] (Rd (Zr3 x0) (J22x4 x0) r) ((Zr3 x0) t4).s:= go [] [rg 17 [(2,ln x0)]] <| br h (fun h24 h=>bd h fun v30 e34 h=>bd h fun v31 e35 h=>go [] [rg 19 [(2,ix e34),(5,k (w41 e35))]] <| br h (fun h25 h=>go [] [] <| dn h (i2 iR)) fun h25 h=> bd h fun v32 e36 h=>go [] [rg 18 [(1,n e36)]] <| nx h) fun h24 h=> go [] [] <| dn h (i1 iE)
def Zsy (x0 : List Z0t) : Int → SL:= fun t5=>⟨104,[(0,.sl false (x0.map Z22)),(8,dI t5)],[]⟩
def J22x5 : JT (Unit ⊕ Int):= ju (je 8 fun q10 : Unit=>⟨104,[],[]⟩) (jr Tryz.prog Tryz.f22 R22)
theorem wl22x5 {x0 : List Z0t} {t5 : Int} {r : Ctl (Int) (Unit ⊕ Int)} {Γ : Ctx} (h : (Zgp x0) t5 = some r) : A Tryz.prog Γ (lpC Tryz.f22 351) [] (Rd (Zsy x0) J22x5 r) ((Zsy x0) t5).s:= go [] [rg 23 [(2,ln x0)]] <| br h (fun h28 h=>bd h fun v35 e40 h=>bd h fun v36 e41 h=>go [] [rg 25 [(2,ix e40),(4,k (w42 e41))]] <| br h (fun h29 h=>go [] [] <| dn h (i2 iR)) fun h29 h=> bd h fun v37 e42 h=>go [] [rg 24 [(1,n e42)]] <| nx h) fun h28 h=> go [] [] <| dn h (i1 iE)
theorem wj22x1 {x0 : List Z0t} {r : Int} {Γ : Ctx} (h : (j22x1 x0) = some r) : Jn Tryz.prog Tryz.f22 Γ (Den.Ends Tryz.prog Tryz.f22 (R22 r)) 19 ⟨104,[(0,.sl false (x0.map Z22))],[]⟩:= so <| go [] [] <| bd h fun q1 e5 h=>lp e5 wl22x1 <| match q1,h with | .inl q0,h=>j1 <| (qe <| goN [] [] <| bd h fun q7 e31 h=>lp e31 wl22x2 <| match q7,h with | .inl q6,h=>j1 <| (qe <| goN [] [] <| bd h fun q9 e37 h=>lp e37 wl22x4 <| match q9,h with | .inl q8,h=>j1 <| (qe <| goN [] [] <| bd h fun q11 e43 h=>lp e43 wl22x5 <| match q11,h with | .inl q10,h=>j1 <| (qe <| goN [] [] <| rt h) | .inr y2,h=>j2 <| (qr h)) | .inr y3,h=>j2 <| (qr h)) | .inr y4,h=>j2 <| (qr h)) | .inr y5,h=>j2 <| (qr h)
theorem w22 {x0 : List Z0t} {r : Int} (h : Zcx x0 = some r) : Z0c Tryz.prog 22 [.sl false (x0.map Z22)] (R22 r):= cs Tryz.f22 <| sp h (fun h0 h=>go [] [rg 1 [(1,ln x0),(2,kb h0)]] <| bT rfl <| go [] [] <| rt h) fun h0 h=> go [] [rg 1 [(1,ln x0),(2,kb h0),(5,ln x0)]] <| br h (fun h1 h=>go [] [] <| rt h) fun h1 h=> go [3] [] <| jn (wj22x1 h)
def R24 (y0 : Bool) : D:= .bool y0
def Zjp (v0 : Z1o) (x0 : Z04) (x1 t0 : Int) : Option (Ctl (Int) (Unit ⊕ Bool)):= if (decide (t0 < x1)) = true then ((Z08 x0.Z0l t0).bind fun v4=> if (v4.Z1f == v0.Z1f) = true then ((Z08 x0.Z0l t0).bind fun v5=> if (v5.Z02 == v0.Z02) = true then (some (.done (.inr false))) else ((some (IntKind.wrap .i64 (t0 + (1 : Int)))).bind fun v6=> some (.next v6))) else ((some (IntKind.wrap .i64 (t0 + (1 : Int)))).bind fun v7=> some (.next v7))) else (some (.done (.inl (()))))
def j24x1 (v0 : Z1o) (x0 : Z04) (x1 : Int) : Option (Bool):= (Z09 (Zjp v0 x0 x1) Z0a 0).bind fun q1=> match q1 with | .inl q0=>(some true) | .inr y0=>(some y0)
def Z9l (x0 : Z04) (x1 : Int) : Option (Bool):= (Z08 x0.Z0l x1).bind fun v0=> if (decide (v0.Z1f < 0)) = true then (some false) else (if (decide (v0.Z1f ≥ (x0.Z0w.length : Int))) = true then (some false) else (if (decide (v0.Z0o < 0)) = true then (some false) else (if (decide (v0.Z0o ≥ (x0.Z1x.length : Int))) = true then (some false) else ((Z08 x0.Z1x v0.Z0o).bind fun v1=> if (!(v1.Z2n.Z02 == v0.Z02)) = true then (some false) else ((j24x1 v0 x0 x1))))))
def Zwt (v0 : Z1o) (x0 : Z04) (x1 : Int) : Int → SL:= fun t0=>⟨74,[(1,dI x1),(2,.ptr (Z18 x0)),(5,.lptr 5 0 0),(6,dI t0)],[(5,{ sz:=3,rows:=[Z2z v0],frz:=0,pure:=false })]⟩
def J24x1 : JT (Unit ⊕ Bool):= ju (je 0 fun q0 : Unit=>⟨74,[],[]⟩) (jr Tryz.prog Tryz.f24 R24)
theorem wl24x1 {v0 : Z1o} {x0 : Z04} {x1 t0 : Int} {r : Ctl (Int) (Unit ⊕ Bool)} {Γ : Ctx} (h : (Zjp v0 x0 x1) t0 = some r) : A Tryz.prog Γ (lpC Tryz.f24 87) [] (Rd (Zwt v0 x0 x1) J24x1 r) ((Zwt v0 x0 x1) t0).s:= go [] [] <| br h (fun h8 h=>bd h fun v4 e4 h=>sp h (fun h9 h=>bd h fun v5 e5 h=>go [] [rgo 7 [(3,ix e4),(8,kb h9),(13,ix e5)] [0,1,2,3,4,5,6,7,8,9,10,11,12,13,14,15,16,17,18,19] [] [(1,[0]),(3,[0,1,2]),(4,[0,1,2,3]),(5,[0,1,2,3,4]),(7,[6]),(8,[0,1,2,3,4,5,6,7]),(9,[0,1,2,3,4,5,6,7,8]),(10,[0,1,2,3,4,5,6,7,8,9]),(11,[0,1,2,3,4,5,6,7,8,9,10]),(12,[0,1,2,3,4,5,6,7,8,9]),(13,[0,1,2,3,4,5,6,7,8,9,10,11,12]),(14,[0,1,2,3,4,5,6,7,8,9,10,11,12,13]),(15,[0,1,2,3,4,5,6,7,8,9,10,11,12,13,14]),(16,[0,1,2,3,4,5,6,7,8,9]),(17,[0,1,2,3,4,5,6,7,8,9,16]),(18,[0,1,2,3,4,5,6,7,8,9,10,11,12,13,14,15,16,17]),(19,[0,1,2,3,4,5,6,7,8,9,10,11,12,13,14,15,16,17,18])]] <| br h (fun h10 h=>go [] [] <| dn h (i2 iR)) fun h10 h=> bd h fun v6 e6 h=>go [] [rg 6 [(1,n e6)]] <| nx h) fun h9 h=> go [] [rgo 7 [(3,ix e4),(8,kb h9)] [0,1,2,3,4,5,6,7,8,9,10,11,12,13,14,15,16,17,18,19] [] [(1,[0]),(3,[0,1,2]),(4,[0,1,2,3]),(5,[0,1,2,3,4]),(7,[6]),(8,[0,1,2,3,4,5,6,7]),(9,[0,1,2,3,4,5,6,7,8]),(10,[0,1,2,3,4,5,6,7,8,9]),(11,[0,1,2,3,4,5,6,7,8,9,10]),(12,[0,1,2,3,4,5,6,7,8,9]),(13,[0,1,2,3,4,5,6,7,8,9,10,11,12]),(14,[0,1,2,3,4,5,6,7,8,9,10,11,12,13]),(15,[0,1,2,3,4,5,6,7,8,9,10,11,12,13,14]),(16,[0,1,2,3,4,5,6,7,8,9]),(17,[0,1,2,3,4,5,6,7,8,9,16]),(18,[0,1,2,3,4,5,6,7,8,9,10,11,12,13,14,15,16,17]),(19,[0,1,2,3,4,5,6,7,8,9,10,11,12,13,14,15,16,17,18])]] <| bF rfl <| bd h fun v7 e7 h=>go [] [rg 6 [(1,n e7)]] <| nx h) fun h8 h=> go [] [] <| dn h (i1 iE)
theorem wj24x1 {v0 : Z1o} {x0 : Z04} {x1 : Int} {r : Bool} {Γ : Ctx} (h : (j24x1 v0 x0 x1) = some r) : Jn Tryz.prog Tryz.f24 Γ (Den.Ends Tryz.prog Tryz.f24 (R24 r)) 39 ⟨74,[(1,dI x1),(2,.ptr (Z18 x0)),(5,.lptr 5 0 0)],[(5,{ sz:=3,rows:=[Z2z v0],frz:=0,pure:=false })]⟩:= so <| go [] [] <| bd h fun q1 e8 h=>lp e8 wl24x1 <| match q1,h with | .inl q0,h=>j1 <| (qe <| goN [] [] <| rt h) | .inr y0,h=>j2 <| (qr h)
theorem w24 {x0 : Z04} {x1 : Int} {r : Bool} (h : Z9l x0 x1 = some r) : Z0c Tryz.prog 24 [.agg (Z18 x0),dI x1] (R24 r):= cs Tryz.f24 <| bd h fun v0 e0 h=>sp h (fun h0 h=>go [] [rg 0 [(0,bo)],rg 1 [(3,ix e0)],rgo 2 [(2,kb h0)] [0,1,2,3,4,5,6,7,8,9,10,11,12,13,14,15,16,17,18,19,20,21,22,23,24,25,26,27,28,29,30,31,32,33,34,35,36] [] [(1,[0]),(2,[0,1]),(3,[0,1,2]),(4,[0,1,2,3]),(5,[0,1,2,3,4]),(6,[0,1,2,3]),(7,[0,1,2,3,6]),(8,[0,1,2,3,6,7]),(9,[0,1,2,3,4,5,6,7,8]),(10,[0,1,2,3,4,5,6,7,8,9]),(11,[0,1,2,3,4,5,6,7,8,9,10]),(12,[0,1,2,3,4,5,6,7,8,9,10,11]),(13,[0,1,2,3,4,5,6,7,8,9,10,11,12]),(14,[0,1,2,3,4,5,6,7,8,9,10,11,12,13]),(15,[0,1,2,3,4,5,6,7,8,9,10,11,12,13,14]),(16,[0,1,2,3,4,5,6,7,8,9,10,11,12,13,14,15]),(17,[0,1,2,3,4,5,6,7,8,9,10,11,12,13,14,15,16]),(18,[0,1,2,3,4,5,6,7,8,9,10,11,12,13,14,15,16,17]),(19,[0,1,2,3,4,5,6,7,8,9,10,11,12,13,14,15,16]),(20,[0,1,2,3,4,5,6,7,8,9,10,11,12,13,14,15,16,19]),(21,[0,1,2,3,4,5,6,7,8,9,10,11,12,13,14,15,16,19,20]),(22,[0,1,2,3,4,5,6,7,8,9,10,11,12,13,14,15,16,17,18,19,20,21]),(23,[0,1,2,3,4,5,6,7,8,9,10,11,12,13,14,15,16,17,18,19,20,21,22]),(24,[0,1,2,3,4,5,6,7,8,9,10,11,12,13,14,15,16,17,18,19,20,21,22,23]),(25,[0,1,2,3,4,5,6,7,8,9,10,11,12,13,14,15,16,17,18,19,20,21,22,23,24]),(26,[0,1,2,3,4,5,6,7,8,9,10,11,12,13,14,15,16,17,18,19,20,21,22,23,24,25]),(27,[0,1,2,3,4,5,6,7,8,9,10,11,12,13,14,15,16,17,18,19,20,21,22,23,24]),(28,[0,1,2,3,4,5,6,7,8,9,10,11,12,13,14,15,16,17,18,19,20,21,22,23,24,27]),(29,[0,1,2,3,4,5,6,7,8,9,10,11,12,13,14,15,16,17,18,19,20,21,22,23,24,25,26,27,28]),(30,[0,1,2,3,4,5,6,7,8,9,10,11,12,13,14,15,16,17,18,19,20,21,22,23,24,25,26,27,28,29]),(31,[0,1,2,3,4,5,6,7,8,9,10,11,12,13,14,15,16,17,18,19,20,21,22,23,24,25,26,27,28,29,30]),(32,[0,1,2,3,4,5,6,7,8,9,10,11,12,13,14,15,16,17,18,19,20,21,22,23,24,25,26,27,28,29,30,31]),(33,[0,1,2,3,4,5,6,7,8,9,10,11,12,13,14,15,16,17,18,19,20,21,22,23,24]),(34,[0,1,2,3,4,5,6,7,8,9,10,11,12,13,14,15,16,17,18,19,20,21,22,23,24,33]),(35,[0,1,2,3,4,5,6,7,8,9,10,11,12,13,14,15,16,17,18,19,20,21,22,23,24,25,26,27,28,29,30,31,32,33,34]),(36,[0,1,2,3,4,5,6,7,8,9,10,11,12,13,14,15,16,17,18,19,20,21,22,23,24,25,26,27,28,29,30,31,32,33,34,35])]] <| bT rfl <| go [] [] <| rt h) fun h0 h=> sp h (fun h1 h=>go [] [rg 0 [(0,bo)],rg 1 [(3,ix e0)],rgo 2 [(2,kb h0),(8,ln x0.Z0w),(9,kb h1)] [0,1,2,3,4,5,6,7,8,9,10,11,12,13,14,15,16,17,18,19,20,21,22,23,24,25,26,27,28,29,30,31,32,33,34,35,36] [] [(1,[0]),(2,[0,1]),(3,[0,1,2]),(4,[0,1,2,3]),(5,[0,1,2,3,4]),(6,[0,1,2,3]),(7,[0,1,2,3,6]),(8,[0,1,2,3,6,7]),(9,[0,1,2,3,4,5,6,7,8]),(10,[0,1,2,3,4,5,6,7,8,9]),(11,[0,1,2,3,4,5,6,7,8,9,10]),(12,[0,1,2,3,4,5,6,7,8,9,10,11]),(13,[0,1,2,3,4,5,6,7,8,9,10,11,12]),(14,[0,1,2,3,4,5,6,7,8,9,10,11,12,13]),(15,[0,1,2,3,4,5,6,7,8,9,10,11,12,13,14]),(16,[0,1,2,3,4,5,6,7,8,9,10,11,12,13,14,15]),(17,[0,1,2,3,4,5,6,7,8,9,10,11,12,13,14,15,16]),(18,[0,1,2,3,4,5,6,7,8,9,10,11,12,13,14,15,16,17]),(19,[0,1,2,3,4,5,6,7,8,9,10,11,12,13,14,15,16]),(20,[0,1,2,3,4,5,6,7,8,9,10,11,12,13,14,15,16,19]),(21,[0,1,2,3,4,5,6,7,8,9,10,11,12,13,14,15,16,19,20]),(22,[0,1,2,3,4,5,6,7,8,9,10,11,12,13,14,15,16,17,18,19,20,21]),(23,[0,1,2,3,4,5,6,7,8,9,10,11,12,13,14,15,16,17,18,19,20,21,22]),(24,[0,1,2,3,4,5,6,7,8,9,10,11,12,13,14,15,16,17,18,19,20,21,22,23]),(25,[0,1,2,3,4,5,6,7,8,9,10,11,12,13,14,15,16,17,18,19,20,21,22,23,24]),(26,[0,1,2,3,4,5,6,7,8,9,10,11,12,13,14,15,16,17,18,19,20,21,22,23,24,25]),(27,[0,1,2,3,4,5,6,7,8,9,10,11,12,13,14,15,16,17,18,19,20,21,22,23,24]),(28,[0,1,2,3,4,5,6,7,8,9,10,11,12,13,14,15,16,17,18,19,20,21,22,23,24,27]),(29,[0,1,2,3,4,5,6,7,8,9,10,11,12,13,14,15,16,17,18,19,20,21,22,23,24,25,26,27,28]),(30,[0,1,2,3,4,5,6,7,8,9,10,11,12,13,14,15,16,17,18,19,20,21,22,23,24,25,26,27,28,29]),(31,[0,1,2,3,4,5,6,7,8,9,10,11,12,13,14,15,16,17,18,19,20,21,22,23,24,25,26,27,28,29,30]),(32,[0,1,2,3,4,5,6,7,8,9,10,11,12,13,14,15,16,17,18,19,20,21,22,23,24,25,26,27,28,29,30,31]),(33,[0,1,2,3,4,5,6,7,8,9,10,11,12,13,14,15,16,17,18,19,20,21,22,23,24]),(34,[0,1,2,3,4,5,6,7,8,9,10,11,12,13,14,15,16,17,18,19,20,21,22,23,24,33]),(35,[0,1,2,3,4,5,6,7,8,9,10,11,12,13,14,15,16,17,18,19,20,21,22,23,24,25,26,27,28,29,30,31,32,33,34]),(36,[0,1,2,3,4,5,6,7,8,9,10,11,12,13,14,15,16,17,18,19,20,21,22,23,24,25,26,27,28,29,30,31,32,33,34,35])]] <| bT rfl <| go [] [] <| rt h) fun h1 h=> sp h (fun h2 h=>go [] [rg 0 [(0,bo)],rg 1 [(3,ix e0)],rgo 2 [(2,kb h0),(8,ln x0.Z0w),(9,kb h1),(14,kb h2)] [0,1,2,3,4,5,6,7,8,9,10,11,12,13,14,15,16,17,18,19,20,21,22,23,24,25,26,27,28,29,30,31,32,33,34,35,36] [] [(1,[0]),(2,[0,1]),(3,[0,1,2]),(4,[0,1,2,3]),(5,[0,1,2,3,4]),(6,[0,1,2,3]),(7,[0,1,2,3,6]),(8,[0,1,2,3,6,7]),(9,[0,1,2,3,4,5,6,7,8]),(10,[0,1,2,3,4,5,6,7,8,9]),(11,[0,1,2,3,4,5,6,7,8,9,10]),(12,[0,1,2,3,4,5,6,7,8,9,10,11]),(13,[0,1,2,3,4,5,6,7,8,9,10,11,12]),(14,[0,1,2,3,4,5,6,7,8,9,10,11,12,13]),(15,[0,1,2,3,4,5,6,7,8,9,10,11,12,13,14]),(16,[0,1,2,3,4,5,6,7,8,9,10,11,12,13,14,15]),(17,[0,1,2,3,4,5,6,7,8,9,10,11,12,13,14,15,16]),(18,[0,1,2,3,4,5,6,7,8,9,10,11,12,13,14,15,16,17]),(19,[0,1,2,3,4,5,6,7,8,9,10,11,12,13,14,15,16]),(20,[0,1,2,3,4,5,6,7,8,9,10,11,12,13,14,15,16,19]),(21,[0,1,2,3,4,5,6,7,8,9,10,11,12,13,14,15,16,19,20]),(22,[0,1,2,3,4,5,6,7,8,9,10,11,12,13,14,15,16,17,18,19,20,21]),(23,[0,1,2,3,4,5,6,7,8,9,10,11,12,13,14,15,16,17,18,19,20,21,22]),(24,[0,1,2,3,4,5,6,7,8,9,10,11,12,13,14,15,16,17,18,19,20,21,22,23]),(25,[0,1,2,3,4,5,6,7,8,9,10,11,12,13,14,15,16,17,18,19,20,21,22,23,24]),(26,[0,1,2,3,4,5,6,7,8,9,10,11,12,13,14,15,16,17,18,19,20,21,22,23,24,25]),(27,[0,1,2,3,4,5,6,7,8,9,10,11,12,13,14,15,16,17,18,19,20,21,22,23,24]),(28,[0,1,2,3,4,5,6,7,8,9,10,11,12,13,14,15,16,17,18,19,20,21,22,23,24,27]),(29,[0,1,2,3,4,5,6,7,8,9,10,11,12,13,14,15,16,17,18,19,20,21,22,23,24,25,26,27,28]),(30,[0,1,2,3,4,5,6,7,8,9,10,11,12,13,14,15,16,17,18,19,20,21,22,23,24,25,26,27,28,29]),(31,[0,1,2,3,4,5,6,7,8,9,10,11,12,13,14,15,16,17,18,19,20,21,22,23,24,25,26,27,28,29,30]),(32,[0,1,2,3,4,5,6,7,8,9,10,11,12,13,14,15,16,17,18,19,20,21,22,23,24,25,26,27,28,29,30,31]),(33,[0,1,2,3,4,5,6,7,8,9,10,11,12,13,14,15,16,17,18,19,20,21,22,23,24]),(34,[0,1,2,3,4,5,6,7,8,9,10,11,12,13,14,15,16,17,18,19,20,21,22,23,24,33]),(35,[0,1,2,3,4,5,6,7,8,9,10,11,12,13,14,15,16,17,18,19,20,21,22,23,24,25,26,27,28,29,30,31,32,33,34]),(36,[0,1,2,3,4,5,6,7,8,9,10,11,12,13,14,15,16,17,18,19,20,21,22,23,24,25,26,27,28,29,30,31,32,33,34,35])]] <| bT rfl <| go [] [] <| rt h) fun h2 h=> sp h (fun h3 h=>go [] [rg 0 [(0,bo)],rg 1 [(3,ix e0)],rgo 2 [(2,kb h0),(8,ln x0.Z0w),(9,kb h1),(14,kb h2),(21,ln x0.Z1x),(22,kb h3)] [0,1,2,3,4,5,6,7,8,9,10,11,12,13,14,15,16,17,18,19,20,21,22,23,24,25,26,27,28,29,30,31,32,33,34,35,36] [] [(1,[0]),(2,[0,1]),(3,[0,1,2]),(4,[0,1,2,3]),(5,[0,1,2,3,4]),(6,[0,1,2,3]),(7,[0,1,2,3,6]),(8,[0,1,2,3,6,7]),(9,[0,1,2,3,4,5,6,7,8]),(10,[0,1,2,3,4,5,6,7,8,9]),(11,[0,1,2,3,4,5,6,7,8,9,10]),(12,[0,1,2,3,4,5,6,7,8,9,10,11]),(13,[0,1,2,3,4,5,6,7,8,9,10,11,12]),(14,[0,1,2,3,4,5,6,7,8,9,10,11,12,13]),(15,[0,1,2,3,4,5,6,7,8,9,10,11,12,13,14]),(16,[0,1,2,3,4,5,6,7,8,9,10,11,12,13,14,15]),(17,[0,1,2,3,4,5,6,7,8,9,10,11,12,13,14,15,16]),(18,[0,1,2,3,4,5,6,7,8,9,10,11,12,13,14,15,16,17]),(19,[0,1,2,3,4,5,6,7,8,9,10,11,12,13,14,15,16]),(20,[0,1,2,3,4,5,6,7,8,9,10,11,12,13,14,15,16,19]),(21,[0,1,2,3,4,5,6,7,8,9,10,11,12,13,14,15,16,19,20]),(22,[0,1,2,3,4,5,6,7,8,9,10,11,12,13,14,15,16,17,18,19,20,21]),(23,[0,1,2,3,4,5,6,7,8,9,10,11,12,13,14,15,16,17,18,19,20,21,22]),(24,[0,1,2,3,4,5,6,7,8,9,10,11,12,13,14,15,16,17,18,19,20,21,22,23]),(25,[0,1,2,3,4,5,6,7,8,9,10,11,12,13,14,15,16,17,18,19,20,21,22,23,24]),(26,[0,1,2,3,4,5,6,7,8,9,10,11,12,13,14,15,16,17,18,19,20,21,22,23,24,25]),(27,[0,1,2,3,4,5,6,7,8,9,10,11,12,13,14,15,16,17,18,19,20,21,22,23,24]),(28,[0,1,2,3,4,5,6,7,8,9,10,11,12,13,14,15,16,17,18,19,20,21,22,23,24,27]),(29,[0,1,2,3,4,5,6,7,8,9,10,11,12,13,14,15,16,17,18,19,20,21,22,23,24,25,26,27,28]),(30,[0,1,2,3,4,5,6,7,8,9,10,11,12,13,14,15,16,17,18,19,20,21,22,23,24,25,26,27,28,29]),(31,[0,1,2,3,4,5,6,7,8,9,10,11,12,13,14,15,16,17,18,19,20,21,22,23,24,25,26,27,28,29,30]),(32,[0,1,2,3,4,5,6,7,8,9,10,11,12,13,14,15,16,17,18,19,20,21,22,23,24,25,26,27,28,29,30,31]),(33,[0,1,2,3,4,5,6,7,8,9,10,11,12,13,14,15,16,17,18,19,20,21,22,23,24]),(34,[0,1,2,3,4,5,6,7,8,9,10,11,12,13,14,15,16,17,18,19,20,21,22,23,24,33]),(35,[0,1,2,3,4,5,6,7,8,9,10,11,12,13,14,15,16,17,18,19,20,21,22,23,24,25,26,27,28,29,30,31,32,33,34]),(36,[0,1,2,3,4,5,6,7,8,9,10,11,12,13,14,15,16,17,18,19,20,21,22,23,24,25,26,27,28,29,30,31,32,33,34,35])]] <| bT rfl <| go [] [] <| rt h) fun h3 h=> bd h fun v1 e1 h=>go [] [rg 0 [(0,bo)],rg 1 [(3,ix e0)],rgo 2 [(2,kb h0),(8,ln x0.Z0w),(9,kb h1),(14,kb h2),(21,ln x0.Z1x),(22,kb h3),(29,ix e1)] [0,1,2,3,4,5,6,7,8,9,10,11,12,13,14,15,16,17,18,19,20,21,22,23,24,25,26,27,28,29,30,31,32,33,34,35,36] [] [(1,[0]),(2,[0,1]),(3,[0,1,2]),(4,[0,1,2,3]),(5,[0,1,2,3,4]),(6,[0,1,2,3]),(7,[0,1,2,3,6]),(8,[0,1,2,3,6,7]),(9,[0,1,2,3,4,5,6,7,8]),(10,[0,1,2,3,4,5,6,7,8,9]),(11,[0,1,2,3,4,5,6,7,8,9,10]),(12,[0,1,2,3,4,5,6,7,8,9,10,11]),(13,[0,1,2,3,4,5,6,7,8,9,10,11,12]),(14,[0,1,2,3,4,5,6,7,8,9,10,11,12,13]),(15,[0,1,2,3,4,5,6,7,8,9,10,11,12,13,14]),(16,[0,1,2,3,4,5,6,7,8,9,10,11,12,13,14,15]),(17,[0,1,2,3,4,5,6,7,8,9,10,11,12,13,14,15,16]),(18,[0,1,2,3,4,5,6,7,8,9,10,11,12,13,14,15,16,17]),(19,[0,1,2,3,4,5,6,7,8,9,10,11,12,13,14,15,16]),(20,[0,1,2,3,4,5,6,7,8,9,10,11,12,13,14,15,16,19]),(21,[0,1,2,3,4,5,6,7,8,9,10,11,12,13,14,15,16,19,20]),(22,[0,1,2,3,4,5,6,7,8,9,10,11,12,13,14,15,16,17,18,19,20,21]),(23,[0,1,2,3,4,5,6,7,8,9,10,11,12,13,14,15,16,17,18,19,20,21,22]),(24,[0,1,2,3,4,5,6,7,8,9,10,11,12,13,14,15,16,17,18,19,20,21,22,23]),(25,[0,1,2,3,4,5,6,7,8,9,10,11,12,13,14,15,16,17,18,19,20,21,22,23,24]),(26,[0,1,2,3,4,5,6,7,8,9,10,11,12,13,14,15,16,17,18,19,20,21,22,23,24,25]),(27,[0,1,2,3,4,5,6,7,8,9,10,11,12,13,14,15,16,17,18,19,20,21,22,23,24]),(28,[0,1,2,3,4,5,6,7,8,9,10,11,12,13,14,15,16,17,18,19,20,21,22,23,24,27]),(29,[0,1,2,3,4,5,6,7,8,9,10,11,12,13,14,15,16,17,18,19,20,21,22,23,24,25,26,27,28]),(30,[0,1,2,3,4,5,6,7,8,9,10,11,12,13,14,15,16,17,18,19,20,21,22,23,24,25,26,27,28,29]),(31,[0,1,2,3,4,5,6,7,8,9,10,11,12,13,14,15,16,17,18,19,20,21,22,23,24,25,26,27,28,29,30]),(32,[0,1,2,3,4,5,6,7,8,9,10,11,12,13,14,15,16,17,18,19,20,21,22,23,24,25,26,27,28,29,30,31]),(33,[0,1,2,3,4,5,6,7,8,9,10,11,12,13,14,15,16,17,18,19,20,21,22,23,24]),(34,[0,1,2,3,4,5,6,7,8,9,10,11,12,13,14,15,16,17,18,19,20,21,22,23,24,33]),(35,[0,1,2,3,4,5,6,7,8,9,10,11,12,13,14,15,16,17,18,19,20,21,22,23,24,25,26,27,28,29,30,31,32,33,34]),(36,[0,1,2,3,4,5,6,7,8,9,10,11,12,13,14,15,16,17,18,19,20,21,22,23,24,25,26,27,28,29,30,31,32,33,34,35])]] <| br h (fun h4 h=>go [] [] <| rt h) fun h4 h=> go [4] [] <| jn (wj24x1 h)
def R32 (y0 : (List Bool)) : D:= .sl false (y0.map Z3b)
def Zbg (t2 : Int × (List Bool)) (v33 : Z0x) : Option (Ctl (Int × (List Bool)) (((List Bool)))):= (Z3m v33.f_A t2.2.length).bind fun v40=> (t2.2[v40]?).bind fun v41=> (Z3m v33.f_B (t2.2.set v40 true).length).bind fun v42=> ((t2.2.set v40 true)[v42]?).bind fun v43=> (some (IntKind.wrap .i64 (t2.1 + (1 : Int)))).bind fun v44=> some (.next (v44,((t2.2.set v40 true).set v42 true)))
def Zad (x0 : Z04) (x1 : List UInt8) (t2 : Int × (List Bool)) : Option (Ctl (Int × (List Bool)) (((List Bool)))):= if (decide (t2.1 < (x0.Z0g.length : Int))) = true then ((Z08 x0.Z0g t2.1).bind fun v33=> if (v33.Z02 == x1) = true then ((Z3m v33.f_A t2.2.length).bind fun v34=> (t2.2[v34]?).bind fun v35=> if v35 = true then ((Zbg t2 v33)) else ((Z3m v33.f_B t2.2.length).bind fun v36=> (t2.2[v36]?).bind fun v37=> if v37 = true then ((Zbg t2 v33)) else ((some (IntKind.wrap .i64 (t2.1 + (1 : Int)))).bind fun v38=> some (.next (v38,t2.2))))) else ((some (IntKind.wrap .i64 (t2.1 + (1 : Int)))).bind fun v39=> some (.next (v39,t2.2)))) else (some (.done (t2.2)))
def Zdt (x0 : Z04) (x1 : List UInt8) (t0 : Int × (List Bool)) : Option (Ctl (Int × (List Bool)) (((List Bool)))):= if (decide (t0.1 < (x0.Z0w.length : Int))) = true then ((Z09 (Zad x0 x1) Z0a (0,t0.2)).bind fun q2=> (some (IntKind.wrap .i64 (t0.1 + (1 : Int)))).bind fun v45=> some (.next (v45,q2))) else (some (.done (t0.2)))
def Z7a (x0 : Z04) (x1 : List UInt8) (x2 : Int) : Option ((List Bool)):= (Z8w 1 (x0.Z0w.length : Int) (x0.Z0w.length : Int)).bind fun v0=> (Z3m x2 (List.replicate (x0.Z0w.length : Int).toNat false).length).bind fun v1=> ((List.replicate (x0.Z0w.length : Int).toNat false)[v1]?).bind fun v2=> (Z09 (Zdt x0 x1) Z0a (0,((List.replicate (x0.Z0w.length : Int).toNat false).set v1 true))).bind fun q4=> some q4
def Zqe (t0 : Int × (List Bool)) (x0 : Z04) (x1 : List UInt8) : (Int × (List Bool)) → SL:= fun t2=>⟨64,[(1,.str x1),(3,.ptr (Z18 x0)),(7,.lsl 7 0 ((t2.2.map Z3b).length)),(8,dI t0.1),(9,dI t2.1)],[(7,{ sz:=1,rows:=(t2.2.map Z3b),frz:=0,pure:=true })]⟩
def J32x2 (t0 : Int × (List Bool)) (x0 : Z04) (x1 : List UInt8) : JT (((List Bool))):= je 2 fun q2 : (List Bool)=>⟨64,[(1,.str x1),(3,.ptr (Z18 x0)),(7,.lsl 7 0 ((q2.map Z3b).length)),(8,dI t0.1)],[(7,{ sz:=1,rows:=(q2.map Z3b),frz:=0,pure:=true })]⟩
theorem Zv7 (t0 : Int × (List Bool)) (x0 : Z04) (x1 : List UInt8) {t2 : Int × (List Bool)} {v33 : Z0x} {r : Ctl (Int × (List Bool)) (((List Bool)))} {Γ : Ctx} (h : (Zbg t2 v33) = some r) : Jn Tryz.prog Tryz.f32 Γ (Rd (Zqe t0 x0 x1) (J32x2 t0 x0 x1) r) 1254551 ⟨64,[(1,.str x1),(3,.ptr (Z18 x0)),(7,.lsl 7 0 ((t2.2.map Z3b).length)),(8,dI t0.1),(9,dI t2.1),(10,.lptr 10 0 0)],[(7,{ sz:=1,rows:=(t2.2.map Z3b),frz:=0,pure:=true }),(10,{ sz:=3,rows:=[Z2r v33],frz:=0,pure:=false })]⟩:= so <| bd h fun v40 e41 h=>bd h fun v41 e42 h=>go [12] [rg 11 [(3,ia 7 e41),(4,st e42 0 [.bool true] true)]] <| nm (congrArg (fun nn : Nat=>(⟨64,[(1,.str x1),(3,.ptr (Z18 x0)),(7,.lsl 7 0 nn),(8,dI t0.1),(9,dI t2.1),(10,.lptr 10 0 0)],[(7,{ sz:=1,rows:=((t2.2.set v40 true).map Z3b),frz:=0,pure:=true }),(10,{ sz:=3,rows:=[Z2r v33],frz:=0,pure:=false })]⟩ : SL)) (by simp only [List.length_map,List.length_set] : (t2.2.map Z3b).length = ((t2.2.set v40 true).map Z3b).length)) <| so <| bd h fun v42 e43 h=>bd h fun v43 e44 h=>go [8] [rg 12 [(3,ia 7 e43),(4,st e44 0 [.bool true] true)]] <| nm (congrArg (fun nn : Nat=>(⟨64,[(1,.str x1),(3,.ptr (Z18 x0)),(7,.lsl 7 0 nn),(8,dI t0.1),(9,dI t2.1)],[(7,{ sz:=1,rows:=(((t2.2.set v40 true).set v42 true).map Z3b),frz:=0,pure:=true })]⟩ : SL)) (by simp only [List.length_map,List.length_set] : ((t2.2.set v40 true).map Z3b).length = (((t2.2.set v40 true).set v42 true).map Z3b).length)) <| so <| bd h fun v44 e45 h=>go [] [rg 8 [(1,n e45)]] <| nx h
theorem wl32x2 (t0 : Int × (List Bool)) {x0 : Z04} {x1 : List UInt8} {t2 : Int × (List Bool)} {r : Ctl (Int × (List Bool)) (((List Bool)))} {Γ : Ctx} (h : (Zad x0 x1) t2 = some r) : A Tryz.prog Γ (lpC Tryz.f32 5271) [] (Rd (Zqe t0 x0 x1) (J32x2 t0 x0 x1) r) ((Zqe t0 x0 x1) t2).s:= go [] [rg 7 [(3,ln x0.Z0g)]] <| br h (fun h14 h=>bd h fun v33 e34 h=>go [10] [rg 9 [(3,ix e34)]] <| po <| pr 5 [] <| sp h (fun h15 h=>bd h fun v34 e35 h=>bd h fun v35 e36 h=>pr 6 [(5,gw h15 g0),(6,gw h15 g0),(7,gw h15 g0),(8,gw h15 (ia 7 e35)),(9,gw h15 (lb e36)),(10,gw h15 g0)] <| sp h (fun h16 h=>pr 7 [(11,gs0 h16),(12,gs0 h16),(13,gs0 h16),(14,gs0 h16),(15,gs0 h16),(16,gw h15 (py h16)),(17,py h15)] <| pe <| goN [] [] <| bT rfl <| go [11] [] <| jn ((Zv7 t0 x0 x1) h)) fun h16 h=> bd h fun v36 e37 h=>bd h fun v37 e38 h=>pr 7 [(11,gw h16 g0),(12,gw h16 g0),(13,gw h16 g0),(14,gw h16 (ia 7 e37)),(15,gw h16 (lb e38)),(16,gw h15 (pn h16)),(17,py h15)] <| pe <| goN [] [] <| br h (fun h17 h=>go [11] [] <| jn ((Zv7 t0 x0 x1) h)) fun h17 h=> bd h fun v38 e39 h=>go [] [rg 8 [(1,n e39)]] <| nx h) fun h15 h=> pr 13 [(5,gs1 h15),(6,gs1 h15),(7,gs1 h15),(8,gs1 h15),(9,gs1 h15),(10,gs1 h15),(16,gs1 h15),(17,pn h15)] <| pe <| goN [] [] <| bF rfl <| bd h fun v39 e40 h=>go [] [rg 8 [(1,n e40)]] <| nx h) fun h14 h=> go [] [] <| dn h (iE)
def Zrf (x0 : Z04) (x1 : List UInt8) : (Int × (List Bool)) → SL:= fun t0=>⟨64,[(1,.str x1),(3,.ptr (Z18 x0)),(7,.lsl 7 0 ((t0.2.map Z3b).length)),(8,dI t0.1)],[(7,{ sz:=1,rows:=(t0.2.map Z3b),frz:=0,pure:=true })]⟩
def J32x1 : JT (((List Bool))):= je 0 fun q4 : (List Bool)=>⟨64,[(7,.lsl 7 0 ((q4.map Z3b).length))],[(7,{ sz:=1,rows:=(q4.map Z3b),frz:=0,pure:=true })]⟩
theorem wl32x1 {x0 : Z04} {x1 : List UInt8} {t0 : Int × (List Bool)} {r : Ctl (Int × (List Bool)) (((List Bool)))} {Γ : Ctx} (h : (Zdt x0 x1) t0 = some r) : A Tryz.prog Γ (lpC Tryz.f32 87) [] (Rd (Zrf x0 x1) J32x1 r) ((Zrf x0 x1) t0).s:= go [] [rg 4 [(3,ln x0.Z0w)]] <| br h (fun h9 h=>go [] [] <| bd h fun q2 e46 h=>lp e46 (wl32x2 t0) <| qe <| bd h fun v45 e47 h=>goN [] [rg 5 [(1,n e47)]] <| nx h) fun h9 h=> go [] [] <| dn h (iE)
theorem w32 {x0 : Z04} {x1 : List UInt8} {x2 : Int} {r : (List Bool)} (h : Z7a x0 x1 x2 = some r) : Z0c Tryz.prog 32 [.agg (Z18 x0),.str x1,dI x2] (R32 r):= cs Tryz.f32 <| bd h fun v0 e0 h=>bd h fun v1 e1 h=>bd h fun v2 e2 h=>go [3] [rg 0 [(0,bo)],rg 1 [(2,ln x0.Z0w),(3,mk false e0)],rg 2 [(2,ia 14 e1),(3,st e2 0 [.bool true] true)]] <| nm (congrArg (fun nn : Nat=>(⟨64,[(1,.str x1),(3,.ptr (Z18 x0)),(7,.lsl 14 0 nn)],[(14,{ sz:=1,rows:=(((List.replicate (x0.Z0w.length : Int).toNat false).set v1 true).map Z3b),frz:=0,pure:=true })]⟩ : SL)) (by simp only [List.length_map,List.length_set] : ((List.replicate (x0.Z0w.length : Int).toNat false).map Z3b).length = (((List.replicate (x0.Z0w.length : Int).toNat false).set v1 true).map Z3b).length)) <| so <| go [] [] <| bd h fun q4 e48 h=>lp (ps:=[(14,7)]) e48 wl32x1 <| qe <| goN [] [] <| rtB h (rw_ q4) (a2 (rpI q4) trivial) (by simp only [rwE] <;> kernel_rfl)
def R25 (y0 : Bool) : D:= .bool y0
def Zb4 (v0 : Z1o) (v1 : (List Bool)) (x0 : Z04) (x1 t0 : Int) : Option (Ctl (Int) (Unit ⊕ Bool)):= if (decide (t0 < x1)) = true then ((Z08 x0.Z0l t0).bind fun v4=> if (v4.Z02 == v0.Z02) = true then ((Z08 v1 v4.Z1f).bind fun v5=> if v5 = true then (if (v4.Z0o != v0.Z0o) = true then (some (.done (.inr false))) else ((some (IntKind.wrap .i64 (t0 + (1 : Int)))).bind fun v6=> some (.next v6))) else ((some (IntKind.wrap .i64 (t0 + (1 : Int)))).bind fun v7=> some (.next v7))) else ((some (IntKind.wrap .i64 (t0 + (1 : Int)))).bind fun v8=> some (.next v8))) else (some (.done (.inl (()))))
def Z96 (x0 : Z04) (x1 : Int) : Option (Bool):= (Z08 x0.Z0l x1).bind fun v0=> (Z7a x0 v0.Z02 v0.Z1f).bind fun v1=> (Z09 (Zb4 v0 v1 x0 x1) Z0a 0).bind fun q1=> match q1 with | .inl q0=>(some true) | .inr y0=>(some y0)
def Ztz (v0 : Z1o) (v1 : (List Bool)) (x0 : Z04) (x1 : Int) : Int → SL:= fun t0=>⟨49,[(1,dI x1),(2,.ptr (Z18 x0)),(5,.lptr 5 0 0),(6,.sl false (v1.map Z3b)),(7,dI t0)],[(5,{ sz:=3,rows:=[Z2z v0],frz:=0,pure:=false })]⟩
def J25x1 : JT (Unit ⊕ Bool):= ju (je 0 fun q0 : Unit=>⟨49,[],[]⟩) (jr Tryz.prog Tryz.f25 R25)
theorem wl25x1 {v0 : Z1o} {v1 : (List Bool)} {x0 : Z04} {x1 t0 : Int} {r : Ctl (Int) (Unit ⊕ Bool)} {Γ : Ctx} (h : (Zb4 v0 v1 x0 x1) t0 = some r) : A Tryz.prog Γ (lpC Tryz.f25 87) [] (Rd (Ztz v0 v1 x0 x1) J25x1 r) ((Ztz v0 v1 x0 x1) t0).s:= go [] [] <| br h (fun h4 h=>bd h fun v4 e4 h=>go [7] [rg 6 [(3,ix e4)]] <| po <| pr 6 [] <| sp h (fun h5 h=>bd h fun v5 e5 h=>pr 7 [(6,gw h5 g0),(7,gw h5 g0),(8,gw h5 g0),(9,gw h5 (ix e5)),(10,gw h5 g0),(11,py h5)] <| sp h (fun h6 h=>pr 6 [(13,gw h6 g0),(14,gw h6 g0),(15,gw h6 g0),(16,gw h6 g0),(17,gw h6 g0),(18,py h6)] <| pe <| goN [] [] <| br h (fun h7 h=>go [] [] <| dn h (i2 iR)) fun h7 h=> bd h fun v6 e6 h=>go [] [rg 5 [(1,n e6)]] <| nx h) fun h6 h=> pr 6 [(13,gs1 h6),(14,gs1 h6),(15,gs1 h6),(16,gs1 h6),(17,gs1 h6),(18,pn h6)] <| pe <| goN [] [] <| bF rfl <| bd h fun v7 e7 h=>go [] [rg 5 [(1,n e7)]] <| nx h) fun h5 h=> pr 13 [(6,gs1 h5),(7,gs1 h5),(8,gs1 h5),(9,gs1 h5),(10,gs1 h5),(11,pn h5)] <| pe <| goN [] [] <| bF rfl <| bd h fun v8 e8 h=>go [] [rg 5 [(1,n e8)]] <| nx h) fun h4 h=> go [] [] <| dn h (i1 iE)
theorem w25 {x0 : Z04} {x1 : Int} {r : Bool} (h : Z96 x0 x1 = some r) : Z0c Tryz.prog 25 [.agg (Z18 x0),dI x1] (R25 r):= cs Tryz.f25 <| bd h fun v0 e0 h=>bd h fun v1 e1 h=>go [] [rg 0 [(0,bo)],rg 1 [(3,ix e0)],rg 2 [(5,k (w32 e1))]] <| bd h fun q1 e9 h=>lp e9 wl25x1 <| match q1,h with | .inl q0,h=>j1 <| (qe <| goN [] [] <| rt h) | .inr y0,h=>j2 <| (qr h)
def R63 (y0 : Bool) : D:= .bool y0
def Zh6 (x0 : List Z0f) (t0 : Int) : Option (Ctl (Int) (Unit ⊕ Bool)):= if (decide (t0 < (x0.length : Int))) = true then ((Z08 x0 t0).bind fun v1=> if (v1.Z33 != 0) = true then (some (.done (.inr false))) else ((some (IntKind.wrap .i64 (t0 + (1 : Int)))).bind fun v2=> some (.next v2))) else (some (.done (.inl (()))))
def Zee (x0 : List Z0f) : Option (Bool):= (Z09 (Zh6 x0) Z0a 0).bind fun q1=> match q1 with | .inl q0=>(some true) | .inr y0=>(some y0)
def Zz8 (x0 : List Z0f) : Int → SL:= fun t0=>⟨16,[(0,.sl false (x0.map Z1r)),(3,dI t0)],[]⟩
def J63x1 : JT (Unit ⊕ Bool):= ju (je 0 fun q0 : Unit=>⟨16,[],[]⟩) (jr Tryz.prog Tryz.f63 R63)
theorem wl63x1 {x0 : List Z0f} {t0 : Int} {r : Ctl (Int) (Unit ⊕ Bool)} {Γ : Ctx} (h : (Zh6 x0) t0 = some r) : A Tryz.prog Γ (lpC Tryz.f63 21) [] (Rd (Zz8 x0) J63x1 r) ((Zz8 x0) t0).s:= go [] [rg 2 [(2,ln x0)]] <| br h (fun h2 h=>bd h fun v1 e1 h=>go [] [rg 4 [(2,ix e1)]] <| br h (fun h3 h=>go [] [] <| dn h (i2 iR)) fun h3 h=> bd h fun v2 e2 h=>go [] [rg 3 [(1,n e2)]] <| nx h) fun h2 h=> go [] [] <| dn h (i1 iE)
theorem w63 {x0 : List Z0f} {r : Bool} (h : Zee x0 = some r) : Z0c Tryz.prog 63 [.sl false (x0.map Z1r)] (R63 r):= cs Tryz.f63 <| go [] [] <| bd h fun q1 e3 h=>lp e3 wl63x1 <| match q1,h with | .inl q0,h=>j1 <| (qe <| goN [] [] <| rt h) | .inr y0,h=>j2 <| (qr h)
def R56 (y0 : Bool) : D:= .bool y0
def Zjo (t0 : Int) (v1 : Z3n) (p1 : Bool) : Option (Ctl (Int) (Unit ⊕ Bool)):= if (!p1) = true then (if (v1.Z5c != 8) = true then (if (v1.Z5c != 0) = true then (some (.done (.inr false))) else (if (v1.f_N != 0) = true then (some (.done (.inr false))) else (if (!(v1.f_S == ([] : List UInt8))) = true then (some (.done (.inr false))) else ((some (IntKind.wrap .i64 (t0 + (1 : Int)))).bind fun v2=> some (.next v2))))) else (if (v1.f_N != 0) = true then (some (.done (.inr false))) else (if (!(v1.f_S == ([] : List UInt8))) = true then ((some (IntKind.wrap .i64 (t0 + (1 : Int)))).bind fun v3=> some (.next v3)) else ((some (IntKind.wrap .i64 (t0 + (1 : Int)))).bind fun v4=> some (.next v4))))) else (if (v1.f_N != 0) = true then (if (!(v1.f_S == ([] : List UInt8))) = true then (if (v1.Z5c != 8) = true then (some (.done (.inr false))) else ((some (IntKind.wrap .i64 (t0 + (1 : Int)))).bind fun v5=> some (.next v5))) else ((some (IntKind.wrap .i64 (t0 + (1 : Int)))).bind fun v6=> some (.next v6))) else (if (!(v1.f_S == ([] : List UInt8))) = true then (if (v1.Z5c != 8) = true then (some (.done (.inr false))) else ((some (IntKind.wrap .i64 (t0 + (1 : Int)))).bind fun v7=> some (.next v7))) else ((some (IntKind.wrap .i64 (t0 + (1 : Int)))).bind fun v8=> some (.next v8))))
def Zkb (x0 : Z10) (t0 : Int) : Option (Ctl (Int) (Unit ⊕ Bool)):= if (decide (t0 < (x0.Z1a.length : Int))) = true then ((Z08 x0.Z1a t0).bind fun v1=> if (v1.Z5c == 3) = true then ((Zjo t0 v1) true) else ((Zjo t0 v1) (v1.Z5c == 5))) else (some (.done (.inl (()))))
def Zgm (v26 : Z2m) (t4 : Int) : Option (Ctl (Int) (Unit ⊕ Bool)):= if (decide (t4 < (v26.Z2j.Z1d.length : Int))) = true then ((Z08 v26.Z2j.Z1d t4).bind fun v32=> if (v32.Z0o != 0) = true then (some (.done (.inr false))) else ((some (IntKind.wrap .i64 (t4 + (1 : Int)))).bind fun v33=> some (.next v33))) else (some (.done (.inl (()))))
def Zj0 (v26 : Z2m) (t5 : Int) : Option (Ctl (Int) (Unit ⊕ Bool)):= if (decide (t5 < (v26.Z2j.Z16.length : Int))) = true then ((Z08 v26.Z2j.Z16 t5).bind fun v38=> (Zee v38.Z1p.Z0q).bind fun v39=> if (!v39) = true then (some (.done (.inr false))) else ((Z08 v26.Z2j.Z16 t5).bind fun v40=> (Zee v40.Z1p.Z0s).bind fun v41=> if (!v41) = true then (some (.done (.inr false))) else ((some (IntKind.wrap .i64 (t5 + (1 : Int)))).bind fun v42=> some (.next v42)))) else (some (.done (.inl (()))))
def Zgt (t1 : Int) (v26 : Z2m) : Option (Ctl (Int) (Unit ⊕ Bool)):= (Z09 (Zgm v26) Z0a 0).bind fun q7=> match q7 with | .inl q6=>((Z09 (Zj0 v26) Z0a 0).bind fun q9=> match q9 with | .inl q8=>((some (IntKind.wrap .i64 (t1 + (1 : Int)))).bind fun v43=> some (.next v43)) | .inr y2=>(some (.done (.inr y2)))) | .inr y3=>(some (.done (.inr y3)))
def Zgw (x0 : Z10) (t1 : Int) : Option (Ctl (Int) (Unit ⊕ Bool)):= if (decide (t1 < (x0.Z17.length : Int))) = true then ((Z08 x0.Z17 t1).bind fun v26=> (Z08 x0.Z17 t1).bind fun v27=> if (!v27.Z7w) = true then (if (v26.Z2j.Z0s != 0) = true then (some (.done (.inr false))) else (if (v26.Z2j.Z0q != 0) = true then (some (.done (.inr false))) else ((some (IntKind.wrap .i64 ((v26.Z2j.Z0k.length : Int) + (v26.Z2j.Z1d.length : Int)))).bind fun v28=> (some (IntKind.wrap .i64 (v28 + (v26.Z2j.Z16.length : Int)))).bind fun v29=> (some (IntKind.wrap .i64 (v29 + (v26.Z2j.Z1b.length : Int)))).bind fun v30=> if (decide (v30 > 0)) = true then (some (.done (.inr false))) else ((Zgt t1 v26))))) else ((Zgt t1 v26))) else (some (.done (.inl (()))))
def Ziw (x0 : Z10) : Option (Bool):= (Z09 (Zkb x0) Z0a 0).bind fun q1=> match q1 with | .inl q0=>((Z09 (Zgw x0) Z0a 0).bind fun q11=> match q11 with | .inl q10=>(some true) | .inr y4=>(some y4)) | .inr y5=>(some y5)
def Zne (x0 : Z10) : Int → SL:= fun t0=>⟨150,[(1,.ptr (Z25 x0)),(3,dI t0)],[]⟩
def J56x1 (x0 : Z10) : JT (Unit ⊕ Bool):= ju (je 0 fun q0 : Unit=>⟨150,[(1,.ptr (Z25 x0))],[]⟩) (jr Tryz.prog Tryz.f56 R56)
theorem Zw1 (x0 : Z10) {t0 : Int} {v1 : Z3n} {p1 : Bool} {r : Ctl (Int) (Unit ⊕ Bool)} {Γ : Ctx} (h : (Zjo t0 v1) p1 = some r) : Jn Tryz.prog Tryz.f56 Γ (Rd (Zne x0) (J56x1 x0) r) 2853 ⟨150,[(1,.ptr (Z25 x0)),(3,dI t0),(4,.lptr 4 0 0),(5,.bool p1)],[(4,{ sz:=6,rows:=[Z7k v1],frz:=0,pure:=false })]⟩:= po <| pr 3 [] <| sp h (fun h16 h=>pr 5 [(3,gw h16 g0),(4,gw h16 g0),(5,gw h16 g0),(6,py h16)] <| sp h (fun h17 h=>pr 5 [(8,gw h17 g0),(9,gw h17 g0),(10,gw h17 g0),(11,py h17)] <| sp h (fun h18 h=>pr 18 [(13,gs0 h18),(14,gs0 h18),(15,gs0 h18),(16,gs0 h18),(19,gs0 h18),(20,py h18)] <| pe <| goN [] [] <| bT rfl <| go [] [] <| dn h (i2 iR)) fun h18 h=> pr 4 [(13,gw h18 g0),(14,gw h18 g0),(15,gw h18 g0),(16,gw h18 g0)] <| sp h (fun h19 h=>pr 14 [(17,gw h19 g0),(18,gw h19 g0),(19,gw h18 (py h19)),(20,pn h18),(22,gs0 h16),(23,gs0 h16),(24,gs0 h16),(25,gs0 h16),(29,gs0 h16),(30,py h16)] <| pe <| goN [] [] <| bT rfl <| go [] [] <| dn h (i2 iR)) fun h19 h=> pr 9 [(17,gs1 h19),(18,gs1 h19),(19,gw h18 (pn h19)),(20,pn h18)] <| sp h (fun h20 h=>pr 5 [(26,gw h20 g0),(27,gw h20 g0),(28,gw h20 (kb h17)),(29,py h20)] <| pe <| goN [] [] <| bT rfl <| go [] [] <| dn h (i2 iR)) fun h20 h=> pr 5 [(26,gs1 h20),(27,gs1 h20),(28,gs1 h20),(29,pn h20)] <| pe <| goN [] [] <| bF rfl <| bd h fun v2 e2 h=>go [] [rg 3 [(1,n e2)]] <| nx h) fun h17 h=> pr 9 [(8,gs1 h17),(9,gs1 h17),(10,gs1 h17),(11,pn h17)] <| sp h (fun h21 h=>pr 14 [(17,gw h21 g0),(18,gw h21 g0),(19,py h21),(22,gs0 h16),(23,gs0 h16),(24,gs0 h16),(25,gs0 h16),(29,gs0 h16),(30,py h16)] <| pe <| goN [] [] <| bT rfl <| go [] [] <| dn h (i2 iR)) fun h21 h=> pr 9 [(17,gs1 h21),(18,gs1 h21),(19,pn h21)] <| sp h (fun h22 h=>pr 5 [(26,gw h22 g0),(27,gw h22 g0),(28,gw h22 (kb h17)),(29,py h22)] <| pe <| goN [] [] <| bF rfl <| bd h fun v3 e3 h=>go [] [rg 3 [(1,n e3)]] <| nx h) fun h22 h=> pr 5 [(26,gs1 h22),(27,gs1 h22),(28,gs1 h22),(29,pn h22)] <| pe <| goN [] [] <| bF rfl <| bd h fun v4 e4 h=>go [] [rg 3 [(1,n e4)]] <| nx h) fun h16 h=> pr 14 [(3,gs1 h16),(4,gs1 h16),(5,gs1 h16),(6,pn h16)] <| sp h (fun h23 h=>pr 9 [(17,gw h23 g0),(18,gw h23 g0),(19,py h23),(22,gw h16 g0),(23,gw h16 g0),(24,gw h16 g0),(25,gw h16 g0)] <| sp h (fun h24 h=>pr 5 [(26,gw h24 g0),(27,gw h24 g0),(28,gw h24 g0),(29,gw h16 (py h24)),(30,pn h16)] <| pe <| goN [] [] <| br h (fun h25 h=>go [] [] <| dn h (i2 iR)) fun h25 h=> bd h fun v5 e5 h=>go [] [rg 3 [(1,n e5)]] <| nx h) fun h24 h=> pr 5 [(26,gs1 h24),(27,gs1 h24),(28,gs1 h24),(29,gw h16 (pn h24)),(30,pn h16)] <| pe <| goN [] [] <| bF rfl <| bd h fun v6 e6 h=>go [] [rg 3 [(1,n e6)]] <| nx h) fun h23 h=> pr 9 [(17,gs1 h23),(18,gs1 h23),(19,pn h23)] <| sp h (fun h26 h=>pr 5 [(26,gw h26 g0),(27,gw h26 g0),(28,gw h26 g0),(29,py h26)] <| pe <| goN [] [] <| br h (fun h27 h=>go [] [] <| dn h (i2 iR)) fun h27 h=> bd h fun v7 e7 h=>go [] [rg 3 [(1,n e7)]] <| nx h) fun h26 h=> pr 5 [(26,gs1 h26),(27,gs1 h26),(28,gs1 h26),(29,pn h26)] <| pe <| goN [] [] <| bF rfl <| bd h fun v8 e8 h=>go [] [rg 3 [(1,n e8)]] <| nx h
theorem wl56x1 {x0 : Z10} {t0 : Int} {r : Ctl (Int) (Unit ⊕ Bool)} {Γ : Ctx} (h : (Zkb x0) t0 = some r) : A Tryz.prog Γ (lpC Tryz.f56 21) [] (Rd (Zne x0) (J56x1 x0) r) ((Zne x0) t0).s:= go [] [rg 2 [(3,ln x0.Z1a)]] <| br h (fun h14 h=>bd h fun v1 e1 h=>sp h (fun h15 h=>go [6] [rg 4 [(3,ix e1)],rg 5 [(2,kb h15)]] <| jn ((Zw1 x0) h)) fun h15 h=> go [6] [rg 4 [(3,ix e1)],rg 5 [(2,kb h15)]] <| jn ((Zw1 x0) h)) fun h14 h=> go [] [] <| dn h (i1 iE)
def Zs7 (t1 : Int) (v26 : Z2m) (x0 : Z10) : Int → SL:= fun t4=>⟨150,[(1,.ptr (Z25 x0)),(6,dI t1),(7,.lptr 7 0 0),(8,dI t4)],[(7,{ sz:=6,rows:=[Z0z v26.Z2j],frz:=0,pure:=false })]⟩
def J56x3 (t1 : Int) (v26 : Z2m) (x0 : Z10) : JT (Unit ⊕ Bool):= ju (je 4 fun q6 : Unit=>⟨150,[(1,.ptr (Z25 x0)),(6,dI t1),(7,.lptr 7 0 0)],[(7,{ sz:=6,rows:=[Z0z v26.Z2j],frz:=0,pure:=false })]⟩) (jr Tryz.prog Tryz.f56 R56)
theorem wl56x3 (t1 : Int) (x0 : Z10) {v26 : Z2m} {t4 : Int} {r : Ctl (Int) (Unit ⊕ Bool)} {Γ : Ctx} (h : (Zgm v26) t4 = some r) : A Tryz.prog Γ (lpC Tryz.f56 22091) [] (Rd (Zs7 t1 v26 x0) (J56x3 t1 v26 x0) r) ((Zs7 t1 v26 x0) t4).s:= go [] [rg 15 [(3,ln v26.Z2j.Z1d)]] <| br h (fun h50 h=>bd h fun v32 e35 h=>go [] [rg 17 [(3,ix e35)]] <| br h (fun h51 h=>go [] [] <| dn h (i2 iR)) fun h51 h=> bd h fun v33 e36 h=>go [] [rg 16 [(1,n e36)]] <| nx h) fun h50 h=> go [] [] <| dn h (i1 iE)
def Zs9 (t1 : Int) (v26 : Z2m) (x0 : Z10) : Int → SL:= fun t5=>⟨150,[(1,.ptr (Z25 x0)),(6,dI t1),(7,.lptr 7 0 0),(9,dI t5)],[(7,{ sz:=6,rows:=[Z0z v26.Z2j],frz:=0,pure:=false })]⟩
def J56x4 (t1 : Int) (x0 : Z10) : JT (Unit ⊕ Bool):= ju (je 6 fun q8 : Unit=>⟨150,[(1,.ptr (Z25 x0)),(6,dI t1)],[]⟩) (jr Tryz.prog Tryz.f56 R56)
theorem wl56x4 (t1 : Int) (x0 : Z10) {v26 : Z2m} {t5 : Int} {r : Ctl (Int) (Unit ⊕ Bool)} {Γ : Ctx} (h : (Zj0 v26) t5 = some r) : A Tryz.prog Γ (lpC Tryz.f56 24139) [] (Rd (Zs9 t1 v26 x0) (J56x4 t1 x0) r) ((Zs9 t1 v26 x0) t5).s:= go [] [rg 20 [(3,ln v26.Z2j.Z16)]] <| br h (fun h55 h=>bd h fun v38 e42 h=>bd h fun v39 e43 h=>sp h (fun h56 h=>go [] [rg 22 [(3,ix e42),(7,k (w63 e43)),(10,gs0 h56),(11,gs0 h56),(12,gs0 h56),(13,gs0 h56),(14,gs0 h56),(15,gs0 h56),(16,gs0 h56),(17,gs0 h56),(18,gs0 h56),(19,py h56)]] <| bT rfl <| go [] [] <| dn h (i2 iR)) fun h56 h=> bd h fun v40 e44 h=>bd h fun v41 e45 h=>go [] [rg 22 [(3,ix e42),(7,k (w63 e43)),(10,gw h56 g0),(11,gw h56 g0),(12,gw h56 g0),(13,gw h56 (ix e44)),(14,gw h56 g0),(15,gw h56 g0),(16,gw h56 g0),(17,gw h56 (k (w63 e45))),(18,gw h56 g0),(19,pn h56)]] <| br h (fun h57 h=>go [] [] <| dn h (i2 iR)) fun h57 h=> bd h fun v42 e46 h=>go [] [rg 21 [(1,n e46)]] <| nx h) fun h55 h=> go [] [] <| dn h (i1 iE)
def Zpe (x0 : Z10) : Int → SL:= fun t1=>⟨150,[(1,.ptr (Z25 x0)),(6,dI t1)],[]⟩
def J56x2 : JT (Unit ⊕ Bool):= ju (je 2 fun q10 : Unit=>⟨150,[],[]⟩) (jr Tryz.prog Tryz.f56 R56)
theorem Zrb (x0 : Z10) {t1 : Int} {v26 : Z2m} {r : Ctl (Int) (Unit ⊕ Bool)} {Γ : Ctx} (h : (Zgt t1 v26) = some r) : Jn Tryz.prog Tryz.f56 Γ (Rd (Zpe x0) J56x2 r) 9803 ⟨150,[(1,.ptr (Z25 x0)),(6,dI t1),(7,.lptr 7 0 0)],[(7,{ sz:=6,rows:=[Z0z v26.Z2j],frz:=0,pure:=false })]⟩:= so <| go [] [] <| bd h fun q7 e37 h=>lp e37 (wl56x3 t1 x0) <| match q7,h with | .inl q6,h=>j1 <| (qe <| goN [] [] <| bd h fun q9 e47 h=>lp e47 (wl56x4 t1 x0) <| match q9,h with | .inl q8,h=>j1 <| (qe <| bd h fun v43 e48 h=>goN [] [rg 10 [(1,n e48)]] <| nx h) | .inr y2,h=>j2 <| (ql h fun _ _ p=>⟨(iS p).1,i2 ((iS p).2)⟩)) | .inr y3,h=>j2 <| (ql h fun _ _ p=>⟨(iS p).1,i2 ((iS p).2)⟩)
theorem wl56x2 {x0 : Z10} {t1 : Int} {r : Ctl (Int) (Unit ⊕ Bool)} {Γ : Ctx} (h : (Zgw x0) t1 = some r) : A Tryz.prog Γ (lpC Tryz.f56 43) [] (Rd (Zpe x0) J56x2 r) ((Zpe x0) t1).s:= go [] [rg 9 [(3,ln x0.Z17)]] <| br h (fun h43 h=>bd h fun v26 e29 h=>go [12] [rg 11 [(3,ix e29)]] <| po <| bd h fun v27 e30 h=>pr 8 [(3,ix e30)] <| sp h (fun h44 h=>pr 4 [(8,gw h44 g0),(9,gw h44 g0),(10,gw h44 g0),(11,gw h44 g0)] <| sp h (fun h45 h=>pr 23 [(12,gs0 h45),(13,gs0 h45),(14,gs0 h45),(15,gw h44 (py h45)),(16,gw h44 g0),(33,gw h44 g0),(34,py h44)] <| pe <| goN [] [] <| bT rfl <| go [] [] <| dn h (i2 iR)) fun h45 h=> pr 5 [(12,gw h45 g0),(13,gw h45 g0),(14,gw h45 g0),(15,gw h44 (pn h45)),(16,gw h44 g0)] <| sp h (fun h46 h=>pr 18 [(17,gs0 h46),(18,gs0 h46),(19,gs0 h46),(20,gs0 h46),(21,gs0 h46),(22,gs0 h46),(23,gs0 h46),(24,gs0 h46),(25,gs0 h46),(26,gs0 h46),(27,gs0 h46),(28,gs0 h46),(29,gs0 h46),(30,gs0 h46),(31,gs0 h46),(32,gs0 h46),(33,gw h44 (py h46)),(34,py h44)] <| pe <| goN [] [] <| bT rfl <| go [] [] <| dn h (i2 iR)) fun h46 h=> bd h fun v28 e31 h=>bd h fun v29 e32 h=>bd h fun v30 e33 h=>pr 18 [(17,gw h46 g0),(18,gw h46 g0),(19,gw h46 (ln v26.Z2j.Z0k)),(20,gw h46 g0),(21,gw h46 g0),(22,gw h46 (ln v26.Z2j.Z1d)),(23,gw h46 (n e31)),(24,gw h46 g0),(25,gw h46 g0),(26,gw h46 (ln v26.Z2j.Z16)),(27,gw h46 (n e32)),(28,gw h46 g0),(29,gw h46 g0),(30,gw h46 (ln v26.Z2j.Z1b)),(31,gw h46 (n e33)),(32,gw h46 g0),(33,gw h44 (pn h46)),(34,py h44)] <| pe <| goN [] [] <| br h (fun h47 h=>go [] [] <| dn h (i2 iR)) fun h47 h=> go [14] [] <| jn ((Zrb x0) h)) fun h44 h=> pr 27 [(8,gs1 h44),(9,gs1 h44),(10,gs1 h44),(11,gs1 h44),(15,gs1 h44),(16,gs1 h44),(33,gs1 h44),(34,pn h44)] <| pe <| goN [] [] <| bF rfl <| go [14] [] <| jn ((Zrb x0) h)) fun h43 h=> go [] [] <| dn h (i1 iE)
theorem w56 {x0 : Z10} {r : Bool} (h : Ziw x0 = some r) : Z0c Tryz.prog 56 [.agg (Z25 x0)] (R56 r):= cs Tryz.f56 <| go [] [rg 0 [(0,bo)]] <| bd h fun q1 e9 h=>lp e9 wl56x1 <| match q1,h with | .inl q0,h=>j1 <| (qe <| goN [] [] <| bd h fun q11 e49 h=>lp e49 wl56x2 <| match q11,h with | .inl q10,h=>j1 <| (qe <| goN [] [] <| rt h) | .inr y4,h=>j2 <| (qr h)) | .inr y5,h=>j2 <| (qr h)
def R88 (y0 : (List Z00) × Int × Int) : D:= .tup [.sl false (y0.1.map Z0b),.int .i64 y0.2.1,.int .i64 y0.2.2]
def Zg9 (x0 : List Z00) (x1 : Z00) (t0 : Int) : Option (Ctl (Int) (Unit ⊕ ((List Z00) × Int × Int))):= if (decide (t0 < (x0.length : Int))) = true then ((Z08 x0 t0).bind fun v1=> if (Zx8 v1 x1) = true then ((some (IntKind.wrap .i64 (t0 + (1 : Int)))).bind fun v2=> some (.done (.inr (x0,v2,0)))) else ((some (IntKind.wrap .i64 (t0 + (1 : Int)))).bind fun v3=> some (.next v3))) else (some (.done (.inl (()))))
def Z7z (x0 : List Z00) (x1 : Z00) : Option ((List Z00) × Int × Int):= (Z09 (Zg9 x0 x1) Z0a 0).bind fun q1=> match q1 with | .inl q0=>(if (decide ((x0.length : Int) ≥ 1000)) = true then (some (x0,0,5)) else ((some (IntKind.wrap .i64 ((x0.length : Int) + (1 : Int)))).bind fun v4=> (Z20 48 (([] : List Z00) ++ x0).length).bind fun v5=> (Z20 48 ((([] : List Z00) ++ x0) ++ [x1]).length).bind fun v6=> some (((([] : List Z00) ++ x0) ++ [x1]),v4,0))) | .inr y0=>(some y0)
def Zt1 (x0 : List Z00) (x1 : Z00) : Int → SL:= fun t0=>⟨36,[(0,.sl false (x0.map Z0b)),(3,.ptr (Z0b x1)),(7,dI t0)],[]⟩
def J88x1 (x0 : List Z00) (x1 : Z00) : JT (Unit ⊕ ((List Z00) × Int × Int)):= ju (je 0 fun q0 : Unit=>⟨36,[(0,.sl false (x0.map Z0b)),(3,.ptr (Z0b x1))],[]⟩) (jr Tryz.prog Tryz.f88 R88)
theorem wl88x1 {x0 : List Z00} {x1 : Z00} {t0 : Int} {r : Ctl (Int) (Unit ⊕ ((List Z00) × Int × Int))} {Γ : Ctx} (h : (Zg9 x0 x1) t0 = some r) : A Tryz.prog Γ (lpC Tryz.f88 21) [] (Rd (Zt1 x0 x1) (J88x1 x0 x1) r) ((Zt1 x0 x1) t0).s:= go [] [rg 2 [(2,ln x0)]] <| br h (fun h2 h=>bd h fun v1 e1 h=>go [] [rgo 4 [(2,ix e1),(5,qs eqg_168 eqp_168 (Zx8 v1 x1))] [0,1,2,3,4,5] [] [(2,[0,1]),(3,[0,1,2]),(5,[0,1,2,3,4])]] <| br h (fun h3 h=>bd h fun v2 e2 h=>go [] [rg 5 [(2,n e2)]] <| dn h (i2 iR)) fun h3 h=> bd h fun v3 e3 h=>go [] [rg 3 [(1,n e3)]] <| nx h) fun h2 h=> go [] [] <| dn h (i1 iE)
theorem w88 {x0 : List Z00} {x1 : Z00} {r : (List Z00) × Int × Int} (h : Z7z x0 x1 = some r) : Z0c Tryz.prog 88 [.sl false (x0.map Z0b),.agg (Z0b x1)] (R88 r):= cs Tryz.f88 <| go [] [rg 0 [(0,bo)]] <| bd h fun q1 e4 h=>lp e4 wl88x1 <| match q1,h with | .inl q0,h=>j1 <| (qe <| goN [] [rg 6 [(1,ln x0)]] <| br h (fun h4 h=>go [] [] <| rt h) fun h4 h=> bd h fun v4 e5 h=>bd h fun v5 e6 h=>bd h fun v6 e7 h=>go [] [rgo 8 [(7,ln x0),(8,n e5),(0,bl 0 5),(4,br0 1 5),(2,ap e6),(5,ap e7)] [1,3,6,7,8,0,4,2,5,9,10,11] [2,5,1003,1006,1007,1008,2004,1004] [(2,[0,1]),(4,[3]),(5,[0,1,2,3,4]),(7,[6]),(8,[6,7]),(9,[0,1,2,3,4,5]),(10,[0,1,2,3,4,5,6,7,8,9]),(11,[0,1,2,3,4,5,6,7,8,9,10])]] <| rtB h (.tup [rw_ ((([] : List Z00) ++ x0) ++ [x1]),dI v4,dI 0]) (a2 (rpI ((([] : List Z00) ++ x0) ++ [x1])) (a2 trivial (a2 trivial trivial))) (by simp only [rwE] <;> kernel_rfl)) | .inr y0,h=>j2 <| (qr h)
def R86 (y0 : (List Z00) × Int × Int) : D:= .tup [.sl false (y0.1.map Z0b),.int .i64 y0.2.1,.int .i64 y0.2.2]
def Z8e (x0 : List Z00) (x1 : List UInt8) : Option ((List Z00) × Int × Int):= (Z7z x0 ({ Z1v:=1,f_S:=x1,f_N:=0,f_A:=0,f_B:=0 } : Z00)).bind fun v0=> some (v0.1,v0.2.1,v0.2.2)
theorem w86 {x0 : List Z00} {x1 : List UInt8} {r : (List Z00) × Int × Int} (h : Z8e x0 x1 = some r) : Z0c Tryz.prog 86 [.sl false (x0.map Z0b),.str x1] (R86 r):= cs Tryz.f86 <| bd h fun v0 e0 h=>go [] [rg 1 [(3,k (w88 e0))]] <| rt h
def R116 (y0 : (List Z00) × Int × Int) : D:= .tup [.sl false (y0.1.map Z0b),.int .i64 y0.2.1,.int .i64 y0.2.2]
def Zei (x0 : List Z00) (x1 : Int) (x2 : List UInt8) : Option ((List Z00) × Int × Int):= (Z8e x0 x2).bind fun v0=> if (v0.2.2 != 0) = true then (some (x0,0,v0.2.2)) else ((Z7z v0.1 ({ Z1v:=x1,f_S:=[],f_N:=0,f_A:=v0.2.1,f_B:=0 } : Z00)).bind fun v1=> if (v1.2.2 != 0) = true then (some (x0,0,v1.2.2)) else (some (v1.1,v1.2.1,0)))
theorem w116 {x0 : List Z00} {x1 : Int} {x2 : List UInt8} {r : (List Z00) × Int × Int} (h : Zei x0 x1 x2 = some r) : Z0c Tryz.prog 116 [.sl false (x0.map Z0b),dI x1,.str x2] (R116 r):= cs Tryz.f116 <| bd h fun v0 e0 h=>go [] [rg 1 [(2,k (w86 e0))]] <| br h (fun h0 h=>go [] [] <| rt h) fun h0 h=> bd h fun v1 e1 h=>go [] [rg 4 [(4,k (w88 e1))]] <| br h (fun h1 h=>go [] [] <| rt h) fun h1 h=> go [] [] <| rt h
def R85 (y0 : (List Z00) × Int × Int) : D:= .tup [.sl false (y0.1.map Z0b),.int .i64 y0.2.1,.int .i64 y0.2.2]
def Zb2 (x0 : List Z00) (x1 : List UInt8) : Option ((List Z00) × Int × Int):= (Zei x0 7 x1).bind fun v0=> some (v0.1,v0.2.1,v0.2.2)
theorem w85 {x0 : List Z00} {x1 : List UInt8} {r : (List Z00) × Int × Int} (h : Zb2 x0 x1 = some r) : Z0c Tryz.prog 85 [.sl false (x0.map Z0b),.str x1] (R85 r):= cs Tryz.f85 <| bd h fun v0 e0 h=>go [] [rg 1 [(2,k (w116 e0))]] <| rt h
def B64 (y0 : Z0m × Int) : List Blk:=[{ sz:=2,rows:=[Z3i y0.1],frz:=0,pure:=false,pin:=some 0 }]
def R64 (y0 : Z0m × Int) : D:= .int .i64 y0.2
def Z8u (x0 : Z0m) (x1 : List UInt8) : Option (Z0m × Int):= if (x0.f_E != 0) = true then (some (x0,0)) else ((Zb2 x0.f_P x1).bind fun v0=> some (({ f_P:=v0.1,f_E:=v0.2.2 } : Z0m),v0.2.1))
theorem w64 {x0 : Z0m} {x1 : List UInt8} {r : Z0m × Int} (h : Z8u x0 x1 = some r) : Z3y Tryz.prog 64 [.lptr 0 0 0,.str x1] [{ sz:=2,rows:=[Z3i x0],frz:=0,pure:=false,pin:=some 0 }] (R64 r) (B64 r):= csO Tryz.f64 (m:=1) (keep:=[true]) <| go [] [] <| br h (fun h0 h=>go [] [] <| rtO h (dI 0) [{ sz:=2,rows:=[Z3i x0],frz:=0,pure:=false,pin:=some 0 }] (a2 trivial trivial) rfl) fun h0 h=> bd h fun v0 e0 h=>go [] [rg 3 [(5,k (w85 e0))]] <| rtO h (dI v0.2.1) [{ sz:=2,rows:=[[.sl false (v0.1.map Z0b),dI v0.2.2]],frz:=0,pure:=false,pin:=some 0 }] (a2 trivial trivial) rfl
def B65 (y0 : Z0m × Int) : List Blk:=[{ sz:=2,rows:=[Z3i y0.1],frz:=0,pure:=false,pin:=some 0 }]
def R65 (y0 : Z0m × Int) : D:= .int .i64 y0.2
def Z5m (x0 : Z0m) (x1 : List UInt8) : Option (Z0m × Int):= if (x0.f_E != 0) = true then (some (x0,0)) else ((Z8e x0.f_P x1).bind fun v0=> some (({ f_P:=v0.1,f_E:=v0.2.2 } : Z0m),v0.2.1))
theorem w65 {x0 : Z0m} {x1 : List UInt8} {r : Z0m × Int} (h : Z5m x0 x1 = some r) : Z3y Tryz.prog 65 [.lptr 0 0 0,.str x1] [{ sz:=2,rows:=[Z3i x0],frz:=0,pure:=false,pin:=some 0 }] (R65 r) (B65 r):= csO Tryz.f65 (m:=1) (keep:=[true]) <| go [] [] <| br h (fun h0 h=>go [] [] <| rtO h (dI 0) [{ sz:=2,rows:=[Z3i x0],frz:=0,pure:=false,pin:=some 0 }] (a2 trivial trivial) rfl) fun h0 h=> bd h fun v0 e0 h=>go [] [rg 3 [(5,k (w86 e0))]] <| rtO h (dI v0.2.1) [{ sz:=2,rows:=[[.sl false (v0.1.map Z0b),dI v0.2.2]],frz:=0,pure:=false,pin:=some 0 }] (a2 trivial trivial) rfl
def R87 (y0 : (List Z00) × Int × Int) : D:= .tup [.sl false (y0.1.map Z0b),.int .i64 y0.2.1,.int .i64 y0.2.2]
def Zcu (x0 : List Z00) (x1 : List UInt8) : Option ((List Z00) × Int × Int):= (Zei x0 8 x1).bind fun v0=> some (v0.1,v0.2.1,v0.2.2)
theorem w87 {x0 : List Z00} {x1 : List UInt8} {r : (List Z00) × Int × Int} (h : Zcu x0 x1 = some r) : Z0c Tryz.prog 87 [.sl false (x0.map Z0b),.str x1] (R87 r):= cs Tryz.f87 <| bd h fun v0 e0 h=>go [] [rg 1 [(2,k (w116 e0))]] <| rt h
def B67 (y0 : Z0m × Int) : List Blk:=[{ sz:=2,rows:=[Z3i y0.1],frz:=0,pure:=false,pin:=some 0 }]
def R67 (y0 : Z0m × Int) : D:= .int .i64 y0.2
def Zl0 (p0 : List Z00) (p1 p2 : Int) : Option (Z0m × Int):= some (({ f_P:=p0,f_E:=p2 } : Z0m),p1)
def Zhf (x0 : Z0m) (x1 : Z3n) : Option (Z0m × Int):= if (x0.f_E != 0) = true then (some (x0,0)) else (if (x1.Z5c == 8) = true then ((Zcu x0.f_P x1.f_S).bind fun v0=> Zl0 v0.1 v0.2.1 v0.2.2) else ((Z7z x0.f_P ({ Z1v:=x1.Z5c,f_S:=[],f_N:=x1.f_N,f_A:=0,f_B:=0 } : Z00)).bind fun v1=> Zl0 v1.1 v1.2.1 v1.2.2))
theorem Zt9 (x0 : Z0m) {p0 : List Z00} {p1 p2 : Int} {r : Z0m × Int} {Γ : Ctx} (h : Zl0 p0 p1 p2 = some r) : Jn Tryz.prog Tryz.f67 Γ (Zbt Tryz.prog Tryz.f67 1 [true] (R67 r) (B67 r)) 47 ⟨54,[(0,.lptr 0 0 0),(5,.sl false (p0.map Z0b)),(6,dI p1),(7,dI p2)],[(0,{ sz:=2,rows:=[Z3i x0],frz:=0,pure:=false,pin:=some 0 })]⟩:= so <| go [] [] <| rtO h (dI p1) [{ sz:=2,rows:=[[.sl false (p0.map Z0b),dI p2]],frz:=0,pure:=false,pin:=some 0 }] (a2 trivial trivial) rfl
theorem w67 {x0 : Z0m} {x1 : Z3n} {r : Z0m × Int} (h : Zhf x0 x1 = some r) : Z3y Tryz.prog 67 [.lptr 0 0 0,.agg (Z7k x1)] [{ sz:=2,rows:=[Z3i x0],frz:=0,pure:=false,pin:=some 0 }] (R67 r) (B67 r):= csO Tryz.f67 (m:=1) (keep:=[true]) <| go [] [rg 0 [(0,bo)]] <| br h (fun h0 h=>go [] [] <| rtO h (dI 0) [{ sz:=2,rows:=[Z3i x0],frz:=0,pure:=false,pin:=some 0 }] (a2 trivial trivial) rfl) fun h0 h=> go [] [] <| br h (fun h1 h=>bd h fun v0 e0 h=>go [7] [rgo 5 [(6,k (w87 e0))] [0,1,2,3,4,5,6,7,8,9,10,11,12,13] [] [(1,[0]),(2,[0,1]),(3,[0,1,2]),(5,[4]),(6,[0,1,2,3,4,5]),(7,[0,1,2,3,4,5,6]),(8,[0,1,2,3,4,5,6,7]),(9,[0,1,2,3,4,5,6,7]),(10,[0,1,2,3,4,5,6,7]),(11,[0,1,2,3,4,5,6,7,8]),(12,[0,1,2,3,4,5,6,7,8,9,11]),(13,[0,1,2,3,4,5,6,7,8,9,10,11,12])]] <| jn ((Zt9 x0) h)) fun h1 h=> bd h fun v1 e1 h=>go [7] [rgo 6 [(9,k (w88 e1))] [0,1,2,3,4,5,6,7,8,9,10,11,12,13,14,15,16] [] [(1,[0]),(2,[0,1]),(3,[0,1,2]),(5,[4]),(7,[6]),(8,[4,5,6,7]),(9,[0,1,2,3,4,5,6,7,8]),(10,[0,1,2,3,4,5,6,7,8,9]),(11,[0,1,2,3,4,5,6,7,8,9,10]),(12,[0,1,2,3,4,5,6,7,8,9,10]),(13,[0,1,2,3,4,5,6,7,8,9,10]),(14,[0,1,2,3,4,5,6,7,8,9,10,11]),(15,[0,1,2,3,4,5,6,7,8,9,10,11,12,14]),(16,[0,1,2,3,4,5,6,7,8,9,10,11,12,13,14,15])]] <| jn ((Zt9 x0) h)
def R98 (y0 : Bool) : D:= .bool y0
def Zgi (x0 : Int) : Option (Bool):= if (x0 == 1) = true then (some true) else (if (x0 == 2) = true then (some true) else (if (x0 == 4) = true then (some true) else (some (x0 == 8))))
theorem w98 {x0 : Int} {r : Bool} (h : Zgi x0 = some r) : Z0c Tryz.prog 98 [dI x0] (R98 r):= cs Tryz.f98 <| go [1] [] <| po <| pr 3 [] <| sp h (fun h0 h=>pr 12 [(3,gs0 h0),(4,gs0 h0),(5,py h0)] <| pe <| goN [] [] <| rt h) fun h0 h=> pr 4 [(3,gw h0 g0),(4,gw h0 g0),(5,pn h0)] <| sp h (fun h1 h=>pr 8 [(7,gs0 h1),(8,gs0 h1),(9,py h1)] <| pe <| goN [] [] <| rt h) fun h1 h=> pr 4 [(7,gw h1 g0),(8,gw h1 g0),(9,pn h1)] <| sp h (fun h2 h=>pr 4 [(11,gs0 h2),(12,gs0 h2),(13,py h2)] <| pe <| goN [] [] <| rt h) fun h2 h=> pr 4 [(11,gw h2 g0),(12,gw h2 g0),(13,pn h2)] <| pe <| goN [] [] <| rt h
def R72 (y0 : (List UInt8) × Int) : D:= .tup [.str y0.1,.int .i64 y0.2]
def Zhr (t0 : Int × Int × (List Int)) : Option (Ctl (Int × Int × (List Int)) (((List Int)))):= if (decide (t0.2.1 ≥ 0)) = true then ((some (Z34 .i64 t0.1 (255 : Int))).bind fun v16=> (some (IntKind.wrap .u8 v16)).bind fun v17=> (Z3m t0.2.1 t0.2.2.length).bind fun v18=> (t0.2.2[v18]?).bind fun v19=> (shrK .i64 t0.1 (8 : Int)).bind fun v20=> (some (IntKind.wrap .i64 (t0.2.1 - (1 : Int)))).bind fun v21=> some (.next (v20,v21,(t0.2.2.set v18 v17)))) else (some (.done (t0.2.2)))
def Zem (x0 x1 : Int) : Option ((List UInt8) × Int):= (Z8w 1 x1 x1).bind fun v8=> (some (IntKind.wrap .i64 (x1 - (1 : Int)))).bind fun v9=> (Z09 Zhr Z0a (x0,v9,(List.replicate x1.toNat 0))).bind fun q0=> some ((bytesOf q0),0)
def Z95 (x0 x1 : Int) : Option ((List UInt8) × Int):= (Zgi x1).bind fun v0=> if (!v0) = true then (some ([],1)) else (if (decide (x1 < 8)) = true then ((some (IntKind.wrap .i64 ((8 : Int) * x1))).bind fun v1=> (some (IntKind.wrap .i64 (v1 - (1 : Int)))).bind fun v2=> (Z6d .i64 (1 : Int) v2).bind fun v3=> (some (IntKind.wrap .i64 (0 - v3))).bind fun v4=> if (decide (x0 < v4)) = true then (some ([],8)) else ((some (IntKind.wrap .i64 ((8 : Int) * x1))).bind fun v5=> (Z6d .i64 (1 : Int) v5).bind fun v6=> (some (IntKind.wrap .i64 (v6 - (1 : Int)))).bind fun v7=> if (decide (x0 > v7)) = true then (some ([],8)) else ((Zem x0 x1)))) else ((Zem x0 x1)))
def Zve : (Int × Int × (List Int)) → SL:= fun t0=>⟨50,[(6,.lsl 6 0 ((t0.2.2.map rU8).length)),(7,dI t0.1),(8,dI t0.2.1)],[(6,{ sz:=1,rows:=(t0.2.2.map rU8),frz:=0,pure:=true })]⟩
def J72x1 : JT (((List Int))):= je 0 fun q0 : (List Int)=>⟨50,[(6,.lsl 6 0 ((q0.map rU8).length))],[(6,{ sz:=1,rows:=(q0.map rU8),frz:=0,pure:=true })]⟩
theorem wl72x1 {t0 : Int × Int × (List Int)} {r : Ctl (Int × Int × (List Int)) (((List Int)))} {Γ : Ctx} (h : Zhr t0 = some r) : A Tryz.prog Γ (lpC Tryz.f72 351) [] (Rd Zve J72x1 r) (Zve t0).s:= go [] [] <| br h (fun h5 h=>bd h fun v16 e16 h=>bd h fun v17 e17 h=>bd h fun v18 e18 h=>bd h fun v19 e19 h=>go [11] [rg 10 [(3,n e16),(4,n8 e17),(5,ia (R:=RU8) 6 e18),(6,st (R:=RU8) e19 0 [d8 v17] v17)]] <| nm (congrArg (fun nn : Nat=>(⟨50,[(6,.lsl 6 0 nn),(7,dI t0.1),(8,dI t0.2.1)],[(6,{ sz:=1,rows:=((t0.2.2.set v18 v17).map rU8),frz:=0,pure:=true })]⟩ : SL)) (by simp only [List.length_map,List.length_set] : (t0.2.2.map rU8).length = ((t0.2.2.set v18 v17).map rU8).length)) <| so <| bd h fun v20 e20 h=>bd h fun v21 e21 h=>go [] [rg 11 [(1,sr e20)],rg 9 [(1,n e21)]] <| nx h) fun h5 h=> go [] [] <| dn h (iE)
theorem Zv8 {x0 x1 : Int} {r : (List UInt8) × Int} {Γ : Ctx} (h : (Zem x0 x1) = some r) : Jn Tryz.prog Tryz.f72 Γ (Den.Ends Tryz.prog Tryz.f72 (R72 r)) 23 ⟨50,[(0,dI x0),(1,dI x1)],[]⟩:= so <| bd h fun v8 e8 h=>bd h fun v9 e9 h=>go [] [rg 5 [(1,mk (R:=RU8) (0 : Int) e8)],rg 7 [(1,n e9)]] <| bd h fun q0 e22 h=>lp (ps:=[(32,6)]) e22 wl72x1 <| qe <| goN [] [rg 12 [(1,bsB q0)]] <| rt h
theorem w72 {x0 x1 : Int} {r : (List UInt8) × Int} (h : Z95 x0 x1 = some r) : Z0c Tryz.prog 72 [dI x0,dI x1] (R72 r):= cs Tryz.f72 <| bd h fun v0 e0 h=>go [] [rg 1 [(1,k (w98 e0))]] <| br h (fun h0 h=>go [] [] <| rt h) fun h0 h=> go [3] [] <| po <| pr 3 [] <| sp h (fun h1 h=>bd h fun v1 e1 h=>bd h fun v2 e2 h=>bd h fun v3 e3 h=>bd h fun v4 e4 h=>pr 8 [(3,gw h1 g0),(4,gw h1 g0),(5,gw h1 (n e1)),(6,gw h1 (n e2)),(7,gw h1 (sl e3)),(8,gw h1 (n e4)),(9,gw h1 g0),(10,gw h1 g0)] <| sp h (fun h2 h=>pr 8 [(11,gs0 h2),(12,gs0 h2),(13,gs0 h2),(14,gs0 h2),(15,gs0 h2),(16,gs0 h2),(17,gw h1 (py h2)),(18,py h1)] <| pe <| goN [] [] <| bT rfl <| go [] [] <| rt h) fun h2 h=> bd h fun v5 e5 h=>bd h fun v6 e6 h=>bd h fun v7 e7 h=>pr 8 [(11,gw h2 g0),(12,gw h2 g0),(13,gw h2 (n e5)),(14,gw h2 (sl e6)),(15,gw h2 (n e7)),(16,gw h2 g0),(17,gw h1 (pn h2)),(18,py h1)] <| pe <| goN [] [] <| br h (fun h3 h=>go [] [] <| rt h) fun h3 h=> go [5] [] <| jn (Zv8 h)) fun h1 h=> pr 16 [(3,gs1 h1),(4,gs1 h1),(5,gs1 h1),(6,gs1 h1),(7,gs1 h1),(8,gs1 h1),(9,gs1 h1),(10,gs1 h1),(17,gs1 h1),(18,pn h1)] <| pe <| goN [] [] <| bF rfl <| go [5] [] <| jn (Zv8 h)
def R66 (y0 : (List UInt8)) : D:= .str y0
def Zfj (x0 : Int) : Option ((List UInt8)):= (Z95 x0 2).bind fun v0=> some v0.1
theorem w66 {x0 : Int} {r : (List UInt8)} (h : Zfj x0 = some r) : Z0c Tryz.prog 66 [dI x0] (R66 r):= cs Tryz.f66 <| bd h fun v0 e0 h=>go [] [rg 1 [(1,k (w72 e0))]] <| rt h
def R149 (y0 : Bool) : D:= .bool y0
def Z9y (x0 : Int) : Option (Bool):= if (decide (x0 ≥ 0)) = true then (some (decide (x0 < 81))) else (some false)
theorem w149 {x0 : Int} {r : Bool} (h : Z9y x0 = some r) : Z0c Tryz.prog 149 [dI x0] (R149 r):= cs Tryz.f149 <| sp h (fun h0 h=>go [] [rg 1 [(1,kb h0)]] <| rt h) fun h0 h=> go [] [rg 1 [(1,kb h0)]] <| rt h
def R122 (y0 : Bool) : D:= .bool y0
def Z6h (x0 x1 x2 : Int) : Option (Bool):= if (decide (x0 ≥ x1)) = true then (some (decide (x0 ≤ x2))) else (some false)
theorem w122 {x0 x1 x2 : Int} {r : Bool} (h : Z6h x0 x1 x2 = some r) : Z0c Tryz.prog 122 [dI x0,dI x1,dI x2] (R122 r):= cs Tryz.f122 <| sp h (fun h0 h=>go [] [rg 1 [(2,kb h0)]] <| rt h) fun h0 h=> go [] [rg 1 [(2,kb h0)]] <| rt h
def R120 (y0 : Int) : D:= .int .i64 y0
def Zh0 (x0 : Int) : Option (Int):= (Z6h x0 36 52).bind fun v2=> if v2 = true then (some 3) else ((Z6h x0 4 9).bind fun v3=> if v3 = true then (some 4) else (if (x0 == 10) = true then (some 5) else (if (x0 == 53) = true then (some 6) else (if (x0 == 54) = true then (some 7) else (some 0)))))
def Zhc (x0 : Int) : Option (Int):= if (x0 == 77) = true then (some 2) else ((Zh0 x0))
def Z69 (x0 : Int) : Option (Int):= (Z9y x0).bind fun v0=> if (!v0) = true then (some (-1)) else (if (x0 == 2) = true then (some 1) else (if (x0 == 3) = true then (some 2) else ((Z6h x0 59 68).bind fun v1=> if v1 = true then (some 2) else (if (x0 == 76) = true then (some 2) else ((Zhc x0))))))
theorem wj120x2 {x0 : Int} {r : Int} {Γ : Ctx} (h : (Zh0 x0) = some r) : Jn Tryz.prog Tryz.f120 Γ (Den.Ends Tryz.prog Tryz.f120 (R120 r)) 1529 ⟨34,[(0,dI x0)],[]⟩:= so <| bd h fun v2 e2 h=>go [] [rg 10 [(1,k (w122 e2))]] <| br h (fun h6 h=>go [] [] <| rt h) fun h6 h=> bd h fun v3 e3 h=>go [] [rg 12 [(1,k (w122 e3))]] <| br h (fun h7 h=>go [] [] <| rt h) fun h7 h=> go [] [] <| br h (fun h8 h=>go [] [] <| rt h) fun h8 h=> go [] [] <| br h (fun h9 h=>go [] [] <| rt h) fun h9 h=> go [] [] <| br h (fun h10 h=>go [] [] <| rt h) fun h10 h=> go [] [] <| rt h
theorem wj120x1 {x0 : Int} {r : Int} {Γ : Ctx} (h : (Zhc x0) = some r) : Jn Tryz.prog Tryz.f120 Γ (Den.Ends Tryz.prog Tryz.f120 (R120 r)) 505 ⟨34,[(0,dI x0),(10,.bool (x0 == 77))],[]⟩ (x0 == 77):= br h (fun h5 h=>go [] [] <| rt h) fun h5 h=> go [10] [] <| jn (wj120x2 h)
theorem w120 {x0 : Int} {r : Int} (h : Z69 x0 = some r) : Z0c Tryz.prog 120 [dI x0] (R120 r):= cs Tryz.f120 <| bd h fun v0 e0 h=>go [] [rg 1 [(1,k (w149 e0))]] <| br h (fun h0 h=>go [] [] <| rt h) fun h0 h=> go [] [] <| br h (fun h1 h=>go [] [] <| rt h) fun h1 h=> go [] [] <| br h (fun h2 h=>go [] [] <| bT h2 <| go [] [] <| rt h) fun h2 h=> bd h fun v1 e1 h=>go [] [rg 6 [(1,k (w122 e1))]] <| br h (fun h3 h=>go [] [] <| bT h3 <| go [] [] <| rt h) fun h3 h=> go [] [] <| br h (fun h4 h=>go [] [] <| bT h4 <| go [] [] <| rt h) fun h4 h=> go [] [] <| jn (wj120x1 h)
end Go.Proofs
