/-
  Models of functions of the program, and that the functions compute them. Printed by den3.py. No condition.
-/
import Derived.Test.YtldpbffppaednaaGreatRows
import Derived.Test.YtldpbffppaednaaGreatDenGo
import Derived.Test.YtldpbffppaednaaGreatDenClaim
set_option linter.unusedVariables false
namespace Go.Proofs
open Go.Den Go.Den.W
structure Z1v where
  a0 : Int
  a1 : Int
def Z2d (x : Z1v) : List D:=[.int .i64 x.a0,.int .i64 x.a1]
instance : Row Z1v:=⟨Z2d,2,fun _=>rfl⟩
structure Z14 where
  Z8q : Int
  Z29 : List UInt8
def Z1u (x : Z14) : List D:=[.int .i64 x.Z8q,.str x.Z29]
instance : Row Z14:=⟨Z1u,2,fun _=>rfl⟩
structure Z13 where
  Z0h : Int
  Z02 : List UInt8
  Z1l : List UInt8
  Z5v : Int
  f_N : Int
  f_S : List UInt8
def Z7n (x : Z13) : List D:=[.int .i64 x.Z0h,.str x.Z02,.str x.Z1l,.int .i64 x.Z5v,.int .i64 x.f_N,.str x.f_S]
instance : Row Z13:=⟨Z7n,6,fun _=>rfl⟩
structure Z27 where
  Z1f : List UInt8
  Z02 : List UInt8
  Z1l : List UInt8
def Zfn (x : Z27) : List D:=[.str x.Z1f,.str x.Z02,.str x.Z1l]
instance : Row Z27:=⟨Zfn,3,fun _=>rfl⟩
structure Z01 where
  f_Op : Int
  f_A : Int
  f_B : Int
  f_To : Int
  Z0y : List Int
  Z0a : List Int
  Z16 : Z27
  f_S : List UInt8
def Z0l (x : Z01) : List D:=[.int .i64 x.f_Op,.int .i64 x.f_A,.int .i64 x.f_B,.int .i64 x.f_To,.sl false (x.Z0y.map Z03),.sl false (x.Z0a.map Z03),.str x.Z16.Z1f,.str x.Z16.Z02,.str x.Z16.Z1l,.str x.f_S]
instance : Row Z01:=⟨Z0l,10,fun _=>rfl⟩
structure Z0k where
  Z3x : Int
  f_To : Int
  Z43 : Int
  Z1f : Int
  Z1o : List UInt8
def Z15 (x : Z0k) : List D:=[.int .i64 x.Z3x,.int .i64 x.f_To,.int .i64 x.Z43,.int .i64 x.Z1f,.str x.Z1o]
instance : Row Z0k:=⟨Z15,5,fun _=>rfl⟩
structure Z0r where
  Z1y : Int
  Z1q : Int
  Z02 : List UInt8
def Z2y (x : Z0r) : List D:=[.int .i64 x.Z1y,.int .u8 x.Z1q,.str x.Z02]
instance : Row Z0r:=⟨Z2y,3,fun _=>rfl⟩
structure Z0f where
  Z2g : Int
  Z2x : Int
  Z1o : Z0r
  Z34 : Int
def Z1s (x : Z0f) : List D:=[.int .i64 x.Z2g,.int .i64 x.Z2x,.int .i64 x.Z1o.Z1y,.int .u8 x.Z1o.Z1q,.str x.Z1o.Z02,.int .i64 x.Z34]
instance : Row Z0f:=⟨Z1s,6,fun _=>rfl⟩
structure Z54 where
  Z0v : List Z0f
  Z10 : List Z0f
  Z48 : Bool
def Zvl (x : Z54) : List D:=[.sl false (x.Z0v.map Z1s),.sl false (x.Z10.map Z1s),.bool x.Z48]
instance : Row Z54:=⟨Zvl,3,fun _=>rfl⟩
structure Z0o where
  Z2i : Int
  Z1p : Z54
def Z1a (x : Z0o) : List D:=[.int .i64 x.Z2i,.sl false (x.Z1p.Z0v.map Z1s),.sl false (x.Z1p.Z10.map Z1s),.bool x.Z1p.Z48]
instance : Row Z0o:=⟨Z1a,4,fun _=>rfl⟩
structure Z11 where
  Z2i : Int
  Z50 : Int
def Z1k (x : Z11) : List D:=[.int .i64 x.Z2i,.int .i64 x.Z50]
instance : Row Z11:=⟨Z1k,2,fun _=>rfl⟩
structure Z08 where
  Z10 : Int
  Z0v : Int
  Z0q : List Z01
  Z1n : List Z0k
  Z18 : List Z0o
  Z1h : List Z11
def Z17 (x : Z08) : List D:=[.int .i64 x.Z10,.int .i64 x.Z0v,.sl false (x.Z0q.map Z0l),.sl false (x.Z1n.map Z15),.sl false (x.Z18.map Z1a),.sl false (x.Z1h.map Z1k)]
instance : Row Z08:=⟨Z17,6,fun _=>rfl⟩
structure Z0x where
  Z0h : Int
  Z02 : List UInt8
  Z1l : List UInt8
  Z9e : Bool
  Z2m : Z08
  Z6b : List (List UInt8)
def Z6h (x : Z0x) : List D:=[.int .i64 x.Z0h,.str x.Z02,.str x.Z1l,.bool x.Z9e,.int .i64 x.Z2m.Z10,.int .i64 x.Z2m.Z0v,.sl false (x.Z2m.Z0q.map Z0l),.sl false (x.Z2m.Z1n.map Z15),.sl false (x.Z2m.Z18.map Z1a),.sl false (x.Z2m.Z1h.map Z1k),.sl false (x.Z6b.map Z3o)]
instance : Row Z0x:=⟨Z6h,11,fun _=>rfl⟩
structure Z0j where
  Z0h : Int
  Z02 : List UInt8
  Z07 : List UInt8
  Z06 : List (List UInt8)
  Z0n : List Z13
  Z0m : List Z0x
  Z19 : List UInt8
def Z2n (x : Z0j) : List D:=[.int .i64 x.Z0h,.str x.Z02,.str x.Z07,.sl false (x.Z06.map Z3o),.sl false (x.Z0n.map Z7n),.sl false (x.Z0m.map Z6h),.str x.Z19]
instance : Row Z0j:=⟨Z2n,7,fun _=>rfl⟩
structure Z0z where
  Z0u : Int
  Z0s : Z0j
  Z07 : Int
  Z06 : List Int
  Z1c : Int
  Z1d : Int
def Z44 (x : Z0z) : List D:=[.int .i64 x.Z0u,.int .i64 x.Z0s.Z0h,.str x.Z0s.Z02,.str x.Z0s.Z07,.sl false (x.Z0s.Z06.map Z3o),.sl false (x.Z0s.Z0n.map Z7n),.sl false (x.Z0s.Z0m.map Z6h),.str x.Z0s.Z19,.int .i64 x.Z07,.sl false (x.Z06.map Z03),.int .i64 x.Z1c,.int .i64 x.Z1d]
instance : Row Z0z:=⟨Z44,12,fun _=>rfl⟩
structure Z4d where
  Zjo : List UInt8
  f_To : Int
def Zbr (x : Z4d) : List D:=[.str x.Zjo,.int .i64 x.f_To]
instance : Row Z4d:=⟨Zbr,2,fun _=>rfl⟩
structure Z4n where
  Z02 : List UInt8
  Z29 : List UInt8
def Zbm (x : Z4n) : List D:=[.str x.Z02,.str x.Z29]
instance : Row Z4n:=⟨Zbm,2,fun _=>rfl⟩
structure Z1m where
  Z3h : List Z4d
  Z2z : List Z4n
def Z2w (x : Z1m) : List D:=[.sl false (x.Z3h.map Zbr),.sl false (x.Z2z.map Zbm)]
instance : Row Z1m:=⟨Z2w,2,fun _=>rfl⟩
structure Z2k where
  Z0u : Int
  Z02 : List UInt8
  Z1f : Int
def Z58 (x : Z2k) : List D:=[.int .i64 x.Z0u,.str x.Z02,.int .i64 x.Z1f]
instance : Row Z2k:=⟨Z58,3,fun _=>rfl⟩
structure Z46 where
  Z02 : List UInt8
  f_A : Int
  f_B : Int
def Z5p (x : Z46) : List D:=[.str x.Z02,.int .i64 x.f_A,.int .i64 x.f_B]
instance : Row Z46:=⟨Z5p,3,fun _=>rfl⟩
structure Z0c where
  Z23 : List Z1m
  Z1i : List Z0z
  Z2p : List Z2k
  Z3p : List Z46
def Z1x (x : Z0c) : List D:=[.sl false (x.Z23.map Z2w),.sl false (x.Z1i.map Z44),.sl false (x.Z2p.map Z58),.sl false (x.Z3p.map Z5p)]
instance : Row Z0c:=⟨Z1x,4,fun _=>rfl⟩
structure Z00 where
  Z1w : Int
  f_S : List UInt8
  f_N : Int
  f_A : Int
  f_B : Int
def Z09 (x : Z00) : List D:=[.int .i64 x.Z1w,.str x.f_S,.int .i64 x.f_N,.int .i64 x.f_A,.int .i64 x.f_B]
instance : Row Z00:=⟨Z09,5,fun _=>rfl⟩
structure Z0b where
  Z0h : Int
  Z02 : Int
  Z1l : Int
  Z1g : List Z14
def Z0t (x : Z0b) : List D:=[.int .i64 x.Z0h,.int .i64 x.Z02,.int .i64 x.Z1l,.sl false (x.Z1g.map Z1u)]
instance : Row Z0b:=⟨Z0t,4,fun _=>rfl⟩
structure Z0w where
  Z20 : List Z00
  Z0h : Int
  Z2s : Int
  Z07 : Int
  Z06 : List Int
  Z0n : List Z0b
  Z0m : List Z0b
  Z1g : List Z14
def Z2b (x : Z0w) : List D:=[.sl false (x.Z20.map Z09),.int .i64 x.Z0h,.int .i64 x.Z2s,.int .i64 x.Z07,.sl false (x.Z06.map Z03),.sl false (x.Z0n.map Z0t),.sl false (x.Z0m.map Z0t),.sl false (x.Z1g.map Z1u)]
instance : Row Z0w:=⟨Z2b,8,fun _=>rfl⟩
structure Z28 where
  Z32 : List Z0r
  Z3g : Z0r
def Zbq (x : Z28) : List D:=[.sl false (x.Z32.map Z2y),.int .i64 x.Z3g.Z1y,.int .u8 x.Z3g.Z1q,.str x.Z3g.Z02]
instance : Row Z28:=⟨Zbq,4,fun _=>rfl⟩
structure Z12 where
  f_S : List UInt8
  f_At : Int
  Z2e : Bool
def Z8c (x : Z12) : List D:=[.str x.f_S,.int .i64 x.f_At,.bool x.Z2e]
instance : Row Z12:=⟨Z8c,3,fun _=>rfl⟩
structure Z2v where
  f_C : Z08
  Z29 : List UInt8
  Zea : List Int
def Z6g (x : Z2v) : List D:=[.int .i64 x.f_C.Z10,.int .i64 x.f_C.Z0v,.sl false (x.f_C.Z0q.map Z0l),.sl false (x.f_C.Z1n.map Z15),.sl false (x.f_C.Z18.map Z1a),.sl false (x.f_C.Z1h.map Z1k),.str x.Z29,.sl false (x.Zea.map Z03)]
instance : Row Z2v:=⟨Z6g,8,fun _=>rfl⟩
structure Z25 where
  f_F : Z0w
  Z6z : List Z08
  Z7r : List (List Int)
  Z60 : List Z1v
def Z72 (x : Z25) : List D:=[.sl false (x.f_F.Z20.map Z09),.int .i64 x.f_F.Z0h,.int .i64 x.f_F.Z2s,.int .i64 x.f_F.Z07,.sl false (x.f_F.Z06.map Z03),.sl false (x.f_F.Z0n.map Z0t),.sl false (x.f_F.Z0m.map Z0t),.sl false (x.f_F.Z1g.map Z1u),.sl false (x.Z6z.map Z17),.sl false (x.Z7r.map (rSl Z03)),.sl false (x.Z60.map Z2d)]
instance : Row Z25:=⟨Z72,11,fun _=>rfl⟩
structure Z0p where
  f_P : List Z00
  f_E : Int
def Z3f (x : Z0p) : List D:=[.sl false (x.f_P.map Z09),.int .i64 x.f_E]
instance : Row Z0p:=⟨Z3f,2,fun _=>rfl⟩
def Zub (x y : Z0r) : Bool:=((x.Z1y == y.Z1y) && ((x.Z1q == y.Z1q) && ((x.Z02 == y.Z02) && true)))
def eqq_132 : Prop := Tryz.prog.stoodInHeld 132 = false ∧ ("Dim" ≠ "_" ∧ True ∧ ("Base" ≠ "_" ∧ True ∧ ("Name" ≠ "_" ∧ True ∧ True)))
theorem eqp_132 : eqq_132:=⟨by kernel_rfl,⟨by decide,trivial,⟨by decide,trivial,⟨by decide,trivial,trivial⟩⟩⟩⟩
theorem eqg_132 : Tryz.prog.eqGuardType Tryz.prog.depth 132 = false:=by kernel_rfl
def Zti (x y : Z00) : Bool:=((x.Z1w == y.Z1w) && ((x.f_S == y.f_S) && ((x.f_N == y.f_N) && ((x.f_A == y.f_A) && ((x.f_B == y.f_B) && true)))))
def eqq_139 : Prop := Tryz.prog.stoodInHeld 139 = false ∧ ("Tag" ≠ "_" ∧ True ∧ ("S" ≠ "_" ∧ True ∧ ("N" ≠ "_" ∧ True ∧ ("A" ≠ "_" ∧ True ∧ ("B" ≠ "_" ∧ True ∧ True)))))
theorem eqp_139 : eqq_139:=⟨by kernel_rfl,⟨by decide,trivial,⟨by decide,trivial,⟨by decide,trivial,⟨by decide,trivial,⟨by decide,trivial,trivial⟩⟩⟩⟩⟩⟩
theorem eqg_139 : Tryz.prog.eqGuardType Tryz.prog.depth 139 = false:=by kernel_rfl
def Zmn (x y : Z27) : Bool:=((x.Z1f == y.Z1f) && ((x.Z02 == y.Z02) && ((x.Z1l == y.Z1l) && true)))
def eqq_144 : Prop := Tryz.prog.stoodInHeld 144 = false ∧ ("Class" ≠ "_" ∧ True ∧ ("Name" ≠ "_" ∧ True ∧ ("Desc" ≠ "_" ∧ True ∧ True)))
theorem Ztf : eqq_144:=⟨by kernel_rfl,⟨by decide,trivial,⟨by decide,trivial,⟨by decide,trivial,trivial⟩⟩⟩⟩
theorem Zqj : Tryz.prog.eqGuardType Tryz.prog.depth 144 = false:=by kernel_rfl
def R8 (y0 : Bool) : D:= .bool y0
def Ze3 (x0 : Z0c) : Option (Bool):=
  some (decide ((x0.Z1i.length : Int) ≤ 40))
theorem w8 {x0 : Z0c} {r : Bool} (h : Ze3 x0 = some r) : Z0e Tryz.prog 8 [.agg (Z1x x0)] (R8 r):=
  cs Tryz.f8 <| go [] [rg 0 [(0,bo)],rg 1 [(2,ln x0.Z1i)]] <| rt h
def R43 (y0 : Bool) : D:= .bool y0
def Zia (x0 : Int) : Option (Bool):=
  if (decide (x0 ≥ 97)) = true then (if (decide (x0 ≤ 122)) = true then (some true) else
    (if (decide (x0 ≥ 65)) = true then (if (decide (x0 ≤ 90)) = true then (some true) else
        (if (x0 == 95) = true then (some true) else
          (some (x0 == 36)))) else
      (if (x0 == 95) = true then (some true) else
        (some (x0 == 36))))) else
  (if (decide (x0 ≥ 65)) = true then (if (decide (x0 ≤ 90)) = true then (some true) else
      (if (x0 == 95) = true then (some true) else
        (some (x0 == 36)))) else
    (if (x0 == 95) = true then (some true) else
      (some (x0 == 36))))
theorem w43 {x0 : Int} {r : Bool} (h : Zia x0 = some r) : Z0e Tryz.prog 43 [d8 x0] (R43 r):=
  cs Tryz.f43 <| go [1] [] <| po <| pr 3 [] <| sp h (fun h0 h=>pr 4 [(3,gw h0 g0),(4,gw h0 g0),(5,py h0)] <| sp h (fun h1 h=>pr 16 [(7,gs0 h1),(8,gs0 h1),(9,gs0 h1),(12,gs0 h1),(13,py h1)] <| pe <| goN [] [] <| rt h) fun h1 h=>
    pr 3 [(7,gw h1 g0),(8,gw h1 g0),(9,gw h1 g0)] <| sp h (fun h2 h=>pr 5 [(10,gw h2 g0),(11,gw h2 g0),(12,gw h1 (py h2)),(13,pn h1)] <| sp h (fun h3 h=>pr 8 [(15,gs0 h3),(16,gs0 h3),(17,py h3)] <| pe <| goN [] [] <| rt h) fun h3 h=>
        pr 4 [(15,gw h3 g0),(16,gw h3 g0),(17,pn h3)] <| sp h (fun h4 h=>pr 4 [(19,gs0 h4),(20,gs0 h4),(21,py h4)] <| pe <| goN [] [] <| rt h) fun h4 h=>
          pr 4 [(19,gw h4 g0),(20,gw h4 g0),(21,pn h4)] <| pe <| goN [] [] <| rt h) fun h2 h=>
      pr 9 [(10,gs1 h2),(11,gs1 h2),(12,gw h1 (pn h2)),(13,pn h1)] <| sp h (fun h5 h=>pr 4 [(19,gs0 h5),(20,gs0 h5),(21,py h5)] <| pe <| goN [] [] <| rt h) fun h5 h=>
        pr 4 [(19,gw h5 g0),(20,gw h5 g0),(21,pn h5)] <| pe <| goN [] [] <| rt h) fun h0 h=>
  pr 7 [(3,gs1 h0),(4,gs1 h0),(5,pn h0)] <| sp h (fun h6 h=>pr 5 [(10,gw h6 g0),(11,gw h6 g0),(12,py h6)] <| sp h (fun h7 h=>pr 8 [(15,gs0 h7),(16,gs0 h7),(17,py h7)] <| pe <| goN [] [] <| rt h) fun h7 h=>
      pr 4 [(15,gw h7 g0),(16,gw h7 g0),(17,pn h7)] <| sp h (fun h8 h=>pr 4 [(19,gs0 h8),(20,gs0 h8),(21,py h8)] <| pe <| goN [] [] <| rt h) fun h8 h=>
        pr 4 [(19,gw h8 g0),(20,gw h8 g0),(21,pn h8)] <| pe <| goN [] [] <| rt h) fun h6 h=>
    pr 9 [(10,gs1 h6),(11,gs1 h6),(12,pn h6)] <| sp h (fun h9 h=>pr 4 [(19,gs0 h9),(20,gs0 h9),(21,py h9)] <| pe <| goN [] [] <| rt h) fun h9 h=>
      pr 4 [(19,gw h9 g0),(20,gw h9 g0),(21,pn h9)] <| pe <| goN [] [] <| rt h
def R34 (y0 : Bool) : D:= .bool y0
def Zh6 (x0 : List UInt8) (t0 : Int) : Option (Ctl (Int) (Unit ⊕ Bool)):=
  if (decide (t0 < (x0.length : Int))) = true then
    ((Z30 x0 t0).bind fun v2=>
    (Zia v2).bind fun v3=>
    if (!v3) = true then (if (t0 == 0) = true then (some (.done (.inr false))) else
      ((Z30 x0 t0).bind fun v4=>
        if (decide (v4 < 48)) = true then (some (.done (.inr false))) else
        ((Z30 x0 t0).bind fun v5=>
          if (decide (v5 > 57)) = true then
            (some (.done (.inr false))) else
          ((some (IntKind.wrap .i64 (t0 + (1 : Int)))).bind fun v6=>
            some (.next v6))))) else
    ((some (IntKind.wrap .i64 (t0 + (1 : Int)))).bind fun v7=>
      some (.next v7))) else
  (some (.done (.inl (()))))
def Z9z (x0 : List UInt8) : Option (Bool):=
  (Z0d (Zh6 x0) Z0i 0).bind fun q1=>
  match q1 with
  | .inl q0=>(some (decide ((x0.length : Int) > 0)))
  | .inr y0=>(some y0)
def Zud (x0 : List UInt8) : Int → SL:=
  fun t0=>⟨34,[(0,.str x0),(3,dI t0)],[]⟩
def J34x1 (x0 : List UInt8) : JT (Unit ⊕ Bool):=
  ju (je 0 fun q0 : Unit=>⟨34,[(0,.str x0)],[]⟩) (jr Tryz.prog Tryz.f34 R34)
theorem wl34x1 {x0 : List UInt8} {t0 : Int} {r : Ctl (Int) (Unit ⊕ Bool)} {Γ : Ctx} (h : (Zh6 x0) t0 = some r) : A Tryz.prog Γ (lpC Tryz.f34 21) [] (Rd (Zud x0) (J34x1 x0) r) ((Zud x0) t0).s:=
  go [] [] <| br h (fun h2 h=>go [4] [] <| po <| bd h fun v2 e2 h=>bd h fun v3 e3 h=>pr 6 [(2,ib e2),(3,k (w43 e3))] <| sp h (fun h3 h=>pr 3 [(6,gw h3 g0),(7,gw h3 g0),(8,gw h3 g0)] <| sp h (fun h4 h=>pr 12 [(9,gs0 h4),(10,gs0 h4),(11,gs0 h4),(12,gs0 h4),(13,gw h3 (py h4)),(14,gw h3 g0),(19,gw h3 g0),(20,py h3)] <| pe <| goN [] [] <| bT rfl <| go [] [] <| dn h (i2 iR)) fun h4 h=>
      bd h fun v4 e4 h=>pr 6 [(9,gw h4 g0),(10,gw h4 g0),(11,gw h4 (ib e4)),(12,gw h4 g0),(13,gw h3 (pn h4)),(14,gw h3 g0)] <| sp h (fun h5 h=>pr 6 [(15,gs0 h5),(16,gs0 h5),(17,gs0 h5),(18,gs0 h5),(19,gw h3 (py h5)),(20,py h3)] <| pe <| goN [] [] <| bT rfl <| go [] [] <| dn h (i2 iR)) fun h5 h=>
        bd h fun v5 e5 h=>pr 6 [(15,gw h5 g0),(16,gw h5 g0),(17,gw h5 (ib e5)),(18,gw h5 g0),(19,gw h3 (pn h5)),(20,py h3)] <| pe <| goN [] [] <| br h (fun h6 h=>go [] [] <| dn h (i2 iR)) fun h6 h=>
          bd h fun v6 e6 h=>go [] [rg 3 [(1,n e6)]] <| nx h) fun h3 h=>
    pr 15 [(6,gs1 h3),(7,gs1 h3),(8,gs1 h3),(13,gs1 h3),(14,gs1 h3),(19,gs1 h3),(20,pn h3)] <| pe <| goN [] [] <| bF rfl <| bd h fun v7 e7 h=>go [] [rg 3 [(1,n e7)]] <| nx h) fun h2 h=>
  go [] [] <| dn h (i1 iE)
theorem w34 {x0 : List UInt8} {r : Bool} (h : Z9z x0 = some r) : Z0e Tryz.prog 34 [.str x0] (R34 r):=
  cs Tryz.f34 <| go [] [] <| bd h fun q1 e8 h=>lp e8 wl34x1 <| match q1,h with
  | .inl q0,h=>j1 <| (qe <| goN [] [] <| rt h)
  | .inr y0,h=>j2 <| (qr h)
def R20 (y0 : Bool) : D:= .bool y0
def Zij (x0 : List UInt8) (t0 : Int × Int) : Option (Ctl (Int × Int) (Int ⊕ Bool)):=
  if (decide (t0.2 < (x0.length : Int))) = true then
    ((Z30 x0 t0.2).bind fun v3=>
    if (v3 == 47) = true then
      ((sub x0 t0.1 t0.2).bind fun v4=>
      (Z9z v4).bind fun v5=>
      if (!v5) = true then
        (some (.done (.inr false))) else
      ((some (IntKind.wrap .i64 (t0.2 + (1 : Int)))).bind fun v6=>
        (some (IntKind.wrap .i64 (t0.2 + (1 : Int)))).bind fun v7=>
        some (.next (v6,v7)))) else
    ((some (IntKind.wrap .i64 (t0.2 + (1 : Int)))).bind fun v8=>
      some (.next (t0.1,v8)))) else
  (some (.done (.inl (t0.1))))
def Z9c (x0 : List UInt8) : Option (Bool):=
  if (decide ((x0.length : Int) > 64)) = true then
    (some false) else
  ((Z0d (Zij x0) Z0i (0,0)).bind fun q1=>
    match q1 with
    | .inl q0=>((sub x0 q0 (x0.length : Int)).bind fun v9=>
      (Z9z v9).bind fun v10=>
      some v10)
    | .inr y0=>(some y0))
def Zt3 (x0 : List UInt8) : (Int × Int) → SL:=
  fun t0=>⟨30,[(0,.str x0),(3,dI t0.1),(4,dI t0.2)],[]⟩
def J20x1 (x0 : List UInt8) : JT (Int ⊕ Bool):=
  ju (je 0 fun q0 : Int=>⟨30,[(0,.str x0),(3,dI q0)],[]⟩) (jr Tryz.prog Tryz.f20 R20)
theorem wl20x1 {x0 : List UInt8} {t0 : Int × Int} {r : Ctl (Int × Int) (Int ⊕ Bool)} {Γ : Ctx} (h : (Zij x0) t0 = some r) : A Tryz.prog Γ (lpC Tryz.f20 87) [] (Rd (Zt3 x0) (J20x1 x0) r) ((Zt3 x0) t0).s:=
  go [] [] <| br h (fun h4 h=>bd h fun v3 e3 h=>go [] [rg 7 [(2,ib e3)]] <| br h (fun h5 h=>bd h fun v4 e4 h=>bd h fun v5 e5 h=>go [] [rg 8 [(3,ss e4),(4,k (w34 e5))]] <| br h (fun h6 h=>go [] [] <| dn h (i2 iR)) fun h6 h=>
      bd h fun v6 e6 h=>bd h fun v7 e7 h=>go [] [rg 10 [(1,n e6)],rg 6 [(1,n e7)]] <| nx h) fun h5 h=>
    bd h fun v8 e8 h=>go [] [rg 6 [(1,n e8)]] <| nx h) fun h4 h=>
  go [] [] <| dn h (i1 iE)
theorem w20 {x0 : List UInt8} {r : Bool} (h : Z9c x0 = some r) : Z0e Tryz.prog 20 [.str x0] (R20 r):=
  cs Tryz.f20 <| go [] [] <| br h (fun h0 h=>go [] [] <| rt h) fun h0 h=>
  go [] [] <| bd h fun q1 e9 h=>lp e9 wl20x1 <| match q1,h with
    | .inl q0,h=>j1 <| (qe <| bd h fun v9 e10 h=>bd h fun v10 e11 h=>goN [] [rg 11 [(2,ss e10),(3,k (w34 e11))]] <| rt h)
    | .inr y0,h=>j2 <| (qr h)
def R37 (y0 : Bool) : D:= .bool y0
def Z87 (x0 x1 : List UInt8) : Option (Bool):=
  if (decide ((x1.length : Int) ≤ (x0.length : Int))) = true then ((sub x0 0 (x1.length : Int)).bind fun v0=>
  some (v0 == x1)) else
  (some false)
theorem w37 {x0 x1 : List UInt8} {r : Bool} (h : Z87 x0 x1 = some r) : Z0e Tryz.prog 37 [.str x0,.str x1] (R37 r):=
  cs Tryz.f37 <| sp h (fun h0 h=>bd h fun v0 e0 h=>go [] [rg 1 [(4,kb h0),(9,ss e0)]] <| rt h) fun h0 h=>
  go [] [rg 1 [(4,kb h0)]] <| rt h
def R32 (y0 : Int) : D:= .int .i64 y0
def Zhw (x0 : Z1m) (x1 t0 : Int) : Option (Ctl (Int) (Unit ⊕ Int)):=
  if (decide (t0 < (x0.Z2z.length : Int))) = true then
    ((Z0g x0.Z2z t0).bind fun v3=>
    (Z9c v3.Z02).bind fun v4=>
    if (!v4) = true then (some (.done (.inr 12))) else
    (if (decide (x1 > 0)) = true then ((Z87 v3.Z02 [108,97,110,103,47]).bind fun v5=>
        if v5 = true then
          (some (.done (.inr 12))) else
        ((some (IntKind.wrap .i64 (t0 + (1 : Int)))).bind fun v6=>
          some (.next v6))) else
      ((some (IntKind.wrap .i64 (t0 + (1 : Int)))).bind fun v7=>
        some (.next v7)))) else
  (some (.done (.inl (()))))
def Zj3 (x0 : Z1m) (x1 : Int) : Option (Int):=
  (Z0d (Zhw x0 x1) Z0i 0).bind fun q1=>
  match q1 with
  | .inl q0=>(some 0)
  | .inr y0=>(some y0)
def Zus (x0 : Z1m) (x1 : Int) : Int → SL:=
  fun t0=>⟨31,[(1,dI x1),(2,.ptr (Z2w x0)),(5,dI t0)],[]⟩
def J32x1 : JT (Unit ⊕ Int):=
  ju (je 0 fun q0 : Unit=>⟨31,[],[]⟩) (jr Tryz.prog Tryz.f32 R32)
theorem wl32x1 {x0 : Z1m} {x1 t0 : Int} {r : Ctl (Int) (Unit ⊕ Int)} {Γ : Ctx} (h : (Zhw x0 x1) t0 = some r) : A Tryz.prog Γ (lpC Tryz.f32 21) [] (Rd (Zus x0 x1) J32x1 r) ((Zus x0 x1) t0).s:=
  go [] [rg 2 [(3,ln x0.Z2z)]] <| br h (fun h4 h=>bd h fun v3 e3 h=>go [5] [rg 4 [(3,ix e3)]] <| po <| bd h fun v4 e4 h=>pr 4 [(1,k (w20 e4))] <| sp h (fun h5 h=>pr 7 [(4,gs0 h5),(5,gs0 h5),(6,gs0 h5),(9,gs0 h5),(10,py h5)] <| pe <| goN [] [] <| bT rfl <| go [] [] <| dn h (i2 iR)) fun h5 h=>
    pr 3 [(4,gw h5 g0),(5,gw h5 g0),(6,gw h5 g0)] <| sp h (fun h6 h=>bd h fun v5 e5 h=>pr 4 [(7,gw h6 g0),(8,gw h6 (k (w37 e5))),(9,gw h5 (py h6)),(10,pn h5)] <| pe <| goN [] [] <| br h (fun h7 h=>go [] [] <| dn h (i2 iR)) fun h7 h=>
        bd h fun v6 e6 h=>go [] [rg 3 [(1,n e6)]] <| nx h) fun h6 h=>
      pr 4 [(7,gs1 h6),(8,gs1 h6),(9,gw h5 (pn h6)),(10,pn h5)] <| pe <| goN [] [] <| bF rfl <| bd h fun v7 e7 h=>go [] [rg 3 [(1,n e7)]] <| nx h) fun h4 h=>
  go [] [] <| dn h (i1 iE)
theorem w32 {x0 : Z1m} {x1 : Int} {r : Int} (h : Zj3 x0 x1 = some r) : Z0e Tryz.prog 32 [.agg (Z2w x0),dI x1] (R32 r):=
  cs Tryz.f32 <| go [] [rg 0 [(0,bo)]] <| bd h fun q1 e8 h=>lp e8 wl32x1 <| match q1,h with
  | .inl q0,h=>j1 <| (qe <| goN [] [] <| rt h)
  | .inr y0,h=>j2 <| (qr h)
def R33 (y0 : Bool) : D:= .bool y0
def Zhk (t0 : Int) (x0 : Z1m) (t2 : Int) : Option (Ctl (Int) (Unit ⊕ Bool)):=
  if (decide (t2 < t0)) = true then
    ((Z0g x0.Z2z t0).bind fun v2=>
    (Z0g x0.Z2z t2).bind fun v3=>
    if (v2.Z02 == v3.Z02) = true then
      (some (.done (.inr true))) else
    ((some (IntKind.wrap .i64 (t2 + (1 : Int)))).bind fun v4=>
      some (.next v4))) else
  (some (.done (.inl (()))))
def Zhx (x0 : Z1m) (t0 : Int) : Option (Ctl (Int) (Unit ⊕ Bool)):=
  if (decide (t0 < (x0.Z2z.length : Int))) = true then
    ((Z0d (Zhk t0 x0) Z0i 0).bind fun q3=>
    match q3 with
    | .inl q2=>((some (IntKind.wrap .i64 (t0 + (1 : Int)))).bind fun v5=>
      some (.next v5))
    | .inr y1=>(some (.done (.inr y1)))) else
  (some (.done (.inl (()))))
def Zft (x0 : Z1m) : Option (Bool):=
  (Z0d (Zhx x0) Z0i 0).bind fun q5=>
  match q5 with
  | .inl q4=>(some false)
  | .inr y2=>(some y2)
def Zrf (t0 : Int) (x0 : Z1m) : Int → SL:=
  fun t2=>⟨30,[(1,.ptr (Z2w x0)),(3,dI t0),(4,dI t2)],[]⟩
def J33x2 (t0 : Int) (x0 : Z1m) : JT (Unit ⊕ Bool):=
  ju (je 2 fun q2 : Unit=>⟨30,[(1,.ptr (Z2w x0)),(3,dI t0)],[]⟩) (jr Tryz.prog Tryz.f33 R33)
theorem wl33x2 {t0 : Int} {x0 : Z1m} {t2 : Int} {r : Ctl (Int) (Unit ⊕ Bool)} {Γ : Ctx} (h : (Zhk t0 x0) t2 = some r) : A Tryz.prog Γ (lpC Tryz.f33 1317) [] (Rd (Zrf t0 x0) (J33x2 t0 x0) r) ((Zrf t0 x0) t2).s:=
  go [] [] <| br h (fun h4 h=>bd h fun v2 e3 h=>bd h fun v3 e4 h=>go [] [rgo 7 [(3,ix e3),(9,ix e4)] [0,1,2,3,4,5,6,7,8,9,10,11,12] [] [(1,[0]),(3,[0,1,2]),(4,[0,1,2,3]),(5,[0,1,2,3,4]),(7,[6]),(9,[6,7,8]),(10,[6,7,8,9]),(11,[6,7,8,9,10]),(12,[0,1,2,3,4,5,6,7,8,9,10,11])]] <| br h (fun h5 h=>go [] [] <| dn h (i2 iR)) fun h5 h=>
    bd h fun v4 e5 h=>go [] [rg 6 [(1,n e5)]] <| nx h) fun h4 h=>
  go [] [] <| dn h (i1 iE)
def Zux (x0 : Z1m) : Int → SL:=
  fun t0=>⟨30,[(1,.ptr (Z2w x0)),(3,dI t0)],[]⟩
def J33x1 : JT (Unit ⊕ Bool):=
  ju (je 0 fun q4 : Unit=>⟨30,[],[]⟩) (jr Tryz.prog Tryz.f33 R33)
theorem wl33x1 {x0 : Z1m} {t0 : Int} {r : Ctl (Int) (Unit ⊕ Bool)} {Γ : Ctx} (h : (Zhx x0) t0 = some r) : A Tryz.prog Γ (lpC Tryz.f33 21) [] (Rd (Zux x0) J33x1 r) ((Zux x0) t0).s:=
  go [] [rg 2 [(3,ln x0.Z2z)]] <| br h (fun h1 h=>go [] [] <| bd h fun q3 e6 h=>lp e6 wl33x2 <| match q3,h with
    | .inl q2,h=>j1 <| (qe <| bd h fun v5 e7 h=>goN [] [rg 3 [(1,n e7)]] <| nx h)
    | .inr y1,h=>j2 <| (ql h fun _ _ p=>⟨(iS p).1,i2 ((iS p).2)⟩)) fun h1 h=>
  go [] [] <| dn h (i1 iE)
theorem w33 {x0 : Z1m} {r : Bool} (h : Zft x0 = some r) : Z0e Tryz.prog 33 [.agg (Z2w x0)] (R33 r):=
  cs Tryz.f33 <| go [] [rg 0 [(0,bo)]] <| bd h fun q5 e8 h=>lp e8 wl33x1 <| match q5,h with
  | .inl q4,h=>j1 <| (qe <| goN [] [] <| rt h)
  | .inr y2,h=>j2 <| (qr h)
def R19 (y0 : Int) : D:= .int .i64 y0
def Zgu (x0 : List Z1m) (t0 : Int) : Option (Ctl (Int) (Unit ⊕ Int)):=
  if (decide (t0 < (x0.length : Int))) = true then
    ((Z0g x0 t0).bind fun v2=>
    if (decide ((v2.Z3h.length : Int) > 8)) = true then (some (.done (.inr 5))) else
    ((Z0g x0 t0).bind fun v3=>
    if (decide ((v3.Z2z.length : Int) > 64)) = true then
      (some (.done (.inr 5))) else
    ((some (IntKind.wrap .i64 (t0 + (1 : Int)))).bind fun v4=>
      some (.next v4)))) else
  (some (.done (.inl (()))))
def Zi4 (t1 : Int) (x0 : List Z1m) (t3 : Int) : Option (Ctl (Int) (Unit ⊕ Int)):=
  (Z0g x0 t1).bind fun v21=>
  if (decide (t3 < (v21.Z3h.length : Int))) = true then
    ((Z0g x0 t1).bind fun v22=>
    (Z0g v22.Z3h t3).bind fun v23=>
    if (decide (v23.f_To < 0)) = true then (some (.done (.inr 2))) else
    ((Z0g x0 t1).bind fun v24=>
    (Z0g v24.Z3h t3).bind fun v25=>
    if (decide (v25.f_To ≥ t1)) = true then
      (some (.done (.inr 2))) else
    ((some (IntKind.wrap .i64 (t3 + (1 : Int)))).bind fun v26=>
      some (.next v26)))) else
  (some (.done (.inl (()))))
def Zjr (x0 : List Z1m) (t1 : Int) : Option (Ctl (Int) (Unit ⊕ Int)):=
  if (decide (t1 < (x0.length : Int))) = true then
    ((Z0d (Zi4 t1 x0) Z0i 0).bind fun q5=>
    match q5 with
    | .inl q4=>((some (IntKind.wrap .i64 (t1 + (1 : Int)))).bind fun v27=>
      some (.next v27))
    | .inr y1=>(some (.done (.inr y1)))) else
  (some (.done (.inl (()))))
def Zhn (x0 : List Z1m) (t4 : Int) : Option (Ctl (Int) (Unit ⊕ Int)):=
  if (decide (t4 < (x0.length : Int))) = true then
    ((Z0g x0 t4).bind fun v30=>
    (Zj3 v30 t4).bind fun v31=>
    if (v31 != 0) = true then
      (some (.done (.inr v31))) else
    ((some (IntKind.wrap .i64 (t4 + (1 : Int)))).bind fun v32=>
      some (.next v32))) else
  (some (.done (.inl (()))))
def Zf0 (x0 : List Z1m) (t5 : Int) : Option (Ctl (Int) (Unit ⊕ Int)):=
  if (decide (t5 < (x0.length : Int))) = true then
    ((Z0g x0 t5).bind fun v35=>
    (Zft v35).bind fun v36=>
    if v36 = true then
      (some (.done (.inr 6))) else
    ((some (IntKind.wrap .i64 (t5 + (1 : Int)))).bind fun v37=>
      some (.next v37))) else
  (some (.done (.inl (()))))
def j19x1 (x0 : List Z1m) : Option (Int):=
  (Z0d (Zgu x0) Z0i 0).bind fun q1=>
  match q1 with
  | .inl q0=>((Z0d (Zjr x0) Z0i 0).bind fun q7=>
    match q7 with
    | .inl q6=>((Z0d (Zhn x0) Z0i 0).bind fun q9=>
      match q9 with
      | .inl q8=>((Z0d (Zf0 x0) Z0i 0).bind fun q11=>
        match q11 with
        | .inl q10=>(some 0)
        | .inr y2=>(some y2))
      | .inr y3=>(some y3))
    | .inr y4=>(some y4))
  | .inr y5=>(some y5)
def Zg1 (x0 : List Z1m) : Option (Int):=
  if ((x0.length : Int) == 0) = true then (some 5) else
  (if (decide ((x0.length : Int) > 8)) = true then
    (some 5) else
  ((j19x1 x0)))
def Zsi (x0 : List Z1m) : Int → SL:=
  fun t0=>⟨104,[(0,.sl false (x0.map Z2w)),(3,dI t0)],[]⟩
def J19x1 (x0 : List Z1m) : JT (Unit ⊕ Int):=
  ju (je 0 fun q0 : Unit=>⟨104,[(0,.sl false (x0.map Z2w))],[]⟩) (jr Tryz.prog Tryz.f19 R19)
theorem wl19x1 {x0 : List Z1m} {t0 : Int} {r : Ctl (Int) (Unit ⊕ Int)} {Γ : Ctx} (h : (Zgu x0) t0 = some r) : A Tryz.prog Γ (lpC Tryz.f19 43) [] (Rd (Zsi x0) (J19x1 x0) r) ((Zsi x0) t0).s:=
  go [] [rg 4 [(2,ln x0)]] <| br h (fun h5 h=>bd h fun v2 e2 h=>sp h (fun h6 h=>go [] [rg 6 [(2,ix e2),(5,ln v2.Z3h),(6,kb h6)]] <| bT rfl <| go [] [] <| dn h (i2 iR)) fun h6 h=>
    bd h fun v3 e3 h=>go [] [rg 6 [(2,ix e2),(5,ln v2.Z3h),(6,kb h6),(10,ix e3),(13,ln v3.Z2z)]] <| br h (fun h7 h=>go [] [] <| dn h (i2 iR)) fun h7 h=>
    bd h fun v4 e4 h=>go [] [rg 5 [(1,n e4)]] <| nx h) fun h5 h=>
  go [] [] <| dn h (i1 iE)
def Zsn (t1 : Int) (x0 : List Z1m) : Int → SL:=
  fun t3=>⟨104,[(0,.sl false (x0.map Z2w)),(4,dI t1),(5,dI t3)],[]⟩
def J19x3 (t1 : Int) (x0 : List Z1m) : JT (Unit ⊕ Int):=
  ju (je 4 fun q4 : Unit=>⟨104,[(0,.sl false (x0.map Z2w)),(4,dI t1)],[]⟩) (jr Tryz.prog Tryz.f19 R19)
theorem wl19x3 {t1 : Int} {x0 : List Z1m} {t3 : Int} {r : Ctl (Int) (Unit ⊕ Int)} {Γ : Ctx} (h : (Zi4 t1 x0) t3 = some r) : A Tryz.prog Γ (lpC Tryz.f19 5271) [] (Rd (Zsn t1 x0) (J19x3 t1 x0) r) ((Zsn t1 x0) t3).s:=
  bd h fun v21 e23 h=>go [] [rg 12 [(3,ix e23),(6,ln v21.Z3h)]] <| br h (fun h19 h=>bd h fun v22 e24 h=>bd h fun v23 e25 h=>sp h (fun h20 h=>go [] [rg 14 [(2,ix e24),(6,ix e25),(9,kb h20)]] <| bT rfl <| go [] [] <| dn h (i2 iR)) fun h20 h=>
    bd h fun v24 e26 h=>bd h fun v25 e27 h=>go [] [rg 14 [(2,ix e24),(6,ix e25),(9,kb h20),(13,ix e26),(17,ix e27)]] <| br h (fun h21 h=>go [] [] <| dn h (i2 iR)) fun h21 h=>
    bd h fun v26 e28 h=>go [] [rg 13 [(1,n e28)]] <| nx h) fun h19 h=>
  go [] [] <| dn h (i1 iE)
def Zqx (x0 : List Z1m) : Int → SL:=
  fun t1=>⟨104,[(0,.sl false (x0.map Z2w)),(4,dI t1)],[]⟩
def J19x2 (x0 : List Z1m) : JT (Unit ⊕ Int):=
  ju (je 2 fun q6 : Unit=>⟨104,[(0,.sl false (x0.map Z2w))],[]⟩) (jr Tryz.prog Tryz.f19 R19)
theorem wl19x2 {x0 : List Z1m} {t1 : Int} {r : Ctl (Int) (Unit ⊕ Int)} {Γ : Ctx} (h : (Zjr x0) t1 = some r) : A Tryz.prog Γ (lpC Tryz.f19 87) [] (Rd (Zqx x0) (J19x2 x0) r) ((Zqx x0) t1).s:=
  go [] [rg 9 [(2,ln x0)]] <| br h (fun h15 h=>go [] [] <| bd h fun q5 e29 h=>lp e29 wl19x3 <| match q5,h with
    | .inl q4,h=>j1 <| (qe <| bd h fun v27 e30 h=>goN [] [rg 10 [(1,n e30)]] <| nx h)
    | .inr y1,h=>j2 <| (ql h fun _ _ p=>⟨(iS p).1,i2 ((iS p).2)⟩)) fun h15 h=>
  go [] [] <| dn h (i1 iE)
def Zrr (x0 : List Z1m) : Int → SL:=
  fun t4=>⟨104,[(0,.sl false (x0.map Z2w)),(6,dI t4)],[]⟩
def J19x4 (x0 : List Z1m) : JT (Unit ⊕ Int):=
  ju (je 6 fun q8 : Unit=>⟨104,[(0,.sl false (x0.map Z2w))],[]⟩) (jr Tryz.prog Tryz.f19 R19)
theorem wl19x4 {x0 : List Z1m} {t4 : Int} {r : Ctl (Int) (Unit ⊕ Int)} {Γ : Ctx} (h : (Zhn x0) t4 = some r) : A Tryz.prog Γ (lpC Tryz.f19 175) [] (Rd (Zrr x0) (J19x4 x0) r) ((Zrr x0) t4).s:=
  go [] [rg 17 [(2,ln x0)]] <| br h (fun h24 h=>bd h fun v30 e34 h=>bd h fun v31 e35 h=>go [] [rg 19 [(2,ix e34),(5,k (w32 e35))]] <| br h (fun h25 h=>go [] [] <| dn h (i2 iR)) fun h25 h=>
    bd h fun v32 e36 h=>go [] [rg 18 [(1,n e36)]] <| nx h) fun h24 h=>
  go [] [] <| dn h (i1 iE)
def Zu4 (x0 : List Z1m) : Int → SL:=
  fun t5=>⟨104,[(0,.sl false (x0.map Z2w)),(8,dI t5)],[]⟩
def J19x5 : JT (Unit ⊕ Int):=
  ju (je 8 fun q10 : Unit=>⟨104,[],[]⟩) (jr Tryz.prog Tryz.f19 R19)
theorem wl19x5 {x0 : List Z1m} {t5 : Int} {r : Ctl (Int) (Unit ⊕ Int)} {Γ : Ctx} (h : (Zf0 x0) t5 = some r) : A Tryz.prog Γ (lpC Tryz.f19 351) [] (Rd (Zu4 x0) J19x5 r) ((Zu4 x0) t5).s:=
  go [] [rg 23 [(2,ln x0)]] <| br h (fun h28 h=>bd h fun v35 e40 h=>bd h fun v36 e41 h=>go [] [rg 25 [(2,ix e40),(4,k (w33 e41))]] <| br h (fun h29 h=>go [] [] <| dn h (i2 iR)) fun h29 h=>
    bd h fun v37 e42 h=>go [] [rg 24 [(1,n e42)]] <| nx h) fun h28 h=>
  go [] [] <| dn h (i1 iE)
theorem wj19x1 {x0 : List Z1m} {r : Int} {Γ : Ctx} (h : (j19x1 x0) = some r) : Jn Tryz.prog Tryz.f19 Γ (Den.Ends Tryz.prog Tryz.f19 (R19 r)) 19 ⟨104,[(0,.sl false (x0.map Z2w))],[]⟩:=
  so <| go [] [] <| bd h fun q1 e5 h=>lp e5 wl19x1 <| match q1,h with
  | .inl q0,h=>j1 <| (qe <| goN [] [] <| bd h fun q7 e31 h=>lp e31 wl19x2 <| match q7,h with
    | .inl q6,h=>j1 <| (qe <| goN [] [] <| bd h fun q9 e37 h=>lp e37 wl19x4 <| match q9,h with
      | .inl q8,h=>j1 <| (qe <| goN [] [] <| bd h fun q11 e43 h=>lp e43 wl19x5 <| match q11,h with
        | .inl q10,h=>j1 <| (qe <| goN [] [] <| rt h)
        | .inr y2,h=>j2 <| (qr h))
      | .inr y3,h=>j2 <| (qr h))
    | .inr y4,h=>j2 <| (qr h))
  | .inr y5,h=>j2 <| (qr h)
theorem w19 {x0 : List Z1m} {r : Int} (h : Zg1 x0 = some r) : Z0e Tryz.prog 19 [.sl false (x0.map Z2w)] (R19 r):=
  cs Tryz.f19 <| sp h (fun h0 h=>go [] [rg 1 [(1,ln x0),(2,kb h0)]] <| bT rfl <| go [] [] <| rt h) fun h0 h=>
  go [] [rg 1 [(1,ln x0),(2,kb h0),(5,ln x0)]] <| br h (fun h1 h=>go [] [] <| rt h) fun h1 h=>
  go [3] [] <| jn (wj19x1 h)
def R21 (y0 : Bool) : D:= .bool y0
def Ziu (v0 : Z2k) (x0 : Z0c) (x1 t0 : Int) : Option (Ctl (Int) (Unit ⊕ Bool)):=
  if (decide (t0 < x1)) = true then
    ((Z0g x0.Z2p t0).bind fun v4=>
    if (v4.Z0u == v0.Z0u) = true then ((Z0g x0.Z2p t0).bind fun v5=>
    if (v5.Z02 == v0.Z02) = true then
      (some (.done (.inr false))) else
    ((some (IntKind.wrap .i64 (t0 + (1 : Int)))).bind fun v6=>
      some (.next v6))) else
    ((some (IntKind.wrap .i64 (t0 + (1 : Int)))).bind fun v7=>
    some (.next v7))) else
  (some (.done (.inl (()))))
def j21x1 (v0 : Z2k) (x0 : Z0c) (x1 : Int) : Option (Bool):=
  (Z0d (Ziu v0 x0 x1) Z0i 0).bind fun q1=>
  match q1 with
  | .inl q0=>(some true)
  | .inr y0=>(some y0)
def Zh5 (x0 : Z0c) (x1 : Int) : Option (Bool):=
  (Z0g x0.Z2p x1).bind fun v0=>
  if (decide (v0.Z0u < 0)) = true then (some false) else
  (if (decide (v0.Z0u ≥ (x0.Z23.length : Int))) = true then (some false) else
  (if (decide (v0.Z1f < 0)) = true then (some false) else
  (if (decide (v0.Z1f ≥ (x0.Z1i.length : Int))) = true then (some false) else
  ((Z0g x0.Z1i v0.Z1f).bind fun v1=>
  if (!(v1.Z0s.Z02 == v0.Z02)) = true then
    (some false) else
  ((j21x1 v0 x0 x1))))))
def Zq1 (v0 : Z2k) (x0 : Z0c) (x1 : Int) : Int → SL:=
  fun t0=>⟨74,[(1,dI x1),(2,.ptr (Z1x x0)),(5,.lptr 5 0 0),(6,dI t0)],[(5,{ sz:=3,rows:=[Z58 v0],frz:=0,pure:=false })]⟩
def J21x1 : JT (Unit ⊕ Bool):=
  ju (je 0 fun q0 : Unit=>⟨74,[],[]⟩) (jr Tryz.prog Tryz.f21 R21)
theorem wl21x1 {v0 : Z2k} {x0 : Z0c} {x1 t0 : Int} {r : Ctl (Int) (Unit ⊕ Bool)} {Γ : Ctx} (h : (Ziu v0 x0 x1) t0 = some r) : A Tryz.prog Γ (lpC Tryz.f21 87) [] (Rd (Zq1 v0 x0 x1) J21x1 r) ((Zq1 v0 x0 x1) t0).s:=
  go [] [] <| br h (fun h8 h=>bd h fun v4 e4 h=>sp h (fun h9 h=>bd h fun v5 e5 h=>go [] [rgo 7 [(3,ix e4),(8,kb h9),(13,ix e5)] [0,1,2,3,4,5,6,7,8,9,10,11,12,13,14,15,16,17,18,19] [] [(1,[0]),(3,[0,1,2]),(4,[0,1,2,3]),(5,[0,1,2,3,4]),(7,[6]),(8,[0,1,2,3,4,5,6,7]),(9,[0,1,2,3,4,5,6,7,8]),(10,[0,1,2,3,4,5,6,7,8,9]),(11,[0,1,2,3,4,5,6,7,8,9,10]),(12,[0,1,2,3,4,5,6,7,8,9]),(13,[0,1,2,3,4,5,6,7,8,9,10,11,12]),(14,[0,1,2,3,4,5,6,7,8,9,10,11,12,13]),(15,[0,1,2,3,4,5,6,7,8,9,10,11,12,13,14]),(16,[0,1,2,3,4,5,6,7,8,9]),(17,[0,1,2,3,4,5,6,7,8,9,16]),(18,[0,1,2,3,4,5,6,7,8,9,10,11,12,13,14,15,16,17]),(19,[0,1,2,3,4,5,6,7,8,9,10,11,12,13,14,15,16,17,18])]] <| br h (fun h10 h=>go [] [] <| dn h (i2 iR)) fun h10 h=>
    bd h fun v6 e6 h=>go [] [rg 6 [(1,n e6)]] <| nx h) fun h9 h=>
    go [] [rgo 7 [(3,ix e4),(8,kb h9)] [0,1,2,3,4,5,6,7,8,9,10,11,12,13,14,15,16,17,18,19] [] [(1,[0]),(3,[0,1,2]),(4,[0,1,2,3]),(5,[0,1,2,3,4]),(7,[6]),(8,[0,1,2,3,4,5,6,7]),(9,[0,1,2,3,4,5,6,7,8]),(10,[0,1,2,3,4,5,6,7,8,9]),(11,[0,1,2,3,4,5,6,7,8,9,10]),(12,[0,1,2,3,4,5,6,7,8,9]),(13,[0,1,2,3,4,5,6,7,8,9,10,11,12]),(14,[0,1,2,3,4,5,6,7,8,9,10,11,12,13]),(15,[0,1,2,3,4,5,6,7,8,9,10,11,12,13,14]),(16,[0,1,2,3,4,5,6,7,8,9]),(17,[0,1,2,3,4,5,6,7,8,9,16]),(18,[0,1,2,3,4,5,6,7,8,9,10,11,12,13,14,15,16,17]),(19,[0,1,2,3,4,5,6,7,8,9,10,11,12,13,14,15,16,17,18])]] <| bF rfl <| bd h fun v7 e7 h=>go [] [rg 6 [(1,n e7)]] <| nx h) fun h8 h=>
  go [] [] <| dn h (i1 iE)
theorem wj21x1 {v0 : Z2k} {x0 : Z0c} {x1 : Int} {r : Bool} {Γ : Ctx} (h : (j21x1 v0 x0 x1) = some r) : Jn Tryz.prog Tryz.f21 Γ (Den.Ends Tryz.prog Tryz.f21 (R21 r)) 39 ⟨74,[(1,dI x1),(2,.ptr (Z1x x0)),(5,.lptr 5 0 0)],[(5,{ sz:=3,rows:=[Z58 v0],frz:=0,pure:=false })]⟩:=
  so <| go [] [] <| bd h fun q1 e8 h=>lp e8 wl21x1 <| match q1,h with
  | .inl q0,h=>j1 <| (qe <| goN [] [] <| rt h)
  | .inr y0,h=>j2 <| (qr h)
theorem w21 {x0 : Z0c} {x1 : Int} {r : Bool} (h : Zh5 x0 x1 = some r) : Z0e Tryz.prog 21 [.agg (Z1x x0),dI x1] (R21 r):=
  cs Tryz.f21 <| bd h fun v0 e0 h=>sp h (fun h0 h=>go [] [rg 0 [(0,bo)],rg 1 [(3,ix e0)],rgo 2 [(2,kb h0)] [0,1,2,3,4,5,6,7,8,9,10,11,12,13,14,15,16,17,18,19,20,21,22,23,24,25,26,27,28,29,30,31,32,33,34,35,36] [] [(1,[0]),(2,[0,1]),(3,[0,1,2]),(4,[0,1,2,3]),(5,[0,1,2,3,4]),(6,[0,1,2,3]),(7,[0,1,2,3,6]),(8,[0,1,2,3,6,7]),(9,[0,1,2,3,4,5,6,7,8]),(10,[0,1,2,3,4,5,6,7,8,9]),(11,[0,1,2,3,4,5,6,7,8,9,10]),(12,[0,1,2,3,4,5,6,7,8,9,10,11]),(13,[0,1,2,3,4,5,6,7,8,9,10,11,12]),(14,[0,1,2,3,4,5,6,7,8,9,10,11,12,13]),(15,[0,1,2,3,4,5,6,7,8,9,10,11,12,13,14]),(16,[0,1,2,3,4,5,6,7,8,9,10,11,12,13,14,15]),(17,[0,1,2,3,4,5,6,7,8,9,10,11,12,13,14,15,16]),(18,[0,1,2,3,4,5,6,7,8,9,10,11,12,13,14,15,16,17]),(19,[0,1,2,3,4,5,6,7,8,9,10,11,12,13,14,15,16]),(20,[0,1,2,3,4,5,6,7,8,9,10,11,12,13,14,15,16,19]),(21,[0,1,2,3,4,5,6,7,8,9,10,11,12,13,14,15,16,19,20]),(22,[0,1,2,3,4,5,6,7,8,9,10,11,12,13,14,15,16,17,18,19,20,21]),(23,[0,1,2,3,4,5,6,7,8,9,10,11,12,13,14,15,16,17,18,19,20,21,22]),(24,[0,1,2,3,4,5,6,7,8,9,10,11,12,13,14,15,16,17,18,19,20,21,22,23]),(25,[0,1,2,3,4,5,6,7,8,9,10,11,12,13,14,15,16,17,18,19,20,21,22,23,24]),(26,[0,1,2,3,4,5,6,7,8,9,10,11,12,13,14,15,16,17,18,19,20,21,22,23,24,25]),(27,[0,1,2,3,4,5,6,7,8,9,10,11,12,13,14,15,16,17,18,19,20,21,22,23,24]),(28,[0,1,2,3,4,5,6,7,8,9,10,11,12,13,14,15,16,17,18,19,20,21,22,23,24,27]),(29,[0,1,2,3,4,5,6,7,8,9,10,11,12,13,14,15,16,17,18,19,20,21,22,23,24,25,26,27,28]),(30,[0,1,2,3,4,5,6,7,8,9,10,11,12,13,14,15,16,17,18,19,20,21,22,23,24,25,26,27,28,29]),(31,[0,1,2,3,4,5,6,7,8,9,10,11,12,13,14,15,16,17,18,19,20,21,22,23,24,25,26,27,28,29,30]),(32,[0,1,2,3,4,5,6,7,8,9,10,11,12,13,14,15,16,17,18,19,20,21,22,23,24,25,26,27,28,29,30,31]),(33,[0,1,2,3,4,5,6,7,8,9,10,11,12,13,14,15,16,17,18,19,20,21,22,23,24]),(34,[0,1,2,3,4,5,6,7,8,9,10,11,12,13,14,15,16,17,18,19,20,21,22,23,24,33]),(35,[0,1,2,3,4,5,6,7,8,9,10,11,12,13,14,15,16,17,18,19,20,21,22,23,24,25,26,27,28,29,30,31,32,33,34]),(36,[0,1,2,3,4,5,6,7,8,9,10,11,12,13,14,15,16,17,18,19,20,21,22,23,24,25,26,27,28,29,30,31,32,33,34,35])]] <| bT rfl <| go [] [] <| rt h) fun h0 h=>
  sp h (fun h1 h=>go [] [rg 0 [(0,bo)],rg 1 [(3,ix e0)],rgo 2 [(2,kb h0),(8,ln x0.Z23),(9,kb h1)] [0,1,2,3,4,5,6,7,8,9,10,11,12,13,14,15,16,17,18,19,20,21,22,23,24,25,26,27,28,29,30,31,32,33,34,35,36] [] [(1,[0]),(2,[0,1]),(3,[0,1,2]),(4,[0,1,2,3]),(5,[0,1,2,3,4]),(6,[0,1,2,3]),(7,[0,1,2,3,6]),(8,[0,1,2,3,6,7]),(9,[0,1,2,3,4,5,6,7,8]),(10,[0,1,2,3,4,5,6,7,8,9]),(11,[0,1,2,3,4,5,6,7,8,9,10]),(12,[0,1,2,3,4,5,6,7,8,9,10,11]),(13,[0,1,2,3,4,5,6,7,8,9,10,11,12]),(14,[0,1,2,3,4,5,6,7,8,9,10,11,12,13]),(15,[0,1,2,3,4,5,6,7,8,9,10,11,12,13,14]),(16,[0,1,2,3,4,5,6,7,8,9,10,11,12,13,14,15]),(17,[0,1,2,3,4,5,6,7,8,9,10,11,12,13,14,15,16]),(18,[0,1,2,3,4,5,6,7,8,9,10,11,12,13,14,15,16,17]),(19,[0,1,2,3,4,5,6,7,8,9,10,11,12,13,14,15,16]),(20,[0,1,2,3,4,5,6,7,8,9,10,11,12,13,14,15,16,19]),(21,[0,1,2,3,4,5,6,7,8,9,10,11,12,13,14,15,16,19,20]),(22,[0,1,2,3,4,5,6,7,8,9,10,11,12,13,14,15,16,17,18,19,20,21]),(23,[0,1,2,3,4,5,6,7,8,9,10,11,12,13,14,15,16,17,18,19,20,21,22]),(24,[0,1,2,3,4,5,6,7,8,9,10,11,12,13,14,15,16,17,18,19,20,21,22,23]),(25,[0,1,2,3,4,5,6,7,8,9,10,11,12,13,14,15,16,17,18,19,20,21,22,23,24]),(26,[0,1,2,3,4,5,6,7,8,9,10,11,12,13,14,15,16,17,18,19,20,21,22,23,24,25]),(27,[0,1,2,3,4,5,6,7,8,9,10,11,12,13,14,15,16,17,18,19,20,21,22,23,24]),(28,[0,1,2,3,4,5,6,7,8,9,10,11,12,13,14,15,16,17,18,19,20,21,22,23,24,27]),(29,[0,1,2,3,4,5,6,7,8,9,10,11,12,13,14,15,16,17,18,19,20,21,22,23,24,25,26,27,28]),(30,[0,1,2,3,4,5,6,7,8,9,10,11,12,13,14,15,16,17,18,19,20,21,22,23,24,25,26,27,28,29]),(31,[0,1,2,3,4,5,6,7,8,9,10,11,12,13,14,15,16,17,18,19,20,21,22,23,24,25,26,27,28,29,30]),(32,[0,1,2,3,4,5,6,7,8,9,10,11,12,13,14,15,16,17,18,19,20,21,22,23,24,25,26,27,28,29,30,31]),(33,[0,1,2,3,4,5,6,7,8,9,10,11,12,13,14,15,16,17,18,19,20,21,22,23,24]),(34,[0,1,2,3,4,5,6,7,8,9,10,11,12,13,14,15,16,17,18,19,20,21,22,23,24,33]),(35,[0,1,2,3,4,5,6,7,8,9,10,11,12,13,14,15,16,17,18,19,20,21,22,23,24,25,26,27,28,29,30,31,32,33,34]),(36,[0,1,2,3,4,5,6,7,8,9,10,11,12,13,14,15,16,17,18,19,20,21,22,23,24,25,26,27,28,29,30,31,32,33,34,35])]] <| bT rfl <| go [] [] <| rt h) fun h1 h=>
  sp h (fun h2 h=>go [] [rg 0 [(0,bo)],rg 1 [(3,ix e0)],rgo 2 [(2,kb h0),(8,ln x0.Z23),(9,kb h1),(14,kb h2)] [0,1,2,3,4,5,6,7,8,9,10,11,12,13,14,15,16,17,18,19,20,21,22,23,24,25,26,27,28,29,30,31,32,33,34,35,36] [] [(1,[0]),(2,[0,1]),(3,[0,1,2]),(4,[0,1,2,3]),(5,[0,1,2,3,4]),(6,[0,1,2,3]),(7,[0,1,2,3,6]),(8,[0,1,2,3,6,7]),(9,[0,1,2,3,4,5,6,7,8]),(10,[0,1,2,3,4,5,6,7,8,9]),(11,[0,1,2,3,4,5,6,7,8,9,10]),(12,[0,1,2,3,4,5,6,7,8,9,10,11]),(13,[0,1,2,3,4,5,6,7,8,9,10,11,12]),(14,[0,1,2,3,4,5,6,7,8,9,10,11,12,13]),(15,[0,1,2,3,4,5,6,7,8,9,10,11,12,13,14]),(16,[0,1,2,3,4,5,6,7,8,9,10,11,12,13,14,15]),(17,[0,1,2,3,4,5,6,7,8,9,10,11,12,13,14,15,16]),(18,[0,1,2,3,4,5,6,7,8,9,10,11,12,13,14,15,16,17]),(19,[0,1,2,3,4,5,6,7,8,9,10,11,12,13,14,15,16]),(20,[0,1,2,3,4,5,6,7,8,9,10,11,12,13,14,15,16,19]),(21,[0,1,2,3,4,5,6,7,8,9,10,11,12,13,14,15,16,19,20]),(22,[0,1,2,3,4,5,6,7,8,9,10,11,12,13,14,15,16,17,18,19,20,21]),(23,[0,1,2,3,4,5,6,7,8,9,10,11,12,13,14,15,16,17,18,19,20,21,22]),(24,[0,1,2,3,4,5,6,7,8,9,10,11,12,13,14,15,16,17,18,19,20,21,22,23]),(25,[0,1,2,3,4,5,6,7,8,9,10,11,12,13,14,15,16,17,18,19,20,21,22,23,24]),(26,[0,1,2,3,4,5,6,7,8,9,10,11,12,13,14,15,16,17,18,19,20,21,22,23,24,25]),(27,[0,1,2,3,4,5,6,7,8,9,10,11,12,13,14,15,16,17,18,19,20,21,22,23,24]),(28,[0,1,2,3,4,5,6,7,8,9,10,11,12,13,14,15,16,17,18,19,20,21,22,23,24,27]),(29,[0,1,2,3,4,5,6,7,8,9,10,11,12,13,14,15,16,17,18,19,20,21,22,23,24,25,26,27,28]),(30,[0,1,2,3,4,5,6,7,8,9,10,11,12,13,14,15,16,17,18,19,20,21,22,23,24,25,26,27,28,29]),(31,[0,1,2,3,4,5,6,7,8,9,10,11,12,13,14,15,16,17,18,19,20,21,22,23,24,25,26,27,28,29,30]),(32,[0,1,2,3,4,5,6,7,8,9,10,11,12,13,14,15,16,17,18,19,20,21,22,23,24,25,26,27,28,29,30,31]),(33,[0,1,2,3,4,5,6,7,8,9,10,11,12,13,14,15,16,17,18,19,20,21,22,23,24]),(34,[0,1,2,3,4,5,6,7,8,9,10,11,12,13,14,15,16,17,18,19,20,21,22,23,24,33]),(35,[0,1,2,3,4,5,6,7,8,9,10,11,12,13,14,15,16,17,18,19,20,21,22,23,24,25,26,27,28,29,30,31,32,33,34]),(36,[0,1,2,3,4,5,6,7,8,9,10,11,12,13,14,15,16,17,18,19,20,21,22,23,24,25,26,27,28,29,30,31,32,33,34,35])]] <| bT rfl <| go [] [] <| rt h) fun h2 h=>
  sp h (fun h3 h=>go [] [rg 0 [(0,bo)],rg 1 [(3,ix e0)],rgo 2 [(2,kb h0),(8,ln x0.Z23),(9,kb h1),(14,kb h2),(21,ln x0.Z1i),(22,kb h3)] [0,1,2,3,4,5,6,7,8,9,10,11,12,13,14,15,16,17,18,19,20,21,22,23,24,25,26,27,28,29,30,31,32,33,34,35,36] [] [(1,[0]),(2,[0,1]),(3,[0,1,2]),(4,[0,1,2,3]),(5,[0,1,2,3,4]),(6,[0,1,2,3]),(7,[0,1,2,3,6]),(8,[0,1,2,3,6,7]),(9,[0,1,2,3,4,5,6,7,8]),(10,[0,1,2,3,4,5,6,7,8,9]),(11,[0,1,2,3,4,5,6,7,8,9,10]),(12,[0,1,2,3,4,5,6,7,8,9,10,11]),(13,[0,1,2,3,4,5,6,7,8,9,10,11,12]),(14,[0,1,2,3,4,5,6,7,8,9,10,11,12,13]),(15,[0,1,2,3,4,5,6,7,8,9,10,11,12,13,14]),(16,[0,1,2,3,4,5,6,7,8,9,10,11,12,13,14,15]),(17,[0,1,2,3,4,5,6,7,8,9,10,11,12,13,14,15,16]),(18,[0,1,2,3,4,5,6,7,8,9,10,11,12,13,14,15,16,17]),(19,[0,1,2,3,4,5,6,7,8,9,10,11,12,13,14,15,16]),(20,[0,1,2,3,4,5,6,7,8,9,10,11,12,13,14,15,16,19]),(21,[0,1,2,3,4,5,6,7,8,9,10,11,12,13,14,15,16,19,20]),(22,[0,1,2,3,4,5,6,7,8,9,10,11,12,13,14,15,16,17,18,19,20,21]),(23,[0,1,2,3,4,5,6,7,8,9,10,11,12,13,14,15,16,17,18,19,20,21,22]),(24,[0,1,2,3,4,5,6,7,8,9,10,11,12,13,14,15,16,17,18,19,20,21,22,23]),(25,[0,1,2,3,4,5,6,7,8,9,10,11,12,13,14,15,16,17,18,19,20,21,22,23,24]),(26,[0,1,2,3,4,5,6,7,8,9,10,11,12,13,14,15,16,17,18,19,20,21,22,23,24,25]),(27,[0,1,2,3,4,5,6,7,8,9,10,11,12,13,14,15,16,17,18,19,20,21,22,23,24]),(28,[0,1,2,3,4,5,6,7,8,9,10,11,12,13,14,15,16,17,18,19,20,21,22,23,24,27]),(29,[0,1,2,3,4,5,6,7,8,9,10,11,12,13,14,15,16,17,18,19,20,21,22,23,24,25,26,27,28]),(30,[0,1,2,3,4,5,6,7,8,9,10,11,12,13,14,15,16,17,18,19,20,21,22,23,24,25,26,27,28,29]),(31,[0,1,2,3,4,5,6,7,8,9,10,11,12,13,14,15,16,17,18,19,20,21,22,23,24,25,26,27,28,29,30]),(32,[0,1,2,3,4,5,6,7,8,9,10,11,12,13,14,15,16,17,18,19,20,21,22,23,24,25,26,27,28,29,30,31]),(33,[0,1,2,3,4,5,6,7,8,9,10,11,12,13,14,15,16,17,18,19,20,21,22,23,24]),(34,[0,1,2,3,4,5,6,7,8,9,10,11,12,13,14,15,16,17,18,19,20,21,22,23,24,33]),(35,[0,1,2,3,4,5,6,7,8,9,10,11,12,13,14,15,16,17,18,19,20,21,22,23,24,25,26,27,28,29,30,31,32,33,34]),(36,[0,1,2,3,4,5,6,7,8,9,10,11,12,13,14,15,16,17,18,19,20,21,22,23,24,25,26,27,28,29,30,31,32,33,34,35])]] <| bT rfl <| go [] [] <| rt h) fun h3 h=>
  bd h fun v1 e1 h=>go [] [rg 0 [(0,bo)],rg 1 [(3,ix e0)],rgo 2 [(2,kb h0),(8,ln x0.Z23),(9,kb h1),(14,kb h2),(21,ln x0.Z1i),(22,kb h3),(29,ix e1)] [0,1,2,3,4,5,6,7,8,9,10,11,12,13,14,15,16,17,18,19,20,21,22,23,24,25,26,27,28,29,30,31,32,33,34,35,36] [] [(1,[0]),(2,[0,1]),(3,[0,1,2]),(4,[0,1,2,3]),(5,[0,1,2,3,4]),(6,[0,1,2,3]),(7,[0,1,2,3,6]),(8,[0,1,2,3,6,7]),(9,[0,1,2,3,4,5,6,7,8]),(10,[0,1,2,3,4,5,6,7,8,9]),(11,[0,1,2,3,4,5,6,7,8,9,10]),(12,[0,1,2,3,4,5,6,7,8,9,10,11]),(13,[0,1,2,3,4,5,6,7,8,9,10,11,12]),(14,[0,1,2,3,4,5,6,7,8,9,10,11,12,13]),(15,[0,1,2,3,4,5,6,7,8,9,10,11,12,13,14]),(16,[0,1,2,3,4,5,6,7,8,9,10,11,12,13,14,15]),(17,[0,1,2,3,4,5,6,7,8,9,10,11,12,13,14,15,16]),(18,[0,1,2,3,4,5,6,7,8,9,10,11,12,13,14,15,16,17]),(19,[0,1,2,3,4,5,6,7,8,9,10,11,12,13,14,15,16]),(20,[0,1,2,3,4,5,6,7,8,9,10,11,12,13,14,15,16,19]),(21,[0,1,2,3,4,5,6,7,8,9,10,11,12,13,14,15,16,19,20]),(22,[0,1,2,3,4,5,6,7,8,9,10,11,12,13,14,15,16,17,18,19,20,21]),(23,[0,1,2,3,4,5,6,7,8,9,10,11,12,13,14,15,16,17,18,19,20,21,22]),(24,[0,1,2,3,4,5,6,7,8,9,10,11,12,13,14,15,16,17,18,19,20,21,22,23]),(25,[0,1,2,3,4,5,6,7,8,9,10,11,12,13,14,15,16,17,18,19,20,21,22,23,24]),(26,[0,1,2,3,4,5,6,7,8,9,10,11,12,13,14,15,16,17,18,19,20,21,22,23,24,25]),(27,[0,1,2,3,4,5,6,7,8,9,10,11,12,13,14,15,16,17,18,19,20,21,22,23,24]),(28,[0,1,2,3,4,5,6,7,8,9,10,11,12,13,14,15,16,17,18,19,20,21,22,23,24,27]),(29,[0,1,2,3,4,5,6,7,8,9,10,11,12,13,14,15,16,17,18,19,20,21,22,23,24,25,26,27,28]),(30,[0,1,2,3,4,5,6,7,8,9,10,11,12,13,14,15,16,17,18,19,20,21,22,23,24,25,26,27,28,29]),(31,[0,1,2,3,4,5,6,7,8,9,10,11,12,13,14,15,16,17,18,19,20,21,22,23,24,25,26,27,28,29,30]),(32,[0,1,2,3,4,5,6,7,8,9,10,11,12,13,14,15,16,17,18,19,20,21,22,23,24,25,26,27,28,29,30,31]),(33,[0,1,2,3,4,5,6,7,8,9,10,11,12,13,14,15,16,17,18,19,20,21,22,23,24]),(34,[0,1,2,3,4,5,6,7,8,9,10,11,12,13,14,15,16,17,18,19,20,21,22,23,24,33]),(35,[0,1,2,3,4,5,6,7,8,9,10,11,12,13,14,15,16,17,18,19,20,21,22,23,24,25,26,27,28,29,30,31,32,33,34]),(36,[0,1,2,3,4,5,6,7,8,9,10,11,12,13,14,15,16,17,18,19,20,21,22,23,24,25,26,27,28,29,30,31,32,33,34,35])]] <| br h (fun h4 h=>go [] [] <| rt h) fun h4 h=>
  go [4] [] <| jn (wj21x1 h)
def R35 (y0 : (List Bool)) : D:= .sl false (y0.map Z2u)
def Zhz (t2 : Int × (List Bool)) (v33 : Z46) : Option (Ctl (Int × (List Bool)) (((List Bool)))):=
  (Z2r v33.f_A t2.2.length).bind fun v40=>
  (t2.2[v40]?).bind fun v41=>
  (Z2r v33.f_B (t2.2.set v40 true).length).bind fun v42=>
  ((t2.2.set v40 true)[v42]?).bind fun v43=>
  (some (IntKind.wrap .i64 (t2.1 + (1 : Int)))).bind fun v44=>
  some (.next (v44,((t2.2.set v40 true).set v42 true)))
def Zj0 (x0 : Z0c) (x1 : List UInt8) (t2 : Int × (List Bool)) : Option (Ctl (Int × (List Bool)) (((List Bool)))):=
  if (decide (t2.1 < (x0.Z3p.length : Int))) = true then
    ((Z0g x0.Z3p t2.1).bind fun v33=>
    if (v33.Z02 == x1) = true then ((Z2r v33.f_A t2.2.length).bind fun v34=>
      (t2.2[v34]?).bind fun v35=>
      if v35 = true then ((Zhz t2 v33)) else
      ((Z2r v33.f_B t2.2.length).bind fun v36=>
        (t2.2[v36]?).bind fun v37=>
        if v37 = true then
          ((Zhz t2 v33)) else
        ((some (IntKind.wrap .i64 (t2.1 + (1 : Int)))).bind fun v38=>
          some (.next (v38,t2.2))))) else
    ((some (IntKind.wrap .i64 (t2.1 + (1 : Int)))).bind fun v39=>
      some (.next (v39,t2.2)))) else
  (some (.done (t2.2)))
def Zew (x0 : Z0c) (x1 : List UInt8) (t0 : Int × (List Bool)) : Option (Ctl (Int × (List Bool)) (((List Bool)))):=
  if (decide (t0.1 < (x0.Z23.length : Int))) = true then
    ((Z0d (Zj0 x0 x1) Z0i (0,t0.2)).bind fun q2=>
    (some (IntKind.wrap .i64 (t0.1 + (1 : Int)))).bind fun v45=>
    some (.next (v45,q2))) else
  (some (.done (t0.2)))
def Zgc (x0 : Z0c) (x1 : List UInt8) (x2 : Int) : Option ((List Bool)):=
  (Z6n 1 (x0.Z23.length : Int) (x0.Z23.length : Int)).bind fun v0=>
  (Z2r x2 (List.replicate (x0.Z23.length : Int).toNat false).length).bind fun v1=>
  ((List.replicate (x0.Z23.length : Int).toNat false)[v1]?).bind fun v2=>
  (Z0d (Zew x0 x1) Z0i (0,((List.replicate (x0.Z23.length : Int).toNat false).set v1 true))).bind fun q4=>
  some q4
def Zkx (t0 : Int × (List Bool)) (x0 : Z0c) (x1 : List UInt8) : (Int × (List Bool)) → SL:=
  fun t2=>⟨64,[(1,.str x1),(3,.ptr (Z1x x0)),(7,.lsl 7 0 ((t2.2.map Z2u).length)),(8,dI t0.1),(9,dI t2.1)],[(7,{ sz:=1,rows:=(t2.2.map Z2u),frz:=0,pure:=true })]⟩
def J35x2 (t0 : Int × (List Bool)) (x0 : Z0c) (x1 : List UInt8) : JT (((List Bool))):=
  je 2 fun q2 : (List Bool)=>⟨64,[(1,.str x1),(3,.ptr (Z1x x0)),(7,.lsl 7 0 ((q2.map Z2u).length)),(8,dI t0.1)],[(7,{ sz:=1,rows:=(q2.map Z2u),frz:=0,pure:=true })]⟩
theorem Zpm (t0 : Int × (List Bool)) (x0 : Z0c) (x1 : List UInt8) {t2 : Int × (List Bool)} {v33 : Z46} {r : Ctl (Int × (List Bool)) (((List Bool)))} {Γ : Ctx} (h : (Zhz t2 v33) = some r) : Jn Tryz.prog Tryz.f35 Γ (Rd (Zkx t0 x0 x1) (J35x2 t0 x0 x1) r) 1254551 ⟨64,[(1,.str x1),(3,.ptr (Z1x x0)),(7,.lsl 7 0 ((t2.2.map Z2u).length)),(8,dI t0.1),(9,dI t2.1),(10,.lptr 10 0 0)],[(7,{ sz:=1,rows:=(t2.2.map Z2u),frz:=0,pure:=true }),(10,{ sz:=3,rows:=[Z5p v33],frz:=0,pure:=false })]⟩:=
  so <| bd h fun v40 e41 h=>bd h fun v41 e42 h=>go [12] [rg 11 [(3,ia 7 e41),(4,st e42 0 [.bool true] true)]] <| nm (congrArg (fun nn : Nat=>(⟨64,[(1,.str x1),(3,.ptr (Z1x x0)),(7,.lsl 7 0 nn),(8,dI t0.1),(9,dI t2.1),(10,.lptr 10 0 0)],[(7,{ sz:=1,rows:=((t2.2.set v40 true).map Z2u),frz:=0,pure:=true }),(10,{ sz:=3,rows:=[Z5p v33],frz:=0,pure:=false })]⟩ : SL)) (by simp only [List.length_map,List.length_set] : (t2.2.map Z2u).length = ((t2.2.set v40 true).map Z2u).length)) <| so <| bd h fun v42 e43 h=>bd h fun v43 e44 h=>go [8] [rg 12 [(3,ia 7 e43),(4,st e44 0 [.bool true] true)]] <| nm (congrArg (fun nn : Nat=>(⟨64,[(1,.str x1),(3,.ptr (Z1x x0)),(7,.lsl 7 0 nn),(8,dI t0.1),(9,dI t2.1)],[(7,{ sz:=1,rows:=(((t2.2.set v40 true).set v42 true).map Z2u),frz:=0,pure:=true })]⟩ : SL)) (by simp only [List.length_map,List.length_set] : ((t2.2.set v40 true).map Z2u).length = (((t2.2.set v40 true).set v42 true).map Z2u).length)) <| so <| bd h fun v44 e45 h=>go [] [rg 8 [(1,n e45)]] <| nx h
theorem wl35x2 (t0 : Int × (List Bool)) {x0 : Z0c} {x1 : List UInt8} {t2 : Int × (List Bool)} {r : Ctl (Int × (List Bool)) (((List Bool)))} {Γ : Ctx} (h : (Zj0 x0 x1) t2 = some r) : A Tryz.prog Γ (lpC Tryz.f35 5271) [] (Rd (Zkx t0 x0 x1) (J35x2 t0 x0 x1) r) ((Zkx t0 x0 x1) t2).s:=
  go [] [rg 7 [(3,ln x0.Z3p)]] <| br h (fun h14 h=>bd h fun v33 e34 h=>go [10] [rg 9 [(3,ix e34)]] <| po <| pr 5 [] <| sp h (fun h15 h=>bd h fun v34 e35 h=>bd h fun v35 e36 h=>pr 6 [(5,gw h15 g0),(6,gw h15 g0),(7,gw h15 g0),(8,gw h15 (ia 7 e35)),(9,gw h15 (lb e36)),(10,gw h15 g0)] <| sp h (fun h16 h=>pr 7 [(11,gs0 h16),(12,gs0 h16),(13,gs0 h16),(14,gs0 h16),(15,gs0 h16),(16,gw h15 (py h16)),(17,py h15)] <| pe <| goN [] [] <| bT rfl <| go [11] [] <| jn ((Zpm t0 x0 x1) h)) fun h16 h=>
      bd h fun v36 e37 h=>bd h fun v37 e38 h=>pr 7 [(11,gw h16 g0),(12,gw h16 g0),(13,gw h16 g0),(14,gw h16 (ia 7 e37)),(15,gw h16 (lb e38)),(16,gw h15 (pn h16)),(17,py h15)] <| pe <| goN [] [] <| br h (fun h17 h=>go [11] [] <| jn ((Zpm t0 x0 x1) h)) fun h17 h=>
        bd h fun v38 e39 h=>go [] [rg 8 [(1,n e39)]] <| nx h) fun h15 h=>
    pr 13 [(5,gs1 h15),(6,gs1 h15),(7,gs1 h15),(8,gs1 h15),(9,gs1 h15),(10,gs1 h15),(16,gs1 h15),(17,pn h15)] <| pe <| goN [] [] <| bF rfl <| bd h fun v39 e40 h=>go [] [rg 8 [(1,n e40)]] <| nx h) fun h14 h=>
  go [] [] <| dn h (iE)
def Zpt (x0 : Z0c) (x1 : List UInt8) : (Int × (List Bool)) → SL:=
  fun t0=>⟨64,[(1,.str x1),(3,.ptr (Z1x x0)),(7,.lsl 7 0 ((t0.2.map Z2u).length)),(8,dI t0.1)],[(7,{ sz:=1,rows:=(t0.2.map Z2u),frz:=0,pure:=true })]⟩
def J35x1 : JT (((List Bool))):=
  je 0 fun q4 : (List Bool)=>⟨64,[(7,.lsl 7 0 ((q4.map Z2u).length))],[(7,{ sz:=1,rows:=(q4.map Z2u),frz:=0,pure:=true })]⟩
theorem wl35x1 {x0 : Z0c} {x1 : List UInt8} {t0 : Int × (List Bool)} {r : Ctl (Int × (List Bool)) (((List Bool)))} {Γ : Ctx} (h : (Zew x0 x1) t0 = some r) : A Tryz.prog Γ (lpC Tryz.f35 87) [] (Rd (Zpt x0 x1) J35x1 r) ((Zpt x0 x1) t0).s:=
  go [] [rg 4 [(3,ln x0.Z23)]] <| br h (fun h9 h=>go [] [] <| bd h fun q2 e46 h=>lp e46 (wl35x2 t0) <| qe <| bd h fun v45 e47 h=>goN [] [rg 5 [(1,n e47)]] <| nx h) fun h9 h=>
  go [] [] <| dn h (iE)
theorem w35 {x0 : Z0c} {x1 : List UInt8} {x2 : Int} {r : (List Bool)} (h : Zgc x0 x1 x2 = some r) : Z0e Tryz.prog 35 [.agg (Z1x x0),.str x1,dI x2] (R35 r):=
  cs Tryz.f35 <| bd h fun v0 e0 h=>bd h fun v1 e1 h=>bd h fun v2 e2 h=>go [3] [rg 0 [(0,bo)],rg 1 [(2,ln x0.Z23),(3,mk false e0)],rg 2 [(2,ia 14 e1),(3,st e2 0 [.bool true] true)]] <| nm (congrArg (fun nn : Nat=>(⟨64,[(1,.str x1),(3,.ptr (Z1x x0)),(7,.lsl 14 0 nn)],[(14,{ sz:=1,rows:=(((List.replicate (x0.Z23.length : Int).toNat false).set v1 true).map Z2u),frz:=0,pure:=true })]⟩ : SL)) (by simp only [List.length_map,List.length_set] : ((List.replicate (x0.Z23.length : Int).toNat false).map Z2u).length = (((List.replicate (x0.Z23.length : Int).toNat false).set v1 true).map Z2u).length)) <| so <| go [] [] <| bd h fun q4 e48 h=>lp (ps:=[(14,7)]) e48 wl35x1 <| qe <| goN [] [] <| rtB h (rw_ q4) (a2 (rpI q4) trivial) (by simp only [rwE] <;> kernel_rfl)
def R22 (y0 : Bool) : D:= .bool y0
def Zf4 (v0 : Z2k) (v1 : (List Bool)) (x0 : Z0c) (x1 t0 : Int) : Option (Ctl (Int) (Unit ⊕ Bool)):=
  if (decide (t0 < x1)) = true then
    ((Z0g x0.Z2p t0).bind fun v4=>
    if (v4.Z02 == v0.Z02) = true then ((Z0g v1 v4.Z0u).bind fun v5=>
      if v5 = true then (if (v4.Z1f != v0.Z1f) = true then
          (some (.done (.inr false))) else
        ((some (IntKind.wrap .i64 (t0 + (1 : Int)))).bind fun v6=>
          some (.next v6))) else
      ((some (IntKind.wrap .i64 (t0 + (1 : Int)))).bind fun v7=>
        some (.next v7))) else
    ((some (IntKind.wrap .i64 (t0 + (1 : Int)))).bind fun v8=>
      some (.next v8))) else
  (some (.done (.inl (()))))
def Zf3 (x0 : Z0c) (x1 : Int) : Option (Bool):=
  (Z0g x0.Z2p x1).bind fun v0=>
  (Zgc x0 v0.Z02 v0.Z0u).bind fun v1=>
  (Z0d (Zf4 v0 v1 x0 x1) Z0i 0).bind fun q1=>
  match q1 with
  | .inl q0=>(some true)
  | .inr y0=>(some y0)
def Zr7 (v0 : Z2k) (v1 : (List Bool)) (x0 : Z0c) (x1 : Int) : Int → SL:=
  fun t0=>⟨49,[(1,dI x1),(2,.ptr (Z1x x0)),(5,.lptr 5 0 0),(6,.sl false (v1.map Z2u)),(7,dI t0)],[(5,{ sz:=3,rows:=[Z58 v0],frz:=0,pure:=false })]⟩
def J22x1 : JT (Unit ⊕ Bool):=
  ju (je 0 fun q0 : Unit=>⟨49,[],[]⟩) (jr Tryz.prog Tryz.f22 R22)
theorem wl22x1 {v0 : Z2k} {v1 : (List Bool)} {x0 : Z0c} {x1 t0 : Int} {r : Ctl (Int) (Unit ⊕ Bool)} {Γ : Ctx} (h : (Zf4 v0 v1 x0 x1) t0 = some r) : A Tryz.prog Γ (lpC Tryz.f22 87) [] (Rd (Zr7 v0 v1 x0 x1) J22x1 r) ((Zr7 v0 v1 x0 x1) t0).s:=
  go [] [] <| br h (fun h4 h=>bd h fun v4 e4 h=>go [7] [rg 6 [(3,ix e4)]] <| po <| pr 6 [] <| sp h (fun h5 h=>bd h fun v5 e5 h=>pr 7 [(6,gw h5 g0),(7,gw h5 g0),(8,gw h5 g0),(9,gw h5 (ix e5)),(10,gw h5 g0),(11,py h5)] <| sp h (fun h6 h=>pr 6 [(13,gw h6 g0),(14,gw h6 g0),(15,gw h6 g0),(16,gw h6 g0),(17,gw h6 g0),(18,py h6)] <| pe <| goN [] [] <| br h (fun h7 h=>go [] [] <| dn h (i2 iR)) fun h7 h=>
        bd h fun v6 e6 h=>go [] [rg 5 [(1,n e6)]] <| nx h) fun h6 h=>
      pr 6 [(13,gs1 h6),(14,gs1 h6),(15,gs1 h6),(16,gs1 h6),(17,gs1 h6),(18,pn h6)] <| pe <| goN [] [] <| bF rfl <| bd h fun v7 e7 h=>go [] [rg 5 [(1,n e7)]] <| nx h) fun h5 h=>
    pr 13 [(6,gs1 h5),(7,gs1 h5),(8,gs1 h5),(9,gs1 h5),(10,gs1 h5),(11,pn h5)] <| pe <| goN [] [] <| bF rfl <| bd h fun v8 e8 h=>go [] [rg 5 [(1,n e8)]] <| nx h) fun h4 h=>
  go [] [] <| dn h (i1 iE)
theorem w22 {x0 : Z0c} {x1 : Int} {r : Bool} (h : Zf3 x0 x1 = some r) : Z0e Tryz.prog 22 [.agg (Z1x x0),dI x1] (R22 r):=
  cs Tryz.f22 <| bd h fun v0 e0 h=>bd h fun v1 e1 h=>go [] [rg 0 [(0,bo)],rg 1 [(3,ix e0)],rg 2 [(5,k (w35 e1))]] <| bd h fun q1 e9 h=>lp e9 wl22x1 <| match q1,h with
  | .inl q0,h=>j1 <| (qe <| goN [] [] <| rt h)
  | .inr y0,h=>j2 <| (qr h)
def R53 (y0 : Bool) : D:= .bool y0
def Zfv (x0 : List Z0f) (t0 : Int) : Option (Ctl (Int) (Unit ⊕ Bool)):=
  if (decide (t0 < (x0.length : Int))) = true then
    ((Z0g x0 t0).bind fun v1=>
    if (v1.Z34 != 0) = true then
      (some (.done (.inr false))) else
    ((some (IntKind.wrap .i64 (t0 + (1 : Int)))).bind fun v2=>
      some (.next v2))) else
  (some (.done (.inl (()))))
def Ze0 (x0 : List Z0f) : Option (Bool):=
  (Z0d (Zfv x0) Z0i 0).bind fun q1=>
  match q1 with
  | .inl q0=>(some true)
  | .inr y0=>(some y0)
def Zrg (x0 : List Z0f) : Int → SL:=
  fun t0=>⟨16,[(0,.sl false (x0.map Z1s)),(3,dI t0)],[]⟩
def J53x1 : JT (Unit ⊕ Bool):=
  ju (je 0 fun q0 : Unit=>⟨16,[],[]⟩) (jr Tryz.prog Tryz.f53 R53)
theorem wl53x1 {x0 : List Z0f} {t0 : Int} {r : Ctl (Int) (Unit ⊕ Bool)} {Γ : Ctx} (h : (Zfv x0) t0 = some r) : A Tryz.prog Γ (lpC Tryz.f53 21) [] (Rd (Zrg x0) J53x1 r) ((Zrg x0) t0).s:=
  go [] [rg 2 [(2,ln x0)]] <| br h (fun h2 h=>bd h fun v1 e1 h=>go [] [rg 4 [(2,ix e1)]] <| br h (fun h3 h=>go [] [] <| dn h (i2 iR)) fun h3 h=>
    bd h fun v2 e2 h=>go [] [rg 3 [(1,n e2)]] <| nx h) fun h2 h=>
  go [] [] <| dn h (i1 iE)
theorem w53 {x0 : List Z0f} {r : Bool} (h : Ze0 x0 = some r) : Z0e Tryz.prog 53 [.sl false (x0.map Z1s)] (R53 r):=
  cs Tryz.f53 <| go [] [] <| bd h fun q1 e3 h=>lp e3 wl53x1 <| match q1,h with
  | .inl q0,h=>j1 <| (qe <| goN [] [] <| rt h)
  | .inr y0,h=>j2 <| (qr h)
def R47 (y0 : Bool) : D:= .bool y0
def Zhs (t0 : Int) (v1 : Z13) (p1 : Bool) : Option (Ctl (Int) (Unit ⊕ Bool)):=
  if (!p1) = true then (if (v1.Z5v != 8) = true then (if (v1.Z5v != 0) = true then (some (.done (.inr false))) else
      (if (v1.f_N != 0) = true then (some (.done (.inr false))) else
        (if (!(v1.f_S == ([] : List UInt8))) = true then (some (.done (.inr false))) else
          ((some (IntKind.wrap .i64 (t0 + (1 : Int)))).bind fun v2=>
            some (.next v2))))) else
    (if (v1.f_N != 0) = true then (some (.done (.inr false))) else
      (if (!(v1.f_S == ([] : List UInt8))) = true then ((some (IntKind.wrap .i64 (t0 + (1 : Int)))).bind fun v3=>
          some (.next v3)) else
        ((some (IntKind.wrap .i64 (t0 + (1 : Int)))).bind fun v4=>
          some (.next v4))))) else
  (if (v1.f_N != 0) = true then (if (!(v1.f_S == ([] : List UInt8))) = true then (if (v1.Z5v != 8) = true then
          (some (.done (.inr false))) else
        ((some (IntKind.wrap .i64 (t0 + (1 : Int)))).bind fun v5=>
          some (.next v5))) else
      ((some (IntKind.wrap .i64 (t0 + (1 : Int)))).bind fun v6=>
        some (.next v6))) else
    (if (!(v1.f_S == ([] : List UInt8))) = true then (if (v1.Z5v != 8) = true then
          (some (.done (.inr false))) else
        ((some (IntKind.wrap .i64 (t0 + (1 : Int)))).bind fun v7=>
          some (.next v7))) else
      ((some (IntKind.wrap .i64 (t0 + (1 : Int)))).bind fun v8=>
        some (.next v8))))
def Zgw (x0 : Z0j) (t0 : Int) : Option (Ctl (Int) (Unit ⊕ Bool)):=
  if (decide (t0 < (x0.Z0n.length : Int))) = true then
    ((Z0g x0.Z0n t0).bind fun v1=>
    if (v1.Z5v == 3) = true then ((Zhs t0 v1) true) else
    ((Zhs t0 v1) (v1.Z5v == 5))) else
  (some (.done (.inl (()))))
def Zeo (v26 : Z0x) (t4 : Int) : Option (Ctl (Int) (Unit ⊕ Bool)):=
  if (decide (t4 < (v26.Z2m.Z1n.length : Int))) = true then
    ((Z0g v26.Z2m.Z1n t4).bind fun v32=>
    if (v32.Z1f != 0) = true then
      (some (.done (.inr false))) else
    ((some (IntKind.wrap .i64 (t4 + (1 : Int)))).bind fun v33=>
      some (.next v33))) else
  (some (.done (.inl (()))))
def Zhg (v26 : Z0x) (t5 : Int) : Option (Ctl (Int) (Unit ⊕ Bool)):=
  if (decide (t5 < (v26.Z2m.Z18.length : Int))) = true then
    ((Z0g v26.Z2m.Z18 t5).bind fun v38=>
    (Ze0 v38.Z1p.Z0v).bind fun v39=>
    if (!v39) = true then (some (.done (.inr false))) else
    ((Z0g v26.Z2m.Z18 t5).bind fun v40=>
    (Ze0 v40.Z1p.Z10).bind fun v41=>
    if (!v41) = true then
      (some (.done (.inr false))) else
    ((some (IntKind.wrap .i64 (t5 + (1 : Int)))).bind fun v42=>
      some (.next v42)))) else
  (some (.done (.inl (()))))
def Zfj (t1 : Int) (v26 : Z0x) : Option (Ctl (Int) (Unit ⊕ Bool)):=
  (Z0d (Zeo v26) Z0i 0).bind fun q7=>
  match q7 with
  | .inl q6=>((Z0d (Zhg v26) Z0i 0).bind fun q9=>
    match q9 with
    | .inl q8=>((some (IntKind.wrap .i64 (t1 + (1 : Int)))).bind fun v43=>
      some (.next v43))
    | .inr y2=>(some (.done (.inr y2))))
  | .inr y3=>(some (.done (.inr y3)))
def Zhj (x0 : Z0j) (t1 : Int) : Option (Ctl (Int) (Unit ⊕ Bool)):=
  if (decide (t1 < (x0.Z0m.length : Int))) = true then
    ((Z0g x0.Z0m t1).bind fun v26=>
    (Z0g x0.Z0m t1).bind fun v27=>
    if (!v27.Z9e) = true then (if (v26.Z2m.Z10 != 0) = true then (some (.done (.inr false))) else
      (if (v26.Z2m.Z0v != 0) = true then (some (.done (.inr false))) else
        ((some (IntKind.wrap .i64 ((v26.Z2m.Z0q.length : Int) + (v26.Z2m.Z1n.length : Int)))).bind fun v28=>
          (some (IntKind.wrap .i64 (v28 + (v26.Z2m.Z18.length : Int)))).bind fun v29=>
          (some (IntKind.wrap .i64 (v29 + (v26.Z2m.Z1h.length : Int)))).bind fun v30=>
          if (decide (v30 > 0)) = true then
            (some (.done (.inr false))) else
          ((Zfj t1 v26))))) else
    ((Zfj t1 v26))) else
  (some (.done (.inl (()))))
def Zhb (x0 : Z0j) : Option (Bool):=
  (Z0d (Zgw x0) Z0i 0).bind fun q1=>
  match q1 with
  | .inl q0=>((Z0d (Zhj x0) Z0i 0).bind fun q11=>
    match q11 with
    | .inl q10=>(some true)
    | .inr y4=>(some y4))
  | .inr y5=>(some y5)
def Zo4 (x0 : Z0j) : Int → SL:=
  fun t0=>⟨150,[(1,.ptr (Z2n x0)),(3,dI t0)],[]⟩
def J47x1 (x0 : Z0j) : JT (Unit ⊕ Bool):=
  ju (je 0 fun q0 : Unit=>⟨150,[(1,.ptr (Z2n x0))],[]⟩) (jr Tryz.prog Tryz.f47 R47)
theorem Zod (x0 : Z0j) {t0 : Int} {v1 : Z13} {p1 : Bool} {r : Ctl (Int) (Unit ⊕ Bool)} {Γ : Ctx} (h : (Zhs t0 v1) p1 = some r) : Jn Tryz.prog Tryz.f47 Γ (Rd (Zo4 x0) (J47x1 x0) r) 2853 ⟨150,[(1,.ptr (Z2n x0)),(3,dI t0),(4,.lptr 4 0 0),(5,.bool p1)],[(4,{ sz:=6,rows:=[Z7n v1],frz:=0,pure:=false })]⟩:=
  po <| pr 3 [] <| sp h (fun h16 h=>pr 5 [(3,gw h16 g0),(4,gw h16 g0),(5,gw h16 g0),(6,py h16)] <| sp h (fun h17 h=>pr 5 [(8,gw h17 g0),(9,gw h17 g0),(10,gw h17 g0),(11,py h17)] <| sp h (fun h18 h=>pr 18 [(13,gs0 h18),(14,gs0 h18),(15,gs0 h18),(16,gs0 h18),(19,gs0 h18),(20,py h18)] <| pe <| goN [] [] <| bT rfl <| go [] [] <| dn h (i2 iR)) fun h18 h=>
      pr 4 [(13,gw h18 g0),(14,gw h18 g0),(15,gw h18 g0),(16,gw h18 g0)] <| sp h (fun h19 h=>pr 14 [(17,gw h19 g0),(18,gw h19 g0),(19,gw h18 (py h19)),(20,pn h18),(22,gs0 h16),(23,gs0 h16),(24,gs0 h16),(25,gs0 h16),(29,gs0 h16),(30,py h16)] <| pe <| goN [] [] <| bT rfl <| go [] [] <| dn h (i2 iR)) fun h19 h=>
        pr 9 [(17,gs1 h19),(18,gs1 h19),(19,gw h18 (pn h19)),(20,pn h18)] <| sp h (fun h20 h=>pr 5 [(26,gw h20 g0),(27,gw h20 g0),(28,gw h20 (kb h17)),(29,py h20)] <| pe <| goN [] [] <| bT rfl <| go [] [] <| dn h (i2 iR)) fun h20 h=>
          pr 5 [(26,gs1 h20),(27,gs1 h20),(28,gs1 h20),(29,pn h20)] <| pe <| goN [] [] <| bF rfl <| bd h fun v2 e2 h=>go [] [rg 3 [(1,n e2)]] <| nx h) fun h17 h=>
    pr 9 [(8,gs1 h17),(9,gs1 h17),(10,gs1 h17),(11,pn h17)] <| sp h (fun h21 h=>pr 14 [(17,gw h21 g0),(18,gw h21 g0),(19,py h21),(22,gs0 h16),(23,gs0 h16),(24,gs0 h16),(25,gs0 h16),(29,gs0 h16),(30,py h16)] <| pe <| goN [] [] <| bT rfl <| go [] [] <| dn h (i2 iR)) fun h21 h=>
      pr 9 [(17,gs1 h21),(18,gs1 h21),(19,pn h21)] <| sp h (fun h22 h=>pr 5 [(26,gw h22 g0),(27,gw h22 g0),(28,gw h22 (kb h17)),(29,py h22)] <| pe <| goN [] [] <| bF rfl <| bd h fun v3 e3 h=>go [] [rg 3 [(1,n e3)]] <| nx h) fun h22 h=>
        pr 5 [(26,gs1 h22),(27,gs1 h22),(28,gs1 h22),(29,pn h22)] <| pe <| goN [] [] <| bF rfl <| bd h fun v4 e4 h=>go [] [rg 3 [(1,n e4)]] <| nx h) fun h16 h=>
  pr 14 [(3,gs1 h16),(4,gs1 h16),(5,gs1 h16),(6,pn h16)] <| sp h (fun h23 h=>pr 9 [(17,gw h23 g0),(18,gw h23 g0),(19,py h23),(22,gw h16 g0),(23,gw h16 g0),(24,gw h16 g0),(25,gw h16 g0)] <| sp h (fun h24 h=>pr 5 [(26,gw h24 g0),(27,gw h24 g0),(28,gw h24 g0),(29,gw h16 (py h24)),(30,pn h16)] <| pe <| goN [] [] <| br h (fun h25 h=>go [] [] <| dn h (i2 iR)) fun h25 h=>
        bd h fun v5 e5 h=>go [] [rg 3 [(1,n e5)]] <| nx h) fun h24 h=>
      pr 5 [(26,gs1 h24),(27,gs1 h24),(28,gs1 h24),(29,gw h16 (pn h24)),(30,pn h16)] <| pe <| goN [] [] <| bF rfl <| bd h fun v6 e6 h=>go [] [rg 3 [(1,n e6)]] <| nx h) fun h23 h=>
    pr 9 [(17,gs1 h23),(18,gs1 h23),(19,pn h23)] <| sp h (fun h26 h=>pr 5 [(26,gw h26 g0),(27,gw h26 g0),(28,gw h26 g0),(29,py h26)] <| pe <| goN [] [] <| br h (fun h27 h=>go [] [] <| dn h (i2 iR)) fun h27 h=>
        bd h fun v7 e7 h=>go [] [rg 3 [(1,n e7)]] <| nx h) fun h26 h=>
      pr 5 [(26,gs1 h26),(27,gs1 h26),(28,gs1 h26),(29,pn h26)] <| pe <| goN [] [] <| bF rfl <| bd h fun v8 e8 h=>go [] [rg 3 [(1,n e8)]] <| nx h
theorem wl47x1 {x0 : Z0j} {t0 : Int} {r : Ctl (Int) (Unit ⊕ Bool)} {Γ : Ctx} (h : (Zgw x0) t0 = some r) : A Tryz.prog Γ (lpC Tryz.f47 21) [] (Rd (Zo4 x0) (J47x1 x0) r) ((Zo4 x0) t0).s:=
  go [] [rg 2 [(3,ln x0.Z0n)]] <| br h (fun h14 h=>bd h fun v1 e1 h=>sp h (fun h15 h=>go [6] [rg 4 [(3,ix e1)],rg 5 [(2,kb h15)]] <| jn ((Zod x0) h)) fun h15 h=>
    go [6] [rg 4 [(3,ix e1)],rg 5 [(2,kb h15)]] <| jn ((Zod x0) h)) fun h14 h=>
  go [] [] <| dn h (i1 iE)
def Zrl (t1 : Int) (v26 : Z0x) (x0 : Z0j) : Int → SL:=
  fun t4=>⟨150,[(1,.ptr (Z2n x0)),(6,dI t1),(7,.lptr 7 0 0),(8,dI t4)],[(7,{ sz:=6,rows:=[Z17 v26.Z2m],frz:=0,pure:=false })]⟩
def J47x3 (t1 : Int) (v26 : Z0x) (x0 : Z0j) : JT (Unit ⊕ Bool):=
  ju (je 4 fun q6 : Unit=>⟨150,[(1,.ptr (Z2n x0)),(6,dI t1),(7,.lptr 7 0 0)],[(7,{ sz:=6,rows:=[Z17 v26.Z2m],frz:=0,pure:=false })]⟩) (jr Tryz.prog Tryz.f47 R47)
theorem wl47x3 (t1 : Int) (x0 : Z0j) {v26 : Z0x} {t4 : Int} {r : Ctl (Int) (Unit ⊕ Bool)} {Γ : Ctx} (h : (Zeo v26) t4 = some r) : A Tryz.prog Γ (lpC Tryz.f47 22091) [] (Rd (Zrl t1 v26 x0) (J47x3 t1 v26 x0) r) ((Zrl t1 v26 x0) t4).s:=
  go [] [rg 15 [(3,ln v26.Z2m.Z1n)]] <| br h (fun h50 h=>bd h fun v32 e35 h=>go [] [rg 17 [(3,ix e35)]] <| br h (fun h51 h=>go [] [] <| dn h (i2 iR)) fun h51 h=>
    bd h fun v33 e36 h=>go [] [rg 16 [(1,n e36)]] <| nx h) fun h50 h=>
  go [] [] <| dn h (i1 iE)
def Zua (t1 : Int) (v26 : Z0x) (x0 : Z0j) : Int → SL:=
  fun t5=>⟨150,[(1,.ptr (Z2n x0)),(6,dI t1),(7,.lptr 7 0 0),(9,dI t5)],[(7,{ sz:=6,rows:=[Z17 v26.Z2m],frz:=0,pure:=false })]⟩
def J47x4 (t1 : Int) (x0 : Z0j) : JT (Unit ⊕ Bool):=
  ju (je 6 fun q8 : Unit=>⟨150,[(1,.ptr (Z2n x0)),(6,dI t1)],[]⟩) (jr Tryz.prog Tryz.f47 R47)
theorem wl47x4 (t1 : Int) (x0 : Z0j) {v26 : Z0x} {t5 : Int} {r : Ctl (Int) (Unit ⊕ Bool)} {Γ : Ctx} (h : (Zhg v26) t5 = some r) : A Tryz.prog Γ (lpC Tryz.f47 24139) [] (Rd (Zua t1 v26 x0) (J47x4 t1 x0) r) ((Zua t1 v26 x0) t5).s:=
  go [] [rg 20 [(3,ln v26.Z2m.Z18)]] <| br h (fun h55 h=>bd h fun v38 e42 h=>bd h fun v39 e43 h=>sp h (fun h56 h=>go [] [rg 22 [(3,ix e42),(7,k (w53 e43)),(10,gs0 h56),(11,gs0 h56),(12,gs0 h56),(13,gs0 h56),(14,gs0 h56),(15,gs0 h56),(16,gs0 h56),(17,gs0 h56),(18,gs0 h56),(19,py h56)]] <| bT rfl <| go [] [] <| dn h (i2 iR)) fun h56 h=>
    bd h fun v40 e44 h=>bd h fun v41 e45 h=>go [] [rg 22 [(3,ix e42),(7,k (w53 e43)),(10,gw h56 g0),(11,gw h56 g0),(12,gw h56 g0),(13,gw h56 (ix e44)),(14,gw h56 g0),(15,gw h56 g0),(16,gw h56 g0),(17,gw h56 (k (w53 e45))),(18,gw h56 g0),(19,pn h56)]] <| br h (fun h57 h=>go [] [] <| dn h (i2 iR)) fun h57 h=>
    bd h fun v42 e46 h=>go [] [rg 21 [(1,n e46)]] <| nx h) fun h55 h=>
  go [] [] <| dn h (i1 iE)
def Zm1 (x0 : Z0j) : Int → SL:=
  fun t1=>⟨150,[(1,.ptr (Z2n x0)),(6,dI t1)],[]⟩
def J47x2 : JT (Unit ⊕ Bool):=
  ju (je 2 fun q10 : Unit=>⟨150,[],[]⟩) (jr Tryz.prog Tryz.f47 R47)
theorem Zpx (x0 : Z0j) {t1 : Int} {v26 : Z0x} {r : Ctl (Int) (Unit ⊕ Bool)} {Γ : Ctx} (h : (Zfj t1 v26) = some r) : Jn Tryz.prog Tryz.f47 Γ (Rd (Zm1 x0) J47x2 r) 9803 ⟨150,[(1,.ptr (Z2n x0)),(6,dI t1),(7,.lptr 7 0 0)],[(7,{ sz:=6,rows:=[Z17 v26.Z2m],frz:=0,pure:=false })]⟩:=
  so <| go [] [] <| bd h fun q7 e37 h=>lp e37 (wl47x3 t1 x0) <| match q7,h with
  | .inl q6,h=>j1 <| (qe <| goN [] [] <| bd h fun q9 e47 h=>lp e47 (wl47x4 t1 x0) <| match q9,h with
    | .inl q8,h=>j1 <| (qe <| bd h fun v43 e48 h=>goN [] [rg 10 [(1,n e48)]] <| nx h)
    | .inr y2,h=>j2 <| (ql h fun _ _ p=>⟨(iS p).1,i2 ((iS p).2)⟩))
  | .inr y3,h=>j2 <| (ql h fun _ _ p=>⟨(iS p).1,i2 ((iS p).2)⟩)
theorem wl47x2 {x0 : Z0j} {t1 : Int} {r : Ctl (Int) (Unit ⊕ Bool)} {Γ : Ctx} (h : (Zhj x0) t1 = some r) : A Tryz.prog Γ (lpC Tryz.f47 43) [] (Rd (Zm1 x0) J47x2 r) ((Zm1 x0) t1).s:=
  go [] [rg 9 [(3,ln x0.Z0m)]] <| br h (fun h43 h=>bd h fun v26 e29 h=>go [12] [rg 11 [(3,ix e29)]] <| po <| bd h fun v27 e30 h=>pr 8 [(3,ix e30)] <| sp h (fun h44 h=>pr 4 [(8,gw h44 g0),(9,gw h44 g0),(10,gw h44 g0),(11,gw h44 g0)] <| sp h (fun h45 h=>pr 23 [(12,gs0 h45),(13,gs0 h45),(14,gs0 h45),(15,gw h44 (py h45)),(16,gw h44 g0),(33,gw h44 g0),(34,py h44)] <| pe <| goN [] [] <| bT rfl <| go [] [] <| dn h (i2 iR)) fun h45 h=>
      pr 5 [(12,gw h45 g0),(13,gw h45 g0),(14,gw h45 g0),(15,gw h44 (pn h45)),(16,gw h44 g0)] <| sp h (fun h46 h=>pr 18 [(17,gs0 h46),(18,gs0 h46),(19,gs0 h46),(20,gs0 h46),(21,gs0 h46),(22,gs0 h46),(23,gs0 h46),(24,gs0 h46),(25,gs0 h46),(26,gs0 h46),(27,gs0 h46),(28,gs0 h46),(29,gs0 h46),(30,gs0 h46),(31,gs0 h46),(32,gs0 h46),(33,gw h44 (py h46)),(34,py h44)] <| pe <| goN [] [] <| bT rfl <| go [] [] <| dn h (i2 iR)) fun h46 h=>
        bd h fun v28 e31 h=>bd h fun v29 e32 h=>bd h fun v30 e33 h=>pr 18 [(17,gw h46 g0),(18,gw h46 g0),(19,gw h46 (ln v26.Z2m.Z0q)),(20,gw h46 g0),(21,gw h46 g0),(22,gw h46 (ln v26.Z2m.Z1n)),(23,gw h46 (n e31)),(24,gw h46 g0),(25,gw h46 g0),(26,gw h46 (ln v26.Z2m.Z18)),(27,gw h46 (n e32)),(28,gw h46 g0),(29,gw h46 g0),(30,gw h46 (ln v26.Z2m.Z1h)),(31,gw h46 (n e33)),(32,gw h46 g0),(33,gw h44 (pn h46)),(34,py h44)] <| pe <| goN [] [] <| br h (fun h47 h=>go [] [] <| dn h (i2 iR)) fun h47 h=>
          go [14] [] <| jn ((Zpx x0) h)) fun h44 h=>
    pr 27 [(8,gs1 h44),(9,gs1 h44),(10,gs1 h44),(11,gs1 h44),(15,gs1 h44),(16,gs1 h44),(33,gs1 h44),(34,pn h44)] <| pe <| goN [] [] <| bF rfl <| go [14] [] <| jn ((Zpx x0) h)) fun h43 h=>
  go [] [] <| dn h (i1 iE)
theorem w47 {x0 : Z0j} {r : Bool} (h : Zhb x0 = some r) : Z0e Tryz.prog 47 [.agg (Z2n x0)] (R47 r):=
  cs Tryz.f47 <| go [] [rg 0 [(0,bo)]] <| bd h fun q1 e9 h=>lp e9 wl47x1 <| match q1,h with
  | .inl q0,h=>j1 <| (qe <| goN [] [] <| bd h fun q11 e49 h=>lp e49 wl47x2 <| match q11,h with
    | .inl q10,h=>j1 <| (qe <| goN [] [] <| rt h)
    | .inr y4,h=>j2 <| (qr h))
  | .inr y5,h=>j2 <| (qr h)
def R77 (y0 : (List Z00) × Int × Int) : D:= .tup [.sl false (y0.1.map Z09),.int .i64 y0.2.1,.int .i64 y0.2.2]
def Zic (x0 : List Z00) (x1 : Z00) (t0 : Int) : Option (Ctl (Int) (Unit ⊕ ((List Z00) × Int × Int))):=
  if (decide (t0 < (x0.length : Int))) = true then
    ((Z0g x0 t0).bind fun v1=>
    if (Zti v1 x1) = true then
      ((some (IntKind.wrap .i64 (t0 + (1 : Int)))).bind fun v2=>
      some (.done (.inr (x0,v2,0)))) else
    ((some (IntKind.wrap .i64 (t0 + (1 : Int)))).bind fun v3=>
      some (.next v3))) else
  (some (.done (.inl (()))))
def Z6y (x0 : List Z00) (x1 : Z00) : Option ((List Z00) × Int × Int):=
  (Z0d (Zic x0 x1) Z0i 0).bind fun q1=>
  match q1 with
  | .inl q0=>(if (decide ((x0.length : Int) ≥ 1000)) = true then
      (some (x0,0,5)) else
    ((some (IntKind.wrap .i64 ((x0.length : Int) + (1 : Int)))).bind fun v4=>
      (Z24 48 (([] : List Z00) ++ x0).length).bind fun v5=>
      (Z24 48 ((([] : List Z00) ++ x0) ++ [x1]).length).bind fun v6=>
      some (((([] : List Z00) ++ x0) ++ [x1]),v4,0)))
  | .inr y0=>(some y0)
def Zvy (x0 : List Z00) (x1 : Z00) : Int → SL:=
  fun t0=>⟨36,[(0,.sl false (x0.map Z09)),(3,.ptr (Z09 x1)),(7,dI t0)],[]⟩
def J77x1 (x0 : List Z00) (x1 : Z00) : JT (Unit ⊕ ((List Z00) × Int × Int)):=
  ju (je 0 fun q0 : Unit=>⟨36,[(0,.sl false (x0.map Z09)),(3,.ptr (Z09 x1))],[]⟩) (jr Tryz.prog Tryz.f77 R77)
theorem wl77x1 {x0 : List Z00} {x1 : Z00} {t0 : Int} {r : Ctl (Int) (Unit ⊕ ((List Z00) × Int × Int))} {Γ : Ctx} (h : (Zic x0 x1) t0 = some r) : A Tryz.prog Γ (lpC Tryz.f77 21) [] (Rd (Zvy x0 x1) (J77x1 x0 x1) r) ((Zvy x0 x1) t0).s:=
  go [] [rg 2 [(2,ln x0)]] <| br h (fun h2 h=>bd h fun v1 e1 h=>go [] [rgo 4 [(2,ix e1),(5,qs eqg_139 eqp_139 (Zti v1 x1))] [0,1,2,3,4,5] [] [(2,[0,1]),(3,[0,1,2]),(5,[0,1,2,3,4])]] <| br h (fun h3 h=>bd h fun v2 e2 h=>go [] [rg 5 [(2,n e2)]] <| dn h (i2 iR)) fun h3 h=>
    bd h fun v3 e3 h=>go [] [rg 3 [(1,n e3)]] <| nx h) fun h2 h=>
  go [] [] <| dn h (i1 iE)
theorem w77 {x0 : List Z00} {x1 : Z00} {r : (List Z00) × Int × Int} (h : Z6y x0 x1 = some r) : Z0e Tryz.prog 77 [.sl false (x0.map Z09),.agg (Z09 x1)] (R77 r):=
  cs Tryz.f77 <| go [] [rg 0 [(0,bo)]] <| bd h fun q1 e4 h=>lp e4 wl77x1 <| match q1,h with
  | .inl q0,h=>j1 <| (qe <| goN [] [rg 6 [(1,ln x0)]] <| br h (fun h4 h=>go [] [] <| rt h) fun h4 h=>
    bd h fun v4 e5 h=>bd h fun v5 e6 h=>bd h fun v6 e7 h=>go [] [rgo 8 [(7,ln x0),(8,n e5),(0,bl 0 5),(4,br0 1 5),(2,ap e6),(5,ap e7)] [1,3,6,7,8,0,4,2,5,9,10,11] [2,5,1003,1006,1007,1008,2004,1004] [(2,[0,1]),(4,[3]),(5,[0,1,2,3,4]),(7,[6]),(8,[6,7]),(9,[0,1,2,3,4,5]),(10,[0,1,2,3,4,5,6,7,8,9]),(11,[0,1,2,3,4,5,6,7,8,9,10])]] <| rtB h (.tup [rw_ ((([] : List Z00) ++ x0) ++ [x1]),dI v4,dI 0]) (a2 (rpI ((([] : List Z00) ++ x0) ++ [x1])) (a2 trivial (a2 trivial trivial))) (by simp only [rwE] <;> kernel_rfl))
  | .inr y0,h=>j2 <| (qr h)
def R75 (y0 : (List Z00) × Int × Int) : D:= .tup [.sl false (y0.1.map Z09),.int .i64 y0.2.1,.int .i64 y0.2.2]
def Z82 (x0 : List Z00) (x1 : List UInt8) : Option ((List Z00) × Int × Int):=
  (Z6y x0 ({ Z1w:=1,f_S:=x1,f_N:=0,f_A:=0,f_B:=0 } : Z00)).bind fun v0=>
  some (v0.1,v0.2.1,v0.2.2)
theorem w75 {x0 : List Z00} {x1 : List UInt8} {r : (List Z00) × Int × Int} (h : Z82 x0 x1 = some r) : Z0e Tryz.prog 75 [.sl false (x0.map Z09),.str x1] (R75 r):=
  cs Tryz.f75 <| bd h fun v0 e0 h=>go [] [rg 1 [(3,k (w77 e0))]] <| rt h
def R104 (y0 : (List Z00) × Int × Int) : D:= .tup [.sl false (y0.1.map Z09),.int .i64 y0.2.1,.int .i64 y0.2.2]
def Ze6 (x0 : List Z00) (x1 : Int) (x2 : List UInt8) : Option ((List Z00) × Int × Int):=
  (Z82 x0 x2).bind fun v0=>
  if (v0.2.2 != 0) = true then
    (some (x0,0,v0.2.2)) else
  ((Z6y v0.1 ({ Z1w:=x1,f_S:=[],f_N:=0,f_A:=v0.2.1,f_B:=0 } : Z00)).bind fun v1=>
    if (v1.2.2 != 0) = true then
      (some (x0,0,v1.2.2)) else
    (some (v1.1,v1.2.1,0)))
theorem w104 {x0 : List Z00} {x1 : Int} {x2 : List UInt8} {r : (List Z00) × Int × Int} (h : Ze6 x0 x1 x2 = some r) : Z0e Tryz.prog 104 [.sl false (x0.map Z09),dI x1,.str x2] (R104 r):=
  cs Tryz.f104 <| bd h fun v0 e0 h=>go [] [rg 1 [(2,k (w75 e0))]] <| br h (fun h0 h=>go [] [] <| rt h) fun h0 h=>
  bd h fun v1 e1 h=>go [] [rg 4 [(4,k (w77 e1))]] <| br h (fun h1 h=>go [] [] <| rt h) fun h1 h=>
    go [] [] <| rt h
def R74 (y0 : (List Z00) × Int × Int) : D:= .tup [.sl false (y0.1.map Z09),.int .i64 y0.2.1,.int .i64 y0.2.2]
def Zb5 (x0 : List Z00) (x1 : List UInt8) : Option ((List Z00) × Int × Int):=
  (Ze6 x0 7 x1).bind fun v0=>
  some (v0.1,v0.2.1,v0.2.2)
theorem w74 {x0 : List Z00} {x1 : List UInt8} {r : (List Z00) × Int × Int} (h : Zb5 x0 x1 = some r) : Z0e Tryz.prog 74 [.sl false (x0.map Z09),.str x1] (R74 r):=
  cs Tryz.f74 <| bd h fun v0 e0 h=>go [] [rg 1 [(2,k (w104 e0))]] <| rt h
def B54 (y0 : Z0p × Int) : List Blk:=[{ sz:=2,rows:=[Z3f y0.1],frz:=0,pure:=false,pin:=some 0 }]
def R54 (y0 : Z0p × Int) : D:= .int .i64 y0.2
def Z85 (x0 : Z0p) (x1 : List UInt8) : Option (Z0p × Int):=
  if (x0.f_E != 0) = true then
    (some (x0,0)) else
  ((Zb5 x0.f_P x1).bind fun v0=>
    some (({ f_P:=v0.1,f_E:=v0.2.2 } : Z0p),v0.2.1))
theorem w54 {x0 : Z0p} {x1 : List UInt8} {r : Z0p × Int} (h : Z85 x0 x1 = some r) : Z41 Tryz.prog 54 [.lptr 0 0 0,.str x1] [{ sz:=2,rows:=[Z3f x0],frz:=0,pure:=false,pin:=some 0 }] (R54 r) (B54 r):=
  csO Tryz.f54 (m:=1) (keep:=[true]) <| go [] [] <| br h (fun h0 h=>go [] [] <| rtO h (dI 0) [{ sz:=2,rows:=[Z3f x0],frz:=0,pure:=false,pin:=some 0 }] (a2 trivial trivial) rfl) fun h0 h=>
  bd h fun v0 e0 h=>go [] [rg 3 [(5,k (w74 e0))]] <| rtO h (dI v0.2.1) [{ sz:=2,rows:=[[.sl false (v0.1.map Z09),dI v0.2.2]],frz:=0,pure:=false,pin:=some 0 }] (a2 trivial trivial) rfl
def B55 (y0 : Z0p × Int) : List Blk:=[{ sz:=2,rows:=[Z3f y0.1],frz:=0,pure:=false,pin:=some 0 }]
def R55 (y0 : Z0p × Int) : D:= .int .i64 y0.2
def Z5i (x0 : Z0p) (x1 : List UInt8) : Option (Z0p × Int):=
  if (x0.f_E != 0) = true then
    (some (x0,0)) else
  ((Z82 x0.f_P x1).bind fun v0=>
    some (({ f_P:=v0.1,f_E:=v0.2.2 } : Z0p),v0.2.1))
theorem w55 {x0 : Z0p} {x1 : List UInt8} {r : Z0p × Int} (h : Z5i x0 x1 = some r) : Z41 Tryz.prog 55 [.lptr 0 0 0,.str x1] [{ sz:=2,rows:=[Z3f x0],frz:=0,pure:=false,pin:=some 0 }] (R55 r) (B55 r):=
  csO Tryz.f55 (m:=1) (keep:=[true]) <| go [] [] <| br h (fun h0 h=>go [] [] <| rtO h (dI 0) [{ sz:=2,rows:=[Z3f x0],frz:=0,pure:=false,pin:=some 0 }] (a2 trivial trivial) rfl) fun h0 h=>
  bd h fun v0 e0 h=>go [] [rg 3 [(5,k (w75 e0))]] <| rtO h (dI v0.2.1) [{ sz:=2,rows:=[[.sl false (v0.1.map Z09),dI v0.2.2]],frz:=0,pure:=false,pin:=some 0 }] (a2 trivial trivial) rfl
def R76 (y0 : (List Z00) × Int × Int) : D:= .tup [.sl false (y0.1.map Z09),.int .i64 y0.2.1,.int .i64 y0.2.2]
def Zd6 (x0 : List Z00) (x1 : List UInt8) : Option ((List Z00) × Int × Int):=
  (Ze6 x0 8 x1).bind fun v0=>
  some (v0.1,v0.2.1,v0.2.2)
theorem w76 {x0 : List Z00} {x1 : List UInt8} {r : (List Z00) × Int × Int} (h : Zd6 x0 x1 = some r) : Z0e Tryz.prog 76 [.sl false (x0.map Z09),.str x1] (R76 r):=
  cs Tryz.f76 <| bd h fun v0 e0 h=>go [] [rg 1 [(2,k (w104 e0))]] <| rt h
def B57 (y0 : Z0p × Int) : List Blk:=[{ sz:=2,rows:=[Z3f y0.1],frz:=0,pure:=false,pin:=some 0 }]
def R57 (y0 : Z0p × Int) : D:= .int .i64 y0.2
def Zjq (p0 : List Z00) (p1 p2 : Int) : Option (Z0p × Int):=
  some (({ f_P:=p0,f_E:=p2 } : Z0p),p1)
def Zeq (x0 : Z0p) (x1 : Z13) : Option (Z0p × Int):=
  if (x0.f_E != 0) = true then
    (some (x0,0)) else
  (if (x1.Z5v == 8) = true then
      ((Zd6 x0.f_P x1.f_S).bind fun v0=>
      Zjq v0.1 v0.2.1 v0.2.2) else
    ((Z6y x0.f_P ({ Z1w:=x1.Z5v,f_S:=[],f_N:=x1.f_N,f_A:=0,f_B:=0 } : Z00)).bind fun v1=>
      Zjq v1.1 v1.2.1 v1.2.2))
theorem Zqa (x0 : Z0p) {p0 : List Z00} {p1 p2 : Int} {r : Z0p × Int} {Γ : Ctx} (h : Zjq p0 p1 p2 = some r) : Jn Tryz.prog Tryz.f57 Γ (Zb7 Tryz.prog Tryz.f57 1 [true] (R57 r) (B57 r)) 47 ⟨54,[(0,.lptr 0 0 0),(5,.sl false (p0.map Z09)),(6,dI p1),(7,dI p2)],[(0,{ sz:=2,rows:=[Z3f x0],frz:=0,pure:=false,pin:=some 0 })]⟩:=
  so <| go [] [] <| rtO h (dI p1) [{ sz:=2,rows:=[[.sl false (p0.map Z09),dI p2]],frz:=0,pure:=false,pin:=some 0 }] (a2 trivial trivial) rfl
theorem w57 {x0 : Z0p} {x1 : Z13} {r : Z0p × Int} (h : Zeq x0 x1 = some r) : Z41 Tryz.prog 57 [.lptr 0 0 0,.agg (Z7n x1)] [{ sz:=2,rows:=[Z3f x0],frz:=0,pure:=false,pin:=some 0 }] (R57 r) (B57 r):=
  csO Tryz.f57 (m:=1) (keep:=[true]) <| go [] [rg 0 [(0,bo)]] <| br h (fun h0 h=>go [] [] <| rtO h (dI 0) [{ sz:=2,rows:=[Z3f x0],frz:=0,pure:=false,pin:=some 0 }] (a2 trivial trivial) rfl) fun h0 h=>
  go [] [] <| br h (fun h1 h=>bd h fun v0 e0 h=>go [7] [rgo 5 [(6,k (w76 e0))] [0,1,2,3,4,5,6,7,8,9,10,11,12,13] [] [(1,[0]),(2,[0,1]),(3,[0,1,2]),(5,[4]),(6,[0,1,2,3,4,5]),(7,[0,1,2,3,4,5,6]),(8,[0,1,2,3,4,5,6,7]),(9,[0,1,2,3,4,5,6,7]),(10,[0,1,2,3,4,5,6,7]),(11,[0,1,2,3,4,5,6,7,8]),(12,[0,1,2,3,4,5,6,7,8,9,11]),(13,[0,1,2,3,4,5,6,7,8,9,10,11,12])]] <| jn ((Zqa x0) h)) fun h1 h=>
    bd h fun v1 e1 h=>go [7] [rgo 6 [(9,k (w77 e1))] [0,1,2,3,4,5,6,7,8,9,10,11,12,13,14,15,16] [] [(1,[0]),(2,[0,1]),(3,[0,1,2]),(5,[4]),(7,[6]),(8,[4,5,6,7]),(9,[0,1,2,3,4,5,6,7,8]),(10,[0,1,2,3,4,5,6,7,8,9]),(11,[0,1,2,3,4,5,6,7,8,9,10]),(12,[0,1,2,3,4,5,6,7,8,9,10]),(13,[0,1,2,3,4,5,6,7,8,9,10]),(14,[0,1,2,3,4,5,6,7,8,9,10,11]),(15,[0,1,2,3,4,5,6,7,8,9,10,11,12,14]),(16,[0,1,2,3,4,5,6,7,8,9,10,11,12,13,14,15])]] <| jn ((Zqa x0) h)
def R87 (y0 : Bool) : D:= .bool y0
def Zht (x0 : Int) : Option (Bool):=
  if (x0 == 1) = true then (some true) else
  (if (x0 == 2) = true then (some true) else
    (if (x0 == 4) = true then (some true) else
      (some (x0 == 8))))
theorem w87 {x0 : Int} {r : Bool} (h : Zht x0 = some r) : Z0e Tryz.prog 87 [dI x0] (R87 r):=
  cs Tryz.f87 <| go [1] [] <| po <| pr 3 [] <| sp h (fun h0 h=>pr 12 [(3,gs0 h0),(4,gs0 h0),(5,py h0)] <| pe <| goN [] [] <| rt h) fun h0 h=>
  pr 4 [(3,gw h0 g0),(4,gw h0 g0),(5,pn h0)] <| sp h (fun h1 h=>pr 8 [(7,gs0 h1),(8,gs0 h1),(9,py h1)] <| pe <| goN [] [] <| rt h) fun h1 h=>
    pr 4 [(7,gw h1 g0),(8,gw h1 g0),(9,pn h1)] <| sp h (fun h2 h=>pr 4 [(11,gs0 h2),(12,gs0 h2),(13,py h2)] <| pe <| goN [] [] <| rt h) fun h2 h=>
      pr 4 [(11,gw h2 g0),(12,gw h2 g0),(13,pn h2)] <| pe <| goN [] [] <| rt h
def R62 (y0 : (List UInt8) × Int) : D:= .tup [.str y0.1,.int .i64 y0.2]
def Zfh (t0 : Int × Int × (List Int)) : Option (Ctl (Int × Int × (List Int)) (((List Int)))):=
  if (decide (t0.2.1 ≥ 0)) = true then
    ((some (Z1r .i64 t0.1 (255 : Int))).bind fun v16=>
    (some (IntKind.wrap .u8 v16)).bind fun v17=>
    (Z2r t0.2.1 t0.2.2.length).bind fun v18=>
    (t0.2.2[v18]?).bind fun v19=>
    (shrK .i64 t0.1 (8 : Int)).bind fun v20=>
    (some (IntKind.wrap .i64 (t0.2.1 - (1 : Int)))).bind fun v21=>
    some (.next (v20,v21,(t0.2.2.set v18 v17)))) else
  (some (.done (t0.2.2)))
def Ze7 (x0 x1 : Int) : Option ((List UInt8) × Int):=
  (Z6n 1 x1 x1).bind fun v8=>
  (some (IntKind.wrap .i64 (x1 - (1 : Int)))).bind fun v9=>
  (Z0d Zfh Z0i (x0,v9,(List.replicate x1.toNat 0))).bind fun q0=>
  some ((bytesOf q0),0)
def Z86 (x0 x1 : Int) : Option ((List UInt8) × Int):=
  (Zht x1).bind fun v0=>
  if (!v0) = true then
    (some ([],1)) else
  (if (decide (x1 < 8)) = true then ((some (IntKind.wrap .i64 ((8 : Int) * x1))).bind fun v1=>
      (some (IntKind.wrap .i64 (v1 - (1 : Int)))).bind fun v2=>
      (Z6e .i64 (1 : Int) v2).bind fun v3=>
      (some (IntKind.wrap .i64 (0 - v3))).bind fun v4=>
      if (decide (x0 < v4)) = true then (some ([],8)) else
      ((some (IntKind.wrap .i64 ((8 : Int) * x1))).bind fun v5=>
        (Z6e .i64 (1 : Int) v5).bind fun v6=>
        (some (IntKind.wrap .i64 (v6 - (1 : Int)))).bind fun v7=>
        if (decide (x0 > v7)) = true then
          (some ([],8)) else
        ((Ze7 x0 x1)))) else
    ((Ze7 x0 x1)))
def Zs2 : (Int × Int × (List Int)) → SL:=
  fun t0=>⟨50,[(6,.lsl 6 0 ((t0.2.2.map rU8).length)),(7,dI t0.1),(8,dI t0.2.1)],[(6,{ sz:=1,rows:=(t0.2.2.map rU8),frz:=0,pure:=true })]⟩
def J62x1 : JT (((List Int))):=
  je 0 fun q0 : (List Int)=>⟨50,[(6,.lsl 6 0 ((q0.map rU8).length))],[(6,{ sz:=1,rows:=(q0.map rU8),frz:=0,pure:=true })]⟩
theorem wl62x1 {t0 : Int × Int × (List Int)} {r : Ctl (Int × Int × (List Int)) (((List Int)))} {Γ : Ctx} (h : Zfh t0 = some r) : A Tryz.prog Γ (lpC Tryz.f62 351) [] (Rd Zs2 J62x1 r) (Zs2 t0).s:=
  go [] [] <| br h (fun h5 h=>bd h fun v16 e16 h=>bd h fun v17 e17 h=>bd h fun v18 e18 h=>bd h fun v19 e19 h=>go [11] [rg 10 [(3,n e16),(4,n8 e17),(5,ia (R:=RU8) 6 e18),(6,st (R:=RU8) e19 0 [d8 v17] v17)]] <| nm (congrArg (fun nn : Nat=>(⟨50,[(6,.lsl 6 0 nn),(7,dI t0.1),(8,dI t0.2.1)],[(6,{ sz:=1,rows:=((t0.2.2.set v18 v17).map rU8),frz:=0,pure:=true })]⟩ : SL)) (by simp only [List.length_map,List.length_set] : (t0.2.2.map rU8).length = ((t0.2.2.set v18 v17).map rU8).length)) <| so <| bd h fun v20 e20 h=>bd h fun v21 e21 h=>go [] [rg 11 [(1,sr e20)],rg 9 [(1,n e21)]] <| nx h) fun h5 h=>
  go [] [] <| dn h (iE)
theorem Zp1 {x0 x1 : Int} {r : (List UInt8) × Int} {Γ : Ctx} (h : (Ze7 x0 x1) = some r) : Jn Tryz.prog Tryz.f62 Γ (Den.Ends Tryz.prog Tryz.f62 (R62 r)) 23 ⟨50,[(0,dI x0),(1,dI x1)],[]⟩:=
  so <| bd h fun v8 e8 h=>bd h fun v9 e9 h=>go [] [rg 5 [(1,mk (R:=RU8) (0 : Int) e8)],rg 7 [(1,n e9)]] <| bd h fun q0 e22 h=>lp (ps:=[(32,6)]) e22 wl62x1 <| qe <| goN [] [rg 12 [(1,bsB q0)]] <| rt h
theorem w62 {x0 x1 : Int} {r : (List UInt8) × Int} (h : Z86 x0 x1 = some r) : Z0e Tryz.prog 62 [dI x0,dI x1] (R62 r):=
  cs Tryz.f62 <| bd h fun v0 e0 h=>go [] [rg 1 [(1,k (w87 e0))]] <| br h (fun h0 h=>go [] [] <| rt h) fun h0 h=>
  go [3] [] <| po <| pr 3 [] <| sp h (fun h1 h=>bd h fun v1 e1 h=>bd h fun v2 e2 h=>bd h fun v3 e3 h=>bd h fun v4 e4 h=>pr 8 [(3,gw h1 g0),(4,gw h1 g0),(5,gw h1 (n e1)),(6,gw h1 (n e2)),(7,gw h1 (sl e3)),(8,gw h1 (n e4)),(9,gw h1 g0),(10,gw h1 g0)] <| sp h (fun h2 h=>pr 8 [(11,gs0 h2),(12,gs0 h2),(13,gs0 h2),(14,gs0 h2),(15,gs0 h2),(16,gs0 h2),(17,gw h1 (py h2)),(18,py h1)] <| pe <| goN [] [] <| bT rfl <| go [] [] <| rt h) fun h2 h=>
      bd h fun v5 e5 h=>bd h fun v6 e6 h=>bd h fun v7 e7 h=>pr 8 [(11,gw h2 g0),(12,gw h2 g0),(13,gw h2 (n e5)),(14,gw h2 (sl e6)),(15,gw h2 (n e7)),(16,gw h2 g0),(17,gw h1 (pn h2)),(18,py h1)] <| pe <| goN [] [] <| br h (fun h3 h=>go [] [] <| rt h) fun h3 h=>
        go [5] [] <| jn (Zp1 h)) fun h1 h=>
    pr 16 [(3,gs1 h1),(4,gs1 h1),(5,gs1 h1),(6,gs1 h1),(7,gs1 h1),(8,gs1 h1),(9,gs1 h1),(10,gs1 h1),(17,gs1 h1),(18,pn h1)] <| pe <| goN [] [] <| bF rfl <| go [5] [] <| jn (Zp1 h)
def R56 (y0 : (List UInt8)) : D:= .str y0
def Zj2 (x0 : Int) : Option ((List UInt8)):=
  (Z86 x0 2).bind fun v0=>
  some v0.1
theorem w56 {x0 : Int} {r : (List UInt8)} (h : Zj2 x0 = some r) : Z0e Tryz.prog 56 [dI x0] (R56 r):=
  cs Tryz.f56 <| bd h fun v0 e0 h=>go [] [rg 1 [(1,k (w62 e0))]] <| rt h
def R137 (y0 : Bool) : D:= .bool y0
def Z8y (x0 : Int) : Option (Bool):=
  if (decide (x0 ≥ 0)) = true then (some (decide (x0 < 81))) else
  (some false)
theorem w137 {x0 : Int} {r : Bool} (h : Z8y x0 = some r) : Z0e Tryz.prog 137 [dI x0] (R137 r):=
  cs Tryz.f137 <| sp h (fun h0 h=>go [] [rg 1 [(1,kb h0)]] <| rt h) fun h0 h=>
  go [] [rg 1 [(1,kb h0)]] <| rt h
def R110 (y0 : Bool) : D:= .bool y0
def Z63 (x0 x1 x2 : Int) : Option (Bool):=
  if (decide (x0 ≥ x1)) = true then (some (decide (x0 ≤ x2))) else
  (some false)
theorem w110 {x0 x1 x2 : Int} {r : Bool} (h : Z63 x0 x1 x2 = some r) : Z0e Tryz.prog 110 [dI x0,dI x1,dI x2] (R110 r):=
  cs Tryz.f110 <| sp h (fun h0 h=>go [] [rg 1 [(2,kb h0)]] <| rt h) fun h0 h=>
  go [] [rg 1 [(2,kb h0)]] <| rt h
def R108 (y0 : Int) : D:= .int .i64 y0
def Zey (x0 : Int) : Option (Int):=
  (Z63 x0 36 52).bind fun v2=>
  if v2 = true then
    (some 3) else
  ((Z63 x0 4 9).bind fun v3=>
    if v3 = true then
      (some 4) else
    (if (x0 == 10) = true then
        (some 5) else
      (if (x0 == 53) = true then
          (some 6) else
        (if (x0 == 54) = true then
            (some 7) else
          (some 0)))))
def Zex (x0 : Int) : Option (Int):=
  if (x0 == 77) = true then
    (some 2) else
  ((Zey x0))
def Z67 (x0 : Int) : Option (Int):=
  (Z8y x0).bind fun v0=>
  if (!v0) = true then
    (some (-1)) else
  (if (x0 == 2) = true then
      (some 1) else
    (if (x0 == 3) = true then
        (some 2) else
      ((Z63 x0 59 68).bind fun v1=>
        if v1 = true then
          (some 2) else
        (if (x0 == 76) = true then
            (some 2) else
          ((Zex x0))))))
theorem wj108x2 {x0 : Int} {r : Int} {Γ : Ctx} (h : (Zey x0) = some r) : Jn Tryz.prog Tryz.f108 Γ (Den.Ends Tryz.prog Tryz.f108 (R108 r)) 1529 ⟨34,[(0,dI x0)],[]⟩:=
  so <| bd h fun v2 e2 h=>go [] [rg 10 [(1,k (w110 e2))]] <| br h (fun h6 h=>go [] [] <| rt h) fun h6 h=>
  bd h fun v3 e3 h=>go [] [rg 12 [(1,k (w110 e3))]] <| br h (fun h7 h=>go [] [] <| rt h) fun h7 h=>
    go [] [] <| br h (fun h8 h=>go [] [] <| rt h) fun h8 h=>
      go [] [] <| br h (fun h9 h=>go [] [] <| rt h) fun h9 h=>
        go [] [] <| br h (fun h10 h=>go [] [] <| rt h) fun h10 h=>
          go [] [] <| rt h
theorem wj108x1 {x0 : Int} {r : Int} {Γ : Ctx} (h : (Zex x0) = some r) : Jn Tryz.prog Tryz.f108 Γ (Den.Ends Tryz.prog Tryz.f108 (R108 r)) 505 ⟨34,[(0,dI x0),(10,.bool (x0 == 77))],[]⟩ (x0 == 77):=
  br h (fun h5 h=>go [] [] <| rt h) fun h5 h=>
  go [10] [] <| jn (wj108x2 h)
theorem w108 {x0 : Int} {r : Int} (h : Z67 x0 = some r) : Z0e Tryz.prog 108 [dI x0] (R108 r):=
  cs Tryz.f108 <| bd h fun v0 e0 h=>go [] [rg 1 [(1,k (w137 e0))]] <| br h (fun h0 h=>go [] [] <| rt h) fun h0 h=>
  go [] [] <| br h (fun h1 h=>go [] [] <| rt h) fun h1 h=>
    go [] [] <| br h (fun h2 h=>go [] [] <| bT h2 <| go [] [] <| rt h) fun h2 h=>
      bd h fun v1 e1 h=>go [] [rg 6 [(1,k (w110 e1))]] <| br h (fun h3 h=>go [] [] <| bT h3 <| go [] [] <| rt h) fun h3 h=>
        go [] [] <| br h (fun h4 h=>go [] [] <| bT h4 <| go [] [] <| rt h) fun h4 h=>
          go [] [] <| jn (wj108x1 h)
def R113 (y0 : Bool) : D:= .bool y0
def Zbp (x0 : Z01) (x1 : Int) : Option (Bool):=
  if (x0.f_To != 0) = true then (if (x1 != 3) = true then (if (x1 != 6) = true then (if (x1 != 7) = true then
          (some false) else
        (if ((x0.Z0y.length : Int) == 0) = true then (if ((x0.Z0a.length : Int) == 0) = true then (some true) else
            (if (x1 == 6) = true then (some true) else
              (some (x1 == 7)))) else
          (if (x1 == 7) = true then (if ((x0.Z0a.length : Int) == 0) = true then (some true) else
              (if (x1 == 6) = true then (some true) else
                (some true))) else
            (some false)))) else
      (if ((x0.Z0y.length : Int) == 0) = true then (if ((x0.Z0a.length : Int) == 0) = true then (some true) else
          (if (x1 == 6) = true then (some true) else
            (some (x1 == 7)))) else
        (if (x1 == 7) = true then (if ((x0.Z0a.length : Int) == 0) = true then (some true) else
            (if (x1 == 6) = true then (some true) else
              (some true))) else
          (some false)))) else
    (if ((x0.Z0y.length : Int) == 0) = true then (if ((x0.Z0a.length : Int) == 0) = true then (some true) else
        (if (x1 == 6) = true then (some true) else
          (some (x1 == 7)))) else
      (if (x1 == 7) = true then (if ((x0.Z0a.length : Int) == 0) = true then (some true) else
          (if (x1 == 6) = true then (some true) else
            (some true))) else
        (some false)))) else
  (if ((x0.Z0y.length : Int) == 0) = true then (if ((x0.Z0a.length : Int) == 0) = true then (some true) else
      (if (x1 == 6) = true then (some true) else
        (some (x1 == 7)))) else
    (if (x1 == 7) = true then (if ((x0.Z0a.length : Int) == 0) = true then (some true) else
        (if (x1 == 6) = true then (some true) else
          (some true))) else
      (some false)))
def Zds (x0 : Z01) (x1 : Int) : Option (Bool):=
  if (x0.f_B != 0) = true then (if (x1 != 5) = true then
    (some false) else
  ((Zbp x0 x1))) else
  ((Zbp x0 x1))
def Zfu (x0 : Z01) (x1 : Int) : Option (Bool):=
  if (x0.f_A != 0) = true then (if (x1 == 0) = true then (some false) else
    (if (x1 == 3) = true then (some false) else
      (if (x1 == 7) = true then
          (some false) else
        ((Zds x0 x1))))) else
  ((Zds x0 x1))
def Zaq (x0 : Z01) (x1 : Int) : Option (Bool):=
  if (!(Zmn x0.Z16 ({ Z1f:=[],Z02:=[],Z1l:=[] } : Z27))) = true then (some false) else
  (if (!(x0.f_S == ([] : List UInt8))) = true then
    (some false) else
  ((Zfu x0 x1)))
theorem Zrh {x0 : Z01} {x1 : Int} {r : Bool} {Γ : Ctx} (h : (Zbp x0 x1) = some r) : Jn Tryz.prog Tryz.f113 Γ (Den.Ends Tryz.prog Tryz.f113 (R113 r)) 79 ⟨73,[(1,dI x1),(2,.ptr (Z0l x0))],[]⟩:=
  po <| pr 4 [] <| sp h (fun h8 h=>pr 4 [(4,gw h8 g0),(5,gw h8 g0),(6,py h8)] <| sp h (fun h9 h=>pr 4 [(8,gw h9 g0),(9,gw h9 g0),(10,py h9)] <| sp h (fun h10 h=>pr 3 [(12,gw h10 g0),(13,gw h10 g0),(14,py h10)] <| pe <| goN [] [] <| br h (fun h11 h=>go [] [] <| rt h) fun h11 h=>
        go [9] [] <| po <| pr 5 [(2,ln x0.Z0y)] <| sp h (fun h12 h=>pr 9 [(5,gs0 h12),(6,gs0 h12),(7,py h12),(11,ln x0.Z0a)] <| sp h (fun h13 h=>pr 9 [(14,gs0 h13),(15,gs0 h13),(16,py h13)] <| pe <| goN [] [] <| rt h) fun h13 h=>
            pr 4 [(14,gw h13 g0),(15,gw h13 g0),(16,pn h13)] <| sp h (fun h14 h=>pr 5 [(18,gs0 h14),(19,gs0 h14),(20,py h14)] <| pe <| goN [] [] <| rt h) fun h14 h=>
              pr 5 [(18,gw h14 g0),(19,gw h14 g0),(20,pn h14)] <| pe <| goN [] [] <| rt h) fun h12 h=>
          pr 4 [(5,gw h12 g0),(6,gw h12 g0),(7,pn h12)] <| sp h (fun h15 h=>pr 5 [(9,gw h15 g0),(10,gw h15 g0),(11,gw h15 (ln x0.Z0a)),(12,gw h15 g0),(13,gw h15 g0)] <| sp h (fun h16 h=>pr 9 [(14,gs0 h16),(15,gs0 h16),(16,gw h15 (py h16)),(17,gw h15 g0),(20,gw h15 g0),(21,py h15)] <| pe <| goN [] [] <| rt h) fun h16 h=>
              pr 4 [(14,gw h16 g0),(15,gw h16 g0),(16,gw h15 (pn h16)),(17,gw h15 g0)] <| sp h (fun h17 h=>pr 5 [(18,gs0 h17),(19,gs0 h17),(20,gw h15 (py h17)),(21,py h15)] <| pe <| goN [] [] <| rt h) fun h17 h=>
                pr 5 [(18,gw h17 g0),(19,gw h17 (kb h15)),(20,gw h15 (pn h17)),(21,py h15)] <| pe <| goN [] [] <| rt h) fun h15 h=>
            pr 14 [(9,gs1 h15),(10,gs1 h15),(11,gs1 h15),(12,gs1 h15),(13,gs1 h15),(16,gs1 h15),(17,gs1 h15),(20,gs1 h15),(21,pn h15)] <| pe <| goN [] [] <| rt h) fun h10 h=>
      pr 3 [(12,gs1 h10),(13,gs1 h10),(14,pn h10)] <| pe <| goN [] [] <| bF rfl <| go [9] [] <| po <| pr 5 [(2,ln x0.Z0y)] <| sp h (fun h18 h=>pr 9 [(5,gs0 h18),(6,gs0 h18),(7,py h18),(11,ln x0.Z0a)] <| sp h (fun h19 h=>pr 9 [(14,gs0 h19),(15,gs0 h19),(16,py h19)] <| pe <| goN [] [] <| rt h) fun h19 h=>
          pr 4 [(14,gw h19 g0),(15,gw h19 g0),(16,pn h19)] <| sp h (fun h20 h=>pr 5 [(18,gs0 h20),(19,gs0 h20),(20,py h20)] <| pe <| goN [] [] <| rt h) fun h20 h=>
            pr 5 [(18,gw h20 g0),(19,gw h20 g0),(20,pn h20)] <| pe <| goN [] [] <| rt h) fun h18 h=>
        pr 4 [(5,gw h18 g0),(6,gw h18 g0),(7,pn h18)] <| sp h (fun h21 h=>pr 5 [(9,gw h21 g0),(10,gw h21 g0),(11,gw h21 (ln x0.Z0a)),(12,gw h21 g0),(13,gw h21 g0)] <| sp h (fun h22 h=>pr 9 [(14,gs0 h22),(15,gs0 h22),(16,gw h21 (py h22)),(17,gw h21 g0),(20,gw h21 g0),(21,py h21)] <| pe <| goN [] [] <| rt h) fun h22 h=>
            pr 4 [(14,gw h22 g0),(15,gw h22 g0),(16,gw h21 (pn h22)),(17,gw h21 g0)] <| sp h (fun h23 h=>pr 5 [(18,gs0 h23),(19,gs0 h23),(20,gw h21 (py h23)),(21,py h21)] <| pe <| goN [] [] <| rt h) fun h23 h=>
              pr 5 [(18,gw h23 g0),(19,gw h23 (kb h21)),(20,gw h21 (pn h23)),(21,py h21)] <| pe <| goN [] [] <| rt h) fun h21 h=>
          pr 14 [(9,gs1 h21),(10,gs1 h21),(11,gs1 h21),(12,gs1 h21),(13,gs1 h21),(16,gs1 h21),(17,gs1 h21),(20,gs1 h21),(21,pn h21)] <| pe <| goN [] [] <| rt h) fun h9 h=>
    pr 7 [(8,gs1 h9),(9,gs1 h9),(10,pn h9)] <| pe <| goN [] [] <| bF rfl <| go [9] [] <| po <| pr 5 [(2,ln x0.Z0y)] <| sp h (fun h24 h=>pr 9 [(5,gs0 h24),(6,gs0 h24),(7,py h24),(11,ln x0.Z0a)] <| sp h (fun h25 h=>pr 9 [(14,gs0 h25),(15,gs0 h25),(16,py h25)] <| pe <| goN [] [] <| rt h) fun h25 h=>
        pr 4 [(14,gw h25 g0),(15,gw h25 g0),(16,pn h25)] <| sp h (fun h26 h=>pr 5 [(18,gs0 h26),(19,gs0 h26),(20,py h26)] <| pe <| goN [] [] <| rt h) fun h26 h=>
          pr 5 [(18,gw h26 g0),(19,gw h26 g0),(20,pn h26)] <| pe <| goN [] [] <| rt h) fun h24 h=>
      pr 4 [(5,gw h24 g0),(6,gw h24 g0),(7,pn h24)] <| sp h (fun h27 h=>pr 5 [(9,gw h27 g0),(10,gw h27 g0),(11,gw h27 (ln x0.Z0a)),(12,gw h27 g0),(13,gw h27 g0)] <| sp h (fun h28 h=>pr 9 [(14,gs0 h28),(15,gs0 h28),(16,gw h27 (py h28)),(17,gw h27 g0),(20,gw h27 g0),(21,py h27)] <| pe <| goN [] [] <| rt h) fun h28 h=>
          pr 4 [(14,gw h28 g0),(15,gw h28 g0),(16,gw h27 (pn h28)),(17,gw h27 g0)] <| sp h (fun h29 h=>pr 5 [(18,gs0 h29),(19,gs0 h29),(20,gw h27 (py h29)),(21,py h27)] <| pe <| goN [] [] <| rt h) fun h29 h=>
            pr 5 [(18,gw h29 g0),(19,gw h29 (kb h27)),(20,gw h27 (pn h29)),(21,py h27)] <| pe <| goN [] [] <| rt h) fun h27 h=>
        pr 14 [(9,gs1 h27),(10,gs1 h27),(11,gs1 h27),(12,gs1 h27),(13,gs1 h27),(16,gs1 h27),(17,gs1 h27),(20,gs1 h27),(21,pn h27)] <| pe <| goN [] [] <| rt h) fun h8 h=>
  pr 11 [(4,gs1 h8),(5,gs1 h8),(6,pn h8)] <| pe <| goN [] [] <| bF rfl <| go [9] [] <| po <| pr 5 [(2,ln x0.Z0y)] <| sp h (fun h30 h=>pr 9 [(5,gs0 h30),(6,gs0 h30),(7,py h30),(11,ln x0.Z0a)] <| sp h (fun h31 h=>pr 9 [(14,gs0 h31),(15,gs0 h31),(16,py h31)] <| pe <| goN [] [] <| rt h) fun h31 h=>
      pr 4 [(14,gw h31 g0),(15,gw h31 g0),(16,pn h31)] <| sp h (fun h32 h=>pr 5 [(18,gs0 h32),(19,gs0 h32),(20,py h32)] <| pe <| goN [] [] <| rt h) fun h32 h=>
        pr 5 [(18,gw h32 g0),(19,gw h32 g0),(20,pn h32)] <| pe <| goN [] [] <| rt h) fun h30 h=>
    pr 4 [(5,gw h30 g0),(6,gw h30 g0),(7,pn h30)] <| sp h (fun h33 h=>pr 5 [(9,gw h33 g0),(10,gw h33 g0),(11,gw h33 (ln x0.Z0a)),(12,gw h33 g0),(13,gw h33 g0)] <| sp h (fun h34 h=>pr 9 [(14,gs0 h34),(15,gs0 h34),(16,gw h33 (py h34)),(17,gw h33 g0),(20,gw h33 g0),(21,py h33)] <| pe <| goN [] [] <| rt h) fun h34 h=>
        pr 4 [(14,gw h34 g0),(15,gw h34 g0),(16,gw h33 (pn h34)),(17,gw h33 g0)] <| sp h (fun h35 h=>pr 5 [(18,gs0 h35),(19,gs0 h35),(20,gw h33 (py h35)),(21,py h33)] <| pe <| goN [] [] <| rt h) fun h35 h=>
          pr 5 [(18,gw h35 g0),(19,gw h35 (kb h33)),(20,gw h33 (pn h35)),(21,py h33)] <| pe <| goN [] [] <| rt h) fun h33 h=>
      pr 14 [(9,gs1 h33),(10,gs1 h33),(11,gs1 h33),(12,gs1 h33),(13,gs1 h33),(16,gs1 h33),(17,gs1 h33),(20,gs1 h33),(21,pn h33)] <| pe <| goN [] [] <| rt h
theorem Zpn {x0 : Z01} {x1 : Int} {r : Bool} {Γ : Ctx} (h : (Zds x0 x1) = some r) : Jn Tryz.prog Tryz.f113 Γ (Den.Ends Tryz.prog Tryz.f113 (R113 r)) 39 ⟨73,[(1,dI x1),(2,.ptr (Z0l x0))],[]⟩:=
  so <| sp h (fun h6 h=>go [] [rg 5 [(2,kb h6)]] <| br h (fun h7 h=>go [] [] <| rt h) fun h7 h=>
  go [7] [] <| jn (Zrh h)) fun h6 h=>
  go [] [rg 5 [(2,kb h6)]] <| bF rfl <| go [7] [] <| jn (Zrh h)
theorem wj113x1 {x0 : Z01} {x1 : Int} {r : Bool} {Γ : Ctx} (h : (Zfu x0 x1) = some r) : Jn Tryz.prog Tryz.f113 Γ (Den.Ends Tryz.prog Tryz.f113 (R113 r)) 19 ⟨73,[(1,dI x1),(2,.ptr (Z0l x0))],[]⟩:=
  po <| pr 4 [] <| sp h (fun h2 h=>pr 3 [(4,gw h2 g0),(5,gw h2 g0),(6,gw h2 g0)] <| sp h (fun h3 h=>pr 8 [(7,gs0 h3),(8,gs0 h3),(9,gw h2 (py h3)),(10,gw h2 g0),(13,gw h2 g0),(14,py h2)] <| pe <| goN [] [] <| bT rfl <| go [] [] <| rt h) fun h3 h=>
    pr 4 [(7,gw h3 g0),(8,gw h3 g0),(9,gw h2 (pn h3)),(10,gw h2 g0)] <| sp h (fun h4 h=>pr 4 [(11,gs0 h4),(12,gs0 h4),(13,gw h2 (py h4)),(14,py h2)] <| pe <| goN [] [] <| bT rfl <| go [] [] <| rt h) fun h4 h=>
      pr 4 [(11,gw h4 g0),(12,gw h4 g0),(13,gw h2 (pn h4)),(14,py h2)] <| pe <| goN [] [] <| br h (fun h5 h=>go [] [] <| rt h) fun h5 h=>
        go [5] [] <| jn (Zpn h)) fun h2 h=>
  pr 11 [(4,gs1 h2),(5,gs1 h2),(6,gs1 h2),(9,gs1 h2),(10,gs1 h2),(13,gs1 h2),(14,pn h2)] <| pe <| goN [] [] <| bF rfl <| go [5] [] <| jn (Zpn h)
theorem w113 {x0 : Z01} {x1 : Int} {r : Bool} (h : Zaq x0 x1 = some r) : Z0e Tryz.prog 113 [.agg (Z0l x0),dI x1] (R113 r):=
  cs Tryz.f113 <| sp h (fun h0 h=>go [] [rg 0 [(0,bo)],rg 1 [(3,qs Zqj Ztf (!(Zmn x0.Z16 ({ Z1f:=[],Z02:=[],Z1l:=[] } : Z27)))),(5,gs0 h0),(6,gs0 h0),(7,gs0 h0),(8,py h0)]] <| bT rfl <| go [] [] <| rt h) fun h0 h=>
  go [] [rg 0 [(0,bo)],rg 1 [(3,qs Zqj Ztf (!(Zmn x0.Z16 ({ Z1f:=[],Z02:=[],Z1l:=[] } : Z27)))),(5,gw h0 g0),(6,gw h0 g0),(7,gw h0 g0),(8,pn h0)]] <| br h (fun h1 h=>go [] [] <| rt h) fun h1 h=>
  go [3] [] <| jn (wj113x1 h)
def R114 (y0 : Bool) : D:= .bool y0
def Zb4 (x0 : Z01) (t0 : Int) : Option (Ctl (Int) (Unit ⊕ Bool)):=
  if (decide (t0 < (x0.Z0a.length : Int))) = true then
    ((Z0g x0.Z0a t0).bind fun v2=>
    if (decide (v2 < 0)) = true then (some (.done (.inr false))) else
    ((Z0g x0.Z0a t0).bind fun v3=>
    if (decide (v3 ≥ 1000)) = true then
      (some (.done (.inr false))) else
    ((some (IntKind.wrap .i64 (t0 + (1 : Int)))).bind fun v4=>
      some (.next v4)))) else
  (some (.done (.inl (()))))
def Zjl (x0 : Z01) : Option (Bool):=
  (Z0d (Zb4 x0) Z0i 0).bind fun q1=>
  match q1 with
  | .inl q0=>(some true)
  | .inr y0=>(some y0)
def Z76 (x0 : Z01) : Option (Bool):=
  if (decide (x0.f_To < 0)) = true then (some false) else
  (if (decide (x0.f_To ≥ 1000)) = true then
    (some false) else
  ((Zjl x0)))
def Zum (x0 : Z01) : Int → SL:=
  fun t0=>⟨33,[(1,.ptr (Z0l x0)),(3,dI t0)],[]⟩
def J114x1 : JT (Unit ⊕ Bool):=
  ju (je 0 fun q0 : Unit=>⟨33,[],[]⟩) (jr Tryz.prog Tryz.f114 R114)
theorem wl114x1 {x0 : Z01} {t0 : Int} {r : Ctl (Int) (Unit ⊕ Bool)} {Γ : Ctx} (h : (Zb4 x0) t0 = some r) : A Tryz.prog Γ (lpC Tryz.f114 43) [] (Rd (Zum x0) J114x1 r) ((Zum x0) t0).s:=
  go [] [rg 4 [(3,ln x0.Z0a)]] <| br h (fun h5 h=>bd h fun v2 e2 h=>sp h (fun h6 h=>go [] [rg 6 [(3,ix e2),(5,kb h6)]] <| bT rfl <| go [] [] <| dn h (i2 iR)) fun h6 h=>
    bd h fun v3 e3 h=>go [] [rg 6 [(3,ix e2),(5,kb h6),(10,ix e3)]] <| br h (fun h7 h=>go [] [] <| dn h (i2 iR)) fun h7 h=>
    bd h fun v4 e4 h=>go [] [rg 5 [(1,n e4)]] <| nx h) fun h5 h=>
  go [] [] <| dn h (i1 iE)
theorem wj114x1 {x0 : Z01} {r : Bool} {Γ : Ctx} (h : (Zjl x0) = some r) : Jn Tryz.prog Tryz.f114 Γ (Den.Ends Tryz.prog Tryz.f114 (R114 r)) 19 ⟨33,[(1,.ptr (Z0l x0))],[]⟩:=
  so <| go [] [] <| bd h fun q1 e5 h=>lp e5 wl114x1 <| match q1,h with
  | .inl q0,h=>j1 <| (qe <| goN [] [] <| rt h)
  | .inr y0,h=>j2 <| (qr h)
theorem w114 {x0 : Z01} {r : Bool} (h : Z76 x0 = some r) : Z0e Tryz.prog 114 [.agg (Z0l x0)] (R114 r):=
  cs Tryz.f114 <| sp h (fun h0 h=>go [] [rg 0 [(0,bo)],rg 1 [(2,kb h0)]] <| bT rfl <| go [] [] <| rt h) fun h0 h=>
  go [] [rg 0 [(0,bo)],rg 1 [(2,kb h0)]] <| br h (fun h1 h=>go [] [] <| rt h) fun h1 h=>
  go [3] [] <| jn (wj114x1 h)
def R144 (y0 : Bool) : D:= .bool y0
def Zcr (x0 : Int) : Option (Bool):=
  if (decide (x0 ≥ (-2147483648))) = true then (some (decide (x0 ≤ 2147483647))) else
  (some false)
theorem w144 {x0 : Int} {r : Bool} (h : Zcr x0 = some r) : Z0e Tryz.prog 144 [dI x0] (R144 r):=
  cs Tryz.f144 <| sp h (fun h0 h=>go [] [rg 1 [(1,kb h0)]] <| rt h) fun h0 h=>
  go [] [rg 1 [(1,kb h0)]] <| rt h
end Go.Proofs
