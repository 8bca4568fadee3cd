/-
  Models of functions of the program, and that the functions compute them. Printed by den3.py. No condition.
-/
import Derived.Test.YtldpbffppaednaaGreatAcc4
set_option linter.unusedVariables false
namespace Go.Proofs
open Go.Den Go.Den.W
def R69 (y0 : (List UInt8)) : D:= .str y0
def Zam (x0 : List UInt8) (x1 : Int) : Option ((List UInt8)):=
  if (decide (x1 < 10)) = true then
    ((Z21 x0 ([32] : List UInt8)).bind fun v0=>
    (some (IntKind.wrap .i64 (x1 + (1 : Int)))).bind fun v1=>
    (sub [48,49,50,51,52,53,54,55,56,57] x1 v1).bind fun v2=>
    (Z21 v0 v2).bind fun v3=>
    some v3) else
  ((Z21 x0 ([32] : List UInt8)).bind fun v4=>
    (divK .i64 x1 (10 : Int)).bind fun v5=>
    (divK .i64 x1 (10 : Int)).bind fun v6=>
    (some (IntKind.wrap .i64 (v6 + (1 : Int)))).bind fun v7=>
    (sub [48,49,50,51,52,53,54,55,56,57] v5 v7).bind fun v8=>
    (Z21 v4 v8).bind fun v9=>
    (modK x1 (10 : Int)).bind fun v10=>
    (modK x1 (10 : Int)).bind fun v11=>
    (some (IntKind.wrap .i64 (v11 + (1 : Int)))).bind fun v12=>
    (sub [48,49,50,51,52,53,54,55,56,57] v10 v12).bind fun v13=>
    (Z21 v9 v13).bind fun v14=>
    some v14)
theorem w69 {x0 : List UInt8} {x1 : Int} {r : (List UInt8)} (h : Zam x0 x1 = some r) : Z0e Tryz.prog 69 [.str x0,dI x1] (R69 r):=
  cs Tryz.f69 <| go [] [] <| br h (fun h0 h=>bd h fun v0 e0 h=>bd h fun v1 e1 h=>bd h fun v2 e2 h=>bd h fun v3 e3 h=>go [] [rg 3 [(1,ct e0),(5,n e1),(6,ss e2),(7,ct e3)]] <| rt h) fun h0 h=>
  bd h fun v4 e4 h=>bd h fun v5 e5 h=>bd h fun v6 e6 h=>bd h fun v7 e7 h=>bd h fun v8 e8 h=>bd h fun v9 e9 h=>bd h fun v10 e10 h=>bd h fun v11 e11 h=>bd h fun v12 e12 h=>bd h fun v13 e13 h=>bd h fun v14 e14 h=>go [] [rgo 4 [(1,ct e4),(4,dv e5),(6,dv e6),(7,n e7),(8,ss e8),(9,ct e9),(12,md e10),(14,md e11),(15,n e12),(16,ss e13),(17,ct e14)] [0,1,2,3,4,5,6,7,8,9,10,11,12,13,14,15,16,17,18] [] [(1,[0]),(4,[3]),(6,[5]),(7,[5,6]),(8,[2,3,4,5,6,7]),(9,[0,1,2,3,4,5,6,7,8]),(12,[11]),(14,[13]),(15,[13,14]),(16,[10,11,12,13,14,15]),(17,[0,1,2,3,4,5,6,7,8,9,10,11,12,13,14,15,16]),(18,[0,1,2,3,4,5,6,7,8,9,10,11,12,13,14,15,16,17])]] <| rt h
def R97 (y0 : Bool) : D:= .bool y0
def l97x1 (v1 v3 : (List UInt8) × Int) (x0 : List Z00) (x1 : List Z0b) (x2 t0 : Int) : Option (Ctl (Int) (Unit ⊕ Bool)):=
  if (decide (t0 < x2)) = true then
    ((Z0g x1 t0).bind fun v8=>
    (Z3l x0 v8.Z02).bind fun v9=>
    (Z0g x1 t0).bind fun v10=>
    (Z3l x0 v10.Z1l).bind fun v11=>
    if (v9.1 == v1.1) = true then (if (v11.1 == v3.1) = true then
      (some (.done (.inr true))) else
    ((some (IntKind.wrap .i64 (t0 + (1 : Int)))).bind fun v12=>
      some (.next v12))) else
    ((some (IntKind.wrap .i64 (t0 + (1 : Int)))).bind fun v13=>
    some (.next v13))) else
  (some (.done (.inl (()))))
def Zdp (x0 : List Z00) (x1 : List Z0b) (x2 : Int) : Option (Bool):=
  (Z0g x1 x2).bind fun v0=>
  (Z3l x0 v0.Z02).bind fun v1=>
  (Z0g x1 x2).bind fun v2=>
  (Z3l x0 v2.Z1l).bind fun v3=>
  (Z0d (l97x1 v1 v3 x0 x1 x2) Z0i 0).bind fun q1=>
  match q1 with
  | .inl q0=>(some false)
  | .inr y0=>(some y0)
def Zrt (v1 v3 : (List UInt8) × Int) (x0 : List Z00) (x1 : List Z0b) (x2 : Int) : Int → SL:=
  fun t0=>⟨69,[(0,.sl false (x0.map Z09)),(1,.sl false (x1.map Z0t)),(2,dI x2),(7,.str v1.1),(9,.str v3.1),(11,dI t0)],[]⟩
def J97x1 : JT (Unit ⊕ Bool):=
  ju (je 0 fun q0 : Unit=>⟨69,[],[]⟩) (jr Tryz.prog Tryz.f97 R97)
theorem wl97x1 {v1 v3 : (List UInt8) × Int} {x0 : List Z00} {x1 : List Z0b} {x2 t0 : Int} {r : Ctl (Int) (Unit ⊕ Bool)} {Γ : Ctx} (h : (l97x1 v1 v3 x0 x1 x2) t0 = some r) : A Tryz.prog Γ (lpC Tryz.f97 87) [] (Rd (Zrt v1 v3 x0 x1 x2) J97x1 r) ((Zrt v1 v3 x0 x1 x2) t0).s:=
  go [] [] <| br h (fun h3 h=>bd h fun v8 e8 h=>bd h fun v9 e9 h=>bd h fun v10 e10 h=>bd h fun v11 e11 h=>sp h (fun h4 h=>go [] [rg 6 [(3,ix e8),(6,k (w94 e9))],rg 7 [(3,ix e10),(6,k (w94 e11))],rg 8 [(2,kb h4)]] <| br h (fun h5 h=>go [] [] <| dn h (i2 iR)) fun h5 h=>
    bd h fun v12 e12 h=>go [] [rg 5 [(1,n e12)]] <| nx h) fun h4 h=>
    go [] [rg 6 [(3,ix e8),(6,k (w94 e9))],rg 7 [(3,ix e10),(6,k (w94 e11))],rg 8 [(2,kb h4)]] <| bF rfl <| bd h fun v13 e13 h=>go [] [rg 5 [(1,n e13)]] <| nx h) fun h3 h=>
  go [] [] <| dn h (i1 iE)
theorem w97 {x0 : List Z00} {x1 : List Z0b} {x2 : Int} {r : Bool} (h : Zdp x0 x1 x2 = some r) : Z0e Tryz.prog 97 [.sl false (x0.map Z09),.sl false (x1.map Z0t),dI x2] (R97 r):=
  cs Tryz.f97 <| bd h fun v0 e0 h=>bd h fun v1 e1 h=>bd h fun v2 e2 h=>bd h fun v3 e3 h=>go [] [rg 1 [(3,ix e0),(6,k (w94 e1))],rg 2 [(3,ix e2),(6,k (w94 e3))]] <| bd h fun q1 e14 h=>lp e14 wl97x1 <| match q1,h with
  | .inl q0,h=>j1 <| (qe <| goN [] [] <| rt h)
  | .inr y0,h=>j2 <| (qr h)
def R102 (y0 : Bool) : D:= .bool y0
def Zak (x0 : List Z00) (x1 : Z14) (x2 : List UInt8) : Option (Bool):=
  (Z3l x0 x1.Z8q).bind fun v0=>
  if (v0.2 == 0) = true then (some (v0.1 == x2)) else
  (some false)
theorem w102 {x0 : List Z00} {x1 : Z14} {x2 : List UInt8} {r : Bool} (h : Zak x0 x1 x2 = some r) : Z0e Tryz.prog 102 [.sl false (x0.map Z09),.agg (Z1u x1),.str x2] (R102 r):=
  cs Tryz.f102 <| bd h fun v0 e0 h=>sp h (fun h0 h=>go [] [rg 0 [(0,bo)],rg 1 [(3,k (w94 e0))],rg 2 [(1,kb h0)]] <| rt h) fun h0 h=>
  go [] [rg 0 [(0,bo)],rg 1 [(3,k (w94 e0))],rg 2 [(1,kb h0)]] <| rt h
def R156 (y0 : Int) : D:= .int .i64 y0
def Zlf (x0 : List UInt8) (x1 x2 : Int) : Option (Int):=
  (some (IntKind.wrap .i64 ((x0.length : Int) - x1))).bind fun v1=>
  if (decide (v1 < x2)) = true then
    (some 3) else
  (some 0)
def Zjs (x0 : List UInt8) (x1 x2 : Int) : Option (Int):=
  (Zht x2).bind fun v0=>
  if (!v0) = true then
    (some 1) else
  (if (decide (x1 < 0)) = true then (some 2) else
    (if (decide (x1 > (x0.length : Int))) = true then
      (some 2) else
    ((Zlf x0 x1 x2))))
theorem wj156x1 {x0 : List UInt8} {x1 x2 : Int} {r : Int} {Γ : Ctx} (h : (Zlf x0 x1 x2) = some r) : Jn Tryz.prog Tryz.f156 Γ (Den.Ends Tryz.prog Tryz.f156 (R156 r)) 39 ⟨24,[(0,.str x0),(1,dI x1),(2,dI x2)],[]⟩:=
  so <| bd h fun v1 e1 h=>go [] [rg 5 [(3,n e1)]] <| br h (fun h3 h=>go [] [] <| rt h) fun h3 h=>
  go [] [] <| rt h
theorem w156 {x0 : List UInt8} {x1 x2 : Int} {r : Int} (h : Zjs x0 x1 x2 = some r) : Z0e Tryz.prog 156 [.str x0,dI x1,dI x2] (R156 r):=
  cs Tryz.f156 <| bd h fun v0 e0 h=>go [] [rg 1 [(1,k (w87 e0))]] <| br h (fun h0 h=>go [] [] <| rt h) fun h0 h=>
  sp h (fun h1 h=>go [] [rg 3 [(1,kb h1)]] <| bT rfl <| go [] [] <| rt h) fun h1 h=>
    go [] [rg 3 [(1,kb h1)]] <| br h (fun h2 h=>go [] [] <| rt h) fun h2 h=>
    go [5] [] <| jn (wj156x1 h)
def R134 (y0 : Int × Int) : D:= .tup [.int .i64 y0.1,.int .i64 y0.2]
def Zik (x0 : List UInt8) (x1 x2 : Int) (t0 : Int × Int) : Option (Ctl (Int × Int) (Int)):=
  if (decide (t0.2 < x2)) = true then
    ((some (IntKind.wrap .i64 (t0.1 * (256 : Int)))).bind fun v9=>
    (some (IntKind.wrap .i64 (x1 + t0.2))).bind fun v10=>
    (Z30 x0 v10).bind fun v11=>
    (some (IntKind.wrap .i64 v11)).bind fun v12=>
    (some (IntKind.wrap .i64 (v9 + v12))).bind fun v13=>
    (some (IntKind.wrap .i64 (t0.2 + (1 : Int)))).bind fun v14=>
    some (.next (v13,v14))) else
  (some (.done (t0.1)))
def Zca (x0 : List UInt8) (x1 x2 p0 : Int) : Option (Int × Int):=
  (Z0d (Zik x0 x1 x2) Z0i (p0,1)).bind fun q0=>
  some (q0,0)
def Zdo (x0 : List UInt8) (x1 x2 : Int) : Option (Int × Int):=
  (Zjs x0 x1 x2).bind fun v0=>
  if (v0 != 0) = true then
    (some (0,v0)) else
  ((Z30 x0 x1).bind fun v1=>
    (some (IntKind.wrap .i64 v1)).bind fun v2=>
    if (decide (v2 > 127)) = true then
      ((some (IntKind.wrap .i64 (v2 - (256 : Int)))).bind fun v3=>
      (Zca x0 x1 x2) v3) else
    ((Zca x0 x1 x2) v2))
def Zoj (x0 : List UInt8) (x1 x2 : Int) : (Int × Int) → SL:=
  fun t0=>⟨41,[(0,.str x0),(1,dI x1),(2,dI x2),(9,dI t0.1),(10,dI t0.2)],[]⟩
def J134x1 : JT Int:=
  je 0 fun q0 : Int=>⟨41,[(9,dI q0)],[]⟩
theorem wl134x1 {x0 : List UInt8} {x1 x2 : Int} {t0 : Int × Int} {r : Ctl (Int × Int) (Int)} {Γ : Ctx} (h : (Zik x0 x1 x2) t0 = some r) : A Tryz.prog Γ (lpC Tryz.f134 175) [] (Rd (Zoj x0 x1 x2) J134x1 r) ((Zoj x0 x1 x2) t0).s:=
  go [] [] <| br h (fun h3 h=>bd h fun v9 e9 h=>bd h fun v10 e10 h=>bd h fun v11 e11 h=>bd h fun v12 e12 h=>bd h fun v13 e13 h=>bd h fun v14 e14 h=>go [] [rg 10 [(1,n e9),(5,n e10),(6,ib e11),(7,n e12),(8,n e13)],rg 9 [(1,n e14)]] <| nx h) fun h3 h=>
  go [] [] <| dn h (iE)
theorem Zos {x0 : List UInt8} {x1 x2 p0 : Int} {r : Int × Int} {Γ : Ctx} (h : (Zca x0 x1 x2) p0 = some r) : Jn Tryz.prog Tryz.f134 Γ (Den.Ends Tryz.prog Tryz.f134 (R134 r)) 79 ⟨41,[(0,.str x0),(1,dI x1),(2,dI x2),(9,dI p0)],[]⟩:=
  so <| go [] [] <| bd h fun q0 e15 h=>lp e15 wl134x1 <| qe <| goN [] [] <| rt h
theorem w134 {x0 : List UInt8} {x1 x2 : Int} {r : Int × Int} (h : Zdo x0 x1 x2 = some r) : Z0e Tryz.prog 134 [.str x0,dI x1,dI x2] (R134 r):=
  cs Tryz.f134 <| bd h fun v0 e0 h=>go [] [rg 1 [(3,k (w156 e0))]] <| br h (fun h0 h=>go [] [] <| rt h) fun h0 h=>
  bd h fun v1 e1 h=>bd h fun v2 e2 h=>go [] [rg 4 [(2,ib e1),(3,n e2)]] <| br h (fun h1 h=>bd h fun v3 e3 h=>go [7] [rg 6 [(1,n e3)]] <| jn (Zos h)) fun h1 h=>
    go [7] [] <| jn (Zos h)
def R103 (y0 : Int × Int) : D:= .tup [.int .i64 y0.1,.int .i64 y0.2]
def Zlu (v0 : Int × Int) (x2 : Int) : Option (Int × Int):=
  (some (IntKind.wrap .i64 ((8 : Int) * x2))).bind fun v1=>
  (Z6e .i64 (1 : Int) v1).bind fun v2=>
  (some (IntKind.wrap .i64 (v0.1 + v2))).bind fun v3=>
  some (v3,v0.2)
def Z88 (x0 : List UInt8) (x1 x2 : Int) : Option (Int × Int):=
  (Zdo x0 x1 x2).bind fun v0=>
  if (v0.2 == 0) = true then (if (decide (x2 < 8)) = true then (if (decide (v0.1 < 0)) = true then
        ((Zlu v0 x2)) else
      (some (v0.1,v0.2))) else
    (some (v0.1,v0.2))) else
  (some (v0.1,v0.2))
theorem wj103x1 {v0 : Int × Int} {x2 : Int} {r : Int × Int} {Γ : Ctx} (h : (Zlu v0 x2) = some r) : Jn Tryz.prog Tryz.f103 Γ (Den.Ends Tryz.prog Tryz.f103 (R103 r)) 43 ⟨34,[(2,dI x2),(8,dI v0.1),(9,dI v0.2)],[]⟩:=
  so <| bd h fun v1 e1 h=>bd h fun v2 e2 h=>bd h fun v3 e3 h=>go [] [rg 3 [(2,n e1),(3,sl e2),(4,n e3)]] <| rt h
theorem w103 {x0 : List UInt8} {x1 x2 : Int} {r : Int × Int} (h : Z88 x0 x1 x2 = some r) : Z0e Tryz.prog 103 [.str x0,dI x1,dI x2] (R103 r):=
  cs Tryz.f103 <| bd h fun v0 e0 h=>go [2] [rg 1 [(3,k (w134 e0))]] <| po <| pr 3 [] <| sp h (fun h0 h=>pr 4 [(3,gw h0 g0),(4,gw h0 g0),(5,py h0)] <| sp h (fun h1 h=>pr 3 [(7,gw h1 g0),(8,gw h1 g0),(9,py h1)] <| pe <| goN [] [] <| br h (fun h2 h=>go [3] [] <| jn (wj103x1 h)) fun h2 h=>
      go [] [] <| rt h) fun h1 h=>
    pr 3 [(7,gs1 h1),(8,gs1 h1),(9,pn h1)] <| pe <| goN [] [] <| bF rfl <| go [] [] <| rt h) fun h0 h=>
  pr 7 [(3,gs1 h0),(4,gs1 h0),(5,pn h0)] <| pe <| goN [] [] <| bF rfl <| go [] [] <| rt h
def R129 (y0 : Bool) : D:= .bool y0
def Zgd (x0 : List Z00) (x1 : Int) (x2 : List UInt8) : Option (Bool):=
  (Z8a x0 x1).bind fun v0=>
  if (v0.2 != 0) = true then
    (some false) else
  (if (v0.1.Z1w == 3) = true then (if (x2 == ([73] : List UInt8)) = true then (some true) else
      (if (v0.1.Z1w == 5) = true then (if (x2 == ([74] : List UInt8)) = true then (some true) else
          (if (v0.1.Z1w == 8) = true then (some (x2 == ([76,108,97,110,103,47,83,116,114,105,110,103,59] : List UInt8))) else
            (some false))) else
        (if (v0.1.Z1w == 8) = true then (some (x2 == ([76,108,97,110,103,47,83,116,114,105,110,103,59] : List UInt8))) else
          (some false)))) else
    (if (v0.1.Z1w == 5) = true then (if (x2 == ([74] : List UInt8)) = true then (some true) else
        (if (v0.1.Z1w == 8) = true then (some (x2 == ([76,108,97,110,103,47,83,116,114,105,110,103,59] : List UInt8))) else
          (some false))) else
      (if (v0.1.Z1w == 8) = true then (some (x2 == ([76,108,97,110,103,47,83,116,114,105,110,103,59] : List UInt8))) else
        (some false))))
theorem w129 {x0 : List Z00} {x1 : Int} {x2 : List UInt8} {r : Bool} (h : Zgd x0 x1 x2 = some r) : Z0e Tryz.prog 129 [.sl false (x0.map Z09),dI x1,.str x2] (R129 r):=
  cs Tryz.f129 <| bd h fun v0 e0 h=>go [] [rg 1 [(2,k (w138 e0))]] <| br h (fun h0 h=>go [] [] <| rt h) fun h0 h=>
  go [4] [] <| po <| pr 4 [] <| sp h (fun h1 h=>pr 4 [(4,gw h1 g0),(5,gw h1 g0),(6,py h1)] <| sp h (fun h2 h=>pr 18 [(8,gs0 h2),(9,gs0 h2),(10,gs0 h2),(11,gs0 h2),(14,gs0 h2),(15,py h2)] <| pe <| goN [] [] <| rt h) fun h2 h=>
      pr 4 [(8,gw h2 g0),(9,gw h2 g0),(10,gw h2 g0),(11,gw h2 g0)] <| sp h (fun h3 h=>pr 5 [(12,gw h3 g0),(13,gw h3 g0),(14,gw h2 (py h3)),(15,pn h2)] <| sp h (fun h4 h=>pr 9 [(17,gs0 h4),(18,gs0 h4),(19,gs0 h4),(20,gs0 h4),(23,gs0 h4),(24,py h4)] <| pe <| goN [] [] <| rt h) fun h4 h=>
          pr 4 [(17,gw h4 g0),(18,gw h4 g0),(19,gw h4 g0),(20,gw h4 g0)] <| sp h (fun h5 h=>pr 5 [(21,gw h5 g0),(22,gw h5 g0),(23,gw h4 (py h5)),(24,pn h4)] <| pe <| goN [] [] <| rt h) fun h5 h=>
            pr 5 [(21,gs1 h5),(22,gs1 h5),(23,gw h4 (pn h5)),(24,pn h4)] <| pe <| goN [] [] <| rt h) fun h3 h=>
        pr 9 [(12,gs1 h3),(13,gs1 h3),(14,gw h2 (pn h3)),(15,pn h2)] <| sp h (fun h6 h=>pr 5 [(21,gw h6 g0),(22,gw h6 g0),(23,py h6)] <| pe <| goN [] [] <| rt h) fun h6 h=>
          pr 5 [(21,gs1 h6),(22,gs1 h6),(23,pn h6)] <| pe <| goN [] [] <| rt h) fun h1 h=>
    pr 8 [(4,gs1 h1),(5,gs1 h1),(6,pn h1)] <| sp h (fun h7 h=>pr 5 [(12,gw h7 g0),(13,gw h7 g0),(14,py h7)] <| sp h (fun h8 h=>pr 9 [(17,gs0 h8),(18,gs0 h8),(19,gs0 h8),(20,gs0 h8),(23,gs0 h8),(24,py h8)] <| pe <| goN [] [] <| rt h) fun h8 h=>
        pr 4 [(17,gw h8 g0),(18,gw h8 g0),(19,gw h8 g0),(20,gw h8 g0)] <| sp h (fun h9 h=>pr 5 [(21,gw h9 g0),(22,gw h9 g0),(23,gw h8 (py h9)),(24,pn h8)] <| pe <| goN [] [] <| rt h) fun h9 h=>
          pr 5 [(21,gs1 h9),(22,gs1 h9),(23,gw h8 (pn h9)),(24,pn h8)] <| pe <| goN [] [] <| rt h) fun h7 h=>
      pr 9 [(12,gs1 h7),(13,gs1 h7),(14,pn h7)] <| sp h (fun h10 h=>pr 5 [(21,gw h10 g0),(22,gw h10 g0),(23,py h10)] <| pe <| goN [] [] <| rt h) fun h10 h=>
        pr 5 [(21,gs1 h10),(22,gs1 h10),(23,pn h10)] <| pe <| goN [] [] <| rt h
def R98 (y0 : Bool) : D:= .bool y0
def j98x1 (v0 : Z14) (x0 : List Z00) (x2 : List UInt8) : Option (Bool):=
  (Z88 v0.Z29 0 2).bind fun v3=>
  (Zgd x0 v3.1 x2).bind fun v4=>
  some v4
def Zi0 (x0 : List Z00) (x1 : Z0b) (x2 : List UInt8) : Option (Bool):=
  if ((x1.Z1g.length : Int) == 0) = true then
    (some true) else
  ((Z0g x1.Z1g 0).bind fun v0=>
    if (decide ((x1.Z1g.length : Int) > 1)) = true then (some false) else
    ((some (Z1r .i64 x1.Z0h (8 : Int))).bind fun v1=>
      if (v1 == 0) = true then (some false) else
      ((Zak x0 v0 [67,111,110,115,116]).bind fun v2=>
        if (!v2) = true then (some false) else
        (if ((v0.Z29.length : Int) != 2) = true then
            (some false) else
          ((j98x1 v0 x0 x2))))))
theorem wj98x1 {v0 : Z14} {x0 : List Z00} {x2 : List UInt8} {r : Bool} {Γ : Ctx} (h : (j98x1 v0 x0 x2) = some r) : Jn Tryz.prog Tryz.f98 Γ (Den.Ends Tryz.prog Tryz.f98 (R98 r)) 47 ⟨50,[(0,.sl false (x0.map Z09)),(2,.str x2),(7,.lptr 7 0 0)],[(7,{ sz:=2,rows:=[Z1u v0],frz:=0,pure:=false })]⟩:=
  so <| bd h fun v3 e3 h=>bd h fun v4 e4 h=>go [] [rg 6 [(2,k (w103 e3))],rg 7 [(3,k (w129 e4))]] <| rt h
theorem w98 {x0 : List Z00} {x1 : Z0b} {x2 : List UInt8} {r : Bool} (h : Zi0 x0 x1 x2 = some r) : Z0e Tryz.prog 98 [.sl false (x0.map Z09),.agg (Z0t x1),.str x2] (R98 r):=
  cs Tryz.f98 <| go [] [rg 0 [(0,bo)],rg 1 [(2,ln x1.Z1g)]] <| br h (fun h0 h=>go [] [] <| rt h) fun h0 h=>
  bd h fun v0 e0 h=>go [4] [rg 3 [(2,ix e0)]] <| po <| pr 5 [(2,ln x1.Z1g)] <| sp h (fun h1 h=>pr 17 [(5,gs0 h1),(6,gs0 h1),(7,gs0 h1),(8,gs0 h1),(9,py h1)] <| pe <| goN [] [] <| bT rfl <| go [] [] <| rt h) fun h1 h=>
    bd h fun v1 e1 h=>pr 6 [(5,gw h1 g0),(6,gw h1 g0),(7,gw h1 (n e1)),(8,gw h1 g0),(9,pn h1)] <| sp h (fun h2 h=>pr 11 [(11,gs0 h2),(12,gs0 h2),(13,gs0 h2),(14,gs0 h2),(15,py h2)] <| pe <| goN [] [] <| bT rfl <| go [] [] <| rt h) fun h2 h=>
      bd h fun v2 e2 h=>pr 6 [(11,gw h2 g0),(12,gw h2 g0),(13,gw h2 (k (w102 e2))),(14,gw h2 g0),(15,pn h2)] <| sp h (fun h3 h=>pr 5 [(17,gs0 h3),(18,gs0 h3),(19,gs0 h3),(20,gs0 h3),(21,py h3)] <| pe <| goN [] [] <| bT rfl <| go [] [] <| rt h) fun h3 h=>
        pr 5 [(17,gw h3 g0),(18,gw h3 g0),(19,gw h3 g0),(20,gw h3 g0),(21,pn h3)] <| pe <| goN [] [] <| br h (fun h4 h=>go [] [] <| rt h) fun h4 h=>
          go [6] [] <| jn (wj98x1 h)
def R70 (y0 : Int) : D:= .int .i64 y0
def Zd5 (v0 : Z0b) (v4 : (List UInt8) × Int) (x0 : Z0w) (x1 : Int) (p0 : List UInt8) : Option (Int):=
  (Z90 p0 v0.Z0h).bind fun v7=>
  if (!v7) = true then
    (some 14) else
  ((Zdp x0.Z20 x0.Z0n x1).bind fun v8=>
    if v8 = true then
      (some 6) else
    ((Zi0 x0.Z20 v0 v4.1).bind fun v9=>
      if (!v9) = true then
        (some 4) else
      (some 0)))
def j70x2 (v0 : Z0b) (v4 : (List UInt8) × Int) (x0 : Z0w) (x1 : Int) : Option (Int):=
  (some (Z1r .i64 x0.Z0h (512 : Int))).bind fun v6=>
  if (v6 != 0) = true then
    ((Zd5 v0 v4 x0 x1) [105,102,97,99,101,102,105,101,108,100]) else
  ((Zd5 v0 v4 x0 x1) [102,105,101,108,100])
def j70x1 (v0 : Z0b) (x0 : Z0w) (x1 : Int) : Option (Int):=
  (Z3l x0.Z20 v0.Z1l).bind fun v4=>
  if (v4.2 != 0) = true then
    (some 13) else
  ((Z84 v4.1).bind fun v5=>
    if (v5.2 != 0) = true then (some 13) else
    (if (v5.1.Z1q == 86) = true then
      (some 13) else
    ((j70x2 v0 v4 x0 x1))))
def Zfd (x0 : Z0w) (x1 : Int) : Option (Int):=
  (Z0g x0.Z0n x1).bind fun v0=>
  (Z3l x0.Z20 v0.Z02).bind fun v1=>
  if (v1.2 != 0) = true then (some 12) else
  ((Z9x v1.1).bind fun v2=>
    if (!v2) = true then (some 12) else
    ((Z30 v1.1 0).bind fun v3=>
      if (v3 == 60) = true then
        (some 12) else
      ((j70x1 v0 x0 x1))))
theorem Zw2 {v0 : Z0b} {v4 : (List UInt8) × Int} {x0 : Z0w} {x1 : Int} {p0 : List UInt8} {r : Int} {Γ : Ctx} (h : (Zd5 v0 v4 x0 x1) p0 = some r) : Jn Tryz.prog Tryz.f70 Γ (Den.Ends Tryz.prog Tryz.f70 (R70 r)) 5119 ⟨79,[(1,dI x1),(2,.ptr (Z2b x0)),(5,.lptr 5 0 0),(8,.str v4.1),(10,.str p0)],[(5,{ sz:=4,rows:=[Z0t v0],frz:=0,pure:=false })]⟩:=
  so <| bd h fun v7 e7 h=>go [] [rg 14 [(3,k (w91 e7))]] <| br h (fun h7 h=>go [] [] <| rt h) fun h7 h=>
  bd h fun v8 e8 h=>go [] [rg 16 [(5,k (w97 e8))]] <| br h (fun h8 h=>go [] [] <| rt h) fun h8 h=>
    bd h fun v9 e9 h=>go [] [rg 18 [(4,k (w98 e9))]] <| br h (fun h9 h=>go [] [] <| rt h) fun h9 h=>
      go [] [] <| rt h
theorem wj70x2 {v0 : Z0b} {v4 : (List UInt8) × Int} {x0 : Z0w} {x1 : Int} {r : Int} {Γ : Ctx} (h : (j70x2 v0 v4 x0 x1) = some r) : Jn Tryz.prog Tryz.f70 Γ (Den.Ends Tryz.prog Tryz.f70 (R70 r)) 767 ⟨79,[(1,dI x1),(2,.ptr (Z2b x0)),(5,.lptr 5 0 0),(8,.str v4.1)],[(5,{ sz:=4,rows:=[Z0t v0],frz:=0,pure:=false })]⟩:=
  so <| bd h fun v6 e6 h=>go [] [rg 12 [(2,n e6)]] <| br h (fun h6 h=>go [14] [] <| jn (Zw2 h)) fun h6 h=>
  go [14] [] <| jn (Zw2 h)
theorem wj70x1 {v0 : Z0b} {x0 : Z0w} {x1 : Int} {r : Int} {Γ : Ctx} (h : (j70x1 v0 x0 x1) = some r) : Jn Tryz.prog Tryz.f70 Γ (Den.Ends Tryz.prog Tryz.f70 (R70 r)) 47 ⟨79,[(1,dI x1),(2,.ptr (Z2b x0)),(5,.lptr 5 0 0)],[(5,{ sz:=4,rows:=[Z0t v0],frz:=0,pure:=false })]⟩:=
  so <| bd h fun v4 e4 h=>go [] [rg 5 [(4,k (w94 e4))]] <| br h (fun h3 h=>go [] [] <| rt h) fun h3 h=>
  bd h fun v5 e5 h=>sp h (fun h4 h=>go [] [rg 8 [(1,k (w96 e5))],rg 9 [(1,kb h4)]] <| bT rfl <| go [] [] <| rt h) fun h4 h=>
    go [] [rg 8 [(1,k (w96 e5))],rg 9 [(1,kb h4)]] <| br h (fun h5 h=>go [] [] <| rt h) fun h5 h=>
    go [11] [] <| jn (wj70x2 h)
theorem w70 {x0 : Z0w} {x1 : Int} {r : Int} (h : Zfd x0 x1 = some r) : Z0e Tryz.prog 70 [.agg (Z2b x0),dI x1] (R70 r):=
  cs Tryz.f70 <| bd h fun v0 e0 h=>bd h fun v1 e1 h=>go [3] [rg 0 [(0,bo)],rg 1 [(3,ix e0)],rg 2 [(4,k (w94 e1))]] <| po <| pr 3 [] <| sp h (fun h0 h=>pr 9 [(3,gs0 h0),(4,gs0 h0),(5,gs0 h0),(6,py h0)] <| pe <| goN [] [] <| bT rfl <| go [] [] <| rt h) fun h0 h=>
  bd h fun v2 e2 h=>pr 5 [(3,gw h0 g0),(4,gw h0 (k (w95 e2))),(5,gw h0 g0),(6,pn h0)] <| sp h (fun h1 h=>pr 4 [(8,gs0 h1),(9,gs0 h1),(10,gs0 h1),(11,py h1)] <| pe <| goN [] [] <| bT rfl <| go [] [] <| rt h) fun h1 h=>
    bd h fun v3 e3 h=>pr 4 [(8,gw h1 g0),(9,gw h1 (ib e3)),(10,gw h1 g0),(11,pn h1)] <| pe <| goN [] [] <| br h (fun h2 h=>go [] [] <| rt h) fun h2 h=>
      go [5] [] <| jn (wj70x1 h)
def R99 (y0 : (List UInt8) × Z28 × Int) : D:= .tup [.str y0.1,.agg (Zbq y0.2.1),.int .i64 y0.2.2]
def Zdu (v0 : (List UInt8) × Int) (x0 : Z0w) (x1 : Z0b) : Option ((List UInt8) × Z28 × Int):=
  (Z3l x0.Z20 x1.Z1l).bind fun v3=>
  if (v3.2 != 0) = true then
    (some ([],({ Z32:=([] : List Z0r),Z3g:=({ Z1y:=0,Z1q:=0,Z02:=[] } : Z0r) } : Z28),13)) else
  ((Zaz v3.1).bind fun v4=>
    if (v4.2 != 0) = true then (some ([],({ Z32:=([] : List Z0r),Z3g:=({ Z1y:=0,Z1q:=0,Z02:=[] } : Z0r) } : Z28),13)) else
    (if (v0.1 == ([60,105,110,105,116,62] : List UInt8)) = true then (if (v4.1.Z3g.Z1q != 86) = true then (some ([],({ Z32:=([] : List Z0r),Z3g:=({ Z1y:=0,Z1q:=0,Z02:=[] } : Z0r) } : Z28),13)) else
        (if (v0.1 == ([60,99,108,105,110,105,116,62] : List UInt8)) = true then (if (!(v3.1 == ([40,41,86] : List UInt8))) = true then
              (some ([],({ Z32:=([] : List Z0r),Z3g:=({ Z1y:=0,Z1q:=0,Z02:=[] } : Z0r) } : Z28),13)) else
            (some (v0.1,v4.1,0))) else
          (some (v0.1,v4.1,0)))) else
      (if (v0.1 == ([60,99,108,105,110,105,116,62] : List UInt8)) = true then (if (!(v3.1 == ([40,41,86] : List UInt8))) = true then
            (some ([],({ Z32:=([] : List Z0r),Z3g:=({ Z1y:=0,Z1q:=0,Z02:=[] } : Z0r) } : Z28),13)) else
          (some (v0.1,v4.1,0))) else
        (some (v0.1,v4.1,0)))))
def Zi7 (x0 : Z0w) (x1 : Z0b) : Option ((List UInt8) × Z28 × Int):=
  (Z3l x0.Z20 x1.Z02).bind fun v0=>
  if (v0.2 != 0) = true then (some ([],({ Z32:=([] : List Z0r),Z3g:=({ Z1y:=0,Z1q:=0,Z02:=[] } : Z0r) } : Z28),12)) else
  ((Z9x v0.1).bind fun v1=>
    if (!v1) = true then (some ([],({ Z32:=([] : List Z0r),Z3g:=({ Z1y:=0,Z1q:=0,Z02:=[] } : Z0r) } : Z28),12)) else
    (if (v0.1 == ([60,105,110,105,116,62] : List UInt8)) = true then ((some (Z1r .i64 x0.Z0h (512 : Int))).bind fun v2=>
        if (v2 != 0) = true then
          (some ([],({ Z32:=([] : List Z0r),Z3g:=({ Z1y:=0,Z1q:=0,Z02:=[] } : Z0r) } : Z28),12)) else
        ((Zdu v0 x0 x1))) else
      ((Zdu v0 x0 x1))))
theorem Zuj {v0 : (List UInt8) × Int} {x0 : Z0w} {x1 : Z0b} {r : (List UInt8) × Z28 × Int} {Γ : Ctx} (h : (Zdu v0 x0 x1) = some r) : Jn Tryz.prog Tryz.f99 Γ (Den.Ends Tryz.prog Tryz.f99 (R99 r)) 23 ⟨76,[(2,.ptr (Z2b x0)),(3,.ptr (Z0t x1)),(5,.lptr 5 0 0),(7,.str v0.1)],[(5,{ sz:=4,rows:=[[.sl true (([] : List Z0r).map Z2y),dI 0,d8 0,.str []]],frz:=0,pure:=false })]⟩:=
  so <| bd h fun v3 e3 h=>go [] [rg 4 [(4,k (w94 e3))]] <| br h (fun h4 h=>go [] [] <| rt h) fun h4 h=>
  bd h fun v4 e4 h=>go [8] [rg 7 [(1,k (w130 e4))]] <| po <| pr 3 [] <| sp h (fun h5 h=>pr 17 [(3,gs0 h5),(4,gs0 h5),(5,gs0 h5),(10,gs0 h5),(11,py h5)] <| pe <| goN [] [] <| bT rfl <| go [] [] <| rt h) fun h5 h=>
    pr 3 [(3,gw h5 g0),(4,gw h5 g0),(5,gw h5 g0)] <| sp h (fun h6 h=>pr 7 [(6,gw h6 g0),(7,gw h6 g0),(8,gw h6 g0),(9,gw h6 g0),(10,gw h5 (py h6)),(11,pn h5)] <| sp h (fun h7 h=>pr 7 [(13,gs0 h7),(14,gs0 h7),(15,gs0 h7),(18,gs0 h7),(19,py h7)] <| pe <| goN [] [] <| bT rfl <| go [] [] <| rt h) fun h7 h=>
        pr 3 [(13,gw h7 g0),(14,gw h7 g0),(15,gw h7 g0)] <| sp h (fun h8 h=>pr 4 [(16,gw h8 g0),(17,gw h8 g0),(18,gw h7 (py h8)),(19,pn h7)] <| pe <| goN [] [] <| br h (fun h9 h=>go [] [] <| rt h) fun h9 h=>
            go [] [rgo 10 [] [0,1,2,3,4] [3] [(2,[0]),(3,[0,1,2]),(4,[0,1,2,3])]] <| rt h) fun h8 h=>
          pr 4 [(16,gs1 h8),(17,gs1 h8),(18,gw h7 (pn h8)),(19,pn h7)] <| pe <| goN [] [] <| bF rfl <| go [] [rgo 10 [] [0,1,2,3,4] [3] [(2,[0]),(3,[0,1,2]),(4,[0,1,2,3])]] <| rt h) fun h6 h=>
      pr 10 [(6,gs1 h6),(7,gs1 h6),(8,gs1 h6),(9,gs1 h6),(10,gw h5 (pn h6)),(11,pn h5)] <| sp h (fun h10 h=>pr 4 [(16,gw h10 g0),(17,gw h10 g0),(18,py h10)] <| pe <| goN [] [] <| br h (fun h11 h=>go [] [] <| rt h) fun h11 h=>
          go [] [rgo 10 [] [0,1,2,3,4] [3] [(2,[0]),(3,[0,1,2]),(4,[0,1,2,3])]] <| rt h) fun h10 h=>
        pr 4 [(16,gs1 h10),(17,gs1 h10),(18,pn h10)] <| pe <| goN [] [] <| bF rfl <| go [] [rgo 10 [] [0,1,2,3,4] [3] [(2,[0]),(3,[0,1,2]),(4,[0,1,2,3])]] <| rt h
theorem w99 {x0 : Z0w} {x1 : Z0b} {r : (List UInt8) × Z28 × Int} (h : Zi7 x0 x1 = some r) : Z0e Tryz.prog 99 [.agg (Z2b x0),.agg (Z0t x1)] (R99 r):=
  cs Tryz.f99 <| bd h fun v0 e0 h=>go [2] [rg 0 [(0,bo),(1,bo)],rg 1 [(4,k (w94 e0))]] <| po <| pr 3 [] <| sp h (fun h0 h=>pr 14 [(3,gs0 h0),(4,gs0 h0),(5,gs0 h0),(6,py h0)] <| pe <| goN [] [] <| bT rfl <| go [] [] <| rt h) fun h0 h=>
  bd h fun v1 e1 h=>pr 5 [(3,gw h0 g0),(4,gw h0 (k (w95 e1))),(5,gw h0 g0),(6,pn h0)] <| sp h (fun h1 h=>pr 9 [(8,gs0 h1),(9,gs0 h1),(10,gs0 h1),(15,gs0 h1),(16,py h1)] <| pe <| goN [] [] <| bT rfl <| go [] [] <| rt h) fun h1 h=>
    pr 3 [(8,gw h1 g0),(9,gw h1 g0),(10,gw h1 g0)] <| sp h (fun h2 h=>bd h fun v2 e2 h=>pr 6 [(11,gw h2 g0),(12,gw h2 g0),(13,gw h2 (n e2)),(14,gw h2 g0),(15,gw h1 (py h2)),(16,pn h1)] <| pe <| goN [] [] <| br h (fun h3 h=>go [] [] <| rt h) fun h3 h=>
        go [4] [] <| jn (Zuj h)) fun h2 h=>
      pr 6 [(11,gs1 h2),(12,gs1 h2),(13,gs1 h2),(14,gs1 h2),(15,gw h1 (pn h2)),(16,pn h1)] <| pe <| goN [] [] <| bF rfl <| go [4] [] <| jn (Zuj h)
def R100 (y0 : Bool) : D:= .bool y0
def Zip (x0 : Z0w) (x1 : Z0b) : Option (Bool):=
  (Z90 [109,101,116,104,111,100] x1.Z0h).bind fun v3=>
  if v3 = true then ((some (Z1r .i64 x1.Z0h (1024 : Int))).bind fun v4=>
    if (v4 == 0) = true then (some true) else
    ((some (Z1r .i64 x0.Z0h (1024 : Int))).bind fun v5=>
      some (v5 != 0))) else
  (some false)
def Zhr (x0 : Z0w) (x1 : Z0b) (x2 : List UInt8) : Option (Bool):=
  if (x2 == ([60,99,108,105,110,105,116,62] : List UInt8)) = true then
    (some (x1.Z0h == 8)) else
  ((some (Z1r .i64 x0.Z0h (512 : Int))).bind fun v0=>
    if (v0 != 0) = true then
      ((Z90 [105,102,97,99,101,109,101,116,104,111,100] x1.Z0h).bind fun v1=>
      some v1) else
    (if (x2 == ([60,105,110,105,116,62] : List UInt8)) = true then ((Z94 x1.Z0h 7).bind fun v2=>
      if (!v2) = true then
        (some false) else
      ((Zip x0 x1))) else
      ((Zip x0 x1))))
theorem Zv3 {x0 : Z0w} {x1 : Z0b} {r : Bool} {Γ : Ctx} (h : (Zip x0 x1) = some r) : Jn Tryz.prog Tryz.f100 Γ (Den.Ends Tryz.prog Tryz.f100 (R100 r)) 47 ⟨42,[(3,.ptr (Z2b x0)),(4,.ptr (Z0t x1))],[]⟩:=
  po <| bd h fun v3 e3 h=>pr 4 [(2,k (w91 e3))] <| sp h (fun h4 h=>bd h fun v4 e4 h=>pr 5 [(4,gw h4 g0),(5,gw h4 g0),(6,gw h4 (n e4)),(7,gw h4 g0),(8,gw h4 g0)] <| sp h (fun h5 h=>pr 7 [(9,gs0 h5),(10,gs0 h5),(11,gs0 h5),(12,gs0 h5),(13,gw h4 (py h5)),(14,py h4)] <| pe <| goN [] [] <| rt h) fun h5 h=>
    bd h fun v5 e5 h=>pr 7 [(9,gw h5 g0),(10,gw h5 g0),(11,gw h5 (n e5)),(12,gw h5 g0),(13,gw h4 (pn h5)),(14,py h4)] <| pe <| goN [] [] <| rt h) fun h4 h=>
  pr 12 [(4,gs1 h4),(5,gs1 h4),(6,gs1 h4),(7,gs1 h4),(8,gs1 h4),(13,gs1 h4),(14,pn h4)] <| pe <| goN [] [] <| rt h
theorem w100 {x0 : Z0w} {x1 : Z0b} {x2 : List UInt8} {r : Bool} (h : Zhr x0 x1 x2 = some r) : Z0e Tryz.prog 100 [.agg (Z2b x0),.agg (Z0t x1),.str x2] (R100 r):=
  cs Tryz.f100 <| go [] [rg 0 [(0,bo),(1,bo)]] <| br h (fun h0 h=>go [] [] <| rt h) fun h0 h=>
  bd h fun v0 e0 h=>go [] [rg 3 [(2,n e0)]] <| br h (fun h1 h=>bd h fun v1 e1 h=>go [] [rg 4 [(2,k (w91 e1))]] <| rt h) fun h1 h=>
    sp h (fun h2 h=>bd h fun v2 e2 h=>go [] [rg 5 [(1,kb h2),(5,k (w125 e2))]] <| br h (fun h3 h=>go [] [] <| rt h) fun h3 h=>
      go [7] [] <| jn (Zv3 h)) fun h2 h=>
      go [] [rg 5 [(1,kb h2)]] <| bF rfl <| go [7] [] <| jn (Zv3 h)
def R131 (y0 : (List UInt8) × Int) : D:= .tup [.str y0.1,.int .i64 y0.2]
def Zmy (x0 : List Z00) (x1 : List Z14) (x2 : List UInt8) (t0 : (List UInt8) × Int × Int) : Option (Ctl ((List UInt8) × Int × Int) (((List UInt8) × Int))):=
  if (decide (t0.2.2 < (x1.length : Int))) = true then
    ((Z0g x1 t0.2.2).bind fun v3=>
    (Zak x0 v3 x2).bind fun v4=>
    if v4 = true then
      ((Z0g x1 t0.2.2).bind fun v5=>
      (some (IntKind.wrap .i64 (t0.2.1 + (1 : Int)))).bind fun v6=>
      (some (IntKind.wrap .i64 (t0.2.2 + (1 : Int)))).bind fun v7=>
      some (.next (v5.Z29,v6,v7))) else
    ((some (IntKind.wrap .i64 (t0.2.2 + (1 : Int)))).bind fun v8=>
      some (.next (t0.1,t0.2.1,v8)))) else
  (some (.done ((t0.1,t0.2.1))))
def Zdx (x0 : List Z00) (x1 : List Z14) (x2 : List UInt8) : Option ((List UInt8) × Int):=
  (Z0d (Zmy x0 x1 x2) Z0i ([],0,0)).bind fun q0=>
  some (q0.1,q0.2)
def Zpr (x0 : List Z00) (x1 : List Z14) (x2 : List UInt8) : ((List UInt8) × Int × Int) → SL:=
  fun t0=>⟨33,[(0,.sl false (x0.map Z09)),(1,.sl false (x1.map Z1u)),(2,.str x2),(8,.str t0.1),(9,dI t0.2.1),(10,dI t0.2.2)],[]⟩
def J131x1 : JT (((List UInt8) × Int)):=
  je 0 fun q0 : (List UInt8) × Int=>⟨33,[(8,.str q0.1),(9,dI q0.2)],[]⟩
theorem wl131x1 {x0 : List Z00} {x1 : List Z14} {x2 : List UInt8} {t0 : (List UInt8) × Int × Int} {r : Ctl ((List UInt8) × Int × Int) (((List UInt8) × Int))} {Γ : Ctx} (h : (Zmy x0 x1 x2) t0 = some r) : A Tryz.prog Γ (lpC Tryz.f131 43) [] (Rd (Zpr x0 x1 x2) J131x1 r) ((Zpr x0 x1 x2) t0).s:=
  go [] [rg 3 [(2,ln x1)]] <| br h (fun h2 h=>bd h fun v3 e3 h=>bd h fun v4 e4 h=>go [] [rg 5 [(3,ix e3),(6,k (w102 e4))]] <| br h (fun h3 h=>bd h fun v5 e5 h=>bd h fun v6 e6 h=>bd h fun v7 e7 h=>go [] [rg 6 [(2,ix e5)],rg 7 [(1,n e6)],rg 4 [(1,n e7)]] <| nx h) fun h3 h=>
    bd h fun v8 e8 h=>go [] [rg 4 [(1,n e8)]] <| nx h) fun h2 h=>
  go [] [] <| dn h (iE)
theorem w131 {x0 : List Z00} {x1 : List Z14} {x2 : List UInt8} {r : (List UInt8) × Int} (h : Zdx x0 x1 x2 = some r) : Z0e Tryz.prog 131 [.sl false (x0.map Z09),.sl false (x1.map Z1u),.str x2] (R131 r):=
  cs Tryz.f131 <| go [] [] <| bd h fun q0 e9 h=>lp e9 wl131x1 <| qe <| goN [] [] <| rt h
def R155 (y0 : Int × Z12) : D:= .tup [.int .i64 y0.1,.agg (Z8c y0.2)]
def Z3d (x0 : Z12) (x1 : Int) : Option (Int × Z12):=
  (Z88 x0.f_S x0.f_At x1).bind fun v0=>
  if x0.Z2e = true then (some (0,({ f_S:=x0.f_S,f_At:=x0.f_At,Z2e:=true } : Z12))) else
  (if (v0.2 != 0) = true then
    (some (0,({ f_S:=x0.f_S,f_At:=x0.f_At,Z2e:=true } : Z12))) else
  ((some (IntKind.wrap .i64 (x0.f_At + x1))).bind fun v1=>
    some (v0.1,({ f_S:=x0.f_S,f_At:=v1,Z2e:=false } : Z12))))
theorem Z3a {x0 : Z12} {x1 : Int} {r : Int × Z12} (h : Z3d x0 x1 = some r) : Z0e Tryz.prog 155 [.agg (Z8c x0),dI x1] (R155 r):=
  cs Tryz.f155 <| bd h fun v0 e0 h=>sp h (fun h0 h=>go [] [rg 0 [(0,bo)],rg 1 [(5,k (w103 e0))],rg 2 [(3,gs0 h0),(4,gs0 h0),(5,py h0)]] <| bT rfl <| go [] [rgo 3 [] [0,1,2,3,4,5,6] [6] [(1,[0]),(3,[2]),(4,[0,1,2,3]),(6,[0,1,2,3,4,5])]] <| rt h) fun h0 h=>
  go [] [rg 0 [(0,bo)],rg 1 [(5,k (w103 e0))],rg 2 [(3,gw h0 g0),(4,gw h0 g0),(5,pn h0)]] <| br h (fun h1 h=>go [] [rgo 3 [] [0,1,2,3,4,5,6] [6] [(1,[0]),(3,[2]),(4,[0,1,2,3]),(6,[0,1,2,3,4,5])]] <| rt h) fun h1 h=>
  bd h fun v1 e1 h=>go [] [rgo 4 [(6,n e1)] [0,1,2,3,4,5,6,7,8,9] [9] [(2,[1]),(4,[3]),(6,[3,4,5]),(7,[1,2,3,4,5,6]),(8,[0]),(9,[0,1,2,3,4,5,6,7,8])]] <| rt h
def R162 (y0 : (List Z0f) × Z12) : D:= .tup [.sl false (y0.1.map Z1s),.agg (Z8c y0.2)]
def Zah (p11 : Int) (t0 : Int × (List UInt8) × Int × Bool × (List Z0f)) (v5 : Int × Z12) (p12 : List UInt8) (p13 : Int) (p14 : Bool) (p15 : Int) : Option (Ctl (Int × (List UInt8) × Int × Bool × (List Z0f)) (((List UInt8) × Int × Bool × (List Z0f)))):=
  (Z24 56 (t0.2.2.2.2 ++ [({ Z2g:=v5.1,Z2x:=p11,Z1o:=({ Z1y:=0,Z1q:=0,Z02:=[] } : Z0r),Z34:=p15 } : Z0f)]).length).bind fun v8=>
  (some (IntKind.wrap .i64 (t0.1 + (1 : Int)))).bind fun v9=>
  some (.next (v9,p12,p13,p14,(t0.2.2.2.2 ++ [({ Z2g:=v5.1,Z2x:=p11,Z1o:=({ Z1y:=0,Z1q:=0,Z02:=[] } : Z0r),Z34:=p15 } : Z0f)])))
def Zl3 (p8 : List UInt8) (p9 : Int) (p10 : Bool) (p11 : Int) (t0 : Int × (List UInt8) × Int × Bool × (List Z0f)) (v5 : Int × Z12) : Option (Ctl (Int × (List UInt8) × Int × Bool × (List Z0f)) (((List UInt8) × Int × Bool × (List Z0f)))):=
  (Z3d ({ f_S:=p8,f_At:=p9,Z2e:=p10 } : Z12) 2).bind fun v7=>
  (Zah p11 t0 v5) v7.2.f_S v7.2.f_At v7.2.Z2e v7.1
def Zd4 (t0 : Int × (List UInt8) × Int × Bool × (List Z0f)) (v5 : Int × Z12) (p8 : List UInt8) (p9 : Int) (p10 : Bool) (p11 : Int) : Option (Ctl (Int × (List UInt8) × Int × Bool × (List Z0f)) (((List UInt8) × Int × Bool × (List Z0f)))):=
  if (decide (v5.1 ≥ 4)) = true then (if (decide (v5.1 ≤ 6)) = true then
    ((Zl3 p8 p9 p10 p11 t0 v5)) else
  ((Zah p11 t0 v5) p8 p9 p10 0)) else
  ((Zah p11 t0 v5) p8 p9 p10 0)
def Zl4 (t0 : Int × (List UInt8) × Int × Bool × (List Z0f)) : Option (Ctl (Int × (List UInt8) × Int × Bool × (List Z0f)) (((List UInt8) × Int × Bool × (List Z0f)))):=
  (Z3d ({ f_S:=t0.2.1,f_At:=t0.2.2.1,Z2e:=t0.2.2.2.1 } : Z12) 1).bind fun v5=>
  if (v5.1 == 5) = true then
    ((Z3d v5.2 2).bind fun v6=>
    (Zd4 t0 v5) v6.2.f_S v6.2.f_At v6.2.Z2e v6.1) else
  ((Zd4 t0 v5) v5.2.f_S v5.2.f_At v5.2.Z2e 0)
def Zjx (v0 : Int × Z12) (t0 : Int × (List UInt8) × Int × Bool × (List Z0f)) : Option (Ctl (Int × (List UInt8) × Int × Bool × (List Z0f)) (((List UInt8) × Int × Bool × (List Z0f)))):=
  if (decide (t0.1 < v0.1)) = true then (if (!t0.2.2.2.1) = true then
    ((Zl4 t0)) else
  (some (.done ((t0.2.1,t0.2.2.1,t0.2.2.2.1,t0.2.2.2.2))))) else
  (some (.done ((t0.2.1,t0.2.2.1,t0.2.2.2.1,t0.2.2.2.2))))
def Zek (x0 : Z12) : Option ((List Z0f) × Z12):=
  (Z3d x0 1).bind fun v0=>
  (Z0d (Zjx v0) Z0i (0,v0.2.f_S,v0.2.f_At,v0.2.Z2e,([] : List Z0f))).bind fun q0=>
  some (q0.2.2.2,({ f_S:=q0.1,f_At:=q0.2.1,Z2e:=q0.2.2.1 } : Z12))
def Z9y (v0 : Int × Z12) : (Int × (List UInt8) × Int × Bool × (List Z0f)) → SL:=
  fun t0=>⟨60,[(1,.lptr 1 0 0),(3,.lptr 3 0 0),(4,dI v0.1),(5,.lsl 5 0 ((t0.2.2.2.2.map Z1s).length)),(6,dI t0.1)],[(1,{ sz:=3,rows:=[[.str t0.2.1,dI t0.2.2.1,.bool t0.2.2.2.1]],frz:=0,pure:=false }),(3,{ sz:=3,rows:=[[.str [],dI 0,.bool false]],frz:=0,pure:=false }),(5,{ sz:=6,rows:=(t0.2.2.2.2.map Z1s),frz:=0,pure:=true })]⟩
def Zdr : JT (((List UInt8) × Int × Bool × (List Z0f))):=
  je 0 fun q0 : (List UInt8) × Int × Bool × (List Z0f)=>⟨60,[(1,.lptr 1 0 0),(3,.lptr 3 0 0),(5,.lsl 5 0 ((q0.2.2.2.map Z1s).length))],[(1,{ sz:=3,rows:=[[.str q0.1,dI q0.2.1,.bool q0.2.2.1]],frz:=0,pure:=false }),(3,{ sz:=3,rows:=[[.str [],dI 0,.bool false]],frz:=0,pure:=false }),(5,{ sz:=6,rows:=(q0.2.2.2.map Z1s),frz:=0,pure:=true })]⟩
theorem Znh (v0 : Int × Z12) {p11 : Int} {t0 : Int × (List UInt8) × Int × Bool × (List Z0f)} {v5 : Int × Z12} {p12 : List UInt8} {p13 : Int} {p14 : Bool} {p15 : Int} {r : Ctl (Int × (List UInt8) × Int × Bool × (List Z0f)) (((List UInt8) × Int × Bool × (List Z0f)))} {Γ : Ctx} (h : (Zah p11 t0 v5) p12 p13 p14 p15 = some r) : Jn Tryz.prog Tryz.f162 Γ (Rd (Z9y v0) Zdr r) 31895 ⟨60,[(1,.lptr 1 0 0),(3,.lptr 3 0 0),(4,dI v0.1),(5,.lsl 5 0 ((t0.2.2.2.2.map Z1s).length)),(6,dI t0.1),(7,.lptr 7 0 0)],[(1,{ sz:=3,rows:=[[.str p12,dI p13,.bool p14]],frz:=0,pure:=false }),(3,{ sz:=3,rows:=[[.str [],dI 0,.bool false]],frz:=0,pure:=false }),(5,{ sz:=6,rows:=(t0.2.2.2.2.map Z1s),frz:=0,pure:=true }),(7,{ sz:=6,rows:=[[dI v5.1,dI p11,dI 0,d8 0,.str [],dI p15]],frz:=0,pure:=false })]⟩:=
  so <| bd h fun v8 e8 h=>bd h fun v9 e9 h=>go [] [rg 12 [(2,br0 1 6),(3,ap e8)],rg 5 [(1,n e9)]] <| nx h
theorem wj162x3 (v0 : Int × Z12) {p8 : List UInt8} {p9 : Int} {p10 : Bool} {p11 : Int} {t0 : Int × (List UInt8) × Int × Bool × (List Z0f)} {v5 : Int × Z12} {r : Ctl (Int × (List UInt8) × Int × Bool × (List Z0f)) (((List UInt8) × Int × Bool × (List Z0f)))} {Γ : Ctx} (h : (Zl3 p8 p9 p10 p11 t0 v5) = some r) : Jn Tryz.prog Tryz.f162 Γ (Rd (Z9y v0) Zdr r) 89239 ⟨60,[(1,.lptr 1 0 0),(3,.lptr 3 0 0),(4,dI v0.1),(5,.lsl 5 0 ((t0.2.2.2.2.map Z1s).length)),(6,dI t0.1),(7,.lptr 7 0 0)],[(1,{ sz:=3,rows:=[[.str p8,dI p9,.bool p10]],frz:=0,pure:=false }),(3,{ sz:=3,rows:=[[.str [],dI 0,.bool false]],frz:=0,pure:=false }),(5,{ sz:=6,rows:=(t0.2.2.2.2.map Z1s),frz:=0,pure:=true }),(7,{ sz:=6,rows:=[[dI v5.1,dI p11,dI 0,d8 0,.str [],dI 0]],frz:=0,pure:=false })]⟩:=
  so <| bd h fun v7 e7 h=>go [12] [rg 11 [(1,k (Z3a e7))]] <| jn ((Znh v0) h)
theorem Zv4 (v0 : Int × Z12) {t0 : Int × (List UInt8) × Int × Bool × (List Z0f)} {v5 : Int × Z12} {p8 : List UInt8} {p9 : Int} {p10 : Bool} {p11 : Int} {r : Ctl (Int × (List UInt8) × Int × Bool × (List Z0f)) (((List UInt8) × Int × Bool × (List Z0f)))} {Γ : Ctx} (h : (Zd4 t0 v5) p8 p9 p10 p11 = some r) : Jn Tryz.prog Tryz.f162 Γ (Rd (Z9y v0) Zdr r) 40087 ⟨60,[(1,.lptr 1 0 0),(3,.lptr 3 0 0),(4,dI v0.1),(5,.lsl 5 0 ((t0.2.2.2.2.map Z1s).length)),(6,dI t0.1),(7,.lptr 7 0 0)],[(1,{ sz:=3,rows:=[[.str p8,dI p9,.bool p10]],frz:=0,pure:=false }),(3,{ sz:=3,rows:=[[.str [],dI 0,.bool false]],frz:=0,pure:=false }),(5,{ sz:=6,rows:=(t0.2.2.2.2.map Z1s),frz:=0,pure:=true }),(7,{ sz:=6,rows:=[[dI v5.1,dI p11,dI 0,d8 0,.str [],dI 0]],frz:=0,pure:=false })]⟩:=
  so <| sp h (fun h8 h=>go [] [rg 10 [(2,kb h8)]] <| br h (fun h9 h=>go [11] [] <| jn ((wj162x3 v0) h)) fun h9 h=>
  go [12] [] <| jn ((Znh v0) h)) fun h8 h=>
  go [] [rg 10 [(2,kb h8)]] <| bF rfl <| go [12] [] <| jn ((Znh v0) h)
theorem wj162x1 (v0 : Int × Z12) {t0 : Int × (List UInt8) × Int × Bool × (List Z0f)} {r : Ctl (Int × (List UInt8) × Int × Bool × (List Z0f)) (((List UInt8) × Int × Bool × (List Z0f)))} {Γ : Ctx} (h : (Zl4 t0) = some r) : Jn Tryz.prog Tryz.f162 Γ (Rd (Z9y v0) Zdr r) 2199 ⟨60,[(1,.lptr 1 0 0),(3,.lptr 3 0 0),(4,dI v0.1),(5,.lsl 5 0 ((t0.2.2.2.2.map Z1s).length)),(6,dI t0.1)],[(1,{ sz:=3,rows:=[[.str t0.2.1,dI t0.2.2.1,.bool t0.2.2.2.1]],frz:=0,pure:=false }),(3,{ sz:=3,rows:=[[.str [],dI 0,.bool false]],frz:=0,pure:=false }),(5,{ sz:=6,rows:=(t0.2.2.2.2.map Z1s),frz:=0,pure:=true })]⟩:=
  so <| bd h fun v5 e5 h=>go [] [rg 7 [(1,k (Z3a e5))]] <| br h (fun h7 h=>bd h fun v6 e6 h=>go [10] [rg 9 [(1,k (Z3a e6))]] <| jn ((Zv4 v0) h)) fun h7 h=>
  go [10] [] <| jn ((Zv4 v0) h)
theorem wl162x1 {v0 : Int × Z12} {t0 : Int × (List UInt8) × Int × Bool × (List Z0f)} {r : Ctl (Int × (List UInt8) × Int × Bool × (List Z0f)) (((List UInt8) × Int × Bool × (List Z0f)))} {Γ : Ctx} (h : (Zjx v0) t0 = some r) : A Tryz.prog Γ (lpC Tryz.f162 87) [] (Rd (Z9y v0) Zdr r) ((Z9y v0) t0).s:=
  sp h (fun h5 h=>go [] [rg 4 [(2,kb h5)]] <| br h (fun h6 h=>go [6] [] <| jn ((wj162x1 v0) h)) fun h6 h=>
  go [] [] <| dn h (iE)) fun h5 h=>
  go [] [rg 4 [(2,kb h5)]] <| bF rfl <| go [] [] <| dn h (iE)
theorem w162 {x0 : Z12} {r : (List Z0f) × Z12} (h : Zek x0 = some r) : Z0e Tryz.prog 162 [.agg (Z8c x0)] (R162 r):=
  cs Tryz.f162 <| bd h fun v0 e0 h=>go [] [rg 1 [(1,k (Z3a e0))],rg 2 [(0,bl 0 6)]] <| bd h fun q0 e10 h=>lp (ps:=[(1,1),(3,3),(13,5)]) e10 wl162x1 <| qe <| goN [] [rgo 13 [] [0,1,2,3] [3] [(2,[0]),(3,[0,1,2])]] <| rtB h (.tup [rw_ q0.2.2.2,.agg [.str q0.1,dI q0.2.1,.bool q0.2.2.1]]) (a2 (rpI q0.2.2.2) (a2 (tNi 3) trivial)) (by simp only [rwE] <;> kernel_rfl)
def R152 (y0 : Z2v × Z12) : D:= .tup [.agg (Z6g y0.1),.agg (Z8c y0.2)]
def Zda (v0 v1 v2 : Int × Z12) : Option (Z2v × Z12):=
  some (({ f_C:=({ Z10:=v0.1,Z0v:=v1.1,Z0q:=([] : List Z01),Z1n:=([] : List Z0k),Z18:=([] : List Z0o),Z1h:=([] : List Z11) } : Z08),Z29:=[],Zea:=([] : List Int) } : Z2v),({ f_S:=v2.2.f_S,f_At:=v2.2.f_At,Z2e:=true } : Z12))
def Zl7 (t0 : Int × (List UInt8) × Int × Bool × (List Z0k)) : Option (Ctl (Int × (List UInt8) × Int × Bool × (List Z0k)) (((List UInt8) × Int × Bool × (List Z0k)))):=
  (Z3d ({ f_S:=t0.2.1,f_At:=t0.2.2.1,Z2e:=t0.2.2.2.1 } : Z12) 2).bind fun v18=>
  (Z3d v18.2 2).bind fun v19=>
  (Z3d v19.2 2).bind fun v20=>
  (Z3d v20.2 2).bind fun v21=>
  (Z24 48 (t0.2.2.2.2 ++ [({ Z3x:=v18.1,f_To:=v19.1,Z43:=v20.1,Z1f:=v21.1,Z1o:=[] } : Z0k)]).length).bind fun v22=>
  (some (IntKind.wrap .i64 (t0.1 + (1 : Int)))).bind fun v23=>
  some (.next (v23,v21.2.f_S,v21.2.f_At,v21.2.Z2e,(t0.2.2.2.2 ++ [({ Z3x:=v18.1,f_To:=v19.1,Z43:=v20.1,Z1f:=v21.1,Z1o:=[] } : Z0k)])))
def Zil (v7 : Int × Z12) (t0 : Int × (List UInt8) × Int × Bool × (List Z0k)) : Option (Ctl (Int × (List UInt8) × Int × Bool × (List Z0k)) (((List UInt8) × Int × Bool × (List Z0k)))):=
  if (decide (t0.1 < v7.1)) = true then (if (!t0.2.2.2.1) = true then
    ((Zl7 t0)) else
  (some (.done ((t0.2.1,t0.2.2.1,t0.2.2.2.1,t0.2.2.2.2))))) else
  (some (.done ((t0.2.1,t0.2.2.1,t0.2.2.2.1,t0.2.2.2.2))))
def Zli (t1 : Int × (List UInt8) × Int × Bool × (List Z0o) × (List Int)) : Option (Ctl (Int × (List UInt8) × Int × Bool × (List Z0o) × (List Int)) (((List UInt8) × Int × Bool × (List Z0o) × (List Int)))):=
  (Z3d ({ f_S:=t1.2.1,f_At:=t1.2.2.1,Z2e:=t1.2.2.2.1 } : Z12) 2).bind fun v37=>
  (Z3d v37.2 1).bind fun v38=>
  (Zek v38.2).bind fun v39=>
  (Zek v39.2).bind fun v40=>
  (Z24 64 (t1.2.2.2.2.1 ++ [({ Z2i:=v37.1,Z1p:=({ Z0v:=v39.1,Z10:=v40.1,Z48:=(v38.1 == 1) } : Z54) } : Z0o)]).length).bind fun v41=>
  (Z24 8 (t1.2.2.2.2.2 ++ [v38.1]).length).bind fun v42=>
  (some (IntKind.wrap .i64 (t1.1 + (1 : Int)))).bind fun v43=>
  some (.next (v43,v40.2.f_S,v40.2.f_At,v40.2.Z2e,(t1.2.2.2.2.1 ++ [({ Z2i:=v37.1,Z1p:=({ Z0v:=v39.1,Z10:=v40.1,Z48:=(v38.1 == 1) } : Z54) } : Z0o)]),(t1.2.2.2.2.2 ++ [v38.1])))
def Zgq (v24 : Int × Z12) (t1 : Int × (List UInt8) × Int × Bool × (List Z0o) × (List Int)) : Option (Ctl (Int × (List UInt8) × Int × Bool × (List Z0o) × (List Int)) (((List UInt8) × Int × Bool × (List Z0o) × (List Int)))):=
  if (decide (t1.1 < v24.1)) = true then (if (!t1.2.2.2.1) = true then
    ((Zli t1)) else
  (some (.done ((t1.2.1,t1.2.2.1,t1.2.2.2.1,t1.2.2.2.2.1,t1.2.2.2.2.2))))) else
  (some (.done ((t1.2.1,t1.2.2.1,t1.2.2.2.1,t1.2.2.2.2.1,t1.2.2.2.2.2))))
def Zk7 (t2 : Int × (List UInt8) × Int × Bool × (List Z11)) : Option (Ctl (Int × (List UInt8) × Int × Bool × (List Z11)) (((List UInt8) × Int × Bool × (List Z11)))):=
  (Z3d ({ f_S:=t2.2.1,f_At:=t2.2.2.1,Z2e:=t2.2.2.2.1 } : Z12) 2).bind fun v51=>
  (Z3d v51.2 2).bind fun v52=>
  (Z24 16 (t2.2.2.2.2 ++ [({ Z2i:=v51.1,Z50:=v52.1 } : Z11)]).length).bind fun v53=>
  (some (IntKind.wrap .i64 (t2.1 + (1 : Int)))).bind fun v54=>
  some (.next (v54,v52.2.f_S,v52.2.f_At,v52.2.Z2e,(t2.2.2.2.2 ++ [({ Z2i:=v51.1,Z50:=v52.1 } : Z11)])))
def Zfi (v44 : Int × Z12) (t2 : Int × (List UInt8) × Int × Bool × (List Z11)) : Option (Ctl (Int × (List UInt8) × Int × Bool × (List Z11)) (((List UInt8) × Int × Bool × (List Z11)))):=
  if (decide (t2.1 < v44.1)) = true then (if (!t2.2.2.2.1) = true then
    ((Zk7 t2)) else
  (some (.done ((t2.2.1,t2.2.2.1,t2.2.2.2.1,t2.2.2.2.2))))) else
  (some (.done ((t2.2.1,t2.2.2.1,t2.2.2.2.1,t2.2.2.2.2))))
def Zm4 (v0 v1 v2 : Int × Z12) (x0 : List UInt8) : Option (Z2v × Z12):=
  (some (IntKind.wrap .i64 (v2.2.f_At + v2.1))).bind fun v4=>
  (sub x0 v2.2.f_At v4).bind fun v5=>
  (some (IntKind.wrap .i64 (v2.2.f_At + v2.1))).bind fun v6=>
  (Z3d ({ f_S:=v2.2.f_S,f_At:=v6,Z2e:=v2.2.Z2e } : Z12) 2).bind fun v7=>
  (Z0d (Zil v7) Z0i (0,v7.2.f_S,v7.2.f_At,v7.2.Z2e,([] : List Z0k))).bind fun q0=>
  (Z3d ({ f_S:=q0.1,f_At:=q0.2.1,Z2e:=q0.2.2.1 } : Z12) 2).bind fun v24=>
  (Z0d (Zgq v24) Z0i (0,v24.2.f_S,v24.2.f_At,v24.2.Z2e,([] : List Z0o),([] : List Int))).bind fun q2=>
  (Z3d ({ f_S:=q2.1,f_At:=q2.2.1,Z2e:=q2.2.2.1 } : Z12) 2).bind fun v44=>
  (Z0d (Zfi v44) Z0i (0,v44.2.f_S,v44.2.f_At,v44.2.Z2e,([] : List Z11))).bind fun q4=>
  some (({ f_C:=({ Z10:=v0.1,Z0v:=v1.1,Z0q:=([] : List Z01),Z1n:=q0.2.2.2,Z18:=q2.2.2.2.1,Z1h:=q4.2.2.2 } : Z08),Z29:=v5,Zea:=q2.2.2.2.2 } : Z2v),({ f_S:=q4.1,f_At:=q4.2.1,Z2e:=q4.2.2.1 } : Z12))
def Zjw (x0 : List UInt8) : Option (Z2v × Z12):=
  (Z3d ({ f_S:=x0,f_At:=0,Z2e:=false } : Z12) 2).bind fun v0=>
  (Z3d v0.2 2).bind fun v1=>
  (Z3d v1.2 4).bind fun v2=>
  if v2.2.Z2e = true then ((Zda v0 v1 v2)) else
  ((some (IntKind.wrap .i64 ((x0.length : Int) - v2.2.f_At))).bind fun v3=>
  if (decide (v2.1 > v3)) = true then
    ((Zda v0 v1 v2)) else
  ((Zm4 v0 v1 v2 x0)))
theorem Zsz {v0 v1 v2 : Int × Z12} {r : Z2v × Z12} {Γ : Ctx} (h : (Zda v0 v1 v2) = some r) : Jn Tryz.prog Tryz.f152 Γ (Den.Ends Tryz.prog Tryz.f152 (R152 r)) 1215 ⟨209,[(2,.lptr 2 0 0),(3,.lptr 3 0 0),(4,.lptr 4 0 0),(5,.lptr 5 0 0)],[(2,{ sz:=8,rows:=[[dI 0,dI 0,.sl true (([] : List Z01).map Z0l),.sl true (([] : List Z0k).map Z15),.sl true (([] : List Z0o).map Z1a),.sl true (([] : List Z11).map Z1k),.str [],.sl true (([] : List Int).map Z03)]],frz:=0,pure:=false }),(3,{ sz:=3,rows:=[[.str [],dI 0,.bool false]],frz:=0,pure:=false }),(4,{ sz:=3,rows:=[Z8c v2.2],frz:=0,pure:=false }),(5,{ sz:=8,rows:=[[dI v0.1,dI v1.1,.sl true (([] : List Z01).map Z0l),.sl true (([] : List Z0k).map Z15),.sl true (([] : List Z0o).map Z1a),.sl true (([] : List Z11).map Z1k),.str [],.sl true (([] : List Int).map Z03)]],frz:=0,pure:=false })]⟩:=
  so <| go [] [rgo 8 [] [0,1,2,3] [2,3,3001,4002,10004] [(2,[0]),(3,[0,1,2])]] <| rt h
def Zl0 (v0 v1 : Int × Z12) (v5 : List UInt8) (v7 : Int × Z12) : (Int × (List UInt8) × Int × Bool × (List Z0k)) → SL:=
  fun t0=>⟨209,[(2,.lptr 2 0 0),(3,.lptr 3 0 0),(4,.lptr 4 0 0),(5,.lptr 5 0 0),(6,dI v7.1),(7,dI t0.1)],[(2,{ sz:=8,rows:=[[dI 0,dI 0,.sl true (([] : List Z01).map Z0l),.sl true (([] : List Z0k).map Z15),.sl true (([] : List Z0o).map Z1a),.sl true (([] : List Z11).map Z1k),.str [],.sl true (([] : List Int).map Z03)]],frz:=0,pure:=false }),(3,{ sz:=3,rows:=[[.str [],dI 0,.bool false]],frz:=0,pure:=false }),(4,{ sz:=3,rows:=[[.str t0.2.1,dI t0.2.2.1,.bool t0.2.2.2.1]],frz:=0,pure:=false }),(5,{ sz:=8,rows:=[[dI v0.1,dI v1.1,.sl true (([] : List Z01).map Z0l),.lsl 1005 0 ((t0.2.2.2.2.map Z15).length),.sl true (([] : List Z0o).map Z1a),.sl true (([] : List Z11).map Z1k),.str v5,.sl true (([] : List Int).map Z03)]],frz:=0,pure:=false }),(1005,{ sz:=5,rows:=(t0.2.2.2.2.map Z15),frz:=0,pure:=true })]⟩
def Zqs (v0 v1 : Int × Z12) (v5 : List UInt8) : JT (((List UInt8) × Int × Bool × (List Z0k))):=
  je 0 fun q0 : (List UInt8) × Int × Bool × (List Z0k)=>⟨209,[(2,.lptr 2 0 0),(3,.lptr 3 0 0),(4,.lptr 4 0 0),(5,.lptr 5 0 0)],[(2,{ sz:=8,rows:=[[dI 0,dI 0,.sl true (([] : List Z01).map Z0l),.sl true (([] : List Z0k).map Z15),.sl true (([] : List Z0o).map Z1a),.sl true (([] : List Z11).map Z1k),.str [],.sl true (([] : List Int).map Z03)]],frz:=0,pure:=false }),(3,{ sz:=3,rows:=[[.str [],dI 0,.bool false]],frz:=0,pure:=false }),(4,{ sz:=3,rows:=[[.str q0.1,dI q0.2.1,.bool q0.2.2.1]],frz:=0,pure:=false }),(5,{ sz:=8,rows:=[[dI v0.1,dI v1.1,.sl true (([] : List Z01).map Z0l),.lsl 1005 0 ((q0.2.2.2.map Z15).length),.sl true (([] : List Z0o).map Z1a),.sl true (([] : List Z11).map Z1k),.str v5,.sl true (([] : List Int).map Z03)]],frz:=0,pure:=false }),(1005,{ sz:=5,rows:=(q0.2.2.2.map Z15),frz:=0,pure:=true })]⟩
theorem wj152x2 (v0 v1 : Int × Z12) (v5 : List UInt8) (v7 : Int × Z12) {t0 : Int × (List UInt8) × Int × Bool × (List Z0k)} {r : Ctl (Int × (List UInt8) × Int × Bool × (List Z0k)) (((List UInt8) × Int × Bool × (List Z0k)))} {Γ : Ctx} (h : (Zl7 t0) = some r) : Jn Tryz.prog Tryz.f152 Γ (Rd (Zl0 v0 v1 v5 v7) (Zqs v0 v1 v5) r) 281599 ⟨209,[(2,.lptr 2 0 0),(3,.lptr 3 0 0),(4,.lptr 4 0 0),(5,.lptr 5 0 0),(6,dI v7.1),(7,dI t0.1)],[(2,{ sz:=8,rows:=[[dI 0,dI 0,.sl true (([] : List Z01).map Z0l),.sl true (([] : List Z0k).map Z15),.sl true (([] : List Z0o).map Z1a),.sl true (([] : List Z11).map Z1k),.str [],.sl true (([] : List Int).map Z03)]],frz:=0,pure:=false }),(3,{ sz:=3,rows:=[[.str [],dI 0,.bool false]],frz:=0,pure:=false }),(4,{ sz:=3,rows:=[[.str t0.2.1,dI t0.2.2.1,.bool t0.2.2.2.1]],frz:=0,pure:=false }),(5,{ sz:=8,rows:=[[dI v0.1,dI v1.1,.sl true (([] : List Z01).map Z0l),.lsl 1005 0 ((t0.2.2.2.2.map Z15).length),.sl true (([] : List Z0o).map Z1a),.sl true (([] : List Z11).map Z1k),.str v5,.sl true (([] : List Int).map Z03)]],frz:=0,pure:=false }),(1005,{ sz:=5,rows:=(t0.2.2.2.2.map Z15),frz:=0,pure:=true })]⟩:=
  so <| bd h fun v18 e18 h=>bd h fun v19 e19 h=>bd h fun v20 e20 h=>bd h fun v21 e21 h=>bd h fun v22 e22 h=>bd h fun v23 e23 h=>go [] [rg 16 [(1,k (Z3a e18))],rg 17 [(1,k (Z3a e19))],rg 18 [(1,k (Z3a e20))],rg 19 [(1,k (Z3a e21))],rg 20 [(4,br0 1 5),(5,ap e22)],rg 14 [(1,n e23)]] <| nx h
theorem wl152x1 (v0 v1 : Int × Z12) (v5 : List UInt8) {v7 : Int × Z12} {t0 : Int × (List UInt8) × Int × Bool × (List Z0k)} {r : Ctl (Int × (List UInt8) × Int × Bool × (List Z0k)) (((List UInt8) × Int × Bool × (List Z0k)))} {Γ : Ctx} (h : (Zil v7) t0 = some r) : A Tryz.prog Γ (lpC Tryz.f152 11263) [] (Rd (Zl0 v0 v1 v5 v7) (Zqs v0 v1 v5) r) ((Zl0 v0 v1 v5 v7) t0).s:=
  sp h (fun h6 h=>go [] [rg 13 [(2,kb h6)]] <| br h (fun h7 h=>go [15] [] <| jn ((wj152x2 v0 v1 v5 v7) h)) fun h7 h=>
  go [] [] <| dn h (iE)) fun h6 h=>
  go [] [rg 13 [(2,kb h6)]] <| bF rfl <| go [] [] <| dn h (iE)
def Zk9 (q0 : ((List UInt8) × Int × Bool × (List Z0k))) (v0 v1 : Int × Z12) (v5 : List UInt8) (v24 : Int × Z12) : (Int × (List UInt8) × Int × Bool × (List Z0o) × (List Int)) → SL:=
  fun t1=>⟨209,[(2,.lptr 2 0 0),(3,.lptr 3 0 0),(4,.lptr 4 0 0),(5,.lptr 5 0 0),(6,dI v24.1),(9,dI t1.1)],[(2,{ sz:=8,rows:=[[dI 0,dI 0,.sl true (([] : List Z01).map Z0l),.sl true (([] : List Z0k).map Z15),.sl true (([] : List Z0o).map Z1a),.sl true (([] : List Z11).map Z1k),.str [],.sl true (([] : List Int).map Z03)]],frz:=0,pure:=false }),(3,{ sz:=3,rows:=[[.str [],dI 0,.bool false]],frz:=0,pure:=false }),(4,{ sz:=3,rows:=[[.str t1.2.1,dI t1.2.2.1,.bool t1.2.2.2.1]],frz:=0,pure:=false }),(5,{ sz:=8,rows:=[[dI v0.1,dI v1.1,.sl true (([] : List Z01).map Z0l),.lsl 1005 0 ((q0.2.2.2.map Z15).length),.lsl 2005 0 ((t1.2.2.2.2.1.map Z1a).length),.sl true (([] : List Z11).map Z1k),.str v5,.lsl 3005 0 ((t1.2.2.2.2.2.map Z03).length)]],frz:=0,pure:=false }),(1005,{ sz:=5,rows:=(q0.2.2.2.map Z15),frz:=0,pure:=true }),(2005,{ sz:=4,rows:=(t1.2.2.2.2.1.map Z1a),frz:=0,pure:=true }),(3005,{ sz:=1,rows:=(t1.2.2.2.2.2.map Z03),frz:=0,pure:=true })]⟩
def Zuq (q0 : ((List UInt8) × Int × Bool × (List Z0k))) (v0 v1 : Int × Z12) (v5 : List UInt8) : JT (((List UInt8) × Int × Bool × (List Z0o) × (List Int))):=
  je 2 fun q2 : (List UInt8) × Int × Bool × (List Z0o) × (List Int)=>⟨209,[(2,.lptr 2 0 0),(3,.lptr 3 0 0),(4,.lptr 4 0 0),(5,.lptr 5 0 0)],[(2,{ sz:=8,rows:=[[dI 0,dI 0,.sl true (([] : List Z01).map Z0l),.sl true (([] : List Z0k).map Z15),.sl true (([] : List Z0o).map Z1a),.sl true (([] : List Z11).map Z1k),.str [],.sl true (([] : List Int).map Z03)]],frz:=0,pure:=false }),(3,{ sz:=3,rows:=[[.str [],dI 0,.bool false]],frz:=0,pure:=false }),(4,{ sz:=3,rows:=[[.str q2.1,dI q2.2.1,.bool q2.2.2.1]],frz:=0,pure:=false }),(5,{ sz:=8,rows:=[[dI v0.1,dI v1.1,.sl true (([] : List Z01).map Z0l),.lsl 1005 0 ((q0.2.2.2.map Z15).length),.lsl 2005 0 ((q2.2.2.2.1.map Z1a).length),.sl true (([] : List Z11).map Z1k),.str v5,.lsl 3005 0 ((q2.2.2.2.2.map Z03).length)]],frz:=0,pure:=false }),(1005,{ sz:=5,rows:=(q0.2.2.2.map Z15),frz:=0,pure:=true }),(2005,{ sz:=4,rows:=(q2.2.2.2.1.map Z1a),frz:=0,pure:=true }),(3005,{ sz:=1,rows:=(q2.2.2.2.2.map Z03),frz:=0,pure:=true })]⟩
theorem wj152x3 (q0 : ((List UInt8) × Int × Bool × (List Z0k))) (v0 v1 : Int × Z12) (v5 : List UInt8) (v24 : Int × Z12) {t1 : Int × (List UInt8) × Int × Bool × (List Z0o) × (List Int)} {r : Ctl (Int × (List UInt8) × Int × Bool × (List Z0o) × (List Int)) (((List UInt8) × Int × Bool × (List Z0o) × (List Int)))} {Γ : Ctx} (h : (Zli t1) = some r) : Jn Tryz.prog Tryz.f152 Γ (Rd (Zk9 q0 v0 v1 v5 v24) (Zuq q0 v0 v1 v5) r) 1126399 ⟨209,[(2,.lptr 2 0 0),(3,.lptr 3 0 0),(4,.lptr 4 0 0),(5,.lptr 5 0 0),(6,dI v24.1),(9,dI t1.1)],[(2,{ sz:=8,rows:=[[dI 0,dI 0,.sl true (([] : List Z01).map Z0l),.sl true (([] : List Z0k).map Z15),.sl true (([] : List Z0o).map Z1a),.sl true (([] : List Z11).map Z1k),.str [],.sl true (([] : List Int).map Z03)]],frz:=0,pure:=false }),(3,{ sz:=3,rows:=[[.str [],dI 0,.bool false]],frz:=0,pure:=false }),(4,{ sz:=3,rows:=[[.str t1.2.1,dI t1.2.2.1,.bool t1.2.2.2.1]],frz:=0,pure:=false }),(5,{ sz:=8,rows:=[[dI v0.1,dI v1.1,.sl true (([] : List Z01).map Z0l),.lsl 1005 0 ((q0.2.2.2.map Z15).length),.lsl 2005 0 ((t1.2.2.2.2.1.map Z1a).length),.sl true (([] : List Z11).map Z1k),.str v5,.lsl 3005 0 ((t1.2.2.2.2.2.map Z03).length)]],frz:=0,pure:=false }),(1005,{ sz:=5,rows:=(q0.2.2.2.map Z15),frz:=0,pure:=true }),(2005,{ sz:=4,rows:=(t1.2.2.2.2.1.map Z1a),frz:=0,pure:=true }),(3005,{ sz:=1,rows:=(t1.2.2.2.2.2.map Z03),frz:=0,pure:=true })]⟩:=
  so <| bd h fun v37 e38 h=>bd h fun v38 e39 h=>bd h fun v39 e40 h=>bd h fun v40 e41 h=>bd h fun v41 e42 h=>bd h fun v42 e43 h=>bd h fun v43 e44 h=>go [] [rg 27 [(1,k (Z3a e38))],rg 28 [(1,k (Z3a e39))],rg 30 [(1,k (w162 e40))],rg 31 [(1,k (w162 e41))],rg 32 [(4,br0 1 4),(5,ap e42)],rg 33 [(3,br0 1 0),(4,ap e43)],rg 24 [(1,n e44)]] <| nx h
theorem wl152x2 (q0 : ((List UInt8) × Int × Bool × (List Z0k))) (v0 v1 : Int × Z12) (v5 : List UInt8) {v24 : Int × Z12} {t1 : Int × (List UInt8) × Int × Bool × (List Z0o) × (List Int)} {r : Ctl (Int × (List UInt8) × Int × Bool × (List Z0o) × (List Int)) (((List UInt8) × Int × Bool × (List Z0o) × (List Int)))} {Γ : Ctx} (h : (Zgq v24) t1 = some r) : A Tryz.prog Γ (lpC Tryz.f152 45055) [] (Rd (Zk9 q0 v0 v1 v5 v24) (Zuq q0 v0 v1 v5) r) ((Zk9 q0 v0 v1 v5 v24) t1).s:=
  sp h (fun h12 h=>go [] [rg 23 [(2,kb h12)]] <| br h (fun h13 h=>go [25] [] <| jn ((wj152x3 q0 v0 v1 v5 v24) h)) fun h13 h=>
  go [] [] <| dn h (iE)) fun h12 h=>
  go [] [rg 23 [(2,kb h12)]] <| bF rfl <| go [] [] <| dn h (iE)
def Zkm (q0 : ((List UInt8) × Int × Bool × (List Z0k))) (q2 : ((List UInt8) × Int × Bool × (List Z0o) × (List Int))) (v0 v1 : Int × Z12) (v5 : List UInt8) (v44 : Int × Z12) : (Int × (List UInt8) × Int × Bool × (List Z11)) → SL:=
  fun t2=>⟨209,[(2,.lptr 2 0 0),(3,.lptr 3 0 0),(4,.lptr 4 0 0),(5,.lptr 5 0 0),(6,dI v44.1),(12,dI t2.1)],[(2,{ sz:=8,rows:=[[dI 0,dI 0,.sl true (([] : List Z01).map Z0l),.sl true (([] : List Z0k).map Z15),.sl true (([] : List Z0o).map Z1a),.sl true (([] : List Z11).map Z1k),.str [],.sl true (([] : List Int).map Z03)]],frz:=0,pure:=false }),(3,{ sz:=3,rows:=[[.str [],dI 0,.bool false]],frz:=0,pure:=false }),(4,{ sz:=3,rows:=[[.str t2.2.1,dI t2.2.2.1,.bool t2.2.2.2.1]],frz:=0,pure:=false }),(5,{ sz:=8,rows:=[[dI v0.1,dI v1.1,.sl true (([] : List Z01).map Z0l),.lsl 1005 0 ((q0.2.2.2.map Z15).length),.lsl 2005 0 ((q2.2.2.2.1.map Z1a).length),.lsl 4005 0 ((t2.2.2.2.2.map Z1k).length),.str v5,.lsl 3005 0 ((q2.2.2.2.2.map Z03).length)]],frz:=0,pure:=false }),(1005,{ sz:=5,rows:=(q0.2.2.2.map Z15),frz:=0,pure:=true }),(2005,{ sz:=4,rows:=(q2.2.2.2.1.map Z1a),frz:=0,pure:=true }),(3005,{ sz:=1,rows:=(q2.2.2.2.2.map Z03),frz:=0,pure:=true }),(4005,{ sz:=2,rows:=(t2.2.2.2.2.map Z1k),frz:=0,pure:=true })]⟩
def Zst (q0 : ((List UInt8) × Int × Bool × (List Z0k))) (q2 : ((List UInt8) × Int × Bool × (List Z0o) × (List Int))) (v0 v1 : Int × Z12) (v5 : List UInt8) : JT (((List UInt8) × Int × Bool × (List Z11))):=
  je 4 fun q4 : (List UInt8) × Int × Bool × (List Z11)=>⟨209,[(2,.lptr 2 0 0),(3,.lptr 3 0 0),(4,.lptr 4 0 0),(5,.lptr 5 0 0)],[(2,{ sz:=8,rows:=[[dI 0,dI 0,.sl true (([] : List Z01).map Z0l),.sl true (([] : List Z0k).map Z15),.sl true (([] : List Z0o).map Z1a),.sl true (([] : List Z11).map Z1k),.str [],.sl true (([] : List Int).map Z03)]],frz:=0,pure:=false }),(3,{ sz:=3,rows:=[[.str [],dI 0,.bool false]],frz:=0,pure:=false }),(4,{ sz:=3,rows:=[[.str q4.1,dI q4.2.1,.bool q4.2.2.1]],frz:=0,pure:=false }),(5,{ sz:=8,rows:=[[dI v0.1,dI v1.1,.sl true (([] : List Z01).map Z0l),.lsl 1005 0 ((q0.2.2.2.map Z15).length),.lsl 2005 0 ((q2.2.2.2.1.map Z1a).length),.lsl 4005 0 ((q4.2.2.2.map Z1k).length),.str v5,.lsl 3005 0 ((q2.2.2.2.2.map Z03).length)]],frz:=0,pure:=false }),(1005,{ sz:=5,rows:=(q0.2.2.2.map Z15),frz:=0,pure:=true }),(2005,{ sz:=4,rows:=(q2.2.2.2.1.map Z1a),frz:=0,pure:=true }),(3005,{ sz:=1,rows:=(q2.2.2.2.2.map Z03),frz:=0,pure:=true }),(4005,{ sz:=2,rows:=(q4.2.2.2.map Z1k),frz:=0,pure:=true })]⟩
theorem wj152x4 (q0 : ((List UInt8) × Int × Bool × (List Z0k))) (q2 : ((List UInt8) × Int × Bool × (List Z0o) × (List Int))) (v0 v1 : Int × Z12) (v5 : List UInt8) (v44 : Int × Z12) {t2 : Int × (List UInt8) × Int × Bool × (List Z11)} {r : Ctl (Int × (List UInt8) × Int × Bool × (List Z11)) (((List UInt8) × Int × Bool × (List Z11)))} {Γ : Ctx} (h : (Zk7 t2) = some r) : Jn Tryz.prog Tryz.f152 Γ (Rd (Zkm q0 q2 v0 v1 v5 v44) (Zst q0 q2 v0 v1 v5) r) 4505599 ⟨209,[(2,.lptr 2 0 0),(3,.lptr 3 0 0),(4,.lptr 4 0 0),(5,.lptr 5 0 0),(6,dI v44.1),(12,dI t2.1)],[(2,{ sz:=8,rows:=[[dI 0,dI 0,.sl true (([] : List Z01).map Z0l),.sl true (([] : List Z0k).map Z15),.sl true (([] : List Z0o).map Z1a),.sl true (([] : List Z11).map Z1k),.str [],.sl true (([] : List Int).map Z03)]],frz:=0,pure:=false }),(3,{ sz:=3,rows:=[[.str [],dI 0,.bool false]],frz:=0,pure:=false }),(4,{ sz:=3,rows:=[[.str t2.2.1,dI t2.2.2.1,.bool t2.2.2.2.1]],frz:=0,pure:=false }),(5,{ sz:=8,rows:=[[dI v0.1,dI v1.1,.sl true (([] : List Z01).map Z0l),.lsl 1005 0 ((q0.2.2.2.map Z15).length),.lsl 2005 0 ((q2.2.2.2.1.map Z1a).length),.lsl 4005 0 ((t2.2.2.2.2.map Z1k).length),.str v5,.lsl 3005 0 ((q2.2.2.2.2.map Z03).length)]],frz:=0,pure:=false }),(1005,{ sz:=5,rows:=(q0.2.2.2.map Z15),frz:=0,pure:=true }),(2005,{ sz:=4,rows:=(q2.2.2.2.1.map Z1a),frz:=0,pure:=true }),(3005,{ sz:=1,rows:=(q2.2.2.2.2.map Z03),frz:=0,pure:=true }),(4005,{ sz:=2,rows:=(t2.2.2.2.2.map Z1k),frz:=0,pure:=true })]⟩:=
  so <| bd h fun v51 e53 h=>bd h fun v52 e54 h=>bd h fun v53 e55 h=>bd h fun v54 e56 h=>go [] [rg 39 [(1,k (Z3a e53))],rg 40 [(1,k (Z3a e54))],rg 41 [(4,br0 1 2),(5,ap e55)],rg 37 [(1,n e56)]] <| nx h
theorem wl152x3 (q0 : ((List UInt8) × Int × Bool × (List Z0k))) (q2 : ((List UInt8) × Int × Bool × (List Z0o) × (List Int))) (v0 v1 : Int × Z12) (v5 : List UInt8) {v44 : Int × Z12} {t2 : Int × (List UInt8) × Int × Bool × (List Z11)} {r : Ctl (Int × (List UInt8) × Int × Bool × (List Z11)) (((List UInt8) × Int × Bool × (List Z11)))} {Γ : Ctx} (h : (Zfi v44) t2 = some r) : A Tryz.prog Γ (lpC Tryz.f152 180223) [] (Rd (Zkm q0 q2 v0 v1 v5 v44) (Zst q0 q2 v0 v1 v5) r) ((Zkm q0 q2 v0 v1 v5 v44) t2).s:=
  sp h (fun h18 h=>go [] [rg 36 [(2,kb h18)]] <| br h (fun h19 h=>go [38] [] <| jn ((wj152x4 q0 q2 v0 v1 v5 v44) h)) fun h19 h=>
  go [] [] <| dn h (iE)) fun h18 h=>
  go [] [rg 36 [(2,kb h18)]] <| bF rfl <| go [] [] <| dn h (iE)
theorem wj152x1 {v0 v1 v2 : Int × Z12} {x0 : List UInt8} {r : Z2v × Z12} {Γ : Ctx} (h : (Zm4 v0 v1 v2 x0) = some r) : Jn Tryz.prog Tryz.f152 Γ (Den.Ends Tryz.prog Tryz.f152 (R152 r)) 383 ⟨209,[(0,.str x0),(2,.lptr 2 0 0),(3,.lptr 3 0 0),(4,.lptr 4 0 0),(5,.lptr 5 0 0),(6,dI v2.1)],[(2,{ sz:=8,rows:=[[dI 0,dI 0,.sl true (([] : List Z01).map Z0l),.sl true (([] : List Z0k).map Z15),.sl true (([] : List Z0o).map Z1a),.sl true (([] : List Z11).map Z1k),.str [],.sl true (([] : List Int).map Z03)]],frz:=0,pure:=false }),(3,{ sz:=3,rows:=[[.str [],dI 0,.bool false]],frz:=0,pure:=false }),(4,{ sz:=3,rows:=[Z8c v2.2],frz:=0,pure:=false }),(5,{ sz:=8,rows:=[[dI v0.1,dI v1.1,.sl true (([] : List Z01).map Z0l),.sl true (([] : List Z0k).map Z15),.sl true (([] : List Z0o).map Z1a),.sl true (([] : List Z11).map Z1k),.str [],.sl true (([] : List Int).map Z03)]],frz:=0,pure:=false })]⟩:=
  so <| bd h fun v4 e4 h=>bd h fun v5 e5 h=>bd h fun v6 e6 h=>bd h fun v7 e7 h=>go [] [rg 9 [(6,n e4),(7,ss e5)],rg 10 [(3,n e6)],rg 11 [(1,k (Z3a e7))]] <| bd h fun q0 e24 h=>lp (cv:=[.blk 5 3 1005 5]) e24 (wl152x1 v0 v1 v5) <| qe <| bd h fun v24 e25 h=>goN [] [rg 21 [(1,k (Z3a e25))]] <| bd h fun q2 e45 h=>lp (cv:=[.blk 5 4 2005 4,.blk 5 7 3005 1]) e45 (wl152x2 q0 v0 v1 v5) <| qe <| bd h fun v44 e46 h=>goN [] [rg 34 [(1,k (Z3a e46))]] <| bd h fun q4 e57 h=>lp (cv:=[.blk 5 5 4005 2]) e57 (wl152x3 q0 q2 v0 v1 v5) <| qe <| goN [] [rgo 42 [] [0,1,2,3] [2,3,3001,4002,10004] [(2,[0]),(3,[0,1,2])]] <| rtB h (.tup [.agg [dI v0.1,dI v1.1,.sl false (([] : List Z01).map Z0l),rw_ q0.2.2.2,rw_ q2.2.2.2.1,rw_ q4.2.2.2,.str v5,rw_ q2.2.2.2.2],.agg [.str q4.1,dI q4.2.1,.bool q4.2.2.1]]) (a2 (a2 trivial (a2 trivial (a2 trivial (a2 (rpI q0.2.2.2) (a2 (rpI q2.2.2.2.1) (a2 (rpI q4.2.2.2) (a2 trivial (a2 (rpI q2.2.2.2.2) trivial)))))))) (a2 (tNi 3) trivial)) (by simp only [rwE] <;> kernel_rfl)
theorem w152 {x0 : List UInt8} {r : Z2v × Z12} (h : Zjw x0 = some r) : Z0e Tryz.prog 152 [.str x0] (R152 r):=
  cs Tryz.f152 <| bd h fun v0 e0 h=>bd h fun v1 e1 h=>bd h fun v2 e2 h=>sp h (fun h0 h=>go [] [rg 3 [(1,k (Z3a e0))],rg 4 [(1,k (Z3a e1))],rg 5 [(1,k (Z3a e2))],rg 6 [(3,gs0 h0),(4,gs0 h0),(5,gs0 h0),(6,gs0 h0),(7,gs0 h0),(8,gs0 h0),(9,gs0 h0),(10,py h0)]] <| bT rfl <| go [7] [] <| jn (Zsz h)) fun h0 h=>
  bd h fun v3 e3 h=>go [] [rg 3 [(1,k (Z3a e0))],rg 4 [(1,k (Z3a e1))],rg 5 [(1,k (Z3a e2))],rg 6 [(3,gw h0 g0),(4,gw h0 g0),(5,gw h0 g0),(6,gw h0 g0),(7,gw h0 g0),(8,gw h0 (n e3)),(9,gw h0 g0),(10,pn h0)]] <| br h (fun h1 h=>go [7] [] <| jn (Zsz h)) fun h1 h=>
  go [9] [] <| jn (wj152x1 h)
def R163 (y0 : Int) : D:= .int .i64 y0
def Zbo (x0 : List UInt8) (x1 p2 : Int) : Option (Int):=
  (some (IntKind.wrap .i64 (x1 + p2))).bind fun v7=>
  if (decide (v7 > (x0.length : Int))) = true then
    (some (-1)) else
  (some p2)
def Zm8 (p0 p1 : Int) (v3 : Int × Int) (x0 : List UInt8) (x1 : Int) : Option (Int):=
  (some (IntKind.wrap .i64 (p1 * v3.1))).bind fun v5=>
  (some (IntKind.wrap .i64 (p0 + v5))).bind fun v6=>
  (Zbo x0 x1) v6
def Zdi (x0 : List UInt8) (x1 p0 p1 : Int) : Option (Int):=
  (some (IntKind.wrap .i64 (x1 + p0))).bind fun v1=>
  (some (IntKind.wrap .i64 (v1 - (2 : Int)))).bind fun v2=>
  (Z88 x0 v2 2).bind fun v3=>
  (some (IntKind.wrap .i64 (x1 + p0))).bind fun v4=>
  if (decide (v4 > (x0.length : Int))) = true then (some (-1)) else
  (if (v3.2 != 0) = true then
    (some (-1)) else
  ((Zm8 p0 p1 v3 x0 x1)))
def Zhu (x0 : List UInt8) (x1 x2 : Int) : Option (Int):=
  if (x2 == 54) = true then
    ((Zdi x0 x1) 5 6) else
  ((Zdi x0 x1) 9 2)
def Zbd (x0 : List UInt8) (x1 x2 : Int) : Option (Int):=
  (Zbl x2).bind fun v0=>
  if (x2 == 53) = true then ((Zhu x0 x1 x2)) else
  (if (x2 == 54) = true then
    ((Zhu x0 x1 x2)) else
  ((Zbo x0 x1) v0))
theorem Zue {x0 : List UInt8} {x1 p2 : Int} {r : Int} {Γ : Ctx} (h : (Zbo x0 x1) p2 = some r) : Jn Tryz.prog Tryz.f163 Γ (Den.Ends Tryz.prog Tryz.f163 (R163 r)) 39 ⟨53,[(0,.str x0),(1,dI x1),(7,dI p2)],[]⟩:=
  so <| bd h fun v7 e7 h=>go [] [rg 12 [(2,n e7)]] <| br h (fun h5 h=>go [] [] <| rt h) fun h5 h=>
  go [] [] <| rt h
theorem wj163x3 {p0 p1 : Int} {v3 : Int × Int} {x0 : List UInt8} {x1 : Int} {r : Int} {Γ : Ctx} (h : (Zm8 p0 p1 v3 x0 x1) = some r) : Jn Tryz.prog Tryz.f163 Γ (Den.Ends Tryz.prog Tryz.f163 (R163 r)) 2027 ⟨53,[(0,.str x0),(1,dI x1),(8,dI p0),(9,dI p1),(10,dI v3.1)],[]⟩:=
  so <| bd h fun v5 e5 h=>bd h fun v6 e6 h=>go [12] [rg 11 [(3,n e5),(4,n e6)]] <| jn (Zue h)
theorem Zqv {x0 : List UInt8} {x1 p0 p1 : Int} {r : Int} {Γ : Ctx} (h : (Zdi x0 x1) p0 p1 = some r) : Jn Tryz.prog Tryz.f163 Γ (Den.Ends Tryz.prog Tryz.f163 (R163 r)) 747 ⟨53,[(0,.str x0),(1,dI x1),(8,dI p0),(9,dI p1)],[]⟩:=
  so <| bd h fun v1 e1 h=>bd h fun v2 e2 h=>bd h fun v3 e3 h=>bd h fun v4 e4 h=>sp h (fun h3 h=>go [] [rg 8 [(3,n e1),(4,n e2),(5,k (w103 e3))],rg 9 [(2,n e4),(5,kb h3)]] <| bT rfl <| go [] [] <| rt h) fun h3 h=>
  go [] [rg 8 [(3,n e1),(4,n e2),(5,k (w103 e3))],rg 9 [(2,n e4),(5,kb h3)]] <| br h (fun h4 h=>go [] [] <| rt h) fun h4 h=>
  go [11] [] <| jn (wj163x3 h)
theorem Zu3 {x0 : List UInt8} {x1 x2 : Int} {r : Int} {Γ : Ctx} (h : (Zhu x0 x1 x2) = some r) : Jn Tryz.prog Tryz.f163 Γ (Den.Ends Tryz.prog Tryz.f163 (R163 r)) 75 ⟨53,[(0,.str x0),(1,dI x1),(2,dI x2)],[]⟩:=
  so <| go [] [] <| br h (fun h2 h=>go [8] [] <| jn (Zqv h)) fun h2 h=>
  go [8] [] <| jn (Zqv h)
theorem w163 {x0 : List UInt8} {x1 x2 : Int} {r : Int} (h : Zbd x0 x1 x2 = some r) : Z0e Tryz.prog 163 [.str x0,dI x1,dI x2] (R163 r):=
  cs Tryz.f163 <| bd h fun v0 e0 h=>sp h (fun h0 h=>go [] [rg 1 [(1,k (w116 e0))],rg 2 [(1,kb h0)]] <| bT rfl <| go [3] [] <| jn (Zu3 h)) fun h0 h=>
  go [] [rg 1 [(1,k (w116 e0))],rg 2 [(1,kb h0)]] <| br h (fun h1 h=>go [3] [] <| jn (Zu3 h)) fun h1 h=>
  go [12] [] <| jn (Zue h)
def R174 (y0 : Int) : D:= .int .i64 y0
def Zaj (x0 : List UInt8) (x1 x2 : Int) : Option (Int):=
  (Zdo x0 x1 x2).bind fun v0=>
  some v0.1
theorem w174 {x0 : List UInt8} {x1 x2 : Int} {r : Int} (h : Zaj x0 x1 x2 = some r) : Z0e Tryz.prog 174 [.str x0,dI x1,dI x2] (R174 r):=
  cs Tryz.f174 <| bd h fun v0 e0 h=>go [] [rg 1 [(3,k (w134 e0))]] <| rt h
def R175 (y0 : Int) : D:= .int .i64 y0
def Z5q (x0 : List UInt8) (x1 x2 : Int) : Option (Int):=
  (Z88 x0 x1 x2).bind fun v0=>
  some v0.1
theorem Z6i {x0 : List UInt8} {x1 x2 : Int} {r : Int} (h : Z5q x0 x1 x2 = some r) : Z0e Tryz.prog 175 [.str x0,dI x1,dI x2] (R175 r):=
  cs Tryz.f175 <| bd h fun v0 e0 h=>go [] [rg 1 [(3,k (w103 e0))]] <| rt h
def Zgr (v18 : Int) (x0 : List UInt8) (x1 : Int) (t0 : Int × (List Int)) : Option (Ctl (Int × (List Int)) (((List Int)))):=
  if (decide (t0.1 < v18)) = true then
    ((some (IntKind.wrap .i64 (x1 + (9 : Int)))).bind fun v27=>
    (some (IntKind.wrap .i64 ((2 : Int) * t0.1))).bind fun v28=>
    (some (IntKind.wrap .i64 (v27 + v28))).bind fun v29=>
    (Z5q x0 v29 2).bind fun v30=>
    (Z24 8 (t0.2 ++ [v30]).length).bind fun v31=>
    (some (IntKind.wrap .i64 (t0.1 + (1 : Int)))).bind fun v32=>
    some (.next (v32,(t0.2 ++ [v30])))) else
  (some (.done (t0.2)))
def Zi8 (v36 : Int) (x0 : List UInt8) (x1 : Int) (t1 : Int × (List Int) × (List Int)) : Option (Ctl (Int × (List Int) × (List Int)) (((List Int) × (List Int)))):=
  if (decide (t1.1 < v36)) = true then
    ((some (IntKind.wrap .i64 (x1 + (5 : Int)))).bind fun v53=>
    (some (IntKind.wrap .i64 ((6 : Int) * t1.1))).bind fun v54=>
    (some (IntKind.wrap .i64 (v53 + v54))).bind fun v55=>
    (Zaj x0 v55 4).bind fun v56=>
    (Z24 8 (t1.2.1 ++ [v56]).length).bind fun v57=>
    (some (IntKind.wrap .i64 (x1 + (9 : Int)))).bind fun v58=>
    (some (IntKind.wrap .i64 ((6 : Int) * t1.1))).bind fun v59=>
    (some (IntKind.wrap .i64 (v58 + v59))).bind fun v60=>
    (Z5q x0 v60 2).bind fun v61=>
    (Z24 8 (t1.2.2 ++ [v61]).length).bind fun v62=>
    (some (IntKind.wrap .i64 (t1.1 + (1 : Int)))).bind fun v63=>
    some (.next (v63,(t1.2.1 ++ [v56]),(t1.2.2 ++ [v61])))) else
  (some (.done ((t1.2.1,t1.2.2))))
def Zgz (x0 : List UInt8) (x1 x2 : Int) : Option (Z01):=
  (Z67 x2).bind fun v0=>
  if (v0 == 1) = true then
    ((some (IntKind.wrap .i64 (x1 + (1 : Int)))).bind fun v1=>
    (Zaj x0 v1 1).bind fun v2=>
    some ({ f_Op:=x2,f_A:=v2,f_B:=0,f_To:=0,Z0y:=([] : List Int),Z0a:=([] : List Int),Z16:=({ Z1f:=[],Z02:=[],Z1l:=[] } : Z27),f_S:=[] } : Z01)) else
  (if (v0 == 2) = true then
      ((some (IntKind.wrap .i64 (x1 + (1 : Int)))).bind fun v3=>
      (Z5q x0 v3 2).bind fun v4=>
      some ({ f_Op:=x2,f_A:=v4,f_B:=0,f_To:=0,Z0y:=([] : List Int),Z0a:=([] : List Int),Z16:=({ Z1f:=[],Z02:=[],Z1l:=[] } : Z27),f_S:=[] } : Z01)) else
    (if (v0 == 3) = true then
        ((some (IntKind.wrap .i64 (x1 + (1 : Int)))).bind fun v5=>
        (Z5q x0 v5 2).bind fun v6=>
        some ({ f_Op:=x2,f_A:=0,f_B:=0,f_To:=v6,Z0y:=([] : List Int),Z0a:=([] : List Int),Z16:=({ Z1f:=[],Z02:=[],Z1l:=[] } : Z27),f_S:=[] } : Z01)) else
      (if (v0 == 4) = true then
          ((some (IntKind.wrap .i64 (x1 + (1 : Int)))).bind fun v7=>
          (Z5q x0 v7 1).bind fun v8=>
          some ({ f_Op:=x2,f_A:=v8,f_B:=0,f_To:=0,Z0y:=([] : List Int),Z0a:=([] : List Int),Z16:=({ Z1f:=[],Z02:=[],Z1l:=[] } : Z27),f_S:=[] } : Z01)) else
        (if (v0 == 5) = true then
            ((some (IntKind.wrap .i64 (x1 + (1 : Int)))).bind fun v9=>
            (Z5q x0 v9 1).bind fun v10=>
            (some (IntKind.wrap .i64 (x1 + (2 : Int)))).bind fun v11=>
            (Zaj x0 v11 1).bind fun v12=>
            some ({ f_Op:=x2,f_A:=v10,f_B:=v12,f_To:=0,Z0y:=([] : List Int),Z0a:=([] : List Int),Z16:=({ Z1f:=[],Z02:=[],Z1l:=[] } : Z27),f_S:=[] } : Z01)) else
          (if (v0 == 6) = true then
              ((some (IntKind.wrap .i64 (x1 + (1 : Int)))).bind fun v13=>
              (Z5q x0 v13 2).bind fun v14=>
              (some (IntKind.wrap .i64 (x1 + (3 : Int)))).bind fun v15=>
              (Zaj x0 v15 4).bind fun v16=>
              (some (IntKind.wrap .i64 (x1 + (7 : Int)))).bind fun v17=>
              (Z5q x0 v17 2).bind fun v18=>
              (Z0d (Zgr v18 x0 x1) Z0i (0,([] : List Int))).bind fun q0=>
              some ({ f_Op:=x2,f_A:=v16,f_B:=0,f_To:=v14,Z0y:=([] : List Int),Z0a:=q0,Z16:=({ Z1f:=[],Z02:=[],Z1l:=[] } : Z27),f_S:=[] } : Z01)) else
            (if (v0 == 7) = true then
                ((some (IntKind.wrap .i64 (x1 + (1 : Int)))).bind fun v33=>
                (Z5q x0 v33 2).bind fun v34=>
                (some (IntKind.wrap .i64 (x1 + (3 : Int)))).bind fun v35=>
                (Z5q x0 v35 2).bind fun v36=>
                (Z0d (Zi8 v36 x0 x1) Z0i (0,([] : List Int),([] : List Int))).bind fun q2=>
                some ({ f_Op:=x2,f_A:=0,f_B:=0,f_To:=v34,Z0y:=q2.1,Z0a:=q2.2,Z16:=({ Z1f:=[],Z02:=[],Z1l:=[] } : Z27),f_S:=[] } : Z01)) else
              (some ({ f_Op:=x2,f_A:=0,f_B:=0,f_To:=0,Z0y:=([] : List Int),Z0a:=([] : List Int),Z16:=({ Z1f:=[],Z02:=[],Z1l:=[] } : Z27),f_S:=[] } : Z01))))))))
def Zoi (v14 v16 v18 : Int) (x0 : List UInt8) (x1 x2 : Int) : (Int × (List Int)) → SL:=
  fun t0=>⟨130,[(0,.str x0),(1,dI x1),(6,.lptr 6 0 0),(7,.lptr 7 0 0),(8,dI v18),(9,dI t0.1)],[(6,{ sz:=10,rows:=[[dI 0,dI 0,dI 0,dI 0,.sl true (([] : List Int).map Z03),.sl true (([] : List Int).map Z03),.str [],.str [],.str [],.str []]],frz:=0,pure:=false }),(7,{ sz:=10,rows:=[[dI x2,dI v16,dI 0,dI v14,.sl true (([] : List Int).map Z03),.lsl 1007 0 ((t0.2.map Z03).length),.str [],.str [],.str [],.str []]],frz:=0,pure:=false }),(1007,{ sz:=1,rows:=(t0.2.map Z03),frz:=0,pure:=true })]⟩
def J164x1 (v14 v16 x2 : Int) : JT (((List Int))):=
  je 1 fun q0 : (List Int)=>⟨130,[(6,.lptr 6 0 0),(7,.lptr 7 0 0)],[(6,{ sz:=10,rows:=[[dI 0,dI 0,dI 0,dI 0,.sl true (([] : List Int).map Z03),.sl true (([] : List Int).map Z03),.str [],.str [],.str [],.str []]],frz:=0,pure:=false }),(7,{ sz:=10,rows:=[[dI x2,dI v16,dI 0,dI v14,.sl true (([] : List Int).map Z03),.lsl 1007 0 ((q0.map Z03).length),.str [],.str [],.str [],.str []]],frz:=0,pure:=false }),(1007,{ sz:=1,rows:=(q0.map Z03),frz:=0,pure:=true })]⟩
theorem wl164x1 (v14 v16 x2 : Int) {v18 : Int} {x0 : List UInt8} {x1 : Int} {t0 : Int × (List Int)} {r : Ctl (Int × (List Int)) (((List Int)))} {Γ : Ctx} (h : (Zgr v18 x0 x1) t0 = some r) : A Tryz.prog Γ (lpC Tryz.f164 6225899) [] (Rd (Zoi v14 v16 v18 x0 x1 x2) (J164x1 v14 v16 x2) r) ((Zoi v14 v16 v18 x0 x1 x2) t0).s:=
  go [] [] <| br h (fun h8 h=>bd h fun v27 e27 h=>bd h fun v28 e28 h=>bd h fun v29 e29 h=>bd h fun v30 e30 h=>bd h fun v31 e31 h=>bd h fun v32 e32 h=>go [] [rgo 21 [(4,n e27),(6,n e28),(7,n e29),(8,k (Z6i e30)),(9,br0 1 0),(10,ap e31)] [0,1,2,3,4,5,6,7,8,9,10,11,12] [10,12] [(1,[0]),(4,[3]),(6,[5]),(7,[3,4,5,6]),(8,[2,3,4,5,6,7]),(9,[2,3,4,5,6,7,8]),(10,[0,1,2,3,4,5,6,7,8,9]),(11,[0,1,2,3,4,5,6,7,8,9,10]),(12,[0,1,2,3,4,5,6,7,8,9,10,11])],rg 20 [(1,n e32)]] <| nx h) fun h8 h=>
  go [] [] <| dn h (iE)
def Zt5 (v34 v36 : Int) (x0 : List UInt8) (x1 x2 : Int) : (Int × (List Int) × (List Int)) → SL:=
  fun t1=>⟨130,[(0,.str x0),(1,dI x1),(6,.lptr 6 0 0),(7,.lptr 7 0 0),(10,dI v36),(11,dI t1.1)],[(6,{ sz:=10,rows:=[[dI 0,dI 0,dI 0,dI 0,.sl true (([] : List Int).map Z03),.sl true (([] : List Int).map Z03),.str [],.str [],.str [],.str []]],frz:=0,pure:=false }),(7,{ sz:=10,rows:=[[dI x2,dI 0,dI 0,dI v34,.lsl 1007 0 ((t1.2.1.map Z03).length),.lsl 2007 0 ((t1.2.2.map Z03).length),.str [],.str [],.str [],.str []]],frz:=0,pure:=false }),(1007,{ sz:=1,rows:=(t1.2.1.map Z03),frz:=0,pure:=true }),(2007,{ sz:=1,rows:=(t1.2.2.map Z03),frz:=0,pure:=true })]⟩
def J164x2 (v34 x2 : Int) : JT (((List Int) × (List Int))):=
  je 3 fun q2 : (List Int) × (List Int)=>⟨130,[(6,.lptr 6 0 0),(7,.lptr 7 0 0)],[(6,{ sz:=10,rows:=[[dI 0,dI 0,dI 0,dI 0,.sl true (([] : List Int).map Z03),.sl true (([] : List Int).map Z03),.str [],.str [],.str [],.str []]],frz:=0,pure:=false }),(7,{ sz:=10,rows:=[[dI x2,dI 0,dI 0,dI v34,.lsl 1007 0 ((q2.1.map Z03).length),.lsl 2007 0 ((q2.2.map Z03).length),.str [],.str [],.str [],.str []]],frz:=0,pure:=false }),(1007,{ sz:=1,rows:=(q2.1.map Z03),frz:=0,pure:=true }),(2007,{ sz:=1,rows:=(q2.2.map Z03),frz:=0,pure:=true })]⟩
theorem wl164x2 (v34 x2 : Int) {v36 : Int} {x0 : List UInt8} {x1 : Int} {t1 : Int × (List Int) × (List Int)} {r : Ctl (Int × (List Int) × (List Int)) (((List Int) × (List Int)))} {Γ : Ctx} (h : (Zi8 v36 x0 x1) t1 = some r) : A Tryz.prog Γ (lpC Tryz.f164 12320747) [] (Rd (Zt5 v34 v36 x0 x1 x2) (J164x2 v34 x2) r) ((Zt5 v34 v36 x0 x1 x2) t1).s:=
  go [] [] <| br h (fun h12 h=>bd h fun v53 e54 h=>bd h fun v54 e55 h=>bd h fun v55 e56 h=>bd h fun v56 e57 h=>bd h fun v57 e58 h=>bd h fun v58 e59 h=>bd h fun v59 e60 h=>bd h fun v60 e61 h=>bd h fun v61 e62 h=>bd h fun v62 e63 h=>bd h fun v63 e64 h=>go [] [rgo 28 [(4,n e54),(6,n e55),(7,n e56),(8,k (w174 e57)),(9,br0 1 0),(10,ap e58)] [0,1,2,3,4,5,6,7,8,9,10,11,12] [10,12] [(1,[0]),(4,[3]),(6,[5]),(7,[3,4,5,6]),(8,[2,3,4,5,6,7]),(9,[2,3,4,5,6,7,8]),(10,[0,1,2,3,4,5,6,7,8,9]),(11,[0,1,2,3,4,5,6,7,8,9,10]),(12,[0,1,2,3,4,5,6,7,8,9,10,11])],rgo 29 [(4,n e59),(6,n e60),(7,n e61),(8,k (Z6i e62)),(9,br0 1 0),(10,ap e63)] [0,1,2,3,4,5,6,7,8,9,10,11,12] [10,12] [(1,[0]),(4,[3]),(6,[5]),(7,[3,4,5,6]),(8,[2,3,4,5,6,7]),(9,[2,3,4,5,6,7,8]),(10,[0,1,2,3,4,5,6,7,8,9]),(11,[0,1,2,3,4,5,6,7,8,9,10]),(12,[0,1,2,3,4,5,6,7,8,9,10,11])],rg 27 [(1,n e64)]] <| nx h) fun h12 h=>
  go [] [] <| dn h (iE)
def R165 (y0 : Int) : D:= .int .i64 y0
def Zkb (x0 : List Int) (x1 t0 : Int) : Option (Ctl (Int) (Unit ⊕ Int)):=
  if (decide (t0 < (x0.length : Int))) = true then
    ((Z0g x0 t0).bind fun v1=>
    if (v1 == x1) = true then
      (some (.done (.inr t0))) else
    ((some (IntKind.wrap .i64 (t0 + (1 : Int)))).bind fun v2=>
      some (.next v2))) else
  (some (.done (.inl (()))))
def Za7 (x0 : List Int) (x1 : Int) : Option (Int):=
  (Z0d (Zkb x0 x1) Z0i 0).bind fun q1=>
  match q1 with
  | .inl q0=>(some (-1))
  | .inr y0=>(some y0)
def Zqo (x0 : List Int) (x1 : Int) : Int → SL:=
  fun t0=>⟨19,[(0,.sl false (x0.map Z03)),(1,dI x1),(5,dI t0)],[]⟩
def J165x1 : JT (Unit ⊕ Int):=
  ju (je 0 fun q0 : Unit=>⟨19,[],[]⟩) (jr Tryz.prog Tryz.f165 R165)
theorem wl165x1 {x0 : List Int} {x1 t0 : Int} {r : Ctl (Int) (Unit ⊕ Int)} {Γ : Ctx} (h : (Zkb x0 x1) t0 = some r) : A Tryz.prog Γ (lpC Tryz.f165 21) [] (Rd (Zqo x0 x1) J165x1 r) ((Zqo x0 x1) t0).s:=
  go [] [rg 2 [(2,ln x0)]] <| br h (fun h2 h=>bd h fun v1 e1 h=>go [] [rg 4 [(2,ix e1)]] <| br h (fun h3 h=>go [] [] <| dn h (i2 iR)) fun h3 h=>
    bd h fun v2 e2 h=>go [] [rg 3 [(1,n e2)]] <| nx h) fun h2 h=>
  go [] [] <| dn h (i1 iE)
theorem w165 {x0 : List Int} {x1 : Int} {r : Int} (h : Za7 x0 x1 = some r) : Z0e Tryz.prog 165 [.sl false (x0.map Z03),dI x1] (R165 r):=
  cs Tryz.f165 <| go [] [] <| bd h fun q1 e3 h=>lp e3 wl165x1 <| match q1,h with
  | .inl q0,h=>j1 <| (qe <| goN [] [] <| rt h)
  | .inr y0,h=>j2 <| (qr h)
end Go.Proofs
