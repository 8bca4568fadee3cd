/-
  Models of functions of the program, and that the functions compute them. Printed by den3.py. No condition.
-/
import Derived.Test.YtldpbffppaednaaGreatAcc7
set_option linter.unusedVariables false
namespace Go.Proofs
open Go.Den Go.Den.W
def R6 (y0 : Bool) : D:= .bool y0
def j6x2 : Option (Bool):=
  (Ze9).bind fun v11=>
  some v11
def j6x1 (x0 : Z0c) (x1 x2 x3 : Int) : Option (Bool):=
  (Ze9).bind fun v4=>
  if v4 = true then ((Z8h x0 x1 x2).bind fun v5=>
    if v5 = true then ((Z8h x0 x2 x1).bind fun v6=>
      if v6 = true then ((Z7k x0 x1 x2 x3).bind fun v7=>
        if v7 = true then ((Z7k x0 x2 x1 x3).bind fun v8=>
          if v8 = true then ((Z9n x0 x1 x2 x3).bind fun v9=>
            (some (Z1r .i64 x3 (8 : Int))).bind fun v10=>
            some (v9 == (v10 == 0))) else
          (some false)) else
        (some false)) else
      (some false)) else
    (some false)) else
  (some false)
def Zqh (x0 : Z0c) (x1 x2 x3 : Int) : Option (Bool):=
  (Ze3 x0).bind fun v0=>
  if (!v0) = true then (j6x2) else
  ((Zcz x0).bind fun v1=>
    if (!v1) = true then (j6x2) else
    ((Z7z x0 x1 x2).bind fun v2=>
      if (!v2) = true then (j6x2) else
      ((some (Z1r .i64 x3 (2 : Int))).bind fun v3=>
        if (v3 != 0) = true then
          (j6x2) else
        ((j6x1 x0 x1 x2 x3)))))
theorem Ziy {r : Bool} {Γ : Ctx} (h : j6x2 = some r) : Jn Tryz.prog Tryz.f6 Γ (Den.Ends Tryz.prog Tryz.f6 (R6 r)) 37 ⟨68,[],[]⟩:=
  so <| bd h fun v11 e11 h=>go [] [rg 2 [(0,k (w10 e11))]] <| rt h
theorem wj6x1 {x0 : Z0c} {x1 x2 x3 : Int} {r : Bool} {Γ : Ctx} (h : (j6x1 x0 x1 x2 x3) = some r) : Jn Tryz.prog Tryz.f6 Γ (Den.Ends Tryz.prog Tryz.f6 (R6 r)) 11 ⟨68,[(1,dI x1),(2,dI x2),(3,dI x3),(4,.ptr (Z1x x0))],[]⟩:=
  po <| bd h fun v4 e4 h=>pr 2 [(0,k (w10 e4))] <| sp h (fun h4 h=>bd h fun v5 e5 h=>pr 6 [(2,gw h4 g0),(3,gw h4 g0),(4,gw h4 g0),(5,gw h4 (k (w11 e5))),(6,py h4)] <| sp h (fun h5 h=>bd h fun v6 e6 h=>pr 6 [(8,gw h5 g0),(9,gw h5 g0),(10,gw h5 g0),(11,gw h5 (k (w11 e6))),(12,py h5)] <| sp h (fun h6 h=>bd h fun v7 e7 h=>pr 7 [(14,gw h6 g0),(15,gw h6 g0),(16,gw h6 g0),(17,gw h6 g0),(18,gw h6 (k (w13 e7))),(19,py h6)] <| sp h (fun h7 h=>bd h fun v8 e8 h=>pr 7 [(21,gw h7 g0),(22,gw h7 g0),(23,gw h7 g0),(24,gw h7 g0),(25,gw h7 (k (w13 e8))),(26,py h7)] <| sp h (fun h8 h=>bd h fun v9 e9 h=>bd h fun v10 e10 h=>pr 11 [(28,gw h8 g0),(29,gw h8 g0),(30,gw h8 g0),(31,gw h8 g0),(32,gw h8 (k (w15 e9))),(33,gw h8 g0),(34,gw h8 (n e10)),(35,gw h8 g0),(36,gw h8 g0),(37,py h8)] <| pe <| goN [] [] <| rt h) fun h8 h=>
          pr 11 [(28,gs1 h8),(29,gs1 h8),(30,gs1 h8),(31,gs1 h8),(32,gs1 h8),(33,gs1 h8),(34,gs1 h8),(35,gs1 h8),(36,gs1 h8),(37,pn h8)] <| pe <| goN [] [] <| rt h) fun h7 h=>
        pr 18 [(21,gs1 h7),(22,gs1 h7),(23,gs1 h7),(24,gs1 h7),(25,gs1 h7),(26,pn h7)] <| pe <| goN [] [] <| rt h) fun h6 h=>
      pr 25 [(14,gs1 h6),(15,gs1 h6),(16,gs1 h6),(17,gs1 h6),(18,gs1 h6),(19,pn h6)] <| pe <| goN [] [] <| rt h) fun h5 h=>
    pr 31 [(8,gs1 h5),(9,gs1 h5),(10,gs1 h5),(11,gs1 h5),(12,pn h5)] <| pe <| goN [] [] <| rt h) fun h4 h=>
  pr 37 [(2,gs1 h4),(3,gs1 h4),(4,gs1 h4),(5,gs1 h4),(6,pn h4)] <| pe <| goN [] [] <| rt h
theorem w6 {x0 : Z0c} {x1 x2 x3 : Int} {r : Bool} (h : Zqh x0 x1 x2 x3 = some r) : Z0e Tryz.prog 6 [.agg (Z1x x0),dI x1,dI x2,dI x3] (R6 r):=
  cs Tryz.f6 <| go [1] [rg 0 [(0,bo)]] <| po <| bd h fun v0 e0 h=>pr 4 [(1,k (w8 e0))] <| sp h (fun h0 h=>pr 16 [(4,gs0 h0),(5,gs0 h0),(6,gs0 h0),(7,py h0)] <| pe <| goN [] [] <| bT rfl <| go [2] [] <| jn (Ziy h)) fun h0 h=>
  bd h fun v1 e1 h=>pr 5 [(4,gw h0 g0),(5,gw h0 (k (w9 e1))),(6,gw h0 g0),(7,pn h0)] <| sp h (fun h1 h=>pr 11 [(9,gs0 h1),(10,gs0 h1),(11,gs0 h1),(12,gs0 h1),(13,gs0 h1),(14,py h1)] <| pe <| goN [] [] <| bT rfl <| go [2] [] <| jn (Ziy h)) fun h1 h=>
    bd h fun v2 e2 h=>pr 7 [(9,gw h1 g0),(10,gw h1 g0),(11,gw h1 g0),(12,gw h1 (k (w17 e2))),(13,gw h1 g0),(14,pn h1)] <| sp h (fun h2 h=>pr 4 [(16,gs0 h2),(17,gs0 h2),(18,gs0 h2),(19,py h2)] <| pe <| goN [] [] <| bT rfl <| go [2] [] <| jn (Ziy h)) fun h2 h=>
      bd h fun v3 e3 h=>pr 4 [(16,gw h2 g0),(17,gw h2 (n e3)),(18,gw h2 g0),(19,pn h2)] <| pe <| goN [] [] <| br h (fun h3 h=>go [2] [] <| jn (Ziy h)) fun h3 h=>
        go [3] [] <| jn (wj6x1 h)
end Go.Proofs
