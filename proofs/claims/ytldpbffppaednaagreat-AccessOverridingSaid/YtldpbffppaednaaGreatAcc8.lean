/-
  Models of functions of the program, and that the functions compute them. Printed by den3.py. No condition.
-/
import Derived.Test.YtldpbffppaednaaGreatAcc7
set_option linter.unusedVariables false
namespace Go.Proofs
open Go.Den Go.Den.W
def R7 (y0 : Bool) : D:= .bool y0
def j7x2 : Option (Bool):= (Zdq).bind fun v6=> some v6
def j7x1 (x0 : Z0c) (x1 x2 : Int) : Option (Bool):= (Zdq).bind fun v3=> if v3 = true then ((Z6x x0 x1 x2 4).bind fun v4=> if v4 = true then ((Z6x x0 x1 x2 28).bind fun v5=> some v5) else (some false)) else (some false)
def Zrh (x0 : Z0c) (x1 x2 : Int) : Option (Bool):= (Zbh x0).bind fun v0=> if (!v0) = true then (j7x2) else ((Zda x0).bind fun v1=> if (!v1) = true then (j7x2) else ((Zaa x0 x1 x2).bind fun v2=> if (!v2) = true then (j7x2) else ((j7x1 x0 x1 x2))))
theorem wj7x2 {r : Bool} {Γ : Ctx} (h : j7x2 = some r) : Jn Tryz.prog Tryz.f7 Γ (Den.Ends Tryz.prog Tryz.f7 (R7 r)) 37 ⟨36,[],[]⟩:= so <| bd h fun v6 e6 h=>go [] [rg 2 [(0,k (w10 e6))]] <| rt h
theorem wj7x1 {x0 : Z0c} {x1 x2 : Int} {r : Bool} {Γ : Ctx} (h : (j7x1 x0 x1 x2) = some r) : Jn Tryz.prog Tryz.f7 Γ (Den.Ends Tryz.prog Tryz.f7 (R7 r)) 11 ⟨36,[(1,dI x1),(2,dI x2),(3,.ptr (Z1q x0))],[]⟩:= po <| bd h fun v3 e3 h=>pr 2 [(0,k (w10 e3))] <| sp h (fun h3 h=>bd h fun v4 e4 h=>pr 6 [(2,gw h3 g0),(3,gw h3 g0),(4,gw h3 g0),(5,gw h3 (k (w13 e4))),(6,py h3)] <| sp h (fun h4 h=>bd h fun v5 e5 h=>pr 6 [(8,gw h4 g0),(9,gw h4 g0),(10,gw h4 g0),(11,gw h4 (k (w13 e5))),(12,py h4)] <| pe <| goN [] [] <| rt h) fun h4 h=> pr 6 [(8,gs1 h4),(9,gs1 h4),(10,gs1 h4),(11,gs1 h4),(12,pn h4)] <| pe <| goN [] [] <| rt h) fun h3 h=> pr 12 [(2,gs1 h3),(3,gs1 h3),(4,gs1 h3),(5,gs1 h3),(6,pn h3)] <| pe <| goN [] [] <| rt h
theorem w7 {x0 : Z0c} {x1 x2 : Int} {r : Bool} (h : Zrh x0 x1 x2 = some r) : Z0f Tryz.prog 7 [.agg (Z1q x0),dI x1,dI x2] (R7 r):= cs Tryz.f7 <| go [1] [rg 0 [(0,bo)]] <| po <| bd h fun v0 e0 h=>pr 4 [(1,k (w8 e0))] <| sp h (fun h0 h=>pr 11 [(4,gs0 h0),(5,gs0 h0),(6,gs0 h0),(7,py h0)] <| pe <| goN [] [] <| bT rfl <| go [2] [] <| jn (wj7x2 h)) fun h0 h=> bd h fun v1 e1 h=>pr 5 [(4,gw h0 g0),(5,gw h0 (k (w9 e1))),(6,gw h0 g0),(7,pn h0)] <| sp h (fun h1 h=>pr 6 [(9,gs0 h1),(10,gs0 h1),(11,gs0 h1),(12,gs0 h1),(13,gs0 h1),(14,py h1)] <| pe <| goN [] [] <| bT rfl <| go [2] [] <| jn (wj7x2 h)) fun h1 h=> bd h fun v2 e2 h=>pr 6 [(9,gw h1 g0),(10,gw h1 g0),(11,gw h1 g0),(12,gw h1 (k (w18 e2))),(13,gw h1 g0),(14,pn h1)] <| pe <| goN [] [] <| br h (fun h2 h=>go [2] [] <| jn (wj7x2 h)) fun h2 h=> go [3] [] <| jn (wj7x1 h)
end Go.Proofs
