/-
  Models of functions of the program, and that the functions compute them. Printed by den3.py. No condition.
-/
import Derived.Test.YtehnlgjdpfonlaaPcd1
set_option linter.unusedVariables false
namespace Go.Proofs
open Go.Den Go.Den.W
/-! armature armatureref05.formed -/
def R39 (y0 : Bool) : D := .bool y0
def j39x2 (x0 : T_api_Const) (p0 : Bool) : Option (Bool) :=
  if p0 = true then (some true) else
  (if (x0.f_Tag == 7) = true then (some (x0.f_B == 0)) else
    (if (x0.f_Tag == 8) = true then (some (x0.f_B == 0)) else
      (if (x0.f_A == 0) = true then (some (x0.f_B == 0)) else
        (some false))))
def j39x1 (x0 : T_api_Const) : Option (Bool) :=
  if (x0.f_Tag == 12) = true then ((j39x2 x0) true) else
  ((m_armatureref05_member x0.f_Tag).bind fun v0 =>
  (j39x2 x0) v0)
def m_armatureref05_formed (x0 : T_api_Const) : Option (Bool) :=
  if (x0.f_Tag != 1) = true then (if (!(x0.f_S == ([] : List UInt8))) = true then (some false) else
    (if (x0.f_Tag != 3) = true then (if (x0.f_Tag != 5) = true then (if (x0.f_N != 0) = true then
            (some false) else
          ((j39x1 x0) )) else
        ((j39x1 x0) )) else
      ((j39x1 x0) ))) else
  (if (x0.f_Tag != 3) = true then (if (x0.f_Tag != 5) = true then (if (x0.f_N != 0) = true then
          (some false) else
        ((j39x1 x0) )) else
      ((j39x1 x0) )) else
    ((j39x1 x0) ))
theorem wj39x2 {x0 : T_api_Const} {p0 : Bool} {r : Bool} {Γ : Ctx} (h : (j39x2 x0) p0 = some r) : Jn Try.prog Try.f39 Γ (Den.Ends Try.prog Try.f39 (R39 r)) 47 ⟨57, [(1, .ptr (row_T_api_Const x0)), (3, dI x0.f_Tag), (4, .bool p0)], []⟩ :=
  po <| pr 2 [] <| sp h (fun h9 h => pr 8 [(2, gs0 h9), (3, gs0 h9), (4, py h9)] <| pe <| goN [6] [] <| po <| pr 15 [(9, gs0 h9), (10, gs0 h9), (11, gs0 h9), (12, py h9)] <| pe <| goN [] [] <| rt h) fun h9 h =>
  pr 4 [(2, gw h9 g0), (3, gw h9 g0), (4, pn h9)] <| sp h (fun h10 h => pr 4 [(6, gs0 h10), (7, gs0 h10), (8, py h10)] <| pe <| goN [6] [] <| po <| pr 15 [(9, gw h9 g0), (10, gw h9 g0), (11, gw h9 g0), (12, pn h9)] <| pe <| goN [] [] <| rt h) fun h10 h =>
    pr 4 [(6, gw h10 g0), (7, gw h10 g0), (8, pn h10)] <| pe <| goN [6] [] <| po <| pr 2 [] <| sp h (fun h11 h => pr 13 [(2, gs0 h11), (3, gs0 h11), (4, gs0 h11), (5, py h11), (9, gw h9 g0), (10, gw h9 g0), (11, gw h9 g0), (12, pn h9)] <| pe <| goN [] [] <| rt h) fun h11 h =>
      pr 5 [(2, gw h11 g0), (3, gw h11 g0), (4, gw h11 g0), (5, pn h11)] <| sp h (fun h12 h => pr 8 [(7, gw h12 g0), (8, gw h12 g0), (9, gw h9 g0), (10, gw h9 g0), (11, gw h9 g0), (12, gw h12 (pn h9)), (13, py h12)] <| pe <| goN [] [] <| rt h) fun h12 h =>
        pr 8 [(7, gs1 h12), (8, gs1 h12), (12, gs1 h12), (13, pn h12)] <| pe <| goN [] [] <| rt h
theorem wj39x1 {x0 : T_api_Const} {r : Bool} {Γ : Ctx} (h : (j39x1 x0)  = some r) : Jn Try.prog Try.f39 Γ (Den.Ends Try.prog Try.f39 (R39 r)) 23 ⟨57, [(1, .ptr (row_T_api_Const x0)), (3, dI x0.f_Tag)], []⟩ :=
  so <| sp h (fun h8 h => go [5] [rg 4 [(1, kb h8)]] <| jn (wj39x2 h)) fun h8 h =>
  bd h fun v0 e0 h => go [5] [rg 4 [(1, kb h8), (4, k (w52 e0))]] <| jn (wj39x2 h)
theorem w39 {x0 : T_api_Const} {r : Bool} (h : m_armatureref05_formed x0 = some r) : CallSpec Try.prog 39 [.agg (row_T_api_Const x0)] (R39 r) :=
  cs Try.f39 <| go [2] [rg 0 [(0, bo)]] <| po <| pr 3 [] <| sp h (fun h0 h => pr 5 [(3, gw h0 g0), (4, gw h0 g0), (5, gw h0 g0), (6, py h0)] <| sp h (fun h1 h => pr 12 [(8, gs0 h1), (9, gs0 h1), (10, gs0 h1), (13, gs0 h1), (14, gs0 h1), (18, gs0 h1), (19, py h1)] <| pe <| goN [] [] <| bT rfl <| go [] [] <| rt h) fun h1 h =>
    pr 3 [(8, gw h1 g0), (9, gw h1 g0), (10, gw h1 g0)] <| sp h (fun h2 h => pr 4 [(11, gw h2 g0), (12, gw h2 g0), (13, gw h1 (py h2)), (14, gw h1 g0)] <| sp h (fun h3 h => pr 5 [(15, gw h3 g0), (16, gw h3 g0), (17, gw h3 g0), (18, gw h1 (py h3)), (19, pn h1)] <| pe <| goN [] [] <| br h (fun h4 h => go [] [] <| rt h) fun h4 h =>
          go [4] [] <| jn (wj39x1 h)) fun h3 h =>
        pr 5 [(15, gs1 h3), (16, gs1 h3), (17, gs1 h3), (18, gw h1 (pn h3)), (19, pn h1)] <| pe <| goN [] [] <| bF rfl <| go [4] [] <| jn (wj39x1 h)) fun h2 h =>
      pr 9 [(11, gs1 h2), (12, gs1 h2), (13, gw h1 (pn h2)), (14, gw h1 g0), (18, gw h1 g0), (19, pn h1)] <| pe <| goN [] [] <| bF rfl <| go [4] [] <| jn (wj39x1 h)) fun h0 h =>
  pr 8 [(3, gs1 h0), (4, gs1 h0), (5, gs1 h0), (6, pn h0)] <| sp h (fun h5 h => pr 4 [(11, gw h5 g0), (12, gw h5 g0), (13, py h5)] <| sp h (fun h6 h => pr 5 [(15, gw h6 g0), (16, gw h6 g0), (17, gw h6 g0), (18, py h6)] <| pe <| goN [] [] <| br h (fun h7 h => go [] [] <| rt h) fun h7 h =>
        go [4] [] <| jn (wj39x1 h)) fun h6 h =>
      pr 5 [(15, gs1 h6), (16, gs1 h6), (17, gs1 h6), (18, pn h6)] <| pe <| goN [] [] <| bF rfl <| go [4] [] <| jn (wj39x1 h)) fun h5 h =>
    pr 9 [(11, gs1 h5), (12, gs1 h5), (13, pn h5)] <| pe <| goN [] [] <| bF rfl <| go [4] [] <| jn (wj39x1 h)
/-! armature armatureref05.At -/
def R78 (y0 : T_api_Const × Int) : D := .tup [.agg (row_T_api_Const y0.1), .int .i64 y0.2]
def m_armatureref05_At (x0 : List T_api_Const) (x1 : Int) : Option (T_api_Const × Int) :=
  if (decide (x1 < 1)) = true then (some (({ f_Tag := 0, f_S := [], f_N := 0, f_A := 0, f_B := 0 } : T_api_Const), 2)) else
  (if (decide (x1 > (x0.length : Int))) = true then
    (some (({ f_Tag := 0, f_S := [], f_N := 0, f_A := 0, f_B := 0 } : T_api_Const), 2)) else
  ((some (IntKind.wrap .i64 (x1 - (1 : Int)))).bind fun v0 =>
    (getR x0 v0).bind fun v1 =>
    some (v1, 0)))
theorem w78 {x0 : List T_api_Const} {x1 : Int} {r : T_api_Const × Int} (h : m_armatureref05_At x0 x1 = some r) : CallSpec Try.prog 78 [.sl false (x0.map row_T_api_Const), dI x1] (R78 r) :=
  cs Try.f78 <| sp h (fun h0 h => go [] [rg 1 [(1, kb h0)]] <| bT rfl <| go [] [] <| rt h) fun h0 h =>
  go [] [rg 1 [(1, kb h0), (5, ln x0)]] <| br h (fun h1 h => go [] [] <| rt h) fun h1 h =>
  bd h fun v0 e0 h => bd h fun v1 e1 h => go [] [rg 3 [(2, n e0), (3, ix e1)]] <| rt h
/-! armature armatureref05.get -/
def R68 (y0 : T_api_Const × Int) : D := .tup [.agg (row_T_api_Const y0.1), .int .i64 y0.2]
def m_armatureref05_get (x0 : List T_api_Const) (x1 x2 : Int) : Option (T_api_Const × Int) :=
  (m_armatureref05_At x0 x1).bind fun v0 =>
  if (v0.2 != 0) = true then
    (some (({ f_Tag := 0, f_S := [], f_N := 0, f_A := 0, f_B := 0 } : T_api_Const), v0.2)) else
  (if (v0.1.f_Tag != x2) = true then
      (some (({ f_Tag := 0, f_S := [], f_N := 0, f_A := 0, f_B := 0 } : T_api_Const), 11)) else
    (some (v0.1, 0)))
theorem w68 {x0 : List T_api_Const} {x1 x2 : Int} {r : T_api_Const × Int} (h : m_armatureref05_get x0 x1 x2 = some r) : CallSpec Try.prog 68 [.sl false (x0.map row_T_api_Const), dI x1, dI x2] (R68 r) :=
  cs Try.f68 <| bd h fun v0 e0 h => go [] [rg 1 [(2, k (w78 e0))]] <| br h (fun h0 h => go [] [] <| rt h) fun h0 h =>
  go [] [] <| br h (fun h1 h => go [] [] <| rt h) fun h1 h =>
    go [] [] <| rt h
/-! armature armatureref05.refers -/
def R53 (y0 : Int) : D := .int .i64 y0
def m_armatureref05_refers (x0 : List T_api_Const) (x1 x2 : Int) : Option (Int) :=
  (m_armatureref05_get x0 x1 x2).bind fun v0 =>
  some v0.2
theorem w53 {x0 : List T_api_Const} {x1 x2 : Int} {r : Int} (h : m_armatureref05_refers x0 x1 x2 = some r) : CallSpec Try.prog 53 [.sl false (x0.map row_T_api_Const), dI x1, dI x2] (R53 r) :=
  cs Try.f53 <| bd h fun v0 e0 h => go [] [rg 1 [(3, k (w68 e0))]] <| rt h
/-! armature armatureref05.both -/
def R40 (y0 : Int) : D := .int .i64 y0
def j40x2 (p1 : Int) (x0 : List T_api_Const) (x1 : T_api_Const) : Option (Int) :=
  (m_armatureref05_refers x0 x1.f_B p1).bind fun v2 =>
  some v2
def j40x1 (x0 : List T_api_Const) (x1 : T_api_Const) (p0 p1 : Int) : Option (Int) :=
  (m_armatureref05_refers x0 x1.f_A p0).bind fun v1 =>
  if (v1 != 0) = true then
    (some v1) else
  (if (x1.f_Tag == 7) = true then (some 0) else
    (if (x1.f_Tag == 8) = true then
      (some 0) else
    ((j40x2 p1 x0 x1) )))
def m_armatureref05_both (x0 : List T_api_Const) (x1 : T_api_Const) : Option (Int) :=
  (m_armatureref05_member x1.f_Tag).bind fun v0 =>
  if v0 = true then
    ((j40x1 x0 x1) 7 12) else
  ((j40x1 x0 x1) 1 1)
theorem wj40x2 {p1 : Int} {x0 : List T_api_Const} {x1 : T_api_Const} {r : Int} {Γ : Ctx} (h : (j40x2 p1 x0 x1)  = some r) : Jn Try.prog Try.f40 Γ (Den.Ends Try.prog Try.f40 (R40 r)) 95 ⟨32, [(0, .sl false (x0.map row_T_api_Const)), (3, .ptr (row_T_api_Const x1)), (6, dI p1)], []⟩ :=
  so <| bd h fun v2 e2 h => go [] [rg 9 [(4, k (w53 e2))]] <| rt h
theorem wj40x1 {x0 : List T_api_Const} {x1 : T_api_Const} {p0 p1 : Int} {r : Int} {Γ : Ctx} (h : (j40x1 x0 x1) p0 p1 = some r) : Jn Try.prog Try.f40 Γ (Den.Ends Try.prog Try.f40 (R40 r)) 39 ⟨32, [(0, .sl false (x0.map row_T_api_Const)), (3, .ptr (row_T_api_Const x1)), (5, dI p0), (6, dI p1)], []⟩ :=
  so <| bd h fun v1 e1 h => go [] [rg 4 [(4, k (w53 e1))]] <| br h (fun h1 h => go [] [] <| rt h) fun h1 h =>
  sp h (fun h2 h => go [] [rg 7 [(2, kb h2)]] <| bT rfl <| go [] [] <| rt h) fun h2 h =>
    go [] [rg 7 [(2, kb h2)]] <| br h (fun h3 h => go [] [] <| rt h) fun h3 h =>
    go [9] [] <| jn (wj40x2 h)
theorem w40 {x0 : List T_api_Const} {x1 : T_api_Const} {r : Int} (h : m_armatureref05_both x0 x1 = some r) : CallSpec Try.prog 40 [.sl false (x0.map row_T_api_Const), .agg (row_T_api_Const x1)] (R40 r) :=
  cs Try.f40 <| bd h fun v0 e0 h => go [] [rg 0 [(0, bo)], rg 2 [(2, k (w52 e0))]] <| br h (fun h0 h => go [4] [] <| jn (wj40x1 h)) fun h0 h =>
  go [4] [] <| jn (wj40x1 h)
/-! armature armatureref05.UTF8 -/
def R54 (y0 : (List UInt8) × Int) : D := .tup [.str y0.1, .int .i64 y0.2]
def m_armatureref05_UTF8 (x0 : List T_api_Const) (x1 : Int) : Option ((List UInt8) × Int) :=
  (m_armatureref05_get x0 x1 1).bind fun v0 =>
  some (v0.1.f_S, v0.2)
theorem w54 {x0 : List T_api_Const} {x1 : Int} {r : (List UInt8) × Int} (h : m_armatureref05_UTF8 x0 x1 = some r) : CallSpec Try.prog 54 [.sl false (x0.map row_T_api_Const), dI x1] (R54 r) :=
  cs Try.f54 <| bd h fun v0 e0 h => go [] [rg 1 [(2, k (w68 e0))]] <| rt h
/-! armature armatureref03.letter -/
def R80 (y0 : Bool) : D := .bool y0
def m_armatureref03_letter (x0 : Int) : Option (Bool) :=
  if (decide (x0 ≥ 97)) = true then (if (decide (x0 ≤ 122)) = true then (some true) else
    (if (decide (x0 ≥ 65)) = true then (if (decide (x0 ≤ 90)) = true then (some true) else
        (if (x0 == 95) = true then (some true) else
          (some (x0 == 36)))) else
      (if (x0 == 95) = true then (some true) else
        (some (x0 == 36))))) else
  (if (decide (x0 ≥ 65)) = true then (if (decide (x0 ≤ 90)) = true then (some true) else
      (if (x0 == 95) = true then (some true) else
        (some (x0 == 36)))) else
    (if (x0 == 95) = true then (some true) else
      (some (x0 == 36))))
theorem w80 {x0 : Int} {r : Bool} (h : m_armatureref03_letter x0 = some r) : CallSpec Try.prog 80 [d8 x0] (R80 r) :=
  cs Try.f80 <| go [1] [] <| po <| pr 3 [] <| sp h (fun h0 h => pr 4 [(3, gw h0 g0), (4, gw h0 g0), (5, py h0)] <| sp h (fun h1 h => pr 16 [(7, gs0 h1), (8, gs0 h1), (9, gs0 h1), (12, gs0 h1), (13, py h1)] <| pe <| goN [] [] <| rt h) fun h1 h =>
    pr 3 [(7, gw h1 g0), (8, gw h1 g0), (9, gw h1 g0)] <| sp h (fun h2 h => pr 5 [(10, gw h2 g0), (11, gw h2 g0), (12, gw h1 (py h2)), (13, pn h1)] <| sp h (fun h3 h => pr 8 [(15, gs0 h3), (16, gs0 h3), (17, py h3)] <| pe <| goN [] [] <| rt h) fun h3 h =>
        pr 4 [(15, gw h3 g0), (16, gw h3 g0), (17, pn h3)] <| sp h (fun h4 h => pr 4 [(19, gs0 h4), (20, gs0 h4), (21, py h4)] <| pe <| goN [] [] <| rt h) fun h4 h =>
          pr 4 [(19, gw h4 g0), (20, gw h4 g0), (21, pn h4)] <| pe <| goN [] [] <| rt h) fun h2 h =>
      pr 9 [(10, gs1 h2), (11, gs1 h2), (12, gw h1 (pn h2)), (13, pn h1)] <| sp h (fun h5 h => pr 4 [(19, gs0 h5), (20, gs0 h5), (21, py h5)] <| pe <| goN [] [] <| rt h) fun h5 h =>
        pr 4 [(19, gw h5 g0), (20, gw h5 g0), (21, pn h5)] <| pe <| goN [] [] <| rt h) fun h0 h =>
  pr 7 [(3, gs1 h0), (4, gs1 h0), (5, pn h0)] <| sp h (fun h6 h => pr 5 [(10, gw h6 g0), (11, gw h6 g0), (12, py h6)] <| sp h (fun h7 h => pr 8 [(15, gs0 h7), (16, gs0 h7), (17, py h7)] <| pe <| goN [] [] <| rt h) fun h7 h =>
      pr 4 [(15, gw h7 g0), (16, gw h7 g0), (17, pn h7)] <| sp h (fun h8 h => pr 4 [(19, gs0 h8), (20, gs0 h8), (21, py h8)] <| pe <| goN [] [] <| rt h) fun h8 h =>
        pr 4 [(19, gw h8 g0), (20, gw h8 g0), (21, pn h8)] <| pe <| goN [] [] <| rt h) fun h6 h =>
    pr 9 [(10, gs1 h6), (11, gs1 h6), (12, pn h6)] <| sp h (fun h9 h => pr 4 [(19, gs0 h9), (20, gs0 h9), (21, py h9)] <| pe <| goN [] [] <| rt h) fun h9 h =>
      pr 4 [(19, gw h9 g0), (20, gw h9 g0), (21, pn h9)] <| pe <| goN [] [] <| rt h
/-! armature armatureref03.part -/
def R71 (y0 : Bool) : D := .bool y0
def l71x1 (x0 : List UInt8) (t0 : Int) : Option (Ctl (Int) (Unit ⊕ Bool)) :=
  if (decide (t0 < (x0.length : Int))) = true then
    ((getS x0 t0).bind fun v2 =>
    (m_armatureref03_letter v2).bind fun v3 =>
    if (!v3) = true then (if (t0 == 0) = true then (some (.done (.inr false))) else
      ((getS x0 t0).bind fun v4 =>
        if (decide (v4 < 48)) = true then (some (.done (.inr false))) else
        ((getS x0 t0).bind fun v5 =>
          if (decide (v5 > 57)) = true then
            (some (.done (.inr false))) else
          ((some (IntKind.wrap .i64 (t0 + (1 : Int)))).bind fun v6 =>
            some (.next v6))))) else
    ((some (IntKind.wrap .i64 (t0 + (1 : Int)))).bind fun v7 =>
      some (.next v7))) else
  (some (.done (.inl (()))))
def m_armatureref03_part (x0 : List UInt8) : Option (Bool) :=
  (loopM (l71x1 x0) rounds 0).bind fun q1 =>
  match q1 with
  | .inl q0 => (some (decide ((x0.length : Int) > 0)))
  | .inr y0 => (some y0)
def st71x1 (x0 : List UInt8) : Int → SL :=
  fun t0 => ⟨34, [(0, .str x0), (3, dI t0)], []⟩
def J71x1 (x0 : List UInt8) : JT (Unit ⊕ Bool) :=
  ju (je 0 fun q0 : Unit => ⟨34, [(0, .str x0)], []⟩) (jr Try.prog Try.f71 R71)
theorem wl71x1 {x0 : List UInt8} {t0 : Int} {r : Ctl (Int) (Unit ⊕ Bool)} {Γ : Ctx} (h : (l71x1 x0) t0 = some r) : A Try.prog Γ (lpC Try.f71 21) [] (Rd (st71x1 x0) (J71x1 x0) r) ((st71x1 x0) t0).s :=
  go [] [] <| br h (fun h2 h => go [4] [] <| po <| bd h fun v2 e2 h => bd h fun v3 e3 h => pr 6 [(2, ib e2), (3, k (w80 e3))] <| sp h (fun h3 h => pr 3 [(6, gw h3 g0), (7, gw h3 g0), (8, gw h3 g0)] <| sp h (fun h4 h => pr 12 [(9, gs0 h4), (10, gs0 h4), (11, gs0 h4), (12, gs0 h4), (13, gw h3 (py h4)), (14, gw h3 g0), (19, gw h3 g0), (20, py h3)] <| pe <| goN [] [] <| bT rfl <| go [] [] <| dn h (i2 iR)) fun h4 h =>
      bd h fun v4 e4 h => pr 6 [(9, gw h4 g0), (10, gw h4 g0), (11, gw h4 (ib e4)), (12, gw h4 g0), (13, gw h3 (pn h4)), (14, gw h3 g0)] <| sp h (fun h5 h => pr 6 [(15, gs0 h5), (16, gs0 h5), (17, gs0 h5), (18, gs0 h5), (19, gw h3 (py h5)), (20, py h3)] <| pe <| goN [] [] <| bT rfl <| go [] [] <| dn h (i2 iR)) fun h5 h =>
        bd h fun v5 e5 h => pr 6 [(15, gw h5 g0), (16, gw h5 g0), (17, gw h5 (ib e5)), (18, gw h5 g0), (19, gw h3 (pn h5)), (20, py h3)] <| pe <| goN [] [] <| br h (fun h6 h => go [] [] <| dn h (i2 iR)) fun h6 h =>
          bd h fun v6 e6 h => go [] [rg 3 [(1, n e6)]] <| nx h) fun h3 h =>
    pr 15 [(6, gs1 h3), (7, gs1 h3), (8, gs1 h3), (13, gs1 h3), (14, gs1 h3), (19, gs1 h3), (20, pn h3)] <| pe <| goN [] [] <| bF rfl <| bd h fun v7 e7 h => go [] [rg 3 [(1, n e7)]] <| nx h) fun h2 h =>
  go [] [] <| dn h (i1 iE)
theorem w71 {x0 : List UInt8} {r : Bool} (h : m_armatureref03_part x0 = some r) : CallSpec Try.prog 71 [.str x0] (R71 r) :=
  cs Try.f71 <| go [] [] <| bd h fun q1 e8 h => lp e8 wl71x1 <| match q1, h with
  | .inl q0, h => j1 <| (qe <| goN [] [] <| rt h)
  | .inr y0, h => j2 <| (qr h)
/-! armature armatureref03.IsClassName -/
def R69 (y0 : Bool) : D := .bool y0
def l69x1 (x0 : List UInt8) (t0 : Int × Int) : Option (Ctl (Int × Int) (Int ⊕ Bool)) :=
  if (decide (t0.2 < (x0.length : Int))) = true then
    ((getS x0 t0.2).bind fun v3 =>
    if (v3 == 47) = true then
      ((sub x0 t0.1 t0.2).bind fun v4 =>
      (m_armatureref03_part v4).bind fun v5 =>
      if (!v5) = true then
        (some (.done (.inr false))) else
      ((some (IntKind.wrap .i64 (t0.2 + (1 : Int)))).bind fun v6 =>
        (some (IntKind.wrap .i64 (t0.2 + (1 : Int)))).bind fun v7 =>
        some (.next (v6, v7)))) else
    ((some (IntKind.wrap .i64 (t0.2 + (1 : Int)))).bind fun v8 =>
      some (.next (t0.1, v8)))) else
  (some (.done (.inl (t0.1))))
def m_armatureref03_IsClassName (x0 : List UInt8) : Option (Bool) :=
  if (decide ((x0.length : Int) > 64)) = true then
    (some false) else
  ((loopM (l69x1 x0) rounds (0, 0)).bind fun q1 =>
    match q1 with
    | .inl q0 => ((sub x0 q0 (x0.length : Int)).bind fun v9 =>
      (m_armatureref03_part v9).bind fun v10 =>
      some v10)
    | .inr y0 => (some y0))
def st69x1 (x0 : List UInt8) : (Int × Int) → SL :=
  fun t0 => ⟨30, [(0, .str x0), (3, dI t0.1), (4, dI t0.2)], []⟩
def J69x1 (x0 : List UInt8) : JT (Int ⊕ Bool) :=
  ju (je 0 fun q0 : Int => ⟨30, [(0, .str x0), (3, dI q0)], []⟩) (jr Try.prog Try.f69 R69)
theorem wl69x1 {x0 : List UInt8} {t0 : Int × Int} {r : Ctl (Int × Int) (Int ⊕ Bool)} {Γ : Ctx} (h : (l69x1 x0) t0 = some r) : A Try.prog Γ (lpC Try.f69 87) [] (Rd (st69x1 x0) (J69x1 x0) r) ((st69x1 x0) t0).s :=
  go [] [] <| br h (fun h4 h => bd h fun v3 e3 h => go [] [rg 7 [(2, ib e3)]] <| br h (fun h5 h => bd h fun v4 e4 h => bd h fun v5 e5 h => go [] [rg 8 [(3, ss e4), (4, k (w71 e5))]] <| br h (fun h6 h => go [] [] <| dn h (i2 iR)) fun h6 h =>
      bd h fun v6 e6 h => bd h fun v7 e7 h => go [] [rg 10 [(1, n e6)], rg 6 [(1, n e7)]] <| nx h) fun h5 h =>
    bd h fun v8 e8 h => go [] [rg 6 [(1, n e8)]] <| nx h) fun h4 h =>
  go [] [] <| dn h (i1 iE)
theorem w69 {x0 : List UInt8} {r : Bool} (h : m_armatureref03_IsClassName x0 = some r) : CallSpec Try.prog 69 [.str x0] (R69 r) :=
  cs Try.f69 <| go [] [] <| br h (fun h0 h => go [] [] <| rt h) fun h0 h =>
  go [] [] <| bd h fun q1 e9 h => lp e9 wl69x1 <| match q1, h with
    | .inl q0, h => j1 <| (qe <| bd h fun v9 e10 h => bd h fun v10 e11 h => goN [] [rg 11 [(2, ss e10), (3, k (w71 e11))]] <| rt h)
    | .inr y0, h => j2 <| (qr h)
/-! armature armatureref04.Valid -/
def R85 (y0 : Bool) : D := .bool y0
def j85x3 (x0 : T_api_Type) : Option (Bool) :=
  if (x0.f_Base == 86) = true then
    (if (x0.f_Name == ([] : List UInt8)) = true then (some (x0.f_Dim == 0)) else
    (some false)) else
  (if (x0.f_Base == 76) = true then
      ((m_armatureref03_IsClassName x0.f_Name).bind fun v0 =>
      some v0) else
    (some false))
def j85x2 (x0 : T_api_Type) : Option (Bool) :=
  if (x0.f_Base == 74) = true then
    (some (x0.f_Name == ([] : List UInt8))) else
  ((j85x3 x0) )
def j85x1 (x0 : T_api_Type) : Option (Bool) :=
  if (x0.f_Base == 73) = true then
    (some (x0.f_Name == ([] : List UInt8))) else
  ((j85x2 x0) )
def m_armatureref04_Valid (x0 : T_api_Type) : Option (Bool) :=
  if (decide (x0.f_Dim < 0)) = true then (some false) else
  (if (decide (x0.f_Dim > 8)) = true then
    (some false) else
  ((j85x1 x0) ))
theorem wj85x3 {x0 : T_api_Type} {r : Bool} {Γ : Ctx} (h : (j85x3 x0)  = some r) : Jn Try.prog Try.f85 Γ (Den.Ends Try.prog Try.f85 (R85 r)) 363 ⟨34, [(1, .ptr (row_T_api_Type x0)), (12, d8 x0.f_Base)], []⟩ :=
  so <| go [] [] <| br h (fun h4 h => sp h (fun h5 h => go [] [rg 8 [(2, kb h5)]] <| rt h) fun h5 h =>
    go [] [rg 8 [(2, kb h5)]] <| rt h) fun h4 h =>
  go [] [] <| br h (fun h6 h => bd h fun v0 e0 h => go [] [rg 10 [(2, k (w69 e0))]] <| rt h) fun h6 h =>
    go [] [] <| rt h
theorem wj85x2 {x0 : T_api_Type} {r : Bool} {Γ : Ctx} (h : (j85x2 x0)  = some r) : Jn Try.prog Try.f85 Γ (Den.Ends Try.prog Try.f85 (R85 r)) 107 ⟨34, [(1, .ptr (row_T_api_Type x0)), (12, d8 x0.f_Base), (13, .bool (x0.f_Base == 74))], []⟩ (x0.f_Base == 74) :=
  br h (fun h3 h => go [] [] <| rt h) fun h3 h =>
  go [7] [] <| jn (wj85x3 h)
theorem wj85x1 {x0 : T_api_Type} {r : Bool} {Γ : Ctx} (h : (j85x1 x0)  = some r) : Jn Try.prog Try.f85 Γ (Den.Ends Try.prog Try.f85 (R85 r)) 19 ⟨34, [(1, .ptr (row_T_api_Type x0))], []⟩ :=
  so <| go [] [] <| br h (fun h2 h => go [] [] <| bT h2 <| go [] [] <| rt h) fun h2 h =>
  go [] [] <| jn (wj85x2 h)
theorem w85 {x0 : T_api_Type} {r : Bool} (h : m_armatureref04_Valid x0 = some r) : CallSpec Try.prog 85 [.agg (row_T_api_Type x0)] (R85 r) :=
  cs Try.f85 <| sp h (fun h0 h => go [] [rg 0 [(0, bo)], rg 1 [(2, kb h0)]] <| bT rfl <| go [] [] <| rt h) fun h0 h =>
  go [] [rg 0 [(0, bo)], rg 1 [(2, kb h0)]] <| br h (fun h1 h => go [] [] <| rt h) fun h1 h =>
  go [3] [] <| jn (wj85x1 h)
/-! armature armatureref04.take -/
def R79 (y0 : T_api_Type × Int) : D := .tup [.agg (row_T_api_Type y0.1), .int .i64 y0.2]
def j79x1 (t0 : Int × Int) : Option (Ctl (Int × Int) ((Int × Int))) :=
  (some (IntKind.wrap .i64 (t0.2 + (1 : Int)))).bind fun v3 =>
  (some (IntKind.wrap .i64 (t0.1 + (1 : Int)))).bind fun v4 =>
  some (.next (v4, v3))
def l79x1 (x0 : List UInt8) (t0 : Int × Int) : Option (Ctl (Int × Int) ((Int × Int))) :=
  if (decide (t0.1 < (x0.length : Int))) = true then ((getS x0 t0.1).bind fun v2 =>
  if (v2 == 91) = true then
    ((j79x1 t0) ) else
  (some (.done ((t0.2, t0.1))))) else
  (some (.done ((t0.2, t0.1))))
def l79x2 (x0 : List UInt8) (t1 : Int) : Option (Ctl (Int) (Int)) :=
  if (decide (t1 < (x0.length : Int))) = true then ((getS x0 t1).bind fun v9 =>
  if (v9 != 59) = true then
    ((some (IntKind.wrap .i64 (t1 + (1 : Int)))).bind fun v10 =>
    some (.next v10)) else
  (some (.done (t1)))) else
  (some (.done (t1)))
def j79x2 (q0 : (Int × Int)) (v5 : Int) (p0 : List UInt8) (p1 : Int) : Option (T_api_Type × Int) :=
  (m_armatureref04_Valid ({ f_Dim := q0.1, f_Base := v5, f_Name := p0 } : T_api_Type)).bind fun v13 =>
  if (!v13) = true then
    (some (({ f_Dim := 0, f_Base := 0, f_Name := [] } : T_api_Type), (-1))) else
  (some (({ f_Dim := q0.1, f_Base := v5, f_Name := p0 } : T_api_Type), p1))
def m_armatureref04_take (x0 : List UInt8) (x1 : Int) : Option (T_api_Type × Int) :=
  (loopM (l79x1 x0) rounds (x1, 0)).bind fun q0 =>
  if (decide (q0.2 ≥ (x0.length : Int))) = true then
    (some (({ f_Dim := 0, f_Base := 0, f_Name := [] } : T_api_Type), (-1))) else
  ((getS x0 q0.2).bind fun v5 =>
    (some (IntKind.wrap .i64 (q0.2 + (1 : Int)))).bind fun v6 =>
    if (v5 == 76) = true then
      ((loopM (l79x2 x0) rounds v6).bind fun q2 =>
      if (decide (q2 ≥ (x0.length : Int))) = true then
        (some (({ f_Dim := 0, f_Base := 0, f_Name := [] } : T_api_Type), (-1))) else
      ((sub x0 v6 q2).bind fun v11 =>
        (some (IntKind.wrap .i64 (q2 + (1 : Int)))).bind fun v12 =>
        (j79x2 q0 v5) v11 v12)) else
    ((j79x2 q0 v5) [] v6))
def st79x1 (x0 : List UInt8) : (Int × Int) → SL :=
  fun t0 => ⟨70, [(0, .str x0), (1, dI t0.1), (4, .lptr 4 0 0), (6, .lptr 6 0 0)], [(4, { sz := 3, rows := [[dI 0, d8 0, .str []]], frz := 0, pure := false }), (6, { sz := 3, rows := [[dI t0.2, d8 0, .str []]], frz := 0, pure := false })]⟩
def J79x1 (x0 : List UInt8) : JT ((Int × Int)) :=
  je 0 fun q0 : Int × Int => ⟨70, [(0, .str x0), (1, dI q0.2), (4, .lptr 4 0 0), (6, .lptr 6 0 0)], [(4, { sz := 3, rows := [[dI 0, d8 0, .str []]], frz := 0, pure := false }), (6, { sz := 3, rows := [[dI q0.1, d8 0, .str []]], frz := 0, pure := false })]⟩
theorem wj79x1 (x0 : List UInt8) {t0 : Int × Int} {r : Ctl (Int × Int) ((Int × Int))} {Γ : Ctx} (h : (j79x1 t0)  = some r) : Jn Try.prog Try.f79 Γ (Rd (st79x1 x0) (J79x1 x0) r) 291 ⟨70, [(0, .str x0), (1, dI t0.1), (4, .lptr 4 0 0), (6, .lptr 6 0 0)], [(4, { sz := 3, rows := [[dI 0, d8 0, .str []]], frz := 0, pure := false }), (6, { sz := 3, rows := [[dI t0.2, d8 0, .str []]], frz := 0, pure := false })]⟩ :=
  so <| bd h fun v3 e3 h => bd h fun v4 e4 h => go [] [rg 3 [(2, n e3)], rg 4 [(1, n e4)]] <| nx h
theorem wl79x1 {x0 : List UInt8} {t0 : Int × Int} {r : Ctl (Int × Int) ((Int × Int))} {Γ : Ctx} (h : (l79x1 x0) t0 = some r) : A Try.prog Γ (lpC Try.f79 19) [] (Rd (st79x1 x0) (J79x1 x0) r) ((st79x1 x0) t0).s :=
  sp h (fun h2 h => bd h fun v2 e2 h => go [] [rg 2 [(3, kb h2), (7, ib e2)]] <| br h (fun h3 h => go [3] [] <| jn ((wj79x1 x0) h)) fun h3 h =>
  go [] [] <| dn h (iE)) fun h2 h =>
  go [] [rg 2 [(3, kb h2)]] <| bF rfl <| go [] [] <| dn h (iE)
def st79x2 (q0 : (Int × Int)) (v5 v6 : Int) (x0 : List UInt8) : Int → SL :=
  fun t1 => ⟨70, [(0, .str x0), (1, dI t1), (4, .lptr 4 0 0), (6, .lptr 6 0 0), (7, dI v6)], [(4, { sz := 3, rows := [[dI 0, d8 0, .str []]], frz := 0, pure := false }), (6, { sz := 3, rows := [[dI q0.1, d8 v5, .str []]], frz := 0, pure := false })]⟩
def J79x2 (q0 : (Int × Int)) (v5 v6 : Int) (x0 : List UInt8) : JT Int :=
  je 2 fun q2 : Int => ⟨70, [(0, .str x0), (1, dI q2), (4, .lptr 4 0 0), (6, .lptr 6 0 0), (7, dI v6)], [(4, { sz := 3, rows := [[dI 0, d8 0, .str []]], frz := 0, pure := false }), (6, { sz := 3, rows := [[dI q0.1, d8 v5, .str []]], frz := 0, pure := false })]⟩
theorem wl79x2 (q0 : (Int × Int)) (v5 v6 : Int) {x0 : List UInt8} {t1 : Int} {r : Ctl (Int) (Int)} {Γ : Ctx} (h : (l79x2 x0) t1 = some r) : A Try.prog Γ (lpC Try.f79 4799) [] (Rd (st79x2 q0 v5 v6 x0) (J79x2 q0 v5 v6 x0) r) ((st79x2 q0 v5 v6 x0) t1).s :=
  sp h (fun h8 h => bd h fun v9 e10 h => go [] [rg 11 [(3, kb h8), (7, ib e10)]] <| br h (fun h9 h => bd h fun v10 e11 h => go [] [rg 12 [(1, n e11)]] <| nx h) fun h9 h =>
  go [] [] <| dn h (iE)) fun h8 h =>
  go [] [rg 11 [(3, kb h8)]] <| bF rfl <| go [] [] <| dn h (iE)
theorem wj79x2 {q0 : (Int × Int)} {v5 : Int} {p0 : List UInt8} {p1 : Int} {r : T_api_Type × Int} {Γ : Ctx} (h : (j79x2 q0 v5) p0 p1 = some r) : Jn Try.prog Try.f79 Γ (Den.Ends Try.prog Try.f79 (R79 r)) 639 ⟨70, [(1, dI p1), (4, .lptr 4 0 0), (6, .lptr 6 0 0)], [(4, { sz := 3, rows := [[dI 0, d8 0, .str []]], frz := 0, pure := false }), (6, { sz := 3, rows := [[dI q0.1, d8 v5, .str p0]], frz := 0, pure := false })]⟩ :=
  so <| bd h fun v13 e15 h => go [] [rg 17 [(1, k (w85 e15))]] <| br h (fun h11 h => go [] [] <| rt h) fun h11 h =>
  go [] [] <| rt h
theorem w79 {x0 : List UInt8} {x1 : Int} {r : T_api_Type × Int} (h : m_armatureref04_take x0 x1 = some r) : CallSpec Try.prog 79 [.str x0, dI x1] (R79 r) :=
  cs Try.f79 <| go [] [] <| bd h fun q0 e5 h => lp e5 wl79x1 <| qe <| goN [] [] <| br h (fun h4 h => go [] [] <| rt h) fun h4 h =>
  bd h fun v5 e6 h => bd h fun v6 e7 h => go [] [rg 7 [(2, ib e6)], rg 8 [(1, n e7)]] <| br h (fun h5 h => go [] [] <| bd h fun q2 e12 h => lp e12 (wl79x2 q0 v5 v6) <| qe <| goN [] [] <| br h (fun h10 h => go [] [] <| rt h) fun h10 h =>
      bd h fun v11 e13 h => bd h fun v12 e14 h => go [17] [rg 15 [(3, ss e13)], rg 16 [(1, n e14)]] <| jn (wj79x2 h)) fun h5 h =>
    go [17] [] <| jn (wj79x2 h)
/-! armature armatureref04.Parse -/
def R70 (y0 : T_api_Type × Int) : D := .tup [.agg (row_T_api_Type y0.1), .int .i64 y0.2]
def m_armatureref04_Parse (x0 : List UInt8) : Option (T_api_Type × Int) :=
  (m_armatureref04_take x0 0).bind fun v0 =>
  if (v0.2 != (x0.length : Int)) = true then
    (some (({ f_Dim := 0, f_Base := 0, f_Name := [] } : T_api_Type), 13)) else
  (some (v0.1, 0))
theorem w70 {x0 : List UInt8} {r : T_api_Type × Int} (h : m_armatureref04_Parse x0 = some r) : CallSpec Try.prog 70 [.str x0] (R70 r) :=
  cs Try.f70 <| bd h fun v0 e0 h => go [] [rg 1 [(1, k (w79 e0))]] <| br h (fun h0 h => go [] [] <| rt h) fun h0 h =>
  go [] [] <| rt h
/-! armature armatureref04.ParseClassConstant -/
def R55 (y0 : T_api_Type × Int) : D := .tup [.agg (row_T_api_Type y0.1), .int .i64 y0.2]
def j55x1 (x0 : List UInt8) : Option (T_api_Type × Int) :=
  (m_armatureref04_Parse x0).bind fun v2 =>
  some (v2.1, v2.2)
def m_armatureref04_ParseClassConstant (x0 : List UInt8) : Option (T_api_Type × Int) :=
  (m_armatureref03_IsClassName x0).bind fun v0 =>
  if v0 = true then
    (some (({ f_Dim := 0, f_Base := 76, f_Name := x0 } : T_api_Type), 0)) else
  (if (x0 == ([] : List UInt8)) = true then (some (({ f_Dim := 0, f_Base := 0, f_Name := [] } : T_api_Type), 13)) else
    ((getS x0 0).bind fun v1 =>
    if (v1 != 91) = true then
      (some (({ f_Dim := 0, f_Base := 0, f_Name := [] } : T_api_Type), 13)) else
    ((j55x1 x0) )))
theorem wj55x1 {x0 : List UInt8} {r : T_api_Type × Int} {Γ : Ctx} (h : (j55x1 x0)  = some r) : Jn Try.prog Try.f55 Γ (Den.Ends Try.prog Try.f55 (R55 r)) 23 ⟨20, [(0, .str x0), (2, .lptr 2 0 0)], [(2, { sz := 3, rows := [[dI 0, d8 0, .str []]], frz := 0, pure := false })]⟩ :=
  so <| bd h fun v2 e2 h => go [] [rg 5 [(1, k (w70 e2))]] <| rt h
theorem w55 {x0 : List UInt8} {r : T_api_Type × Int} (h : m_armatureref04_ParseClassConstant x0 = some r) : CallSpec Try.prog 55 [.str x0] (R55 r) :=
  cs Try.f55 <| bd h fun v0 e0 h => go [] [rg 1 [(1, k (w69 e0))]] <| br h (fun h0 h => go [] [] <| rt h) fun h0 h =>
  sp h (fun h1 h => go [] [rg 3 [(1, kb h1)]] <| bT rfl <| go [] [] <| rt h) fun h1 h =>
    bd h fun v1 e1 h => go [] [rg 3 [(1, kb h1), (4, ib e1)]] <| br h (fun h2 h => go [] [] <| rt h) fun h2 h =>
    go [5] [] <| jn (wj55x1 h)
/-! armature armatureref03.IsMemberName -/
def R56 (y0 : Bool) : D := .bool y0
def m_armatureref03_IsMemberName (x0 : List UInt8) : Option (Bool) :=
  if (x0 == ([60, 105, 110, 105, 116, 62] : List UInt8)) = true then (some true) else
  (if (x0 == ([60, 99, 108, 105, 110, 105, 116, 62] : List UInt8)) = true then (some true) else
    (if (decide ((x0.length : Int) ≤ 64)) = true then ((m_armatureref03_part x0).bind fun v0 =>
        some v0) else
      (some false)))
theorem w56 {x0 : List UInt8} {r : Bool} (h : m_armatureref03_IsMemberName x0 = some r) : CallSpec Try.prog 56 [.str x0] (R56 r) :=
  cs Try.f56 <| go [1] [] <| po <| pr 3 [] <| sp h (fun h0 h => pr 13 [(3, gs0 h0), (4, gs0 h0), (5, py h0)] <| pe <| goN [] [] <| rt h) fun h0 h =>
  pr 4 [(3, gw h0 g0), (4, gw h0 g0), (5, pn h0)] <| sp h (fun h1 h => pr 9 [(7, gs0 h1), (8, gs0 h1), (9, gs0 h1), (10, gs0 h1), (13, gs0 h1), (14, py h1)] <| pe <| goN [] [] <| rt h) fun h1 h =>
    pr 4 [(7, gw h1 g0), (8, gw h1 g0), (9, gw h1 g0), (10, gw h1 g0)] <| sp h (fun h2 h => bd h fun v0 e0 h => pr 5 [(11, gw h2 g0), (12, gw h2 (k (w71 e0))), (13, gw h1 (py h2)), (14, pn h1)] <| pe <| goN [] [] <| rt h) fun h2 h =>
      pr 5 [(11, gs1 h2), (12, gs1 h2), (13, gw h1 (pn h2)), (14, pn h1)] <| pe <| goN [] [] <| rt h
/-! armature armatureref04.ParseSignature -/
def R72 (y0 : T_api_Sig × Int) : D := .tup [.agg (row_T_api_Sig y0.1), .int .i64 y0.2]
def j72x3 (t0 : Int × (List T_api_Type)) (v8 : T_api_Type × Int) : Option (Ctl (Int × (List T_api_Type)) (((List T_api_Type) × Int) ⊕ (T_api_Sig × Int))) :=
  (growK 32 (t0.2 ++ [v8.1]).length).bind fun v9 =>
  some (.next (v8.2, (t0.2 ++ [v8.1])))
def j72x2 (t0 : Int × (List T_api_Type)) (x0 : List UInt8) : Option (Ctl (Int × (List T_api_Type)) (((List T_api_Type) × Int) ⊕ (T_api_Sig × Int))) :=
  (m_armatureref04_take x0 t0.1).bind fun v8 =>
  if (decide (v8.2 < 0)) = true then (some (.done (.inr (({ f_Params := ([] : List T_api_Type), f_Result := ({ f_Dim := 0, f_Base := 0, f_Name := [] } : T_api_Type) } : T_api_Sig), 13)))) else
  (if (v8.1.f_Base == 86) = true then
    (some (.done (.inr (({ f_Params := ([] : List T_api_Type), f_Result := ({ f_Dim := 0, f_Base := 0, f_Name := [] } : T_api_Type) } : T_api_Sig), 13)))) else
  ((j72x3 t0 v8) ))
def l72x1 (x0 : List UInt8) (t0 : Int × (List T_api_Type)) : Option (Ctl (Int × (List T_api_Type)) (((List T_api_Type) × Int) ⊕ (T_api_Sig × Int))) :=
  if (decide (t0.1 < (x0.length : Int))) = true then ((getS x0 t0.1).bind fun v7 =>
  if (v7 != 41) = true then
    ((j72x2 t0 x0) ) else
  (some (.done (.inl ((t0.2, t0.1)))))) else
  (some (.done (.inl ((t0.2, t0.1)))))
def j72x1 (x0 : List UInt8) : Option (T_api_Sig × Int) :=
  (loopM (l72x1 x0) rounds (1, ([] : List T_api_Type))).bind fun q1 =>
  match q1 with
  | .inl q0 => (if (decide (q0.2 ≥ (x0.length : Int))) = true then
      (some (({ f_Params := ([] : List T_api_Type), f_Result := ({ f_Dim := 0, f_Base := 0, f_Name := [] } : T_api_Type) } : T_api_Sig), 13)) else
    ((some (IntKind.wrap .i64 (q0.2 + (1 : Int)))).bind fun v10 =>
      (m_armatureref04_take x0 v10).bind fun v11 =>
      if (v11.2 != (x0.length : Int)) = true then
        (some (({ f_Params := ([] : List T_api_Type), f_Result := ({ f_Dim := 0, f_Base := 0, f_Name := [] } : T_api_Type) } : T_api_Sig), 13)) else
      (if (decide ((q0.1.length : Int) > 16)) = true then
          (some (({ f_Params := ([] : List T_api_Type), f_Result := ({ f_Dim := 0, f_Base := 0, f_Name := [] } : T_api_Type) } : T_api_Sig), 5)) else
        (some (({ f_Params := q0.1, f_Result := v11.1 } : T_api_Sig), 0)))))
  | .inr y0 => (some y0)
def m_armatureref04_ParseSignature (x0 : List UInt8) : Option (T_api_Sig × Int) :=
  if (x0 == ([] : List UInt8)) = true then (some (({ f_Params := ([] : List T_api_Type), f_Result := ({ f_Dim := 0, f_Base := 0, f_Name := [] } : T_api_Type) } : T_api_Sig), 13)) else
  ((getS x0 0).bind fun v0 =>
  if (v0 != 40) = true then
    (some (({ f_Params := ([] : List T_api_Type), f_Result := ({ f_Dim := 0, f_Base := 0, f_Name := [] } : T_api_Type) } : T_api_Sig), 13)) else
  ((j72x1 x0) ))
def st72x1 (x0 : List UInt8) : (Int × (List T_api_Type)) → SL :=
  fun t0 => ⟨75, [(0, .str x0), (2, .lptr 2 0 0), (4, .lptr 4 0 0), (5, dI t0.1)], [(2, { sz := 4, rows := [[.sl true (([] : List T_api_Type).map row_T_api_Type), dI 0, d8 0, .str []]], frz := 0, pure := false }), (4, { sz := 4, rows := [[.lsl 1004 0 ((t0.2.map row_T_api_Type).length), dI 0, d8 0, .str []]], frz := 0, pure := false }), (1004, { sz := 3, rows := (t0.2.map row_T_api_Type), frz := 0, pure := true })]⟩
def J72x1 (x0 : List UInt8) : JT (((List T_api_Type) × Int) ⊕ (T_api_Sig × Int)) :=
  ju (je 0 fun q0 : (List T_api_Type) × Int => ⟨75, [(0, .str x0), (2, .lptr 2 0 0), (4, .lptr 4 0 0), (5, dI q0.2)], [(2, { sz := 4, rows := [[.sl true (([] : List T_api_Type).map row_T_api_Type), dI 0, d8 0, .str []]], frz := 0, pure := false }), (4, { sz := 4, rows := [[.lsl 1004 0 ((q0.1.map row_T_api_Type).length), dI 0, d8 0, .str []]], frz := 0, pure := false }), (1004, { sz := 3, rows := (q0.1.map row_T_api_Type), frz := 0, pure := true })]⟩) (jr Try.prog Try.f72 R72)
theorem wj72x3 (x0 : List UInt8) {t0 : Int × (List T_api_Type)} {v8 : T_api_Type × Int} {r : Ctl (Int × (List T_api_Type)) (((List T_api_Type) × Int) ⊕ (T_api_Sig × Int))} {Γ : Ctx} (h : (j72x3 t0 v8)  = some r) : Jn Try.prog Try.f72 Γ (Rd (st72x1 x0) (J72x1 x0) r) 5775 ⟨75, [(0, .str x0), (2, .lptr 2 0 0), (4, .lptr 4 0 0), (6, .lptr 6 0 0), (7, dI v8.2)], [(2, { sz := 4, rows := [[.sl true (([] : List T_api_Type).map row_T_api_Type), dI 0, d8 0, .str []]], frz := 0, pure := false }), (4, { sz := 4, rows := [[.lsl 1004 0 ((t0.2.map row_T_api_Type).length), dI 0, d8 0, .str []]], frz := 0, pure := false }), (6, { sz := 3, rows := [row_T_api_Type v8.1], frz := 0, pure := false }), (1004, { sz := 3, rows := (t0.2.map row_T_api_Type), frz := 0, pure := true })]⟩ :=
  so <| bd h fun v9 e9 h => go [] [rg 9 [(3, br0 1 3), (4, ap e9)]] <| nx h
theorem wj72x2 {t0 : Int × (List T_api_Type)} {x0 : List UInt8} {r : Ctl (Int × (List T_api_Type)) (((List T_api_Type) × Int) ⊕ (T_api_Sig × Int))} {Γ : Ctx} (h : (j72x2 t0 x0)  = some r) : Jn Try.prog Try.f72 Γ (Rd (st72x1 x0) (J72x1 x0) r) 1167 ⟨75, [(0, .str x0), (2, .lptr 2 0 0), (4, .lptr 4 0 0), (5, dI t0.1)], [(2, { sz := 4, rows := [[.sl true (([] : List T_api_Type).map row_T_api_Type), dI 0, d8 0, .str []]], frz := 0, pure := false }), (4, { sz := 4, rows := [[.lsl 1004 0 ((t0.2.map row_T_api_Type).length), dI 0, d8 0, .str []]], frz := 0, pure := false }), (1004, { sz := 3, rows := (t0.2.map row_T_api_Type), frz := 0, pure := true })]⟩ :=
  so <| bd h fun v8 e8 h => sp h (fun h12 h => go [] [rg 6 [(2, k (w79 e8))], rg 7 [(1, kb h12)]] <| bT rfl <| go [] [] <| dn h (i2 iR)) fun h12 h =>
  go [] [rg 6 [(2, k (w79 e8))], rg 7 [(1, kb h12)]] <| br h (fun h13 h => go [] [] <| dn h (i2 iR)) fun h13 h =>
  go [9] [] <| jn ((wj72x3 x0) h)
theorem wl72x1 {x0 : List UInt8} {t0 : Int × (List T_api_Type)} {r : Ctl (Int × (List T_api_Type)) (((List T_api_Type) × Int) ⊕ (T_api_Sig × Int))} {Γ : Ctx} (h : (l72x1 x0) t0 = some r) : A Try.prog Γ (lpC Try.f72 79) [] (Rd (st72x1 x0) (J72x1 x0) r) ((st72x1 x0) t0).s :=
  sp h (fun h10 h => bd h fun v7 e7 h => go [] [rg 5 [(3, kb h10), (7, ib e7)]] <| br h (fun h11 h => go [6] [] <| jn (wj72x2 h)) fun h11 h =>
  go [] [] <| dn h (i1 iE)) fun h10 h =>
  go [] [rg 5 [(3, kb h10)]] <| bF rfl <| go [] [] <| dn h (i1 iE)
theorem wj72x1 {x0 : List UInt8} {r : T_api_Sig × Int} {Γ : Ctx} (h : (j72x1 x0)  = some r) : Jn Try.prog Try.f72 Γ (Den.Ends Try.prog Try.f72 (R72 r)) 11 ⟨75, [(0, .str x0), (2, .lptr 2 0 0)], [(2, { sz := 4, rows := [[.sl true (([] : List T_api_Type).map row_T_api_Type), dI 0, d8 0, .str []]], frz := 0, pure := false })]⟩ :=
  so <| go [] [] <| bd h fun q1 e10 h => lp (cv := [.blk 4 0 1004 3]) e10 wl72x1 <| match q1, h with
  | .inl q0, h => j1 <| (qe <| goN [] [] <| br h (fun h14 h => go [] [] <| rt h) fun h14 h =>
    bd h fun v10 e11 h => bd h fun v11 e12 h => go [] [rg 13 [(2, n e11), (3, k (w79 e12))]] <| br h (fun h15 h => go [] [] <| rt h) fun h15 h =>
      go [] [rg 16 [(2, ln q0.1)]] <| br h (fun h16 h => go [] [] <| rt h) fun h16 h =>
        go [] [] <| rtB h (.tup [.agg [rw_ q0.1, dI v11.1.f_Dim, d8 v11.1.f_Base, .str v11.1.f_Name], dI 0]) (a2 (a2 (rpI q0.1) (a2 trivial (a2 trivial (a2 trivial trivial)))) (a2 trivial trivial)) (by simp only [rwE] <;> kernel_rfl))
  | .inr y0, h => j2 <| (qr h)
theorem w72 {x0 : List UInt8} {r : T_api_Sig × Int} (h : m_armatureref04_ParseSignature x0 = some r) : CallSpec Try.prog 72 [.str x0] (R72 r) :=
  cs Try.f72 <| sp h (fun h0 h => go [] [rg 1 [(1, kb h0)]] <| bT rfl <| go [] [] <| rt h) fun h0 h =>
  bd h fun v0 e0 h => go [] [rg 1 [(1, kb h0), (4, ib e0)]] <| br h (fun h1 h => go [] [] <| rt h) fun h1 h =>
  go [3] [] <| jn (wj72x1 h)
/-! armature armatureref05.descriptor -/
def R57 (y0 : Bool) : D := .bool y0
def m_armatureref05_descriptor (x0 : List UInt8) : Option (Bool) :=
  (m_armatureref04_Parse x0).bind fun v0 =>
  if (v0.2 == 0) = true then
    (some (v0.1.f_Base != 86)) else
  ((m_armatureref04_ParseSignature x0).bind fun v1 =>
    some (v1.2 == 0))
theorem w57 {x0 : List UInt8} {r : Bool} (h : m_armatureref05_descriptor x0 = some r) : CallSpec Try.prog 57 [.str x0] (R57 r) :=
  cs Try.f57 <| bd h fun v0 e0 h => go [] [rg 1 [(1, k (w70 e0))]] <| br h (fun h0 h => go [] [] <| rt h) fun h0 h =>
  bd h fun v1 e1 h => go [] [rg 4 [(1, k (w72 e1))]] <| rt h
/-! armature armatureref05.NameAndType -/
def R58 (y0 : (List UInt8) × (List UInt8) × Int) : D := .tup [.str y0.1, .str y0.2.1, .int .i64 y0.2.2]
def m_armatureref05_NameAndType (x0 : List T_api_Const) (x1 : Int) : Option ((List UInt8) × (List UInt8) × Int) :=
  (m_armatureref05_get x0 x1 12).bind fun v0 =>
  if (v0.2 != 0) = true then
    (some ([], [], v0.2)) else
  ((m_armatureref05_UTF8 x0 v0.1.f_A).bind fun v1 =>
    if (v1.2 != 0) = true then
      (some ([], [], v1.2)) else
    ((m_armatureref05_UTF8 x0 v0.1.f_B).bind fun v2 =>
      if (v2.2 != 0) = true then
        (some ([], [], v2.2)) else
      (some (v1.1, v2.1, 0))))
theorem w58 {x0 : List T_api_Const} {x1 : Int} {r : (List UInt8) × (List UInt8) × Int} (h : m_armatureref05_NameAndType x0 x1 = some r) : CallSpec Try.prog 58 [.sl false (x0.map row_T_api_Const), dI x1] (R58 r) :=
  cs Try.f58 <| bd h fun v0 e0 h => go [] [rg 1 [(2, k (w68 e0))]] <| br h (fun h0 h => go [] [] <| rt h) fun h0 h =>
  bd h fun v1 e1 h => go [] [rg 4 [(3, k (w54 e1))]] <| br h (fun h1 h => go [] [] <| rt h) fun h1 h =>
    bd h fun v2 e2 h => go [] [rg 7 [(3, k (w54 e2))]] <| br h (fun h2 h => go [] [] <| rt h) fun h2 h =>
      go [] [] <| rt h
/-! armature armatureref05.named -/
def R59 (y0 : Int) : D := .int .i64 y0
def m_armatureref05_named (x0 : Int) (x1 x2 : List UInt8) : Option (Int) :=
  (m_armatureref04_ParseSignature x2).bind fun v0 =>
  if ((v0.2 == 0) == (x0 == 9)) = true then
    (some 13) else
  (if (x0 == 9) = true then
      (if (decide ((x1.length : Int) > 0)) = true then ((getS x1 0).bind fun v1 =>
      if (v1 == 60) = true then
        (some 12) else
      (some 0)) else
      (some 0)) else
    (if (x1 == ([60, 99, 108, 105, 110, 105, 116, 62] : List UInt8)) = true then (some 12) else
      (if (x1 == ([60, 105, 110, 105, 116, 62] : List UInt8)) = true then (if (x0 == 11) = true then (some 12) else
          (if (v0.1.f_Result.f_Base != 86) = true then
              (some 12) else
            (some 0))) else
        (some 0))))
theorem w59 {x0 : Int} {x1 x2 : List UInt8} {r : Int} (h : m_armatureref05_named x0 x1 x2 = some r) : CallSpec Try.prog 59 [dI x0, .str x1, .str x2] (R59 r) :=
  cs Try.f59 <| bd h fun v0 e0 h => go [] [rg 1 [(1, k (w72 e0))]] <| br h (fun h0 h => go [] [] <| rt h) fun h0 h =>
  go [] [] <| br h (fun h1 h => sp h (fun h2 h => bd h fun v1 e1 h => go [] [rg 5 [(2, kb h2), (5, ib e1)]] <| br h (fun h3 h => go [] [] <| rt h) fun h3 h =>
      go [] [] <| rt h) fun h2 h =>
      go [] [rg 5 [(2, kb h2)]] <| bF rfl <| go [] [] <| rt h) fun h1 h =>
    go [8] [] <| po <| pr 3 [] <| sp h (fun h4 h => pr 13 [(3, gs0 h4), (4, gs0 h4), (5, gs0 h4), (14, gs0 h4), (15, py h4)] <| pe <| goN [] [] <| bT rfl <| go [] [] <| rt h) fun h4 h =>
      pr 3 [(3, gw h4 g0), (4, gw h4 g0), (5, gw h4 g0)] <| sp h (fun h5 h => pr 3 [(6, gw h5 g0), (7, gw h5 g0), (8, gw h5 g0)] <| sp h (fun h6 h => pr 7 [(9, gs0 h6), (10, gs0 h6), (11, gs0 h6), (12, gs0 h6), (13, gw h5 (py h6)), (14, gw h4 (py h5)), (15, pn h4)] <| pe <| goN [] [] <| bT rfl <| go [] [] <| rt h) fun h6 h =>
          pr 7 [(9, gw h6 g0), (10, gw h6 g0), (11, gw h6 g0), (12, gw h6 g0), (13, gw h5 (pn h6)), (14, gw h4 (py h5)), (15, pn h4)] <| pe <| goN [] [] <| br h (fun h7 h => go [] [] <| rt h) fun h7 h =>
            go [] [] <| rt h) fun h5 h =>
        pr 10 [(6, gs1 h5), (7, gs1 h5), (8, gs1 h5), (13, gs1 h5), (14, gw h4 (pn h5)), (15, pn h4)] <| pe <| goN [] [] <| bF rfl <| go [] [] <| rt h
/-! armature armatureref05.contents -/
def R41 (y0 : Int) : D := .int .i64 y0
def j41x2 (x0 : List T_api_Const) (x1 : T_api_Const) : Option (Int) :=
  (m_armatureref05_member x1.f_Tag).bind fun v6 =>
  if v6 = true then
    ((m_armatureref05_NameAndType x0 x1.f_B).bind fun v7 =>
    if (v7.2.2 == 0) = true then
      ((m_armatureref05_named x1.f_Tag v7.1 v7.2.1).bind fun v8 =>
      some v8) else
    (some 0)) else
  (some 0)
def j41x1 (x0 : List T_api_Const) (x1 : T_api_Const) : Option (Int) :=
  if (x1.f_Tag == 12) = true then
    ((m_armatureref05_UTF8 x0 x1.f_A).bind fun v2 =>
    (m_armatureref05_UTF8 x0 x1.f_B).bind fun v3 =>
    (m_armatureref03_IsMemberName v2.1).bind fun v4 =>
    if (!v4) = true then
      (some 12) else
    ((m_armatureref05_descriptor v3.1).bind fun v5 =>
      if (!v5) = true then
        (some 13) else
      ((j41x2 x0 x1) ))) else
  ((j41x2 x0 x1) )
def m_armatureref05_contents (x0 : List T_api_Const) (x1 : T_api_Const) : Option (Int) :=
  if (x1.f_Tag == 7) = true then
    ((m_armatureref05_UTF8 x0 x1.f_A).bind fun v0 =>
    (m_armatureref04_ParseClassConstant v0.1).bind fun v1 =>
    if (v1.2 != 0) = true then
      (some 13) else
    ((j41x1 x0 x1) )) else
  ((j41x1 x0 x1) )
theorem wj41x2 {x0 : List T_api_Const} {x1 : T_api_Const} {r : Int} {Γ : Ctx} (h : (j41x2 x0 x1)  = some r) : Jn Try.prog Try.f41 Γ (Den.Ends Try.prog Try.f41 (R41 r)) 39 ⟨74, [(0, .sl false (x0.map row_T_api_Const)), (3, .ptr (row_T_api_Const x1))], []⟩ :=
  so <| bd h fun v6 e6 h => go [] [rg 13 [(2, k (w52 e6))]] <| br h (fun h5 h => bd h fun v7 e7 h => go [] [rg 14 [(3, k (w58 e7))]] <| br h (fun h6 h => bd h fun v8 e8 h => go [] [rg 16 [(4, k (w59 e8))]] <| rt h) fun h6 h =>
    go [] [] <| rt h) fun h5 h =>
  go [] [] <| rt h
theorem wj41x1 {x0 : List T_api_Const} {x1 : T_api_Const} {r : Int} {Γ : Ctx} (h : (j41x1 x0 x1)  = some r) : Jn Try.prog Try.f41 Γ (Den.Ends Try.prog Try.f41 (R41 r)) 19 ⟨74, [(0, .sl false (x0.map row_T_api_Const)), (3, .ptr (row_T_api_Const x1))], []⟩ :=
  so <| go [] [] <| br h (fun h2 h => bd h fun v2 e2 h => bd h fun v3 e3 h => bd h fun v4 e4 h => go [] [rg 7 [(3, k (w54 e2))], rg 8 [(3, k (w54 e3))], rg 9 [(1, k (w56 e4))]] <| br h (fun h3 h => go [] [] <| rt h) fun h3 h =>
    bd h fun v5 e5 h => go [] [rg 11 [(1, k (w57 e5))]] <| br h (fun h4 h => go [] [] <| rt h) fun h4 h =>
      go [13] [] <| jn (wj41x2 h)) fun h2 h =>
  go [13] [] <| jn (wj41x2 h)
theorem w41 {x0 : List T_api_Const} {x1 : T_api_Const} {r : Int} (h : m_armatureref05_contents x0 x1 = some r) : CallSpec Try.prog 41 [.sl false (x0.map row_T_api_Const), .agg (row_T_api_Const x1)] (R41 r) :=
  cs Try.f41 <| go [] [rg 0 [(0, bo)]] <| br h (fun h0 h => bd h fun v0 e0 h => bd h fun v1 e1 h => go [] [rg 2 [(3, k (w54 e0))], rg 3 [(1, k (w55 e1))]] <| br h (fun h1 h => go [] [] <| rt h) fun h1 h =>
    go [6] [] <| jn (wj41x1 h)) fun h0 h =>
  go [6] [] <| jn (wj41x1 h)
/-! armature armatureref05.checkConst -/
def R26 (y0 : Int) : D := .int .i64 y0
def j26x2 (x0 : List T_api_Const) (x1 : T_api_Const) : Option (Int) :=
  (m_armatureref05_both x0 x1).bind fun v2 =>
  if (v2 != 0) = true then
    (some v2) else
  ((m_armatureref05_contents x0 x1).bind fun v3 =>
    some v3)
def j26x1 (x0 : List T_api_Const) (x1 : T_api_Const) : Option (Int) :=
  if (x1.f_Tag == 1) = true then (some 0) else
  (if (x1.f_Tag == 3) = true then (some 0) else
    (if (x1.f_Tag == 5) = true then
        (some 0) else
      ((j26x2 x0 x1) )))
def m_armatureref05_checkConst (x0 : List T_api_Const) (x1 : T_api_Const) : Option (Int) :=
  (m_armatureref05_Known x1.f_Tag).bind fun v0 =>
  if (!v0) = true then
    (some 11) else
  ((m_armatureref05_formed x1).bind fun v1 =>
    if (!v1) = true then
      (some 4) else
    (if (x1.f_Tag == 1) = true then (if (decide ((x1.f_S.length : Int) > 1024)) = true then (some 8) else
        (if (x1.f_Tag == 3) = true then (if (decide (x1.f_N < (-2147483648))) = true then (some 8) else
            (if (decide (x1.f_N > 2147483647)) = true then
                (some 8) else
              ((j26x1 x0 x1) ))) else
          ((j26x1 x0 x1) ))) else
      (if (x1.f_Tag == 3) = true then (if (decide (x1.f_N < (-2147483648))) = true then (some 8) else
          (if (decide (x1.f_N > 2147483647)) = true then
              (some 8) else
            ((j26x1 x0 x1) ))) else
        ((j26x1 x0 x1) ))))
theorem wj26x2 {x0 : List T_api_Const} {x1 : T_api_Const} {r : Int} {Γ : Ctx} (h : (j26x2 x0 x1)  = some r) : Jn Try.prog Try.f26 Γ (Den.Ends Try.prog Try.f26 (R26 r)) 159 ⟨59, [(0, .sl false (x0.map row_T_api_Const)), (3, .ptr (row_T_api_Const x1))], []⟩ :=
  so <| bd h fun v2 e2 h => go [] [rg 9 [(2, k (w40 e2))]] <| br h (fun h13 h => go [] [] <| rt h) fun h13 h =>
  bd h fun v3 e3 h => go [] [rg 12 [(2, k (w41 e3))]] <| rt h
theorem wj26x1 {x0 : List T_api_Const} {x1 : T_api_Const} {r : Int} {Γ : Ctx} (h : (j26x1 x0 x1)  = some r) : Jn Try.prog Try.f26 Γ (Den.Ends Try.prog Try.f26 (R26 r)) 79 ⟨59, [(0, .sl false (x0.map row_T_api_Const)), (3, .ptr (row_T_api_Const x1))], []⟩ :=
  po <| pr 4 [] <| sp h (fun h10 h => pr 9 [(4, gs0 h10), (5, gs0 h10), (6, gs0 h10), (7, py h10)] <| pe <| goN [] [] <| bT rfl <| go [] [] <| rt h) fun h10 h =>
  pr 5 [(4, gw h10 g0), (5, gw h10 g0), (6, gw h10 g0), (7, pn h10)] <| sp h (fun h11 h => pr 4 [(9, gs0 h11), (10, gs0 h11), (11, gs0 h11), (12, py h11)] <| pe <| goN [] [] <| bT rfl <| go [] [] <| rt h) fun h11 h =>
    pr 4 [(9, gw h11 g0), (10, gw h11 g0), (11, gw h11 g0), (12, pn h11)] <| pe <| goN [] [] <| br h (fun h12 h => go [] [] <| rt h) fun h12 h =>
      go [9] [] <| jn (wj26x2 h)
theorem w26 {x0 : List T_api_Const} {x1 : T_api_Const} {r : Int} (h : m_armatureref05_checkConst x0 x1 = some r) : CallSpec Try.prog 26 [.sl false (x0.map row_T_api_Const), .agg (row_T_api_Const x1)] (R26 r) :=
  cs Try.f26 <| bd h fun v0 e0 h => go [] [rg 0 [(0, bo)], rg 1 [(2, k (w38 e0))]] <| br h (fun h0 h => go [] [] <| rt h) fun h0 h =>
  bd h fun v1 e1 h => go [] [rg 3 [(1, k (w39 e1))]] <| br h (fun h1 h => go [] [] <| rt h) fun h1 h =>
    go [5] [] <| po <| pr 4 [] <| sp h (fun h2 h => pr 6 [(4, gw h2 g0), (5, gw h2 g0), (6, gw h2 g0), (7, gw h2 g0), (8, py h2)] <| sp h (fun h3 h => pr 14 [(10, gs0 h3), (11, gs0 h3), (12, gs0 h3), (13, gs0 h3), (22, gs0 h3), (23, py h3)] <| pe <| goN [] [] <| bT rfl <| go [] [] <| rt h) fun h3 h =>
        pr 4 [(10, gw h3 g0), (11, gw h3 g0), (12, gw h3 g0), (13, gw h3 g0)] <| sp h (fun h4 h => pr 4 [(14, gw h4 g0), (15, gw h4 g0), (16, gw h4 g0), (17, gw h4 g0)] <| sp h (fun h5 h => pr 6 [(18, gs0 h5), (19, gs0 h5), (20, gs0 h5), (21, gw h4 (py h5)), (22, gw h3 (py h4)), (23, pn h3)] <| pe <| goN [] [] <| bT rfl <| go [] [] <| rt h) fun h5 h =>
            pr 6 [(18, gw h5 g0), (19, gw h5 g0), (20, gw h5 g0), (21, gw h4 (pn h5)), (22, gw h3 (py h4)), (23, pn h3)] <| pe <| goN [] [] <| br h (fun h6 h => go [] [] <| rt h) fun h6 h =>
              go [7] [] <| jn (wj26x1 h)) fun h4 h =>
          pr 10 [(14, gs1 h4), (15, gs1 h4), (16, gs1 h4), (17, gs1 h4), (21, gs1 h4), (22, gw h3 (pn h4)), (23, pn h3)] <| pe <| goN [] [] <| bF rfl <| go [7] [] <| jn (wj26x1 h)) fun h2 h =>
      pr 10 [(4, gs1 h2), (5, gs1 h2), (6, gs1 h2), (7, gs1 h2), (8, pn h2)] <| sp h (fun h7 h => pr 4 [(14, gw h7 g0), (15, gw h7 g0), (16, gw h7 g0), (17, gw h7 g0)] <| sp h (fun h8 h => pr 6 [(18, gs0 h8), (19, gs0 h8), (20, gs0 h8), (21, gw h7 (py h8)), (22, py h7)] <| pe <| goN [] [] <| bT rfl <| go [] [] <| rt h) fun h8 h =>
          pr 6 [(18, gw h8 g0), (19, gw h8 g0), (20, gw h8 g0), (21, gw h7 (pn h8)), (22, py h7)] <| pe <| goN [] [] <| br h (fun h9 h => go [] [] <| rt h) fun h9 h =>
            go [7] [] <| jn (wj26x1 h)) fun h7 h =>
        pr 10 [(14, gs1 h7), (15, gs1 h7), (16, gs1 h7), (17, gs1 h7), (21, gs1 h7), (22, pn h7)] <| pe <| goN [] [] <| bF rfl <| go [7] [] <| jn (wj26x1 h)
/-! armature armatureref05.Check -/
def R14 (y0 : Int × Int) : D := .tup [.int .i64 y0.1, .int .i64 y0.2]
def l14x1 (x0 : List T_api_Const) (t0 : Int) : Option (Ctl (Int) (Unit ⊕ (Int × Int))) :=
  if (decide (t0 < (x0.length : Int))) = true then
    ((getR x0 t0).bind fun v2 =>
    (m_armatureref05_checkConst x0 v2).bind fun v3 =>
    if (v3 != 0) = true then
      ((some (IntKind.wrap .i64 (t0 + (1 : Int)))).bind fun v4 =>
      some (.done (.inr (v4, v3)))) else
    ((some (IntKind.wrap .i64 (t0 + (1 : Int)))).bind fun v5 =>
      some (.next v5))) else
  (some (.done (.inl (()))))
def m_armatureref05_Check (x0 : List T_api_Const) : Option (Int × Int) :=
  if (decide ((x0.length : Int) > 1000)) = true then
    (some (0, 5)) else
  ((loopM (l14x1 x0) rounds 0).bind fun q1 =>
    match q1 with
    | .inl q0 => (some (0, 0))
    | .inr y0 => (some y0))
def st14x1 (x0 : List T_api_Const) : Int → SL :=
  fun t0 => ⟨26, [(0, .sl false (x0.map row_T_api_Const)), (4, dI t0)], []⟩
def J14x1  : JT (Unit ⊕ (Int × Int)) :=
  ju (je 0 fun q0 : Unit => ⟨26, [], []⟩) (jr Try.prog Try.f14 R14)
theorem wl14x1 {x0 : List T_api_Const} {t0 : Int} {r : Ctl (Int) (Unit ⊕ (Int × Int))} {Γ : Ctx} (h : (l14x1 x0) t0 = some r) : A Try.prog Γ (lpC Try.f14 43) [] (Rd (st14x1 x0) J14x1 r) ((st14x1 x0) t0).s :=
  go [] [rg 4 [(2, ln x0)]] <| br h (fun h3 h => bd h fun v2 e2 h => bd h fun v3 e3 h => go [] [rg 6 [(3, ix e2), (5, k (w26 e3))]] <| br h (fun h4 h => bd h fun v4 e4 h => go [] [rg 8 [(1, n e4)]] <| dn h (i2 iR)) fun h4 h =>
    bd h fun v5 e5 h => go [] [rg 5 [(1, n e5)]] <| nx h) fun h3 h =>
  go [] [] <| dn h (i1 iE)
theorem w14 {x0 : List T_api_Const} {r : Int × Int} (h : m_armatureref05_Check x0 = some r) : CallSpec Try.prog 14 [.sl false (x0.map row_T_api_Const)] (R14 r) :=
  cs Try.f14 <| go [] [rg 1 [(1, ln x0)]] <| br h (fun h0 h => go [] [] <| rt h) fun h0 h =>
  go [] [] <| bd h fun q1 e6 h => lp e6 wl14x1 <| match q1, h with
    | .inl q0, h => j1 <| (qe <| goN [] [] <| rt h)
    | .inr y0, h => j2 <| (qr h)
/-! armature armatureref02.sized -/
def R30 (y0 : Bool) : D := .bool y0
def m_armatureref02_sized (x0 : Int) : Option (Bool) :=
  if (x0 == 1) = true then (some true) else
  (if (x0 == 2) = true then (some true) else
    (if (x0 == 4) = true then (some true) else
      (some (x0 == 8))))
theorem w30 {x0 : Int} {r : Bool} (h : m_armatureref02_sized x0 = some r) : CallSpec Try.prog 30 [dI x0] (R30 r) :=
  cs Try.f30 <| go [1] [] <| po <| pr 3 [] <| sp h (fun h0 h => pr 12 [(3, gs0 h0), (4, gs0 h0), (5, py h0)] <| pe <| goN [] [] <| rt h) fun h0 h =>
  pr 4 [(3, gw h0 g0), (4, gw h0 g0), (5, pn h0)] <| sp h (fun h1 h => pr 8 [(7, gs0 h1), (8, gs0 h1), (9, py h1)] <| pe <| goN [] [] <| rt h) fun h1 h =>
    pr 4 [(7, gw h1 g0), (8, gw h1 g0), (9, pn h1)] <| sp h (fun h2 h => pr 4 [(11, gs0 h2), (12, gs0 h2), (13, py h2)] <| pe <| goN [] [] <| rt h) fun h2 h =>
      pr 4 [(11, gw h2 g0), (12, gw h2 g0), (13, pn h2)] <| pe <| goN [] [] <| rt h
/-! armature armatureref02.Put -/
def R20 (y0 : (List UInt8) × Int) : D := .tup [.str y0.1, .int .i64 y0.2]
def l20x1 (t0 : Int × Int × (List Int)) : Option (Ctl (Int × Int × (List Int)) (((List Int)))) :=
  if (decide (t0.2.1 ≥ 0)) = true then
    ((some (andK .i64 t0.1 (255 : Int))).bind fun v16 =>
    (some (IntKind.wrap .u8 v16)).bind fun v17 =>
    (idxK t0.2.1 t0.2.2.length).bind fun v18 =>
    (t0.2.2[v18]?).bind fun v19 =>
    (shrK .i64 t0.1 (8 : Int)).bind fun v20 =>
    (some (IntKind.wrap .i64 (t0.2.1 - (1 : Int)))).bind fun v21 =>
    some (.next (v20, v21, (t0.2.2.set v18 v17)))) else
  (some (.done (t0.2.2)))
def j20x1 (x0 x1 : Int) : Option ((List UInt8) × Int) :=
  (makeK 1 x1 x1).bind fun v8 =>
  (some (IntKind.wrap .i64 (x1 - (1 : Int)))).bind fun v9 =>
  (loopM l20x1 rounds (x0, v9, (List.replicate x1.toNat 0))).bind fun q0 =>
  some ((bytesOf q0), 0)
def m_armatureref02_Put (x0 x1 : Int) : Option ((List UInt8) × Int) :=
  (m_armatureref02_sized x1).bind fun v0 =>
  if (!v0) = true then
    (some ([], 1)) else
  (if (decide (x1 < 8)) = true then ((some (IntKind.wrap .i64 ((8 : Int) * x1))).bind fun v1 =>
      (some (IntKind.wrap .i64 (v1 - (1 : Int)))).bind fun v2 =>
      (shlK .i64 (1 : Int) v2).bind fun v3 =>
      (some (IntKind.wrap .i64 (0 - v3))).bind fun v4 =>
      if (decide (x0 < v4)) = true then (some ([], 8)) else
      ((some (IntKind.wrap .i64 ((8 : Int) * x1))).bind fun v5 =>
        (shlK .i64 (1 : Int) v5).bind fun v6 =>
        (some (IntKind.wrap .i64 (v6 - (1 : Int)))).bind fun v7 =>
        if (decide (x0 > v7)) = true then
          (some ([], 8)) else
        ((j20x1 x0 x1) ))) else
    ((j20x1 x0 x1) ))
def st20x1  : (Int × Int × (List Int)) → SL :=
  fun t0 => ⟨50, [(6, .lsl 6 0 ((t0.2.2.map rU8).length)), (7, dI t0.1), (8, dI t0.2.1)], [(6, { sz := 1, rows := (t0.2.2.map rU8), frz := 0, pure := true })]⟩
def J20x1  : JT (((List Int))) :=
  je 0 fun q0 : (List Int) => ⟨50, [(6, .lsl 6 0 ((q0.map rU8).length))], [(6, { sz := 1, rows := (q0.map rU8), frz := 0, pure := true })]⟩
theorem wl20x1 {t0 : Int × Int × (List Int)} {r : Ctl (Int × Int × (List Int)) (((List Int)))} {Γ : Ctx} (h : l20x1 t0 = some r) : A Try.prog Γ (lpC Try.f20 351) [] (Rd st20x1 J20x1 r) (st20x1 t0).s :=
  go [] [] <| br h (fun h5 h => bd h fun v16 e16 h => bd h fun v17 e17 h => bd h fun v18 e18 h => bd h fun v19 e19 h => go [11] [rg 10 [(3, n e16), (4, n8 e17), (5, ia (R := RU8) 6 e18), (6, st (R := RU8) e19 0 [d8 v17] v17)]] <| nm (congrArg (fun nn : Nat => (⟨50, [(6, .lsl 6 0 nn), (7, dI t0.1), (8, dI t0.2.1)], [(6, { sz := 1, rows := ((t0.2.2.set v18 v17).map rU8), frz := 0, pure := true })]⟩ : SL)) (by simp only [List.length_map, List.length_set] : (t0.2.2.map rU8).length = ((t0.2.2.set v18 v17).map rU8).length)) <| so <| bd h fun v20 e20 h => bd h fun v21 e21 h => go [] [rg 11 [(1, sr e20)], rg 9 [(1, n e21)]] <| nx h) fun h5 h =>
  go [] [] <| dn h (iE)
theorem wj20x1 {x0 x1 : Int} {r : (List UInt8) × Int} {Γ : Ctx} (h : (j20x1 x0 x1)  = some r) : Jn Try.prog Try.f20 Γ (Den.Ends Try.prog Try.f20 (R20 r)) 23 ⟨50, [(0, dI x0), (1, dI x1)], []⟩ :=
  so <| bd h fun v8 e8 h => bd h fun v9 e9 h => go [] [rg 5 [(1, mk (R := RU8) (0 : Int) e8)], rg 7 [(1, n e9)]] <| bd h fun q0 e22 h => lp (ps := [(32, 6)]) e22 wl20x1 <| qe <| goN [] [rg 12 [(1, bsB q0)]] <| rt h
theorem w20 {x0 x1 : Int} {r : (List UInt8) × Int} (h : m_armatureref02_Put x0 x1 = some r) : CallSpec Try.prog 20 [dI x0, dI x1] (R20 r) :=
  cs Try.f20 <| bd h fun v0 e0 h => go [] [rg 1 [(1, k (w30 e0))]] <| br h (fun h0 h => go [] [] <| rt h) fun h0 h =>
  go [3] [] <| po <| pr 3 [] <| sp h (fun h1 h => bd h fun v1 e1 h => bd h fun v2 e2 h => bd h fun v3 e3 h => bd h fun v4 e4 h => pr 8 [(3, gw h1 g0), (4, gw h1 g0), (5, gw h1 (n e1)), (6, gw h1 (n e2)), (7, gw h1 (sl e3)), (8, gw h1 (n e4)), (9, gw h1 g0), (10, gw h1 g0)] <| sp h (fun h2 h => pr 8 [(11, gs0 h2), (12, gs0 h2), (13, gs0 h2), (14, gs0 h2), (15, gs0 h2), (16, gs0 h2), (17, gw h1 (py h2)), (18, py h1)] <| pe <| goN [] [] <| bT rfl <| go [] [] <| rt h) fun h2 h =>
      bd h fun v5 e5 h => bd h fun v6 e6 h => bd h fun v7 e7 h => pr 8 [(11, gw h2 g0), (12, gw h2 g0), (13, gw h2 (n e5)), (14, gw h2 (sl e6)), (15, gw h2 (n e7)), (16, gw h2 g0), (17, gw h1 (pn h2)), (18, py h1)] <| pe <| goN [] [] <| br h (fun h3 h => go [] [] <| rt h) fun h3 h =>
        go [5] [] <| jn (wj20x1 h)) fun h1 h =>
    pr 16 [(3, gs1 h1), (4, gs1 h1), (5, gs1 h1), (6, gs1 h1), (7, gs1 h1), (8, gs1 h1), (9, gs1 h1), (10, gs1 h1), (17, gs1 h1), (18, pn h1)] <| pe <| goN [] [] <| bF rfl <| go [5] [] <| jn (wj20x1 h)
/-! armature armatureref02.PutString -/
def R31 (y0 : (List UInt8) × Int) : D := .tup [.str y0.1, .int .i64 y0.2]
def m_armatureref02_PutString (x0 : List UInt8) : Option ((List UInt8) × Int) :=
  (m_armatureref02_Put (x0.length : Int) 2).bind fun v0 =>
  if (v0.2 != 0) = true then
    (some ([], v0.2)) else
  ((catK v0.1 x0).bind fun v1 =>
    some (v1, 0))
theorem w31 {x0 : List UInt8} {r : (List UInt8) × Int} (h : m_armatureref02_PutString x0 = some r) : CallSpec Try.prog 31 [.str x0] (R31 r) :=
  cs Try.f31 <| bd h fun v0 e0 h => go [] [rg 1 [(2, k (w20 e0))]] <| br h (fun h0 h => go [] [] <| rt h) fun h0 h =>
  bd h fun v1 e1 h => go [] [rg 4 [(2, ct e1)]] <| rt h
/-! armature armatureref06.one -/
def R21 (y0 : (List UInt8)) : D := .str y0
def j21x3 (v0 : (List UInt8) × Int) (x0 : T_api_Const) : Option ((List UInt8)) :=
  (m_armatureref02_Put x0.f_A 2).bind fun v18 =>
  (catK v0.1 v18.1).bind fun v19 =>
  (catK v19 ([] : List UInt8)).bind fun v20 =>
  (catK v20 ([] : List UInt8)).bind fun v21 =>
  some v21
def j21x2 (v0 : (List UInt8) × Int) (x0 : T_api_Const) : Option ((List UInt8)) :=
  (m_armatureref02_Put x0.f_A 2).bind fun v13 =>
  (m_armatureref02_Put x0.f_B 2).bind fun v14 =>
  (catK v0.1 ([] : List UInt8)).bind fun v15 =>
  (catK v15 v13.1).bind fun v16 =>
  (catK v16 v14.1).bind fun v17 =>
  some v17
def j21x1 (v0 : (List UInt8) × Int) (x0 : T_api_Const) : Option ((List UInt8)) :=
  if (x0.f_Tag == 8) = true then
    ((j21x3 v0 x0) ) else
  ((j21x2 v0 x0) )
def m_armatureref06_one (x0 : T_api_Const) : Option ((List UInt8)) :=
  (m_armatureref02_Put x0.f_Tag 1).bind fun v0 =>
  if (x0.f_Tag == 1) = true then
    ((m_armatureref02_PutString x0.f_S).bind fun v1 =>
    (catK v0.1 v1.1).bind fun v2 =>
    (catK v2 ([] : List UInt8)).bind fun v3 =>
    (catK v3 ([] : List UInt8)).bind fun v4 =>
    some v4) else
  (if (x0.f_Tag == 3) = true then
      ((m_armatureref02_Put x0.f_N 4).bind fun v5 =>
      (catK v0.1 v5.1).bind fun v6 =>
      (catK v6 ([] : List UInt8)).bind fun v7 =>
      (catK v7 ([] : List UInt8)).bind fun v8 =>
      some v8) else
    (if (x0.f_Tag == 5) = true then
        ((m_armatureref02_Put x0.f_N 8).bind fun v9 =>
        (catK v0.1 v9.1).bind fun v10 =>
        (catK v10 ([] : List UInt8)).bind fun v11 =>
        (catK v11 ([] : List UInt8)).bind fun v12 =>
        some v12) else
      (if (x0.f_Tag == 7) = true then
          ((j21x3 v0 x0) ) else
        ((j21x1 v0 x0) ))))
theorem wj21x3 {v0 : (List UInt8) × Int} {x0 : T_api_Const} {r : (List UInt8)} {Γ : Ctx} (h : (j21x3 v0 x0)  = some r) : Jn Try.prog Try.f21 Γ (Den.Ends Try.prog Try.f21 (R21 r)) 24535 ⟨68, [(1, .ptr (row_T_api_Const x0)), (3, .str v0.1), (6, .str []), (7, .str [])], []⟩ :=
  so <| bd h fun v18 e18 h => bd h fun v19 e19 h => bd h fun v20 e20 h => bd h fun v21 e21 h => go [] [rg 14 [(2, k (w20 e18))], rg 15 [(2, ct e19), (4, ct e20), (6, ct e21)]] <| rt h
theorem wj21x2 {v0 : (List UInt8) × Int} {x0 : T_api_Const} {r : (List UInt8)} {Γ : Ctx} (h : (j21x2 v0 x0)  = some r) : Jn Try.prog Try.f21 Γ (Den.Ends Try.prog Try.f21 (R21 r)) 49111 ⟨68, [(1, .ptr (row_T_api_Const x0)), (3, .str v0.1), (5, .str [])], []⟩ :=
  so <| bd h fun v13 e13 h => bd h fun v14 e14 h => bd h fun v15 e15 h => bd h fun v16 e16 h => bd h fun v17 e17 h => go [] [rg 4 [(2, k (w20 e13))], rg 5 [(2, k (w20 e14))], rg 15 [(2, ct e15), (4, ct e16), (6, ct e17)]] <| rt h
theorem wj21x1 {v0 : (List UInt8) × Int} {x0 : T_api_Const} {r : (List UInt8)} {Γ : Ctx} (h : (j21x1 v0 x0)  = some r) : Jn Try.prog Try.f21 Γ (Den.Ends Try.prog Try.f21 (R21 r)) 16343 ⟨68, [(1, .ptr (row_T_api_Const x0)), (3, .str v0.1), (5, .str []), (6, .str []), (7, .str []), (52, .bool (x0.f_Tag == 8))], []⟩ (x0.f_Tag == 8) :=
  br h (fun h4 h => go [14] [] <| jn (wj21x3 h)) fun h4 h =>
  go [4] [] <| jn (wj21x2 h)
theorem w21 {x0 : T_api_Const} {r : (List UInt8)} (h : m_armatureref06_one x0 = some r) : CallSpec Try.prog 21 [.agg (row_T_api_Const x0)] (R21 r) :=
  cs Try.f21 <| bd h fun v0 e0 h => go [] [rg 0 [(0, bo)], rg 1 [(2, k (w20 e0))]] <| br h (fun h0 h => bd h fun v1 e1 h => bd h fun v2 e2 h => bd h fun v3 e3 h => bd h fun v4 e4 h => go [] [rg 7 [(2, k (w31 e1))], rg 15 [(2, ct e2), (4, ct e3), (6, ct e4)]] <| rt h) fun h0 h =>
  go [] [] <| br h (fun h1 h => bd h fun v5 e5 h => bd h fun v6 e6 h => bd h fun v7 e7 h => bd h fun v8 e8 h => go [] [rg 9 [(2, k (w20 e5))], rg 15 [(2, ct e6), (4, ct e7), (6, ct e8)]] <| rt h) fun h1 h =>
    go [] [] <| br h (fun h2 h => bd h fun v9 e9 h => bd h fun v10 e10 h => bd h fun v11 e11 h => bd h fun v12 e12 h => go [] [rg 11 [(2, k (w20 e9))], rg 15 [(2, ct e10), (4, ct e11), (6, ct e12)]] <| rt h) fun h2 h =>
      go [] [] <| br h (fun h3 h => go [] [] <| bT h3 <| go [14] [] <| jn (wj21x3 h)) fun h3 h =>
        go [] [] <| jn (wj21x1 h)
/-! armature armatureref06.Encode -/
def R10 (y0 : (List UInt8) × Int) : D := .tup [.str y0.1, .int .i64 y0.2]
def l10x1 (x0 : List T_api_Const) (t0 : (List UInt8) × Int) : Option (Ctl ((List UInt8) × Int) (((List UInt8)))) :=
  if (decide (t0.2 < (x0.length : Int))) = true then
    ((getR x0 t0.2).bind fun v5 =>
    (m_armatureref06_one v5).bind fun v6 =>
    (catK t0.1 v6).bind fun v7 =>
    (some (IntKind.wrap .i64 (t0.2 + (1 : Int)))).bind fun v8 =>
    some (.next (v7, v8))) else
  (some (.done (t0.1)))
def m_armatureref06_Encode (x0 : List T_api_Const) : Option ((List UInt8) × Int) :=
  (m_armatureref05_Check x0).bind fun v0 =>
  if (v0.2 != 0) = true then
    (some ([], v0.2)) else
  ((m_armatureref02_Put (x0.length : Int) 2).bind fun v1 =>
    (loopM (l10x1 x0) rounds (v1.1, 0)).bind fun q0 =>
    some (q0, 0))
def st10x1 (x0 : List T_api_Const) : ((List UInt8) × Int) → SL :=
  fun t0 => ⟨37, [(0, .sl false (x0.map row_T_api_Const)), (6, .str t0.1), (8, dI t0.2)], []⟩
def J10x1  : JT (((List UInt8))) :=
  je 0 fun q0 : (List UInt8) => ⟨37, [(6, .str q0)], []⟩
theorem wl10x1 {x0 : List T_api_Const} {t0 : (List UInt8) × Int} {r : Ctl ((List UInt8) × Int) (((List UInt8)))} {Γ : Ctx} (h : (l10x1 x0) t0 = some r) : A Try.prog Γ (lpC Try.f10 175) [] (Rd (st10x1 x0) J10x1 r) ((st10x1 x0) t0).s :=
  go [] [rg 6 [(2, ln x0)]] <| br h (fun h2 h => bd h fun v5 e5 h => bd h fun v6 e6 h => bd h fun v7 e7 h => bd h fun v8 e8 h => go [] [rg 8 [(3, ix e5), (5, k (w21 e6)), (6, ct e7)], rg 7 [(1, n e8)]] <| nx h) fun h2 h =>
  go [] [] <| dn h (iE)
theorem w10 {x0 : List T_api_Const} {r : (List UInt8) × Int} (h : m_armatureref06_Encode x0 = some r) : CallSpec Try.prog 10 [.sl false (x0.map row_T_api_Const)] (R10 r) :=
  cs Try.f10 <| bd h fun v0 e0 h => go [] [rg 1 [(1, k (w14 e0))]] <| br h (fun h0 h => go [] [] <| rt h) fun h0 h =>
  bd h fun v1 e1 h => go [] [rg 4 [(1, ln x0), (2, k (w20 e1))]] <| bd h fun q0 e9 h => lp e9 wl10x1 <| qe <| goN [] [] <| rt h
/-! armature armaturelaw06.PoolcodeEncode -/
def R3 (y0 : Bool) : D := .bool y0
def m_armaturelaw06_PoolcodeEncode (x0 : List T_api_Const) : Option (Bool) :=
  (m_armaturelaw06_few x0).bind fun v0 =>
  if (!v0) = true then
    ((m_armaturelaw06_awake).bind fun v1 =>
    some v1) else
  ((m_poolcode_Encode x0).bind fun v2 =>
    (m_armatureref06_Encode x0).bind fun v3 =>
    (m_armaturelaw06_awake).bind fun v4 =>
    if v4 = true then (if (v2.1 == v3.1) = true then (some (v2.2 == v3.2)) else
      (some false)) else
    (some false))
theorem w3 {x0 : List T_api_Const} {r : Bool} (h : m_armaturelaw06_PoolcodeEncode x0 = some r) : CallSpec Try.prog 3 [.sl false (x0.map row_T_api_Const)] (R3 r) :=
  cs Try.f3 <| bd h fun v0 e0 h => go [] [rg 1 [(1, k (w7 e0))]] <| br h (fun h0 h => bd h fun v1 e1 h => go [] [rg 2 [(0, k (w8 e1))]] <| rt h) fun h0 h =>
  bd h fun v2 e2 h => bd h fun v3 e3 h => go [5] [rg 3 [(1, k (w9 e2))], rg 4 [(1, k (w10 e3))]] <| po <| bd h fun v4 e4 h => pr 2 [(0, k (w8 e4))] <| sp h (fun h1 h => pr 5 [(2, gw h1 g0), (3, gw h1 g0), (4, gw h1 g0), (5, py h1)] <| sp h (fun h2 h => pr 5 [(7, gw h2 g0), (8, gw h2 g0), (9, gw h2 g0), (10, py h2)] <| pe <| goN [] [] <| rt h) fun h2 h =>
      pr 5 [(7, gs1 h2), (8, gs1 h2), (9, gs1 h2), (10, pn h2)] <| pe <| goN [] [] <| rt h) fun h1 h =>
    pr 10 [(2, gs1 h1), (3, gs1 h1), (4, gs1 h1), (5, pn h1)] <| pe <| goN [] [] <| rt h
/-! armature armatureref02.there -/
def R51 (y0 : Int) : D := .int .i64 y0
def j51x1 (x0 : List UInt8) (x1 x2 : Int) : Option (Int) :=
  (some (IntKind.wrap .i64 ((x0.length : Int) - x1))).bind fun v1 =>
  if (decide (v1 < x2)) = true then
    (some 3) else
  (some 0)
def m_armatureref02_there (x0 : List UInt8) (x1 x2 : Int) : Option (Int) :=
  (m_armatureref02_sized x2).bind fun v0 =>
  if (!v0) = true then
    (some 1) else
  (if (decide (x1 < 0)) = true then (some 2) else
    (if (decide (x1 > (x0.length : Int))) = true then
      (some 2) else
    ((j51x1 x0 x1 x2) )))
theorem wj51x1 {x0 : List UInt8} {x1 x2 : Int} {r : Int} {Γ : Ctx} (h : (j51x1 x0 x1 x2)  = some r) : Jn Try.prog Try.f51 Γ (Den.Ends Try.prog Try.f51 (R51 r)) 39 ⟨24, [(0, .str x0), (1, dI x1), (2, dI x2)], []⟩ :=
  so <| bd h fun v1 e1 h => go [] [rg 5 [(3, n e1)]] <| br h (fun h3 h => go [] [] <| rt h) fun h3 h =>
  go [] [] <| rt h
theorem w51 {x0 : List UInt8} {x1 x2 : Int} {r : Int} (h : m_armatureref02_there x0 x1 x2 = some r) : CallSpec Try.prog 51 [.str x0, dI x1, dI x2] (R51 r) :=
  cs Try.f51 <| bd h fun v0 e0 h => go [] [rg 1 [(1, k (w30 e0))]] <| br h (fun h0 h => go [] [] <| rt h) fun h0 h =>
  sp h (fun h1 h => go [] [rg 3 [(1, kb h1)]] <| bT rfl <| go [] [] <| rt h) fun h1 h =>
    go [] [rg 3 [(1, kb h1)]] <| br h (fun h2 h => go [] [] <| rt h) fun h2 h =>
    go [5] [] <| jn (wj51x1 h)
/-! armature armatureref02.Signed -/
def R36 (y0 : Int × Int) : D := .tup [.int .i64 y0.1, .int .i64 y0.2]
def l36x1 (x0 : List UInt8) (x1 x2 : Int) (t0 : Int × Int) : Option (Ctl (Int × Int) (Int)) :=
  if (decide (t0.2 < x2)) = true then
    ((some (IntKind.wrap .i64 (t0.1 * (256 : Int)))).bind fun v9 =>
    (some (IntKind.wrap .i64 (x1 + t0.2))).bind fun v10 =>
    (getS x0 v10).bind fun v11 =>
    (some (IntKind.wrap .i64 v11)).bind fun v12 =>
    (some (IntKind.wrap .i64 (v9 + v12))).bind fun v13 =>
    (some (IntKind.wrap .i64 (t0.2 + (1 : Int)))).bind fun v14 =>
    some (.next (v13, v14))) else
  (some (.done (t0.1)))
def j36x1 (x0 : List UInt8) (x1 x2 p0 : Int) : Option (Int × Int) :=
  (loopM (l36x1 x0 x1 x2) rounds (p0, 1)).bind fun q0 =>
  some (q0, 0)
def m_armatureref02_Signed (x0 : List UInt8) (x1 x2 : Int) : Option (Int × Int) :=
  (m_armatureref02_there x0 x1 x2).bind fun v0 =>
  if (v0 != 0) = true then
    (some (0, v0)) else
  ((getS x0 x1).bind fun v1 =>
    (some (IntKind.wrap .i64 v1)).bind fun v2 =>
    if (decide (v2 > 127)) = true then
      ((some (IntKind.wrap .i64 (v2 - (256 : Int)))).bind fun v3 =>
      (j36x1 x0 x1 x2) v3) else
    ((j36x1 x0 x1 x2) v2))
def st36x1 (x0 : List UInt8) (x1 x2 : Int) : (Int × Int) → SL :=
  fun t0 => ⟨41, [(0, .str x0), (1, dI x1), (2, dI x2), (9, dI t0.1), (10, dI t0.2)], []⟩
def J36x1  : JT Int :=
  je 0 fun q0 : Int => ⟨41, [(9, dI q0)], []⟩
theorem wl36x1 {x0 : List UInt8} {x1 x2 : Int} {t0 : Int × Int} {r : Ctl (Int × Int) (Int)} {Γ : Ctx} (h : (l36x1 x0 x1 x2) t0 = some r) : A Try.prog Γ (lpC Try.f36 175) [] (Rd (st36x1 x0 x1 x2) J36x1 r) ((st36x1 x0 x1 x2) t0).s :=
  go [] [] <| br h (fun h3 h => bd h fun v9 e9 h => bd h fun v10 e10 h => bd h fun v11 e11 h => bd h fun v12 e12 h => bd h fun v13 e13 h => bd h fun v14 e14 h => go [] [rg 10 [(1, n e9), (5, n e10), (6, ib e11), (7, n e12), (8, n e13)], rg 9 [(1, n e14)]] <| nx h) fun h3 h =>
  go [] [] <| dn h (iE)
theorem wj36x1 {x0 : List UInt8} {x1 x2 p0 : Int} {r : Int × Int} {Γ : Ctx} (h : (j36x1 x0 x1 x2) p0 = some r) : Jn Try.prog Try.f36 Γ (Den.Ends Try.prog Try.f36 (R36 r)) 79 ⟨41, [(0, .str x0), (1, dI x1), (2, dI x2), (9, dI p0)], []⟩ :=
  so <| go [] [] <| bd h fun q0 e15 h => lp e15 wl36x1 <| qe <| goN [] [] <| rt h
theorem w36 {x0 : List UInt8} {x1 x2 : Int} {r : Int × Int} (h : m_armatureref02_Signed x0 x1 x2 = some r) : CallSpec Try.prog 36 [.str x0, dI x1, dI x2] (R36 r) :=
  cs Try.f36 <| bd h fun v0 e0 h => go [] [rg 1 [(3, k (w51 e0))]] <| br h (fun h0 h => go [] [] <| rt h) fun h0 h =>
  bd h fun v1 e1 h => bd h fun v2 e2 h => go [] [rg 4 [(2, ib e1), (3, n e2)]] <| br h (fun h1 h => bd h fun v3 e3 h => go [7] [rg 6 [(1, n e3)]] <| jn (wj36x1 h)) fun h1 h =>
    go [7] [] <| jn (wj36x1 h)
/-! armature armatureref02.Unsigned -/
def R35 (y0 : Int × Int) : D := .tup [.int .i64 y0.1, .int .i64 y0.2]
def j35x1 (v0 : Int × Int) (x2 : Int) : Option (Int × Int) :=
  (some (IntKind.wrap .i64 ((8 : Int) * x2))).bind fun v1 =>
  (shlK .i64 (1 : Int) v1).bind fun v2 =>
  (some (IntKind.wrap .i64 (v0.1 + v2))).bind fun v3 =>
  some (v3, v0.2)
def m_armatureref02_Unsigned (x0 : List UInt8) (x1 x2 : Int) : Option (Int × Int) :=
  (m_armatureref02_Signed x0 x1 x2).bind fun v0 =>
  if (v0.2 == 0) = true then (if (decide (x2 < 8)) = true then (if (decide (v0.1 < 0)) = true then
        ((j35x1 v0 x2) ) else
      (some (v0.1, v0.2))) else
    (some (v0.1, v0.2))) else
  (some (v0.1, v0.2))
theorem wj35x1 {v0 : Int × Int} {x2 : Int} {r : Int × Int} {Γ : Ctx} (h : (j35x1 v0 x2)  = some r) : Jn Try.prog Try.f35 Γ (Den.Ends Try.prog Try.f35 (R35 r)) 43 ⟨34, [(2, dI x2), (8, dI v0.1), (9, dI v0.2)], []⟩ :=
  so <| bd h fun v1 e1 h => bd h fun v2 e2 h => bd h fun v3 e3 h => go [] [rg 3 [(2, n e1), (3, sl e2), (4, n e3)]] <| rt h
theorem w35 {x0 : List UInt8} {x1 x2 : Int} {r : Int × Int} (h : m_armatureref02_Unsigned x0 x1 x2 = some r) : CallSpec Try.prog 35 [.str x0, dI x1, dI x2] (R35 r) :=
  cs Try.f35 <| bd h fun v0 e0 h => go [2] [rg 1 [(3, k (w36 e0))]] <| po <| pr 3 [] <| sp h (fun h0 h => pr 4 [(3, gw h0 g0), (4, gw h0 g0), (5, py h0)] <| sp h (fun h1 h => pr 3 [(7, gw h1 g0), (8, gw h1 g0), (9, py h1)] <| pe <| goN [] [] <| br h (fun h2 h => go [3] [] <| jn (wj35x1 h)) fun h2 h =>
      go [] [] <| rt h) fun h1 h =>
    pr 3 [(7, gs1 h1), (8, gs1 h1), (9, pn h1)] <| pe <| goN [] [] <| bF rfl <| go [] [] <| rt h) fun h0 h =>
  pr 7 [(3, gs1 h0), (4, gs1 h0), (5, pn h0)] <| pe <| goN [] [] <| bF rfl <| go [] [] <| rt h
/-! armature armatureref06.number -/
def R24 (y0 : Int × Int × Int) : D := .tup [.int .i64 y0.1, .int .i64 y0.2.1, .int .i64 y0.2.2]
def j24x1 (x1 x2 p0 p1 : Int) : Option (Int × Int × Int) :=
  if (p1 != 0) = true then
    (some (0, 0, 3)) else
  ((some (IntKind.wrap .i64 (x1 + x2))).bind fun v2 =>
    some (p0, v2, 0))
def m_armatureref06_number (x0 : List UInt8) (x1 x2 : Int) (x3 : Bool) : Option (Int × Int × Int) :=
  (m_armatureref02_Unsigned x0 x1 x2).bind fun v0 =>
  if x3 = true then
    ((m_armatureref02_Signed x0 x1 x2).bind fun v1 =>
    (j24x1 x1 x2) v1.1 v1.2) else
  ((j24x1 x1 x2) v0.1 v0.2)
theorem wj24x1 {x1 x2 p0 p1 : Int} {r : Int × Int × Int} {Γ : Ctx} (h : (j24x1 x1 x2) p0 p1 = some r) : Jn Try.prog Try.f24 Γ (Den.Ends Try.prog Try.f24 (R24 r)) 39 ⟨34, [(1, dI x1), (2, dI x2), (11, dI p0), (12, dI p1)], []⟩ :=
  so <| go [] [] <| br h (fun h1 h => go [] [] <| rt h) fun h1 h =>
  bd h fun v2 e2 h => go [] [rg 6 [(3, n e2)]] <| rt h
theorem w24 {x0 : List UInt8} {x1 x2 : Int} {x3 : Bool} {r : Int × Int × Int} (h : m_armatureref06_number x0 x1 x2 x3 = some r) : CallSpec Try.prog 24 [.str x0, dI x1, dI x2, .bool x3] (R24 r) :=
  cs Try.f24 <| bd h fun v0 e0 h => go [] [rg 1 [(3, k (w35 e0))]] <| br h (fun h0 h => bd h fun v1 e1 h => go [4] [rg 3 [(3, k (w36 e1))]] <| jn (wj24x1 h)) fun h0 h =>
  go [4] [] <| jn (wj24x1 h)
/-! armature armatureref02.GetString -/
def R37 (y0 : (List UInt8) × Int × Int) : D := .tup [.str y0.1, .int .i64 y0.2.1, .int .i64 y0.2.2]
def m_armatureref02_GetString (x0 : List UInt8) (x1 : Int) : Option ((List UInt8) × Int × Int) :=
  (m_armatureref02_Unsigned x0 x1 2).bind fun v0 =>
  if (v0.2 != 0) = true then
    (some ([], 0, v0.2)) else
  ((some (IntKind.wrap .i64 ((x0.length : Int) - x1))).bind fun v1 =>
    (some (IntKind.wrap .i64 (v1 - (2 : Int)))).bind fun v2 =>
    if (decide (v2 < v0.1)) = true then
      (some ([], 0, 3)) else
    ((some (IntKind.wrap .i64 (x1 + (2 : Int)))).bind fun v3 =>
      (some (IntKind.wrap .i64 (x1 + (2 : Int)))).bind fun v4 =>
      (some (IntKind.wrap .i64 (v4 + v0.1))).bind fun v5 =>
      (sub x0 v3 v5).bind fun v6 =>
      (some (IntKind.wrap .i64 (x1 + (2 : Int)))).bind fun v7 =>
      (some (IntKind.wrap .i64 (v7 + v0.1))).bind fun v8 =>
      some (v6, v8, 0)))
theorem w37 {x0 : List UInt8} {x1 : Int} {r : (List UInt8) × Int × Int} (h : m_armatureref02_GetString x0 x1 = some r) : CallSpec Try.prog 37 [.str x0, dI x1] (R37 r) :=
  cs Try.f37 <| bd h fun v0 e0 h => go [] [rg 1 [(2, k (w35 e0))]] <| br h (fun h0 h => go [] [] <| rt h) fun h0 h =>
  bd h fun v1 e1 h => bd h fun v2 e2 h => go [] [rg 4 [(3, n e1), (4, n e2)]] <| br h (fun h1 h => go [] [] <| rt h) fun h1 h =>
    bd h fun v3 e3 h => bd h fun v4 e4 h => bd h fun v5 e5 h => bd h fun v6 e6 h => bd h fun v7 e7 h => bd h fun v8 e8 h => go [] [rg 6 [(2, n e3), (4, n e4), (6, n e5), (7, ss e6), (9, n e7), (11, n e8)]] <| rt h
/-! armature armatureref06.take -/
def R25 (y0 : T_api_Const × Int × Int) : D := .tup [.agg (row_T_api_Const y0.1), .int .i64 y0.2.1, .int .i64 y0.2.2]
def j25x5 (v0 : Int × Int × Int) (x0 : List UInt8) : Option (T_api_Const × Int × Int) :=
  (m_armatureref06_number x0 v0.2.1 2 false).bind fun v6 =>
  some (({ f_Tag := v0.1, f_S := [], f_N := 0, f_A := v6.1, f_B := 0 } : T_api_Const), v6.2.1, v6.2.2)
def j25x4 (v0 : Int × Int × Int) (x0 : List UInt8) : Option (T_api_Const × Int × Int) :=
  (m_armatureref06_number x0 v0.2.1 2 false).bind fun v4 =>
  if (v4.2.2 == 0) = true then
    ((m_armatureref06_number x0 v4.2.1 2 false).bind fun v5 =>
    some (({ f_Tag := v0.1, f_S := [], f_N := 0, f_A := v4.1, f_B := v5.1 } : T_api_Const), v5.2.1, v5.2.2)) else
  (some (({ f_Tag := v0.1, f_S := [], f_N := 0, f_A := v4.1, f_B := 0 } : T_api_Const), v4.2.1, v4.2.2))
def j25x3 (v0 : Int × Int × Int) (x0 : List UInt8) : Option (T_api_Const × Int × Int) :=
  if (v0.1 == 12) = true then
    ((j25x4 v0 x0) ) else
  (some (({ f_Tag := v0.1, f_S := [], f_N := 0, f_A := 0, f_B := 0 } : T_api_Const), 0, 11))
def j25x2 (v0 : Int × Int × Int) (x0 : List UInt8) : Option (T_api_Const × Int × Int) :=
  if (v0.1 == 9) = true then
    ((j25x4 v0 x0) ) else
  (if (v0.1 == 10) = true then
      ((j25x4 v0 x0) ) else
    (if (v0.1 == 11) = true then
        ((j25x4 v0 x0) ) else
      ((j25x3 v0 x0) )))
def j25x1 (v0 : Int × Int × Int) (x0 : List UInt8) : Option (T_api_Const × Int × Int) :=
  if (v0.1 == 8) = true then
    ((j25x5 v0 x0) ) else
  ((j25x2 v0 x0) )
def m_armatureref06_take (x0 : List UInt8) (x1 : Int) : Option (T_api_Const × Int × Int) :=
  (m_armatureref06_number x0 x1 1 false).bind fun v0 =>
  if (v0.2.2 != 0) = true then
    (some (({ f_Tag := 0, f_S := [], f_N := 0, f_A := 0, f_B := 0 } : T_api_Const), 0, v0.2.2)) else
  (if (v0.1 == 1) = true then
      ((m_armatureref02_GetString x0 v0.2.1).bind fun v1 =>
      if (v1.2.2 != 0) = true then
        (some (({ f_Tag := v0.1, f_S := v1.1, f_N := 0, f_A := 0, f_B := 0 } : T_api_Const), 0, 3)) else
      (some (({ f_Tag := v0.1, f_S := v1.1, f_N := 0, f_A := 0, f_B := 0 } : T_api_Const), v1.2.1, v1.2.2))) else
    (if (v0.1 == 3) = true then
        ((m_armatureref06_number x0 v0.2.1 4 true).bind fun v2 =>
        some (({ f_Tag := v0.1, f_S := [], f_N := v2.1, f_A := 0, f_B := 0 } : T_api_Const), v2.2.1, v2.2.2)) else
      (if (v0.1 == 5) = true then
          ((m_armatureref06_number x0 v0.2.1 8 true).bind fun v3 =>
          some (({ f_Tag := v0.1, f_S := [], f_N := v3.1, f_A := 0, f_B := 0 } : T_api_Const), v3.2.1, v3.2.2)) else
        (if (v0.1 == 7) = true then
            ((j25x5 v0 x0) ) else
          ((j25x1 v0 x0) )))))
theorem wj25x5 {v0 : Int × Int × Int} {x0 : List UInt8} {r : T_api_Const × Int × Int} {Γ : Ctx} (h : (j25x5 v0 x0)  = some r) : Jn Try.prog Try.f25 Γ (Den.Ends Try.prog Try.f25 (R25 r)) 98143 ⟨96, [(0, .str x0), (1, dI v0.2.1), (4, .lptr 4 0 0), (7, .lptr 7 0 0)], [(4, { sz := 5, rows := [[dI 0, .str [], dI 0, dI 0, dI 0]], frz := 0, pure := false }), (7, { sz := 5, rows := [[dI v0.1, .str [], dI 0, dI 0, dI 0]], frz := 0, pure := false })]⟩ :=
  so <| bd h fun v6 e6 h => go [] [rg 18 [(2, k (w24 e6))]] <| rt h
theorem wj25x4 {v0 : Int × Int × Int} {x0 : List UInt8} {r : T_api_Const × Int × Int} {Γ : Ctx} (h : (j25x4 v0 x0)  = some r) : Jn Try.prog Try.f25 Γ (Den.Ends Try.prog Try.f25 (R25 r)) 655199 ⟨96, [(0, .str x0), (1, dI v0.2.1), (4, .lptr 4 0 0), (7, .lptr 7 0 0)], [(4, { sz := 5, rows := [[dI 0, .str [], dI 0, dI 0, dI 0]], frz := 0, pure := false }), (7, { sz := 5, rows := [[dI v0.1, .str [], dI 0, dI 0, dI 0]], frz := 0, pure := false })]⟩ :=
  so <| bd h fun v4 e4 h => go [] [rg 23 [(2, k (w24 e4))]] <| br h (fun h11 h => bd h fun v5 e5 h => go [] [rg 25 [(2, k (w24 e5))]] <| rt h) fun h11 h =>
  go [] [] <| rt h
theorem wj25x3 {v0 : Int × Int × Int} {x0 : List UInt8} {r : T_api_Const × Int × Int} {Γ : Ctx} (h : (j25x3 v0 x0)  = some r) : Jn Try.prog Try.f25 Γ (Den.Ends Try.prog Try.f25 (R25 r)) 261983 ⟨96, [(0, .str x0), (1, dI v0.2.1), (4, .lptr 4 0 0), (7, .lptr 7 0 0), (70, .bool (v0.1 == 12))], [(4, { sz := 5, rows := [[dI 0, .str [], dI 0, dI 0, dI 0]], frz := 0, pure := false }), (7, { sz := 5, rows := [[dI v0.1, .str [], dI 0, dI 0, dI 0]], frz := 0, pure := false })]⟩ (v0.1 == 12) :=
  br h (fun h10 h => go [23] [] <| jn (wj25x4 h)) fun h10 h =>
  go [] [] <| rt h
theorem wj25x2 {v0 : Int × Int × Int} {x0 : List UInt8} {r : T_api_Const × Int × Int} {Γ : Ctx} (h : (j25x2 v0 x0)  = some r) : Jn Try.prog Try.f25 Γ (Den.Ends Try.prog Try.f25 (R25 r)) 327519 ⟨96, [(0, .str x0), (1, dI v0.2.1), (4, .lptr 4 0 0), (7, .lptr 7 0 0), (24, dI v0.1)], [(4, { sz := 5, rows := [[dI 0, .str [], dI 0, dI 0, dI 0]], frz := 0, pure := false }), (7, { sz := 5, rows := [[dI v0.1, .str [], dI 0, dI 0, dI 0]], frz := 0, pure := false })]⟩ :=
  so <| go [] [] <| br h (fun h7 h => go [] [] <| bT h7 <| go [23] [] <| jn (wj25x4 h)) fun h7 h =>
  go [] [] <| br h (fun h8 h => go [] [] <| bT h8 <| go [23] [] <| jn (wj25x4 h)) fun h8 h =>
    go [] [] <| br h (fun h9 h => go [] [] <| bT h9 <| go [23] [] <| jn (wj25x4 h)) fun h9 h =>
      go [] [] <| jn (wj25x3 h)
theorem wj25x1 {v0 : Int × Int × Int} {x0 : List UInt8} {r : T_api_Const × Int × Int} {Γ : Ctx} (h : (j25x1 v0 x0)  = some r) : Jn Try.prog Try.f25 Γ (Den.Ends Try.prog Try.f25 (R25 r)) 65375 ⟨96, [(0, .str x0), (1, dI v0.2.1), (4, .lptr 4 0 0), (7, .lptr 7 0 0), (24, dI v0.1), (59, .bool (v0.1 == 8))], [(4, { sz := 5, rows := [[dI 0, .str [], dI 0, dI 0, dI 0]], frz := 0, pure := false }), (7, { sz := 5, rows := [[dI v0.1, .str [], dI 0, dI 0, dI 0]], frz := 0, pure := false })]⟩ (v0.1 == 8) :=
  br h (fun h6 h => go [18] [] <| jn (wj25x5 h)) fun h6 h =>
  go [19] [] <| jn (wj25x2 h)
theorem w25 {x0 : List UInt8} {x1 : Int} {r : T_api_Const × Int × Int} (h : m_armatureref06_take x0 x1 = some r) : CallSpec Try.prog 25 [.str x0, dI x1] (R25 r) :=
  cs Try.f25 <| bd h fun v0 e0 h => go [] [rg 2 [(2, k (w24 e0))]] <| br h (fun h0 h => go [] [] <| rt h) fun h0 h =>
  go [] [] <| br h (fun h1 h => bd h fun v1 e1 h => go [] [rg 9 [(2, k (w37 e1))]] <| br h (fun h2 h => go [] [] <| rt h) fun h2 h =>
      go [] [] <| rt h) fun h1 h =>
    go [] [] <| br h (fun h3 h => bd h fun v2 e2 h => go [] [rg 13 [(2, k (w24 e2))]] <| rt h) fun h3 h =>
      go [] [] <| br h (fun h4 h => bd h fun v3 e3 h => go [] [rg 15 [(2, k (w24 e3))]] <| rt h) fun h4 h =>
        go [] [] <| br h (fun h5 h => go [] [] <| bT h5 <| go [18] [] <| jn (wj25x5 h)) fun h5 h =>
          go [] [] <| jn (wj25x1 h)
/-! armature armatureref06.Decode -/
def R12 (y0 : (List T_api_Const) × Int × Int) : D := .tup [.sl false (y0.1.map row_T_api_Const), .int .i64 y0.2.1, .int .i64 y0.2.2]
def l12x1 (v0 : Int × Int × Int) (x0 : List UInt8) (t0 : Int × Int × (List T_api_Const)) : Option (Ctl (Int × Int × (List T_api_Const)) (((List T_api_Const) × Int) ⊕ ((List T_api_Const) × Int × Int))) :=
  if (decide (t0.2.1 < v0.1)) = true then
    ((m_armatureref06_take x0 t0.1).bind fun v3 =>
    if (v3.2.2 != 0) = true then
      (some (.done (.inr (([] : List T_api_Const), 0, v3.2.2)))) else
    ((growK 48 (t0.2.2 ++ [v3.1]).length).bind fun v4 =>
      (some (IntKind.wrap .i64 (t0.2.1 + (1 : Int)))).bind fun v5 =>
      some (.next (v3.2.1, v5, (t0.2.2 ++ [v3.1]))))) else
  (some (.done (.inl ((t0.2.2, t0.1)))))
def j12x1 (x0 : List UInt8) (x1 : Int) : Option ((List T_api_Const) × Int × Int) :=
  (m_armatureref06_number x0 x1 2 false).bind fun v0 =>
  if (v0.2.2 != 0) = true then
    (some (([] : List T_api_Const), 0, v0.2.2)) else
  ((loopM (l12x1 v0 x0) rounds (v0.2.1, 0, ([] : List T_api_Const))).bind fun q1 =>
    match q1 with
    | .inl q0 => ((m_armatureref05_Check q0.1).bind fun v6 =>
      if (v6.2 != 0) = true then
        (some (([] : List T_api_Const), 0, v6.2)) else
      (some (q0.1, q0.2, 0)))
    | .inr y0 => (some y0))
def m_armatureref06_Decode (x0 : List UInt8) (x1 : Int) : Option ((List T_api_Const) × Int × Int) :=
  if (decide (x1 < 0)) = true then (some (([] : List T_api_Const), 0, 2)) else
  (if (decide (x1 > (x0.length : Int))) = true then
    (some (([] : List T_api_Const), 0, 2)) else
  ((j12x1 x0 x1) ))
def st12x1 (v0 : Int × Int × Int) (x0 : List UInt8) : (Int × Int × (List T_api_Const)) → SL :=
  fun t0 => ⟨65, [(0, .str x0), (1, dI t0.1), (7, dI v0.1), (9, .lsl 9 0 ((t0.2.2.map row_T_api_Const).length)), (10, dI t0.2.1)], [(9, { sz := 5, rows := (t0.2.2.map row_T_api_Const), frz := 0, pure := true })]⟩
def J12x1  : JT (((List T_api_Const) × Int) ⊕ ((List T_api_Const) × Int × Int)) :=
  ju (je 0 fun q0 : (List T_api_Const) × Int => ⟨65, [(1, dI q0.2), (9, .lsl 9 0 ((q0.1.map row_T_api_Const).length))], [(9, { sz := 5, rows := (q0.1.map row_T_api_Const), frz := 0, pure := true })]⟩) (jr Try.prog Try.f12 R12)
theorem wl12x1 {v0 : Int × Int × Int} {x0 : List UInt8} {t0 : Int × Int × (List T_api_Const)} {r : Ctl (Int × Int × (List T_api_Const)) (((List T_api_Const) × Int) ⊕ ((List T_api_Const) × Int × Int))} {Γ : Ctx} (h : (l12x1 v0 x0) t0 = some r) : A Try.prog Γ (lpC Try.f12 351) [] (Rd (st12x1 v0 x0) J12x1 r) ((st12x1 v0 x0) t0).s :=
  go [] [] <| br h (fun h5 h => bd h fun v3 e3 h => go [] [rg 10 [(2, k (w25 e3))]] <| br h (fun h6 h => go [] [] <| dn h (i2 iR)) fun h6 h =>
    bd h fun v4 e4 h => bd h fun v5 e5 h => go [] [rg 13 [(2, br0 1 5), (3, ap e4)], rg 9 [(1, n e5)]] <| nx h) fun h5 h =>
  go [] [] <| dn h (i1 iE)
theorem wj12x1 {x0 : List UInt8} {x1 : Int} {r : (List T_api_Const) × Int × Int} {Γ : Ctx} (h : (j12x1 x0 x1)  = some r) : Jn Try.prog Try.f12 Γ (Den.Ends Try.prog Try.f12 (R12 r)) 11 ⟨65, [(0, .str x0), (1, dI x1)], []⟩ :=
  so <| bd h fun v0 e0 h => go [] [rg 3 [(2, k (w24 e0))]] <| br h (fun h2 h => go [] [] <| rt h) fun h2 h =>
  go [] [rg 6 [(0, bl 0 5)]] <| bd h fun q1 e6 h => lp (ps := [(34, 9)]) e6 wl12x1 <| match q1, h with
    | .inl q0, h => j1 <| (qe <| bd h fun v6 e7 h => goN [] [rg 15 [(1, kB (a2 (rpI q0.1) trivial) [rw_ q0.1] (by simp only [rwE] <;> kernel_rfl) (w14 e7))]] <| br h (fun h7 h => go [] [] <| rt h) fun h7 h =>
      go [] [] <| rtB h (.tup [rw_ q0.1, dI q0.2, dI 0]) (a2 (rpI q0.1) (a2 trivial (a2 trivial trivial))) (by simp only [rwE] <;> kernel_rfl))
    | .inr y0, h => j2 <| (qr h)
theorem w12 {x0 : List UInt8} {x1 : Int} {r : (List T_api_Const) × Int × Int} (h : m_armatureref06_Decode x0 x1 = some r) : CallSpec Try.prog 12 [.str x0, dI x1] (R12 r) :=
  cs Try.f12 <| sp h (fun h0 h => go [] [rg 1 [(1, kb h0)]] <| bT rfl <| go [] [] <| rt h) fun h0 h =>
  go [] [rg 1 [(1, kb h0)]] <| br h (fun h1 h => go [] [] <| rt h) fun h1 h =>
  go [3] [] <| jn (wj12x1 h)
/-! armature armatureref06.Same -/
def R13 (y0 : Bool) : D := .bool y0
def j13x1 (t0 : Int) (x0 x1 : List T_api_Const) : Option (Ctl (Int) (Unit ⊕ Bool)) :=
  (getR x0 t0).bind fun v2 =>
  (getR x1 t0).bind fun v3 =>
  if (!(eqb_T_api_Const v2 v3)) = true then
    (some (.done (.inr false))) else
  ((some (IntKind.wrap .i64 (t0 + (1 : Int)))).bind fun v4 =>
    some (.next v4))
def l13x1 (x0 x1 : List T_api_Const) (t0 : Int) : Option (Ctl (Int) (Unit ⊕ Bool)) :=
  if (decide (t0 < (x0.length : Int))) = true then (if (decide (t0 < (x1.length : Int))) = true then
    ((j13x1 t0 x0 x1) ) else
  (some (.done (.inl (()))))) else
  (some (.done (.inl (()))))
def m_armatureref06_Same (x0 x1 : List T_api_Const) : Option (Bool) :=
  (loopM (l13x1 x0 x1) rounds 0).bind fun q1 =>
  match q1 with
  | .inl q0 => (some ((x0.length : Int) == (x1.length : Int)))
  | .inr y0 => (some y0)
def st13x1 (x0 x1 : List T_api_Const) : Int → SL :=
  fun t0 => ⟨32, [(0, .sl false (x0.map row_T_api_Const)), (1, .sl false (x1.map row_T_api_Const)), (5, dI t0)], []⟩
def J13x1 (x0 x1 : List T_api_Const) : JT (Unit ⊕ Bool) :=
  ju (je 0 fun q0 : Unit => ⟨32, [(0, .sl false (x0.map row_T_api_Const)), (1, .sl false (x1.map row_T_api_Const))], []⟩) (jr Try.prog Try.f13 R13)
theorem wj13x1 {t0 : Int} {x0 x1 : List T_api_Const} {r : Ctl (Int) (Unit ⊕ Bool)} {Γ : Ctx} (h : (j13x1 t0 x0 x1)  = some r) : Jn Try.prog Try.f13 Γ (Rd (st13x1 x0 x1) (J13x1 x0 x1) r) 549 ⟨32, [(0, .sl false (x0.map row_T_api_Const)), (1, .sl false (x1.map row_T_api_Const)), (5, dI t0)], []⟩ :=
  so <| bd h fun v2 e2 h => bd h fun v3 e3 h => go [] [rgo 4 [(2, ix e2), (6, ix e3), (8, qs eqg_37 eqp_37 (!(eqb_T_api_Const v2 v3)))] [0, 1, 2, 3, 4, 5, 6, 7, 8] [] [(2, [0, 1]), (3, [0, 1, 2]), (6, [4, 5]), (7, [4, 5, 6]), (8, [0, 1, 2, 3, 4, 5, 6, 7])]] <| br h (fun h5 h => go [] [] <| dn h (i2 iR)) fun h5 h =>
  bd h fun v4 e4 h => go [] [rg 3 [(1, n e4)]] <| nx h
theorem wl13x1 {x0 x1 : List T_api_Const} {t0 : Int} {r : Ctl (Int) (Unit ⊕ Bool)} {Γ : Ctx} (h : (l13x1 x0 x1) t0 = some r) : A Try.prog Γ (lpC Try.f13 21) [] (Rd (st13x1 x0 x1) (J13x1 x0 x1) r) ((st13x1 x0 x1) t0).s :=
  sp h (fun h3 h => go [] [rg 2 [(2, ln x0), (3, kb h3), (7, ln x1)]] <| br h (fun h4 h => go [4] [] <| jn (wj13x1 h)) fun h4 h =>
  go [] [] <| dn h (i1 iE)) fun h3 h =>
  go [] [rg 2 [(2, ln x0), (3, kb h3)]] <| bF rfl <| go [] [] <| dn h (i1 iE)
theorem w13 {x0 x1 : List T_api_Const} {r : Bool} (h : m_armatureref06_Same x0 x1 = some r) : CallSpec Try.prog 13 [.sl false (x0.map row_T_api_Const), .sl false (x1.map row_T_api_Const)] (R13 r) :=
  cs Try.f13 <| go [] [] <| bd h fun q1 e5 h => lp e5 wl13x1 <| match q1, h with
  | .inl q0, h => j1 <| (qe <| goN [] [rg 6 [(1, ln x0), (3, ln x1)]] <| rt h)
  | .inr y0, h => j2 <| (qr h)
/-! armature armaturelaw06.PoolcodeDecode -/
def R4 (y0 : Bool) : D := .bool y0
def m_armaturelaw06_PoolcodeDecode (x0 : List UInt8) (x1 : Int) : Option (Bool) :=
  if (decide ((x0.length : Int) > 5000)) = true then
    ((m_armaturelaw06_awake).bind fun v0 =>
    some v0) else
  ((m_poolcode_Decode x0 x1).bind fun v1 =>
    (m_armatureref06_Decode x0 x1).bind fun v2 =>
    (m_armaturelaw06_awake).bind fun v3 =>
    if v3 = true then ((m_armatureref06_Same v1.1 v2.1).bind fun v4 =>
      if v4 = true then (if (v1.2.1 == v2.2.1) = true then (some (v1.2.2 == v2.2.2)) else
        (some false)) else
      (some false)) else
    (some false))
theorem w4 {x0 : List UInt8} {x1 : Int} {r : Bool} (h : m_armaturelaw06_PoolcodeDecode x0 x1 = some r) : CallSpec Try.prog 4 [.str x0, dI x1] (R4 r) :=
  cs Try.f4 <| go [] [] <| br h (fun h0 h => bd h fun v0 e0 h => go [] [rg 2 [(0, k (w8 e0))]] <| rt h) fun h0 h =>
  bd h fun v1 e1 h => bd h fun v2 e2 h => go [5] [rg 3 [(2, k (w11 e1))], rg 4 [(2, k (w12 e2))]] <| po <| bd h fun v3 e3 h => pr 2 [(0, k (w8 e3))] <| sp h (fun h1 h => bd h fun v4 e4 h => pr 5 [(2, gw h1 g0), (3, gw h1 g0), (4, gw h1 (k (w13 e4))), (5, py h1)] <| sp h (fun h2 h => pr 5 [(7, gw h2 g0), (8, gw h2 g0), (9, gw h2 g0), (10, py h2)] <| sp h (fun h3 h => pr 5 [(12, gw h3 g0), (13, gw h3 g0), (14, gw h3 g0), (15, py h3)] <| pe <| goN [] [] <| rt h) fun h3 h =>
        pr 5 [(12, gs1 h3), (13, gs1 h3), (14, gs1 h3), (15, pn h3)] <| pe <| goN [] [] <| rt h) fun h2 h =>
      pr 10 [(7, gs1 h2), (8, gs1 h2), (9, gs1 h2), (10, pn h2)] <| pe <| goN [] [] <| rt h) fun h1 h =>
    pr 15 [(2, gs1 h1), (3, gs1 h1), (4, gs1 h1), (5, pn h1)] <| pe <| goN [] [] <| rt h
/-! armature armaturelaw06.PoolcodeRoundTrip -/
def R5 (y0 : Bool) : D := .bool y0
def j5x3  : Option (Bool) :=
  (m_armaturelaw06_awake).bind fun v13 =>
  some v13
def j5x2 (v1 : (List UInt8) × Int) (x3 : Int) : Option (Bool) :=
  (some (IntKind.wrap .i64 x3)).bind fun v8 =>
  (modK v8 (v1.1.length : Int)).bind fun v9 =>
  (sub v1.1 0 v9).bind fun v10 =>
  (m_poolcode_Decode v10 0).bind fun v11 =>
  (m_armaturelaw06_awake).bind fun v12 =>
  if v12 = true then (some (v11.2.2 == 3)) else
  (some false)
def j5x1 (x0 : List T_api_Const) (x1 x2 : List UInt8) (x3 : Int) : Option (Bool) :=
  (m_poolcode_Encode x0).bind fun v1 =>
  if (v1.2 != 0) = true then
    ((m_armaturelaw06_awake).bind fun v2 =>
    if v2 = true then (some (v1.1 == ([] : List UInt8))) else
    (some false)) else
  ((catK x1 v1.1).bind fun v3 =>
    (catK v3 x2).bind fun v4 =>
    (m_poolcode_Decode v4 (x1.length : Int)).bind fun v5 =>
    if (v5.2.2 != 0) = true then (some false) else
    ((some (IntKind.wrap .i64 ((x1.length : Int) + (v1.1.length : Int)))).bind fun v6 =>
      if (v5.2.1 != v6) = true then (some false) else
      ((m_armatureref06_Same x0 v5.1).bind fun v7 =>
        if (!v7) = true then (some false) else
        (if (decide ((v1.1.length : Int) < 2)) = true then
            (some false) else
          ((j5x2 v1 x3) )))))
def m_armaturelaw06_PoolcodeRoundTrip (x0 : List T_api_Const) (x1 x2 : List UInt8) (x3 : Int) : Option (Bool) :=
  (m_armaturelaw06_few x0).bind fun v0 =>
  if (!v0) = true then (j5x3 ) else
  (if (decide ((x1.length : Int) > 1000)) = true then (j5x3 ) else
    (if (decide ((x2.length : Int) > 1000)) = true then
        (j5x3 ) else
      ((j5x1 x0 x1 x2 x3) )))
theorem wj5x3  {r : Bool} {Γ : Ctx} (h : j5x3  = some r) : Jn Try.prog Try.f5 Γ (Den.Ends Try.prog Try.f5 (R5 r)) 37 ⟨94, [], []⟩ :=
  so <| bd h fun v13 e13 h => go [] [rg 2 [(0, k (w8 e13))]] <| rt h
theorem wj5x2 {v1 : (List UInt8) × Int} {x3 : Int} {r : Bool} {Γ : Ctx} (h : (j5x2 v1 x3)  = some r) : Jn Try.prog Try.f5 Γ (Den.Ends Try.prog Try.f5 (R5 r)) 191 ⟨94, [(3, .int .u16 x3), (9, .str v1.1)], []⟩ :=
  so <| bd h fun v8 e8 h => bd h fun v9 e9 h => bd h fun v10 e10 h => bd h fun v11 e11 h => bd h fun v12 e12 h => sp h (fun h9 h => go [] [rg 9 [(2, n e8), (5, md e9), (6, ss e10), (7, k (w11 e11))], rg 10 [(0, k (w8 e12)), (2, gw h9 g0), (3, gw h9 g0), (4, py h9)]] <| rt h) fun h9 h =>
  go [] [rg 9 [(2, n e8), (5, md e9), (6, ss e10), (7, k (w11 e11))], rg 10 [(0, k (w8 e12)), (2, gs1 h9), (3, gs1 h9), (4, pn h9)]] <| rt h
theorem wj5x1 {x0 : List T_api_Const} {x1 x2 : List UInt8} {x3 : Int} {r : Bool} {Γ : Ctx} (h : (j5x1 x0 x1 x2 x3)  = some r) : Jn Try.prog Try.f5 Γ (Den.Ends Try.prog Try.f5 (R5 r)) 11 ⟨94, [(0, .sl false (x0.map row_T_api_Const)), (1, .str x1), (2, .str x2), (3, .int .u16 x3)], []⟩ :=
  so <| bd h fun v1 e1 h => go [] [rg 3 [(1, k (w9 e1))]] <| br h (fun h3 h => bd h fun v2 e2 h => sp h (fun h4 h => go [] [rg 5 [(0, k (w8 e2)), (2, gw h4 g0), (3, gw h4 g0), (4, py h4)]] <| rt h) fun h4 h =>
    go [] [rg 5 [(0, k (w8 e2)), (2, gs1 h4), (3, gs1 h4), (4, pn h4)]] <| rt h) fun h3 h =>
  bd h fun v3 e3 h => bd h fun v4 e4 h => bd h fun v5 e5 h => go [7] [rg 6 [(2, ct e3), (4, ct e4), (7, k (w11 e5))]] <| po <| pr 3 [] <| sp h (fun h5 h => pr 19 [(3, gs0 h5), (4, gs0 h5), (5, gs0 h5), (6, gs0 h5), (7, gs0 h5), (8, gs0 h5), (9, gs0 h5), (10, py h5)] <| pe <| goN [] [] <| bT rfl <| go [] [] <| rt h) fun h5 h =>
    bd h fun v6 e6 h => pr 9 [(3, gw h5 g0), (4, gw h5 g0), (5, gw h5 g0), (6, gw h5 g0), (7, gw h5 g0), (8, gw h5 (n e6)), (9, gw h5 g0), (10, pn h5)] <| sp h (fun h6 h => pr 10 [(12, gs0 h6), (13, gs0 h6), (14, gs0 h6), (15, gs0 h6), (16, py h6)] <| pe <| goN [] [] <| bT rfl <| go [] [] <| rt h) fun h6 h =>
      bd h fun v7 e7 h => pr 6 [(12, gw h6 g0), (13, gw h6 g0), (14, gw h6 (k (w13 e7))), (15, gw h6 g0), (16, pn h6)] <| sp h (fun h7 h => pr 4 [(18, gs0 h7), (19, gs0 h7), (20, gs0 h7), (21, py h7)] <| pe <| goN [] [] <| bT rfl <| go [] [] <| rt h) fun h7 h =>
        pr 4 [(18, gw h7 g0), (19, gw h7 g0), (20, gw h7 g0), (21, pn h7)] <| pe <| goN [] [] <| br h (fun h8 h => go [] [] <| rt h) fun h8 h =>
          go [9] [] <| jn (wj5x2 h)
theorem w5 {x0 : List T_api_Const} {x1 x2 : List UInt8} {x3 : Int} {r : Bool} (h : m_armaturelaw06_PoolcodeRoundTrip x0 x1 x2 x3 = some r) : CallSpec Try.prog 5 [.sl false (x0.map row_T_api_Const), .str x1, .str x2, .int .u16 x3] (R5 r) :=
  cs Try.f5 <| go [1] [] <| po <| bd h fun v0 e0 h => pr 4 [(1, k (w7 e0))] <| sp h (fun h0 h => pr 9 [(4, gs0 h0), (5, gs0 h0), (6, gs0 h0), (7, py h0)] <| pe <| goN [] [] <| bT rfl <| go [2] [] <| jn (wj5x3 h)) fun h0 h =>
  pr 5 [(4, gw h0 g0), (5, gw h0 g0), (6, gw h0 g0), (7, pn h0)] <| sp h (fun h1 h => pr 4 [(9, gs0 h1), (10, gs0 h1), (11, gs0 h1), (12, py h1)] <| pe <| goN [] [] <| bT rfl <| go [2] [] <| jn (wj5x3 h)) fun h1 h =>
    pr 4 [(9, gw h1 g0), (10, gw h1 g0), (11, gw h1 g0), (12, pn h1)] <| pe <| goN [] [] <| br h (fun h2 h => go [2] [] <| jn (wj5x3 h)) fun h2 h =>
      go [3] [] <| jn (wj5x1 h)
/-! armature armaturelaw06.PoolcodeCanonical -/
def R6 (y0 : Bool) : D := .bool y0
def j6x1 (v1 : (List T_api_Const) × Int × Int) (x0 : List UInt8) (x1 : Int) : Option (Bool) :=
  (m_poolcode_Encode v1.1).bind fun v3 =>
  (m_armatureref05_Check v1.1).bind fun v4 =>
  (m_armaturelaw06_awake).bind fun v5 =>
  if v5 = true then (if (v3.2 == 0) = true then ((sub x0 x1 v1.2.1).bind fun v6 =>
      if (v3.1 == v6) = true then (some (v4.2 == 0)) else
      (some false)) else
    (some false)) else
  (some false)
def m_armaturelaw06_PoolcodeCanonical (x0 : List UInt8) (x1 : Int) : Option (Bool) :=
  if (decide ((x0.length : Int) > 5000)) = true then
    ((m_armaturelaw06_awake).bind fun v0 =>
    some v0) else
  ((m_poolcode_Decode x0 x1).bind fun v1 =>
    if (v1.2.2 != 0) = true then
      ((m_armaturelaw06_awake).bind fun v2 =>
      if v2 = true then (if ((v1.1.length : Int) == 0) = true then (some (v1.2.1 == 0)) else
        (some false)) else
      (some false)) else
    (if (decide (x1 < 0)) = true then (some false) else
      (if (decide (v1.2.1 < x1)) = true then (some false) else
        (if (decide (v1.2.1 > (x0.length : Int))) = true then
            (some false) else
          ((j6x1 v1 x0 x1) )))))
theorem wj6x1 {v1 : (List T_api_Const) × Int × Int} {x0 : List UInt8} {x1 : Int} {r : Bool} {Γ : Ctx} (h : (j6x1 v1 x0 x1)  = some r) : Jn Try.prog Try.f6 Γ (Den.Ends Try.prog Try.f6 (R6 r)) 95 ⟨75, [(0, .str x0), (1, dI x1), (5, .sl false (v1.1.map row_T_api_Const)), (6, dI v1.2.1)], []⟩ :=
  so <| bd h fun v3 e3 h => bd h fun v4 e4 h => go [10] [rg 8 [(1, k (w9 e3))], rg 9 [(1, k (w14 e4))]] <| po <| bd h fun v5 e5 h => pr 2 [(0, k (w8 e5))] <| sp h (fun h7 h => pr 4 [(2, gw h7 g0), (3, gw h7 g0), (4, py h7)] <| sp h (fun h8 h => bd h fun v6 e6 h => pr 8 [(6, gw h8 g0), (7, gw h8 g0), (8, gw h8 g0), (9, gw h8 g0), (10, gw h8 (ss e6)), (11, gw h8 g0), (12, py h8)] <| sp h (fun h9 h => pr 4 [(14, gw h9 g0), (15, gw h9 g0), (16, py h9)] <| pe <| goN [] [] <| rt h) fun h9 h =>
      pr 4 [(14, gs1 h9), (15, gs1 h9), (16, pn h9)] <| pe <| goN [] [] <| rt h) fun h8 h =>
    pr 12 [(6, gs1 h8), (7, gs1 h8), (8, gs1 h8), (9, gs1 h8), (10, gs1 h8), (11, gs1 h8), (12, pn h8)] <| pe <| goN [] [] <| rt h) fun h7 h =>
  pr 16 [(2, gs1 h7), (3, gs1 h7), (4, pn h7)] <| pe <| goN [] [] <| rt h
theorem w6 {x0 : List UInt8} {x1 : Int} {r : Bool} (h : m_armaturelaw06_PoolcodeCanonical x0 x1 = some r) : CallSpec Try.prog 6 [.str x0, dI x1] (R6 r) :=
  cs Try.f6 <| go [] [] <| br h (fun h0 h => bd h fun v0 e0 h => go [] [rg 2 [(0, k (w8 e0))]] <| rt h) fun h0 h =>
  bd h fun v1 e1 h => go [] [rg 3 [(2, k (w11 e1))]] <| br h (fun h1 h => go [5] [] <| po <| bd h fun v2 e2 h => pr 2 [(0, k (w8 e2))] <| sp h (fun h2 h => pr 5 [(2, gw h2 g0), (3, gw h2 (ln v1.1)), (4, gw h2 g0), (5, py h2)] <| sp h (fun h3 h => pr 4 [(7, gw h3 g0), (8, gw h3 g0), (9, py h3)] <| pe <| goN [] [] <| rt h) fun h3 h =>
        pr 4 [(7, gs1 h3), (8, gs1 h3), (9, pn h3)] <| pe <| goN [] [] <| rt h) fun h2 h =>
      pr 9 [(2, gs1 h2), (3, gs1 h2), (4, gs1 h2), (5, pn h2)] <| pe <| goN [] [] <| rt h) fun h1 h =>
    go [6] [] <| po <| pr 3 [] <| sp h (fun h4 h => pr 10 [(3, gs0 h4), (4, gs0 h4), (5, gs0 h4), (6, py h4)] <| pe <| goN [] [] <| bT rfl <| go [] [] <| rt h) fun h4 h =>
      pr 5 [(3, gw h4 g0), (4, gw h4 g0), (5, gw h4 g0), (6, pn h4)] <| sp h (fun h5 h => pr 5 [(8, gs0 h5), (9, gs0 h5), (10, gs0 h5), (11, gs0 h5), (12, py h5)] <| pe <| goN [] [] <| bT rfl <| go [] [] <| rt h) fun h5 h =>
        pr 5 [(8, gw h5 g0), (9, gw h5 g0), (10, gw h5 g0), (11, gw h5 g0), (12, pn h5)] <| pe <| goN [] [] <| br h (fun h6 h => go [] [] <| rt h) fun h6 h =>
          go [8] [] <| jn (wj6x1 h)
end Go.Proofs
