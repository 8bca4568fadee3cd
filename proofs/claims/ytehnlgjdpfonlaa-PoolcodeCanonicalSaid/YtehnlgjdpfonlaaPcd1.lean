/-
  Models of functions of the program, and that the functions compute them. Printed by den3.py. No condition.
-/
import Derived.Test.YtehnlgjdpfonlaaRows
import Derived.Test.YtehnlgjdpfonlaaDenGo
import Derived.Test.YtehnlgjdpfonlaaDenClaim
set_option linter.unusedVariables false
namespace Go.Proofs
open Go.Den Go.Den.W
structure T_api_Const where
  f_Tag : Int
  f_S : List UInt8
  f_N : Int
  f_A : Int
  f_B : Int
def row_T_api_Const (x : T_api_Const) : List D := [.int .i64 x.f_Tag, .str x.f_S, .int .i64 x.f_N, .int .i64 x.f_A, .int .i64 x.f_B]
instance : Row T_api_Const := ⟨row_T_api_Const, 5, fun _ => rfl⟩
structure T_api_Type where
  f_Dim : Int
  f_Base : Int
  f_Name : List UInt8
def row_T_api_Type (x : T_api_Type) : List D := [.int .i64 x.f_Dim, .int .u8 x.f_Base, .str x.f_Name]
instance : Row T_api_Type := ⟨row_T_api_Type, 3, fun _ => rfl⟩
structure T_api_Sig where
  f_Params : List T_api_Type
  f_Result : T_api_Type
def row_T_api_Sig (x : T_api_Sig) : List D := [.sl false (x.f_Params.map row_T_api_Type), .int .i64 x.f_Result.f_Dim, .int .u8 x.f_Result.f_Base, .str x.f_Result.f_Name]
instance : Row T_api_Sig := ⟨row_T_api_Sig, 4, fun _ => rfl⟩
structure T_poolcode_reader where
  f_s : List UInt8
  f_at : Int
  f_err : Int
def row_T_poolcode_reader (x : T_poolcode_reader) : List D := [.str x.f_s, .int .i64 x.f_at, .int .i64 x.f_err]
instance : Row T_poolcode_reader := ⟨row_T_poolcode_reader, 3, fun _ => rfl⟩
def eqb_T_api_Const (x y : T_api_Const) : Bool := ((x.f_Tag == y.f_Tag) && ((x.f_S == y.f_S) && ((x.f_N == y.f_N) && ((x.f_A == y.f_A) && ((x.f_B == y.f_B) && true)))))
def eqq_37 : Prop := Try.prog.stoodInHeld 37 = false ∧ ("Tag" ≠ "_" ∧ True ∧ ("S" ≠ "_" ∧ True ∧ ("N" ≠ "_" ∧ True ∧ ("A" ≠ "_" ∧ True ∧ ("B" ≠ "_" ∧ True ∧ True)))))
theorem eqp_37 : eqq_37 := ⟨by kernel_rfl, ⟨by decide, trivial, ⟨by decide, trivial, ⟨by decide, trivial, ⟨by decide, trivial, ⟨by decide, trivial, trivial⟩⟩⟩⟩⟩⟩
theorem eqg_37 : Try.prog.eqGuardType Try.prog.depth 37 = false := by kernel_rfl
def eqb_T_api_Type (x y : T_api_Type) : Bool := ((x.f_Dim == y.f_Dim) && ((x.f_Base == y.f_Base) && ((x.f_Name == y.f_Name) && true)))
def eqq_85 : Prop := Try.prog.stoodInHeld 85 = false ∧ ("Dim" ≠ "_" ∧ True ∧ ("Base" ≠ "_" ∧ True ∧ ("Name" ≠ "_" ∧ True ∧ True)))
theorem eqp_85 : eqq_85 := ⟨by kernel_rfl, ⟨by decide, trivial, ⟨by decide, trivial, ⟨by decide, trivial, trivial⟩⟩⟩⟩
theorem eqg_85 : Try.prog.eqGuardType Try.prog.depth 85 = false := by kernel_rfl
/-! armature armaturelaw06.few -/
def R7 (y0 : Bool) : D := .bool y0
def j7x1 (t0 : Int × Int) (x0 : List T_api_Const) : Option (Ctl (Int × Int) (Int ⊕ Bool)) :=
  (getR x0 t0.2).bind fun v3 =>
  (some (IntKind.wrap .i64 (t0.1 + (v3.f_S.length : Int)))).bind fun v4 =>
  (getR x0 t0.2).bind fun v5 =>
  if (decide ((v5.f_S.length : Int) > 3000)) = true then
    (some (.done (.inr false))) else
  ((some (IntKind.wrap .i64 (t0.2 + (1 : Int)))).bind fun v6 =>
    some (.next (v4, v6)))
def l7x1 (x0 : List T_api_Const) (t0 : Int × Int) : Option (Ctl (Int × Int) (Int ⊕ Bool)) :=
  if (decide (t0.2 < (x0.length : Int))) = true then (if (decide (t0.2 < 2001)) = true then
    ((j7x1 t0 x0) ) else
  (some (.done (.inl (t0.1))))) else
  (some (.done (.inl (t0.1))))
def m_armaturelaw06_few (x0 : List T_api_Const) : Option (Bool) :=
  (loopM (l7x1 x0) rounds (0, 0)).bind fun q1 =>
  match q1 with
  | .inl q0 => (if (decide ((x0.length : Int) ≤ 2000)) = true then (some (decide (q0 ≤ 100000))) else
    (some false))
  | .inr y0 => (some y0)
def st7x1 (x0 : List T_api_Const) : (Int × Int) → SL :=
  fun t0 => ⟨37, [(0, .sl false (x0.map row_T_api_Const)), (3, dI t0.1), (4, dI t0.2)], []⟩
def J7x1 (x0 : List T_api_Const) : JT (Int ⊕ Bool) :=
  ju (je 0 fun q0 : Int => ⟨37, [(0, .sl false (x0.map row_T_api_Const)), (3, dI q0)], []⟩) (jr Try.prog Try.f7 R7)
theorem wj7x1 {t0 : Int × Int} {x0 : List T_api_Const} {r : Ctl (Int × Int) (Int ⊕ Bool)} {Γ : Ctx} (h : (j7x1 t0 x0)  = some r) : Jn Try.prog Try.f7 Γ (Rd (st7x1 x0) (J7x1 x0) r) 1099 ⟨37, [(0, .sl false (x0.map row_T_api_Const)), (3, dI t0.1), (4, dI t0.2)], []⟩ :=
  so <| bd h fun v3 e3 h => bd h fun v4 e4 h => bd h fun v5 e5 h => go [] [rg 5 [(3, ix e3), (7, n e4)], rg 6 [(2, ix e5)]] <| br h (fun h4 h => go [] [] <| dn h (i2 iR)) fun h4 h =>
  bd h fun v6 e6 h => go [] [rg 4 [(1, n e6)]] <| nx h
theorem wl7x1 {x0 : List T_api_Const} {t0 : Int × Int} {r : Ctl (Int × Int) (Int ⊕ Bool)} {Γ : Ctx} (h : (l7x1 x0) t0 = some r) : A Try.prog Γ (lpC Try.f7 43) [] (Rd (st7x1 x0) (J7x1 x0) r) ((st7x1 x0) t0).s :=
  sp h (fun h2 h => go [] [rg 3 [(2, ln x0), (3, kb h2)]] <| br h (fun h3 h => go [5] [] <| jn (wj7x1 h)) fun h3 h =>
  go [] [] <| dn h (i1 iE)) fun h2 h =>
  go [] [rg 3 [(2, ln x0), (3, kb h2)]] <| bF rfl <| go [] [] <| dn h (i1 iE)
theorem w7 {x0 : List T_api_Const} {r : Bool} (h : m_armaturelaw06_few x0 = some r) : CallSpec Try.prog 7 [.sl false (x0.map row_T_api_Const)] (R7 r) :=
  cs Try.f7 <| go [] [] <| bd h fun q1 e7 h => lp e7 wl7x1 <| match q1, h with
  | .inl q0, h => j1 <| (qe <| sp h (fun h5 h => goN [] [rg 8 [(1, ln x0), (2, kb h5)]] <| rt h) fun h5 h =>
    goN [] [rg 8 [(1, ln x0), (2, kb h5)]] <| rt h)
  | .inr y0, h => j2 <| (qr h)
/-! armature pool.links -/
def R42 (y0 : Int × Int × Bool) : D := .tup [.int .i64 y0.1, .int .i64 y0.2.1, .bool y0.2.2]
def j42x5 (x0 : Int) : Option (Int × Int × Bool) :=
  if (x0 == 11) = true then
    (some (7, 12, true)) else
  (some (0, 0, false))
def j42x4 (x0 : Int) : Option (Int × Int × Bool) :=
  if (x0 == 12) = true then
    (some (1, 1, true)) else
  (if (x0 == 9) = true then
      (some (7, 12, true)) else
    (if (x0 == 10) = true then
        (some (7, 12, true)) else
      ((j42x5 x0) )))
def j42x3 (x0 : Int) : Option (Int × Int × Bool) :=
  if (x0 == 8) = true then
    (some (1, 0, true)) else
  ((j42x4 x0) )
def j42x2 (x0 : Int) : Option (Int × Int × Bool) :=
  if (x0 == 7) = true then
    (some (1, 0, true)) else
  ((j42x3 x0) )
def j42x1 (x0 : Int) : Option (Int × Int × Bool) :=
  if (x0 == 5) = true then
    (some (0, 0, true)) else
  ((j42x2 x0) )
def m_pool_links (x0 : Int) : Option (Int × Int × Bool) :=
  if (x0 == 1) = true then
    (some (0, 0, true)) else
  (if (x0 == 3) = true then
      (some (0, 0, true)) else
    ((j42x1 x0) ))
theorem wj42x5 {x0 : Int} {r : Int × Int × Bool} {Γ : Ctx} (h : (j42x5 x0)  = some r) : Jn Try.prog Try.f42 Γ (Den.Ends Try.prog Try.f42 (R42 r)) 4085 ⟨19, [(15, .bool (x0 == 11))], []⟩ (x0 == 11) :=
  br h (fun h8 h => go [] [] <| rt h) fun h8 h =>
  go [] [] <| rt h
theorem wj42x4 {x0 : Int} {r : Int × Int × Bool} {Γ : Ctx} (h : (j42x4 x0)  = some r) : Jn Try.prog Try.f42 Γ (Den.Ends Try.prog Try.f42 (R42 r)) 757 ⟨19, [(5, dI x0)], []⟩ :=
  so <| go [] [] <| br h (fun h5 h => go [] [] <| rt h) fun h5 h =>
  go [] [] <| br h (fun h6 h => go [] [] <| bT h6 <| go [] [] <| rt h) fun h6 h =>
    go [] [] <| br h (fun h7 h => go [] [] <| bT h7 <| go [] [] <| rt h) fun h7 h =>
      go [] [] <| jn (wj42x5 h)
theorem wj42x3 {x0 : Int} {r : Int × Int × Bool} {Γ : Ctx} (h : (j42x3 x0)  = some r) : Jn Try.prog Try.f42 Γ (Den.Ends Try.prog Try.f42 (R42 r)) 245 ⟨19, [(5, dI x0), (10, .bool (x0 == 8))], []⟩ (x0 == 8) :=
  br h (fun h4 h => go [] [] <| rt h) fun h4 h =>
  go [9] [] <| jn (wj42x4 h)
theorem wj42x2 {x0 : Int} {r : Int × Int × Bool} {Γ : Ctx} (h : (j42x2 x0)  = some r) : Jn Try.prog Try.f42 Γ (Den.Ends Try.prog Try.f42 (R42 r)) 309 ⟨19, [(5, dI x0)], []⟩ :=
  so <| go [] [] <| br h (fun h3 h => go [] [] <| bT h3 <| go [] [] <| rt h) fun h3 h =>
  go [] [] <| jn (wj42x3 h)
theorem wj42x1 {x0 : Int} {r : Int × Int × Bool} {Γ : Ctx} (h : (j42x1 x0)  = some r) : Jn Try.prog Try.f42 Γ (Den.Ends Try.prog Try.f42 (R42 r)) 53 ⟨19, [(5, dI x0), (6, .bool (x0 == 5))], []⟩ (x0 == 5) :=
  br h (fun h2 h => go [] [] <| rt h) fun h2 h =>
  go [6] [] <| jn (wj42x2 h)
theorem w42 {x0 : Int} {r : Int × Int × Bool} (h : m_pool_links x0 = some r) : CallSpec Try.prog 42 [dI x0] (R42 r) :=
  cs Try.f42 <| go [] [] <| br h (fun h0 h => go [] [] <| bT h0 <| go [] [] <| rt h) fun h0 h =>
  go [] [] <| br h (fun h1 h => go [] [] <| bT h1 <| go [] [] <| rt h) fun h1 h =>
    go [] [] <| jn (wj42x1 h)
/-! armature pool.unused -/
def R43 (y0 : Bool) : D := .bool y0
def m_pool_unused (x0 : T_api_Const) (x1 x2 : Int) : Option (Bool) :=
  if (x0.f_Tag == 3) = true then (if (!(x0.f_Tag == 1)) = true then (if (!(x0.f_S == ([] : List UInt8))) = true then (some true) else
    (if (x1 == 0) = true then (if (x0.f_A != 0) = true then (some true) else
        (if (x2 == 0) = true then (some (x0.f_B != 0)) else
          (some false))) else
      (if (x2 == 0) = true then (some (x0.f_B != 0)) else
        (some false)))) else
  (if (x1 == 0) = true then (if (x0.f_A != 0) = true then (some true) else
      (if (x2 == 0) = true then (some (x0.f_B != 0)) else
        (some false))) else
    (if (x2 == 0) = true then (some (x0.f_B != 0)) else
      (some false)))) else
  (if (!(x0.f_Tag == 1)) = true then (if (!(x0.f_S == ([] : List UInt8))) = true then (some true) else
    (if (!(x0.f_Tag == 5)) = true then (if (x0.f_N != 0) = true then (some true) else
        (if (x1 == 0) = true then (if (x0.f_A != 0) = true then (some true) else
            (if (x2 == 0) = true then (some (x0.f_B != 0)) else
              (some false))) else
          (if (x2 == 0) = true then (some (x0.f_B != 0)) else
            (some false)))) else
      (if (x1 == 0) = true then (if (x0.f_A != 0) = true then (some true) else
          (if (x2 == 0) = true then (some (x0.f_B != 0)) else
            (some false))) else
        (if (x2 == 0) = true then (some (x0.f_B != 0)) else
          (some false))))) else
  (if (!(x0.f_Tag == 5)) = true then (if (x0.f_N != 0) = true then (some true) else
      (if (x1 == 0) = true then (if (x0.f_A != 0) = true then (some true) else
          (if (x2 == 0) = true then (some (x0.f_B != 0)) else
            (some false))) else
        (if (x2 == 0) = true then (some (x0.f_B != 0)) else
          (some false)))) else
    (if (x1 == 0) = true then (if (x0.f_A != 0) = true then (some true) else
        (if (x2 == 0) = true then (some (x0.f_B != 0)) else
          (some false))) else
      (if (x2 == 0) = true then (some (x0.f_B != 0)) else
        (some false)))))
theorem w43 {x0 : T_api_Const} {x1 x2 : Int} {r : Bool} (h : m_pool_unused x0 x1 x2 = some r) : CallSpec Try.prog 43 [.agg (row_T_api_Const x0), dI x1, dI x2] (R43 r) :=
  cs Try.f43 <| sp h (fun h0 h => go [2] [rg 0 [(0, bo)], rgo 1 [(5, kb h0)] [0, 1, 2, 3, 4, 5, 6, 7, 8, 9, 10, 11, 12] [] [(1, [0]), (2, [0, 1]), (4, [3]), (5, [3, 4]), (6, [3, 4, 5]), (7, [3, 4, 5, 6]), (8, [3, 4, 5, 6, 7]), (9, [3, 4, 5, 6, 7, 8]), (10, [3, 4, 5, 6, 7, 8, 9]), (11, [0, 1, 2, 3, 4, 5, 6]), (12, [0, 1, 2, 3, 4, 5, 6, 7, 8, 9, 10, 11])]] <| po <| pr 3 [] <| sp h (fun h1 h => pr 5 [(3, gw h1 g0), (4, gw h1 g0), (5, gw h1 g0), (6, py h1)] <| sp h (fun h2 h => pr 27 [(8, gs0 h2), (9, gs0 h2), (10, gs0 h2), (14, gs0 h2), (15, py h2)] <| pe <| goN [] [] <| rt h) fun h2 h =>
    pr 12 [(8, gw h2 g0), (9, gw h2 g0), (10, gw h2 g0), (14, gw h2 g0), (15, pn h2)] <| sp h (fun h3 h => pr 6 [(20, gw h3 g0), (21, gw h3 g0), (22, gw h3 g0), (23, py h3)] <| sp h (fun h4 h => pr 9 [(26, gs0 h4), (27, gs0 h4), (28, gs0 h4), (32, gs0 h4), (33, py h4)] <| pe <| goN [] [] <| rt h) fun h4 h =>
        pr 3 [(26, gw h4 g0), (27, gw h4 g0), (28, gw h4 g0)] <| sp h (fun h5 h => pr 6 [(29, gw h5 g0), (30, gw h5 g0), (31, gw h5 g0), (32, gw h4 (py h5)), (33, pn h4)] <| pe <| goN [] [] <| rt h) fun h5 h =>
          pr 6 [(29, gs1 h5), (30, gs1 h5), (31, gs1 h5), (32, gw h4 (pn h5)), (33, pn h4)] <| pe <| goN [] [] <| rt h) fun h3 h =>
      pr 9 [(20, gs1 h3), (21, gs1 h3), (22, gs1 h3), (23, pn h3)] <| sp h (fun h6 h => pr 6 [(29, gw h6 g0), (30, gw h6 g0), (31, gw h6 g0), (32, py h6)] <| pe <| goN [] [] <| rt h) fun h6 h =>
        pr 6 [(29, gs1 h6), (30, gs1 h6), (31, gs1 h6), (32, pn h6)] <| pe <| goN [] [] <| rt h) fun h1 h =>
  pr 17 [(3, gs1 h1), (4, gs1 h1), (5, gs1 h1), (6, pn h1)] <| sp h (fun h7 h => pr 6 [(20, gw h7 g0), (21, gw h7 g0), (22, gw h7 g0), (23, py h7)] <| sp h (fun h8 h => pr 9 [(26, gs0 h8), (27, gs0 h8), (28, gs0 h8), (32, gs0 h8), (33, py h8)] <| pe <| goN [] [] <| rt h) fun h8 h =>
      pr 3 [(26, gw h8 g0), (27, gw h8 g0), (28, gw h8 g0)] <| sp h (fun h9 h => pr 6 [(29, gw h9 g0), (30, gw h9 g0), (31, gw h9 g0), (32, gw h8 (py h9)), (33, pn h8)] <| pe <| goN [] [] <| rt h) fun h9 h =>
        pr 6 [(29, gs1 h9), (30, gs1 h9), (31, gs1 h9), (32, gw h8 (pn h9)), (33, pn h8)] <| pe <| goN [] [] <| rt h) fun h7 h =>
    pr 9 [(20, gs1 h7), (21, gs1 h7), (22, gs1 h7), (23, pn h7)] <| sp h (fun h10 h => pr 6 [(29, gw h10 g0), (30, gw h10 g0), (31, gw h10 g0), (32, py h10)] <| pe <| goN [] [] <| rt h) fun h10 h =>
      pr 6 [(29, gs1 h10), (30, gs1 h10), (31, gs1 h10), (32, pn h10)] <| pe <| goN [] [] <| rt h) fun h0 h =>
  go [2] [rg 0 [(0, bo)], rgo 1 [(5, kb h0)] [0, 1, 2, 3, 4, 5, 6, 7, 8, 9, 10, 11, 12] [] [(1, [0]), (2, [0, 1]), (4, [3]), (5, [3, 4]), (6, [3, 4, 5]), (7, [3, 4, 5, 6]), (8, [3, 4, 5, 6, 7]), (9, [3, 4, 5, 6, 7, 8]), (10, [3, 4, 5, 6, 7, 8, 9]), (11, [0, 1, 2, 3, 4, 5, 6]), (12, [0, 1, 2, 3, 4, 5, 6, 7, 8, 9, 10, 11])]] <| po <| pr 3 [] <| sp h (fun h11 h => pr 5 [(3, gw h11 g0), (4, gw h11 g0), (5, gw h11 g0), (6, py h11)] <| sp h (fun h12 h => pr 27 [(8, gs0 h12), (9, gs0 h12), (10, gs0 h12), (14, gs0 h12), (15, py h12)] <| pe <| goN [] [] <| rt h) fun h12 h =>
    pr 3 [(8, gw h12 g0), (9, gw h12 g0), (10, gw h12 g0)] <| sp h (fun h13 h => pr 6 [(11, gw h13 g0), (12, gw h13 g0), (13, gw h13 g0), (14, gw h12 (py h13)), (15, pn h12)] <| sp h (fun h14 h => pr 18 [(17, gs0 h14), (18, gs0 h14), (19, gs0 h14), (23, gs0 h14), (24, py h14)] <| pe <| goN [] [] <| rt h) fun h14 h =>
        pr 3 [(17, gw h14 g0), (18, gw h14 g0), (19, gw h14 g0)] <| sp h (fun h15 h => pr 6 [(20, gw h15 g0), (21, gw h15 g0), (22, gw h15 g0), (23, gw h14 (py h15)), (24, pn h14)] <| sp h (fun h16 h => pr 9 [(26, gs0 h16), (27, gs0 h16), (28, gs0 h16), (32, gs0 h16), (33, py h16)] <| pe <| goN [] [] <| rt h) fun h16 h =>
            pr 3 [(26, gw h16 g0), (27, gw h16 g0), (28, gw h16 g0)] <| sp h (fun h17 h => pr 6 [(29, gw h17 g0), (30, gw h17 g0), (31, gw h17 g0), (32, gw h16 (py h17)), (33, pn h16)] <| pe <| goN [] [] <| rt h) fun h17 h =>
              pr 6 [(29, gs1 h17), (30, gs1 h17), (31, gs1 h17), (32, gw h16 (pn h17)), (33, pn h16)] <| pe <| goN [] [] <| rt h) fun h15 h =>
          pr 9 [(20, gs1 h15), (21, gs1 h15), (22, gs1 h15), (23, gw h14 (pn h15)), (24, pn h14)] <| sp h (fun h18 h => pr 6 [(29, gw h18 g0), (30, gw h18 g0), (31, gw h18 g0), (32, py h18)] <| pe <| goN [] [] <| rt h) fun h18 h =>
            pr 6 [(29, gs1 h18), (30, gs1 h18), (31, gs1 h18), (32, pn h18)] <| pe <| goN [] [] <| rt h) fun h13 h =>
      pr 9 [(11, gs1 h13), (12, gs1 h13), (13, gs1 h13), (14, gw h12 (pn h13)), (15, pn h12)] <| sp h (fun h19 h => pr 6 [(20, gw h19 g0), (21, gw h19 g0), (22, gw h19 g0), (23, py h19)] <| sp h (fun h20 h => pr 9 [(26, gs0 h20), (27, gs0 h20), (28, gs0 h20), (32, gs0 h20), (33, py h20)] <| pe <| goN [] [] <| rt h) fun h20 h =>
          pr 3 [(26, gw h20 g0), (27, gw h20 g0), (28, gw h20 g0)] <| sp h (fun h21 h => pr 6 [(29, gw h21 g0), (30, gw h21 g0), (31, gw h21 g0), (32, gw h20 (py h21)), (33, pn h20)] <| pe <| goN [] [] <| rt h) fun h21 h =>
            pr 6 [(29, gs1 h21), (30, gs1 h21), (31, gs1 h21), (32, gw h20 (pn h21)), (33, pn h20)] <| pe <| goN [] [] <| rt h) fun h19 h =>
        pr 9 [(20, gs1 h19), (21, gs1 h19), (22, gs1 h19), (23, pn h19)] <| sp h (fun h22 h => pr 6 [(29, gw h22 g0), (30, gw h22 g0), (31, gw h22 g0), (32, py h22)] <| pe <| goN [] [] <| rt h) fun h22 h =>
          pr 6 [(29, gs1 h22), (30, gs1 h22), (31, gs1 h22), (32, pn h22)] <| pe <| goN [] [] <| rt h) fun h11 h =>
  pr 8 [(3, gs1 h11), (4, gs1 h11), (5, gs1 h11), (6, pn h11)] <| sp h (fun h23 h => pr 6 [(11, gw h23 g0), (12, gw h23 g0), (13, gw h23 g0), (14, py h23)] <| sp h (fun h24 h => pr 18 [(17, gs0 h24), (18, gs0 h24), (19, gs0 h24), (23, gs0 h24), (24, py h24)] <| pe <| goN [] [] <| rt h) fun h24 h =>
      pr 3 [(17, gw h24 g0), (18, gw h24 g0), (19, gw h24 g0)] <| sp h (fun h25 h => pr 6 [(20, gw h25 g0), (21, gw h25 g0), (22, gw h25 g0), (23, gw h24 (py h25)), (24, pn h24)] <| sp h (fun h26 h => pr 9 [(26, gs0 h26), (27, gs0 h26), (28, gs0 h26), (32, gs0 h26), (33, py h26)] <| pe <| goN [] [] <| rt h) fun h26 h =>
          pr 3 [(26, gw h26 g0), (27, gw h26 g0), (28, gw h26 g0)] <| sp h (fun h27 h => pr 6 [(29, gw h27 g0), (30, gw h27 g0), (31, gw h27 g0), (32, gw h26 (py h27)), (33, pn h26)] <| pe <| goN [] [] <| rt h) fun h27 h =>
            pr 6 [(29, gs1 h27), (30, gs1 h27), (31, gs1 h27), (32, gw h26 (pn h27)), (33, pn h26)] <| pe <| goN [] [] <| rt h) fun h25 h =>
        pr 9 [(20, gs1 h25), (21, gs1 h25), (22, gs1 h25), (23, gw h24 (pn h25)), (24, pn h24)] <| sp h (fun h28 h => pr 6 [(29, gw h28 g0), (30, gw h28 g0), (31, gw h28 g0), (32, py h28)] <| pe <| goN [] [] <| rt h) fun h28 h =>
          pr 6 [(29, gs1 h28), (30, gs1 h28), (31, gs1 h28), (32, pn h28)] <| pe <| goN [] [] <| rt h) fun h23 h =>
    pr 9 [(11, gs1 h23), (12, gs1 h23), (13, gs1 h23), (14, pn h23)] <| sp h (fun h29 h => pr 6 [(20, gw h29 g0), (21, gw h29 g0), (22, gw h29 g0), (23, py h29)] <| sp h (fun h30 h => pr 9 [(26, gs0 h30), (27, gs0 h30), (28, gs0 h30), (32, gs0 h30), (33, py h30)] <| pe <| goN [] [] <| rt h) fun h30 h =>
        pr 3 [(26, gw h30 g0), (27, gw h30 g0), (28, gw h30 g0)] <| sp h (fun h31 h => pr 6 [(29, gw h31 g0), (30, gw h31 g0), (31, gw h31 g0), (32, gw h30 (py h31)), (33, pn h30)] <| pe <| goN [] [] <| rt h) fun h31 h =>
          pr 6 [(29, gs1 h31), (30, gs1 h31), (31, gs1 h31), (32, gw h30 (pn h31)), (33, pn h30)] <| pe <| goN [] [] <| rt h) fun h29 h =>
      pr 9 [(20, gs1 h29), (21, gs1 h29), (22, gs1 h29), (23, pn h29)] <| sp h (fun h32 h => pr 6 [(29, gw h32 g0), (30, gw h32 g0), (31, gw h32 g0), (32, py h32)] <| pe <| goN [] [] <| rt h) fun h32 h =>
        pr 6 [(29, gs1 h32), (30, gs1 h32), (31, gs1 h32), (32, pn h32)] <| pe <| goN [] [] <| rt h
/-! armature pool.At -/
def R60 (y0 : T_api_Const × Int) : D := .tup [.agg (row_T_api_Const y0.1), .int .i64 y0.2]
def m_pool_At (x0 : List T_api_Const) (x1 : Int) : Option (T_api_Const × Int) :=
  if (decide (x1 < 1)) = true then (some (({ f_Tag := 0, f_S := [], f_N := 0, f_A := 0, f_B := 0 } : T_api_Const), 2)) else
  (if (decide (x1 > (x0.length : Int))) = true then
    (some (({ f_Tag := 0, f_S := [], f_N := 0, f_A := 0, f_B := 0 } : T_api_Const), 2)) else
  ((some (IntKind.wrap .i64 (x1 - (1 : Int)))).bind fun v0 =>
    (getR x0 v0).bind fun v1 =>
    some (v1, 0)))
theorem w60 {x0 : List T_api_Const} {x1 : Int} {r : T_api_Const × Int} (h : m_pool_At x0 x1 = some r) : CallSpec Try.prog 60 [.sl false (x0.map row_T_api_Const), dI x1] (R60 r) :=
  cs Try.f60 <| sp h (fun h0 h => go [] [rg 1 [(1, kb h0)]] <| bT rfl <| go [] [] <| rt h) fun h0 h =>
  go [] [rg 1 [(1, kb h0), (5, ln x0)]] <| br h (fun h1 h => go [] [] <| rt h) fun h1 h =>
  bd h fun v0 e0 h => bd h fun v1 e1 h => go [] [rg 3 [(2, n e0), (3, ix e1)]] <| rt h
/-! armature pool.tagged -/
def R44 (y0 : T_api_Const × Int) : D := .tup [.agg (row_T_api_Const y0.1), .int .i64 y0.2]
def m_pool_tagged (x0 : List T_api_Const) (x1 x2 : Int) : Option (T_api_Const × Int) :=
  (m_pool_At x0 x1).bind fun v0 =>
  if (v0.2 == 0) = true then (if (v0.1.f_Tag != x2) = true then
    (some (({ f_Tag := 0, f_S := [], f_N := 0, f_A := 0, f_B := 0 } : T_api_Const), 11)) else
  (some (v0.1, v0.2))) else
  (some (v0.1, v0.2))
theorem w44 {x0 : List T_api_Const} {x1 x2 : Int} {r : T_api_Const × Int} (h : m_pool_tagged x0 x1 x2 = some r) : CallSpec Try.prog 44 [.sl false (x0.map row_T_api_Const), dI x1, dI x2] (R44 r) :=
  cs Try.f44 <| bd h fun v0 e0 h => sp h (fun h0 h => go [] [rg 1 [(2, k (w60 e0))], rg 2 [(1, kb h0)]] <| br h (fun h1 h => go [] [] <| rt h) fun h1 h =>
  go [] [] <| rt h) fun h0 h =>
  go [] [rg 1 [(2, k (w60 e0))], rg 2 [(1, kb h0)]] <| bF rfl <| go [] [] <| rt h
/-! armature pool.UTF8 -/
def R61 (y0 : (List UInt8) × Int) : D := .tup [.str y0.1, .int .i64 y0.2]
def m_pool_UTF8 (x0 : List T_api_Const) (x1 : Int) : Option ((List UInt8) × Int) :=
  (m_pool_tagged x0 x1 1).bind fun v0 =>
  if (v0.2 != 0) = true then
    (some ([], v0.2)) else
  (some (v0.1.f_S, 0))
theorem w61 {x0 : List T_api_Const} {x1 : Int} {r : (List UInt8) × Int} (h : m_pool_UTF8 x0 x1 = some r) : CallSpec Try.prog 61 [.sl false (x0.map row_T_api_Const), dI x1] (R61 r) :=
  cs Try.f61 <| bd h fun v0 e0 h => go [] [rg 1 [(2, k (w44 e0))]] <| br h (fun h0 h => go [] [] <| rt h) fun h0 h =>
  go [] [] <| rt h
/-! armature name.class -/
def R81 (y0 : Int) : D := .int .i64 y0
def j81x4 (x0 : Int) : Option (Int) :=
  if (decide ((48 : Int) ≤ x0)) = true then (if (decide (x0 ≤ 57)) = true then
    (some 2) else
  (some 0)) else
  (some 0)
def j81x3 (x0 : Int) : Option (Int) :=
  if (x0 == 36) = true then
    (some 1) else
  ((j81x4 x0) )
def j81x2 (x0 : Int) : Option (Int) :=
  if (x0 == 95) = true then
    (some 1) else
  ((j81x3 x0) )
def j81x1 (x0 : Int) : Option (Int) :=
  if (decide ((65 : Int) ≤ x0)) = true then (if (decide (x0 ≤ 90)) = true then
    (some 1) else
  ((j81x2 x0) )) else
  ((j81x2 x0) )
def m_name_class (x0 : Int) : Option (Int) :=
  if (decide ((97 : Int) ≤ x0)) = true then (if (decide (x0 ≤ 122)) = true then
    (some 1) else
  ((j81x1 x0) )) else
  ((j81x1 x0) )
theorem wj81x4 {x0 : Int} {r : Int} {Γ : Ctx} (h : (j81x4 x0)  = some r) : Jn Try.prog Try.f81 Γ (Den.Ends Try.prog Try.f81 (R81 r)) 89 ⟨27, [(0, d8 x0)], []⟩ :=
  so <| sp h (fun h6 h => go [] [rg 6 [(1, kb h6)]] <| br h (fun h7 h => go [] [] <| rt h) fun h7 h =>
  go [] [] <| rt h) fun h6 h =>
  go [] [rg 6 [(1, kb h6)]] <| bF rfl <| go [] [] <| rt h
theorem wj81x3 {x0 : Int} {r : Int} {Γ : Ctx} (h : (j81x3 x0)  = some r) : Jn Try.prog Try.f81 Γ (Den.Ends Try.prog Try.f81 (R81 r)) 25 ⟨27, [(0, d8 x0), (3, .bool (x0 == 36))], []⟩ (x0 == 36) :=
  br h (fun h5 h => go [] [] <| rt h) fun h5 h =>
  go [6] [] <| jn (wj81x4 h)
theorem wj81x2 {x0 : Int} {r : Int} {Γ : Ctx} (h : (j81x2 x0)  = some r) : Jn Try.prog Try.f81 Γ (Den.Ends Try.prog Try.f81 (R81 r)) 753 ⟨27, [(0, d8 x0)], []⟩ :=
  so <| go [] [] <| br h (fun h4 h => go [] [] <| bT h4 <| go [] [] <| rt h) fun h4 h =>
  go [] [] <| jn (wj81x3 h)
theorem wj81x1 {x0 : Int} {r : Int} {Γ : Ctx} (h : (j81x1 x0)  = some r) : Jn Try.prog Try.f81 Γ (Den.Ends Try.prog Try.f81 (R81 r)) 177 ⟨27, [(0, d8 x0)], []⟩ :=
  so <| sp h (fun h2 h => go [] [rg 2 [(1, kb h2)]] <| br h (fun h3 h => go [] [] <| bT h3 <| go [] [] <| rt h) fun h3 h =>
  go [3] [] <| jn (wj81x2 h)) fun h2 h =>
  go [] [rg 2 [(1, kb h2)]] <| bF rfl <| go [3] [] <| jn (wj81x2 h)
theorem w81 {x0 : Int} {r : Int} (h : m_name_class x0 = some r) : CallSpec Try.prog 81 [d8 x0] (R81 r) :=
  cs Try.f81 <| sp h (fun h0 h => go [] [rg 1 [(1, kb h0)]] <| br h (fun h1 h => go [] [] <| bT h1 <| go [] [] <| rt h) fun h1 h =>
  go [2] [] <| jn (wj81x1 h)) fun h0 h =>
  go [] [rg 1 [(1, kb h0)]] <| bF rfl <| go [2] [] <| jn (wj81x1 h)
/-! armature name.IsClassName -/
def R73 (y0 : Bool) : D := .bool y0
def j73x5 (t0 : Bool × Int) : Option (Ctl (Bool × Int) (Bool ⊕ Bool)) :=
  (some (IntKind.wrap .i64 (t0.2 + (1 : Int)))).bind fun v7 =>
  some (.next (true, v7))
def j73x4 (t0 : Bool × Int) : Option (Ctl (Bool × Int) (Bool ⊕ Bool)) :=
  (some (IntKind.wrap .i64 (t0.2 + (1 : Int)))).bind fun v6 =>
  some (.next (false, v6))
def j73x3 (t0 : Bool × Int) : Option (Ctl (Bool × Int) (Bool ⊕ Bool)) :=
  if (!t0.1) = true then
    ((j73x4 t0) ) else
  (some (.done (.inr false)))
def j73x2 (t0 : Bool × Int) (v4 : Int) : Option (Ctl (Bool × Int) (Bool ⊕ Bool)) :=
  if (v4 == 1) = true then
    ((j73x4 t0) ) else
  (if (v4 == 2) = true then ((j73x3 t0) ) else
    (some (.done (.inr false))))
def l73x1 (x0 : List UInt8) (t0 : Bool × Int) : Option (Ctl (Bool × Int) (Bool ⊕ Bool)) :=
  if (decide (t0.2 < (x0.length : Int))) = true then
    ((getS x0 t0.2).bind fun v3 =>
    (m_name_class v3).bind fun v4 =>
    (getS x0 t0.2).bind fun v5 =>
    if (v5 == 47) = true then (if (!t0.1) = true then
      ((j73x5 t0) ) else
    ((j73x2 t0 v4) )) else
    ((j73x2 t0 v4) )) else
  (some (.done (.inl (t0.1))))
def j73x1 (x0 : List UInt8) : Option (Bool) :=
  (loopM (l73x1 x0) rounds (true, 0)).bind fun q1 =>
  match q1 with
  | .inl q0 => (some (!q0))
  | .inr y0 => (some y0)
def m_name_IsClassName (x0 : List UInt8) : Option (Bool) :=
  if (x0 == ([] : List UInt8)) = true then (some false) else
  (if (decide ((x0.length : Int) > 64)) = true then
    (some false) else
  ((j73x1 x0) ))
def st73x1 (x0 : List UInt8) : (Bool × Int) → SL :=
  fun t0 => ⟨43, [(0, .str x0), (3, .bool t0.1), (14, dI (x0.length : Int)), (15, dI t0.2)], []⟩
def J73x1  : JT (Bool ⊕ Bool) :=
  ju (je 0 fun q0 : Bool => ⟨43, [(3, .bool q0)], []⟩) (jr Try.prog Try.f73 R73)
theorem wj73x5 (x0 : List UInt8) {t0 : Bool × Int} {r : Ctl (Bool × Int) (Bool ⊕ Bool)} {Γ : Ctx} (h : (j73x5 t0)  = some r) : Jn Try.prog Try.f73 Γ (Rd (st73x1 x0) J73x1 r) 88471 ⟨43, [(0, .str x0), (14, dI (x0.length : Int)), (15, dI t0.2)], []⟩ :=
  so <| bd h fun v7 e7 h => go [] [rg 14 [(0, n e7)]] <| nx h
theorem wj73x4 (x0 : List UInt8) {t0 : Bool × Int} {r : Ctl (Bool × Int) (Bool ⊕ Bool)} {Γ : Ctx} (h : (j73x4 t0)  = some r) : Jn Try.prog Try.f73 Γ (Rd (st73x1 x0) J73x1 r) 383383 ⟨43, [(0, .str x0), (14, dI (x0.length : Int)), (15, dI t0.2)], []⟩ :=
  so <| bd h fun v6 e6 h => go [] [rg 14 [(0, n e6)]] <| nx h
theorem wj73x3 (x0 : List UInt8) {t0 : Bool × Int} {r : Ctl (Bool × Int) (Bool ⊕ Bool)} {Γ : Ctx} (h : (j73x3 t0)  = some r) : Jn Try.prog Try.f73 Γ (Rd (st73x1 x0) J73x1 r) 252311 ⟨43, [(0, .str x0), (14, dI (x0.length : Int)), (15, dI t0.2), (31, .bool (!t0.1))], []⟩ (!t0.1) :=
  br h (fun h11 h => go [13] [] <| jn ((wj73x4 x0) h)) fun h11 h =>
  go [] [] <| dn h (i2 iR)
theorem wj73x2 (x0 : List UInt8) {t0 : Bool × Int} {v4 : Int} {r : Ctl (Bool × Int) (Bool ⊕ Bool)} {Γ : Ctx} (h : (j73x2 t0 v4)  = some r) : Jn Try.prog Try.f73 Γ (Rd (st73x1 x0) J73x1 r) 317847 ⟨43, [(0, .str x0), (3, .bool t0.1), (5, dI v4), (14, dI (x0.length : Int)), (15, dI t0.2)], []⟩ :=
  so <| go [] [] <| br h (fun h9 h => go [] [] <| bT h9 <| go [13] [] <| jn ((wj73x4 x0) h)) fun h9 h =>
  sp h (fun h10 h => go [] [rg 12 [(1, kb h10)]] <| jn ((wj73x3 x0) h)) fun h10 h =>
    go [] [rg 12 [(1, kb h10)]] <| bF rfl <| go [] [] <| dn h (i2 iR)
theorem wl73x1 {x0 : List UInt8} {t0 : Bool × Int} {r : Ctl (Bool × Int) (Bool ⊕ Bool)} {Γ : Ctx} (h : (l73x1 x0) t0 = some r) : A Try.prog Γ (lpC Try.f73 87) [] (Rd (st73x1 x0) J73x1 r) ((st73x1 x0) t0).s :=
  go [] [] <| br h (fun h6 h => bd h fun v3 e3 h => bd h fun v4 e4 h => bd h fun v5 e5 h => sp h (fun h7 h => go [] [rg 7 [(2, ib e3), (3, k (w81 e4))], rg 9 [(2, ib e5), (3, kb h7)]] <| br h (fun h8 h => go [10] [] <| jn ((wj73x5 x0) h)) fun h8 h =>
    go [11] [] <| jn ((wj73x2 x0) h)) fun h7 h =>
    go [] [rg 7 [(2, ib e3), (3, k (w81 e4))], rg 9 [(2, ib e5), (3, kb h7)]] <| bF rfl <| go [11] [] <| jn ((wj73x2 x0) h)) fun h6 h =>
  go [] [] <| dn h (i1 iE)
theorem wj73x1 {x0 : List UInt8} {r : Bool} {Γ : Ctx} (h : (j73x1 x0)  = some r) : Jn Try.prog Try.f73 Γ (Den.Ends Try.prog Try.f73 (R73 r)) 11 ⟨43, [(0, .str x0)], []⟩ :=
  so <| go [] [] <| bd h fun q1 e8 h => lp e8 wl73x1 <| match q1, h with
  | .inl q0, h => j1 <| (qe <| goN [] [] <| rt h)
  | .inr y0, h => j2 <| (qr h)
theorem w73 {x0 : List UInt8} {r : Bool} (h : m_name_IsClassName x0 = some r) : CallSpec Try.prog 73 [.str x0] (R73 r) :=
  cs Try.f73 <| sp h (fun h0 h => go [] [rg 1 [(1, kb h0)]] <| bT rfl <| go [] [] <| rt h) fun h0 h =>
  go [] [rg 1 [(1, kb h0)]] <| br h (fun h1 h => go [] [] <| rt h) fun h1 h =>
  go [3] [] <| jn (wj73x1 h)
/-! internal stringslite.HasPrefix -/
def R82 (y0 : Bool) : D := .bool y0
def m_internal_stringslite_HasPrefix (x0 x1 : List UInt8) : Option (Bool) :=
  if (decide ((x0.length : Int) ≥ (x1.length : Int))) = true then ((sub x0 0 (x1.length : Int)).bind fun v0 =>
  some (v0 == x1)) else
  (some false)
theorem w82 {x0 x1 : List UInt8} {r : Bool} (h : m_internal_stringslite_HasPrefix x0 x1 = some r) : CallSpec Try.prog 82 [.str x0, .str x1] (R82 r) :=
  cs Try.f82 <| sp h (fun h0 h => bd h fun v0 e0 h => go [] [rg 1 [(4, kb h0), (9, ss e0)]] <| rt h) fun h0 h =>
  go [] [rg 1 [(4, kb h0)]] <| rt h
/-! strings.HasPrefix -/
def R74 (y0 : Bool) : D := .bool y0
def m_strings_HasPrefix (x0 x1 : List UInt8) : Option (Bool) :=
  (m_internal_stringslite_HasPrefix x0 x1).bind fun v0 =>
  some v0
theorem w74 {x0 x1 : List UInt8} {r : Bool} (h : m_strings_HasPrefix x0 x1 = some r) : CallSpec Try.prog 74 [.str x0, .str x1] (R74 r) :=
  cs Try.f74 <| bd h fun v0 e0 h => go [] [rg 1 [(2, k (w82 e0))]] <| rt h
/-! internal bytealg.IndexByteString -/
def m_internal_bytealg_IndexByteString (s : List UInt8) (c : Int) : Option Int := some (Lib.indexByte s c.toNat.toUInt8)
theorem w86 {s : List UInt8} {c r : Int} (h : m_internal_bytealg_IndexByteString s c = some r) : ExtSpec Try.prog 86 [.str s, .int .u8 c] (.int .i64 r) := by
  obtain rfl := someE h
  exact ext_indexByteString Try.func86 (by kernel_rfl) (by kernel_rfl) (by kernel_rfl) (by kernel_rfl) s c
/-! internal stringslite.IndexByte -/
def R83 (y0 : Int) : D := .int .i64 y0
def m_internal_stringslite_IndexByte (x0 : List UInt8) (x1 : Int) : Option (Int) :=
  (m_internal_bytealg_IndexByteString x0 x1).bind fun v0 =>
  some v0
theorem w83 {x0 : List UInt8} {x1 : Int} {r : Int} (h : m_internal_stringslite_IndexByte x0 x1 = some r) : CallSpec Try.prog 83 [.str x0, d8 x1] (R83 r) :=
  cs Try.f83 <| bd h fun v0 e0 h => go [] [rg 1 [(2, kx (w86 e0))]] <| rt h
/-! strings.IndexByte -/
def R75 (y0 : Int) : D := .int .i64 y0
def m_strings_IndexByte (x0 : List UInt8) (x1 : Int) : Option (Int) :=
  (m_internal_stringslite_IndexByte x0 x1).bind fun v0 =>
  some v0
theorem w75 {x0 : List UInt8} {x1 : Int} {r : Int} (h : m_strings_IndexByte x0 x1 = some r) : CallSpec Try.prog 75 [.str x0, d8 x1] (R75 r) :=
  cs Try.f75 <| bd h fun v0 e0 h => go [] [rg 1 [(2, k (w83 e0))]] <| rt h
/-! armature desc.Valid -/
def R84 (y0 : Bool) : D := .bool y0
def j84x3 (x0 : T_api_Type) : Option (Bool) :=
  if (x0.f_Base == 86) = true then
    (if (x0.f_Dim == 0) = true then (some (x0.f_Name == ([] : List UInt8))) else
    (some false)) else
  (if (x0.f_Base == 76) = true then
      ((m_name_IsClassName x0.f_Name).bind fun v0 =>
      some v0) else
    (some false))
def j84x2 (x0 : T_api_Type) : Option (Bool) :=
  if (x0.f_Base == 74) = true then
    (some (x0.f_Name == ([] : List UInt8))) else
  ((j84x3 x0) )
def j84x1 (x0 : T_api_Type) : Option (Bool) :=
  if (x0.f_Base == 73) = true then
    (some (x0.f_Name == ([] : List UInt8))) else
  ((j84x2 x0) )
def m_desc_Valid (x0 : T_api_Type) : Option (Bool) :=
  if (decide (x0.f_Dim < 0)) = true then (some false) else
  (if (decide (x0.f_Dim > 8)) = true then
    (some false) else
  ((j84x1 x0) ))
theorem wj84x3 {x0 : T_api_Type} {r : Bool} {Γ : Ctx} (h : (j84x3 x0)  = some r) : Jn Try.prog Try.f84 Γ (Den.Ends Try.prog Try.f84 (R84 r)) 363 ⟨34, [(1, .ptr (row_T_api_Type x0)), (12, d8 x0.f_Base)], []⟩ :=
  so <| go [] [] <| br h (fun h4 h => sp h (fun h5 h => go [] [rg 8 [(2, kb h5)]] <| rt h) fun h5 h =>
    go [] [rg 8 [(2, kb h5)]] <| rt h) fun h4 h =>
  go [] [] <| br h (fun h6 h => bd h fun v0 e0 h => go [] [rg 10 [(2, k (w73 e0))]] <| rt h) fun h6 h =>
    go [] [] <| rt h
theorem wj84x2 {x0 : T_api_Type} {r : Bool} {Γ : Ctx} (h : (j84x2 x0)  = some r) : Jn Try.prog Try.f84 Γ (Den.Ends Try.prog Try.f84 (R84 r)) 107 ⟨34, [(1, .ptr (row_T_api_Type x0)), (12, d8 x0.f_Base), (13, .bool (x0.f_Base == 74))], []⟩ (x0.f_Base == 74) :=
  br h (fun h3 h => go [] [] <| rt h) fun h3 h =>
  go [7] [] <| jn (wj84x3 h)
theorem wj84x1 {x0 : T_api_Type} {r : Bool} {Γ : Ctx} (h : (j84x1 x0)  = some r) : Jn Try.prog Try.f84 Γ (Den.Ends Try.prog Try.f84 (R84 r)) 19 ⟨34, [(1, .ptr (row_T_api_Type x0))], []⟩ :=
  so <| go [] [] <| br h (fun h2 h => go [] [] <| bT h2 <| go [] [] <| rt h) fun h2 h =>
  go [] [] <| jn (wj84x2 h)
theorem w84 {x0 : T_api_Type} {r : Bool} (h : m_desc_Valid x0 = some r) : CallSpec Try.prog 84 [.agg (row_T_api_Type x0)] (R84 r) :=
  cs Try.f84 <| sp h (fun h0 h => go [] [rg 0 [(0, bo)], rg 1 [(2, kb h0)]] <| bT rfl <| go [] [] <| rt h) fun h0 h =>
  go [] [rg 0 [(0, bo)], rg 1 [(2, kb h0)]] <| br h (fun h1 h => go [] [] <| rt h) fun h1 h =>
  go [3] [] <| jn (wj84x1 h)
/-! armature desc.prefix -/
def R76 (y0 : T_api_Type × (List UInt8) × Bool) : D := .tup [.agg (row_T_api_Type y0.1), .str y0.2.1, .bool y0.2.2]
def l76x1 (x0 : List UInt8) (t0 : Int) : Option (Ctl (Int) (Int)) :=
  if (decide (t0 < (x0.length : Int))) = true then ((getS x0 t0).bind fun v1 =>
  if (v1 == 91) = true then
    ((some (IntKind.wrap .i64 (t0 + (1 : Int)))).bind fun v2 =>
    some (.next v2)) else
  (some (.done (t0)))) else
  (some (.done (t0)))
def j76x1 (q0 v4 : Int) (p0 p1 : List UInt8) : Option (T_api_Type × (List UInt8) × Bool) :=
  (m_desc_Valid ({ f_Dim := q0, f_Base := v4, f_Name := p0 } : T_api_Type)).bind fun v10 =>
  some (({ f_Dim := q0, f_Base := v4, f_Name := p0 } : T_api_Type), p1, v10)
def m_desc_prefix (x0 : List UInt8) : Option (T_api_Type × (List UInt8) × Bool) :=
  (loopM (l76x1 x0) rounds 0).bind fun q0 =>
  (sub x0 q0 (x0.length : Int)).bind fun v3 =>
  if (v3 == ([] : List UInt8)) = true then
    (some (({ f_Dim := 0, f_Base := 0, f_Name := [] } : T_api_Type), [], false)) else
  ((getS v3 0).bind fun v4 =>
    (sub v3 1 (v3.length : Int)).bind fun v5 =>
    if (v4 == 76) = true then
      ((m_strings_IndexByte v5 59).bind fun v6 =>
      if (decide (v6 < 0)) = true then
        (some (({ f_Dim := 0, f_Base := 0, f_Name := [] } : T_api_Type), [], false)) else
      ((sub v5 0 v6).bind fun v7 =>
        (some (IntKind.wrap .i64 (v6 + (1 : Int)))).bind fun v8 =>
        (sub v5 v8 (v5.length : Int)).bind fun v9 =>
        (j76x1 q0 v4) v7 v9)) else
    ((j76x1 q0 v4) [] v5))
def st76x1 (x0 : List UInt8) : Int → SL :=
  fun t0 => ⟨56, [(0, .str x0), (2, .lptr 2 0 0), (5, .lptr 5 0 0)], [(2, { sz := 3, rows := [[dI 0, d8 0, .str []]], frz := 0, pure := false }), (5, { sz := 3, rows := [[dI t0, d8 0, .str []]], frz := 0, pure := false })]⟩
def J76x1 (x0 : List UInt8) : JT Int :=
  je 0 fun q0 : Int => ⟨56, [(0, .str x0), (2, .lptr 2 0 0), (5, .lptr 5 0 0)], [(2, { sz := 3, rows := [[dI 0, d8 0, .str []]], frz := 0, pure := false }), (5, { sz := 3, rows := [[dI q0, d8 0, .str []]], frz := 0, pure := false })]⟩
theorem wl76x1 {x0 : List UInt8} {t0 : Int} {r : Ctl (Int) (Int)} {Γ : Ctx} (h : (l76x1 x0) t0 = some r) : A Try.prog Γ (lpC Try.f76 19) [] (Rd (st76x1 x0) (J76x1 x0) r) ((st76x1 x0) t0).s :=
  sp h (fun h2 h => bd h fun v1 e1 h => go [] [rg 2 [(4, kb h2), (9, ib e1)]] <| br h (fun h3 h => bd h fun v2 e2 h => go [] [rg 3 [(2, n e2)]] <| nx h) fun h3 h =>
  go [] [] <| dn h (iE)) fun h2 h =>
  go [] [rg 2 [(4, kb h2)]] <| bF rfl <| go [] [] <| dn h (iE)
theorem wj76x1 {q0 v4 : Int} {p0 p1 : List UInt8} {r : T_api_Type × (List UInt8) × Bool} {Γ : Ctx} (h : (j76x1 q0 v4) p0 p1 = some r) : Jn Try.prog Try.f76 Γ (Den.Ends Try.prog Try.f76 (R76 r)) 767 ⟨56, [(0, .str p1), (2, .lptr 2 0 0), (5, .lptr 5 0 0)], [(2, { sz := 3, rows := [[dI 0, d8 0, .str []]], frz := 0, pure := false }), (5, { sz := 3, rows := [[dI q0, d8 v4, .str p0]], frz := 0, pure := false })]⟩ :=
  so <| bd h fun v10 e11 h => go [] [rgo 15 [(3, k (w84 e11))] [0, 1, 2, 3, 4, 5, 6] [4, 1001] [(3, [2]), (4, [0, 2, 3]), (5, [0, 1, 2, 3, 4]), (6, [0, 1, 2, 3, 4, 5])]] <| rt h
theorem w76 {x0 : List UInt8} {r : T_api_Type × (List UInt8) × Bool} (h : m_desc_prefix x0 = some r) : CallSpec Try.prog 76 [.str x0] (R76 r) :=
  cs Try.f76 <| go [] [] <| bd h fun q0 e3 h => lp e3 wl76x1 <| qe <| bd h fun v3 e4 h => goN [] [rg 4 [(3, ss e4)]] <| br h (fun h4 h => go [] [] <| rt h) fun h4 h =>
  bd h fun v4 e5 h => bd h fun v5 e6 h => go [] [rg 7 [(1, ib e5)], rg 8 [(1, ss e6)]] <| br h (fun h5 h => bd h fun v6 e7 h => go [] [rg 10 [(1, k (w75 e7))]] <| br h (fun h6 h => go [] [] <| rt h) fun h6 h =>
      bd h fun v7 e8 h => bd h fun v8 e9 h => bd h fun v9 e10 h => go [15] [rg 13 [(2, ss e8)], rg 14 [(2, n e9), (3, ss e10)]] <| jn (wj76x1 h)) fun h5 h =>
    go [15] [] <| jn (wj76x1 h)
/-! armature desc.Parse -/
def R64 (y0 : T_api_Type × Int) : D := .tup [.agg (row_T_api_Type y0.1), .int .i64 y0.2]
def m_desc_Parse (x0 : List UInt8) : Option (T_api_Type × Int) :=
  (m_desc_prefix x0).bind fun v0 =>
  if (!v0.2.2) = true then (some (({ f_Dim := 0, f_Base := 0, f_Name := [] } : T_api_Type), 13)) else
  (if (!(v0.2.1 == ([] : List UInt8))) = true then
    (some (({ f_Dim := 0, f_Base := 0, f_Name := [] } : T_api_Type), 13)) else
  (some (v0.1, 0)))
theorem w64 {x0 : List UInt8} {r : T_api_Type × Int} (h : m_desc_Parse x0 = some r) : CallSpec Try.prog 64 [.str x0] (R64 r) :=
  cs Try.f64 <| bd h fun v0 e0 h => sp h (fun h0 h => go [] [rg 1 [(1, k (w76 e0))], rg 2 [(3, gs0 h0), (4, gs0 h0), (5, py h0)]] <| bT rfl <| go [] [] <| rt h) fun h0 h =>
  go [] [rg 1 [(1, k (w76 e0))], rg 2 [(3, gw h0 g0), (4, gw h0 g0), (5, pn h0)]] <| br h (fun h1 h => go [] [] <| rt h) fun h1 h =>
  go [] [] <| rt h
/-! armature desc.ParseClassConstant -/
def R62 (y0 : T_api_Type × Int) : D := .tup [.agg (row_T_api_Type y0.1), .int .i64 y0.2]
def m_desc_ParseClassConstant (x0 : List UInt8) : Option (T_api_Type × Int) :=
  (m_name_IsClassName x0).bind fun v0 =>
  if v0 = true then
    (some (({ f_Dim := 0, f_Base := 76, f_Name := x0 } : T_api_Type), 0)) else
  ((m_strings_HasPrefix x0 [91]).bind fun v1 =>
    if v1 = true then
      ((m_desc_Parse x0).bind fun v2 =>
      some (v2.1, v2.2)) else
    (some (({ f_Dim := 0, f_Base := 0, f_Name := [] } : T_api_Type), 13)))
theorem w62 {x0 : List UInt8} {r : T_api_Type × Int} (h : m_desc_ParseClassConstant x0 = some r) : CallSpec Try.prog 62 [.str x0] (R62 r) :=
  cs Try.f62 <| bd h fun v0 e0 h => go [] [rg 1 [(1, k (w73 e0))]] <| br h (fun h0 h => go [] [] <| rt h) fun h0 h =>
  bd h fun v1 e1 h => go [] [rg 3 [(1, k (w74 e1))]] <| br h (fun h1 h => bd h fun v2 e2 h => go [] [rg 4 [(1, k (w64 e2))]] <| rt h) fun h1 h =>
    go [] [] <| rt h
/-! armature name.IsMemberName -/
def R63 (y0 : Bool) : D := .bool y0
def j63x1 (x0 : List UInt8) : Option (Bool) :=
  (m_name_IsClassName x0).bind fun v0 =>
  if v0 = true then ((m_strings_IndexByte x0 47).bind fun v1 =>
  some (decide (v1 < 0))) else
  (some false)
def m_name_IsMemberName (x0 : List UInt8) : Option (Bool) :=
  if (x0 == ([60, 105, 110, 105, 116, 62] : List UInt8)) = true then (some true) else
  (if (x0 == ([60, 99, 108, 105, 110, 105, 116, 62] : List UInt8)) = true then
    (some true) else
  ((j63x1 x0) ))
theorem wj63x1 {x0 : List UInt8} {r : Bool} {Γ : Ctx} (h : (j63x1 x0)  = some r) : Jn Try.prog Try.f63 Γ (Den.Ends Try.prog Try.f63 (R63 r)) 11 ⟨16, [(0, .str x0)], []⟩ :=
  so <| bd h fun v0 e0 h => sp h (fun h2 h => bd h fun v1 e1 h => go [] [rg 3 [(1, k (w73 e0)), (3, gw h2 g0), (4, gw h2 (k (w75 e1))), (5, gw h2 g0), (6, py h2)]] <| rt h) fun h2 h =>
  go [] [rg 3 [(1, k (w73 e0)), (3, gs1 h2), (4, gs1 h2), (5, gs1 h2), (6, pn h2)]] <| rt h
theorem w63 {x0 : List UInt8} {r : Bool} (h : m_name_IsMemberName x0 = some r) : CallSpec Try.prog 63 [.str x0] (R63 r) :=
  cs Try.f63 <| sp h (fun h0 h => go [] [rg 1 [(1, kb h0)]] <| bT rfl <| go [] [] <| rt h) fun h0 h =>
  go [] [rg 1 [(1, kb h0)]] <| br h (fun h1 h => go [] [] <| rt h) fun h1 h =>
  go [3] [] <| jn (wj63x1 h)
/-! armature desc.ParseSignature -/
def R65 (y0 : T_api_Sig × Int) : D := .tup [.agg (row_T_api_Sig y0.1), .int .i64 y0.2]
def j65x3 (t0 : (List UInt8) × (List T_api_Type)) (v9 : T_api_Type × (List UInt8) × Bool) : Option (Ctl ((List UInt8) × (List T_api_Type)) (((List T_api_Type) × (List UInt8)) ⊕ (T_api_Sig × Int))) :=
  (growK 32 (t0.2 ++ [v9.1]).length).bind fun v10 =>
  some (.next (v9.2.1, (t0.2 ++ [v9.1])))
def j65x2 (t0 : (List UInt8) × (List T_api_Type)) : Option (Ctl ((List UInt8) × (List T_api_Type)) (((List T_api_Type) × (List UInt8)) ⊕ (T_api_Sig × Int))) :=
  (m_desc_prefix t0.1).bind fun v9 =>
  if (!v9.2.2) = true then (some (.done (.inr (({ f_Params := ([] : List T_api_Type), f_Result := ({ f_Dim := 0, f_Base := 0, f_Name := [] } : T_api_Type) } : T_api_Sig), 13)))) else
  (if (v9.1.f_Base == 86) = true then
    (some (.done (.inr (({ f_Params := ([] : List T_api_Type), f_Result := ({ f_Dim := 0, f_Base := 0, f_Name := [] } : T_api_Type) } : T_api_Sig), 13)))) else
  ((j65x3 t0 v9) ))
def l65x1 (t0 : (List UInt8) × (List T_api_Type)) : Option (Ctl ((List UInt8) × (List T_api_Type)) (((List T_api_Type) × (List UInt8)) ⊕ (T_api_Sig × Int))) :=
  if (!(t0.1 == ([] : List UInt8))) = true then ((getS t0.1 0).bind fun v8 =>
  if (v8 != 41) = true then
    ((j65x2 t0) ) else
  (some (.done (.inl ((t0.2, t0.1)))))) else
  (some (.done (.inl ((t0.2, t0.1)))))
def j65x1 (x0 : List UInt8) : Option (T_api_Sig × Int) :=
  (sub x0 1 (x0.length : Int)).bind fun v1 =>
  (loopM l65x1 rounds (v1, ([] : List T_api_Type))).bind fun q1 =>
  match q1 with
  | .inl q0 => (if (q0.2 == ([] : List UInt8)) = true then
      (some (({ f_Params := ([] : List T_api_Type), f_Result := ({ f_Dim := 0, f_Base := 0, f_Name := [] } : T_api_Type) } : T_api_Sig), 13)) else
    ((sub q0.2 1 (q0.2.length : Int)).bind fun v11 =>
      (m_desc_Parse v11).bind fun v12 =>
      if (v12.2 != 0) = true then
        (some (({ f_Params := ([] : List T_api_Type), f_Result := ({ f_Dim := 0, f_Base := 0, f_Name := [] } : T_api_Type) } : T_api_Sig), v12.2)) else
      (if (decide ((q0.1.length : Int) > 16)) = true then
          (some (({ f_Params := ([] : List T_api_Type), f_Result := ({ f_Dim := 0, f_Base := 0, f_Name := [] } : T_api_Type) } : T_api_Sig), 5)) else
        (some (({ f_Params := q0.1, f_Result := v12.1 } : T_api_Sig), 0)))))
  | .inr y0 => (some y0)
def m_desc_ParseSignature (x0 : List UInt8) : Option (T_api_Sig × Int) :=
  if (x0 == ([] : List UInt8)) = true then (some (({ f_Params := ([] : List T_api_Type), f_Result := ({ f_Dim := 0, f_Base := 0, f_Name := [] } : T_api_Type) } : T_api_Sig), 13)) else
  ((getS x0 0).bind fun v0 =>
  if (v0 != 40) = true then
    (some (({ f_Params := ([] : List T_api_Type), f_Result := ({ f_Dim := 0, f_Base := 0, f_Name := [] } : T_api_Type) } : T_api_Sig), 13)) else
  ((j65x1 x0) ))
def st65x1  : ((List UInt8) × (List T_api_Type)) → SL :=
  fun t0 => ⟨70, [(0, .str t0.1), (2, .lptr 2 0 0), (4, .lptr 4 0 0)], [(2, { sz := 4, rows := [[.sl true (([] : List T_api_Type).map row_T_api_Type), dI 0, d8 0, .str []]], frz := 0, pure := false }), (4, { sz := 4, rows := [[.lsl 1004 0 ((t0.2.map row_T_api_Type).length), dI 0, d8 0, .str []]], frz := 0, pure := false }), (1004, { sz := 3, rows := (t0.2.map row_T_api_Type), frz := 0, pure := true })]⟩
def J65x1  : JT (((List T_api_Type) × (List UInt8)) ⊕ (T_api_Sig × Int)) :=
  ju (je 0 fun q0 : (List T_api_Type) × (List UInt8) => ⟨70, [(0, .str q0.2), (2, .lptr 2 0 0), (4, .lptr 4 0 0)], [(2, { sz := 4, rows := [[.sl true (([] : List T_api_Type).map row_T_api_Type), dI 0, d8 0, .str []]], frz := 0, pure := false }), (4, { sz := 4, rows := [[.lsl 1004 0 ((q0.1.map row_T_api_Type).length), dI 0, d8 0, .str []]], frz := 0, pure := false }), (1004, { sz := 3, rows := (q0.1.map row_T_api_Type), frz := 0, pure := true })]⟩) (jr Try.prog Try.f65 R65)
theorem wj65x3 {t0 : (List UInt8) × (List T_api_Type)} {v9 : T_api_Type × (List UInt8) × Bool} {r : Ctl ((List UInt8) × (List T_api_Type)) (((List T_api_Type) × (List UInt8)) ⊕ (T_api_Sig × Int))} {Γ : Ctx} (h : (j65x3 t0 v9)  = some r) : Jn Try.prog Try.f65 Γ (Rd st65x1 J65x1 r) 5775 ⟨70, [(2, .lptr 2 0 0), (4, .lptr 4 0 0), (5, .lptr 5 0 0), (6, .str v9.2.1)], [(2, { sz := 4, rows := [[.sl true (([] : List T_api_Type).map row_T_api_Type), dI 0, d8 0, .str []]], frz := 0, pure := false }), (4, { sz := 4, rows := [[.lsl 1004 0 ((t0.2.map row_T_api_Type).length), dI 0, d8 0, .str []]], frz := 0, pure := false }), (5, { sz := 3, rows := [row_T_api_Type v9.1], frz := 0, pure := false }), (1004, { sz := 3, rows := (t0.2.map row_T_api_Type), frz := 0, pure := true })]⟩ :=
  so <| bd h fun v10 e10 h => go [] [rg 9 [(3, br0 1 3), (4, ap e10)]] <| nx h
theorem wj65x2 {t0 : (List UInt8) × (List T_api_Type)} {r : Ctl ((List UInt8) × (List T_api_Type)) (((List T_api_Type) × (List UInt8)) ⊕ (T_api_Sig × Int))} {Γ : Ctx} (h : (j65x2 t0)  = some r) : Jn Try.prog Try.f65 Γ (Rd st65x1 J65x1 r) 1167 ⟨70, [(0, .str t0.1), (2, .lptr 2 0 0), (4, .lptr 4 0 0)], [(2, { sz := 4, rows := [[.sl true (([] : List T_api_Type).map row_T_api_Type), dI 0, d8 0, .str []]], frz := 0, pure := false }), (4, { sz := 4, rows := [[.lsl 1004 0 ((t0.2.map row_T_api_Type).length), dI 0, d8 0, .str []]], frz := 0, pure := false }), (1004, { sz := 3, rows := (t0.2.map row_T_api_Type), frz := 0, pure := true })]⟩ :=
  so <| bd h fun v9 e9 h => sp h (fun h12 h => go [] [rg 6 [(1, k (w76 e9))], rg 7 [(3, gs0 h12), (4, gs0 h12), (5, gs0 h12), (6, py h12)]] <| bT rfl <| go [] [] <| dn h (i2 iR)) fun h12 h =>
  go [] [rg 6 [(1, k (w76 e9))], rg 7 [(3, gw h12 g0), (4, gw h12 g0), (5, gw h12 g0), (6, pn h12)]] <| br h (fun h13 h => go [] [] <| dn h (i2 iR)) fun h13 h =>
  go [9] [] <| jn (wj65x3 h)
theorem wl65x1 {t0 : (List UInt8) × (List T_api_Type)} {r : Ctl ((List UInt8) × (List T_api_Type)) (((List T_api_Type) × (List UInt8)) ⊕ (T_api_Sig × Int))} {Γ : Ctx} (h : l65x1 t0 = some r) : A Try.prog Γ (lpC Try.f65 79) [] (Rd st65x1 J65x1 r) (st65x1 t0).s :=
  sp h (fun h10 h => bd h fun v8 e8 h => go [] [rg 5 [(1, kb h10), (4, ib e8)]] <| br h (fun h11 h => go [6] [] <| jn (wj65x2 h)) fun h11 h =>
  go [] [] <| dn h (i1 iE)) fun h10 h =>
  go [] [rg 5 [(1, kb h10)]] <| bF rfl <| go [] [] <| dn h (i1 iE)
theorem wj65x1 {x0 : List UInt8} {r : T_api_Sig × Int} {Γ : Ctx} (h : (j65x1 x0)  = some r) : Jn Try.prog Try.f65 Γ (Den.Ends Try.prog Try.f65 (R65 r)) 11 ⟨70, [(0, .str x0), (2, .lptr 2 0 0)], [(2, { sz := 4, rows := [[.sl true (([] : List T_api_Type).map row_T_api_Type), dI 0, d8 0, .str []]], frz := 0, pure := false })]⟩ :=
  so <| bd h fun v1 e1 h => go [] [rg 3 [(1, ss e1)]] <| bd h fun q1 e11 h => lp (cv := [.blk 4 0 1004 3]) e11 wl65x1 <| match q1, h with
  | .inl q0, h => j1 <| (qe <| goN [] [] <| br h (fun h14 h => go [] [] <| rt h) fun h14 h =>
    bd h fun v11 e12 h => bd h fun v12 e13 h => go [] [rg 13 [(1, ss e12), (2, k (w64 e13))]] <| br h (fun h15 h => go [] [] <| rt h) fun h15 h =>
      go [] [rg 16 [(2, ln q0.1)]] <| br h (fun h16 h => go [] [] <| rt h) fun h16 h =>
        go [] [] <| rtB h (.tup [.agg [rw_ q0.1, dI v12.1.f_Dim, d8 v12.1.f_Base, .str v12.1.f_Name], dI 0]) (a2 (a2 (rpI q0.1) (a2 trivial (a2 trivial (a2 trivial trivial)))) (a2 trivial trivial)) (by simp only [rwE] <;> kernel_rfl))
  | .inr y0, h => j2 <| (qr h)
theorem w65 {x0 : List UInt8} {r : T_api_Sig × Int} (h : m_desc_ParseSignature x0 = some r) : CallSpec Try.prog 65 [.str x0] (R65 r) :=
  cs Try.f65 <| sp h (fun h0 h => go [] [rg 1 [(1, kb h0)]] <| bT rfl <| go [] [] <| rt h) fun h0 h =>
  bd h fun v0 e0 h => go [] [rg 1 [(1, kb h0), (4, ib e0)]] <| br h (fun h1 h => go [] [] <| rt h) fun h1 h =>
  go [3] [] <| jn (wj65x1 h)
/-! armature pool.NameAndType -/
def R77 (y0 : (List UInt8) × (List UInt8) × Int) : D := .tup [.str y0.1, .str y0.2.1, .int .i64 y0.2.2]
def m_pool_NameAndType (x0 : List T_api_Const) (x1 : Int) : Option ((List UInt8) × (List UInt8) × Int) :=
  (m_pool_tagged x0 x1 12).bind fun v0 =>
  if (v0.2 != 0) = true then
    (some ([], [], v0.2)) else
  ((m_pool_UTF8 x0 v0.1.f_A).bind fun v1 =>
    if (v1.2 != 0) = true then
      (some ([], [], v1.2)) else
    ((m_pool_UTF8 x0 v0.1.f_B).bind fun v2 =>
      if (v2.2 != 0) = true then
        (some ([], [], v2.2)) else
      (some (v1.1, v2.1, 0))))
theorem w77 {x0 : List T_api_Const} {x1 : Int} {r : (List UInt8) × (List UInt8) × Int} (h : m_pool_NameAndType x0 x1 = some r) : CallSpec Try.prog 77 [.sl false (x0.map row_T_api_Const), dI x1] (R77 r) :=
  cs Try.f77 <| bd h fun v0 e0 h => go [] [rg 1 [(2, k (w44 e0))]] <| br h (fun h0 h => go [] [] <| rt h) fun h0 h =>
  bd h fun v1 e1 h => go [] [rg 4 [(3, k (w61 e1))]] <| br h (fun h1 h => go [] [] <| rt h) fun h1 h =>
    bd h fun v2 e2 h => go [] [rg 7 [(3, k (w61 e2))]] <| br h (fun h2 h => go [] [] <| rt h) fun h2 h =>
      go [] [] <| rt h
/-! armature pool.member -/
def R66 (y0 : Int) : D := .int .i64 y0
def j66x2 (p1 : Bool) : Option (Int) :=
  if p1 = true then
    (some 12) else
  (some 0)
def j66x1 (v0 : (List UInt8) × (List UInt8) × Int) (x1 : T_api_Const) (p0 : Bool) : Option (Int) :=
  if (x1.f_Tag == 9) = true then
    (if (!(v0.1 == ([] : List UInt8))) = true then ((getS v0.1 0).bind fun v2 =>
    j66x2 (v2 == 60)) else
    (j66x2 false)) else
  (j66x2 p0)
def m_pool_member (x0 : List T_api_Const) (x1 : T_api_Const) : Option (Int) :=
  (m_pool_NameAndType x0 x1.f_B).bind fun v0 =>
  if (v0.2.2 != 0) = true then
    (some 0) else
  ((m_desc_ParseSignature v0.2.1).bind fun v1 =>
    if ((v1.2 == 0) == (x1.f_Tag == 9)) = true then
      (some 13) else
    (if (v0.1 == ([60, 99, 108, 105, 110, 105, 116, 62] : List UInt8)) = true then ((j66x1 v0 x1) true) else
      (if (v0.1 == ([60, 105, 110, 105, 116, 62] : List UInt8)) = true then (if (x1.f_Tag == 11) = true then ((j66x1 v0 x1) true) else
          ((j66x1 v0 x1) (!(eqb_T_api_Type v1.1.f_Result ({ f_Dim := 0, f_Base := 86, f_Name := [] } : T_api_Type))))) else
        ((j66x1 v0 x1) false))))
theorem wj66x2 {p1 : Bool} {r : Int} {Γ : Ctx} (h : j66x2 p1 = some r) : Jn Try.prog Try.f66 Γ (Den.Ends Try.prog Try.f66 (R66 r)) 639 ⟨60, [(10, .bool p1)], []⟩ :=
  so <| go [] [] <| br h (fun h7 h => go [] [] <| rt h) fun h7 h =>
  go [] [] <| rt h
theorem wj66x1 {v0 : (List UInt8) × (List UInt8) × Int} {x1 : T_api_Const} {p0 : Bool} {r : Int} {Γ : Ctx} (h : (j66x1 v0 x1) p0 = some r) : Jn Try.prog Try.f66 Γ (Den.Ends Try.prog Try.f66 (R66 r)) 319 ⟨60, [(3, .ptr (row_T_api_Const x1)), (5, .str v0.1), (10, .bool p0)], []⟩ :=
  so <| go [] [] <| br h (fun h5 h => sp h (fun h6 h => bd h fun v2 e2 h => go [10] [rg 9 [(1, kb h6), (4, ib e2)]] <| jn (wj66x2 h)) fun h6 h =>
    go [10] [rg 9 [(1, kb h6)]] <| jn (wj66x2 h)) fun h5 h =>
  go [10] [] <| jn (wj66x2 h)
theorem w66 {x0 : List T_api_Const} {x1 : T_api_Const} {r : Int} (h : m_pool_member x0 x1 = some r) : CallSpec Try.prog 66 [.sl false (x0.map row_T_api_Const), .agg (row_T_api_Const x1)] (R66 r) :=
  cs Try.f66 <| bd h fun v0 e0 h => go [] [rg 0 [(0, bo)], rg 1 [(3, k (w77 e0))]] <| br h (fun h0 h => go [] [] <| rt h) fun h0 h =>
  bd h fun v1 e1 h => go [] [rg 4 [(1, k (w65 e1))]] <| br h (fun h1 h => go [] [] <| rt h) fun h1 h =>
    go [7] [] <| po <| pr 3 [] <| sp h (fun h2 h => pr 15 [(3, gs0 h2), (4, gs0 h2), (5, gs0 h2), (15, gs0 h2), (16, py h2)] <| pe <| goN [8] [] <| jn (wj66x1 h)) fun h2 h =>
      pr 3 [(3, gw h2 g0), (4, gw h2 g0), (5, gw h2 g0)] <| sp h (fun h3 h => pr 4 [(6, gw h3 g0), (7, gw h3 g0), (8, gw h3 g0), (9, gw h3 g0)] <| sp h (fun h4 h => pr 8 [(10, gs0 h4), (11, gs0 h4), (12, gs0 h4), (13, gs0 h4), (14, gw h3 (py h4)), (15, gw h2 (py h3)), (16, pn h2)] <| pe <| goN [8] [] <| jn (wj66x1 h)) fun h4 h =>
          pr 8 [(10, gw h4 g0), (11, gw h4 g0), (12, gw h4 g0), (13, gw h4 (qs eqg_85 eqp_85 (!(eqb_T_api_Type v1.1.f_Result ({ f_Dim := 0, f_Base := 86, f_Name := [] } : T_api_Type))))), (14, gw h3 (pn h4)), (15, gw h2 (py h3)), (16, pn h2)] <| pe <| goN [8] [] <| jn (wj66x1 h)) fun h3 h =>
        pr 12 [(6, gs1 h3), (7, gs1 h3), (8, gs1 h3), (9, gs1 h3), (14, gs1 h3), (15, gw h2 (pn h3)), (16, pn h2)] <| pe <| goN [8] [] <| jn (wj66x1 h)
/-! armature pool.texts -/
def R45 (y0 : Int) : D := .int .i64 y0
def j45x2 (x0 : List T_api_Const) (x1 : T_api_Const) : Option (Int) :=
  (m_pool_member x0 x1).bind fun v7 =>
  some v7
def j45x1 (x0 : List T_api_Const) (x1 : T_api_Const) : Option (Int) :=
  if (x1.f_Tag == 11) = true then
    ((j45x2 x0 x1) ) else
  (some 0)
def m_pool_texts (x0 : List T_api_Const) (x1 : T_api_Const) : Option (Int) :=
  if (x1.f_Tag == 7) = true then
    ((m_pool_UTF8 x0 x1.f_A).bind fun v0 =>
    (m_desc_ParseClassConstant v0.1).bind fun v1 =>
    if (v1.2 != 0) = true then
      (some 13) else
    (some 0)) else
  (if (x1.f_Tag == 12) = true then
      ((m_pool_UTF8 x0 x1.f_A).bind fun v2 =>
      (m_pool_UTF8 x0 x1.f_B).bind fun v3 =>
      (m_name_IsMemberName v2.1).bind fun v4 =>
      if (!v4) = true then
        (some 12) else
      ((m_desc_Parse v3.1).bind fun v5 =>
        (m_desc_ParseSignature v3.1).bind fun v6 =>
        if (v6.2 != 0) = true then (if (v5.2 != 0) = true then (some 13) else
          (if (v5.1.f_Base == 86) = true then
              (some 13) else
            (some 0))) else
        (some 0))) else
    (if (x1.f_Tag == 9) = true then
        ((j45x2 x0 x1) ) else
      (if (x1.f_Tag == 10) = true then
          ((j45x2 x0 x1) ) else
        ((j45x1 x0 x1) ))))
theorem wj45x2 {x0 : List T_api_Const} {x1 : T_api_Const} {r : Int} {Γ : Ctx} (h : (j45x2 x0 x1)  = some r) : Jn Try.prog Try.f45 Γ (Den.Ends Try.prog Try.f45 (R45 r)) 2549 ⟨82, [(0, .sl false (x0.map row_T_api_Const)), (3, .ptr (row_T_api_Const x1))], []⟩ :=
  so <| bd h fun v7 e7 h => go [] [rg 19 [(2, k (w66 e7))]] <| rt h
theorem wj45x1 {x0 : List T_api_Const} {x1 : T_api_Const} {r : Int} {Γ : Ctx} (h : (j45x1 x0 x1)  = some r) : Jn Try.prog Try.f45 Γ (Den.Ends Try.prog Try.f45 (R45 r)) 1013 ⟨82, [(0, .sl false (x0.map row_T_api_Const)), (3, .ptr (row_T_api_Const x1)), (75, .bool (x1.f_Tag == 11))], []⟩ (x1.f_Tag == 11) :=
  br h (fun h9 h => go [19] [] <| jn (wj45x2 h)) fun h9 h =>
  go [] [] <| rt h
theorem w45 {x0 : List T_api_Const} {x1 : T_api_Const} {r : Int} (h : m_pool_texts x0 x1 = some r) : CallSpec Try.prog 45 [.sl false (x0.map row_T_api_Const), .agg (row_T_api_Const x1)] (R45 r) :=
  cs Try.f45 <| go [] [rg 0 [(0, bo)]] <| br h (fun h0 h => bd h fun v0 e0 h => bd h fun v1 e1 h => go [] [rg 3 [(3, k (w61 e0))], rg 4 [(1, k (w62 e1))]] <| br h (fun h1 h => go [] [] <| rt h) fun h1 h =>
    go [] [] <| rt h) fun h0 h =>
  go [] [] <| br h (fun h2 h => bd h fun v2 e2 h => bd h fun v3 e3 h => bd h fun v4 e4 h => go [] [rg 8 [(3, k (w61 e2))], rg 9 [(3, k (w61 e3))], rg 10 [(1, k (w63 e4))]] <| br h (fun h3 h => go [] [] <| rt h) fun h3 h =>
      bd h fun v5 e5 h => bd h fun v6 e6 h => go [14] [rg 12 [(1, k (w64 e5))], rg 13 [(1, k (w65 e6))]] <| po <| pr 3 [] <| sp h (fun h4 h => pr 3 [(3, gw h4 g0), (4, gw h4 g0), (5, gw h4 g0)] <| sp h (fun h5 h => pr 5 [(6, gs0 h5), (7, gs0 h5), (8, gs0 h5), (9, gw h4 (py h5)), (10, py h4)] <| pe <| goN [] [] <| bT rfl <| go [] [] <| rt h) fun h5 h =>
          pr 5 [(6, gw h5 g0), (7, gw h5 g0), (8, gw h5 g0), (9, gw h4 (pn h5)), (10, py h4)] <| pe <| goN [] [] <| br h (fun h6 h => go [] [] <| rt h) fun h6 h =>
            go [] [] <| rt h) fun h4 h =>
        pr 8 [(3, gs1 h4), (4, gs1 h4), (5, gs1 h4), (9, gs1 h4), (10, pn h4)] <| pe <| goN [] [] <| bF rfl <| go [] [] <| rt h) fun h2 h =>
    go [] [] <| br h (fun h7 h => go [] [] <| bT h7 <| go [19] [] <| jn (wj45x2 h)) fun h7 h =>
      go [] [] <| br h (fun h8 h => go [] [] <| bT h8 <| go [19] [] <| jn (wj45x2 h)) fun h8 h =>
        go [] [] <| jn (wj45x1 h)
/-! armature pool.check -/
def R27 (y0 : Int) : D := .int .i64 y0
def j27x3 (x0 : List T_api_Const) (x1 : T_api_Const) : Option (Int) :=
  (m_pool_texts x0 x1).bind fun v8 =>
  some v8
def j27x2 (v0 : Int × Int × Bool) (x0 : List T_api_Const) (x1 : T_api_Const) : Option (Int) :=
  if (v0.2.1 != 0) = true then
    ((m_pool_tagged x0 x1.f_B v0.2.1).bind fun v7 =>
    if (v7.2 != 0) = true then
      (some v7.2) else
    ((j27x3 x0 x1) )) else
  ((j27x3 x0 x1) )
def j27x1 (v0 : Int × Int × Bool) (x0 : List T_api_Const) (x1 : T_api_Const) : Option (Int) :=
  if (v0.1 != 0) = true then
    ((m_pool_tagged x0 x1.f_A v0.1).bind fun v6 =>
    if (v6.2 != 0) = true then
      (some v6.2) else
    ((j27x2 v0 x0 x1) )) else
  ((j27x2 v0 x0 x1) )
def m_pool_check (x0 : List T_api_Const) (x1 : T_api_Const) : Option (Int) :=
  (m_pool_links x1.f_Tag).bind fun v0 =>
  if (!v0.2.2) = true then
    (some 11) else
  ((m_pool_unused x1 v0.1 v0.2.1).bind fun v1 =>
    if v1 = true then
      (some 4) else
    (if (x1.f_Tag == 1) = true then (if (decide ((x1.f_S.length : Int) > 1024)) = true then (some 8) else
        (if (x1.f_Tag == 3) = true then ((some (IntKind.wrap .i32 x1.f_N)).bind fun v2 =>
            (some (IntKind.wrap .i64 v2)).bind fun v3 =>
            if (v3 != x1.f_N) = true then
              (some 8) else
            ((j27x1 v0 x0 x1) )) else
          ((j27x1 v0 x0 x1) ))) else
      (if (x1.f_Tag == 3) = true then ((some (IntKind.wrap .i32 x1.f_N)).bind fun v4 =>
          (some (IntKind.wrap .i64 v4)).bind fun v5 =>
          if (v5 != x1.f_N) = true then
            (some 8) else
          ((j27x1 v0 x0 x1) )) else
        ((j27x1 v0 x0 x1) ))))
theorem wj27x3 {x0 : List T_api_Const} {x1 : T_api_Const} {r : Int} {Γ : Ctx} (h : (j27x3 x0 x1)  = some r) : Jn Try.prog Try.f27 Γ (Den.Ends Try.prog Try.f27 (R27 r)) 383 ⟨77, [(0, .sl false (x0.map row_T_api_Const)), (3, .ptr (row_T_api_Const x1))], []⟩ :=
  so <| bd h fun v8 e8 h => go [] [rg 16 [(2, k (w45 e8))]] <| rt h
theorem wj27x2 {v0 : Int × Int × Bool} {x0 : List T_api_Const} {x1 : T_api_Const} {r : Int} {Γ : Ctx} (h : (j27x2 v0 x0 x1)  = some r) : Jn Try.prog Try.f27 Γ (Den.Ends Try.prog Try.f27 (R27 r)) 319 ⟨77, [(0, .sl false (x0.map row_T_api_Const)), (3, .ptr (row_T_api_Const x1)), (6, dI v0.2.1)], []⟩ :=
  so <| go [] [] <| br h (fun h10 h => bd h fun v7 e7 h => go [] [rg 13 [(4, k (w44 e7))]] <| br h (fun h11 h => go [] [] <| rt h) fun h11 h =>
    go [16] [] <| jn (wj27x3 h)) fun h10 h =>
  go [16] [] <| jn (wj27x3 h)
theorem wj27x1 {v0 : Int × Int × Bool} {x0 : List T_api_Const} {x1 : T_api_Const} {r : Int} {Γ : Ctx} (h : (j27x1 v0 x0 x1)  = some r) : Jn Try.prog Try.f27 Γ (Den.Ends Try.prog Try.f27 (R27 r)) 159 ⟨77, [(0, .sl false (x0.map row_T_api_Const)), (3, .ptr (row_T_api_Const x1)), (5, dI v0.1), (6, dI v0.2.1)], []⟩ :=
  so <| go [] [] <| br h (fun h8 h => bd h fun v6 e6 h => go [] [rg 9 [(4, k (w44 e6))]] <| br h (fun h9 h => go [] [] <| rt h) fun h9 h =>
    go [12] [] <| jn (wj27x2 h)) fun h8 h =>
  go [12] [] <| jn (wj27x2 h)
theorem w27 {x0 : List T_api_Const} {x1 : T_api_Const} {r : Int} (h : m_pool_check x0 x1 = some r) : CallSpec Try.prog 27 [.sl false (x0.map row_T_api_Const), .agg (row_T_api_Const x1)] (R27 r) :=
  cs Try.f27 <| bd h fun v0 e0 h => go [] [rg 0 [(0, bo)], rg 1 [(2, k (w42 e0))]] <| br h (fun h0 h => go [] [] <| rt h) fun h0 h =>
  bd h fun v1 e1 h => go [] [rg 4 [(3, k (w43 e1))]] <| br h (fun h1 h => go [] [] <| rt h) fun h1 h =>
    go [6] [] <| po <| pr 4 [] <| sp h (fun h2 h => pr 6 [(4, gw h2 g0), (5, gw h2 g0), (6, gw h2 g0), (7, gw h2 g0), (8, py h2)] <| sp h (fun h3 h => pr 13 [(10, gs0 h3), (11, gs0 h3), (12, gs0 h3), (13, gs0 h3), (21, gs0 h3), (22, py h3)] <| pe <| goN [] [] <| bT rfl <| go [] [] <| rt h) fun h3 h =>
        pr 4 [(10, gw h3 g0), (11, gw h3 g0), (12, gw h3 g0), (13, gw h3 g0)] <| sp h (fun h4 h => bd h fun v2 e2 h => bd h fun v3 e3 h => pr 9 [(14, gw h4 g0), (15, gw h4 g0), (16, gw h4 (n e2 .i32)), (17, gw h4 (n e3)), (18, gw h4 g0), (19, gw h4 g0), (20, gw h4 g0), (21, gw h3 (py h4)), (22, pn h3)] <| pe <| goN [] [] <| br h (fun h5 h => go [] [] <| rt h) fun h5 h =>
            go [8] [] <| jn (wj27x1 h)) fun h4 h =>
          pr 9 [(14, gs1 h4), (15, gs1 h4), (16, gs1 h4), (17, gs1 h4), (18, gs1 h4), (19, gs1 h4), (20, gs1 h4), (21, gw h3 (pn h4)), (22, pn h3)] <| pe <| goN [] [] <| bF rfl <| go [8] [] <| jn (wj27x1 h)) fun h2 h =>
      pr 10 [(4, gs1 h2), (5, gs1 h2), (6, gs1 h2), (7, gs1 h2), (8, pn h2)] <| sp h (fun h6 h => bd h fun v4 e4 h => bd h fun v5 e5 h => pr 9 [(14, gw h6 g0), (15, gw h6 g0), (16, gw h6 (n e4 .i32)), (17, gw h6 (n e5)), (18, gw h6 g0), (19, gw h6 g0), (20, gw h6 g0), (21, py h6)] <| pe <| goN [] [] <| br h (fun h7 h => go [] [] <| rt h) fun h7 h =>
          go [8] [] <| jn (wj27x1 h)) fun h6 h =>
        pr 9 [(14, gs1 h6), (15, gs1 h6), (16, gs1 h6), (17, gs1 h6), (18, gs1 h6), (19, gs1 h6), (20, gs1 h6), (21, pn h6)] <| pe <| goN [] [] <| bF rfl <| go [8] [] <| jn (wj27x1 h)
/-! armature pool.Check -/
def R15 (y0 : Int × Int) : D := .tup [.int .i64 y0.1, .int .i64 y0.2]
def l15x1 (x0 : List T_api_Const) (t0 : Int) : Option (Ctl (Int) (Unit ⊕ (Int × Int))) :=
  if (decide (t0 < (x0.length : Int))) = true then
    ((getR x0 t0).bind fun v2 =>
    (m_pool_check x0 v2).bind fun v3 =>
    if (v3 != 0) = true then
      ((some (IntKind.wrap .i64 (t0 + (1 : Int)))).bind fun v4 =>
      some (.done (.inr (v4, v3)))) else
    ((some (IntKind.wrap .i64 (t0 + (1 : Int)))).bind fun v5 =>
      some (.next v5))) else
  (some (.done (.inl (()))))
def m_pool_Check (x0 : List T_api_Const) : Option (Int × Int) :=
  if (decide ((x0.length : Int) > 1000)) = true then
    (some (0, 5)) else
  ((loopM (l15x1 x0) rounds 0).bind fun q1 =>
    match q1 with
    | .inl q0 => (some (0, 0))
    | .inr y0 => (some y0))
def st15x1 (x0 : List T_api_Const) : Int → SL :=
  fun t0 => ⟨26, [(0, .sl false (x0.map row_T_api_Const)), (10, .sl false (x0.map row_T_api_Const)), (11, dI (x0.length : Int)), (12, dI t0)], []⟩
def J15x1  : JT (Unit ⊕ (Int × Int)) :=
  ju (je 0 fun q0 : Unit => ⟨26, [], []⟩) (jr Try.prog Try.f15 R15)
theorem wl15x1 {x0 : List T_api_Const} {t0 : Int} {r : Ctl (Int) (Unit ⊕ (Int × Int))} {Γ : Ctx} (h : (l15x1 x0) t0 = some r) : A Try.prog Γ (lpC Try.f15 43) [] (Rd (st15x1 x0) J15x1 r) ((st15x1 x0) t0).s :=
  go [] [] <| br h (fun h3 h => bd h fun v2 e2 h => bd h fun v3 e3 h => go [] [rg 5 [(1, ix e2)], rg 6 [(2, k (w27 e3))]] <| br h (fun h4 h => bd h fun v4 e4 h => go [] [rg 8 [(1, n e4)]] <| dn h (i2 iR)) fun h4 h =>
    bd h fun v5 e5 h => go [] [rg 9 [(0, n e5)]] <| nx h) fun h3 h =>
  go [] [] <| dn h (i1 iE)
theorem w15 {x0 : List T_api_Const} {r : Int × Int} (h : m_pool_Check x0 = some r) : CallSpec Try.prog 15 [.sl false (x0.map row_T_api_Const)] (R15 r) :=
  cs Try.f15 <| go [] [rg 1 [(1, ln x0)]] <| br h (fun h0 h => go [] [] <| rt h) fun h0 h =>
  go [] [rg 3 [(1, ln x0)]] <| bd h fun q1 e6 h => lp e6 wl15x1 <| match q1, h with
    | .inl q0, h => j1 <| (qe <| goN [] [] <| rt h)
    | .inr y0, h => j2 <| (qr h)
/-! armature octet.width -/
def R46 (y0 : Int) : D := .int .i64 y0
def j46x1 (x0 : Int) : Option (Int) :=
  if (x0 == 8) = true then
    ((some (IntKind.wrap .i64 ((8 : Int) * x0))).bind fun v3 =>
    some v3) else
  (some 0)
def m_octet_width (x0 : Int) : Option (Int) :=
  if (x0 == 1) = true then
    ((some (IntKind.wrap .i64 ((8 : Int) * x0))).bind fun v0 =>
    some v0) else
  (if (x0 == 2) = true then
      ((some (IntKind.wrap .i64 ((8 : Int) * x0))).bind fun v1 =>
      some v1) else
    (if (x0 == 4) = true then
        ((some (IntKind.wrap .i64 ((8 : Int) * x0))).bind fun v2 =>
        some v2) else
      ((j46x1 x0) )))
theorem wj46x1 {x0 : Int} {r : Int} {Γ : Ctx} (h : (j46x1 x0)  = some r) : Jn Try.prog Try.f46 Γ (Den.Ends Try.prog Try.f46 (R46 r)) 53 ⟨11, [(0, dI x0), (4, .bool (x0 == 8))], []⟩ (x0 == 8) :=
  br h (fun h3 h => bd h fun v3 e3 h => go [] [rg 6 [(1, n e3)]] <| rt h) fun h3 h =>
  go [] [] <| rt h
theorem w46 {x0 : Int} {r : Int} (h : m_octet_width x0 = some r) : CallSpec Try.prog 46 [dI x0] (R46 r) :=
  cs Try.f46 <| go [] [] <| br h (fun h0 h => go [] [] <| bT h0 <| bd h fun v0 e0 h => go [] [rg 6 [(1, n e0)]] <| rt h) fun h0 h =>
  go [] [] <| br h (fun h1 h => go [] [] <| bT h1 <| bd h fun v1 e1 h => go [] [rg 6 [(1, n e1)]] <| rt h) fun h1 h =>
    go [] [] <| br h (fun h2 h => go [] [] <| bT h2 <| bd h fun v2 e2 h => go [] [rg 6 [(1, n e2)]] <| rt h) fun h2 h =>
      go [] [] <| jn (wj46x1 h)
/-! armature octet.Put -/
def R28 (y0 : (List UInt8) × Int) : D := .tup [.str y0.1, .int .i64 y0.2]
def l28x1 (t0 : Int × Int × (List Int)) : Option (Ctl (Int × Int × (List Int)) (((List Int)))) :=
  if (decide (t0.1 ≥ 0)) = true then
    ((some (IntKind.wrap .u8 t0.2.1)).bind fun v13 =>
    (idxK t0.1 t0.2.2.length).bind fun v14 =>
    (t0.2.2[v14]?).bind fun v15 =>
    (some (IntKind.wrap .i64 (t0.1 - (1 : Int)))).bind fun v16 =>
    (shrK .u64 t0.2.1 (8 : Int)).bind fun v17 =>
    some (.next (v16, v17, (t0.2.2.set v14 v13)))) else
  (some (.done (t0.2.2)))
def j28x1 (x0 x1 : Int) : Option ((List UInt8) × Int) :=
  (makeK 1 x1 x1).bind fun v5 =>
  (some (IntKind.wrap .i64 (x1 - (1 : Int)))).bind fun v6 =>
  (some (IntKind.wrap .u64 x0)).bind fun v7 =>
  (loopM l28x1 rounds (v6, v7, (List.replicate x1.toNat 0))).bind fun q0 =>
  some ((bytesOf q0), 0)
def m_octet_Put (x0 x1 : Int) : Option ((List UInt8) × Int) :=
  (m_octet_width x1).bind fun v0 =>
  if (v0 == 0) = true then
    (some ([], 1)) else
  (if (decide (v0 < 64)) = true then ((some (IntKind.wrap .i64 (v0 - (1 : Int)))).bind fun v1 =>
      (shlK .i64 (1 : Int) v1).bind fun v2 =>
      (some (IntKind.wrap .i64 (0 - v2))).bind fun v3 =>
      if (decide (x0 < v3)) = true then (some ([], 8)) else
      ((shlK .i64 (1 : Int) v0).bind fun v4 =>
        if (decide (x0 ≥ v4)) = true then
          (some ([], 8)) else
        ((j28x1 x0 x1) ))) else
    ((j28x1 x0 x1) ))
def st28x1  : (Int × Int × (List Int)) → SL :=
  fun t0 => ⟨49, [(7, .lsl 7 0 ((t0.2.2.map rU8).length)), (8, dI t0.1), (9, .int .u64 t0.2.1)], [(7, { sz := 1, rows := (t0.2.2.map rU8), frz := 0, pure := true })]⟩
def J28x1  : JT (((List Int))) :=
  je 0 fun q0 : (List Int) => ⟨49, [(7, .lsl 7 0 ((q0.map rU8).length))], [(7, { sz := 1, rows := (q0.map rU8), frz := 0, pure := true })]⟩
theorem wl28x1 {t0 : Int × Int × (List Int)} {r : Ctl (Int × Int × (List Int)) (((List Int)))} {Γ : Ctx} (h : l28x1 t0 = some r) : A Try.prog Γ (lpC Try.f28 351) [] (Rd st28x1 J28x1 r) (st28x1 t0).s :=
  go [] [] <| br h (fun h5 h => bd h fun v13 e13 h => bd h fun v14 e14 h => bd h fun v15 e15 h => go [9] [rg 10 [(3, n8 e13), (4, ia (R := RU8) 7 e14), (5, st (R := RU8) e15 0 [d8 v13] v13)]] <| nm (congrArg (fun nn : Nat => (⟨49, [(7, .lsl 7 0 nn), (8, dI t0.1), (9, .int .u64 t0.2.1)], [(7, { sz := 1, rows := ((t0.2.2.set v14 v13).map rU8), frz := 0, pure := true })]⟩ : SL)) (by simp only [List.length_map, List.length_set] : (t0.2.2.map rU8).length = ((t0.2.2.set v14 v13).map rU8).length)) <| so <| bd h fun v16 e16 h => bd h fun v17 e17 h => go [] [rg 9 [(1, n e16), (3, sr e17)]] <| nx h) fun h5 h =>
  go [] [] <| dn h (iE)
theorem wj28x1 {x0 x1 : Int} {r : (List UInt8) × Int} {Γ : Ctx} (h : (j28x1 x0 x1)  = some r) : Jn Try.prog Try.f28 Γ (Den.Ends Try.prog Try.f28 (R28 r)) 47 ⟨49, [(0, dI x0), (1, dI x1)], []⟩ :=
  so <| bd h fun v5 e5 h => bd h fun v6 e6 h => bd h fun v7 e7 h => go [] [rg 6 [(1, mk (R := RU8) (0 : Int) e5)], rg 7 [(1, n e6), (3, n e7 .u64)]] <| bd h fun q0 e18 h => lp (ps := [(31, 7)]) e18 wl28x1 <| qe <| goN [] [rg 11 [(1, bsB q0)]] <| rt h
theorem w28 {x0 x1 : Int} {r : (List UInt8) × Int} (h : m_octet_Put x0 x1 = some r) : CallSpec Try.prog 28 [dI x0, dI x1] (R28 r) :=
  cs Try.f28 <| bd h fun v0 e0 h => go [] [rg 1 [(1, k (w46 e0))]] <| br h (fun h0 h => go [] [] <| rt h) fun h0 h =>
  go [4] [] <| po <| pr 3 [] <| sp h (fun h1 h => bd h fun v1 e1 h => bd h fun v2 e2 h => bd h fun v3 e3 h => pr 7 [(3, gw h1 g0), (4, gw h1 g0), (5, gw h1 (n e1)), (6, gw h1 (sl e2)), (7, gw h1 (n e3)), (8, gw h1 g0), (9, gw h1 g0)] <| sp h (fun h2 h => pr 6 [(10, gs0 h2), (11, gs0 h2), (12, gs0 h2), (13, gs0 h2), (14, gw h1 (py h2)), (15, py h1)] <| pe <| goN [] [] <| bT rfl <| go [] [] <| rt h) fun h2 h =>
      bd h fun v4 e4 h => pr 6 [(10, gw h2 g0), (11, gw h2 g0), (12, gw h2 (sl e4)), (13, gw h2 g0), (14, gw h1 (pn h2)), (15, py h1)] <| pe <| goN [] [] <| br h (fun h3 h => go [] [] <| rt h) fun h3 h =>
        go [6] [] <| jn (wj28x1 h)) fun h1 h =>
    pr 13 [(3, gs1 h1), (4, gs1 h1), (5, gs1 h1), (6, gs1 h1), (7, gs1 h1), (8, gs1 h1), (9, gs1 h1), (14, gs1 h1), (15, pn h1)] <| pe <| goN [] [] <| bF rfl <| go [6] [] <| jn (wj28x1 h)
/-! internal abi.NoEscape -/
theorem ne47 : isNoEsc Try.prog 47 := ⟨Try.f47, Try.func47, by kernel_rfl, by kernel_rfl, by kernel_rfl, by kernel_rfl⟩
/-!   strings.Builder .copyCheck -/
def B29n43 (y0 : List Int) : List Blk := [{ sz := 2, rows := [[.lptr 0 0 0, .lsl 1 0 ((y0.map rU8).length)]], frz := 0, pure := false, pin := some 0, ty := some 43 }, { sz := 1, rows := (y0.map rU8), frz := 0, pure := true, ty := some 5 }]
def R29n43 (y0 : List Int) : D := .tup []
def m_strings_Builder_copyCheck_n43 (x0 : List Int) : Option (List Int) :=
  some x0
theorem w29n43 {x0 : List Int} {r : List Int} (h : m_strings_Builder_copyCheck_n43 x0 = some r) : CallSpecO Try.prog 29 [.lptr 0 0 0] [{ sz := 2, rows := [[.nilptr, .lsl 1 0 ((x0.map rU8).length)]], frz := 0, pure := false, pin := some 0, ty := some 43 }, { sz := 1, rows := (x0.map rU8), frz := 0, pure := true, ty := some 5 }] (R29n43 r) (B29n43 r) :=
  csO Try.f29 (m := 2) (keep := [true, false]) <| go [] [] <| bT rfl <| go [] [rg 1 [(3, ne ne47)]] <| rtO h (.tup []) [{ sz := 2, rows := [[.lptr 0 0 0, .lsl 1 0 ((x0.map rU8).length)]], frz := 0, pure := false, pin := some 0, ty := some 43 }, { sz := 1, rows := (x0.map rU8), frz := 0, pure := true, ty := some 5 }] trivial rfl
/-!   strings.Builder .WriteString -/
def B18n43 (y0 : List Int × Int × Unit) : List Blk := [{ sz := 2, rows := [[.lptr 0 0 0, .lsl 1 0 ((y0.1.map rU8).length)]], frz := 0, pure := false, pin := some 0, ty := some 43 }, { sz := 1, rows := (y0.1.map rU8), frz := 0, pure := true, ty := some 5 }]
def R18n43 (y0 : List Int × Int × Unit) : D := .tup [.int .i64 y0.2.1, .undef]
def m_strings_Builder_WriteString_n43 (x0 : List Int) (x1 : List UInt8) : Option (List Int × Int × Unit) :=
  (m_strings_Builder_copyCheck_n43 x0).bind fun v0 =>
  (growK 1 (v0 ++ (bytesI x1)).length).bind fun v1 =>
  some ((v0 ++ (bytesI x1)), (x1.length : Int), ())
theorem w18n43 {x0 : List Int} {x1 : List UInt8} {r : List Int × Int × Unit} (h : m_strings_Builder_WriteString_n43 x0 x1 = some r) : CallSpecO Try.prog 18 [.lptr 0 0 0, .str x1] [{ sz := 2, rows := [[.nilptr, .lsl 1 0 ((x0.map rU8).length)]], frz := 0, pure := false, pin := some 0, ty := some 43 }, { sz := 1, rows := (x0.map rU8), frz := 0, pure := true, ty := some 5 }] (R18n43 r) (B18n43 r) :=
  csO Try.f18 (m := 2) (keep := [true, false]) <| bd h fun v0 e0 h => bd h fun v1 e1 h => go [] [rg 1 [(1, ko [0, 1] (w29n43 e0))], rg 2 [(6, apT e1)]] <| rtO h (.tup [dI (x1.length : Int), .undef]) [{ sz := 2, rows := [[.lptr 0 0 0, .lsl 1 0 (((v0 ++ (bytesI x1)).map rU8).length)]], frz := 0, pure := false, pin := some 0, ty := some 43 }, { sz := 1, rows := ((v0 ++ (bytesI x1)).map rU8), frz := 0, pure := true, ty := some 5 }] (a2 trivial trivial) rfl
/-!   armature poolcode.writer .number -/
def B16n43 (y0 : List Int) : List Blk := [{ sz := 2, rows := [[.lptr 0 0 0, .lsl 1 0 ((y0.map rU8).length)]], frz := 0, pure := false, pin := some 0, ty := some 43 }, { sz := 1, rows := (y0.map rU8), frz := 0, pure := true, ty := some 5 }]
def R16n43 (y0 : List Int) : D := .tup []
def m_armature_poolcode_writer_number_n43 (x0 : List Int) (x1 x2 : Int) : Option (List Int) :=
  (m_octet_Put x1 x2).bind fun v0 =>
  (m_strings_Builder_WriteString_n43 x0 v0.1).bind fun v1 =>
  some v1.1
theorem w16n43 {x0 : List Int} {x1 x2 : Int} {r : List Int} (h : m_armature_poolcode_writer_number_n43 x0 x1 x2 = some r) : CallSpecO Try.prog 16 [.lptr 0 0 0, dI x1, dI x2] [{ sz := 2, rows := [[.nilptr, .lsl 1 0 ((x0.map rU8).length)]], frz := 0, pure := false, pin := some 0, ty := some 43 }, { sz := 1, rows := (x0.map rU8), frz := 0, pure := true, ty := some 5 }] (R16n43 r) (B16n43 r) :=
  csO Try.f16 (m := 2) (keep := [true, false]) <| bd h fun v0 e0 h => bd h fun v1 e1 h => go [] [rg 0 [(2, k (w28 e0))], rg 1 [(4, ko [0, 1] (w18n43 e1))]] <| rtO h (.tup []) [{ sz := 2, rows := [[.lptr 0 0 0, .lsl 1 0 ((v1.1.map rU8).length)]], frz := 0, pure := false, pin := some 0, ty := some 43 }, { sz := 1, rows := (v1.1.map rU8), frz := 0, pure := true, ty := some 5 }] trivial rfl
/-!   strings.Builder .copyCheck -/
def B29s43 (y0 : List Int) : List Blk := [{ sz := 2, rows := [[.lptr 0 0 0, .lsl 1 0 ((y0.map rU8).length)]], frz := 0, pure := false, pin := some 0, ty := some 43 }, { sz := 1, rows := (y0.map rU8), frz := 0, pure := true, ty := some 5 }]
def R29s43 (y0 : List Int) : D := .tup []
def m_strings_Builder_copyCheck_s43 (x0 : List Int) : Option (List Int) :=
  some x0
theorem w29s43 {x0 : List Int} {r : List Int} (h : m_strings_Builder_copyCheck_s43 x0 = some r) : CallSpecO Try.prog 29 [.lptr 0 0 0] [{ sz := 2, rows := [[.lptr 0 0 0, .lsl 1 0 ((x0.map rU8).length)]], frz := 0, pure := false, pin := some 0, ty := some 43 }, { sz := 1, rows := (x0.map rU8), frz := 0, pure := true, ty := some 5 }] (R29s43 r) (B29s43 r) :=
  csO Try.f29 (m := 2) (keep := [true, false]) <| go [] [] <| bF rfl <| go [] [] <| bF rfl <| go [] [] <| rtO h (.tup []) [{ sz := 2, rows := [[.lptr 0 0 0, .lsl 1 0 ((x0.map rU8).length)]], frz := 0, pure := false, pin := some 0, ty := some 43 }, { sz := 1, rows := (x0.map rU8), frz := 0, pure := true, ty := some 5 }] trivial rfl
/-!   strings.Builder .WriteString -/
def B18s43 (y0 : List Int × Int × Unit) : List Blk := [{ sz := 2, rows := [[.lptr 0 0 0, .lsl 1 0 ((y0.1.map rU8).length)]], frz := 0, pure := false, pin := some 0, ty := some 43 }, { sz := 1, rows := (y0.1.map rU8), frz := 0, pure := true, ty := some 5 }]
def R18s43 (y0 : List Int × Int × Unit) : D := .tup [.int .i64 y0.2.1, .undef]
def m_strings_Builder_WriteString_s43 (x0 : List Int) (x1 : List UInt8) : Option (List Int × Int × Unit) :=
  (m_strings_Builder_copyCheck_s43 x0).bind fun v0 =>
  (growK 1 (v0 ++ (bytesI x1)).length).bind fun v1 =>
  some ((v0 ++ (bytesI x1)), (x1.length : Int), ())
theorem w18s43 {x0 : List Int} {x1 : List UInt8} {r : List Int × Int × Unit} (h : m_strings_Builder_WriteString_s43 x0 x1 = some r) : CallSpecO Try.prog 18 [.lptr 0 0 0, .str x1] [{ sz := 2, rows := [[.lptr 0 0 0, .lsl 1 0 ((x0.map rU8).length)]], frz := 0, pure := false, pin := some 0, ty := some 43 }, { sz := 1, rows := (x0.map rU8), frz := 0, pure := true, ty := some 5 }] (R18s43 r) (B18s43 r) :=
  csO Try.f18 (m := 2) (keep := [true, false]) <| bd h fun v0 e0 h => bd h fun v1 e1 h => go [] [rg 1 [(1, ko [0, 1] (w29s43 e0))], rg 2 [(6, apT e1)]] <| rtO h (.tup [dI (x1.length : Int), .undef]) [{ sz := 2, rows := [[.lptr 0 0 0, .lsl 1 0 (((v0 ++ (bytesI x1)).map rU8).length)]], frz := 0, pure := false, pin := some 0, ty := some 43 }, { sz := 1, rows := ((v0 ++ (bytesI x1)).map rU8), frz := 0, pure := true, ty := some 5 }] (a2 trivial trivial) rfl
/-!   armature poolcode.writer .number -/
def B16s43 (y0 : List Int) : List Blk := [{ sz := 2, rows := [[.lptr 0 0 0, .lsl 1 0 ((y0.map rU8).length)]], frz := 0, pure := false, pin := some 0, ty := some 43 }, { sz := 1, rows := (y0.map rU8), frz := 0, pure := true, ty := some 5 }]
def R16s43 (y0 : List Int) : D := .tup []
def m_armature_poolcode_writer_number_s43 (x0 : List Int) (x1 x2 : Int) : Option (List Int) :=
  (m_octet_Put x1 x2).bind fun v0 =>
  (m_strings_Builder_WriteString_s43 x0 v0.1).bind fun v1 =>
  some v1.1
theorem w16s43 {x0 : List Int} {x1 x2 : Int} {r : List Int} (h : m_armature_poolcode_writer_number_s43 x0 x1 x2 = some r) : CallSpecO Try.prog 16 [.lptr 0 0 0, dI x1, dI x2] [{ sz := 2, rows := [[.lptr 0 0 0, .lsl 1 0 ((x0.map rU8).length)]], frz := 0, pure := false, pin := some 0, ty := some 43 }, { sz := 1, rows := (x0.map rU8), frz := 0, pure := true, ty := some 5 }] (R16s43 r) (B16s43 r) :=
  csO Try.f16 (m := 2) (keep := [true, false]) <| bd h fun v0 e0 h => bd h fun v1 e1 h => go [] [rg 0 [(2, k (w28 e0))], rg 1 [(4, ko [0, 1] (w18s43 e1))]] <| rtO h (.tup []) [{ sz := 2, rows := [[.lptr 0 0 0, .lsl 1 0 ((v1.1.map rU8).length)]], frz := 0, pure := false, pin := some 0, ty := some 43 }, { sz := 1, rows := (v1.1.map rU8), frz := 0, pure := true, ty := some 5 }] trivial rfl
/-! armature octet.PutString -/
def R17 (y0 : (List UInt8) × Int) : D := .tup [.str y0.1, .int .i64 y0.2]
def m_octet_PutString (x0 : List UInt8) : Option ((List UInt8) × Int) :=
  (m_octet_Put (x0.length : Int) 2).bind fun v0 =>
  if (v0.2 != 0) = true then
    (some ([], v0.2)) else
  ((catK v0.1 x0).bind fun v1 =>
    some (v1, 0))
theorem w17 {x0 : List UInt8} {r : (List UInt8) × Int} (h : m_octet_PutString x0 = some r) : CallSpec Try.prog 17 [.str x0] (R17 r) :=
  cs Try.f17 <| bd h fun v0 e0 h => go [] [rg 1 [(2, k (w28 e0))]] <| br h (fun h0 h => go [] [] <| rt h) fun h0 h =>
  bd h fun v1 e1 h => go [] [rg 4 [(2, ct e1)]] <| rt h
/-!   strings.Builder .String -/
def B19s43 (y0 : Unit × (List UInt8)) : List Blk := [{ sz := 2, rows := [[.lptr 0 0 0, .undef]], frz := 0, pure := false, pin := some 0, ty := some 43 }, { sz := 1, rows := (([] : List Int).map rU8), frz := 0, pure := true }]
def R19s43 (y0 : Unit × (List UInt8)) : D := .str y0.2
def m_strings_Builder_String_s43 (x0 : List Int) : Option (Unit × (List UInt8)) :=
  (usK x0).bind fun v0 =>
  some ((), v0)
theorem w19s43 {x0 : List Int} {r : Unit × (List UInt8)} (h : m_strings_Builder_String_s43 x0 = some r) : CallSpecO Try.prog 19 [.lptr 0 0 0] [{ sz := 2, rows := [[.lptr 0 0 0, .lsl 1 0 ((x0.map rU8).length)]], frz := 0, pure := false, pin := some 0, ty := some 43 }, { sz := 1, rows := (x0.map rU8), frz := 0, pure := true, ty := some 5 }] (R19s43 r) (B19s43 r) :=
  csO Try.f19 (m := 2) (keep := [true, false]) <| bd h fun v0 e0 h => go [] [rgo 1 [(4, sd e0), (9, ln (R := RU8) x0), (10, us e0)] [0, 1, 2, 3, 4, 5, 6, 7, 8, 9, 10, 11] [10] [(1, [0]), (2, [0, 1]), (3, [0, 1, 2]), (4, [0, 1, 2, 3]), (6, [5]), (7, [5, 6]), (8, [5, 6, 7]), (9, [5, 6, 7, 8]), (10, [0, 1, 2, 3, 4, 5, 6, 7, 8, 9]), (11, [0, 1, 2, 3, 4, 5, 6, 7, 8, 9, 10])]] <| rtO h (.str v0) [{ sz := 2, rows := [[.lptr 0 0 0, .undef]], frz := 0, pure := false, pin := some 0, ty := some 43 }, { sz := 1, rows := (([] : List Int).map rU8), frz := 0, pure := true }] (a2 trivial trivial) rfl
/-! armature poolcode.Encode -/
def R9 (y0 : (List UInt8) × Int) : D := .tup [.str y0.1, .int .i64 y0.2]
def j9x3 (t0 : Int × (List Int)) (v11 : T_api_Const) (v12 : List Int) : Option (Ctl (Int × (List Int)) (((List Int)))) :=
  (m_armature_poolcode_writer_number_s43 v12 v11.f_A 2).bind fun v23 =>
  (some (IntKind.wrap .i64 (t0.1 + (1 : Int)))).bind fun v24 =>
  some (.next (v24, v23))
def j9x2 (t0 : Int × (List Int)) (v11 : T_api_Const) (v12 : List Int) : Option (Ctl (Int × (List Int)) (((List Int)))) :=
  (m_armature_poolcode_writer_number_s43 v12 v11.f_A 2).bind fun v20 =>
  (m_armature_poolcode_writer_number_s43 v20 v11.f_B 2).bind fun v21 =>
  (some (IntKind.wrap .i64 (t0.1 + (1 : Int)))).bind fun v22 =>
  some (.next (v22, v21))
def j9x1 (t0 : Int × (List Int)) (v11 : T_api_Const) (v12 : List Int) : Option (Ctl (Int × (List Int)) (((List Int)))) :=
  if (v11.f_Tag == 8) = true then
    ((j9x3 t0 v11 v12) ) else
  ((j9x2 t0 v11 v12) )
def l9x1 (x0 : List T_api_Const) (t0 : Int × (List Int)) : Option (Ctl (Int × (List Int)) (((List Int)))) :=
  if (decide (t0.1 < (x0.length : Int))) = true then
    ((getR x0 t0.1).bind fun v11 =>
    (m_armature_poolcode_writer_number_s43 t0.2 v11.f_Tag 1).bind fun v12 =>
    if (v11.f_Tag == 1) = true then
      ((m_octet_PutString v11.f_S).bind fun v13 =>
      (m_strings_Builder_WriteString_s43 v12 v13.1).bind fun v14 =>
      (some (IntKind.wrap .i64 (t0.1 + (1 : Int)))).bind fun v15 =>
      some (.next (v15, v14.1))) else
    (if (v11.f_Tag == 3) = true then
        ((m_armature_poolcode_writer_number_s43 v12 v11.f_N 4).bind fun v16 =>
        (some (IntKind.wrap .i64 (t0.1 + (1 : Int)))).bind fun v17 =>
        some (.next (v17, v16))) else
      (if (v11.f_Tag == 5) = true then
          ((m_armature_poolcode_writer_number_s43 v12 v11.f_N 8).bind fun v18 =>
          (some (IntKind.wrap .i64 (t0.1 + (1 : Int)))).bind fun v19 =>
          some (.next (v19, v18))) else
        (if (v11.f_Tag == 7) = true then
            ((j9x3 t0 v11 v12) ) else
          ((j9x1 t0 v11 v12) ))))) else
  (some (.done (t0.2)))
def m_poolcode_Encode (x0 : List T_api_Const) : Option ((List UInt8) × Int) :=
  (m_pool_Check x0).bind fun v0 =>
  if (v0.2 != 0) = true then
    (some ([], v0.2)) else
  ((m_armature_poolcode_writer_number_n43 ([] : List Int) (x0.length : Int) 2).bind fun v1 =>
    (loopM (l9x1 x0) rounds (0, v1)).bind fun q0 =>
    (m_strings_Builder_String_s43 q0).bind fun v25 =>
    some (v25.2, 0))
def st9x1 (x0 : List T_api_Const) : (Int × (List Int)) → SL :=
  fun t0 => ⟨69, [(6, .lptr 6 0 0), (22, .sl false (x0.map row_T_api_Const)), (23, dI (x0.length : Int)), (24, dI t0.1)], [(6, { sz := 2, rows := [[.lptr 6 0 0, .lsl 1006 0 ((t0.2.map rU8).length)]], frz := 0, pure := false, ty := some 43 }), (1006, { sz := 1, rows := (t0.2.map rU8), frz := 0, pure := true, ty := some 5 })]⟩
def J9x1  : JT (((List Int))) :=
  je 0 fun q0 : (List Int) => ⟨69, [(6, .lptr 6 0 0)], [(6, { sz := 2, rows := [[.lptr 6 0 0, .lsl 1006 0 ((q0.map rU8).length)]], frz := 0, pure := false, ty := some 43 }), (1006, { sz := 1, rows := (q0.map rU8), frz := 0, pure := true, ty := some 5 })]⟩
theorem wj9x3 (x0 : List T_api_Const) {t0 : Int × (List Int)} {v11 : T_api_Const} {v12 : List Int} {r : Ctl (Int × (List Int)) (((List Int)))} {Γ : Ctx} (h : (j9x3 t0 v11 v12)  = some r) : Jn Try.prog Try.f9 Γ (Rd (st9x1 x0) J9x1 r) 25129775 ⟨69, [(6, .lptr 6 0 0), (8, .lptr 8 0 0), (22, .sl false (x0.map row_T_api_Const)), (23, dI (x0.length : Int)), (24, dI t0.1)], [(6, { sz := 2, rows := [[.lptr 6 0 0, .lsl 1006 0 ((v12.map rU8).length)]], frz := 0, pure := false, ty := some 43 }), (8, { sz := 5, rows := [row_T_api_Const v11], frz := 0, pure := false }), (1006, { sz := 1, rows := (v12.map rU8), frz := 0, pure := true, ty := some 5 })]⟩ :=
  so <| bd h fun v23 e23 h => bd h fun v24 e24 h => go [] [rg 22 [(2, ko [6, 1006] (w16s43 e23))], rg 23 [(0, n e24)]] <| nx h
theorem wj9x2 (x0 : List T_api_Const) {t0 : Int × (List Int)} {v11 : T_api_Const} {v12 : List Int} {r : Ctl (Int × (List Int)) (((List Int)))} {Γ : Ctx} (h : (j9x2 t0 v11 v12)  = some r) : Jn Try.prog Try.f9 Γ (Rd (st9x1 x0) J9x1 r) 50295599 ⟨69, [(6, .lptr 6 0 0), (8, .lptr 8 0 0), (22, .sl false (x0.map row_T_api_Const)), (23, dI (x0.length : Int)), (24, dI t0.1)], [(6, { sz := 2, rows := [[.lptr 6 0 0, .lsl 1006 0 ((v12.map rU8).length)]], frz := 0, pure := false, ty := some 43 }), (8, { sz := 5, rows := [row_T_api_Const v11], frz := 0, pure := false }), (1006, { sz := 1, rows := (v12.map rU8), frz := 0, pure := true, ty := some 5 })]⟩ :=
  so <| bd h fun v20 e20 h => bd h fun v21 e21 h => bd h fun v22 e22 h => go [] [rg 11 [(2, ko [6, 1006] (w16s43 e20))], rg 12 [(2, ko [6, 1006] (w16s43 e21))], rg 23 [(0, n e22)]] <| nx h
theorem wj9x1 (x0 : List T_api_Const) {t0 : Int × (List Int)} {v11 : T_api_Const} {v12 : List Int} {r : Ctl (Int × (List Int)) (((List Int)))} {Γ : Ctx} (h : (j9x1 t0 v11 v12)  = some r) : Jn Try.prog Try.f9 Γ (Rd (st9x1 x0) J9x1 r) 16741167 ⟨69, [(6, .lptr 6 0 0), (8, .lptr 8 0 0), (22, .sl false (x0.map row_T_api_Const)), (23, dI (x0.length : Int)), (24, dI t0.1), (60, .bool (v11.f_Tag == 8))], [(6, { sz := 2, rows := [[.lptr 6 0 0, .lsl 1006 0 ((v12.map rU8).length)]], frz := 0, pure := false, ty := some 43 }), (8, { sz := 5, rows := [row_T_api_Const v11], frz := 0, pure := false }), (1006, { sz := 1, rows := (v12.map rU8), frz := 0, pure := true, ty := some 5 })]⟩ (v11.f_Tag == 8) :=
  br h (fun h12 h => go [22] [] <| jn ((wj9x3 x0) h)) fun h12 h =>
  go [11] [] <| jn ((wj9x2 x0) h)
theorem wl9x1 {x0 : List T_api_Const} {t0 : Int × (List Int)} {r : Ctl (Int × (List Int)) (((List Int)))} {Γ : Ctx} (h : (l9x1 x0) t0 = some r) : A Try.prog Γ (lpC Try.f9 175) [] (Rd (st9x1 x0) J9x1 r) ((st9x1 x0) t0).s :=
  go [] [] <| br h (fun h7 h => bd h fun v11 e11 h => bd h fun v12 e12 h => go [] [rg 8 [(0, ix e11)], rg 9 [(2, ko [6, 1006] (w16s43 e12))]] <| br h (fun h8 h => bd h fun v13 e13 h => bd h fun v14 e14 h => bd h fun v15 e15 h => go [] [rg 14 [(2, k (w17 e13))], rg 15 [(2, ko [6, 1006] (w18s43 e14))], rg 23 [(0, n e15)]] <| nx h) fun h8 h =>
    go [] [] <| br h (fun h9 h => bd h fun v16 e16 h => bd h fun v17 e17 h => go [] [rg 17 [(2, ko [6, 1006] (w16s43 e16))], rg 23 [(0, n e17)]] <| nx h) fun h9 h =>
      go [] [] <| br h (fun h10 h => bd h fun v18 e18 h => bd h fun v19 e19 h => go [] [rg 19 [(2, ko [6, 1006] (w16s43 e18))], rg 23 [(0, n e19)]] <| nx h) fun h10 h =>
        go [] [] <| br h (fun h11 h => go [] [] <| bT h11 <| go [22] [] <| jn ((wj9x3 x0) h)) fun h11 h =>
          go [] [] <| jn ((wj9x1 x0) h)) fun h7 h =>
  go [] [] <| dn h (iE)
theorem w9 {x0 : List T_api_Const} {r : (List UInt8) × Int} (h : m_poolcode_Encode x0 = some r) : CallSpec Try.prog 9 [.sl false (x0.map row_T_api_Const)] (R9 r) :=
  cs Try.f9 <| bd h fun v0 e0 h => go [] [rg 1 [(1, k (w15 e0))]] <| br h (fun h0 h => go [] [] <| rt h) fun h0 h =>
  go [5] [rg 4 [(0, bo)]] <| cvE [.blk 6 1 1006 1 (some 5)] <| so <| bd h fun v1 e1 h => go [] [rg 5 [(1, ln x0), (2, ko [6, 1006] (w16n43 e1))], rg 6 [(1, ln x0)]] <| bd h fun q0 e25 h => lp e25 wl9x1 <| qe <| bd h fun v25 e26 h => goN [] [rg 24 [(1, ko [6, 1006] (w19s43 e26))]] <| rt h
/-! armature octet.window -/
def R67 (y0 : (List UInt8) × Int) : D := .tup [.str y0.1, .int .i64 y0.2]
def j67x1 (x0 : List UInt8) (x1 x2 : Int) : Option ((List UInt8) × Int) :=
  (some (IntKind.wrap .i64 ((x0.length : Int) - x1))).bind fun v0 =>
  if (decide (v0 < x2)) = true then
    (some ([], 3)) else
  ((some (IntKind.wrap .i64 (x1 + x2))).bind fun v1 =>
    (sub x0 x1 v1).bind fun v2 =>
    some (v2, 0))
def m_octet_window (x0 : List UInt8) (x1 x2 : Int) : Option ((List UInt8) × Int) :=
  if (decide (x1 < 0)) = true then (some ([], 2)) else
  (if (decide (x1 > (x0.length : Int))) = true then
    (some ([], 2)) else
  ((j67x1 x0 x1 x2) ))
theorem wj67x1 {x0 : List UInt8} {x1 x2 : Int} {r : (List UInt8) × Int} {Γ : Ctx} (h : (j67x1 x0 x1 x2)  = some r) : Jn Try.prog Try.f67 Γ (Den.Ends Try.prog Try.f67 (R67 r)) 89 ⟨30, [(0, .str x0), (1, dI x1), (2, dI x2)], []⟩ :=
  so <| bd h fun v0 e0 h => go [] [rg 3 [(3, n e0)]] <| br h (fun h2 h => go [] [] <| rt h) fun h2 h =>
  bd h fun v1 e1 h => bd h fun v2 e2 h => go [] [rg 5 [(4, n e1), (5, ss e2)]] <| rt h
theorem w67 {x0 : List UInt8} {x1 x2 : Int} {r : (List UInt8) × Int} (h : m_octet_window x0 x1 x2 = some r) : CallSpec Try.prog 67 [.str x0, dI x1, dI x2] (R67 r) :=
  cs Try.f67 <| sp h (fun h0 h => go [] [rg 1 [(1, kb h0)]] <| bT rfl <| go [] [] <| rt h) fun h0 h =>
  go [] [rg 1 [(1, kb h0)]] <| br h (fun h1 h => go [] [] <| rt h) fun h1 h =>
  go [3] [] <| jn (wj67x1 h)
/-! armature octet.bits -/
def R48 (y0 : Int × Int) : D := .tup [.int .u64 y0.1, .int .i64 y0.2]
def l48x1 (v1 : (List UInt8) × Int) (t0 : Int × Int) : Option (Ctl (Int × Int) (Int)) :=
  if (decide (t0.2 < (v1.1.length : Int))) = true then
    ((shlK .u64 t0.1 (8 : Int)).bind fun v6 =>
    (getS v1.1 t0.2).bind fun v7 =>
    (some (IntKind.wrap .u64 v7)).bind fun v8 =>
    (some (orK .u64 v6 v8)).bind fun v9 =>
    (some (IntKind.wrap .i64 (t0.2 + (1 : Int)))).bind fun v10 =>
    some (.next (v9, v10))) else
  (some (.done (t0.1)))
def m_octet_bits (x0 : List UInt8) (x1 x2 : Int) : Option (Int × Int) :=
  (m_octet_width x2).bind fun v0 =>
  if (v0 == 0) = true then
    (some (0, 1)) else
  ((m_octet_window x0 x1 x2).bind fun v1 =>
    (loopM (l48x1 v1) rounds (0, 0)).bind fun q0 =>
    some (q0, v1.2))
def st48x1 (v1 : (List UInt8) × Int) : (Int × Int) → SL :=
  fun t0 => ⟨37, [(8, .str v1.1), (9, dI v1.2), (10, .int .u64 t0.1), (23, dI (v1.1.length : Int)), (24, dI t0.2)], []⟩
def J48x1 (v1 : (List UInt8) × Int) : JT Int :=
  je 0 fun q0 : Int => ⟨37, [(9, dI v1.2), (10, .int .u64 q0)], []⟩
theorem wl48x1 {v1 : (List UInt8) × Int} {t0 : Int × Int} {r : Ctl (Int × Int) (Int)} {Γ : Ctx} (h : (l48x1 v1) t0 = some r) : A Try.prog Γ (lpC Try.f48 175) [] (Rd (st48x1 v1) (J48x1 v1) r) ((st48x1 v1) t0).s :=
  go [] [] <| br h (fun h2 h => bd h fun v6 e6 h => bd h fun v7 e7 h => bd h fun v8 e8 h => bd h fun v9 e9 h => bd h fun v10 e10 h => go [] [rg 8 [(1, sl e6), (4, ib e7), (5, n e8 .u64), (6, n e9 .u64)], rg 9 [(0, n e10)]] <| nx h) fun h2 h =>
  go [] [] <| dn h (iE)
theorem w48 {x0 : List UInt8} {x1 x2 : Int} {r : Int × Int} (h : m_octet_bits x0 x1 x2 = some r) : CallSpec Try.prog 48 [.str x0, dI x1, dI x2] (R48 r) :=
  cs Try.f48 <| bd h fun v0 e0 h => go [] [rg 1 [(1, k (w46 e0))]] <| br h (fun h0 h => go [] [] <| rt h) fun h0 h =>
  bd h fun v1 e1 h => go [] [rg 3 [(3, k (w67 e1))]] <| bd h fun q0 e11 h => lp e11 wl48x1 <| qe <| goN [] [] <| rt h
/-! armature octet.Unsigned -/
def R32 (y0 : Int × Int) : D := .tup [.int .i64 y0.1, .int .i64 y0.2]
def m_octet_Unsigned (x0 : List UInt8) (x1 x2 : Int) : Option (Int × Int) :=
  (m_octet_bits x0 x1 x2).bind fun v0 =>
  (some (IntKind.wrap .i64 v0.1)).bind fun v1 =>
  some (v1, v0.2)
theorem w32 {x0 : List UInt8} {x1 x2 : Int} {r : Int × Int} (h : m_octet_Unsigned x0 x1 x2 = some r) : CallSpec Try.prog 32 [.str x0, dI x1, dI x2] (R32 r) :=
  cs Try.f32 <| bd h fun v0 e0 h => bd h fun v1 e1 h => go [] [rg 1 [(3, k (w48 e0))], rg 2 [(1, n e1)]] <| rt h
/-!   armature poolcode.reader .unsigned -/
def B22 (y0 : T_poolcode_reader × Int) : List Blk := [{ sz := 3, rows := [row_T_poolcode_reader y0.1], frz := 0, pure := false, pin := some 0 }]
def R22 (y0 : T_poolcode_reader × Int) : D := .int .i64 y0.2
def m_armature_poolcode_reader_unsigned (x0 : T_poolcode_reader) (x1 : Int) : Option (T_poolcode_reader × Int) :=
  if (x0.f_err != 0) = true then
    (some (x0, 0)) else
  ((m_octet_Unsigned x0.f_s x0.f_at x1).bind fun v0 =>
    if (v0.2 != 0) = true then
      (some (({ f_s := x0.f_s, f_at := x0.f_at, f_err := 3 } : T_poolcode_reader), 0)) else
    ((some (IntKind.wrap .i64 (x0.f_at + x1))).bind fun v1 =>
      some (({ f_s := x0.f_s, f_at := v1, f_err := x0.f_err } : T_poolcode_reader), v0.1)))
theorem w22 {x0 : T_poolcode_reader} {x1 : Int} {r : T_poolcode_reader × Int} (h : m_armature_poolcode_reader_unsigned x0 x1 = some r) : CallSpecO Try.prog 22 [.lptr 0 0 0, dI x1] [{ sz := 3, rows := [row_T_poolcode_reader x0], frz := 0, pure := false, pin := some 0 }] (R22 r) (B22 r) :=
  csO Try.f22 (m := 1) (keep := [true]) <| go [] [] <| br h (fun h0 h => go [] [] <| rtO h (dI 0) [{ sz := 3, rows := [row_T_poolcode_reader x0], frz := 0, pure := false, pin := some 0 }] (a2 trivial trivial) rfl) fun h0 h =>
  bd h fun v0 e0 h => go [] [rgo 3 [(9, k (w32 e0))] [0, 1, 2, 3, 4, 5, 6, 7, 8, 9, 10, 11, 12, 13, 14] [] [(1, [0]), (2, [0, 1]), (3, [0, 1, 2]), (5, [4]), (6, [4, 5]), (7, [4, 5, 6]), (9, [0, 1, 2, 3, 4, 5, 6, 7, 8]), (10, [0, 1, 2, 3, 4, 5, 6, 7, 8, 9]), (11, [0, 1, 2, 3, 4, 5, 6, 7, 8, 9, 10]), (12, [0, 1, 2, 3, 4, 5, 6, 7, 8, 9, 10]), (13, [0, 1, 2, 3, 4, 5, 6, 7, 8, 9, 10, 11]), (14, [0, 1, 2, 3, 4, 5, 6, 7, 8, 9, 10, 11, 12, 13])]] <| br h (fun h1 h => go [] [] <| rtO h (dI 0) [{ sz := 3, rows := [[.str x0.f_s, dI x0.f_at, dI 3]], frz := 0, pure := false, pin := some 0 }] (a2 trivial trivial) rfl) fun h1 h =>
    bd h fun v1 e1 h => go [] [rg 7 [(5, n e1)]] <| rtO h (dI v0.1) [{ sz := 3, rows := [[.str x0.f_s, dI v1, dI x0.f_err]], frz := 0, pure := false, pin := some 0 }] (a2 trivial trivial) rfl
/-! armature octet.GetString -/
def R49 (y0 : (List UInt8) × Int × Int) : D := .tup [.str y0.1, .int .i64 y0.2.1, .int .i64 y0.2.2]
def m_octet_GetString (x0 : List UInt8) (x1 : Int) : Option ((List UInt8) × Int × Int) :=
  (m_octet_Unsigned x0 x1 2).bind fun v0 =>
  if (v0.2 != 0) = true then
    (some ([], 0, v0.2)) else
  ((some (IntKind.wrap .i64 (x1 + (2 : Int)))).bind fun v1 =>
    (m_octet_window x0 v1 v0.1).bind fun v2 =>
    if (v2.2 != 0) = true then
      (some ([], 0, v2.2)) else
    ((some (IntKind.wrap .i64 (x1 + (2 : Int)))).bind fun v3 =>
      (some (IntKind.wrap .i64 (v3 + v0.1))).bind fun v4 =>
      some (v2.1, v4, 0)))
theorem w49 {x0 : List UInt8} {x1 : Int} {r : (List UInt8) × Int × Int} (h : m_octet_GetString x0 x1 = some r) : CallSpec Try.prog 49 [.str x0, dI x1] (R49 r) :=
  cs Try.f49 <| bd h fun v0 e0 h => go [] [rg 1 [(2, k (w32 e0))]] <| br h (fun h0 h => go [] [] <| rt h) fun h0 h =>
  bd h fun v1 e1 h => bd h fun v2 e2 h => go [] [rg 4 [(2, n e1), (4, k (w67 e2))]] <| br h (fun h1 h => go [] [] <| rt h) fun h1 h =>
    bd h fun v3 e3 h => bd h fun v4 e4 h => go [] [rg 7 [(2, n e3), (4, n e4)]] <| rt h
/-!   armature poolcode.reader .text -/
def B33 (y0 : T_poolcode_reader × (List UInt8)) : List Blk := [{ sz := 3, rows := [row_T_poolcode_reader y0.1], frz := 0, pure := false, pin := some 0 }]
def R33 (y0 : T_poolcode_reader × (List UInt8)) : D := .str y0.2
def m_armature_poolcode_reader_text (x0 : T_poolcode_reader) : Option (T_poolcode_reader × (List UInt8)) :=
  if (x0.f_err != 0) = true then
    (some (x0, [])) else
  ((m_octet_GetString x0.f_s x0.f_at).bind fun v0 =>
    if (v0.2.2 != 0) = true then
      (some (({ f_s := x0.f_s, f_at := x0.f_at, f_err := 3 } : T_poolcode_reader), [])) else
    (some (({ f_s := x0.f_s, f_at := v0.2.1, f_err := x0.f_err } : T_poolcode_reader), v0.1)))
theorem w33 {x0 : T_poolcode_reader} {r : T_poolcode_reader × (List UInt8)} (h : m_armature_poolcode_reader_text x0 = some r) : CallSpecO Try.prog 33 [.lptr 0 0 0] [{ sz := 3, rows := [row_T_poolcode_reader x0], frz := 0, pure := false, pin := some 0 }] (R33 r) (B33 r) :=
  csO Try.f33 (m := 1) (keep := [true]) <| go [] [] <| br h (fun h0 h => go [] [] <| rtO h (.str []) [{ sz := 3, rows := [row_T_poolcode_reader x0], frz := 0, pure := false, pin := some 0 }] (a2 trivial trivial) rfl) fun h0 h =>
  bd h fun v0 e0 h => go [] [rgo 3 [(8, k (w49 e0))] [0, 1, 2, 3, 4, 5, 6, 7, 8, 9, 10, 11, 12, 13, 14, 15] [] [(1, [0]), (2, [0, 1]), (3, [0, 1, 2]), (5, [4]), (6, [4, 5]), (7, [4, 5, 6]), (8, [0, 1, 2, 3, 4, 5, 6, 7]), (9, [0, 1, 2, 3, 4, 5, 6, 7, 8]), (10, [0, 1, 2, 3, 4, 5, 6, 7, 8, 9]), (11, [0, 1, 2, 3, 4, 5, 6, 7, 8, 9]), (12, [0, 1, 2, 3, 4, 5, 6, 7, 8, 9]), (13, [0, 1, 2, 3, 4, 5, 6, 7, 8, 9, 10]), (14, [0, 1, 2, 3, 4, 5, 6, 7, 8, 9, 10, 11, 13]), (15, [0, 1, 2, 3, 4, 5, 6, 7, 8, 9, 10, 11, 12, 13, 14])]] <| br h (fun h1 h => go [] [] <| rtO h (.str []) [{ sz := 3, rows := [[.str x0.f_s, dI x0.f_at, dI 3]], frz := 0, pure := false, pin := some 0 }] (a2 trivial trivial) rfl) fun h1 h =>
    go [] [] <| rtO h (.str v0.1) [{ sz := 3, rows := [[.str x0.f_s, dI v0.2.1, dI x0.f_err]], frz := 0, pure := false, pin := some 0 }] (a2 trivial trivial) rfl
/-! armature octet.Signed -/
def R50 (y0 : Int × Int) : D := .tup [.int .i64 y0.1, .int .i64 y0.2]
def m_octet_Signed (x0 : List UInt8) (x1 x2 : Int) : Option (Int × Int) :=
  (m_octet_bits x0 x1 x2).bind fun v0 =>
  if (v0.2 != 0) = true then
    (some (0, v0.2)) else
  ((m_octet_width x2).bind fun v1 =>
    (some (IntKind.wrap .i64 ((64 : Int) - v1))).bind fun v2 =>
    (some (IntKind.wrap .u64 v2)).bind fun v3 =>
    (shlK .u64 v0.1 v3).bind fun v4 =>
    (some (IntKind.wrap .i64 v4)).bind fun v5 =>
    (shrK .i64 v5 v3).bind fun v6 =>
    some (v6, 0))
theorem w50 {x0 : List UInt8} {x1 x2 : Int} {r : Int × Int} (h : m_octet_Signed x0 x1 x2 = some r) : CallSpec Try.prog 50 [.str x0, dI x1, dI x2] (R50 r) :=
  cs Try.f50 <| bd h fun v0 e0 h => go [] [rg 1 [(3, k (w48 e0))]] <| br h (fun h0 h => go [] [] <| rt h) fun h0 h =>
  bd h fun v1 e1 h => bd h fun v2 e2 h => bd h fun v3 e3 h => bd h fun v4 e4 h => bd h fun v5 e5 h => bd h fun v6 e6 h => go [] [rg 4 [(1, k (w46 e1)), (2, n e2), (3, n e3 .u64)], rg 5 [(2, sl e4), (3, n e5), (5, sr e6)]] <| rt h
/-!   armature poolcode.reader .signed -/
def B34 (y0 : T_poolcode_reader × Int) : List Blk := [{ sz := 3, rows := [row_T_poolcode_reader y0.1], frz := 0, pure := false, pin := some 0 }]
def R34 (y0 : T_poolcode_reader × Int) : D := .int .i64 y0.2
def m_armature_poolcode_reader_signed (x0 : T_poolcode_reader) (x1 : Int) : Option (T_poolcode_reader × Int) :=
  (m_armature_poolcode_reader_unsigned x0 x1).bind fun v0 =>
  (m_octet_Signed v0.1.f_s x0.f_at x1).bind fun v1 =>
  if (v0.1.f_err != 0) = true then
    (some (v0.1, 0)) else
  (some (v0.1, v1.1))
theorem w34 {x0 : T_poolcode_reader} {x1 : Int} {r : T_poolcode_reader × Int} (h : m_armature_poolcode_reader_signed x0 x1 = some r) : CallSpecO Try.prog 34 [.lptr 0 0 0, dI x1] [{ sz := 3, rows := [row_T_poolcode_reader x0], frz := 0, pure := false, pin := some 0 }] (R34 r) (B34 r) :=
  csO Try.f34 (m := 1) (keep := [true]) <| bd h fun v0 e0 h => bd h fun v1 e1 h => go [] [rg 2 [(2, ko [0] (w22 e0))], rg 3 [(6, k (w50 e1))]] <| br h (fun h0 h => go [] [] <| rtO h (dI 0) [{ sz := 3, rows := [row_T_poolcode_reader v0.1], frz := 0, pure := false, pin := some 0 }] (a2 trivial trivial) rfl) fun h0 h =>
  go [] [] <| rtO h (dI v1.1) [{ sz := 3, rows := [row_T_poolcode_reader v0.1], frz := 0, pure := false, pin := some 0 }] (a2 trivial trivial) rfl
/-!   armature poolcode.reader .constant -/
def B23 (y0 : T_poolcode_reader × T_api_Const) : List Blk := [{ sz := 3, rows := [row_T_poolcode_reader y0.1], frz := 0, pure := false, pin := some 0 }]
def R23 (y0 : T_poolcode_reader × T_api_Const) : D := .agg (row_T_api_Const y0.2)
def j23x6 (v0 : T_poolcode_reader × Int) : Option (T_poolcode_reader × T_api_Const) :=
  (m_armature_poolcode_reader_unsigned v0.1 2).bind fun v6 =>
  some (v6.1, ({ f_Tag := v0.2, f_S := [], f_N := 0, f_A := v6.2, f_B := 0 } : T_api_Const))
def j23x5 (v0 : T_poolcode_reader × Int) : Option (T_poolcode_reader × T_api_Const) :=
  (m_armature_poolcode_reader_unsigned v0.1 2).bind fun v4 =>
  (m_armature_poolcode_reader_unsigned v4.1 2).bind fun v5 =>
  some (v5.1, ({ f_Tag := v0.2, f_S := [], f_N := 0, f_A := v4.2, f_B := v5.2 } : T_api_Const))
def j23x4 (v0 : T_poolcode_reader × Int) : Option (T_poolcode_reader × T_api_Const) :=
  some (({ f_s := v0.1.f_s, f_at := v0.1.f_at, f_err := 11 } : T_poolcode_reader), ({ f_Tag := v0.2, f_S := [], f_N := 0, f_A := 0, f_B := 0 } : T_api_Const))
def j23x3 (v0 : T_poolcode_reader × Int) : Option (T_poolcode_reader × T_api_Const) :=
  if (v0.2 == 12) = true then
    ((j23x5 v0) ) else
  ((j23x4 v0) )
def j23x2 (v0 : T_poolcode_reader × Int) : Option (T_poolcode_reader × T_api_Const) :=
  if (v0.2 == 9) = true then
    ((j23x5 v0) ) else
  (if (v0.2 == 10) = true then
      ((j23x5 v0) ) else
    (if (v0.2 == 11) = true then
        ((j23x5 v0) ) else
      ((j23x3 v0) )))
def j23x1 (v0 : T_poolcode_reader × Int) : Option (T_poolcode_reader × T_api_Const) :=
  if (v0.2 == 8) = true then
    ((j23x6 v0) ) else
  ((j23x2 v0) )
def m_armature_poolcode_reader_constant (x0 : T_poolcode_reader) : Option (T_poolcode_reader × T_api_Const) :=
  (m_armature_poolcode_reader_unsigned x0 1).bind fun v0 =>
  if (v0.1.f_err != 0) = true then
    (some (v0.1, ({ f_Tag := v0.2, f_S := [], f_N := 0, f_A := 0, f_B := 0 } : T_api_Const))) else
  (if (v0.2 == 1) = true then
      ((m_armature_poolcode_reader_text v0.1).bind fun v1 =>
      some (v1.1, ({ f_Tag := v0.2, f_S := v1.2, f_N := 0, f_A := 0, f_B := 0 } : T_api_Const))) else
    (if (v0.2 == 3) = true then
        ((m_armature_poolcode_reader_signed v0.1 4).bind fun v2 =>
        some (v2.1, ({ f_Tag := v0.2, f_S := [], f_N := v2.2, f_A := 0, f_B := 0 } : T_api_Const))) else
      (if (v0.2 == 5) = true then
          ((m_armature_poolcode_reader_signed v0.1 8).bind fun v3 =>
          some (v3.1, ({ f_Tag := v0.2, f_S := [], f_N := v3.2, f_A := 0, f_B := 0 } : T_api_Const))) else
        (if (v0.2 == 7) = true then
            ((j23x6 v0) ) else
          ((j23x1 v0) )))))
theorem wj23x6 {v0 : T_poolcode_reader × Int} {r : T_poolcode_reader × T_api_Const} {Γ : Ctx} (h : (j23x6 v0)  = some r) : Jn Try.prog Try.f23 Γ (EndsO Try.prog Try.f23 1 [true] (R23 r) (B23 r)) 24535 ⟨51, [(0, .lptr 0 0 0), (2, .lptr 2 0 0), (3, .lptr 3 0 0)], [(0, { sz := 3, rows := [row_T_poolcode_reader v0.1], frz := 0, pure := false, pin := some 0 }), (2, { sz := 5, rows := [[dI 0, .str [], dI 0, dI 0, dI 0]], frz := 0, pure := false }), (3, { sz := 5, rows := [[dI v0.2, .str [], dI 0, dI 0, dI 0]], frz := 0, pure := false })]⟩ :=
  so <| bd h fun v6 e6 h => go [] [rg 14 [(1, ko [0] (w22 e6))]] <| rtO h (.agg [dI v0.2, .str [], dI 0, dI v6.2, dI 0]) [{ sz := 3, rows := [row_T_poolcode_reader v6.1], frz := 0, pure := false, pin := some 0 }] (a2 (tNi 5) trivial) rfl
theorem wj23x5 {v0 : T_poolcode_reader × Int} {r : T_poolcode_reader × T_api_Const} {Γ : Ctx} (h : (j23x5 v0)  = some r) : Jn Try.prog Try.f23 Γ (EndsO Try.prog Try.f23 1 [true] (R23 r) (B23 r)) 163799 ⟨51, [(0, .lptr 0 0 0), (2, .lptr 2 0 0), (3, .lptr 3 0 0)], [(0, { sz := 3, rows := [row_T_poolcode_reader v0.1], frz := 0, pure := false, pin := some 0 }), (2, { sz := 5, rows := [[dI 0, .str [], dI 0, dI 0, dI 0]], frz := 0, pure := false }), (3, { sz := 5, rows := [[dI v0.2, .str [], dI 0, dI 0, dI 0]], frz := 0, pure := false })]⟩ :=
  so <| bd h fun v4 e4 h => bd h fun v5 e5 h => go [] [rg 19 [(1, ko [0] (w22 e4))], rg 20 [(1, ko [0] (w22 e5))]] <| rtO h (.agg [dI v0.2, .str [], dI 0, dI v4.2, dI v5.2]) [{ sz := 3, rows := [row_T_poolcode_reader v5.1], frz := 0, pure := false, pin := some 0 }] (a2 (tNi 5) trivial) rfl
theorem wj23x4 {v0 : T_poolcode_reader × Int} {r : T_poolcode_reader × T_api_Const} {Γ : Ctx} (h : (j23x4 v0)  = some r) : Jn Try.prog Try.f23 Γ (EndsO Try.prog Try.f23 1 [true] (R23 r) (B23 r)) 131031 ⟨51, [(0, .lptr 0 0 0), (2, .lptr 2 0 0), (3, .lptr 3 0 0)], [(0, { sz := 3, rows := [row_T_poolcode_reader v0.1], frz := 0, pure := false, pin := some 0 }), (2, { sz := 5, rows := [[dI 0, .str [], dI 0, dI 0, dI 0]], frz := 0, pure := false }), (3, { sz := 5, rows := [[dI v0.2, .str [], dI 0, dI 0, dI 0]], frz := 0, pure := false })]⟩ :=
  so <| go [] [] <| rtO h (.agg [dI v0.2, .str [], dI 0, dI 0, dI 0]) [{ sz := 3, rows := [[.str v0.1.f_s, dI v0.1.f_at, dI 11]], frz := 0, pure := false, pin := some 0 }] (a2 (tNi 5) trivial) rfl
theorem wj23x3 {v0 : T_poolcode_reader × Int} {r : T_poolcode_reader × T_api_Const} {Γ : Ctx} (h : (j23x3 v0)  = some r) : Jn Try.prog Try.f23 Γ (EndsO Try.prog Try.f23 1 [true] (R23 r) (B23 r)) 65495 ⟨51, [(0, .lptr 0 0 0), (2, .lptr 2 0 0), (3, .lptr 3 0 0), (39, .bool (v0.2 == 12))], [(0, { sz := 3, rows := [row_T_poolcode_reader v0.1], frz := 0, pure := false, pin := some 0 }), (2, { sz := 5, rows := [[dI 0, .str [], dI 0, dI 0, dI 0]], frz := 0, pure := false }), (3, { sz := 5, rows := [[dI v0.2, .str [], dI 0, dI 0, dI 0]], frz := 0, pure := false })]⟩ (v0.2 == 12) :=
  br h (fun h9 h => go [19] [] <| jn (wj23x5 h)) fun h9 h =>
  go [5] [] <| jn (wj23x4 h)
theorem wj23x2 {v0 : T_poolcode_reader × Int} {r : T_poolcode_reader × T_api_Const} {Γ : Ctx} (h : (j23x2 v0)  = some r) : Jn Try.prog Try.f23 Γ (EndsO Try.prog Try.f23 1 [true] (R23 r) (B23 r)) 81879 ⟨51, [(0, .lptr 0 0 0), (2, .lptr 2 0 0), (3, .lptr 3 0 0), (14, dI v0.2)], [(0, { sz := 3, rows := [row_T_poolcode_reader v0.1], frz := 0, pure := false, pin := some 0 }), (2, { sz := 5, rows := [[dI 0, .str [], dI 0, dI 0, dI 0]], frz := 0, pure := false }), (3, { sz := 5, rows := [[dI v0.2, .str [], dI 0, dI 0, dI 0]], frz := 0, pure := false })]⟩ :=
  so <| go [] [] <| br h (fun h6 h => go [] [] <| bT h6 <| go [19] [] <| jn (wj23x5 h)) fun h6 h =>
  go [] [] <| br h (fun h7 h => go [] [] <| bT h7 <| go [19] [] <| jn (wj23x5 h)) fun h7 h =>
    go [] [] <| br h (fun h8 h => go [] [] <| bT h8 <| go [19] [] <| jn (wj23x5 h)) fun h8 h =>
      go [] [] <| jn (wj23x3 h)
theorem wj23x1 {v0 : T_poolcode_reader × Int} {r : T_poolcode_reader × T_api_Const} {Γ : Ctx} (h : (j23x1 v0)  = some r) : Jn Try.prog Try.f23 Γ (EndsO Try.prog Try.f23 1 [true] (R23 r) (B23 r)) 16343 ⟨51, [(0, .lptr 0 0 0), (2, .lptr 2 0 0), (3, .lptr 3 0 0), (14, dI v0.2), (33, .bool (v0.2 == 8))], [(0, { sz := 3, rows := [row_T_poolcode_reader v0.1], frz := 0, pure := false, pin := some 0 }), (2, { sz := 5, rows := [[dI 0, .str [], dI 0, dI 0, dI 0]], frz := 0, pure := false }), (3, { sz := 5, rows := [[dI v0.2, .str [], dI 0, dI 0, dI 0]], frz := 0, pure := false })]⟩ (v0.2 == 8) :=
  br h (fun h5 h => go [14] [] <| jn (wj23x6 h)) fun h5 h =>
  go [15] [] <| jn (wj23x2 h)
theorem w23 {x0 : T_poolcode_reader} {r : T_poolcode_reader × T_api_Const} (h : m_armature_poolcode_reader_constant x0 = some r) : CallSpecO Try.prog 23 [.lptr 0 0 0] [{ sz := 3, rows := [row_T_poolcode_reader x0], frz := 0, pure := false, pin := some 0 }] (R23 r) (B23 r) :=
  csO Try.f23 (m := 1) (keep := [true]) <| bd h fun v0 e0 h => go [] [rg 1 [(1, ko [0] (w22 e0))]] <| br h (fun h0 h => go [] [] <| rtO h (.agg [dI v0.2, .str [], dI 0, dI 0, dI 0]) [{ sz := 3, rows := [row_T_poolcode_reader v0.1], frz := 0, pure := false, pin := some 0 }] (a2 (tNi 5) trivial) rfl) fun h0 h =>
  go [] [] <| br h (fun h1 h => bd h fun v1 e1 h => go [] [rg 7 [(1, ko [0] (w33 e1))]] <| rtO h (.agg [dI v0.2, .str v1.2, dI 0, dI 0, dI 0]) [{ sz := 3, rows := [row_T_poolcode_reader v1.1], frz := 0, pure := false, pin := some 0 }] (a2 (tNi 5) trivial) rfl) fun h1 h =>
    go [] [] <| br h (fun h2 h => bd h fun v2 e2 h => go [] [rg 9 [(1, ko [0] (w34 e2))]] <| rtO h (.agg [dI v0.2, .str [], dI v2.2, dI 0, dI 0]) [{ sz := 3, rows := [row_T_poolcode_reader v2.1], frz := 0, pure := false, pin := some 0 }] (a2 (tNi 5) trivial) rfl) fun h2 h =>
      go [] [] <| br h (fun h3 h => bd h fun v3 e3 h => go [] [rg 11 [(1, ko [0] (w34 e3))]] <| rtO h (.agg [dI v0.2, .str [], dI v3.2, dI 0, dI 0]) [{ sz := 3, rows := [row_T_poolcode_reader v3.1], frz := 0, pure := false, pin := some 0 }] (a2 (tNi 5) trivial) rfl) fun h3 h =>
        go [] [] <| br h (fun h4 h => go [] [] <| bT h4 <| go [14] [] <| jn (wj23x6 h)) fun h4 h =>
          go [] [] <| jn (wj23x1 h)
/-! armature poolcode.Decode -/
def R11 (y0 : (List T_api_Const) × Int × Int) : D := .tup [.sl false (y0.1.map row_T_api_Const), .int .i64 y0.2.1, .int .i64 y0.2.2]
def j11x2 (t0 : Int × (List UInt8) × Int × Int × (List T_api_Const)) : Option (Ctl (Int × (List UInt8) × Int × Int × (List T_api_Const)) (((List UInt8) × Int × Int × (List T_api_Const)))) :=
  (m_armature_poolcode_reader_constant ({ f_s := t0.2.1, f_at := t0.2.2.1, f_err := t0.2.2.2.1 } : T_poolcode_reader)).bind fun v7 =>
  (growK 48 (t0.2.2.2.2 ++ [v7.2]).length).bind fun v8 =>
  (some (IntKind.wrap .i64 (t0.1 - (1 : Int)))).bind fun v9 =>
  some (.next (v9, v7.1.f_s, v7.1.f_at, v7.1.f_err, (t0.2.2.2.2 ++ [v7.2])))
def l11x1 (t0 : Int × (List UInt8) × Int × Int × (List T_api_Const)) : Option (Ctl (Int × (List UInt8) × Int × Int × (List T_api_Const)) (((List UInt8) × Int × Int × (List T_api_Const)))) :=
  if (decide (t0.1 > 0)) = true then (if (t0.2.2.2.1 == 0) = true then
    ((j11x2 t0) ) else
  (some (.done ((t0.2.1, t0.2.2.1, t0.2.2.2.1, t0.2.2.2.2))))) else
  (some (.done ((t0.2.1, t0.2.2.1, t0.2.2.2.1, t0.2.2.2.2))))
def j11x1 (x0 : List UInt8) (x1 : Int) : Option ((List T_api_Const) × Int × Int) :=
  (m_armature_poolcode_reader_unsigned ({ f_s := x0, f_at := x1, f_err := 0 } : T_poolcode_reader) 2).bind fun v0 =>
  (loopM l11x1 rounds (v0.2, v0.1.f_s, v0.1.f_at, v0.1.f_err, ([] : List T_api_Const))).bind fun q0 =>
  if (q0.2.2.1 != 0) = true then
    (some (([] : List T_api_Const), 0, q0.2.2.1)) else
  ((m_pool_Check q0.2.2.2).bind fun v10 =>
    if (v10.2 != 0) = true then
      (some (([] : List T_api_Const), 0, v10.2)) else
    (some (q0.2.2.2, q0.2.1, 0)))
def m_poolcode_Decode (x0 : List UInt8) (x1 : Int) : Option ((List T_api_Const) × Int × Int) :=
  if (decide (x1 < 0)) = true then (some (([] : List T_api_Const), 0, 2)) else
  (if (decide (x1 > (x0.length : Int))) = true then
    (some (([] : List T_api_Const), 0, 2)) else
  ((j11x1 x0 x1) ))
def st11x1  : (Int × (List UInt8) × Int × Int × (List T_api_Const)) → SL :=
  fun t0 => ⟨64, [(7, .lptr 7 0 0), (8, .lsl 8 0 ((t0.2.2.2.2.map row_T_api_Const).length)), (9, dI t0.1)], [(7, { sz := 3, rows := [[.str t0.2.1, dI t0.2.2.1, dI t0.2.2.2.1]], frz := 0, pure := false }), (8, { sz := 5, rows := (t0.2.2.2.2.map row_T_api_Const), frz := 0, pure := true })]⟩
def J11x1  : JT (((List UInt8) × Int × Int × (List T_api_Const))) :=
  je 0 fun q0 : (List UInt8) × Int × Int × (List T_api_Const) => ⟨64, [(7, .lptr 7 0 0), (8, .lsl 8 0 ((q0.2.2.2.map row_T_api_Const).length))], [(7, { sz := 3, rows := [[.str q0.1, dI q0.2.1, dI q0.2.2.1]], frz := 0, pure := false }), (8, { sz := 5, rows := (q0.2.2.2.map row_T_api_Const), frz := 0, pure := true })]⟩
theorem wj11x2 {t0 : Int × (List UInt8) × Int × Int × (List T_api_Const)} {r : Ctl (Int × (List UInt8) × Int × Int × (List T_api_Const)) (((List UInt8) × Int × Int × (List T_api_Const)))} {Γ : Ctx} (h : (j11x2 t0)  = some r) : Jn Try.prog Try.f11 Γ (Rd st11x1 J11x1 r) 2351 ⟨64, [(7, .lptr 7 0 0), (8, .lsl 8 0 ((t0.2.2.2.2.map row_T_api_Const).length)), (9, dI t0.1)], [(7, { sz := 3, rows := [[.str t0.2.1, dI t0.2.2.1, dI t0.2.2.2.1]], frz := 0, pure := false }), (8, { sz := 5, rows := (t0.2.2.2.2.map row_T_api_Const), frz := 0, pure := true })]⟩ :=
  so <| bd h fun v7 e7 h => bd h fun v8 e8 h => bd h fun v9 e9 h => go [] [rg 8 [(2, ko [7] (w23 e7)), (3, br0 1 5), (4, ap e8)], rg 7 [(1, n e9)]] <| nx h
theorem wl11x1 {t0 : Int × (List UInt8) × Int × Int × (List T_api_Const)} {r : Ctl (Int × (List UInt8) × Int × Int × (List T_api_Const)) (((List UInt8) × Int × Int × (List T_api_Const)))} {Γ : Ctx} (h : l11x1 t0 = some r) : A Try.prog Γ (lpC Try.f11 175) [] (Rd st11x1 J11x1 r) (st11x1 t0).s :=
  sp h (fun h6 h => go [] [rg 6 [(1, kb h6)]] <| br h (fun h7 h => go [8] [] <| jn (wj11x2 h)) fun h7 h =>
  go [] [] <| dn h (iE)) fun h6 h =>
  go [] [rg 6 [(1, kb h6)]] <| bF rfl <| go [] [] <| dn h (iE)
theorem wj11x1 {x0 : List UInt8} {x1 : Int} {r : (List T_api_Const) × Int × Int} {Γ : Ctx} (h : (j11x1 x0 x1)  = some r) : Jn Try.prog Try.f11 Γ (Den.Ends Try.prog Try.f11 (R11 r)) 11 ⟨64, [(0, .str x0), (1, dI x1)], []⟩ :=
  so <| bd h fun v0 e0 h => go [] [rg 5 [(1, ko [23] (w22 e0))]] <| bd h fun q0 e10 h => lp (cv := [.tmp 8 8 5]) (ps := [(23, 7), (8, 8)]) e10 wl11x1 <| qe <| goN [] [] <| br h (fun h8 h => go [] [rgo 10 [] [0, 1, 2, 3, 4, 5, 6] [] [(1, [0]), (2, [0, 1]), (3, [0, 1, 2]), (5, [4]), (6, [0, 1, 2, 3, 4, 5])]] <| rt h) fun h8 h =>
  bd h fun v10 e11 h => go [] [rg 11 [(1, kB (a2 (rpI q0.2.2.2) trivial) [rw_ q0.2.2.2] (by simp only [rwE] <;> kernel_rfl) (w15 e11))]] <| br h (fun h9 h => go [] [] <| rt h) fun h9 h =>
    go [] [rgo 14 [] [0, 1, 2, 3, 4, 5, 6, 7] [] [(2, [1]), (3, [1, 2]), (4, [1, 2, 3]), (5, [0]), (6, [0, 1, 2, 3, 4, 5]), (7, [0, 1, 2, 3, 4, 5, 6])]] <| rtB h (.tup [rw_ q0.2.2.2, dI q0.2.1, dI 0]) (a2 (rpI q0.2.2.2) (a2 trivial (a2 trivial trivial))) (by simp only [rwE] <;> kernel_rfl)
theorem w11 {x0 : List UInt8} {x1 : Int} {r : (List T_api_Const) × Int × Int} (h : m_poolcode_Decode x0 x1 = some r) : CallSpec Try.prog 11 [.str x0, dI x1] (R11 r) :=
  cs Try.f11 <| sp h (fun h0 h => go [] [rg 1 [(1, kb h0)]] <| bT rfl <| go [] [] <| rt h) fun h0 h =>
  go [] [rg 1 [(1, kb h0)]] <| br h (fun h1 h => go [] [] <| rt h) fun h1 h =>
  go [3] [] <| jn (wj11x1 h)
/-! armature armaturelaw06.awake -/
def R8 (y0 : Bool) : D := .bool y0
def m_armaturelaw06_awake  : Option (Bool) :=
  (m_poolcode_Encode ([] : List T_api_Const)).bind fun v0 =>
  (m_poolcode_Encode [({ f_Tag := 1, f_S := [97, 98], f_N := 0, f_A := 0, f_B := 0 } : T_api_Const)]).bind fun v1 =>
  (catK ([120] : List UInt8) v1.1).bind fun v2 =>
  (catK v2 ([121] : List UInt8)).bind fun v3 =>
  (m_poolcode_Decode v3 1).bind fun v4 =>
  (m_poolcode_Decode [0, 1, 2] 0).bind fun v5 =>
  (m_poolcode_Decode [0, 1] 0).bind fun v6 =>
  if (v0.2 == 0) = true then (if (v1.2 == 0) = true then (if (v4.2.2 == 0) = true then (if (v0.1 == ([0, 0] : List UInt8)) = true then (if (v1.1 == ([0, 1, 1, 0, 2, 97, 98] : List UInt8)) = true then (if (v4.2.1 == 8) = true then (if ((v4.1.length : Int) == 1) = true then ((getR v4.1 0).bind fun v7 =>
                if (v7.f_S == ([97, 98] : List UInt8)) = true then (if (v5.2.2 == 11) = true then (some (v6.2.2 == 3)) else
                  (some false)) else
                (some false)) else
              (some false)) else
            (some false)) else
          (some false)) else
        (some false)) else
      (some false)) else
    (some false)) else
  (some false)
theorem w8  {r : Bool} (h : m_armaturelaw06_awake = some r) : CallSpec Try.prog 8 [] (R8 r) :=
  cs Try.f8 <| bd h fun v0 e0 h => bd h fun v1 e1 h => bd h fun v2 e2 h => bd h fun v3 e3 h => bd h fun v4 e4 h => bd h fun v5 e5 h => bd h fun v6 e6 h => go [6] [rg 1 [(0, k (w9 e0))], rg 2 [(1, bl 1 5), (2, kB (a2 (rpI [({ f_Tag := 1, f_S := [97, 98], f_N := 0, f_A := 0, f_B := 0 } : T_api_Const)]) trivial) [rw_ [({ f_Tag := 1, f_S := [97, 98], f_N := 0, f_A := 0, f_B := 0 } : T_api_Const)]] (by simp only [rwE] <;> kernel_rfl) (w9 e1))], rg 3 [(1, ct e2), (2, ct e3), (3, k (w11 e4))], rg 4 [(0, k (w11 e5))], rg 5 [(0, k (w11 e6))]] <| po <| pr 3 [] <| sp h (fun h0 h => pr 4 [(3, gw h0 g0), (4, gw h0 g0), (5, py h0)] <| sp h (fun h1 h => pr 4 [(7, gw h1 g0), (8, gw h1 g0), (9, py h1)] <| sp h (fun h2 h => pr 4 [(11, gw h2 g0), (12, gw h2 g0), (13, py h2)] <| sp h (fun h3 h => pr 4 [(15, gw h3 g0), (16, gw h3 g0), (17, py h3)] <| sp h (fun h4 h => pr 4 [(19, gw h4 g0), (20, gw h4 g0), (21, py h4)] <| sp h (fun h5 h => pr 5 [(23, gw h5 g0), (24, gw h5 (ln v4.1)), (25, gw h5 g0), (26, py h5)] <| sp h (fun h6 h => bd h fun v7 e7 h => pr 7 [(28, gw h6 g0), (29, gw h6 (ix e7)), (30, gw h6 g0), (31, gw h6 g0), (32, gw h6 g0), (33, py h6)] <| sp h (fun h7 h => pr 4 [(35, gw h7 g0), (36, gw h7 g0), (37, py h7)] <| sp h (fun h8 h => pr 4 [(39, gw h8 g0), (40, gw h8 g0), (41, py h8)] <| pe <| goN [] [] <| rt h) fun h8 h =>
                  pr 4 [(39, gs1 h8), (40, gs1 h8), (41, pn h8)] <| pe <| goN [] [] <| rt h) fun h7 h =>
                pr 8 [(35, gs1 h7), (36, gs1 h7), (37, pn h7)] <| pe <| goN [] [] <| rt h) fun h6 h =>
              pr 15 [(28, gs1 h6), (29, gs1 h6), (30, gs1 h6), (31, gs1 h6), (32, gs1 h6), (33, pn h6)] <| pe <| goN [] [] <| rt h) fun h5 h =>
            pr 20 [(23, gs1 h5), (24, gs1 h5), (25, gs1 h5), (26, pn h5)] <| pe <| goN [] [] <| rt h) fun h4 h =>
          pr 24 [(19, gs1 h4), (20, gs1 h4), (21, pn h4)] <| pe <| goN [] [] <| rt h) fun h3 h =>
        pr 28 [(15, gs1 h3), (16, gs1 h3), (17, pn h3)] <| pe <| goN [] [] <| rt h) fun h2 h =>
      pr 32 [(11, gs1 h2), (12, gs1 h2), (13, pn h2)] <| pe <| goN [] [] <| rt h) fun h1 h =>
    pr 36 [(7, gs1 h1), (8, gs1 h1), (9, pn h1)] <| pe <| goN [] [] <| rt h) fun h0 h =>
  pr 40 [(3, gs1 h0), (4, gs1 h0), (5, pn h0)] <| pe <| goN [] [] <| rt h
/-! armature armatureref05.member -/
def R52 (y0 : Bool) : D := .bool y0
def m_armatureref05_member (x0 : Int) : Option (Bool) :=
  if (x0 == 9) = true then (some true) else
  (if (x0 == 10) = true then (some true) else
    (some (x0 == 11)))
theorem w52 {x0 : Int} {r : Bool} (h : m_armatureref05_member x0 = some r) : CallSpec Try.prog 52 [dI x0] (R52 r) :=
  cs Try.f52 <| go [1] [] <| po <| pr 3 [] <| sp h (fun h0 h => pr 8 [(3, gs0 h0), (4, gs0 h0), (5, py h0)] <| pe <| goN [] [] <| rt h) fun h0 h =>
  pr 4 [(3, gw h0 g0), (4, gw h0 g0), (5, pn h0)] <| sp h (fun h1 h => pr 4 [(7, gs0 h1), (8, gs0 h1), (9, py h1)] <| pe <| goN [] [] <| rt h) fun h1 h =>
    pr 4 [(7, gw h1 g0), (8, gw h1 g0), (9, pn h1)] <| pe <| goN [] [] <| rt h
/-! armature armatureref05.Known -/
def R38 (y0 : Bool) : D := .bool y0
def m_armatureref05_Known (x0 : Int) : Option (Bool) :=
  if (x0 == 1) = true then (some true) else
  (if (x0 == 3) = true then (some true) else
    (if (x0 == 5) = true then (some true) else
      (if (x0 == 7) = true then (some true) else
        (if (x0 == 8) = true then (some true) else
          (if (x0 == 12) = true then (some true) else
            ((m_armatureref05_member x0).bind fun v0 =>
              some v0))))))
theorem w38 {x0 : Int} {r : Bool} (h : m_armatureref05_Known x0 = some r) : CallSpec Try.prog 38 [dI x0] (R38 r) :=
  cs Try.f38 <| go [1] [] <| po <| pr 3 [] <| sp h (fun h0 h => pr 24 [(3, gs0 h0), (4, gs0 h0), (5, py h0)] <| pe <| goN [] [] <| rt h) fun h0 h =>
  pr 4 [(3, gw h0 g0), (4, gw h0 g0), (5, pn h0)] <| sp h (fun h1 h => pr 20 [(7, gs0 h1), (8, gs0 h1), (9, py h1)] <| pe <| goN [] [] <| rt h) fun h1 h =>
    pr 4 [(7, gw h1 g0), (8, gw h1 g0), (9, pn h1)] <| sp h (fun h2 h => pr 16 [(11, gs0 h2), (12, gs0 h2), (13, py h2)] <| pe <| goN [] [] <| rt h) fun h2 h =>
      pr 4 [(11, gw h2 g0), (12, gw h2 g0), (13, pn h2)] <| sp h (fun h3 h => pr 12 [(15, gs0 h3), (16, gs0 h3), (17, py h3)] <| pe <| goN [] [] <| rt h) fun h3 h =>
        pr 4 [(15, gw h3 g0), (16, gw h3 g0), (17, pn h3)] <| sp h (fun h4 h => pr 8 [(19, gs0 h4), (20, gs0 h4), (21, py h4)] <| pe <| goN [] [] <| rt h) fun h4 h =>
          pr 4 [(19, gw h4 g0), (20, gw h4 g0), (21, pn h4)] <| sp h (fun h5 h => pr 4 [(23, gs0 h5), (24, gs0 h5), (25, py h5)] <| pe <| goN [] [] <| rt h) fun h5 h =>
            bd h fun v0 e0 h => pr 4 [(23, gw h5 g0), (24, gw h5 (k (w52 e0))), (25, pn h5)] <| pe <| goN [] [] <| rt h
end Go.Proofs
