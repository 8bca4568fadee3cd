/-
  Models of functions of the program, and that the functions compute them. Printed by den3.py. No condition.
-/
import Derived.Test.YtkooiildghlaaaaRows
import Derived.Test.YtkooiildghlaaaaDenGo
import Derived.Test.YtkooiildghlaaaaDenClaim
set_option linter.unusedVariables false
namespace Go.Proofs
open Go.Den Go.Den.W
structure T_api_Attr where
  f_NameIndex : Int
  f_Bytes : List UInt8
def row_T_api_Attr (x : T_api_Attr) : List D := [.int .i64 x.f_NameIndex, .str x.f_Bytes]
instance : Row T_api_Attr := ⟨row_T_api_Attr, 2, fun _ => rfl⟩
structure T_api_Const where
  f_Tag : Int
  f_S : List UInt8
  f_N : Int
  f_A : Int
  f_B : Int
def row_T_api_Const (x : T_api_Const) : List D := [.int .i64 x.f_Tag, .str x.f_S, .int .i64 x.f_N, .int .i64 x.f_A, .int .i64 x.f_B]
instance : Row T_api_Const := ⟨row_T_api_Const, 5, fun _ => rfl⟩
structure T_api_Member where
  f_Flags : Int
  f_Name : Int
  f_Desc : Int
  f_Attributes : List T_api_Attr
def row_T_api_Member (x : T_api_Member) : List D := [.int .i64 x.f_Flags, .int .i64 x.f_Name, .int .i64 x.f_Desc, .sl false (x.f_Attributes.map row_T_api_Attr)]
instance : Row T_api_Member := ⟨row_T_api_Member, 4, fun _ => rfl⟩
structure T_api_File where
  f_Pool : List T_api_Const
  f_Flags : Int
  f_This : Int
  f_Super : Int
  f_Interfaces : List Int
  f_Fields : List T_api_Member
  f_Methods : List T_api_Member
  f_Attributes : List T_api_Attr
def row_T_api_File (x : T_api_File) : List D := [.sl false (x.f_Pool.map row_T_api_Const), .int .i64 x.f_Flags, .int .i64 x.f_This, .int .i64 x.f_Super, .sl false (x.f_Interfaces.map rI64), .sl false (x.f_Fields.map row_T_api_Member), .sl false (x.f_Methods.map row_T_api_Member), .sl false (x.f_Attributes.map row_T_api_Attr)]
instance : Row T_api_File := ⟨row_T_api_File, 8, fun _ => rfl⟩
structure T_api_Type where
  f_Dim : Int
  f_Base : Int
  f_Name : List UInt8
def row_T_api_Type (x : T_api_Type) : List D := [.int .i64 x.f_Dim, .int .u8 x.f_Base, .str x.f_Name]
instance : Row T_api_Type := ⟨row_T_api_Type, 3, fun _ => rfl⟩
structure T_api_Sig where
  f_Params : List T_api_Type
  f_Result : T_api_Type
def row_T_api_Sig (x : T_api_Sig) : List D := [.sl false (x.f_Params.map row_T_api_Type), .int .i64 x.f_Result.f_Dim, .int .u8 x.f_Result.f_Base, .str x.f_Result.f_Name]
instance : Row T_api_Sig := ⟨row_T_api_Sig, 4, fun _ => rfl⟩
structure T_file_reader where
  f_s : List UInt8
  f_at : Int
  f_e : Int
def row_T_file_reader (x : T_file_reader) : List D := [.str x.f_s, .int .i64 x.f_at, .int .i64 x.f_e]
instance : Row T_file_reader := ⟨row_T_file_reader, 3, fun _ => rfl⟩
structure T_file_writer where
  f_b : List Int
def row_T_file_writer (x : T_file_writer) : List D := [.sl false (x.f_b.map rU8)]
instance : Row T_file_writer := ⟨row_T_file_writer, 1, fun _ => rfl⟩
structure T_poolcode_reader where
  f_s : List UInt8
  f_at : Int
  f_err : Int
def row_T_poolcode_reader (x : T_poolcode_reader) : List D := [.str x.f_s, .int .i64 x.f_at, .int .i64 x.f_err]
instance : Row T_poolcode_reader := ⟨row_T_poolcode_reader, 3, fun _ => rfl⟩
def eqb_T_api_Const (x y : T_api_Const) : Bool := ((x.f_Tag == y.f_Tag) && ((x.f_S == y.f_S) && ((x.f_N == y.f_N) && ((x.f_A == y.f_A) && ((x.f_B == y.f_B) && true)))))
def eqq_74 : Prop := Try.prog.stoodInHeld 74 = false ∧ ("Tag" ≠ "_" ∧ True ∧ ("S" ≠ "_" ∧ True ∧ ("N" ≠ "_" ∧ True ∧ ("A" ≠ "_" ∧ True ∧ ("B" ≠ "_" ∧ True ∧ True)))))
theorem eqp_74 : eqq_74 := ⟨by kernel_rfl, ⟨by decide, trivial, ⟨by decide, trivial, ⟨by decide, trivial, ⟨by decide, trivial, ⟨by decide, trivial, trivial⟩⟩⟩⟩⟩⟩
theorem eqg_74 : Try.prog.eqGuardType Try.prog.depth 74 = false := by kernel_rfl
def eqb_T_api_Attr (x y : T_api_Attr) : Bool := ((x.f_NameIndex == y.f_NameIndex) && ((x.f_Bytes == y.f_Bytes) && true))
def eqq_95 : Prop := Try.prog.stoodInHeld 95 = false ∧ ("NameIndex" ≠ "_" ∧ True ∧ ("Bytes" ≠ "_" ∧ True ∧ True))
theorem eqp_95 : eqq_95 := ⟨by kernel_rfl, ⟨by decide, trivial, ⟨by decide, trivial, trivial⟩⟩⟩
theorem eqg_95 : Try.prog.eqGuardType Try.prog.depth 95 = false := by kernel_rfl
def eqb_T_api_Type (x y : T_api_Type) : Bool := ((x.f_Dim == y.f_Dim) && ((x.f_Base == y.f_Base) && ((x.f_Name == y.f_Name) && true)))
def eqq_128 : Prop := Try.prog.stoodInHeld 128 = false ∧ ("Dim" ≠ "_" ∧ True ∧ ("Base" ≠ "_" ∧ True ∧ ("Name" ≠ "_" ∧ True ∧ True)))
theorem eqp_128 : eqq_128 := ⟨by kernel_rfl, ⟨by decide, trivial, ⟨by decide, trivial, ⟨by decide, trivial, trivial⟩⟩⟩⟩
theorem eqg_128 : Try.prog.eqGuardType Try.prog.depth 128 = false := by kernel_rfl
/-! armature armaturelaw11.small -/
def R8 (y0 : Bool) : D := .bool y0
def l8x1 (x0 : T_api_File) (t0 : Int × Int) : Option (Ctl (Int × Int) (Int)) :=
  if (decide (t0.2 < (x0.f_Fields.length : Int))) = true then
    ((getR x0.f_Fields t0.2).bind fun v2 =>
    (some (IntKind.wrap .i64 (t0.1 + (v2.f_Attributes.length : Int)))).bind fun v3 =>
    (some (IntKind.wrap .i64 (t0.2 + (1 : Int)))).bind fun v4 =>
    some (.next (v3, v4))) else
  (some (.done (t0.1)))
def l8x2 (x0 : T_api_File) (t1 : Int × Int) : Option (Ctl (Int × Int) (Int)) :=
  if (decide (t1.2 < (x0.f_Methods.length : Int))) = true then
    ((getR x0.f_Methods t1.2).bind fun v7 =>
    (some (IntKind.wrap .i64 (t1.1 + (v7.f_Attributes.length : Int)))).bind fun v8 =>
    (some (IntKind.wrap .i64 (t1.2 + (1 : Int)))).bind fun v9 =>
    some (.next (v8, v9))) else
  (some (.done (t1.1)))
def j8x1 (x0 : T_api_File) : Option (Bool) :=
  (loopM (l8x1 x0) rounds (0, 0)).bind fun q0 =>
  (loopM (l8x2 x0) rounds (q0, 0)).bind fun q2 =>
  some (decide (q2 ≤ 60))
def m_armaturelaw11_small (x0 : T_api_File) : Option (Bool) :=
  if (decide ((x0.f_Pool.length : Int) > 60)) = true then (some false) else
  (if (decide ((x0.f_Fields.length : Int) > 80)) = true then (some false) else
    (if (decide ((x0.f_Methods.length : Int) > 80)) = true then (some false) else
      (if (decide ((x0.f_Attributes.length : Int) > 20)) = true then (some false) else
        (if (decide ((x0.f_Interfaces.length : Int) > 20)) = true then
            (some false) else
          ((j8x1 x0) )))))
def st8x1 (x0 : T_api_File) : (Int × Int) → SL :=
  fun t0 => ⟨68, [(1, .ptr (row_T_api_File x0)), (3, dI t0.1), (4, dI t0.2)], []⟩
def J8x1 (x0 : T_api_File) : JT Int :=
  je 0 fun q0 : Int => ⟨68, [(1, .ptr (row_T_api_File x0)), (3, dI q0)], []⟩
theorem wl8x1 {x0 : T_api_File} {t0 : Int × Int} {r : Ctl (Int × Int) (Int)} {Γ : Ctx} (h : (l8x1 x0) t0 = some r) : A Try.prog Γ (lpC Try.f8 87) [] (Rd (st8x1 x0) (J8x1 x0) r) ((st8x1 x0) t0).s :=
  go [] [rg 5 [(3, ln x0.f_Fields)]] <| br h (fun h6 h => bd h fun v2 e2 h => bd h fun v3 e3 h => bd h fun v4 e4 h => go [] [rg 7 [(4, ix e2), (7, ln v2.f_Attributes), (8, n e3)], rg 6 [(1, n e4)]] <| nx h) fun h6 h =>
  go [] [] <| dn h (iE)
def st8x2 (x0 : T_api_File) : (Int × Int) → SL :=
  fun t1 => ⟨68, [(1, .ptr (row_T_api_File x0)), (3, dI t1.1), (5, dI t1.2)], []⟩
def J8x2  : JT Int :=
  je 2 fun q2 : Int => ⟨68, [(3, dI q2)], []⟩
theorem wl8x2 {x0 : T_api_File} {t1 : Int × Int} {r : Ctl (Int × Int) (Int)} {Γ : Ctx} (h : (l8x2 x0) t1 = some r) : A Try.prog Γ (lpC Try.f8 175) [] (Rd (st8x2 x0) J8x2 r) ((st8x2 x0) t1).s :=
  go [] [rg 9 [(3, ln x0.f_Methods)]] <| br h (fun h8 h => bd h fun v7 e8 h => bd h fun v8 e9 h => bd h fun v9 e10 h => go [] [rg 11 [(4, ix e8), (7, ln v7.f_Attributes), (8, n e9)], rg 10 [(1, n e10)]] <| nx h) fun h8 h =>
  go [] [] <| dn h (iE)
theorem wj8x1 {x0 : T_api_File} {r : Bool} {Γ : Ctx} (h : (j8x1 x0)  = some r) : Jn Try.prog Try.f8 Γ (Den.Ends Try.prog Try.f8 (R8 r)) 11 ⟨68, [(1, .ptr (row_T_api_File x0))], []⟩ :=
  so <| go [] [] <| bd h fun q0 e5 h => lp e5 wl8x1 <| qe <| goN [] [] <| bd h fun q2 e11 h => lp e11 wl8x2 <| qe <| goN [] [] <| rt h
theorem w8 {x0 : T_api_File} {r : Bool} (h : m_armaturelaw11_small x0 = some r) : CallSpec Try.prog 8 [.agg (row_T_api_File x0)] (R8 r) :=
  cs Try.f8 <| go [1] [rg 0 [(0, bo)]] <| po <| pr 5 [(2, ln x0.f_Pool)] <| sp h (fun h0 h => pr 23 [(5, gs0 h0), (6, gs0 h0), (7, gs0 h0), (8, gs0 h0), (9, py h0)] <| pe <| goN [] [] <| bT rfl <| go [] [] <| rt h) fun h0 h =>
  pr 6 [(5, gw h0 g0), (6, gw h0 g0), (7, gw h0 (ln x0.f_Fields)), (8, gw h0 g0), (9, pn h0)] <| sp h (fun h1 h => pr 17 [(11, gs0 h1), (12, gs0 h1), (13, gs0 h1), (14, gs0 h1), (15, py h1)] <| pe <| goN [] [] <| bT rfl <| go [] [] <| rt h) fun h1 h =>
    pr 6 [(11, gw h1 g0), (12, gw h1 g0), (13, gw h1 (ln x0.f_Methods)), (14, gw h1 g0), (15, pn h1)] <| sp h (fun h2 h => pr 11 [(17, gs0 h2), (18, gs0 h2), (19, gs0 h2), (20, gs0 h2), (21, py h2)] <| pe <| goN [] [] <| bT rfl <| go [] [] <| rt h) fun h2 h =>
      pr 6 [(17, gw h2 g0), (18, gw h2 g0), (19, gw h2 (ln x0.f_Attributes)), (20, gw h2 g0), (21, pn h2)] <| sp h (fun h3 h => pr 5 [(23, gs0 h3), (24, gs0 h3), (25, gs0 h3), (26, gs0 h3), (27, py h3)] <| pe <| goN [] [] <| bT rfl <| go [] [] <| rt h) fun h3 h =>
        pr 5 [(23, gw h3 g0), (24, gw h3 g0), (25, gw h3 (ln x0.f_Interfaces)), (26, gw h3 g0), (27, pn h3)] <| pe <| goN [] [] <| br h (fun h4 h => go [] [] <| rt h) fun h4 h =>
          go [3] [] <| jn (wj8x1 h)
/-! armature pool.links -/
def R71 (y0 : Int × Int × Bool) : D := .tup [.int .i64 y0.1, .int .i64 y0.2.1, .bool y0.2.2]
def j71x5 (x0 : Int) : Option (Int × Int × Bool) :=
  if (x0 == 11) = true then
    (some (7, 12, true)) else
  (some (0, 0, false))
def j71x4 (x0 : Int) : Option (Int × Int × Bool) :=
  if (x0 == 12) = true then
    (some (1, 1, true)) else
  (if (x0 == 9) = true then
      (some (7, 12, true)) else
    (if (x0 == 10) = true then
        (some (7, 12, true)) else
      ((j71x5 x0) )))
def j71x3 (x0 : Int) : Option (Int × Int × Bool) :=
  if (x0 == 8) = true then
    (some (1, 0, true)) else
  ((j71x4 x0) )
def j71x2 (x0 : Int) : Option (Int × Int × Bool) :=
  if (x0 == 7) = true then
    (some (1, 0, true)) else
  ((j71x3 x0) )
def j71x1 (x0 : Int) : Option (Int × Int × Bool) :=
  if (x0 == 5) = true then
    (some (0, 0, true)) else
  ((j71x2 x0) )
def m_pool_links (x0 : Int) : Option (Int × Int × Bool) :=
  if (x0 == 1) = true then
    (some (0, 0, true)) else
  (if (x0 == 3) = true then
      (some (0, 0, true)) else
    ((j71x1 x0) ))
theorem wj71x5 {x0 : Int} {r : Int × Int × Bool} {Γ : Ctx} (h : (j71x5 x0)  = some r) : Jn Try.prog Try.f71 Γ (Den.Ends Try.prog Try.f71 (R71 r)) 4085 ⟨19, [(15, .bool (x0 == 11))], []⟩ (x0 == 11) :=
  br h (fun h8 h => go [] [] <| rt h) fun h8 h =>
  go [] [] <| rt h
theorem wj71x4 {x0 : Int} {r : Int × Int × Bool} {Γ : Ctx} (h : (j71x4 x0)  = some r) : Jn Try.prog Try.f71 Γ (Den.Ends Try.prog Try.f71 (R71 r)) 757 ⟨19, [(5, dI x0)], []⟩ :=
  so <| go [] [] <| br h (fun h5 h => go [] [] <| rt h) fun h5 h =>
  go [] [] <| br h (fun h6 h => go [] [] <| bT h6 <| go [] [] <| rt h) fun h6 h =>
    go [] [] <| br h (fun h7 h => go [] [] <| bT h7 <| go [] [] <| rt h) fun h7 h =>
      go [] [] <| jn (wj71x5 h)
theorem wj71x3 {x0 : Int} {r : Int × Int × Bool} {Γ : Ctx} (h : (j71x3 x0)  = some r) : Jn Try.prog Try.f71 Γ (Den.Ends Try.prog Try.f71 (R71 r)) 245 ⟨19, [(5, dI x0), (10, .bool (x0 == 8))], []⟩ (x0 == 8) :=
  br h (fun h4 h => go [] [] <| rt h) fun h4 h =>
  go [9] [] <| jn (wj71x4 h)
theorem wj71x2 {x0 : Int} {r : Int × Int × Bool} {Γ : Ctx} (h : (j71x2 x0)  = some r) : Jn Try.prog Try.f71 Γ (Den.Ends Try.prog Try.f71 (R71 r)) 309 ⟨19, [(5, dI x0)], []⟩ :=
  so <| go [] [] <| br h (fun h3 h => go [] [] <| bT h3 <| go [] [] <| rt h) fun h3 h =>
  go [] [] <| jn (wj71x3 h)
theorem wj71x1 {x0 : Int} {r : Int × Int × Bool} {Γ : Ctx} (h : (j71x1 x0)  = some r) : Jn Try.prog Try.f71 Γ (Den.Ends Try.prog Try.f71 (R71 r)) 53 ⟨19, [(5, dI x0), (6, .bool (x0 == 5))], []⟩ (x0 == 5) :=
  br h (fun h2 h => go [] [] <| rt h) fun h2 h =>
  go [6] [] <| jn (wj71x2 h)
theorem w71 {x0 : Int} {r : Int × Int × Bool} (h : m_pool_links x0 = some r) : CallSpec Try.prog 71 [dI x0] (R71 r) :=
  cs Try.f71 <| go [] [] <| br h (fun h0 h => go [] [] <| bT h0 <| go [] [] <| rt h) fun h0 h =>
  go [] [] <| br h (fun h1 h => go [] [] <| bT h1 <| go [] [] <| rt h) fun h1 h =>
    go [] [] <| jn (wj71x1 h)
/-! armature pool.unused -/
def R72 (y0 : Bool) : D := .bool y0
def m_pool_unused (x0 : T_api_Const) (x1 x2 : Int) : Option (Bool) :=
  if (x0.f_Tag == 3) = true then (if (!(x0.f_Tag == 1)) = true then (if (!(x0.f_S == ([] : List UInt8))) = true then (some true) else
    (if (x1 == 0) = true then (if (x0.f_A != 0) = true then (some true) else
        (if (x2 == 0) = true then (some (x0.f_B != 0)) else
          (some false))) else
      (if (x2 == 0) = true then (some (x0.f_B != 0)) else
        (some false)))) else
  (if (x1 == 0) = true then (if (x0.f_A != 0) = true then (some true) else
      (if (x2 == 0) = true then (some (x0.f_B != 0)) else
        (some false))) else
    (if (x2 == 0) = true then (some (x0.f_B != 0)) else
      (some false)))) else
  (if (!(x0.f_Tag == 1)) = true then (if (!(x0.f_S == ([] : List UInt8))) = true then (some true) else
    (if (!(x0.f_Tag == 5)) = true then (if (x0.f_N != 0) = true then (some true) else
        (if (x1 == 0) = true then (if (x0.f_A != 0) = true then (some true) else
            (if (x2 == 0) = true then (some (x0.f_B != 0)) else
              (some false))) else
          (if (x2 == 0) = true then (some (x0.f_B != 0)) else
            (some false)))) else
      (if (x1 == 0) = true then (if (x0.f_A != 0) = true then (some true) else
          (if (x2 == 0) = true then (some (x0.f_B != 0)) else
            (some false))) else
        (if (x2 == 0) = true then (some (x0.f_B != 0)) else
          (some false))))) else
  (if (!(x0.f_Tag == 5)) = true then (if (x0.f_N != 0) = true then (some true) else
      (if (x1 == 0) = true then (if (x0.f_A != 0) = true then (some true) else
          (if (x2 == 0) = true then (some (x0.f_B != 0)) else
            (some false))) else
        (if (x2 == 0) = true then (some (x0.f_B != 0)) else
          (some false)))) else
    (if (x1 == 0) = true then (if (x0.f_A != 0) = true then (some true) else
        (if (x2 == 0) = true then (some (x0.f_B != 0)) else
          (some false))) else
      (if (x2 == 0) = true then (some (x0.f_B != 0)) else
        (some false)))))
theorem w72 {x0 : T_api_Const} {x1 x2 : Int} {r : Bool} (h : m_pool_unused x0 x1 x2 = some r) : CallSpec Try.prog 72 [.agg (row_T_api_Const x0), dI x1, dI x2] (R72 r) :=
  cs Try.f72 <| sp h (fun h0 h => go [2] [rg 0 [(0, bo)], rgo 1 [(5, kb h0)] [0, 1, 2, 3, 4, 5, 6, 7, 8, 9, 10, 11, 12] [] [(1, [0]), (2, [0, 1]), (4, [3]), (5, [3, 4]), (6, [3, 4, 5]), (7, [3, 4, 5, 6]), (8, [3, 4, 5, 6, 7]), (9, [3, 4, 5, 6, 7, 8]), (10, [3, 4, 5, 6, 7, 8, 9]), (11, [0, 1, 2, 3, 4, 5, 6]), (12, [0, 1, 2, 3, 4, 5, 6, 7, 8, 9, 10, 11])]] <| po <| pr 3 [] <| sp h (fun h1 h => pr 5 [(3, gw h1 g0), (4, gw h1 g0), (5, gw h1 g0), (6, py h1)] <| sp h (fun h2 h => pr 27 [(8, gs0 h2), (9, gs0 h2), (10, gs0 h2), (14, gs0 h2), (15, py h2)] <| pe <| goN [] [] <| rt h) fun h2 h =>
    pr 12 [(8, gw h2 g0), (9, gw h2 g0), (10, gw h2 g0), (14, gw h2 g0), (15, pn h2)] <| sp h (fun h3 h => pr 6 [(20, gw h3 g0), (21, gw h3 g0), (22, gw h3 g0), (23, py h3)] <| sp h (fun h4 h => pr 9 [(26, gs0 h4), (27, gs0 h4), (28, gs0 h4), (32, gs0 h4), (33, py h4)] <| pe <| goN [] [] <| rt h) fun h4 h =>
        pr 3 [(26, gw h4 g0), (27, gw h4 g0), (28, gw h4 g0)] <| sp h (fun h5 h => pr 6 [(29, gw h5 g0), (30, gw h5 g0), (31, gw h5 g0), (32, gw h4 (py h5)), (33, pn h4)] <| pe <| goN [] [] <| rt h) fun h5 h =>
          pr 6 [(29, gs1 h5), (30, gs1 h5), (31, gs1 h5), (32, gw h4 (pn h5)), (33, pn h4)] <| pe <| goN [] [] <| rt h) fun h3 h =>
      pr 9 [(20, gs1 h3), (21, gs1 h3), (22, gs1 h3), (23, pn h3)] <| sp h (fun h6 h => pr 6 [(29, gw h6 g0), (30, gw h6 g0), (31, gw h6 g0), (32, py h6)] <| pe <| goN [] [] <| rt h) fun h6 h =>
        pr 6 [(29, gs1 h6), (30, gs1 h6), (31, gs1 h6), (32, pn h6)] <| pe <| goN [] [] <| rt h) fun h1 h =>
  pr 17 [(3, gs1 h1), (4, gs1 h1), (5, gs1 h1), (6, pn h1)] <| sp h (fun h7 h => pr 6 [(20, gw h7 g0), (21, gw h7 g0), (22, gw h7 g0), (23, py h7)] <| sp h (fun h8 h => pr 9 [(26, gs0 h8), (27, gs0 h8), (28, gs0 h8), (32, gs0 h8), (33, py h8)] <| pe <| goN [] [] <| rt h) fun h8 h =>
      pr 3 [(26, gw h8 g0), (27, gw h8 g0), (28, gw h8 g0)] <| sp h (fun h9 h => pr 6 [(29, gw h9 g0), (30, gw h9 g0), (31, gw h9 g0), (32, gw h8 (py h9)), (33, pn h8)] <| pe <| goN [] [] <| rt h) fun h9 h =>
        pr 6 [(29, gs1 h9), (30, gs1 h9), (31, gs1 h9), (32, gw h8 (pn h9)), (33, pn h8)] <| pe <| goN [] [] <| rt h) fun h7 h =>
    pr 9 [(20, gs1 h7), (21, gs1 h7), (22, gs1 h7), (23, pn h7)] <| sp h (fun h10 h => pr 6 [(29, gw h10 g0), (30, gw h10 g0), (31, gw h10 g0), (32, py h10)] <| pe <| goN [] [] <| rt h) fun h10 h =>
      pr 6 [(29, gs1 h10), (30, gs1 h10), (31, gs1 h10), (32, pn h10)] <| pe <| goN [] [] <| rt h) fun h0 h =>
  go [2] [rg 0 [(0, bo)], rgo 1 [(5, kb h0)] [0, 1, 2, 3, 4, 5, 6, 7, 8, 9, 10, 11, 12] [] [(1, [0]), (2, [0, 1]), (4, [3]), (5, [3, 4]), (6, [3, 4, 5]), (7, [3, 4, 5, 6]), (8, [3, 4, 5, 6, 7]), (9, [3, 4, 5, 6, 7, 8]), (10, [3, 4, 5, 6, 7, 8, 9]), (11, [0, 1, 2, 3, 4, 5, 6]), (12, [0, 1, 2, 3, 4, 5, 6, 7, 8, 9, 10, 11])]] <| po <| pr 3 [] <| sp h (fun h11 h => pr 5 [(3, gw h11 g0), (4, gw h11 g0), (5, gw h11 g0), (6, py h11)] <| sp h (fun h12 h => pr 27 [(8, gs0 h12), (9, gs0 h12), (10, gs0 h12), (14, gs0 h12), (15, py h12)] <| pe <| goN [] [] <| rt h) fun h12 h =>
    pr 3 [(8, gw h12 g0), (9, gw h12 g0), (10, gw h12 g0)] <| sp h (fun h13 h => pr 6 [(11, gw h13 g0), (12, gw h13 g0), (13, gw h13 g0), (14, gw h12 (py h13)), (15, pn h12)] <| sp h (fun h14 h => pr 18 [(17, gs0 h14), (18, gs0 h14), (19, gs0 h14), (23, gs0 h14), (24, py h14)] <| pe <| goN [] [] <| rt h) fun h14 h =>
        pr 3 [(17, gw h14 g0), (18, gw h14 g0), (19, gw h14 g0)] <| sp h (fun h15 h => pr 6 [(20, gw h15 g0), (21, gw h15 g0), (22, gw h15 g0), (23, gw h14 (py h15)), (24, pn h14)] <| sp h (fun h16 h => pr 9 [(26, gs0 h16), (27, gs0 h16), (28, gs0 h16), (32, gs0 h16), (33, py h16)] <| pe <| goN [] [] <| rt h) fun h16 h =>
            pr 3 [(26, gw h16 g0), (27, gw h16 g0), (28, gw h16 g0)] <| sp h (fun h17 h => pr 6 [(29, gw h17 g0), (30, gw h17 g0), (31, gw h17 g0), (32, gw h16 (py h17)), (33, pn h16)] <| pe <| goN [] [] <| rt h) fun h17 h =>
              pr 6 [(29, gs1 h17), (30, gs1 h17), (31, gs1 h17), (32, gw h16 (pn h17)), (33, pn h16)] <| pe <| goN [] [] <| rt h) fun h15 h =>
          pr 9 [(20, gs1 h15), (21, gs1 h15), (22, gs1 h15), (23, gw h14 (pn h15)), (24, pn h14)] <| sp h (fun h18 h => pr 6 [(29, gw h18 g0), (30, gw h18 g0), (31, gw h18 g0), (32, py h18)] <| pe <| goN [] [] <| rt h) fun h18 h =>
            pr 6 [(29, gs1 h18), (30, gs1 h18), (31, gs1 h18), (32, pn h18)] <| pe <| goN [] [] <| rt h) fun h13 h =>
      pr 9 [(11, gs1 h13), (12, gs1 h13), (13, gs1 h13), (14, gw h12 (pn h13)), (15, pn h12)] <| sp h (fun h19 h => pr 6 [(20, gw h19 g0), (21, gw h19 g0), (22, gw h19 g0), (23, py h19)] <| sp h (fun h20 h => pr 9 [(26, gs0 h20), (27, gs0 h20), (28, gs0 h20), (32, gs0 h20), (33, py h20)] <| pe <| goN [] [] <| rt h) fun h20 h =>
          pr 3 [(26, gw h20 g0), (27, gw h20 g0), (28, gw h20 g0)] <| sp h (fun h21 h => pr 6 [(29, gw h21 g0), (30, gw h21 g0), (31, gw h21 g0), (32, gw h20 (py h21)), (33, pn h20)] <| pe <| goN [] [] <| rt h) fun h21 h =>
            pr 6 [(29, gs1 h21), (30, gs1 h21), (31, gs1 h21), (32, gw h20 (pn h21)), (33, pn h20)] <| pe <| goN [] [] <| rt h) fun h19 h =>
        pr 9 [(20, gs1 h19), (21, gs1 h19), (22, gs1 h19), (23, pn h19)] <| sp h (fun h22 h => pr 6 [(29, gw h22 g0), (30, gw h22 g0), (31, gw h22 g0), (32, py h22)] <| pe <| goN [] [] <| rt h) fun h22 h =>
          pr 6 [(29, gs1 h22), (30, gs1 h22), (31, gs1 h22), (32, pn h22)] <| pe <| goN [] [] <| rt h) fun h11 h =>
  pr 8 [(3, gs1 h11), (4, gs1 h11), (5, gs1 h11), (6, pn h11)] <| sp h (fun h23 h => pr 6 [(11, gw h23 g0), (12, gw h23 g0), (13, gw h23 g0), (14, py h23)] <| sp h (fun h24 h => pr 18 [(17, gs0 h24), (18, gs0 h24), (19, gs0 h24), (23, gs0 h24), (24, py h24)] <| pe <| goN [] [] <| rt h) fun h24 h =>
      pr 3 [(17, gw h24 g0), (18, gw h24 g0), (19, gw h24 g0)] <| sp h (fun h25 h => pr 6 [(20, gw h25 g0), (21, gw h25 g0), (22, gw h25 g0), (23, gw h24 (py h25)), (24, pn h24)] <| sp h (fun h26 h => pr 9 [(26, gs0 h26), (27, gs0 h26), (28, gs0 h26), (32, gs0 h26), (33, py h26)] <| pe <| goN [] [] <| rt h) fun h26 h =>
          pr 3 [(26, gw h26 g0), (27, gw h26 g0), (28, gw h26 g0)] <| sp h (fun h27 h => pr 6 [(29, gw h27 g0), (30, gw h27 g0), (31, gw h27 g0), (32, gw h26 (py h27)), (33, pn h26)] <| pe <| goN [] [] <| rt h) fun h27 h =>
            pr 6 [(29, gs1 h27), (30, gs1 h27), (31, gs1 h27), (32, gw h26 (pn h27)), (33, pn h26)] <| pe <| goN [] [] <| rt h) fun h25 h =>
        pr 9 [(20, gs1 h25), (21, gs1 h25), (22, gs1 h25), (23, gw h24 (pn h25)), (24, pn h24)] <| sp h (fun h28 h => pr 6 [(29, gw h28 g0), (30, gw h28 g0), (31, gw h28 g0), (32, py h28)] <| pe <| goN [] [] <| rt h) fun h28 h =>
          pr 6 [(29, gs1 h28), (30, gs1 h28), (31, gs1 h28), (32, pn h28)] <| pe <| goN [] [] <| rt h) fun h23 h =>
    pr 9 [(11, gs1 h23), (12, gs1 h23), (13, gs1 h23), (14, pn h23)] <| sp h (fun h29 h => pr 6 [(20, gw h29 g0), (21, gw h29 g0), (22, gw h29 g0), (23, py h29)] <| sp h (fun h30 h => pr 9 [(26, gs0 h30), (27, gs0 h30), (28, gs0 h30), (32, gs0 h30), (33, py h30)] <| pe <| goN [] [] <| rt h) fun h30 h =>
        pr 3 [(26, gw h30 g0), (27, gw h30 g0), (28, gw h30 g0)] <| sp h (fun h31 h => pr 6 [(29, gw h31 g0), (30, gw h31 g0), (31, gw h31 g0), (32, gw h30 (py h31)), (33, pn h30)] <| pe <| goN [] [] <| rt h) fun h31 h =>
          pr 6 [(29, gs1 h31), (30, gs1 h31), (31, gs1 h31), (32, gw h30 (pn h31)), (33, pn h30)] <| pe <| goN [] [] <| rt h) fun h29 h =>
      pr 9 [(20, gs1 h29), (21, gs1 h29), (22, gs1 h29), (23, pn h29)] <| sp h (fun h32 h => pr 6 [(29, gw h32 g0), (30, gw h32 g0), (31, gw h32 g0), (32, py h32)] <| pe <| goN [] [] <| rt h) fun h32 h =>
        pr 6 [(29, gs1 h32), (30, gs1 h32), (31, gs1 h32), (32, pn h32)] <| pe <| goN [] [] <| rt h
/-! armature pool.At -/
def R84 (y0 : T_api_Const × Int) : D := .tup [.agg (row_T_api_Const y0.1), .int .i64 y0.2]
def m_pool_At (x0 : List T_api_Const) (x1 : Int) : Option (T_api_Const × Int) :=
  if (decide (x1 < 1)) = true then (some (({ f_Tag := 0, f_S := [], f_N := 0, f_A := 0, f_B := 0 } : T_api_Const), 2)) else
  (if (decide (x1 > (x0.length : Int))) = true then
    (some (({ f_Tag := 0, f_S := [], f_N := 0, f_A := 0, f_B := 0 } : T_api_Const), 2)) else
  ((some (IntKind.wrap .i64 (x1 - (1 : Int)))).bind fun v0 =>
    (getR x0 v0).bind fun v1 =>
    some (v1, 0)))
theorem w84 {x0 : List T_api_Const} {x1 : Int} {r : T_api_Const × Int} (h : m_pool_At x0 x1 = some r) : CallSpec Try.prog 84 [.sl false (x0.map row_T_api_Const), dI x1] (R84 r) :=
  cs Try.f84 <| sp h (fun h0 h => go [] [rg 1 [(1, kb h0)]] <| bT rfl <| go [] [] <| rt h) fun h0 h =>
  go [] [rg 1 [(1, kb h0), (5, ln x0)]] <| br h (fun h1 h => go [] [] <| rt h) fun h1 h =>
  bd h fun v0 e0 h => bd h fun v1 e1 h => go [] [rg 3 [(2, n e0), (3, ix e1)]] <| rt h
/-! armature pool.tagged -/
def R73 (y0 : T_api_Const × Int) : D := .tup [.agg (row_T_api_Const y0.1), .int .i64 y0.2]
def m_pool_tagged (x0 : List T_api_Const) (x1 x2 : Int) : Option (T_api_Const × Int) :=
  (m_pool_At x0 x1).bind fun v0 =>
  if (v0.2 == 0) = true then (if (v0.1.f_Tag != x2) = true then
    (some (({ f_Tag := 0, f_S := [], f_N := 0, f_A := 0, f_B := 0 } : T_api_Const), 11)) else
  (some (v0.1, v0.2))) else
  (some (v0.1, v0.2))
theorem w73 {x0 : List T_api_Const} {x1 x2 : Int} {r : T_api_Const × Int} (h : m_pool_tagged x0 x1 x2 = some r) : CallSpec Try.prog 73 [.sl false (x0.map row_T_api_Const), dI x1, dI x2] (R73 r) :=
  cs Try.f73 <| bd h fun v0 e0 h => sp h (fun h0 h => go [] [rg 1 [(2, k (w84 e0))], rg 2 [(1, kb h0)]] <| br h (fun h1 h => go [] [] <| rt h) fun h1 h =>
  go [] [] <| rt h) fun h0 h =>
  go [] [rg 1 [(2, k (w84 e0))], rg 2 [(1, kb h0)]] <| bF rfl <| go [] [] <| rt h
/-! armature pool.UTF8 -/
def R85 (y0 : (List UInt8) × Int) : D := .tup [.str y0.1, .int .i64 y0.2]
def m_pool_UTF8 (x0 : List T_api_Const) (x1 : Int) : Option ((List UInt8) × Int) :=
  (m_pool_tagged x0 x1 1).bind fun v0 =>
  if (v0.2 != 0) = true then
    (some ([], v0.2)) else
  (some (v0.1.f_S, 0))
theorem w85 {x0 : List T_api_Const} {x1 : Int} {r : (List UInt8) × Int} (h : m_pool_UTF8 x0 x1 = some r) : CallSpec Try.prog 85 [.sl false (x0.map row_T_api_Const), dI x1] (R85 r) :=
  cs Try.f85 <| bd h fun v0 e0 h => go [] [rg 1 [(2, k (w73 e0))]] <| br h (fun h0 h => go [] [] <| rt h) fun h0 h =>
  go [] [] <| rt h
/-! armature name.class -/
def R108 (y0 : Int) : D := .int .i64 y0
def j108x4 (x0 : Int) : Option (Int) :=
  if (decide ((48 : Int) ≤ x0)) = true then (if (decide (x0 ≤ 57)) = true then
    (some 2) else
  (some 0)) else
  (some 0)
def j108x3 (x0 : Int) : Option (Int) :=
  if (x0 == 36) = true then
    (some 1) else
  ((j108x4 x0) )
def j108x2 (x0 : Int) : Option (Int) :=
  if (x0 == 95) = true then
    (some 1) else
  ((j108x3 x0) )
def j108x1 (x0 : Int) : Option (Int) :=
  if (decide ((65 : Int) ≤ x0)) = true then (if (decide (x0 ≤ 90)) = true then
    (some 1) else
  ((j108x2 x0) )) else
  ((j108x2 x0) )
def m_name_class (x0 : Int) : Option (Int) :=
  if (decide ((97 : Int) ≤ x0)) = true then (if (decide (x0 ≤ 122)) = true then
    (some 1) else
  ((j108x1 x0) )) else
  ((j108x1 x0) )
theorem wj108x4 {x0 : Int} {r : Int} {Γ : Ctx} (h : (j108x4 x0)  = some r) : Jn Try.prog Try.f108 Γ (Den.Ends Try.prog Try.f108 (R108 r)) 89 ⟨27, [(0, d8 x0)], []⟩ :=
  so <| sp h (fun h6 h => go [] [rg 6 [(1, kb h6)]] <| br h (fun h7 h => go [] [] <| rt h) fun h7 h =>
  go [] [] <| rt h) fun h6 h =>
  go [] [rg 6 [(1, kb h6)]] <| bF rfl <| go [] [] <| rt h
theorem wj108x3 {x0 : Int} {r : Int} {Γ : Ctx} (h : (j108x3 x0)  = some r) : Jn Try.prog Try.f108 Γ (Den.Ends Try.prog Try.f108 (R108 r)) 25 ⟨27, [(0, d8 x0), (3, .bool (x0 == 36))], []⟩ (x0 == 36) :=
  br h (fun h5 h => go [] [] <| rt h) fun h5 h =>
  go [6] [] <| jn (wj108x4 h)
theorem wj108x2 {x0 : Int} {r : Int} {Γ : Ctx} (h : (j108x2 x0)  = some r) : Jn Try.prog Try.f108 Γ (Den.Ends Try.prog Try.f108 (R108 r)) 753 ⟨27, [(0, d8 x0)], []⟩ :=
  so <| go [] [] <| br h (fun h4 h => go [] [] <| bT h4 <| go [] [] <| rt h) fun h4 h =>
  go [] [] <| jn (wj108x3 h)
theorem wj108x1 {x0 : Int} {r : Int} {Γ : Ctx} (h : (j108x1 x0)  = some r) : Jn Try.prog Try.f108 Γ (Den.Ends Try.prog Try.f108 (R108 r)) 177 ⟨27, [(0, d8 x0)], []⟩ :=
  so <| sp h (fun h2 h => go [] [rg 2 [(1, kb h2)]] <| br h (fun h3 h => go [] [] <| bT h3 <| go [] [] <| rt h) fun h3 h =>
  go [3] [] <| jn (wj108x2 h)) fun h2 h =>
  go [] [rg 2 [(1, kb h2)]] <| bF rfl <| go [3] [] <| jn (wj108x2 h)
theorem w108 {x0 : Int} {r : Int} (h : m_name_class x0 = some r) : CallSpec Try.prog 108 [d8 x0] (R108 r) :=
  cs Try.f108 <| sp h (fun h0 h => go [] [rg 1 [(1, kb h0)]] <| br h (fun h1 h => go [] [] <| bT h1 <| go [] [] <| rt h) fun h1 h =>
  go [2] [] <| jn (wj108x1 h)) fun h0 h =>
  go [] [rg 1 [(1, kb h0)]] <| bF rfl <| go [2] [] <| jn (wj108x1 h)
/-! armature name.IsClassName -/
def R99 (y0 : Bool) : D := .bool y0
def j99x5 (t0 : Bool × Int) : Option (Ctl (Bool × Int) (Bool ⊕ Bool)) :=
  (some (IntKind.wrap .i64 (t0.2 + (1 : Int)))).bind fun v7 =>
  some (.next (true, v7))
def j99x4 (t0 : Bool × Int) : Option (Ctl (Bool × Int) (Bool ⊕ Bool)) :=
  (some (IntKind.wrap .i64 (t0.2 + (1 : Int)))).bind fun v6 =>
  some (.next (false, v6))
def j99x3 (t0 : Bool × Int) : Option (Ctl (Bool × Int) (Bool ⊕ Bool)) :=
  if (!t0.1) = true then
    ((j99x4 t0) ) else
  (some (.done (.inr false)))
def j99x2 (t0 : Bool × Int) (v4 : Int) : Option (Ctl (Bool × Int) (Bool ⊕ Bool)) :=
  if (v4 == 1) = true then
    ((j99x4 t0) ) else
  (if (v4 == 2) = true then ((j99x3 t0) ) else
    (some (.done (.inr false))))
def l99x1 (x0 : List UInt8) (t0 : Bool × Int) : Option (Ctl (Bool × Int) (Bool ⊕ Bool)) :=
  if (decide (t0.2 < (x0.length : Int))) = true then
    ((getS x0 t0.2).bind fun v3 =>
    (m_name_class v3).bind fun v4 =>
    (getS x0 t0.2).bind fun v5 =>
    if (v5 == 47) = true then (if (!t0.1) = true then
      ((j99x5 t0) ) else
    ((j99x2 t0 v4) )) else
    ((j99x2 t0 v4) )) else
  (some (.done (.inl (t0.1))))
def j99x1 (x0 : List UInt8) : Option (Bool) :=
  (loopM (l99x1 x0) rounds (true, 0)).bind fun q1 =>
  match q1 with
  | .inl q0 => (some (!q0))
  | .inr y0 => (some y0)
def m_name_IsClassName (x0 : List UInt8) : Option (Bool) :=
  if (x0 == ([] : List UInt8)) = true then (some false) else
  (if (decide ((x0.length : Int) > 64)) = true then
    (some false) else
  ((j99x1 x0) ))
def st99x1 (x0 : List UInt8) : (Bool × Int) → SL :=
  fun t0 => ⟨43, [(0, .str x0), (3, .bool t0.1), (14, dI (x0.length : Int)), (15, dI t0.2)], []⟩
def J99x1  : JT (Bool ⊕ Bool) :=
  ju (je 0 fun q0 : Bool => ⟨43, [(3, .bool q0)], []⟩) (jr Try.prog Try.f99 R99)
theorem wj99x5 (x0 : List UInt8) {t0 : Bool × Int} {r : Ctl (Bool × Int) (Bool ⊕ Bool)} {Γ : Ctx} (h : (j99x5 t0)  = some r) : Jn Try.prog Try.f99 Γ (Rd (st99x1 x0) J99x1 r) 88471 ⟨43, [(0, .str x0), (14, dI (x0.length : Int)), (15, dI t0.2)], []⟩ :=
  so <| bd h fun v7 e7 h => go [] [rg 14 [(0, n e7)]] <| nx h
theorem wj99x4 (x0 : List UInt8) {t0 : Bool × Int} {r : Ctl (Bool × Int) (Bool ⊕ Bool)} {Γ : Ctx} (h : (j99x4 t0)  = some r) : Jn Try.prog Try.f99 Γ (Rd (st99x1 x0) J99x1 r) 383383 ⟨43, [(0, .str x0), (14, dI (x0.length : Int)), (15, dI t0.2)], []⟩ :=
  so <| bd h fun v6 e6 h => go [] [rg 14 [(0, n e6)]] <| nx h
theorem wj99x3 (x0 : List UInt8) {t0 : Bool × Int} {r : Ctl (Bool × Int) (Bool ⊕ Bool)} {Γ : Ctx} (h : (j99x3 t0)  = some r) : Jn Try.prog Try.f99 Γ (Rd (st99x1 x0) J99x1 r) 252311 ⟨43, [(0, .str x0), (14, dI (x0.length : Int)), (15, dI t0.2), (31, .bool (!t0.1))], []⟩ (!t0.1) :=
  br h (fun h11 h => go [13] [] <| jn ((wj99x4 x0) h)) fun h11 h =>
  go [] [] <| dn h (i2 iR)
theorem wj99x2 (x0 : List UInt8) {t0 : Bool × Int} {v4 : Int} {r : Ctl (Bool × Int) (Bool ⊕ Bool)} {Γ : Ctx} (h : (j99x2 t0 v4)  = some r) : Jn Try.prog Try.f99 Γ (Rd (st99x1 x0) J99x1 r) 317847 ⟨43, [(0, .str x0), (3, .bool t0.1), (5, dI v4), (14, dI (x0.length : Int)), (15, dI t0.2)], []⟩ :=
  so <| go [] [] <| br h (fun h9 h => go [] [] <| bT h9 <| go [13] [] <| jn ((wj99x4 x0) h)) fun h9 h =>
  sp h (fun h10 h => go [] [rg 12 [(1, kb h10)]] <| jn ((wj99x3 x0) h)) fun h10 h =>
    go [] [rg 12 [(1, kb h10)]] <| bF rfl <| go [] [] <| dn h (i2 iR)
theorem wl99x1 {x0 : List UInt8} {t0 : Bool × Int} {r : Ctl (Bool × Int) (Bool ⊕ Bool)} {Γ : Ctx} (h : (l99x1 x0) t0 = some r) : A Try.prog Γ (lpC Try.f99 87) [] (Rd (st99x1 x0) J99x1 r) ((st99x1 x0) t0).s :=
  go [] [] <| br h (fun h6 h => bd h fun v3 e3 h => bd h fun v4 e4 h => bd h fun v5 e5 h => sp h (fun h7 h => go [] [rg 7 [(2, ib e3), (3, k (w108 e4))], rg 9 [(2, ib e5), (3, kb h7)]] <| br h (fun h8 h => go [10] [] <| jn ((wj99x5 x0) h)) fun h8 h =>
    go [11] [] <| jn ((wj99x2 x0) h)) fun h7 h =>
    go [] [rg 7 [(2, ib e3), (3, k (w108 e4))], rg 9 [(2, ib e5), (3, kb h7)]] <| bF rfl <| go [11] [] <| jn ((wj99x2 x0) h)) fun h6 h =>
  go [] [] <| dn h (i1 iE)
theorem wj99x1 {x0 : List UInt8} {r : Bool} {Γ : Ctx} (h : (j99x1 x0)  = some r) : Jn Try.prog Try.f99 Γ (Den.Ends Try.prog Try.f99 (R99 r)) 11 ⟨43, [(0, .str x0)], []⟩ :=
  so <| go [] [] <| bd h fun q1 e8 h => lp e8 wl99x1 <| match q1, h with
  | .inl q0, h => j1 <| (qe <| goN [] [] <| rt h)
  | .inr y0, h => j2 <| (qr h)
theorem w99 {x0 : List UInt8} {r : Bool} (h : m_name_IsClassName x0 = some r) : CallSpec Try.prog 99 [.str x0] (R99 r) :=
  cs Try.f99 <| sp h (fun h0 h => go [] [rg 1 [(1, kb h0)]] <| bT rfl <| go [] [] <| rt h) fun h0 h =>
  go [] [rg 1 [(1, kb h0)]] <| br h (fun h1 h => go [] [] <| rt h) fun h1 h =>
  go [3] [] <| jn (wj99x1 h)
/-! internal stringslite.HasPrefix -/
def R52 (y0 : Bool) : D := .bool y0
def m_internal_stringslite_HasPrefix (x0 x1 : List UInt8) : Option (Bool) :=
  if (decide ((x0.length : Int) ≥ (x1.length : Int))) = true then ((sub x0 0 (x1.length : Int)).bind fun v0 =>
  some (v0 == x1)) else
  (some false)
theorem w52 {x0 x1 : List UInt8} {r : Bool} (h : m_internal_stringslite_HasPrefix x0 x1 = some r) : CallSpec Try.prog 52 [.str x0, .str x1] (R52 r) :=
  cs Try.f52 <| sp h (fun h0 h => bd h fun v0 e0 h => go [] [rg 1 [(4, kb h0), (9, ss e0)]] <| rt h) fun h0 h =>
  go [] [rg 1 [(4, kb h0)]] <| rt h
/-! strings.HasPrefix -/
def R28 (y0 : Bool) : D := .bool y0
def m_strings_HasPrefix (x0 x1 : List UInt8) : Option (Bool) :=
  (m_internal_stringslite_HasPrefix x0 x1).bind fun v0 =>
  some v0
theorem w28 {x0 x1 : List UInt8} {r : Bool} (h : m_strings_HasPrefix x0 x1 = some r) : CallSpec Try.prog 28 [.str x0, .str x1] (R28 r) :=
  cs Try.f28 <| bd h fun v0 e0 h => go [] [rg 1 [(2, k (w52 e0))]] <| rt h
/-! internal bytealg.IndexByteString -/
def m_internal_bytealg_IndexByteString (s : List UInt8) (c : Int) : Option Int := some (Lib.indexByte s c.toNat.toUInt8)
theorem w114 {s : List UInt8} {c r : Int} (h : m_internal_bytealg_IndexByteString s c = some r) : ExtSpec Try.prog 114 [.str s, .int .u8 c] (.int .i64 r) := by
  obtain rfl := someE h
  exact ext_indexByteString Try.func114 (by kernel_rfl) (by kernel_rfl) (by kernel_rfl) (by kernel_rfl) s c
/-! internal stringslite.IndexByte -/
def R109 (y0 : Int) : D := .int .i64 y0
def m_internal_stringslite_IndexByte (x0 : List UInt8) (x1 : Int) : Option (Int) :=
  (m_internal_bytealg_IndexByteString x0 x1).bind fun v0 =>
  some v0
theorem w109 {x0 : List UInt8} {x1 : Int} {r : Int} (h : m_internal_stringslite_IndexByte x0 x1 = some r) : CallSpec Try.prog 109 [.str x0, d8 x1] (R109 r) :=
  cs Try.f109 <| bd h fun v0 e0 h => go [] [rg 1 [(2, kx (w114 e0))]] <| rt h
/-! strings.IndexByte -/
def R100 (y0 : Int) : D := .int .i64 y0
def m_strings_IndexByte (x0 : List UInt8) (x1 : Int) : Option (Int) :=
  (m_internal_stringslite_IndexByte x0 x1).bind fun v0 =>
  some v0
theorem w100 {x0 : List UInt8} {x1 : Int} {r : Int} (h : m_strings_IndexByte x0 x1 = some r) : CallSpec Try.prog 100 [.str x0, d8 x1] (R100 r) :=
  cs Try.f100 <| bd h fun v0 e0 h => go [] [rg 1 [(2, k (w109 e0))]] <| rt h
/-! armature desc.Valid -/
def R110 (y0 : Bool) : D := .bool y0
def j110x3 (x0 : T_api_Type) : Option (Bool) :=
  if (x0.f_Base == 86) = true then
    (if (x0.f_Dim == 0) = true then (some (x0.f_Name == ([] : List UInt8))) else
    (some false)) else
  (if (x0.f_Base == 76) = true then
      ((m_name_IsClassName x0.f_Name).bind fun v0 =>
      some v0) else
    (some false))
def j110x2 (x0 : T_api_Type) : Option (Bool) :=
  if (x0.f_Base == 74) = true then
    (some (x0.f_Name == ([] : List UInt8))) else
  ((j110x3 x0) )
def j110x1 (x0 : T_api_Type) : Option (Bool) :=
  if (x0.f_Base == 73) = true then
    (some (x0.f_Name == ([] : List UInt8))) else
  ((j110x2 x0) )
def m_desc_Valid (x0 : T_api_Type) : Option (Bool) :=
  if (decide (x0.f_Dim < 0)) = true then (some false) else
  (if (decide (x0.f_Dim > 8)) = true then
    (some false) else
  ((j110x1 x0) ))
theorem wj110x3 {x0 : T_api_Type} {r : Bool} {Γ : Ctx} (h : (j110x3 x0)  = some r) : Jn Try.prog Try.f110 Γ (Den.Ends Try.prog Try.f110 (R110 r)) 363 ⟨34, [(1, .ptr (row_T_api_Type x0)), (12, d8 x0.f_Base)], []⟩ :=
  so <| go [] [] <| br h (fun h4 h => sp h (fun h5 h => go [] [rg 8 [(2, kb h5)]] <| rt h) fun h5 h =>
    go [] [rg 8 [(2, kb h5)]] <| rt h) fun h4 h =>
  go [] [] <| br h (fun h6 h => bd h fun v0 e0 h => go [] [rg 10 [(2, k (w99 e0))]] <| rt h) fun h6 h =>
    go [] [] <| rt h
theorem wj110x2 {x0 : T_api_Type} {r : Bool} {Γ : Ctx} (h : (j110x2 x0)  = some r) : Jn Try.prog Try.f110 Γ (Den.Ends Try.prog Try.f110 (R110 r)) 107 ⟨34, [(1, .ptr (row_T_api_Type x0)), (12, d8 x0.f_Base), (13, .bool (x0.f_Base == 74))], []⟩ (x0.f_Base == 74) :=
  br h (fun h3 h => go [] [] <| rt h) fun h3 h =>
  go [7] [] <| jn (wj110x3 h)
theorem wj110x1 {x0 : T_api_Type} {r : Bool} {Γ : Ctx} (h : (j110x1 x0)  = some r) : Jn Try.prog Try.f110 Γ (Den.Ends Try.prog Try.f110 (R110 r)) 19 ⟨34, [(1, .ptr (row_T_api_Type x0))], []⟩ :=
  so <| go [] [] <| br h (fun h2 h => go [] [] <| bT h2 <| go [] [] <| rt h) fun h2 h =>
  go [] [] <| jn (wj110x2 h)
theorem w110 {x0 : T_api_Type} {r : Bool} (h : m_desc_Valid x0 = some r) : CallSpec Try.prog 110 [.agg (row_T_api_Type x0)] (R110 r) :=
  cs Try.f110 <| sp h (fun h0 h => go [] [rg 0 [(0, bo)], rg 1 [(2, kb h0)]] <| bT rfl <| go [] [] <| rt h) fun h0 h =>
  go [] [rg 0 [(0, bo)], rg 1 [(2, kb h0)]] <| br h (fun h1 h => go [] [] <| rt h) fun h1 h =>
  go [3] [] <| jn (wj110x1 h)
/-! armature desc.prefix -/
def R101 (y0 : T_api_Type × (List UInt8) × Bool) : D := .tup [.agg (row_T_api_Type y0.1), .str y0.2.1, .bool y0.2.2]
def l101x1 (x0 : List UInt8) (t0 : Int) : Option (Ctl (Int) (Int)) :=
  if (decide (t0 < (x0.length : Int))) = true then ((getS x0 t0).bind fun v1 =>
  if (v1 == 91) = true then
    ((some (IntKind.wrap .i64 (t0 + (1 : Int)))).bind fun v2 =>
    some (.next v2)) else
  (some (.done (t0)))) else
  (some (.done (t0)))
def j101x1 (q0 v4 : Int) (p0 p1 : List UInt8) : Option (T_api_Type × (List UInt8) × Bool) :=
  (m_desc_Valid ({ f_Dim := q0, f_Base := v4, f_Name := p0 } : T_api_Type)).bind fun v10 =>
  some (({ f_Dim := q0, f_Base := v4, f_Name := p0 } : T_api_Type), p1, v10)
def m_desc_prefix (x0 : List UInt8) : Option (T_api_Type × (List UInt8) × Bool) :=
  (loopM (l101x1 x0) rounds 0).bind fun q0 =>
  (sub x0 q0 (x0.length : Int)).bind fun v3 =>
  if (v3 == ([] : List UInt8)) = true then
    (some (({ f_Dim := 0, f_Base := 0, f_Name := [] } : T_api_Type), [], false)) else
  ((getS v3 0).bind fun v4 =>
    (sub v3 1 (v3.length : Int)).bind fun v5 =>
    if (v4 == 76) = true then
      ((m_strings_IndexByte v5 59).bind fun v6 =>
      if (decide (v6 < 0)) = true then
        (some (({ f_Dim := 0, f_Base := 0, f_Name := [] } : T_api_Type), [], false)) else
      ((sub v5 0 v6).bind fun v7 =>
        (some (IntKind.wrap .i64 (v6 + (1 : Int)))).bind fun v8 =>
        (sub v5 v8 (v5.length : Int)).bind fun v9 =>
        (j101x1 q0 v4) v7 v9)) else
    ((j101x1 q0 v4) [] v5))
def st101x1 (x0 : List UInt8) : Int → SL :=
  fun t0 => ⟨56, [(0, .str x0), (2, .lptr 2 0 0), (5, .lptr 5 0 0)], [(2, { sz := 3, rows := [[dI 0, d8 0, .str []]], frz := 0, pure := false }), (5, { sz := 3, rows := [[dI t0, d8 0, .str []]], frz := 0, pure := false })]⟩
def J101x1 (x0 : List UInt8) : JT Int :=
  je 0 fun q0 : Int => ⟨56, [(0, .str x0), (2, .lptr 2 0 0), (5, .lptr 5 0 0)], [(2, { sz := 3, rows := [[dI 0, d8 0, .str []]], frz := 0, pure := false }), (5, { sz := 3, rows := [[dI q0, d8 0, .str []]], frz := 0, pure := false })]⟩
theorem wl101x1 {x0 : List UInt8} {t0 : Int} {r : Ctl (Int) (Int)} {Γ : Ctx} (h : (l101x1 x0) t0 = some r) : A Try.prog Γ (lpC Try.f101 19) [] (Rd (st101x1 x0) (J101x1 x0) r) ((st101x1 x0) t0).s :=
  sp h (fun h2 h => bd h fun v1 e1 h => go [] [rg 2 [(4, kb h2), (9, ib e1)]] <| br h (fun h3 h => bd h fun v2 e2 h => go [] [rg 3 [(2, n e2)]] <| nx h) fun h3 h =>
  go [] [] <| dn h (iE)) fun h2 h =>
  go [] [rg 2 [(4, kb h2)]] <| bF rfl <| go [] [] <| dn h (iE)
theorem wj101x1 {q0 v4 : Int} {p0 p1 : List UInt8} {r : T_api_Type × (List UInt8) × Bool} {Γ : Ctx} (h : (j101x1 q0 v4) p0 p1 = some r) : Jn Try.prog Try.f101 Γ (Den.Ends Try.prog Try.f101 (R101 r)) 767 ⟨56, [(0, .str p1), (2, .lptr 2 0 0), (5, .lptr 5 0 0)], [(2, { sz := 3, rows := [[dI 0, d8 0, .str []]], frz := 0, pure := false }), (5, { sz := 3, rows := [[dI q0, d8 v4, .str p0]], frz := 0, pure := false })]⟩ :=
  so <| bd h fun v10 e11 h => go [] [rgo 15 [(3, k (w110 e11))] [0, 1, 2, 3, 4, 5, 6] [4, 1001] [(3, [2]), (4, [0, 2, 3]), (5, [0, 1, 2, 3, 4]), (6, [0, 1, 2, 3, 4, 5])]] <| rt h
theorem w101 {x0 : List UInt8} {r : T_api_Type × (List UInt8) × Bool} (h : m_desc_prefix x0 = some r) : CallSpec Try.prog 101 [.str x0] (R101 r) :=
  cs Try.f101 <| go [] [] <| bd h fun q0 e3 h => lp e3 wl101x1 <| qe <| bd h fun v3 e4 h => goN [] [rg 4 [(3, ss e4)]] <| br h (fun h4 h => go [] [] <| rt h) fun h4 h =>
  bd h fun v4 e5 h => bd h fun v5 e6 h => go [] [rg 7 [(1, ib e5)], rg 8 [(1, ss e6)]] <| br h (fun h5 h => bd h fun v6 e7 h => go [] [rg 10 [(1, k (w100 e7))]] <| br h (fun h6 h => go [] [] <| rt h) fun h6 h =>
      bd h fun v7 e8 h => bd h fun v8 e9 h => bd h fun v9 e10 h => go [15] [rg 13 [(2, ss e8)], rg 14 [(2, n e9), (3, ss e10)]] <| jn (wj101x1 h)) fun h5 h =>
    go [15] [] <| jn (wj101x1 h)
/-! armature desc.Parse -/
def R88 (y0 : T_api_Type × Int) : D := .tup [.agg (row_T_api_Type y0.1), .int .i64 y0.2]
def m_desc_Parse (x0 : List UInt8) : Option (T_api_Type × Int) :=
  (m_desc_prefix x0).bind fun v0 =>
  if (!v0.2.2) = true then (some (({ f_Dim := 0, f_Base := 0, f_Name := [] } : T_api_Type), 13)) else
  (if (!(v0.2.1 == ([] : List UInt8))) = true then
    (some (({ f_Dim := 0, f_Base := 0, f_Name := [] } : T_api_Type), 13)) else
  (some (v0.1, 0)))
theorem w88 {x0 : List UInt8} {r : T_api_Type × Int} (h : m_desc_Parse x0 = some r) : CallSpec Try.prog 88 [.str x0] (R88 r) :=
  cs Try.f88 <| bd h fun v0 e0 h => sp h (fun h0 h => go [] [rg 1 [(1, k (w101 e0))], rg 2 [(3, gs0 h0), (4, gs0 h0), (5, py h0)]] <| bT rfl <| go [] [] <| rt h) fun h0 h =>
  go [] [rg 1 [(1, k (w101 e0))], rg 2 [(3, gw h0 g0), (4, gw h0 g0), (5, pn h0)]] <| br h (fun h1 h => go [] [] <| rt h) fun h1 h =>
  go [] [] <| rt h
/-! armature desc.ParseClassConstant -/
def R86 (y0 : T_api_Type × Int) : D := .tup [.agg (row_T_api_Type y0.1), .int .i64 y0.2]
def m_desc_ParseClassConstant (x0 : List UInt8) : Option (T_api_Type × Int) :=
  (m_name_IsClassName x0).bind fun v0 =>
  if v0 = true then
    (some (({ f_Dim := 0, f_Base := 76, f_Name := x0 } : T_api_Type), 0)) else
  ((m_strings_HasPrefix x0 [91]).bind fun v1 =>
    if v1 = true then
      ((m_desc_Parse x0).bind fun v2 =>
      some (v2.1, v2.2)) else
    (some (({ f_Dim := 0, f_Base := 0, f_Name := [] } : T_api_Type), 13)))
theorem w86 {x0 : List UInt8} {r : T_api_Type × Int} (h : m_desc_ParseClassConstant x0 = some r) : CallSpec Try.prog 86 [.str x0] (R86 r) :=
  cs Try.f86 <| bd h fun v0 e0 h => go [] [rg 1 [(1, k (w99 e0))]] <| br h (fun h0 h => go [] [] <| rt h) fun h0 h =>
  bd h fun v1 e1 h => go [] [rg 3 [(1, k (w28 e1))]] <| br h (fun h1 h => bd h fun v2 e2 h => go [] [rg 4 [(1, k (w88 e2))]] <| rt h) fun h1 h =>
    go [] [] <| rt h
/-! armature name.IsMemberName -/
def R87 (y0 : Bool) : D := .bool y0
def j87x1 (x0 : List UInt8) : Option (Bool) :=
  (m_name_IsClassName x0).bind fun v0 =>
  if v0 = true then ((m_strings_IndexByte x0 47).bind fun v1 =>
  some (decide (v1 < 0))) else
  (some false)
def m_name_IsMemberName (x0 : List UInt8) : Option (Bool) :=
  if (x0 == ([60, 105, 110, 105, 116, 62] : List UInt8)) = true then (some true) else
  (if (x0 == ([60, 99, 108, 105, 110, 105, 116, 62] : List UInt8)) = true then
    (some true) else
  ((j87x1 x0) ))
theorem wj87x1 {x0 : List UInt8} {r : Bool} {Γ : Ctx} (h : (j87x1 x0)  = some r) : Jn Try.prog Try.f87 Γ (Den.Ends Try.prog Try.f87 (R87 r)) 11 ⟨16, [(0, .str x0)], []⟩ :=
  so <| bd h fun v0 e0 h => sp h (fun h2 h => bd h fun v1 e1 h => go [] [rg 3 [(1, k (w99 e0)), (3, gw h2 g0), (4, gw h2 (k (w100 e1))), (5, gw h2 g0), (6, py h2)]] <| rt h) fun h2 h =>
  go [] [rg 3 [(1, k (w99 e0)), (3, gs1 h2), (4, gs1 h2), (5, gs1 h2), (6, pn h2)]] <| rt h
theorem w87 {x0 : List UInt8} {r : Bool} (h : m_name_IsMemberName x0 = some r) : CallSpec Try.prog 87 [.str x0] (R87 r) :=
  cs Try.f87 <| sp h (fun h0 h => go [] [rg 1 [(1, kb h0)]] <| bT rfl <| go [] [] <| rt h) fun h0 h =>
  go [] [rg 1 [(1, kb h0)]] <| br h (fun h1 h => go [] [] <| rt h) fun h1 h =>
  go [3] [] <| jn (wj87x1 h)
/-! armature desc.ParseSignature -/
def R89 (y0 : T_api_Sig × Int) : D := .tup [.agg (row_T_api_Sig y0.1), .int .i64 y0.2]
def j89x3 (t0 : (List UInt8) × (List T_api_Type)) (v9 : T_api_Type × (List UInt8) × Bool) : Option (Ctl ((List UInt8) × (List T_api_Type)) (((List T_api_Type) × (List UInt8)) ⊕ (T_api_Sig × Int))) :=
  (growK 32 (t0.2 ++ [v9.1]).length).bind fun v10 =>
  some (.next (v9.2.1, (t0.2 ++ [v9.1])))
def j89x2 (t0 : (List UInt8) × (List T_api_Type)) : Option (Ctl ((List UInt8) × (List T_api_Type)) (((List T_api_Type) × (List UInt8)) ⊕ (T_api_Sig × Int))) :=
  (m_desc_prefix t0.1).bind fun v9 =>
  if (!v9.2.2) = true then (some (.done (.inr (({ f_Params := ([] : List T_api_Type), f_Result := ({ f_Dim := 0, f_Base := 0, f_Name := [] } : T_api_Type) } : T_api_Sig), 13)))) else
  (if (v9.1.f_Base == 86) = true then
    (some (.done (.inr (({ f_Params := ([] : List T_api_Type), f_Result := ({ f_Dim := 0, f_Base := 0, f_Name := [] } : T_api_Type) } : T_api_Sig), 13)))) else
  ((j89x3 t0 v9) ))
def l89x1 (t0 : (List UInt8) × (List T_api_Type)) : Option (Ctl ((List UInt8) × (List T_api_Type)) (((List T_api_Type) × (List UInt8)) ⊕ (T_api_Sig × Int))) :=
  if (!(t0.1 == ([] : List UInt8))) = true then ((getS t0.1 0).bind fun v8 =>
  if (v8 != 41) = true then
    ((j89x2 t0) ) else
  (some (.done (.inl ((t0.2, t0.1)))))) else
  (some (.done (.inl ((t0.2, t0.1)))))
def j89x1 (x0 : List UInt8) : Option (T_api_Sig × Int) :=
  (sub x0 1 (x0.length : Int)).bind fun v1 =>
  (loopM l89x1 rounds (v1, ([] : List T_api_Type))).bind fun q1 =>
  match q1 with
  | .inl q0 => (if (q0.2 == ([] : List UInt8)) = true then
      (some (({ f_Params := ([] : List T_api_Type), f_Result := ({ f_Dim := 0, f_Base := 0, f_Name := [] } : T_api_Type) } : T_api_Sig), 13)) else
    ((sub q0.2 1 (q0.2.length : Int)).bind fun v11 =>
      (m_desc_Parse v11).bind fun v12 =>
      if (v12.2 != 0) = true then
        (some (({ f_Params := ([] : List T_api_Type), f_Result := ({ f_Dim := 0, f_Base := 0, f_Name := [] } : T_api_Type) } : T_api_Sig), v12.2)) else
      (if (decide ((q0.1.length : Int) > 16)) = true then
          (some (({ f_Params := ([] : List T_api_Type), f_Result := ({ f_Dim := 0, f_Base := 0, f_Name := [] } : T_api_Type) } : T_api_Sig), 5)) else
        (some (({ f_Params := q0.1, f_Result := v12.1 } : T_api_Sig), 0)))))
  | .inr y0 => (some y0)
def m_desc_ParseSignature (x0 : List UInt8) : Option (T_api_Sig × Int) :=
  if (x0 == ([] : List UInt8)) = true then (some (({ f_Params := ([] : List T_api_Type), f_Result := ({ f_Dim := 0, f_Base := 0, f_Name := [] } : T_api_Type) } : T_api_Sig), 13)) else
  ((getS x0 0).bind fun v0 =>
  if (v0 != 40) = true then
    (some (({ f_Params := ([] : List T_api_Type), f_Result := ({ f_Dim := 0, f_Base := 0, f_Name := [] } : T_api_Type) } : T_api_Sig), 13)) else
  ((j89x1 x0) ))
def st89x1  : ((List UInt8) × (List T_api_Type)) → SL :=
  fun t0 => ⟨70, [(0, .str t0.1), (2, .lptr 2 0 0), (4, .lptr 4 0 0)], [(2, { sz := 4, rows := [[.sl true (([] : List T_api_Type).map row_T_api_Type), dI 0, d8 0, .str []]], frz := 0, pure := false }), (4, { sz := 4, rows := [[.lsl 1004 0 ((t0.2.map row_T_api_Type).length), dI 0, d8 0, .str []]], frz := 0, pure := false }), (1004, { sz := 3, rows := (t0.2.map row_T_api_Type), frz := 0, pure := true })]⟩
def J89x1  : JT (((List T_api_Type) × (List UInt8)) ⊕ (T_api_Sig × Int)) :=
  ju (je 0 fun q0 : (List T_api_Type) × (List UInt8) => ⟨70, [(0, .str q0.2), (2, .lptr 2 0 0), (4, .lptr 4 0 0)], [(2, { sz := 4, rows := [[.sl true (([] : List T_api_Type).map row_T_api_Type), dI 0, d8 0, .str []]], frz := 0, pure := false }), (4, { sz := 4, rows := [[.lsl 1004 0 ((q0.1.map row_T_api_Type).length), dI 0, d8 0, .str []]], frz := 0, pure := false }), (1004, { sz := 3, rows := (q0.1.map row_T_api_Type), frz := 0, pure := true })]⟩) (jr Try.prog Try.f89 R89)
theorem wj89x3 {t0 : (List UInt8) × (List T_api_Type)} {v9 : T_api_Type × (List UInt8) × Bool} {r : Ctl ((List UInt8) × (List T_api_Type)) (((List T_api_Type) × (List UInt8)) ⊕ (T_api_Sig × Int))} {Γ : Ctx} (h : (j89x3 t0 v9)  = some r) : Jn Try.prog Try.f89 Γ (Rd st89x1 J89x1 r) 5775 ⟨70, [(2, .lptr 2 0 0), (4, .lptr 4 0 0), (5, .lptr 5 0 0), (6, .str v9.2.1)], [(2, { sz := 4, rows := [[.sl true (([] : List T_api_Type).map row_T_api_Type), dI 0, d8 0, .str []]], frz := 0, pure := false }), (4, { sz := 4, rows := [[.lsl 1004 0 ((t0.2.map row_T_api_Type).length), dI 0, d8 0, .str []]], frz := 0, pure := false }), (5, { sz := 3, rows := [row_T_api_Type v9.1], frz := 0, pure := false }), (1004, { sz := 3, rows := (t0.2.map row_T_api_Type), frz := 0, pure := true })]⟩ :=
  so <| bd h fun v10 e10 h => go [] [rg 9 [(3, br0 1 3), (4, ap e10)]] <| nx h
theorem wj89x2 {t0 : (List UInt8) × (List T_api_Type)} {r : Ctl ((List UInt8) × (List T_api_Type)) (((List T_api_Type) × (List UInt8)) ⊕ (T_api_Sig × Int))} {Γ : Ctx} (h : (j89x2 t0)  = some r) : Jn Try.prog Try.f89 Γ (Rd st89x1 J89x1 r) 1167 ⟨70, [(0, .str t0.1), (2, .lptr 2 0 0), (4, .lptr 4 0 0)], [(2, { sz := 4, rows := [[.sl true (([] : List T_api_Type).map row_T_api_Type), dI 0, d8 0, .str []]], frz := 0, pure := false }), (4, { sz := 4, rows := [[.lsl 1004 0 ((t0.2.map row_T_api_Type).length), dI 0, d8 0, .str []]], frz := 0, pure := false }), (1004, { sz := 3, rows := (t0.2.map row_T_api_Type), frz := 0, pure := true })]⟩ :=
  so <| bd h fun v9 e9 h => sp h (fun h12 h => go [] [rg 6 [(1, k (w101 e9))], rg 7 [(3, gs0 h12), (4, gs0 h12), (5, gs0 h12), (6, py h12)]] <| bT rfl <| go [] [] <| dn h (i2 iR)) fun h12 h =>
  go [] [rg 6 [(1, k (w101 e9))], rg 7 [(3, gw h12 g0), (4, gw h12 g0), (5, gw h12 g0), (6, pn h12)]] <| br h (fun h13 h => go [] [] <| dn h (i2 iR)) fun h13 h =>
  go [9] [] <| jn (wj89x3 h)
theorem wl89x1 {t0 : (List UInt8) × (List T_api_Type)} {r : Ctl ((List UInt8) × (List T_api_Type)) (((List T_api_Type) × (List UInt8)) ⊕ (T_api_Sig × Int))} {Γ : Ctx} (h : l89x1 t0 = some r) : A Try.prog Γ (lpC Try.f89 79) [] (Rd st89x1 J89x1 r) (st89x1 t0).s :=
  sp h (fun h10 h => bd h fun v8 e8 h => go [] [rg 5 [(1, kb h10), (4, ib e8)]] <| br h (fun h11 h => go [6] [] <| jn (wj89x2 h)) fun h11 h =>
  go [] [] <| dn h (i1 iE)) fun h10 h =>
  go [] [rg 5 [(1, kb h10)]] <| bF rfl <| go [] [] <| dn h (i1 iE)
theorem wj89x1 {x0 : List UInt8} {r : T_api_Sig × Int} {Γ : Ctx} (h : (j89x1 x0)  = some r) : Jn Try.prog Try.f89 Γ (Den.Ends Try.prog Try.f89 (R89 r)) 11 ⟨70, [(0, .str x0), (2, .lptr 2 0 0)], [(2, { sz := 4, rows := [[.sl true (([] : List T_api_Type).map row_T_api_Type), dI 0, d8 0, .str []]], frz := 0, pure := false })]⟩ :=
  so <| bd h fun v1 e1 h => go [] [rg 3 [(1, ss e1)]] <| bd h fun q1 e11 h => lp (cv := [.blk 4 0 1004 3]) e11 wl89x1 <| match q1, h with
  | .inl q0, h => j1 <| (qe <| goN [] [] <| br h (fun h14 h => go [] [] <| rt h) fun h14 h =>
    bd h fun v11 e12 h => bd h fun v12 e13 h => go [] [rg 13 [(1, ss e12), (2, k (w88 e13))]] <| br h (fun h15 h => go [] [] <| rt h) fun h15 h =>
      go [] [rg 16 [(2, ln q0.1)]] <| br h (fun h16 h => go [] [] <| rt h) fun h16 h =>
        go [] [] <| rtB h (.tup [.agg [rw_ q0.1, dI v12.1.f_Dim, d8 v12.1.f_Base, .str v12.1.f_Name], dI 0]) (a2 (a2 (rpI q0.1) (a2 trivial (a2 trivial (a2 trivial trivial)))) (a2 trivial trivial)) (by simp only [rwE] <;> kernel_rfl))
  | .inr y0, h => j2 <| (qr h)
theorem w89 {x0 : List UInt8} {r : T_api_Sig × Int} (h : m_desc_ParseSignature x0 = some r) : CallSpec Try.prog 89 [.str x0] (R89 r) :=
  cs Try.f89 <| sp h (fun h0 h => go [] [rg 1 [(1, kb h0)]] <| bT rfl <| go [] [] <| rt h) fun h0 h =>
  bd h fun v0 e0 h => go [] [rg 1 [(1, kb h0), (4, ib e0)]] <| br h (fun h1 h => go [] [] <| rt h) fun h1 h =>
  go [3] [] <| jn (wj89x1 h)
/-! armature pool.NameAndType -/
def R102 (y0 : (List UInt8) × (List UInt8) × Int) : D := .tup [.str y0.1, .str y0.2.1, .int .i64 y0.2.2]
def m_pool_NameAndType (x0 : List T_api_Const) (x1 : Int) : Option ((List UInt8) × (List UInt8) × Int) :=
  (m_pool_tagged x0 x1 12).bind fun v0 =>
  if (v0.2 != 0) = true then
    (some ([], [], v0.2)) else
  ((m_pool_UTF8 x0 v0.1.f_A).bind fun v1 =>
    if (v1.2 != 0) = true then
      (some ([], [], v1.2)) else
    ((m_pool_UTF8 x0 v0.1.f_B).bind fun v2 =>
      if (v2.2 != 0) = true then
        (some ([], [], v2.2)) else
      (some (v1.1, v2.1, 0))))
theorem w102 {x0 : List T_api_Const} {x1 : Int} {r : (List UInt8) × (List UInt8) × Int} (h : m_pool_NameAndType x0 x1 = some r) : CallSpec Try.prog 102 [.sl false (x0.map row_T_api_Const), dI x1] (R102 r) :=
  cs Try.f102 <| bd h fun v0 e0 h => go [] [rg 1 [(2, k (w73 e0))]] <| br h (fun h0 h => go [] [] <| rt h) fun h0 h =>
  bd h fun v1 e1 h => go [] [rg 4 [(3, k (w85 e1))]] <| br h (fun h1 h => go [] [] <| rt h) fun h1 h =>
    bd h fun v2 e2 h => go [] [rg 7 [(3, k (w85 e2))]] <| br h (fun h2 h => go [] [] <| rt h) fun h2 h =>
      go [] [] <| rt h
/-! armature pool.member -/
def R90 (y0 : Int) : D := .int .i64 y0
def j90x2 (p1 : Bool) : Option (Int) :=
  if p1 = true then
    (some 12) else
  (some 0)
def j90x1 (v0 : (List UInt8) × (List UInt8) × Int) (x1 : T_api_Const) (p0 : Bool) : Option (Int) :=
  if (x1.f_Tag == 9) = true then
    (if (!(v0.1 == ([] : List UInt8))) = true then ((getS v0.1 0).bind fun v2 =>
    j90x2 (v2 == 60)) else
    (j90x2 false)) else
  (j90x2 p0)
def m_pool_member (x0 : List T_api_Const) (x1 : T_api_Const) : Option (Int) :=
  (m_pool_NameAndType x0 x1.f_B).bind fun v0 =>
  if (v0.2.2 != 0) = true then
    (some 0) else
  ((m_desc_ParseSignature v0.2.1).bind fun v1 =>
    if ((v1.2 == 0) == (x1.f_Tag == 9)) = true then
      (some 13) else
    (if (v0.1 == ([60, 99, 108, 105, 110, 105, 116, 62] : List UInt8)) = true then ((j90x1 v0 x1) true) else
      (if (v0.1 == ([60, 105, 110, 105, 116, 62] : List UInt8)) = true then (if (x1.f_Tag == 11) = true then ((j90x1 v0 x1) true) else
          ((j90x1 v0 x1) (!(eqb_T_api_Type v1.1.f_Result ({ f_Dim := 0, f_Base := 86, f_Name := [] } : T_api_Type))))) else
        ((j90x1 v0 x1) false))))
theorem wj90x2 {p1 : Bool} {r : Int} {Γ : Ctx} (h : j90x2 p1 = some r) : Jn Try.prog Try.f90 Γ (Den.Ends Try.prog Try.f90 (R90 r)) 639 ⟨60, [(10, .bool p1)], []⟩ :=
  so <| go [] [] <| br h (fun h7 h => go [] [] <| rt h) fun h7 h =>
  go [] [] <| rt h
theorem wj90x1 {v0 : (List UInt8) × (List UInt8) × Int} {x1 : T_api_Const} {p0 : Bool} {r : Int} {Γ : Ctx} (h : (j90x1 v0 x1) p0 = some r) : Jn Try.prog Try.f90 Γ (Den.Ends Try.prog Try.f90 (R90 r)) 319 ⟨60, [(3, .ptr (row_T_api_Const x1)), (5, .str v0.1), (10, .bool p0)], []⟩ :=
  so <| go [] [] <| br h (fun h5 h => sp h (fun h6 h => bd h fun v2 e2 h => go [10] [rg 9 [(1, kb h6), (4, ib e2)]] <| jn (wj90x2 h)) fun h6 h =>
    go [10] [rg 9 [(1, kb h6)]] <| jn (wj90x2 h)) fun h5 h =>
  go [10] [] <| jn (wj90x2 h)
theorem w90 {x0 : List T_api_Const} {x1 : T_api_Const} {r : Int} (h : m_pool_member x0 x1 = some r) : CallSpec Try.prog 90 [.sl false (x0.map row_T_api_Const), .agg (row_T_api_Const x1)] (R90 r) :=
  cs Try.f90 <| bd h fun v0 e0 h => go [] [rg 0 [(0, bo)], rg 1 [(3, k (w102 e0))]] <| br h (fun h0 h => go [] [] <| rt h) fun h0 h =>
  bd h fun v1 e1 h => go [] [rg 4 [(1, k (w89 e1))]] <| br h (fun h1 h => go [] [] <| rt h) fun h1 h =>
    go [7] [] <| po <| pr 3 [] <| sp h (fun h2 h => pr 15 [(3, gs0 h2), (4, gs0 h2), (5, gs0 h2), (15, gs0 h2), (16, py h2)] <| pe <| goN [8] [] <| jn (wj90x1 h)) fun h2 h =>
      pr 3 [(3, gw h2 g0), (4, gw h2 g0), (5, gw h2 g0)] <| sp h (fun h3 h => pr 4 [(6, gw h3 g0), (7, gw h3 g0), (8, gw h3 g0), (9, gw h3 g0)] <| sp h (fun h4 h => pr 8 [(10, gs0 h4), (11, gs0 h4), (12, gs0 h4), (13, gs0 h4), (14, gw h3 (py h4)), (15, gw h2 (py h3)), (16, pn h2)] <| pe <| goN [8] [] <| jn (wj90x1 h)) fun h4 h =>
          pr 8 [(10, gw h4 g0), (11, gw h4 g0), (12, gw h4 g0), (13, gw h4 (qs eqg_128 eqp_128 (!(eqb_T_api_Type v1.1.f_Result ({ f_Dim := 0, f_Base := 86, f_Name := [] } : T_api_Type))))), (14, gw h3 (pn h4)), (15, gw h2 (py h3)), (16, pn h2)] <| pe <| goN [8] [] <| jn (wj90x1 h)) fun h3 h =>
        pr 12 [(6, gs1 h3), (7, gs1 h3), (8, gs1 h3), (9, gs1 h3), (14, gs1 h3), (15, gw h2 (pn h3)), (16, pn h2)] <| pe <| goN [8] [] <| jn (wj90x1 h)
/-! armature pool.texts -/
def R74 (y0 : Int) : D := .int .i64 y0
def j74x2 (x0 : List T_api_Const) (x1 : T_api_Const) : Option (Int) :=
  (m_pool_member x0 x1).bind fun v7 =>
  some v7
def j74x1 (x0 : List T_api_Const) (x1 : T_api_Const) : Option (Int) :=
  if (x1.f_Tag == 11) = true then
    ((j74x2 x0 x1) ) else
  (some 0)
def m_pool_texts (x0 : List T_api_Const) (x1 : T_api_Const) : Option (Int) :=
  if (x1.f_Tag == 7) = true then
    ((m_pool_UTF8 x0 x1.f_A).bind fun v0 =>
    (m_desc_ParseClassConstant v0.1).bind fun v1 =>
    if (v1.2 != 0) = true then
      (some 13) else
    (some 0)) else
  (if (x1.f_Tag == 12) = true then
      ((m_pool_UTF8 x0 x1.f_A).bind fun v2 =>
      (m_pool_UTF8 x0 x1.f_B).bind fun v3 =>
      (m_name_IsMemberName v2.1).bind fun v4 =>
      if (!v4) = true then
        (some 12) else
      ((m_desc_Parse v3.1).bind fun v5 =>
        (m_desc_ParseSignature v3.1).bind fun v6 =>
        if (v6.2 != 0) = true then (if (v5.2 != 0) = true then (some 13) else
          (if (v5.1.f_Base == 86) = true then
              (some 13) else
            (some 0))) else
        (some 0))) else
    (if (x1.f_Tag == 9) = true then
        ((j74x2 x0 x1) ) else
      (if (x1.f_Tag == 10) = true then
          ((j74x2 x0 x1) ) else
        ((j74x1 x0 x1) ))))
theorem wj74x2 {x0 : List T_api_Const} {x1 : T_api_Const} {r : Int} {Γ : Ctx} (h : (j74x2 x0 x1)  = some r) : Jn Try.prog Try.f74 Γ (Den.Ends Try.prog Try.f74 (R74 r)) 2549 ⟨82, [(0, .sl false (x0.map row_T_api_Const)), (3, .ptr (row_T_api_Const x1))], []⟩ :=
  so <| bd h fun v7 e7 h => go [] [rg 19 [(2, k (w90 e7))]] <| rt h
theorem wj74x1 {x0 : List T_api_Const} {x1 : T_api_Const} {r : Int} {Γ : Ctx} (h : (j74x1 x0 x1)  = some r) : Jn Try.prog Try.f74 Γ (Den.Ends Try.prog Try.f74 (R74 r)) 1013 ⟨82, [(0, .sl false (x0.map row_T_api_Const)), (3, .ptr (row_T_api_Const x1)), (75, .bool (x1.f_Tag == 11))], []⟩ (x1.f_Tag == 11) :=
  br h (fun h9 h => go [19] [] <| jn (wj74x2 h)) fun h9 h =>
  go [] [] <| rt h
theorem w74 {x0 : List T_api_Const} {x1 : T_api_Const} {r : Int} (h : m_pool_texts x0 x1 = some r) : CallSpec Try.prog 74 [.sl false (x0.map row_T_api_Const), .agg (row_T_api_Const x1)] (R74 r) :=
  cs Try.f74 <| go [] [rg 0 [(0, bo)]] <| br h (fun h0 h => bd h fun v0 e0 h => bd h fun v1 e1 h => go [] [rg 3 [(3, k (w85 e0))], rg 4 [(1, k (w86 e1))]] <| br h (fun h1 h => go [] [] <| rt h) fun h1 h =>
    go [] [] <| rt h) fun h0 h =>
  go [] [] <| br h (fun h2 h => bd h fun v2 e2 h => bd h fun v3 e3 h => bd h fun v4 e4 h => go [] [rg 8 [(3, k (w85 e2))], rg 9 [(3, k (w85 e3))], rg 10 [(1, k (w87 e4))]] <| br h (fun h3 h => go [] [] <| rt h) fun h3 h =>
      bd h fun v5 e5 h => bd h fun v6 e6 h => go [14] [rg 12 [(1, k (w88 e5))], rg 13 [(1, k (w89 e6))]] <| po <| pr 3 [] <| sp h (fun h4 h => pr 3 [(3, gw h4 g0), (4, gw h4 g0), (5, gw h4 g0)] <| sp h (fun h5 h => pr 5 [(6, gs0 h5), (7, gs0 h5), (8, gs0 h5), (9, gw h4 (py h5)), (10, py h4)] <| pe <| goN [] [] <| bT rfl <| go [] [] <| rt h) fun h5 h =>
          pr 5 [(6, gw h5 g0), (7, gw h5 g0), (8, gw h5 g0), (9, gw h4 (pn h5)), (10, py h4)] <| pe <| goN [] [] <| br h (fun h6 h => go [] [] <| rt h) fun h6 h =>
            go [] [] <| rt h) fun h4 h =>
        pr 8 [(3, gs1 h4), (4, gs1 h4), (5, gs1 h4), (9, gs1 h4), (10, pn h4)] <| pe <| goN [] [] <| bF rfl <| go [] [] <| rt h) fun h2 h =>
    go [] [] <| br h (fun h7 h => go [] [] <| bT h7 <| go [19] [] <| jn (wj74x2 h)) fun h7 h =>
      go [] [] <| br h (fun h8 h => go [] [] <| bT h8 <| go [19] [] <| jn (wj74x2 h)) fun h8 h =>
        go [] [] <| jn (wj74x1 h)
/-! armature pool.check -/
def R60 (y0 : Int) : D := .int .i64 y0
def j60x3 (x0 : List T_api_Const) (x1 : T_api_Const) : Option (Int) :=
  (m_pool_texts x0 x1).bind fun v8 =>
  some v8
def j60x2 (v0 : Int × Int × Bool) (x0 : List T_api_Const) (x1 : T_api_Const) : Option (Int) :=
  if (v0.2.1 != 0) = true then
    ((m_pool_tagged x0 x1.f_B v0.2.1).bind fun v7 =>
    if (v7.2 != 0) = true then
      (some v7.2) else
    ((j60x3 x0 x1) )) else
  ((j60x3 x0 x1) )
def j60x1 (v0 : Int × Int × Bool) (x0 : List T_api_Const) (x1 : T_api_Const) : Option (Int) :=
  if (v0.1 != 0) = true then
    ((m_pool_tagged x0 x1.f_A v0.1).bind fun v6 =>
    if (v6.2 != 0) = true then
      (some v6.2) else
    ((j60x2 v0 x0 x1) )) else
  ((j60x2 v0 x0 x1) )
def m_pool_check (x0 : List T_api_Const) (x1 : T_api_Const) : Option (Int) :=
  (m_pool_links x1.f_Tag).bind fun v0 =>
  if (!v0.2.2) = true then
    (some 11) else
  ((m_pool_unused x1 v0.1 v0.2.1).bind fun v1 =>
    if v1 = true then
      (some 4) else
    (if (x1.f_Tag == 1) = true then (if (decide ((x1.f_S.length : Int) > 1024)) = true then (some 8) else
        (if (x1.f_Tag == 3) = true then ((some (IntKind.wrap .i32 x1.f_N)).bind fun v2 =>
            (some (IntKind.wrap .i64 v2)).bind fun v3 =>
            if (v3 != x1.f_N) = true then
              (some 8) else
            ((j60x1 v0 x0 x1) )) else
          ((j60x1 v0 x0 x1) ))) else
      (if (x1.f_Tag == 3) = true then ((some (IntKind.wrap .i32 x1.f_N)).bind fun v4 =>
          (some (IntKind.wrap .i64 v4)).bind fun v5 =>
          if (v5 != x1.f_N) = true then
            (some 8) else
          ((j60x1 v0 x0 x1) )) else
        ((j60x1 v0 x0 x1) ))))
theorem wj60x3 {x0 : List T_api_Const} {x1 : T_api_Const} {r : Int} {Γ : Ctx} (h : (j60x3 x0 x1)  = some r) : Jn Try.prog Try.f60 Γ (Den.Ends Try.prog Try.f60 (R60 r)) 383 ⟨77, [(0, .sl false (x0.map row_T_api_Const)), (3, .ptr (row_T_api_Const x1))], []⟩ :=
  so <| bd h fun v8 e8 h => go [] [rg 16 [(2, k (w74 e8))]] <| rt h
theorem wj60x2 {v0 : Int × Int × Bool} {x0 : List T_api_Const} {x1 : T_api_Const} {r : Int} {Γ : Ctx} (h : (j60x2 v0 x0 x1)  = some r) : Jn Try.prog Try.f60 Γ (Den.Ends Try.prog Try.f60 (R60 r)) 319 ⟨77, [(0, .sl false (x0.map row_T_api_Const)), (3, .ptr (row_T_api_Const x1)), (6, dI v0.2.1)], []⟩ :=
  so <| go [] [] <| br h (fun h10 h => bd h fun v7 e7 h => go [] [rg 13 [(4, k (w73 e7))]] <| br h (fun h11 h => go [] [] <| rt h) fun h11 h =>
    go [16] [] <| jn (wj60x3 h)) fun h10 h =>
  go [16] [] <| jn (wj60x3 h)
theorem wj60x1 {v0 : Int × Int × Bool} {x0 : List T_api_Const} {x1 : T_api_Const} {r : Int} {Γ : Ctx} (h : (j60x1 v0 x0 x1)  = some r) : Jn Try.prog Try.f60 Γ (Den.Ends Try.prog Try.f60 (R60 r)) 159 ⟨77, [(0, .sl false (x0.map row_T_api_Const)), (3, .ptr (row_T_api_Const x1)), (5, dI v0.1), (6, dI v0.2.1)], []⟩ :=
  so <| go [] [] <| br h (fun h8 h => bd h fun v6 e6 h => go [] [rg 9 [(4, k (w73 e6))]] <| br h (fun h9 h => go [] [] <| rt h) fun h9 h =>
    go [12] [] <| jn (wj60x2 h)) fun h8 h =>
  go [12] [] <| jn (wj60x2 h)
theorem w60 {x0 : List T_api_Const} {x1 : T_api_Const} {r : Int} (h : m_pool_check x0 x1 = some r) : CallSpec Try.prog 60 [.sl false (x0.map row_T_api_Const), .agg (row_T_api_Const x1)] (R60 r) :=
  cs Try.f60 <| bd h fun v0 e0 h => go [] [rg 0 [(0, bo)], rg 1 [(2, k (w71 e0))]] <| br h (fun h0 h => go [] [] <| rt h) fun h0 h =>
  bd h fun v1 e1 h => go [] [rg 4 [(3, k (w72 e1))]] <| br h (fun h1 h => go [] [] <| rt h) fun h1 h =>
    go [6] [] <| po <| pr 4 [] <| sp h (fun h2 h => pr 6 [(4, gw h2 g0), (5, gw h2 g0), (6, gw h2 g0), (7, gw h2 g0), (8, py h2)] <| sp h (fun h3 h => pr 13 [(10, gs0 h3), (11, gs0 h3), (12, gs0 h3), (13, gs0 h3), (21, gs0 h3), (22, py h3)] <| pe <| goN [] [] <| bT rfl <| go [] [] <| rt h) fun h3 h =>
        pr 4 [(10, gw h3 g0), (11, gw h3 g0), (12, gw h3 g0), (13, gw h3 g0)] <| sp h (fun h4 h => bd h fun v2 e2 h => bd h fun v3 e3 h => pr 9 [(14, gw h4 g0), (15, gw h4 g0), (16, gw h4 (n e2 .i32)), (17, gw h4 (n e3)), (18, gw h4 g0), (19, gw h4 g0), (20, gw h4 g0), (21, gw h3 (py h4)), (22, pn h3)] <| pe <| goN [] [] <| br h (fun h5 h => go [] [] <| rt h) fun h5 h =>
            go [8] [] <| jn (wj60x1 h)) fun h4 h =>
          pr 9 [(14, gs1 h4), (15, gs1 h4), (16, gs1 h4), (17, gs1 h4), (18, gs1 h4), (19, gs1 h4), (20, gs1 h4), (21, gw h3 (pn h4)), (22, pn h3)] <| pe <| goN [] [] <| bF rfl <| go [8] [] <| jn (wj60x1 h)) fun h2 h =>
      pr 10 [(4, gs1 h2), (5, gs1 h2), (6, gs1 h2), (7, gs1 h2), (8, pn h2)] <| sp h (fun h6 h => bd h fun v4 e4 h => bd h fun v5 e5 h => pr 9 [(14, gw h6 g0), (15, gw h6 g0), (16, gw h6 (n e4 .i32)), (17, gw h6 (n e5)), (18, gw h6 g0), (19, gw h6 g0), (20, gw h6 g0), (21, py h6)] <| pe <| goN [] [] <| br h (fun h7 h => go [] [] <| rt h) fun h7 h =>
          go [8] [] <| jn (wj60x1 h)) fun h6 h =>
        pr 9 [(14, gs1 h6), (15, gs1 h6), (16, gs1 h6), (17, gs1 h6), (18, gs1 h6), (19, gs1 h6), (20, gs1 h6), (21, pn h6)] <| pe <| goN [] [] <| bF rfl <| go [8] [] <| jn (wj60x1 h)
/-! armature pool.Check -/
def R41 (y0 : Int × Int) : D := .tup [.int .i64 y0.1, .int .i64 y0.2]
def l41x1 (x0 : List T_api_Const) (t0 : Int) : Option (Ctl (Int) (Unit ⊕ (Int × Int))) :=
  if (decide (t0 < (x0.length : Int))) = true then
    ((getR x0 t0).bind fun v2 =>
    (m_pool_check x0 v2).bind fun v3 =>
    if (v3 != 0) = true then
      ((some (IntKind.wrap .i64 (t0 + (1 : Int)))).bind fun v4 =>
      some (.done (.inr (v4, v3)))) else
    ((some (IntKind.wrap .i64 (t0 + (1 : Int)))).bind fun v5 =>
      some (.next v5))) else
  (some (.done (.inl (()))))
def m_pool_Check (x0 : List T_api_Const) : Option (Int × Int) :=
  if (decide ((x0.length : Int) > 1000)) = true then
    (some (0, 5)) else
  ((loopM (l41x1 x0) rounds 0).bind fun q1 =>
    match q1 with
    | .inl q0 => (some (0, 0))
    | .inr y0 => (some y0))
def st41x1 (x0 : List T_api_Const) : Int → SL :=
  fun t0 => ⟨26, [(0, .sl false (x0.map row_T_api_Const)), (10, .sl false (x0.map row_T_api_Const)), (11, dI (x0.length : Int)), (12, dI t0)], []⟩
def J41x1  : JT (Unit ⊕ (Int × Int)) :=
  ju (je 0 fun q0 : Unit => ⟨26, [], []⟩) (jr Try.prog Try.f41 R41)
theorem wl41x1 {x0 : List T_api_Const} {t0 : Int} {r : Ctl (Int) (Unit ⊕ (Int × Int))} {Γ : Ctx} (h : (l41x1 x0) t0 = some r) : A Try.prog Γ (lpC Try.f41 43) [] (Rd (st41x1 x0) J41x1 r) ((st41x1 x0) t0).s :=
  go [] [] <| br h (fun h3 h => bd h fun v2 e2 h => bd h fun v3 e3 h => go [] [rg 5 [(1, ix e2)], rg 6 [(2, k (w60 e3))]] <| br h (fun h4 h => bd h fun v4 e4 h => go [] [rg 8 [(1, n e4)]] <| dn h (i2 iR)) fun h4 h =>
    bd h fun v5 e5 h => go [] [rg 9 [(0, n e5)]] <| nx h) fun h3 h =>
  go [] [] <| dn h (i1 iE)
theorem w41 {x0 : List T_api_Const} {r : Int × Int} (h : m_pool_Check x0 = some r) : CallSpec Try.prog 41 [.sl false (x0.map row_T_api_Const)] (R41 r) :=
  cs Try.f41 <| go [] [rg 1 [(1, ln x0)]] <| br h (fun h0 h => go [] [] <| rt h) fun h0 h =>
  go [] [rg 3 [(1, ln x0)]] <| bd h fun q1 e6 h => lp e6 wl41x1 <| match q1, h with
    | .inl q0, h => j1 <| (qe <| goN [] [] <| rt h)
    | .inr y0, h => j2 <| (qr h)
/-! armature octet.width -/
def R62 (y0 : Int) : D := .int .i64 y0
def j62x1 (x0 : Int) : Option (Int) :=
  if (x0 == 8) = true then
    ((some (IntKind.wrap .i64 ((8 : Int) * x0))).bind fun v3 =>
    some v3) else
  (some 0)
def m_octet_width (x0 : Int) : Option (Int) :=
  if (x0 == 1) = true then
    ((some (IntKind.wrap .i64 ((8 : Int) * x0))).bind fun v0 =>
    some v0) else
  (if (x0 == 2) = true then
      ((some (IntKind.wrap .i64 ((8 : Int) * x0))).bind fun v1 =>
      some v1) else
    (if (x0 == 4) = true then
        ((some (IntKind.wrap .i64 ((8 : Int) * x0))).bind fun v2 =>
        some v2) else
      ((j62x1 x0) )))
theorem wj62x1 {x0 : Int} {r : Int} {Γ : Ctx} (h : (j62x1 x0)  = some r) : Jn Try.prog Try.f62 Γ (Den.Ends Try.prog Try.f62 (R62 r)) 53 ⟨11, [(0, dI x0), (4, .bool (x0 == 8))], []⟩ (x0 == 8) :=
  br h (fun h3 h => bd h fun v3 e3 h => go [] [rg 6 [(1, n e3)]] <| rt h) fun h3 h =>
  go [] [] <| rt h
theorem w62 {x0 : Int} {r : Int} (h : m_octet_width x0 = some r) : CallSpec Try.prog 62 [dI x0] (R62 r) :=
  cs Try.f62 <| go [] [] <| br h (fun h0 h => go [] [] <| bT h0 <| bd h fun v0 e0 h => go [] [rg 6 [(1, n e0)]] <| rt h) fun h0 h =>
  go [] [] <| br h (fun h1 h => go [] [] <| bT h1 <| bd h fun v1 e1 h => go [] [rg 6 [(1, n e1)]] <| rt h) fun h1 h =>
    go [] [] <| br h (fun h2 h => go [] [] <| bT h2 <| bd h fun v2 e2 h => go [] [rg 6 [(1, n e2)]] <| rt h) fun h2 h =>
      go [] [] <| jn (wj62x1 h)
/-! armature octet.Put -/
def R48 (y0 : (List UInt8) × Int) : D := .tup [.str y0.1, .int .i64 y0.2]
def l48x1 (t0 : Int × Int × (List Int)) : Option (Ctl (Int × Int × (List Int)) (((List Int)))) :=
  if (decide (t0.1 ≥ 0)) = true then
    ((some (IntKind.wrap .u8 t0.2.1)).bind fun v13 =>
    (idxK t0.1 t0.2.2.length).bind fun v14 =>
    (t0.2.2[v14]?).bind fun v15 =>
    (some (IntKind.wrap .i64 (t0.1 - (1 : Int)))).bind fun v16 =>
    (shrK .u64 t0.2.1 (8 : Int)).bind fun v17 =>
    some (.next (v16, v17, (t0.2.2.set v14 v13)))) else
  (some (.done (t0.2.2)))
def j48x1 (x0 x1 : Int) : Option ((List UInt8) × Int) :=
  (makeK 1 x1 x1).bind fun v5 =>
  (some (IntKind.wrap .i64 (x1 - (1 : Int)))).bind fun v6 =>
  (some (IntKind.wrap .u64 x0)).bind fun v7 =>
  (loopM l48x1 rounds (v6, v7, (List.replicate x1.toNat 0))).bind fun q0 =>
  some ((bytesOf q0), 0)
def m_octet_Put (x0 x1 : Int) : Option ((List UInt8) × Int) :=
  (m_octet_width x1).bind fun v0 =>
  if (v0 == 0) = true then
    (some ([], 1)) else
  (if (decide (v0 < 64)) = true then ((some (IntKind.wrap .i64 (v0 - (1 : Int)))).bind fun v1 =>
      (shlK .i64 (1 : Int) v1).bind fun v2 =>
      (some (IntKind.wrap .i64 (0 - v2))).bind fun v3 =>
      if (decide (x0 < v3)) = true then (some ([], 8)) else
      ((shlK .i64 (1 : Int) v0).bind fun v4 =>
        if (decide (x0 ≥ v4)) = true then
          (some ([], 8)) else
        ((j48x1 x0 x1) ))) else
    ((j48x1 x0 x1) ))
def st48x1  : (Int × Int × (List Int)) → SL :=
  fun t0 => ⟨49, [(7, .lsl 7 0 ((t0.2.2.map rU8).length)), (8, dI t0.1), (9, .int .u64 t0.2.1)], [(7, { sz := 1, rows := (t0.2.2.map rU8), frz := 0, pure := true })]⟩
def J48x1  : JT (((List Int))) :=
  je 0 fun q0 : (List Int) => ⟨49, [(7, .lsl 7 0 ((q0.map rU8).length))], [(7, { sz := 1, rows := (q0.map rU8), frz := 0, pure := true })]⟩
theorem wl48x1 {t0 : Int × Int × (List Int)} {r : Ctl (Int × Int × (List Int)) (((List Int)))} {Γ : Ctx} (h : l48x1 t0 = some r) : A Try.prog Γ (lpC Try.f48 351) [] (Rd st48x1 J48x1 r) (st48x1 t0).s :=
  go [] [] <| br h (fun h5 h => bd h fun v13 e13 h => bd h fun v14 e14 h => bd h fun v15 e15 h => go [9] [rg 10 [(3, n8 e13), (4, ia (R := RU8) 7 e14), (5, st (R := RU8) e15 0 [d8 v13] v13)]] <| nm (congrArg (fun nn : Nat => (⟨49, [(7, .lsl 7 0 nn), (8, dI t0.1), (9, .int .u64 t0.2.1)], [(7, { sz := 1, rows := ((t0.2.2.set v14 v13).map rU8), frz := 0, pure := true })]⟩ : SL)) (by simp only [List.length_map, List.length_set] : (t0.2.2.map rU8).length = ((t0.2.2.set v14 v13).map rU8).length)) <| so <| bd h fun v16 e16 h => bd h fun v17 e17 h => go [] [rg 9 [(1, n e16), (3, sr e17)]] <| nx h) fun h5 h =>
  go [] [] <| dn h (iE)
theorem wj48x1 {x0 x1 : Int} {r : (List UInt8) × Int} {Γ : Ctx} (h : (j48x1 x0 x1)  = some r) : Jn Try.prog Try.f48 Γ (Den.Ends Try.prog Try.f48 (R48 r)) 47 ⟨49, [(0, dI x0), (1, dI x1)], []⟩ :=
  so <| bd h fun v5 e5 h => bd h fun v6 e6 h => bd h fun v7 e7 h => go [] [rg 6 [(1, mk (R := RU8) (0 : Int) e5)], rg 7 [(1, n e6), (3, n e7 .u64)]] <| bd h fun q0 e18 h => lp (ps := [(31, 7)]) e18 wl48x1 <| qe <| goN [] [rg 11 [(1, bsB q0)]] <| rt h
theorem w48 {x0 x1 : Int} {r : (List UInt8) × Int} (h : m_octet_Put x0 x1 = some r) : CallSpec Try.prog 48 [dI x0, dI x1] (R48 r) :=
  cs Try.f48 <| bd h fun v0 e0 h => go [] [rg 1 [(1, k (w62 e0))]] <| br h (fun h0 h => go [] [] <| rt h) fun h0 h =>
  go [4] [] <| po <| pr 3 [] <| sp h (fun h1 h => bd h fun v1 e1 h => bd h fun v2 e2 h => bd h fun v3 e3 h => pr 7 [(3, gw h1 g0), (4, gw h1 g0), (5, gw h1 (n e1)), (6, gw h1 (sl e2)), (7, gw h1 (n e3)), (8, gw h1 g0), (9, gw h1 g0)] <| sp h (fun h2 h => pr 6 [(10, gs0 h2), (11, gs0 h2), (12, gs0 h2), (13, gs0 h2), (14, gw h1 (py h2)), (15, py h1)] <| pe <| goN [] [] <| bT rfl <| go [] [] <| rt h) fun h2 h =>
      bd h fun v4 e4 h => pr 6 [(10, gw h2 g0), (11, gw h2 g0), (12, gw h2 (sl e4)), (13, gw h2 g0), (14, gw h1 (pn h2)), (15, py h1)] <| pe <| goN [] [] <| br h (fun h3 h => go [] [] <| rt h) fun h3 h =>
        go [6] [] <| jn (wj48x1 h)) fun h1 h =>
    pr 13 [(3, gs1 h1), (4, gs1 h1), (5, gs1 h1), (6, gs1 h1), (7, gs1 h1), (8, gs1 h1), (9, gs1 h1), (14, gs1 h1), (15, pn h1)] <| pe <| goN [] [] <| bF rfl <| go [6] [] <| jn (wj48x1 h)
/-! internal abi.NoEscape -/
theorem ne75 : isNoEsc Try.prog 75 := ⟨Try.f75, Try.func75, by kernel_rfl, by kernel_rfl, by kernel_rfl, by kernel_rfl⟩
/-!   strings.Builder .copyCheck -/
def B61n83 (y0 : List Int) : List Blk := [{ sz := 2, rows := [[.lptr 0 0 0, .lsl 1 0 ((y0.map rU8).length)]], frz := 0, pure := false, pin := some 0, ty := some 83 }, { sz := 1, rows := (y0.map rU8), frz := 0, pure := true, ty := some 5 }]
def R61n83 (y0 : List Int) : D := .tup []
def m_strings_Builder_copyCheck_n83 (x0 : List Int) : Option (List Int) :=
  some x0
theorem w61n83 {x0 : List Int} {r : List Int} (h : m_strings_Builder_copyCheck_n83 x0 = some r) : CallSpecO Try.prog 61 [.lptr 0 0 0] [{ sz := 2, rows := [[.nilptr, .lsl 1 0 ((x0.map rU8).length)]], frz := 0, pure := false, pin := some 0, ty := some 83 }, { sz := 1, rows := (x0.map rU8), frz := 0, pure := true, ty := some 5 }] (R61n83 r) (B61n83 r) :=
  csO Try.f61 (m := 2) (keep := [true, false]) <| go [] [] <| bT rfl <| go [] [rg 1 [(3, ne ne75)]] <| rtO h (.tup []) [{ sz := 2, rows := [[.lptr 0 0 0, .lsl 1 0 ((x0.map rU8).length)]], frz := 0, pure := false, pin := some 0, ty := some 83 }, { sz := 1, rows := (x0.map rU8), frz := 0, pure := true, ty := some 5 }] trivial rfl
/-!   strings.Builder .WriteString -/
def B44n83 (y0 : List Int × Int × Unit) : List Blk := [{ sz := 2, rows := [[.lptr 0 0 0, .lsl 1 0 ((y0.1.map rU8).length)]], frz := 0, pure := false, pin := some 0, ty := some 83 }, { sz := 1, rows := (y0.1.map rU8), frz := 0, pure := true, ty := some 5 }]
def R44n83 (y0 : List Int × Int × Unit) : D := .tup [.int .i64 y0.2.1, .undef]
def m_strings_Builder_WriteString_n83 (x0 : List Int) (x1 : List UInt8) : Option (List Int × Int × Unit) :=
  (m_strings_Builder_copyCheck_n83 x0).bind fun v0 =>
  (growK 1 (v0 ++ (bytesI x1)).length).bind fun v1 =>
  some ((v0 ++ (bytesI x1)), (x1.length : Int), ())
theorem w44n83 {x0 : List Int} {x1 : List UInt8} {r : List Int × Int × Unit} (h : m_strings_Builder_WriteString_n83 x0 x1 = some r) : CallSpecO Try.prog 44 [.lptr 0 0 0, .str x1] [{ sz := 2, rows := [[.nilptr, .lsl 1 0 ((x0.map rU8).length)]], frz := 0, pure := false, pin := some 0, ty := some 83 }, { sz := 1, rows := (x0.map rU8), frz := 0, pure := true, ty := some 5 }] (R44n83 r) (B44n83 r) :=
  csO Try.f44 (m := 2) (keep := [true, false]) <| bd h fun v0 e0 h => bd h fun v1 e1 h => go [] [rg 1 [(1, ko [0, 1] (w61n83 e0))], rg 2 [(6, apT e1)]] <| rtO h (.tup [dI (x1.length : Int), .undef]) [{ sz := 2, rows := [[.lptr 0 0 0, .lsl 1 0 (((v0 ++ (bytesI x1)).map rU8).length)]], frz := 0, pure := false, pin := some 0, ty := some 83 }, { sz := 1, rows := ((v0 ++ (bytesI x1)).map rU8), frz := 0, pure := true, ty := some 5 }] (a2 trivial trivial) rfl
/-!   armature poolcode.writer .number -/
def B42n83 (y0 : List Int) : List Blk := [{ sz := 2, rows := [[.lptr 0 0 0, .lsl 1 0 ((y0.map rU8).length)]], frz := 0, pure := false, pin := some 0, ty := some 83 }, { sz := 1, rows := (y0.map rU8), frz := 0, pure := true, ty := some 5 }]
def R42n83 (y0 : List Int) : D := .tup []
def m_armature_poolcode_writer_number_n83 (x0 : List Int) (x1 x2 : Int) : Option (List Int) :=
  (m_octet_Put x1 x2).bind fun v0 =>
  (m_strings_Builder_WriteString_n83 x0 v0.1).bind fun v1 =>
  some v1.1
theorem w42n83 {x0 : List Int} {x1 x2 : Int} {r : List Int} (h : m_armature_poolcode_writer_number_n83 x0 x1 x2 = some r) : CallSpecO Try.prog 42 [.lptr 0 0 0, dI x1, dI x2] [{ sz := 2, rows := [[.nilptr, .lsl 1 0 ((x0.map rU8).length)]], frz := 0, pure := false, pin := some 0, ty := some 83 }, { sz := 1, rows := (x0.map rU8), frz := 0, pure := true, ty := some 5 }] (R42n83 r) (B42n83 r) :=
  csO Try.f42 (m := 2) (keep := [true, false]) <| bd h fun v0 e0 h => bd h fun v1 e1 h => go [] [rg 0 [(2, k (w48 e0))], rg 1 [(4, ko [0, 1] (w44n83 e1))]] <| rtO h (.tup []) [{ sz := 2, rows := [[.lptr 0 0 0, .lsl 1 0 ((v1.1.map rU8).length)]], frz := 0, pure := false, pin := some 0, ty := some 83 }, { sz := 1, rows := (v1.1.map rU8), frz := 0, pure := true, ty := some 5 }] trivial rfl
/-!   strings.Builder .copyCheck -/
def B61s83 (y0 : List Int) : List Blk := [{ sz := 2, rows := [[.lptr 0 0 0, .lsl 1 0 ((y0.map rU8).length)]], frz := 0, pure := false, pin := some 0, ty := some 83 }, { sz := 1, rows := (y0.map rU8), frz := 0, pure := true, ty := some 5 }]
def R61s83 (y0 : List Int) : D := .tup []
def m_strings_Builder_copyCheck_s83 (x0 : List Int) : Option (List Int) :=
  some x0
theorem w61s83 {x0 : List Int} {r : List Int} (h : m_strings_Builder_copyCheck_s83 x0 = some r) : CallSpecO Try.prog 61 [.lptr 0 0 0] [{ sz := 2, rows := [[.lptr 0 0 0, .lsl 1 0 ((x0.map rU8).length)]], frz := 0, pure := false, pin := some 0, ty := some 83 }, { sz := 1, rows := (x0.map rU8), frz := 0, pure := true, ty := some 5 }] (R61s83 r) (B61s83 r) :=
  csO Try.f61 (m := 2) (keep := [true, false]) <| go [] [] <| bF rfl <| go [] [] <| bF rfl <| go [] [] <| rtO h (.tup []) [{ sz := 2, rows := [[.lptr 0 0 0, .lsl 1 0 ((x0.map rU8).length)]], frz := 0, pure := false, pin := some 0, ty := some 83 }, { sz := 1, rows := (x0.map rU8), frz := 0, pure := true, ty := some 5 }] trivial rfl
/-!   strings.Builder .WriteString -/
def B44s83 (y0 : List Int × Int × Unit) : List Blk := [{ sz := 2, rows := [[.lptr 0 0 0, .lsl 1 0 ((y0.1.map rU8).length)]], frz := 0, pure := false, pin := some 0, ty := some 83 }, { sz := 1, rows := (y0.1.map rU8), frz := 0, pure := true, ty := some 5 }]
def R44s83 (y0 : List Int × Int × Unit) : D := .tup [.int .i64 y0.2.1, .undef]
def m_strings_Builder_WriteString_s83 (x0 : List Int) (x1 : List UInt8) : Option (List Int × Int × Unit) :=
  (m_strings_Builder_copyCheck_s83 x0).bind fun v0 =>
  (growK 1 (v0 ++ (bytesI x1)).length).bind fun v1 =>
  some ((v0 ++ (bytesI x1)), (x1.length : Int), ())
theorem w44s83 {x0 : List Int} {x1 : List UInt8} {r : List Int × Int × Unit} (h : m_strings_Builder_WriteString_s83 x0 x1 = some r) : CallSpecO Try.prog 44 [.lptr 0 0 0, .str x1] [{ sz := 2, rows := [[.lptr 0 0 0, .lsl 1 0 ((x0.map rU8).length)]], frz := 0, pure := false, pin := some 0, ty := some 83 }, { sz := 1, rows := (x0.map rU8), frz := 0, pure := true, ty := some 5 }] (R44s83 r) (B44s83 r) :=
  csO Try.f44 (m := 2) (keep := [true, false]) <| bd h fun v0 e0 h => bd h fun v1 e1 h => go [] [rg 1 [(1, ko [0, 1] (w61s83 e0))], rg 2 [(6, apT e1)]] <| rtO h (.tup [dI (x1.length : Int), .undef]) [{ sz := 2, rows := [[.lptr 0 0 0, .lsl 1 0 (((v0 ++ (bytesI x1)).map rU8).length)]], frz := 0, pure := false, pin := some 0, ty := some 83 }, { sz := 1, rows := ((v0 ++ (bytesI x1)).map rU8), frz := 0, pure := true, ty := some 5 }] (a2 trivial trivial) rfl
/-!   armature poolcode.writer .number -/
def B42s83 (y0 : List Int) : List Blk := [{ sz := 2, rows := [[.lptr 0 0 0, .lsl 1 0 ((y0.map rU8).length)]], frz := 0, pure := false, pin := some 0, ty := some 83 }, { sz := 1, rows := (y0.map rU8), frz := 0, pure := true, ty := some 5 }]
def R42s83 (y0 : List Int) : D := .tup []
def m_armature_poolcode_writer_number_s83 (x0 : List Int) (x1 x2 : Int) : Option (List Int) :=
  (m_octet_Put x1 x2).bind fun v0 =>
  (m_strings_Builder_WriteString_s83 x0 v0.1).bind fun v1 =>
  some v1.1
theorem w42s83 {x0 : List Int} {x1 x2 : Int} {r : List Int} (h : m_armature_poolcode_writer_number_s83 x0 x1 x2 = some r) : CallSpecO Try.prog 42 [.lptr 0 0 0, dI x1, dI x2] [{ sz := 2, rows := [[.lptr 0 0 0, .lsl 1 0 ((x0.map rU8).length)]], frz := 0, pure := false, pin := some 0, ty := some 83 }, { sz := 1, rows := (x0.map rU8), frz := 0, pure := true, ty := some 5 }] (R42s83 r) (B42s83 r) :=
  csO Try.f42 (m := 2) (keep := [true, false]) <| bd h fun v0 e0 h => bd h fun v1 e1 h => go [] [rg 0 [(2, k (w48 e0))], rg 1 [(4, ko [0, 1] (w44s83 e1))]] <| rtO h (.tup []) [{ sz := 2, rows := [[.lptr 0 0 0, .lsl 1 0 ((v1.1.map rU8).length)]], frz := 0, pure := false, pin := some 0, ty := some 83 }, { sz := 1, rows := (v1.1.map rU8), frz := 0, pure := true, ty := some 5 }] trivial rfl
/-! armature octet.PutString -/
def R43 (y0 : (List UInt8) × Int) : D := .tup [.str y0.1, .int .i64 y0.2]
def m_octet_PutString (x0 : List UInt8) : Option ((List UInt8) × Int) :=
  (m_octet_Put (x0.length : Int) 2).bind fun v0 =>
  if (v0.2 != 0) = true then
    (some ([], v0.2)) else
  ((catK v0.1 x0).bind fun v1 =>
    some (v1, 0))
theorem w43 {x0 : List UInt8} {r : (List UInt8) × Int} (h : m_octet_PutString x0 = some r) : CallSpec Try.prog 43 [.str x0] (R43 r) :=
  cs Try.f43 <| bd h fun v0 e0 h => go [] [rg 1 [(2, k (w48 e0))]] <| br h (fun h0 h => go [] [] <| rt h) fun h0 h =>
  bd h fun v1 e1 h => go [] [rg 4 [(2, ct e1)]] <| rt h
/-!   strings.Builder .String -/
def B45s83 (y0 : Unit × (List UInt8)) : List Blk := [{ sz := 2, rows := [[.lptr 0 0 0, .undef]], frz := 0, pure := false, pin := some 0, ty := some 83 }, { sz := 1, rows := (([] : List Int).map rU8), frz := 0, pure := true }]
def R45s83 (y0 : Unit × (List UInt8)) : D := .str y0.2
def m_strings_Builder_String_s83 (x0 : List Int) : Option (Unit × (List UInt8)) :=
  (usK x0).bind fun v0 =>
  some ((), v0)
theorem w45s83 {x0 : List Int} {r : Unit × (List UInt8)} (h : m_strings_Builder_String_s83 x0 = some r) : CallSpecO Try.prog 45 [.lptr 0 0 0] [{ sz := 2, rows := [[.lptr 0 0 0, .lsl 1 0 ((x0.map rU8).length)]], frz := 0, pure := false, pin := some 0, ty := some 83 }, { sz := 1, rows := (x0.map rU8), frz := 0, pure := true, ty := some 5 }] (R45s83 r) (B45s83 r) :=
  csO Try.f45 (m := 2) (keep := [true, false]) <| bd h fun v0 e0 h => go [] [rgo 1 [(4, sd e0), (9, ln (R := RU8) x0), (10, us e0)] [0, 1, 2, 3, 4, 5, 6, 7, 8, 9, 10, 11] [10] [(1, [0]), (2, [0, 1]), (3, [0, 1, 2]), (4, [0, 1, 2, 3]), (6, [5]), (7, [5, 6]), (8, [5, 6, 7]), (9, [5, 6, 7, 8]), (10, [0, 1, 2, 3, 4, 5, 6, 7, 8, 9]), (11, [0, 1, 2, 3, 4, 5, 6, 7, 8, 9, 10])]] <| rtO h (.str v0) [{ sz := 2, rows := [[.lptr 0 0 0, .undef]], frz := 0, pure := false, pin := some 0, ty := some 83 }, { sz := 1, rows := (([] : List Int).map rU8), frz := 0, pure := true }] (a2 trivial trivial) rfl
/-! armature poolcode.Encode -/
def R16 (y0 : (List UInt8) × Int) : D := .tup [.str y0.1, .int .i64 y0.2]
def j16x3 (t0 : Int × (List Int)) (v11 : T_api_Const) (v12 : List Int) : Option (Ctl (Int × (List Int)) (((List Int)))) :=
  (m_armature_poolcode_writer_number_s83 v12 v11.f_A 2).bind fun v23 =>
  (some (IntKind.wrap .i64 (t0.1 + (1 : Int)))).bind fun v24 =>
  some (.next (v24, v23))
def j16x2 (t0 : Int × (List Int)) (v11 : T_api_Const) (v12 : List Int) : Option (Ctl (Int × (List Int)) (((List Int)))) :=
  (m_armature_poolcode_writer_number_s83 v12 v11.f_A 2).bind fun v20 =>
  (m_armature_poolcode_writer_number_s83 v20 v11.f_B 2).bind fun v21 =>
  (some (IntKind.wrap .i64 (t0.1 + (1 : Int)))).bind fun v22 =>
  some (.next (v22, v21))
def j16x1 (t0 : Int × (List Int)) (v11 : T_api_Const) (v12 : List Int) : Option (Ctl (Int × (List Int)) (((List Int)))) :=
  if (v11.f_Tag == 8) = true then
    ((j16x3 t0 v11 v12) ) else
  ((j16x2 t0 v11 v12) )
def l16x1 (x0 : List T_api_Const) (t0 : Int × (List Int)) : Option (Ctl (Int × (List Int)) (((List Int)))) :=
  if (decide (t0.1 < (x0.length : Int))) = true then
    ((getR x0 t0.1).bind fun v11 =>
    (m_armature_poolcode_writer_number_s83 t0.2 v11.f_Tag 1).bind fun v12 =>
    if (v11.f_Tag == 1) = true then
      ((m_octet_PutString v11.f_S).bind fun v13 =>
      (m_strings_Builder_WriteString_s83 v12 v13.1).bind fun v14 =>
      (some (IntKind.wrap .i64 (t0.1 + (1 : Int)))).bind fun v15 =>
      some (.next (v15, v14.1))) else
    (if (v11.f_Tag == 3) = true then
        ((m_armature_poolcode_writer_number_s83 v12 v11.f_N 4).bind fun v16 =>
        (some (IntKind.wrap .i64 (t0.1 + (1 : Int)))).bind fun v17 =>
        some (.next (v17, v16))) else
      (if (v11.f_Tag == 5) = true then
          ((m_armature_poolcode_writer_number_s83 v12 v11.f_N 8).bind fun v18 =>
          (some (IntKind.wrap .i64 (t0.1 + (1 : Int)))).bind fun v19 =>
          some (.next (v19, v18))) else
        (if (v11.f_Tag == 7) = true then
            ((j16x3 t0 v11 v12) ) else
          ((j16x1 t0 v11 v12) ))))) else
  (some (.done (t0.2)))
def m_poolcode_Encode (x0 : List T_api_Const) : Option ((List UInt8) × Int) :=
  (m_pool_Check x0).bind fun v0 =>
  if (v0.2 != 0) = true then
    (some ([], v0.2)) else
  ((m_armature_poolcode_writer_number_n83 ([] : List Int) (x0.length : Int) 2).bind fun v1 =>
    (loopM (l16x1 x0) rounds (0, v1)).bind fun q0 =>
    (m_strings_Builder_String_s83 q0).bind fun v25 =>
    some (v25.2, 0))
def st16x1 (x0 : List T_api_Const) : (Int × (List Int)) → SL :=
  fun t0 => ⟨69, [(6, .lptr 6 0 0), (22, .sl false (x0.map row_T_api_Const)), (23, dI (x0.length : Int)), (24, dI t0.1)], [(6, { sz := 2, rows := [[.lptr 6 0 0, .lsl 1006 0 ((t0.2.map rU8).length)]], frz := 0, pure := false, ty := some 83 }), (1006, { sz := 1, rows := (t0.2.map rU8), frz := 0, pure := true, ty := some 5 })]⟩
def J16x1  : JT (((List Int))) :=
  je 0 fun q0 : (List Int) => ⟨69, [(6, .lptr 6 0 0)], [(6, { sz := 2, rows := [[.lptr 6 0 0, .lsl 1006 0 ((q0.map rU8).length)]], frz := 0, pure := false, ty := some 83 }), (1006, { sz := 1, rows := (q0.map rU8), frz := 0, pure := true, ty := some 5 })]⟩
theorem wj16x3 (x0 : List T_api_Const) {t0 : Int × (List Int)} {v11 : T_api_Const} {v12 : List Int} {r : Ctl (Int × (List Int)) (((List Int)))} {Γ : Ctx} (h : (j16x3 t0 v11 v12)  = some r) : Jn Try.prog Try.f16 Γ (Rd (st16x1 x0) J16x1 r) 25129775 ⟨69, [(6, .lptr 6 0 0), (8, .lptr 8 0 0), (22, .sl false (x0.map row_T_api_Const)), (23, dI (x0.length : Int)), (24, dI t0.1)], [(6, { sz := 2, rows := [[.lptr 6 0 0, .lsl 1006 0 ((v12.map rU8).length)]], frz := 0, pure := false, ty := some 83 }), (8, { sz := 5, rows := [row_T_api_Const v11], frz := 0, pure := false }), (1006, { sz := 1, rows := (v12.map rU8), frz := 0, pure := true, ty := some 5 })]⟩ :=
  so <| bd h fun v23 e23 h => bd h fun v24 e24 h => go [] [rg 22 [(2, ko [6, 1006] (w42s83 e23))], rg 23 [(0, n e24)]] <| nx h
theorem wj16x2 (x0 : List T_api_Const) {t0 : Int × (List Int)} {v11 : T_api_Const} {v12 : List Int} {r : Ctl (Int × (List Int)) (((List Int)))} {Γ : Ctx} (h : (j16x2 t0 v11 v12)  = some r) : Jn Try.prog Try.f16 Γ (Rd (st16x1 x0) J16x1 r) 50295599 ⟨69, [(6, .lptr 6 0 0), (8, .lptr 8 0 0), (22, .sl false (x0.map row_T_api_Const)), (23, dI (x0.length : Int)), (24, dI t0.1)], [(6, { sz := 2, rows := [[.lptr 6 0 0, .lsl 1006 0 ((v12.map rU8).length)]], frz := 0, pure := false, ty := some 83 }), (8, { sz := 5, rows := [row_T_api_Const v11], frz := 0, pure := false }), (1006, { sz := 1, rows := (v12.map rU8), frz := 0, pure := true, ty := some 5 })]⟩ :=
  so <| bd h fun v20 e20 h => bd h fun v21 e21 h => bd h fun v22 e22 h => go [] [rg 11 [(2, ko [6, 1006] (w42s83 e20))], rg 12 [(2, ko [6, 1006] (w42s83 e21))], rg 23 [(0, n e22)]] <| nx h
theorem wj16x1 (x0 : List T_api_Const) {t0 : Int × (List Int)} {v11 : T_api_Const} {v12 : List Int} {r : Ctl (Int × (List Int)) (((List Int)))} {Γ : Ctx} (h : (j16x1 t0 v11 v12)  = some r) : Jn Try.prog Try.f16 Γ (Rd (st16x1 x0) J16x1 r) 16741167 ⟨69, [(6, .lptr 6 0 0), (8, .lptr 8 0 0), (22, .sl false (x0.map row_T_api_Const)), (23, dI (x0.length : Int)), (24, dI t0.1), (60, .bool (v11.f_Tag == 8))], [(6, { sz := 2, rows := [[.lptr 6 0 0, .lsl 1006 0 ((v12.map rU8).length)]], frz := 0, pure := false, ty := some 83 }), (8, { sz := 5, rows := [row_T_api_Const v11], frz := 0, pure := false }), (1006, { sz := 1, rows := (v12.map rU8), frz := 0, pure := true, ty := some 5 })]⟩ (v11.f_Tag == 8) :=
  br h (fun h12 h => go [22] [] <| jn ((wj16x3 x0) h)) fun h12 h =>
  go [11] [] <| jn ((wj16x2 x0) h)
theorem wl16x1 {x0 : List T_api_Const} {t0 : Int × (List Int)} {r : Ctl (Int × (List Int)) (((List Int)))} {Γ : Ctx} (h : (l16x1 x0) t0 = some r) : A Try.prog Γ (lpC Try.f16 175) [] (Rd (st16x1 x0) J16x1 r) ((st16x1 x0) t0).s :=
  go [] [] <| br h (fun h7 h => bd h fun v11 e11 h => bd h fun v12 e12 h => go [] [rg 8 [(0, ix e11)], rg 9 [(2, ko [6, 1006] (w42s83 e12))]] <| br h (fun h8 h => bd h fun v13 e13 h => bd h fun v14 e14 h => bd h fun v15 e15 h => go [] [rg 14 [(2, k (w43 e13))], rg 15 [(2, ko [6, 1006] (w44s83 e14))], rg 23 [(0, n e15)]] <| nx h) fun h8 h =>
    go [] [] <| br h (fun h9 h => bd h fun v16 e16 h => bd h fun v17 e17 h => go [] [rg 17 [(2, ko [6, 1006] (w42s83 e16))], rg 23 [(0, n e17)]] <| nx h) fun h9 h =>
      go [] [] <| br h (fun h10 h => bd h fun v18 e18 h => bd h fun v19 e19 h => go [] [rg 19 [(2, ko [6, 1006] (w42s83 e18))], rg 23 [(0, n e19)]] <| nx h) fun h10 h =>
        go [] [] <| br h (fun h11 h => go [] [] <| bT h11 <| go [22] [] <| jn ((wj16x3 x0) h)) fun h11 h =>
          go [] [] <| jn ((wj16x1 x0) h)) fun h7 h =>
  go [] [] <| dn h (iE)
theorem w16 {x0 : List T_api_Const} {r : (List UInt8) × Int} (h : m_poolcode_Encode x0 = some r) : CallSpec Try.prog 16 [.sl false (x0.map row_T_api_Const)] (R16 r) :=
  cs Try.f16 <| bd h fun v0 e0 h => go [] [rg 1 [(1, k (w41 e0))]] <| br h (fun h0 h => go [] [] <| rt h) fun h0 h =>
  go [5] [rg 4 [(0, bo)]] <| cvE [.blk 6 1 1006 1 (some 5)] <| so <| bd h fun v1 e1 h => go [] [rg 5 [(1, ln x0), (2, ko [6, 1006] (w42n83 e1))], rg 6 [(1, ln x0)]] <| bd h fun q0 e25 h => lp e25 wl16x1 <| qe <| bd h fun v25 e26 h => goN [] [rg 24 [(1, ko [6, 1006] (w45s83 e26))]] <| rt h
/-! armature file.countsValid -/
def R17 (y0 : Bool) : D := .bool y0
def l17x2 (v6 : List T_api_Member) (t2 : Int) : Option (Ctl (Int) (Unit ⊕ Bool)) :=
  if (decide (t2 < (v6.length : Int))) = true then
    ((getR v6 t2).bind fun v8 =>
    if (decide ((v8.f_Attributes.length : Int) > 16)) = true then
      (some (.done (.inr false))) else
    ((some (IntKind.wrap .i64 (t2 + (1 : Int)))).bind fun v9 =>
      some (.next v9))) else
  (some (.done (.inl (()))))
def l17x1 (x0 : T_api_File) (t0 : Int) : Option (Ctl (Int) (Unit ⊕ Bool)) :=
  if (decide (t0 < ([x0.f_Fields, x0.f_Methods].length : Int))) = true then
    ((idxK t0 [x0.f_Fields, x0.f_Methods].length).bind fun v5 =>
    ([x0.f_Fields, x0.f_Methods][v5]?).bind fun v6 =>
    (loopM (l17x2 v6) rounds 0).bind fun q3 =>
    match q3 with
    | .inl q2 => ((some (IntKind.wrap .i64 (t0 + (1 : Int)))).bind fun v10 =>
      some (.next v10))
    | .inr y1 => (some (.done (.inr y1)))) else
  (some (.done (.inl (()))))
def j17x1 (x0 : T_api_File) : Option (Bool) :=
  (loopM (l17x1 x0) rounds 0).bind fun q5 =>
  match q5 with
  | .inl q4 => (some true)
  | .inr y2 => (some y2)
def m_file_countsValid (x0 : T_api_File) : Option (Bool) :=
  if (decide ((x0.f_Interfaces.length : Int) > 8)) = true then (some false) else
  (if (decide ((x0.f_Fields.length : Int) > 64)) = true then (some false) else
    (if (decide ((x0.f_Methods.length : Int) > 64)) = true then (some false) else
      (if (decide ((x0.f_Attributes.length : Int) > 16)) = true then
          (some false) else
        ((j17x1 x0) ))))
def st17x2 (t0 : Int) (v6 : List T_api_Member) (x0 : T_api_File) : Int → SL :=
  fun t2 => ⟨51, [(33, .lsl 33 0 (([x0.f_Fields, x0.f_Methods].map (rSl row_T_api_Member)).length)), (34, dI ([x0.f_Fields, x0.f_Methods].length : Int)), (35, dI t0), (39, .sl false (v6.map row_T_api_Member)), (40, dI (v6.length : Int)), (41, dI t2)], [(33, { sz := 1, rows := ([x0.f_Fields, x0.f_Methods].map (rSl row_T_api_Member)), frz := 0, pure := true })]⟩
def J17x2 (t0 : Int) (x0 : T_api_File) : JT (Unit ⊕ Bool) :=
  ju (je 2 fun q2 : Unit => ⟨51, [(33, .lsl 33 0 (([x0.f_Fields, x0.f_Methods].map (rSl row_T_api_Member)).length)), (34, dI ([x0.f_Fields, x0.f_Methods].length : Int)), (35, dI t0)], [(33, { sz := 1, rows := ([x0.f_Fields, x0.f_Methods].map (rSl row_T_api_Member)), frz := 0, pure := true })]⟩) (jr Try.prog Try.f17 R17)
theorem wl17x2 (t0 : Int) (x0 : T_api_File) {v6 : List T_api_Member} {t2 : Int} {r : Ctl (Int) (Unit ⊕ Bool)} {Γ : Ctx} (h : (l17x2 v6) t2 = some r) : A Try.prog Γ (lpC Try.f17 11467) [] (Rd (st17x2 t0 v6 x0) (J17x2 t0 x0) r) ((st17x2 t0 v6 x0) t2).s :=
  go [] [] <| br h (fun h12 h => bd h fun v8 e9 h => go [] [rg 8 [(0, ix e9)], rg 9 [(2, ln v8.f_Attributes)]] <| br h (fun h13 h => go [] [] <| dn h (i2 iR)) fun h13 h =>
    bd h fun v9 e10 h => go [] [rg 11 [(0, n e10)]] <| nx h) fun h12 h =>
  go [] [] <| dn h (i1 iE)
def st17x1 (x0 : T_api_File) : Int → SL :=
  fun t0 => ⟨51, [(33, .lsl 33 0 (([x0.f_Fields, x0.f_Methods].map (rSl row_T_api_Member)).length)), (34, dI ([x0.f_Fields, x0.f_Methods].length : Int)), (35, dI t0)], [(33, { sz := 1, rows := ([x0.f_Fields, x0.f_Methods].map (rSl row_T_api_Member)), frz := 0, pure := true })]⟩
def J17x1  : JT (Unit ⊕ Bool) :=
  ju (je 0 fun q4 : Unit => ⟨51, [], []⟩) (jr Try.prog Try.f17 R17)
theorem wl17x1 {x0 : T_api_File} {t0 : Int} {r : Ctl (Int) (Unit ⊕ Bool)} {Γ : Ctx} (h : (l17x1 x0) t0 = some r) : A Try.prog Γ (lpC Try.f17 43) [] (Rd (st17x1 x0) J17x1 r) ((st17x1 x0) t0).s :=
  go [] [] <| br h (fun h9 h => bd h fun v5 e6 h => bd h fun v6 e7 h => go [] [rg 5 [(0, ia 33 e6), (1, lb e7)], rg 6 [(1, ln v6)]] <| bd h fun q3 e11 h => lp e11 (wl17x2 t0 x0) <| match q3, h with
    | .inl q2, h => j1 <| (qe <| bd h fun v10 e12 h => goN [] [rg 12 [(0, n e12)]] <| nx h)
    | .inr y1, h => j2 <| (ql h fun _ _ p => ⟨(iS p).1, i2 ((iS p).2)⟩)) fun h9 h =>
  go [] [] <| dn h (i1 iE)
theorem wj17x1 {x0 : T_api_File} {r : Bool} {Γ : Ctx} (h : (j17x1 x0)  = some r) : Jn Try.prog Try.f17 Γ (Den.Ends Try.prog Try.f17 (R17 r)) 19 ⟨51, [(1, .ptr (row_T_api_File x0))], []⟩ :=
  so <| go [] [rg 3 [(4, bl 2 0), (5, ln ([x0.f_Fields, x0.f_Methods] : List (List T_api_Member)))]] <| bd h fun q5 e13 h => lp e13 wl17x1 <| match q5, h with
  | .inl q4, h => j1 <| (qe <| goN [] [] <| rt h)
  | .inr y2, h => j2 <| (qr h)
theorem w17 {x0 : T_api_File} {r : Bool} (h : m_file_countsValid x0 = some r) : CallSpec Try.prog 17 [.agg (row_T_api_File x0)] (R17 r) :=
  cs Try.f17 <| go [1] [rg 0 [(0, bo)]] <| po <| pr 5 [(2, ln x0.f_Interfaces)] <| sp h (fun h0 h => pr 17 [(5, gs0 h0), (6, gs0 h0), (7, gs0 h0), (8, gs0 h0), (9, py h0)] <| pe <| goN [] [] <| bT rfl <| go [] [] <| rt h) fun h0 h =>
  pr 6 [(5, gw h0 g0), (6, gw h0 g0), (7, gw h0 (ln x0.f_Fields)), (8, gw h0 g0), (9, pn h0)] <| sp h (fun h1 h => pr 11 [(11, gs0 h1), (12, gs0 h1), (13, gs0 h1), (14, gs0 h1), (15, py h1)] <| pe <| goN [] [] <| bT rfl <| go [] [] <| rt h) fun h1 h =>
    pr 6 [(11, gw h1 g0), (12, gw h1 g0), (13, gw h1 (ln x0.f_Methods)), (14, gw h1 g0), (15, pn h1)] <| sp h (fun h2 h => pr 5 [(17, gs0 h2), (18, gs0 h2), (19, gs0 h2), (20, gs0 h2), (21, py h2)] <| pe <| goN [] [] <| bT rfl <| go [] [] <| rt h) fun h2 h =>
      pr 5 [(17, gw h2 g0), (18, gw h2 g0), (19, gw h2 (ln x0.f_Attributes)), (20, gw h2 g0), (21, pn h2)] <| pe <| goN [] [] <| br h (fun h3 h => go [] [] <| rt h) fun h3 h =>
        go [3] [] <| jn (wj17x1 h)
/-! armature file.fits16 -/
def R46 (y0 : Bool) : D := .bool y0
def l46x1 (x0 : List Int) (t0 : Int) : Option (Ctl (Int) (Unit ⊕ Bool)) :=
  if (decide (t0 < (x0.length : Int))) = true then
    ((getR x0 t0).bind fun v1 =>
    if (decide (v1 < 0)) = true then (some (.done (.inr false))) else
    (if (decide (v1 > 65535)) = true then
      (some (.done (.inr false))) else
    ((some (IntKind.wrap .i64 (t0 + (1 : Int)))).bind fun v2 =>
      some (.next v2)))) else
  (some (.done (.inl (()))))
def m_file_fits16 (x0 : List Int) : Option (Bool) :=
  (loopM (l46x1 x0) rounds 0).bind fun q1 =>
  match q1 with
  | .inl q0 => (some true)
  | .inr y0 => (some y0)
def st46x1 (x0 : List Int) : Int → SL :=
  fun t0 => ⟨18, [(5, .sl false (x0.map rI64)), (6, dI (x0.length : Int)), (7, dI t0)], []⟩
def J46x1  : JT (Unit ⊕ Bool) :=
  ju (je 0 fun q0 : Unit => ⟨18, [], []⟩) (jr Try.prog Try.f46 R46)
theorem wl46x1 {x0 : List Int} {t0 : Int} {r : Ctl (Int) (Unit ⊕ Bool)} {Γ : Ctx} (h : (l46x1 x0) t0 = some r) : A Try.prog Γ (lpC Try.f46 21) [] (Rd (st46x1 x0) J46x1 r) ((st46x1 x0) t0).s :=
  go [] [] <| br h (fun h3 h => bd h fun v1 e1 h => sp h (fun h4 h => go [] [rg 3 [(0, ix e1)], rg 4 [(1, kb h4)]] <| bT rfl <| go [] [] <| dn h (i2 iR)) fun h4 h =>
    go [] [rg 3 [(0, ix e1)], rg 4 [(1, kb h4)]] <| br h (fun h5 h => go [] [] <| dn h (i2 iR)) fun h5 h =>
    bd h fun v2 e2 h => go [] [rg 6 [(0, n e2)]] <| nx h) fun h3 h =>
  go [] [] <| dn h (i1 iE)
theorem w46 {x0 : List Int} {r : Bool} (h : m_file_fits16 x0 = some r) : CallSpec Try.prog 46 [.sl false (x0.map rI64)] (R46 r) :=
  cs Try.f46 <| go [] [rg 1 [(1, ln x0)]] <| bd h fun q1 e3 h => lp e3 wl46x1 <| match q1, h with
  | .inl q0, h => j1 <| (qe <| goN [] [] <| rt h)
  | .inr y0, h => j2 <| (qr h)
/-! armature file.attributesFit -/
def R47 (y0 : Bool) : D := .bool y0
def l47x1 (x0 : List T_api_Attr) (t0 : Int) : Option (Ctl (Int) (Unit ⊕ Bool)) :=
  if (decide (t0 < (x0.length : Int))) = true then
    ((getR x0 t0).bind fun v2 =>
    (m_file_fits16 [v2.f_NameIndex, (v2.f_Bytes.length : Int)]).bind fun v3 =>
    if (!v3) = true then
      (some (.done (.inr false))) else
    ((some (IntKind.wrap .i64 (t0 + (1 : Int)))).bind fun v4 =>
      some (.next v4))) else
  (some (.done (.inl (()))))
def m_file_attributesFit (x0 : List T_api_Attr) : Option (Bool) :=
  (loopM (l47x1 x0) rounds 0).bind fun q1 =>
  match q1 with
  | .inl q0 => (some true)
  | .inr y0 => (some y0)
def st47x1 (x0 : List T_api_Attr) : Int → SL :=
  fun t0 => ⟨20, [(5, .sl false (x0.map row_T_api_Attr)), (6, dI (x0.length : Int)), (7, dI t0)], []⟩
def J47x1  : JT (Unit ⊕ Bool) :=
  ju (je 0 fun q0 : Unit => ⟨20, [], []⟩) (jr Try.prog Try.f47 R47)
theorem wl47x1 {x0 : List T_api_Attr} {t0 : Int} {r : Ctl (Int) (Unit ⊕ Bool)} {Γ : Ctx} (h : (l47x1 x0) t0 = some r) : A Try.prog Γ (lpC Try.f47 21) [] (Rd (st47x1 x0) J47x1 r) ((st47x1 x0) t0).s :=
  go [] [] <| br h (fun h2 h => bd h fun v2 e2 h => bd h fun v3 e3 h => go [] [rg 3 [(0, ix e2)], rg 4 [(5, bl 2 0), (6, kB (a2 (rpI [v2.f_NameIndex, (v2.f_Bytes.length : Int)]) trivial) [rw_ [v2.f_NameIndex, (v2.f_Bytes.length : Int)]] (by simp only [rwE] <;> kernel_rfl) (w46 e3))]] <| br h (fun h3 h => go [] [] <| dn h (i2 iR)) fun h3 h =>
    bd h fun v4 e4 h => go [] [rg 6 [(0, n e4)]] <| nx h) fun h2 h =>
  go [] [] <| dn h (i1 iE)
theorem w47 {x0 : List T_api_Attr} {r : Bool} (h : m_file_attributesFit x0 = some r) : CallSpec Try.prog 47 [.sl false (x0.map row_T_api_Attr)] (R47 r) :=
  cs Try.f47 <| go [] [rg 1 [(1, ln x0)]] <| bd h fun q1 e5 h => lp e5 wl47x1 <| match q1, h with
  | .inl q0, h => j1 <| (qe <| goN [] [] <| rt h)
  | .inr y0, h => j2 <| (qr h)
/-! armature file.numbersFit -/
def R18 (y0 : Bool) : D := .bool y0
def l18x2 (v13 : List T_api_Member) (t2 : Int) : Option (Ctl (Int) (Unit ⊕ Bool)) :=
  if (decide (t2 < (v13.length : Int))) = true then
    ((getR v13 t2).bind fun v17 =>
    (m_file_fits16 [v17.f_Flags, v17.f_Name, v17.f_Desc]).bind fun v18 =>
    if (!v18) = true then (some (.done (.inr false))) else
    ((m_file_attributesFit v17.f_Attributes).bind fun v19 =>
    if (!v19) = true then
      (some (.done (.inr false))) else
    ((some (IntKind.wrap .i64 (t2 + (1 : Int)))).bind fun v20 =>
      some (.next v20)))) else
  (some (.done (.inl (()))))
def l18x1 (x0 : T_api_File) (t0 : Int) : Option (Ctl (Int) (Unit ⊕ Bool)) :=
  if (decide (t0 < ([x0.f_Fields, x0.f_Methods].length : Int))) = true then
    ((idxK t0 [x0.f_Fields, x0.f_Methods].length).bind fun v12 =>
    ([x0.f_Fields, x0.f_Methods][v12]?).bind fun v13 =>
    (loopM (l18x2 v13) rounds 0).bind fun q3 =>
    match q3 with
    | .inl q2 => ((some (IntKind.wrap .i64 (t0 + (1 : Int)))).bind fun v21 =>
      some (.next v21))
    | .inr y1 => (some (.done (.inr y1)))) else
  (some (.done (.inl (()))))
def j18x1 (x0 : T_api_File) : Option (Bool) :=
  (loopM (l18x1 x0) rounds 0).bind fun q5 =>
  match q5 with
  | .inl q4 => (some true)
  | .inr y2 => (some y2)
def m_file_numbersFit (x0 : T_api_File) : Option (Bool) :=
  (m_file_fits16 [x0.f_Flags, x0.f_This, x0.f_Super]).bind fun v0 =>
  if (!v0) = true then (some false) else
  ((m_file_fits16 x0.f_Interfaces).bind fun v1 =>
    if (!v1) = true then (some false) else
    ((m_file_attributesFit x0.f_Attributes).bind fun v2 =>
      if (!v2) = true then
        (some false) else
      ((j18x1 x0) )))
def st18x2 (t0 : Int) (v13 : List T_api_Member) (x0 : T_api_File) : Int → SL :=
  fun t2 => ⟨61, [(32, .lsl 32 0 (([x0.f_Fields, x0.f_Methods].map (rSl row_T_api_Member)).length)), (33, dI ([x0.f_Fields, x0.f_Methods].length : Int)), (34, dI t0), (38, .sl false (v13.map row_T_api_Member)), (39, dI (v13.length : Int)), (40, dI t2)], [(32, { sz := 1, rows := ([x0.f_Fields, x0.f_Methods].map (rSl row_T_api_Member)), frz := 0, pure := true })]⟩
def J18x2 (t0 : Int) (x0 : T_api_File) : JT (Unit ⊕ Bool) :=
  ju (je 2 fun q2 : Unit => ⟨61, [(32, .lsl 32 0 (([x0.f_Fields, x0.f_Methods].map (rSl row_T_api_Member)).length)), (33, dI ([x0.f_Fields, x0.f_Methods].length : Int)), (34, dI t0)], [(32, { sz := 1, rows := ([x0.f_Fields, x0.f_Methods].map (rSl row_T_api_Member)), frz := 0, pure := true })]⟩) (jr Try.prog Try.f18 R18)
theorem wl18x2 (t0 : Int) (x0 : T_api_File) {v13 : List T_api_Member} {t2 : Int} {r : Ctl (Int) (Unit ⊕ Bool)} {Γ : Ctx} (h : (l18x2 v13) t2 = some r) : A Try.prog Γ (lpC Try.f18 11467) [] (Rd (st18x2 t0 v13 x0) (J18x2 t0 x0) r) ((st18x2 t0 v13 x0) t2).s :=
  go [] [] <| br h (fun h14 h => bd h fun v17 e18 h => bd h fun v18 e19 h => sp h (fun h15 h => go [] [rg 8 [(0, ix e18)], rg 9 [(6, bl 3 0), (7, kB (a2 (rpI [v17.f_Flags, v17.f_Name, v17.f_Desc]) trivial) [rw_ [v17.f_Flags, v17.f_Name, v17.f_Desc]] (by simp only [rwE] <;> kernel_rfl) (w46 e19)), (10, gs0 h15), (11, gs0 h15), (12, gs0 h15), (13, gs0 h15), (14, py h15)]] <| bT rfl <| go [] [] <| dn h (i2 iR)) fun h15 h =>
    bd h fun v19 e20 h => go [] [rg 8 [(0, ix e18)], rg 9 [(6, bl 3 0), (7, kB (a2 (rpI [v17.f_Flags, v17.f_Name, v17.f_Desc]) trivial) [rw_ [v17.f_Flags, v17.f_Name, v17.f_Desc]] (by simp only [rwE] <;> kernel_rfl) (w46 e19)), (10, gw h15 g0), (11, gw h15 g0), (12, gw h15 (k (w47 e20))), (13, gw h15 g0), (14, pn h15)]] <| br h (fun h16 h => go [] [] <| dn h (i2 iR)) fun h16 h =>
    bd h fun v20 e21 h => go [] [rg 11 [(0, n e21)]] <| nx h) fun h14 h =>
  go [] [] <| dn h (i1 iE)
def st18x1 (x0 : T_api_File) : Int → SL :=
  fun t0 => ⟨61, [(32, .lsl 32 0 (([x0.f_Fields, x0.f_Methods].map (rSl row_T_api_Member)).length)), (33, dI ([x0.f_Fields, x0.f_Methods].length : Int)), (34, dI t0)], [(32, { sz := 1, rows := ([x0.f_Fields, x0.f_Methods].map (rSl row_T_api_Member)), frz := 0, pure := true })]⟩
def J18x1  : JT (Unit ⊕ Bool) :=
  ju (je 0 fun q4 : Unit => ⟨61, [], []⟩) (jr Try.prog Try.f18 R18)
theorem wl18x1 {x0 : T_api_File} {t0 : Int} {r : Ctl (Int) (Unit ⊕ Bool)} {Γ : Ctx} (h : (l18x1 x0) t0 = some r) : A Try.prog Γ (lpC Try.f18 43) [] (Rd (st18x1 x0) J18x1 r) ((st18x1 x0) t0).s :=
  go [] [] <| br h (fun h10 h => bd h fun v12 e13 h => bd h fun v13 e14 h => go [] [rg 5 [(0, ia 32 e13), (1, lb e14)], rg 6 [(1, ln v13)]] <| bd h fun q3 e22 h => lp e22 (wl18x2 t0 x0) <| match q3, h with
    | .inl q2, h => j1 <| (qe <| bd h fun v21 e23 h => goN [] [rg 12 [(0, n e23)]] <| nx h)
    | .inr y1, h => j2 <| (ql h fun _ _ p => ⟨(iS p).1, i2 ((iS p).2)⟩)) fun h10 h =>
  go [] [] <| dn h (i1 iE)
theorem wj18x1 {x0 : T_api_File} {r : Bool} {Γ : Ctx} (h : (j18x1 x0)  = some r) : Jn Try.prog Try.f18 Γ (Den.Ends Try.prog Try.f18 (R18 r)) 19 ⟨61, [(1, .ptr (row_T_api_File x0))], []⟩ :=
  so <| go [] [rg 3 [(4, bl 2 0), (5, ln ([x0.f_Fields, x0.f_Methods] : List (List T_api_Member)))]] <| bd h fun q5 e24 h => lp e24 wl18x1 <| match q5, h with
  | .inl q4, h => j1 <| (qe <| goN [] [] <| rt h)
  | .inr y2, h => j2 <| (qr h)
theorem w18 {x0 : T_api_File} {r : Bool} (h : m_file_numbersFit x0 = some r) : CallSpec Try.prog 18 [.agg (row_T_api_File x0)] (R18 r) :=
  cs Try.f18 <| go [1] [rg 0 [(0, bo)]] <| po <| bd h fun v0 e0 h => pr 10 [(6, bl 3 0), (7, kB (a2 (rpI [x0.f_Flags, x0.f_This, x0.f_Super]) trivial) [rw_ [x0.f_Flags, x0.f_This, x0.f_Super]] (by simp only [rwE] <;> kernel_rfl) (w46 e0))] <| sp h (fun h0 h => pr 11 [(10, gs0 h0), (11, gs0 h0), (12, gs0 h0), (13, gs0 h0), (14, py h0)] <| pe <| goN [] [] <| bT rfl <| go [] [] <| rt h) fun h0 h =>
  bd h fun v1 e1 h => pr 6 [(10, gw h0 g0), (11, gw h0 g0), (12, gw h0 (k (w46 e1))), (13, gw h0 g0), (14, pn h0)] <| sp h (fun h1 h => pr 5 [(16, gs0 h1), (17, gs0 h1), (18, gs0 h1), (19, gs0 h1), (20, py h1)] <| pe <| goN [] [] <| bT rfl <| go [] [] <| rt h) fun h1 h =>
    bd h fun v2 e2 h => pr 5 [(16, gw h1 g0), (17, gw h1 g0), (18, gw h1 (k (w47 e2))), (19, gw h1 g0), (20, pn h1)] <| pe <| goN [] [] <| br h (fun h2 h => go [] [] <| rt h) fun h2 h =>
      go [3] [] <| jn (wj18x1 h)
/-!   armature file.writer .number -/
def B19 (y0 : T_file_writer) : List Blk := [{ sz := 1, rows := [[.lsl 1 0 ((y0.f_b.map rU8).length)]], frz := 0, pure := false, pin := some 0 }, { sz := 1, rows := (y0.f_b.map rU8), frz := 0, pure := true }]
def R19 (y0 : T_file_writer) : D := .tup []
def m_armature_file_writer_number (x0 : T_file_writer) (x1 x2 : Int) : Option (T_file_writer) :=
  (m_octet_Put x1 x2).bind fun v0 =>
  (growK 1 (x0.f_b ++ (bytesI v0.1)).length).bind fun v1 =>
  some ({ f_b := (x0.f_b ++ (bytesI v0.1)) } : T_file_writer)
theorem w19 {x0 : T_file_writer} {x1 x2 : Int} {r : T_file_writer} (h : m_armature_file_writer_number x0 x1 x2 = some r) : CallSpecO Try.prog 19 [.lptr 0 0 0, dI x1, dI x2] [{ sz := 1, rows := [[.lsl 1 0 ((x0.f_b.map rU8).length)]], frz := 0, pure := false, pin := some 0 }, { sz := 1, rows := (x0.f_b.map rU8), frz := 0, pure := true }] (R19 r) (B19 r) :=
  csO Try.f19 (m := 2) (keep := [true, false]) <| bd h fun v0 e0 h => bd h fun v1 e1 h => go [] [rg 0 [(2, k (w48 e0))], rg 1 [(6, apS e1)]] <| rtO h (.tup []) [{ sz := 1, rows := [[.lsl 1 0 (((x0.f_b ++ (bytesI v0.1)).map rU8).length)]], frz := 0, pure := false, pin := some 0 }, { sz := 1, rows := ((x0.f_b ++ (bytesI v0.1)).map rU8), frz := 0, pure := true }] trivial rfl
/-!   armature file.writer .attributes -/
def B21 (y0 : T_file_writer) : List Blk := [{ sz := 1, rows := [[.lsl 1 0 ((y0.f_b.map rU8).length)]], frz := 0, pure := false, pin := some 0 }, { sz := 1, rows := (y0.f_b.map rU8), frz := 0, pure := true }]
def R21 (y0 : T_file_writer) : D := .tup []
def l21x1 (x1 : List T_api_Attr) (t0 : Int × (List Int)) : Option (Ctl (Int × (List Int)) (((List Int)))) :=
  if (decide (t0.1 < (x1.length : Int))) = true then
    ((getR x1 t0.1).bind fun v5 =>
    (m_armature_file_writer_number ({ f_b := t0.2 } : T_file_writer) v5.f_NameIndex 2).bind fun v6 =>
    (m_armature_file_writer_number ({ f_b := v6.f_b } : T_file_writer) (v5.f_Bytes.length : Int) 4).bind fun v7 =>
    (growK 1 (v7.f_b ++ (bytesI v5.f_Bytes)).length).bind fun v8 =>
    (some (IntKind.wrap .i64 (t0.1 + (1 : Int)))).bind fun v9 =>
    some (.next (v9, (v7.f_b ++ (bytesI v5.f_Bytes))))) else
  (some (.done (t0.2)))
def m_armature_file_writer_attributes (x0 : T_file_writer) (x1 : List T_api_Attr) : Option (T_file_writer) :=
  (m_armature_file_writer_number ({ f_b := x0.f_b } : T_file_writer) (x1.length : Int) 2).bind fun v0 =>
  (loopM (l21x1 x1) rounds (0, v0.f_b)).bind fun q0 =>
  some ({ f_b := q0 } : T_file_writer)
def st21x1 (x1 : List T_api_Attr) : (Int × (List Int)) → SL :=
  fun t0 => ⟨36, [(0, .lptr 0 0 0), (10, .sl false (x1.map row_T_api_Attr)), (11, dI (x1.length : Int)), (12, dI t0.1)], [(0, { sz := 1, rows := [[.lsl 1 0 ((t0.2.map rU8).length)]], frz := 0, pure := false, pin := some 0 }), (1, { sz := 1, rows := (t0.2.map rU8), frz := 0, pure := true })]⟩
def J21x1  : JT (((List Int))) :=
  je 0 fun q0 : (List Int) => ⟨36, [], [(0, { sz := 1, rows := [[.lsl 1 0 ((q0.map rU8).length)]], frz := 0, pure := false, pin := some 0 }), (1, { sz := 1, rows := (q0.map rU8), frz := 0, pure := true })]⟩
theorem wl21x1 {x1 : List T_api_Attr} {t0 : Int × (List Int)} {r : Ctl (Int × (List Int)) (((List Int)))} {Γ : Ctx} (h : (l21x1 x1) t0 = some r) : A Try.prog Γ (lpC Try.f21 11) [] (Rd (st21x1 x1) J21x1 r) ((st21x1 x1) t0).s :=
  go [] [] <| br h (fun h1 h => bd h fun v5 e5 h => bd h fun v6 e6 h => bd h fun v7 e7 h => bd h fun v8 e8 h => bd h fun v9 e9 h => go [] [rg 3 [(0, ix e5)], rg 4 [(3, ko [0, 1] (w19 e6))], rg 5 [(4, ko [0, 1] (w19 e7))], rgo 6 [(7, apS e8)] [0, 1, 2, 3, 4, 5, 6, 7, 8, 9, 10] [7, 10, 5000, 6007, 20001] [(2, [1]), (3, [1, 2]), (4, [1, 2, 3]), (6, [5]), (7, [1, 2, 3, 4, 5, 6]), (8, [0, 1, 2, 3, 4, 5, 6, 7]), (9, [0, 1, 2, 3, 4, 5, 6, 7, 8]), (10, [0, 1, 2, 3, 4, 5, 6, 7, 8, 9])], rg 7 [(0, n e9)]] <| nx h) fun h1 h =>
  go [] [] <| dn h (iE)
theorem w21 {x0 : T_file_writer} {x1 : List T_api_Attr} {r : T_file_writer} (h : m_armature_file_writer_attributes x0 x1 = some r) : CallSpecO Try.prog 21 [.lptr 0 0 0, .sl false (x1.map row_T_api_Attr)] [{ sz := 1, rows := [[.lsl 1 0 ((x0.f_b.map rU8).length)]], frz := 0, pure := false, pin := some 0 }, { sz := 1, rows := (x0.f_b.map rU8), frz := 0, pure := true }] (R21 r) (B21 r) :=
  csO Try.f21 (m := 2) (keep := [true, false]) <| bd h fun v0 e0 h => go [] [rg 0 [(2, ln x1), (3, ko [0, 1] (w19 e0))], rg 1 [(1, ln x1)]] <| bd h fun q0 e10 h => lp e10 wl21x1 <| qe <| goN [] [] <| rtO h (.tup []) [{ sz := 1, rows := [[.lsl 1 0 ((q0.map rU8).length)]], frz := 0, pure := false, pin := some 0 }, { sz := 1, rows := (q0.map rU8), frz := 0, pure := true }] trivial rfl
/-!   armature file.writer .members -/
def B20 (y0 : T_file_writer) : List Blk := [{ sz := 1, rows := [[.lsl 1 0 ((y0.f_b.map rU8).length)]], frz := 0, pure := false, pin := some 0 }, { sz := 1, rows := (y0.f_b.map rU8), frz := 0, pure := true }]
def R20 (y0 : T_file_writer) : D := .tup []
def l20x1 (x1 : List T_api_Member) (t0 : Int × (List Int)) : Option (Ctl (Int × (List Int)) (((List Int)))) :=
  if (decide (t0.1 < (x1.length : Int))) = true then
    ((getR x1 t0.1).bind fun v6 =>
    (m_armature_file_writer_number ({ f_b := t0.2 } : T_file_writer) v6.f_Flags 2).bind fun v7 =>
    (m_armature_file_writer_number ({ f_b := v7.f_b } : T_file_writer) v6.f_Name 2).bind fun v8 =>
    (m_armature_file_writer_number ({ f_b := v8.f_b } : T_file_writer) v6.f_Desc 2).bind fun v9 =>
    (m_armature_file_writer_attributes ({ f_b := v9.f_b } : T_file_writer) v6.f_Attributes).bind fun v10 =>
    (some (IntKind.wrap .i64 (t0.1 + (1 : Int)))).bind fun v11 =>
    some (.next (v11, v10.f_b))) else
  (some (.done (t0.2)))
def m_armature_file_writer_members (x0 : T_file_writer) (x1 : List T_api_Member) : Option (T_file_writer) :=
  (m_armature_file_writer_number ({ f_b := x0.f_b } : T_file_writer) (x1.length : Int) 2).bind fun v0 =>
  (loopM (l20x1 x1) rounds (0, v0.f_b)).bind fun q0 =>
  some ({ f_b := q0 } : T_file_writer)
def st20x1 (x1 : List T_api_Member) : (Int × (List Int)) → SL :=
  fun t0 => ⟨33, [(0, .lptr 0 0 0), (10, .sl false (x1.map row_T_api_Member)), (11, dI (x1.length : Int)), (12, dI t0.1)], [(0, { sz := 1, rows := [[.lsl 1 0 ((t0.2.map rU8).length)]], frz := 0, pure := false, pin := some 0 }), (1, { sz := 1, rows := (t0.2.map rU8), frz := 0, pure := true })]⟩
def J20x1  : JT (((List Int))) :=
  je 0 fun q0 : (List Int) => ⟨33, [], [(0, { sz := 1, rows := [[.lsl 1 0 ((q0.map rU8).length)]], frz := 0, pure := false, pin := some 0 }), (1, { sz := 1, rows := (q0.map rU8), frz := 0, pure := true })]⟩
theorem wl20x1 {x1 : List T_api_Member} {t0 : Int × (List Int)} {r : Ctl (Int × (List Int)) (((List Int)))} {Γ : Ctx} (h : (l20x1 x1) t0 = some r) : A Try.prog Γ (lpC Try.f20 11) [] (Rd (st20x1 x1) J20x1 r) ((st20x1 x1) t0).s :=
  go [] [] <| br h (fun h1 h => bd h fun v6 e6 h => bd h fun v7 e7 h => bd h fun v8 e8 h => bd h fun v9 e9 h => bd h fun v10 e10 h => bd h fun v11 e11 h => go [] [rg 3 [(0, ix e6)], rg 4 [(3, ko [0, 1] (w19 e7))], rg 5 [(3, ko [0, 1] (w19 e8))], rg 6 [(3, ko [0, 1] (w19 e9))], rg 7 [(3, ko [0, 1] (w21 e10))], rg 8 [(0, n e11)]] <| nx h) fun h1 h =>
  go [] [] <| dn h (iE)
theorem w20 {x0 : T_file_writer} {x1 : List T_api_Member} {r : T_file_writer} (h : m_armature_file_writer_members x0 x1 = some r) : CallSpecO Try.prog 20 [.lptr 0 0 0, .sl false (x1.map row_T_api_Member)] [{ sz := 1, rows := [[.lsl 1 0 ((x0.f_b.map rU8).length)]], frz := 0, pure := false, pin := some 0 }, { sz := 1, rows := (x0.f_b.map rU8), frz := 0, pure := true }] (R20 r) (B20 r) :=
  csO Try.f20 (m := 2) (keep := [true, false]) <| bd h fun v0 e0 h => go [] [rg 0 [(2, ln x1), (3, ko [0, 1] (w19 e0))], rg 1 [(1, ln x1)]] <| bd h fun q0 e12 h => lp e12 wl20x1 <| qe <| goN [] [] <| rtO h (.tup []) [{ sz := 1, rows := [[.lsl 1 0 ((q0.map rU8).length)]], frz := 0, pure := false, pin := some 0 }, { sz := 1, rows := (q0.map rU8), frz := 0, pure := true }] trivial rfl
/-! armature file.Encode -/
def R10 (y0 : (List UInt8) × Int) : D := .tup [.str y0.1, .int .i64 y0.2]
def l10x1 (x0 : T_api_File) (t0 : Int × (List Int)) : Option (Ctl (Int × (List Int)) (((List Int)))) :=
  if (decide (t0.1 < (x0.f_Interfaces.length : Int))) = true then
    ((getR x0.f_Interfaces t0.1).bind fun v10 =>
    (m_armature_file_writer_number ({ f_b := t0.2 } : T_file_writer) v10 2).bind fun v11 =>
    (some (IntKind.wrap .i64 (t0.1 + (1 : Int)))).bind fun v12 =>
    some (.next (v12, v11.f_b))) else
  (some (.done (t0.2)))
def m_file_Encode (x0 : T_api_File) : Option ((List UInt8) × Int) :=
  (m_poolcode_Encode x0.f_Pool).bind fun v0 =>
  if (v0.2 != 0) = true then
    (some ([], v0.2)) else
  ((m_file_countsValid x0).bind fun v1 =>
    if (!v1) = true then
      (some ([], 5)) else
    ((m_file_numbersFit x0).bind fun v2 =>
      if (!v2) = true then
        (some ([], 8)) else
      ((growK 1 ([65, 82, 77, 65, 0, 1] ++ (bytesI v0.1)).length).bind fun v3 =>
        (m_armature_file_writer_number ({ f_b := ([65, 82, 77, 65, 0, 1] ++ (bytesI v0.1)) } : T_file_writer) x0.f_Flags 2).bind fun v4 =>
        (m_armature_file_writer_number ({ f_b := v4.f_b } : T_file_writer) x0.f_This 2).bind fun v5 =>
        (m_armature_file_writer_number ({ f_b := v5.f_b } : T_file_writer) x0.f_Super 2).bind fun v6 =>
        (m_armature_file_writer_number ({ f_b := v6.f_b } : T_file_writer) (x0.f_Interfaces.length : Int) 2).bind fun v7 =>
        (loopM (l10x1 x0) rounds (0, v7.f_b)).bind fun q0 =>
        (m_armature_file_writer_members ({ f_b := q0 } : T_file_writer) x0.f_Fields).bind fun v13 =>
        (m_armature_file_writer_members ({ f_b := v13.f_b } : T_file_writer) x0.f_Methods).bind fun v14 =>
        (m_armature_file_writer_attributes ({ f_b := v14.f_b } : T_file_writer) x0.f_Attributes).bind fun v15 =>
        if (decide ((v15.f_b.length : Int) > 1048576)) = true then
          (some ([], 8)) else
        (some ((bytesOf v15.f_b), 0)))))
def st10x1 (x0 : T_api_File) : (Int × (List Int)) → SL :=
  fun t0 => ⟨81, [(1, .ptr (row_T_api_File x0)), (6, .lptr 6 0 0), (48, .sl false (x0.f_Interfaces.map rI64)), (49, dI (x0.f_Interfaces.length : Int)), (50, dI t0.1)], [(6, { sz := 1, rows := [[.lsl 24 0 ((t0.2.map rU8).length)]], frz := 0, pure := false }), (24, { sz := 1, rows := (t0.2.map rU8), frz := 0, pure := true })]⟩
def J10x1 (x0 : T_api_File) : JT (((List Int))) :=
  je 0 fun q0 : (List Int) => ⟨81, [(1, .ptr (row_T_api_File x0)), (6, .lptr 6 0 0)], [(6, { sz := 1, rows := [[.lsl 24 0 ((q0.map rU8).length)]], frz := 0, pure := false }), (24, { sz := 1, rows := (q0.map rU8), frz := 0, pure := true })]⟩
theorem wl10x1 {x0 : T_api_File} {t0 : Int × (List Int)} {r : Ctl (Int × (List Int)) (((List Int)))} {Γ : Ctx} (h : (l10x1 x0) t0 = some r) : A Try.prog Γ (lpC Try.f10 11263) [] (Rd (st10x1 x0) (J10x1 x0) r) ((st10x1 x0) t0).s :=
  go [] [] <| br h (fun h4 h => bd h fun v10 e10 h => bd h fun v11 e11 h => bd h fun v12 e12 h => go [] [rg 15 [(0, ix e10)], rg 16 [(2, ko [6, 24] (w19 e11))], rg 17 [(0, n e12)]] <| nx h) fun h4 h =>
  go [] [] <| dn h (iE)
theorem w10 {x0 : T_api_File} {r : (List UInt8) × Int} (h : m_file_Encode x0 = some r) : CallSpec Try.prog 10 [.agg (row_T_api_File x0)] (R10 r) :=
  cs Try.f10 <| bd h fun v0 e0 h => go [] [rg 0 [(0, bo)], rg 1 [(2, k (w16 e0))]] <| br h (fun h0 h => go [] [] <| rt h) fun h0 h =>
  bd h fun v1 e1 h => go [] [rg 4 [(1, k (w17 e1))]] <| br h (fun h1 h => go [] [] <| rt h) fun h1 h =>
    bd h fun v2 e2 h => go [] [rg 6 [(1, k (w18 e2))]] <| br h (fun h2 h => go [] [] <| rt h) fun h2 h =>
      bd h fun v3 e3 h => bd h fun v4 e4 h => bd h fun v5 e5 h => bd h fun v6 e6 h => bd h fun v7 e7 h => go [] [rg 8 [(0, blt 6 0), (3, apS e3)], rg 9 [(3, ko [29, 24] (w19 e4))], rg 10 [(3, ko [29, 24] (w19 e5))], rg 11 [(3, ko [29, 24] (w19 e6))], rg 12 [(3, ln x0.f_Interfaces), (4, ko [29, 24] (w19 e7))], rg 13 [(2, ln x0.f_Interfaces)]] <| bd h fun q0 e13 h => lp (ps := [(29, 6), (24, 24)]) e13 wl10x1 <| qe <| bd h fun v13 e14 h => bd h fun v14 e15 h => bd h fun v15 e16 h => goN [] [rg 18 [(3, ko [6, 24] (w20 e14))], rg 19 [(3, ko [6, 24] (w20 e15))], rg 20 [(3, ko [6, 24] (w21 e16))], rg 21 [(4, ln (R := RU8) v15.f_b)]] <| br h (fun h5 h => go [] [] <| rt h) fun h5 h =>
        go [] [rg 23 [(4, bsB v15.f_b)]] <| rt h
/-! armature octet.window -/
def R82 (y0 : (List UInt8) × Int) : D := .tup [.str y0.1, .int .i64 y0.2]
def j82x1 (x0 : List UInt8) (x1 x2 : Int) : Option ((List UInt8) × Int) :=
  (some (IntKind.wrap .i64 ((x0.length : Int) - x1))).bind fun v0 =>
  if (decide (v0 < x2)) = true then
    (some ([], 3)) else
  ((some (IntKind.wrap .i64 (x1 + x2))).bind fun v1 =>
    (sub x0 x1 v1).bind fun v2 =>
    some (v2, 0))
def m_octet_window (x0 : List UInt8) (x1 x2 : Int) : Option ((List UInt8) × Int) :=
  if (decide (x1 < 0)) = true then (some ([], 2)) else
  (if (decide (x1 > (x0.length : Int))) = true then
    (some ([], 2)) else
  ((j82x1 x0 x1 x2) ))
theorem wj82x1 {x0 : List UInt8} {x1 x2 : Int} {r : (List UInt8) × Int} {Γ : Ctx} (h : (j82x1 x0 x1 x2)  = some r) : Jn Try.prog Try.f82 Γ (Den.Ends Try.prog Try.f82 (R82 r)) 89 ⟨30, [(0, .str x0), (1, dI x1), (2, dI x2)], []⟩ :=
  so <| bd h fun v0 e0 h => go [] [rg 3 [(3, n e0)]] <| br h (fun h2 h => go [] [] <| rt h) fun h2 h =>
  bd h fun v1 e1 h => bd h fun v2 e2 h => go [] [rg 5 [(4, n e1), (5, ss e2)]] <| rt h
theorem w82 {x0 : List UInt8} {x1 x2 : Int} {r : (List UInt8) × Int} (h : m_octet_window x0 x1 x2 = some r) : CallSpec Try.prog 82 [.str x0, dI x1, dI x2] (R82 r) :=
  cs Try.f82 <| sp h (fun h0 h => go [] [rg 1 [(1, kb h0)]] <| bT rfl <| go [] [] <| rt h) fun h0 h =>
  go [] [rg 1 [(1, kb h0)]] <| br h (fun h1 h => go [] [] <| rt h) fun h1 h =>
  go [3] [] <| jn (wj82x1 h)
end Go.Proofs
