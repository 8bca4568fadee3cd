/-
  Models of functions of the program, and that the functions compute them. Printed by den3.py. No condition.
-/
import Derived.Test.YtkooiildghlaaaaFil1
set_option linter.unusedVariables false
namespace Go.Proofs
open Go.Den Go.Den.W
/-! armature octet.bits -/
def R68 (y0 : Int × Int) : D := .tup [.int .u64 y0.1, .int .i64 y0.2]
def l68x1 (v1 : (List UInt8) × Int) (t0 : Int × Int) : Option (Ctl (Int × Int) (Int)) :=
  if (decide (t0.2 < (v1.1.length : Int))) = true then
    ((shlK .u64 t0.1 (8 : Int)).bind fun v6 =>
    (getS v1.1 t0.2).bind fun v7 =>
    (some (IntKind.wrap .u64 v7)).bind fun v8 =>
    (some (orK .u64 v6 v8)).bind fun v9 =>
    (some (IntKind.wrap .i64 (t0.2 + (1 : Int)))).bind fun v10 =>
    some (.next (v9, v10))) else
  (some (.done (t0.1)))
def m_octet_bits (x0 : List UInt8) (x1 x2 : Int) : Option (Int × Int) :=
  (m_octet_width x2).bind fun v0 =>
  if (v0 == 0) = true then
    (some (0, 1)) else
  ((m_octet_window x0 x1 x2).bind fun v1 =>
    (loopM (l68x1 v1) rounds (0, 0)).bind fun q0 =>
    some (q0, v1.2))
def st68x1 (v1 : (List UInt8) × Int) : (Int × Int) → SL :=
  fun t0 => ⟨37, [(8, .str v1.1), (9, dI v1.2), (10, .int .u64 t0.1), (23, dI (v1.1.length : Int)), (24, dI t0.2)], []⟩
def J68x1 (v1 : (List UInt8) × Int) : JT Int :=
  je 0 fun q0 : Int => ⟨37, [(9, dI v1.2), (10, .int .u64 q0)], []⟩
theorem wl68x1 {v1 : (List UInt8) × Int} {t0 : Int × Int} {r : Ctl (Int × Int) (Int)} {Γ : Ctx} (h : (l68x1 v1) t0 = some r) : A Try.prog Γ (lpC Try.f68 175) [] (Rd (st68x1 v1) (J68x1 v1) r) ((st68x1 v1) t0).s :=
  go [] [] <| br h (fun h2 h => bd h fun v6 e6 h => bd h fun v7 e7 h => bd h fun v8 e8 h => bd h fun v9 e9 h => bd h fun v10 e10 h => go [] [rg 8 [(1, sl e6), (4, ib e7), (5, n e8 .u64), (6, n e9 .u64)], rg 9 [(0, n e10)]] <| nx h) fun h2 h =>
  go [] [] <| dn h (iE)
theorem w68 {x0 : List UInt8} {x1 x2 : Int} {r : Int × Int} (h : m_octet_bits x0 x1 x2 = some r) : CallSpec Try.prog 68 [.str x0, dI x1, dI x2] (R68 r) :=
  cs Try.f68 <| bd h fun v0 e0 h => go [] [rg 1 [(1, k (w62 e0))]] <| br h (fun h0 h => go [] [] <| rt h) fun h0 h =>
  bd h fun v1 e1 h => go [] [rg 3 [(3, k (w82 e1))]] <| bd h fun q0 e11 h => lp e11 wl68x1 <| qe <| goN [] [] <| rt h
/-! armature octet.Unsigned -/
def R55 (y0 : Int × Int) : D := .tup [.int .i64 y0.1, .int .i64 y0.2]
def m_octet_Unsigned (x0 : List UInt8) (x1 x2 : Int) : Option (Int × Int) :=
  (m_octet_bits x0 x1 x2).bind fun v0 =>
  (some (IntKind.wrap .i64 v0.1)).bind fun v1 =>
  some (v1, v0.2)
theorem w55 {x0 : List UInt8} {x1 x2 : Int} {r : Int × Int} (h : m_octet_Unsigned x0 x1 x2 = some r) : CallSpec Try.prog 55 [.str x0, dI x1, dI x2] (R55 r) :=
  cs Try.f55 <| bd h fun v0 e0 h => bd h fun v1 e1 h => go [] [rg 1 [(3, k (w68 e0))], rg 2 [(1, n e1)]] <| rt h
/-!   armature poolcode.reader .unsigned -/
def B53 (y0 : T_poolcode_reader × Int) : List Blk := [{ sz := 3, rows := [row_T_poolcode_reader y0.1], frz := 0, pure := false, pin := some 0 }]
def R53 (y0 : T_poolcode_reader × Int) : D := .int .i64 y0.2
def m_armature_poolcode_reader_unsigned (x0 : T_poolcode_reader) (x1 : Int) : Option (T_poolcode_reader × Int) :=
  if (x0.f_err != 0) = true then
    (some (x0, 0)) else
  ((m_octet_Unsigned x0.f_s x0.f_at x1).bind fun v0 =>
    if (v0.2 != 0) = true then
      (some (({ f_s := x0.f_s, f_at := x0.f_at, f_err := 3 } : T_poolcode_reader), 0)) else
    ((some (IntKind.wrap .i64 (x0.f_at + x1))).bind fun v1 =>
      some (({ f_s := x0.f_s, f_at := v1, f_err := x0.f_err } : T_poolcode_reader), v0.1)))
theorem w53 {x0 : T_poolcode_reader} {x1 : Int} {r : T_poolcode_reader × Int} (h : m_armature_poolcode_reader_unsigned x0 x1 = some r) : CallSpecO Try.prog 53 [.lptr 0 0 0, dI x1] [{ sz := 3, rows := [row_T_poolcode_reader x0], frz := 0, pure := false, pin := some 0 }] (R53 r) (B53 r) :=
  csO Try.f53 (m := 1) (keep := [true]) <| go [] [] <| br h (fun h0 h => go [] [] <| rtO h (dI 0) [{ sz := 3, rows := [row_T_poolcode_reader x0], frz := 0, pure := false, pin := some 0 }] (a2 trivial trivial) rfl) fun h0 h =>
  bd h fun v0 e0 h => go [] [rgo 3 [(9, k (w55 e0))] [0, 1, 2, 3, 4, 5, 6, 7, 8, 9, 10, 11, 12, 13, 14] [] [(1, [0]), (2, [0, 1]), (3, [0, 1, 2]), (5, [4]), (6, [4, 5]), (7, [4, 5, 6]), (9, [0, 1, 2, 3, 4, 5, 6, 7, 8]), (10, [0, 1, 2, 3, 4, 5, 6, 7, 8, 9]), (11, [0, 1, 2, 3, 4, 5, 6, 7, 8, 9, 10]), (12, [0, 1, 2, 3, 4, 5, 6, 7, 8, 9, 10]), (13, [0, 1, 2, 3, 4, 5, 6, 7, 8, 9, 10, 11]), (14, [0, 1, 2, 3, 4, 5, 6, 7, 8, 9, 10, 11, 12, 13])]] <| br h (fun h1 h => go [] [] <| rtO h (dI 0) [{ sz := 3, rows := [[.str x0.f_s, dI x0.f_at, dI 3]], frz := 0, pure := false, pin := some 0 }] (a2 trivial trivial) rfl) fun h1 h =>
    bd h fun v1 e1 h => go [] [rg 7 [(5, n e1)]] <| rtO h (dI v0.1) [{ sz := 3, rows := [[.str x0.f_s, dI v1, dI x0.f_err]], frz := 0, pure := false, pin := some 0 }] (a2 trivial trivial) rfl
/-! armature octet.GetString -/
def R80 (y0 : (List UInt8) × Int × Int) : D := .tup [.str y0.1, .int .i64 y0.2.1, .int .i64 y0.2.2]
def m_octet_GetString (x0 : List UInt8) (x1 : Int) : Option ((List UInt8) × Int × Int) :=
  (m_octet_Unsigned x0 x1 2).bind fun v0 =>
  if (v0.2 != 0) = true then
    (some ([], 0, v0.2)) else
  ((some (IntKind.wrap .i64 (x1 + (2 : Int)))).bind fun v1 =>
    (m_octet_window x0 v1 v0.1).bind fun v2 =>
    if (v2.2 != 0) = true then
      (some ([], 0, v2.2)) else
    ((some (IntKind.wrap .i64 (x1 + (2 : Int)))).bind fun v3 =>
      (some (IntKind.wrap .i64 (v3 + v0.1))).bind fun v4 =>
      some (v2.1, v4, 0)))
theorem w80 {x0 : List UInt8} {x1 : Int} {r : (List UInt8) × Int × Int} (h : m_octet_GetString x0 x1 = some r) : CallSpec Try.prog 80 [.str x0, dI x1] (R80 r) :=
  cs Try.f80 <| bd h fun v0 e0 h => go [] [rg 1 [(2, k (w55 e0))]] <| br h (fun h0 h => go [] [] <| rt h) fun h0 h =>
  bd h fun v1 e1 h => bd h fun v2 e2 h => go [] [rg 4 [(2, n e1), (4, k (w82 e2))]] <| br h (fun h1 h => go [] [] <| rt h) fun h1 h =>
    bd h fun v3 e3 h => bd h fun v4 e4 h => go [] [rg 7 [(2, n e3), (4, n e4)]] <| rt h
/-!   armature poolcode.reader .text -/
def B66 (y0 : T_poolcode_reader × (List UInt8)) : List Blk := [{ sz := 3, rows := [row_T_poolcode_reader y0.1], frz := 0, pure := false, pin := some 0 }]
def R66 (y0 : T_poolcode_reader × (List UInt8)) : D := .str y0.2
def m_armature_poolcode_reader_text (x0 : T_poolcode_reader) : Option (T_poolcode_reader × (List UInt8)) :=
  if (x0.f_err != 0) = true then
    (some (x0, [])) else
  ((m_octet_GetString x0.f_s x0.f_at).bind fun v0 =>
    if (v0.2.2 != 0) = true then
      (some (({ f_s := x0.f_s, f_at := x0.f_at, f_err := 3 } : T_poolcode_reader), [])) else
    (some (({ f_s := x0.f_s, f_at := v0.2.1, f_err := x0.f_err } : T_poolcode_reader), v0.1)))
theorem w66 {x0 : T_poolcode_reader} {r : T_poolcode_reader × (List UInt8)} (h : m_armature_poolcode_reader_text x0 = some r) : CallSpecO Try.prog 66 [.lptr 0 0 0] [{ sz := 3, rows := [row_T_poolcode_reader x0], frz := 0, pure := false, pin := some 0 }] (R66 r) (B66 r) :=
  csO Try.f66 (m := 1) (keep := [true]) <| go [] [] <| br h (fun h0 h => go [] [] <| rtO h (.str []) [{ sz := 3, rows := [row_T_poolcode_reader x0], frz := 0, pure := false, pin := some 0 }] (a2 trivial trivial) rfl) fun h0 h =>
  bd h fun v0 e0 h => go [] [rgo 3 [(8, k (w80 e0))] [0, 1, 2, 3, 4, 5, 6, 7, 8, 9, 10, 11, 12, 13, 14, 15] [] [(1, [0]), (2, [0, 1]), (3, [0, 1, 2]), (5, [4]), (6, [4, 5]), (7, [4, 5, 6]), (8, [0, 1, 2, 3, 4, 5, 6, 7]), (9, [0, 1, 2, 3, 4, 5, 6, 7, 8]), (10, [0, 1, 2, 3, 4, 5, 6, 7, 8, 9]), (11, [0, 1, 2, 3, 4, 5, 6, 7, 8, 9]), (12, [0, 1, 2, 3, 4, 5, 6, 7, 8, 9]), (13, [0, 1, 2, 3, 4, 5, 6, 7, 8, 9, 10]), (14, [0, 1, 2, 3, 4, 5, 6, 7, 8, 9, 10, 11, 13]), (15, [0, 1, 2, 3, 4, 5, 6, 7, 8, 9, 10, 11, 12, 13, 14])]] <| br h (fun h1 h => go [] [] <| rtO h (.str []) [{ sz := 3, rows := [[.str x0.f_s, dI x0.f_at, dI 3]], frz := 0, pure := false, pin := some 0 }] (a2 trivial trivial) rfl) fun h1 h =>
    go [] [] <| rtO h (.str v0.1) [{ sz := 3, rows := [[.str x0.f_s, dI v0.2.1, dI x0.f_err]], frz := 0, pure := false, pin := some 0 }] (a2 trivial trivial) rfl
/-! armature octet.Signed -/
def R81 (y0 : Int × Int) : D := .tup [.int .i64 y0.1, .int .i64 y0.2]
def m_octet_Signed (x0 : List UInt8) (x1 x2 : Int) : Option (Int × Int) :=
  (m_octet_bits x0 x1 x2).bind fun v0 =>
  if (v0.2 != 0) = true then
    (some (0, v0.2)) else
  ((m_octet_width x2).bind fun v1 =>
    (some (IntKind.wrap .i64 ((64 : Int) - v1))).bind fun v2 =>
    (some (IntKind.wrap .u64 v2)).bind fun v3 =>
    (shlK .u64 v0.1 v3).bind fun v4 =>
    (some (IntKind.wrap .i64 v4)).bind fun v5 =>
    (shrK .i64 v5 v3).bind fun v6 =>
    some (v6, 0))
theorem w81 {x0 : List UInt8} {x1 x2 : Int} {r : Int × Int} (h : m_octet_Signed x0 x1 x2 = some r) : CallSpec Try.prog 81 [.str x0, dI x1, dI x2] (R81 r) :=
  cs Try.f81 <| bd h fun v0 e0 h => go [] [rg 1 [(3, k (w68 e0))]] <| br h (fun h0 h => go [] [] <| rt h) fun h0 h =>
  bd h fun v1 e1 h => bd h fun v2 e2 h => bd h fun v3 e3 h => bd h fun v4 e4 h => bd h fun v5 e5 h => bd h fun v6 e6 h => go [] [rg 4 [(1, k (w62 e1)), (2, n e2), (3, n e3 .u64)], rg 5 [(2, sl e4), (3, n e5), (5, sr e6)]] <| rt h
/-!   armature poolcode.reader .signed -/
def B67 (y0 : T_poolcode_reader × Int) : List Blk := [{ sz := 3, rows := [row_T_poolcode_reader y0.1], frz := 0, pure := false, pin := some 0 }]
def R67 (y0 : T_poolcode_reader × Int) : D := .int .i64 y0.2
def m_armature_poolcode_reader_signed (x0 : T_poolcode_reader) (x1 : Int) : Option (T_poolcode_reader × Int) :=
  (m_armature_poolcode_reader_unsigned x0 x1).bind fun v0 =>
  (m_octet_Signed v0.1.f_s x0.f_at x1).bind fun v1 =>
  if (v0.1.f_err != 0) = true then
    (some (v0.1, 0)) else
  (some (v0.1, v1.1))
theorem w67 {x0 : T_poolcode_reader} {x1 : Int} {r : T_poolcode_reader × Int} (h : m_armature_poolcode_reader_signed x0 x1 = some r) : CallSpecO Try.prog 67 [.lptr 0 0 0, dI x1] [{ sz := 3, rows := [row_T_poolcode_reader x0], frz := 0, pure := false, pin := some 0 }] (R67 r) (B67 r) :=
  csO Try.f67 (m := 1) (keep := [true]) <| bd h fun v0 e0 h => bd h fun v1 e1 h => go [] [rg 2 [(2, ko [0] (w53 e0))], rg 3 [(6, k (w81 e1))]] <| br h (fun h0 h => go [] [] <| rtO h (dI 0) [{ sz := 3, rows := [row_T_poolcode_reader v0.1], frz := 0, pure := false, pin := some 0 }] (a2 trivial trivial) rfl) fun h0 h =>
  go [] [] <| rtO h (dI v1.1) [{ sz := 3, rows := [row_T_poolcode_reader v0.1], frz := 0, pure := false, pin := some 0 }] (a2 trivial trivial) rfl
/-!   armature poolcode.reader .constant -/
def B54 (y0 : T_poolcode_reader × T_api_Const) : List Blk := [{ sz := 3, rows := [row_T_poolcode_reader y0.1], frz := 0, pure := false, pin := some 0 }]
def R54 (y0 : T_poolcode_reader × T_api_Const) : D := .agg (row_T_api_Const y0.2)
def j54x6 (v0 : T_poolcode_reader × Int) : Option (T_poolcode_reader × T_api_Const) :=
  (m_armature_poolcode_reader_unsigned v0.1 2).bind fun v6 =>
  some (v6.1, ({ f_Tag := v0.2, f_S := [], f_N := 0, f_A := v6.2, f_B := 0 } : T_api_Const))
def j54x5 (v0 : T_poolcode_reader × Int) : Option (T_poolcode_reader × T_api_Const) :=
  (m_armature_poolcode_reader_unsigned v0.1 2).bind fun v4 =>
  (m_armature_poolcode_reader_unsigned v4.1 2).bind fun v5 =>
  some (v5.1, ({ f_Tag := v0.2, f_S := [], f_N := 0, f_A := v4.2, f_B := v5.2 } : T_api_Const))
def j54x4 (v0 : T_poolcode_reader × Int) : Option (T_poolcode_reader × T_api_Const) :=
  some (({ f_s := v0.1.f_s, f_at := v0.1.f_at, f_err := 11 } : T_poolcode_reader), ({ f_Tag := v0.2, f_S := [], f_N := 0, f_A := 0, f_B := 0 } : T_api_Const))
def j54x3 (v0 : T_poolcode_reader × Int) : Option (T_poolcode_reader × T_api_Const) :=
  if (v0.2 == 12) = true then
    ((j54x5 v0) ) else
  ((j54x4 v0) )
def j54x2 (v0 : T_poolcode_reader × Int) : Option (T_poolcode_reader × T_api_Const) :=
  if (v0.2 == 9) = true then
    ((j54x5 v0) ) else
  (if (v0.2 == 10) = true then
      ((j54x5 v0) ) else
    (if (v0.2 == 11) = true then
        ((j54x5 v0) ) else
      ((j54x3 v0) )))
def j54x1 (v0 : T_poolcode_reader × Int) : Option (T_poolcode_reader × T_api_Const) :=
  if (v0.2 == 8) = true then
    ((j54x6 v0) ) else
  ((j54x2 v0) )
def m_armature_poolcode_reader_constant (x0 : T_poolcode_reader) : Option (T_poolcode_reader × T_api_Const) :=
  (m_armature_poolcode_reader_unsigned x0 1).bind fun v0 =>
  if (v0.1.f_err != 0) = true then
    (some (v0.1, ({ f_Tag := v0.2, f_S := [], f_N := 0, f_A := 0, f_B := 0 } : T_api_Const))) else
  (if (v0.2 == 1) = true then
      ((m_armature_poolcode_reader_text v0.1).bind fun v1 =>
      some (v1.1, ({ f_Tag := v0.2, f_S := v1.2, f_N := 0, f_A := 0, f_B := 0 } : T_api_Const))) else
    (if (v0.2 == 3) = true then
        ((m_armature_poolcode_reader_signed v0.1 4).bind fun v2 =>
        some (v2.1, ({ f_Tag := v0.2, f_S := [], f_N := v2.2, f_A := 0, f_B := 0 } : T_api_Const))) else
      (if (v0.2 == 5) = true then
          ((m_armature_poolcode_reader_signed v0.1 8).bind fun v3 =>
          some (v3.1, ({ f_Tag := v0.2, f_S := [], f_N := v3.2, f_A := 0, f_B := 0 } : T_api_Const))) else
        (if (v0.2 == 7) = true then
            ((j54x6 v0) ) else
          ((j54x1 v0) )))))
theorem wj54x6 {v0 : T_poolcode_reader × Int} {r : T_poolcode_reader × T_api_Const} {Γ : Ctx} (h : (j54x6 v0)  = some r) : Jn Try.prog Try.f54 Γ (EndsO Try.prog Try.f54 1 [true] (R54 r) (B54 r)) 24535 ⟨51, [(0, .lptr 0 0 0), (2, .lptr 2 0 0), (3, .lptr 3 0 0)], [(0, { sz := 3, rows := [row_T_poolcode_reader v0.1], frz := 0, pure := false, pin := some 0 }), (2, { sz := 5, rows := [[dI 0, .str [], dI 0, dI 0, dI 0]], frz := 0, pure := false }), (3, { sz := 5, rows := [[dI v0.2, .str [], dI 0, dI 0, dI 0]], frz := 0, pure := false })]⟩ :=
  so <| bd h fun v6 e6 h => go [] [rg 14 [(1, ko [0] (w53 e6))]] <| rtO h (.agg [dI v0.2, .str [], dI 0, dI v6.2, dI 0]) [{ sz := 3, rows := [row_T_poolcode_reader v6.1], frz := 0, pure := false, pin := some 0 }] (a2 (tNi 5) trivial) rfl
theorem wj54x5 {v0 : T_poolcode_reader × Int} {r : T_poolcode_reader × T_api_Const} {Γ : Ctx} (h : (j54x5 v0)  = some r) : Jn Try.prog Try.f54 Γ (EndsO Try.prog Try.f54 1 [true] (R54 r) (B54 r)) 163799 ⟨51, [(0, .lptr 0 0 0), (2, .lptr 2 0 0), (3, .lptr 3 0 0)], [(0, { sz := 3, rows := [row_T_poolcode_reader v0.1], frz := 0, pure := false, pin := some 0 }), (2, { sz := 5, rows := [[dI 0, .str [], dI 0, dI 0, dI 0]], frz := 0, pure := false }), (3, { sz := 5, rows := [[dI v0.2, .str [], dI 0, dI 0, dI 0]], frz := 0, pure := false })]⟩ :=
  so <| bd h fun v4 e4 h => bd h fun v5 e5 h => go [] [rg 19 [(1, ko [0] (w53 e4))], rg 20 [(1, ko [0] (w53 e5))]] <| rtO h (.agg [dI v0.2, .str [], dI 0, dI v4.2, dI v5.2]) [{ sz := 3, rows := [row_T_poolcode_reader v5.1], frz := 0, pure := false, pin := some 0 }] (a2 (tNi 5) trivial) rfl
theorem wj54x4 {v0 : T_poolcode_reader × Int} {r : T_poolcode_reader × T_api_Const} {Γ : Ctx} (h : (j54x4 v0)  = some r) : Jn Try.prog Try.f54 Γ (EndsO Try.prog Try.f54 1 [true] (R54 r) (B54 r)) 131031 ⟨51, [(0, .lptr 0 0 0), (2, .lptr 2 0 0), (3, .lptr 3 0 0)], [(0, { sz := 3, rows := [row_T_poolcode_reader v0.1], frz := 0, pure := false, pin := some 0 }), (2, { sz := 5, rows := [[dI 0, .str [], dI 0, dI 0, dI 0]], frz := 0, pure := false }), (3, { sz := 5, rows := [[dI v0.2, .str [], dI 0, dI 0, dI 0]], frz := 0, pure := false })]⟩ :=
  so <| go [] [] <| rtO h (.agg [dI v0.2, .str [], dI 0, dI 0, dI 0]) [{ sz := 3, rows := [[.str v0.1.f_s, dI v0.1.f_at, dI 11]], frz := 0, pure := false, pin := some 0 }] (a2 (tNi 5) trivial) rfl
theorem wj54x3 {v0 : T_poolcode_reader × Int} {r : T_poolcode_reader × T_api_Const} {Γ : Ctx} (h : (j54x3 v0)  = some r) : Jn Try.prog Try.f54 Γ (EndsO Try.prog Try.f54 1 [true] (R54 r) (B54 r)) 65495 ⟨51, [(0, .lptr 0 0 0), (2, .lptr 2 0 0), (3, .lptr 3 0 0), (39, .bool (v0.2 == 12))], [(0, { sz := 3, rows := [row_T_poolcode_reader v0.1], frz := 0, pure := false, pin := some 0 }), (2, { sz := 5, rows := [[dI 0, .str [], dI 0, dI 0, dI 0]], frz := 0, pure := false }), (3, { sz := 5, rows := [[dI v0.2, .str [], dI 0, dI 0, dI 0]], frz := 0, pure := false })]⟩ (v0.2 == 12) :=
  br h (fun h9 h => go [19] [] <| jn (wj54x5 h)) fun h9 h =>
  go [5] [] <| jn (wj54x4 h)
theorem wj54x2 {v0 : T_poolcode_reader × Int} {r : T_poolcode_reader × T_api_Const} {Γ : Ctx} (h : (j54x2 v0)  = some r) : Jn Try.prog Try.f54 Γ (EndsO Try.prog Try.f54 1 [true] (R54 r) (B54 r)) 81879 ⟨51, [(0, .lptr 0 0 0), (2, .lptr 2 0 0), (3, .lptr 3 0 0), (14, dI v0.2)], [(0, { sz := 3, rows := [row_T_poolcode_reader v0.1], frz := 0, pure := false, pin := some 0 }), (2, { sz := 5, rows := [[dI 0, .str [], dI 0, dI 0, dI 0]], frz := 0, pure := false }), (3, { sz := 5, rows := [[dI v0.2, .str [], dI 0, dI 0, dI 0]], frz := 0, pure := false })]⟩ :=
  so <| go [] [] <| br h (fun h6 h => go [] [] <| bT h6 <| go [19] [] <| jn (wj54x5 h)) fun h6 h =>
  go [] [] <| br h (fun h7 h => go [] [] <| bT h7 <| go [19] [] <| jn (wj54x5 h)) fun h7 h =>
    go [] [] <| br h (fun h8 h => go [] [] <| bT h8 <| go [19] [] <| jn (wj54x5 h)) fun h8 h =>
      go [] [] <| jn (wj54x3 h)
theorem wj54x1 {v0 : T_poolcode_reader × Int} {r : T_poolcode_reader × T_api_Const} {Γ : Ctx} (h : (j54x1 v0)  = some r) : Jn Try.prog Try.f54 Γ (EndsO Try.prog Try.f54 1 [true] (R54 r) (B54 r)) 16343 ⟨51, [(0, .lptr 0 0 0), (2, .lptr 2 0 0), (3, .lptr 3 0 0), (14, dI v0.2), (33, .bool (v0.2 == 8))], [(0, { sz := 3, rows := [row_T_poolcode_reader v0.1], frz := 0, pure := false, pin := some 0 }), (2, { sz := 5, rows := [[dI 0, .str [], dI 0, dI 0, dI 0]], frz := 0, pure := false }), (3, { sz := 5, rows := [[dI v0.2, .str [], dI 0, dI 0, dI 0]], frz := 0, pure := false })]⟩ (v0.2 == 8) :=
  br h (fun h5 h => go [14] [] <| jn (wj54x6 h)) fun h5 h =>
  go [15] [] <| jn (wj54x2 h)
theorem w54 {x0 : T_poolcode_reader} {r : T_poolcode_reader × T_api_Const} (h : m_armature_poolcode_reader_constant x0 = some r) : CallSpecO Try.prog 54 [.lptr 0 0 0] [{ sz := 3, rows := [row_T_poolcode_reader x0], frz := 0, pure := false, pin := some 0 }] (R54 r) (B54 r) :=
  csO Try.f54 (m := 1) (keep := [true]) <| bd h fun v0 e0 h => go [] [rg 1 [(1, ko [0] (w53 e0))]] <| br h (fun h0 h => go [] [] <| rtO h (.agg [dI v0.2, .str [], dI 0, dI 0, dI 0]) [{ sz := 3, rows := [row_T_poolcode_reader v0.1], frz := 0, pure := false, pin := some 0 }] (a2 (tNi 5) trivial) rfl) fun h0 h =>
  go [] [] <| br h (fun h1 h => bd h fun v1 e1 h => go [] [rg 7 [(1, ko [0] (w66 e1))]] <| rtO h (.agg [dI v0.2, .str v1.2, dI 0, dI 0, dI 0]) [{ sz := 3, rows := [row_T_poolcode_reader v1.1], frz := 0, pure := false, pin := some 0 }] (a2 (tNi 5) trivial) rfl) fun h1 h =>
    go [] [] <| br h (fun h2 h => bd h fun v2 e2 h => go [] [rg 9 [(1, ko [0] (w67 e2))]] <| rtO h (.agg [dI v0.2, .str [], dI v2.2, dI 0, dI 0]) [{ sz := 3, rows := [row_T_poolcode_reader v2.1], frz := 0, pure := false, pin := some 0 }] (a2 (tNi 5) trivial) rfl) fun h2 h =>
      go [] [] <| br h (fun h3 h => bd h fun v3 e3 h => go [] [rg 11 [(1, ko [0] (w67 e3))]] <| rtO h (.agg [dI v0.2, .str [], dI v3.2, dI 0, dI 0]) [{ sz := 3, rows := [row_T_poolcode_reader v3.1], frz := 0, pure := false, pin := some 0 }] (a2 (tNi 5) trivial) rfl) fun h3 h =>
        go [] [] <| br h (fun h4 h => go [] [] <| bT h4 <| go [14] [] <| jn (wj54x6 h)) fun h4 h =>
          go [] [] <| jn (wj54x1 h)
/-! armature poolcode.Decode -/
def R29 (y0 : (List T_api_Const) × Int × Int) : D := .tup [.sl false (y0.1.map row_T_api_Const), .int .i64 y0.2.1, .int .i64 y0.2.2]
def j29x2 (t0 : Int × (List UInt8) × Int × Int × (List T_api_Const)) : Option (Ctl (Int × (List UInt8) × Int × Int × (List T_api_Const)) (((List UInt8) × Int × Int × (List T_api_Const)))) :=
  (m_armature_poolcode_reader_constant ({ f_s := t0.2.1, f_at := t0.2.2.1, f_err := t0.2.2.2.1 } : T_poolcode_reader)).bind fun v7 =>
  (growK 48 (t0.2.2.2.2 ++ [v7.2]).length).bind fun v8 =>
  (some (IntKind.wrap .i64 (t0.1 - (1 : Int)))).bind fun v9 =>
  some (.next (v9, v7.1.f_s, v7.1.f_at, v7.1.f_err, (t0.2.2.2.2 ++ [v7.2])))
def l29x1 (t0 : Int × (List UInt8) × Int × Int × (List T_api_Const)) : Option (Ctl (Int × (List UInt8) × Int × Int × (List T_api_Const)) (((List UInt8) × Int × Int × (List T_api_Const)))) :=
  if (decide (t0.1 > 0)) = true then (if (t0.2.2.2.1 == 0) = true then
    ((j29x2 t0) ) else
  (some (.done ((t0.2.1, t0.2.2.1, t0.2.2.2.1, t0.2.2.2.2))))) else
  (some (.done ((t0.2.1, t0.2.2.1, t0.2.2.2.1, t0.2.2.2.2))))
def j29x1 (x0 : List UInt8) (x1 : Int) : Option ((List T_api_Const) × Int × Int) :=
  (m_armature_poolcode_reader_unsigned ({ f_s := x0, f_at := x1, f_err := 0 } : T_poolcode_reader) 2).bind fun v0 =>
  (loopM l29x1 rounds (v0.2, v0.1.f_s, v0.1.f_at, v0.1.f_err, ([] : List T_api_Const))).bind fun q0 =>
  if (q0.2.2.1 != 0) = true then
    (some (([] : List T_api_Const), 0, q0.2.2.1)) else
  ((m_pool_Check q0.2.2.2).bind fun v10 =>
    if (v10.2 != 0) = true then
      (some (([] : List T_api_Const), 0, v10.2)) else
    (some (q0.2.2.2, q0.2.1, 0)))
def m_poolcode_Decode (x0 : List UInt8) (x1 : Int) : Option ((List T_api_Const) × Int × Int) :=
  if (decide (x1 < 0)) = true then (some (([] : List T_api_Const), 0, 2)) else
  (if (decide (x1 > (x0.length : Int))) = true then
    (some (([] : List T_api_Const), 0, 2)) else
  ((j29x1 x0 x1) ))
def st29x1  : (Int × (List UInt8) × Int × Int × (List T_api_Const)) → SL :=
  fun t0 => ⟨64, [(7, .lptr 7 0 0), (8, .lsl 8 0 ((t0.2.2.2.2.map row_T_api_Const).length)), (9, dI t0.1)], [(7, { sz := 3, rows := [[.str t0.2.1, dI t0.2.2.1, dI t0.2.2.2.1]], frz := 0, pure := false }), (8, { sz := 5, rows := (t0.2.2.2.2.map row_T_api_Const), frz := 0, pure := true })]⟩
def J29x1  : JT (((List UInt8) × Int × Int × (List T_api_Const))) :=
  je 0 fun q0 : (List UInt8) × Int × Int × (List T_api_Const) => ⟨64, [(7, .lptr 7 0 0), (8, .lsl 8 0 ((q0.2.2.2.map row_T_api_Const).length))], [(7, { sz := 3, rows := [[.str q0.1, dI q0.2.1, dI q0.2.2.1]], frz := 0, pure := false }), (8, { sz := 5, rows := (q0.2.2.2.map row_T_api_Const), frz := 0, pure := true })]⟩
theorem wj29x2 {t0 : Int × (List UInt8) × Int × Int × (List T_api_Const)} {r : Ctl (Int × (List UInt8) × Int × Int × (List T_api_Const)) (((List UInt8) × Int × Int × (List T_api_Const)))} {Γ : Ctx} (h : (j29x2 t0)  = some r) : Jn Try.prog Try.f29 Γ (Rd st29x1 J29x1 r) 2351 ⟨64, [(7, .lptr 7 0 0), (8, .lsl 8 0 ((t0.2.2.2.2.map row_T_api_Const).length)), (9, dI t0.1)], [(7, { sz := 3, rows := [[.str t0.2.1, dI t0.2.2.1, dI t0.2.2.2.1]], frz := 0, pure := false }), (8, { sz := 5, rows := (t0.2.2.2.2.map row_T_api_Const), frz := 0, pure := true })]⟩ :=
  so <| bd h fun v7 e7 h => bd h fun v8 e8 h => bd h fun v9 e9 h => go [] [rg 8 [(2, ko [7] (w54 e7)), (3, br0 1 5), (4, ap e8)], rg 7 [(1, n e9)]] <| nx h
theorem wl29x1 {t0 : Int × (List UInt8) × Int × Int × (List T_api_Const)} {r : Ctl (Int × (List UInt8) × Int × Int × (List T_api_Const)) (((List UInt8) × Int × Int × (List T_api_Const)))} {Γ : Ctx} (h : l29x1 t0 = some r) : A Try.prog Γ (lpC Try.f29 175) [] (Rd st29x1 J29x1 r) (st29x1 t0).s :=
  sp h (fun h6 h => go [] [rg 6 [(1, kb h6)]] <| br h (fun h7 h => go [8] [] <| jn (wj29x2 h)) fun h7 h =>
  go [] [] <| dn h (iE)) fun h6 h =>
  go [] [rg 6 [(1, kb h6)]] <| bF rfl <| go [] [] <| dn h (iE)
theorem wj29x1 {x0 : List UInt8} {x1 : Int} {r : (List T_api_Const) × Int × Int} {Γ : Ctx} (h : (j29x1 x0 x1)  = some r) : Jn Try.prog Try.f29 Γ (Den.Ends Try.prog Try.f29 (R29 r)) 11 ⟨64, [(0, .str x0), (1, dI x1)], []⟩ :=
  so <| bd h fun v0 e0 h => go [] [rg 5 [(1, ko [23] (w53 e0))]] <| bd h fun q0 e10 h => lp (cv := [.tmp 8 8 5]) (ps := [(23, 7), (8, 8)]) e10 wl29x1 <| qe <| goN [] [] <| br h (fun h8 h => go [] [rgo 10 [] [0, 1, 2, 3, 4, 5, 6] [] [(1, [0]), (2, [0, 1]), (3, [0, 1, 2]), (5, [4]), (6, [0, 1, 2, 3, 4, 5])]] <| rt h) fun h8 h =>
  bd h fun v10 e11 h => go [] [rg 11 [(1, kB (a2 (rpI q0.2.2.2) trivial) [rw_ q0.2.2.2] (by simp only [rwE] <;> kernel_rfl) (w41 e11))]] <| br h (fun h9 h => go [] [] <| rt h) fun h9 h =>
    go [] [rgo 14 [] [0, 1, 2, 3, 4, 5, 6, 7] [] [(2, [1]), (3, [1, 2]), (4, [1, 2, 3]), (5, [0]), (6, [0, 1, 2, 3, 4, 5]), (7, [0, 1, 2, 3, 4, 5, 6])]] <| rtB h (.tup [rw_ q0.2.2.2, dI q0.2.1, dI 0]) (a2 (rpI q0.2.2.2) (a2 trivial (a2 trivial trivial))) (by simp only [rwE] <;> kernel_rfl)
theorem w29 {x0 : List UInt8} {x1 : Int} {r : (List T_api_Const) × Int × Int} (h : m_poolcode_Decode x0 x1 = some r) : CallSpec Try.prog 29 [.str x0, dI x1] (R29 r) :=
  cs Try.f29 <| sp h (fun h0 h => go [] [rg 1 [(1, kb h0)]] <| bT rfl <| go [] [] <| rt h) fun h0 h =>
  go [] [rg 1 [(1, kb h0)]] <| br h (fun h1 h => go [] [] <| rt h) fun h1 h =>
  go [3] [] <| jn (wj29x1 h)
/-!   armature file.reader .number -/
def B30 (y0 : T_file_reader × Int) : List Blk := [{ sz := 3, rows := [row_T_file_reader y0.1], frz := 0, pure := false, pin := some 0 }]
def R30 (y0 : T_file_reader × Int) : D := .int .i64 y0.2
def m_armature_file_reader_number (x0 : T_file_reader) (x1 : Int) : Option (T_file_reader × Int) :=
  if (x0.f_e != 0) = true then
    (some (x0, 0)) else
  ((m_octet_Unsigned x0.f_s x0.f_at x1).bind fun v0 =>
    if (v0.2 != 0) = true then
      (some (({ f_s := x0.f_s, f_at := x0.f_at, f_e := 3 } : T_file_reader), 0)) else
    ((some (IntKind.wrap .i64 (x0.f_at + x1))).bind fun v1 =>
      some (({ f_s := x0.f_s, f_at := v1, f_e := x0.f_e } : T_file_reader), v0.1)))
theorem w30 {x0 : T_file_reader} {x1 : Int} {r : T_file_reader × Int} (h : m_armature_file_reader_number x0 x1 = some r) : CallSpecO Try.prog 30 [.lptr 0 0 0, dI x1] [{ sz := 3, rows := [row_T_file_reader x0], frz := 0, pure := false, pin := some 0 }] (R30 r) (B30 r) :=
  csO Try.f30 (m := 1) (keep := [true]) <| go [] [] <| br h (fun h0 h => go [] [] <| rtO h (dI 0) [{ sz := 3, rows := [row_T_file_reader x0], frz := 0, pure := false, pin := some 0 }] (a2 trivial trivial) rfl) fun h0 h =>
  bd h fun v0 e0 h => go [] [rgo 3 [(9, k (w55 e0))] [0, 1, 2, 3, 4, 5, 6, 7, 8, 9, 10, 11, 12, 13, 14] [] [(1, [0]), (2, [0, 1]), (3, [0, 1, 2]), (5, [4]), (6, [4, 5]), (7, [4, 5, 6]), (9, [0, 1, 2, 3, 4, 5, 6, 7, 8]), (10, [0, 1, 2, 3, 4, 5, 6, 7, 8, 9]), (11, [0, 1, 2, 3, 4, 5, 6, 7, 8, 9, 10]), (12, [0, 1, 2, 3, 4, 5, 6, 7, 8, 9, 10]), (13, [0, 1, 2, 3, 4, 5, 6, 7, 8, 9, 10, 11]), (14, [0, 1, 2, 3, 4, 5, 6, 7, 8, 9, 10, 11, 12, 13])]] <| br h (fun h1 h => go [] [] <| rtO h (dI 0) [{ sz := 3, rows := [[.str x0.f_s, dI x0.f_at, dI 3]], frz := 0, pure := false, pin := some 0 }] (a2 trivial trivial) rfl) fun h1 h =>
    bd h fun v1 e1 h => go [] [rg 7 [(5, n e1)]] <| rtO h (dI v0.1) [{ sz := 3, rows := [[.str x0.f_s, dI v1, dI x0.f_e]], frz := 0, pure := false, pin := some 0 }] (a2 trivial trivial) rfl
/-!   armature file.reader .count -/
def B31 (y0 : T_file_reader × Int) : List Blk := [{ sz := 3, rows := [row_T_file_reader y0.1], frz := 0, pure := false, pin := some 0 }]
def R31 (y0 : T_file_reader × Int) : D := .int .i64 y0.2
def m_armature_file_reader_count (x0 : T_file_reader) (x1 : Int) : Option (T_file_reader × Int) :=
  (m_armature_file_reader_number x0 2).bind fun v0 =>
  if (decide (v0.2 > x1)) = true then
    (some (({ f_s := v0.1.f_s, f_at := v0.1.f_at, f_e := 5 } : T_file_reader), 0)) else
  (some (v0.1, v0.2))
theorem w31 {x0 : T_file_reader} {x1 : Int} {r : T_file_reader × Int} (h : m_armature_file_reader_count x0 x1 = some r) : CallSpecO Try.prog 31 [.lptr 0 0 0, dI x1] [{ sz := 3, rows := [row_T_file_reader x0], frz := 0, pure := false, pin := some 0 }] (R31 r) (B31 r) :=
  csO Try.f31 (m := 1) (keep := [true]) <| bd h fun v0 e0 h => go [] [rg 1 [(1, ko [0] (w30 e0))]] <| br h (fun h0 h => go [] [] <| rtO h (dI 0) [{ sz := 3, rows := [[.str v0.1.f_s, dI v0.1.f_at, dI 5]], frz := 0, pure := false, pin := some 0 }] (a2 trivial trivial) rfl) fun h0 h =>
  go [] [] <| rtO h (dI v0.2) [{ sz := 3, rows := [row_T_file_reader v0.1], frz := 0, pure := false, pin := some 0 }] (a2 trivial trivial) rfl
/-!   armature file.reader .bytes -/
def B56 (y0 : T_file_reader × (List UInt8)) : List Blk := [{ sz := 3, rows := [row_T_file_reader y0.1], frz := 0, pure := false, pin := some 0 }]
def R56 (y0 : T_file_reader × (List UInt8)) : D := .str y0.2
def m_armature_file_reader_bytes (x0 : T_file_reader) : Option (T_file_reader × (List UInt8)) :=
  (m_armature_file_reader_number x0 4).bind fun v0 =>
  if (v0.1.f_e != 0) = true then
    (some (v0.1, [])) else
  (if (decide (v0.2 > 65535)) = true then
      (some (({ f_s := v0.1.f_s, f_at := v0.1.f_at, f_e := 8 } : T_file_reader), [])) else
    ((some (IntKind.wrap .i64 ((v0.1.f_s.length : Int) - v0.1.f_at))).bind fun v1 =>
      if (decide (v1 < v0.2)) = true then
        (some (({ f_s := v0.1.f_s, f_at := v0.1.f_at, f_e := 3 } : T_file_reader), [])) else
      ((some (IntKind.wrap .i64 (v0.1.f_at + v0.2))).bind fun v2 =>
        (some (IntKind.wrap .i64 (v2 - v0.2))).bind fun v3 =>
        (sub v0.1.f_s v3 v2).bind fun v4 =>
        some (({ f_s := v0.1.f_s, f_at := v2, f_e := v0.1.f_e } : T_file_reader), v4))))
theorem w56 {x0 : T_file_reader} {r : T_file_reader × (List UInt8)} (h : m_armature_file_reader_bytes x0 = some r) : CallSpecO Try.prog 56 [.lptr 0 0 0] [{ sz := 3, rows := [row_T_file_reader x0], frz := 0, pure := false, pin := some 0 }] (R56 r) (B56 r) :=
  csO Try.f56 (m := 1) (keep := [true]) <| bd h fun v0 e0 h => go [] [rg 1 [(1, ko [0] (w30 e0))]] <| br h (fun h0 h => go [] [] <| rtO h (.str []) [{ sz := 3, rows := [row_T_file_reader v0.1], frz := 0, pure := false, pin := some 0 }] (a2 trivial trivial) rfl) fun h0 h =>
  go [] [] <| br h (fun h1 h => go [] [] <| rtO h (.str []) [{ sz := 3, rows := [[.str v0.1.f_s, dI v0.1.f_at, dI 8]], frz := 0, pure := false, pin := some 0 }] (a2 trivial trivial) rfl) fun h1 h =>
    bd h fun v1 e1 h => go [] [rgo 7 [(9, n e1)] [0, 1, 2, 3, 4, 5, 6, 7, 8, 9, 10, 11, 12] [] [(1, [0]), (2, [0, 1]), (3, [0, 1, 2]), (4, [0, 1, 2, 3]), (6, [5]), (7, [5, 6]), (8, [5, 6, 7]), (9, [0, 1, 2, 3, 4, 5, 6, 7, 8]), (11, [0, 1, 2, 3, 4, 5, 6, 7, 8, 9, 10]), (12, [0, 1, 2, 3, 4, 5, 6, 7, 8, 9, 10, 11])]] <| br h (fun h2 h => go [] [] <| rtO h (.str []) [{ sz := 3, rows := [[.str v0.1.f_s, dI v0.1.f_at, dI 3]], frz := 0, pure := false, pin := some 0 }] (a2 trivial trivial) rfl) fun h2 h =>
      bd h fun v2 e2 h => bd h fun v3 e3 h => bd h fun v4 e4 h => go [] [rg 10 [(5, n e2)], rgo 11 [(9, n e3), (14, ss e4)] [0, 1, 2, 3, 4, 5, 6, 7, 8, 9, 10, 11, 12, 13, 14, 15] [] [(1, [0]), (2, [0, 1]), (3, [0, 1, 2]), (5, [4]), (6, [4, 5]), (7, [4, 5, 6]), (9, [4, 5, 6, 7, 8]), (11, [10]), (12, [10, 11]), (13, [10, 11, 12]), (14, [0, 1, 2, 3, 4, 5, 6, 7, 8, 9, 10, 11, 12, 13]), (15, [0, 1, 2, 3, 4, 5, 6, 7, 8, 9, 10, 11, 12, 13, 14])]] <| rtO h (.str v4) [{ sz := 3, rows := [[.str v0.1.f_s, dI v2, dI v0.1.f_e]], frz := 0, pure := false, pin := some 0 }] (a2 trivial trivial) rfl
/-!   armature file.reader .attributes -/
def B33 (y0 : T_file_reader × (List T_api_Attr)) : List Blk := [{ sz := 3, rows := [row_T_file_reader y0.1], frz := 0, pure := false, pin := some 0 }]
def R33 (y0 : T_file_reader × (List T_api_Attr)) : D := .sl false (y0.2.map row_T_api_Attr)
def j33x1 (t0 : Int × (List UInt8) × Int × Int × (List T_api_Attr)) : Option (Ctl (Int × (List UInt8) × Int × Int × (List T_api_Attr)) (((List UInt8) × Int × Int × (List T_api_Attr)))) :=
  (m_armature_file_reader_number ({ f_s := t0.2.1, f_at := t0.2.2.1, f_e := t0.2.2.2.1 } : T_file_reader) 2).bind fun v9 =>
  (m_armature_file_reader_bytes v9.1).bind fun v10 =>
  (growK 24 (t0.2.2.2.2 ++ [({ f_NameIndex := v9.2, f_Bytes := v10.2 } : T_api_Attr)]).length).bind fun v11 =>
  (some (IntKind.wrap .i64 (t0.1 - (1 : Int)))).bind fun v12 =>
  some (.next (v12, v10.1.f_s, v10.1.f_at, v10.1.f_e, (t0.2.2.2.2 ++ [({ f_NameIndex := v9.2, f_Bytes := v10.2 } : T_api_Attr)])))
def l33x1 (t0 : Int × (List UInt8) × Int × Int × (List T_api_Attr)) : Option (Ctl (Int × (List UInt8) × Int × Int × (List T_api_Attr)) (((List UInt8) × Int × Int × (List T_api_Attr)))) :=
  if (decide (t0.1 > 0)) = true then (if (t0.2.2.2.1 == 0) = true then
    ((j33x1 t0) ) else
  (some (.done ((t0.2.1, t0.2.2.1, t0.2.2.2.1, t0.2.2.2.2))))) else
  (some (.done ((t0.2.1, t0.2.2.1, t0.2.2.2.1, t0.2.2.2.2))))
def m_armature_file_reader_attributes (x0 : T_file_reader) : Option (T_file_reader × (List T_api_Attr)) :=
  (m_armature_file_reader_count x0 16).bind fun v0 =>
  (loopM l33x1 rounds (v0.2, v0.1.f_s, v0.1.f_at, v0.1.f_e, ([] : List T_api_Attr))).bind fun q0 =>
  some (({ f_s := q0.1, f_at := q0.2.1, f_e := q0.2.2.1 } : T_file_reader), q0.2.2.2)
def st33x1  : (Int × (List UInt8) × Int × Int × (List T_api_Attr)) → SL :=
  fun t0 => ⟨29, [(0, .lptr 0 0 0), (3, .lsl 3 0 ((t0.2.2.2.2.map row_T_api_Attr).length)), (4, dI t0.1)], [(0, { sz := 3, rows := [[.str t0.2.1, dI t0.2.2.1, dI t0.2.2.2.1]], frz := 0, pure := false, pin := some 0 }), (3, { sz := 2, rows := (t0.2.2.2.2.map row_T_api_Attr), frz := 0, pure := true })]⟩
def J33x1  : JT (((List UInt8) × Int × Int × (List T_api_Attr))) :=
  je 0 fun q0 : (List UInt8) × Int × Int × (List T_api_Attr) => ⟨29, [(3, .lsl 3 0 ((q0.2.2.2.map row_T_api_Attr).length))], [(0, { sz := 3, rows := [[.str q0.1, dI q0.2.1, dI q0.2.2.1]], frz := 0, pure := false, pin := some 0 }), (3, { sz := 2, rows := (q0.2.2.2.map row_T_api_Attr), frz := 0, pure := true })]⟩
theorem wj33x1 {t0 : Int × (List UInt8) × Int × Int × (List T_api_Attr)} {r : Ctl (Int × (List UInt8) × Int × Int × (List T_api_Attr)) (((List UInt8) × Int × Int × (List T_api_Attr)))} {Γ : Ctx} (h : (j33x1 t0)  = some r) : Jn Try.prog Try.f33 Γ (Rd st33x1 J33x1 r) 1099 ⟨29, [(0, .lptr 0 0 0), (3, .lsl 3 0 ((t0.2.2.2.2.map row_T_api_Attr).length)), (4, dI t0.1)], [(0, { sz := 3, rows := [[.str t0.2.1, dI t0.2.2.1, dI t0.2.2.2.1]], frz := 0, pure := false, pin := some 0 }), (3, { sz := 2, rows := (t0.2.2.2.2.map row_T_api_Attr), frz := 0, pure := true })]⟩ :=
  so <| bd h fun v9 e9 h => bd h fun v10 e10 h => bd h fun v11 e11 h => bd h fun v12 e12 h => go [] [rg 5 [(1, ko [0] (w30 e9))], rg 6 [(3, ko [0] (w56 e10)), (5, br0 1 2), (6, ap e11)], rg 4 [(1, n e12)]] <| nx h
theorem wl33x1 {t0 : Int × (List UInt8) × Int × Int × (List T_api_Attr)} {r : Ctl (Int × (List UInt8) × Int × Int × (List T_api_Attr)) (((List UInt8) × Int × Int × (List T_api_Attr)))} {Γ : Ctx} (h : l33x1 t0 = some r) : A Try.prog Γ (lpC Try.f33 43) [] (Rd st33x1 J33x1 r) (st33x1 t0).s :=
  sp h (fun h4 h => go [] [rg 3 [(1, kb h4)]] <| br h (fun h5 h => go [5] [] <| jn (wj33x1 h)) fun h5 h =>
  go [] [] <| dn h (iE)) fun h4 h =>
  go [] [rg 3 [(1, kb h4)]] <| bF rfl <| go [] [] <| dn h (iE)
theorem w33 {x0 : T_file_reader} {r : T_file_reader × (List T_api_Attr)} (h : m_armature_file_reader_attributes x0 = some r) : CallSpecO Try.prog 33 [.lptr 0 0 0] [{ sz := 3, rows := [row_T_file_reader x0], frz := 0, pure := false, pin := some 0 }] (R33 r) (B33 r) :=
  csO Try.f33 (m := 1) (keep := [true]) <| bd h fun v0 e0 h => go [] [rg 2 [(1, ko [0] (w31 e0))]] <| bd h fun q0 e13 h => lp (cv := [.tmp 3 3 2]) e13 wl33x1 <| qe <| goN [] [] <| rtO h (rw_ q0.2.2.2) [{ sz := 3, rows := [[.str q0.1, dI q0.2.1, dI q0.2.2.1]], frz := 0, pure := false, pin := some 0 }] (a2 (rpI q0.2.2.2) trivial) (by simp only [rwE] <;> kernel_rfl)
/-!   armature file.reader .members -/
def B32 (y0 : T_file_reader × (List T_api_Member)) : List Blk := [{ sz := 3, rows := [row_T_file_reader y0.1], frz := 0, pure := false, pin := some 0 }]
def R32 (y0 : T_file_reader × (List T_api_Member)) : D := .sl false (y0.2.map row_T_api_Member)
def j32x1 (t0 : Int × (List UInt8) × Int × Int × (List T_api_Member)) : Option (Ctl (Int × (List UInt8) × Int × Int × (List T_api_Member)) (((List UInt8) × Int × Int × (List T_api_Member)))) :=
  (m_armature_file_reader_number ({ f_s := t0.2.1, f_at := t0.2.2.1, f_e := t0.2.2.2.1 } : T_file_reader) 2).bind fun v13 =>
  (m_armature_file_reader_number v13.1 2).bind fun v14 =>
  (m_armature_file_reader_number v14.1 2).bind fun v15 =>
  (m_armature_file_reader_attributes v15.1).bind fun v16 =>
  (growK 48 (t0.2.2.2.2 ++ [({ f_Flags := v13.2, f_Name := v14.2, f_Desc := v15.2, f_Attributes := v16.2 } : T_api_Member)]).length).bind fun v17 =>
  (some (IntKind.wrap .i64 (t0.1 - (1 : Int)))).bind fun v18 =>
  some (.next (v18, v16.1.f_s, v16.1.f_at, v16.1.f_e, (t0.2.2.2.2 ++ [({ f_Flags := v13.2, f_Name := v14.2, f_Desc := v15.2, f_Attributes := v16.2 } : T_api_Member)])))
def l32x1 (t0 : Int × (List UInt8) × Int × Int × (List T_api_Member)) : Option (Ctl (Int × (List UInt8) × Int × Int × (List T_api_Member)) (((List UInt8) × Int × Int × (List T_api_Member)))) :=
  if (decide (t0.1 > 0)) = true then (if (t0.2.2.2.1 == 0) = true then
    ((j32x1 t0) ) else
  (some (.done ((t0.2.1, t0.2.2.1, t0.2.2.2.1, t0.2.2.2.2))))) else
  (some (.done ((t0.2.1, t0.2.2.1, t0.2.2.2.1, t0.2.2.2.2))))
def m_armature_file_reader_members (x0 : T_file_reader) : Option (T_file_reader × (List T_api_Member)) :=
  (m_armature_file_reader_count x0 64).bind fun v0 =>
  (loopM l32x1 rounds (v0.2, v0.1.f_s, v0.1.f_at, v0.1.f_e, ([] : List T_api_Member))).bind fun q0 =>
  some (({ f_s := q0.1, f_at := q0.2.1, f_e := q0.2.2.1 } : T_file_reader), q0.2.2.2)
def st32x1  : (Int × (List UInt8) × Int × Int × (List T_api_Member)) → SL :=
  fun t0 => ⟨36, [(0, .lptr 0 0 0), (3, .lsl 3 0 ((t0.2.2.2.2.map row_T_api_Member).length)), (4, dI t0.1)], [(0, { sz := 3, rows := [[.str t0.2.1, dI t0.2.2.1, dI t0.2.2.2.1]], frz := 0, pure := false, pin := some 0 }), (3, { sz := 4, rows := (t0.2.2.2.2.map row_T_api_Member), frz := 0, pure := true })]⟩
def J32x1  : JT (((List UInt8) × Int × Int × (List T_api_Member))) :=
  je 0 fun q0 : (List UInt8) × Int × Int × (List T_api_Member) => ⟨36, [(3, .lsl 3 0 ((q0.2.2.2.map row_T_api_Member).length))], [(0, { sz := 3, rows := [[.str q0.1, dI q0.2.1, dI q0.2.2.1]], frz := 0, pure := false, pin := some 0 }), (3, { sz := 4, rows := (q0.2.2.2.map row_T_api_Member), frz := 0, pure := true })]⟩
theorem wj32x1 {t0 : Int × (List UInt8) × Int × Int × (List T_api_Member)} {r : Ctl (Int × (List UInt8) × Int × Int × (List T_api_Member)) (((List UInt8) × Int × Int × (List T_api_Member)))} {Γ : Ctx} (h : (j32x1 t0)  = some r) : Jn Try.prog Try.f32 Γ (Rd st32x1 J32x1 r) 1099 ⟨36, [(0, .lptr 0 0 0), (3, .lsl 3 0 ((t0.2.2.2.2.map row_T_api_Member).length)), (4, dI t0.1)], [(0, { sz := 3, rows := [[.str t0.2.1, dI t0.2.2.1, dI t0.2.2.2.1]], frz := 0, pure := false, pin := some 0 }), (3, { sz := 4, rows := (t0.2.2.2.2.map row_T_api_Member), frz := 0, pure := true })]⟩ :=
  so <| bd h fun v13 e13 h => bd h fun v14 e14 h => bd h fun v15 e15 h => bd h fun v16 e16 h => bd h fun v17 e17 h => bd h fun v18 e18 h => go [] [rg 6 [(1, ko [0] (w30 e13))], rg 7 [(1, ko [0] (w30 e14))], rg 8 [(1, ko [0] (w30 e15))], rg 9 [(1, ko [0] (w33 e16))], rg 10 [(2, br0 1 4), (3, ap e17)], rg 4 [(1, n e18)]] <| nx h
theorem wl32x1 {t0 : Int × (List UInt8) × Int × Int × (List T_api_Member)} {r : Ctl (Int × (List UInt8) × Int × Int × (List T_api_Member)) (((List UInt8) × Int × Int × (List T_api_Member)))} {Γ : Ctx} (h : l32x1 t0 = some r) : A Try.prog Γ (lpC Try.f32 43) [] (Rd st32x1 J32x1 r) (st32x1 t0).s :=
  sp h (fun h4 h => go [] [rg 3 [(1, kb h4)]] <| br h (fun h5 h => go [5] [] <| jn (wj32x1 h)) fun h5 h =>
  go [] [] <| dn h (iE)) fun h4 h =>
  go [] [rg 3 [(1, kb h4)]] <| bF rfl <| go [] [] <| dn h (iE)
theorem w32 {x0 : T_file_reader} {r : T_file_reader × (List T_api_Member)} (h : m_armature_file_reader_members x0 = some r) : CallSpecO Try.prog 32 [.lptr 0 0 0] [{ sz := 3, rows := [row_T_file_reader x0], frz := 0, pure := false, pin := some 0 }] (R32 r) (B32 r) :=
  csO Try.f32 (m := 1) (keep := [true]) <| bd h fun v0 e0 h => go [] [rg 2 [(1, ko [0] (w31 e0))]] <| bd h fun q0 e19 h => lp (cv := [.tmp 3 3 4]) e19 wl32x1 <| qe <| goN [] [] <| rtO h (rw_ q0.2.2.2) [{ sz := 3, rows := [[.str q0.1, dI q0.2.1, dI q0.2.2.1]], frz := 0, pure := false, pin := some 0 }] (a2 (rpI q0.2.2.2) trivial) (by simp only [rwE] <;> kernel_rfl)
/-! armature file.Decode -/
def R13 (y0 : T_api_File × Int) : D := .tup [.agg (row_T_api_File y0.1), .int .i64 y0.2]
def j13x1 (t0 : Int × (List UInt8) × Int × Int × (List Int)) : Option (Ctl (Int × (List UInt8) × Int × Int × (List Int)) (((List UInt8) × Int × Int × (List Int)))) :=
  (m_armature_file_reader_number ({ f_s := t0.2.1, f_at := t0.2.2.1, f_e := t0.2.2.2.1 } : T_file_reader) 2).bind fun v12 =>
  (growK 8 (t0.2.2.2.2 ++ [v12.2]).length).bind fun v13 =>
  (some (IntKind.wrap .i64 (t0.1 - (1 : Int)))).bind fun v14 =>
  some (.next (v14, v12.1.f_s, v12.1.f_at, v12.1.f_e, (t0.2.2.2.2 ++ [v12.2])))
def l13x1 (t0 : Int × (List UInt8) × Int × Int × (List Int)) : Option (Ctl (Int × (List UInt8) × Int × Int × (List Int)) (((List UInt8) × Int × Int × (List Int)))) :=
  if (decide (t0.1 > 0)) = true then (if (t0.2.2.2.1 == 0) = true then
    ((j13x1 t0) ) else
  (some (.done ((t0.2.1, t0.2.2.1, t0.2.2.2.1, t0.2.2.2.2))))) else
  (some (.done ((t0.2.1, t0.2.2.1, t0.2.2.2.1, t0.2.2.2.2))))
def j13x3 (q0 : ((List UInt8) × Int × Int × (List Int))) (v1 : (List T_api_Const) × Int × Int) (v2 v3 v4 : T_file_reader × Int) (v15 v16 : T_file_reader × (List T_api_Member)) (v17 : T_file_reader × (List T_api_Attr)) (p0 : Int) : Option (T_api_File × Int) :=
  if (p0 != 0) = true then
    (some (({ f_Pool := ([] : List T_api_Const), f_Flags := 0, f_This := 0, f_Super := 0, f_Interfaces := ([] : List Int), f_Fields := ([] : List T_api_Member), f_Methods := ([] : List T_api_Member), f_Attributes := ([] : List T_api_Attr) } : T_api_File), p0)) else
  (some (({ f_Pool := v1.1, f_Flags := v2.2, f_This := v3.2, f_Super := v4.2, f_Interfaces := q0.2.2.2, f_Fields := v15.2, f_Methods := v16.2, f_Attributes := v17.2 } : T_api_File), 0))
def j13x2 (q0 : ((List UInt8) × Int × Int × (List Int))) (v1 : (List T_api_Const) × Int × Int) (v2 v3 v4 : T_file_reader × Int) (v15 v16 : T_file_reader × (List T_api_Member)) (v17 : T_file_reader × (List T_api_Attr)) : Option (T_api_File × Int) :=
  (j13x3 q0 v1 v2 v3 v4 v15 v16 v17) 10
def m_file_Decode (x0 : List UInt8) : Option (T_api_File × Int) :=
  if (decide ((x0.length : Int) > 1048576)) = true then
    (some (({ f_Pool := ([] : List T_api_Const), f_Flags := 0, f_This := 0, f_Super := 0, f_Interfaces := ([] : List Int), f_Fields := ([] : List T_api_Member), f_Methods := ([] : List T_api_Member), f_Attributes := ([] : List T_api_Attr) } : T_api_File), 8)) else
  ((m_strings_HasPrefix x0 [65, 82, 77, 65, 0, 1]).bind fun v0 =>
    if (!v0) = true then
      (some (({ f_Pool := ([] : List T_api_Const), f_Flags := 0, f_This := 0, f_Super := 0, f_Interfaces := ([] : List Int), f_Fields := ([] : List T_api_Member), f_Methods := ([] : List T_api_Member), f_Attributes := ([] : List T_api_Attr) } : T_api_File), 4)) else
    ((m_poolcode_Decode x0 6).bind fun v1 =>
      if (v1.2.2 != 0) = true then
        (some (({ f_Pool := ([] : List T_api_Const), f_Flags := 0, f_This := 0, f_Super := 0, f_Interfaces := ([] : List Int), f_Fields := ([] : List T_api_Member), f_Methods := ([] : List T_api_Member), f_Attributes := ([] : List T_api_Attr) } : T_api_File), v1.2.2)) else
      ((m_armature_file_reader_number ({ f_s := x0, f_at := v1.2.1, f_e := 0 } : T_file_reader) 2).bind fun v2 =>
        (m_armature_file_reader_number v2.1 2).bind fun v3 =>
        (m_armature_file_reader_number v3.1 2).bind fun v4 =>
        (m_armature_file_reader_count v4.1 8).bind fun v5 =>
        (loopM l13x1 rounds (v5.2, v5.1.f_s, v5.1.f_at, v5.1.f_e, ([] : List Int))).bind fun q0 =>
        (m_armature_file_reader_members ({ f_s := q0.1, f_at := q0.2.1, f_e := q0.2.2.1 } : T_file_reader)).bind fun v15 =>
        (m_armature_file_reader_members v15.1).bind fun v16 =>
        (m_armature_file_reader_attributes v16.1).bind fun v17 =>
        if (v17.1.f_e == 0) = true then (if (decide (v17.1.f_at < (x0.length : Int))) = true then
          ((j13x2 q0 v1 v2 v3 v4 v15 v16 v17) ) else
        ((j13x3 q0 v1 v2 v3 v4 v15 v16 v17) v17.1.f_e)) else
        ((j13x3 q0 v1 v2 v3 v4 v15 v16 v17) v17.1.f_e))))
def st13x1 (v1 : (List T_api_Const) × Int × Int) (v2 v3 v4 : T_file_reader × Int) (x0 : List UInt8) : (Int × (List UInt8) × Int × Int × (List Int)) → SL :=
  fun t0 => ⟨100, [(0, .str x0), (2, .lptr 2 0 0), (7, .lptr 7 0 0), (8, .lptr 8 0 0), (9, dI t0.1)], [(2, { sz := 8, rows := [[.sl true (([] : List T_api_Const).map row_T_api_Const), dI 0, dI 0, dI 0, .sl true (([] : List Int).map rI64), .sl true (([] : List T_api_Member).map row_T_api_Member), .sl true (([] : List T_api_Member).map row_T_api_Member), .sl true (([] : List T_api_Attr).map row_T_api_Attr)]], frz := 0, pure := false }), (7, { sz := 3, rows := [[.str t0.2.1, dI t0.2.2.1, dI t0.2.2.2.1]], frz := 0, pure := false }), (8, { sz := 8, rows := [[.sl false (v1.1.map row_T_api_Const), dI v2.2, dI v3.2, dI v4.2, .lsl 1008 0 ((t0.2.2.2.2.map rI64).length), .sl true (([] : List T_api_Member).map row_T_api_Member), .sl true (([] : List T_api_Member).map row_T_api_Member), .sl true (([] : List T_api_Attr).map row_T_api_Attr)]], frz := 0, pure := false }), (1008, { sz := 1, rows := (t0.2.2.2.2.map rI64), frz := 0, pure := true })]⟩
def J13x1 (v1 : (List T_api_Const) × Int × Int) (v2 v3 v4 : T_file_reader × Int) (x0 : List UInt8) : JT (((List UInt8) × Int × Int × (List Int))) :=
  je 0 fun q0 : (List UInt8) × Int × Int × (List Int) => ⟨100, [(0, .str x0), (2, .lptr 2 0 0), (7, .lptr 7 0 0), (8, .lptr 8 0 0)], [(2, { sz := 8, rows := [[.sl true (([] : List T_api_Const).map row_T_api_Const), dI 0, dI 0, dI 0, .sl true (([] : List Int).map rI64), .sl true (([] : List T_api_Member).map row_T_api_Member), .sl true (([] : List T_api_Member).map row_T_api_Member), .sl true (([] : List T_api_Attr).map row_T_api_Attr)]], frz := 0, pure := false }), (7, { sz := 3, rows := [[.str q0.1, dI q0.2.1, dI q0.2.2.1]], frz := 0, pure := false }), (8, { sz := 8, rows := [[.sl false (v1.1.map row_T_api_Const), dI v2.2, dI v3.2, dI v4.2, .lsl 1008 0 ((q0.2.2.2.map rI64).length), .sl true (([] : List T_api_Member).map row_T_api_Member), .sl true (([] : List T_api_Member).map row_T_api_Member), .sl true (([] : List T_api_Attr).map row_T_api_Attr)]], frz := 0, pure := false }), (1008, { sz := 1, rows := (q0.2.2.2.map rI64), frz := 0, pure := true })]⟩
theorem wj13x1 (v1 : (List T_api_Const) × Int × Int) (v2 v3 v4 : T_file_reader × Int) (x0 : List UInt8) {t0 : Int × (List UInt8) × Int × Int × (List Int)} {r : Ctl (Int × (List UInt8) × Int × Int × (List Int)) (((List UInt8) × Int × Int × (List Int)))} {Γ : Ctx} (h : (j13x1 t0)  = some r) : Jn Try.prog Try.f13 Γ (Rd (st13x1 v1 v2 v3 v4 x0) (J13x1 v1 v2 v3 v4 x0) r) 150527 ⟨100, [(0, .str x0), (2, .lptr 2 0 0), (7, .lptr 7 0 0), (8, .lptr 8 0 0), (9, dI t0.1)], [(2, { sz := 8, rows := [[.sl true (([] : List T_api_Const).map row_T_api_Const), dI 0, dI 0, dI 0, .sl true (([] : List Int).map rI64), .sl true (([] : List T_api_Member).map row_T_api_Member), .sl true (([] : List T_api_Member).map row_T_api_Member), .sl true (([] : List T_api_Attr).map row_T_api_Attr)]], frz := 0, pure := false }), (7, { sz := 3, rows := [[.str t0.2.1, dI t0.2.2.1, dI t0.2.2.2.1]], frz := 0, pure := false }), (8, { sz := 8, rows := [[.sl false (v1.1.map row_T_api_Const), dI v2.2, dI v3.2, dI v4.2, .lsl 1008 0 ((t0.2.2.2.2.map rI64).length), .sl true (([] : List T_api_Member).map row_T_api_Member), .sl true (([] : List T_api_Member).map row_T_api_Member), .sl true (([] : List T_api_Attr).map row_T_api_Attr)]], frz := 0, pure := false }), (1008, { sz := 1, rows := (t0.2.2.2.2.map rI64), frz := 0, pure := true })]⟩ :=
  so <| bd h fun v12 e12 h => bd h fun v13 e13 h => bd h fun v14 e14 h => go [] [rgo 16 [(3, ko [7] (w30 e12)), (4, br0 1 0), (5, ap e13)] [0, 1, 2, 3, 4, 5, 6, 7] [3, 5, 7, 3000, 4003, 3001, 10008] [(1, [0]), (3, [2]), (4, [2, 3]), (5, [0, 1, 2, 3, 4]), (6, [0, 1, 2, 3, 4, 5]), (7, [0, 1, 2, 3, 4, 5, 6])], rg 15 [(1, n e14)]] <| nx h
theorem wl13x1 (v1 : (List T_api_Const) × Int × Int) (v2 v3 v4 : T_file_reader × Int) (x0 : List UInt8) {t0 : Int × (List UInt8) × Int × Int × (List Int)} {r : Ctl (Int × (List UInt8) × Int × Int × (List Int)) (((List UInt8) × Int × Int × (List Int)))} {Γ : Ctx} (h : l13x1 t0 = some r) : A Try.prog Γ (lpC Try.f13 11263) [] (Rd (st13x1 v1 v2 v3 v4 x0) (J13x1 v1 v2 v3 v4 x0) r) ((st13x1 v1 v2 v3 v4 x0) t0).s :=
  sp h (fun h7 h => go [] [rg 14 [(1, kb h7)]] <| br h (fun h8 h => go [16] [] <| jn ((wj13x1 v1 v2 v3 v4 x0) h)) fun h8 h =>
  go [] [] <| dn h (iE)) fun h7 h =>
  go [] [rg 14 [(1, kb h7)]] <| bF rfl <| go [] [] <| dn h (iE)
theorem wj13x3 {q0 : ((List UInt8) × Int × Int × (List Int))} {v1 : (List T_api_Const) × Int × Int} {v2 v3 v4 : T_file_reader × Int} {v15 v16 : T_file_reader × (List T_api_Member)} {v17 : T_file_reader × (List T_api_Attr)} {p0 : Int} {r : T_api_File × Int} {Γ : Ctx} (h : (j13x3 q0 v1 v2 v3 v4 v15 v16 v17) p0 = some r) : Jn Try.prog Try.f13 Γ (Den.Ends Try.prog Try.f13 (R13 r)) 163839 ⟨100, [(2, .lptr 2 0 0), (7, .lptr 7 0 0), (8, .lptr 8 0 0)], [(2, { sz := 8, rows := [[.sl true (([] : List T_api_Const).map row_T_api_Const), dI 0, dI 0, dI 0, .sl true (([] : List Int).map rI64), .sl true (([] : List T_api_Member).map row_T_api_Member), .sl true (([] : List T_api_Member).map row_T_api_Member), .sl true (([] : List T_api_Attr).map row_T_api_Attr)]], frz := 0, pure := false }), (7, { sz := 3, rows := [[.str v17.1.f_s, dI v17.1.f_at, dI p0]], frz := 0, pure := false }), (8, { sz := 8, rows := [[.sl false (v1.1.map row_T_api_Const), dI v2.2, dI v3.2, dI v4.2, .lsl 1008 0 ((q0.2.2.2.map rI64).length), .sl false (v15.2.map row_T_api_Member), .sl false (v16.2.map row_T_api_Member), .sl false (v17.2.map row_T_api_Attr)]], frz := 0, pure := false }), (1008, { sz := 1, rows := (q0.2.2.2.map rI64), frz := 0, pure := true })]⟩ :=
  so <| go [] [] <| br h (fun h11 h => go [] [rgo 23 [] [0, 1, 2, 3, 4, 5, 6] [5, 3001, 4005, 3002, 3003, 3004, 10007] [(2, [1]), (3, [1, 2]), (4, [1, 2, 3]), (5, [0]), (6, [0, 1, 2, 3, 4, 5])]] <| rt h) fun h11 h =>
  go [] [] <| rtB h (.tup [.agg [.sl false (v1.1.map row_T_api_Const), dI v2.2, dI v3.2, dI v4.2, rw_ q0.2.2.2, .sl false (v15.2.map row_T_api_Member), .sl false (v16.2.map row_T_api_Member), .sl false (v17.2.map row_T_api_Attr)], dI 0]) (a2 (a2 trivial (a2 trivial (a2 trivial (a2 trivial (a2 (rpI q0.2.2.2) (a2 trivial (a2 trivial (a2 trivial trivial)))))))) (a2 trivial trivial)) (by simp only [rwE] <;> kernel_rfl)
theorem wj13x2 {q0 : ((List UInt8) × Int × Int × (List Int))} {v1 : (List T_api_Const) × Int × Int} {v2 v3 v4 : T_file_reader × Int} {v15 v16 : T_file_reader × (List T_api_Member)} {v17 : T_file_reader × (List T_api_Attr)} {r : T_api_File × Int} {Γ : Ctx} (h : (j13x2 q0 v1 v2 v3 v4 v15 v16 v17)  = some r) : Jn Try.prog Try.f13 Γ (Den.Ends Try.prog Try.f13 (R13 r)) 180223 ⟨100, [(2, .lptr 2 0 0), (7, .lptr 7 0 0), (8, .lptr 8 0 0)], [(2, { sz := 8, rows := [[.sl true (([] : List T_api_Const).map row_T_api_Const), dI 0, dI 0, dI 0, .sl true (([] : List Int).map rI64), .sl true (([] : List T_api_Member).map row_T_api_Member), .sl true (([] : List T_api_Member).map row_T_api_Member), .sl true (([] : List T_api_Attr).map row_T_api_Attr)]], frz := 0, pure := false }), (7, { sz := 3, rows := [row_T_file_reader v17.1], frz := 0, pure := false }), (8, { sz := 8, rows := [[.sl false (v1.1.map row_T_api_Const), dI v2.2, dI v3.2, dI v4.2, .lsl 1008 0 ((q0.2.2.2.map rI64).length), .sl false (v15.2.map row_T_api_Member), .sl false (v16.2.map row_T_api_Member), .sl false (v17.2.map row_T_api_Attr)]], frz := 0, pure := false }), (1008, { sz := 1, rows := (q0.2.2.2.map rI64), frz := 0, pure := true })]⟩ :=
  so <| go [22] [] <| jn (wj13x3 h)
theorem w13 {x0 : List UInt8} {r : T_api_File × Int} (h : m_file_Decode x0 = some r) : CallSpec Try.prog 13 [.str x0] (R13 r) :=
  cs Try.f13 <| go [] [] <| br h (fun h0 h => go [] [] <| rt h) fun h0 h =>
  bd h fun v0 e0 h => go [] [rg 3 [(1, k (w28 e0))]] <| br h (fun h1 h => go [] [] <| rt h) fun h1 h =>
    bd h fun v1 e1 h => go [] [rg 5 [(1, k (w29 e1))]] <| br h (fun h2 h => go [] [] <| rt h) fun h2 h =>
      bd h fun v2 e2 h => bd h fun v3 e3 h => bd h fun v4 e4 h => bd h fun v5 e5 h => go [] [rg 10 [(1, ko [31] (w30 e2))], rg 11 [(1, ko [31] (w30 e3))], rg 12 [(1, ko [31] (w30 e4))], rg 13 [(1, ko [31] (w31 e5))]] <| bd h fun q0 e15 h => lp (cv := [.blk 8 4 1008 1]) (ps := [(2, 2), (31, 7), (8, 8), (1008, 1008)]) e15 (wl13x1 v1 v2 v3 v4 x0) <| qe <| bd h fun v15 e16 h => bd h fun v16 e17 h => bd h fun v17 e18 h => sp h (fun h9 h => goN [] [rg 17 [(1, ko [7] (w32 e16))], rg 18 [(1, ko [7] (w32 e17))], rg 19 [(1, ko [7] (w33 e18))], rg 20 [(4, kb h9)]] <| br h (fun h10 h => go [21] [] <| jn (wj13x2 h)) fun h10 h =>
        go [22] [] <| jn (wj13x3 h)) fun h9 h =>
        goN [] [rg 17 [(1, ko [7] (w32 e16))], rg 18 [(1, ko [7] (w32 e17))], rg 19 [(1, ko [7] (w33 e18))], rg 20 [(4, kb h9)]] <| bF rfl <| go [22] [] <| jn (wj13x3 h)
/-! armature file.EncodedSize -/
def R12 (y0 : Int) : D := .int .i64 y0
def m_file_EncodedSize (x0 : T_api_File) : Option (Int) :=
  (m_file_Encode x0).bind fun v0 =>
  some (v0.1.length : Int)
theorem w12 {x0 : T_api_File} {r : Int} (h : m_file_EncodedSize x0 = some r) : CallSpec Try.prog 12 [.agg (row_T_api_File x0)] (R12 r) :=
  cs Try.f12 <| bd h fun v0 e0 h => go [] [rg 0 [(0, bo)], rg 1 [(1, k (w10 e0))]] <| rt h
/-! armature armaturelaw11.works -/
def R9 (y0 : Bool) : D := .bool y0
def m_armaturelaw11_works  : Option (Bool) :=
  (m_file_Encode ({ f_Pool := ([] : List T_api_Const), f_Flags := 0, f_This := 0, f_Super := 0, f_Interfaces := ([] : List Int), f_Fields := ([] : List T_api_Member), f_Methods := ([] : List T_api_Member), f_Attributes := ([] : List T_api_Attr) } : T_api_File)).bind fun v0 =>
  if ((v0.1.length : Int) != 22) = true then
    (some false) else
  ((m_file_Decode [65, 82, 77, 65, 0, 1, 0, 0, 0, 1, 0, 2, 0, 0, 0, 0, 0, 0, 0, 0, 0, 0]).bind fun v1 =>
    (sub v0.1 0 21).bind fun v2 =>
    (m_file_Decode v2).bind fun v3 =>
    if (v0.2 == 0) = true then (if (v1.1.f_Flags == 1) = true then (if (v1.1.f_This == 2) = true then (if (v1.2 == 0) = true then (if (v3.2 == 3) = true then ((m_file_EncodedSize ({ f_Pool := ([] : List T_api_Const), f_Flags := 0, f_This := 0, f_Super := 0, f_Interfaces := ([] : List Int), f_Fields := ([] : List T_api_Member), f_Methods := ([] : List T_api_Member), f_Attributes := ([] : List T_api_Attr) } : T_api_File)).bind fun v4 =>
              some (v4 == 22)) else
            (some false)) else
          (some false)) else
        (some false)) else
      (some false)) else
    (some false))
theorem w9  {r : Bool} (h : m_armaturelaw11_works = some r) : CallSpec Try.prog 9 [] (R9 r) :=
  cs Try.f9 <| bd h fun v0 e0 h => go [] [rg 1 [(1, k (w10 e0))]] <| br h (fun h0 h => go [] [] <| rt h) fun h0 h =>
  bd h fun v1 e1 h => bd h fun v2 e2 h => bd h fun v3 e3 h => go [6] [rg 4 [(0, k (w13 e1))], rg 5 [(1, ss e2), (2, k (w13 e3))]] <| po <| pr 3 [] <| sp h (fun h1 h => pr 5 [(3, gw h1 g0), (4, gw h1 g0), (5, gw h1 g0), (6, py h1)] <| sp h (fun h2 h => pr 5 [(8, gw h2 g0), (9, gw h2 g0), (10, gw h2 g0), (11, py h2)] <| sp h (fun h3 h => pr 4 [(13, gw h3 g0), (14, gw h3 g0), (15, py h3)] <| sp h (fun h4 h => pr 4 [(17, gw h4 g0), (18, gw h4 g0), (19, py h4)] <| sp h (fun h5 h => bd h fun v4 e4 h => pr 5 [(21, gw h5 g0), (22, gw h5 (k (w12 e4))), (23, gw h5 g0), (24, py h5)] <| pe <| goN [] [] <| rt h) fun h5 h =>
            pr 5 [(21, gs1 h5), (22, gs1 h5), (23, gs1 h5), (24, pn h5)] <| pe <| goN [] [] <| rt h) fun h4 h =>
          pr 9 [(17, gs1 h4), (18, gs1 h4), (19, pn h4)] <| pe <| goN [] [] <| rt h) fun h3 h =>
        pr 13 [(13, gs1 h3), (14, gs1 h3), (15, pn h3)] <| pe <| goN [] [] <| rt h) fun h2 h =>
      pr 18 [(8, gs1 h2), (9, gs1 h2), (10, gs1 h2), (11, pn h2)] <| pe <| goN [] [] <| rt h) fun h1 h =>
    pr 23 [(3, gs1 h1), (4, gs1 h1), (5, gs1 h1), (6, pn h1)] <| pe <| goN [] [] <| rt h
/-! armature armatureref05.member -/
def R91 (y0 : Bool) : D := .bool y0
def m_armatureref05_member (x0 : Int) : Option (Bool) :=
  if (x0 == 9) = true then (some true) else
  (if (x0 == 10) = true then (some true) else
    (some (x0 == 11)))
theorem w91 {x0 : Int} {r : Bool} (h : m_armatureref05_member x0 = some r) : CallSpec Try.prog 91 [dI x0] (R91 r) :=
  cs Try.f91 <| go [1] [] <| po <| pr 3 [] <| sp h (fun h0 h => pr 8 [(3, gs0 h0), (4, gs0 h0), (5, py h0)] <| pe <| goN [] [] <| rt h) fun h0 h =>
  pr 4 [(3, gw h0 g0), (4, gw h0 g0), (5, pn h0)] <| sp h (fun h1 h => pr 4 [(7, gs0 h1), (8, gs0 h1), (9, py h1)] <| pe <| goN [] [] <| rt h) fun h1 h =>
    pr 4 [(7, gw h1 g0), (8, gw h1 g0), (9, pn h1)] <| pe <| goN [] [] <| rt h
/-! armature armatureref05.Known -/
def R76 (y0 : Bool) : D := .bool y0
def m_armatureref05_Known (x0 : Int) : Option (Bool) :=
  if (x0 == 1) = true then (some true) else
  (if (x0 == 3) = true then (some true) else
    (if (x0 == 5) = true then (some true) else
      (if (x0 == 7) = true then (some true) else
        (if (x0 == 8) = true then (some true) else
          (if (x0 == 12) = true then (some true) else
            ((m_armatureref05_member x0).bind fun v0 =>
              some v0))))))
theorem w76 {x0 : Int} {r : Bool} (h : m_armatureref05_Known x0 = some r) : CallSpec Try.prog 76 [dI x0] (R76 r) :=
  cs Try.f76 <| go [1] [] <| po <| pr 3 [] <| sp h (fun h0 h => pr 24 [(3, gs0 h0), (4, gs0 h0), (5, py h0)] <| pe <| goN [] [] <| rt h) fun h0 h =>
  pr 4 [(3, gw h0 g0), (4, gw h0 g0), (5, pn h0)] <| sp h (fun h1 h => pr 20 [(7, gs0 h1), (8, gs0 h1), (9, py h1)] <| pe <| goN [] [] <| rt h) fun h1 h =>
    pr 4 [(7, gw h1 g0), (8, gw h1 g0), (9, pn h1)] <| sp h (fun h2 h => pr 16 [(11, gs0 h2), (12, gs0 h2), (13, py h2)] <| pe <| goN [] [] <| rt h) fun h2 h =>
      pr 4 [(11, gw h2 g0), (12, gw h2 g0), (13, pn h2)] <| sp h (fun h3 h => pr 12 [(15, gs0 h3), (16, gs0 h3), (17, py h3)] <| pe <| goN [] [] <| rt h) fun h3 h =>
        pr 4 [(15, gw h3 g0), (16, gw h3 g0), (17, pn h3)] <| sp h (fun h4 h => pr 8 [(19, gs0 h4), (20, gs0 h4), (21, py h4)] <| pe <| goN [] [] <| rt h) fun h4 h =>
          pr 4 [(19, gw h4 g0), (20, gw h4 g0), (21, pn h4)] <| sp h (fun h5 h => pr 4 [(23, gs0 h5), (24, gs0 h5), (25, py h5)] <| pe <| goN [] [] <| rt h) fun h5 h =>
            bd h fun v0 e0 h => pr 4 [(23, gw h5 g0), (24, gw h5 (k (w91 e0))), (25, pn h5)] <| pe <| goN [] [] <| rt h
/-! armature armatureref05.formed -/
def R77 (y0 : Bool) : D := .bool y0
def j77x2 (x0 : T_api_Const) (p0 : Bool) : Option (Bool) :=
  if p0 = true then (some true) else
  (if (x0.f_Tag == 7) = true then (some (x0.f_B == 0)) else
    (if (x0.f_Tag == 8) = true then (some (x0.f_B == 0)) else
      (if (x0.f_A == 0) = true then (some (x0.f_B == 0)) else
        (some false))))
def j77x1 (x0 : T_api_Const) : Option (Bool) :=
  if (x0.f_Tag == 12) = true then ((j77x2 x0) true) else
  ((m_armatureref05_member x0.f_Tag).bind fun v0 =>
  (j77x2 x0) v0)
def m_armatureref05_formed (x0 : T_api_Const) : Option (Bool) :=
  if (x0.f_Tag != 1) = true then (if (!(x0.f_S == ([] : List UInt8))) = true then (some false) else
    (if (x0.f_Tag != 3) = true then (if (x0.f_Tag != 5) = true then (if (x0.f_N != 0) = true then
            (some false) else
          ((j77x1 x0) )) else
        ((j77x1 x0) )) else
      ((j77x1 x0) ))) else
  (if (x0.f_Tag != 3) = true then (if (x0.f_Tag != 5) = true then (if (x0.f_N != 0) = true then
          (some false) else
        ((j77x1 x0) )) else
      ((j77x1 x0) )) else
    ((j77x1 x0) ))
theorem wj77x2 {x0 : T_api_Const} {p0 : Bool} {r : Bool} {Γ : Ctx} (h : (j77x2 x0) p0 = some r) : Jn Try.prog Try.f77 Γ (Den.Ends Try.prog Try.f77 (R77 r)) 47 ⟨57, [(1, .ptr (row_T_api_Const x0)), (3, dI x0.f_Tag), (4, .bool p0)], []⟩ :=
  po <| pr 2 [] <| sp h (fun h9 h => pr 8 [(2, gs0 h9), (3, gs0 h9), (4, py h9)] <| pe <| goN [6] [] <| po <| pr 15 [(9, gs0 h9), (10, gs0 h9), (11, gs0 h9), (12, py h9)] <| pe <| goN [] [] <| rt h) fun h9 h =>
  pr 4 [(2, gw h9 g0), (3, gw h9 g0), (4, pn h9)] <| sp h (fun h10 h => pr 4 [(6, gs0 h10), (7, gs0 h10), (8, py h10)] <| pe <| goN [6] [] <| po <| pr 15 [(9, gw h9 g0), (10, gw h9 g0), (11, gw h9 g0), (12, pn h9)] <| pe <| goN [] [] <| rt h) fun h10 h =>
    pr 4 [(6, gw h10 g0), (7, gw h10 g0), (8, pn h10)] <| pe <| goN [6] [] <| po <| pr 2 [] <| sp h (fun h11 h => pr 13 [(2, gs0 h11), (3, gs0 h11), (4, gs0 h11), (5, py h11), (9, gw h9 g0), (10, gw h9 g0), (11, gw h9 g0), (12, pn h9)] <| pe <| goN [] [] <| rt h) fun h11 h =>
      pr 5 [(2, gw h11 g0), (3, gw h11 g0), (4, gw h11 g0), (5, pn h11)] <| sp h (fun h12 h => pr 8 [(7, gw h12 g0), (8, gw h12 g0), (9, gw h9 g0), (10, gw h9 g0), (11, gw h9 g0), (12, gw h12 (pn h9)), (13, py h12)] <| pe <| goN [] [] <| rt h) fun h12 h =>
        pr 8 [(7, gs1 h12), (8, gs1 h12), (12, gs1 h12), (13, pn h12)] <| pe <| goN [] [] <| rt h
theorem wj77x1 {x0 : T_api_Const} {r : Bool} {Γ : Ctx} (h : (j77x1 x0)  = some r) : Jn Try.prog Try.f77 Γ (Den.Ends Try.prog Try.f77 (R77 r)) 23 ⟨57, [(1, .ptr (row_T_api_Const x0)), (3, dI x0.f_Tag)], []⟩ :=
  so <| sp h (fun h8 h => go [5] [rg 4 [(1, kb h8)]] <| jn (wj77x2 h)) fun h8 h =>
  bd h fun v0 e0 h => go [5] [rg 4 [(1, kb h8), (4, k (w91 e0))]] <| jn (wj77x2 h)
theorem w77 {x0 : T_api_Const} {r : Bool} (h : m_armatureref05_formed x0 = some r) : CallSpec Try.prog 77 [.agg (row_T_api_Const x0)] (R77 r) :=
  cs Try.f77 <| go [2] [rg 0 [(0, bo)]] <| po <| pr 3 [] <| sp h (fun h0 h => pr 5 [(3, gw h0 g0), (4, gw h0 g0), (5, gw h0 g0), (6, py h0)] <| sp h (fun h1 h => pr 12 [(8, gs0 h1), (9, gs0 h1), (10, gs0 h1), (13, gs0 h1), (14, gs0 h1), (18, gs0 h1), (19, py h1)] <| pe <| goN [] [] <| bT rfl <| go [] [] <| rt h) fun h1 h =>
    pr 3 [(8, gw h1 g0), (9, gw h1 g0), (10, gw h1 g0)] <| sp h (fun h2 h => pr 4 [(11, gw h2 g0), (12, gw h2 g0), (13, gw h1 (py h2)), (14, gw h1 g0)] <| sp h (fun h3 h => pr 5 [(15, gw h3 g0), (16, gw h3 g0), (17, gw h3 g0), (18, gw h1 (py h3)), (19, pn h1)] <| pe <| goN [] [] <| br h (fun h4 h => go [] [] <| rt h) fun h4 h =>
          go [4] [] <| jn (wj77x1 h)) fun h3 h =>
        pr 5 [(15, gs1 h3), (16, gs1 h3), (17, gs1 h3), (18, gw h1 (pn h3)), (19, pn h1)] <| pe <| goN [] [] <| bF rfl <| go [4] [] <| jn (wj77x1 h)) fun h2 h =>
      pr 9 [(11, gs1 h2), (12, gs1 h2), (13, gw h1 (pn h2)), (14, gw h1 g0), (18, gw h1 g0), (19, pn h1)] <| pe <| goN [] [] <| bF rfl <| go [4] [] <| jn (wj77x1 h)) fun h0 h =>
  pr 8 [(3, gs1 h0), (4, gs1 h0), (5, gs1 h0), (6, pn h0)] <| sp h (fun h5 h => pr 4 [(11, gw h5 g0), (12, gw h5 g0), (13, py h5)] <| sp h (fun h6 h => pr 5 [(15, gw h6 g0), (16, gw h6 g0), (17, gw h6 g0), (18, py h6)] <| pe <| goN [] [] <| br h (fun h7 h => go [] [] <| rt h) fun h7 h =>
        go [4] [] <| jn (wj77x1 h)) fun h6 h =>
      pr 5 [(15, gs1 h6), (16, gs1 h6), (17, gs1 h6), (18, pn h6)] <| pe <| goN [] [] <| bF rfl <| go [4] [] <| jn (wj77x1 h)) fun h5 h =>
    pr 9 [(11, gs1 h5), (12, gs1 h5), (13, pn h5)] <| pe <| goN [] [] <| bF rfl <| go [4] [] <| jn (wj77x1 h)
/-! armature armatureref05.At -/
def R111 (y0 : T_api_Const × Int) : D := .tup [.agg (row_T_api_Const y0.1), .int .i64 y0.2]
def m_armatureref05_At (x0 : List T_api_Const) (x1 : Int) : Option (T_api_Const × Int) :=
  if (decide (x1 < 1)) = true then (some (({ f_Tag := 0, f_S := [], f_N := 0, f_A := 0, f_B := 0 } : T_api_Const), 2)) else
  (if (decide (x1 > (x0.length : Int))) = true then
    (some (({ f_Tag := 0, f_S := [], f_N := 0, f_A := 0, f_B := 0 } : T_api_Const), 2)) else
  ((some (IntKind.wrap .i64 (x1 - (1 : Int)))).bind fun v0 =>
    (getR x0 v0).bind fun v1 =>
    some (v1, 0)))
theorem w111 {x0 : List T_api_Const} {x1 : Int} {r : T_api_Const × Int} (h : m_armatureref05_At x0 x1 = some r) : CallSpec Try.prog 111 [.sl false (x0.map row_T_api_Const), dI x1] (R111 r) :=
  cs Try.f111 <| sp h (fun h0 h => go [] [rg 1 [(1, kb h0)]] <| bT rfl <| go [] [] <| rt h) fun h0 h =>
  go [] [rg 1 [(1, kb h0), (5, ln x0)]] <| br h (fun h1 h => go [] [] <| rt h) fun h1 h =>
  bd h fun v0 e0 h => bd h fun v1 e1 h => go [] [rg 3 [(2, n e0), (3, ix e1)]] <| rt h
/-! armature armatureref05.get -/
def R103 (y0 : T_api_Const × Int) : D := .tup [.agg (row_T_api_Const y0.1), .int .i64 y0.2]
def m_armatureref05_get (x0 : List T_api_Const) (x1 x2 : Int) : Option (T_api_Const × Int) :=
  (m_armatureref05_At x0 x1).bind fun v0 =>
  if (v0.2 != 0) = true then
    (some (({ f_Tag := 0, f_S := [], f_N := 0, f_A := 0, f_B := 0 } : T_api_Const), v0.2)) else
  (if (v0.1.f_Tag != x2) = true then
      (some (({ f_Tag := 0, f_S := [], f_N := 0, f_A := 0, f_B := 0 } : T_api_Const), 11)) else
    (some (v0.1, 0)))
theorem w103 {x0 : List T_api_Const} {x1 x2 : Int} {r : T_api_Const × Int} (h : m_armatureref05_get x0 x1 x2 = some r) : CallSpec Try.prog 103 [.sl false (x0.map row_T_api_Const), dI x1, dI x2] (R103 r) :=
  cs Try.f103 <| bd h fun v0 e0 h => go [] [rg 1 [(2, k (w111 e0))]] <| br h (fun h0 h => go [] [] <| rt h) fun h0 h =>
  go [] [] <| br h (fun h1 h => go [] [] <| rt h) fun h1 h =>
    go [] [] <| rt h
/-! armature armatureref05.refers -/
def R92 (y0 : Int) : D := .int .i64 y0
def m_armatureref05_refers (x0 : List T_api_Const) (x1 x2 : Int) : Option (Int) :=
  (m_armatureref05_get x0 x1 x2).bind fun v0 =>
  some v0.2
theorem w92 {x0 : List T_api_Const} {x1 x2 : Int} {r : Int} (h : m_armatureref05_refers x0 x1 x2 = some r) : CallSpec Try.prog 92 [.sl false (x0.map row_T_api_Const), dI x1, dI x2] (R92 r) :=
  cs Try.f92 <| bd h fun v0 e0 h => go [] [rg 1 [(3, k (w103 e0))]] <| rt h
/-! armature armatureref05.both -/
def R78 (y0 : Int) : D := .int .i64 y0
def j78x2 (p1 : Int) (x0 : List T_api_Const) (x1 : T_api_Const) : Option (Int) :=
  (m_armatureref05_refers x0 x1.f_B p1).bind fun v2 =>
  some v2
def j78x1 (x0 : List T_api_Const) (x1 : T_api_Const) (p0 p1 : Int) : Option (Int) :=
  (m_armatureref05_refers x0 x1.f_A p0).bind fun v1 =>
  if (v1 != 0) = true then
    (some v1) else
  (if (x1.f_Tag == 7) = true then (some 0) else
    (if (x1.f_Tag == 8) = true then
      (some 0) else
    ((j78x2 p1 x0 x1) )))
def m_armatureref05_both (x0 : List T_api_Const) (x1 : T_api_Const) : Option (Int) :=
  (m_armatureref05_member x1.f_Tag).bind fun v0 =>
  if v0 = true then
    ((j78x1 x0 x1) 7 12) else
  ((j78x1 x0 x1) 1 1)
theorem wj78x2 {p1 : Int} {x0 : List T_api_Const} {x1 : T_api_Const} {r : Int} {Γ : Ctx} (h : (j78x2 p1 x0 x1)  = some r) : Jn Try.prog Try.f78 Γ (Den.Ends Try.prog Try.f78 (R78 r)) 95 ⟨32, [(0, .sl false (x0.map row_T_api_Const)), (3, .ptr (row_T_api_Const x1)), (6, dI p1)], []⟩ :=
  so <| bd h fun v2 e2 h => go [] [rg 9 [(4, k (w92 e2))]] <| rt h
theorem wj78x1 {x0 : List T_api_Const} {x1 : T_api_Const} {p0 p1 : Int} {r : Int} {Γ : Ctx} (h : (j78x1 x0 x1) p0 p1 = some r) : Jn Try.prog Try.f78 Γ (Den.Ends Try.prog Try.f78 (R78 r)) 39 ⟨32, [(0, .sl false (x0.map row_T_api_Const)), (3, .ptr (row_T_api_Const x1)), (5, dI p0), (6, dI p1)], []⟩ :=
  so <| bd h fun v1 e1 h => go [] [rg 4 [(4, k (w92 e1))]] <| br h (fun h1 h => go [] [] <| rt h) fun h1 h =>
  sp h (fun h2 h => go [] [rg 7 [(2, kb h2)]] <| bT rfl <| go [] [] <| rt h) fun h2 h =>
    go [] [rg 7 [(2, kb h2)]] <| br h (fun h3 h => go [] [] <| rt h) fun h3 h =>
    go [9] [] <| jn (wj78x2 h)
theorem w78 {x0 : List T_api_Const} {x1 : T_api_Const} {r : Int} (h : m_armatureref05_both x0 x1 = some r) : CallSpec Try.prog 78 [.sl false (x0.map row_T_api_Const), .agg (row_T_api_Const x1)] (R78 r) :=
  cs Try.f78 <| bd h fun v0 e0 h => go [] [rg 0 [(0, bo)], rg 2 [(2, k (w91 e0))]] <| br h (fun h0 h => go [4] [] <| jn (wj78x1 h)) fun h0 h =>
  go [4] [] <| jn (wj78x1 h)
/-! armature armatureref05.UTF8 -/
def R93 (y0 : (List UInt8) × Int) : D := .tup [.str y0.1, .int .i64 y0.2]
def m_armatureref05_UTF8 (x0 : List T_api_Const) (x1 : Int) : Option ((List UInt8) × Int) :=
  (m_armatureref05_get x0 x1 1).bind fun v0 =>
  some (v0.1.f_S, v0.2)
theorem w93 {x0 : List T_api_Const} {x1 : Int} {r : (List UInt8) × Int} (h : m_armatureref05_UTF8 x0 x1 = some r) : CallSpec Try.prog 93 [.sl false (x0.map row_T_api_Const), dI x1] (R93 r) :=
  cs Try.f93 <| bd h fun v0 e0 h => go [] [rg 1 [(2, k (w103 e0))]] <| rt h
/-! armature armatureref03.letter -/
def R113 (y0 : Bool) : D := .bool y0
def m_armatureref03_letter (x0 : Int) : Option (Bool) :=
  if (decide (x0 ≥ 97)) = true then (if (decide (x0 ≤ 122)) = true then (some true) else
    (if (decide (x0 ≥ 65)) = true then (if (decide (x0 ≤ 90)) = true then (some true) else
        (if (x0 == 95) = true then (some true) else
          (some (x0 == 36)))) else
      (if (x0 == 95) = true then (some true) else
        (some (x0 == 36))))) else
  (if (decide (x0 ≥ 65)) = true then (if (decide (x0 ≤ 90)) = true then (some true) else
      (if (x0 == 95) = true then (some true) else
        (some (x0 == 36)))) else
    (if (x0 == 95) = true then (some true) else
      (some (x0 == 36))))
theorem w113 {x0 : Int} {r : Bool} (h : m_armatureref03_letter x0 = some r) : CallSpec Try.prog 113 [d8 x0] (R113 r) :=
  cs Try.f113 <| go [1] [] <| po <| pr 3 [] <| sp h (fun h0 h => pr 4 [(3, gw h0 g0), (4, gw h0 g0), (5, py h0)] <| sp h (fun h1 h => pr 16 [(7, gs0 h1), (8, gs0 h1), (9, gs0 h1), (12, gs0 h1), (13, py h1)] <| pe <| goN [] [] <| rt h) fun h1 h =>
    pr 3 [(7, gw h1 g0), (8, gw h1 g0), (9, gw h1 g0)] <| sp h (fun h2 h => pr 5 [(10, gw h2 g0), (11, gw h2 g0), (12, gw h1 (py h2)), (13, pn h1)] <| sp h (fun h3 h => pr 8 [(15, gs0 h3), (16, gs0 h3), (17, py h3)] <| pe <| goN [] [] <| rt h) fun h3 h =>
        pr 4 [(15, gw h3 g0), (16, gw h3 g0), (17, pn h3)] <| sp h (fun h4 h => pr 4 [(19, gs0 h4), (20, gs0 h4), (21, py h4)] <| pe <| goN [] [] <| rt h) fun h4 h =>
          pr 4 [(19, gw h4 g0), (20, gw h4 g0), (21, pn h4)] <| pe <| goN [] [] <| rt h) fun h2 h =>
      pr 9 [(10, gs1 h2), (11, gs1 h2), (12, gw h1 (pn h2)), (13, pn h1)] <| sp h (fun h5 h => pr 4 [(19, gs0 h5), (20, gs0 h5), (21, py h5)] <| pe <| goN [] [] <| rt h) fun h5 h =>
        pr 4 [(19, gw h5 g0), (20, gw h5 g0), (21, pn h5)] <| pe <| goN [] [] <| rt h) fun h0 h =>
  pr 7 [(3, gs1 h0), (4, gs1 h0), (5, pn h0)] <| sp h (fun h6 h => pr 5 [(10, gw h6 g0), (11, gw h6 g0), (12, py h6)] <| sp h (fun h7 h => pr 8 [(15, gs0 h7), (16, gs0 h7), (17, py h7)] <| pe <| goN [] [] <| rt h) fun h7 h =>
      pr 4 [(15, gw h7 g0), (16, gw h7 g0), (17, pn h7)] <| sp h (fun h8 h => pr 4 [(19, gs0 h8), (20, gs0 h8), (21, py h8)] <| pe <| goN [] [] <| rt h) fun h8 h =>
        pr 4 [(19, gw h8 g0), (20, gw h8 g0), (21, pn h8)] <| pe <| goN [] [] <| rt h) fun h6 h =>
    pr 9 [(10, gs1 h6), (11, gs1 h6), (12, pn h6)] <| sp h (fun h9 h => pr 4 [(19, gs0 h9), (20, gs0 h9), (21, py h9)] <| pe <| goN [] [] <| rt h) fun h9 h =>
      pr 4 [(19, gw h9 g0), (20, gw h9 g0), (21, pn h9)] <| pe <| goN [] [] <| rt h
/-! armature armatureref03.part -/
def R106 (y0 : Bool) : D := .bool y0
def l106x1 (x0 : List UInt8) (t0 : Int) : Option (Ctl (Int) (Unit ⊕ Bool)) :=
  if (decide (t0 < (x0.length : Int))) = true then
    ((getS x0 t0).bind fun v2 =>
    (m_armatureref03_letter v2).bind fun v3 =>
    if (!v3) = true then (if (t0 == 0) = true then (some (.done (.inr false))) else
      ((getS x0 t0).bind fun v4 =>
        if (decide (v4 < 48)) = true then (some (.done (.inr false))) else
        ((getS x0 t0).bind fun v5 =>
          if (decide (v5 > 57)) = true then
            (some (.done (.inr false))) else
          ((some (IntKind.wrap .i64 (t0 + (1 : Int)))).bind fun v6 =>
            some (.next v6))))) else
    ((some (IntKind.wrap .i64 (t0 + (1 : Int)))).bind fun v7 =>
      some (.next v7))) else
  (some (.done (.inl (()))))
def m_armatureref03_part (x0 : List UInt8) : Option (Bool) :=
  (loopM (l106x1 x0) rounds 0).bind fun q1 =>
  match q1 with
  | .inl q0 => (some (decide ((x0.length : Int) > 0)))
  | .inr y0 => (some y0)
def st106x1 (x0 : List UInt8) : Int → SL :=
  fun t0 => ⟨34, [(0, .str x0), (3, dI t0)], []⟩
def J106x1 (x0 : List UInt8) : JT (Unit ⊕ Bool) :=
  ju (je 0 fun q0 : Unit => ⟨34, [(0, .str x0)], []⟩) (jr Try.prog Try.f106 R106)
theorem wl106x1 {x0 : List UInt8} {t0 : Int} {r : Ctl (Int) (Unit ⊕ Bool)} {Γ : Ctx} (h : (l106x1 x0) t0 = some r) : A Try.prog Γ (lpC Try.f106 21) [] (Rd (st106x1 x0) (J106x1 x0) r) ((st106x1 x0) t0).s :=
  go [] [] <| br h (fun h2 h => go [4] [] <| po <| bd h fun v2 e2 h => bd h fun v3 e3 h => pr 6 [(2, ib e2), (3, k (w113 e3))] <| sp h (fun h3 h => pr 3 [(6, gw h3 g0), (7, gw h3 g0), (8, gw h3 g0)] <| sp h (fun h4 h => pr 12 [(9, gs0 h4), (10, gs0 h4), (11, gs0 h4), (12, gs0 h4), (13, gw h3 (py h4)), (14, gw h3 g0), (19, gw h3 g0), (20, py h3)] <| pe <| goN [] [] <| bT rfl <| go [] [] <| dn h (i2 iR)) fun h4 h =>
      bd h fun v4 e4 h => pr 6 [(9, gw h4 g0), (10, gw h4 g0), (11, gw h4 (ib e4)), (12, gw h4 g0), (13, gw h3 (pn h4)), (14, gw h3 g0)] <| sp h (fun h5 h => pr 6 [(15, gs0 h5), (16, gs0 h5), (17, gs0 h5), (18, gs0 h5), (19, gw h3 (py h5)), (20, py h3)] <| pe <| goN [] [] <| bT rfl <| go [] [] <| dn h (i2 iR)) fun h5 h =>
        bd h fun v5 e5 h => pr 6 [(15, gw h5 g0), (16, gw h5 g0), (17, gw h5 (ib e5)), (18, gw h5 g0), (19, gw h3 (pn h5)), (20, py h3)] <| pe <| goN [] [] <| br h (fun h6 h => go [] [] <| dn h (i2 iR)) fun h6 h =>
          bd h fun v6 e6 h => go [] [rg 3 [(1, n e6)]] <| nx h) fun h3 h =>
    pr 15 [(6, gs1 h3), (7, gs1 h3), (8, gs1 h3), (13, gs1 h3), (14, gs1 h3), (19, gs1 h3), (20, pn h3)] <| pe <| goN [] [] <| bF rfl <| bd h fun v7 e7 h => go [] [rg 3 [(1, n e7)]] <| nx h) fun h2 h =>
  go [] [] <| dn h (i1 iE)
theorem w106 {x0 : List UInt8} {r : Bool} (h : m_armatureref03_part x0 = some r) : CallSpec Try.prog 106 [.str x0] (R106 r) :=
  cs Try.f106 <| go [] [] <| bd h fun q1 e8 h => lp e8 wl106x1 <| match q1, h with
  | .inl q0, h => j1 <| (qe <| goN [] [] <| rt h)
  | .inr y0, h => j2 <| (qr h)
/-! armature armatureref03.IsClassName -/
def R104 (y0 : Bool) : D := .bool y0
def l104x1 (x0 : List UInt8) (t0 : Int × Int) : Option (Ctl (Int × Int) (Int ⊕ Bool)) :=
  if (decide (t0.2 < (x0.length : Int))) = true then
    ((getS x0 t0.2).bind fun v3 =>
    if (v3 == 47) = true then
      ((sub x0 t0.1 t0.2).bind fun v4 =>
      (m_armatureref03_part v4).bind fun v5 =>
      if (!v5) = true then
        (some (.done (.inr false))) else
      ((some (IntKind.wrap .i64 (t0.2 + (1 : Int)))).bind fun v6 =>
        (some (IntKind.wrap .i64 (t0.2 + (1 : Int)))).bind fun v7 =>
        some (.next (v6, v7)))) else
    ((some (IntKind.wrap .i64 (t0.2 + (1 : Int)))).bind fun v8 =>
      some (.next (t0.1, v8)))) else
  (some (.done (.inl (t0.1))))
def m_armatureref03_IsClassName (x0 : List UInt8) : Option (Bool) :=
  if (decide ((x0.length : Int) > 64)) = true then
    (some false) else
  ((loopM (l104x1 x0) rounds (0, 0)).bind fun q1 =>
    match q1 with
    | .inl q0 => ((sub x0 q0 (x0.length : Int)).bind fun v9 =>
      (m_armatureref03_part v9).bind fun v10 =>
      some v10)
    | .inr y0 => (some y0))
def st104x1 (x0 : List UInt8) : (Int × Int) → SL :=
  fun t0 => ⟨30, [(0, .str x0), (3, dI t0.1), (4, dI t0.2)], []⟩
def J104x1 (x0 : List UInt8) : JT (Int ⊕ Bool) :=
  ju (je 0 fun q0 : Int => ⟨30, [(0, .str x0), (3, dI q0)], []⟩) (jr Try.prog Try.f104 R104)
theorem wl104x1 {x0 : List UInt8} {t0 : Int × Int} {r : Ctl (Int × Int) (Int ⊕ Bool)} {Γ : Ctx} (h : (l104x1 x0) t0 = some r) : A Try.prog Γ (lpC Try.f104 87) [] (Rd (st104x1 x0) (J104x1 x0) r) ((st104x1 x0) t0).s :=
  go [] [] <| br h (fun h4 h => bd h fun v3 e3 h => go [] [rg 7 [(2, ib e3)]] <| br h (fun h5 h => bd h fun v4 e4 h => bd h fun v5 e5 h => go [] [rg 8 [(3, ss e4), (4, k (w106 e5))]] <| br h (fun h6 h => go [] [] <| dn h (i2 iR)) fun h6 h =>
      bd h fun v6 e6 h => bd h fun v7 e7 h => go [] [rg 10 [(1, n e6)], rg 6 [(1, n e7)]] <| nx h) fun h5 h =>
    bd h fun v8 e8 h => go [] [rg 6 [(1, n e8)]] <| nx h) fun h4 h =>
  go [] [] <| dn h (i1 iE)
theorem w104 {x0 : List UInt8} {r : Bool} (h : m_armatureref03_IsClassName x0 = some r) : CallSpec Try.prog 104 [.str x0] (R104 r) :=
  cs Try.f104 <| go [] [] <| br h (fun h0 h => go [] [] <| rt h) fun h0 h =>
  go [] [] <| bd h fun q1 e9 h => lp e9 wl104x1 <| match q1, h with
    | .inl q0, h => j1 <| (qe <| bd h fun v9 e10 h => bd h fun v10 e11 h => goN [] [rg 11 [(2, ss e10), (3, k (w106 e11))]] <| rt h)
    | .inr y0, h => j2 <| (qr h)
/-! armature armatureref04.Valid -/
def R115 (y0 : Bool) : D := .bool y0
def j115x3 (x0 : T_api_Type) : Option (Bool) :=
  if (x0.f_Base == 86) = true then
    (if (x0.f_Name == ([] : List UInt8)) = true then (some (x0.f_Dim == 0)) else
    (some false)) else
  (if (x0.f_Base == 76) = true then
      ((m_armatureref03_IsClassName x0.f_Name).bind fun v0 =>
      some v0) else
    (some false))
def j115x2 (x0 : T_api_Type) : Option (Bool) :=
  if (x0.f_Base == 74) = true then
    (some (x0.f_Name == ([] : List UInt8))) else
  ((j115x3 x0) )
def j115x1 (x0 : T_api_Type) : Option (Bool) :=
  if (x0.f_Base == 73) = true then
    (some (x0.f_Name == ([] : List UInt8))) else
  ((j115x2 x0) )
def m_armatureref04_Valid (x0 : T_api_Type) : Option (Bool) :=
  if (decide (x0.f_Dim < 0)) = true then (some false) else
  (if (decide (x0.f_Dim > 8)) = true then
    (some false) else
  ((j115x1 x0) ))
theorem wj115x3 {x0 : T_api_Type} {r : Bool} {Γ : Ctx} (h : (j115x3 x0)  = some r) : Jn Try.prog Try.f115 Γ (Den.Ends Try.prog Try.f115 (R115 r)) 363 ⟨34, [(1, .ptr (row_T_api_Type x0)), (12, d8 x0.f_Base)], []⟩ :=
  so <| go [] [] <| br h (fun h4 h => sp h (fun h5 h => go [] [rg 8 [(2, kb h5)]] <| rt h) fun h5 h =>
    go [] [rg 8 [(2, kb h5)]] <| rt h) fun h4 h =>
  go [] [] <| br h (fun h6 h => bd h fun v0 e0 h => go [] [rg 10 [(2, k (w104 e0))]] <| rt h) fun h6 h =>
    go [] [] <| rt h
theorem wj115x2 {x0 : T_api_Type} {r : Bool} {Γ : Ctx} (h : (j115x2 x0)  = some r) : Jn Try.prog Try.f115 Γ (Den.Ends Try.prog Try.f115 (R115 r)) 107 ⟨34, [(1, .ptr (row_T_api_Type x0)), (12, d8 x0.f_Base), (13, .bool (x0.f_Base == 74))], []⟩ (x0.f_Base == 74) :=
  br h (fun h3 h => go [] [] <| rt h) fun h3 h =>
  go [7] [] <| jn (wj115x3 h)
theorem wj115x1 {x0 : T_api_Type} {r : Bool} {Γ : Ctx} (h : (j115x1 x0)  = some r) : Jn Try.prog Try.f115 Γ (Den.Ends Try.prog Try.f115 (R115 r)) 19 ⟨34, [(1, .ptr (row_T_api_Type x0))], []⟩ :=
  so <| go [] [] <| br h (fun h2 h => go [] [] <| bT h2 <| go [] [] <| rt h) fun h2 h =>
  go [] [] <| jn (wj115x2 h)
theorem w115 {x0 : T_api_Type} {r : Bool} (h : m_armatureref04_Valid x0 = some r) : CallSpec Try.prog 115 [.agg (row_T_api_Type x0)] (R115 r) :=
  cs Try.f115 <| sp h (fun h0 h => go [] [rg 0 [(0, bo)], rg 1 [(2, kb h0)]] <| bT rfl <| go [] [] <| rt h) fun h0 h =>
  go [] [rg 0 [(0, bo)], rg 1 [(2, kb h0)]] <| br h (fun h1 h => go [] [] <| rt h) fun h1 h =>
  go [3] [] <| jn (wj115x1 h)
/-! armature armatureref04.take -/
def R112 (y0 : T_api_Type × Int) : D := .tup [.agg (row_T_api_Type y0.1), .int .i64 y0.2]
def j112x1 (t0 : Int × Int) : Option (Ctl (Int × Int) ((Int × Int))) :=
  (some (IntKind.wrap .i64 (t0.2 + (1 : Int)))).bind fun v3 =>
  (some (IntKind.wrap .i64 (t0.1 + (1 : Int)))).bind fun v4 =>
  some (.next (v4, v3))
def l112x1 (x0 : List UInt8) (t0 : Int × Int) : Option (Ctl (Int × Int) ((Int × Int))) :=
  if (decide (t0.1 < (x0.length : Int))) = true then ((getS x0 t0.1).bind fun v2 =>
  if (v2 == 91) = true then
    ((j112x1 t0) ) else
  (some (.done ((t0.2, t0.1))))) else
  (some (.done ((t0.2, t0.1))))
def l112x2 (x0 : List UInt8) (t1 : Int) : Option (Ctl (Int) (Int)) :=
  if (decide (t1 < (x0.length : Int))) = true then ((getS x0 t1).bind fun v9 =>
  if (v9 != 59) = true then
    ((some (IntKind.wrap .i64 (t1 + (1 : Int)))).bind fun v10 =>
    some (.next v10)) else
  (some (.done (t1)))) else
  (some (.done (t1)))
def j112x2 (q0 : (Int × Int)) (v5 : Int) (p0 : List UInt8) (p1 : Int) : Option (T_api_Type × Int) :=
  (m_armatureref04_Valid ({ f_Dim := q0.1, f_Base := v5, f_Name := p0 } : T_api_Type)).bind fun v13 =>
  if (!v13) = true then
    (some (({ f_Dim := 0, f_Base := 0, f_Name := [] } : T_api_Type), (-1))) else
  (some (({ f_Dim := q0.1, f_Base := v5, f_Name := p0 } : T_api_Type), p1))
def m_armatureref04_take (x0 : List UInt8) (x1 : Int) : Option (T_api_Type × Int) :=
  (loopM (l112x1 x0) rounds (x1, 0)).bind fun q0 =>
  if (decide (q0.2 ≥ (x0.length : Int))) = true then
    (some (({ f_Dim := 0, f_Base := 0, f_Name := [] } : T_api_Type), (-1))) else
  ((getS x0 q0.2).bind fun v5 =>
    (some (IntKind.wrap .i64 (q0.2 + (1 : Int)))).bind fun v6 =>
    if (v5 == 76) = true then
      ((loopM (l112x2 x0) rounds v6).bind fun q2 =>
      if (decide (q2 ≥ (x0.length : Int))) = true then
        (some (({ f_Dim := 0, f_Base := 0, f_Name := [] } : T_api_Type), (-1))) else
      ((sub x0 v6 q2).bind fun v11 =>
        (some (IntKind.wrap .i64 (q2 + (1 : Int)))).bind fun v12 =>
        (j112x2 q0 v5) v11 v12)) else
    ((j112x2 q0 v5) [] v6))
def st112x1 (x0 : List UInt8) : (Int × Int) → SL :=
  fun t0 => ⟨70, [(0, .str x0), (1, dI t0.1), (4, .lptr 4 0 0), (6, .lptr 6 0 0)], [(4, { sz := 3, rows := [[dI 0, d8 0, .str []]], frz := 0, pure := false }), (6, { sz := 3, rows := [[dI t0.2, d8 0, .str []]], frz := 0, pure := false })]⟩
def J112x1 (x0 : List UInt8) : JT ((Int × Int)) :=
  je 0 fun q0 : Int × Int => ⟨70, [(0, .str x0), (1, dI q0.2), (4, .lptr 4 0 0), (6, .lptr 6 0 0)], [(4, { sz := 3, rows := [[dI 0, d8 0, .str []]], frz := 0, pure := false }), (6, { sz := 3, rows := [[dI q0.1, d8 0, .str []]], frz := 0, pure := false })]⟩
theorem wj112x1 (x0 : List UInt8) {t0 : Int × Int} {r : Ctl (Int × Int) ((Int × Int))} {Γ : Ctx} (h : (j112x1 t0)  = some r) : Jn Try.prog Try.f112 Γ (Rd (st112x1 x0) (J112x1 x0) r) 291 ⟨70, [(0, .str x0), (1, dI t0.1), (4, .lptr 4 0 0), (6, .lptr 6 0 0)], [(4, { sz := 3, rows := [[dI 0, d8 0, .str []]], frz := 0, pure := false }), (6, { sz := 3, rows := [[dI t0.2, d8 0, .str []]], frz := 0, pure := false })]⟩ :=
  so <| bd h fun v3 e3 h => bd h fun v4 e4 h => go [] [rg 3 [(2, n e3)], rg 4 [(1, n e4)]] <| nx h
theorem wl112x1 {x0 : List UInt8} {t0 : Int × Int} {r : Ctl (Int × Int) ((Int × Int))} {Γ : Ctx} (h : (l112x1 x0) t0 = some r) : A Try.prog Γ (lpC Try.f112 19) [] (Rd (st112x1 x0) (J112x1 x0) r) ((st112x1 x0) t0).s :=
  sp h (fun h2 h => bd h fun v2 e2 h => go [] [rg 2 [(3, kb h2), (7, ib e2)]] <| br h (fun h3 h => go [3] [] <| jn ((wj112x1 x0) h)) fun h3 h =>
  go [] [] <| dn h (iE)) fun h2 h =>
  go [] [rg 2 [(3, kb h2)]] <| bF rfl <| go [] [] <| dn h (iE)
def st112x2 (q0 : (Int × Int)) (v5 v6 : Int) (x0 : List UInt8) : Int → SL :=
  fun t1 => ⟨70, [(0, .str x0), (1, dI t1), (4, .lptr 4 0 0), (6, .lptr 6 0 0), (7, dI v6)], [(4, { sz := 3, rows := [[dI 0, d8 0, .str []]], frz := 0, pure := false }), (6, { sz := 3, rows := [[dI q0.1, d8 v5, .str []]], frz := 0, pure := false })]⟩
def J112x2 (q0 : (Int × Int)) (v5 v6 : Int) (x0 : List UInt8) : JT Int :=
  je 2 fun q2 : Int => ⟨70, [(0, .str x0), (1, dI q2), (4, .lptr 4 0 0), (6, .lptr 6 0 0), (7, dI v6)], [(4, { sz := 3, rows := [[dI 0, d8 0, .str []]], frz := 0, pure := false }), (6, { sz := 3, rows := [[dI q0.1, d8 v5, .str []]], frz := 0, pure := false })]⟩
theorem wl112x2 (q0 : (Int × Int)) (v5 v6 : Int) {x0 : List UInt8} {t1 : Int} {r : Ctl (Int) (Int)} {Γ : Ctx} (h : (l112x2 x0) t1 = some r) : A Try.prog Γ (lpC Try.f112 4799) [] (Rd (st112x2 q0 v5 v6 x0) (J112x2 q0 v5 v6 x0) r) ((st112x2 q0 v5 v6 x0) t1).s :=
  sp h (fun h8 h => bd h fun v9 e10 h => go [] [rg 11 [(3, kb h8), (7, ib e10)]] <| br h (fun h9 h => bd h fun v10 e11 h => go [] [rg 12 [(1, n e11)]] <| nx h) fun h9 h =>
  go [] [] <| dn h (iE)) fun h8 h =>
  go [] [rg 11 [(3, kb h8)]] <| bF rfl <| go [] [] <| dn h (iE)
theorem wj112x2 {q0 : (Int × Int)} {v5 : Int} {p0 : List UInt8} {p1 : Int} {r : T_api_Type × Int} {Γ : Ctx} (h : (j112x2 q0 v5) p0 p1 = some r) : Jn Try.prog Try.f112 Γ (Den.Ends Try.prog Try.f112 (R112 r)) 639 ⟨70, [(1, dI p1), (4, .lptr 4 0 0), (6, .lptr 6 0 0)], [(4, { sz := 3, rows := [[dI 0, d8 0, .str []]], frz := 0, pure := false }), (6, { sz := 3, rows := [[dI q0.1, d8 v5, .str p0]], frz := 0, pure := false })]⟩ :=
  so <| bd h fun v13 e15 h => go [] [rg 17 [(1, k (w115 e15))]] <| br h (fun h11 h => go [] [] <| rt h) fun h11 h =>
  go [] [] <| rt h
theorem w112 {x0 : List UInt8} {x1 : Int} {r : T_api_Type × Int} (h : m_armatureref04_take x0 x1 = some r) : CallSpec Try.prog 112 [.str x0, dI x1] (R112 r) :=
  cs Try.f112 <| go [] [] <| bd h fun q0 e5 h => lp e5 wl112x1 <| qe <| goN [] [] <| br h (fun h4 h => go [] [] <| rt h) fun h4 h =>
  bd h fun v5 e6 h => bd h fun v6 e7 h => go [] [rg 7 [(2, ib e6)], rg 8 [(1, n e7)]] <| br h (fun h5 h => go [] [] <| bd h fun q2 e12 h => lp e12 (wl112x2 q0 v5 v6) <| qe <| goN [] [] <| br h (fun h10 h => go [] [] <| rt h) fun h10 h =>
      bd h fun v11 e13 h => bd h fun v12 e14 h => go [17] [rg 15 [(3, ss e13)], rg 16 [(1, n e14)]] <| jn (wj112x2 h)) fun h5 h =>
    go [17] [] <| jn (wj112x2 h)
/-! armature armatureref04.Parse -/
def R105 (y0 : T_api_Type × Int) : D := .tup [.agg (row_T_api_Type y0.1), .int .i64 y0.2]
def m_armatureref04_Parse (x0 : List UInt8) : Option (T_api_Type × Int) :=
  (m_armatureref04_take x0 0).bind fun v0 =>
  if (v0.2 != (x0.length : Int)) = true then
    (some (({ f_Dim := 0, f_Base := 0, f_Name := [] } : T_api_Type), 13)) else
  (some (v0.1, 0))
theorem w105 {x0 : List UInt8} {r : T_api_Type × Int} (h : m_armatureref04_Parse x0 = some r) : CallSpec Try.prog 105 [.str x0] (R105 r) :=
  cs Try.f105 <| bd h fun v0 e0 h => go [] [rg 1 [(1, k (w112 e0))]] <| br h (fun h0 h => go [] [] <| rt h) fun h0 h =>
  go [] [] <| rt h
/-! armature armatureref04.ParseClassConstant -/
def R94 (y0 : T_api_Type × Int) : D := .tup [.agg (row_T_api_Type y0.1), .int .i64 y0.2]
def j94x1 (x0 : List UInt8) : Option (T_api_Type × Int) :=
  (m_armatureref04_Parse x0).bind fun v2 =>
  some (v2.1, v2.2)
def m_armatureref04_ParseClassConstant (x0 : List UInt8) : Option (T_api_Type × Int) :=
  (m_armatureref03_IsClassName x0).bind fun v0 =>
  if v0 = true then
    (some (({ f_Dim := 0, f_Base := 76, f_Name := x0 } : T_api_Type), 0)) else
  (if (x0 == ([] : List UInt8)) = true then (some (({ f_Dim := 0, f_Base := 0, f_Name := [] } : T_api_Type), 13)) else
    ((getS x0 0).bind fun v1 =>
    if (v1 != 91) = true then
      (some (({ f_Dim := 0, f_Base := 0, f_Name := [] } : T_api_Type), 13)) else
    ((j94x1 x0) )))
theorem wj94x1 {x0 : List UInt8} {r : T_api_Type × Int} {Γ : Ctx} (h : (j94x1 x0)  = some r) : Jn Try.prog Try.f94 Γ (Den.Ends Try.prog Try.f94 (R94 r)) 23 ⟨20, [(0, .str x0), (2, .lptr 2 0 0)], [(2, { sz := 3, rows := [[dI 0, d8 0, .str []]], frz := 0, pure := false })]⟩ :=
  so <| bd h fun v2 e2 h => go [] [rg 5 [(1, k (w105 e2))]] <| rt h
theorem w94 {x0 : List UInt8} {r : T_api_Type × Int} (h : m_armatureref04_ParseClassConstant x0 = some r) : CallSpec Try.prog 94 [.str x0] (R94 r) :=
  cs Try.f94 <| bd h fun v0 e0 h => go [] [rg 1 [(1, k (w104 e0))]] <| br h (fun h0 h => go [] [] <| rt h) fun h0 h =>
  sp h (fun h1 h => go [] [rg 3 [(1, kb h1)]] <| bT rfl <| go [] [] <| rt h) fun h1 h =>
    bd h fun v1 e1 h => go [] [rg 3 [(1, kb h1), (4, ib e1)]] <| br h (fun h2 h => go [] [] <| rt h) fun h2 h =>
    go [5] [] <| jn (wj94x1 h)
/-! armature armatureref03.IsMemberName -/
def R95 (y0 : Bool) : D := .bool y0
def m_armatureref03_IsMemberName (x0 : List UInt8) : Option (Bool) :=
  if (x0 == ([60, 105, 110, 105, 116, 62] : List UInt8)) = true then (some true) else
  (if (x0 == ([60, 99, 108, 105, 110, 105, 116, 62] : List UInt8)) = true then (some true) else
    (if (decide ((x0.length : Int) ≤ 64)) = true then ((m_armatureref03_part x0).bind fun v0 =>
        some v0) else
      (some false)))
theorem w95 {x0 : List UInt8} {r : Bool} (h : m_armatureref03_IsMemberName x0 = some r) : CallSpec Try.prog 95 [.str x0] (R95 r) :=
  cs Try.f95 <| go [1] [] <| po <| pr 3 [] <| sp h (fun h0 h => pr 13 [(3, gs0 h0), (4, gs0 h0), (5, py h0)] <| pe <| goN [] [] <| rt h) fun h0 h =>
  pr 4 [(3, gw h0 g0), (4, gw h0 g0), (5, pn h0)] <| sp h (fun h1 h => pr 9 [(7, gs0 h1), (8, gs0 h1), (9, gs0 h1), (10, gs0 h1), (13, gs0 h1), (14, py h1)] <| pe <| goN [] [] <| rt h) fun h1 h =>
    pr 4 [(7, gw h1 g0), (8, gw h1 g0), (9, gw h1 g0), (10, gw h1 g0)] <| sp h (fun h2 h => bd h fun v0 e0 h => pr 5 [(11, gw h2 g0), (12, gw h2 (k (w106 e0))), (13, gw h1 (py h2)), (14, pn h1)] <| pe <| goN [] [] <| rt h) fun h2 h =>
      pr 5 [(11, gs1 h2), (12, gs1 h2), (13, gw h1 (pn h2)), (14, pn h1)] <| pe <| goN [] [] <| rt h
/-! armature armatureref04.ParseSignature -/
def R107 (y0 : T_api_Sig × Int) : D := .tup [.agg (row_T_api_Sig y0.1), .int .i64 y0.2]
def j107x3 (t0 : Int × (List T_api_Type)) (v8 : T_api_Type × Int) : Option (Ctl (Int × (List T_api_Type)) (((List T_api_Type) × Int) ⊕ (T_api_Sig × Int))) :=
  (growK 32 (t0.2 ++ [v8.1]).length).bind fun v9 =>
  some (.next (v8.2, (t0.2 ++ [v8.1])))
def j107x2 (t0 : Int × (List T_api_Type)) (x0 : List UInt8) : Option (Ctl (Int × (List T_api_Type)) (((List T_api_Type) × Int) ⊕ (T_api_Sig × Int))) :=
  (m_armatureref04_take x0 t0.1).bind fun v8 =>
  if (decide (v8.2 < 0)) = true then (some (.done (.inr (({ f_Params := ([] : List T_api_Type), f_Result := ({ f_Dim := 0, f_Base := 0, f_Name := [] } : T_api_Type) } : T_api_Sig), 13)))) else
  (if (v8.1.f_Base == 86) = true then
    (some (.done (.inr (({ f_Params := ([] : List T_api_Type), f_Result := ({ f_Dim := 0, f_Base := 0, f_Name := [] } : T_api_Type) } : T_api_Sig), 13)))) else
  ((j107x3 t0 v8) ))
def l107x1 (x0 : List UInt8) (t0 : Int × (List T_api_Type)) : Option (Ctl (Int × (List T_api_Type)) (((List T_api_Type) × Int) ⊕ (T_api_Sig × Int))) :=
  if (decide (t0.1 < (x0.length : Int))) = true then ((getS x0 t0.1).bind fun v7 =>
  if (v7 != 41) = true then
    ((j107x2 t0 x0) ) else
  (some (.done (.inl ((t0.2, t0.1)))))) else
  (some (.done (.inl ((t0.2, t0.1)))))
def j107x1 (x0 : List UInt8) : Option (T_api_Sig × Int) :=
  (loopM (l107x1 x0) rounds (1, ([] : List T_api_Type))).bind fun q1 =>
  match q1 with
  | .inl q0 => (if (decide (q0.2 ≥ (x0.length : Int))) = true then
      (some (({ f_Params := ([] : List T_api_Type), f_Result := ({ f_Dim := 0, f_Base := 0, f_Name := [] } : T_api_Type) } : T_api_Sig), 13)) else
    ((some (IntKind.wrap .i64 (q0.2 + (1 : Int)))).bind fun v10 =>
      (m_armatureref04_take x0 v10).bind fun v11 =>
      if (v11.2 != (x0.length : Int)) = true then
        (some (({ f_Params := ([] : List T_api_Type), f_Result := ({ f_Dim := 0, f_Base := 0, f_Name := [] } : T_api_Type) } : T_api_Sig), 13)) else
      (if (decide ((q0.1.length : Int) > 16)) = true then
          (some (({ f_Params := ([] : List T_api_Type), f_Result := ({ f_Dim := 0, f_Base := 0, f_Name := [] } : T_api_Type) } : T_api_Sig), 5)) else
        (some (({ f_Params := q0.1, f_Result := v11.1 } : T_api_Sig), 0)))))
  | .inr y0 => (some y0)
def m_armatureref04_ParseSignature (x0 : List UInt8) : Option (T_api_Sig × Int) :=
  if (x0 == ([] : List UInt8)) = true then (some (({ f_Params := ([] : List T_api_Type), f_Result := ({ f_Dim := 0, f_Base := 0, f_Name := [] } : T_api_Type) } : T_api_Sig), 13)) else
  ((getS x0 0).bind fun v0 =>
  if (v0 != 40) = true then
    (some (({ f_Params := ([] : List T_api_Type), f_Result := ({ f_Dim := 0, f_Base := 0, f_Name := [] } : T_api_Type) } : T_api_Sig), 13)) else
  ((j107x1 x0) ))
def st107x1 (x0 : List UInt8) : (Int × (List T_api_Type)) → SL :=
  fun t0 => ⟨75, [(0, .str x0), (2, .lptr 2 0 0), (4, .lptr 4 0 0), (5, dI t0.1)], [(2, { sz := 4, rows := [[.sl true (([] : List T_api_Type).map row_T_api_Type), dI 0, d8 0, .str []]], frz := 0, pure := false }), (4, { sz := 4, rows := [[.lsl 1004 0 ((t0.2.map row_T_api_Type).length), dI 0, d8 0, .str []]], frz := 0, pure := false }), (1004, { sz := 3, rows := (t0.2.map row_T_api_Type), frz := 0, pure := true })]⟩
def J107x1 (x0 : List UInt8) : JT (((List T_api_Type) × Int) ⊕ (T_api_Sig × Int)) :=
  ju (je 0 fun q0 : (List T_api_Type) × Int => ⟨75, [(0, .str x0), (2, .lptr 2 0 0), (4, .lptr 4 0 0), (5, dI q0.2)], [(2, { sz := 4, rows := [[.sl true (([] : List T_api_Type).map row_T_api_Type), dI 0, d8 0, .str []]], frz := 0, pure := false }), (4, { sz := 4, rows := [[.lsl 1004 0 ((q0.1.map row_T_api_Type).length), dI 0, d8 0, .str []]], frz := 0, pure := false }), (1004, { sz := 3, rows := (q0.1.map row_T_api_Type), frz := 0, pure := true })]⟩) (jr Try.prog Try.f107 R107)
theorem wj107x3 (x0 : List UInt8) {t0 : Int × (List T_api_Type)} {v8 : T_api_Type × Int} {r : Ctl (Int × (List T_api_Type)) (((List T_api_Type) × Int) ⊕ (T_api_Sig × Int))} {Γ : Ctx} (h : (j107x3 t0 v8)  = some r) : Jn Try.prog Try.f107 Γ (Rd (st107x1 x0) (J107x1 x0) r) 5775 ⟨75, [(0, .str x0), (2, .lptr 2 0 0), (4, .lptr 4 0 0), (6, .lptr 6 0 0), (7, dI v8.2)], [(2, { sz := 4, rows := [[.sl true (([] : List T_api_Type).map row_T_api_Type), dI 0, d8 0, .str []]], frz := 0, pure := false }), (4, { sz := 4, rows := [[.lsl 1004 0 ((t0.2.map row_T_api_Type).length), dI 0, d8 0, .str []]], frz := 0, pure := false }), (6, { sz := 3, rows := [row_T_api_Type v8.1], frz := 0, pure := false }), (1004, { sz := 3, rows := (t0.2.map row_T_api_Type), frz := 0, pure := true })]⟩ :=
  so <| bd h fun v9 e9 h => go [] [rg 9 [(3, br0 1 3), (4, ap e9)]] <| nx h
theorem wj107x2 {t0 : Int × (List T_api_Type)} {x0 : List UInt8} {r : Ctl (Int × (List T_api_Type)) (((List T_api_Type) × Int) ⊕ (T_api_Sig × Int))} {Γ : Ctx} (h : (j107x2 t0 x0)  = some r) : Jn Try.prog Try.f107 Γ (Rd (st107x1 x0) (J107x1 x0) r) 1167 ⟨75, [(0, .str x0), (2, .lptr 2 0 0), (4, .lptr 4 0 0), (5, dI t0.1)], [(2, { sz := 4, rows := [[.sl true (([] : List T_api_Type).map row_T_api_Type), dI 0, d8 0, .str []]], frz := 0, pure := false }), (4, { sz := 4, rows := [[.lsl 1004 0 ((t0.2.map row_T_api_Type).length), dI 0, d8 0, .str []]], frz := 0, pure := false }), (1004, { sz := 3, rows := (t0.2.map row_T_api_Type), frz := 0, pure := true })]⟩ :=
  so <| bd h fun v8 e8 h => sp h (fun h12 h => go [] [rg 6 [(2, k (w112 e8))], rg 7 [(1, kb h12)]] <| bT rfl <| go [] [] <| dn h (i2 iR)) fun h12 h =>
  go [] [rg 6 [(2, k (w112 e8))], rg 7 [(1, kb h12)]] <| br h (fun h13 h => go [] [] <| dn h (i2 iR)) fun h13 h =>
  go [9] [] <| jn ((wj107x3 x0) h)
theorem wl107x1 {x0 : List UInt8} {t0 : Int × (List T_api_Type)} {r : Ctl (Int × (List T_api_Type)) (((List T_api_Type) × Int) ⊕ (T_api_Sig × Int))} {Γ : Ctx} (h : (l107x1 x0) t0 = some r) : A Try.prog Γ (lpC Try.f107 79) [] (Rd (st107x1 x0) (J107x1 x0) r) ((st107x1 x0) t0).s :=
  sp h (fun h10 h => bd h fun v7 e7 h => go [] [rg 5 [(3, kb h10), (7, ib e7)]] <| br h (fun h11 h => go [6] [] <| jn (wj107x2 h)) fun h11 h =>
  go [] [] <| dn h (i1 iE)) fun h10 h =>
  go [] [rg 5 [(3, kb h10)]] <| bF rfl <| go [] [] <| dn h (i1 iE)
theorem wj107x1 {x0 : List UInt8} {r : T_api_Sig × Int} {Γ : Ctx} (h : (j107x1 x0)  = some r) : Jn Try.prog Try.f107 Γ (Den.Ends Try.prog Try.f107 (R107 r)) 11 ⟨75, [(0, .str x0), (2, .lptr 2 0 0)], [(2, { sz := 4, rows := [[.sl true (([] : List T_api_Type).map row_T_api_Type), dI 0, d8 0, .str []]], frz := 0, pure := false })]⟩ :=
  so <| go [] [] <| bd h fun q1 e10 h => lp (cv := [.blk 4 0 1004 3]) e10 wl107x1 <| match q1, h with
  | .inl q0, h => j1 <| (qe <| goN [] [] <| br h (fun h14 h => go [] [] <| rt h) fun h14 h =>
    bd h fun v10 e11 h => bd h fun v11 e12 h => go [] [rg 13 [(2, n e11), (3, k (w112 e12))]] <| br h (fun h15 h => go [] [] <| rt h) fun h15 h =>
      go [] [rg 16 [(2, ln q0.1)]] <| br h (fun h16 h => go [] [] <| rt h) fun h16 h =>
        go [] [] <| rtB h (.tup [.agg [rw_ q0.1, dI v11.1.f_Dim, d8 v11.1.f_Base, .str v11.1.f_Name], dI 0]) (a2 (a2 (rpI q0.1) (a2 trivial (a2 trivial (a2 trivial trivial)))) (a2 trivial trivial)) (by simp only [rwE] <;> kernel_rfl))
  | .inr y0, h => j2 <| (qr h)
theorem w107 {x0 : List UInt8} {r : T_api_Sig × Int} (h : m_armatureref04_ParseSignature x0 = some r) : CallSpec Try.prog 107 [.str x0] (R107 r) :=
  cs Try.f107 <| sp h (fun h0 h => go [] [rg 1 [(1, kb h0)]] <| bT rfl <| go [] [] <| rt h) fun h0 h =>
  bd h fun v0 e0 h => go [] [rg 1 [(1, kb h0), (4, ib e0)]] <| br h (fun h1 h => go [] [] <| rt h) fun h1 h =>
  go [3] [] <| jn (wj107x1 h)
/-! armature armatureref05.descriptor -/
def R96 (y0 : Bool) : D := .bool y0
def m_armatureref05_descriptor (x0 : List UInt8) : Option (Bool) :=
  (m_armatureref04_Parse x0).bind fun v0 =>
  if (v0.2 == 0) = true then
    (some (v0.1.f_Base != 86)) else
  ((m_armatureref04_ParseSignature x0).bind fun v1 =>
    some (v1.2 == 0))
theorem w96 {x0 : List UInt8} {r : Bool} (h : m_armatureref05_descriptor x0 = some r) : CallSpec Try.prog 96 [.str x0] (R96 r) :=
  cs Try.f96 <| bd h fun v0 e0 h => go [] [rg 1 [(1, k (w105 e0))]] <| br h (fun h0 h => go [] [] <| rt h) fun h0 h =>
  bd h fun v1 e1 h => go [] [rg 4 [(1, k (w107 e1))]] <| rt h
/-! armature armatureref05.NameAndType -/
def R97 (y0 : (List UInt8) × (List UInt8) × Int) : D := .tup [.str y0.1, .str y0.2.1, .int .i64 y0.2.2]
def m_armatureref05_NameAndType (x0 : List T_api_Const) (x1 : Int) : Option ((List UInt8) × (List UInt8) × Int) :=
  (m_armatureref05_get x0 x1 12).bind fun v0 =>
  if (v0.2 != 0) = true then
    (some ([], [], v0.2)) else
  ((m_armatureref05_UTF8 x0 v0.1.f_A).bind fun v1 =>
    if (v1.2 != 0) = true then
      (some ([], [], v1.2)) else
    ((m_armatureref05_UTF8 x0 v0.1.f_B).bind fun v2 =>
      if (v2.2 != 0) = true then
        (some ([], [], v2.2)) else
      (some (v1.1, v2.1, 0))))
theorem w97 {x0 : List T_api_Const} {x1 : Int} {r : (List UInt8) × (List UInt8) × Int} (h : m_armatureref05_NameAndType x0 x1 = some r) : CallSpec Try.prog 97 [.sl false (x0.map row_T_api_Const), dI x1] (R97 r) :=
  cs Try.f97 <| bd h fun v0 e0 h => go [] [rg 1 [(2, k (w103 e0))]] <| br h (fun h0 h => go [] [] <| rt h) fun h0 h =>
  bd h fun v1 e1 h => go [] [rg 4 [(3, k (w93 e1))]] <| br h (fun h1 h => go [] [] <| rt h) fun h1 h =>
    bd h fun v2 e2 h => go [] [rg 7 [(3, k (w93 e2))]] <| br h (fun h2 h => go [] [] <| rt h) fun h2 h =>
      go [] [] <| rt h
/-! armature armatureref05.named -/
def R98 (y0 : Int) : D := .int .i64 y0
def m_armatureref05_named (x0 : Int) (x1 x2 : List UInt8) : Option (Int) :=
  (m_armatureref04_ParseSignature x2).bind fun v0 =>
  if ((v0.2 == 0) == (x0 == 9)) = true then
    (some 13) else
  (if (x0 == 9) = true then
      (if (decide ((x1.length : Int) > 0)) = true then ((getS x1 0).bind fun v1 =>
      if (v1 == 60) = true then
        (some 12) else
      (some 0)) else
      (some 0)) else
    (if (x1 == ([60, 99, 108, 105, 110, 105, 116, 62] : List UInt8)) = true then (some 12) else
      (if (x1 == ([60, 105, 110, 105, 116, 62] : List UInt8)) = true then (if (x0 == 11) = true then (some 12) else
          (if (v0.1.f_Result.f_Base != 86) = true then
              (some 12) else
            (some 0))) else
        (some 0))))
theorem w98 {x0 : Int} {x1 x2 : List UInt8} {r : Int} (h : m_armatureref05_named x0 x1 x2 = some r) : CallSpec Try.prog 98 [dI x0, .str x1, .str x2] (R98 r) :=
  cs Try.f98 <| bd h fun v0 e0 h => go [] [rg 1 [(1, k (w107 e0))]] <| br h (fun h0 h => go [] [] <| rt h) fun h0 h =>
  go [] [] <| br h (fun h1 h => sp h (fun h2 h => bd h fun v1 e1 h => go [] [rg 5 [(2, kb h2), (5, ib e1)]] <| br h (fun h3 h => go [] [] <| rt h) fun h3 h =>
      go [] [] <| rt h) fun h2 h =>
      go [] [rg 5 [(2, kb h2)]] <| bF rfl <| go [] [] <| rt h) fun h1 h =>
    go [8] [] <| po <| pr 3 [] <| sp h (fun h4 h => pr 13 [(3, gs0 h4), (4, gs0 h4), (5, gs0 h4), (14, gs0 h4), (15, py h4)] <| pe <| goN [] [] <| bT rfl <| go [] [] <| rt h) fun h4 h =>
      pr 3 [(3, gw h4 g0), (4, gw h4 g0), (5, gw h4 g0)] <| sp h (fun h5 h => pr 3 [(6, gw h5 g0), (7, gw h5 g0), (8, gw h5 g0)] <| sp h (fun h6 h => pr 7 [(9, gs0 h6), (10, gs0 h6), (11, gs0 h6), (12, gs0 h6), (13, gw h5 (py h6)), (14, gw h4 (py h5)), (15, pn h4)] <| pe <| goN [] [] <| bT rfl <| go [] [] <| rt h) fun h6 h =>
          pr 7 [(9, gw h6 g0), (10, gw h6 g0), (11, gw h6 g0), (12, gw h6 g0), (13, gw h5 (pn h6)), (14, gw h4 (py h5)), (15, pn h4)] <| pe <| goN [] [] <| br h (fun h7 h => go [] [] <| rt h) fun h7 h =>
            go [] [] <| rt h) fun h5 h =>
        pr 10 [(6, gs1 h5), (7, gs1 h5), (8, gs1 h5), (13, gs1 h5), (14, gw h4 (pn h5)), (15, pn h4)] <| pe <| goN [] [] <| bF rfl <| go [] [] <| rt h
/-! armature armatureref05.contents -/
def R79 (y0 : Int) : D := .int .i64 y0
def j79x2 (x0 : List T_api_Const) (x1 : T_api_Const) : Option (Int) :=
  (m_armatureref05_member x1.f_Tag).bind fun v6 =>
  if v6 = true then
    ((m_armatureref05_NameAndType x0 x1.f_B).bind fun v7 =>
    if (v7.2.2 == 0) = true then
      ((m_armatureref05_named x1.f_Tag v7.1 v7.2.1).bind fun v8 =>
      some v8) else
    (some 0)) else
  (some 0)
def j79x1 (x0 : List T_api_Const) (x1 : T_api_Const) : Option (Int) :=
  if (x1.f_Tag == 12) = true then
    ((m_armatureref05_UTF8 x0 x1.f_A).bind fun v2 =>
    (m_armatureref05_UTF8 x0 x1.f_B).bind fun v3 =>
    (m_armatureref03_IsMemberName v2.1).bind fun v4 =>
    if (!v4) = true then
      (some 12) else
    ((m_armatureref05_descriptor v3.1).bind fun v5 =>
      if (!v5) = true then
        (some 13) else
      ((j79x2 x0 x1) ))) else
  ((j79x2 x0 x1) )
def m_armatureref05_contents (x0 : List T_api_Const) (x1 : T_api_Const) : Option (Int) :=
  if (x1.f_Tag == 7) = true then
    ((m_armatureref05_UTF8 x0 x1.f_A).bind fun v0 =>
    (m_armatureref04_ParseClassConstant v0.1).bind fun v1 =>
    if (v1.2 != 0) = true then
      (some 13) else
    ((j79x1 x0 x1) )) else
  ((j79x1 x0 x1) )
theorem wj79x2 {x0 : List T_api_Const} {x1 : T_api_Const} {r : Int} {Γ : Ctx} (h : (j79x2 x0 x1)  = some r) : Jn Try.prog Try.f79 Γ (Den.Ends Try.prog Try.f79 (R79 r)) 39 ⟨74, [(0, .sl false (x0.map row_T_api_Const)), (3, .ptr (row_T_api_Const x1))], []⟩ :=
  so <| bd h fun v6 e6 h => go [] [rg 13 [(2, k (w91 e6))]] <| br h (fun h5 h => bd h fun v7 e7 h => go [] [rg 14 [(3, k (w97 e7))]] <| br h (fun h6 h => bd h fun v8 e8 h => go [] [rg 16 [(4, k (w98 e8))]] <| rt h) fun h6 h =>
    go [] [] <| rt h) fun h5 h =>
  go [] [] <| rt h
theorem wj79x1 {x0 : List T_api_Const} {x1 : T_api_Const} {r : Int} {Γ : Ctx} (h : (j79x1 x0 x1)  = some r) : Jn Try.prog Try.f79 Γ (Den.Ends Try.prog Try.f79 (R79 r)) 19 ⟨74, [(0, .sl false (x0.map row_T_api_Const)), (3, .ptr (row_T_api_Const x1))], []⟩ :=
  so <| go [] [] <| br h (fun h2 h => bd h fun v2 e2 h => bd h fun v3 e3 h => bd h fun v4 e4 h => go [] [rg 7 [(3, k (w93 e2))], rg 8 [(3, k (w93 e3))], rg 9 [(1, k (w95 e4))]] <| br h (fun h3 h => go [] [] <| rt h) fun h3 h =>
    bd h fun v5 e5 h => go [] [rg 11 [(1, k (w96 e5))]] <| br h (fun h4 h => go [] [] <| rt h) fun h4 h =>
      go [13] [] <| jn (wj79x2 h)) fun h2 h =>
  go [13] [] <| jn (wj79x2 h)
theorem w79 {x0 : List T_api_Const} {x1 : T_api_Const} {r : Int} (h : m_armatureref05_contents x0 x1 = some r) : CallSpec Try.prog 79 [.sl false (x0.map row_T_api_Const), .agg (row_T_api_Const x1)] (R79 r) :=
  cs Try.f79 <| go [] [rg 0 [(0, bo)]] <| br h (fun h0 h => bd h fun v0 e0 h => bd h fun v1 e1 h => go [] [rg 2 [(3, k (w93 e0))], rg 3 [(1, k (w94 e1))]] <| br h (fun h1 h => go [] [] <| rt h) fun h1 h =>
    go [6] [] <| jn (wj79x1 h)) fun h0 h =>
  go [6] [] <| jn (wj79x1 h)
/-! armature armatureref05.checkConst -/
def R63 (y0 : Int) : D := .int .i64 y0
def j63x2 (x0 : List T_api_Const) (x1 : T_api_Const) : Option (Int) :=
  (m_armatureref05_both x0 x1).bind fun v2 =>
  if (v2 != 0) = true then
    (some v2) else
  ((m_armatureref05_contents x0 x1).bind fun v3 =>
    some v3)
def j63x1 (x0 : List T_api_Const) (x1 : T_api_Const) : Option (Int) :=
  if (x1.f_Tag == 1) = true then (some 0) else
  (if (x1.f_Tag == 3) = true then (some 0) else
    (if (x1.f_Tag == 5) = true then
        (some 0) else
      ((j63x2 x0 x1) )))
def m_armatureref05_checkConst (x0 : List T_api_Const) (x1 : T_api_Const) : Option (Int) :=
  (m_armatureref05_Known x1.f_Tag).bind fun v0 =>
  if (!v0) = true then
    (some 11) else
  ((m_armatureref05_formed x1).bind fun v1 =>
    if (!v1) = true then
      (some 4) else
    (if (x1.f_Tag == 1) = true then (if (decide ((x1.f_S.length : Int) > 1024)) = true then (some 8) else
        (if (x1.f_Tag == 3) = true then (if (decide (x1.f_N < (-2147483648))) = true then (some 8) else
            (if (decide (x1.f_N > 2147483647)) = true then
                (some 8) else
              ((j63x1 x0 x1) ))) else
          ((j63x1 x0 x1) ))) else
      (if (x1.f_Tag == 3) = true then (if (decide (x1.f_N < (-2147483648))) = true then (some 8) else
          (if (decide (x1.f_N > 2147483647)) = true then
              (some 8) else
            ((j63x1 x0 x1) ))) else
        ((j63x1 x0 x1) ))))
theorem wj63x2 {x0 : List T_api_Const} {x1 : T_api_Const} {r : Int} {Γ : Ctx} (h : (j63x2 x0 x1)  = some r) : Jn Try.prog Try.f63 Γ (Den.Ends Try.prog Try.f63 (R63 r)) 159 ⟨59, [(0, .sl false (x0.map row_T_api_Const)), (3, .ptr (row_T_api_Const x1))], []⟩ :=
  so <| bd h fun v2 e2 h => go [] [rg 9 [(2, k (w78 e2))]] <| br h (fun h13 h => go [] [] <| rt h) fun h13 h =>
  bd h fun v3 e3 h => go [] [rg 12 [(2, k (w79 e3))]] <| rt h
theorem wj63x1 {x0 : List T_api_Const} {x1 : T_api_Const} {r : Int} {Γ : Ctx} (h : (j63x1 x0 x1)  = some r) : Jn Try.prog Try.f63 Γ (Den.Ends Try.prog Try.f63 (R63 r)) 79 ⟨59, [(0, .sl false (x0.map row_T_api_Const)), (3, .ptr (row_T_api_Const x1))], []⟩ :=
  po <| pr 4 [] <| sp h (fun h10 h => pr 9 [(4, gs0 h10), (5, gs0 h10), (6, gs0 h10), (7, py h10)] <| pe <| goN [] [] <| bT rfl <| go [] [] <| rt h) fun h10 h =>
  pr 5 [(4, gw h10 g0), (5, gw h10 g0), (6, gw h10 g0), (7, pn h10)] <| sp h (fun h11 h => pr 4 [(9, gs0 h11), (10, gs0 h11), (11, gs0 h11), (12, py h11)] <| pe <| goN [] [] <| bT rfl <| go [] [] <| rt h) fun h11 h =>
    pr 4 [(9, gw h11 g0), (10, gw h11 g0), (11, gw h11 g0), (12, pn h11)] <| pe <| goN [] [] <| br h (fun h12 h => go [] [] <| rt h) fun h12 h =>
      go [9] [] <| jn (wj63x2 h)
theorem w63 {x0 : List T_api_Const} {x1 : T_api_Const} {r : Int} (h : m_armatureref05_checkConst x0 x1 = some r) : CallSpec Try.prog 63 [.sl false (x0.map row_T_api_Const), .agg (row_T_api_Const x1)] (R63 r) :=
  cs Try.f63 <| bd h fun v0 e0 h => go [] [rg 0 [(0, bo)], rg 1 [(2, k (w76 e0))]] <| br h (fun h0 h => go [] [] <| rt h) fun h0 h =>
  bd h fun v1 e1 h => go [] [rg 3 [(1, k (w77 e1))]] <| br h (fun h1 h => go [] [] <| rt h) fun h1 h =>
    go [5] [] <| po <| pr 4 [] <| sp h (fun h2 h => pr 6 [(4, gw h2 g0), (5, gw h2 g0), (6, gw h2 g0), (7, gw h2 g0), (8, py h2)] <| sp h (fun h3 h => pr 14 [(10, gs0 h3), (11, gs0 h3), (12, gs0 h3), (13, gs0 h3), (22, gs0 h3), (23, py h3)] <| pe <| goN [] [] <| bT rfl <| go [] [] <| rt h) fun h3 h =>
        pr 4 [(10, gw h3 g0), (11, gw h3 g0), (12, gw h3 g0), (13, gw h3 g0)] <| sp h (fun h4 h => pr 4 [(14, gw h4 g0), (15, gw h4 g0), (16, gw h4 g0), (17, gw h4 g0)] <| sp h (fun h5 h => pr 6 [(18, gs0 h5), (19, gs0 h5), (20, gs0 h5), (21, gw h4 (py h5)), (22, gw h3 (py h4)), (23, pn h3)] <| pe <| goN [] [] <| bT rfl <| go [] [] <| rt h) fun h5 h =>
            pr 6 [(18, gw h5 g0), (19, gw h5 g0), (20, gw h5 g0), (21, gw h4 (pn h5)), (22, gw h3 (py h4)), (23, pn h3)] <| pe <| goN [] [] <| br h (fun h6 h => go [] [] <| rt h) fun h6 h =>
              go [7] [] <| jn (wj63x1 h)) fun h4 h =>
          pr 10 [(14, gs1 h4), (15, gs1 h4), (16, gs1 h4), (17, gs1 h4), (21, gs1 h4), (22, gw h3 (pn h4)), (23, pn h3)] <| pe <| goN [] [] <| bF rfl <| go [7] [] <| jn (wj63x1 h)) fun h2 h =>
      pr 10 [(4, gs1 h2), (5, gs1 h2), (6, gs1 h2), (7, gs1 h2), (8, pn h2)] <| sp h (fun h7 h => pr 4 [(14, gw h7 g0), (15, gw h7 g0), (16, gw h7 g0), (17, gw h7 g0)] <| sp h (fun h8 h => pr 6 [(18, gs0 h8), (19, gs0 h8), (20, gs0 h8), (21, gw h7 (py h8)), (22, py h7)] <| pe <| goN [] [] <| bT rfl <| go [] [] <| rt h) fun h8 h =>
          pr 6 [(18, gw h8 g0), (19, gw h8 g0), (20, gw h8 g0), (21, gw h7 (pn h8)), (22, py h7)] <| pe <| goN [] [] <| br h (fun h9 h => go [] [] <| rt h) fun h9 h =>
            go [7] [] <| jn (wj63x1 h)) fun h7 h =>
        pr 10 [(14, gs1 h7), (15, gs1 h7), (16, gs1 h7), (17, gs1 h7), (21, gs1 h7), (22, pn h7)] <| pe <| goN [] [] <| bF rfl <| go [7] [] <| jn (wj63x1 h)
/-! armature armatureref05.Check -/
def R49 (y0 : Int × Int) : D := .tup [.int .i64 y0.1, .int .i64 y0.2]
def l49x1 (x0 : List T_api_Const) (t0 : Int) : Option (Ctl (Int) (Unit ⊕ (Int × Int))) :=
  if (decide (t0 < (x0.length : Int))) = true then
    ((getR x0 t0).bind fun v2 =>
    (m_armatureref05_checkConst x0 v2).bind fun v3 =>
    if (v3 != 0) = true then
      ((some (IntKind.wrap .i64 (t0 + (1 : Int)))).bind fun v4 =>
      some (.done (.inr (v4, v3)))) else
    ((some (IntKind.wrap .i64 (t0 + (1 : Int)))).bind fun v5 =>
      some (.next v5))) else
  (some (.done (.inl (()))))
def m_armatureref05_Check (x0 : List T_api_Const) : Option (Int × Int) :=
  if (decide ((x0.length : Int) > 1000)) = true then
    (some (0, 5)) else
  ((loopM (l49x1 x0) rounds 0).bind fun q1 =>
    match q1 with
    | .inl q0 => (some (0, 0))
    | .inr y0 => (some y0))
def st49x1 (x0 : List T_api_Const) : Int → SL :=
  fun t0 => ⟨26, [(0, .sl false (x0.map row_T_api_Const)), (4, dI t0)], []⟩
def J49x1  : JT (Unit ⊕ (Int × Int)) :=
  ju (je 0 fun q0 : Unit => ⟨26, [], []⟩) (jr Try.prog Try.f49 R49)
theorem wl49x1 {x0 : List T_api_Const} {t0 : Int} {r : Ctl (Int) (Unit ⊕ (Int × Int))} {Γ : Ctx} (h : (l49x1 x0) t0 = some r) : A Try.prog Γ (lpC Try.f49 43) [] (Rd (st49x1 x0) J49x1 r) ((st49x1 x0) t0).s :=
  go [] [rg 4 [(2, ln x0)]] <| br h (fun h3 h => bd h fun v2 e2 h => bd h fun v3 e3 h => go [] [rg 6 [(3, ix e2), (5, k (w63 e3))]] <| br h (fun h4 h => bd h fun v4 e4 h => go [] [rg 8 [(1, n e4)]] <| dn h (i2 iR)) fun h4 h =>
    bd h fun v5 e5 h => go [] [rg 5 [(1, n e5)]] <| nx h) fun h3 h =>
  go [] [] <| dn h (i1 iE)
theorem w49 {x0 : List T_api_Const} {r : Int × Int} (h : m_armatureref05_Check x0 = some r) : CallSpec Try.prog 49 [.sl false (x0.map row_T_api_Const)] (R49 r) :=
  cs Try.f49 <| go [] [rg 1 [(1, ln x0)]] <| br h (fun h0 h => go [] [] <| rt h) fun h0 h =>
  go [] [] <| bd h fun q1 e6 h => lp e6 wl49x1 <| match q1, h with
    | .inl q0, h => j1 <| (qe <| goN [] [] <| rt h)
    | .inr y0, h => j2 <| (qr h)
/-! armature armatureref02.sized -/
def R64 (y0 : Bool) : D := .bool y0
def m_armatureref02_sized (x0 : Int) : Option (Bool) :=
  if (x0 == 1) = true then (some true) else
  (if (x0 == 2) = true then (some true) else
    (if (x0 == 4) = true then (some true) else
      (some (x0 == 8))))
theorem w64 {x0 : Int} {r : Bool} (h : m_armatureref02_sized x0 = some r) : CallSpec Try.prog 64 [dI x0] (R64 r) :=
  cs Try.f64 <| go [1] [] <| po <| pr 3 [] <| sp h (fun h0 h => pr 12 [(3, gs0 h0), (4, gs0 h0), (5, py h0)] <| pe <| goN [] [] <| rt h) fun h0 h =>
  pr 4 [(3, gw h0 g0), (4, gw h0 g0), (5, pn h0)] <| sp h (fun h1 h => pr 8 [(7, gs0 h1), (8, gs0 h1), (9, py h1)] <| pe <| goN [] [] <| rt h) fun h1 h =>
    pr 4 [(7, gw h1 g0), (8, gw h1 g0), (9, pn h1)] <| sp h (fun h2 h => pr 4 [(11, gs0 h2), (12, gs0 h2), (13, py h2)] <| pe <| goN [] [] <| rt h) fun h2 h =>
      pr 4 [(11, gw h2 g0), (12, gw h2 g0), (13, pn h2)] <| pe <| goN [] [] <| rt h
/-! armature armatureref02.Put -/
def R50 (y0 : (List UInt8) × Int) : D := .tup [.str y0.1, .int .i64 y0.2]
def l50x1 (t0 : Int × Int × (List Int)) : Option (Ctl (Int × Int × (List Int)) (((List Int)))) :=
  if (decide (t0.2.1 ≥ 0)) = true then
    ((some (andK .i64 t0.1 (255 : Int))).bind fun v16 =>
    (some (IntKind.wrap .u8 v16)).bind fun v17 =>
    (idxK t0.2.1 t0.2.2.length).bind fun v18 =>
    (t0.2.2[v18]?).bind fun v19 =>
    (shrK .i64 t0.1 (8 : Int)).bind fun v20 =>
    (some (IntKind.wrap .i64 (t0.2.1 - (1 : Int)))).bind fun v21 =>
    some (.next (v20, v21, (t0.2.2.set v18 v17)))) else
  (some (.done (t0.2.2)))
def j50x1 (x0 x1 : Int) : Option ((List UInt8) × Int) :=
  (makeK 1 x1 x1).bind fun v8 =>
  (some (IntKind.wrap .i64 (x1 - (1 : Int)))).bind fun v9 =>
  (loopM l50x1 rounds (x0, v9, (List.replicate x1.toNat 0))).bind fun q0 =>
  some ((bytesOf q0), 0)
def m_armatureref02_Put (x0 x1 : Int) : Option ((List UInt8) × Int) :=
  (m_armatureref02_sized x1).bind fun v0 =>
  if (!v0) = true then
    (some ([], 1)) else
  (if (decide (x1 < 8)) = true then ((some (IntKind.wrap .i64 ((8 : Int) * x1))).bind fun v1 =>
      (some (IntKind.wrap .i64 (v1 - (1 : Int)))).bind fun v2 =>
      (shlK .i64 (1 : Int) v2).bind fun v3 =>
      (some (IntKind.wrap .i64 (0 - v3))).bind fun v4 =>
      if (decide (x0 < v4)) = true then (some ([], 8)) else
      ((some (IntKind.wrap .i64 ((8 : Int) * x1))).bind fun v5 =>
        (shlK .i64 (1 : Int) v5).bind fun v6 =>
        (some (IntKind.wrap .i64 (v6 - (1 : Int)))).bind fun v7 =>
        if (decide (x0 > v7)) = true then
          (some ([], 8)) else
        ((j50x1 x0 x1) ))) else
    ((j50x1 x0 x1) ))
def st50x1  : (Int × Int × (List Int)) → SL :=
  fun t0 => ⟨50, [(6, .lsl 6 0 ((t0.2.2.map rU8).length)), (7, dI t0.1), (8, dI t0.2.1)], [(6, { sz := 1, rows := (t0.2.2.map rU8), frz := 0, pure := true })]⟩
def J50x1  : JT (((List Int))) :=
  je 0 fun q0 : (List Int) => ⟨50, [(6, .lsl 6 0 ((q0.map rU8).length))], [(6, { sz := 1, rows := (q0.map rU8), frz := 0, pure := true })]⟩
theorem wl50x1 {t0 : Int × Int × (List Int)} {r : Ctl (Int × Int × (List Int)) (((List Int)))} {Γ : Ctx} (h : l50x1 t0 = some r) : A Try.prog Γ (lpC Try.f50 351) [] (Rd st50x1 J50x1 r) (st50x1 t0).s :=
  go [] [] <| br h (fun h5 h => bd h fun v16 e16 h => bd h fun v17 e17 h => bd h fun v18 e18 h => bd h fun v19 e19 h => go [11] [rg 10 [(3, n e16), (4, n8 e17), (5, ia (R := RU8) 6 e18), (6, st (R := RU8) e19 0 [d8 v17] v17)]] <| nm (congrArg (fun nn : Nat => (⟨50, [(6, .lsl 6 0 nn), (7, dI t0.1), (8, dI t0.2.1)], [(6, { sz := 1, rows := ((t0.2.2.set v18 v17).map rU8), frz := 0, pure := true })]⟩ : SL)) (by simp only [List.length_map, List.length_set] : (t0.2.2.map rU8).length = ((t0.2.2.set v18 v17).map rU8).length)) <| so <| bd h fun v20 e20 h => bd h fun v21 e21 h => go [] [rg 11 [(1, sr e20)], rg 9 [(1, n e21)]] <| nx h) fun h5 h =>
  go [] [] <| dn h (iE)
theorem wj50x1 {x0 x1 : Int} {r : (List UInt8) × Int} {Γ : Ctx} (h : (j50x1 x0 x1)  = some r) : Jn Try.prog Try.f50 Γ (Den.Ends Try.prog Try.f50 (R50 r)) 23 ⟨50, [(0, dI x0), (1, dI x1)], []⟩ :=
  so <| bd h fun v8 e8 h => bd h fun v9 e9 h => go [] [rg 5 [(1, mk (R := RU8) (0 : Int) e8)], rg 7 [(1, n e9)]] <| bd h fun q0 e22 h => lp (ps := [(32, 6)]) e22 wl50x1 <| qe <| goN [] [rg 12 [(1, bsB q0)]] <| rt h
theorem w50 {x0 x1 : Int} {r : (List UInt8) × Int} (h : m_armatureref02_Put x0 x1 = some r) : CallSpec Try.prog 50 [dI x0, dI x1] (R50 r) :=
  cs Try.f50 <| bd h fun v0 e0 h => go [] [rg 1 [(1, k (w64 e0))]] <| br h (fun h0 h => go [] [] <| rt h) fun h0 h =>
  go [3] [] <| po <| pr 3 [] <| sp h (fun h1 h => bd h fun v1 e1 h => bd h fun v2 e2 h => bd h fun v3 e3 h => bd h fun v4 e4 h => pr 8 [(3, gw h1 g0), (4, gw h1 g0), (5, gw h1 (n e1)), (6, gw h1 (n e2)), (7, gw h1 (sl e3)), (8, gw h1 (n e4)), (9, gw h1 g0), (10, gw h1 g0)] <| sp h (fun h2 h => pr 8 [(11, gs0 h2), (12, gs0 h2), (13, gs0 h2), (14, gs0 h2), (15, gs0 h2), (16, gs0 h2), (17, gw h1 (py h2)), (18, py h1)] <| pe <| goN [] [] <| bT rfl <| go [] [] <| rt h) fun h2 h =>
      bd h fun v5 e5 h => bd h fun v6 e6 h => bd h fun v7 e7 h => pr 8 [(11, gw h2 g0), (12, gw h2 g0), (13, gw h2 (n e5)), (14, gw h2 (sl e6)), (15, gw h2 (n e7)), (16, gw h2 g0), (17, gw h1 (pn h2)), (18, py h1)] <| pe <| goN [] [] <| br h (fun h3 h => go [] [] <| rt h) fun h3 h =>
        go [5] [] <| jn (wj50x1 h)) fun h1 h =>
    pr 16 [(3, gs1 h1), (4, gs1 h1), (5, gs1 h1), (6, gs1 h1), (7, gs1 h1), (8, gs1 h1), (9, gs1 h1), (10, gs1 h1), (17, gs1 h1), (18, pn h1)] <| pe <| goN [] [] <| bF rfl <| go [5] [] <| jn (wj50x1 h)
/-! armature armatureref02.PutString -/
def R65 (y0 : (List UInt8) × Int) : D := .tup [.str y0.1, .int .i64 y0.2]
def m_armatureref02_PutString (x0 : List UInt8) : Option ((List UInt8) × Int) :=
  (m_armatureref02_Put (x0.length : Int) 2).bind fun v0 =>
  if (v0.2 != 0) = true then
    (some ([], v0.2)) else
  ((catK v0.1 x0).bind fun v1 =>
    some (v1, 0))
theorem w65 {x0 : List UInt8} {r : (List UInt8) × Int} (h : m_armatureref02_PutString x0 = some r) : CallSpec Try.prog 65 [.str x0] (R65 r) :=
  cs Try.f65 <| bd h fun v0 e0 h => go [] [rg 1 [(2, k (w50 e0))]] <| br h (fun h0 h => go [] [] <| rt h) fun h0 h =>
  bd h fun v1 e1 h => go [] [rg 4 [(2, ct e1)]] <| rt h
end Go.Proofs
