/-
  Models of functions of the program, and that the functions compute them. Printed by den3.py. No condition.
-/
import Derived.Test.YtkooiildghlaaaaFil2
set_option linter.unusedVariables false
namespace Go.Proofs
open Go.Den Go.Den.W
/-! armature armatureref06.one -/
def R51 (y0 : (List UInt8)) : D := .str y0
def j51x3 (v0 : (List UInt8) × Int) (x0 : T_api_Const) : Option ((List UInt8)) :=
  (m_armatureref02_Put x0.f_A 2).bind fun v18 =>
  (catK v0.1 v18.1).bind fun v19 =>
  (catK v19 ([] : List UInt8)).bind fun v20 =>
  (catK v20 ([] : List UInt8)).bind fun v21 =>
  some v21
def j51x2 (v0 : (List UInt8) × Int) (x0 : T_api_Const) : Option ((List UInt8)) :=
  (m_armatureref02_Put x0.f_A 2).bind fun v13 =>
  (m_armatureref02_Put x0.f_B 2).bind fun v14 =>
  (catK v0.1 ([] : List UInt8)).bind fun v15 =>
  (catK v15 v13.1).bind fun v16 =>
  (catK v16 v14.1).bind fun v17 =>
  some v17
def j51x1 (v0 : (List UInt8) × Int) (x0 : T_api_Const) : Option ((List UInt8)) :=
  if (x0.f_Tag == 8) = true then
    ((j51x3 v0 x0) ) else
  ((j51x2 v0 x0) )
def m_armatureref06_one (x0 : T_api_Const) : Option ((List UInt8)) :=
  (m_armatureref02_Put x0.f_Tag 1).bind fun v0 =>
  if (x0.f_Tag == 1) = true then
    ((m_armatureref02_PutString x0.f_S).bind fun v1 =>
    (catK v0.1 v1.1).bind fun v2 =>
    (catK v2 ([] : List UInt8)).bind fun v3 =>
    (catK v3 ([] : List UInt8)).bind fun v4 =>
    some v4) else
  (if (x0.f_Tag == 3) = true then
      ((m_armatureref02_Put x0.f_N 4).bind fun v5 =>
      (catK v0.1 v5.1).bind fun v6 =>
      (catK v6 ([] : List UInt8)).bind fun v7 =>
      (catK v7 ([] : List UInt8)).bind fun v8 =>
      some v8) else
    (if (x0.f_Tag == 5) = true then
        ((m_armatureref02_Put x0.f_N 8).bind fun v9 =>
        (catK v0.1 v9.1).bind fun v10 =>
        (catK v10 ([] : List UInt8)).bind fun v11 =>
        (catK v11 ([] : List UInt8)).bind fun v12 =>
        some v12) else
      (if (x0.f_Tag == 7) = true then
          ((j51x3 v0 x0) ) else
        ((j51x1 v0 x0) ))))
theorem wj51x3 {v0 : (List UInt8) × Int} {x0 : T_api_Const} {r : (List UInt8)} {Γ : Ctx} (h : (j51x3 v0 x0)  = some r) : Jn Try.prog Try.f51 Γ (Den.Ends Try.prog Try.f51 (R51 r)) 24535 ⟨68, [(1, .ptr (row_T_api_Const x0)), (3, .str v0.1), (6, .str []), (7, .str [])], []⟩ :=
  so <| bd h fun v18 e18 h => bd h fun v19 e19 h => bd h fun v20 e20 h => bd h fun v21 e21 h => go [] [rg 14 [(2, k (w50 e18))], rg 15 [(2, ct e19), (4, ct e20), (6, ct e21)]] <| rt h
theorem wj51x2 {v0 : (List UInt8) × Int} {x0 : T_api_Const} {r : (List UInt8)} {Γ : Ctx} (h : (j51x2 v0 x0)  = some r) : Jn Try.prog Try.f51 Γ (Den.Ends Try.prog Try.f51 (R51 r)) 49111 ⟨68, [(1, .ptr (row_T_api_Const x0)), (3, .str v0.1), (5, .str [])], []⟩ :=
  so <| bd h fun v13 e13 h => bd h fun v14 e14 h => bd h fun v15 e15 h => bd h fun v16 e16 h => bd h fun v17 e17 h => go [] [rg 4 [(2, k (w50 e13))], rg 5 [(2, k (w50 e14))], rg 15 [(2, ct e15), (4, ct e16), (6, ct e17)]] <| rt h
theorem wj51x1 {v0 : (List UInt8) × Int} {x0 : T_api_Const} {r : (List UInt8)} {Γ : Ctx} (h : (j51x1 v0 x0)  = some r) : Jn Try.prog Try.f51 Γ (Den.Ends Try.prog Try.f51 (R51 r)) 16343 ⟨68, [(1, .ptr (row_T_api_Const x0)), (3, .str v0.1), (5, .str []), (6, .str []), (7, .str []), (52, .bool (x0.f_Tag == 8))], []⟩ (x0.f_Tag == 8) :=
  br h (fun h4 h => go [14] [] <| jn (wj51x3 h)) fun h4 h =>
  go [4] [] <| jn (wj51x2 h)
theorem w51 {x0 : T_api_Const} {r : (List UInt8)} (h : m_armatureref06_one x0 = some r) : CallSpec Try.prog 51 [.agg (row_T_api_Const x0)] (R51 r) :=
  cs Try.f51 <| bd h fun v0 e0 h => go [] [rg 0 [(0, bo)], rg 1 [(2, k (w50 e0))]] <| br h (fun h0 h => bd h fun v1 e1 h => bd h fun v2 e2 h => bd h fun v3 e3 h => bd h fun v4 e4 h => go [] [rg 7 [(2, k (w65 e1))], rg 15 [(2, ct e2), (4, ct e3), (6, ct e4)]] <| rt h) fun h0 h =>
  go [] [] <| br h (fun h1 h => bd h fun v5 e5 h => bd h fun v6 e6 h => bd h fun v7 e7 h => bd h fun v8 e8 h => go [] [rg 9 [(2, k (w50 e5))], rg 15 [(2, ct e6), (4, ct e7), (6, ct e8)]] <| rt h) fun h1 h =>
    go [] [] <| br h (fun h2 h => bd h fun v9 e9 h => bd h fun v10 e10 h => bd h fun v11 e11 h => bd h fun v12 e12 h => go [] [rg 11 [(2, k (w50 e9))], rg 15 [(2, ct e10), (4, ct e11), (6, ct e12)]] <| rt h) fun h2 h =>
      go [] [] <| br h (fun h3 h => go [] [] <| bT h3 <| go [14] [] <| jn (wj51x3 h)) fun h3 h =>
        go [] [] <| jn (wj51x1 h)
/-! armature armatureref06.Encode -/
def R22 (y0 : (List UInt8) × Int) : D := .tup [.str y0.1, .int .i64 y0.2]
def l22x1 (x0 : List T_api_Const) (t0 : (List UInt8) × Int) : Option (Ctl ((List UInt8) × Int) (((List UInt8)))) :=
  if (decide (t0.2 < (x0.length : Int))) = true then
    ((getR x0 t0.2).bind fun v5 =>
    (m_armatureref06_one v5).bind fun v6 =>
    (catK t0.1 v6).bind fun v7 =>
    (some (IntKind.wrap .i64 (t0.2 + (1 : Int)))).bind fun v8 =>
    some (.next (v7, v8))) else
  (some (.done (t0.1)))
def m_armatureref06_Encode (x0 : List T_api_Const) : Option ((List UInt8) × Int) :=
  (m_armatureref05_Check x0).bind fun v0 =>
  if (v0.2 != 0) = true then
    (some ([], v0.2)) else
  ((m_armatureref02_Put (x0.length : Int) 2).bind fun v1 =>
    (loopM (l22x1 x0) rounds (v1.1, 0)).bind fun q0 =>
    some (q0, 0))
def st22x1 (x0 : List T_api_Const) : ((List UInt8) × Int) → SL :=
  fun t0 => ⟨37, [(0, .sl false (x0.map row_T_api_Const)), (6, .str t0.1), (8, dI t0.2)], []⟩
def J22x1  : JT (((List UInt8))) :=
  je 0 fun q0 : (List UInt8) => ⟨37, [(6, .str q0)], []⟩
theorem wl22x1 {x0 : List T_api_Const} {t0 : (List UInt8) × Int} {r : Ctl ((List UInt8) × Int) (((List UInt8)))} {Γ : Ctx} (h : (l22x1 x0) t0 = some r) : A Try.prog Γ (lpC Try.f22 175) [] (Rd (st22x1 x0) J22x1 r) ((st22x1 x0) t0).s :=
  go [] [rg 6 [(2, ln x0)]] <| br h (fun h2 h => bd h fun v5 e5 h => bd h fun v6 e6 h => bd h fun v7 e7 h => bd h fun v8 e8 h => go [] [rg 8 [(3, ix e5), (5, k (w51 e6)), (6, ct e7)], rg 7 [(1, n e8)]] <| nx h) fun h2 h =>
  go [] [] <| dn h (iE)
theorem w22 {x0 : List T_api_Const} {r : (List UInt8) × Int} (h : m_armatureref06_Encode x0 = some r) : CallSpec Try.prog 22 [.sl false (x0.map row_T_api_Const)] (R22 r) :=
  cs Try.f22 <| bd h fun v0 e0 h => go [] [rg 1 [(1, k (w49 e0))]] <| br h (fun h0 h => go [] [] <| rt h) fun h0 h =>
  bd h fun v1 e1 h => go [] [rg 4 [(1, ln x0), (2, k (w50 e1))]] <| bd h fun q0 e9 h => lp e9 wl22x1 <| qe <| goN [] [] <| rt h
/-! armature armatureref11.many -/
def R23 (y0 : Bool) : D := .bool y0
def l23x1 (x0 : List T_api_Member) (t0 : Int) : Option (Ctl (Int) (Unit ⊕ Bool)) :=
  if (decide (t0 < (x0.length : Int))) = true then
    ((getR x0 t0).bind fun v1 =>
    if (decide ((v1.f_Attributes.length : Int) > 16)) = true then
      (some (.done (.inr true))) else
    ((some (IntKind.wrap .i64 (t0 + (1 : Int)))).bind fun v2 =>
      some (.next v2))) else
  (some (.done (.inl (()))))
def m_armatureref11_many (x0 : List T_api_Member) : Option (Bool) :=
  if (decide ((x0.length : Int) > 64)) = true then
    (some true) else
  ((loopM (l23x1 x0) rounds 0).bind fun q1 =>
    match q1 with
    | .inl q0 => (some false)
    | .inr y0 => (some y0))
def st23x1 (x0 : List T_api_Member) : Int → SL :=
  fun t0 => ⟨20, [(0, .sl false (x0.map row_T_api_Member)), (3, dI t0)], []⟩
def J23x1  : JT (Unit ⊕ Bool) :=
  ju (je 0 fun q0 : Unit => ⟨20, [], []⟩) (jr Try.prog Try.f23 R23)
theorem wl23x1 {x0 : List T_api_Member} {t0 : Int} {r : Ctl (Int) (Unit ⊕ Bool)} {Γ : Ctx} (h : (l23x1 x0) t0 = some r) : A Try.prog Γ (lpC Try.f23 43) [] (Rd (st23x1 x0) J23x1 r) ((st23x1 x0) t0).s :=
  go [] [rg 4 [(2, ln x0)]] <| br h (fun h3 h => bd h fun v1 e1 h => go [] [rg 6 [(2, ix e1), (5, ln v1.f_Attributes)]] <| br h (fun h4 h => go [] [] <| dn h (i2 iR)) fun h4 h =>
    bd h fun v2 e2 h => go [] [rg 5 [(1, n e2)]] <| nx h) fun h3 h =>
  go [] [] <| dn h (i1 iE)
theorem w23 {x0 : List T_api_Member} {r : Bool} (h : m_armatureref11_many x0 = some r) : CallSpec Try.prog 23 [.sl false (x0.map row_T_api_Member)] (R23 r) :=
  cs Try.f23 <| go [] [rg 1 [(1, ln x0)]] <| br h (fun h0 h => go [] [] <| rt h) fun h0 h =>
  go [] [] <| bd h fun q1 e3 h => lp e3 wl23x1 <| match q1, h with
    | .inl q0, h => j1 <| (qe <| goN [] [] <| rt h)
    | .inr y0, h => j2 <| (qr h)
/-! armature armatureref11.two -/
def R25 (y0 : (List UInt8) × Bool) : D := .tup [.str y0.1, .bool y0.2]
def j25x1 (x0 : Int) : Option ((List UInt8) × Bool) :=
  (m_armatureref02_Put x0 2).bind fun v0 =>
  some (v0.1, true)
def m_armatureref11_two (x0 : Int) : Option ((List UInt8) × Bool) :=
  if (decide (x0 < 0)) = true then (some ([], false)) else
  (if (decide (x0 > 65535)) = true then
    (some ([], false)) else
  ((j25x1 x0) ))
theorem wj25x1 {x0 : Int} {r : (List UInt8) × Bool} {Γ : Ctx} (h : (j25x1 x0)  = some r) : Jn Try.prog Try.f25 Γ (Den.Ends Try.prog Try.f25 (R25 r)) 11 ⟨18, [(0, dI x0)], []⟩ :=
  so <| bd h fun v0 e0 h => go [] [rg 3 [(1, k (w50 e0))]] <| rt h
theorem w25 {x0 : Int} {r : (List UInt8) × Bool} (h : m_armatureref11_two x0 = some r) : CallSpec Try.prog 25 [dI x0] (R25 r) :=
  cs Try.f25 <| sp h (fun h0 h => go [] [rg 1 [(1, kb h0)]] <| bT rfl <| go [] [] <| rt h) fun h0 h =>
  go [] [rg 1 [(1, kb h0)]] <| br h (fun h1 h => go [] [] <| rt h) fun h1 h =>
  go [3] [] <| jn (wj25x1 h)
/-! armature armatureref11.numbers -/
def R24 (y0 : (List UInt8) × Bool) : D := .tup [.str y0.1, .bool y0.2]
def l24x1 (x0 : List Int) (t0 : (List UInt8) × Int) : Option (Ctl ((List UInt8) × Int) (((List UInt8)) ⊕ ((List UInt8) × Bool))) :=
  if (decide (t0.2 < (x0.length : Int))) = true then
    ((getR x0 t0.2).bind fun v3 =>
    (m_armatureref11_two v3).bind fun v4 =>
    if (!v4.2) = true then
      (some (.done (.inr ([], false)))) else
    ((catK t0.1 v4.1).bind fun v5 =>
      (some (IntKind.wrap .i64 (t0.2 + (1 : Int)))).bind fun v6 =>
      some (.next (v5, v6)))) else
  (some (.done (.inl (t0.1))))
def m_armatureref11_numbers (x0 : List Int) : Option ((List UInt8) × Bool) :=
  (loopM (l24x1 x0) rounds ([], 0)).bind fun q1 =>
  match q1 with
  | .inl q0 => (some (q0, true))
  | .inr y0 => (some y0)
def st24x1 (x0 : List Int) : ((List UInt8) × Int) → SL :=
  fun t0 => ⟨28, [(0, .sl false (x0.map rI64)), (4, .str t0.1), (5, dI t0.2)], []⟩
def J24x1  : JT (((List UInt8)) ⊕ ((List UInt8) × Bool)) :=
  ju (je 0 fun q0 : (List UInt8) => ⟨28, [(4, .str q0)], []⟩) (jr Try.prog Try.f24 R24)
theorem wl24x1 {x0 : List Int} {t0 : (List UInt8) × Int} {r : Ctl ((List UInt8) × Int) (((List UInt8)) ⊕ ((List UInt8) × Bool))} {Γ : Ctx} (h : (l24x1 x0) t0 = some r) : A Try.prog Γ (lpC Try.f24 43) [] (Rd (st24x1 x0) J24x1 r) ((st24x1 x0) t0).s :=
  go [] [rg 3 [(2, ln x0)]] <| br h (fun h2 h => bd h fun v3 e3 h => bd h fun v4 e4 h => go [] [rg 5 [(2, ix e3), (4, k (w25 e4))]] <| br h (fun h3 h => go [] [] <| dn h (i2 iR)) fun h3 h =>
    bd h fun v5 e5 h => bd h fun v6 e6 h => go [] [rg 8 [(2, ct e5)], rg 4 [(1, n e6)]] <| nx h) fun h2 h =>
  go [] [] <| dn h (i1 iE)
theorem w24 {x0 : List Int} {r : (List UInt8) × Bool} (h : m_armatureref11_numbers x0 = some r) : CallSpec Try.prog 24 [.sl false (x0.map rI64)] (R24 r) :=
  cs Try.f24 <| go [] [] <| bd h fun q1 e7 h => lp e7 wl24x1 <| match q1, h with
  | .inl q0, h => j1 <| (qe <| goN [] [] <| rt h)
  | .inr y0, h => j2 <| (qr h)
/-! armature armatureref11.attrs -/
def R27 (y0 : (List UInt8) × Bool) : D := .tup [.str y0.1, .bool y0.2]
def j27x1 (t0 : (List UInt8) × Int) (v11 : (List UInt8) × Bool) (x0 : List T_api_Attr) : Option (Ctl ((List UInt8) × Int) (((List UInt8)) ⊕ ((List UInt8) × Bool))) :=
  (getR x0 t0.2).bind fun v13 =>
  (m_armatureref02_Put (v13.f_Bytes.length : Int) 4).bind fun v14 =>
  (catK t0.1 v11.1).bind fun v15 =>
  (catK v15 v14.1).bind fun v16 =>
  (getR x0 t0.2).bind fun v17 =>
  (catK v16 v17.f_Bytes).bind fun v18 =>
  (some (IntKind.wrap .i64 (t0.2 + (1 : Int)))).bind fun v19 =>
  some (.next (v18, v19))
def l27x1 (x0 : List T_api_Attr) (t0 : (List UInt8) × Int) : Option (Ctl ((List UInt8) × Int) (((List UInt8)) ⊕ ((List UInt8) × Bool))) :=
  if (decide (t0.2 < (x0.length : Int))) = true then
    ((getR x0 t0.2).bind fun v10 =>
    (m_armatureref11_two v10.f_NameIndex).bind fun v11 =>
    if (!v11.2) = true then (some (.done (.inr ([], false)))) else
    ((getR x0 t0.2).bind fun v12 =>
    if (decide ((v12.f_Bytes.length : Int) > 65535)) = true then
      (some (.done (.inr ([], false)))) else
    ((j27x1 t0 v11 x0) ))) else
  (some (.done (.inl (t0.1))))
def m_armatureref11_attrs (x0 : List T_api_Attr) : Option ((List UInt8) × Bool) :=
  (m_armatureref11_two (x0.length : Int)).bind fun v0 =>
  (loopM (l27x1 x0) rounds (v0.1, 0)).bind fun q1 =>
  match q1 with
  | .inl q0 => (some (q0, true))
  | .inr y0 => (some y0)
def st27x1 (x0 : List T_api_Attr) : ((List UInt8) × Int) → SL :=
  fun t0 => ⟨65, [(0, .sl false (x0.map row_T_api_Attr)), (4, .str t0.1), (6, dI t0.2)], []⟩
def J27x1  : JT (((List UInt8)) ⊕ ((List UInt8) × Bool)) :=
  ju (je 0 fun q0 : (List UInt8) => ⟨65, [(4, .str q0)], []⟩) (jr Try.prog Try.f27 R27)
theorem wj27x1 {t0 : (List UInt8) × Int} {v11 : (List UInt8) × Bool} {x0 : List T_api_Attr} {r : Ctl ((List UInt8) × Int) (((List UInt8)) ⊕ ((List UInt8) × Bool))} {Γ : Ctx} (h : (j27x1 t0 v11 x0)  = some r) : Jn Try.prog Try.f27 Γ (Rd (st27x1 x0) J27x1 r) 5707 ⟨65, [(0, .sl false (x0.map row_T_api_Attr)), (4, .str t0.1), (6, dI t0.2), (7, .str v11.1)], []⟩ :=
  so <| bd h fun v13 e13 h => bd h fun v14 e14 h => bd h fun v15 e15 h => bd h fun v16 e16 h => bd h fun v17 e17 h => bd h fun v18 e18 h => bd h fun v19 e19 h => go [] [rg 8 [(2, ix e13), (6, k (w50 e14))], rg 9 [(2, ct e15), (4, ct e16), (7, ix e17), (10, ct e18)], rg 4 [(1, n e19)]] <| nx h
theorem wl27x1 {x0 : List T_api_Attr} {t0 : (List UInt8) × Int} {r : Ctl ((List UInt8) × Int) (((List UInt8)) ⊕ ((List UInt8) × Bool))} {Γ : Ctx} (h : (l27x1 x0) t0 = some r) : A Try.prog Γ (lpC Try.f27 43) [] (Rd (st27x1 x0) J27x1 r) ((st27x1 x0) t0).s :=
  go [] [rg 3 [(2, ln x0)]] <| br h (fun h3 h => bd h fun v10 e10 h => bd h fun v11 e11 h => sp h (fun h4 h => go [] [rg 5 [(2, ix e10), (5, k (w25 e11))], rg 6 [(3, gs0 h4), (4, gs0 h4), (5, gs0 h4), (6, gs0 h4), (7, gs0 h4), (8, gs0 h4), (9, gs0 h4), (10, py h4)]] <| bT rfl <| go [] [] <| dn h (i2 iR)) fun h4 h =>
    bd h fun v12 e12 h => go [] [rg 5 [(2, ix e10), (5, k (w25 e11))], rg 6 [(3, gw h4 g0), (4, gw h4 g0), (5, gw h4 (ix e12)), (6, gw h4 g0), (7, gw h4 g0), (8, gw h4 g0), (9, gw h4 g0), (10, pn h4)]] <| br h (fun h5 h => go [] [] <| dn h (i2 iR)) fun h5 h =>
    go [8] [] <| jn (wj27x1 h)) fun h3 h =>
  go [] [] <| dn h (i1 iE)
theorem w27 {x0 : List T_api_Attr} {r : (List UInt8) × Bool} (h : m_armatureref11_attrs x0 = some r) : CallSpec Try.prog 27 [.sl false (x0.map row_T_api_Attr)] (R27 r) :=
  cs Try.f27 <| bd h fun v0 e0 h => go [] [rg 1 [(1, ln x0), (2, k (w25 e0))]] <| bd h fun q1 e20 h => lp e20 wl27x1 <| match q1, h with
  | .inl q0, h => j1 <| (qe <| goN [] [] <| rt h)
  | .inr y0, h => j2 <| (qr h)
/-! armature armatureref11.members -/
def R26 (y0 : (List UInt8) × Bool) : D := .tup [.str y0.1, .bool y0.2]
def j26x1 (t0 : (List UInt8) × Int) (v12 v14 : (List UInt8) × Bool) : Option (Ctl ((List UInt8) × Int) (((List UInt8)) ⊕ ((List UInt8) × Bool))) :=
  (catK t0.1 v12.1).bind fun v15 =>
  (catK v15 v14.1).bind fun v16 =>
  (some (IntKind.wrap .i64 (t0.2 + (1 : Int)))).bind fun v17 =>
  some (.next (v16, v17))
def l26x1 (x0 : List T_api_Member) (t0 : (List UInt8) × Int) : Option (Ctl ((List UInt8) × Int) (((List UInt8)) ⊕ ((List UInt8) × Bool))) :=
  if (decide (t0.2 < (x0.length : Int))) = true then
    ((getR x0 t0.2).bind fun v9 =>
    (getR x0 t0.2).bind fun v10 =>
    (getR x0 t0.2).bind fun v11 =>
    (m_armatureref11_numbers [v9.f_Flags, v10.f_Name, v11.f_Desc]).bind fun v12 =>
    (getR x0 t0.2).bind fun v13 =>
    (m_armatureref11_attrs v13.f_Attributes).bind fun v14 =>
    if (!v12.2) = true then (some (.done (.inr ([], false)))) else
    (if (!v14.2) = true then
      (some (.done (.inr ([], false)))) else
    ((j26x1 t0 v12 v14) ))) else
  (some (.done (.inl (t0.1))))
def m_armatureref11_members (x0 : List T_api_Member) : Option ((List UInt8) × Bool) :=
  (m_armatureref11_two (x0.length : Int)).bind fun v0 =>
  (loopM (l26x1 x0) rounds (v0.1, 0)).bind fun q1 =>
  match q1 with
  | .inl q0 => (some (q0, true))
  | .inr y0 => (some y0)
def st26x1 (x0 : List T_api_Member) : ((List UInt8) × Int) → SL :=
  fun t0 => ⟨64, [(0, .sl false (x0.map row_T_api_Member)), (4, .str t0.1), (6, dI t0.2)], []⟩
def J26x1  : JT (((List UInt8)) ⊕ ((List UInt8) × Bool)) :=
  ju (je 0 fun q0 : (List UInt8) => ⟨64, [(4, .str q0)], []⟩) (jr Try.prog Try.f26 R26)
theorem wj26x1 (x0 : List T_api_Member) {t0 : (List UInt8) × Int} {v12 v14 : (List UInt8) × Bool} {r : Ctl ((List UInt8) × Int) (((List UInt8)) ⊕ ((List UInt8) × Bool))} {Γ : Ctx} (h : (j26x1 t0 v12 v14)  = some r) : Jn Try.prog Try.f26 Γ (Rd (st26x1 x0) J26x1 r) 7755 ⟨64, [(0, .sl false (x0.map row_T_api_Member)), (4, .str t0.1), (6, dI t0.2), (7, .str v12.1), (9, .str v14.1)], []⟩ :=
  so <| bd h fun v15 e15 h => bd h fun v16 e16 h => bd h fun v17 e17 h => go [] [rg 9 [(2, ct e15), (4, ct e16)], rg 4 [(1, n e17)]] <| nx h
theorem wl26x1 {x0 : List T_api_Member} {t0 : (List UInt8) × Int} {r : Ctl ((List UInt8) × Int) (((List UInt8)) ⊕ ((List UInt8) × Bool))} {Γ : Ctx} (h : (l26x1 x0) t0 = some r) : A Try.prog Γ (lpC Try.f26 43) [] (Rd (st26x1 x0) J26x1 r) ((st26x1 x0) t0).s :=
  go [] [rg 3 [(2, ln x0)]] <| br h (fun h3 h => bd h fun v9 e9 h => bd h fun v10 e10 h => bd h fun v11 e11 h => bd h fun v12 e12 h => bd h fun v13 e13 h => bd h fun v14 e14 h => sp h (fun h4 h => go [] [rgo 5 [(2, ix e9), (7, ix e10), (12, ix e11), (15, bl 3 0), (16, kB (a2 (rpI [v9.f_Flags, v10.f_Name, v11.f_Desc]) trivial) [rw_ [v9.f_Flags, v10.f_Name, v11.f_Desc]] (by simp only [rwE] <;> kernel_rfl) (w24 e12))] [0, 1, 2, 3, 4, 5, 6, 7, 8, 9, 10, 11, 12, 13, 14, 15, 16, 17, 18, 19, 20, 21] [] [(2, [0, 1]), (3, [0, 1, 2]), (4, [0, 1, 2, 3]), (7, [5, 6]), (8, [5, 6, 7]), (9, [5, 6, 7, 8]), (12, [10, 11]), (13, [10, 11, 12]), (14, [10, 11, 12, 13]), (15, [0, 1, 2, 3, 4, 5, 6, 7, 8, 9, 10, 11, 12, 13, 14]), (16, [0, 1, 2, 3, 4, 5, 6, 7, 8, 9, 10, 11, 12, 13, 14, 15]), (17, [0, 1, 2, 3, 4, 5, 6, 7, 8, 9, 10, 11, 12, 13, 14, 15, 16]), (18, [0, 1, 2, 3, 4, 5, 6, 7, 8, 9, 10, 11, 12, 13, 14, 15, 16, 17]), (19, [0, 1, 2, 3, 4, 5, 6, 7, 8, 9, 10, 11, 12, 13, 14, 15, 16, 17]), (20, [0, 1, 2, 3, 4, 5, 6, 7, 8, 9, 10, 11, 12, 13, 14, 15, 16, 17, 18]), (21, [0, 1, 2, 3, 4, 5, 6, 7, 8, 9, 10, 11, 12, 13, 14, 15, 16, 17, 18, 19, 20])], rg 6 [(2, ix e13), (5, k (w27 e14))], rg 7 [(3, gs0 h4), (4, gs0 h4), (5, py h4)]] <| bT rfl <| go [] [] <| dn h (i2 iR)) fun h4 h =>
    go [] [rgo 5 [(2, ix e9), (7, ix e10), (12, ix e11), (15, bl 3 0), (16, kB (a2 (rpI [v9.f_Flags, v10.f_Name, v11.f_Desc]) trivial) [rw_ [v9.f_Flags, v10.f_Name, v11.f_Desc]] (by simp only [rwE] <;> kernel_rfl) (w24 e12))] [0, 1, 2, 3, 4, 5, 6, 7, 8, 9, 10, 11, 12, 13, 14, 15, 16, 17, 18, 19, 20, 21] [] [(2, [0, 1]), (3, [0, 1, 2]), (4, [0, 1, 2, 3]), (7, [5, 6]), (8, [5, 6, 7]), (9, [5, 6, 7, 8]), (12, [10, 11]), (13, [10, 11, 12]), (14, [10, 11, 12, 13]), (15, [0, 1, 2, 3, 4, 5, 6, 7, 8, 9, 10, 11, 12, 13, 14]), (16, [0, 1, 2, 3, 4, 5, 6, 7, 8, 9, 10, 11, 12, 13, 14, 15]), (17, [0, 1, 2, 3, 4, 5, 6, 7, 8, 9, 10, 11, 12, 13, 14, 15, 16]), (18, [0, 1, 2, 3, 4, 5, 6, 7, 8, 9, 10, 11, 12, 13, 14, 15, 16, 17]), (19, [0, 1, 2, 3, 4, 5, 6, 7, 8, 9, 10, 11, 12, 13, 14, 15, 16, 17]), (20, [0, 1, 2, 3, 4, 5, 6, 7, 8, 9, 10, 11, 12, 13, 14, 15, 16, 17, 18]), (21, [0, 1, 2, 3, 4, 5, 6, 7, 8, 9, 10, 11, 12, 13, 14, 15, 16, 17, 18, 19, 20])], rg 6 [(2, ix e13), (5, k (w27 e14))], rg 7 [(3, gw h4 g0), (4, gw h4 g0), (5, pn h4)]] <| br h (fun h5 h => go [] [] <| dn h (i2 iR)) fun h5 h =>
    go [9] [] <| jn ((wj26x1 x0) h)) fun h3 h =>
  go [] [] <| dn h (i1 iE)
theorem w26 {x0 : List T_api_Member} {r : (List UInt8) × Bool} (h : m_armatureref11_members x0 = some r) : CallSpec Try.prog 26 [.sl false (x0.map row_T_api_Member)] (R26 r) :=
  cs Try.f26 <| bd h fun v0 e0 h => go [] [rg 1 [(1, ln x0), (2, k (w25 e0))]] <| bd h fun q1 e18 h => lp e18 wl26x1 <| match q1, h with
  | .inl q0, h => j1 <| (qe <| goN [] [] <| rt h)
  | .inr y0, h => j2 <| (qr h)
/-! armature armatureref11.Encode -/
def R11 (y0 : (List UInt8) × Int) : D := .tup [.str y0.1, .int .i64 y0.2]
def j11x2 (v0 : (List UInt8) × Int) (v3 v4 v5 v6 v7 v8 : (List UInt8) × Bool) : Option ((List UInt8) × Int) :=
  (catK ([65, 82, 77, 65, 0, 1] : List UInt8) v0.1).bind fun v9 =>
  (catK v9 v3.1).bind fun v10 =>
  (catK v10 v4.1).bind fun v11 =>
  (catK v11 v5.1).bind fun v12 =>
  (catK v12 v6.1).bind fun v13 =>
  (catK v13 v7.1).bind fun v14 =>
  (catK v14 v8.1).bind fun v15 =>
  if (decide ((v15.length : Int) > 1048576)) = true then
    (some ([], 8)) else
  (some (v15, 0))
def j11x1 (v0 : (List UInt8) × Int) (x0 : T_api_File) : Option ((List UInt8) × Int) :=
  (m_armatureref11_numbers [x0.f_Flags, x0.f_This, x0.f_Super]).bind fun v3 =>
  (m_armatureref11_two (x0.f_Interfaces.length : Int)).bind fun v4 =>
  (m_armatureref11_numbers x0.f_Interfaces).bind fun v5 =>
  (m_armatureref11_members x0.f_Fields).bind fun v6 =>
  (m_armatureref11_members x0.f_Methods).bind fun v7 =>
  (m_armatureref11_attrs x0.f_Attributes).bind fun v8 =>
  if (!v3.2) = true then (some ([], 8)) else
  (if (!v5.2) = true then (some ([], 8)) else
    (if (!v6.2) = true then (some ([], 8)) else
      (if (!v7.2) = true then (some ([], 8)) else
        (if (!v8.2) = true then
            (some ([], 8)) else
          ((j11x2 v0 v3 v4 v5 v6 v7 v8) )))))
def m_armatureref11_Encode (x0 : T_api_File) : Option ((List UInt8) × Int) :=
  (m_armatureref06_Encode x0.f_Pool).bind fun v0 =>
  if (v0.2 != 0) = true then
    (some ([], v0.2)) else
  (if (decide ((x0.f_Interfaces.length : Int) > 8)) = true then (some ([], 5)) else
    ((m_armatureref11_many x0.f_Fields).bind fun v1 =>
      if v1 = true then (some ([], 5)) else
      ((m_armatureref11_many x0.f_Methods).bind fun v2 =>
        if v2 = true then (some ([], 5)) else
        (if (decide ((x0.f_Attributes.length : Int) > 16)) = true then
            (some ([], 5)) else
          ((j11x1 v0 x0) )))))
theorem wj11x2 {v0 : (List UInt8) × Int} {v3 v4 v5 v6 v7 v8 : (List UInt8) × Bool} {r : (List UInt8) × Int} {Γ : Ctx} (h : (j11x2 v0 v3 v4 v5 v6 v7 v8)  = some r) : Jn Try.prog Try.f11 Γ (Den.Ends Try.prog Try.f11 (R11 r)) 6143 ⟨126, [(4, .str v0.1), (6, .str v3.1), (8, .str v4.1), (10, .str v5.1), (12, .str v6.1), (14, .str v7.1), (16, .str v8.1)], []⟩ :=
  so <| bd h fun v9 e9 h => bd h fun v10 e10 h => bd h fun v11 e11 h => bd h fun v12 e12 h => bd h fun v13 e13 h => bd h fun v14 e14 h => bd h fun v15 e15 h => go [] [rg 14 [(1, ct e9), (3, ct e10), (5, ct e11), (7, ct e12), (9, ct e13), (11, ct e14), (13, ct e15)]] <| br h (fun h10 h => go [] [] <| rt h) fun h10 h =>
  go [] [] <| rt h
theorem wj11x1 {v0 : (List UInt8) × Int} {x0 : T_api_File} {r : (List UInt8) × Int} {Γ : Ctx} (h : (j11x1 v0 x0)  = some r) : Jn Try.prog Try.f11 Γ (Den.Ends Try.prog Try.f11 (R11 r)) 47 ⟨126, [(1, .ptr (row_T_api_File x0)), (4, .str v0.1)], []⟩ :=
  so <| bd h fun v3 e3 h => bd h fun v4 e4 h => bd h fun v5 e5 h => bd h fun v6 e6 h => bd h fun v7 e7 h => bd h fun v8 e8 h => go [12] [rg 6 [(6, bl 3 0), (7, kB (a2 (rpI [x0.f_Flags, x0.f_This, x0.f_Super]) trivial) [rw_ [x0.f_Flags, x0.f_This, x0.f_Super]] (by simp only [rwE] <;> kernel_rfl) (w24 e3))], rg 7 [(2, ln x0.f_Interfaces), (3, k (w25 e4))], rg 8 [(2, k (w24 e5))], rg 9 [(2, k (w26 e6))], rg 10 [(2, k (w26 e7))], rg 11 [(2, k (w27 e8))]] <| po <| pr 3 [] <| sp h (fun h5 h => pr 15 [(3, gs0 h5), (4, gs0 h5), (5, py h5)] <| pe <| goN [] [] <| bT rfl <| go [] [] <| rt h) fun h5 h =>
  pr 4 [(3, gw h5 g0), (4, gw h5 g0), (5, pn h5)] <| sp h (fun h6 h => pr 11 [(7, gs0 h6), (8, gs0 h6), (9, py h6)] <| pe <| goN [] [] <| bT rfl <| go [] [] <| rt h) fun h6 h =>
    pr 4 [(7, gw h6 g0), (8, gw h6 g0), (9, pn h6)] <| sp h (fun h7 h => pr 7 [(11, gs0 h7), (12, gs0 h7), (13, py h7)] <| pe <| goN [] [] <| bT rfl <| go [] [] <| rt h) fun h7 h =>
      pr 4 [(11, gw h7 g0), (12, gw h7 g0), (13, pn h7)] <| sp h (fun h8 h => pr 3 [(15, gs0 h8), (16, gs0 h8), (17, py h8)] <| pe <| goN [] [] <| bT rfl <| go [] [] <| rt h) fun h8 h =>
        pr 3 [(15, gw h8 g0), (16, gw h8 g0), (17, pn h8)] <| pe <| goN [] [] <| br h (fun h9 h => go [] [] <| rt h) fun h9 h =>
          go [14] [] <| jn (wj11x2 h)
theorem w11 {x0 : T_api_File} {r : (List UInt8) × Int} (h : m_armatureref11_Encode x0 = some r) : CallSpec Try.prog 11 [.agg (row_T_api_File x0)] (R11 r) :=
  cs Try.f11 <| bd h fun v0 e0 h => go [] [rg 0 [(0, bo)], rg 1 [(2, k (w22 e0))]] <| br h (fun h0 h => go [] [] <| rt h) fun h0 h =>
  go [4] [] <| po <| pr 5 [(2, ln x0.f_Interfaces)] <| sp h (fun h1 h => pr 15 [(5, gs0 h1), (6, gs0 h1), (7, gs0 h1), (8, py h1)] <| pe <| goN [] [] <| bT rfl <| go [] [] <| rt h) fun h1 h =>
    bd h fun v1 e1 h => pr 5 [(5, gw h1 g0), (6, gw h1 g0), (7, gw h1 (k (w23 e1))), (8, pn h1)] <| sp h (fun h2 h => pr 10 [(10, gs0 h2), (11, gs0 h2), (12, gs0 h2), (13, py h2)] <| pe <| goN [] [] <| bT rfl <| go [] [] <| rt h) fun h2 h =>
      bd h fun v2 e2 h => pr 5 [(10, gw h2 g0), (11, gw h2 g0), (12, gw h2 (k (w23 e2))), (13, pn h2)] <| sp h (fun h3 h => pr 5 [(15, gs0 h3), (16, gs0 h3), (17, gs0 h3), (18, gs0 h3), (19, py h3)] <| pe <| goN [] [] <| bT rfl <| go [] [] <| rt h) fun h3 h =>
        pr 5 [(15, gw h3 g0), (16, gw h3 g0), (17, gw h3 (ln x0.f_Attributes)), (18, gw h3 g0), (19, pn h3)] <| pe <| goN [] [] <| br h (fun h4 h => go [] [] <| rt h) fun h4 h =>
          go [6] [] <| jn (wj11x1 h)
/-! armature armaturelaw11.FileEncode -/
def R3 (y0 : Bool) : D := .bool y0
def m_armaturelaw11_FileEncode (x0 : T_api_File) : Option (Bool) :=
  (m_armaturelaw11_small x0).bind fun v0 =>
  if (!v0) = true then
    ((m_armaturelaw11_works).bind fun v1 =>
    some v1) else
  ((m_file_Encode x0).bind fun v2 =>
    (m_armatureref11_Encode x0).bind fun v3 =>
    if (v2.1 == v3.1) = true then (if (v2.2 == v3.2) = true then ((m_file_EncodedSize x0).bind fun v4 =>
        if (v4 == (v2.1.length : Int)) = true then ((m_armaturelaw11_works).bind fun v5 =>
          some v5) else
        (some false)) else
      (some false)) else
    (some false))
theorem w3 {x0 : T_api_File} {r : Bool} (h : m_armaturelaw11_FileEncode x0 = some r) : CallSpec Try.prog 3 [.agg (row_T_api_File x0)] (R3 r) :=
  cs Try.f3 <| bd h fun v0 e0 h => go [] [rg 0 [(0, bo)], rg 1 [(1, k (w8 e0))]] <| br h (fun h0 h => bd h fun v1 e1 h => go [] [rg 2 [(0, k (w9 e1))]] <| rt h) fun h0 h =>
  bd h fun v2 e2 h => bd h fun v3 e3 h => go [5] [rg 3 [(1, k (w10 e2))], rg 4 [(1, k (w11 e3))]] <| po <| pr 4 [] <| sp h (fun h1 h => pr 5 [(4, gw h1 g0), (5, gw h1 g0), (6, gw h1 g0), (7, py h1)] <| sp h (fun h2 h => bd h fun v4 e4 h => pr 7 [(9, gw h2 g0), (10, gw h2 (k (w12 e4))), (11, gw h2 g0), (12, gw h2 g0), (13, gw h2 g0), (14, py h2)] <| sp h (fun h3 h => bd h fun v5 e5 h => pr 3 [(16, gw h3 (k (w9 e5))), (17, py h3)] <| pe <| goN [] [] <| rt h) fun h3 h =>
        pr 3 [(16, gs1 h3), (17, pn h3)] <| pe <| goN [] [] <| rt h) fun h2 h =>
      pr 10 [(9, gs1 h2), (10, gs1 h2), (11, gs1 h2), (12, gs1 h2), (13, gs1 h2), (14, pn h2)] <| pe <| goN [] [] <| rt h) fun h1 h =>
    pr 15 [(4, gs1 h1), (5, gs1 h1), (6, gs1 h1), (7, pn h1)] <| pe <| goN [] [] <| rt h
/-! armature armatureref02.there -/
def R83 (y0 : Int) : D := .int .i64 y0
def j83x1 (x0 : List UInt8) (x1 x2 : Int) : Option (Int) :=
  (some (IntKind.wrap .i64 ((x0.length : Int) - x1))).bind fun v1 =>
  if (decide (v1 < x2)) = true then
    (some 3) else
  (some 0)
def m_armatureref02_there (x0 : List UInt8) (x1 x2 : Int) : Option (Int) :=
  (m_armatureref02_sized x2).bind fun v0 =>
  if (!v0) = true then
    (some 1) else
  (if (decide (x1 < 0)) = true then (some 2) else
    (if (decide (x1 > (x0.length : Int))) = true then
      (some 2) else
    ((j83x1 x0 x1 x2) )))
theorem wj83x1 {x0 : List UInt8} {x1 x2 : Int} {r : Int} {Γ : Ctx} (h : (j83x1 x0 x1 x2)  = some r) : Jn Try.prog Try.f83 Γ (Den.Ends Try.prog Try.f83 (R83 r)) 39 ⟨24, [(0, .str x0), (1, dI x1), (2, dI x2)], []⟩ :=
  so <| bd h fun v1 e1 h => go [] [rg 5 [(3, n e1)]] <| br h (fun h3 h => go [] [] <| rt h) fun h3 h =>
  go [] [] <| rt h
theorem w83 {x0 : List UInt8} {x1 x2 : Int} {r : Int} (h : m_armatureref02_there x0 x1 x2 = some r) : CallSpec Try.prog 83 [.str x0, dI x1, dI x2] (R83 r) :=
  cs Try.f83 <| bd h fun v0 e0 h => go [] [rg 1 [(1, k (w64 e0))]] <| br h (fun h0 h => go [] [] <| rt h) fun h0 h =>
  sp h (fun h1 h => go [] [rg 3 [(1, kb h1)]] <| bT rfl <| go [] [] <| rt h) fun h1 h =>
    go [] [rg 3 [(1, kb h1)]] <| br h (fun h2 h => go [] [] <| rt h) fun h2 h =>
    go [5] [] <| jn (wj83x1 h)
/-! armature armatureref02.Signed -/
def R69 (y0 : Int × Int) : D := .tup [.int .i64 y0.1, .int .i64 y0.2]
def l69x1 (x0 : List UInt8) (x1 x2 : Int) (t0 : Int × Int) : Option (Ctl (Int × Int) (Int)) :=
  if (decide (t0.2 < x2)) = true then
    ((some (IntKind.wrap .i64 (t0.1 * (256 : Int)))).bind fun v9 =>
    (some (IntKind.wrap .i64 (x1 + t0.2))).bind fun v10 =>
    (getS x0 v10).bind fun v11 =>
    (some (IntKind.wrap .i64 v11)).bind fun v12 =>
    (some (IntKind.wrap .i64 (v9 + v12))).bind fun v13 =>
    (some (IntKind.wrap .i64 (t0.2 + (1 : Int)))).bind fun v14 =>
    some (.next (v13, v14))) else
  (some (.done (t0.1)))
def j69x1 (x0 : List UInt8) (x1 x2 p0 : Int) : Option (Int × Int) :=
  (loopM (l69x1 x0 x1 x2) rounds (p0, 1)).bind fun q0 =>
  some (q0, 0)
def m_armatureref02_Signed (x0 : List UInt8) (x1 x2 : Int) : Option (Int × Int) :=
  (m_armatureref02_there x0 x1 x2).bind fun v0 =>
  if (v0 != 0) = true then
    (some (0, v0)) else
  ((getS x0 x1).bind fun v1 =>
    (some (IntKind.wrap .i64 v1)).bind fun v2 =>
    if (decide (v2 > 127)) = true then
      ((some (IntKind.wrap .i64 (v2 - (256 : Int)))).bind fun v3 =>
      (j69x1 x0 x1 x2) v3) else
    ((j69x1 x0 x1 x2) v2))
def st69x1 (x0 : List UInt8) (x1 x2 : Int) : (Int × Int) → SL :=
  fun t0 => ⟨41, [(0, .str x0), (1, dI x1), (2, dI x2), (9, dI t0.1), (10, dI t0.2)], []⟩
def J69x1  : JT Int :=
  je 0 fun q0 : Int => ⟨41, [(9, dI q0)], []⟩
theorem wl69x1 {x0 : List UInt8} {x1 x2 : Int} {t0 : Int × Int} {r : Ctl (Int × Int) (Int)} {Γ : Ctx} (h : (l69x1 x0 x1 x2) t0 = some r) : A Try.prog Γ (lpC Try.f69 175) [] (Rd (st69x1 x0 x1 x2) J69x1 r) ((st69x1 x0 x1 x2) t0).s :=
  go [] [] <| br h (fun h3 h => bd h fun v9 e9 h => bd h fun v10 e10 h => bd h fun v11 e11 h => bd h fun v12 e12 h => bd h fun v13 e13 h => bd h fun v14 e14 h => go [] [rg 10 [(1, n e9), (5, n e10), (6, ib e11), (7, n e12), (8, n e13)], rg 9 [(1, n e14)]] <| nx h) fun h3 h =>
  go [] [] <| dn h (iE)
theorem wj69x1 {x0 : List UInt8} {x1 x2 p0 : Int} {r : Int × Int} {Γ : Ctx} (h : (j69x1 x0 x1 x2) p0 = some r) : Jn Try.prog Try.f69 Γ (Den.Ends Try.prog Try.f69 (R69 r)) 79 ⟨41, [(0, .str x0), (1, dI x1), (2, dI x2), (9, dI p0)], []⟩ :=
  so <| go [] [] <| bd h fun q0 e15 h => lp e15 wl69x1 <| qe <| goN [] [] <| rt h
theorem w69 {x0 : List UInt8} {x1 x2 : Int} {r : Int × Int} (h : m_armatureref02_Signed x0 x1 x2 = some r) : CallSpec Try.prog 69 [.str x0, dI x1, dI x2] (R69 r) :=
  cs Try.f69 <| bd h fun v0 e0 h => go [] [rg 1 [(3, k (w83 e0))]] <| br h (fun h0 h => go [] [] <| rt h) fun h0 h =>
  bd h fun v1 e1 h => bd h fun v2 e2 h => go [] [rg 4 [(2, ib e1), (3, n e2)]] <| br h (fun h1 h => bd h fun v3 e3 h => go [7] [rg 6 [(1, n e3)]] <| jn (wj69x1 h)) fun h1 h =>
    go [7] [] <| jn (wj69x1 h)
/-! armature armatureref02.Unsigned -/
def R59 (y0 : Int × Int) : D := .tup [.int .i64 y0.1, .int .i64 y0.2]
def j59x1 (v0 : Int × Int) (x2 : Int) : Option (Int × Int) :=
  (some (IntKind.wrap .i64 ((8 : Int) * x2))).bind fun v1 =>
  (shlK .i64 (1 : Int) v1).bind fun v2 =>
  (some (IntKind.wrap .i64 (v0.1 + v2))).bind fun v3 =>
  some (v3, v0.2)
def m_armatureref02_Unsigned (x0 : List UInt8) (x1 x2 : Int) : Option (Int × Int) :=
  (m_armatureref02_Signed x0 x1 x2).bind fun v0 =>
  if (v0.2 == 0) = true then (if (decide (x2 < 8)) = true then (if (decide (v0.1 < 0)) = true then
        ((j59x1 v0 x2) ) else
      (some (v0.1, v0.2))) else
    (some (v0.1, v0.2))) else
  (some (v0.1, v0.2))
theorem wj59x1 {v0 : Int × Int} {x2 : Int} {r : Int × Int} {Γ : Ctx} (h : (j59x1 v0 x2)  = some r) : Jn Try.prog Try.f59 Γ (Den.Ends Try.prog Try.f59 (R59 r)) 43 ⟨34, [(2, dI x2), (8, dI v0.1), (9, dI v0.2)], []⟩ :=
  so <| bd h fun v1 e1 h => bd h fun v2 e2 h => bd h fun v3 e3 h => go [] [rg 3 [(2, n e1), (3, sl e2), (4, n e3)]] <| rt h
theorem w59 {x0 : List UInt8} {x1 x2 : Int} {r : Int × Int} (h : m_armatureref02_Unsigned x0 x1 x2 = some r) : CallSpec Try.prog 59 [.str x0, dI x1, dI x2] (R59 r) :=
  cs Try.f59 <| bd h fun v0 e0 h => go [2] [rg 1 [(3, k (w69 e0))]] <| po <| pr 3 [] <| sp h (fun h0 h => pr 4 [(3, gw h0 g0), (4, gw h0 g0), (5, py h0)] <| sp h (fun h1 h => pr 3 [(7, gw h1 g0), (8, gw h1 g0), (9, py h1)] <| pe <| goN [] [] <| br h (fun h2 h => go [3] [] <| jn (wj59x1 h)) fun h2 h =>
      go [] [] <| rt h) fun h1 h =>
    pr 3 [(7, gs1 h1), (8, gs1 h1), (9, pn h1)] <| pe <| goN [] [] <| bF rfl <| go [] [] <| rt h) fun h0 h =>
  pr 7 [(3, gs1 h0), (4, gs1 h0), (5, pn h0)] <| pe <| goN [] [] <| bF rfl <| go [] [] <| rt h
/-! armature armatureref06.number -/
def R57 (y0 : Int × Int × Int) : D := .tup [.int .i64 y0.1, .int .i64 y0.2.1, .int .i64 y0.2.2]
def j57x1 (x1 x2 p0 p1 : Int) : Option (Int × Int × Int) :=
  if (p1 != 0) = true then
    (some (0, 0, 3)) else
  ((some (IntKind.wrap .i64 (x1 + x2))).bind fun v2 =>
    some (p0, v2, 0))
def m_armatureref06_number (x0 : List UInt8) (x1 x2 : Int) (x3 : Bool) : Option (Int × Int × Int) :=
  (m_armatureref02_Unsigned x0 x1 x2).bind fun v0 =>
  if x3 = true then
    ((m_armatureref02_Signed x0 x1 x2).bind fun v1 =>
    (j57x1 x1 x2) v1.1 v1.2) else
  ((j57x1 x1 x2) v0.1 v0.2)
theorem wj57x1 {x1 x2 p0 p1 : Int} {r : Int × Int × Int} {Γ : Ctx} (h : (j57x1 x1 x2) p0 p1 = some r) : Jn Try.prog Try.f57 Γ (Den.Ends Try.prog Try.f57 (R57 r)) 39 ⟨34, [(1, dI x1), (2, dI x2), (11, dI p0), (12, dI p1)], []⟩ :=
  so <| go [] [] <| br h (fun h1 h => go [] [] <| rt h) fun h1 h =>
  bd h fun v2 e2 h => go [] [rg 6 [(3, n e2)]] <| rt h
theorem w57 {x0 : List UInt8} {x1 x2 : Int} {x3 : Bool} {r : Int × Int × Int} (h : m_armatureref06_number x0 x1 x2 x3 = some r) : CallSpec Try.prog 57 [.str x0, dI x1, dI x2, .bool x3] (R57 r) :=
  cs Try.f57 <| bd h fun v0 e0 h => go [] [rg 1 [(3, k (w59 e0))]] <| br h (fun h0 h => bd h fun v1 e1 h => go [4] [rg 3 [(3, k (w69 e1))]] <| jn (wj57x1 h)) fun h0 h =>
  go [4] [] <| jn (wj57x1 h)
/-! armature armatureref02.GetString -/
def R70 (y0 : (List UInt8) × Int × Int) : D := .tup [.str y0.1, .int .i64 y0.2.1, .int .i64 y0.2.2]
def m_armatureref02_GetString (x0 : List UInt8) (x1 : Int) : Option ((List UInt8) × Int × Int) :=
  (m_armatureref02_Unsigned x0 x1 2).bind fun v0 =>
  if (v0.2 != 0) = true then
    (some ([], 0, v0.2)) else
  ((some (IntKind.wrap .i64 ((x0.length : Int) - x1))).bind fun v1 =>
    (some (IntKind.wrap .i64 (v1 - (2 : Int)))).bind fun v2 =>
    if (decide (v2 < v0.1)) = true then
      (some ([], 0, 3)) else
    ((some (IntKind.wrap .i64 (x1 + (2 : Int)))).bind fun v3 =>
      (some (IntKind.wrap .i64 (x1 + (2 : Int)))).bind fun v4 =>
      (some (IntKind.wrap .i64 (v4 + v0.1))).bind fun v5 =>
      (sub x0 v3 v5).bind fun v6 =>
      (some (IntKind.wrap .i64 (x1 + (2 : Int)))).bind fun v7 =>
      (some (IntKind.wrap .i64 (v7 + v0.1))).bind fun v8 =>
      some (v6, v8, 0)))
theorem w70 {x0 : List UInt8} {x1 : Int} {r : (List UInt8) × Int × Int} (h : m_armatureref02_GetString x0 x1 = some r) : CallSpec Try.prog 70 [.str x0, dI x1] (R70 r) :=
  cs Try.f70 <| bd h fun v0 e0 h => go [] [rg 1 [(2, k (w59 e0))]] <| br h (fun h0 h => go [] [] <| rt h) fun h0 h =>
  bd h fun v1 e1 h => bd h fun v2 e2 h => go [] [rg 4 [(3, n e1), (4, n e2)]] <| br h (fun h1 h => go [] [] <| rt h) fun h1 h =>
    bd h fun v3 e3 h => bd h fun v4 e4 h => bd h fun v5 e5 h => bd h fun v6 e6 h => bd h fun v7 e7 h => bd h fun v8 e8 h => go [] [rg 6 [(2, n e3), (4, n e4), (6, n e5), (7, ss e6), (9, n e7), (11, n e8)]] <| rt h
/-! armature armatureref06.take -/
def R58 (y0 : T_api_Const × Int × Int) : D := .tup [.agg (row_T_api_Const y0.1), .int .i64 y0.2.1, .int .i64 y0.2.2]
def j58x5 (v0 : Int × Int × Int) (x0 : List UInt8) : Option (T_api_Const × Int × Int) :=
  (m_armatureref06_number x0 v0.2.1 2 false).bind fun v6 =>
  some (({ f_Tag := v0.1, f_S := [], f_N := 0, f_A := v6.1, f_B := 0 } : T_api_Const), v6.2.1, v6.2.2)
def j58x4 (v0 : Int × Int × Int) (x0 : List UInt8) : Option (T_api_Const × Int × Int) :=
  (m_armatureref06_number x0 v0.2.1 2 false).bind fun v4 =>
  if (v4.2.2 == 0) = true then
    ((m_armatureref06_number x0 v4.2.1 2 false).bind fun v5 =>
    some (({ f_Tag := v0.1, f_S := [], f_N := 0, f_A := v4.1, f_B := v5.1 } : T_api_Const), v5.2.1, v5.2.2)) else
  (some (({ f_Tag := v0.1, f_S := [], f_N := 0, f_A := v4.1, f_B := 0 } : T_api_Const), v4.2.1, v4.2.2))
def j58x3 (v0 : Int × Int × Int) (x0 : List UInt8) : Option (T_api_Const × Int × Int) :=
  if (v0.1 == 12) = true then
    ((j58x4 v0 x0) ) else
  (some (({ f_Tag := v0.1, f_S := [], f_N := 0, f_A := 0, f_B := 0 } : T_api_Const), 0, 11))
def j58x2 (v0 : Int × Int × Int) (x0 : List UInt8) : Option (T_api_Const × Int × Int) :=
  if (v0.1 == 9) = true then
    ((j58x4 v0 x0) ) else
  (if (v0.1 == 10) = true then
      ((j58x4 v0 x0) ) else
    (if (v0.1 == 11) = true then
        ((j58x4 v0 x0) ) else
      ((j58x3 v0 x0) )))
def j58x1 (v0 : Int × Int × Int) (x0 : List UInt8) : Option (T_api_Const × Int × Int) :=
  if (v0.1 == 8) = true then
    ((j58x5 v0 x0) ) else
  ((j58x2 v0 x0) )
def m_armatureref06_take (x0 : List UInt8) (x1 : Int) : Option (T_api_Const × Int × Int) :=
  (m_armatureref06_number x0 x1 1 false).bind fun v0 =>
  if (v0.2.2 != 0) = true then
    (some (({ f_Tag := 0, f_S := [], f_N := 0, f_A := 0, f_B := 0 } : T_api_Const), 0, v0.2.2)) else
  (if (v0.1 == 1) = true then
      ((m_armatureref02_GetString x0 v0.2.1).bind fun v1 =>
      if (v1.2.2 != 0) = true then
        (some (({ f_Tag := v0.1, f_S := v1.1, f_N := 0, f_A := 0, f_B := 0 } : T_api_Const), 0, 3)) else
      (some (({ f_Tag := v0.1, f_S := v1.1, f_N := 0, f_A := 0, f_B := 0 } : T_api_Const), v1.2.1, v1.2.2))) else
    (if (v0.1 == 3) = true then
        ((m_armatureref06_number x0 v0.2.1 4 true).bind fun v2 =>
        some (({ f_Tag := v0.1, f_S := [], f_N := v2.1, f_A := 0, f_B := 0 } : T_api_Const), v2.2.1, v2.2.2)) else
      (if (v0.1 == 5) = true then
          ((m_armatureref06_number x0 v0.2.1 8 true).bind fun v3 =>
          some (({ f_Tag := v0.1, f_S := [], f_N := v3.1, f_A := 0, f_B := 0 } : T_api_Const), v3.2.1, v3.2.2)) else
        (if (v0.1 == 7) = true then
            ((j58x5 v0 x0) ) else
          ((j58x1 v0 x0) )))))
theorem wj58x5 {v0 : Int × Int × Int} {x0 : List UInt8} {r : T_api_Const × Int × Int} {Γ : Ctx} (h : (j58x5 v0 x0)  = some r) : Jn Try.prog Try.f58 Γ (Den.Ends Try.prog Try.f58 (R58 r)) 98143 ⟨96, [(0, .str x0), (1, dI v0.2.1), (4, .lptr 4 0 0), (7, .lptr 7 0 0)], [(4, { sz := 5, rows := [[dI 0, .str [], dI 0, dI 0, dI 0]], frz := 0, pure := false }), (7, { sz := 5, rows := [[dI v0.1, .str [], dI 0, dI 0, dI 0]], frz := 0, pure := false })]⟩ :=
  so <| bd h fun v6 e6 h => go [] [rg 18 [(2, k (w57 e6))]] <| rt h
theorem wj58x4 {v0 : Int × Int × Int} {x0 : List UInt8} {r : T_api_Const × Int × Int} {Γ : Ctx} (h : (j58x4 v0 x0)  = some r) : Jn Try.prog Try.f58 Γ (Den.Ends Try.prog Try.f58 (R58 r)) 655199 ⟨96, [(0, .str x0), (1, dI v0.2.1), (4, .lptr 4 0 0), (7, .lptr 7 0 0)], [(4, { sz := 5, rows := [[dI 0, .str [], dI 0, dI 0, dI 0]], frz := 0, pure := false }), (7, { sz := 5, rows := [[dI v0.1, .str [], dI 0, dI 0, dI 0]], frz := 0, pure := false })]⟩ :=
  so <| bd h fun v4 e4 h => go [] [rg 23 [(2, k (w57 e4))]] <| br h (fun h11 h => bd h fun v5 e5 h => go [] [rg 25 [(2, k (w57 e5))]] <| rt h) fun h11 h =>
  go [] [] <| rt h
theorem wj58x3 {v0 : Int × Int × Int} {x0 : List UInt8} {r : T_api_Const × Int × Int} {Γ : Ctx} (h : (j58x3 v0 x0)  = some r) : Jn Try.prog Try.f58 Γ (Den.Ends Try.prog Try.f58 (R58 r)) 261983 ⟨96, [(0, .str x0), (1, dI v0.2.1), (4, .lptr 4 0 0), (7, .lptr 7 0 0), (70, .bool (v0.1 == 12))], [(4, { sz := 5, rows := [[dI 0, .str [], dI 0, dI 0, dI 0]], frz := 0, pure := false }), (7, { sz := 5, rows := [[dI v0.1, .str [], dI 0, dI 0, dI 0]], frz := 0, pure := false })]⟩ (v0.1 == 12) :=
  br h (fun h10 h => go [23] [] <| jn (wj58x4 h)) fun h10 h =>
  go [] [] <| rt h
theorem wj58x2 {v0 : Int × Int × Int} {x0 : List UInt8} {r : T_api_Const × Int × Int} {Γ : Ctx} (h : (j58x2 v0 x0)  = some r) : Jn Try.prog Try.f58 Γ (Den.Ends Try.prog Try.f58 (R58 r)) 327519 ⟨96, [(0, .str x0), (1, dI v0.2.1), (4, .lptr 4 0 0), (7, .lptr 7 0 0), (24, dI v0.1)], [(4, { sz := 5, rows := [[dI 0, .str [], dI 0, dI 0, dI 0]], frz := 0, pure := false }), (7, { sz := 5, rows := [[dI v0.1, .str [], dI 0, dI 0, dI 0]], frz := 0, pure := false })]⟩ :=
  so <| go [] [] <| br h (fun h7 h => go [] [] <| bT h7 <| go [23] [] <| jn (wj58x4 h)) fun h7 h =>
  go [] [] <| br h (fun h8 h => go [] [] <| bT h8 <| go [23] [] <| jn (wj58x4 h)) fun h8 h =>
    go [] [] <| br h (fun h9 h => go [] [] <| bT h9 <| go [23] [] <| jn (wj58x4 h)) fun h9 h =>
      go [] [] <| jn (wj58x3 h)
theorem wj58x1 {v0 : Int × Int × Int} {x0 : List UInt8} {r : T_api_Const × Int × Int} {Γ : Ctx} (h : (j58x1 v0 x0)  = some r) : Jn Try.prog Try.f58 Γ (Den.Ends Try.prog Try.f58 (R58 r)) 65375 ⟨96, [(0, .str x0), (1, dI v0.2.1), (4, .lptr 4 0 0), (7, .lptr 7 0 0), (24, dI v0.1), (59, .bool (v0.1 == 8))], [(4, { sz := 5, rows := [[dI 0, .str [], dI 0, dI 0, dI 0]], frz := 0, pure := false }), (7, { sz := 5, rows := [[dI v0.1, .str [], dI 0, dI 0, dI 0]], frz := 0, pure := false })]⟩ (v0.1 == 8) :=
  br h (fun h6 h => go [18] [] <| jn (wj58x5 h)) fun h6 h =>
  go [19] [] <| jn (wj58x2 h)
theorem w58 {x0 : List UInt8} {x1 : Int} {r : T_api_Const × Int × Int} (h : m_armatureref06_take x0 x1 = some r) : CallSpec Try.prog 58 [.str x0, dI x1] (R58 r) :=
  cs Try.f58 <| bd h fun v0 e0 h => go [] [rg 2 [(2, k (w57 e0))]] <| br h (fun h0 h => go [] [] <| rt h) fun h0 h =>
  go [] [] <| br h (fun h1 h => bd h fun v1 e1 h => go [] [rg 9 [(2, k (w70 e1))]] <| br h (fun h2 h => go [] [] <| rt h) fun h2 h =>
      go [] [] <| rt h) fun h1 h =>
    go [] [] <| br h (fun h3 h => bd h fun v2 e2 h => go [] [rg 13 [(2, k (w57 e2))]] <| rt h) fun h3 h =>
      go [] [] <| br h (fun h4 h => bd h fun v3 e3 h => go [] [rg 15 [(2, k (w57 e3))]] <| rt h) fun h4 h =>
        go [] [] <| br h (fun h5 h => go [] [] <| bT h5 <| go [18] [] <| jn (wj58x5 h)) fun h5 h =>
          go [] [] <| jn (wj58x1 h)
/-! armature armatureref06.Decode -/
def R34 (y0 : (List T_api_Const) × Int × Int) : D := .tup [.sl false (y0.1.map row_T_api_Const), .int .i64 y0.2.1, .int .i64 y0.2.2]
def l34x1 (v0 : Int × Int × Int) (x0 : List UInt8) (t0 : Int × Int × (List T_api_Const)) : Option (Ctl (Int × Int × (List T_api_Const)) (((List T_api_Const) × Int) ⊕ ((List T_api_Const) × Int × Int))) :=
  if (decide (t0.2.1 < v0.1)) = true then
    ((m_armatureref06_take x0 t0.1).bind fun v3 =>
    if (v3.2.2 != 0) = true then
      (some (.done (.inr (([] : List T_api_Const), 0, v3.2.2)))) else
    ((growK 48 (t0.2.2 ++ [v3.1]).length).bind fun v4 =>
      (some (IntKind.wrap .i64 (t0.2.1 + (1 : Int)))).bind fun v5 =>
      some (.next (v3.2.1, v5, (t0.2.2 ++ [v3.1]))))) else
  (some (.done (.inl ((t0.2.2, t0.1)))))
def j34x1 (x0 : List UInt8) (x1 : Int) : Option ((List T_api_Const) × Int × Int) :=
  (m_armatureref06_number x0 x1 2 false).bind fun v0 =>
  if (v0.2.2 != 0) = true then
    (some (([] : List T_api_Const), 0, v0.2.2)) else
  ((loopM (l34x1 v0 x0) rounds (v0.2.1, 0, ([] : List T_api_Const))).bind fun q1 =>
    match q1 with
    | .inl q0 => ((m_armatureref05_Check q0.1).bind fun v6 =>
      if (v6.2 != 0) = true then
        (some (([] : List T_api_Const), 0, v6.2)) else
      (some (q0.1, q0.2, 0)))
    | .inr y0 => (some y0))
def m_armatureref06_Decode (x0 : List UInt8) (x1 : Int) : Option ((List T_api_Const) × Int × Int) :=
  if (decide (x1 < 0)) = true then (some (([] : List T_api_Const), 0, 2)) else
  (if (decide (x1 > (x0.length : Int))) = true then
    (some (([] : List T_api_Const), 0, 2)) else
  ((j34x1 x0 x1) ))
def st34x1 (v0 : Int × Int × Int) (x0 : List UInt8) : (Int × Int × (List T_api_Const)) → SL :=
  fun t0 => ⟨65, [(0, .str x0), (1, dI t0.1), (7, dI v0.1), (9, .lsl 9 0 ((t0.2.2.map row_T_api_Const).length)), (10, dI t0.2.1)], [(9, { sz := 5, rows := (t0.2.2.map row_T_api_Const), frz := 0, pure := true })]⟩
def J34x1  : JT (((List T_api_Const) × Int) ⊕ ((List T_api_Const) × Int × Int)) :=
  ju (je 0 fun q0 : (List T_api_Const) × Int => ⟨65, [(1, dI q0.2), (9, .lsl 9 0 ((q0.1.map row_T_api_Const).length))], [(9, { sz := 5, rows := (q0.1.map row_T_api_Const), frz := 0, pure := true })]⟩) (jr Try.prog Try.f34 R34)
theorem wl34x1 {v0 : Int × Int × Int} {x0 : List UInt8} {t0 : Int × Int × (List T_api_Const)} {r : Ctl (Int × Int × (List T_api_Const)) (((List T_api_Const) × Int) ⊕ ((List T_api_Const) × Int × Int))} {Γ : Ctx} (h : (l34x1 v0 x0) t0 = some r) : A Try.prog Γ (lpC Try.f34 351) [] (Rd (st34x1 v0 x0) J34x1 r) ((st34x1 v0 x0) t0).s :=
  go [] [] <| br h (fun h5 h => bd h fun v3 e3 h => go [] [rg 10 [(2, k (w58 e3))]] <| br h (fun h6 h => go [] [] <| dn h (i2 iR)) fun h6 h =>
    bd h fun v4 e4 h => bd h fun v5 e5 h => go [] [rg 13 [(2, br0 1 5), (3, ap e4)], rg 9 [(1, n e5)]] <| nx h) fun h5 h =>
  go [] [] <| dn h (i1 iE)
theorem wj34x1 {x0 : List UInt8} {x1 : Int} {r : (List T_api_Const) × Int × Int} {Γ : Ctx} (h : (j34x1 x0 x1)  = some r) : Jn Try.prog Try.f34 Γ (Den.Ends Try.prog Try.f34 (R34 r)) 11 ⟨65, [(0, .str x0), (1, dI x1)], []⟩ :=
  so <| bd h fun v0 e0 h => go [] [rg 3 [(2, k (w57 e0))]] <| br h (fun h2 h => go [] [] <| rt h) fun h2 h =>
  go [] [rg 6 [(0, bl 0 5)]] <| bd h fun q1 e6 h => lp (ps := [(34, 9)]) e6 wl34x1 <| match q1, h with
    | .inl q0, h => j1 <| (qe <| bd h fun v6 e7 h => goN [] [rg 15 [(1, kB (a2 (rpI q0.1) trivial) [rw_ q0.1] (by simp only [rwE] <;> kernel_rfl) (w49 e7))]] <| br h (fun h7 h => go [] [] <| rt h) fun h7 h =>
      go [] [] <| rtB h (.tup [rw_ q0.1, dI q0.2, dI 0]) (a2 (rpI q0.1) (a2 trivial (a2 trivial trivial))) (by simp only [rwE] <;> kernel_rfl))
    | .inr y0, h => j2 <| (qr h)
theorem w34 {x0 : List UInt8} {x1 : Int} {r : (List T_api_Const) × Int × Int} (h : m_armatureref06_Decode x0 x1 = some r) : CallSpec Try.prog 34 [.str x0, dI x1] (R34 r) :=
  cs Try.f34 <| sp h (fun h0 h => go [] [rg 1 [(1, kb h0)]] <| bT rfl <| go [] [] <| rt h) fun h0 h =>
  go [] [rg 1 [(1, kb h0)]] <| br h (fun h1 h => go [] [] <| rt h) fun h1 h =>
  go [3] [] <| jn (wj34x1 h)
/-! armature armatureref11.takeNumbers -/
def R35 (y0 : (List Int) × Int × Int) : D := .tup [.sl false (y0.1.map rI64), .int .i64 y0.2.1, .int .i64 y0.2.2]
def l35x1 (x0 : List UInt8) (x2 : Int) (t0 : Int × Int × (List Int)) : Option (Ctl (Int × Int × (List Int)) (((List Int) × Int) ⊕ ((List Int) × Int × Int))) :=
  if (decide (t0.2.1 < x2)) = true then
    ((m_armatureref02_Unsigned x0 t0.1 2).bind fun v6 =>
    if (v6.2 != 0) = true then
      (some (.done (.inr (([] : List Int), t0.1, 3)))) else
    ((growK 8 (t0.2.2 ++ [v6.1]).length).bind fun v7 =>
      (some (IntKind.wrap .i64 (t0.1 + (2 : Int)))).bind fun v8 =>
      (some (IntKind.wrap .i64 (t0.2.1 + (1 : Int)))).bind fun v9 =>
      some (.next (v8, v9, (t0.2.2 ++ [v6.1]))))) else
  (some (.done (.inl ((t0.2.2, t0.1)))))
def m_armatureref11_takeNumbers (x0 : List UInt8) (x1 x2 : Int) : Option ((List Int) × Int × Int) :=
  (loopM (l35x1 x0 x2) rounds (x1, 0, ([] : List Int))).bind fun q1 =>
  match q1 with
  | .inl q0 => (some (q0.1, q0.2, 0))
  | .inr y0 => (some y0)
def st35x1 (x0 : List UInt8) (x2 : Int) : (Int × Int × (List Int)) → SL :=
  fun t0 => ⟨35, [(0, .str x0), (1, dI t0.1), (2, dI x2), (9, .lsl 9 0 ((t0.2.2.map rI64).length)), (10, dI t0.2.1)], [(9, { sz := 1, rows := (t0.2.2.map rI64), frz := 0, pure := true })]⟩
def J35x1  : JT (((List Int) × Int) ⊕ ((List Int) × Int × Int)) :=
  ju (je 0 fun q0 : (List Int) × Int => ⟨35, [(1, dI q0.2), (9, .lsl 9 0 ((q0.1.map rI64).length))], [(9, { sz := 1, rows := (q0.1.map rI64), frz := 0, pure := true })]⟩) (jr Try.prog Try.f35 R35)
theorem wl35x1 {x0 : List UInt8} {x2 : Int} {t0 : Int × Int × (List Int)} {r : Ctl (Int × Int × (List Int)) (((List Int) × Int) ⊕ ((List Int) × Int × Int))} {Γ : Ctx} (h : (l35x1 x0 x2) t0 = some r) : A Try.prog Γ (lpC Try.f35 43) [] (Rd (st35x1 x0 x2) J35x1 r) ((st35x1 x0 x2) t0).s :=
  go [] [] <| br h (fun h4 h => bd h fun v6 e6 h => go [] [rg 5 [(2, k (w59 e6))]] <| br h (fun h5 h => go [] [] <| dn h (i2 iR)) fun h5 h =>
    bd h fun v7 e7 h => bd h fun v8 e8 h => bd h fun v9 e9 h => go [] [rg 8 [(2, br0 1 0), (3, ap e7)], rg 9 [(1, n e8)], rg 4 [(1, n e9)]] <| nx h) fun h4 h =>
  go [] [] <| dn h (i1 iE)
theorem w35 {x0 : List UInt8} {x1 x2 : Int} {r : (List Int) × Int × Int} (h : m_armatureref11_takeNumbers x0 x1 x2 = some r) : CallSpec Try.prog 35 [.str x0, dI x1, dI x2] (R35 r) :=
  cs Try.f35 <| go [] [] <| bd h fun q1 e10 h => lp (cv := [.tmp 9 9 1]) e10 wl35x1 <| match q1, h with
  | .inl q0, h => j1 <| (qe <| goN [] [] <| rtB h (.tup [rw_ q0.1, dI q0.2, dI 0]) (a2 (rpI q0.1) (a2 trivial (a2 trivial trivial))) (by simp only [rwE] <;> kernel_rfl))
  | .inr y0, h => j2 <| (qr h)
/-! armature armatureref11.count -/
def R36 (y0 : Int × Int × Int) : D := .tup [.int .i64 y0.1, .int .i64 y0.2.1, .int .i64 y0.2.2]
def m_armatureref11_count (x0 : List UInt8) (x1 x2 : Int) : Option (Int × Int × Int) :=
  (m_armatureref02_Unsigned x0 x1 2).bind fun v0 =>
  if (v0.2 != 0) = true then
    (some (0, x1, 3)) else
  (if (decide (v0.1 > x2)) = true then
      (some (0, x1, 5)) else
    ((some (IntKind.wrap .i64 (x1 + (2 : Int)))).bind fun v1 =>
      some (v0.1, v1, 0)))
theorem w36 {x0 : List UInt8} {x1 x2 : Int} {r : Int × Int × Int} (h : m_armatureref11_count x0 x1 x2 = some r) : CallSpec Try.prog 36 [.str x0, dI x1, dI x2] (R36 r) :=
  cs Try.f36 <| bd h fun v0 e0 h => go [] [rg 1 [(2, k (w59 e0))]] <| br h (fun h0 h => go [] [] <| rt h) fun h0 h =>
  go [] [] <| br h (fun h1 h => go [] [] <| rt h) fun h1 h =>
    bd h fun v1 e1 h => go [] [rg 6 [(2, n e1)]] <| rt h
/-! armature armatureref11.takeAttrs -/
def R38 (y0 : (List T_api_Attr) × Int × Int) : D := .tup [.sl false (y0.1.map row_T_api_Attr), .int .i64 y0.2.1, .int .i64 y0.2.2]
def l38x1 (v0 : Int × Int × Int) (x0 : List UInt8) (t0 : Int × Int × (List T_api_Attr)) : Option (Ctl (Int × Int × (List T_api_Attr)) (((List T_api_Attr) × Int) ⊕ ((List T_api_Attr) × Int × Int))) :=
  if (decide (t0.2.1 < v0.1)) = true then
    ((m_armatureref02_Unsigned x0 t0.1 2).bind fun v25 =>
    if (v25.2 != 0) = true then
      (some (.done (.inr (([] : List T_api_Attr), t0.1, 3)))) else
    ((some (IntKind.wrap .i64 (t0.1 + (2 : Int)))).bind fun v26 =>
      (m_armatureref02_Unsigned x0 v26 4).bind fun v27 =>
      if (v27.2 != 0) = true then
        (some (.done (.inr (([] : List T_api_Attr), t0.1, 3)))) else
      (if (decide (v27.1 > 65535)) = true then
          (some (.done (.inr (([] : List T_api_Attr), t0.1, 8)))) else
        ((some (IntKind.wrap .i64 ((x0.length : Int) - t0.1))).bind fun v28 =>
          (some (IntKind.wrap .i64 (v28 - (6 : Int)))).bind fun v29 =>
          if (decide (v27.1 > v29)) = true then
            (some (.done (.inr (([] : List T_api_Attr), t0.1, 3)))) else
          ((some (IntKind.wrap .i64 (t0.1 + (6 : Int)))).bind fun v30 =>
            (some (IntKind.wrap .i64 (t0.1 + (6 : Int)))).bind fun v31 =>
            (some (IntKind.wrap .i64 (v31 + v27.1))).bind fun v32 =>
            (sub x0 v30 v32).bind fun v33 =>
            (growK 24 (t0.2.2 ++ [({ f_NameIndex := v25.1, f_Bytes := v33 } : T_api_Attr)]).length).bind fun v34 =>
            (some (IntKind.wrap .i64 (t0.1 + (6 : Int)))).bind fun v35 =>
            (some (IntKind.wrap .i64 (v35 + v27.1))).bind fun v36 =>
            (some (IntKind.wrap .i64 (t0.2.1 + (1 : Int)))).bind fun v37 =>
            some (.next (v36, v37, (t0.2.2 ++ [({ f_NameIndex := v25.1, f_Bytes := v33 } : T_api_Attr)])))))))) else
  (some (.done (.inl ((t0.2.2, t0.1)))))
def m_armatureref11_takeAttrs (x0 : List UInt8) (x1 : Int) : Option ((List T_api_Attr) × Int × Int) :=
  (m_armatureref11_count x0 x1 16).bind fun v0 =>
  if (v0.2.2 != 0) = true then
    (some (([] : List T_api_Attr), v0.2.1, v0.2.2)) else
  ((loopM (l38x1 v0 x0) rounds (v0.2.1, 0, ([] : List T_api_Attr))).bind fun q1 =>
    match q1 with
    | .inl q0 => (some (q0.1, q0.2, 0))
    | .inr y0 => (some y0))
def st38x1 (v0 : Int × Int × Int) (x0 : List UInt8) : (Int × Int × (List T_api_Attr)) → SL :=
  fun t0 => ⟨80, [(0, .str x0), (1, dI t0.1), (7, dI v0.1), (9, .lsl 9 0 ((t0.2.2.map row_T_api_Attr).length)), (10, dI t0.2.1)], [(9, { sz := 2, rows := (t0.2.2.map row_T_api_Attr), frz := 0, pure := true })]⟩
def J38x1  : JT (((List T_api_Attr) × Int) ⊕ ((List T_api_Attr) × Int × Int)) :=
  ju (je 0 fun q0 : (List T_api_Attr) × Int => ⟨80, [(1, dI q0.2), (9, .lsl 9 0 ((q0.1.map row_T_api_Attr).length))], [(9, { sz := 2, rows := (q0.1.map row_T_api_Attr), frz := 0, pure := true })]⟩) (jr Try.prog Try.f38 R38)
theorem wl38x1 {v0 : Int × Int × Int} {x0 : List UInt8} {t0 : Int × Int × (List T_api_Attr)} {r : Ctl (Int × Int × (List T_api_Attr)) (((List T_api_Attr) × Int) ⊕ ((List T_api_Attr) × Int × Int))} {Γ : Ctx} (h : (l38x1 v0 x0) t0 = some r) : A Try.prog Γ (lpC Try.f38 175) [] (Rd (st38x1 v0 x0) J38x1 r) ((st38x1 v0 x0) t0).s :=
  go [] [] <| br h (fun h11 h => bd h fun v25 e25 h => go [] [rg 8 [(2, k (w59 e25))]] <| br h (fun h12 h => go [] [] <| dn h (i2 iR)) fun h12 h =>
    bd h fun v26 e26 h => bd h fun v27 e27 h => go [] [rg 11 [(2, n e26), (3, k (w59 e27))]] <| br h (fun h13 h => go [] [] <| dn h (i2 iR)) fun h13 h =>
      go [] [] <| br h (fun h14 h => go [] [] <| dn h (i2 iR)) fun h14 h =>
        bd h fun v28 e28 h => bd h fun v29 e29 h => go [] [rg 16 [(4, n e28), (5, n e29)]] <| br h (fun h15 h => go [] [] <| dn h (i2 iR)) fun h15 h =>
          bd h fun v30 e30 h => bd h fun v31 e31 h => bd h fun v32 e32 h => bd h fun v33 e33 h => bd h fun v34 e34 h => bd h fun v35 e35 h => bd h fun v36 e36 h => bd h fun v37 e37 h => go [] [rg 18 [(4, n e30), (6, n e31), (8, n e32), (9, ss e33), (11, br0 1 2), (12, ap e34)], rg 19 [(1, n e35), (3, n e36)], rg 7 [(1, n e37)]] <| nx h) fun h11 h =>
  go [] [] <| dn h (i1 iE)
theorem w38 {x0 : List UInt8} {x1 : Int} {r : (List T_api_Attr) × Int × Int} (h : m_armatureref11_takeAttrs x0 x1 = some r) : CallSpec Try.prog 38 [.str x0, dI x1] (R38 r) :=
  cs Try.f38 <| bd h fun v0 e0 h => go [] [rg 1 [(2, k (w36 e0))]] <| br h (fun h0 h => go [] [] <| rt h) fun h0 h =>
  go [] [] <| bd h fun q1 e38 h => lp (cv := [.tmp 9 9 2]) e38 wl38x1 <| match q1, h with
    | .inl q0, h => j1 <| (qe <| goN [] [] <| rtB h (.tup [rw_ q0.1, dI q0.2, dI 0]) (a2 (rpI q0.1) (a2 trivial (a2 trivial trivial))) (by simp only [rwE] <;> kernel_rfl))
    | .inr y0, h => j2 <| (qr h)
/-! armature armatureref11.takeMembers -/
def R37 (y0 : (List T_api_Member) × Int × Int) : D := .tup [.sl false (y0.1.map row_T_api_Member), .int .i64 y0.2.1, .int .i64 y0.2.2]
def l37x1 (v0 : Int × Int × Int) (x0 : List UInt8) (t0 : Int × Int × (List T_api_Member)) : Option (Ctl (Int × Int × (List T_api_Member)) (((List T_api_Member) × Int) ⊕ ((List T_api_Member) × Int × Int))) :=
  if (decide (t0.2.1 < v0.1)) = true then
    ((m_armatureref11_takeNumbers x0 t0.1 3).bind fun v13 =>
    if (v13.2.2 != 0) = true then
      (some (.done (.inr (([] : List T_api_Member), t0.1, v13.2.2)))) else
    ((m_armatureref11_takeAttrs x0 v13.2.1).bind fun v14 =>
      if (v14.2.2 != 0) = true then
        (some (.done (.inr (([] : List T_api_Member), t0.1, v14.2.2)))) else
      ((getR v13.1 0).bind fun v15 =>
        (getR v13.1 1).bind fun v16 =>
        (getR v13.1 2).bind fun v17 =>
        (growK 48 (t0.2.2 ++ [({ f_Flags := v15, f_Name := v16, f_Desc := v17, f_Attributes := v14.1 } : T_api_Member)]).length).bind fun v18 =>
        (some (IntKind.wrap .i64 (t0.2.1 + (1 : Int)))).bind fun v19 =>
        some (.next (v14.2.1, v19, (t0.2.2 ++ [({ f_Flags := v15, f_Name := v16, f_Desc := v17, f_Attributes := v14.1 } : T_api_Member)])))))) else
  (some (.done (.inl ((t0.2.2, t0.1)))))
def m_armatureref11_takeMembers (x0 : List UInt8) (x1 : Int) : Option ((List T_api_Member) × Int × Int) :=
  (m_armatureref11_count x0 x1 64).bind fun v0 =>
  if (v0.2.2 != 0) = true then
    (some (([] : List T_api_Member), v0.2.1, v0.2.2)) else
  ((loopM (l37x1 v0 x0) rounds (v0.2.1, 0, ([] : List T_api_Member))).bind fun q1 =>
    match q1 with
    | .inl q0 => (some (q0.1, q0.2, 0))
    | .inr y0 => (some y0))
def st37x1 (v0 : Int × Int × Int) (x0 : List UInt8) : (Int × Int × (List T_api_Member)) → SL :=
  fun t0 => ⟨72, [(0, .str x0), (1, dI t0.1), (7, dI v0.1), (9, .lsl 9 0 ((t0.2.2.map row_T_api_Member).length)), (10, dI t0.2.1)], [(9, { sz := 4, rows := (t0.2.2.map row_T_api_Member), frz := 0, pure := true })]⟩
def J37x1  : JT (((List T_api_Member) × Int) ⊕ ((List T_api_Member) × Int × Int)) :=
  ju (je 0 fun q0 : (List T_api_Member) × Int => ⟨72, [(1, dI q0.2), (9, .lsl 9 0 ((q0.1.map row_T_api_Member).length))], [(9, { sz := 4, rows := (q0.1.map row_T_api_Member), frz := 0, pure := true })]⟩) (jr Try.prog Try.f37 R37)
theorem wl37x1 {v0 : Int × Int × Int} {x0 : List UInt8} {t0 : Int × Int × (List T_api_Member)} {r : Ctl (Int × Int × (List T_api_Member)) (((List T_api_Member) × Int) ⊕ ((List T_api_Member) × Int × Int))} {Γ : Ctx} (h : (l37x1 v0 x0) t0 = some r) : A Try.prog Γ (lpC Try.f37 175) [] (Rd (st37x1 v0 x0) J37x1 r) ((st37x1 v0 x0) t0).s :=
  go [] [] <| br h (fun h7 h => bd h fun v13 e13 h => go [] [rg 8 [(2, k (w35 e13))]] <| br h (fun h8 h => go [] [] <| dn h (i2 iR)) fun h8 h =>
    bd h fun v14 e14 h => go [] [rg 11 [(2, k (w38 e14))]] <| br h (fun h9 h => go [] [] <| dn h (i2 iR)) fun h9 h =>
      bd h fun v15 e15 h => bd h fun v16 e16 h => bd h fun v17 e17 h => bd h fun v18 e18 h => bd h fun v19 e19 h => go [] [rgo 14 [(2, ix e15), (5, ix e16), (8, ix e17), (12, br0 1 4), (13, ap e18)] [0, 1, 2, 3, 4, 5, 6, 7, 8, 9, 10, 11, 12, 13, 14] [13] [(2, [1]), (3, [1, 2]), (5, [4]), (6, [4, 5]), (8, [7]), (9, [7, 8]), (11, [1, 2, 3, 4, 5, 6, 7, 8, 9, 10]), (12, [1, 2, 3, 4, 5, 6, 7, 8, 9, 10, 11]), (13, [0, 1, 2, 3, 4, 5, 6, 7, 8, 9, 10, 11, 12]), (14, [0, 1, 2, 3, 4, 5, 6, 7, 8, 9, 10, 11, 12, 13])], rg 7 [(1, n e19)]] <| nx h) fun h7 h =>
  go [] [] <| dn h (i1 iE)
theorem w37 {x0 : List UInt8} {x1 : Int} {r : (List T_api_Member) × Int × Int} (h : m_armatureref11_takeMembers x0 x1 = some r) : CallSpec Try.prog 37 [.str x0, dI x1] (R37 r) :=
  cs Try.f37 <| bd h fun v0 e0 h => go [] [rg 1 [(2, k (w36 e0))]] <| br h (fun h0 h => go [] [] <| rt h) fun h0 h =>
  go [] [] <| bd h fun q1 e20 h => lp (cv := [.tmp 9 9 4]) e20 wl37x1 <| match q1, h with
    | .inl q0, h => j1 <| (qe <| goN [] [] <| rtB h (.tup [rw_ q0.1, dI q0.2, dI 0]) (a2 (rpI q0.1) (a2 trivial (a2 trivial trivial))) (by simp only [rwE] <;> kernel_rfl))
    | .inr y0, h => j2 <| (qr h)
/-! armature armatureref11.Decode -/
def R14 (y0 : T_api_File × Int) : D := .tup [.agg (row_T_api_File y0.1), .int .i64 y0.2]
def j14x1 (x0 : List UInt8) : Option (T_api_File × Int) :=
  (m_armatureref06_Decode x0 6).bind fun v1 =>
  if (v1.2.2 != 0) = true then
    (some (({ f_Pool := ([] : List T_api_Const), f_Flags := 0, f_This := 0, f_Super := 0, f_Interfaces := ([] : List Int), f_Fields := ([] : List T_api_Member), f_Methods := ([] : List T_api_Member), f_Attributes := ([] : List T_api_Attr) } : T_api_File), v1.2.2)) else
  ((m_armatureref11_takeNumbers x0 v1.2.1 3).bind fun v2 =>
    if (v2.2.2 != 0) = true then
      (some (({ f_Pool := ([] : List T_api_Const), f_Flags := 0, f_This := 0, f_Super := 0, f_Interfaces := ([] : List Int), f_Fields := ([] : List T_api_Member), f_Methods := ([] : List T_api_Member), f_Attributes := ([] : List T_api_Attr) } : T_api_File), v2.2.2)) else
    ((m_armatureref11_count x0 v2.2.1 8).bind fun v3 =>
      if (v3.2.2 != 0) = true then
        (some (({ f_Pool := ([] : List T_api_Const), f_Flags := 0, f_This := 0, f_Super := 0, f_Interfaces := ([] : List Int), f_Fields := ([] : List T_api_Member), f_Methods := ([] : List T_api_Member), f_Attributes := ([] : List T_api_Attr) } : T_api_File), v3.2.2)) else
      ((m_armatureref11_takeNumbers x0 v3.2.1 v3.1).bind fun v4 =>
        if (v4.2.2 != 0) = true then
          (some (({ f_Pool := ([] : List T_api_Const), f_Flags := 0, f_This := 0, f_Super := 0, f_Interfaces := ([] : List Int), f_Fields := ([] : List T_api_Member), f_Methods := ([] : List T_api_Member), f_Attributes := ([] : List T_api_Attr) } : T_api_File), v4.2.2)) else
        ((m_armatureref11_takeMembers x0 v4.2.1).bind fun v5 =>
          if (v5.2.2 != 0) = true then
            (some (({ f_Pool := ([] : List T_api_Const), f_Flags := 0, f_This := 0, f_Super := 0, f_Interfaces := ([] : List Int), f_Fields := ([] : List T_api_Member), f_Methods := ([] : List T_api_Member), f_Attributes := ([] : List T_api_Attr) } : T_api_File), v5.2.2)) else
          ((m_armatureref11_takeMembers x0 v5.2.1).bind fun v6 =>
            if (v6.2.2 != 0) = true then
              (some (({ f_Pool := ([] : List T_api_Const), f_Flags := 0, f_This := 0, f_Super := 0, f_Interfaces := ([] : List Int), f_Fields := ([] : List T_api_Member), f_Methods := ([] : List T_api_Member), f_Attributes := ([] : List T_api_Attr) } : T_api_File), v6.2.2)) else
            ((m_armatureref11_takeAttrs x0 v6.2.1).bind fun v7 =>
              if (v7.2.2 != 0) = true then
                (some (({ f_Pool := ([] : List T_api_Const), f_Flags := 0, f_This := 0, f_Super := 0, f_Interfaces := ([] : List Int), f_Fields := ([] : List T_api_Member), f_Methods := ([] : List T_api_Member), f_Attributes := ([] : List T_api_Attr) } : T_api_File), v7.2.2)) else
              (if (decide (v7.2.1 < (x0.length : Int))) = true then
                  (some (({ f_Pool := ([] : List T_api_Const), f_Flags := 0, f_This := 0, f_Super := 0, f_Interfaces := ([] : List Int), f_Fields := ([] : List T_api_Member), f_Methods := ([] : List T_api_Member), f_Attributes := ([] : List T_api_Attr) } : T_api_File), 10)) else
                ((getR v2.1 0).bind fun v8 =>
                  (getR v2.1 1).bind fun v9 =>
                  (getR v2.1 2).bind fun v10 =>
                  some (({ f_Pool := v1.1, f_Flags := v8, f_This := v9, f_Super := v10, f_Interfaces := v4.1, f_Fields := v5.1, f_Methods := v6.1, f_Attributes := v7.1 } : T_api_File), 0)))))))))
def m_armatureref11_Decode (x0 : List UInt8) : Option (T_api_File × Int) :=
  if (decide ((x0.length : Int) > 1048576)) = true then
    (some (({ f_Pool := ([] : List T_api_Const), f_Flags := 0, f_This := 0, f_Super := 0, f_Interfaces := ([] : List Int), f_Fields := ([] : List T_api_Member), f_Methods := ([] : List T_api_Member), f_Attributes := ([] : List T_api_Attr) } : T_api_File), 8)) else
  (if (decide ((x0.length : Int) < 6)) = true then (some (({ f_Pool := ([] : List T_api_Const), f_Flags := 0, f_This := 0, f_Super := 0, f_Interfaces := ([] : List Int), f_Fields := ([] : List T_api_Member), f_Methods := ([] : List T_api_Member), f_Attributes := ([] : List T_api_Attr) } : T_api_File), 4)) else
    ((sub x0 0 6).bind fun v0 =>
    if (!(v0 == ([65, 82, 77, 65, 0, 1] : List UInt8))) = true then
      (some (({ f_Pool := ([] : List T_api_Const), f_Flags := 0, f_This := 0, f_Super := 0, f_Interfaces := ([] : List Int), f_Fields := ([] : List T_api_Member), f_Methods := ([] : List T_api_Member), f_Attributes := ([] : List T_api_Attr) } : T_api_File), 4)) else
    ((j14x1 x0) )))
theorem wj14x1 {x0 : List UInt8} {r : T_api_File × Int} {Γ : Ctx} (h : (j14x1 x0)  = some r) : Jn Try.prog Try.f14 Γ (Den.Ends Try.prog Try.f14 (R14 r)) 23 ⟨123, [(0, .str x0), (2, .lptr 2 0 0)], [(2, { sz := 8, rows := [[.sl true (([] : List T_api_Const).map row_T_api_Const), dI 0, dI 0, dI 0, .sl true (([] : List Int).map rI64), .sl true (([] : List T_api_Member).map row_T_api_Member), .sl true (([] : List T_api_Member).map row_T_api_Member), .sl true (([] : List T_api_Attr).map row_T_api_Attr)]], frz := 0, pure := false })]⟩ :=
  so <| bd h fun v1 e1 h => go [] [rg 5 [(1, k (w34 e1))]] <| br h (fun h3 h => go [] [] <| rt h) fun h3 h =>
  bd h fun v2 e2 h => go [] [rg 8 [(2, k (w35 e2))]] <| br h (fun h4 h => go [] [] <| rt h) fun h4 h =>
    bd h fun v3 e3 h => go [] [rg 11 [(2, k (w36 e3))]] <| br h (fun h5 h => go [] [] <| rt h) fun h5 h =>
      bd h fun v4 e4 h => go [] [rg 14 [(3, k (w35 e4))]] <| br h (fun h6 h => go [] [] <| rt h) fun h6 h =>
        bd h fun v5 e5 h => go [] [rg 17 [(2, k (w37 e5))]] <| br h (fun h7 h => go [] [] <| rt h) fun h7 h =>
          bd h fun v6 e6 h => go [] [rg 20 [(2, k (w37 e6))]] <| br h (fun h8 h => go [] [] <| rt h) fun h8 h =>
            bd h fun v7 e7 h => go [] [rg 23 [(2, k (w38 e7))]] <| br h (fun h9 h => go [] [] <| rt h) fun h9 h =>
              go [] [] <| br h (fun h10 h => go [] [] <| rt h) fun h10 h =>
                bd h fun v8 e8 h => bd h fun v9 e9 h => bd h fun v10 e10 h => go [] [rgo 28 [(2, ix e8), (5, ix e9), (8, ix e10)] [0, 1, 2, 3, 4, 5, 6, 7, 8, 9, 10, 11, 12, 13, 14, 15, 16] [15] [(2, [1]), (3, [1, 2]), (5, [4]), (6, [4, 5]), (8, [7]), (9, [7, 8]), (14, [0, 1, 2, 3, 4, 5, 6, 7, 8, 9, 10, 11, 12, 13]), (15, [0, 1, 2, 3, 4, 5, 6, 7, 8, 9, 10, 11, 12, 13, 14]), (16, [0, 1, 2, 3, 4, 5, 6, 7, 8, 9, 10, 11, 12, 13, 14, 15])]] <| rt h
theorem w14 {x0 : List UInt8} {r : T_api_File × Int} (h : m_armatureref11_Decode x0 = some r) : CallSpec Try.prog 14 [.str x0] (R14 r) :=
  cs Try.f14 <| go [] [] <| br h (fun h0 h => go [] [] <| rt h) fun h0 h =>
  sp h (fun h1 h => go [] [rg 3 [(2, kb h1)]] <| bT rfl <| go [] [] <| rt h) fun h1 h =>
    bd h fun v0 e0 h => go [] [rg 3 [(2, kb h1), (5, ss e0)]] <| br h (fun h2 h => go [] [] <| rt h) fun h2 h =>
    go [5] [] <| jn (wj14x1 h)
/-! armature armatureref11.sameAttrs -/
def R40 (y0 : Bool) : D := .bool y0
def l40x1 (x0 x1 : List T_api_Attr) (t0 : Int) : Option (Ctl (Int) (Unit ⊕ Bool)) :=
  if (decide (t0 < (x0.length : Int))) = true then
    ((getR x0 t0).bind fun v2 =>
    (getR x1 t0).bind fun v3 =>
    if (!(eqb_T_api_Attr v2 v3)) = true then
      (some (.done (.inr false))) else
    ((some (IntKind.wrap .i64 (t0 + (1 : Int)))).bind fun v4 =>
      some (.next v4))) else
  (some (.done (.inl (()))))
def m_armatureref11_sameAttrs (x0 x1 : List T_api_Attr) : Option (Bool) :=
  if ((x0.length : Int) != (x1.length : Int)) = true then
    (some false) else
  ((loopM (l40x1 x0 x1) rounds 0).bind fun q1 =>
    match q1 with
    | .inl q0 => (some true)
    | .inr y0 => (some y0))
def st40x1 (x0 x1 : List T_api_Attr) : Int → SL :=
  fun t0 => ⟨26, [(0, .sl false (x0.map row_T_api_Attr)), (1, .sl false (x1.map row_T_api_Attr)), (5, dI t0)], []⟩
def J40x1  : JT (Unit ⊕ Bool) :=
  ju (je 0 fun q0 : Unit => ⟨26, [], []⟩) (jr Try.prog Try.f40 R40)
theorem wl40x1 {x0 x1 : List T_api_Attr} {t0 : Int} {r : Ctl (Int) (Unit ⊕ Bool)} {Γ : Ctx} (h : (l40x1 x0 x1) t0 = some r) : A Try.prog Γ (lpC Try.f40 43) [] (Rd (st40x1 x0 x1) J40x1 r) ((st40x1 x0 x1) t0).s :=
  go [] [rg 4 [(2, ln x0)]] <| br h (fun h3 h => bd h fun v2 e2 h => bd h fun v3 e3 h => go [] [rgo 6 [(2, ix e2), (6, ix e3), (8, qs eqg_95 eqp_95 (!(eqb_T_api_Attr v2 v3)))] [0, 1, 2, 3, 4, 5, 6, 7, 8] [] [(2, [0, 1]), (3, [0, 1, 2]), (6, [4, 5]), (7, [4, 5, 6]), (8, [0, 1, 2, 3, 4, 5, 6, 7])]] <| br h (fun h4 h => go [] [] <| dn h (i2 iR)) fun h4 h =>
    bd h fun v4 e4 h => go [] [rg 5 [(1, n e4)]] <| nx h) fun h3 h =>
  go [] [] <| dn h (i1 iE)
theorem w40 {x0 x1 : List T_api_Attr} {r : Bool} (h : m_armatureref11_sameAttrs x0 x1 = some r) : CallSpec Try.prog 40 [.sl false (x0.map row_T_api_Attr), .sl false (x1.map row_T_api_Attr)] (R40 r) :=
  cs Try.f40 <| go [] [rg 1 [(1, ln x0), (3, ln x1)]] <| br h (fun h0 h => go [] [] <| rt h) fun h0 h =>
  go [] [] <| bd h fun q1 e5 h => lp e5 wl40x1 <| match q1, h with
    | .inl q0, h => j1 <| (qe <| goN [] [] <| rt h)
    | .inr y0, h => j2 <| (qr h)
/-! armature armatureref11.sameMembers -/
def R39 (y0 : Bool) : D := .bool y0
def l39x1 (x0 x1 : List T_api_Member) (t0 : Int) : Option (Ctl (Int) (Unit ⊕ Bool)) :=
  if (decide (t0 < (x0.length : Int))) = true then
    ((getR x0 t0).bind fun v9 =>
    (getR x1 t0).bind fun v10 =>
    if (v9.f_Flags != v10.f_Flags) = true then (some (.done (.inr false))) else
    ((getR x0 t0).bind fun v11 =>
    (getR x1 t0).bind fun v12 =>
    if (v11.f_Name != v12.f_Name) = true then (some (.done (.inr false))) else
    ((getR x0 t0).bind fun v13 =>
    (getR x1 t0).bind fun v14 =>
    if (v13.f_Desc != v14.f_Desc) = true then (some (.done (.inr false))) else
    ((getR x0 t0).bind fun v15 =>
    (getR x1 t0).bind fun v16 =>
    (m_armatureref11_sameAttrs v15.f_Attributes v16.f_Attributes).bind fun v17 =>
    if (!v17) = true then
      (some (.done (.inr false))) else
    ((some (IntKind.wrap .i64 (t0 + (1 : Int)))).bind fun v18 =>
      some (.next v18)))))) else
  (some (.done (.inl (()))))
def m_armatureref11_sameMembers (x0 x1 : List T_api_Member) : Option (Bool) :=
  if ((x0.length : Int) != (x1.length : Int)) = true then
    (some false) else
  ((loopM (l39x1 x0 x1) rounds 0).bind fun q1 =>
    match q1 with
    | .inl q0 => (some true)
    | .inr y0 => (some y0))
def st39x1 (x0 x1 : List T_api_Member) : Int → SL :=
  fun t0 => ⟨68, [(0, .sl false (x0.map row_T_api_Member)), (1, .sl false (x1.map row_T_api_Member)), (5, dI t0)], []⟩
def J39x1  : JT (Unit ⊕ Bool) :=
  ju (je 0 fun q0 : Unit => ⟨68, [], []⟩) (jr Try.prog Try.f39 R39)
theorem wl39x1 {x0 x1 : List T_api_Member} {t0 : Int} {r : Ctl (Int) (Unit ⊕ Bool)} {Γ : Ctx} (h : (l39x1 x0 x1) t0 = some r) : A Try.prog Γ (lpC Try.f39 43) [] (Rd (st39x1 x0 x1) J39x1 r) ((st39x1 x0 x1) t0).s :=
  go [] [rg 4 [(2, ln x0)]] <| br h (fun h6 h => bd h fun v9 e9 h => bd h fun v10 e10 h => sp h (fun h7 h => go [] [rgo 6 [(2, ix e9), (7, ix e10), (10, kb h7)] [0, 1, 2, 3, 4, 5, 6, 7, 8, 9, 10, 11, 12, 13, 14, 15, 16, 17, 18, 19, 20, 21, 22, 23, 24, 25, 26, 27, 28, 29, 30, 31, 32, 33, 34, 35, 36, 37, 38, 39, 40, 41, 42, 43, 44, 45, 46, 47, 48, 49, 50] [] [(2, [0, 1]), (3, [0, 1, 2]), (4, [0, 1, 2, 3]), (7, [5, 6]), (8, [5, 6, 7]), (9, [5, 6, 7, 8]), (10, [0, 1, 2, 3, 4, 5, 6, 7, 8, 9]), (11, [0, 1, 2, 3, 4, 5, 6, 7, 8, 9, 10]), (12, [0, 1, 2, 3, 4, 5, 6, 7, 8, 9, 10, 11]), (13, [0, 1, 2, 3, 4, 5, 6, 7, 8, 9, 10, 11]), (14, [0, 1, 2, 3, 4, 5, 6, 7, 8, 9, 10, 11, 12, 13]), (15, [0, 1, 2, 3, 4, 5, 6, 7, 8, 9, 10, 11, 12, 13, 14]), (16, [0, 1, 2, 3, 4, 5, 6, 7, 8, 9, 10, 11, 12, 13, 14, 15]), (17, [0, 1, 2, 3, 4, 5, 6, 7, 8, 9, 10, 11]), (18, [0, 1, 2, 3, 4, 5, 6, 7, 8, 9, 10, 11]), (19, [0, 1, 2, 3, 4, 5, 6, 7, 8, 9, 10, 11, 17, 18]), (20, [0, 1, 2, 3, 4, 5, 6, 7, 8, 9, 10, 11, 17, 18, 19]), (21, [0, 1, 2, 3, 4, 5, 6, 7, 8, 9, 10, 11, 17, 18, 19, 20]), (22, [0, 1, 2, 3, 4, 5, 6, 7, 8, 9, 10, 11, 12, 13, 14, 15, 16, 17, 18, 19, 20, 21]), (23, [0, 1, 2, 3, 4, 5, 6, 7, 8, 9, 10, 11, 12, 13, 14, 15, 16, 17, 18, 19, 20, 21, 22]), (24, [0, 1, 2, 3, 4, 5, 6, 7, 8, 9, 10, 11, 12, 13, 14, 15, 16, 17, 18, 19, 20, 21, 22, 23]), (25, [0, 1, 2, 3, 4, 5, 6, 7, 8, 9, 10, 11, 12, 13, 14, 15, 16, 17, 18, 19, 20, 21, 22, 23, 24]), (26, [0, 1, 2, 3, 4, 5, 6, 7, 8, 9, 10, 11, 12, 13, 14, 15, 16, 17, 18, 19, 20, 21, 22, 23, 24]), (27, [0, 1, 2, 3, 4, 5, 6, 7, 8, 9, 10, 11, 12, 13, 14, 15, 16, 17, 18, 19, 20, 21, 22, 23, 24, 25, 26]), (28, [0, 1, 2, 3, 4, 5, 6, 7, 8, 9, 10, 11, 12, 13, 14, 15, 16, 17, 18, 19, 20, 21, 22, 23, 24, 25, 26, 27]), (29, [0, 1, 2, 3, 4, 5, 6, 7, 8, 9, 10, 11, 12, 13, 14, 15, 16, 17, 18, 19, 20, 21, 22, 23, 24, 25, 26, 27, 28]), (30, [0, 1, 2, 3, 4, 5, 6, 7, 8, 9, 10, 11, 12, 13, 14, 15, 16, 17, 18, 19, 20, 21, 22, 23, 24]), (31, [0, 1, 2, 3, 4, 5, 6, 7, 8, 9, 10, 11, 12, 13, 14, 15, 16, 17, 18, 19, 20, 21, 22, 23, 24]), (32, [0, 1, 2, 3, 4, 5, 6, 7, 8, 9, 10, 11, 12, 13, 14, 15, 16, 17, 18, 19, 20, 21, 22, 23, 24, 30, 31]), (33, [0, 1, 2, 3, 4, 5, 6, 7, 8, 9, 10, 11, 12, 13, 14, 15, 16, 17, 18, 19, 20, 21, 22, 23, 24, 30, 31, 32]), (34, [0, 1, 2, 3, 4, 5, 6, 7, 8, 9, 10, 11, 12, 13, 14, 15, 16, 17, 18, 19, 20, 21, 22, 23, 24, 30, 31, 32, 33]), (35, [0, 1, 2, 3, 4, 5, 6, 7, 8, 9, 10, 11, 12, 13, 14, 15, 16, 17, 18, 19, 20, 21, 22, 23, 24, 25, 26, 27, 28, 29, 30, 31, 32, 33, 34]), (36, [0, 1, 2, 3, 4, 5, 6, 7, 8, 9, 10, 11, 12, 13, 14, 15, 16, 17, 18, 19, 20, 21, 22, 23, 24, 25, 26, 27, 28, 29, 30, 31, 32, 33, 34, 35]), (37, [0, 1, 2, 3, 4, 5, 6, 7, 8, 9, 10, 11, 12, 13, 14, 15, 16, 17, 18, 19, 20, 21, 22, 23, 24, 25, 26, 27, 28, 29, 30, 31, 32, 33, 34, 35, 36]), (38, [0, 1, 2, 3, 4, 5, 6, 7, 8, 9, 10, 11, 12, 13, 14, 15, 16, 17, 18, 19, 20, 21, 22, 23, 24, 25, 26, 27, 28, 29, 30, 31, 32, 33, 34, 35, 36, 37]), (39, [0, 1, 2, 3, 4, 5, 6, 7, 8, 9, 10, 11, 12, 13, 14, 15, 16, 17, 18, 19, 20, 21, 22, 23, 24, 25, 26, 27, 28, 29, 30, 31, 32, 33, 34, 35, 36, 37]), (40, [0, 1, 2, 3, 4, 5, 6, 7, 8, 9, 10, 11, 12, 13, 14, 15, 16, 17, 18, 19, 20, 21, 22, 23, 24, 25, 26, 27, 28, 29, 30, 31, 32, 33, 34, 35, 36, 37, 38, 39]), (41, [0, 1, 2, 3, 4, 5, 6, 7, 8, 9, 10, 11, 12, 13, 14, 15, 16, 17, 18, 19, 20, 21, 22, 23, 24, 25, 26, 27, 28, 29, 30, 31, 32, 33, 34, 35, 36, 37, 38, 39, 40]), (42, [0, 1, 2, 3, 4, 5, 6, 7, 8, 9, 10, 11, 12, 13, 14, 15, 16, 17, 18, 19, 20, 21, 22, 23, 24, 25, 26, 27, 28, 29, 30, 31, 32, 33, 34, 35, 36, 37, 38, 39, 40, 41]), (43, [0, 1, 2, 3, 4, 5, 6, 7, 8, 9, 10, 11, 12, 13, 14, 15, 16, 17, 18, 19, 20, 21, 22, 23, 24, 25, 26, 27, 28, 29, 30, 31, 32, 33, 34, 35, 36, 37]), (44, [0, 1, 2, 3, 4, 5, 6, 7, 8, 9, 10, 11, 12, 13, 14, 15, 16, 17, 18, 19, 20, 21, 22, 23, 24, 25, 26, 27, 28, 29, 30, 31, 32, 33, 34, 35, 36, 37]), (45, [0, 1, 2, 3, 4, 5, 6, 7, 8, 9, 10, 11, 12, 13, 14, 15, 16, 17, 18, 19, 20, 21, 22, 23, 24, 25, 26, 27, 28, 29, 30, 31, 32, 33, 34, 35, 36, 37, 43, 44]), (46, [0, 1, 2, 3, 4, 5, 6, 7, 8, 9, 10, 11, 12, 13, 14, 15, 16, 17, 18, 19, 20, 21, 22, 23, 24, 25, 26, 27, 28, 29, 30, 31, 32, 33, 34, 35, 36, 37, 43, 44, 45]), (47, [0, 1, 2, 3, 4, 5, 6, 7, 8, 9, 10, 11, 12, 13, 14, 15, 16, 17, 18, 19, 20, 21, 22, 23, 24, 25, 26, 27, 28, 29, 30, 31, 32, 33, 34, 35, 36, 37, 43, 44, 45, 46]), (48, [0, 1, 2, 3, 4, 5, 6, 7, 8, 9, 10, 11, 12, 13, 14, 15, 16, 17, 18, 19, 20, 21, 22, 23, 24, 25, 26, 27, 28, 29, 30, 31, 32, 33, 34, 35, 36, 37, 38, 39, 40, 41, 42, 43, 44, 45, 46, 47]), (49, [0, 1, 2, 3, 4, 5, 6, 7, 8, 9, 10, 11, 12, 13, 14, 15, 16, 17, 18, 19, 20, 21, 22, 23, 24, 25, 26, 27, 28, 29, 30, 31, 32, 33, 34, 35, 36, 37, 38, 39, 40, 41, 42, 43, 44, 45, 46, 47, 48]), (50, [0, 1, 2, 3, 4, 5, 6, 7, 8, 9, 10, 11, 12, 13, 14, 15, 16, 17, 18, 19, 20, 21, 22, 23, 24, 25, 26, 27, 28, 29, 30, 31, 32, 33, 34, 35, 36, 37, 38, 39, 40, 41, 42, 43, 44, 45, 46, 47, 48, 49])]] <| bT rfl <| go [] [] <| dn h (i2 iR)) fun h7 h =>
    bd h fun v11 e11 h => bd h fun v12 e12 h => sp h (fun h8 h => go [] [rgo 6 [(2, ix e9), (7, ix e10), (10, kb h7), (14, ix e11), (19, ix e12), (22, kb h8)] [0, 1, 2, 3, 4, 5, 6, 7, 8, 9, 10, 11, 12, 13, 14, 15, 16, 17, 18, 19, 20, 21, 22, 23, 24, 25, 26, 27, 28, 29, 30, 31, 32, 33, 34, 35, 36, 37, 38, 39, 40, 41, 42, 43, 44, 45, 46, 47, 48, 49, 50] [] [(2, [0, 1]), (3, [0, 1, 2]), (4, [0, 1, 2, 3]), (7, [5, 6]), (8, [5, 6, 7]), (9, [5, 6, 7, 8]), (10, [0, 1, 2, 3, 4, 5, 6, 7, 8, 9]), (11, [0, 1, 2, 3, 4, 5, 6, 7, 8, 9, 10]), (12, [0, 1, 2, 3, 4, 5, 6, 7, 8, 9, 10, 11]), (13, [0, 1, 2, 3, 4, 5, 6, 7, 8, 9, 10, 11]), (14, [0, 1, 2, 3, 4, 5, 6, 7, 8, 9, 10, 11, 12, 13]), (15, [0, 1, 2, 3, 4, 5, 6, 7, 8, 9, 10, 11, 12, 13, 14]), (16, [0, 1, 2, 3, 4, 5, 6, 7, 8, 9, 10, 11, 12, 13, 14, 15]), (17, [0, 1, 2, 3, 4, 5, 6, 7, 8, 9, 10, 11]), (18, [0, 1, 2, 3, 4, 5, 6, 7, 8, 9, 10, 11]), (19, [0, 1, 2, 3, 4, 5, 6, 7, 8, 9, 10, 11, 17, 18]), (20, [0, 1, 2, 3, 4, 5, 6, 7, 8, 9, 10, 11, 17, 18, 19]), (21, [0, 1, 2, 3, 4, 5, 6, 7, 8, 9, 10, 11, 17, 18, 19, 20]), (22, [0, 1, 2, 3, 4, 5, 6, 7, 8, 9, 10, 11, 12, 13, 14, 15, 16, 17, 18, 19, 20, 21]), (23, [0, 1, 2, 3, 4, 5, 6, 7, 8, 9, 10, 11, 12, 13, 14, 15, 16, 17, 18, 19, 20, 21, 22]), (24, [0, 1, 2, 3, 4, 5, 6, 7, 8, 9, 10, 11, 12, 13, 14, 15, 16, 17, 18, 19, 20, 21, 22, 23]), (25, [0, 1, 2, 3, 4, 5, 6, 7, 8, 9, 10, 11, 12, 13, 14, 15, 16, 17, 18, 19, 20, 21, 22, 23, 24]), (26, [0, 1, 2, 3, 4, 5, 6, 7, 8, 9, 10, 11, 12, 13, 14, 15, 16, 17, 18, 19, 20, 21, 22, 23, 24]), (27, [0, 1, 2, 3, 4, 5, 6, 7, 8, 9, 10, 11, 12, 13, 14, 15, 16, 17, 18, 19, 20, 21, 22, 23, 24, 25, 26]), (28, [0, 1, 2, 3, 4, 5, 6, 7, 8, 9, 10, 11, 12, 13, 14, 15, 16, 17, 18, 19, 20, 21, 22, 23, 24, 25, 26, 27]), (29, [0, 1, 2, 3, 4, 5, 6, 7, 8, 9, 10, 11, 12, 13, 14, 15, 16, 17, 18, 19, 20, 21, 22, 23, 24, 25, 26, 27, 28]), (30, [0, 1, 2, 3, 4, 5, 6, 7, 8, 9, 10, 11, 12, 13, 14, 15, 16, 17, 18, 19, 20, 21, 22, 23, 24]), (31, [0, 1, 2, 3, 4, 5, 6, 7, 8, 9, 10, 11, 12, 13, 14, 15, 16, 17, 18, 19, 20, 21, 22, 23, 24]), (32, [0, 1, 2, 3, 4, 5, 6, 7, 8, 9, 10, 11, 12, 13, 14, 15, 16, 17, 18, 19, 20, 21, 22, 23, 24, 30, 31]), (33, [0, 1, 2, 3, 4, 5, 6, 7, 8, 9, 10, 11, 12, 13, 14, 15, 16, 17, 18, 19, 20, 21, 22, 23, 24, 30, 31, 32]), (34, [0, 1, 2, 3, 4, 5, 6, 7, 8, 9, 10, 11, 12, 13, 14, 15, 16, 17, 18, 19, 20, 21, 22, 23, 24, 30, 31, 32, 33]), (35, [0, 1, 2, 3, 4, 5, 6, 7, 8, 9, 10, 11, 12, 13, 14, 15, 16, 17, 18, 19, 20, 21, 22, 23, 24, 25, 26, 27, 28, 29, 30, 31, 32, 33, 34]), (36, [0, 1, 2, 3, 4, 5, 6, 7, 8, 9, 10, 11, 12, 13, 14, 15, 16, 17, 18, 19, 20, 21, 22, 23, 24, 25, 26, 27, 28, 29, 30, 31, 32, 33, 34, 35]), (37, [0, 1, 2, 3, 4, 5, 6, 7, 8, 9, 10, 11, 12, 13, 14, 15, 16, 17, 18, 19, 20, 21, 22, 23, 24, 25, 26, 27, 28, 29, 30, 31, 32, 33, 34, 35, 36]), (38, [0, 1, 2, 3, 4, 5, 6, 7, 8, 9, 10, 11, 12, 13, 14, 15, 16, 17, 18, 19, 20, 21, 22, 23, 24, 25, 26, 27, 28, 29, 30, 31, 32, 33, 34, 35, 36, 37]), (39, [0, 1, 2, 3, 4, 5, 6, 7, 8, 9, 10, 11, 12, 13, 14, 15, 16, 17, 18, 19, 20, 21, 22, 23, 24, 25, 26, 27, 28, 29, 30, 31, 32, 33, 34, 35, 36, 37]), (40, [0, 1, 2, 3, 4, 5, 6, 7, 8, 9, 10, 11, 12, 13, 14, 15, 16, 17, 18, 19, 20, 21, 22, 23, 24, 25, 26, 27, 28, 29, 30, 31, 32, 33, 34, 35, 36, 37, 38, 39]), (41, [0, 1, 2, 3, 4, 5, 6, 7, 8, 9, 10, 11, 12, 13, 14, 15, 16, 17, 18, 19, 20, 21, 22, 23, 24, 25, 26, 27, 28, 29, 30, 31, 32, 33, 34, 35, 36, 37, 38, 39, 40]), (42, [0, 1, 2, 3, 4, 5, 6, 7, 8, 9, 10, 11, 12, 13, 14, 15, 16, 17, 18, 19, 20, 21, 22, 23, 24, 25, 26, 27, 28, 29, 30, 31, 32, 33, 34, 35, 36, 37, 38, 39, 40, 41]), (43, [0, 1, 2, 3, 4, 5, 6, 7, 8, 9, 10, 11, 12, 13, 14, 15, 16, 17, 18, 19, 20, 21, 22, 23, 24, 25, 26, 27, 28, 29, 30, 31, 32, 33, 34, 35, 36, 37]), (44, [0, 1, 2, 3, 4, 5, 6, 7, 8, 9, 10, 11, 12, 13, 14, 15, 16, 17, 18, 19, 20, 21, 22, 23, 24, 25, 26, 27, 28, 29, 30, 31, 32, 33, 34, 35, 36, 37]), (45, [0, 1, 2, 3, 4, 5, 6, 7, 8, 9, 10, 11, 12, 13, 14, 15, 16, 17, 18, 19, 20, 21, 22, 23, 24, 25, 26, 27, 28, 29, 30, 31, 32, 33, 34, 35, 36, 37, 43, 44]), (46, [0, 1, 2, 3, 4, 5, 6, 7, 8, 9, 10, 11, 12, 13, 14, 15, 16, 17, 18, 19, 20, 21, 22, 23, 24, 25, 26, 27, 28, 29, 30, 31, 32, 33, 34, 35, 36, 37, 43, 44, 45]), (47, [0, 1, 2, 3, 4, 5, 6, 7, 8, 9, 10, 11, 12, 13, 14, 15, 16, 17, 18, 19, 20, 21, 22, 23, 24, 25, 26, 27, 28, 29, 30, 31, 32, 33, 34, 35, 36, 37, 43, 44, 45, 46]), (48, [0, 1, 2, 3, 4, 5, 6, 7, 8, 9, 10, 11, 12, 13, 14, 15, 16, 17, 18, 19, 20, 21, 22, 23, 24, 25, 26, 27, 28, 29, 30, 31, 32, 33, 34, 35, 36, 37, 38, 39, 40, 41, 42, 43, 44, 45, 46, 47]), (49, [0, 1, 2, 3, 4, 5, 6, 7, 8, 9, 10, 11, 12, 13, 14, 15, 16, 17, 18, 19, 20, 21, 22, 23, 24, 25, 26, 27, 28, 29, 30, 31, 32, 33, 34, 35, 36, 37, 38, 39, 40, 41, 42, 43, 44, 45, 46, 47, 48]), (50, [0, 1, 2, 3, 4, 5, 6, 7, 8, 9, 10, 11, 12, 13, 14, 15, 16, 17, 18, 19, 20, 21, 22, 23, 24, 25, 26, 27, 28, 29, 30, 31, 32, 33, 34, 35, 36, 37, 38, 39, 40, 41, 42, 43, 44, 45, 46, 47, 48, 49])]] <| bT rfl <| go [] [] <| dn h (i2 iR)) fun h8 h =>
    bd h fun v13 e13 h => bd h fun v14 e14 h => sp h (fun h9 h => go [] [rgo 6 [(2, ix e9), (7, ix e10), (10, kb h7), (14, ix e11), (19, ix e12), (22, kb h8), (27, ix e13), (32, ix e14), (35, kb h9)] [0, 1, 2, 3, 4, 5, 6, 7, 8, 9, 10, 11, 12, 13, 14, 15, 16, 17, 18, 19, 20, 21, 22, 23, 24, 25, 26, 27, 28, 29, 30, 31, 32, 33, 34, 35, 36, 37, 38, 39, 40, 41, 42, 43, 44, 45, 46, 47, 48, 49, 50] [] [(2, [0, 1]), (3, [0, 1, 2]), (4, [0, 1, 2, 3]), (7, [5, 6]), (8, [5, 6, 7]), (9, [5, 6, 7, 8]), (10, [0, 1, 2, 3, 4, 5, 6, 7, 8, 9]), (11, [0, 1, 2, 3, 4, 5, 6, 7, 8, 9, 10]), (12, [0, 1, 2, 3, 4, 5, 6, 7, 8, 9, 10, 11]), (13, [0, 1, 2, 3, 4, 5, 6, 7, 8, 9, 10, 11]), (14, [0, 1, 2, 3, 4, 5, 6, 7, 8, 9, 10, 11, 12, 13]), (15, [0, 1, 2, 3, 4, 5, 6, 7, 8, 9, 10, 11, 12, 13, 14]), (16, [0, 1, 2, 3, 4, 5, 6, 7, 8, 9, 10, 11, 12, 13, 14, 15]), (17, [0, 1, 2, 3, 4, 5, 6, 7, 8, 9, 10, 11]), (18, [0, 1, 2, 3, 4, 5, 6, 7, 8, 9, 10, 11]), (19, [0, 1, 2, 3, 4, 5, 6, 7, 8, 9, 10, 11, 17, 18]), (20, [0, 1, 2, 3, 4, 5, 6, 7, 8, 9, 10, 11, 17, 18, 19]), (21, [0, 1, 2, 3, 4, 5, 6, 7, 8, 9, 10, 11, 17, 18, 19, 20]), (22, [0, 1, 2, 3, 4, 5, 6, 7, 8, 9, 10, 11, 12, 13, 14, 15, 16, 17, 18, 19, 20, 21]), (23, [0, 1, 2, 3, 4, 5, 6, 7, 8, 9, 10, 11, 12, 13, 14, 15, 16, 17, 18, 19, 20, 21, 22]), (24, [0, 1, 2, 3, 4, 5, 6, 7, 8, 9, 10, 11, 12, 13, 14, 15, 16, 17, 18, 19, 20, 21, 22, 23]), (25, [0, 1, 2, 3, 4, 5, 6, 7, 8, 9, 10, 11, 12, 13, 14, 15, 16, 17, 18, 19, 20, 21, 22, 23, 24]), (26, [0, 1, 2, 3, 4, 5, 6, 7, 8, 9, 10, 11, 12, 13, 14, 15, 16, 17, 18, 19, 20, 21, 22, 23, 24]), (27, [0, 1, 2, 3, 4, 5, 6, 7, 8, 9, 10, 11, 12, 13, 14, 15, 16, 17, 18, 19, 20, 21, 22, 23, 24, 25, 26]), (28, [0, 1, 2, 3, 4, 5, 6, 7, 8, 9, 10, 11, 12, 13, 14, 15, 16, 17, 18, 19, 20, 21, 22, 23, 24, 25, 26, 27]), (29, [0, 1, 2, 3, 4, 5, 6, 7, 8, 9, 10, 11, 12, 13, 14, 15, 16, 17, 18, 19, 20, 21, 22, 23, 24, 25, 26, 27, 28]), (30, [0, 1, 2, 3, 4, 5, 6, 7, 8, 9, 10, 11, 12, 13, 14, 15, 16, 17, 18, 19, 20, 21, 22, 23, 24]), (31, [0, 1, 2, 3, 4, 5, 6, 7, 8, 9, 10, 11, 12, 13, 14, 15, 16, 17, 18, 19, 20, 21, 22, 23, 24]), (32, [0, 1, 2, 3, 4, 5, 6, 7, 8, 9, 10, 11, 12, 13, 14, 15, 16, 17, 18, 19, 20, 21, 22, 23, 24, 30, 31]), (33, [0, 1, 2, 3, 4, 5, 6, 7, 8, 9, 10, 11, 12, 13, 14, 15, 16, 17, 18, 19, 20, 21, 22, 23, 24, 30, 31, 32]), (34, [0, 1, 2, 3, 4, 5, 6, 7, 8, 9, 10, 11, 12, 13, 14, 15, 16, 17, 18, 19, 20, 21, 22, 23, 24, 30, 31, 32, 33]), (35, [0, 1, 2, 3, 4, 5, 6, 7, 8, 9, 10, 11, 12, 13, 14, 15, 16, 17, 18, 19, 20, 21, 22, 23, 24, 25, 26, 27, 28, 29, 30, 31, 32, 33, 34]), (36, [0, 1, 2, 3, 4, 5, 6, 7, 8, 9, 10, 11, 12, 13, 14, 15, 16, 17, 18, 19, 20, 21, 22, 23, 24, 25, 26, 27, 28, 29, 30, 31, 32, 33, 34, 35]), (37, [0, 1, 2, 3, 4, 5, 6, 7, 8, 9, 10, 11, 12, 13, 14, 15, 16, 17, 18, 19, 20, 21, 22, 23, 24, 25, 26, 27, 28, 29, 30, 31, 32, 33, 34, 35, 36]), (38, [0, 1, 2, 3, 4, 5, 6, 7, 8, 9, 10, 11, 12, 13, 14, 15, 16, 17, 18, 19, 20, 21, 22, 23, 24, 25, 26, 27, 28, 29, 30, 31, 32, 33, 34, 35, 36, 37]), (39, [0, 1, 2, 3, 4, 5, 6, 7, 8, 9, 10, 11, 12, 13, 14, 15, 16, 17, 18, 19, 20, 21, 22, 23, 24, 25, 26, 27, 28, 29, 30, 31, 32, 33, 34, 35, 36, 37]), (40, [0, 1, 2, 3, 4, 5, 6, 7, 8, 9, 10, 11, 12, 13, 14, 15, 16, 17, 18, 19, 20, 21, 22, 23, 24, 25, 26, 27, 28, 29, 30, 31, 32, 33, 34, 35, 36, 37, 38, 39]), (41, [0, 1, 2, 3, 4, 5, 6, 7, 8, 9, 10, 11, 12, 13, 14, 15, 16, 17, 18, 19, 20, 21, 22, 23, 24, 25, 26, 27, 28, 29, 30, 31, 32, 33, 34, 35, 36, 37, 38, 39, 40]), (42, [0, 1, 2, 3, 4, 5, 6, 7, 8, 9, 10, 11, 12, 13, 14, 15, 16, 17, 18, 19, 20, 21, 22, 23, 24, 25, 26, 27, 28, 29, 30, 31, 32, 33, 34, 35, 36, 37, 38, 39, 40, 41]), (43, [0, 1, 2, 3, 4, 5, 6, 7, 8, 9, 10, 11, 12, 13, 14, 15, 16, 17, 18, 19, 20, 21, 22, 23, 24, 25, 26, 27, 28, 29, 30, 31, 32, 33, 34, 35, 36, 37]), (44, [0, 1, 2, 3, 4, 5, 6, 7, 8, 9, 10, 11, 12, 13, 14, 15, 16, 17, 18, 19, 20, 21, 22, 23, 24, 25, 26, 27, 28, 29, 30, 31, 32, 33, 34, 35, 36, 37]), (45, [0, 1, 2, 3, 4, 5, 6, 7, 8, 9, 10, 11, 12, 13, 14, 15, 16, 17, 18, 19, 20, 21, 22, 23, 24, 25, 26, 27, 28, 29, 30, 31, 32, 33, 34, 35, 36, 37, 43, 44]), (46, [0, 1, 2, 3, 4, 5, 6, 7, 8, 9, 10, 11, 12, 13, 14, 15, 16, 17, 18, 19, 20, 21, 22, 23, 24, 25, 26, 27, 28, 29, 30, 31, 32, 33, 34, 35, 36, 37, 43, 44, 45]), (47, [0, 1, 2, 3, 4, 5, 6, 7, 8, 9, 10, 11, 12, 13, 14, 15, 16, 17, 18, 19, 20, 21, 22, 23, 24, 25, 26, 27, 28, 29, 30, 31, 32, 33, 34, 35, 36, 37, 43, 44, 45, 46]), (48, [0, 1, 2, 3, 4, 5, 6, 7, 8, 9, 10, 11, 12, 13, 14, 15, 16, 17, 18, 19, 20, 21, 22, 23, 24, 25, 26, 27, 28, 29, 30, 31, 32, 33, 34, 35, 36, 37, 38, 39, 40, 41, 42, 43, 44, 45, 46, 47]), (49, [0, 1, 2, 3, 4, 5, 6, 7, 8, 9, 10, 11, 12, 13, 14, 15, 16, 17, 18, 19, 20, 21, 22, 23, 24, 25, 26, 27, 28, 29, 30, 31, 32, 33, 34, 35, 36, 37, 38, 39, 40, 41, 42, 43, 44, 45, 46, 47, 48]), (50, [0, 1, 2, 3, 4, 5, 6, 7, 8, 9, 10, 11, 12, 13, 14, 15, 16, 17, 18, 19, 20, 21, 22, 23, 24, 25, 26, 27, 28, 29, 30, 31, 32, 33, 34, 35, 36, 37, 38, 39, 40, 41, 42, 43, 44, 45, 46, 47, 48, 49])]] <| bT rfl <| go [] [] <| dn h (i2 iR)) fun h9 h =>
    bd h fun v15 e15 h => bd h fun v16 e16 h => bd h fun v17 e17 h => go [] [rgo 6 [(2, ix e9), (7, ix e10), (10, kb h7), (14, ix e11), (19, ix e12), (22, kb h8), (27, ix e13), (32, ix e14), (35, kb h9), (40, ix e15), (45, ix e16), (48, k (w40 e17))] [0, 1, 2, 3, 4, 5, 6, 7, 8, 9, 10, 11, 12, 13, 14, 15, 16, 17, 18, 19, 20, 21, 22, 23, 24, 25, 26, 27, 28, 29, 30, 31, 32, 33, 34, 35, 36, 37, 38, 39, 40, 41, 42, 43, 44, 45, 46, 47, 48, 49, 50] [] [(2, [0, 1]), (3, [0, 1, 2]), (4, [0, 1, 2, 3]), (7, [5, 6]), (8, [5, 6, 7]), (9, [5, 6, 7, 8]), (10, [0, 1, 2, 3, 4, 5, 6, 7, 8, 9]), (11, [0, 1, 2, 3, 4, 5, 6, 7, 8, 9, 10]), (12, [0, 1, 2, 3, 4, 5, 6, 7, 8, 9, 10, 11]), (13, [0, 1, 2, 3, 4, 5, 6, 7, 8, 9, 10, 11]), (14, [0, 1, 2, 3, 4, 5, 6, 7, 8, 9, 10, 11, 12, 13]), (15, [0, 1, 2, 3, 4, 5, 6, 7, 8, 9, 10, 11, 12, 13, 14]), (16, [0, 1, 2, 3, 4, 5, 6, 7, 8, 9, 10, 11, 12, 13, 14, 15]), (17, [0, 1, 2, 3, 4, 5, 6, 7, 8, 9, 10, 11]), (18, [0, 1, 2, 3, 4, 5, 6, 7, 8, 9, 10, 11]), (19, [0, 1, 2, 3, 4, 5, 6, 7, 8, 9, 10, 11, 17, 18]), (20, [0, 1, 2, 3, 4, 5, 6, 7, 8, 9, 10, 11, 17, 18, 19]), (21, [0, 1, 2, 3, 4, 5, 6, 7, 8, 9, 10, 11, 17, 18, 19, 20]), (22, [0, 1, 2, 3, 4, 5, 6, 7, 8, 9, 10, 11, 12, 13, 14, 15, 16, 17, 18, 19, 20, 21]), (23, [0, 1, 2, 3, 4, 5, 6, 7, 8, 9, 10, 11, 12, 13, 14, 15, 16, 17, 18, 19, 20, 21, 22]), (24, [0, 1, 2, 3, 4, 5, 6, 7, 8, 9, 10, 11, 12, 13, 14, 15, 16, 17, 18, 19, 20, 21, 22, 23]), (25, [0, 1, 2, 3, 4, 5, 6, 7, 8, 9, 10, 11, 12, 13, 14, 15, 16, 17, 18, 19, 20, 21, 22, 23, 24]), (26, [0, 1, 2, 3, 4, 5, 6, 7, 8, 9, 10, 11, 12, 13, 14, 15, 16, 17, 18, 19, 20, 21, 22, 23, 24]), (27, [0, 1, 2, 3, 4, 5, 6, 7, 8, 9, 10, 11, 12, 13, 14, 15, 16, 17, 18, 19, 20, 21, 22, 23, 24, 25, 26]), (28, [0, 1, 2, 3, 4, 5, 6, 7, 8, 9, 10, 11, 12, 13, 14, 15, 16, 17, 18, 19, 20, 21, 22, 23, 24, 25, 26, 27]), (29, [0, 1, 2, 3, 4, 5, 6, 7, 8, 9, 10, 11, 12, 13, 14, 15, 16, 17, 18, 19, 20, 21, 22, 23, 24, 25, 26, 27, 28]), (30, [0, 1, 2, 3, 4, 5, 6, 7, 8, 9, 10, 11, 12, 13, 14, 15, 16, 17, 18, 19, 20, 21, 22, 23, 24]), (31, [0, 1, 2, 3, 4, 5, 6, 7, 8, 9, 10, 11, 12, 13, 14, 15, 16, 17, 18, 19, 20, 21, 22, 23, 24]), (32, [0, 1, 2, 3, 4, 5, 6, 7, 8, 9, 10, 11, 12, 13, 14, 15, 16, 17, 18, 19, 20, 21, 22, 23, 24, 30, 31]), (33, [0, 1, 2, 3, 4, 5, 6, 7, 8, 9, 10, 11, 12, 13, 14, 15, 16, 17, 18, 19, 20, 21, 22, 23, 24, 30, 31, 32]), (34, [0, 1, 2, 3, 4, 5, 6, 7, 8, 9, 10, 11, 12, 13, 14, 15, 16, 17, 18, 19, 20, 21, 22, 23, 24, 30, 31, 32, 33]), (35, [0, 1, 2, 3, 4, 5, 6, 7, 8, 9, 10, 11, 12, 13, 14, 15, 16, 17, 18, 19, 20, 21, 22, 23, 24, 25, 26, 27, 28, 29, 30, 31, 32, 33, 34]), (36, [0, 1, 2, 3, 4, 5, 6, 7, 8, 9, 10, 11, 12, 13, 14, 15, 16, 17, 18, 19, 20, 21, 22, 23, 24, 25, 26, 27, 28, 29, 30, 31, 32, 33, 34, 35]), (37, [0, 1, 2, 3, 4, 5, 6, 7, 8, 9, 10, 11, 12, 13, 14, 15, 16, 17, 18, 19, 20, 21, 22, 23, 24, 25, 26, 27, 28, 29, 30, 31, 32, 33, 34, 35, 36]), (38, [0, 1, 2, 3, 4, 5, 6, 7, 8, 9, 10, 11, 12, 13, 14, 15, 16, 17, 18, 19, 20, 21, 22, 23, 24, 25, 26, 27, 28, 29, 30, 31, 32, 33, 34, 35, 36, 37]), (39, [0, 1, 2, 3, 4, 5, 6, 7, 8, 9, 10, 11, 12, 13, 14, 15, 16, 17, 18, 19, 20, 21, 22, 23, 24, 25, 26, 27, 28, 29, 30, 31, 32, 33, 34, 35, 36, 37]), (40, [0, 1, 2, 3, 4, 5, 6, 7, 8, 9, 10, 11, 12, 13, 14, 15, 16, 17, 18, 19, 20, 21, 22, 23, 24, 25, 26, 27, 28, 29, 30, 31, 32, 33, 34, 35, 36, 37, 38, 39]), (41, [0, 1, 2, 3, 4, 5, 6, 7, 8, 9, 10, 11, 12, 13, 14, 15, 16, 17, 18, 19, 20, 21, 22, 23, 24, 25, 26, 27, 28, 29, 30, 31, 32, 33, 34, 35, 36, 37, 38, 39, 40]), (42, [0, 1, 2, 3, 4, 5, 6, 7, 8, 9, 10, 11, 12, 13, 14, 15, 16, 17, 18, 19, 20, 21, 22, 23, 24, 25, 26, 27, 28, 29, 30, 31, 32, 33, 34, 35, 36, 37, 38, 39, 40, 41]), (43, [0, 1, 2, 3, 4, 5, 6, 7, 8, 9, 10, 11, 12, 13, 14, 15, 16, 17, 18, 19, 20, 21, 22, 23, 24, 25, 26, 27, 28, 29, 30, 31, 32, 33, 34, 35, 36, 37]), (44, [0, 1, 2, 3, 4, 5, 6, 7, 8, 9, 10, 11, 12, 13, 14, 15, 16, 17, 18, 19, 20, 21, 22, 23, 24, 25, 26, 27, 28, 29, 30, 31, 32, 33, 34, 35, 36, 37]), (45, [0, 1, 2, 3, 4, 5, 6, 7, 8, 9, 10, 11, 12, 13, 14, 15, 16, 17, 18, 19, 20, 21, 22, 23, 24, 25, 26, 27, 28, 29, 30, 31, 32, 33, 34, 35, 36, 37, 43, 44]), (46, [0, 1, 2, 3, 4, 5, 6, 7, 8, 9, 10, 11, 12, 13, 14, 15, 16, 17, 18, 19, 20, 21, 22, 23, 24, 25, 26, 27, 28, 29, 30, 31, 32, 33, 34, 35, 36, 37, 43, 44, 45]), (47, [0, 1, 2, 3, 4, 5, 6, 7, 8, 9, 10, 11, 12, 13, 14, 15, 16, 17, 18, 19, 20, 21, 22, 23, 24, 25, 26, 27, 28, 29, 30, 31, 32, 33, 34, 35, 36, 37, 43, 44, 45, 46]), (48, [0, 1, 2, 3, 4, 5, 6, 7, 8, 9, 10, 11, 12, 13, 14, 15, 16, 17, 18, 19, 20, 21, 22, 23, 24, 25, 26, 27, 28, 29, 30, 31, 32, 33, 34, 35, 36, 37, 38, 39, 40, 41, 42, 43, 44, 45, 46, 47]), (49, [0, 1, 2, 3, 4, 5, 6, 7, 8, 9, 10, 11, 12, 13, 14, 15, 16, 17, 18, 19, 20, 21, 22, 23, 24, 25, 26, 27, 28, 29, 30, 31, 32, 33, 34, 35, 36, 37, 38, 39, 40, 41, 42, 43, 44, 45, 46, 47, 48]), (50, [0, 1, 2, 3, 4, 5, 6, 7, 8, 9, 10, 11, 12, 13, 14, 15, 16, 17, 18, 19, 20, 21, 22, 23, 24, 25, 26, 27, 28, 29, 30, 31, 32, 33, 34, 35, 36, 37, 38, 39, 40, 41, 42, 43, 44, 45, 46, 47, 48, 49])]] <| br h (fun h10 h => go [] [] <| dn h (i2 iR)) fun h10 h =>
    bd h fun v18 e18 h => go [] [rg 5 [(1, n e18)]] <| nx h) fun h6 h =>
  go [] [] <| dn h (i1 iE)
theorem w39 {x0 x1 : List T_api_Member} {r : Bool} (h : m_armatureref11_sameMembers x0 x1 = some r) : CallSpec Try.prog 39 [.sl false (x0.map row_T_api_Member), .sl false (x1.map row_T_api_Member)] (R39 r) :=
  cs Try.f39 <| go [] [rg 1 [(1, ln x0), (3, ln x1)]] <| br h (fun h0 h => go [] [] <| rt h) fun h0 h =>
  go [] [] <| bd h fun q1 e19 h => lp e19 wl39x1 <| match q1, h with
    | .inl q0, h => j1 <| (qe <| goN [] [] <| rt h)
    | .inr y0, h => j2 <| (qr h)
/-! armature armatureref11.Same -/
def R15 (y0 : Bool) : D := .bool y0
def l15x1 (x0 x1 : T_api_File) (t0 : Int) : Option (Ctl (Int) (Unit ⊕ Bool)) :=
  if (decide (t0 < (x0.f_Pool.length : Int))) = true then
    ((getR x0.f_Pool t0).bind fun v2 =>
    (getR x1.f_Pool t0).bind fun v3 =>
    if (!(eqb_T_api_Const v2 v3)) = true then
      (some (.done (.inr false))) else
    ((some (IntKind.wrap .i64 (t0 + (1 : Int)))).bind fun v4 =>
      some (.next v4))) else
  (some (.done (.inl (()))))
def l15x2 (x0 x1 : T_api_File) (t1 : Int) : Option (Ctl (Int) (Unit ⊕ Bool)) :=
  if (decide (t1 < (x0.f_Interfaces.length : Int))) = true then
    ((getR x0.f_Interfaces t1).bind fun v7 =>
    (getR x1.f_Interfaces t1).bind fun v8 =>
    if (v7 != v8) = true then
      (some (.done (.inr false))) else
    ((some (IntKind.wrap .i64 (t1 + (1 : Int)))).bind fun v9 =>
      some (.next v9))) else
  (some (.done (.inl (()))))
def j15x1 (x0 x1 : T_api_File) : Option (Bool) :=
  (loopM (l15x1 x0 x1) rounds 0).bind fun q1 =>
  match q1 with
  | .inl q0 => ((loopM (l15x2 x0 x1) rounds 0).bind fun q3 =>
    match q3 with
    | .inl q2 => ((m_armatureref11_sameMembers x0.f_Fields x1.f_Fields).bind fun v10 =>
      if v10 = true then ((m_armatureref11_sameMembers x0.f_Methods x1.f_Methods).bind fun v11 =>
        if v11 = true then ((m_armatureref11_sameAttrs x0.f_Attributes x1.f_Attributes).bind fun v12 =>
          some v12) else
        (some false)) else
      (some false))
    | .inr y0 => (some y0))
  | .inr y1 => (some y1)
def m_armatureref11_Same (x0 x1 : T_api_File) : Option (Bool) :=
  if (x0.f_Flags != x1.f_Flags) = true then (some false) else
  (if (x0.f_This != x1.f_This) = true then (some false) else
    (if (x0.f_Super != x1.f_Super) = true then (some false) else
      (if ((x0.f_Pool.length : Int) != (x1.f_Pool.length : Int)) = true then (some false) else
        (if ((x0.f_Interfaces.length : Int) != (x1.f_Interfaces.length : Int)) = true then
            (some false) else
          ((j15x1 x0 x1) )))))
def st15x1 (x0 x1 : T_api_File) : Int → SL :=
  fun t0 => ⟨99, [(2, .ptr (row_T_api_File x0)), (3, .ptr (row_T_api_File x1)), (5, dI t0)], []⟩
def J15x1 (x0 x1 : T_api_File) : JT (Unit ⊕ Bool) :=
  ju (je 0 fun q0 : Unit => ⟨99, [(2, .ptr (row_T_api_File x0)), (3, .ptr (row_T_api_File x1))], []⟩) (jr Try.prog Try.f15 R15)
theorem wl15x1 {x0 x1 : T_api_File} {t0 : Int} {r : Ctl (Int) (Unit ⊕ Bool)} {Γ : Ctx} (h : (l15x1 x0 x1) t0 = some r) : A Try.prog Γ (lpC Try.f15 43) [] (Rd (st15x1 x0 x1) (J15x1 x0 x1) r) ((st15x1 x0 x1) t0).s :=
  go [] [rg 4 [(3, ln x0.f_Pool)]] <| br h (fun h7 h => bd h fun v2 e2 h => bd h fun v3 e3 h => go [] [rgo 6 [(3, ix e2), (8, ix e3), (10, qs eqg_74 eqp_74 (!(eqb_T_api_Const v2 v3)))] [0, 1, 2, 3, 4, 5, 6, 7, 8, 9, 10] [] [(1, [0]), (3, [0, 1, 2]), (4, [0, 1, 2, 3]), (6, [5]), (8, [5, 6, 7]), (9, [5, 6, 7, 8]), (10, [0, 1, 2, 3, 4, 5, 6, 7, 8, 9])]] <| br h (fun h8 h => go [] [] <| dn h (i2 iR)) fun h8 h =>
    bd h fun v4 e4 h => go [] [rg 5 [(1, n e4)]] <| nx h) fun h7 h =>
  go [] [] <| dn h (i1 iE)
def st15x2 (x0 x1 : T_api_File) : Int → SL :=
  fun t1 => ⟨99, [(2, .ptr (row_T_api_File x0)), (3, .ptr (row_T_api_File x1)), (6, dI t1)], []⟩
def J15x2 (x0 x1 : T_api_File) : JT (Unit ⊕ Bool) :=
  ju (je 2 fun q2 : Unit => ⟨99, [(2, .ptr (row_T_api_File x0)), (3, .ptr (row_T_api_File x1))], []⟩) (jr Try.prog Try.f15 R15)
theorem wl15x2 {x0 x1 : T_api_File} {t1 : Int} {r : Ctl (Int) (Unit ⊕ Bool)} {Γ : Ctx} (h : (l15x2 x0 x1) t1 = some r) : A Try.prog Γ (lpC Try.f15 87) [] (Rd (st15x2 x0 x1) (J15x2 x0 x1) r) ((st15x2 x0 x1) t1).s :=
  go [] [rg 9 [(3, ln x0.f_Interfaces)]] <| br h (fun h11 h => bd h fun v7 e8 h => bd h fun v8 e9 h => go [] [rgo 11 [(3, ix e8), (8, ix e9)] [0, 1, 2, 3, 4, 5, 6, 7, 8, 9, 10] [] [(1, [0]), (3, [0, 1, 2]), (4, [0, 1, 2, 3]), (6, [5]), (8, [5, 6, 7]), (9, [5, 6, 7, 8]), (10, [0, 1, 2, 3, 4, 5, 6, 7, 8, 9])]] <| br h (fun h12 h => go [] [] <| dn h (i2 iR)) fun h12 h =>
    bd h fun v9 e10 h => go [] [rg 10 [(1, n e10)]] <| nx h) fun h11 h =>
  go [] [] <| dn h (i1 iE)
theorem wj15x1 {x0 x1 : T_api_File} {r : Bool} {Γ : Ctx} (h : (j15x1 x0 x1)  = some r) : Jn Try.prog Try.f15 Γ (Den.Ends Try.prog Try.f15 (R15 r)) 19 ⟨99, [(2, .ptr (row_T_api_File x0)), (3, .ptr (row_T_api_File x1))], []⟩ :=
  so <| go [] [] <| bd h fun q1 e5 h => lp e5 wl15x1 <| match q1, h with
  | .inl q0, h => j1 <| (qe <| goN [] [] <| bd h fun q3 e11 h => lp e11 wl15x2 <| match q3, h with
    | .inl q2, h => j1 <| (qe <| goN [13] [] <| po <| bd h fun v10 e12 h => pr 6 [(4, k (w39 e12))] <| sp h (fun h13 h => bd h fun v11 e13 h => pr 7 [(6, gw h13 g0), (7, gw h13 g0), (8, gw h13 g0), (9, gw h13 g0), (10, gw h13 (k (w39 e13))), (11, py h13)] <| sp h (fun h14 h => bd h fun v12 e14 h => pr 7 [(13, gw h14 g0), (14, gw h14 g0), (15, gw h14 g0), (16, gw h14 g0), (17, gw h14 (k (w40 e14))), (18, py h14)] <| pe <| goN [] [] <| rt h) fun h14 h =>
        pr 7 [(13, gs1 h14), (14, gs1 h14), (15, gs1 h14), (16, gs1 h14), (17, gs1 h14), (18, pn h14)] <| pe <| goN [] [] <| rt h) fun h13 h =>
      pr 14 [(6, gs1 h13), (7, gs1 h13), (8, gs1 h13), (9, gs1 h13), (10, gs1 h13), (11, pn h13)] <| pe <| goN [] [] <| rt h)
    | .inr y0, h => j2 <| (qr h))
  | .inr y1, h => j2 <| (qr h)
theorem w15 {x0 x1 : T_api_File} {r : Bool} (h : m_armatureref11_Same x0 x1 = some r) : CallSpec Try.prog 15 [.agg (row_T_api_File x0), .agg (row_T_api_File x1)] (R15 r) :=
  cs Try.f15 <| go [1] [rg 0 [(0, bo), (1, bo)]] <| po <| pr 6 [] <| sp h (fun h0 h => pr 31 [(6, gs0 h0), (7, gs0 h0), (8, gs0 h0), (9, gs0 h0), (10, gs0 h0), (11, py h0)] <| pe <| goN [] [] <| bT rfl <| go [] [] <| rt h) fun h0 h =>
  pr 7 [(6, gw h0 g0), (7, gw h0 g0), (8, gw h0 g0), (9, gw h0 g0), (10, gw h0 g0), (11, pn h0)] <| sp h (fun h1 h => pr 24 [(13, gs0 h1), (14, gs0 h1), (15, gs0 h1), (16, gs0 h1), (17, gs0 h1), (18, py h1)] <| pe <| goN [] [] <| bT rfl <| go [] [] <| rt h) fun h1 h =>
    pr 7 [(13, gw h1 g0), (14, gw h1 g0), (15, gw h1 g0), (16, gw h1 g0), (17, gw h1 g0), (18, pn h1)] <| sp h (fun h2 h => pr 17 [(20, gs0 h2), (21, gs0 h2), (22, gs0 h2), (23, gs0 h2), (24, gs0 h2), (25, gs0 h2), (26, gs0 h2), (27, py h2)] <| pe <| goN [] [] <| bT rfl <| go [] [] <| rt h) fun h2 h =>
      pr 9 [(20, gw h2 g0), (21, gw h2 g0), (22, gw h2 (ln x0.f_Pool)), (23, gw h2 g0), (24, gw h2 g0), (25, gw h2 (ln x1.f_Pool)), (26, gw h2 g0), (27, pn h2)] <| sp h (fun h3 h => pr 8 [(29, gs0 h3), (30, gs0 h3), (31, gs0 h3), (32, gs0 h3), (33, gs0 h3), (34, gs0 h3), (35, gs0 h3), (36, py h3)] <| pe <| goN [] [] <| bT rfl <| go [] [] <| rt h) fun h3 h =>
        pr 8 [(29, gw h3 g0), (30, gw h3 g0), (31, gw h3 (ln x0.f_Interfaces)), (32, gw h3 g0), (33, gw h3 g0), (34, gw h3 (ln x1.f_Interfaces)), (35, gw h3 g0), (36, pn h3)] <| pe <| goN [] [] <| br h (fun h4 h => go [] [] <| rt h) fun h4 h =>
          go [3] [] <| jn (wj15x1 h)
/-! armature armaturelaw11.FileDecode -/
def R4 (y0 : Bool) : D := .bool y0
def j4x2  : Option (Bool) :=
  (m_armaturelaw11_works).bind fun v4 =>
  some v4
def j4x1 (x0 : List UInt8) : Option (Bool) :=
  (m_file_Decode x0).bind fun v0 =>
  (m_armatureref11_Decode x0).bind fun v1 =>
  (m_armatureref11_Same v0.1 v1.1).bind fun v2 =>
  if v2 = true then (if (v0.2 == v1.2) = true then ((m_armaturelaw11_works).bind fun v3 =>
      some v3) else
    (some false)) else
  (some false)
def m_armaturelaw11_FileDecode (x0 : List UInt8) : Option (Bool) :=
  if (decide ((x0.length : Int) > 3000)) = true then (if (decide ((x0.length : Int) ≤ 1048576)) = true then
    (j4x2 ) else
  ((j4x1 x0) )) else
  ((j4x1 x0) )
theorem wj4x2  {r : Bool} {Γ : Ctx} (h : j4x2  = some r) : Jn Try.prog Try.f4 Γ (Den.Ends Try.prog Try.f4 (R4 r)) 37 ⟨37, [], []⟩ :=
  so <| bd h fun v4 e4 h => go [] [rg 2 [(0, k (w9 e4))]] <| rt h
theorem wj4x1 {x0 : List UInt8} {r : Bool} {Γ : Ctx} (h : (j4x1 x0)  = some r) : Jn Try.prog Try.f4 Γ (Den.Ends Try.prog Try.f4 (R4 r)) 11 ⟨37, [(0, .str x0)], []⟩ :=
  so <| bd h fun v0 e0 h => bd h fun v1 e1 h => go [5] [rg 3 [(1, k (w13 e0))], rg 4 [(1, k (w14 e1))]] <| po <| bd h fun v2 e2 h => pr 4 [(2, k (w15 e2))] <| sp h (fun h2 h => pr 5 [(4, gw h2 g0), (5, gw h2 g0), (6, gw h2 g0), (7, py h2)] <| sp h (fun h3 h => bd h fun v3 e3 h => pr 3 [(9, gw h3 (k (w9 e3))), (10, py h3)] <| pe <| goN [] [] <| rt h) fun h3 h =>
    pr 3 [(9, gs1 h3), (10, pn h3)] <| pe <| goN [] [] <| rt h) fun h2 h =>
  pr 8 [(4, gs1 h2), (5, gs1 h2), (6, gs1 h2), (7, pn h2)] <| pe <| goN [] [] <| rt h
theorem w4 {x0 : List UInt8} {r : Bool} (h : m_armaturelaw11_FileDecode x0 = some r) : CallSpec Try.prog 4 [.str x0] (R4 r) :=
  cs Try.f4 <| sp h (fun h0 h => go [] [rg 1 [(2, kb h0)]] <| br h (fun h1 h => go [2] [] <| jn (wj4x2 h)) fun h1 h =>
  go [3] [] <| jn (wj4x1 h)) fun h0 h =>
  go [] [rg 1 [(2, kb h0)]] <| bF rfl <| go [3] [] <| jn (wj4x1 h)
/-! armature armaturelaw11.FileRoundTrip -/
def R5 (y0 : Bool) : D := .bool y0
def m_armaturelaw11_FileRoundTrip (x0 : T_api_File) : Option (Bool) :=
  (m_armaturelaw11_small x0).bind fun v0 =>
  if (!v0) = true then
    ((m_armaturelaw11_works).bind fun v1 =>
    some v1) else
  ((m_file_Encode x0).bind fun v2 =>
    if (v2.2 != 0) = true then
      (if (v2.1 == ([] : List UInt8)) = true then ((m_file_EncodedSize x0).bind fun v3 =>
        if (v3 == 0) = true then ((m_armaturelaw11_works).bind fun v4 =>
          some v4) else
        (some false)) else
      (some false)) else
    ((m_file_Decode v2.1).bind fun v5 =>
      if (v5.2 == 0) = true then ((m_armatureref11_Same x0 v5.1).bind fun v6 =>
        if v6 = true then ((m_armaturelaw11_works).bind fun v7 =>
          some v7) else
        (some false)) else
      (some false)))
theorem w5 {x0 : T_api_File} {r : Bool} (h : m_armaturelaw11_FileRoundTrip x0 = some r) : CallSpec Try.prog 5 [.agg (row_T_api_File x0)] (R5 r) :=
  cs Try.f5 <| bd h fun v0 e0 h => go [] [rg 0 [(0, bo)], rg 1 [(1, k (w8 e0))]] <| br h (fun h0 h => bd h fun v1 e1 h => go [] [rg 2 [(0, k (w9 e1))]] <| rt h) fun h0 h =>
  bd h fun v2 e2 h => go [] [rg 3 [(1, k (w10 e2))]] <| br h (fun h1 h => go [5] [] <| po <| pr 3 [] <| sp h (fun h2 h => bd h fun v3 e3 h => pr 5 [(3, gw h2 g0), (4, gw h2 (k (w12 e3))), (5, gw h2 g0), (6, py h2)] <| sp h (fun h3 h => bd h fun v4 e4 h => pr 3 [(8, gw h3 (k (w9 e4))), (9, py h3)] <| pe <| goN [] [] <| rt h) fun h3 h =>
        pr 3 [(8, gs1 h3), (9, pn h3)] <| pe <| goN [] [] <| rt h) fun h2 h =>
      pr 8 [(3, gs1 h2), (4, gs1 h2), (5, gs1 h2), (6, pn h2)] <| pe <| goN [] [] <| rt h) fun h1 h =>
    bd h fun v5 e5 h => go [7] [rg 6 [(1, k (w13 e5))]] <| po <| pr 3 [] <| sp h (fun h4 h => bd h fun v6 e6 h => pr 5 [(3, gw h4 g0), (4, gw h4 g0), (5, gw h4 (k (w15 e6))), (6, py h4)] <| sp h (fun h5 h => bd h fun v7 e7 h => pr 3 [(8, gw h5 (k (w9 e7))), (9, py h5)] <| pe <| goN [] [] <| rt h) fun h5 h =>
        pr 3 [(8, gs1 h5), (9, pn h5)] <| pe <| goN [] [] <| rt h) fun h4 h =>
      pr 8 [(3, gs1 h4), (4, gs1 h4), (5, gs1 h4), (6, pn h4)] <| pe <| goN [] [] <| rt h
/-! armature armaturelaw11.FileCanonical -/
def R6 (y0 : Bool) : D := .bool y0
def m_armaturelaw11_FileCanonical (x0 : List UInt8) : Option (Bool) :=
  if (decide ((x0.length : Int) > 3000)) = true then
    ((m_armaturelaw11_works).bind fun v0 =>
    some v0) else
  ((m_file_Decode x0).bind fun v1 =>
    if (v1.2 != 0) = true then
      ((m_armatureref11_Same v1.1 ({ f_Pool := ([] : List T_api_Const), f_Flags := 0, f_This := 0, f_Super := 0, f_Interfaces := ([] : List Int), f_Fields := ([] : List T_api_Member), f_Methods := ([] : List T_api_Member), f_Attributes := ([] : List T_api_Attr) } : T_api_File)).bind fun v2 =>
      if v2 = true then ((m_armaturelaw11_works).bind fun v3 =>
      some v3) else
      (some false)) else
    ((m_file_Encode v1.1).bind fun v4 =>
      if (v4.2 == 0) = true then (if (v4.1 == x0) = true then ((m_armaturelaw11_works).bind fun v5 =>
          some v5) else
        (some false)) else
      (some false)))
theorem w6 {x0 : List UInt8} {r : Bool} (h : m_armaturelaw11_FileCanonical x0 = some r) : CallSpec Try.prog 6 [.str x0] (R6 r) :=
  cs Try.f6 <| go [] [] <| br h (fun h0 h => bd h fun v0 e0 h => go [] [rg 2 [(0, k (w9 e0))]] <| rt h) fun h0 h =>
  bd h fun v1 e1 h => go [] [rg 3 [(1, k (w13 e1))]] <| br h (fun h1 h => bd h fun v2 e2 h => sp h (fun h2 h => bd h fun v3 e3 h => go [] [rg 5 [(2, k (w15 e2)), (4, gw h2 (k (w9 e3))), (5, py h2)]] <| rt h) fun h2 h =>
      go [] [rg 5 [(2, k (w15 e2)), (4, gs1 h2), (5, pn h2)]] <| rt h) fun h1 h =>
    bd h fun v4 e4 h => go [7] [rg 6 [(1, k (w10 e4))]] <| po <| pr 3 [] <| sp h (fun h3 h => pr 5 [(3, gw h3 g0), (4, gw h3 g0), (5, gw h3 g0), (6, py h3)] <| sp h (fun h4 h => bd h fun v5 e5 h => pr 3 [(8, gw h4 (k (w9 e5))), (9, py h4)] <| pe <| goN [] [] <| rt h) fun h4 h =>
        pr 3 [(8, gs1 h4), (9, pn h4)] <| pe <| goN [] [] <| rt h) fun h3 h =>
      pr 8 [(3, gs1 h3), (4, gs1 h3), (5, gs1 h3), (6, pn h3)] <| pe <| goN [] [] <| rt h
/-! armature armaturelaw11.FileComplete -/
def R7 (y0 : Bool) : D := .bool y0
def j7x4  : Option (Bool) :=
  (m_armaturelaw11_works).bind fun v12 =>
  some v12
def j7x3  : Option (Bool) :=
  (m_armaturelaw11_works).bind fun v11 =>
  some v11
def j7x2 (v1 : (List UInt8) × Int) (x1 : Int) (x2 : List UInt8) : Option (Bool) :=
  if ((v1.1.length : Int) == 0) = true then
    (some false) else
  ((some (IntKind.wrap .i64 x1)).bind fun v2 =>
    (modK v2 (v1.1.length : Int)).bind fun v3 =>
    (sub v1.1 0 v3).bind fun v4 =>
    (m_file_Decode v4).bind fun v5 =>
    (catK v1.1 x2).bind fun v6 =>
    (m_file_Decode v6).bind fun v7 =>
    if (v5.2 != 0) = true then (if (x2 == ([] : List UInt8)) = true then (if (v7.2 == 0) = true then ((m_armaturelaw11_works).bind fun v8 =>
          some v8) else
        (if (!(x2 == ([] : List UInt8))) = true then (if (v7.2 == 10) = true then ((m_armaturelaw11_works).bind fun v9 =>
              some v9) else
            (some false)) else
          (some false))) else
      (if (!(x2 == ([] : List UInt8))) = true then (if (v7.2 == 10) = true then ((m_armaturelaw11_works).bind fun v10 =>
            some v10) else
          (some false)) else
        (some false))) else
    (some false))
def j7x1 (x0 : T_api_File) (x1 : Int) (x2 : List UInt8) : Option (Bool) :=
  (m_file_Encode x0).bind fun v1 =>
  if (v1.2 != 0) = true then (j7x3 ) else
  (if (decide ((v1.1.length : Int) > 3000)) = true then
    (j7x3 ) else
  ((j7x2 v1 x1 x2) ))
def m_armaturelaw11_FileComplete (x0 : T_api_File) (x1 : Int) (x2 : List UInt8) : Option (Bool) :=
  (m_armaturelaw11_small x0).bind fun v0 =>
  if (!v0) = true then (j7x4 ) else
  (if (decide ((x2.length : Int) > 50)) = true then
    (j7x4 ) else
  ((j7x1 x0 x1 x2) ))
theorem wj7x4  {r : Bool} {Γ : Ctx} (h : j7x4  = some r) : Jn Try.prog Try.f7 Γ (Den.Ends Try.prog Try.f7 (R7 r)) 37 ⟨77, [], []⟩ :=
  so <| bd h fun v12 e12 h => go [] [rg 2 [(0, k (w9 e12))]] <| rt h
theorem wj7x3  {r : Bool} {Γ : Ctx} (h : j7x3  = some r) : Jn Try.prog Try.f7 Γ (Den.Ends Try.prog Try.f7 (R7 r)) 151 ⟨77, [], []⟩ :=
  so <| bd h fun v11 e11 h => go [] [rg 5 [(0, k (w9 e11))]] <| rt h
theorem wj7x2 {v1 : (List UInt8) × Int} {x1 : Int} {x2 : List UInt8} {r : Bool} {Γ : Ctx} (h : (j7x2 v1 x1 x2)  = some r) : Jn Try.prog Try.f7 Γ (Den.Ends Try.prog Try.f7 (R7 r)) 79 ⟨77, [(1, .int .u16 x1), (2, .str x2), (7, .str v1.1)], []⟩ :=
  so <| go [] [] <| br h (fun h4 h => go [] [] <| rt h) fun h4 h =>
  bd h fun v2 e2 h => bd h fun v3 e3 h => bd h fun v4 e4 h => bd h fun v5 e5 h => bd h fun v6 e6 h => bd h fun v7 e7 h => go [10] [rg 8 [(2, n e2), (5, md e3), (6, ss e4), (7, k (w13 e5))], rg 9 [(2, ct e6), (3, k (w13 e7))]] <| po <| pr 3 [] <| sp h (fun h5 h => pr 3 [(3, gw h5 g0), (4, gw h5 g0), (5, gw h5 g0)] <| sp h (fun h6 h => pr 4 [(6, gw h6 g0), (7, gw h6 g0), (8, gw h5 (py h6)), (9, gw h5 g0)] <| sp h (fun h7 h => bd h fun v8 e8 h => pr 12 [(10, gs0 h7), (11, gs0 h7), (12, gs0 h7), (15, gs0 h7), (16, gw h5 (py h7)), (17, py h5), (19, k (w9 e8))] <| pe <| goN [] [] <| rt h) fun h7 h =>
        pr 3 [(10, gw h7 g0), (11, gw h7 g0), (12, gw h7 g0)] <| sp h (fun h8 h => pr 6 [(13, gw h8 g0), (14, gw h8 g0), (15, gw h7 (py h8)), (16, gw h5 (pn h7)), (17, py h5)] <| sp h (fun h9 h => bd h fun v9 e9 h => pr 3 [(19, gw h9 (k (w9 e9))), (20, py h9)] <| pe <| goN [] [] <| rt h) fun h9 h =>
            pr 3 [(19, gs1 h9), (20, pn h9)] <| pe <| goN [] [] <| rt h) fun h8 h =>
          pr 9 [(13, gs1 h8), (14, gs1 h8), (15, gw h7 (pn h8)), (16, gw h5 (pn h7)), (17, py h5)] <| pe <| goN [] [] <| rt h) fun h6 h =>
      pr 7 [(6, gs1 h6), (7, gs1 h6), (8, gw h5 (pn h6)), (9, gw h5 g0)] <| sp h (fun h10 h => pr 6 [(13, gw h10 g0), (14, gw h10 g0), (15, py h10), (16, gw h5 g0), (17, py h5)] <| sp h (fun h11 h => bd h fun v10 e10 h => pr 3 [(19, gw h11 (k (w9 e10))), (20, py h11)] <| pe <| goN [] [] <| rt h) fun h11 h =>
          pr 3 [(19, gs1 h11), (20, pn h11)] <| pe <| goN [] [] <| rt h) fun h10 h =>
        pr 9 [(13, gs1 h10), (14, gs1 h10), (15, pn h10), (16, gw h5 g0), (17, py h5)] <| pe <| goN [] [] <| rt h) fun h5 h =>
    pr 19 [(3, gs1 h5), (4, gs1 h5), (5, gs1 h5), (8, gs1 h5), (9, gs1 h5), (16, gs1 h5), (17, pn h5)] <| pe <| goN [] [] <| rt h
theorem wj7x1 {x0 : T_api_File} {x1 : Int} {x2 : List UInt8} {r : Bool} {Γ : Ctx} (h : (j7x1 x0 x1 x2)  = some r) : Jn Try.prog Try.f7 Γ (Den.Ends Try.prog Try.f7 (R7 r)) 11 ⟨77, [(1, .int .u16 x1), (2, .str x2), (3, .ptr (row_T_api_File x0))], []⟩ :=
  so <| bd h fun v1 e1 h => sp h (fun h2 h => go [] [rg 3 [(1, k (w10 e1))], rg 4 [(1, kb h2)]] <| bT rfl <| go [5] [] <| jn (wj7x3 h)) fun h2 h =>
  go [] [rg 3 [(1, k (w10 e1))], rg 4 [(1, kb h2)]] <| br h (fun h3 h => go [5] [] <| jn (wj7x3 h)) fun h3 h =>
  go [6] [] <| jn (wj7x2 h)
theorem w7 {x0 : T_api_File} {x1 : Int} {x2 : List UInt8} {r : Bool} (h : m_armaturelaw11_FileComplete x0 x1 x2 = some r) : CallSpec Try.prog 7 [.agg (row_T_api_File x0), .int .u16 x1, .str x2] (R7 r) :=
  cs Try.f7 <| bd h fun v0 e0 h => sp h (fun h0 h => go [] [rg 0 [(0, bo)], rg 1 [(1, k (w8 e0)), (4, gs0 h0), (5, gs0 h0), (6, gs0 h0), (7, py h0)]] <| bT rfl <| go [2] [] <| jn (wj7x4 h)) fun h0 h =>
  go [] [rg 0 [(0, bo)], rg 1 [(1, k (w8 e0)), (4, gw h0 g0), (5, gw h0 g0), (6, gw h0 g0), (7, pn h0)]] <| br h (fun h1 h => go [2] [] <| jn (wj7x4 h)) fun h1 h =>
  go [3] [] <| jn (wj7x1 h)
end Go.Proofs
