/-
  Models of functions of the program, and that the functions compute them. Printed by den2.py. No condition.
-/
import Derived.Test.YtcppeincgkalbaaPoo2
set_option linter.unusedVariables false
namespace Go.Proofs
open Go.Den
/-! ### armature armatureref03.IsClassName -/
noncomputable def b68 : Code := Try.f68.body.getD .skip
noncomputable def c68x0 : Code := sub1 b68
noncomputable def c68x1 : Code := sub1 c68x0
noncomputable def c68x2 : Code := sub1 c68x1
noncomputable def c68x3 : Code := sub0 c68x2
noncomputable def c68x4 : Code := sub1 c68x3
noncomputable def c68x5 : Code := sub0 c68x4
noncomputable def c68x6 : Code := sub0 c68x5
noncomputable def c68x7 : Code := sub1 c68x6
noncomputable def c68x8 : Code := sub0 c68x7
noncomputable def c68x9 : Code := sub0 c68x8
noncomputable def c68x10 : Code := sub1 c68x9
noncomputable def c68x11 : Code := sub0 c68x10
noncomputable def c68x12 : Code := sub0 c68x11
noncomputable def c68x13 : Code := sub1 c68x12
noncomputable def c68x14 : Code := sub0 c68x13
noncomputable def c68x15 : Code := sub1 c68x13
noncomputable def c68x16 : Code := sub1 c68x11
noncomputable def c68x17 : Code := sub1 c68x7
noncomputable def c68x18 : Code := sub1 c68x10
noncomputable def c68x19 : Code := sub0 c68x6
noncomputable def c68x20 : Code := sub1 c68x19
noncomputable def c68x21 : Code := sub0 c68x20
noncomputable def c68x22 : Code := sub1 c68x20
noncomputable def c68x23 : Code := sub1 c68x2
noncomputable def c68x24 : Code := sub0 c68x0
noncomputable def c68x25 : Code := sub1 c68x24
noncomputable def c68x26 : Code := sub0 c68x25
noncomputable def c68x27 : Code := sub1 c68x25
def l68x1 (x0 : List UInt8) (t0 : Int × Int) : Option (Ctl (Int × Int) (Int ⊕ Bool)) :=
  if (decide (t0.2 < (x0.length : Int))) = true then
    ((getS x0 t0.2).bind fun v3 =>
    if (v3 == 47) = true then
      ((sub x0 t0.1 t0.2).bind fun v4 =>
      (m_armatureref03_part v4).bind fun v5 =>
      if (!v5) = true then
        (some (.done (.inr false))) else
      ((some (IntKind.wrap .i64 (t0.2 + (1 : Int)))).bind fun v6 =>
        (some (IntKind.wrap .i64 (t0.2 + (1 : Int)))).bind fun v7 =>
        some (.next (v6, v7)))) else
    ((some (IntKind.wrap .i64 (t0.2 + (1 : Int)))).bind fun v8 =>
      some (.next (t0.1, v8)))) else
  (some (.done (.inl (t0.1))))
def m_armatureref03_IsClassName (x0 : List UInt8) : Option (Bool) :=
  if (decide ((x0.length : Int) > 64)) = true then
    (some false) else
  ((loopM (l68x1 x0) rounds (0, 0)).bind fun q1 =>
    match q1 with
    | .inl q0 => ((sub x0 q0 (x0.length : Int)).bind fun v9 =>
      (m_armatureref03_part v9).bind fun v10 =>
      some v10)
    | .inr y0 => (some y0))
def st68x1 (x0 : List UInt8) : (Int × Int) → S :=
  fun t0 => mkS 30 [(0, .str x0), (3, .int .i64 t0.1), (4, .int .i64 t0.2)] []
noncomputable def J68x1 (x0 : List UInt8) : (Int ⊕ Bool) → Exit → S → Prop :=
  JSum (JExit 0 (fun q0 : Int => mkS 30 [(0, .str x0), (3, .int .i64 q0)] [])) (JRet Try.prog Try.f68 (fun y : Bool => .bool y))
theorem wl68x1 (x0 : List UInt8) (t0 : Int × Int) (r : Ctl (Int × Int) (Int ⊕ Bool)) (h : (l68x1 x0) t0 = some r) (Γ : Ctx) : At Try.prog Γ c68x6 [] (Round (st68x1 x0) (J68x1 x0) r) ((st68x1 x0) t0) := by
  refine At.adv [] [(5, { keep := some ([0, 3, 4, 11], []) })] 400 (ev := .cond (decide (t0.2 < (x0.length : Int))) c68x21 c68x22 [.seq c68x7]) (σ' := mkS 30 [(0, .str x0), (3, dI t0.1), (4, dI t0.2), (11, .bool (decide (t0.2 < (x0.length : Int))))] []) (q := []) (by kernel_rfl) trivial ?_
  refine EvOk.cond (fun h4 => ?_) (fun h4 => ?_)
  · replace h := iteT h4 h
    refine At.gc [0, 3, 4] [] (n := 30) (l := [(0, .str x0), (3, dI t0.1), (4, dI t0.2)]) (bl := []) (by kernel_rfl) ?_
    obtain ⟨v3, e3, h⟩ := bindE h
    refine At.adv [] [(7, { told := [(2, a8 v3)], keep := some ([0, 3, 4, 17], []) })] 400 (ev := .cond (v3 == 47) c68x11 c68x18 [.blk 1, .seq c68x17]) (σ' := mkS 30 [(0, .str x0), (3, dI t0.1), (4, dI t0.2), (17, .bool (v3 == 47))] []) (q := [True ∧ (getS x0 t0.2 = some v3)]) (by kernel_rfl) ⟨⟨trivial, e3⟩, trivial⟩ ?_
    refine EvOk.cond (fun h5 => ?_) (fun h5 => ?_)
    · replace h := iteT h5 h
      refine At.gc [0, 3, 4] [] (n := 30) (l := [(0, .str x0), (3, dI t0.1), (4, dI t0.2)]) (bl := []) (by kernel_rfl) ?_
      obtain ⟨v4, e4, h⟩ := bindE h
      obtain ⟨v5, e5, h⟩ := bindE h
      refine At.adv [] [(8, { told := [(3, aS v4), (4, aB v5)], keep := some ([0, 4, 23], []) })] 400 (ev := .cond (!v5) c68x14 c68x15 [.seq c68x16, .blk 1, .seq c68x17]) (σ' := mkS 30 [(0, .str x0), (4, dI t0.2), (23, .bool (!v5))] []) (q := [True ∧ (sub x0 t0.1 t0.2 = some v4), True ∧ (cq Try.prog (tN 1) 70 [.str v4] (.bool v5))]) (by kernel_rfl) ⟨⟨trivial, e4⟩, ⟨trivial, cqi (tNi 1) (w70 e5)⟩, trivial⟩ ?_
      refine EvOk.cond (fun h6 => ?_) (fun h6 => ?_)
      · replace h := iteT h6 h
        refine At.gc [] [] (n := 30) (l := []) (bl := []) (by kernel_rfl) ?_
        refine At.adv [] [(9, { keep := some ([2], []) })] 400 (ev := .ret) (σ' := mkS 30 [(2, .bool false)] []) (q := []) (by kernel_rfl) trivial ?_
        refine EvOk.ret ?_
        obtain rfl := someE h
        exact Round.done neRet ⟨rfl, Den.Ends.mk (.inl rfl) (d := .bool false) (p := (True ∧ True) ∧ (tN 1)) (by kernel_rfl) ⟨⟨trivial, trivial⟩, tNi 1⟩ (by kernel_rfl)⟩
      · replace h := iteF h6 h
        refine At.gc [0, 4] [] (n := 30) (l := [(0, .str x0), (4, dI t0.2)]) (bl := []) (by kernel_rfl) ?_
        obtain ⟨v6, e6, h⟩ := bindE h
        obtain ⟨v7, e7, h⟩ := bindE h
        refine At.adv [] [(10, { told := [(1, aI v6)], keep := some ([0, 3, 4], []) }), (6, { told := [(1, aI v7)], keep := some ([0, 3, 4], []) })] 400 (ev := .normal) (σ' := mkS 30 [(0, .str x0), (3, dI v6), (4, dI v7)] []) (q := [True ∧ (IntKind.wrap .i64 (t0.2 + (1 : Int)) = v6), True ∧ (IntKind.wrap .i64 (t0.2 + (1 : Int)) = v7)]) (by kernel_rfl) ⟨⟨trivial, someE e6⟩, ⟨trivial, someE e7⟩, trivial⟩ ?_
        refine EvOk.normal ?_
        obtain rfl := someE h
        exact Round.next (by kernel_rfl)
    · replace h := iteF h5 h
      refine At.gc [0, 3, 4] [] (n := 30) (l := [(0, .str x0), (3, dI t0.1), (4, dI t0.2)]) (bl := []) (by kernel_rfl) ?_
      obtain ⟨v8, e8, h⟩ := bindE h
      refine At.adv [] [(6, { told := [(1, aI v8)], keep := some ([0, 3, 4], []) })] 400 (ev := .normal) (σ' := mkS 30 [(0, .str x0), (3, dI t0.1), (4, dI v8)] []) (q := [True ∧ (IntKind.wrap .i64 (t0.2 + (1 : Int)) = v8)]) (by kernel_rfl) ⟨⟨trivial, someE e8⟩, trivial⟩ ?_
      refine EvOk.normal ?_
      obtain rfl := someE h
      exact Round.next (by kernel_rfl)
  · replace h := iteF h4 h
    refine At.gc [0, 3] [] (n := 30) (l := [(0, .str x0), (3, dI t0.1)]) (bl := []) (by kernel_rfl) ?_
    refine At.adv [] [] 400 (ev := .exit 0) (σ' := mkS 30 [(0, .str x0), (3, dI t0.1)] []) (q := []) (by kernel_rfl) trivial ?_
    refine EvOk.exit ?_
    obtain rfl := someE h
    exact Round.done (neExit _) ⟨rfl, by kernel_rfl⟩
theorem we68 (x0 : List UInt8) (r : Bool) (h : m_armatureref03_IsClassName x0 = some r) (Γ : Ctx) : At Try.prog Γ b68 [] (Den.Ends Try.prog Try.f68 (.bool r)) (mkS 30 [(0, .str x0)] []) := by
  refine At.adv [] [(0, { keep := some ([0], []) }), (1, { keep := some ([0, 7], []) })] 400 (ev := .cond (decide ((x0.length : Int) > 64)) c68x26 c68x27 [.seq c68x1]) (σ' := mkS 30 [(0, .str x0), (7, .bool (decide ((x0.length : Int) > 64)))] []) (q := []) (by kernel_rfl) trivial ?_
  refine EvOk.cond (fun h0 => ?_) (fun h0 => ?_)
  · replace h := iteT h0 h
    refine At.gc [] [] (n := 30) (l := []) (bl := []) (by kernel_rfl) ?_
    refine At.adv [] [(2, { keep := some ([2], []) })] 400 (ev := .ret) (σ' := mkS 30 [(2, .bool false)] []) (q := []) (by kernel_rfl) trivial ?_
    refine EvOk.ret ?_
    obtain rfl := someE h
    exact Den.Ends.mk (.inl rfl) (d := .bool false) (p := (True ∧ True) ∧ (tN 1)) (by kernel_rfl) ⟨⟨trivial, trivial⟩, tNi 1⟩ (by kernel_rfl)
  · replace h := iteF h0 h
    refine At.gc [0] [] (n := 30) (l := [(0, .str x0)]) (bl := []) (by kernel_rfl) ?_
    refine At.adv [] [(3, { keep := some ([0, 3], []) }), (4, { keep := some ([0, 3, 4], []) })] 400 (ev := .loop c68x6 [.blk 0, .seq c68x23]) (σ' := mkS 30 [(0, .str x0), (3, dI 0), (4, dI 0)] []) (q := []) (by kernel_rfl) trivial ?_
    refine EvOk.loop ?_
    obtain ⟨q1, e9, h⟩ := bindE h
    refine At.loop (l68x1 x0) (st68x1 x0) (J68x1 x0) (0, 0) e9 (by kernel_rfl) (fun t x hx => (wl68x1 x0) t x hx Γ) ?_
    intro e σ' hJ
    rcases q1 with q0 | y0
    · obtain ⟨rfl, rfl⟩ := hJ
      refine At.exitK (K' := [.seq c68x23]) (by kernel_rfl) ?_
      obtain ⟨v9, e10, h⟩ := bindE h
      obtain ⟨v10, e11, h⟩ := bindE h
      refine At.advN [] [(11, { told := [(2, aS v9), (3, aB v10)], keep := some ([2], []) })] 400 (ev := .ret) (σ' := mkS 30 [(2, .bool v10)] []) (q := [True ∧ (sub x0 q0 (x0.length : Int) = some v9), True ∧ (cq Try.prog (tN 1) 70 [.str v9] (.bool v10))]) (by kernel_rfl) ⟨⟨trivial, e10⟩, ⟨trivial, cqi (tNi 1) (w70 e11)⟩, trivial⟩ ?_
      refine EvOk.ret ?_
      obtain rfl := someE h
      exact Den.Ends.mk (.inl rfl) (d := .bool v10) (p := (True ∧ True) ∧ (tN 1)) (by kernel_rfl) ⟨⟨trivial, trivial⟩, tNi 1⟩ (by kernel_rfl)
    · obtain rfl := someE h
      obtain ⟨rfl, hE⟩ := hJ
      exact At.retK hE
theorem w68 {x0 : List UInt8} {r : Bool} (h : m_armatureref03_IsClassName x0 = some r) : CallSpec Try.prog 68 [.str x0] (.bool r) :=
  CallSpec.at2 b68 (n := 30) (l := [(0, .str x0)]) (by kernel_rfl) (by kernel_rfl) (by kernel_rfl) (by kernel_rfl) (by kernel_rfl) (Nat.le_of_ble_eq_true (by kernel_rfl)) (fun Γ => we68 x0 r h Γ)

/-! ### armature armatureref04.Valid -/
noncomputable def b79 : Code := Try.f79.body.getD .skip
noncomputable def c79x0 : Code := sub1 b79
noncomputable def c79x1 : Code := sub0 c79x0
noncomputable def c79x2 : Code := sub1 c79x1
noncomputable def c79x3 : Code := sub0 c79x2
noncomputable def c79x4 : Code := sub1 c79x2
noncomputable def c79x5 : Code := sub1 c79x0
noncomputable def c79x6 : Code := sub0 c79x5
noncomputable def c79x7 : Code := sub0 c79x6
noncomputable def c79x8 : Code := sub1 c79x6
noncomputable def c79x9 : Code := sub1 c79x5
noncomputable def c79x10 : Code := sub0 c79x8
noncomputable def c79x11 : Code := sub1 c79x10
noncomputable def c79x12 : Code := sub0 c79x11
noncomputable def c79x13 : Code := sub1 c79x11
noncomputable def c79x14 : Code := sub0 c79x10
noncomputable def c79x15 : Code := sub1 c79x14
noncomputable def c79x16 : Code := sub0 c79x15
noncomputable def c79x17 : Code := sub1 c79x15
noncomputable def c79x18 : Code := sub0 c79x13
noncomputable def c79x19 : Code := sub1 c79x13
noncomputable def c79x20 : Code := sub1 c79x19
noncomputable def c79x21 : Code := sub1 c79x20
noncomputable def c79x22 : Code := sub0 c79x21
noncomputable def c79x23 : Code := sub1 c79x21
noncomputable def c79x24 : Code := sub0 c79x19
def j79x3 (x0 : T_api_Type) : Option (Bool) :=
  if (x0.f_Base == 86) = true then
    (if (x0.f_Name == ([] : List UInt8)) = true then (some (x0.f_Dim == 0)) else
    (some false)) else
  (if (x0.f_Base == 76) = true then
      ((m_armatureref03_IsClassName x0.f_Name).bind fun v0 =>
      some v0) else
    (some false))
def j79x2 (x0 : T_api_Type) : Option (Bool) :=
  if (x0.f_Base == 74) = true then
    (some (x0.f_Name == ([] : List UInt8))) else
  ((j79x3 x0) )
def j79x1 (x0 : T_api_Type) : Option (Bool) :=
  if (x0.f_Base == 73) = true then
    (some (x0.f_Name == ([] : List UInt8))) else
  ((j79x2 x0) )
def m_armatureref04_Valid (x0 : T_api_Type) : Option (Bool) :=
  if (decide (x0.f_Dim < 0)) = true then (some false) else
  (if (decide (x0.f_Dim > 8)) = true then
    (some false) else
  ((j79x1 x0) ))
theorem wj79x3 (x0 : T_api_Type) (r : Bool) (h : (j79x3 x0)  = some r) (Γ : Ctx) : EvOk Try.prog Γ (Den.Ends Try.prog Try.f79 (.bool r)) (mkS 34 [(1, .ptr (row_T_api_Type x0)), (12, d8 x0.f_Base)] []) (.stop c79x18 [.seq c79x19, .blk 0, .seq c79x9]) := by
  refine EvOk.stop ?_
  refine At.adv [] [(7, { keep := some ([1, 12, 19], []) })] 400 (ev := .cond (x0.f_Base == 86) c79x24 c79x20 [.blk 0, .seq c79x9]) (σ' := mkS 34 [(1, .ptr (row_T_api_Type x0)), (12, d8 x0.f_Base), (19, .bool (x0.f_Base == 86))] []) (q := []) (by kernel_rfl) trivial ?_
  refine EvOk.cond (fun h4 => ?_) (fun h4 => ?_)
  · replace h := iteT h4 h
    refine At.gc [1] [] (n := 34) (l := [(1, .ptr (row_T_api_Type x0))]) (bl := []) (by kernel_rfl) ?_
    rcases Bool.eq_false_or_eq_true (x0.f_Name == ([] : List UInt8)) with h5 | h5
    · replace h := iteT h5 h
      refine At.adv [] [(8, { told := [(2, aB true)], keep := some ([2], []) })] 400 (ev := .ret) (σ' := mkS 34 [(2, .bool (x0.f_Dim == 0))] []) (q := [True ∧ ((x0.f_Name == ([] : List UInt8)) = true), True ∧ True, True ∧ True, True ∧ True]) (by kernel_rfl) ⟨⟨trivial, h5⟩, ⟨trivial, trivial⟩, ⟨trivial, trivial⟩, ⟨trivial, trivial⟩, trivial⟩ ?_
      refine EvOk.ret ?_
      obtain rfl := someE h
      exact Den.Ends.mk (.inl rfl) (d := .bool (x0.f_Dim == 0)) (p := (True ∧ True) ∧ (tN 1)) (by kernel_rfl) ⟨⟨trivial, trivial⟩, tNi 1⟩ (by kernel_rfl)
    · replace h := iteF h5 h
      refine At.adv [] [(8, { told := [(2, aB false)], keep := some ([2], []) })] 400 (ev := .ret) (σ' := mkS 34 [(2, .bool false)] []) (q := [True ∧ ((x0.f_Name == ([] : List UInt8)) = false), True, True, True]) (by kernel_rfl) ⟨⟨trivial, h5⟩, trivial, trivial, trivial, trivial⟩ ?_
      refine EvOk.ret ?_
      obtain rfl := someE h
      exact Den.Ends.mk (.inl rfl) (d := .bool false) (p := (True ∧ True) ∧ (tN 1)) (by kernel_rfl) ⟨⟨trivial, trivial⟩, tNi 1⟩ (by kernel_rfl)
  · replace h := iteF h4 h
    refine At.gc [1, 12] [] (n := 34) (l := [(1, .ptr (row_T_api_Type x0)), (12, d8 x0.f_Base)]) (bl := []) (by kernel_rfl) ?_
    refine At.adv [] [(9, { keep := some ([1, 29], []) })] 400 (ev := .cond (x0.f_Base == 76) c79x22 c79x23 [.blk 0, .seq c79x9]) (σ' := mkS 34 [(1, .ptr (row_T_api_Type x0)), (29, .bool (x0.f_Base == 76))] []) (q := []) (by kernel_rfl) trivial ?_
    refine EvOk.cond (fun h6 => ?_) (fun h6 => ?_)
    · replace h := iteT h6 h
      refine At.gc [1] [] (n := 34) (l := [(1, .ptr (row_T_api_Type x0))]) (bl := []) (by kernel_rfl) ?_
      obtain ⟨v0, e0, h⟩ := bindE h
      refine At.adv [] [(10, { told := [(2, aB v0)], keep := some ([2], []) })] 400 (ev := .ret) (σ' := mkS 34 [(2, .bool v0)] []) (q := [True ∧ (cq Try.prog (tN 1) 68 [.str x0.f_Name] (.bool v0))]) (by kernel_rfl) ⟨⟨trivial, cqi (tNi 1) (w68 e0)⟩, trivial⟩ ?_
      refine EvOk.ret ?_
      obtain rfl := someE h
      exact Den.Ends.mk (.inl rfl) (d := .bool v0) (p := (True ∧ True) ∧ (tN 1)) (by kernel_rfl) ⟨⟨trivial, trivial⟩, tNi 1⟩ (by kernel_rfl)
    · replace h := iteF h6 h
      refine At.gc [] [] (n := 34) (l := []) (bl := []) (by kernel_rfl) ?_
      refine At.adv [] [(11, { keep := some ([2], []) })] 400 (ev := .ret) (σ' := mkS 34 [(2, .bool false)] []) (q := []) (by kernel_rfl) trivial ?_
      refine EvOk.ret ?_
      obtain rfl := someE h
      exact Den.Ends.mk (.inl rfl) (d := .bool false) (p := (True ∧ True) ∧ (tN 1)) (by kernel_rfl) ⟨⟨trivial, trivial⟩, tNi 1⟩ (by kernel_rfl)
theorem wj79x2 (x0 : T_api_Type) (r : Bool) (h : (j79x2 x0)  = some r) (Γ : Ctx) : EvOk Try.prog Γ (Den.Ends Try.prog Try.f79 (.bool r)) (mkS 34 [(1, .ptr (row_T_api_Type x0)), (12, d8 x0.f_Base), (13, .bool (x0.f_Base == 74))] []) (.cond (x0.f_Base == 74) c79x12 c79x13 [.blk 0, .seq c79x9]) := by
  refine EvOk.cond (fun h3 => ?_) (fun h3 => ?_)
  · replace h := iteT h3 h
    refine At.gc [1] [] (n := 34) (l := [(1, .ptr (row_T_api_Type x0))]) (bl := []) (by kernel_rfl) ?_
    refine At.adv [] [(6, { keep := some ([2], []) })] 400 (ev := .ret) (σ' := mkS 34 [(2, .bool (x0.f_Name == ([] : List UInt8)))] []) (q := []) (by kernel_rfl) trivial ?_
    refine EvOk.ret ?_
    obtain rfl := someE h
    exact Den.Ends.mk (.inl rfl) (d := .bool (x0.f_Name == ([] : List UInt8))) (p := (True ∧ True) ∧ (tN 1)) (by kernel_rfl) ⟨⟨trivial, trivial⟩, tNi 1⟩ (by kernel_rfl)
  · replace h := iteF h3 h
    refine At.gc [1, 12] [] (n := 34) (l := [(1, .ptr (row_T_api_Type x0)), (12, d8 x0.f_Base)]) (bl := []) (by kernel_rfl) ?_
    refine At.adv [7] [] 400 (ev := .stop c79x18 [.seq c79x19, .blk 0, .seq c79x9]) (σ' := mkS 34 [(1, .ptr (row_T_api_Type x0)), (12, d8 x0.f_Base)] []) (q := []) (by kernel_rfl) trivial ?_
    exact (wj79x3 x0)  r h Γ
theorem wj79x1 (x0 : T_api_Type) (r : Bool) (h : (j79x1 x0)  = some r) (Γ : Ctx) : EvOk Try.prog Γ (Den.Ends Try.prog Try.f79 (.bool r)) (mkS 34 [(1, .ptr (row_T_api_Type x0))] []) (.stop c79x7 [.seq c79x8, .seq c79x9]) := by
  refine EvOk.stop ?_
  refine At.adv [] [(3, { keep := some ([1, 12], []) }), (4, { keep := some ([1, 12, 13], []) })] 400 (ev := .cond (x0.f_Base == 73) c79x16 c79x17 [.seq c79x11, .blk 0, .seq c79x9]) (σ' := mkS 34 [(1, .ptr (row_T_api_Type x0)), (12, d8 x0.f_Base), (13, .bool (x0.f_Base == 73))] []) (q := []) (by kernel_rfl) trivial ?_
  refine EvOk.cond (fun h2 => ?_) (fun h2 => ?_)
  · replace h := iteT h2 h
    refine At.adv [] [] 400 (ev := .cond (x0.f_Base == 73) c79x12 c79x13 [.blk 0, .seq c79x9]) (σ' := mkS 34 [(1, .ptr (row_T_api_Type x0)), (12, d8 x0.f_Base), (13, .bool (x0.f_Base == 73))] []) (q := []) (by kernel_rfl) trivial ?_
    refine EvOk.cond (fun _ => ?_) (fun hb => Bool.noConfusion (h2.symm.trans hb))
    refine At.gc [1] [] (n := 34) (l := [(1, .ptr (row_T_api_Type x0))]) (bl := []) (by kernel_rfl) ?_
    refine At.adv [] [(6, { keep := some ([2], []) })] 400 (ev := .ret) (σ' := mkS 34 [(2, .bool (x0.f_Name == ([] : List UInt8)))] []) (q := []) (by kernel_rfl) trivial ?_
    refine EvOk.ret ?_
    obtain rfl := someE h
    exact Den.Ends.mk (.inl rfl) (d := .bool (x0.f_Name == ([] : List UInt8))) (p := (True ∧ True) ∧ (tN 1)) (by kernel_rfl) ⟨⟨trivial, trivial⟩, tNi 1⟩ (by kernel_rfl)
  · replace h := iteF h2 h
    refine At.gc [1, 12] [] (n := 34) (l := [(1, .ptr (row_T_api_Type x0)), (12, d8 x0.f_Base)]) (bl := []) (by kernel_rfl) ?_
    refine At.adv [] [(5, { keep := some ([1, 12, 13], []) })] 400 (ev := .cond (x0.f_Base == 74) c79x12 c79x13 [.blk 0, .seq c79x9]) (σ' := mkS 34 [(1, .ptr (row_T_api_Type x0)), (12, d8 x0.f_Base), (13, .bool (x0.f_Base == 74))] []) (q := []) (by kernel_rfl) trivial ?_
    exact (wj79x2 x0)  r h Γ
theorem we79 (x0 : T_api_Type) (r : Bool) (h : m_armatureref04_Valid x0 = some r) (Γ : Ctx) : At Try.prog Γ b79 [] (Den.Ends Try.prog Try.f79 (.bool r)) (mkS 34 [(0, .agg (row_T_api_Type x0))] []) := by
  rcases Bool.eq_false_or_eq_true (decide (x0.f_Dim < 0)) with h0 | h0
  · replace h := iteT h0 h
    refine At.adv [] [(0, { told := [(0, { ro := true })], keep := some ([1], []) }), (1, { told := [(2, aB true)], keep := some ([1, 10], []) })] 400 (ev := .cond true c79x3 c79x4 [.seq c79x5]) (σ' := mkS 34 [(1, .ptr (row_T_api_Type x0)), (10, .bool true)] []) (q := [True ∧ ((decide (x0.f_Dim < 0)) = true), True, True, True]) (by kernel_rfl) ⟨⟨trivial, h0⟩, trivial, trivial, trivial, trivial⟩ ?_
    refine EvOk.cond (fun _ => ?_) (fun hb => Bool.noConfusion hb)
    refine At.gc [] [] (n := 34) (l := []) (bl := []) (by kernel_rfl) ?_
    refine At.adv [] [(2, { keep := some ([2], []) })] 400 (ev := .ret) (σ' := mkS 34 [(2, .bool false)] []) (q := []) (by kernel_rfl) trivial ?_
    refine EvOk.ret ?_
    obtain rfl := someE h
    exact Den.Ends.mk (.inl rfl) (d := .bool false) (p := (True ∧ True) ∧ (tN 1)) (by kernel_rfl) ⟨⟨trivial, trivial⟩, tNi 1⟩ (by kernel_rfl)
  · replace h := iteF h0 h
    refine At.adv [] [(0, { told := [(0, { ro := true })], keep := some ([1], []) }), (1, { told := [(2, aB false)], keep := some ([1, 10], []) })] 400 (ev := .cond (decide (x0.f_Dim > 8)) c79x3 c79x4 [.seq c79x5]) (σ' := mkS 34 [(1, .ptr (row_T_api_Type x0)), (10, .bool (decide (x0.f_Dim > 8)))] []) (q := [True ∧ ((decide (x0.f_Dim < 0)) = false), True ∧ True, True ∧ True, True ∧ True]) (by kernel_rfl) ⟨⟨trivial, h0⟩, ⟨trivial, trivial⟩, ⟨trivial, trivial⟩, ⟨trivial, trivial⟩, trivial⟩ ?_
    refine EvOk.cond (fun h1 => ?_) (fun h1 => ?_)
    · replace h := iteT h1 h
      refine At.gc [] [] (n := 34) (l := []) (bl := []) (by kernel_rfl) ?_
      refine At.adv [] [(2, { keep := some ([2], []) })] 400 (ev := .ret) (σ' := mkS 34 [(2, .bool false)] []) (q := []) (by kernel_rfl) trivial ?_
      refine EvOk.ret ?_
      obtain rfl := someE h
      exact Den.Ends.mk (.inl rfl) (d := .bool false) (p := (True ∧ True) ∧ (tN 1)) (by kernel_rfl) ⟨⟨trivial, trivial⟩, tNi 1⟩ (by kernel_rfl)
    · replace h := iteF h1 h
      refine At.gc [1] [] (n := 34) (l := [(1, .ptr (row_T_api_Type x0))]) (bl := []) (by kernel_rfl) ?_
      refine At.adv [3] [] 400 (ev := .stop c79x7 [.seq c79x8, .seq c79x9]) (σ' := mkS 34 [(1, .ptr (row_T_api_Type x0))] []) (q := []) (by kernel_rfl) trivial ?_
      exact (wj79x1 x0)  r h Γ
theorem w79 {x0 : T_api_Type} {r : Bool} (h : m_armatureref04_Valid x0 = some r) : CallSpec Try.prog 79 [.agg (row_T_api_Type x0)] (.bool r) :=
  CallSpec.at2 b79 (n := 34) (l := [(0, .agg (row_T_api_Type x0))]) (by kernel_rfl) (by kernel_rfl) (by kernel_rfl) (by kernel_rfl) (by kernel_rfl) (Nat.le_of_ble_eq_true (by kernel_rfl)) (fun Γ => we79 x0 r h Γ)

/-! ### armature armatureref04.take -/
noncomputable def b76 : Code := Try.f76.body.getD .skip
noncomputable def c76x0 : Code := sub1 b76
noncomputable def c76x1 : Code := sub1 c76x0
noncomputable def c76x2 : Code := sub0 c76x1
noncomputable def c76x3 : Code := sub0 c76x2
noncomputable def c76x4 : Code := sub0 c76x3
noncomputable def c76x5 : Code := sub1 c76x4
noncomputable def c76x6 : Code := sub0 c76x5
noncomputable def c76x7 : Code := sub0 c76x6
noncomputable def c76x8 : Code := sub1 c76x6
noncomputable def c76x9 : Code := sub0 c76x4
noncomputable def c76x10 : Code := sub1 c76x9
noncomputable def c76x11 : Code := sub0 c76x10
noncomputable def c76x12 : Code := sub1 c76x10
noncomputable def c76x13 : Code := sub1 c76x1
noncomputable def c76x14 : Code := sub1 c76x13
noncomputable def c76x15 : Code := sub1 c76x14
noncomputable def c76x16 : Code := sub1 c76x15
noncomputable def c76x17 : Code := sub0 c76x16
noncomputable def c76x18 : Code := sub1 c76x17
noncomputable def c76x19 : Code := sub0 c76x18
noncomputable def c76x20 : Code := sub1 c76x19
noncomputable def c76x21 : Code := sub0 c76x20
noncomputable def c76x22 : Code := sub0 c76x21
noncomputable def c76x23 : Code := sub0 c76x22
noncomputable def c76x24 : Code := sub0 c76x23
noncomputable def c76x25 : Code := sub1 c76x24
noncomputable def c76x26 : Code := sub0 c76x25
noncomputable def c76x27 : Code := sub1 c76x25
noncomputable def c76x28 : Code := sub1 c76x23
noncomputable def c76x29 : Code := sub1 c76x16
noncomputable def c76x30 : Code := sub0 c76x29
noncomputable def c76x31 : Code := sub0 c76x30
noncomputable def c76x32 : Code := sub1 c76x30
noncomputable def c76x33 : Code := sub1 c76x29
noncomputable def c76x34 : Code := sub1 c76x20
noncomputable def c76x35 : Code := sub0 c76x34
noncomputable def c76x36 : Code := sub1 c76x35
noncomputable def c76x37 : Code := sub0 c76x36
noncomputable def c76x38 : Code := sub1 c76x36
noncomputable def c76x39 : Code := sub1 c76x34
noncomputable def c76x40 : Code := sub1 c76x18
noncomputable def c76x41 : Code := sub0 c76x13
noncomputable def c76x42 : Code := sub1 c76x41
noncomputable def c76x43 : Code := sub0 c76x42
noncomputable def c76x44 : Code := sub1 c76x42
noncomputable def c76x45 : Code := sub0 c76x32
noncomputable def c76x46 : Code := sub1 c76x32
def j76x1 (t0 : Int × Int) : Option (Ctl (Int × Int) ((Int × Int))) :=
  (some (IntKind.wrap .i64 (t0.2 + (1 : Int)))).bind fun v3 =>
  (some (IntKind.wrap .i64 (t0.1 + (1 : Int)))).bind fun v4 =>
  some (.next (v4, v3))
def l76x1 (x0 : List UInt8) (t0 : Int × Int) : Option (Ctl (Int × Int) ((Int × Int))) :=
  if (decide (t0.1 < (x0.length : Int))) = true then ((getS x0 t0.1).bind fun v2 =>
  if (v2 == 91) = true then
    ((j76x1 t0) ) else
  (some (.done ((t0.2, t0.1))))) else
  (some (.done ((t0.2, t0.1))))
def l76x2 (x0 : List UInt8) (t1 : Int) : Option (Ctl (Int) (Int)) :=
  if (decide (t1 < (x0.length : Int))) = true then ((getS x0 t1).bind fun v9 =>
  if (v9 != 59) = true then
    ((some (IntKind.wrap .i64 (t1 + (1 : Int)))).bind fun v10 =>
    some (.next v10)) else
  (some (.done (t1)))) else
  (some (.done (t1)))
def j76x2 (q0 : (Int × Int)) (v5 : Int) (p0 : List UInt8) (p1 : Int) : Option (T_api_Type × Int) :=
  (m_armatureref04_Valid ({ f_Dim := q0.1, f_Base := v5, f_Name := p0 } : T_api_Type)).bind fun v13 =>
  if (!v13) = true then
    (some (({ f_Dim := 0, f_Base := 0, f_Name := [] } : T_api_Type), (-1))) else
  (some (({ f_Dim := q0.1, f_Base := v5, f_Name := p0 } : T_api_Type), p1))
def m_armatureref04_take (x0 : List UInt8) (x1 : Int) : Option (T_api_Type × Int) :=
  (loopM (l76x1 x0) rounds (x1, 0)).bind fun q0 =>
  if (decide (q0.2 ≥ (x0.length : Int))) = true then
    (some (({ f_Dim := 0, f_Base := 0, f_Name := [] } : T_api_Type), (-1))) else
  ((getS x0 q0.2).bind fun v5 =>
    (some (IntKind.wrap .i64 (q0.2 + (1 : Int)))).bind fun v6 =>
    if (v5 == 76) = true then
      ((loopM (l76x2 x0) rounds v6).bind fun q2 =>
      if (decide (q2 ≥ (x0.length : Int))) = true then
        (some (({ f_Dim := 0, f_Base := 0, f_Name := [] } : T_api_Type), (-1))) else
      ((sub x0 v6 q2).bind fun v11 =>
        (some (IntKind.wrap .i64 (q2 + (1 : Int)))).bind fun v12 =>
        (j76x2 q0 v5) v11 v12)) else
    ((j76x2 q0 v5) [] v6))
def st76x1 (x0 : List UInt8) : (Int × Int) → S :=
  fun t0 => mkS 70 [(0, .str x0), (1, .int .i64 t0.1), (4, .lptr 4 0 0), (6, .lptr 6 0 0)] [(4, { sz := 3, rows := [[.int .i64 0, .int .u8 0, .str []]], frz := 0, pure := false }), (6, { sz := 3, rows := [[.int .i64 t0.2, .int .u8 0, .str []]], frz := 0, pure := false })]
noncomputable def J76x1 (x0 : List UInt8) : ((Int × Int)) → Exit → S → Prop :=
  JExit 0 (fun q0 : Int × Int => mkS 70 [(0, .str x0), (1, .int .i64 q0.2), (4, .lptr 4 0 0), (6, .lptr 6 0 0)] [(4, { sz := 3, rows := [[.int .i64 0, .int .u8 0, .str []]], frz := 0, pure := false }), (6, { sz := 3, rows := [[.int .i64 q0.1, .int .u8 0, .str []]], frz := 0, pure := false })])
theorem wj76x1 (t0 : Int × Int) (x0 : List UInt8) (r : Ctl (Int × Int) ((Int × Int))) (h : (j76x1 t0)  = some r) (Γ : Ctx) : EvOk Try.prog Γ (Round (st76x1 x0) (J76x1 x0) r) (mkS 70 [(0, .str x0), (1, dI t0.1), (4, .lptr 4 0 0), (6, .lptr 6 0 0)] [(4, { sz := 3, rows := [[dI 0, d8 0, .str []]], frz := 0, pure := false }), (6, { sz := 3, rows := [[dI t0.2, d8 0, .str []]], frz := 0, pure := false })]) (.stop c76x7 [.seq c76x8, .blk 1]) := by
  refine EvOk.stop ?_
  obtain ⟨v3, e3, h⟩ := bindE h
  obtain ⟨v4, e4, h⟩ := bindE h
  refine At.adv [] [(3, { told := [(2, aI v3)], keep := some ([0, 1, 4, 6], [(4, 4), (6, 6)]) }), (4, { told := [(1, aI v4)], keep := some ([0, 1, 4, 6], [(4, 4), (6, 6)]) })] 400 (ev := .normal) (σ' := mkS 70 [(0, .str x0), (1, dI v4), (4, .lptr 4 0 0), (6, .lptr 6 0 0)] [(4, { sz := 3, rows := [[dI 0, d8 0, .str []]], frz := 0, pure := false }), (6, { sz := 3, rows := [[dI v3, d8 0, .str []]], frz := 0, pure := false })]) (q := [True ∧ (IntKind.wrap .i64 (t0.2 + (1 : Int)) = v3), True ∧ (0 ≤ 0 ∧ 0 + ([dI v3] : List D).length ≤ ([dI t0.2, d8 0, .str []] : List D).length ∧ ([[dI v3, d8 0, .str []]] : List (List D)) = ([[dI v3, d8 0, .str []]] : List (List D))), True ∧ (IntKind.wrap .i64 (t0.1 + (1 : Int)) = v4)]) (by kernel_rfl) ⟨⟨trivial, someE e3⟩, ⟨trivial, ⟨Nat.zero_le _, Nat.le_of_ble_eq_true rfl, rfl⟩⟩, ⟨trivial, someE e4⟩, trivial⟩ ?_
  refine EvOk.normal ?_
  obtain rfl := someE h
  exact Round.next (by kernel_rfl)
theorem wl76x1 (x0 : List UInt8) (t0 : Int × Int) (r : Ctl (Int × Int) ((Int × Int))) (h : (l76x1 x0) t0 = some r) (Γ : Ctx) : At Try.prog Γ c76x4 [] (Round (st76x1 x0) (J76x1 x0) r) ((st76x1 x0) t0) := by
  rcases Bool.eq_false_or_eq_true (decide (t0.1 < (x0.length : Int))) with h2 | h2
  · replace h := iteT h2 h
    obtain ⟨v2, e2, h⟩ := bindE h
    refine At.adv [] [(2, { told := [(3, aB true), (7, a8 v2)], keep := some ([0, 1, 4, 6, 18], [(4, 4), (6, 6)]) })] 400 (ev := .cond (v2 == 91) c76x11 c76x12 [.seq c76x5]) (σ' := mkS 70 [(0, .str x0), (1, dI t0.1), (4, .lptr 4 0 0), (6, .lptr 6 0 0), (18, .bool (v2 == 91))] [(4, { sz := 3, rows := [[dI 0, d8 0, .str []]], frz := 0, pure := false }), (6, { sz := 3, rows := [[dI t0.2, d8 0, .str []]], frz := 0, pure := false })]) (q := [True ∧ ((decide (t0.1 < (x0.length : Int))) = true), True ∧ True, True ∧ True, True ∧ (getS x0 t0.1 = some v2), True ∧ True]) (by kernel_rfl) ⟨⟨trivial, h2⟩, ⟨trivial, trivial⟩, ⟨trivial, trivial⟩, ⟨trivial, e2⟩, ⟨trivial, trivial⟩, trivial⟩ ?_
    refine EvOk.cond (fun h3 => ?_) (fun h3 => ?_)
    · replace h := iteT h3 h
      refine At.gc [0, 1, 4, 6] [(4, 4), (6, 6)] (n := 70) (l := [(0, .str x0), (1, dI t0.1), (4, .lptr 4 0 0), (6, .lptr 6 0 0)]) (bl := [(4, { sz := 3, rows := [[dI 0, d8 0, .str []]], frz := 0, pure := false }), (6, { sz := 3, rows := [[dI t0.2, d8 0, .str []]], frz := 0, pure := false })]) (by kernel_rfl) ?_
      refine At.adv [3] [] 400 (ev := .stop c76x7 [.seq c76x8, .blk 1]) (σ' := mkS 70 [(0, .str x0), (1, dI t0.1), (4, .lptr 4 0 0), (6, .lptr 6 0 0)] [(4, { sz := 3, rows := [[dI 0, d8 0, .str []]], frz := 0, pure := false }), (6, { sz := 3, rows := [[dI t0.2, d8 0, .str []]], frz := 0, pure := false })]) (q := []) (by kernel_rfl) trivial ?_
      exact (wj76x1 t0 x0)  r h Γ
    · replace h := iteF h3 h
      refine At.gc [0, 1, 4, 6] [(4, 4), (6, 6)] (n := 70) (l := [(0, .str x0), (1, dI t0.1), (4, .lptr 4 0 0), (6, .lptr 6 0 0)]) (bl := [(4, { sz := 3, rows := [[dI 0, d8 0, .str []]], frz := 0, pure := false }), (6, { sz := 3, rows := [[dI t0.2, d8 0, .str []]], frz := 0, pure := false })]) (by kernel_rfl) ?_
      refine At.adv [] [] 400 (ev := .exit 0) (σ' := mkS 70 [(0, .str x0), (1, dI t0.1), (4, .lptr 4 0 0), (6, .lptr 6 0 0)] [(4, { sz := 3, rows := [[dI 0, d8 0, .str []]], frz := 0, pure := false }), (6, { sz := 3, rows := [[dI t0.2, d8 0, .str []]], frz := 0, pure := false })]) (q := []) (by kernel_rfl) trivial ?_
      refine EvOk.exit ?_
      obtain rfl := someE h
      exact Round.done (neExit _) ⟨rfl, by kernel_rfl⟩
  · replace h := iteF h2 h
    refine At.adv [] [(2, { told := [(3, aB false)], keep := some ([0, 1, 4, 6, 18], [(4, 4), (6, 6)]) })] 400 (ev := .cond false c76x11 c76x12 [.seq c76x5]) (σ' := mkS 70 [(0, .str x0), (1, dI t0.1), (4, .lptr 4 0 0), (6, .lptr 6 0 0), (18, .bool false)] [(4, { sz := 3, rows := [[dI 0, d8 0, .str []]], frz := 0, pure := false }), (6, { sz := 3, rows := [[dI t0.2, d8 0, .str []]], frz := 0, pure := false })]) (q := [True ∧ ((decide (t0.1 < (x0.length : Int))) = false), True, True, True, True]) (by kernel_rfl) ⟨⟨trivial, h2⟩, trivial, trivial, trivial, trivial, trivial⟩ ?_
    refine EvOk.cond (fun hb => Bool.noConfusion hb) (fun _ => ?_)
    refine At.gc [0, 1, 4, 6] [(4, 4), (6, 6)] (n := 70) (l := [(0, .str x0), (1, dI t0.1), (4, .lptr 4 0 0), (6, .lptr 6 0 0)]) (bl := [(4, { sz := 3, rows := [[dI 0, d8 0, .str []]], frz := 0, pure := false }), (6, { sz := 3, rows := [[dI t0.2, d8 0, .str []]], frz := 0, pure := false })]) (by kernel_rfl) ?_
    refine At.adv [] [] 400 (ev := .exit 0) (σ' := mkS 70 [(0, .str x0), (1, dI t0.1), (4, .lptr 4 0 0), (6, .lptr 6 0 0)] [(4, { sz := 3, rows := [[dI 0, d8 0, .str []]], frz := 0, pure := false }), (6, { sz := 3, rows := [[dI t0.2, d8 0, .str []]], frz := 0, pure := false })]) (q := []) (by kernel_rfl) trivial ?_
    refine EvOk.exit ?_
    obtain rfl := someE h
    exact Round.done (neExit _) ⟨rfl, by kernel_rfl⟩
def st76x2 (q0 : (Int × Int)) (v5 : Int) (v6 : Int) (x0 : List UInt8) : Int → S :=
  fun t1 => mkS 70 [(0, .str x0), (1, .int .i64 t1), (4, .lptr 4 0 0), (6, .lptr 6 0 0), (7, .int .i64 v6)] [(4, { sz := 3, rows := [[.int .i64 0, .int .u8 0, .str []]], frz := 0, pure := false }), (6, { sz := 3, rows := [[.int .i64 q0.1, .int .u8 v5, .str []]], frz := 0, pure := false })]
noncomputable def J76x2 (q0 : (Int × Int)) (v5 : Int) (v6 : Int) (x0 : List UInt8) : Int → Exit → S → Prop :=
  JExit 2 (fun q2 : Int => mkS 70 [(0, .str x0), (1, .int .i64 q2), (4, .lptr 4 0 0), (6, .lptr 6 0 0), (7, .int .i64 v6)] [(4, { sz := 3, rows := [[.int .i64 0, .int .u8 0, .str []]], frz := 0, pure := false }), (6, { sz := 3, rows := [[.int .i64 q0.1, .int .u8 v5, .str []]], frz := 0, pure := false })])
theorem wl76x2 (q0 : (Int × Int)) (v5 : Int) (v6 : Int) (x0 : List UInt8) (t1 : Int) (r : Ctl (Int) (Int)) (h : (l76x2 x0) t1 = some r) (Γ : Ctx) : At Try.prog Γ c76x23 [] (Round (st76x2 q0 v5 v6 x0) (J76x2 q0 v5 v6 x0) r) ((st76x2 q0 v5 v6 x0) t1) := by
  rcases Bool.eq_false_or_eq_true (decide (t1 < (x0.length : Int))) with h8 | h8
  · replace h := iteT h8 h
    obtain ⟨v9, e10, h⟩ := bindE h
    refine At.adv [] [(11, { told := [(3, aB true), (7, a8 v9)], keep := some ([0, 1, 4, 6, 7, 49], [(4, 4), (6, 6)]) })] 400 (ev := .cond (v9 != 59) c76x26 c76x27 [.seq c76x28]) (σ' := mkS 70 [(0, .str x0), (1, dI t1), (4, .lptr 4 0 0), (6, .lptr 6 0 0), (7, dI v6), (49, .bool (v9 != 59))] [(4, { sz := 3, rows := [[dI 0, d8 0, .str []]], frz := 0, pure := false }), (6, { sz := 3, rows := [[dI q0.1, d8 v5, .str []]], frz := 0, pure := false })]) (q := [True ∧ ((decide (t1 < (x0.length : Int))) = true), True ∧ True, True ∧ True, True ∧ (getS x0 t1 = some v9), True ∧ True]) (by kernel_rfl) ⟨⟨trivial, h8⟩, ⟨trivial, trivial⟩, ⟨trivial, trivial⟩, ⟨trivial, e10⟩, ⟨trivial, trivial⟩, trivial⟩ ?_
    refine EvOk.cond (fun h9 => ?_) (fun h9 => ?_)
    · replace h := iteT h9 h
      refine At.gc [0, 1, 4, 6, 7] [(4, 4), (6, 6)] (n := 70) (l := [(0, .str x0), (1, dI t1), (4, .lptr 4 0 0), (6, .lptr 6 0 0), (7, dI v6)]) (bl := [(4, { sz := 3, rows := [[dI 0, d8 0, .str []]], frz := 0, pure := false }), (6, { sz := 3, rows := [[dI q0.1, d8 v5, .str []]], frz := 0, pure := false })]) (by kernel_rfl) ?_
      obtain ⟨v10, e11, h⟩ := bindE h
      refine At.adv [] [(12, { told := [(1, aI v10)], keep := some ([0, 1, 4, 6, 7], [(4, 4), (6, 6)]) })] 400 (ev := .normal) (σ' := mkS 70 [(0, .str x0), (1, dI v10), (4, .lptr 4 0 0), (6, .lptr 6 0 0), (7, dI v6)] [(4, { sz := 3, rows := [[dI 0, d8 0, .str []]], frz := 0, pure := false }), (6, { sz := 3, rows := [[dI q0.1, d8 v5, .str []]], frz := 0, pure := false })]) (q := [True ∧ (IntKind.wrap .i64 (t1 + (1 : Int)) = v10)]) (by kernel_rfl) ⟨⟨trivial, someE e11⟩, trivial⟩ ?_
      refine EvOk.normal ?_
      obtain rfl := someE h
      exact Round.next (by kernel_rfl)
    · replace h := iteF h9 h
      refine At.gc [0, 1, 4, 6, 7] [(4, 4), (6, 6)] (n := 70) (l := [(0, .str x0), (1, dI t1), (4, .lptr 4 0 0), (6, .lptr 6 0 0), (7, dI v6)]) (bl := [(4, { sz := 3, rows := [[dI 0, d8 0, .str []]], frz := 0, pure := false }), (6, { sz := 3, rows := [[dI q0.1, d8 v5, .str []]], frz := 0, pure := false })]) (by kernel_rfl) ?_
      refine At.adv [] [] 400 (ev := .exit 2) (σ' := mkS 70 [(0, .str x0), (1, dI t1), (4, .lptr 4 0 0), (6, .lptr 6 0 0), (7, dI v6)] [(4, { sz := 3, rows := [[dI 0, d8 0, .str []]], frz := 0, pure := false }), (6, { sz := 3, rows := [[dI q0.1, d8 v5, .str []]], frz := 0, pure := false })]) (q := []) (by kernel_rfl) trivial ?_
      refine EvOk.exit ?_
      obtain rfl := someE h
      exact Round.done (neExit _) ⟨rfl, by kernel_rfl⟩
  · replace h := iteF h8 h
    refine At.adv [] [(11, { told := [(3, aB false)], keep := some ([0, 1, 4, 6, 7, 49], [(4, 4), (6, 6)]) })] 400 (ev := .cond false c76x26 c76x27 [.seq c76x28]) (σ' := mkS 70 [(0, .str x0), (1, dI t1), (4, .lptr 4 0 0), (6, .lptr 6 0 0), (7, dI v6), (49, .bool false)] [(4, { sz := 3, rows := [[dI 0, d8 0, .str []]], frz := 0, pure := false }), (6, { sz := 3, rows := [[dI q0.1, d8 v5, .str []]], frz := 0, pure := false })]) (q := [True ∧ ((decide (t1 < (x0.length : Int))) = false), True, True, True, True]) (by kernel_rfl) ⟨⟨trivial, h8⟩, trivial, trivial, trivial, trivial, trivial⟩ ?_
    refine EvOk.cond (fun hb => Bool.noConfusion hb) (fun _ => ?_)
    refine At.gc [0, 1, 4, 6, 7] [(4, 4), (6, 6)] (n := 70) (l := [(0, .str x0), (1, dI t1), (4, .lptr 4 0 0), (6, .lptr 6 0 0), (7, dI v6)]) (bl := [(4, { sz := 3, rows := [[dI 0, d8 0, .str []]], frz := 0, pure := false }), (6, { sz := 3, rows := [[dI q0.1, d8 v5, .str []]], frz := 0, pure := false })]) (by kernel_rfl) ?_
    refine At.adv [] [] 400 (ev := .exit 2) (σ' := mkS 70 [(0, .str x0), (1, dI t1), (4, .lptr 4 0 0), (6, .lptr 6 0 0), (7, dI v6)] [(4, { sz := 3, rows := [[dI 0, d8 0, .str []]], frz := 0, pure := false }), (6, { sz := 3, rows := [[dI q0.1, d8 v5, .str []]], frz := 0, pure := false })]) (q := []) (by kernel_rfl) trivial ?_
    refine EvOk.exit ?_
    obtain rfl := someE h
    exact Round.done (neExit _) ⟨rfl, by kernel_rfl⟩
theorem wj76x2 (q0 : (Int × Int)) (v5 : Int) (p0 : List UInt8) (p1 : Int) (r : T_api_Type × Int) (h : (j76x2 q0 v5) p0 p1 = some r) (Γ : Ctx) : EvOk Try.prog Γ (Den.Ends Try.prog Try.f76 (.tup [.agg (row_T_api_Type r.1), dI r.2])) (mkS 70 [(1, dI p1), (4, .lptr 4 0 0), (6, .lptr 6 0 0)] [(4, { sz := 3, rows := [[dI 0, d8 0, .str []]], frz := 0, pure := false }), (6, { sz := 3, rows := [[dI q0.1, d8 v5, .str p0]], frz := 0, pure := false })]) (.stop c76x31 [.seq c76x32, .seq c76x33]) := by
  refine EvOk.stop ?_
  obtain ⟨v13, e15, h⟩ := bindE h
  refine At.adv [] [(17, { told := [(1, aB v13)], keep := some ([1, 4, 6, 66], [(4, 4), (6, 6)]) })] 400 (ev := .cond (!v13) c76x45 c76x46 [.seq c76x33]) (σ' := mkS 70 [(1, dI p1), (4, .lptr 4 0 0), (6, .lptr 6 0 0), (66, .bool (!v13))] [(4, { sz := 3, rows := [[dI 0, d8 0, .str []]], frz := 0, pure := false }), (6, { sz := 3, rows := [[dI q0.1, d8 v5, .str p0]], frz := 0, pure := false })]) (q := [True ∧ (cq Try.prog ((tN 3) ∧ True) 79 [.agg [dI q0.1, d8 v5, .str p0]] (.bool v13))]) (by kernel_rfl) ⟨⟨trivial, cqi (⟨tNi 3, trivial⟩) (w79 e15)⟩, trivial⟩ ?_
  refine EvOk.cond (fun h11 => ?_) (fun h11 => ?_)
  · replace h := iteT h11 h
    refine At.gc [4] [(4, 4)] (n := 70) (l := [(4, .lptr 4 0 0)]) (bl := [(4, { sz := 3, rows := [[dI 0, d8 0, .str []]], frz := 0, pure := false })]) (by kernel_rfl) ?_
    refine At.adv [] [(18, { keep := some ([4, 5], [(4, 4)]) })] 400 (ev := .ret) (σ' := mkS 70 [(4, .lptr 4 0 0), (5, dI (-1))] [(4, { sz := 3, rows := [[dI 0, d8 0, .str []]], frz := 0, pure := false })]) (q := [True ∧ (0 ≤ 0 ∧ 0 + ([dI 0, d8 0, .str []] : List D).length ≤ ([dI 0, d8 0, .str []] : List D).length ∧ ([[dI 0, d8 0, .str []]] : List (List D)) = ([[dI 0, d8 0, .str []]] : List (List D)))]) (by kernel_rfl) ⟨⟨trivial, ⟨Nat.zero_le _, Nat.le_of_ble_eq_true rfl, rfl⟩⟩, trivial⟩ ?_
    refine EvOk.ret ?_
    obtain rfl := someE h
    exact Den.Ends.mk (.inl rfl) (d := .tup [.agg [dI 0, d8 0, .str []], dI (-1)]) (p := (True ∧ (True ∧ True)) ∧ ((tN 3) ∧ (True ∧ True))) (by kernel_rfl) ⟨⟨trivial, ⟨trivial, trivial⟩⟩, ⟨tNi 3, ⟨trivial, trivial⟩⟩⟩ (by kernel_rfl)
  · replace h := iteF h11 h
    refine At.gc [1, 4, 6] [(4, 4), (6, 6)] (n := 70) (l := [(1, dI p1), (4, .lptr 4 0 0), (6, .lptr 6 0 0)]) (bl := [(4, { sz := 3, rows := [[dI 0, d8 0, .str []]], frz := 0, pure := false }), (6, { sz := 3, rows := [[dI q0.1, d8 v5, .str p0]], frz := 0, pure := false })]) (by kernel_rfl) ?_
    refine At.adv [] [(19, { keep := some ([4, 5], [(4, 4)]) })] 400 (ev := .ret) (σ' := mkS 70 [(4, .lptr 4 0 0), (5, dI p1)] [(4, { sz := 3, rows := [[dI q0.1, d8 v5, .str p0]], frz := 0, pure := false })]) (q := [True ∧ (0 ≤ 0 ∧ 0 + ([dI q0.1, d8 v5, .str p0] : List D).length ≤ ([dI 0, d8 0, .str []] : List D).length ∧ ([[dI q0.1, d8 v5, .str p0]] : List (List D)) = ([[dI q0.1, d8 v5, .str p0]] : List (List D)))]) (by kernel_rfl) ⟨⟨trivial, ⟨Nat.zero_le _, Nat.le_of_ble_eq_true rfl, rfl⟩⟩, trivial⟩ ?_
    refine EvOk.ret ?_
    obtain rfl := someE h
    exact Den.Ends.mk (.inl rfl) (d := .tup [.agg [dI q0.1, d8 v5, .str p0], dI p1]) (p := (True ∧ (True ∧ True)) ∧ ((tN 3) ∧ (True ∧ True))) (by kernel_rfl) ⟨⟨trivial, ⟨trivial, trivial⟩⟩, ⟨tNi 3, ⟨trivial, trivial⟩⟩⟩ (by kernel_rfl)
theorem we76 (x0 : List UInt8) (x1 : Int) (r : T_api_Type × Int) (h : m_armatureref04_take x0 x1 = some r) (Γ : Ctx) : At Try.prog Γ b76 [] (Den.Ends Try.prog Try.f76 (.tup [.agg (row_T_api_Type r.1), dI r.2])) (mkS 70 [(0, .str x0), (1, dI x1)] []) := by
  refine At.adv [] [(0, { keep := some ([0, 1, 4], [(4, 4)]) }), (1, { keep := some ([0, 1, 4, 6], [(4, 4), (6, 6)]) })] 400 (ev := .loop c76x4 [.blk 0, .seq c76x13]) (σ' := mkS 70 [(0, .str x0), (1, dI x1), (4, .lptr 4 0 0), (6, .lptr 6 0 0)] [(4, { sz := 3, rows := [[dI 0, d8 0, .str []]], frz := 0, pure := false }), (6, { sz := 3, rows := [[dI 0, d8 0, .str []]], frz := 0, pure := false })]) (q := [True ∧ (0 ≤ 0 ∧ 0 + ([dI 0, d8 0, .str []] : List D).length ≤ ([dI 0, d8 0, .str []] : List D).length ∧ ([[dI 0, d8 0, .str []]] : List (List D)) = ([[dI 0, d8 0, .str []]] : List (List D)))]) (by kernel_rfl) ⟨⟨trivial, ⟨Nat.zero_le _, Nat.le_of_ble_eq_true rfl, rfl⟩⟩, trivial⟩ ?_
  refine EvOk.loop ?_
  obtain ⟨q0, e5, h⟩ := bindE h
  refine At.loop (l76x1 x0) (st76x1 x0) (J76x1 x0) (x1, 0) e5 (by kernel_rfl) (fun t x hx => (wl76x1 x0) t x hx Γ) ?_
  intro e σ' hJ
  obtain ⟨rfl, rfl⟩ := hJ
  refine At.exitK (K' := [.seq c76x13]) (by kernel_rfl) ?_
  refine At.advN [] [(5, { keep := some ([0, 1, 4, 6, 28], [(4, 4), (6, 6)]) })] 400 (ev := .cond (decide (q0.2 ≥ (x0.length : Int))) c76x43 c76x44 [.seq c76x14]) (σ' := mkS 70 [(0, .str x0), (1, dI q0.2), (4, .lptr 4 0 0), (6, .lptr 6 0 0), (28, .bool (decide (q0.2 ≥ (x0.length : Int))))] [(4, { sz := 3, rows := [[dI 0, d8 0, .str []]], frz := 0, pure := false }), (6, { sz := 3, rows := [[dI q0.1, d8 0, .str []]], frz := 0, pure := false })]) (q := []) (by kernel_rfl) trivial ?_
  refine EvOk.cond (fun h4 => ?_) (fun h4 => ?_)
  · replace h := iteT h4 h
    refine At.gc [4] [(4, 4)] (n := 70) (l := [(4, .lptr 4 0 0)]) (bl := [(4, { sz := 3, rows := [[dI 0, d8 0, .str []]], frz := 0, pure := false })]) (by kernel_rfl) ?_
    refine At.adv [] [(6, { keep := some ([4, 5], [(4, 4)]) })] 400 (ev := .ret) (σ' := mkS 70 [(4, .lptr 4 0 0), (5, dI (-1))] [(4, { sz := 3, rows := [[dI 0, d8 0, .str []]], frz := 0, pure := false })]) (q := [True ∧ (0 ≤ 0 ∧ 0 + ([dI 0, d8 0, .str []] : List D).length ≤ ([dI 0, d8 0, .str []] : List D).length ∧ ([[dI 0, d8 0, .str []]] : List (List D)) = ([[dI 0, d8 0, .str []]] : List (List D)))]) (by kernel_rfl) ⟨⟨trivial, ⟨Nat.zero_le _, Nat.le_of_ble_eq_true rfl, rfl⟩⟩, trivial⟩ ?_
    refine EvOk.ret ?_
    obtain rfl := someE h
    exact Den.Ends.mk (.inl rfl) (d := .tup [.agg [dI 0, d8 0, .str []], dI (-1)]) (p := (True ∧ (True ∧ True)) ∧ ((tN 3) ∧ (True ∧ True))) (by kernel_rfl) ⟨⟨trivial, ⟨trivial, trivial⟩⟩, ⟨tNi 3, ⟨trivial, trivial⟩⟩⟩ (by kernel_rfl)
  · replace h := iteF h4 h
    refine At.gc [0, 1, 4, 6] [(4, 4), (6, 6)] (n := 70) (l := [(0, .str x0), (1, dI q0.2), (4, .lptr 4 0 0), (6, .lptr 6 0 0)]) (bl := [(4, { sz := 3, rows := [[dI 0, d8 0, .str []]], frz := 0, pure := false }), (6, { sz := 3, rows := [[dI q0.1, d8 0, .str []]], frz := 0, pure := false })]) (by kernel_rfl) ?_
    obtain ⟨v5, e6, h⟩ := bindE h
    obtain ⟨v6, e7, h⟩ := bindE h
    refine At.adv [] [(7, { told := [(2, a8 v5)], keep := some ([0, 1, 4, 6], [(4, 4), (6, 6)]) }), (8, { told := [(1, aI v6)], keep := some ([0, 1, 4, 6], [(4, 4), (6, 6)]) }), (9, { keep := some ([0, 1, 4, 6, 38], [(4, 4), (6, 6)]) })] 400 (ev := .cond (v5 == 76) c76x19 c76x40 [.seq c76x29]) (σ' := mkS 70 [(0, .str x0), (1, dI v6), (4, .lptr 4 0 0), (6, .lptr 6 0 0), (38, .bool (v5 == 76))] [(4, { sz := 3, rows := [[dI 0, d8 0, .str []]], frz := 0, pure := false }), (6, { sz := 3, rows := [[dI q0.1, d8 v5, .str []]], frz := 0, pure := false })]) (q := [True ∧ (getS x0 q0.2 = some v5), True ∧ (0 ≤ 0 ∧ 1 + ([d8 v5] : List D).length ≤ ([dI q0.1, d8 0, .str []] : List D).length ∧ ([[dI q0.1, d8 v5, .str []]] : List (List D)) = ([[dI q0.1, d8 v5, .str []]] : List (List D))), True ∧ (IntKind.wrap .i64 (q0.2 + (1 : Int)) = v6)]) (by kernel_rfl) ⟨⟨trivial, e6⟩, ⟨trivial, ⟨Nat.zero_le _, Nat.le_of_ble_eq_true rfl, rfl⟩⟩, ⟨trivial, someE e7⟩, trivial⟩ ?_
    refine EvOk.cond (fun h5 => ?_) (fun h5 => ?_)
    · replace h := iteT h5 h
      refine At.gc [0, 1, 4, 6] [(4, 4), (6, 6)] (n := 70) (l := [(0, .str x0), (1, dI v6), (4, .lptr 4 0 0), (6, .lptr 6 0 0)]) (bl := [(4, { sz := 3, rows := [[dI 0, d8 0, .str []]], frz := 0, pure := false }), (6, { sz := 3, rows := [[dI q0.1, d8 v5, .str []]], frz := 0, pure := false })]) (by kernel_rfl) ?_
      refine At.adv [] [(10, { keep := some ([0, 1, 4, 6, 7], [(4, 4), (6, 6)]) })] 400 (ev := .loop c76x23 [.blk 2, .seq c76x34, .seq c76x29]) (σ' := mkS 70 [(0, .str x0), (1, dI v6), (4, .lptr 4 0 0), (6, .lptr 6 0 0), (7, dI v6)] [(4, { sz := 3, rows := [[dI 0, d8 0, .str []]], frz := 0, pure := false }), (6, { sz := 3, rows := [[dI q0.1, d8 v5, .str []]], frz := 0, pure := false })]) (q := []) (by kernel_rfl) trivial ?_
      refine EvOk.loop ?_
      obtain ⟨q2, e12, h⟩ := bindE h
      refine At.loop (l76x2 x0) (st76x2 q0 v5 v6 x0) (J76x2 q0 v5 v6 x0) v6 e12 (by kernel_rfl) (fun t x hx => (wl76x2 q0 v5 v6 x0) t x hx Γ) ?_
      intro e σ' hJ
      obtain ⟨rfl, rfl⟩ := hJ
      refine At.exitK (K' := [.seq c76x34, .seq c76x29]) (by kernel_rfl) ?_
      refine At.advN [] [(13, { keep := some ([0, 1, 4, 6, 7, 55], [(4, 4), (6, 6)]) })] 400 (ev := .cond (decide (q2 ≥ (x0.length : Int))) c76x37 c76x38 [.seq c76x39, .seq c76x29]) (σ' := mkS 70 [(0, .str x0), (1, dI q2), (4, .lptr 4 0 0), (6, .lptr 6 0 0), (7, dI v6), (55, .bool (decide (q2 ≥ (x0.length : Int))))] [(4, { sz := 3, rows := [[dI 0, d8 0, .str []]], frz := 0, pure := false }), (6, { sz := 3, rows := [[dI q0.1, d8 v5, .str []]], frz := 0, pure := false })]) (q := []) (by kernel_rfl) trivial ?_
      refine EvOk.cond (fun h10 => ?_) (fun h10 => ?_)
      · replace h := iteT h10 h
        refine At.gc [4] [(4, 4)] (n := 70) (l := [(4, .lptr 4 0 0)]) (bl := [(4, { sz := 3, rows := [[dI 0, d8 0, .str []]], frz := 0, pure := false })]) (by kernel_rfl) ?_
        refine At.adv [] [(14, { keep := some ([4, 5], [(4, 4)]) })] 400 (ev := .ret) (σ' := mkS 70 [(4, .lptr 4 0 0), (5, dI (-1))] [(4, { sz := 3, rows := [[dI 0, d8 0, .str []]], frz := 0, pure := false })]) (q := [True ∧ (0 ≤ 0 ∧ 0 + ([dI 0, d8 0, .str []] : List D).length ≤ ([dI 0, d8 0, .str []] : List D).length ∧ ([[dI 0, d8 0, .str []]] : List (List D)) = ([[dI 0, d8 0, .str []]] : List (List D)))]) (by kernel_rfl) ⟨⟨trivial, ⟨Nat.zero_le _, Nat.le_of_ble_eq_true rfl, rfl⟩⟩, trivial⟩ ?_
        refine EvOk.ret ?_
        obtain rfl := someE h
        exact Den.Ends.mk (.inl rfl) (d := .tup [.agg [dI 0, d8 0, .str []], dI (-1)]) (p := (True ∧ (True ∧ True)) ∧ ((tN 3) ∧ (True ∧ True))) (by kernel_rfl) ⟨⟨trivial, ⟨trivial, trivial⟩⟩, ⟨tNi 3, ⟨trivial, trivial⟩⟩⟩ (by kernel_rfl)
      · replace h := iteF h10 h
        refine At.gc [0, 1, 4, 6, 7] [(4, 4), (6, 6)] (n := 70) (l := [(0, .str x0), (1, dI q2), (4, .lptr 4 0 0), (6, .lptr 6 0 0), (7, dI v6)]) (bl := [(4, { sz := 3, rows := [[dI 0, d8 0, .str []]], frz := 0, pure := false }), (6, { sz := 3, rows := [[dI q0.1, d8 v5, .str []]], frz := 0, pure := false })]) (by kernel_rfl) ?_
        obtain ⟨v11, e13, h⟩ := bindE h
        obtain ⟨v12, e14, h⟩ := bindE h
        refine At.adv [17] [(15, { told := [(3, aS v11)], keep := some ([1, 4, 6], [(4, 4), (6, 6)]) }), (16, { told := [(1, aI v12)], keep := some ([1, 4, 6], [(4, 4), (6, 6)]) })] 400 (ev := .stop c76x31 [.seq c76x32, .seq c76x33]) (σ' := mkS 70 [(1, dI v12), (4, .lptr 4 0 0), (6, .lptr 6 0 0)] [(4, { sz := 3, rows := [[dI 0, d8 0, .str []]], frz := 0, pure := false }), (6, { sz := 3, rows := [[dI q0.1, d8 v5, .str v11]], frz := 0, pure := false })]) (q := [True ∧ (sub x0 v6 q2 = some v11), True ∧ (0 ≤ 0 ∧ 2 + ([.str v11] : List D).length ≤ ([dI q0.1, d8 v5, .str []] : List D).length ∧ ([[dI q0.1, d8 v5, .str v11]] : List (List D)) = ([[dI q0.1, d8 v5, .str v11]] : List (List D))), True ∧ (IntKind.wrap .i64 (q2 + (1 : Int)) = v12)]) (by kernel_rfl) ⟨⟨trivial, e13⟩, ⟨trivial, ⟨Nat.zero_le _, Nat.le_of_ble_eq_true rfl, rfl⟩⟩, ⟨trivial, someE e14⟩, trivial⟩ ?_
        exact (wj76x2 q0 v5) v11 v12 r h Γ
    · replace h := iteF h5 h
      refine At.gc [1, 4, 6] [(4, 4), (6, 6)] (n := 70) (l := [(1, dI v6), (4, .lptr 4 0 0), (6, .lptr 6 0 0)]) (bl := [(4, { sz := 3, rows := [[dI 0, d8 0, .str []]], frz := 0, pure := false }), (6, { sz := 3, rows := [[dI q0.1, d8 v5, .str []]], frz := 0, pure := false })]) (by kernel_rfl) ?_
      refine At.adv [17] [] 400 (ev := .stop c76x31 [.seq c76x32, .seq c76x33]) (σ' := mkS 70 [(1, dI v6), (4, .lptr 4 0 0), (6, .lptr 6 0 0)] [(4, { sz := 3, rows := [[dI 0, d8 0, .str []]], frz := 0, pure := false }), (6, { sz := 3, rows := [[dI q0.1, d8 v5, .str []]], frz := 0, pure := false })]) (q := []) (by kernel_rfl) trivial ?_
      exact (wj76x2 q0 v5) [] v6 r h Γ
theorem w76 {x0 : List UInt8} {x1 : Int} {r : T_api_Type × Int} (h : m_armatureref04_take x0 x1 = some r) : CallSpec Try.prog 76 [.str x0, .int .i64 x1] (.tup [.agg (row_T_api_Type r.1), .int .i64 r.2]) :=
  CallSpec.at2 b76 (n := 70) (l := [(0, .str x0), (1, .int .i64 x1)]) (by kernel_rfl) (by kernel_rfl) (by kernel_rfl) (by kernel_rfl) (by kernel_rfl) (Nat.le_of_ble_eq_true (by kernel_rfl)) (fun Γ => we76 x0 x1 r h Γ)

/-! ### armature armatureref04.Parse -/
noncomputable def b69 : Code := Try.f69.body.getD .skip
noncomputable def c69x0 : Code := sub1 b69
noncomputable def c69x1 : Code := sub1 c69x0
noncomputable def c69x2 : Code := sub0 c69x1
noncomputable def c69x3 : Code := sub1 c69x2
noncomputable def c69x4 : Code := sub0 c69x3
noncomputable def c69x5 : Code := sub1 c69x3
noncomputable def c69x6 : Code := sub1 c69x1
def m_armatureref04_Parse (x0 : List UInt8) : Option (T_api_Type × Int) :=
  (m_armatureref04_take x0 0).bind fun v0 =>
  if (v0.2 != (x0.length : Int)) = true then
    (some (({ f_Dim := 0, f_Base := 0, f_Name := [] } : T_api_Type), 13)) else
  (some (v0.1, 0))
theorem we69 (x0 : List UInt8) (r : T_api_Type × Int) (h : m_armatureref04_Parse x0 = some r) (Γ : Ctx) : At Try.prog Γ b69 [] (Den.Ends Try.prog Try.f69 (.tup [.agg (row_T_api_Type r.1), dI r.2])) (mkS 17 [(0, .str x0)] []) := by
  obtain ⟨v0, e0, h⟩ := bindE h
  refine At.adv [] [(0, { keep := some ([0, 2], [(2, 2)]) }), (1, { told := [(1, { ans := .val (.tup [.agg (row_T_api_Type v0.1), dI v0.2]) })], keep := some ([0, 2, 4, 5], [(2, 2), (4, 4)]) }), (2, { keep := some ([2, 4, 14], [(2, 2), (4, 4)]) })] 400 (ev := .cond (v0.2 != (x0.length : Int)) c69x4 c69x5 [.seq c69x6]) (σ' := mkS 17 [(2, .lptr 2 0 0), (4, .lptr 4 0 0), (14, .bool (v0.2 != (x0.length : Int)))] [(2, { sz := 3, rows := [[dI 0, d8 0, .str []]], frz := 0, pure := false }), (4, { sz := 3, rows := [row_T_api_Type v0.1], frz := 0, pure := false })]) (q := [True ∧ (cq Try.prog (tN 2) 76 [.str x0, dI 0] (.tup [.agg (row_T_api_Type v0.1), dI v0.2])), True ∧ (0 ≤ 0 ∧ 0 + ([dI v0.1.f_Dim, d8 v0.1.f_Base, .str v0.1.f_Name] : List D).length ≤ ([dI 0, d8 0, .str []] : List D).length ∧ ([[dI v0.1.f_Dim, d8 v0.1.f_Base, .str v0.1.f_Name]] : List (List D)) = ([[dI v0.1.f_Dim, d8 v0.1.f_Base, .str v0.1.f_Name]] : List (List D)))]) (by kernel_rfl) ⟨⟨trivial, cqi (tNi 2) (w76 e0)⟩, ⟨trivial, ⟨Nat.zero_le _, Nat.le_of_ble_eq_true rfl, rfl⟩⟩, trivial⟩ ?_
  refine EvOk.cond (fun h0 => ?_) (fun h0 => ?_)
  · replace h := iteT h0 h
    refine At.gc [2] [(2, 2)] (n := 17) (l := [(2, .lptr 2 0 0)]) (bl := [(2, { sz := 3, rows := [[dI 0, d8 0, .str []]], frz := 0, pure := false })]) (by kernel_rfl) ?_
    refine At.adv [] [(3, { keep := some ([2, 3], [(2, 2)]) })] 400 (ev := .ret) (σ' := mkS 17 [(2, .lptr 2 0 0), (3, dI 13)] [(2, { sz := 3, rows := [[dI 0, d8 0, .str []]], frz := 0, pure := false })]) (q := [True ∧ (0 ≤ 0 ∧ 0 + ([dI 0, d8 0, .str []] : List D).length ≤ ([dI 0, d8 0, .str []] : List D).length ∧ ([[dI 0, d8 0, .str []]] : List (List D)) = ([[dI 0, d8 0, .str []]] : List (List D)))]) (by kernel_rfl) ⟨⟨trivial, ⟨Nat.zero_le _, Nat.le_of_ble_eq_true rfl, rfl⟩⟩, trivial⟩ ?_
    refine EvOk.ret ?_
    obtain rfl := someE h
    exact Den.Ends.mk (.inl rfl) (d := .tup [.agg [dI 0, d8 0, .str []], dI 13]) (p := (True ∧ (True ∧ True)) ∧ ((tN 3) ∧ (True ∧ True))) (by kernel_rfl) ⟨⟨trivial, ⟨trivial, trivial⟩⟩, ⟨tNi 3, ⟨trivial, trivial⟩⟩⟩ (by kernel_rfl)
  · replace h := iteF h0 h
    refine At.gc [2, 4] [(2, 2), (4, 4)] (n := 17) (l := [(2, .lptr 2 0 0), (4, .lptr 4 0 0)]) (bl := [(2, { sz := 3, rows := [[dI 0, d8 0, .str []]], frz := 0, pure := false }), (4, { sz := 3, rows := [row_T_api_Type v0.1], frz := 0, pure := false })]) (by kernel_rfl) ?_
    refine At.adv [] [(4, { keep := some ([2, 3], [(2, 2)]) })] 400 (ev := .ret) (σ' := mkS 17 [(2, .lptr 2 0 0), (3, dI 0)] [(2, { sz := 3, rows := [row_T_api_Type v0.1], frz := 0, pure := false })]) (q := [True ∧ (0 ≤ 0 ∧ 0 + ([dI v0.1.f_Dim, d8 v0.1.f_Base, .str v0.1.f_Name] : List D).length ≤ ([dI 0, d8 0, .str []] : List D).length ∧ ([[dI v0.1.f_Dim, d8 v0.1.f_Base, .str v0.1.f_Name]] : List (List D)) = ([[dI v0.1.f_Dim, d8 v0.1.f_Base, .str v0.1.f_Name]] : List (List D)))]) (by kernel_rfl) ⟨⟨trivial, ⟨Nat.zero_le _, Nat.le_of_ble_eq_true rfl, rfl⟩⟩, trivial⟩ ?_
    refine EvOk.ret ?_
    obtain rfl := someE h
    exact Den.Ends.mk (.inl rfl) (d := .tup [.agg [dI v0.1.f_Dim, d8 v0.1.f_Base, .str v0.1.f_Name], dI 0]) (p := (True ∧ (True ∧ True)) ∧ ((tN 3) ∧ (True ∧ True))) (by kernel_rfl) ⟨⟨trivial, ⟨trivial, trivial⟩⟩, ⟨tNi 3, ⟨trivial, trivial⟩⟩⟩ (by kernel_rfl)
theorem w69 {x0 : List UInt8} {r : T_api_Type × Int} (h : m_armatureref04_Parse x0 = some r) : CallSpec Try.prog 69 [.str x0] (.tup [.agg (row_T_api_Type r.1), .int .i64 r.2]) :=
  CallSpec.at2 b69 (n := 17) (l := [(0, .str x0)]) (by kernel_rfl) (by kernel_rfl) (by kernel_rfl) (by kernel_rfl) (by kernel_rfl) (Nat.le_of_ble_eq_true (by kernel_rfl)) (fun Γ => we69 x0 r h Γ)

/-! ### armature armatureref04.ParseClassConstant -/
noncomputable def b60 : Code := Try.f60.body.getD .skip
noncomputable def c60x0 : Code := sub1 b60
noncomputable def c60x1 : Code := sub1 c60x0
noncomputable def c60x2 : Code := sub0 c60x1
noncomputable def c60x3 : Code := sub1 c60x2
noncomputable def c60x4 : Code := sub0 c60x3
noncomputable def c60x5 : Code := sub1 c60x3
noncomputable def c60x6 : Code := sub1 c60x1
noncomputable def c60x7 : Code := sub0 c60x6
noncomputable def c60x8 : Code := sub1 c60x6
noncomputable def c60x9 : Code := sub0 c60x0
noncomputable def c60x10 : Code := sub1 c60x9
noncomputable def c60x11 : Code := sub0 c60x10
noncomputable def c60x12 : Code := sub1 c60x10
def j60x1 (x0 : List UInt8) : Option (T_api_Type × Int) :=
  (m_armatureref04_Parse x0).bind fun v2 =>
  some (v2.1, v2.2)
def m_armatureref04_ParseClassConstant (x0 : List UInt8) : Option (T_api_Type × Int) :=
  (m_armatureref03_IsClassName x0).bind fun v0 =>
  if v0 = true then
    (some (({ f_Dim := 0, f_Base := 76, f_Name := x0 } : T_api_Type), 0)) else
  (if (x0 == ([] : List UInt8)) = true then (some (({ f_Dim := 0, f_Base := 0, f_Name := [] } : T_api_Type), 13)) else
    ((getS x0 0).bind fun v1 =>
    if (v1 != 91) = true then
      (some (({ f_Dim := 0, f_Base := 0, f_Name := [] } : T_api_Type), 13)) else
    ((j60x1 x0) )))
theorem wj60x1 (x0 : List UInt8) (r : T_api_Type × Int) (h : (j60x1 x0)  = some r) (Γ : Ctx) : EvOk Try.prog Γ (Den.Ends Try.prog Try.f60 (.tup [.agg (row_T_api_Type r.1), dI r.2])) (mkS 20 [(0, .str x0), (2, .lptr 2 0 0)] [(2, { sz := 3, rows := [[dI 0, d8 0, .str []]], frz := 0, pure := false })]) (.stop c60x7 [.seq c60x8]) := by
  refine EvOk.stop ?_
  obtain ⟨v2, e2, h⟩ := bindE h
  refine At.adv [] [(5, { told := [(1, { ans := .val (.tup [.agg (row_T_api_Type v2.1), dI v2.2]) })], keep := some ([2, 3], [(2, 2)]) })] 400 (ev := .ret) (σ' := mkS 20 [(2, .lptr 2 0 0), (3, dI v2.2)] [(2, { sz := 3, rows := [row_T_api_Type v2.1], frz := 0, pure := false })]) (q := [True ∧ (cq Try.prog (tN 1) 69 [.str x0] (.tup [.agg (row_T_api_Type v2.1), dI v2.2])), True ∧ (0 ≤ 0 ∧ 0 + ([dI v2.1.f_Dim, d8 v2.1.f_Base, .str v2.1.f_Name] : List D).length ≤ ([dI 0, d8 0, .str []] : List D).length ∧ ([[dI v2.1.f_Dim, d8 v2.1.f_Base, .str v2.1.f_Name]] : List (List D)) = ([[dI v2.1.f_Dim, d8 v2.1.f_Base, .str v2.1.f_Name]] : List (List D)))]) (by kernel_rfl) ⟨⟨trivial, cqi (tNi 1) (w69 e2)⟩, ⟨trivial, ⟨Nat.zero_le _, Nat.le_of_ble_eq_true rfl, rfl⟩⟩, trivial⟩ ?_
  refine EvOk.ret ?_
  obtain rfl := someE h
  exact Den.Ends.mk (.inl rfl) (d := .tup [.agg [dI v2.1.f_Dim, d8 v2.1.f_Base, .str v2.1.f_Name], dI v2.2]) (p := (True ∧ (True ∧ True)) ∧ ((tN 3) ∧ (True ∧ True))) (by kernel_rfl) ⟨⟨trivial, ⟨trivial, trivial⟩⟩, ⟨tNi 3, ⟨trivial, trivial⟩⟩⟩ (by kernel_rfl)
theorem we60 (x0 : List UInt8) (r : T_api_Type × Int) (h : m_armatureref04_ParseClassConstant x0 = some r) (Γ : Ctx) : At Try.prog Γ b60 [] (Den.Ends Try.prog Try.f60 (.tup [.agg (row_T_api_Type r.1), dI r.2])) (mkS 20 [(0, .str x0)] []) := by
  obtain ⟨v0, e0, h⟩ := bindE h
  refine At.adv [] [(0, { keep := some ([0, 2], [(2, 2)]) }), (1, { told := [(1, aB v0)], keep := some ([0, 2, 5], [(2, 2)]) })] 400 (ev := .cond v0 c60x11 c60x12 [.seq c60x1]) (σ' := mkS 20 [(0, .str x0), (2, .lptr 2 0 0), (5, .bool v0)] [(2, { sz := 3, rows := [[dI 0, d8 0, .str []]], frz := 0, pure := false })]) (q := [True ∧ (cq Try.prog (tN 1) 68 [.str x0] (.bool v0))]) (by kernel_rfl) ⟨⟨trivial, cqi (tNi 1) (w68 e0)⟩, trivial⟩ ?_
  refine EvOk.cond (fun h0 => ?_) (fun h0 => ?_)
  · replace h := iteT h0 h
    refine At.gc [0, 2] [(2, 2)] (n := 20) (l := [(0, .str x0), (2, .lptr 2 0 0)]) (bl := [(2, { sz := 3, rows := [[dI 0, d8 0, .str []]], frz := 0, pure := false })]) (by kernel_rfl) ?_
    refine At.adv [] [(2, { keep := some ([2, 3], [(2, 2)]) })] 400 (ev := .ret) (σ' := mkS 20 [(2, .lptr 2 0 0), (3, dI 0)] [(2, { sz := 3, rows := [[dI 0, d8 76, .str x0]], frz := 0, pure := false })]) (q := [True ∧ (0 ≤ 0 ∧ 0 + ([dI 0, d8 76, .str x0] : List D).length ≤ ([dI 0, d8 0, .str []] : List D).length ∧ ([[dI 0, d8 76, .str x0]] : List (List D)) = ([[dI 0, d8 76, .str x0]] : List (List D)))]) (by kernel_rfl) ⟨⟨trivial, ⟨Nat.zero_le _, Nat.le_of_ble_eq_true rfl, rfl⟩⟩, trivial⟩ ?_
    refine EvOk.ret ?_
    obtain rfl := someE h
    exact Den.Ends.mk (.inl rfl) (d := .tup [.agg [dI 0, d8 76, .str x0], dI 0]) (p := (True ∧ (True ∧ True)) ∧ ((tN 3) ∧ (True ∧ True))) (by kernel_rfl) ⟨⟨trivial, ⟨trivial, trivial⟩⟩, ⟨tNi 3, ⟨trivial, trivial⟩⟩⟩ (by kernel_rfl)
  · replace h := iteF h0 h
    refine At.gc [0, 2] [(2, 2)] (n := 20) (l := [(0, .str x0), (2, .lptr 2 0 0)]) (bl := [(2, { sz := 3, rows := [[dI 0, d8 0, .str []]], frz := 0, pure := false })]) (by kernel_rfl) ?_
    rcases Bool.eq_false_or_eq_true (x0 == ([] : List UInt8)) with h1 | h1
    · replace h := iteT h1 h
      refine At.adv [] [(3, { told := [(1, aB true)], keep := some ([0, 2, 14], [(2, 2)]) })] 400 (ev := .cond true c60x4 c60x5 [.seq c60x6]) (σ' := mkS 20 [(0, .str x0), (2, .lptr 2 0 0), (14, .bool true)] [(2, { sz := 3, rows := [[dI 0, d8 0, .str []]], frz := 0, pure := false })]) (q := [True ∧ ((x0 == ([] : List UInt8)) = true), True, True, True]) (by kernel_rfl) ⟨⟨trivial, h1⟩, trivial, trivial, trivial, trivial⟩ ?_
      refine EvOk.cond (fun _ => ?_) (fun hb => Bool.noConfusion hb)
      refine At.gc [2] [(2, 2)] (n := 20) (l := [(2, .lptr 2 0 0)]) (bl := [(2, { sz := 3, rows := [[dI 0, d8 0, .str []]], frz := 0, pure := false })]) (by kernel_rfl) ?_
      refine At.adv [] [(4, { keep := some ([2, 3], [(2, 2)]) })] 400 (ev := .ret) (σ' := mkS 20 [(2, .lptr 2 0 0), (3, dI 13)] [(2, { sz := 3, rows := [[dI 0, d8 0, .str []]], frz := 0, pure := false })]) (q := [True ∧ (0 ≤ 0 ∧ 0 + ([dI 0, d8 0, .str []] : List D).length ≤ ([dI 0, d8 0, .str []] : List D).length ∧ ([[dI 0, d8 0, .str []]] : List (List D)) = ([[dI 0, d8 0, .str []]] : List (List D)))]) (by kernel_rfl) ⟨⟨trivial, ⟨Nat.zero_le _, Nat.le_of_ble_eq_true rfl, rfl⟩⟩, trivial⟩ ?_
      refine EvOk.ret ?_
      obtain rfl := someE h
      exact Den.Ends.mk (.inl rfl) (d := .tup [.agg [dI 0, d8 0, .str []], dI 13]) (p := (True ∧ (True ∧ True)) ∧ ((tN 3) ∧ (True ∧ True))) (by kernel_rfl) ⟨⟨trivial, ⟨trivial, trivial⟩⟩, ⟨tNi 3, ⟨trivial, trivial⟩⟩⟩ (by kernel_rfl)
    · replace h := iteF h1 h
      obtain ⟨v1, e1, h⟩ := bindE h
      refine At.adv [] [(3, { told := [(1, aB false), (4, a8 v1)], keep := some ([0, 2, 14], [(2, 2)]) })] 400 (ev := .cond (v1 != 91) c60x4 c60x5 [.seq c60x6]) (σ' := mkS 20 [(0, .str x0), (2, .lptr 2 0 0), (14, .bool (v1 != 91))] [(2, { sz := 3, rows := [[dI 0, d8 0, .str []]], frz := 0, pure := false })]) (q := [True ∧ ((x0 == ([] : List UInt8)) = false), True ∧ True, True ∧ (getS x0 0 = some v1), True ∧ True]) (by kernel_rfl) ⟨⟨trivial, h1⟩, ⟨trivial, trivial⟩, ⟨trivial, e1⟩, ⟨trivial, trivial⟩, trivial⟩ ?_
      refine EvOk.cond (fun h2 => ?_) (fun h2 => ?_)
      · replace h := iteT h2 h
        refine At.gc [2] [(2, 2)] (n := 20) (l := [(2, .lptr 2 0 0)]) (bl := [(2, { sz := 3, rows := [[dI 0, d8 0, .str []]], frz := 0, pure := false })]) (by kernel_rfl) ?_
        refine At.adv [] [(4, { keep := some ([2, 3], [(2, 2)]) })] 400 (ev := .ret) (σ' := mkS 20 [(2, .lptr 2 0 0), (3, dI 13)] [(2, { sz := 3, rows := [[dI 0, d8 0, .str []]], frz := 0, pure := false })]) (q := [True ∧ (0 ≤ 0 ∧ 0 + ([dI 0, d8 0, .str []] : List D).length ≤ ([dI 0, d8 0, .str []] : List D).length ∧ ([[dI 0, d8 0, .str []]] : List (List D)) = ([[dI 0, d8 0, .str []]] : List (List D)))]) (by kernel_rfl) ⟨⟨trivial, ⟨Nat.zero_le _, Nat.le_of_ble_eq_true rfl, rfl⟩⟩, trivial⟩ ?_
        refine EvOk.ret ?_
        obtain rfl := someE h
        exact Den.Ends.mk (.inl rfl) (d := .tup [.agg [dI 0, d8 0, .str []], dI 13]) (p := (True ∧ (True ∧ True)) ∧ ((tN 3) ∧ (True ∧ True))) (by kernel_rfl) ⟨⟨trivial, ⟨trivial, trivial⟩⟩, ⟨tNi 3, ⟨trivial, trivial⟩⟩⟩ (by kernel_rfl)
      · replace h := iteF h2 h
        refine At.gc [0, 2] [(2, 2)] (n := 20) (l := [(0, .str x0), (2, .lptr 2 0 0)]) (bl := [(2, { sz := 3, rows := [[dI 0, d8 0, .str []]], frz := 0, pure := false })]) (by kernel_rfl) ?_
        refine At.adv [5] [] 400 (ev := .stop c60x7 [.seq c60x8]) (σ' := mkS 20 [(0, .str x0), (2, .lptr 2 0 0)] [(2, { sz := 3, rows := [[dI 0, d8 0, .str []]], frz := 0, pure := false })]) (q := []) (by kernel_rfl) trivial ?_
        exact (wj60x1 x0)  r h Γ
theorem w60 {x0 : List UInt8} {r : T_api_Type × Int} (h : m_armatureref04_ParseClassConstant x0 = some r) : CallSpec Try.prog 60 [.str x0] (.tup [.agg (row_T_api_Type r.1), .int .i64 r.2]) :=
  CallSpec.at2 b60 (n := 20) (l := [(0, .str x0)]) (by kernel_rfl) (by kernel_rfl) (by kernel_rfl) (by kernel_rfl) (by kernel_rfl) (Nat.le_of_ble_eq_true (by kernel_rfl)) (fun Γ => we60 x0 r h Γ)

/-! ### armature armatureref03.IsMemberName -/
noncomputable def b61 : Code := Try.f61.body.getD .skip
noncomputable def c61x0 : Code := sub1 b61
noncomputable def c61x1 : Code := sub0 c61x0
noncomputable def c61x2 : Code := sub1 c61x0
def m_armatureref03_IsMemberName (x0 : List UInt8) : Option (Bool) :=
  if (x0 == ([60, 105, 110, 105, 116, 62] : List UInt8)) = true then (some true) else
  (if (x0 == ([60, 99, 108, 105, 110, 105, 116, 62] : List UInt8)) = true then (some true) else
    (if (decide ((x0.length : Int) ≤ 64)) = true then ((m_armatureref03_part x0).bind fun v0 =>
        some v0) else
      (some false)))
theorem we61 (x0 : List UInt8) (r : Bool) (h : m_armatureref03_IsMemberName x0 = some r) (Γ : Ctx) : At Try.prog Γ b61 [] (Den.Ends Try.prog Try.f61 (.bool r)) (mkS 18 [(0, .str x0)] []) := by
  refine At.adv [1] [(0, { keep := some ([0], []) })] 400 (ev := .stop c61x1 [.seq c61x2]) (σ' := mkS 18 [(0, .str x0)] []) (q := []) (by kernel_rfl) trivial ?_
  refine EvOk.stop (At.ops (l := iv 0 16) (by kernel_rfl) (by kernel_rfl) ?_)
  refine AtOps.run (iv 0 3) (iv 3 13) [] [] [0, 5] [] (n := 18) (sl := [(0, .str x0), (5, .bool (x0 == ([60, 105, 110, 105, 116, 62] : List UInt8)))]) (bl := []) (q := []) (by kernel_rfl) (by kernel_rfl) trivial ?_
  rcases Bool.eq_false_or_eq_true (x0 == ([60, 105, 110, 105, 116, 62] : List UInt8)) with h0 | h0
  · replace h := iteT h0 h
    refine AtOps.run (iv 3 13) (iv 16 0) [(5, aT)] [(3, false), (4, false)] [2] [] (n := 18) (sl := [(2, .bool true)]) (bl := []) (q := [((x0 == ([60, 105, 110, 105, 116, 62] : List UInt8)) == false) = false, ((x0 == ([60, 105, 110, 105, 116, 62] : List UInt8)) == false) = false, True ∧ ((x0 == ([60, 105, 110, 105, 116, 62] : List UInt8)) = true), True, True, True, True, True, True, True]) (by kernel_rfl) (by kernel_rfl) ⟨gB h0 rfl, gB h0 rfl, ⟨trivial, h0⟩, trivial, trivial, trivial, trivial, trivial, trivial, trivial, trivial⟩ ?_
    refine AtOps.done ?_
    refine At.advN [] [] 400 (ev := .ret) (σ' := mkS 18 [(2, .bool true)] []) (q := []) (by kernel_rfl) trivial ?_
    refine EvOk.ret ?_
    obtain rfl := someE h
    exact Den.Ends.mk (.inl rfl) (d := .bool true) (p := (True ∧ True) ∧ (tN 1)) (by kernel_rfl) ⟨⟨trivial, trivial⟩, tNi 1⟩ (by kernel_rfl)
  · replace h := iteF h0 h
    refine AtOps.run (iv 3 4) (iv 7 9) [(5, aF)] [(3, true), (4, true)] [0, 9] [] (n := 18) (sl := [(0, .str x0), (9, .bool (x0 == ([60, 99, 108, 105, 110, 105, 116, 62] : List UInt8)))]) (bl := []) (q := [((x0 == ([60, 105, 110, 105, 116, 62] : List UInt8)) == false) = true ∧ True, ((x0 == ([60, 105, 110, 105, 116, 62] : List UInt8)) == false) = true ∧ True, True ∧ ((x0 == ([60, 105, 110, 105, 116, 62] : List UInt8)) = false)]) (by kernel_rfl) (by kernel_rfl) ⟨⟨(gB h0 rfl), trivial⟩, ⟨(gB h0 rfl), trivial⟩, ⟨trivial, h0⟩, trivial⟩ ?_
    rcases Bool.eq_false_or_eq_true (x0 == ([60, 99, 108, 105, 110, 105, 116, 62] : List UInt8)) with h1 | h1
    · replace h := iteT h1 h
      refine AtOps.run (iv 7 9) (iv 16 0) [(14, aT)] [(7, false), (8, false), (9, false), (10, false), (13, false)] [2] [] (n := 18) (sl := [(2, .bool true)]) (bl := []) (q := [((x0 == ([60, 99, 108, 105, 110, 105, 116, 62] : List UInt8)) == false) = false, ((x0 == ([60, 99, 108, 105, 110, 105, 116, 62] : List UInt8)) == false) = false, ((x0 == ([60, 99, 108, 105, 110, 105, 116, 62] : List UInt8)) == false) = false, ((x0 == ([60, 99, 108, 105, 110, 105, 116, 62] : List UInt8)) == false) = false, True, True, ((x0 == ([60, 99, 108, 105, 110, 105, 116, 62] : List UInt8)) == false) = false, True ∧ ((x0 == ([60, 99, 108, 105, 110, 105, 116, 62] : List UInt8)) = true)]) (by kernel_rfl) (by kernel_rfl) ⟨gB h1 rfl, gB h1 rfl, gB h1 rfl, gB h1 rfl, trivial, trivial, gB h1 rfl, ⟨trivial, h1⟩, trivial⟩ ?_
      refine AtOps.done ?_
      refine At.advN [] [] 400 (ev := .ret) (σ' := mkS 18 [(2, .bool true)] []) (q := []) (by kernel_rfl) trivial ?_
      refine EvOk.ret ?_
      obtain rfl := someE h
      exact Den.Ends.mk (.inl rfl) (d := .bool true) (p := (True ∧ True) ∧ (tN 1)) (by kernel_rfl) ⟨⟨trivial, trivial⟩, tNi 1⟩ (by kernel_rfl)
    · replace h := iteF h1 h
      refine AtOps.run (iv 7 4) (iv 11 5) [] [(7, true), (8, true), (9, true), (10, true)] [0, 9, 13] [] (n := 18) (sl := [(0, .str x0), (9, .bool (x0 == ([60, 99, 108, 105, 110, 105, 116, 62] : List UInt8))), (13, .bool (decide ((x0.length : Int) ≤ 64)))]) (bl := []) (q := [((x0 == ([60, 99, 108, 105, 110, 105, 116, 62] : List UInt8)) == false) = true ∧ True, ((x0 == ([60, 99, 108, 105, 110, 105, 116, 62] : List UInt8)) == false) = true ∧ True, ((x0 == ([60, 99, 108, 105, 110, 105, 116, 62] : List UInt8)) == false) = true ∧ True, ((x0 == ([60, 99, 108, 105, 110, 105, 116, 62] : List UInt8)) == false) = true ∧ True]) (by kernel_rfl) (by kernel_rfl) ⟨⟨(gB h1 rfl), trivial⟩, ⟨(gB h1 rfl), trivial⟩, ⟨(gB h1 rfl), trivial⟩, ⟨(gB h1 rfl), trivial⟩, trivial⟩ ?_
      rcases Bool.eq_false_or_eq_true (decide ((x0.length : Int) ≤ 64)) with h2 | h2
      · replace h := iteT h2 h
        obtain ⟨v0, e0, h⟩ := bindE h
        refine AtOps.run (iv 11 5) (iv 16 0) [(12, aB v0), (13, aT), (14, aF)] [(11, true), (12, true), (13, true)] [2] [] (n := 18) (sl := [(2, .bool v0)]) (bl := []) (q := [((decide ((x0.length : Int) ≤ 64)) == true) = true ∧ True, ((decide ((x0.length : Int) ≤ 64)) == true) = true ∧ (cq Try.prog (tN 1) 70 [.str x0] (.bool v0)), ((x0 == ([60, 99, 108, 105, 110, 105, 116, 62] : List UInt8)) == false) = true ∧ ((decide ((x0.length : Int) ≤ 64)) = true), True ∧ ((x0 == ([60, 99, 108, 105, 110, 105, 116, 62] : List UInt8)) = false)]) (by kernel_rfl) (by kernel_rfl) ⟨⟨(gB h2 rfl), trivial⟩, ⟨(gB h2 rfl), cqi (tNi 1) (w70 e0)⟩, ⟨(gB h1 rfl), h2⟩, ⟨trivial, h1⟩, trivial⟩ ?_
        refine AtOps.done ?_
        refine At.advN [] [] 400 (ev := .ret) (σ' := mkS 18 [(2, .bool v0)] []) (q := []) (by kernel_rfl) trivial ?_
        refine EvOk.ret ?_
        obtain rfl := someE h
        exact Den.Ends.mk (.inl rfl) (d := .bool v0) (p := (True ∧ True) ∧ (tN 1)) (by kernel_rfl) ⟨⟨trivial, trivial⟩, tNi 1⟩ (by kernel_rfl)
      · replace h := iteF h2 h
        refine AtOps.run (iv 11 5) (iv 16 0) [(13, aF), (14, aF)] [(11, false), (12, false), (13, true)] [2] [] (n := 18) (sl := [(2, .bool false)]) (bl := []) (q := [((decide ((x0.length : Int) ≤ 64)) == true) = false, ((decide ((x0.length : Int) ≤ 64)) == true) = false, ((x0 == ([60, 99, 108, 105, 110, 105, 116, 62] : List UInt8)) == false) = true ∧ ((decide ((x0.length : Int) ≤ 64)) = false), True ∧ ((x0 == ([60, 99, 108, 105, 110, 105, 116, 62] : List UInt8)) = false)]) (by kernel_rfl) (by kernel_rfl) ⟨gB h2 rfl, gB h2 rfl, ⟨(gB h1 rfl), h2⟩, ⟨trivial, h1⟩, trivial⟩ ?_
        refine AtOps.done ?_
        refine At.advN [] [] 400 (ev := .ret) (σ' := mkS 18 [(2, .bool false)] []) (q := []) (by kernel_rfl) trivial ?_
        refine EvOk.ret ?_
        obtain rfl := someE h
        exact Den.Ends.mk (.inl rfl) (d := .bool false) (p := (True ∧ True) ∧ (tN 1)) (by kernel_rfl) ⟨⟨trivial, trivial⟩, tNi 1⟩ (by kernel_rfl)
theorem w61 {x0 : List UInt8} {r : Bool} (h : m_armatureref03_IsMemberName x0 = some r) : CallSpec Try.prog 61 [.str x0] (.bool r) :=
  CallSpec.at2 b61 (n := 18) (l := [(0, .str x0)]) (by kernel_rfl) (by kernel_rfl) (by kernel_rfl) (by kernel_rfl) (by kernel_rfl) (Nat.le_of_ble_eq_true (by kernel_rfl)) (fun Γ => we61 x0 r h Γ)

/-! ### armature armatureref04.ParseSignature -/
noncomputable def b71 : Code := Try.f71.body.getD .skip
noncomputable def c71x0 : Code := sub1 b71
noncomputable def c71x1 : Code := sub0 c71x0
noncomputable def c71x2 : Code := sub1 c71x1
noncomputable def c71x3 : Code := sub0 c71x2
noncomputable def c71x4 : Code := sub1 c71x2
noncomputable def c71x5 : Code := sub1 c71x0
noncomputable def c71x6 : Code := sub0 c71x5
noncomputable def c71x7 : Code := sub1 c71x5
noncomputable def c71x8 : Code := sub1 c71x7
noncomputable def c71x9 : Code := sub0 c71x8
noncomputable def c71x10 : Code := sub0 c71x9
noncomputable def c71x11 : Code := sub0 c71x10
noncomputable def c71x12 : Code := sub1 c71x11
noncomputable def c71x13 : Code := sub0 c71x12
noncomputable def c71x14 : Code := sub0 c71x13
noncomputable def c71x15 : Code := sub1 c71x13
noncomputable def c71x16 : Code := sub0 c71x11
noncomputable def c71x17 : Code := sub1 c71x16
noncomputable def c71x18 : Code := sub0 c71x17
noncomputable def c71x19 : Code := sub1 c71x17
noncomputable def c71x20 : Code := sub0 c71x15
noncomputable def c71x21 : Code := sub1 c71x20
noncomputable def c71x22 : Code := sub0 c71x21
noncomputable def c71x23 : Code := sub1 c71x21
noncomputable def c71x24 : Code := sub1 c71x15
noncomputable def c71x25 : Code := sub0 c71x24
noncomputable def c71x26 : Code := sub1 c71x24
noncomputable def c71x27 : Code := sub1 c71x8
noncomputable def c71x28 : Code := sub1 c71x27
noncomputable def c71x29 : Code := sub1 c71x28
noncomputable def c71x30 : Code := sub1 c71x29
noncomputable def c71x31 : Code := sub0 c71x30
noncomputable def c71x32 : Code := sub1 c71x31
noncomputable def c71x33 : Code := sub0 c71x32
noncomputable def c71x34 : Code := sub1 c71x32
noncomputable def c71x35 : Code := sub1 c71x30
noncomputable def c71x36 : Code := sub0 c71x29
noncomputable def c71x37 : Code := sub1 c71x36
noncomputable def c71x38 : Code := sub0 c71x37
noncomputable def c71x39 : Code := sub1 c71x37
noncomputable def c71x40 : Code := sub0 c71x27
noncomputable def c71x41 : Code := sub1 c71x40
noncomputable def c71x42 : Code := sub0 c71x41
noncomputable def c71x43 : Code := sub1 c71x41
def j71x3 (t0 : Int × (List T_api_Type)) (v8 : T_api_Type × Int) : Option (Ctl (Int × (List T_api_Type)) (((List T_api_Type) × Int) ⊕ (T_api_Sig × Int))) :=
  (growK 32 (t0.2 ++ [v8.1]).length).bind fun v9 =>
  some (.next (v8.2, (t0.2 ++ [v8.1])))
def j71x2 (t0 : Int × (List T_api_Type)) (x0 : List UInt8) : Option (Ctl (Int × (List T_api_Type)) (((List T_api_Type) × Int) ⊕ (T_api_Sig × Int))) :=
  (m_armatureref04_take x0 t0.1).bind fun v8 =>
  if (decide (v8.2 < 0)) = true then (some (.done (.inr (({ f_Params := ([] : List T_api_Type), f_Result := ({ f_Dim := 0, f_Base := 0, f_Name := [] } : T_api_Type) } : T_api_Sig), 13)))) else
  (if (v8.1.f_Base == 86) = true then
    (some (.done (.inr (({ f_Params := ([] : List T_api_Type), f_Result := ({ f_Dim := 0, f_Base := 0, f_Name := [] } : T_api_Type) } : T_api_Sig), 13)))) else
  ((j71x3 t0 v8) ))
def l71x1 (x0 : List UInt8) (t0 : Int × (List T_api_Type)) : Option (Ctl (Int × (List T_api_Type)) (((List T_api_Type) × Int) ⊕ (T_api_Sig × Int))) :=
  if (decide (t0.1 < (x0.length : Int))) = true then ((getS x0 t0.1).bind fun v7 =>
  if (v7 != 41) = true then
    ((j71x2 t0 x0) ) else
  (some (.done (.inl ((t0.2, t0.1)))))) else
  (some (.done (.inl ((t0.2, t0.1)))))
def j71x1 (x0 : List UInt8) : Option (T_api_Sig × Int) :=
  (loopM (l71x1 x0) rounds (1, ([] : List T_api_Type))).bind fun q1 =>
  match q1 with
  | .inl q0 => (if (decide (q0.2 ≥ (x0.length : Int))) = true then
      (some (({ f_Params := ([] : List T_api_Type), f_Result := ({ f_Dim := 0, f_Base := 0, f_Name := [] } : T_api_Type) } : T_api_Sig), 13)) else
    ((some (IntKind.wrap .i64 (q0.2 + (1 : Int)))).bind fun v10 =>
      (m_armatureref04_take x0 v10).bind fun v11 =>
      if (v11.2 != (x0.length : Int)) = true then
        (some (({ f_Params := ([] : List T_api_Type), f_Result := ({ f_Dim := 0, f_Base := 0, f_Name := [] } : T_api_Type) } : T_api_Sig), 13)) else
      (if (decide ((q0.1.length : Int) > 16)) = true then
          (some (({ f_Params := ([] : List T_api_Type), f_Result := ({ f_Dim := 0, f_Base := 0, f_Name := [] } : T_api_Type) } : T_api_Sig), 5)) else
        (some (({ f_Params := q0.1, f_Result := v11.1 } : T_api_Sig), 0)))))
  | .inr y0 => (some y0)
def m_armatureref04_ParseSignature (x0 : List UInt8) : Option (T_api_Sig × Int) :=
  if (x0 == ([] : List UInt8)) = true then (some (({ f_Params := ([] : List T_api_Type), f_Result := ({ f_Dim := 0, f_Base := 0, f_Name := [] } : T_api_Type) } : T_api_Sig), 13)) else
  ((getS x0 0).bind fun v0 =>
  if (v0 != 40) = true then
    (some (({ f_Params := ([] : List T_api_Type), f_Result := ({ f_Dim := 0, f_Base := 0, f_Name := [] } : T_api_Type) } : T_api_Sig), 13)) else
  ((j71x1 x0) ))
def st71x1 (x0 : List UInt8) : (Int × (List T_api_Type)) → S :=
  fun t0 => mkS 75 [(0, .str x0), (2, .lptr 2 0 0), (4, .lptr 4 0 0), (5, .int .i64 t0.1)] [(2, { sz := 4, rows := [[.sl true (([] : List T_api_Type).map row_T_api_Type), .int .i64 0, .int .u8 0, .str []]], frz := 0, pure := false }), (4, { sz := 4, rows := [[.lsl 1004 0 ((t0.2.map row_T_api_Type).length), .int .i64 0, .int .u8 0, .str []]], frz := 0, pure := false }), (1004, { sz := 3, rows := (t0.2.map row_T_api_Type), frz := 0, pure := true })]
noncomputable def J71x1 (x0 : List UInt8) : (((List T_api_Type) × Int) ⊕ (T_api_Sig × Int)) → Exit → S → Prop :=
  JSum (JExit 0 (fun q0 : (List T_api_Type) × Int => mkS 75 [(0, .str x0), (2, .lptr 2 0 0), (4, .lptr 4 0 0), (5, .int .i64 q0.2)] [(2, { sz := 4, rows := [[.sl true (([] : List T_api_Type).map row_T_api_Type), .int .i64 0, .int .u8 0, .str []]], frz := 0, pure := false }), (4, { sz := 4, rows := [[.lsl 1004 0 ((q0.1.map row_T_api_Type).length), .int .i64 0, .int .u8 0, .str []]], frz := 0, pure := false }), (1004, { sz := 3, rows := (q0.1.map row_T_api_Type), frz := 0, pure := true })])) (JRet Try.prog Try.f71 (fun y : T_api_Sig × Int => .tup [.agg (row_T_api_Sig y.1), .int .i64 y.2]))
theorem wj71x3 (t0 : Int × (List T_api_Type)) (v8 : T_api_Type × Int) (x0 : List UInt8) (r : Ctl (Int × (List T_api_Type)) (((List T_api_Type) × Int) ⊕ (T_api_Sig × Int))) (h : (j71x3 t0 v8)  = some r) (Γ : Ctx) : EvOk Try.prog Γ (Round (st71x1 x0) (J71x1 x0) r) (mkS 75 [(0, .str x0), (2, .lptr 2 0 0), (4, .lptr 4 0 0), (6, .lptr 6 0 0), (7, dI v8.2)] [(2, { sz := 4, rows := [[.sl true (([] : List T_api_Type).map row_T_api_Type), dI 0, d8 0, .str []]], frz := 0, pure := false }), (4, { sz := 4, rows := [[.lsl 1004 0 ((t0.2.map row_T_api_Type).length), dI 0, d8 0, .str []]], frz := 0, pure := false }), (6, { sz := 3, rows := [row_T_api_Type v8.1], frz := 0, pure := false }), (1004, { sz := 3, rows := (t0.2.map row_T_api_Type), frz := 0, pure := true })]) (.stop c71x25 [.seq c71x26, .blk 1]) := by
  refine EvOk.stop ?_
  obtain ⟨v9, e9, h⟩ := bindE h
  refine At.adv [] [(9, { told := [(3, { ro := true }), (4, { rows := some ((t0.2 ++ [v8.1]).map row_T_api_Type) })], keep := some ([0, 2, 4, 7], [(2, 2), (4, 4), (1004, 1004)]) }), (10, { keep := some ([0, 2, 4, 5], [(2, 2), (4, 4), (1004, 1004)]) })] 400 (ev := .normal) (σ' := mkS 75 [(0, .str x0), (2, .lptr 2 0 0), (4, .lptr 4 0 0), (5, dI v8.2)] [(2, { sz := 4, rows := [[.sl true (([] : List T_api_Type).map row_T_api_Type), dI 0, d8 0, .str []]], frz := 0, pure := false }), (4, { sz := 4, rows := [[.lsl 1004 0 (((t0.2 ++ [v8.1]).map row_T_api_Type).length), dI 0, d8 0, .str []]], frz := 0, pure := false }), (1004, { sz := 3, rows := ((t0.2 ++ [v8.1]).map row_T_api_Type), frz := 0, pure := true })]) (q := [True ∧ ((tN 3) ∧ True), True ∧ (True ∧ (t0.2.map row_T_api_Type).length = (t0.2.map row_T_api_Type).length ∧ (∀ r ∈ ([v8.1].map row_T_api_Type), r.length = 3) ∧ (t0.2.map row_T_api_Type) ++ ([v8.1].map row_T_api_Type) = ((t0.2 ++ [v8.1]).map row_T_api_Type) ∧ ((t0.2 ++ [v8.1]).map row_T_api_Type).length ≤ 9223372036854775807 ∧ ((t0.2 ++ [v8.1]).map row_T_api_Type).length * 32 ≤ 140737488355328), True ∧ (0 ≤ 0 ∧ 0 + ([.lsl 1004 0 (((t0.2 ++ [v8.1]).map row_T_api_Type).length)] : List D).length ≤ ([.undef, dI 0, d8 0, .str []] : List D).length ∧ ([[.lsl 1004 0 (((t0.2 ++ [v8.1]).map row_T_api_Type).length), dI 0, d8 0, .str []]] : List (List D)) = ([[.lsl 1004 0 (((t0.2 ++ [v8.1]).map row_T_api_Type).length), dI 0, d8 0, .str []]] : List (List D)))]) (by kernel_rfl) ⟨⟨trivial, ⟨tNi 3, trivial⟩⟩, ⟨trivial, ⟨trivial, rfl, szM (f := row_T_api_Type) (n := 3) (fun _ => rfl) _, appM row_T_api_Type _ _, (growK_spec e9 (lenMN _ _)).1, (growK_spec e9 (lenMN _ _)).2⟩⟩, ⟨trivial, ⟨Nat.zero_le _, Nat.le_of_ble_eq_true rfl, rfl⟩⟩, trivial⟩ ?_
  refine EvOk.normal ?_
  obtain rfl := someE h
  exact Round.next (by kernel_rfl)
theorem wj71x2 (t0 : Int × (List T_api_Type)) (x0 : List UInt8) (r : Ctl (Int × (List T_api_Type)) (((List T_api_Type) × Int) ⊕ (T_api_Sig × Int))) (h : (j71x2 t0 x0)  = some r) (Γ : Ctx) : EvOk Try.prog Γ (Round (st71x1 x0) (J71x1 x0) r) (mkS 75 [(0, .str x0), (2, .lptr 2 0 0), (4, .lptr 4 0 0), (5, dI t0.1)] [(2, { sz := 4, rows := [[.sl true (([] : List T_api_Type).map row_T_api_Type), dI 0, d8 0, .str []]], frz := 0, pure := false }), (4, { sz := 4, rows := [[.lsl 1004 0 ((t0.2.map row_T_api_Type).length), dI 0, d8 0, .str []]], frz := 0, pure := false }), (1004, { sz := 3, rows := (t0.2.map row_T_api_Type), frz := 0, pure := true })]) (.stop c71x14 [.seq c71x15, .blk 1]) := by
  refine EvOk.stop ?_
  obtain ⟨v8, e8, h⟩ := bindE h
  rcases Bool.eq_false_or_eq_true (decide (v8.2 < 0)) with h12 | h12
  · replace h := iteT h12 h
    refine At.adv [] [(6, { told := [(2, { ans := .val (.tup [.agg (row_T_api_Type v8.1), dI v8.2]) })], keep := some ([0, 2, 4, 6, 7], [(2, 2), (4, 4), (6, 6), (1004, 1004)]) }), (7, { told := [(1, aB true)], keep := some ([0, 2, 4, 6, 7, 41], [(2, 2), (4, 4), (6, 6), (1004, 1004)]) })] 400 (ev := .cond true c71x22 c71x23 [.seq c71x24, .blk 1]) (σ' := mkS 75 [(0, .str x0), (2, .lptr 2 0 0), (4, .lptr 4 0 0), (6, .lptr 6 0 0), (7, dI v8.2), (41, .bool true)] [(2, { sz := 4, rows := [[.sl true (([] : List T_api_Type).map row_T_api_Type), dI 0, d8 0, .str []]], frz := 0, pure := false }), (4, { sz := 4, rows := [[.lsl 1004 0 ((t0.2.map row_T_api_Type).length), dI 0, d8 0, .str []]], frz := 0, pure := false }), (6, { sz := 3, rows := [row_T_api_Type v8.1], frz := 0, pure := false }), (1004, { sz := 3, rows := (t0.2.map row_T_api_Type), frz := 0, pure := true })]) (q := [True ∧ (cq Try.prog (tN 2) 76 [.str x0, dI t0.1] (.tup [.agg (row_T_api_Type v8.1), dI v8.2])), True ∧ (0 ≤ 0 ∧ 0 + ([dI v8.1.f_Dim, d8 v8.1.f_Base, .str v8.1.f_Name] : List D).length ≤ ([dI 0, d8 0, .str []] : List D).length ∧ ([[dI v8.1.f_Dim, d8 v8.1.f_Base, .str v8.1.f_Name]] : List (List D)) = ([[dI v8.1.f_Dim, d8 v8.1.f_Base, .str v8.1.f_Name]] : List (List D))), True ∧ ((decide (v8.2 < 0)) = true), True, True, True]) (by kernel_rfl) ⟨⟨trivial, cqi (tNi 2) (w76 e8)⟩, ⟨trivial, ⟨Nat.zero_le _, Nat.le_of_ble_eq_true rfl, rfl⟩⟩, ⟨trivial, h12⟩, trivial, trivial, trivial, trivial⟩ ?_
    refine EvOk.cond (fun _ => ?_) (fun hb => Bool.noConfusion hb)
    refine At.gc [2] [(2, 2)] (n := 75) (l := [(2, .lptr 2 0 0)]) (bl := [(2, { sz := 4, rows := [[.sl true (([] : List T_api_Type).map row_T_api_Type), dI 0, d8 0, .str []]], frz := 0, pure := false })]) (by kernel_rfl) ?_
    refine At.adv [] [(8, { keep := some ([2, 3], [(2, 2)]) })] 400 (ev := .ret) (σ' := mkS 75 [(2, .lptr 2 0 0), (3, dI 13)] [(2, { sz := 4, rows := [[.sl true (([] : List T_api_Type).map row_T_api_Type), dI 0, d8 0, .str []]], frz := 0, pure := false })]) (q := [True ∧ (0 ≤ 0 ∧ 0 + ([.sl true (([] : List T_api_Type).map row_T_api_Type), dI 0, d8 0, .str []] : List D).length ≤ ([.sl true (([] : List T_api_Type).map row_T_api_Type), dI 0, d8 0, .str []] : List D).length ∧ ([[.sl true (([] : List T_api_Type).map row_T_api_Type), dI 0, d8 0, .str []]] : List (List D)) = ([[.sl true (([] : List T_api_Type).map row_T_api_Type), dI 0, d8 0, .str []]] : List (List D)))]) (by kernel_rfl) ⟨⟨trivial, ⟨Nat.zero_le _, Nat.le_of_ble_eq_true rfl, rfl⟩⟩, trivial⟩ ?_
    refine EvOk.ret ?_
    obtain rfl := someE h
    exact Round.done neRet ⟨rfl, Den.Ends.mk (.inl rfl) (d := .tup [.agg [.sl false (([] : List T_api_Type).map row_T_api_Type), dI 0, d8 0, .str []], dI 13]) (p := (True ∧ (True ∧ True)) ∧ ((tN 4) ∧ (True ∧ True))) (by kernel_rfl) ⟨⟨trivial, ⟨trivial, trivial⟩⟩, ⟨tNi 4, ⟨trivial, trivial⟩⟩⟩ (by kernel_rfl)⟩
  · replace h := iteF h12 h
    refine At.adv [] [(6, { told := [(2, { ans := .val (.tup [.agg (row_T_api_Type v8.1), dI v8.2]) })], keep := some ([0, 2, 4, 6, 7], [(2, 2), (4, 4), (6, 6), (1004, 1004)]) }), (7, { told := [(1, aB false)], keep := some ([0, 2, 4, 6, 7, 41], [(2, 2), (4, 4), (6, 6), (1004, 1004)]) })] 400 (ev := .cond (v8.1.f_Base == 86) c71x22 c71x23 [.seq c71x24, .blk 1]) (σ' := mkS 75 [(0, .str x0), (2, .lptr 2 0 0), (4, .lptr 4 0 0), (6, .lptr 6 0 0), (7, dI v8.2), (41, .bool (v8.1.f_Base == 86))] [(2, { sz := 4, rows := [[.sl true (([] : List T_api_Type).map row_T_api_Type), dI 0, d8 0, .str []]], frz := 0, pure := false }), (4, { sz := 4, rows := [[.lsl 1004 0 ((t0.2.map row_T_api_Type).length), dI 0, d8 0, .str []]], frz := 0, pure := false }), (6, { sz := 3, rows := [row_T_api_Type v8.1], frz := 0, pure := false }), (1004, { sz := 3, rows := (t0.2.map row_T_api_Type), frz := 0, pure := true })]) (q := [True ∧ (cq Try.prog (tN 2) 76 [.str x0, dI t0.1] (.tup [.agg (row_T_api_Type v8.1), dI v8.2])), True ∧ (0 ≤ 0 ∧ 0 + ([dI v8.1.f_Dim, d8 v8.1.f_Base, .str v8.1.f_Name] : List D).length ≤ ([dI 0, d8 0, .str []] : List D).length ∧ ([[dI v8.1.f_Dim, d8 v8.1.f_Base, .str v8.1.f_Name]] : List (List D)) = ([[dI v8.1.f_Dim, d8 v8.1.f_Base, .str v8.1.f_Name]] : List (List D))), True ∧ ((decide (v8.2 < 0)) = false), True ∧ True, True ∧ True, True ∧ True]) (by kernel_rfl) ⟨⟨trivial, cqi (tNi 2) (w76 e8)⟩, ⟨trivial, ⟨Nat.zero_le _, Nat.le_of_ble_eq_true rfl, rfl⟩⟩, ⟨trivial, h12⟩, ⟨trivial, trivial⟩, ⟨trivial, trivial⟩, ⟨trivial, trivial⟩, trivial⟩ ?_
    refine EvOk.cond (fun h13 => ?_) (fun h13 => ?_)
    · replace h := iteT h13 h
      refine At.gc [2] [(2, 2)] (n := 75) (l := [(2, .lptr 2 0 0)]) (bl := [(2, { sz := 4, rows := [[.sl true (([] : List T_api_Type).map row_T_api_Type), dI 0, d8 0, .str []]], frz := 0, pure := false })]) (by kernel_rfl) ?_
      refine At.adv [] [(8, { keep := some ([2, 3], [(2, 2)]) })] 400 (ev := .ret) (σ' := mkS 75 [(2, .lptr 2 0 0), (3, dI 13)] [(2, { sz := 4, rows := [[.sl true (([] : List T_api_Type).map row_T_api_Type), dI 0, d8 0, .str []]], frz := 0, pure := false })]) (q := [True ∧ (0 ≤ 0 ∧ 0 + ([.sl true (([] : List T_api_Type).map row_T_api_Type), dI 0, d8 0, .str []] : List D).length ≤ ([.sl true (([] : List T_api_Type).map row_T_api_Type), dI 0, d8 0, .str []] : List D).length ∧ ([[.sl true (([] : List T_api_Type).map row_T_api_Type), dI 0, d8 0, .str []]] : List (List D)) = ([[.sl true (([] : List T_api_Type).map row_T_api_Type), dI 0, d8 0, .str []]] : List (List D)))]) (by kernel_rfl) ⟨⟨trivial, ⟨Nat.zero_le _, Nat.le_of_ble_eq_true rfl, rfl⟩⟩, trivial⟩ ?_
      refine EvOk.ret ?_
      obtain rfl := someE h
      exact Round.done neRet ⟨rfl, Den.Ends.mk (.inl rfl) (d := .tup [.agg [.sl false (([] : List T_api_Type).map row_T_api_Type), dI 0, d8 0, .str []], dI 13]) (p := (True ∧ (True ∧ True)) ∧ ((tN 4) ∧ (True ∧ True))) (by kernel_rfl) ⟨⟨trivial, ⟨trivial, trivial⟩⟩, ⟨tNi 4, ⟨trivial, trivial⟩⟩⟩ (by kernel_rfl)⟩
    · replace h := iteF h13 h
      refine At.gc [0, 2, 4, 6, 7] [(2, 2), (4, 4), (6, 6), (1004, 1004)] (n := 75) (l := [(0, .str x0), (2, .lptr 2 0 0), (4, .lptr 4 0 0), (6, .lptr 6 0 0), (7, dI v8.2)]) (bl := [(2, { sz := 4, rows := [[.sl true (([] : List T_api_Type).map row_T_api_Type), dI 0, d8 0, .str []]], frz := 0, pure := false }), (4, { sz := 4, rows := [[.lsl 1004 0 ((t0.2.map row_T_api_Type).length), dI 0, d8 0, .str []]], frz := 0, pure := false }), (6, { sz := 3, rows := [row_T_api_Type v8.1], frz := 0, pure := false }), (1004, { sz := 3, rows := (t0.2.map row_T_api_Type), frz := 0, pure := true })]) (by kernel_rfl) ?_
      refine At.adv [9] [] 400 (ev := .stop c71x25 [.seq c71x26, .blk 1]) (σ' := mkS 75 [(0, .str x0), (2, .lptr 2 0 0), (4, .lptr 4 0 0), (6, .lptr 6 0 0), (7, dI v8.2)] [(2, { sz := 4, rows := [[.sl true (([] : List T_api_Type).map row_T_api_Type), dI 0, d8 0, .str []]], frz := 0, pure := false }), (4, { sz := 4, rows := [[.lsl 1004 0 ((t0.2.map row_T_api_Type).length), dI 0, d8 0, .str []]], frz := 0, pure := false }), (6, { sz := 3, rows := [row_T_api_Type v8.1], frz := 0, pure := false }), (1004, { sz := 3, rows := (t0.2.map row_T_api_Type), frz := 0, pure := true })]) (q := []) (by kernel_rfl) trivial ?_
      exact (wj71x3 t0 v8 x0)  r h Γ
theorem wl71x1 (x0 : List UInt8) (t0 : Int × (List T_api_Type)) (r : Ctl (Int × (List T_api_Type)) (((List T_api_Type) × Int) ⊕ (T_api_Sig × Int))) (h : (l71x1 x0) t0 = some r) (Γ : Ctx) : At Try.prog Γ c71x11 [] (Round (st71x1 x0) (J71x1 x0) r) ((st71x1 x0) t0) := by
  rcases Bool.eq_false_or_eq_true (decide (t0.1 < (x0.length : Int))) with h10 | h10
  · replace h := iteT h10 h
    obtain ⟨v7, e7, h⟩ := bindE h
    refine At.adv [] [(5, { told := [(3, aB true), (7, a8 v7)], keep := some ([0, 2, 4, 5, 28], [(2, 2), (4, 4), (1004, 1004)]) })] 400 (ev := .cond (v7 != 41) c71x18 c71x19 [.seq c71x12]) (σ' := mkS 75 [(0, .str x0), (2, .lptr 2 0 0), (4, .lptr 4 0 0), (5, dI t0.1), (28, .bool (v7 != 41))] [(2, { sz := 4, rows := [[.sl true (([] : List T_api_Type).map row_T_api_Type), dI 0, d8 0, .str []]], frz := 0, pure := false }), (4, { sz := 4, rows := [[.lsl 1004 0 ((t0.2.map row_T_api_Type).length), dI 0, d8 0, .str []]], frz := 0, pure := false }), (1004, { sz := 3, rows := (t0.2.map row_T_api_Type), frz := 0, pure := true })]) (q := [True ∧ ((decide (t0.1 < (x0.length : Int))) = true), True ∧ True, True ∧ True, True ∧ (getS x0 t0.1 = some v7), True ∧ True]) (by kernel_rfl) ⟨⟨trivial, h10⟩, ⟨trivial, trivial⟩, ⟨trivial, trivial⟩, ⟨trivial, e7⟩, ⟨trivial, trivial⟩, trivial⟩ ?_
    refine EvOk.cond (fun h11 => ?_) (fun h11 => ?_)
    · replace h := iteT h11 h
      refine At.gc [0, 2, 4, 5] [(2, 2), (4, 4), (1004, 1004)] (n := 75) (l := [(0, .str x0), (2, .lptr 2 0 0), (4, .lptr 4 0 0), (5, dI t0.1)]) (bl := [(2, { sz := 4, rows := [[.sl true (([] : List T_api_Type).map row_T_api_Type), dI 0, d8 0, .str []]], frz := 0, pure := false }), (4, { sz := 4, rows := [[.lsl 1004 0 ((t0.2.map row_T_api_Type).length), dI 0, d8 0, .str []]], frz := 0, pure := false }), (1004, { sz := 3, rows := (t0.2.map row_T_api_Type), frz := 0, pure := true })]) (by kernel_rfl) ?_
      refine At.adv [6] [] 400 (ev := .stop c71x14 [.seq c71x15, .blk 1]) (σ' := mkS 75 [(0, .str x0), (2, .lptr 2 0 0), (4, .lptr 4 0 0), (5, dI t0.1)] [(2, { sz := 4, rows := [[.sl true (([] : List T_api_Type).map row_T_api_Type), dI 0, d8 0, .str []]], frz := 0, pure := false }), (4, { sz := 4, rows := [[.lsl 1004 0 ((t0.2.map row_T_api_Type).length), dI 0, d8 0, .str []]], frz := 0, pure := false }), (1004, { sz := 3, rows := (t0.2.map row_T_api_Type), frz := 0, pure := true })]) (q := []) (by kernel_rfl) trivial ?_
      exact (wj71x2 t0 x0)  r h Γ
    · replace h := iteF h11 h
      refine At.gc [0, 2, 4, 5] [(2, 2), (4, 4), (1004, 1004)] (n := 75) (l := [(0, .str x0), (2, .lptr 2 0 0), (4, .lptr 4 0 0), (5, dI t0.1)]) (bl := [(2, { sz := 4, rows := [[.sl true (([] : List T_api_Type).map row_T_api_Type), dI 0, d8 0, .str []]], frz := 0, pure := false }), (4, { sz := 4, rows := [[.lsl 1004 0 ((t0.2.map row_T_api_Type).length), dI 0, d8 0, .str []]], frz := 0, pure := false }), (1004, { sz := 3, rows := (t0.2.map row_T_api_Type), frz := 0, pure := true })]) (by kernel_rfl) ?_
      refine At.adv [] [] 400 (ev := .exit 0) (σ' := mkS 75 [(0, .str x0), (2, .lptr 2 0 0), (4, .lptr 4 0 0), (5, dI t0.1)] [(2, { sz := 4, rows := [[.sl true (([] : List T_api_Type).map row_T_api_Type), dI 0, d8 0, .str []]], frz := 0, pure := false }), (4, { sz := 4, rows := [[.lsl 1004 0 ((t0.2.map row_T_api_Type).length), dI 0, d8 0, .str []]], frz := 0, pure := false }), (1004, { sz := 3, rows := (t0.2.map row_T_api_Type), frz := 0, pure := true })]) (q := []) (by kernel_rfl) trivial ?_
      refine EvOk.exit ?_
      obtain rfl := someE h
      exact Round.done (neExit _) ⟨rfl, by kernel_rfl⟩
  · replace h := iteF h10 h
    refine At.adv [] [(5, { told := [(3, aB false)], keep := some ([0, 2, 4, 5, 28], [(2, 2), (4, 4), (1004, 1004)]) })] 400 (ev := .cond false c71x18 c71x19 [.seq c71x12]) (σ' := mkS 75 [(0, .str x0), (2, .lptr 2 0 0), (4, .lptr 4 0 0), (5, dI t0.1), (28, .bool false)] [(2, { sz := 4, rows := [[.sl true (([] : List T_api_Type).map row_T_api_Type), dI 0, d8 0, .str []]], frz := 0, pure := false }), (4, { sz := 4, rows := [[.lsl 1004 0 ((t0.2.map row_T_api_Type).length), dI 0, d8 0, .str []]], frz := 0, pure := false }), (1004, { sz := 3, rows := (t0.2.map row_T_api_Type), frz := 0, pure := true })]) (q := [True ∧ ((decide (t0.1 < (x0.length : Int))) = false), True, True, True, True]) (by kernel_rfl) ⟨⟨trivial, h10⟩, trivial, trivial, trivial, trivial, trivial⟩ ?_
    refine EvOk.cond (fun hb => Bool.noConfusion hb) (fun _ => ?_)
    refine At.gc [0, 2, 4, 5] [(2, 2), (4, 4), (1004, 1004)] (n := 75) (l := [(0, .str x0), (2, .lptr 2 0 0), (4, .lptr 4 0 0), (5, dI t0.1)]) (bl := [(2, { sz := 4, rows := [[.sl true (([] : List T_api_Type).map row_T_api_Type), dI 0, d8 0, .str []]], frz := 0, pure := false }), (4, { sz := 4, rows := [[.lsl 1004 0 ((t0.2.map row_T_api_Type).length), dI 0, d8 0, .str []]], frz := 0, pure := false }), (1004, { sz := 3, rows := (t0.2.map row_T_api_Type), frz := 0, pure := true })]) (by kernel_rfl) ?_
    refine At.adv [] [] 400 (ev := .exit 0) (σ' := mkS 75 [(0, .str x0), (2, .lptr 2 0 0), (4, .lptr 4 0 0), (5, dI t0.1)] [(2, { sz := 4, rows := [[.sl true (([] : List T_api_Type).map row_T_api_Type), dI 0, d8 0, .str []]], frz := 0, pure := false }), (4, { sz := 4, rows := [[.lsl 1004 0 ((t0.2.map row_T_api_Type).length), dI 0, d8 0, .str []]], frz := 0, pure := false }), (1004, { sz := 3, rows := (t0.2.map row_T_api_Type), frz := 0, pure := true })]) (q := []) (by kernel_rfl) trivial ?_
    refine EvOk.exit ?_
    obtain rfl := someE h
    exact Round.done (neExit _) ⟨rfl, by kernel_rfl⟩
theorem wj71x1 (x0 : List UInt8) (r : T_api_Sig × Int) (h : (j71x1 x0)  = some r) (Γ : Ctx) : EvOk Try.prog Γ (Den.Ends Try.prog Try.f71 (.tup [.agg (row_T_api_Sig r.1), dI r.2])) (mkS 75 [(0, .str x0), (2, .lptr 2 0 0)] [(2, { sz := 4, rows := [[.sl true (([] : List T_api_Type).map row_T_api_Type), dI 0, d8 0, .str []]], frz := 0, pure := false })]) (.stop c71x6 [.seq c71x7]) := by
  refine EvOk.stop ?_
  refine At.adv [] [(3, { keep := some ([0, 2, 4], [(2, 2), (4, 4)]) }), (4, { keep := some ([0, 2, 4, 5], [(2, 2), (4, 4)]) })] 400 (ev := .loop c71x11 [.blk 0, .seq c71x27]) (σ' := mkS 75 [(0, .str x0), (2, .lptr 2 0 0), (4, .lptr 4 0 0), (5, dI 1)] [(2, { sz := 4, rows := [[.sl true (([] : List T_api_Type).map row_T_api_Type), dI 0, d8 0, .str []]], frz := 0, pure := false }), (4, { sz := 4, rows := [[.sl true (([] : List T_api_Type).map row_T_api_Type), dI 0, d8 0, .str []]], frz := 0, pure := false })]) (q := [True ∧ (0 ≤ 0 ∧ 0 + ([.sl true (([] : List T_api_Type).map row_T_api_Type), dI 0, d8 0, .str []] : List D).length ≤ ([.sl true (([] : List T_api_Type).map row_T_api_Type), dI 0, d8 0, .str []] : List D).length ∧ ([[.sl true (([] : List T_api_Type).map row_T_api_Type), dI 0, d8 0, .str []]] : List (List D)) = ([[.sl true (([] : List T_api_Type).map row_T_api_Type), dI 0, d8 0, .str []]] : List (List D)))]) (by kernel_rfl) ⟨⟨trivial, ⟨Nat.zero_le _, Nat.le_of_ble_eq_true rfl, rfl⟩⟩, trivial⟩ ?_
  refine EvOk.loop ?_
  obtain ⟨q1, e10, h⟩ := bindE h
  refine At.convG [.blk 4 0 1004 3] [0, 2, 4, 5] [(2, 2), (4, 4), (1004, 1004)] (n := 75) (l := [(0, .str x0), (2, .lptr 2 0 0), (4, .lptr 4 0 0), (5, dI 1)]) (bl := [(2, { sz := 4, rows := [[.sl true (([] : List T_api_Type).map row_T_api_Type), dI 0, d8 0, .str []]], frz := 0, pure := false }), (4, { sz := 4, rows := [[.lsl 1004 0 ((([] : List T_api_Type).map row_T_api_Type).length), dI 0, d8 0, .str []]], frz := 0, pure := false }), (1004, { sz := 3, rows := (([] : List T_api_Type).map row_T_api_Type), frz := 0, pure := true })]) (by kernel_rfl) ?_
  refine At.loop (l71x1 x0) (st71x1 x0) (J71x1 x0) (1, ([] : List T_api_Type)) e10 (by kernel_rfl) (fun t x hx => (wl71x1 x0) t x hx Γ) ?_
  intro e σ' hJ
  rcases q1 with q0 | y0
  · obtain ⟨rfl, rfl⟩ := hJ
    refine At.exitK (K' := [.seq c71x27]) (by kernel_rfl) ?_
    refine At.advN [] [(11, { keep := some ([0, 2, 4, 5, 53], [(2, 2), (4, 4), (1004, 1004)]) })] 400 (ev := .cond (decide (q0.2 ≥ (x0.length : Int))) c71x42 c71x43 [.seq c71x28]) (σ' := mkS 75 [(0, .str x0), (2, .lptr 2 0 0), (4, .lptr 4 0 0), (5, dI q0.2), (53, .bool (decide (q0.2 ≥ (x0.length : Int))))] [(2, { sz := 4, rows := [[.sl true (([] : List T_api_Type).map row_T_api_Type), dI 0, d8 0, .str []]], frz := 0, pure := false }), (4, { sz := 4, rows := [[.lsl 1004 0 ((q0.1.map row_T_api_Type).length), dI 0, d8 0, .str []]], frz := 0, pure := false }), (1004, { sz := 3, rows := (q0.1.map row_T_api_Type), frz := 0, pure := true })]) (q := []) (by kernel_rfl) trivial ?_
    refine EvOk.cond (fun h14 => ?_) (fun h14 => ?_)
    · replace h := iteT h14 h
      refine At.gc [2] [(2, 2)] (n := 75) (l := [(2, .lptr 2 0 0)]) (bl := [(2, { sz := 4, rows := [[.sl true (([] : List T_api_Type).map row_T_api_Type), dI 0, d8 0, .str []]], frz := 0, pure := false })]) (by kernel_rfl) ?_
      refine At.adv [] [(12, { keep := some ([2, 3], [(2, 2)]) })] 400 (ev := .ret) (σ' := mkS 75 [(2, .lptr 2 0 0), (3, dI 13)] [(2, { sz := 4, rows := [[.sl true (([] : List T_api_Type).map row_T_api_Type), dI 0, d8 0, .str []]], frz := 0, pure := false })]) (q := [True ∧ (0 ≤ 0 ∧ 0 + ([.sl true (([] : List T_api_Type).map row_T_api_Type), dI 0, d8 0, .str []] : List D).length ≤ ([.sl true (([] : List T_api_Type).map row_T_api_Type), dI 0, d8 0, .str []] : List D).length ∧ ([[.sl true (([] : List T_api_Type).map row_T_api_Type), dI 0, d8 0, .str []]] : List (List D)) = ([[.sl true (([] : List T_api_Type).map row_T_api_Type), dI 0, d8 0, .str []]] : List (List D)))]) (by kernel_rfl) ⟨⟨trivial, ⟨Nat.zero_le _, Nat.le_of_ble_eq_true rfl, rfl⟩⟩, trivial⟩ ?_
      refine EvOk.ret ?_
      obtain rfl := someE h
      exact Den.Ends.mk (.inl rfl) (d := .tup [.agg [.sl false (([] : List T_api_Type).map row_T_api_Type), dI 0, d8 0, .str []], dI 13]) (p := (True ∧ (True ∧ True)) ∧ ((tN 4) ∧ (True ∧ True))) (by kernel_rfl) ⟨⟨trivial, ⟨trivial, trivial⟩⟩, ⟨tNi 4, ⟨trivial, trivial⟩⟩⟩ (by kernel_rfl)
    · replace h := iteF h14 h
      refine At.gc [0, 2, 4, 5] [(2, 2), (4, 4), (1004, 1004)] (n := 75) (l := [(0, .str x0), (2, .lptr 2 0 0), (4, .lptr 4 0 0), (5, dI q0.2)]) (bl := [(2, { sz := 4, rows := [[.sl true (([] : List T_api_Type).map row_T_api_Type), dI 0, d8 0, .str []]], frz := 0, pure := false }), (4, { sz := 4, rows := [[.lsl 1004 0 ((q0.1.map row_T_api_Type).length), dI 0, d8 0, .str []]], frz := 0, pure := false }), (1004, { sz := 3, rows := (q0.1.map row_T_api_Type), frz := 0, pure := true })]) (by kernel_rfl) ?_
      obtain ⟨v10, e11, h⟩ := bindE h
      obtain ⟨v11, e12, h⟩ := bindE h
      refine At.adv [] [(13, { told := [(2, aI v10), (3, { ans := .val (.tup [.agg (row_T_api_Type v11.1), dI v11.2]) })], keep := some ([0, 2, 4, 8, 9], [(2, 2), (4, 4), (8, 8), (1004, 1004)]) }), (14, { keep := some ([2, 4, 8, 65], [(2, 2), (4, 4), (8, 8), (1004, 1004)]) })] 400 (ev := .cond (v11.2 != (x0.length : Int)) c71x38 c71x39 [.seq c71x30]) (σ' := mkS 75 [(2, .lptr 2 0 0), (4, .lptr 4 0 0), (8, .lptr 8 0 0), (65, .bool (v11.2 != (x0.length : Int)))] [(2, { sz := 4, rows := [[.sl true (([] : List T_api_Type).map row_T_api_Type), dI 0, d8 0, .str []]], frz := 0, pure := false }), (4, { sz := 4, rows := [[.lsl 1004 0 ((q0.1.map row_T_api_Type).length), dI 0, d8 0, .str []]], frz := 0, pure := false }), (8, { sz := 3, rows := [row_T_api_Type v11.1], frz := 0, pure := false }), (1004, { sz := 3, rows := (q0.1.map row_T_api_Type), frz := 0, pure := true })]) (q := [True ∧ (IntKind.wrap .i64 (q0.2 + (1 : Int)) = v10), True ∧ (cq Try.prog (tN 2) 76 [.str x0, dI v10] (.tup [.agg (row_T_api_Type v11.1), dI v11.2])), True ∧ (0 ≤ 0 ∧ 0 + ([dI v11.1.f_Dim, d8 v11.1.f_Base, .str v11.1.f_Name] : List D).length ≤ ([dI 0, d8 0, .str []] : List D).length ∧ ([[dI v11.1.f_Dim, d8 v11.1.f_Base, .str v11.1.f_Name]] : List (List D)) = ([[dI v11.1.f_Dim, d8 v11.1.f_Base, .str v11.1.f_Name]] : List (List D)))]) (by kernel_rfl) ⟨⟨trivial, someE e11⟩, ⟨trivial, cqi (tNi 2) (w76 e12)⟩, ⟨trivial, ⟨Nat.zero_le _, Nat.le_of_ble_eq_true rfl, rfl⟩⟩, trivial⟩ ?_
      refine EvOk.cond (fun h15 => ?_) (fun h15 => ?_)
      · replace h := iteT h15 h
        refine At.gc [2] [(2, 2)] (n := 75) (l := [(2, .lptr 2 0 0)]) (bl := [(2, { sz := 4, rows := [[.sl true (([] : List T_api_Type).map row_T_api_Type), dI 0, d8 0, .str []]], frz := 0, pure := false })]) (by kernel_rfl) ?_
        refine At.adv [] [(15, { keep := some ([2, 3], [(2, 2)]) })] 400 (ev := .ret) (σ' := mkS 75 [(2, .lptr 2 0 0), (3, dI 13)] [(2, { sz := 4, rows := [[.sl true (([] : List T_api_Type).map row_T_api_Type), dI 0, d8 0, .str []]], frz := 0, pure := false })]) (q := [True ∧ (0 ≤ 0 ∧ 0 + ([.sl true (([] : List T_api_Type).map row_T_api_Type), dI 0, d8 0, .str []] : List D).length ≤ ([.sl true (([] : List T_api_Type).map row_T_api_Type), dI 0, d8 0, .str []] : List D).length ∧ ([[.sl true (([] : List T_api_Type).map row_T_api_Type), dI 0, d8 0, .str []]] : List (List D)) = ([[.sl true (([] : List T_api_Type).map row_T_api_Type), dI 0, d8 0, .str []]] : List (List D)))]) (by kernel_rfl) ⟨⟨trivial, ⟨Nat.zero_le _, Nat.le_of_ble_eq_true rfl, rfl⟩⟩, trivial⟩ ?_
        refine EvOk.ret ?_
        obtain rfl := someE h
        exact Den.Ends.mk (.inl rfl) (d := .tup [.agg [.sl false (([] : List T_api_Type).map row_T_api_Type), dI 0, d8 0, .str []], dI 13]) (p := (True ∧ (True ∧ True)) ∧ ((tN 4) ∧ (True ∧ True))) (by kernel_rfl) ⟨⟨trivial, ⟨trivial, trivial⟩⟩, ⟨tNi 4, ⟨trivial, trivial⟩⟩⟩ (by kernel_rfl)
      · replace h := iteF h15 h
        refine At.gc [2, 4, 8] [(2, 2), (4, 4), (8, 8), (1004, 1004)] (n := 75) (l := [(2, .lptr 2 0 0), (4, .lptr 4 0 0), (8, .lptr 8 0 0)]) (bl := [(2, { sz := 4, rows := [[.sl true (([] : List T_api_Type).map row_T_api_Type), dI 0, d8 0, .str []]], frz := 0, pure := false }), (4, { sz := 4, rows := [[.lsl 1004 0 ((q0.1.map row_T_api_Type).length), dI 0, d8 0, .str []]], frz := 0, pure := false }), (8, { sz := 3, rows := [row_T_api_Type v11.1], frz := 0, pure := false }), (1004, { sz := 3, rows := (q0.1.map row_T_api_Type), frz := 0, pure := true })]) (by kernel_rfl) ?_
        refine At.adv [] [(16, { told := [(2, { ans := .val (dI (q0.1.length : Int)) })], keep := some ([2, 4, 8, 70], [(2, 2), (4, 4), (8, 8), (1004, 1004)]) })] 400 (ev := .cond (decide ((q0.1.length : Int) > 16)) c71x33 c71x34 [.seq c71x35]) (σ' := mkS 75 [(2, .lptr 2 0 0), (4, .lptr 4 0 0), (8, .lptr 8 0 0), (70, .bool (decide ((q0.1.length : Int) > 16)))] [(2, { sz := 4, rows := [[.sl true (([] : List T_api_Type).map row_T_api_Type), dI 0, d8 0, .str []]], frz := 0, pure := false }), (4, { sz := 4, rows := [[.lsl 1004 0 ((q0.1.map row_T_api_Type).length), dI 0, d8 0, .str []]], frz := 0, pure := false }), (8, { sz := 3, rows := [row_T_api_Type v11.1], frz := 0, pure := false }), (1004, { sz := 3, rows := (q0.1.map row_T_api_Type), frz := 0, pure := true })]) (q := [True ∧ ((((q0.1.map row_T_api_Type).length : Nat) : Int) = (q0.1.length : Int))]) (by kernel_rfl) ⟨⟨trivial, lenM _ _⟩, trivial⟩ ?_
        refine EvOk.cond (fun h16 => ?_) (fun h16 => ?_)
        · replace h := iteT h16 h
          refine At.gc [2] [(2, 2)] (n := 75) (l := [(2, .lptr 2 0 0)]) (bl := [(2, { sz := 4, rows := [[.sl true (([] : List T_api_Type).map row_T_api_Type), dI 0, d8 0, .str []]], frz := 0, pure := false })]) (by kernel_rfl) ?_
          refine At.adv [] [(17, { keep := some ([2, 3], [(2, 2)]) })] 400 (ev := .ret) (σ' := mkS 75 [(2, .lptr 2 0 0), (3, dI 5)] [(2, { sz := 4, rows := [[.sl true (([] : List T_api_Type).map row_T_api_Type), dI 0, d8 0, .str []]], frz := 0, pure := false })]) (q := [True ∧ (0 ≤ 0 ∧ 0 + ([.sl true (([] : List T_api_Type).map row_T_api_Type), dI 0, d8 0, .str []] : List D).length ≤ ([.sl true (([] : List T_api_Type).map row_T_api_Type), dI 0, d8 0, .str []] : List D).length ∧ ([[.sl true (([] : List T_api_Type).map row_T_api_Type), dI 0, d8 0, .str []]] : List (List D)) = ([[.sl true (([] : List T_api_Type).map row_T_api_Type), dI 0, d8 0, .str []]] : List (List D)))]) (by kernel_rfl) ⟨⟨trivial, ⟨Nat.zero_le _, Nat.le_of_ble_eq_true rfl, rfl⟩⟩, trivial⟩ ?_
          refine EvOk.ret ?_
          obtain rfl := someE h
          exact Den.Ends.mk (.inl rfl) (d := .tup [.agg [.sl false (([] : List T_api_Type).map row_T_api_Type), dI 0, d8 0, .str []], dI 5]) (p := (True ∧ (True ∧ True)) ∧ ((tN 4) ∧ (True ∧ True))) (by kernel_rfl) ⟨⟨trivial, ⟨trivial, trivial⟩⟩, ⟨tNi 4, ⟨trivial, trivial⟩⟩⟩ (by kernel_rfl)
        · replace h := iteF h16 h
          refine At.gc [2, 4, 8] [(2, 2), (4, 4), (8, 8), (1004, 1004)] (n := 75) (l := [(2, .lptr 2 0 0), (4, .lptr 4 0 0), (8, .lptr 8 0 0)]) (bl := [(2, { sz := 4, rows := [[.sl true (([] : List T_api_Type).map row_T_api_Type), dI 0, d8 0, .str []]], frz := 0, pure := false }), (4, { sz := 4, rows := [[.lsl 1004 0 ((q0.1.map row_T_api_Type).length), dI 0, d8 0, .str []]], frz := 0, pure := false }), (8, { sz := 3, rows := [row_T_api_Type v11.1], frz := 0, pure := false }), (1004, { sz := 3, rows := (q0.1.map row_T_api_Type), frz := 0, pure := true })]) (by kernel_rfl) ?_
          refine At.adv [] [(18, { keep := some ([2, 4], [(2, 2), (4, 4), (1004, 1004)]) }), (19, { keep := some ([2, 3], [(2, 2), (1004, 1004)]) })] 400 (ev := .ret) (σ' := mkS 75 [(2, .lptr 2 0 0), (3, dI 0)] [(2, { sz := 4, rows := [[.lsl 1004 0 ((q0.1.map row_T_api_Type).length), dI v11.1.f_Dim, d8 v11.1.f_Base, .str v11.1.f_Name]], frz := 0, pure := false }), (1004, { sz := 3, rows := (q0.1.map row_T_api_Type), frz := 0, pure := true })]) (q := [True ∧ (0 ≤ 0 ∧ 1 + ([dI v11.1.f_Dim, d8 v11.1.f_Base, .str v11.1.f_Name] : List D).length ≤ ([.lsl 1004 0 ((q0.1.map row_T_api_Type).length), dI 0, d8 0, .str []] : List D).length ∧ ([[.lsl 1004 0 ((q0.1.map row_T_api_Type).length), dI v11.1.f_Dim, d8 v11.1.f_Base, .str v11.1.f_Name]] : List (List D)) = ([[.lsl 1004 0 ((q0.1.map row_T_api_Type).length), dI v11.1.f_Dim, d8 v11.1.f_Base, .str v11.1.f_Name]] : List (List D))), True ∧ (0 ≤ 0 ∧ 0 + ([.lsl 1004 0 ((q0.1.map row_T_api_Type).length), dI v11.1.f_Dim, d8 v11.1.f_Base, .str v11.1.f_Name] : List D).length ≤ ([.sl true (([] : List T_api_Type).map row_T_api_Type), dI 0, d8 0, .str []] : List D).length ∧ ([[.lsl 1004 0 ((q0.1.map row_T_api_Type).length), dI v11.1.f_Dim, d8 v11.1.f_Base, .str v11.1.f_Name]] : List (List D)) = ([[.lsl 1004 0 ((q0.1.map row_T_api_Type).length), dI v11.1.f_Dim, d8 v11.1.f_Base, .str v11.1.f_Name]] : List (List D)))]) (by kernel_rfl) ⟨⟨trivial, ⟨Nat.zero_le _, Nat.le_of_ble_eq_true rfl, rfl⟩⟩, ⟨trivial, ⟨Nat.zero_le _, Nat.le_of_ble_eq_true rfl, rfl⟩⟩, trivial⟩ ?_
          refine EvOk.ret ?_
          obtain rfl := someE h
          exact Den.Ends.mk (.inl rfl) (d := .tup [.agg [.sl false (((q0.1.map row_T_api_Type).drop 0).take (q0.1.map row_T_api_Type).length), dI v11.1.f_Dim, d8 v11.1.f_Base, .str v11.1.f_Name], dI 0]) (p := (True ∧ (True ∧ True)) ∧ (((0 + (q0.1.map row_T_api_Type).length ≤ (q0.1.map row_T_api_Type).length) ∧ (True ∧ (True ∧ (True ∧ True)))) ∧ (True ∧ True))) (by kernel_rfl) ⟨⟨trivial, ⟨trivial, trivial⟩⟩, ⟨⟨roomAll _, ⟨trivial, ⟨trivial, ⟨trivial, trivial⟩⟩⟩⟩, ⟨trivial, trivial⟩⟩⟩ (by simp only [takeAll] <;> kernel_rfl)
  · obtain rfl := someE h
    obtain ⟨rfl, hE⟩ := hJ
    exact At.retK hE
theorem we71 (x0 : List UInt8) (r : T_api_Sig × Int) (h : m_armatureref04_ParseSignature x0 = some r) (Γ : Ctx) : At Try.prog Γ b71 [] (Den.Ends Try.prog Try.f71 (.tup [.agg (row_T_api_Sig r.1), dI r.2])) (mkS 75 [(0, .str x0)] []) := by
  rcases Bool.eq_false_or_eq_true (x0 == ([] : List UInt8)) with h0 | h0
  · replace h := iteT h0 h
    refine At.adv [] [(0, { keep := some ([0, 2], [(2, 2)]) }), (1, { told := [(1, aB true)], keep := some ([0, 2, 16], [(2, 2)]) })] 400 (ev := .cond true c71x3 c71x4 [.seq c71x5]) (σ' := mkS 75 [(0, .str x0), (2, .lptr 2 0 0), (16, .bool true)] [(2, { sz := 4, rows := [[.sl true (([] : List T_api_Type).map row_T_api_Type), dI 0, d8 0, .str []]], frz := 0, pure := false })]) (q := [True ∧ ((x0 == ([] : List UInt8)) = true), True, True, True]) (by kernel_rfl) ⟨⟨trivial, h0⟩, trivial, trivial, trivial, trivial⟩ ?_
    refine EvOk.cond (fun _ => ?_) (fun hb => Bool.noConfusion hb)
    refine At.gc [2] [(2, 2)] (n := 75) (l := [(2, .lptr 2 0 0)]) (bl := [(2, { sz := 4, rows := [[.sl true (([] : List T_api_Type).map row_T_api_Type), dI 0, d8 0, .str []]], frz := 0, pure := false })]) (by kernel_rfl) ?_
    refine At.adv [] [(2, { keep := some ([2, 3], [(2, 2)]) })] 400 (ev := .ret) (σ' := mkS 75 [(2, .lptr 2 0 0), (3, dI 13)] [(2, { sz := 4, rows := [[.sl true (([] : List T_api_Type).map row_T_api_Type), dI 0, d8 0, .str []]], frz := 0, pure := false })]) (q := [True ∧ (0 ≤ 0 ∧ 0 + ([.sl true (([] : List T_api_Type).map row_T_api_Type), dI 0, d8 0, .str []] : List D).length ≤ ([.sl true (([] : List T_api_Type).map row_T_api_Type), dI 0, d8 0, .str []] : List D).length ∧ ([[.sl true (([] : List T_api_Type).map row_T_api_Type), dI 0, d8 0, .str []]] : List (List D)) = ([[.sl true (([] : List T_api_Type).map row_T_api_Type), dI 0, d8 0, .str []]] : List (List D)))]) (by kernel_rfl) ⟨⟨trivial, ⟨Nat.zero_le _, Nat.le_of_ble_eq_true rfl, rfl⟩⟩, trivial⟩ ?_
    refine EvOk.ret ?_
    obtain rfl := someE h
    exact Den.Ends.mk (.inl rfl) (d := .tup [.agg [.sl false (([] : List T_api_Type).map row_T_api_Type), dI 0, d8 0, .str []], dI 13]) (p := (True ∧ (True ∧ True)) ∧ ((tN 4) ∧ (True ∧ True))) (by kernel_rfl) ⟨⟨trivial, ⟨trivial, trivial⟩⟩, ⟨tNi 4, ⟨trivial, trivial⟩⟩⟩ (by kernel_rfl)
  · replace h := iteF h0 h
    obtain ⟨v0, e0, h⟩ := bindE h
    refine At.adv [] [(0, { keep := some ([0, 2], [(2, 2)]) }), (1, { told := [(1, aB false), (4, a8 v0)], keep := some ([0, 2, 16], [(2, 2)]) })] 400 (ev := .cond (v0 != 40) c71x3 c71x4 [.seq c71x5]) (σ' := mkS 75 [(0, .str x0), (2, .lptr 2 0 0), (16, .bool (v0 != 40))] [(2, { sz := 4, rows := [[.sl true (([] : List T_api_Type).map row_T_api_Type), dI 0, d8 0, .str []]], frz := 0, pure := false })]) (q := [True ∧ ((x0 == ([] : List UInt8)) = false), True ∧ True, True ∧ (getS x0 0 = some v0), True ∧ True]) (by kernel_rfl) ⟨⟨trivial, h0⟩, ⟨trivial, trivial⟩, ⟨trivial, e0⟩, ⟨trivial, trivial⟩, trivial⟩ ?_
    refine EvOk.cond (fun h1 => ?_) (fun h1 => ?_)
    · replace h := iteT h1 h
      refine At.gc [2] [(2, 2)] (n := 75) (l := [(2, .lptr 2 0 0)]) (bl := [(2, { sz := 4, rows := [[.sl true (([] : List T_api_Type).map row_T_api_Type), dI 0, d8 0, .str []]], frz := 0, pure := false })]) (by kernel_rfl) ?_
      refine At.adv [] [(2, { keep := some ([2, 3], [(2, 2)]) })] 400 (ev := .ret) (σ' := mkS 75 [(2, .lptr 2 0 0), (3, dI 13)] [(2, { sz := 4, rows := [[.sl true (([] : List T_api_Type).map row_T_api_Type), dI 0, d8 0, .str []]], frz := 0, pure := false })]) (q := [True ∧ (0 ≤ 0 ∧ 0 + ([.sl true (([] : List T_api_Type).map row_T_api_Type), dI 0, d8 0, .str []] : List D).length ≤ ([.sl true (([] : List T_api_Type).map row_T_api_Type), dI 0, d8 0, .str []] : List D).length ∧ ([[.sl true (([] : List T_api_Type).map row_T_api_Type), dI 0, d8 0, .str []]] : List (List D)) = ([[.sl true (([] : List T_api_Type).map row_T_api_Type), dI 0, d8 0, .str []]] : List (List D)))]) (by kernel_rfl) ⟨⟨trivial, ⟨Nat.zero_le _, Nat.le_of_ble_eq_true rfl, rfl⟩⟩, trivial⟩ ?_
      refine EvOk.ret ?_
      obtain rfl := someE h
      exact Den.Ends.mk (.inl rfl) (d := .tup [.agg [.sl false (([] : List T_api_Type).map row_T_api_Type), dI 0, d8 0, .str []], dI 13]) (p := (True ∧ (True ∧ True)) ∧ ((tN 4) ∧ (True ∧ True))) (by kernel_rfl) ⟨⟨trivial, ⟨trivial, trivial⟩⟩, ⟨tNi 4, ⟨trivial, trivial⟩⟩⟩ (by kernel_rfl)
    · replace h := iteF h1 h
      refine At.gc [0, 2] [(2, 2)] (n := 75) (l := [(0, .str x0), (2, .lptr 2 0 0)]) (bl := [(2, { sz := 4, rows := [[.sl true (([] : List T_api_Type).map row_T_api_Type), dI 0, d8 0, .str []]], frz := 0, pure := false })]) (by kernel_rfl) ?_
      refine At.adv [3] [] 400 (ev := .stop c71x6 [.seq c71x7]) (σ' := mkS 75 [(0, .str x0), (2, .lptr 2 0 0)] [(2, { sz := 4, rows := [[.sl true (([] : List T_api_Type).map row_T_api_Type), dI 0, d8 0, .str []]], frz := 0, pure := false })]) (q := []) (by kernel_rfl) trivial ?_
      exact (wj71x1 x0)  r h Γ
theorem w71 {x0 : List UInt8} {r : T_api_Sig × Int} (h : m_armatureref04_ParseSignature x0 = some r) : CallSpec Try.prog 71 [.str x0] (.tup [.agg (row_T_api_Sig r.1), .int .i64 r.2]) :=
  CallSpec.at2 b71 (n := 75) (l := [(0, .str x0)]) (by kernel_rfl) (by kernel_rfl) (by kernel_rfl) (by kernel_rfl) (by kernel_rfl) (Nat.le_of_ble_eq_true (by kernel_rfl)) (fun Γ => we71 x0 r h Γ)

/-! ### armature armatureref05.descriptor -/
noncomputable def b62 : Code := Try.f62.body.getD .skip
noncomputable def c62x0 : Code := sub1 b62
noncomputable def c62x1 : Code := sub1 c62x0
noncomputable def c62x2 : Code := sub0 c62x1
noncomputable def c62x3 : Code := sub1 c62x2
noncomputable def c62x4 : Code := sub0 c62x3
noncomputable def c62x5 : Code := sub1 c62x3
noncomputable def c62x6 : Code := sub1 c62x1
def m_armatureref05_descriptor (x0 : List UInt8) : Option (Bool) :=
  (m_armatureref04_Parse x0).bind fun v0 =>
  if (v0.2 == 0) = true then
    (some (v0.1.f_Base != 86)) else
  ((m_armatureref04_ParseSignature x0).bind fun v1 =>
    some (v1.2 == 0))
theorem we62 (x0 : List UInt8) (r : Bool) (h : m_armatureref05_descriptor x0 = some r) (Γ : Ctx) : At Try.prog Γ b62 [] (Den.Ends Try.prog Try.f62 (.bool r)) (mkS 22 [(0, .str x0)] []) := by
  obtain ⟨v0, e0, h⟩ := bindE h
  refine At.adv [] [(0, { keep := some ([0], []) }), (1, { told := [(1, { ans := .val (.tup [.agg (row_T_api_Type v0.1), dI v0.2]) })], keep := some ([0, 3, 4], [(3, 3)]) }), (2, { keep := some ([0, 3, 11], [(3, 3)]) })] 400 (ev := .cond (v0.2 == 0) c62x4 c62x5 [.seq c62x6]) (σ' := mkS 22 [(0, .str x0), (3, .lptr 3 0 0), (11, .bool (v0.2 == 0))] [(3, { sz := 3, rows := [row_T_api_Type v0.1], frz := 0, pure := false })]) (q := [True ∧ (cq Try.prog (tN 1) 69 [.str x0] (.tup [.agg (row_T_api_Type v0.1), dI v0.2])), True ∧ (0 ≤ 0 ∧ 0 + ([dI v0.1.f_Dim, d8 v0.1.f_Base, .str v0.1.f_Name] : List D).length ≤ ([dI 0, d8 0, .str []] : List D).length ∧ ([[dI v0.1.f_Dim, d8 v0.1.f_Base, .str v0.1.f_Name]] : List (List D)) = ([[dI v0.1.f_Dim, d8 v0.1.f_Base, .str v0.1.f_Name]] : List (List D)))]) (by kernel_rfl) ⟨⟨trivial, cqi (tNi 1) (w69 e0)⟩, ⟨trivial, ⟨Nat.zero_le _, Nat.le_of_ble_eq_true rfl, rfl⟩⟩, trivial⟩ ?_
  refine EvOk.cond (fun h0 => ?_) (fun h0 => ?_)
  · replace h := iteT h0 h
    refine At.gc [3] [(3, 3)] (n := 22) (l := [(3, .lptr 3 0 0)]) (bl := [(3, { sz := 3, rows := [row_T_api_Type v0.1], frz := 0, pure := false })]) (by kernel_rfl) ?_
    refine At.adv [] [(3, { keep := some ([2], []) })] 400 (ev := .ret) (σ' := mkS 22 [(2, .bool (v0.1.f_Base != 86))] []) (q := []) (by kernel_rfl) trivial ?_
    refine EvOk.ret ?_
    obtain rfl := someE h
    exact Den.Ends.mk (.inl rfl) (d := .bool (v0.1.f_Base != 86)) (p := (True ∧ True) ∧ (tN 1)) (by kernel_rfl) ⟨⟨trivial, trivial⟩, tNi 1⟩ (by kernel_rfl)
  · replace h := iteF h0 h
    refine At.gc [0] [] (n := 22) (l := [(0, .str x0)]) (bl := []) (by kernel_rfl) ?_
    obtain ⟨v1, e1, h⟩ := bindE h
    refine At.adv [] [(4, { told := [(1, { ans := .val (.tup [.agg (row_T_api_Sig v1.1), dI v1.2]) })], keep := some ([4], []) }), (5, { keep := some ([2], []) })] 400 (ev := .ret) (σ' := mkS 22 [(2, .bool (v1.2 == 0))] []) (q := [True ∧ (cq Try.prog (tN 1) 71 [.str x0] (.tup [.agg (row_T_api_Sig v1.1), dI v1.2]))]) (by kernel_rfl) ⟨⟨trivial, cqi (tNi 1) (w71 e1)⟩, trivial⟩ ?_
    refine EvOk.ret ?_
    obtain rfl := someE h
    exact Den.Ends.mk (.inl rfl) (d := .bool (v1.2 == 0)) (p := (True ∧ True) ∧ (tN 1)) (by kernel_rfl) ⟨⟨trivial, trivial⟩, tNi 1⟩ (by kernel_rfl)
theorem w62 {x0 : List UInt8} {r : Bool} (h : m_armatureref05_descriptor x0 = some r) : CallSpec Try.prog 62 [.str x0] (.bool r) :=
  CallSpec.at2 b62 (n := 22) (l := [(0, .str x0)]) (by kernel_rfl) (by kernel_rfl) (by kernel_rfl) (by kernel_rfl) (by kernel_rfl) (Nat.le_of_ble_eq_true (by kernel_rfl)) (fun Γ => we62 x0 r h Γ)

/-! ### armature armatureref05.NameAndType -/
noncomputable def b21 : Code := Try.f21.body.getD .skip
noncomputable def c21x0 : Code := sub1 b21
noncomputable def c21x1 : Code := sub1 c21x0
noncomputable def c21x2 : Code := sub1 c21x1
noncomputable def c21x3 : Code := sub1 c21x2
noncomputable def c21x4 : Code := sub1 c21x3
noncomputable def c21x5 : Code := sub1 c21x4
noncomputable def c21x6 : Code := sub0 c21x5
noncomputable def c21x7 : Code := sub1 c21x6
noncomputable def c21x8 : Code := sub0 c21x7
noncomputable def c21x9 : Code := sub1 c21x7
noncomputable def c21x10 : Code := sub1 c21x5
noncomputable def c21x11 : Code := sub0 c21x3
noncomputable def c21x12 : Code := sub1 c21x11
noncomputable def c21x13 : Code := sub0 c21x12
noncomputable def c21x14 : Code := sub1 c21x12
noncomputable def c21x15 : Code := sub0 c21x1
noncomputable def c21x16 : Code := sub1 c21x15
noncomputable def c21x17 : Code := sub0 c21x16
noncomputable def c21x18 : Code := sub1 c21x16
def m_armatureref05_NameAndType (x0 : List T_api_Const) (x1 : Int) : Option ((List UInt8) × (List UInt8) × Int) :=
  (m_armatureref05_get x0 x1 12).bind fun v0 =>
  if (v0.2 != 0) = true then
    (some ([], [], v0.2)) else
  ((m_armatureref05_UTF8 x0 v0.1.f_A).bind fun v1 =>
    if (v1.2 != 0) = true then
      (some ([], [], v1.2)) else
    ((m_armatureref05_UTF8 x0 v0.1.f_B).bind fun v2 =>
      if (v2.2 != 0) = true then
        (some ([], [], v2.2)) else
      (some (v1.1, v2.1, 0))))
theorem we21 (x0 : List T_api_Const) (x1 : Int) (r : (List UInt8) × (List UInt8) × Int) (h : m_armatureref05_NameAndType x0 x1 = some r) (Γ : Ctx) : At Try.prog Γ b21 [] (Den.Ends Try.prog Try.f21 (.tup [.str r.1, .str r.2.1, dI r.2.2])) (mkS 42 [(0, .sl false (x0.map row_T_api_Const)), (1, dI x1)] []) := by
  obtain ⟨v0, e0, h⟩ := bindE h
  refine At.adv [] [(0, { keep := some ([0, 1], []) }), (1, { told := [(2, { ans := .val (.tup [.agg (row_T_api_Const v0.1), dI v0.2]) })], keep := some ([0, 7, 8], [(7, 7)]) }), (2, { keep := some ([0, 7, 8, 18], [(7, 7)]) })] 400 (ev := .cond (v0.2 != 0) c21x17 c21x18 [.seq c21x2]) (σ' := mkS 42 [(0, .sl false (x0.map row_T_api_Const)), (7, .lptr 7 0 0), (8, dI v0.2), (18, .bool (v0.2 != 0))] [(7, { sz := 5, rows := [row_T_api_Const v0.1], frz := 0, pure := false })]) (q := [True ∧ (cq Try.prog (tN 3) 39 [.sl false (x0.map row_T_api_Const), dI x1, dI 12] (.tup [.agg (row_T_api_Const v0.1), dI v0.2])), True ∧ (0 ≤ 0 ∧ 0 + ([dI v0.1.f_Tag, .str v0.1.f_S, dI v0.1.f_N, dI v0.1.f_A, dI v0.1.f_B] : List D).length ≤ ([dI 0, .str [], dI 0, dI 0, dI 0] : List D).length ∧ ([[dI v0.1.f_Tag, .str v0.1.f_S, dI v0.1.f_N, dI v0.1.f_A, dI v0.1.f_B]] : List (List D)) = ([[dI v0.1.f_Tag, .str v0.1.f_S, dI v0.1.f_N, dI v0.1.f_A, dI v0.1.f_B]] : List (List D)))]) (by kernel_rfl) ⟨⟨trivial, cqi (tNi 3) (w39 e0)⟩, ⟨trivial, ⟨Nat.zero_le _, Nat.le_of_ble_eq_true rfl, rfl⟩⟩, trivial⟩ ?_
  refine EvOk.cond (fun h0 => ?_) (fun h0 => ?_)
  · replace h := iteT h0 h
    refine At.gc [8] [] (n := 42) (l := [(8, dI v0.2)]) (bl := []) (by kernel_rfl) ?_
    refine At.adv [] [(3, { keep := some ([4, 5, 6], []) })] 400 (ev := .ret) (σ' := mkS 42 [(4, .str []), (5, .str []), (6, dI v0.2)] []) (q := []) (by kernel_rfl) trivial ?_
    refine EvOk.ret ?_
    obtain rfl := someE h
    exact Den.Ends.mk (.inl rfl) (d := .tup [.str [], .str [], dI v0.2]) (p := (True ∧ (True ∧ (True ∧ True))) ∧ (tN 3)) (by kernel_rfl) ⟨⟨trivial, ⟨trivial, ⟨trivial, trivial⟩⟩⟩, tNi 3⟩ (by kernel_rfl)
  · replace h := iteF h0 h
    refine At.gc [0, 7] [(7, 7)] (n := 42) (l := [(0, .sl false (x0.map row_T_api_Const)), (7, .lptr 7 0 0)]) (bl := [(7, { sz := 5, rows := [row_T_api_Const v0.1], frz := 0, pure := false })]) (by kernel_rfl) ?_
    obtain ⟨v1, e1, h⟩ := bindE h
    refine At.adv [] [(4, { told := [(3, { ans := .val (.tup [.str v1.1, dI v1.2]) })], keep := some ([0, 7, 8, 9], [(7, 7)]) }), (5, { keep := some ([0, 7, 8, 9, 28], [(7, 7)]) })] 400 (ev := .cond (v1.2 != 0) c21x13 c21x14 [.seq c21x4]) (σ' := mkS 42 [(0, .sl false (x0.map row_T_api_Const)), (7, .lptr 7 0 0), (8, dI v1.2), (9, .str v1.1), (28, .bool (v1.2 != 0))] [(7, { sz := 5, rows := [row_T_api_Const v0.1], frz := 0, pure := false })]) (q := [True ∧ (cq Try.prog (tN 2) 15 [.sl false (x0.map row_T_api_Const), dI v0.1.f_A] (.tup [.str v1.1, dI v1.2]))]) (by kernel_rfl) ⟨⟨trivial, cqi (tNi 2) (w15 e1)⟩, trivial⟩ ?_
    refine EvOk.cond (fun h1 => ?_) (fun h1 => ?_)
    · replace h := iteT h1 h
      refine At.gc [8] [] (n := 42) (l := [(8, dI v1.2)]) (bl := []) (by kernel_rfl) ?_
      refine At.adv [] [(6, { keep := some ([4, 5, 6], []) })] 400 (ev := .ret) (σ' := mkS 42 [(4, .str []), (5, .str []), (6, dI v1.2)] []) (q := []) (by kernel_rfl) trivial ?_
      refine EvOk.ret ?_
      obtain rfl := someE h
      exact Den.Ends.mk (.inl rfl) (d := .tup [.str [], .str [], dI v1.2]) (p := (True ∧ (True ∧ (True ∧ True))) ∧ (tN 3)) (by kernel_rfl) ⟨⟨trivial, ⟨trivial, ⟨trivial, trivial⟩⟩⟩, tNi 3⟩ (by kernel_rfl)
    · replace h := iteF h1 h
      refine At.gc [0, 7, 9] [(7, 7)] (n := 42) (l := [(0, .sl false (x0.map row_T_api_Const)), (7, .lptr 7 0 0), (9, .str v1.1)]) (bl := [(7, { sz := 5, rows := [row_T_api_Const v0.1], frz := 0, pure := false })]) (by kernel_rfl) ?_
      obtain ⟨v2, e2, h⟩ := bindE h
      refine At.adv [] [(7, { told := [(3, { ans := .val (.tup [.str v2.1, dI v2.2]) })], keep := some ([8, 9, 10], []) }), (8, { keep := some ([8, 9, 10, 38], []) })] 400 (ev := .cond (v2.2 != 0) c21x8 c21x9 [.seq c21x10]) (σ' := mkS 42 [(8, dI v2.2), (9, .str v1.1), (10, .str v2.1), (38, .bool (v2.2 != 0))] []) (q := [True ∧ (cq Try.prog (tN 2) 15 [.sl false (x0.map row_T_api_Const), dI v0.1.f_B] (.tup [.str v2.1, dI v2.2]))]) (by kernel_rfl) ⟨⟨trivial, cqi (tNi 2) (w15 e2)⟩, trivial⟩ ?_
      refine EvOk.cond (fun h2 => ?_) (fun h2 => ?_)
      · replace h := iteT h2 h
        refine At.gc [8] [] (n := 42) (l := [(8, dI v2.2)]) (bl := []) (by kernel_rfl) ?_
        refine At.adv [] [(9, { keep := some ([4, 5, 6], []) })] 400 (ev := .ret) (σ' := mkS 42 [(4, .str []), (5, .str []), (6, dI v2.2)] []) (q := []) (by kernel_rfl) trivial ?_
        refine EvOk.ret ?_
        obtain rfl := someE h
        exact Den.Ends.mk (.inl rfl) (d := .tup [.str [], .str [], dI v2.2]) (p := (True ∧ (True ∧ (True ∧ True))) ∧ (tN 3)) (by kernel_rfl) ⟨⟨trivial, ⟨trivial, ⟨trivial, trivial⟩⟩⟩, tNi 3⟩ (by kernel_rfl)
      · replace h := iteF h2 h
        refine At.gc [9, 10] [] (n := 42) (l := [(9, .str v1.1), (10, .str v2.1)]) (bl := []) (by kernel_rfl) ?_
        refine At.adv [] [(10, { keep := some ([4, 5, 6], []) })] 400 (ev := .ret) (σ' := mkS 42 [(4, .str v1.1), (5, .str v2.1), (6, dI 0)] []) (q := []) (by kernel_rfl) trivial ?_
        refine EvOk.ret ?_
        obtain rfl := someE h
        exact Den.Ends.mk (.inl rfl) (d := .tup [.str v1.1, .str v2.1, dI 0]) (p := (True ∧ (True ∧ (True ∧ True))) ∧ (tN 3)) (by kernel_rfl) ⟨⟨trivial, ⟨trivial, ⟨trivial, trivial⟩⟩⟩, tNi 3⟩ (by kernel_rfl)
theorem w21 {x0 : List T_api_Const} {x1 : Int} {r : (List UInt8) × (List UInt8) × Int} (h : m_armatureref05_NameAndType x0 x1 = some r) : CallSpec Try.prog 21 [.sl false (x0.map row_T_api_Const), .int .i64 x1] (.tup [.str r.1, .str r.2.1, .int .i64 r.2.2]) :=
  CallSpec.at2 b21 (n := 42) (l := [(0, .sl false (x0.map row_T_api_Const)), (1, .int .i64 x1)]) (by kernel_rfl) (by kernel_rfl) (by kernel_rfl) (by kernel_rfl) (by kernel_rfl) (Nat.le_of_ble_eq_true (by kernel_rfl)) (fun Γ => we21 x0 x1 r h Γ)

/-! ### armature armatureref05.named -/
noncomputable def b63 : Code := Try.f63.body.getD .skip
noncomputable def c63x0 : Code := sub1 b63
noncomputable def c63x1 : Code := sub1 c63x0
noncomputable def c63x2 : Code := sub1 c63x1
noncomputable def c63x3 : Code := sub0 c63x2
noncomputable def c63x4 : Code := sub1 c63x3
noncomputable def c63x5 : Code := sub0 c63x4
noncomputable def c63x6 : Code := sub0 c63x5
noncomputable def c63x7 : Code := sub1 c63x6
noncomputable def c63x8 : Code := sub0 c63x7
noncomputable def c63x9 : Code := sub1 c63x7
noncomputable def c63x10 : Code := sub1 c63x5
noncomputable def c63x11 : Code := sub1 c63x2
noncomputable def c63x12 : Code := sub0 c63x11
noncomputable def c63x13 : Code := sub1 c63x12
noncomputable def c63x14 : Code := sub0 c63x13
noncomputable def c63x15 : Code := sub1 c63x13
noncomputable def c63x16 : Code := sub1 c63x11
noncomputable def c63x17 : Code := sub0 c63x12
noncomputable def c63x18 : Code := sub1 c63x4
noncomputable def c63x19 : Code := sub0 c63x1
noncomputable def c63x20 : Code := sub1 c63x19
noncomputable def c63x21 : Code := sub0 c63x20
noncomputable def c63x22 : Code := sub1 c63x20
def m_armatureref05_named (x0 : Int) (x1 : List UInt8) (x2 : List UInt8) : Option (Int) :=
  (m_armatureref04_ParseSignature x2).bind fun v0 =>
  if ((v0.2 == 0) == (x0 == 9)) = true then
    (some 13) else
  (if (x0 == 9) = true then
      (if (decide ((x1.length : Int) > 0)) = true then ((getS x1 0).bind fun v1 =>
      if (v1 == 60) = true then
        (some 12) else
      (some 0)) else
      (some 0)) else
    (if (x1 == ([60, 99, 108, 105, 110, 105, 116, 62] : List UInt8)) = true then (some 12) else
      (if (x1 == ([60, 105, 110, 105, 116, 62] : List UInt8)) = true then (if (x0 == 11) = true then (some 12) else
          (if (v0.1.f_Result.f_Base != 86) = true then
              (some 12) else
            (some 0))) else
        (some 0))))
theorem we63 (x0 : Int) (x1 : List UInt8) (x2 : List UInt8) (r : Int) (h : m_armatureref05_named x0 x1 x2 = some r) (Γ : Ctx) : At Try.prog Γ b63 [] (Den.Ends Try.prog Try.f63 (dI r)) (mkS 45 [(0, dI x0), (1, .str x1), (2, .str x2)] []) := by
  obtain ⟨v0, e0, h⟩ := bindE h
  refine At.adv [] [(0, { keep := some ([0, 1, 2], []) }), (1, { told := [(1, { ans := .val (.tup [.agg (row_T_api_Sig v0.1), dI v0.2]) })], keep := some ([0, 1, 7, 8], [(7, 7)]) }), (2, { keep := some ([0, 1, 7, 18], [(7, 7)]) })] 400 (ev := .cond ((v0.2 == 0) == (x0 == 9)) c63x21 c63x22 [.seq c63x2]) (σ' := mkS 45 [(0, dI x0), (1, .str x1), (7, .lptr 7 0 0), (18, .bool ((v0.2 == 0) == (x0 == 9)))] [(7, { sz := 4, rows := [row_T_api_Sig v0.1], frz := 0, pure := false })]) (q := [True ∧ (cq Try.prog (tN 1) 71 [.str x2] (.tup [.agg (row_T_api_Sig v0.1), dI v0.2])), True ∧ (0 ≤ 0 ∧ 0 + ([.sl false (v0.1.f_Params.map row_T_api_Type), dI v0.1.f_Result.f_Dim, d8 v0.1.f_Result.f_Base, .str v0.1.f_Result.f_Name] : List D).length ≤ ([.sl true (([] : List T_api_Type).map row_T_api_Type), dI 0, d8 0, .str []] : List D).length ∧ ([[.sl false (v0.1.f_Params.map row_T_api_Type), dI v0.1.f_Result.f_Dim, d8 v0.1.f_Result.f_Base, .str v0.1.f_Result.f_Name]] : List (List D)) = ([[.sl false (v0.1.f_Params.map row_T_api_Type), dI v0.1.f_Result.f_Dim, d8 v0.1.f_Result.f_Base, .str v0.1.f_Result.f_Name]] : List (List D)))]) (by kernel_rfl) ⟨⟨trivial, cqi (tNi 1) (w71 e0)⟩, ⟨trivial, ⟨Nat.zero_le _, Nat.le_of_ble_eq_true rfl, rfl⟩⟩, trivial⟩ ?_
  refine EvOk.cond (fun h0 => ?_) (fun h0 => ?_)
  · replace h := iteT h0 h
    refine At.gc [] [] (n := 45) (l := []) (bl := []) (by kernel_rfl) ?_
    refine At.adv [] [(3, { keep := some ([6], []) })] 400 (ev := .ret) (σ' := mkS 45 [(6, dI 13)] []) (q := []) (by kernel_rfl) trivial ?_
    refine EvOk.ret ?_
    obtain rfl := someE h
    exact Den.Ends.mk (.inl rfl) (d := dI 13) (p := (True ∧ True) ∧ (tN 1)) (by kernel_rfl) ⟨⟨trivial, trivial⟩, tNi 1⟩ (by kernel_rfl)
  · replace h := iteF h0 h
    refine At.gc [0, 1, 7] [(7, 7)] (n := 45) (l := [(0, dI x0), (1, .str x1), (7, .lptr 7 0 0)]) (bl := [(7, { sz := 4, rows := [row_T_api_Sig v0.1], frz := 0, pure := false })]) (by kernel_rfl) ?_
    refine At.adv [] [(4, { keep := some ([0, 1, 7, 20], [(7, 7)]) })] 400 (ev := .cond (x0 == 9) c63x5 c63x18 [.seq c63x11]) (σ' := mkS 45 [(0, dI x0), (1, .str x1), (7, .lptr 7 0 0), (20, .bool (x0 == 9))] [(7, { sz := 4, rows := [row_T_api_Sig v0.1], frz := 0, pure := false })]) (q := []) (by kernel_rfl) trivial ?_
    refine EvOk.cond (fun h1 => ?_) (fun h1 => ?_)
    · replace h := iteT h1 h
      refine At.gc [1] [] (n := 45) (l := [(1, .str x1)]) (bl := []) (by kernel_rfl) ?_
      rcases Bool.eq_false_or_eq_true (decide ((x1.length : Int) > 0)) with h2 | h2
      · replace h := iteT h2 h
        obtain ⟨v1, e1, h⟩ := bindE h
        refine At.adv [] [(5, { told := [(2, aB true), (5, a8 v1)], keep := some ([28], []) })] 400 (ev := .cond (v1 == 60) c63x8 c63x9 [.seq c63x10, .seq c63x11]) (σ' := mkS 45 [(28, .bool (v1 == 60))] []) (q := [True ∧ ((decide ((x1.length : Int) > 0)) = true), True ∧ True, True ∧ (getS x1 0 = some v1), True ∧ True]) (by kernel_rfl) ⟨⟨trivial, h2⟩, ⟨trivial, trivial⟩, ⟨trivial, e1⟩, ⟨trivial, trivial⟩, trivial⟩ ?_
        refine EvOk.cond (fun h3 => ?_) (fun h3 => ?_)
        · replace h := iteT h3 h
          refine At.gc [] [] (n := 45) (l := []) (bl := []) (by kernel_rfl) ?_
          refine At.adv [] [(6, { keep := some ([6], []) })] 400 (ev := .ret) (σ' := mkS 45 [(6, dI 12)] []) (q := []) (by kernel_rfl) trivial ?_
          refine EvOk.ret ?_
          obtain rfl := someE h
          exact Den.Ends.mk (.inl rfl) (d := dI 12) (p := (True ∧ True) ∧ (tN 1)) (by kernel_rfl) ⟨⟨trivial, trivial⟩, tNi 1⟩ (by kernel_rfl)
        · replace h := iteF h3 h
          refine At.gc [] [] (n := 45) (l := []) (bl := []) (by kernel_rfl) ?_
          refine At.adv [] [(7, { keep := some ([6], []) })] 400 (ev := .ret) (σ' := mkS 45 [(6, dI 0)] []) (q := []) (by kernel_rfl) trivial ?_
          refine EvOk.ret ?_
          obtain rfl := someE h
          exact Den.Ends.mk (.inl rfl) (d := dI 0) (p := (True ∧ True) ∧ (tN 1)) (by kernel_rfl) ⟨⟨trivial, trivial⟩, tNi 1⟩ (by kernel_rfl)
      · replace h := iteF h2 h
        refine At.adv [] [(5, { told := [(2, aB false)], keep := some ([28], []) })] 400 (ev := .cond false c63x8 c63x9 [.seq c63x10, .seq c63x11]) (σ' := mkS 45 [(28, .bool false)] []) (q := [True ∧ ((decide ((x1.length : Int) > 0)) = false), True, True, True]) (by kernel_rfl) ⟨⟨trivial, h2⟩, trivial, trivial, trivial, trivial⟩ ?_
        refine EvOk.cond (fun hb => Bool.noConfusion hb) (fun _ => ?_)
        refine At.gc [] [] (n := 45) (l := []) (bl := []) (by kernel_rfl) ?_
        refine At.adv [] [(7, { keep := some ([6], []) })] 400 (ev := .ret) (σ' := mkS 45 [(6, dI 0)] []) (q := []) (by kernel_rfl) trivial ?_
        refine EvOk.ret ?_
        obtain rfl := someE h
        exact Den.Ends.mk (.inl rfl) (d := dI 0) (p := (True ∧ True) ∧ (tN 1)) (by kernel_rfl) ⟨⟨trivial, trivial⟩, tNi 1⟩ (by kernel_rfl)
    · replace h := iteF h1 h
      refine At.gc [0, 1, 7] [(7, 7)] (n := 45) (l := [(0, dI x0), (1, .str x1), (7, .lptr 7 0 0)]) (bl := [(7, { sz := 4, rows := [row_T_api_Sig v0.1], frz := 0, pure := false })]) (by kernel_rfl) ?_
      refine At.adv [8] [] 400 (ev := .stop c63x17 [.seq c63x13, .seq c63x16]) (σ' := mkS 45 [(0, dI x0), (1, .str x1), (7, .lptr 7 0 0)] [(7, { sz := 4, rows := [row_T_api_Sig v0.1], frz := 0, pure := false })]) (q := []) (by kernel_rfl) trivial ?_
      refine EvOk.stop (At.ops (l := iv 0 16) (by kernel_rfl) (by kernel_rfl) ?_)
      refine AtOps.run (iv 0 3) (iv 3 13) [] [] [0, 1, 7, 31] [(7, 7)] (n := 45) (sl := [(0, dI x0), (1, .str x1), (7, .lptr 7 0 0), (31, .bool (x1 == ([60, 99, 108, 105, 110, 105, 116, 62] : List UInt8)))]) (bl := [(7, { sz := 4, rows := [row_T_api_Sig v0.1], frz := 0, pure := false })]) (q := []) (by kernel_rfl) (by kernel_rfl) trivial ?_
      rcases Bool.eq_false_or_eq_true (x1 == ([60, 99, 108, 105, 110, 105, 116, 62] : List UInt8)) with h4 | h4
      · replace h := iteT h4 h
        refine AtOps.run (iv 3 13) (iv 16 0) [(15, aT)] [(3, false), (4, false), (5, false), (14, false)] [44] [] (n := 45) (sl := [(44, .bool true)]) (bl := []) (q := [((x1 == ([60, 99, 108, 105, 110, 105, 116, 62] : List UInt8)) == false) = false, ((x1 == ([60, 99, 108, 105, 110, 105, 116, 62] : List UInt8)) == false) = false, ((x1 == ([60, 99, 108, 105, 110, 105, 116, 62] : List UInt8)) == false) = false, True, True, True, True, True, True, True, True, ((x1 == ([60, 99, 108, 105, 110, 105, 116, 62] : List UInt8)) == false) = false, True ∧ ((x1 == ([60, 99, 108, 105, 110, 105, 116, 62] : List UInt8)) = true)]) (by kernel_rfl) (by kernel_rfl) ⟨gB h4 rfl, gB h4 rfl, gB h4 rfl, trivial, trivial, trivial, trivial, trivial, trivial, trivial, trivial, gB h4 rfl, ⟨trivial, h4⟩, trivial⟩ ?_
        refine AtOps.done ?_
        refine At.advN [] [] 400 (ev := .cond true c63x14 c63x15 [.seq c63x16]) (σ' := mkS 45 [(44, .bool true)] []) (q := []) (by kernel_rfl) trivial ?_
        refine EvOk.cond (fun _ => ?_) (fun hb => Bool.noConfusion hb)
        refine At.gc [] [] (n := 45) (l := []) (bl := []) (by kernel_rfl) ?_
        refine At.adv [] [(9, { keep := some ([6], []) })] 400 (ev := .ret) (σ' := mkS 45 [(6, dI 12)] []) (q := []) (by kernel_rfl) trivial ?_
        refine EvOk.ret ?_
        obtain rfl := someE h
        exact Den.Ends.mk (.inl rfl) (d := dI 12) (p := (True ∧ True) ∧ (tN 1)) (by kernel_rfl) ⟨⟨trivial, trivial⟩, tNi 1⟩ (by kernel_rfl)
      · replace h := iteF h4 h
        refine AtOps.run (iv 3 3) (iv 6 10) [] [(3, true), (4, true), (5, true)] [0, 7, 31, 34] [(7, 7)] (n := 45) (sl := [(0, dI x0), (7, .lptr 7 0 0), (31, .bool (x1 == ([60, 99, 108, 105, 110, 105, 116, 62] : List UInt8))), (34, .bool (x1 == ([60, 105, 110, 105, 116, 62] : List UInt8)))]) (bl := [(7, { sz := 4, rows := [row_T_api_Sig v0.1], frz := 0, pure := false })]) (q := [((x1 == ([60, 99, 108, 105, 110, 105, 116, 62] : List UInt8)) == false) = true ∧ True, ((x1 == ([60, 99, 108, 105, 110, 105, 116, 62] : List UInt8)) == false) = true ∧ True, ((x1 == ([60, 99, 108, 105, 110, 105, 116, 62] : List UInt8)) == false) = true ∧ True]) (by kernel_rfl) (by kernel_rfl) ⟨⟨(gB h4 rfl), trivial⟩, ⟨(gB h4 rfl), trivial⟩, ⟨(gB h4 rfl), trivial⟩, trivial⟩ ?_
        rcases Bool.eq_false_or_eq_true (x1 == ([60, 105, 110, 105, 116, 62] : List UInt8)) with h5 | h5
        · replace h := iteT h5 h
          refine AtOps.run (iv 6 3) (iv 9 7) [] [(6, true), (7, true), (8, true)] [7, 31, 34, 37] [(7, 7)] (n := 45) (sl := [(7, .lptr 7 0 0), (31, .bool (x1 == ([60, 99, 108, 105, 110, 105, 116, 62] : List UInt8))), (34, .bool (x1 == ([60, 105, 110, 105, 116, 62] : List UInt8))), (37, .bool (x0 == 11))]) (bl := [(7, { sz := 4, rows := [row_T_api_Sig v0.1], frz := 0, pure := false })]) (q := [((x1 == ([60, 105, 110, 105, 116, 62] : List UInt8)) == true) = true ∧ True, ((x1 == ([60, 105, 110, 105, 116, 62] : List UInt8)) == true) = true ∧ True, ((x1 == ([60, 105, 110, 105, 116, 62] : List UInt8)) == true) = true ∧ True]) (by kernel_rfl) (by kernel_rfl) ⟨⟨(gB h5 rfl), trivial⟩, ⟨(gB h5 rfl), trivial⟩, ⟨(gB h5 rfl), trivial⟩, trivial⟩ ?_
          rcases Bool.eq_false_or_eq_true (x0 == 11) with h6 | h6
          · replace h := iteT h6 h
            refine AtOps.run (iv 9 7) (iv 16 0) [(13, aT), (14, aT), (15, aF)] [(9, false), (10, false), (11, false), (12, false), (13, true), (14, true)] [44] [] (n := 45) (sl := [(44, .bool true)]) (bl := []) (q := [((x0 == 11) == false) = false, ((x0 == 11) == false) = false, ((x0 == 11) == false) = false, ((x0 == 11) == false) = false, ((x1 == ([60, 105, 110, 105, 116, 62] : List UInt8)) == true) = true ∧ ((x0 == 11) = true), ((x1 == ([60, 99, 108, 105, 110, 105, 116, 62] : List UInt8)) == false) = true ∧ ((x1 == ([60, 105, 110, 105, 116, 62] : List UInt8)) = true), True ∧ ((x1 == ([60, 99, 108, 105, 110, 105, 116, 62] : List UInt8)) = false)]) (by kernel_rfl) (by kernel_rfl) ⟨gB h6 rfl, gB h6 rfl, gB h6 rfl, gB h6 rfl, ⟨(gB h5 rfl), h6⟩, ⟨(gB h4 rfl), h5⟩, ⟨trivial, h4⟩, trivial⟩ ?_
            refine AtOps.done ?_
            refine At.advN [] [] 400 (ev := .cond true c63x14 c63x15 [.seq c63x16]) (σ' := mkS 45 [(44, .bool true)] []) (q := []) (by kernel_rfl) trivial ?_
            refine EvOk.cond (fun _ => ?_) (fun hb => Bool.noConfusion hb)
            refine At.gc [] [] (n := 45) (l := []) (bl := []) (by kernel_rfl) ?_
            refine At.adv [] [(9, { keep := some ([6], []) })] 400 (ev := .ret) (σ' := mkS 45 [(6, dI 12)] []) (q := []) (by kernel_rfl) trivial ?_
            refine EvOk.ret ?_
            obtain rfl := someE h
            exact Den.Ends.mk (.inl rfl) (d := dI 12) (p := (True ∧ True) ∧ (tN 1)) (by kernel_rfl) ⟨⟨trivial, trivial⟩, tNi 1⟩ (by kernel_rfl)
          · replace h := iteF h6 h
            refine AtOps.run (iv 9 7) (iv 16 0) [(13, aF), (14, aT), (15, aF)] [(9, true), (10, true), (11, true), (12, true), (13, true), (14, true)] [44] [] (n := 45) (sl := [(44, .bool (v0.1.f_Result.f_Base != 86))]) (bl := []) (q := [((x0 == 11) == false) = true ∧ True, ((x0 == 11) == false) = true ∧ True, ((x0 == 11) == false) = true ∧ True, ((x0 == 11) == false) = true ∧ True, ((x1 == ([60, 105, 110, 105, 116, 62] : List UInt8)) == true) = true ∧ ((x0 == 11) = false), ((x1 == ([60, 99, 108, 105, 110, 105, 116, 62] : List UInt8)) == false) = true ∧ ((x1 == ([60, 105, 110, 105, 116, 62] : List UInt8)) = true), True ∧ ((x1 == ([60, 99, 108, 105, 110, 105, 116, 62] : List UInt8)) = false)]) (by kernel_rfl) (by kernel_rfl) ⟨⟨(gB h6 rfl), trivial⟩, ⟨(gB h6 rfl), trivial⟩, ⟨(gB h6 rfl), trivial⟩, ⟨(gB h6 rfl), trivial⟩, ⟨(gB h5 rfl), h6⟩, ⟨(gB h4 rfl), h5⟩, ⟨trivial, h4⟩, trivial⟩ ?_
            refine AtOps.done ?_
            refine At.advN [] [] 400 (ev := .cond (v0.1.f_Result.f_Base != 86) c63x14 c63x15 [.seq c63x16]) (σ' := mkS 45 [(44, .bool (v0.1.f_Result.f_Base != 86))] []) (q := []) (by kernel_rfl) trivial ?_
            refine EvOk.cond (fun h7 => ?_) (fun h7 => ?_)
            · replace h := iteT h7 h
              refine At.gc [] [] (n := 45) (l := []) (bl := []) (by kernel_rfl) ?_
              refine At.adv [] [(9, { keep := some ([6], []) })] 400 (ev := .ret) (σ' := mkS 45 [(6, dI 12)] []) (q := []) (by kernel_rfl) trivial ?_
              refine EvOk.ret ?_
              obtain rfl := someE h
              exact Den.Ends.mk (.inl rfl) (d := dI 12) (p := (True ∧ True) ∧ (tN 1)) (by kernel_rfl) ⟨⟨trivial, trivial⟩, tNi 1⟩ (by kernel_rfl)
            · replace h := iteF h7 h
              refine At.gc [] [] (n := 45) (l := []) (bl := []) (by kernel_rfl) ?_
              refine At.adv [] [(10, { keep := some ([6], []) })] 400 (ev := .ret) (σ' := mkS 45 [(6, dI 0)] []) (q := []) (by kernel_rfl) trivial ?_
              refine EvOk.ret ?_
              obtain rfl := someE h
              exact Den.Ends.mk (.inl rfl) (d := dI 0) (p := (True ∧ True) ∧ (tN 1)) (by kernel_rfl) ⟨⟨trivial, trivial⟩, tNi 1⟩ (by kernel_rfl)
        · replace h := iteF h5 h
          refine AtOps.run (iv 6 10) (iv 16 0) [(14, aF), (15, aF)] [(6, false), (7, false), (8, false), (13, false), (14, true)] [44] [] (n := 45) (sl := [(44, .bool false)]) (bl := []) (q := [((x1 == ([60, 105, 110, 105, 116, 62] : List UInt8)) == true) = false, ((x1 == ([60, 105, 110, 105, 116, 62] : List UInt8)) == true) = false, ((x1 == ([60, 105, 110, 105, 116, 62] : List UInt8)) == true) = false, True, True, True, True, ((x1 == ([60, 105, 110, 105, 116, 62] : List UInt8)) == true) = false, ((x1 == ([60, 99, 108, 105, 110, 105, 116, 62] : List UInt8)) == false) = true ∧ ((x1 == ([60, 105, 110, 105, 116, 62] : List UInt8)) = false), True ∧ ((x1 == ([60, 99, 108, 105, 110, 105, 116, 62] : List UInt8)) = false)]) (by kernel_rfl) (by kernel_rfl) ⟨gB h5 rfl, gB h5 rfl, gB h5 rfl, trivial, trivial, trivial, trivial, gB h5 rfl, ⟨(gB h4 rfl), h5⟩, ⟨trivial, h4⟩, trivial⟩ ?_
          refine AtOps.done ?_
          refine At.advN [] [] 400 (ev := .cond false c63x14 c63x15 [.seq c63x16]) (σ' := mkS 45 [(44, .bool false)] []) (q := []) (by kernel_rfl) trivial ?_
          refine EvOk.cond (fun hb => Bool.noConfusion hb) (fun _ => ?_)
          refine At.gc [] [] (n := 45) (l := []) (bl := []) (by kernel_rfl) ?_
          refine At.adv [] [(10, { keep := some ([6], []) })] 400 (ev := .ret) (σ' := mkS 45 [(6, dI 0)] []) (q := []) (by kernel_rfl) trivial ?_
          refine EvOk.ret ?_
          obtain rfl := someE h
          exact Den.Ends.mk (.inl rfl) (d := dI 0) (p := (True ∧ True) ∧ (tN 1)) (by kernel_rfl) ⟨⟨trivial, trivial⟩, tNi 1⟩ (by kernel_rfl)
theorem w63 {x0 : Int} {x1 : List UInt8} {x2 : List UInt8} {r : Int} (h : m_armatureref05_named x0 x1 x2 = some r) : CallSpec Try.prog 63 [.int .i64 x0, .str x1, .str x2] (.int .i64 r) :=
  CallSpec.at2 b63 (n := 45) (l := [(0, .int .i64 x0), (1, .str x1), (2, .str x2)]) (by kernel_rfl) (by kernel_rfl) (by kernel_rfl) (by kernel_rfl) (by kernel_rfl) (Nat.le_of_ble_eq_true (by kernel_rfl)) (fun Γ => we63 x0 x1 x2 r h Γ)

/-! ### armature armatureref05.contents -/
noncomputable def b53 : Code := Try.f53.body.getD .skip
noncomputable def c53x0 : Code := sub1 b53
noncomputable def c53x1 : Code := sub1 c53x0
noncomputable def c53x2 : Code := sub0 c53x1
noncomputable def c53x3 : Code := sub0 c53x2
noncomputable def c53x4 : Code := sub1 c53x2
noncomputable def c53x5 : Code := sub1 c53x1
noncomputable def c53x6 : Code := sub0 c53x0
noncomputable def c53x7 : Code := sub1 c53x6
noncomputable def c53x8 : Code := sub0 c53x7
noncomputable def c53x9 : Code := sub1 c53x8
noncomputable def c53x10 : Code := sub1 c53x9
noncomputable def c53x11 : Code := sub1 c53x10
noncomputable def c53x12 : Code := sub0 c53x11
noncomputable def c53x13 : Code := sub1 c53x11
noncomputable def c53x14 : Code := sub1 c53x7
noncomputable def c53x15 : Code := sub0 c53x5
noncomputable def c53x16 : Code := sub0 c53x15
noncomputable def c53x17 : Code := sub1 c53x15
noncomputable def c53x18 : Code := sub1 c53x5
noncomputable def c53x19 : Code := sub0 c53x4
noncomputable def c53x20 : Code := sub1 c53x19
noncomputable def c53x21 : Code := sub1 c53x20
noncomputable def c53x22 : Code := sub1 c53x21
noncomputable def c53x23 : Code := sub1 c53x22
noncomputable def c53x24 : Code := sub0 c53x23
noncomputable def c53x25 : Code := sub1 c53x23
noncomputable def c53x26 : Code := sub0 c53x21
noncomputable def c53x27 : Code := sub1 c53x26
noncomputable def c53x28 : Code := sub0 c53x27
noncomputable def c53x29 : Code := sub1 c53x27
noncomputable def c53x30 : Code := sub1 c53x4
noncomputable def c53x31 : Code := sub0 c53x17
noncomputable def c53x32 : Code := sub1 c53x31
noncomputable def c53x33 : Code := sub1 c53x32
noncomputable def c53x34 : Code := sub0 c53x33
noncomputable def c53x35 : Code := sub1 c53x33
noncomputable def c53x36 : Code := sub1 c53x17
def j53x2 (x0 : List T_api_Const) (x1 : T_api_Const) : Option (Int) :=
  (m_armatureref05_member x1.f_Tag).bind fun v6 =>
  if v6 = true then
    ((m_armatureref05_NameAndType x0 x1.f_B).bind fun v7 =>
    if (v7.2.2 == 0) = true then
      ((m_armatureref05_named x1.f_Tag v7.1 v7.2.1).bind fun v8 =>
      some v8) else
    (some 0)) else
  (some 0)
def j53x1 (x0 : List T_api_Const) (x1 : T_api_Const) : Option (Int) :=
  if (x1.f_Tag == 12) = true then
    ((m_armatureref05_UTF8 x0 x1.f_A).bind fun v2 =>
    (m_armatureref05_UTF8 x0 x1.f_B).bind fun v3 =>
    (m_armatureref03_IsMemberName v2.1).bind fun v4 =>
    if (!v4) = true then
      (some 12) else
    ((m_armatureref05_descriptor v3.1).bind fun v5 =>
      if (!v5) = true then
        (some 13) else
      ((j53x2 x0 x1) ))) else
  ((j53x2 x0 x1) )
def m_armatureref05_contents (x0 : List T_api_Const) (x1 : T_api_Const) : Option (Int) :=
  if (x1.f_Tag == 7) = true then
    ((m_armatureref05_UTF8 x0 x1.f_A).bind fun v0 =>
    (m_armatureref04_ParseClassConstant v0.1).bind fun v1 =>
    if (v1.2 != 0) = true then
      (some 13) else
    ((j53x1 x0 x1) )) else
  ((j53x1 x0 x1) )
theorem wj53x2 (x0 : List T_api_Const) (x1 : T_api_Const) (r : Int) (h : (j53x2 x0 x1)  = some r) (Γ : Ctx) : EvOk Try.prog Γ (Den.Ends Try.prog Try.f53 (dI r)) (mkS 74 [(0, .sl false (x0.map row_T_api_Const)), (3, .ptr (row_T_api_Const x1))] []) (.stop c53x16 [.seq c53x17, .seq c53x18]) := by
  refine EvOk.stop ?_
  obtain ⟨v6, e6, h⟩ := bindE h
  refine At.adv [] [(13, { told := [(2, aB v6)], keep := some ([0, 3, 58], []) })] 400 (ev := .cond v6 c53x31 c53x36 [.seq c53x18]) (σ' := mkS 74 [(0, .sl false (x0.map row_T_api_Const)), (3, .ptr (row_T_api_Const x1)), (58, .bool v6)] []) (q := [True ∧ (cq Try.prog (tN 1) 42 [dI x1.f_Tag] (.bool v6))]) (by kernel_rfl) ⟨⟨trivial, cqi (tNi 1) (w42 e6)⟩, trivial⟩ ?_
  refine EvOk.cond (fun h5 => ?_) (fun h5 => ?_)
  · replace h := iteT h5 h
    refine At.gc [0, 3] [] (n := 74) (l := [(0, .sl false (x0.map row_T_api_Const)), (3, .ptr (row_T_api_Const x1))]) (bl := []) (by kernel_rfl) ?_
    obtain ⟨v7, e7, h⟩ := bindE h
    refine At.adv [] [(14, { told := [(3, { ans := .val (.tup [.str v7.1, .str v7.2.1, dI v7.2.2]) })], keep := some ([3, 13, 14, 15], []) }), (15, { keep := some ([3, 13, 14, 68], []) })] 400 (ev := .cond (v7.2.2 == 0) c53x34 c53x35 [.seq c53x18]) (σ' := mkS 74 [(3, .ptr (row_T_api_Const x1)), (13, .str v7.1), (14, .str v7.2.1), (68, .bool (v7.2.2 == 0))] []) (q := [True ∧ (cq Try.prog (tN 2) 21 [.sl false (x0.map row_T_api_Const), dI x1.f_B] (.tup [.str v7.1, .str v7.2.1, dI v7.2.2]))]) (by kernel_rfl) ⟨⟨trivial, cqi (tNi 2) (w21 e7)⟩, trivial⟩ ?_
    refine EvOk.cond (fun h6 => ?_) (fun h6 => ?_)
    · replace h := iteT h6 h
      refine At.gc [3, 13, 14] [] (n := 74) (l := [(3, .ptr (row_T_api_Const x1)), (13, .str v7.1), (14, .str v7.2.1)]) (bl := []) (by kernel_rfl) ?_
      obtain ⟨v8, e8, h⟩ := bindE h
      refine At.adv [] [(16, { told := [(4, aI v8)], keep := some ([4], []) })] 400 (ev := .ret) (σ' := mkS 74 [(4, dI v8)] []) (q := [True ∧ (cq Try.prog (tN 3) 63 [dI x1.f_Tag, .str v7.1, .str v7.2.1] (dI v8))]) (by kernel_rfl) ⟨⟨trivial, cqi (tNi 3) (w63 e8)⟩, trivial⟩ ?_
      refine EvOk.ret ?_
      obtain rfl := someE h
      exact Den.Ends.mk (.inl rfl) (d := dI v8) (p := (True ∧ True) ∧ (tN 1)) (by kernel_rfl) ⟨⟨trivial, trivial⟩, tNi 1⟩ (by kernel_rfl)
    · replace h := iteF h6 h
      refine At.gc [] [] (n := 74) (l := []) (bl := []) (by kernel_rfl) ?_
      refine At.adv [] [(17, { keep := some ([4], []) })] 400 (ev := .ret) (σ' := mkS 74 [(4, dI 0)] []) (q := []) (by kernel_rfl) trivial ?_
      refine EvOk.ret ?_
      obtain rfl := someE h
      exact Den.Ends.mk (.inl rfl) (d := dI 0) (p := (True ∧ True) ∧ (tN 1)) (by kernel_rfl) ⟨⟨trivial, trivial⟩, tNi 1⟩ (by kernel_rfl)
  · replace h := iteF h5 h
    refine At.gc [] [] (n := 74) (l := []) (bl := []) (by kernel_rfl) ?_
    refine At.adv [] [(17, { keep := some ([4], []) })] 400 (ev := .ret) (σ' := mkS 74 [(4, dI 0)] []) (q := []) (by kernel_rfl) trivial ?_
    refine EvOk.ret ?_
    obtain rfl := someE h
    exact Den.Ends.mk (.inl rfl) (d := dI 0) (p := (True ∧ True) ∧ (tN 1)) (by kernel_rfl) ⟨⟨trivial, trivial⟩, tNi 1⟩ (by kernel_rfl)
theorem wj53x1 (x0 : List T_api_Const) (x1 : T_api_Const) (r : Int) (h : (j53x1 x0 x1)  = some r) (Γ : Ctx) : EvOk Try.prog Γ (Den.Ends Try.prog Try.f53 (dI r)) (mkS 74 [(0, .sl false (x0.map row_T_api_Const)), (3, .ptr (row_T_api_Const x1))] []) (.stop c53x3 [.seq c53x4, .seq c53x5]) := by
  refine EvOk.stop ?_
  refine At.adv [] [(6, { keep := some ([0, 3, 35], []) })] 400 (ev := .cond (x1.f_Tag == 12) c53x19 c53x30 [.seq c53x5]) (σ' := mkS 74 [(0, .sl false (x0.map row_T_api_Const)), (3, .ptr (row_T_api_Const x1)), (35, .bool (x1.f_Tag == 12))] []) (q := []) (by kernel_rfl) trivial ?_
  refine EvOk.cond (fun h2 => ?_) (fun h2 => ?_)
  · replace h := iteT h2 h
    refine At.gc [0, 3] [] (n := 74) (l := [(0, .sl false (x0.map row_T_api_Const)), (3, .ptr (row_T_api_Const x1))]) (bl := []) (by kernel_rfl) ?_
    obtain ⟨v2, e2, h⟩ := bindE h
    obtain ⟨v3, e3, h⟩ := bindE h
    obtain ⟨v4, e4, h⟩ := bindE h
    refine At.adv [] [(7, { told := [(3, { ans := .val (.tup [.str v2.1, dI v2.2]) })], keep := some ([0, 3, 9], []) }), (8, { told := [(3, { ans := .val (.tup [.str v3.1, dI v3.2]) })], keep := some ([0, 3, 9, 11], []) }), (9, { told := [(1, aB v4)], keep := some ([0, 3, 11, 52], []) })] 400 (ev := .cond (!v4) c53x28 c53x29 [.seq c53x22, .seq c53x5]) (σ' := mkS 74 [(0, .sl false (x0.map row_T_api_Const)), (3, .ptr (row_T_api_Const x1)), (11, .str v3.1), (52, .bool (!v4))] []) (q := [True ∧ (cq Try.prog (tN 2) 15 [.sl false (x0.map row_T_api_Const), dI x1.f_A] (.tup [.str v2.1, dI v2.2])), True ∧ (cq Try.prog (tN 2) 15 [.sl false (x0.map row_T_api_Const), dI x1.f_B] (.tup [.str v3.1, dI v3.2])), True ∧ (cq Try.prog (tN 1) 61 [.str v2.1] (.bool v4))]) (by kernel_rfl) ⟨⟨trivial, cqi (tNi 2) (w15 e2)⟩, ⟨trivial, cqi (tNi 2) (w15 e3)⟩, ⟨trivial, cqi (tNi 1) (w61 e4)⟩, trivial⟩ ?_
    refine EvOk.cond (fun h3 => ?_) (fun h3 => ?_)
    · replace h := iteT h3 h
      refine At.gc [] [] (n := 74) (l := []) (bl := []) (by kernel_rfl) ?_
      refine At.adv [] [(10, { keep := some ([4], []) })] 400 (ev := .ret) (σ' := mkS 74 [(4, dI 12)] []) (q := []) (by kernel_rfl) trivial ?_
      refine EvOk.ret ?_
      obtain rfl := someE h
      exact Den.Ends.mk (.inl rfl) (d := dI 12) (p := (True ∧ True) ∧ (tN 1)) (by kernel_rfl) ⟨⟨trivial, trivial⟩, tNi 1⟩ (by kernel_rfl)
    · replace h := iteF h3 h
      refine At.gc [0, 3, 11] [] (n := 74) (l := [(0, .sl false (x0.map row_T_api_Const)), (3, .ptr (row_T_api_Const x1)), (11, .str v3.1)]) (bl := []) (by kernel_rfl) ?_
      obtain ⟨v5, e5, h⟩ := bindE h
      refine At.adv [] [(11, { told := [(1, aB v5)], keep := some ([0, 3, 55], []) })] 400 (ev := .cond (!v5) c53x24 c53x25 [.seq c53x5]) (σ' := mkS 74 [(0, .sl false (x0.map row_T_api_Const)), (3, .ptr (row_T_api_Const x1)), (55, .bool (!v5))] []) (q := [True ∧ (cq Try.prog (tN 1) 62 [.str v3.1] (.bool v5))]) (by kernel_rfl) ⟨⟨trivial, cqi (tNi 1) (w62 e5)⟩, trivial⟩ ?_
      refine EvOk.cond (fun h4 => ?_) (fun h4 => ?_)
      · replace h := iteT h4 h
        refine At.gc [] [] (n := 74) (l := []) (bl := []) (by kernel_rfl) ?_
        refine At.adv [] [(12, { keep := some ([4], []) })] 400 (ev := .ret) (σ' := mkS 74 [(4, dI 13)] []) (q := []) (by kernel_rfl) trivial ?_
        refine EvOk.ret ?_
        obtain rfl := someE h
        exact Den.Ends.mk (.inl rfl) (d := dI 13) (p := (True ∧ True) ∧ (tN 1)) (by kernel_rfl) ⟨⟨trivial, trivial⟩, tNi 1⟩ (by kernel_rfl)
      · replace h := iteF h4 h
        refine At.gc [0, 3] [] (n := 74) (l := [(0, .sl false (x0.map row_T_api_Const)), (3, .ptr (row_T_api_Const x1))]) (bl := []) (by kernel_rfl) ?_
        refine At.adv [13] [] 400 (ev := .stop c53x16 [.seq c53x17, .seq c53x18]) (σ' := mkS 74 [(0, .sl false (x0.map row_T_api_Const)), (3, .ptr (row_T_api_Const x1))] []) (q := []) (by kernel_rfl) trivial ?_
        exact (wj53x2 x0 x1)  r h Γ
  · replace h := iteF h2 h
    refine At.gc [0, 3] [] (n := 74) (l := [(0, .sl false (x0.map row_T_api_Const)), (3, .ptr (row_T_api_Const x1))]) (bl := []) (by kernel_rfl) ?_
    refine At.adv [13] [] 400 (ev := .stop c53x16 [.seq c53x17, .seq c53x18]) (σ' := mkS 74 [(0, .sl false (x0.map row_T_api_Const)), (3, .ptr (row_T_api_Const x1))] []) (q := []) (by kernel_rfl) trivial ?_
    exact (wj53x2 x0 x1)  r h Γ
theorem we53 (x0 : List T_api_Const) (x1 : T_api_Const) (r : Int) (h : m_armatureref05_contents x0 x1 = some r) (Γ : Ctx) : At Try.prog Γ b53 [] (Den.Ends Try.prog Try.f53 (dI r)) (mkS 74 [(0, .sl false (x0.map row_T_api_Const)), (1, .agg (row_T_api_Const x1))] []) := by
  refine At.adv [] [(0, { told := [(0, { ro := true })], keep := some ([0, 3], []) }), (1, { keep := some ([0, 3, 18], []) })] 400 (ev := .cond (x1.f_Tag == 7) c53x8 c53x14 [.seq c53x1]) (σ' := mkS 74 [(0, .sl false (x0.map row_T_api_Const)), (3, .ptr (row_T_api_Const x1)), (18, .bool (x1.f_Tag == 7))] []) (q := []) (by kernel_rfl) trivial ?_
  refine EvOk.cond (fun h0 => ?_) (fun h0 => ?_)
  · replace h := iteT h0 h
    refine At.gc [0, 3] [] (n := 74) (l := [(0, .sl false (x0.map row_T_api_Const)), (3, .ptr (row_T_api_Const x1))]) (bl := []) (by kernel_rfl) ?_
    obtain ⟨v0, e0, h⟩ := bindE h
    obtain ⟨v1, e1, h⟩ := bindE h
    refine At.adv [] [(2, { told := [(3, { ans := .val (.tup [.str v0.1, dI v0.2]) })], keep := some ([0, 3, 5], []) }), (3, { told := [(1, { ans := .val (.tup [.agg (row_T_api_Type v1.1), dI v1.2]) })], keep := some ([0, 3, 8], []) }), (4, { keep := some ([0, 3, 32], []) })] 400 (ev := .cond (v1.2 != 0) c53x12 c53x13 [.seq c53x1]) (σ' := mkS 74 [(0, .sl false (x0.map row_T_api_Const)), (3, .ptr (row_T_api_Const x1)), (32, .bool (v1.2 != 0))] []) (q := [True ∧ (cq Try.prog (tN 2) 15 [.sl false (x0.map row_T_api_Const), dI x1.f_A] (.tup [.str v0.1, dI v0.2])), True ∧ (cq Try.prog (tN 1) 60 [.str v0.1] (.tup [.agg (row_T_api_Type v1.1), dI v1.2])), True ∧ (0 ≤ 0 ∧ 0 + ([dI v1.1.f_Dim, d8 v1.1.f_Base, .str v1.1.f_Name] : List D).length ≤ ([dI 0, d8 0, .str []] : List D).length ∧ ([[dI v1.1.f_Dim, d8 v1.1.f_Base, .str v1.1.f_Name]] : List (List D)) = ([[dI v1.1.f_Dim, d8 v1.1.f_Base, .str v1.1.f_Name]] : List (List D)))]) (by kernel_rfl) ⟨⟨trivial, cqi (tNi 2) (w15 e0)⟩, ⟨trivial, cqi (tNi 1) (w60 e1)⟩, ⟨trivial, ⟨Nat.zero_le _, Nat.le_of_ble_eq_true rfl, rfl⟩⟩, trivial⟩ ?_
    refine EvOk.cond (fun h1 => ?_) (fun h1 => ?_)
    · replace h := iteT h1 h
      refine At.gc [] [] (n := 74) (l := []) (bl := []) (by kernel_rfl) ?_
      refine At.adv [] [(5, { keep := some ([4], []) })] 400 (ev := .ret) (σ' := mkS 74 [(4, dI 13)] []) (q := []) (by kernel_rfl) trivial ?_
      refine EvOk.ret ?_
      obtain rfl := someE h
      exact Den.Ends.mk (.inl rfl) (d := dI 13) (p := (True ∧ True) ∧ (tN 1)) (by kernel_rfl) ⟨⟨trivial, trivial⟩, tNi 1⟩ (by kernel_rfl)
    · replace h := iteF h1 h
      refine At.gc [0, 3] [] (n := 74) (l := [(0, .sl false (x0.map row_T_api_Const)), (3, .ptr (row_T_api_Const x1))]) (bl := []) (by kernel_rfl) ?_
      refine At.adv [6] [] 400 (ev := .stop c53x3 [.seq c53x4, .seq c53x5]) (σ' := mkS 74 [(0, .sl false (x0.map row_T_api_Const)), (3, .ptr (row_T_api_Const x1))] []) (q := []) (by kernel_rfl) trivial ?_
      exact (wj53x1 x0 x1)  r h Γ
  · replace h := iteF h0 h
    refine At.gc [0, 3] [] (n := 74) (l := [(0, .sl false (x0.map row_T_api_Const)), (3, .ptr (row_T_api_Const x1))]) (bl := []) (by kernel_rfl) ?_
    refine At.adv [6] [] 400 (ev := .stop c53x3 [.seq c53x4, .seq c53x5]) (σ' := mkS 74 [(0, .sl false (x0.map row_T_api_Const)), (3, .ptr (row_T_api_Const x1))] []) (q := []) (by kernel_rfl) trivial ?_
    exact (wj53x1 x0 x1)  r h Γ
theorem w53 {x0 : List T_api_Const} {x1 : T_api_Const} {r : Int} (h : m_armatureref05_contents x0 x1 = some r) : CallSpec Try.prog 53 [.sl false (x0.map row_T_api_Const), .agg (row_T_api_Const x1)] (.int .i64 r) :=
  CallSpec.at2 b53 (n := 74) (l := [(0, .sl false (x0.map row_T_api_Const)), (1, .agg (row_T_api_Const x1))]) (by kernel_rfl) (by kernel_rfl) (by kernel_rfl) (by kernel_rfl) (by kernel_rfl) (Nat.le_of_ble_eq_true (by kernel_rfl)) (fun Γ => we53 x0 x1 r h Γ)

/-! ### armature armatureref05.checkConst -/
noncomputable def b37 : Code := Try.f37.body.getD .skip
noncomputable def c37x0 : Code := sub1 b37
noncomputable def c37x1 : Code := sub1 c37x0
noncomputable def c37x2 : Code := sub1 c37x1
noncomputable def c37x3 : Code := sub0 c37x2
noncomputable def c37x4 : Code := sub1 c37x3
noncomputable def c37x5 : Code := sub0 c37x4
noncomputable def c37x6 : Code := sub1 c37x4
noncomputable def c37x7 : Code := sub1 c37x2
noncomputable def c37x8 : Code := sub0 c37x7
noncomputable def c37x9 : Code := sub0 c37x8
noncomputable def c37x10 : Code := sub1 c37x8
noncomputable def c37x11 : Code := sub1 c37x7
noncomputable def c37x12 : Code := sub0 c37x3
noncomputable def c37x13 : Code := sub0 c37x1
noncomputable def c37x14 : Code := sub1 c37x13
noncomputable def c37x15 : Code := sub0 c37x14
noncomputable def c37x16 : Code := sub1 c37x14
noncomputable def c37x17 : Code := sub0 c37x0
noncomputable def c37x18 : Code := sub1 c37x17
noncomputable def c37x19 : Code := sub0 c37x18
noncomputable def c37x20 : Code := sub1 c37x18
noncomputable def c37x21 : Code := sub0 c37x10
noncomputable def c37x22 : Code := sub1 c37x10
noncomputable def c37x23 : Code := sub0 c37x11
noncomputable def c37x24 : Code := sub0 c37x23
noncomputable def c37x25 : Code := sub1 c37x23
noncomputable def c37x26 : Code := sub1 c37x11
noncomputable def c37x27 : Code := sub1 c37x25
noncomputable def c37x28 : Code := sub0 c37x27
noncomputable def c37x29 : Code := sub1 c37x27
def j37x2 (x0 : List T_api_Const) (x1 : T_api_Const) : Option (Int) :=
  (m_armatureref05_both x0 x1).bind fun v2 =>
  if (v2 != 0) = true then
    (some v2) else
  ((m_armatureref05_contents x0 x1).bind fun v3 =>
    some v3)
def j37x1 (x0 : List T_api_Const) (x1 : T_api_Const) : Option (Int) :=
  if (x1.f_Tag == 1) = true then (some 0) else
  (if (x1.f_Tag == 3) = true then (some 0) else
    (if (x1.f_Tag == 5) = true then
        (some 0) else
      ((j37x2 x0 x1) )))
def m_armatureref05_checkConst (x0 : List T_api_Const) (x1 : T_api_Const) : Option (Int) :=
  (m_armatureref05_Known x1.f_Tag).bind fun v0 =>
  if (!v0) = true then
    (some 11) else
  ((m_armatureref05_formed x1).bind fun v1 =>
    if (!v1) = true then
      (some 4) else
    (if (x1.f_Tag == 1) = true then (if (decide ((x1.f_S.length : Int) > 1024)) = true then (some 8) else
        (if (x1.f_Tag == 3) = true then (if (decide (x1.f_N < (-2147483648))) = true then (some 8) else
            (if (decide (x1.f_N > 2147483647)) = true then
                (some 8) else
              ((j37x1 x0 x1) ))) else
          ((j37x1 x0 x1) ))) else
      (if (x1.f_Tag == 3) = true then (if (decide (x1.f_N < (-2147483648))) = true then (some 8) else
          (if (decide (x1.f_N > 2147483647)) = true then
              (some 8) else
            ((j37x1 x0 x1) ))) else
        ((j37x1 x0 x1) ))))
theorem wj37x2 (x0 : List T_api_Const) (x1 : T_api_Const) (r : Int) (h : (j37x2 x0 x1)  = some r) (Γ : Ctx) : EvOk Try.prog Γ (Den.Ends Try.prog Try.f37 (dI r)) (mkS 59 [(0, .sl false (x0.map row_T_api_Const)), (3, .ptr (row_T_api_Const x1))] []) (.stop c37x24 [.seq c37x25, .seq c37x26]) := by
  refine EvOk.stop ?_
  obtain ⟨v2, e2, h⟩ := bindE h
  refine At.adv [] [(9, { told := [(2, aI v2)], keep := some ([0, 3, 5], []) }), (10, { keep := some ([0, 3, 5, 54], []) })] 400 (ev := .cond (v2 != 0) c37x28 c37x29 [.seq c37x26]) (σ' := mkS 59 [(0, .sl false (x0.map row_T_api_Const)), (3, .ptr (row_T_api_Const x1)), (5, dI v2), (54, .bool (v2 != 0))] []) (q := [True ∧ (cq Try.prog (True ∧ ((tN 5) ∧ True)) 52 [.sl false (x0.map row_T_api_Const), .agg [dI x1.f_Tag, .str x1.f_S, dI x1.f_N, dI x1.f_A, dI x1.f_B]] (dI v2))]) (by kernel_rfl) ⟨⟨trivial, cqi (⟨trivial, ⟨tNi 5, trivial⟩⟩) (w52 e2)⟩, trivial⟩ ?_
  refine EvOk.cond (fun h13 => ?_) (fun h13 => ?_)
  · replace h := iteT h13 h
    refine At.gc [5] [] (n := 59) (l := [(5, dI v2)]) (bl := []) (by kernel_rfl) ?_
    refine At.adv [] [(11, { keep := some ([4], []) })] 400 (ev := .ret) (σ' := mkS 59 [(4, dI v2)] []) (q := []) (by kernel_rfl) trivial ?_
    refine EvOk.ret ?_
    obtain rfl := someE h
    exact Den.Ends.mk (.inl rfl) (d := dI v2) (p := (True ∧ True) ∧ (tN 1)) (by kernel_rfl) ⟨⟨trivial, trivial⟩, tNi 1⟩ (by kernel_rfl)
  · replace h := iteF h13 h
    refine At.gc [0, 3] [] (n := 59) (l := [(0, .sl false (x0.map row_T_api_Const)), (3, .ptr (row_T_api_Const x1))]) (bl := []) (by kernel_rfl) ?_
    obtain ⟨v3, e3, h⟩ := bindE h
    refine At.adv [] [(12, { told := [(2, aI v3)], keep := some ([4], []) })] 400 (ev := .ret) (σ' := mkS 59 [(4, dI v3)] []) (q := [True ∧ (cq Try.prog (True ∧ ((tN 5) ∧ True)) 53 [.sl false (x0.map row_T_api_Const), .agg [dI x1.f_Tag, .str x1.f_S, dI x1.f_N, dI x1.f_A, dI x1.f_B]] (dI v3))]) (by kernel_rfl) ⟨⟨trivial, cqi (⟨trivial, ⟨tNi 5, trivial⟩⟩) (w53 e3)⟩, trivial⟩ ?_
    refine EvOk.ret ?_
    obtain rfl := someE h
    exact Den.Ends.mk (.inl rfl) (d := dI v3) (p := (True ∧ True) ∧ (tN 1)) (by kernel_rfl) ⟨⟨trivial, trivial⟩, tNi 1⟩ (by kernel_rfl)
theorem wj37x1 (x0 : List T_api_Const) (x1 : T_api_Const) (r : Int) (h : (j37x1 x0 x1)  = some r) (Γ : Ctx) : EvOk Try.prog Γ (Den.Ends Try.prog Try.f37 (dI r)) (mkS 59 [(0, .sl false (x0.map row_T_api_Const)), (3, .ptr (row_T_api_Const x1))] []) (.stop c37x9 [.seq c37x10, .seq c37x11]) := by
  refine EvOk.stop (At.ops (l := iv 0 13) (by kernel_rfl) (by kernel_rfl) ?_)
  refine AtOps.run (iv 0 4) (iv 4 9) [] [] [0, 3, 40] [] (n := 59) (sl := [(0, .sl false (x0.map row_T_api_Const)), (3, .ptr (row_T_api_Const x1)), (40, .bool (x1.f_Tag == 1))]) (bl := []) (q := []) (by kernel_rfl) (by kernel_rfl) trivial ?_
  rcases Bool.eq_false_or_eq_true (x1.f_Tag == 1) with h10 | h10
  · replace h := iteT h10 h
    refine AtOps.run (iv 4 9) (iv 13 0) [(7, aT)] [(4, false), (5, false), (6, false)] [0, 3, 49] [] (n := 59) (sl := [(0, .sl false (x0.map row_T_api_Const)), (3, .ptr (row_T_api_Const x1)), (49, .bool true)]) (bl := []) (q := [((x1.f_Tag == 1) == false) = false, ((x1.f_Tag == 1) == false) = false, ((x1.f_Tag == 1) == false) = false, True ∧ ((x1.f_Tag == 1) = true), True, True, True]) (by kernel_rfl) (by kernel_rfl) ⟨gB h10 rfl, gB h10 rfl, gB h10 rfl, ⟨trivial, h10⟩, trivial, trivial, trivial, trivial⟩ ?_
    refine AtOps.done ?_
    refine At.advN [] [] 400 (ev := .cond true c37x21 c37x22 [.seq c37x11]) (σ' := mkS 59 [(0, .sl false (x0.map row_T_api_Const)), (3, .ptr (row_T_api_Const x1)), (49, .bool true)] []) (q := []) (by kernel_rfl) trivial ?_
    refine EvOk.cond (fun _ => ?_) (fun hb => Bool.noConfusion hb)
    refine At.gc [] [] (n := 59) (l := []) (bl := []) (by kernel_rfl) ?_
    refine At.adv [] [(8, { keep := some ([4], []) })] 400 (ev := .ret) (σ' := mkS 59 [(4, dI 0)] []) (q := []) (by kernel_rfl) trivial ?_
    refine EvOk.ret ?_
    obtain rfl := someE h
    exact Den.Ends.mk (.inl rfl) (d := dI 0) (p := (True ∧ True) ∧ (tN 1)) (by kernel_rfl) ⟨⟨trivial, trivial⟩, tNi 1⟩ (by kernel_rfl)
  · replace h := iteF h10 h
    refine AtOps.run (iv 4 5) (iv 9 4) [(7, aF)] [(4, true), (5, true), (6, true)] [0, 3, 45] [] (n := 59) (sl := [(0, .sl false (x0.map row_T_api_Const)), (3, .ptr (row_T_api_Const x1)), (45, .bool (x1.f_Tag == 3))]) (bl := []) (q := [((x1.f_Tag == 1) == false) = true ∧ True, ((x1.f_Tag == 1) == false) = true ∧ True, ((x1.f_Tag == 1) == false) = true ∧ True, True ∧ ((x1.f_Tag == 1) = false)]) (by kernel_rfl) (by kernel_rfl) ⟨⟨(gB h10 rfl), trivial⟩, ⟨(gB h10 rfl), trivial⟩, ⟨(gB h10 rfl), trivial⟩, ⟨trivial, h10⟩, trivial⟩ ?_
    rcases Bool.eq_false_or_eq_true (x1.f_Tag == 3) with h11 | h11
    · replace h := iteT h11 h
      refine AtOps.run (iv 9 4) (iv 13 0) [(12, aT)] [(9, false), (10, false), (11, false)] [0, 3, 49] [] (n := 59) (sl := [(0, .sl false (x0.map row_T_api_Const)), (3, .ptr (row_T_api_Const x1)), (49, .bool true)]) (bl := []) (q := [((x1.f_Tag == 3) == false) = false, ((x1.f_Tag == 3) == false) = false, ((x1.f_Tag == 3) == false) = false, True ∧ ((x1.f_Tag == 3) = true)]) (by kernel_rfl) (by kernel_rfl) ⟨gB h11 rfl, gB h11 rfl, gB h11 rfl, ⟨trivial, h11⟩, trivial⟩ ?_
      refine AtOps.done ?_
      refine At.advN [] [] 400 (ev := .cond true c37x21 c37x22 [.seq c37x11]) (σ' := mkS 59 [(0, .sl false (x0.map row_T_api_Const)), (3, .ptr (row_T_api_Const x1)), (49, .bool true)] []) (q := []) (by kernel_rfl) trivial ?_
      refine EvOk.cond (fun _ => ?_) (fun hb => Bool.noConfusion hb)
      refine At.gc [] [] (n := 59) (l := []) (bl := []) (by kernel_rfl) ?_
      refine At.adv [] [(8, { keep := some ([4], []) })] 400 (ev := .ret) (σ' := mkS 59 [(4, dI 0)] []) (q := []) (by kernel_rfl) trivial ?_
      refine EvOk.ret ?_
      obtain rfl := someE h
      exact Den.Ends.mk (.inl rfl) (d := dI 0) (p := (True ∧ True) ∧ (tN 1)) (by kernel_rfl) ⟨⟨trivial, trivial⟩, tNi 1⟩ (by kernel_rfl)
    · replace h := iteF h11 h
      refine AtOps.run (iv 9 4) (iv 13 0) [(12, aF)] [(9, true), (10, true), (11, true)] [0, 3, 49] [] (n := 59) (sl := [(0, .sl false (x0.map row_T_api_Const)), (3, .ptr (row_T_api_Const x1)), (49, .bool (x1.f_Tag == 5))]) (bl := []) (q := [((x1.f_Tag == 3) == false) = true ∧ True, ((x1.f_Tag == 3) == false) = true ∧ True, ((x1.f_Tag == 3) == false) = true ∧ True, True ∧ ((x1.f_Tag == 3) = false)]) (by kernel_rfl) (by kernel_rfl) ⟨⟨(gB h11 rfl), trivial⟩, ⟨(gB h11 rfl), trivial⟩, ⟨(gB h11 rfl), trivial⟩, ⟨trivial, h11⟩, trivial⟩ ?_
      refine AtOps.done ?_
      refine At.advN [] [] 400 (ev := .cond (x1.f_Tag == 5) c37x21 c37x22 [.seq c37x11]) (σ' := mkS 59 [(0, .sl false (x0.map row_T_api_Const)), (3, .ptr (row_T_api_Const x1)), (49, .bool (x1.f_Tag == 5))] []) (q := []) (by kernel_rfl) trivial ?_
      refine EvOk.cond (fun h12 => ?_) (fun h12 => ?_)
      · replace h := iteT h12 h
        refine At.gc [] [] (n := 59) (l := []) (bl := []) (by kernel_rfl) ?_
        refine At.adv [] [(8, { keep := some ([4], []) })] 400 (ev := .ret) (σ' := mkS 59 [(4, dI 0)] []) (q := []) (by kernel_rfl) trivial ?_
        refine EvOk.ret ?_
        obtain rfl := someE h
        exact Den.Ends.mk (.inl rfl) (d := dI 0) (p := (True ∧ True) ∧ (tN 1)) (by kernel_rfl) ⟨⟨trivial, trivial⟩, tNi 1⟩ (by kernel_rfl)
      · replace h := iteF h12 h
        refine At.gc [0, 3] [] (n := 59) (l := [(0, .sl false (x0.map row_T_api_Const)), (3, .ptr (row_T_api_Const x1))]) (bl := []) (by kernel_rfl) ?_
        refine At.adv [9] [] 400 (ev := .stop c37x24 [.seq c37x25, .seq c37x26]) (σ' := mkS 59 [(0, .sl false (x0.map row_T_api_Const)), (3, .ptr (row_T_api_Const x1))] []) (q := []) (by kernel_rfl) trivial ?_
        exact (wj37x2 x0 x1)  r h Γ
theorem we37 (x0 : List T_api_Const) (x1 : T_api_Const) (r : Int) (h : m_armatureref05_checkConst x0 x1 = some r) (Γ : Ctx) : At Try.prog Γ b37 [] (Den.Ends Try.prog Try.f37 (dI r)) (mkS 59 [(0, .sl false (x0.map row_T_api_Const)), (1, .agg (row_T_api_Const x1))] []) := by
  obtain ⟨v0, e0, h⟩ := bindE h
  refine At.adv [] [(0, { told := [(0, { ro := true })], keep := some ([0, 3], []) }), (1, { told := [(2, aB v0)], keep := some ([0, 3, 9], []) })] 400 (ev := .cond (!v0) c37x19 c37x20 [.seq c37x1]) (σ' := mkS 59 [(0, .sl false (x0.map row_T_api_Const)), (3, .ptr (row_T_api_Const x1)), (9, .bool (!v0))] []) (q := [True ∧ (cq Try.prog (tN 1) 50 [dI x1.f_Tag] (.bool v0))]) (by kernel_rfl) ⟨⟨trivial, cqi (tNi 1) (w50 e0)⟩, trivial⟩ ?_
  refine EvOk.cond (fun h0 => ?_) (fun h0 => ?_)
  · replace h := iteT h0 h
    refine At.gc [] [] (n := 59) (l := []) (bl := []) (by kernel_rfl) ?_
    refine At.adv [] [(2, { keep := some ([4], []) })] 400 (ev := .ret) (σ' := mkS 59 [(4, dI 11)] []) (q := []) (by kernel_rfl) trivial ?_
    refine EvOk.ret ?_
    obtain rfl := someE h
    exact Den.Ends.mk (.inl rfl) (d := dI 11) (p := (True ∧ True) ∧ (tN 1)) (by kernel_rfl) ⟨⟨trivial, trivial⟩, tNi 1⟩ (by kernel_rfl)
  · replace h := iteF h0 h
    refine At.gc [0, 3] [] (n := 59) (l := [(0, .sl false (x0.map row_T_api_Const)), (3, .ptr (row_T_api_Const x1))]) (bl := []) (by kernel_rfl) ?_
    obtain ⟨v1, e1, h⟩ := bindE h
    refine At.adv [] [(3, { told := [(1, aB v1)], keep := some ([0, 3, 12], []) })] 400 (ev := .cond (!v1) c37x15 c37x16 [.seq c37x2]) (σ' := mkS 59 [(0, .sl false (x0.map row_T_api_Const)), (3, .ptr (row_T_api_Const x1)), (12, .bool (!v1))] []) (q := [True ∧ (cq Try.prog ((tN 5) ∧ True) 51 [.agg [dI x1.f_Tag, .str x1.f_S, dI x1.f_N, dI x1.f_A, dI x1.f_B]] (.bool v1))]) (by kernel_rfl) ⟨⟨trivial, cqi (⟨tNi 5, trivial⟩) (w51 e1)⟩, trivial⟩ ?_
    refine EvOk.cond (fun h1 => ?_) (fun h1 => ?_)
    · replace h := iteT h1 h
      refine At.gc [] [] (n := 59) (l := []) (bl := []) (by kernel_rfl) ?_
      refine At.adv [] [(4, { keep := some ([4], []) })] 400 (ev := .ret) (σ' := mkS 59 [(4, dI 4)] []) (q := []) (by kernel_rfl) trivial ?_
      refine EvOk.ret ?_
      obtain rfl := someE h
      exact Den.Ends.mk (.inl rfl) (d := dI 4) (p := (True ∧ True) ∧ (tN 1)) (by kernel_rfl) ⟨⟨trivial, trivial⟩, tNi 1⟩ (by kernel_rfl)
    · replace h := iteF h1 h
      refine At.gc [0, 3] [] (n := 59) (l := [(0, .sl false (x0.map row_T_api_Const)), (3, .ptr (row_T_api_Const x1))]) (bl := []) (by kernel_rfl) ?_
      refine At.adv [5] [] 400 (ev := .stop c37x12 [.seq c37x4, .seq c37x7]) (σ' := mkS 59 [(0, .sl false (x0.map row_T_api_Const)), (3, .ptr (row_T_api_Const x1))] []) (q := []) (by kernel_rfl) trivial ?_
      refine EvOk.stop (At.ops (l := iv 0 24) (by kernel_rfl) (by kernel_rfl) ?_)
      refine AtOps.run (iv 0 4) (iv 4 20) [] [] [0, 3, 16] [] (n := 59) (sl := [(0, .sl false (x0.map row_T_api_Const)), (3, .ptr (row_T_api_Const x1)), (16, .bool (x1.f_Tag == 1))]) (bl := []) (q := []) (by kernel_rfl) (by kernel_rfl) trivial ?_
      rcases Bool.eq_false_or_eq_true (x1.f_Tag == 1) with h2 | h2
      · replace h := iteT h2 h
        refine AtOps.run (iv 4 6) (iv 10 14) [(8, aT)] [(4, true), (5, true), (6, true), (7, true)] [0, 3, 22] [] (n := 59) (sl := [(0, .sl false (x0.map row_T_api_Const)), (3, .ptr (row_T_api_Const x1)), (22, .bool (decide ((x1.f_S.length : Int) > 1024)))]) (bl := []) (q := [((x1.f_Tag == 1) == true) = true ∧ True, ((x1.f_Tag == 1) == true) = true ∧ True, ((x1.f_Tag == 1) == true) = true ∧ True, ((x1.f_Tag == 1) == true) = true ∧ True, True ∧ ((x1.f_Tag == 1) = true)]) (by kernel_rfl) (by kernel_rfl) ⟨⟨(gB h2 rfl), trivial⟩, ⟨(gB h2 rfl), trivial⟩, ⟨(gB h2 rfl), trivial⟩, ⟨(gB h2 rfl), trivial⟩, ⟨trivial, h2⟩, trivial⟩ ?_
        rcases Bool.eq_false_or_eq_true (decide ((x1.f_S.length : Int) > 1024)) with h3 | h3
        · replace h := iteT h3 h
          refine AtOps.run (iv 10 14) (iv 24 0) [(23, aT)] [(10, false), (11, false), (12, false), (13, false), (22, false)] [0, 3, 36] [] (n := 59) (sl := [(0, .sl false (x0.map row_T_api_Const)), (3, .ptr (row_T_api_Const x1)), (36, .bool true)]) (bl := []) (q := [((decide ((x1.f_S.length : Int) > 1024)) == false) = false, ((decide ((x1.f_S.length : Int) > 1024)) == false) = false, ((decide ((x1.f_S.length : Int) > 1024)) == false) = false, ((decide ((x1.f_S.length : Int) > 1024)) == false) = false, True, True, True, True, True, True, True, True, ((decide ((x1.f_S.length : Int) > 1024)) == false) = false, True ∧ ((decide ((x1.f_S.length : Int) > 1024)) = true)]) (by kernel_rfl) (by kernel_rfl) ⟨gB h3 rfl, gB h3 rfl, gB h3 rfl, gB h3 rfl, trivial, trivial, trivial, trivial, trivial, trivial, trivial, trivial, gB h3 rfl, ⟨trivial, h3⟩, trivial⟩ ?_
          refine AtOps.done ?_
          refine At.advN [] [] 400 (ev := .cond true c37x5 c37x6 [.seq c37x7]) (σ' := mkS 59 [(0, .sl false (x0.map row_T_api_Const)), (3, .ptr (row_T_api_Const x1)), (36, .bool true)] []) (q := []) (by kernel_rfl) trivial ?_
          refine EvOk.cond (fun _ => ?_) (fun hb => Bool.noConfusion hb)
          refine At.gc [] [] (n := 59) (l := []) (bl := []) (by kernel_rfl) ?_
          refine At.adv [] [(6, { keep := some ([4], []) })] 400 (ev := .ret) (σ' := mkS 59 [(4, dI 8)] []) (q := []) (by kernel_rfl) trivial ?_
          refine EvOk.ret ?_
          obtain rfl := someE h
          exact Den.Ends.mk (.inl rfl) (d := dI 8) (p := (True ∧ True) ∧ (tN 1)) (by kernel_rfl) ⟨⟨trivial, trivial⟩, tNi 1⟩ (by kernel_rfl)
        · replace h := iteF h3 h
          refine AtOps.run (iv 10 4) (iv 14 10) [] [(10, true), (11, true), (12, true), (13, true)] [0, 3, 22, 26] [] (n := 59) (sl := [(0, .sl false (x0.map row_T_api_Const)), (3, .ptr (row_T_api_Const x1)), (22, .bool (decide ((x1.f_S.length : Int) > 1024))), (26, .bool (x1.f_Tag == 3))]) (bl := []) (q := [((decide ((x1.f_S.length : Int) > 1024)) == false) = true ∧ True, ((decide ((x1.f_S.length : Int) > 1024)) == false) = true ∧ True, ((decide ((x1.f_S.length : Int) > 1024)) == false) = true ∧ True, ((decide ((x1.f_S.length : Int) > 1024)) == false) = true ∧ True]) (by kernel_rfl) (by kernel_rfl) ⟨⟨(gB h3 rfl), trivial⟩, ⟨(gB h3 rfl), trivial⟩, ⟨(gB h3 rfl), trivial⟩, ⟨(gB h3 rfl), trivial⟩, trivial⟩ ?_
          rcases Bool.eq_false_or_eq_true (x1.f_Tag == 3) with h4 | h4
          · replace h := iteT h4 h
            refine AtOps.run (iv 14 4) (iv 18 6) [] [(14, true), (15, true), (16, true), (17, true)] [0, 3, 22, 26, 30] [] (n := 59) (sl := [(0, .sl false (x0.map row_T_api_Const)), (3, .ptr (row_T_api_Const x1)), (22, .bool (decide ((x1.f_S.length : Int) > 1024))), (26, .bool (x1.f_Tag == 3)), (30, .bool (decide (x1.f_N < (-2147483648))))]) (bl := []) (q := [((x1.f_Tag == 3) == true) = true ∧ True, ((x1.f_Tag == 3) == true) = true ∧ True, ((x1.f_Tag == 3) == true) = true ∧ True, ((x1.f_Tag == 3) == true) = true ∧ True]) (by kernel_rfl) (by kernel_rfl) ⟨⟨(gB h4 rfl), trivial⟩, ⟨(gB h4 rfl), trivial⟩, ⟨(gB h4 rfl), trivial⟩, ⟨(gB h4 rfl), trivial⟩, trivial⟩ ?_
            rcases Bool.eq_false_or_eq_true (decide (x1.f_N < (-2147483648))) with h5 | h5
            · replace h := iteT h5 h
              refine AtOps.run (iv 18 6) (iv 24 0) [(21, aT), (22, aT), (23, aF)] [(18, false), (19, false), (20, false), (21, true), (22, true)] [0, 3, 36] [] (n := 59) (sl := [(0, .sl false (x0.map row_T_api_Const)), (3, .ptr (row_T_api_Const x1)), (36, .bool true)]) (bl := []) (q := [((decide (x1.f_N < (-2147483648))) == false) = false, ((decide (x1.f_N < (-2147483648))) == false) = false, ((decide (x1.f_N < (-2147483648))) == false) = false, ((x1.f_Tag == 3) == true) = true ∧ ((decide (x1.f_N < (-2147483648))) = true), ((decide ((x1.f_S.length : Int) > 1024)) == false) = true ∧ ((x1.f_Tag == 3) = true), True ∧ ((decide ((x1.f_S.length : Int) > 1024)) = false)]) (by kernel_rfl) (by kernel_rfl) ⟨gB h5 rfl, gB h5 rfl, gB h5 rfl, ⟨(gB h4 rfl), h5⟩, ⟨(gB h3 rfl), h4⟩, ⟨trivial, h3⟩, trivial⟩ ?_
              refine AtOps.done ?_
              refine At.advN [] [] 400 (ev := .cond true c37x5 c37x6 [.seq c37x7]) (σ' := mkS 59 [(0, .sl false (x0.map row_T_api_Const)), (3, .ptr (row_T_api_Const x1)), (36, .bool true)] []) (q := []) (by kernel_rfl) trivial ?_
              refine EvOk.cond (fun _ => ?_) (fun hb => Bool.noConfusion hb)
              refine At.gc [] [] (n := 59) (l := []) (bl := []) (by kernel_rfl) ?_
              refine At.adv [] [(6, { keep := some ([4], []) })] 400 (ev := .ret) (σ' := mkS 59 [(4, dI 8)] []) (q := []) (by kernel_rfl) trivial ?_
              refine EvOk.ret ?_
              obtain rfl := someE h
              exact Den.Ends.mk (.inl rfl) (d := dI 8) (p := (True ∧ True) ∧ (tN 1)) (by kernel_rfl) ⟨⟨trivial, trivial⟩, tNi 1⟩ (by kernel_rfl)
            · replace h := iteF h5 h
              refine AtOps.run (iv 18 6) (iv 24 0) [(21, aF), (22, aT), (23, aF)] [(18, true), (19, true), (20, true), (21, true), (22, true)] [0, 3, 36] [] (n := 59) (sl := [(0, .sl false (x0.map row_T_api_Const)), (3, .ptr (row_T_api_Const x1)), (36, .bool (decide (x1.f_N > 2147483647)))]) (bl := []) (q := [((decide (x1.f_N < (-2147483648))) == false) = true ∧ True, ((decide (x1.f_N < (-2147483648))) == false) = true ∧ True, ((decide (x1.f_N < (-2147483648))) == false) = true ∧ True, ((x1.f_Tag == 3) == true) = true ∧ ((decide (x1.f_N < (-2147483648))) = false), ((decide ((x1.f_S.length : Int) > 1024)) == false) = true ∧ ((x1.f_Tag == 3) = true), True ∧ ((decide ((x1.f_S.length : Int) > 1024)) = false)]) (by kernel_rfl) (by kernel_rfl) ⟨⟨(gB h5 rfl), trivial⟩, ⟨(gB h5 rfl), trivial⟩, ⟨(gB h5 rfl), trivial⟩, ⟨(gB h4 rfl), h5⟩, ⟨(gB h3 rfl), h4⟩, ⟨trivial, h3⟩, trivial⟩ ?_
              refine AtOps.done ?_
              refine At.advN [] [] 400 (ev := .cond (decide (x1.f_N > 2147483647)) c37x5 c37x6 [.seq c37x7]) (σ' := mkS 59 [(0, .sl false (x0.map row_T_api_Const)), (3, .ptr (row_T_api_Const x1)), (36, .bool (decide (x1.f_N > 2147483647)))] []) (q := []) (by kernel_rfl) trivial ?_
              refine EvOk.cond (fun h6 => ?_) (fun h6 => ?_)
              · replace h := iteT h6 h
                refine At.gc [] [] (n := 59) (l := []) (bl := []) (by kernel_rfl) ?_
                refine At.adv [] [(6, { keep := some ([4], []) })] 400 (ev := .ret) (σ' := mkS 59 [(4, dI 8)] []) (q := []) (by kernel_rfl) trivial ?_
                refine EvOk.ret ?_
                obtain rfl := someE h
                exact Den.Ends.mk (.inl rfl) (d := dI 8) (p := (True ∧ True) ∧ (tN 1)) (by kernel_rfl) ⟨⟨trivial, trivial⟩, tNi 1⟩ (by kernel_rfl)
              · replace h := iteF h6 h
                refine At.gc [0, 3] [] (n := 59) (l := [(0, .sl false (x0.map row_T_api_Const)), (3, .ptr (row_T_api_Const x1))]) (bl := []) (by kernel_rfl) ?_
                refine At.adv [7] [] 400 (ev := .stop c37x9 [.seq c37x10, .seq c37x11]) (σ' := mkS 59 [(0, .sl false (x0.map row_T_api_Const)), (3, .ptr (row_T_api_Const x1))] []) (q := []) (by kernel_rfl) trivial ?_
                exact (wj37x1 x0 x1)  r h Γ
          · replace h := iteF h4 h
            refine AtOps.run (iv 14 10) (iv 24 0) [(22, aF), (23, aF)] [(14, false), (15, false), (16, false), (17, false), (21, false), (22, true)] [0, 3, 36] [] (n := 59) (sl := [(0, .sl false (x0.map row_T_api_Const)), (3, .ptr (row_T_api_Const x1)), (36, .bool false)]) (bl := []) (q := [((x1.f_Tag == 3) == true) = false, ((x1.f_Tag == 3) == true) = false, ((x1.f_Tag == 3) == true) = false, ((x1.f_Tag == 3) == true) = false, True, True, True, ((x1.f_Tag == 3) == true) = false, ((decide ((x1.f_S.length : Int) > 1024)) == false) = true ∧ ((x1.f_Tag == 3) = false), True ∧ ((decide ((x1.f_S.length : Int) > 1024)) = false)]) (by kernel_rfl) (by kernel_rfl) ⟨gB h4 rfl, gB h4 rfl, gB h4 rfl, gB h4 rfl, trivial, trivial, trivial, gB h4 rfl, ⟨(gB h3 rfl), h4⟩, ⟨trivial, h3⟩, trivial⟩ ?_
            refine AtOps.done ?_
            refine At.advN [] [] 400 (ev := .cond false c37x5 c37x6 [.seq c37x7]) (σ' := mkS 59 [(0, .sl false (x0.map row_T_api_Const)), (3, .ptr (row_T_api_Const x1)), (36, .bool false)] []) (q := []) (by kernel_rfl) trivial ?_
            refine EvOk.cond (fun hb => Bool.noConfusion hb) (fun _ => ?_)
            refine At.gc [0, 3] [] (n := 59) (l := [(0, .sl false (x0.map row_T_api_Const)), (3, .ptr (row_T_api_Const x1))]) (bl := []) (by kernel_rfl) ?_
            refine At.adv [7] [] 400 (ev := .stop c37x9 [.seq c37x10, .seq c37x11]) (σ' := mkS 59 [(0, .sl false (x0.map row_T_api_Const)), (3, .ptr (row_T_api_Const x1))] []) (q := []) (by kernel_rfl) trivial ?_
            exact (wj37x1 x0 x1)  r h Γ
      · replace h := iteF h2 h
        refine AtOps.run (iv 4 10) (iv 14 10) [(8, aF)] [(4, false), (5, false), (6, false), (7, false)] [0, 3, 22, 26] [] (n := 59) (sl := [(0, .sl false (x0.map row_T_api_Const)), (3, .ptr (row_T_api_Const x1)), (22, .bool false), (26, .bool (x1.f_Tag == 3))]) (bl := []) (q := [((x1.f_Tag == 1) == true) = false, ((x1.f_Tag == 1) == true) = false, ((x1.f_Tag == 1) == true) = false, ((x1.f_Tag == 1) == true) = false, True ∧ ((x1.f_Tag == 1) = false), True ∧ True, True ∧ True, True ∧ True, True ∧ True]) (by kernel_rfl) (by kernel_rfl) ⟨gB h2 rfl, gB h2 rfl, gB h2 rfl, gB h2 rfl, ⟨trivial, h2⟩, ⟨trivial, trivial⟩, ⟨trivial, trivial⟩, ⟨trivial, trivial⟩, ⟨trivial, trivial⟩, trivial⟩ ?_
        rcases Bool.eq_false_or_eq_true (x1.f_Tag == 3) with h7 | h7
        · replace h := iteT h7 h
          refine AtOps.run (iv 14 4) (iv 18 6) [] [(14, true), (15, true), (16, true), (17, true)] [0, 3, 22, 26, 30] [] (n := 59) (sl := [(0, .sl false (x0.map row_T_api_Const)), (3, .ptr (row_T_api_Const x1)), (22, .bool false), (26, .bool (x1.f_Tag == 3)), (30, .bool (decide (x1.f_N < (-2147483648))))]) (bl := []) (q := [((x1.f_Tag == 3) == true) = true ∧ True, ((x1.f_Tag == 3) == true) = true ∧ True, ((x1.f_Tag == 3) == true) = true ∧ True, ((x1.f_Tag == 3) == true) = true ∧ True]) (by kernel_rfl) (by kernel_rfl) ⟨⟨(gB h7 rfl), trivial⟩, ⟨(gB h7 rfl), trivial⟩, ⟨(gB h7 rfl), trivial⟩, ⟨(gB h7 rfl), trivial⟩, trivial⟩ ?_
          rcases Bool.eq_false_or_eq_true (decide (x1.f_N < (-2147483648))) with h8 | h8
          · replace h := iteT h8 h
            refine AtOps.run (iv 18 6) (iv 24 0) [(21, aT), (22, aT)] [(18, false), (19, false), (20, false), (21, true)] [0, 3, 36] [] (n := 59) (sl := [(0, .sl false (x0.map row_T_api_Const)), (3, .ptr (row_T_api_Const x1)), (36, .bool true)]) (bl := []) (q := [((decide (x1.f_N < (-2147483648))) == false) = false, ((decide (x1.f_N < (-2147483648))) == false) = false, ((decide (x1.f_N < (-2147483648))) == false) = false, ((x1.f_Tag == 3) == true) = true ∧ ((decide (x1.f_N < (-2147483648))) = true), True ∧ ((x1.f_Tag == 3) = true)]) (by kernel_rfl) (by kernel_rfl) ⟨gB h8 rfl, gB h8 rfl, gB h8 rfl, ⟨(gB h7 rfl), h8⟩, ⟨trivial, h7⟩, trivial⟩ ?_
            refine AtOps.done ?_
            refine At.advN [] [] 400 (ev := .cond true c37x5 c37x6 [.seq c37x7]) (σ' := mkS 59 [(0, .sl false (x0.map row_T_api_Const)), (3, .ptr (row_T_api_Const x1)), (36, .bool true)] []) (q := []) (by kernel_rfl) trivial ?_
            refine EvOk.cond (fun _ => ?_) (fun hb => Bool.noConfusion hb)
            refine At.gc [] [] (n := 59) (l := []) (bl := []) (by kernel_rfl) ?_
            refine At.adv [] [(6, { keep := some ([4], []) })] 400 (ev := .ret) (σ' := mkS 59 [(4, dI 8)] []) (q := []) (by kernel_rfl) trivial ?_
            refine EvOk.ret ?_
            obtain rfl := someE h
            exact Den.Ends.mk (.inl rfl) (d := dI 8) (p := (True ∧ True) ∧ (tN 1)) (by kernel_rfl) ⟨⟨trivial, trivial⟩, tNi 1⟩ (by kernel_rfl)
          · replace h := iteF h8 h
            refine AtOps.run (iv 18 6) (iv 24 0) [(21, aF), (22, aT)] [(18, true), (19, true), (20, true), (21, true)] [0, 3, 36] [] (n := 59) (sl := [(0, .sl false (x0.map row_T_api_Const)), (3, .ptr (row_T_api_Const x1)), (36, .bool (decide (x1.f_N > 2147483647)))]) (bl := []) (q := [((decide (x1.f_N < (-2147483648))) == false) = true ∧ True, ((decide (x1.f_N < (-2147483648))) == false) = true ∧ True, ((decide (x1.f_N < (-2147483648))) == false) = true ∧ True, ((x1.f_Tag == 3) == true) = true ∧ ((decide (x1.f_N < (-2147483648))) = false), True ∧ ((x1.f_Tag == 3) = true)]) (by kernel_rfl) (by kernel_rfl) ⟨⟨(gB h8 rfl), trivial⟩, ⟨(gB h8 rfl), trivial⟩, ⟨(gB h8 rfl), trivial⟩, ⟨(gB h7 rfl), h8⟩, ⟨trivial, h7⟩, trivial⟩ ?_
            refine AtOps.done ?_
            refine At.advN [] [] 400 (ev := .cond (decide (x1.f_N > 2147483647)) c37x5 c37x6 [.seq c37x7]) (σ' := mkS 59 [(0, .sl false (x0.map row_T_api_Const)), (3, .ptr (row_T_api_Const x1)), (36, .bool (decide (x1.f_N > 2147483647)))] []) (q := []) (by kernel_rfl) trivial ?_
            refine EvOk.cond (fun h9 => ?_) (fun h9 => ?_)
            · replace h := iteT h9 h
              refine At.gc [] [] (n := 59) (l := []) (bl := []) (by kernel_rfl) ?_
              refine At.adv [] [(6, { keep := some ([4], []) })] 400 (ev := .ret) (σ' := mkS 59 [(4, dI 8)] []) (q := []) (by kernel_rfl) trivial ?_
              refine EvOk.ret ?_
              obtain rfl := someE h
              exact Den.Ends.mk (.inl rfl) (d := dI 8) (p := (True ∧ True) ∧ (tN 1)) (by kernel_rfl) ⟨⟨trivial, trivial⟩, tNi 1⟩ (by kernel_rfl)
            · replace h := iteF h9 h
              refine At.gc [0, 3] [] (n := 59) (l := [(0, .sl false (x0.map row_T_api_Const)), (3, .ptr (row_T_api_Const x1))]) (bl := []) (by kernel_rfl) ?_
              refine At.adv [7] [] 400 (ev := .stop c37x9 [.seq c37x10, .seq c37x11]) (σ' := mkS 59 [(0, .sl false (x0.map row_T_api_Const)), (3, .ptr (row_T_api_Const x1))] []) (q := []) (by kernel_rfl) trivial ?_
              exact (wj37x1 x0 x1)  r h Γ
        · replace h := iteF h7 h
          refine AtOps.run (iv 14 10) (iv 24 0) [(22, aF)] [(14, false), (15, false), (16, false), (17, false), (21, false)] [0, 3, 36] [] (n := 59) (sl := [(0, .sl false (x0.map row_T_api_Const)), (3, .ptr (row_T_api_Const x1)), (36, .bool false)]) (bl := []) (q := [((x1.f_Tag == 3) == true) = false, ((x1.f_Tag == 3) == true) = false, ((x1.f_Tag == 3) == true) = false, ((x1.f_Tag == 3) == true) = false, True, True, True, ((x1.f_Tag == 3) == true) = false, True ∧ ((x1.f_Tag == 3) = false)]) (by kernel_rfl) (by kernel_rfl) ⟨gB h7 rfl, gB h7 rfl, gB h7 rfl, gB h7 rfl, trivial, trivial, trivial, gB h7 rfl, ⟨trivial, h7⟩, trivial⟩ ?_
          refine AtOps.done ?_
          refine At.advN [] [] 400 (ev := .cond false c37x5 c37x6 [.seq c37x7]) (σ' := mkS 59 [(0, .sl false (x0.map row_T_api_Const)), (3, .ptr (row_T_api_Const x1)), (36, .bool false)] []) (q := []) (by kernel_rfl) trivial ?_
          refine EvOk.cond (fun hb => Bool.noConfusion hb) (fun _ => ?_)
          refine At.gc [0, 3] [] (n := 59) (l := [(0, .sl false (x0.map row_T_api_Const)), (3, .ptr (row_T_api_Const x1))]) (bl := []) (by kernel_rfl) ?_
          refine At.adv [7] [] 400 (ev := .stop c37x9 [.seq c37x10, .seq c37x11]) (σ' := mkS 59 [(0, .sl false (x0.map row_T_api_Const)), (3, .ptr (row_T_api_Const x1))] []) (q := []) (by kernel_rfl) trivial ?_
          exact (wj37x1 x0 x1)  r h Γ
theorem w37 {x0 : List T_api_Const} {x1 : T_api_Const} {r : Int} (h : m_armatureref05_checkConst x0 x1 = some r) : CallSpec Try.prog 37 [.sl false (x0.map row_T_api_Const), .agg (row_T_api_Const x1)] (.int .i64 r) :=
  CallSpec.at2 b37 (n := 59) (l := [(0, .sl false (x0.map row_T_api_Const)), (1, .agg (row_T_api_Const x1))]) (by kernel_rfl) (by kernel_rfl) (by kernel_rfl) (by kernel_rfl) (by kernel_rfl) (Nat.le_of_ble_eq_true (by kernel_rfl)) (fun Γ => we37 x0 x1 r h Γ)

/-! ### armature armatureref05.Check -/
noncomputable def b11 : Code := Try.f11.body.getD .skip
noncomputable def c11x0 : Code := sub1 b11
noncomputable def c11x1 : Code := sub1 c11x0
noncomputable def c11x2 : Code := sub0 c11x1
noncomputable def c11x3 : Code := sub1 c11x2
noncomputable def c11x4 : Code := sub0 c11x3
noncomputable def c11x5 : Code := sub0 c11x4
noncomputable def c11x6 : Code := sub1 c11x5
noncomputable def c11x7 : Code := sub0 c11x6
noncomputable def c11x8 : Code := sub0 c11x7
noncomputable def c11x9 : Code := sub1 c11x8
noncomputable def c11x10 : Code := sub1 c11x9
noncomputable def c11x11 : Code := sub0 c11x10
noncomputable def c11x12 : Code := sub1 c11x10
noncomputable def c11x13 : Code := sub1 c11x6
noncomputable def c11x14 : Code := sub0 c11x5
noncomputable def c11x15 : Code := sub1 c11x14
noncomputable def c11x16 : Code := sub0 c11x15
noncomputable def c11x17 : Code := sub1 c11x15
noncomputable def c11x18 : Code := sub1 c11x1
noncomputable def c11x19 : Code := sub0 c11x0
noncomputable def c11x20 : Code := sub1 c11x19
noncomputable def c11x21 : Code := sub0 c11x20
noncomputable def c11x22 : Code := sub1 c11x20
def l11x1 (x0 : List T_api_Const) (t0 : Int) : Option (Ctl (Int) (Unit ⊕ (Int × Int))) :=
  if (decide (t0 < (x0.length : Int))) = true then
    ((getR x0 t0).bind fun v2 =>
    (m_armatureref05_checkConst x0 v2).bind fun v3 =>
    if (v3 != 0) = true then
      ((some (IntKind.wrap .i64 (t0 + (1 : Int)))).bind fun v4 =>
      some (.done (.inr (v4, v3)))) else
    ((some (IntKind.wrap .i64 (t0 + (1 : Int)))).bind fun v5 =>
      some (.next v5))) else
  (some (.done (.inl (()))))
def m_armatureref05_Check (x0 : List T_api_Const) : Option (Int × Int) :=
  if (decide ((x0.length : Int) > 1000)) = true then
    (some (0, 5)) else
  ((loopM (l11x1 x0) rounds 0).bind fun q1 =>
    match q1 with
    | .inl q0 => (some (0, 0))
    | .inr y0 => (some y0))
def st11x1 (x0 : List T_api_Const) : Int → S :=
  fun t0 => mkS 26 [(0, .sl false (x0.map row_T_api_Const)), (4, .int .i64 t0)] []
noncomputable def J11x1  : (Unit ⊕ (Int × Int)) → Exit → S → Prop :=
  JSum (JExit 0 (fun q0 : Unit => mkS 26 [] [])) (JRet Try.prog Try.f11 (fun y : Int × Int => .tup [.int .i64 y.1, .int .i64 y.2]))
theorem wl11x1 (x0 : List T_api_Const) (t0 : Int) (r : Ctl (Int) (Unit ⊕ (Int × Int))) (h : (l11x1 x0) t0 = some r) (Γ : Ctx) : At Try.prog Γ c11x5 [] (Round (st11x1 x0) J11x1 r) ((st11x1 x0) t0) := by
  refine At.adv [] [(4, { told := [(2, { ans := .val (dI (x0.length : Int)) })], keep := some ([0, 4, 12], []) })] 400 (ev := .cond (decide (t0 < (x0.length : Int))) c11x16 c11x17 [.seq c11x6]) (σ' := mkS 26 [(0, .sl false (x0.map row_T_api_Const)), (4, dI t0), (12, .bool (decide (t0 < (x0.length : Int))))] []) (q := [True ∧ (((x0.map row_T_api_Const).length : Int) = (x0.length : Int))]) (by kernel_rfl) ⟨⟨trivial, lenM _ _⟩, trivial⟩ ?_
  refine EvOk.cond (fun h3 => ?_) (fun h3 => ?_)
  · replace h := iteT h3 h
    refine At.gc [0, 4] [] (n := 26) (l := [(0, .sl false (x0.map row_T_api_Const)), (4, dI t0)]) (bl := []) (by kernel_rfl) ?_
    obtain ⟨v2, e2, h⟩ := bindE h
    obtain ⟨v3, e3, h⟩ := bindE h
    refine At.adv [] [(6, { told := [(3, { ans := .row (row_T_api_Const v2) }), (5, aI v3)], keep := some ([0, 4, 5], []) }), (7, { keep := some ([0, 4, 5, 22], []) })] 400 (ev := .cond (v3 != 0) c11x11 c11x12 [.blk 1, .seq c11x13]) (σ' := mkS 26 [(0, .sl false (x0.map row_T_api_Const)), (4, dI t0), (5, dI v3), (22, .bool (v3 != 0))] []) (q := [True ∧ (getR (x0.map row_T_api_Const) t0 = some (row_T_api_Const v2)), True ∧ (cq Try.prog (True ∧ ((tN 5) ∧ True)) 37 [.sl false (x0.map row_T_api_Const), .agg [dI v2.f_Tag, .str v2.f_S, dI v2.f_N, dI v2.f_A, dI v2.f_B]] (dI v3))]) (by kernel_rfl) ⟨⟨trivial, getR_map row_T_api_Const e2⟩, ⟨trivial, cqi (⟨trivial, ⟨tNi 5, trivial⟩⟩) (w37 e3)⟩, trivial⟩ ?_
    refine EvOk.cond (fun h4 => ?_) (fun h4 => ?_)
    · replace h := iteT h4 h
      refine At.gc [4, 5] [] (n := 26) (l := [(4, dI t0), (5, dI v3)]) (bl := []) (by kernel_rfl) ?_
      obtain ⟨v4, e4, h⟩ := bindE h
      refine At.adv [] [(8, { told := [(1, aI v4)], keep := some ([2, 3], []) })] 400 (ev := .ret) (σ' := mkS 26 [(2, dI v4), (3, dI v3)] []) (q := [True ∧ (IntKind.wrap .i64 (t0 + (1 : Int)) = v4)]) (by kernel_rfl) ⟨⟨trivial, someE e4⟩, trivial⟩ ?_
      refine EvOk.ret ?_
      obtain rfl := someE h
      exact Round.done neRet ⟨rfl, Den.Ends.mk (.inl rfl) (d := .tup [dI v4, dI v3]) (p := (True ∧ (True ∧ True)) ∧ (tN 2)) (by kernel_rfl) ⟨⟨trivial, ⟨trivial, trivial⟩⟩, tNi 2⟩ (by kernel_rfl)⟩
    · replace h := iteF h4 h
      refine At.gc [0, 4] [] (n := 26) (l := [(0, .sl false (x0.map row_T_api_Const)), (4, dI t0)]) (bl := []) (by kernel_rfl) ?_
      obtain ⟨v5, e5, h⟩ := bindE h
      refine At.adv [] [(5, { told := [(1, aI v5)], keep := some ([0, 4], []) })] 400 (ev := .normal) (σ' := mkS 26 [(0, .sl false (x0.map row_T_api_Const)), (4, dI v5)] []) (q := [True ∧ (IntKind.wrap .i64 (t0 + (1 : Int)) = v5)]) (by kernel_rfl) ⟨⟨trivial, someE e5⟩, trivial⟩ ?_
      refine EvOk.normal ?_
      obtain rfl := someE h
      exact Round.next (by kernel_rfl)
  · replace h := iteF h3 h
    refine At.gc [] [] (n := 26) (l := []) (bl := []) (by kernel_rfl) ?_
    refine At.adv [] [] 400 (ev := .exit 0) (σ' := mkS 26 [] []) (q := []) (by kernel_rfl) trivial ?_
    refine EvOk.exit ?_
    obtain rfl := someE h
    exact Round.done (neExit _) ⟨rfl, by kernel_rfl⟩
theorem we11 (x0 : List T_api_Const) (r : Int × Int) (h : m_armatureref05_Check x0 = some r) (Γ : Ctx) : At Try.prog Γ b11 [] (Den.Ends Try.prog Try.f11 (.tup [dI r.1, dI r.2])) (mkS 26 [(0, .sl false (x0.map row_T_api_Const))] []) := by
  refine At.adv [] [(0, { keep := some ([0], []) }), (1, { told := [(1, { ans := .val (dI (x0.length : Int)) })], keep := some ([0, 8], []) })] 400 (ev := .cond (decide ((x0.length : Int) > 1000)) c11x21 c11x22 [.seq c11x1]) (σ' := mkS 26 [(0, .sl false (x0.map row_T_api_Const)), (8, .bool (decide ((x0.length : Int) > 1000)))] []) (q := [True ∧ (((x0.map row_T_api_Const).length : Int) = (x0.length : Int))]) (by kernel_rfl) ⟨⟨trivial, lenM _ _⟩, trivial⟩ ?_
  refine EvOk.cond (fun h0 => ?_) (fun h0 => ?_)
  · replace h := iteT h0 h
    refine At.gc [] [] (n := 26) (l := []) (bl := []) (by kernel_rfl) ?_
    refine At.adv [] [(2, { keep := some ([2, 3], []) })] 400 (ev := .ret) (σ' := mkS 26 [(2, dI 0), (3, dI 5)] []) (q := []) (by kernel_rfl) trivial ?_
    refine EvOk.ret ?_
    obtain rfl := someE h
    exact Den.Ends.mk (.inl rfl) (d := .tup [dI 0, dI 5]) (p := (True ∧ (True ∧ True)) ∧ (tN 2)) (by kernel_rfl) ⟨⟨trivial, ⟨trivial, trivial⟩⟩, tNi 2⟩ (by kernel_rfl)
  · replace h := iteF h0 h
    refine At.gc [0] [] (n := 26) (l := [(0, .sl false (x0.map row_T_api_Const))]) (bl := []) (by kernel_rfl) ?_
    refine At.adv [] [(3, { keep := some ([0, 4], []) })] 400 (ev := .loop c11x5 [.blk 0, .seq c11x18]) (σ' := mkS 26 [(0, .sl false (x0.map row_T_api_Const)), (4, dI 0)] []) (q := []) (by kernel_rfl) trivial ?_
    refine EvOk.loop ?_
    obtain ⟨q1, e6, h⟩ := bindE h
    refine At.loop (l11x1 x0) (st11x1 x0) J11x1 0 e6 (by kernel_rfl) (fun t x hx => (wl11x1 x0) t x hx Γ) ?_
    intro e σ' hJ
    rcases q1 with q0 | y0
    · obtain ⟨rfl, rfl⟩ := hJ
      refine At.exitK (K' := [.seq c11x18]) (by kernel_rfl) ?_
      refine At.advN [] [(9, { keep := some ([2, 3], []) })] 400 (ev := .ret) (σ' := mkS 26 [(2, dI 0), (3, dI 0)] []) (q := []) (by kernel_rfl) trivial ?_
      refine EvOk.ret ?_
      obtain rfl := someE h
      exact Den.Ends.mk (.inl rfl) (d := .tup [dI 0, dI 0]) (p := (True ∧ (True ∧ True)) ∧ (tN 2)) (by kernel_rfl) ⟨⟨trivial, ⟨trivial, trivial⟩⟩, tNi 2⟩ (by kernel_rfl)
    · obtain rfl := someE h
      obtain ⟨rfl, hE⟩ := hJ
      exact At.retK hE
theorem w11 {x0 : List T_api_Const} {r : Int × Int} (h : m_armatureref05_Check x0 = some r) : CallSpec Try.prog 11 [.sl false (x0.map row_T_api_Const)] (.tup [.int .i64 r.1, .int .i64 r.2]) :=
  CallSpec.at2 b11 (n := 26) (l := [(0, .sl false (x0.map row_T_api_Const))]) (by kernel_rfl) (by kernel_rfl) (by kernel_rfl) (by kernel_rfl) (by kernel_rfl) (Nat.le_of_ble_eq_true (by kernel_rfl)) (fun Γ => we11 x0 r h Γ)

/-! ### armature armatureref05.ClassName -/
noncomputable def b17 : Code := Try.f17.body.getD .skip
noncomputable def c17x0 : Code := sub1 b17
noncomputable def c17x1 : Code := sub1 c17x0
noncomputable def c17x2 : Code := sub0 c17x1
noncomputable def c17x3 : Code := sub1 c17x2
noncomputable def c17x4 : Code := sub0 c17x3
noncomputable def c17x5 : Code := sub1 c17x3
noncomputable def c17x6 : Code := sub1 c17x1
def m_armatureref05_ClassName (x0 : List T_api_Const) (x1 : Int) : Option ((List UInt8) × Int) :=
  (m_armatureref05_get x0 x1 7).bind fun v0 =>
  if (v0.2 != 0) = true then
    (some ([], v0.2)) else
  ((m_armatureref05_UTF8 x0 v0.1.f_A).bind fun v1 =>
    some (v1.1, v1.2))
theorem we17 (x0 : List T_api_Const) (x1 : Int) (r : (List UInt8) × Int) (h : m_armatureref05_ClassName x0 x1 = some r) (Γ : Ctx) : At Try.prog Γ b17 [] (Den.Ends Try.prog Try.f17 (.tup [.str r.1, dI r.2])) (mkS 23 [(0, .sl false (x0.map row_T_api_Const)), (1, dI x1)] []) := by
  obtain ⟨v0, e0, h⟩ := bindE h
  refine At.adv [] [(0, { keep := some ([0, 1], []) }), (1, { told := [(2, { ans := .val (.tup [.agg (row_T_api_Const v0.1), dI v0.2]) })], keep := some ([0, 6, 7], [(6, 6)]) }), (2, { keep := some ([0, 6, 7, 15], [(6, 6)]) })] 400 (ev := .cond (v0.2 != 0) c17x4 c17x5 [.seq c17x6]) (σ' := mkS 23 [(0, .sl false (x0.map row_T_api_Const)), (6, .lptr 6 0 0), (7, dI v0.2), (15, .bool (v0.2 != 0))] [(6, { sz := 5, rows := [row_T_api_Const v0.1], frz := 0, pure := false })]) (q := [True ∧ (cq Try.prog (tN 3) 39 [.sl false (x0.map row_T_api_Const), dI x1, dI 7] (.tup [.agg (row_T_api_Const v0.1), dI v0.2])), True ∧ (0 ≤ 0 ∧ 0 + ([dI v0.1.f_Tag, .str v0.1.f_S, dI v0.1.f_N, dI v0.1.f_A, dI v0.1.f_B] : List D).length ≤ ([dI 0, .str [], dI 0, dI 0, dI 0] : List D).length ∧ ([[dI v0.1.f_Tag, .str v0.1.f_S, dI v0.1.f_N, dI v0.1.f_A, dI v0.1.f_B]] : List (List D)) = ([[dI v0.1.f_Tag, .str v0.1.f_S, dI v0.1.f_N, dI v0.1.f_A, dI v0.1.f_B]] : List (List D)))]) (by kernel_rfl) ⟨⟨trivial, cqi (tNi 3) (w39 e0)⟩, ⟨trivial, ⟨Nat.zero_le _, Nat.le_of_ble_eq_true rfl, rfl⟩⟩, trivial⟩ ?_
  refine EvOk.cond (fun h0 => ?_) (fun h0 => ?_)
  · replace h := iteT h0 h
    refine At.gc [7] [] (n := 23) (l := [(7, dI v0.2)]) (bl := []) (by kernel_rfl) ?_
    refine At.adv [] [(3, { keep := some ([4, 5], []) })] 400 (ev := .ret) (σ' := mkS 23 [(4, .str []), (5, dI v0.2)] []) (q := []) (by kernel_rfl) trivial ?_
    refine EvOk.ret ?_
    obtain rfl := someE h
    exact Den.Ends.mk (.inl rfl) (d := .tup [.str [], dI v0.2]) (p := (True ∧ (True ∧ True)) ∧ (tN 2)) (by kernel_rfl) ⟨⟨trivial, ⟨trivial, trivial⟩⟩, tNi 2⟩ (by kernel_rfl)
  · replace h := iteF h0 h
    refine At.gc [0, 6] [(6, 6)] (n := 23) (l := [(0, .sl false (x0.map row_T_api_Const)), (6, .lptr 6 0 0)]) (bl := [(6, { sz := 5, rows := [row_T_api_Const v0.1], frz := 0, pure := false })]) (by kernel_rfl) ?_
    obtain ⟨v1, e1, h⟩ := bindE h
    refine At.adv [] [(4, { told := [(3, { ans := .val (.tup [.str v1.1, dI v1.2]) })], keep := some ([4, 5], []) })] 400 (ev := .ret) (σ' := mkS 23 [(4, .str v1.1), (5, dI v1.2)] []) (q := [True ∧ (cq Try.prog (tN 2) 15 [.sl false (x0.map row_T_api_Const), dI v0.1.f_A] (.tup [.str v1.1, dI v1.2]))]) (by kernel_rfl) ⟨⟨trivial, cqi (tNi 2) (w15 e1)⟩, trivial⟩ ?_
    refine EvOk.ret ?_
    obtain rfl := someE h
    exact Den.Ends.mk (.inl rfl) (d := .tup [.str v1.1, dI v1.2]) (p := (True ∧ (True ∧ True)) ∧ (tN 2)) (by kernel_rfl) ⟨⟨trivial, ⟨trivial, trivial⟩⟩, tNi 2⟩ (by kernel_rfl)
theorem w17 {x0 : List T_api_Const} {x1 : Int} {r : (List UInt8) × Int} (h : m_armatureref05_ClassName x0 x1 = some r) : CallSpec Try.prog 17 [.sl false (x0.map row_T_api_Const), .int .i64 x1] (.tup [.str r.1, .int .i64 r.2]) :=
  CallSpec.at2 b17 (n := 23) (l := [(0, .sl false (x0.map row_T_api_Const)), (1, .int .i64 x1)]) (by kernel_rfl) (by kernel_rfl) (by kernel_rfl) (by kernel_rfl) (by kernel_rfl) (Nat.le_of_ble_eq_true (by kernel_rfl)) (fun Γ => we17 x0 x1 r h Γ)

/-! ### armature pool.StringValue -/
noncomputable def b18 : Code := Try.f18.body.getD .skip
def m_pool_StringValue (x0 : List T_api_Const) (x1 : Int) : Option ((List UInt8) × Int) :=
  (m_pool_through x0 x1 8).bind fun v0 =>
  some (v0.1, v0.2)
theorem we18 (x0 : List T_api_Const) (x1 : Int) (r : (List UInt8) × Int) (h : m_pool_StringValue x0 x1 = some r) (Γ : Ctx) : At Try.prog Γ b18 [] (Den.Ends Try.prog Try.f18 (.tup [.str r.1, dI r.2])) (mkS 11 [(0, .sl false (x0.map row_T_api_Const)), (1, dI x1)] []) := by
  obtain ⟨v0, e0, h⟩ := bindE h
  refine At.adv [] [(0, { keep := some ([0, 1], []) }), (1, { told := [(2, { ans := .val (.tup [.str v0.1, dI v0.2]) })], keep := some ([4, 5], []) })] 400 (ev := .ret) (σ' := mkS 11 [(4, .str v0.1), (5, dI v0.2)] []) (q := [True ∧ (cq Try.prog (tN 3) 40 [.sl false (x0.map row_T_api_Const), dI x1, dI 8] (.tup [.str v0.1, dI v0.2]))]) (by kernel_rfl) ⟨⟨trivial, cqi (tNi 3) (w40 e0)⟩, trivial⟩ ?_
  refine EvOk.ret ?_
  obtain rfl := someE h
  exact Den.Ends.mk (.inl rfl) (d := .tup [.str v0.1, dI v0.2]) (p := (True ∧ (True ∧ True)) ∧ (tN 2)) (by kernel_rfl) ⟨⟨trivial, ⟨trivial, trivial⟩⟩, tNi 2⟩ (by kernel_rfl)
theorem w18 {x0 : List T_api_Const} {x1 : Int} {r : (List UInt8) × Int} (h : m_pool_StringValue x0 x1 = some r) : CallSpec Try.prog 18 [.sl false (x0.map row_T_api_Const), .int .i64 x1] (.tup [.str r.1, .int .i64 r.2]) :=
  CallSpec.at2 b18 (n := 11) (l := [(0, .sl false (x0.map row_T_api_Const)), (1, .int .i64 x1)]) (by kernel_rfl) (by kernel_rfl) (by kernel_rfl) (by kernel_rfl) (by kernel_rfl) (Nat.le_of_ble_eq_true (by kernel_rfl)) (fun Γ => we18 x0 x1 r h Γ)

/-! ### armature armatureref05.StringValue -/
noncomputable def b19 : Code := Try.f19.body.getD .skip
noncomputable def c19x0 : Code := sub1 b19
noncomputable def c19x1 : Code := sub1 c19x0
noncomputable def c19x2 : Code := sub0 c19x1
noncomputable def c19x3 : Code := sub1 c19x2
noncomputable def c19x4 : Code := sub0 c19x3
noncomputable def c19x5 : Code := sub1 c19x3
noncomputable def c19x6 : Code := sub1 c19x1
def m_armatureref05_StringValue (x0 : List T_api_Const) (x1 : Int) : Option ((List UInt8) × Int) :=
  (m_armatureref05_get x0 x1 8).bind fun v0 =>
  if (v0.2 != 0) = true then
    (some ([], v0.2)) else
  ((m_armatureref05_UTF8 x0 v0.1.f_A).bind fun v1 =>
    some (v1.1, v1.2))
theorem we19 (x0 : List T_api_Const) (x1 : Int) (r : (List UInt8) × Int) (h : m_armatureref05_StringValue x0 x1 = some r) (Γ : Ctx) : At Try.prog Γ b19 [] (Den.Ends Try.prog Try.f19 (.tup [.str r.1, dI r.2])) (mkS 23 [(0, .sl false (x0.map row_T_api_Const)), (1, dI x1)] []) := by
  obtain ⟨v0, e0, h⟩ := bindE h
  refine At.adv [] [(0, { keep := some ([0, 1], []) }), (1, { told := [(2, { ans := .val (.tup [.agg (row_T_api_Const v0.1), dI v0.2]) })], keep := some ([0, 6, 7], [(6, 6)]) }), (2, { keep := some ([0, 6, 7, 15], [(6, 6)]) })] 400 (ev := .cond (v0.2 != 0) c19x4 c19x5 [.seq c19x6]) (σ' := mkS 23 [(0, .sl false (x0.map row_T_api_Const)), (6, .lptr 6 0 0), (7, dI v0.2), (15, .bool (v0.2 != 0))] [(6, { sz := 5, rows := [row_T_api_Const v0.1], frz := 0, pure := false })]) (q := [True ∧ (cq Try.prog (tN 3) 39 [.sl false (x0.map row_T_api_Const), dI x1, dI 8] (.tup [.agg (row_T_api_Const v0.1), dI v0.2])), True ∧ (0 ≤ 0 ∧ 0 + ([dI v0.1.f_Tag, .str v0.1.f_S, dI v0.1.f_N, dI v0.1.f_A, dI v0.1.f_B] : List D).length ≤ ([dI 0, .str [], dI 0, dI 0, dI 0] : List D).length ∧ ([[dI v0.1.f_Tag, .str v0.1.f_S, dI v0.1.f_N, dI v0.1.f_A, dI v0.1.f_B]] : List (List D)) = ([[dI v0.1.f_Tag, .str v0.1.f_S, dI v0.1.f_N, dI v0.1.f_A, dI v0.1.f_B]] : List (List D)))]) (by kernel_rfl) ⟨⟨trivial, cqi (tNi 3) (w39 e0)⟩, ⟨trivial, ⟨Nat.zero_le _, Nat.le_of_ble_eq_true rfl, rfl⟩⟩, trivial⟩ ?_
  refine EvOk.cond (fun h0 => ?_) (fun h0 => ?_)
  · replace h := iteT h0 h
    refine At.gc [7] [] (n := 23) (l := [(7, dI v0.2)]) (bl := []) (by kernel_rfl) ?_
    refine At.adv [] [(3, { keep := some ([4, 5], []) })] 400 (ev := .ret) (σ' := mkS 23 [(4, .str []), (5, dI v0.2)] []) (q := []) (by kernel_rfl) trivial ?_
    refine EvOk.ret ?_
    obtain rfl := someE h
    exact Den.Ends.mk (.inl rfl) (d := .tup [.str [], dI v0.2]) (p := (True ∧ (True ∧ True)) ∧ (tN 2)) (by kernel_rfl) ⟨⟨trivial, ⟨trivial, trivial⟩⟩, tNi 2⟩ (by kernel_rfl)
  · replace h := iteF h0 h
    refine At.gc [0, 6] [(6, 6)] (n := 23) (l := [(0, .sl false (x0.map row_T_api_Const)), (6, .lptr 6 0 0)]) (bl := [(6, { sz := 5, rows := [row_T_api_Const v0.1], frz := 0, pure := false })]) (by kernel_rfl) ?_
    obtain ⟨v1, e1, h⟩ := bindE h
    refine At.adv [] [(4, { told := [(3, { ans := .val (.tup [.str v1.1, dI v1.2]) })], keep := some ([4, 5], []) })] 400 (ev := .ret) (σ' := mkS 23 [(4, .str v1.1), (5, dI v1.2)] []) (q := [True ∧ (cq Try.prog (tN 2) 15 [.sl false (x0.map row_T_api_Const), dI v0.1.f_A] (.tup [.str v1.1, dI v1.2]))]) (by kernel_rfl) ⟨⟨trivial, cqi (tNi 2) (w15 e1)⟩, trivial⟩ ?_
    refine EvOk.ret ?_
    obtain rfl := someE h
    exact Den.Ends.mk (.inl rfl) (d := .tup [.str v1.1, dI v1.2]) (p := (True ∧ (True ∧ True)) ∧ (tN 2)) (by kernel_rfl) ⟨⟨trivial, ⟨trivial, trivial⟩⟩, tNi 2⟩ (by kernel_rfl)
theorem w19 {x0 : List T_api_Const} {x1 : Int} {r : (List UInt8) × Int} (h : m_armatureref05_StringValue x0 x1 = some r) : CallSpec Try.prog 19 [.sl false (x0.map row_T_api_Const), .int .i64 x1] (.tup [.str r.1, .int .i64 r.2]) :=
  CallSpec.at2 b19 (n := 23) (l := [(0, .sl false (x0.map row_T_api_Const)), (1, .int .i64 x1)]) (by kernel_rfl) (by kernel_rfl) (by kernel_rfl) (by kernel_rfl) (by kernel_rfl) (Nat.le_of_ble_eq_true (by kernel_rfl)) (fun Γ => we19 x0 x1 r h Γ)

/-! ### armature armatureref05.MemberRef -/
noncomputable def b23 : Code := Try.f23.body.getD .skip
noncomputable def c23x0 : Code := sub1 b23
noncomputable def c23x1 : Code := sub1 c23x0
noncomputable def c23x2 : Code := sub1 c23x1
noncomputable def c23x3 : Code := sub0 c23x2
noncomputable def c23x4 : Code := sub1 c23x3
noncomputable def c23x5 : Code := sub0 c23x4
noncomputable def c23x6 : Code := sub1 c23x4
noncomputable def c23x7 : Code := sub1 c23x2
noncomputable def c23x8 : Code := sub0 c23x7
noncomputable def c23x9 : Code := sub1 c23x7
noncomputable def c23x10 : Code := sub0 c23x1
noncomputable def c23x11 : Code := sub1 c23x10
noncomputable def c23x12 : Code := sub0 c23x11
noncomputable def c23x13 : Code := sub1 c23x11
noncomputable def c23x14 : Code := sub1 c23x9
noncomputable def c23x15 : Code := sub1 c23x14
noncomputable def c23x16 : Code := sub0 c23x15
noncomputable def c23x17 : Code := sub1 c23x16
noncomputable def c23x18 : Code := sub0 c23x17
noncomputable def c23x19 : Code := sub1 c23x17
noncomputable def c23x20 : Code := sub1 c23x15
noncomputable def c23x21 : Code := sub0 c23x9
noncomputable def c23x22 : Code := sub1 c23x21
noncomputable def c23x23 : Code := sub0 c23x22
noncomputable def c23x24 : Code := sub1 c23x22
def j23x1 (v0 : T_api_Const × Int) (x0 : List T_api_Const) : Option (T_api_Ref × Int) :=
  (m_armatureref05_ClassName x0 v0.1.f_A).bind fun v2 =>
  if (v2.2 != 0) = true then
    (some (({ f_Class := [], f_Name := [], f_Desc := [] } : T_api_Ref), v2.2)) else
  ((m_armatureref05_NameAndType x0 v0.1.f_B).bind fun v3 =>
    if (v3.2.2 != 0) = true then
      (some (({ f_Class := [], f_Name := [], f_Desc := [] } : T_api_Ref), v3.2.2)) else
    (some (({ f_Class := v2.1, f_Name := v3.1, f_Desc := v3.2.1 } : T_api_Ref), 0)))
def m_armatureref05_MemberRef (x0 : List T_api_Const) (x1 : Int) (x2 : Int) : Option (T_api_Ref × Int) :=
  (m_armatureref05_At x0 x1).bind fun v0 =>
  if (v0.2 != 0) = true then
    (some (({ f_Class := [], f_Name := [], f_Desc := [] } : T_api_Ref), v0.2)) else
  ((m_armatureref05_member x2).bind fun v1 =>
    if (!v1) = true then (some (({ f_Class := [], f_Name := [], f_Desc := [] } : T_api_Ref), 11)) else
    (if (v0.1.f_Tag != x2) = true then
      (some (({ f_Class := [], f_Name := [], f_Desc := [] } : T_api_Ref), 11)) else
    ((j23x1 v0 x0) )))
theorem wj23x1 (v0 : T_api_Const × Int) (x0 : List T_api_Const) (r : T_api_Ref × Int) (h : (j23x1 v0 x0)  = some r) (Γ : Ctx) : EvOk Try.prog Γ (Den.Ends Try.prog Try.f23 (.tup [.agg (row_T_api_Ref r.1), dI r.2])) (mkS 60 [(0, .sl false (x0.map row_T_api_Const)), (6, .lptr 6 0 0), (8, .lptr 8 0 0)] [(6, { sz := 3, rows := [[.str [], .str [], .str []]], frz := 0, pure := false }), (8, { sz := 5, rows := [row_T_api_Const v0.1], frz := 0, pure := false })]) (.stop c23x8 [.seq c23x9]) := by
  refine EvOk.stop ?_
  obtain ⟨v2, e2, h⟩ := bindE h
  refine At.adv [] [(6, { told := [(3, { ans := .val (.tup [.str v2.1, dI v2.2]) })], keep := some ([0, 6, 8, 9, 10], [(6, 6), (8, 8)]) }), (7, { keep := some ([0, 6, 8, 9, 10, 41], [(6, 6), (8, 8)]) })] 400 (ev := .cond (v2.2 != 0) c23x23 c23x24 [.seq c23x14]) (σ' := mkS 60 [(0, .sl false (x0.map row_T_api_Const)), (6, .lptr 6 0 0), (8, .lptr 8 0 0), (9, dI v2.2), (10, .str v2.1), (41, .bool (v2.2 != 0))] [(6, { sz := 3, rows := [[.str [], .str [], .str []]], frz := 0, pure := false }), (8, { sz := 5, rows := [row_T_api_Const v0.1], frz := 0, pure := false })]) (q := [True ∧ (cq Try.prog (tN 2) 17 [.sl false (x0.map row_T_api_Const), dI v0.1.f_A] (.tup [.str v2.1, dI v2.2]))]) (by kernel_rfl) ⟨⟨trivial, cqi (tNi 2) (w17 e2)⟩, trivial⟩ ?_
  refine EvOk.cond (fun h3 => ?_) (fun h3 => ?_)
  · replace h := iteT h3 h
    refine At.gc [6, 9] [(6, 6)] (n := 60) (l := [(6, .lptr 6 0 0), (9, dI v2.2)]) (bl := [(6, { sz := 3, rows := [[.str [], .str [], .str []]], frz := 0, pure := false })]) (by kernel_rfl) ?_
    refine At.adv [] [(8, { keep := some ([6, 7], [(6, 6)]) })] 400 (ev := .ret) (σ' := mkS 60 [(6, .lptr 6 0 0), (7, dI v2.2)] [(6, { sz := 3, rows := [[.str [], .str [], .str []]], frz := 0, pure := false })]) (q := [True ∧ (0 ≤ 0 ∧ 0 + ([.str [], .str [], .str []] : List D).length ≤ ([.str [], .str [], .str []] : List D).length ∧ ([[.str [], .str [], .str []]] : List (List D)) = ([[.str [], .str [], .str []]] : List (List D)))]) (by kernel_rfl) ⟨⟨trivial, ⟨Nat.zero_le _, Nat.le_of_ble_eq_true rfl, rfl⟩⟩, trivial⟩ ?_
    refine EvOk.ret ?_
    obtain rfl := someE h
    exact Den.Ends.mk (.inl rfl) (d := .tup [.agg [.str [], .str [], .str []], dI v2.2]) (p := (True ∧ (True ∧ True)) ∧ ((tN 3) ∧ (True ∧ True))) (by kernel_rfl) ⟨⟨trivial, ⟨trivial, trivial⟩⟩, ⟨tNi 3, ⟨trivial, trivial⟩⟩⟩ (by kernel_rfl)
  · replace h := iteF h3 h
    refine At.gc [0, 6, 8, 10] [(6, 6), (8, 8)] (n := 60) (l := [(0, .sl false (x0.map row_T_api_Const)), (6, .lptr 6 0 0), (8, .lptr 8 0 0), (10, .str v2.1)]) (bl := [(6, { sz := 3, rows := [[.str [], .str [], .str []]], frz := 0, pure := false }), (8, { sz := 5, rows := [row_T_api_Const v0.1], frz := 0, pure := false })]) (by kernel_rfl) ?_
    obtain ⟨v3, e3, h⟩ := bindE h
    refine At.adv [] [(9, { told := [(3, { ans := .val (.tup [.str v3.1, .str v3.2.1, dI v3.2.2]) })], keep := some ([6, 9, 10, 11, 12], [(6, 6)]) }), (10, { keep := some ([6, 9, 10, 11, 12, 53], [(6, 6)]) })] 400 (ev := .cond (v3.2.2 != 0) c23x18 c23x19 [.seq c23x20]) (σ' := mkS 60 [(6, .lptr 6 0 0), (9, dI v3.2.2), (10, .str v2.1), (11, .str v3.1), (12, .str v3.2.1), (53, .bool (v3.2.2 != 0))] [(6, { sz := 3, rows := [[.str [], .str [], .str []]], frz := 0, pure := false })]) (q := [True ∧ (cq Try.prog (tN 2) 21 [.sl false (x0.map row_T_api_Const), dI v0.1.f_B] (.tup [.str v3.1, .str v3.2.1, dI v3.2.2]))]) (by kernel_rfl) ⟨⟨trivial, cqi (tNi 2) (w21 e3)⟩, trivial⟩ ?_
    refine EvOk.cond (fun h4 => ?_) (fun h4 => ?_)
    · replace h := iteT h4 h
      refine At.gc [6, 9] [(6, 6)] (n := 60) (l := [(6, .lptr 6 0 0), (9, dI v3.2.2)]) (bl := [(6, { sz := 3, rows := [[.str [], .str [], .str []]], frz := 0, pure := false })]) (by kernel_rfl) ?_
      refine At.adv [] [(11, { keep := some ([6, 7], [(6, 6)]) })] 400 (ev := .ret) (σ' := mkS 60 [(6, .lptr 6 0 0), (7, dI v3.2.2)] [(6, { sz := 3, rows := [[.str [], .str [], .str []]], frz := 0, pure := false })]) (q := [True ∧ (0 ≤ 0 ∧ 0 + ([.str [], .str [], .str []] : List D).length ≤ ([.str [], .str [], .str []] : List D).length ∧ ([[.str [], .str [], .str []]] : List (List D)) = ([[.str [], .str [], .str []]] : List (List D)))]) (by kernel_rfl) ⟨⟨trivial, ⟨Nat.zero_le _, Nat.le_of_ble_eq_true rfl, rfl⟩⟩, trivial⟩ ?_
      refine EvOk.ret ?_
      obtain rfl := someE h
      exact Den.Ends.mk (.inl rfl) (d := .tup [.agg [.str [], .str [], .str []], dI v3.2.2]) (p := (True ∧ (True ∧ True)) ∧ ((tN 3) ∧ (True ∧ True))) (by kernel_rfl) ⟨⟨trivial, ⟨trivial, trivial⟩⟩, ⟨tNi 3, ⟨trivial, trivial⟩⟩⟩ (by kernel_rfl)
    · replace h := iteF h4 h
      refine At.gc [6, 10, 11, 12] [(6, 6)] (n := 60) (l := [(6, .lptr 6 0 0), (10, .str v2.1), (11, .str v3.1), (12, .str v3.2.1)]) (bl := [(6, { sz := 3, rows := [[.str [], .str [], .str []]], frz := 0, pure := false })]) (by kernel_rfl) ?_
      refine At.adv [] [(12, { keep := some ([6, 7], [(6, 6)]) })] 400 (ev := .ret) (σ' := mkS 60 [(6, .lptr 6 0 0), (7, dI 0)] [(6, { sz := 3, rows := [[.str v2.1, .str v3.1, .str v3.2.1]], frz := 0, pure := false })]) (q := [True ∧ (0 ≤ 0 ∧ 0 + ([.str v2.1, .str v3.1, .str v3.2.1] : List D).length ≤ ([.str [], .str [], .str []] : List D).length ∧ ([[.str v2.1, .str v3.1, .str v3.2.1]] : List (List D)) = ([[.str v2.1, .str v3.1, .str v3.2.1]] : List (List D)))]) (by kernel_rfl) ⟨⟨trivial, ⟨Nat.zero_le _, Nat.le_of_ble_eq_true rfl, rfl⟩⟩, trivial⟩ ?_
      refine EvOk.ret ?_
      obtain rfl := someE h
      exact Den.Ends.mk (.inl rfl) (d := .tup [.agg [.str v2.1, .str v3.1, .str v3.2.1], dI 0]) (p := (True ∧ (True ∧ True)) ∧ ((tN 3) ∧ (True ∧ True))) (by kernel_rfl) ⟨⟨trivial, ⟨trivial, trivial⟩⟩, ⟨tNi 3, ⟨trivial, trivial⟩⟩⟩ (by kernel_rfl)
theorem we23 (x0 : List T_api_Const) (x1 : Int) (x2 : Int) (r : T_api_Ref × Int) (h : m_armatureref05_MemberRef x0 x1 x2 = some r) (Γ : Ctx) : At Try.prog Γ b23 [] (Den.Ends Try.prog Try.f23 (.tup [.agg (row_T_api_Ref r.1), dI r.2])) (mkS 60 [(0, .sl false (x0.map row_T_api_Const)), (1, dI x1), (2, dI x2)] []) := by
  obtain ⟨v0, e0, h⟩ := bindE h
  refine At.adv [] [(0, { keep := some ([0, 1, 2, 6], [(6, 6)]) }), (1, { told := [(2, { ans := .val (.tup [.agg (row_T_api_Const v0.1), dI v0.2]) })], keep := some ([0, 2, 6, 8, 9], [(6, 6), (8, 8)]) }), (2, { keep := some ([0, 2, 6, 8, 9, 20], [(6, 6), (8, 8)]) })] 400 (ev := .cond (v0.2 != 0) c23x12 c23x13 [.seq c23x2]) (σ' := mkS 60 [(0, .sl false (x0.map row_T_api_Const)), (2, dI x2), (6, .lptr 6 0 0), (8, .lptr 8 0 0), (9, dI v0.2), (20, .bool (v0.2 != 0))] [(6, { sz := 3, rows := [[.str [], .str [], .str []]], frz := 0, pure := false }), (8, { sz := 5, rows := [row_T_api_Const v0.1], frz := 0, pure := false })]) (q := [True ∧ (cq Try.prog (tN 2) 13 [.sl false (x0.map row_T_api_Const), dI x1] (.tup [.agg (row_T_api_Const v0.1), dI v0.2])), True ∧ (0 ≤ 0 ∧ 0 + ([dI v0.1.f_Tag, .str v0.1.f_S, dI v0.1.f_N, dI v0.1.f_A, dI v0.1.f_B] : List D).length ≤ ([dI 0, .str [], dI 0, dI 0, dI 0] : List D).length ∧ ([[dI v0.1.f_Tag, .str v0.1.f_S, dI v0.1.f_N, dI v0.1.f_A, dI v0.1.f_B]] : List (List D)) = ([[dI v0.1.f_Tag, .str v0.1.f_S, dI v0.1.f_N, dI v0.1.f_A, dI v0.1.f_B]] : List (List D)))]) (by kernel_rfl) ⟨⟨trivial, cqi (tNi 2) (w13 e0)⟩, ⟨trivial, ⟨Nat.zero_le _, Nat.le_of_ble_eq_true rfl, rfl⟩⟩, trivial⟩ ?_
  refine EvOk.cond (fun h0 => ?_) (fun h0 => ?_)
  · replace h := iteT h0 h
    refine At.gc [6, 9] [(6, 6)] (n := 60) (l := [(6, .lptr 6 0 0), (9, dI v0.2)]) (bl := [(6, { sz := 3, rows := [[.str [], .str [], .str []]], frz := 0, pure := false })]) (by kernel_rfl) ?_
    refine At.adv [] [(3, { keep := some ([6, 7], [(6, 6)]) })] 400 (ev := .ret) (σ' := mkS 60 [(6, .lptr 6 0 0), (7, dI v0.2)] [(6, { sz := 3, rows := [[.str [], .str [], .str []]], frz := 0, pure := false })]) (q := [True ∧ (0 ≤ 0 ∧ 0 + ([.str [], .str [], .str []] : List D).length ≤ ([.str [], .str [], .str []] : List D).length ∧ ([[.str [], .str [], .str []]] : List (List D)) = ([[.str [], .str [], .str []]] : List (List D)))]) (by kernel_rfl) ⟨⟨trivial, ⟨Nat.zero_le _, Nat.le_of_ble_eq_true rfl, rfl⟩⟩, trivial⟩ ?_
    refine EvOk.ret ?_
    obtain rfl := someE h
    exact Den.Ends.mk (.inl rfl) (d := .tup [.agg [.str [], .str [], .str []], dI v0.2]) (p := (True ∧ (True ∧ True)) ∧ ((tN 3) ∧ (True ∧ True))) (by kernel_rfl) ⟨⟨trivial, ⟨trivial, trivial⟩⟩, ⟨tNi 3, ⟨trivial, trivial⟩⟩⟩ (by kernel_rfl)
  · replace h := iteF h0 h
    refine At.gc [0, 2, 6, 8] [(6, 6), (8, 8)] (n := 60) (l := [(0, .sl false (x0.map row_T_api_Const)), (2, dI x2), (6, .lptr 6 0 0), (8, .lptr 8 0 0)]) (bl := [(6, { sz := 3, rows := [[.str [], .str [], .str []]], frz := 0, pure := false }), (8, { sz := 5, rows := [row_T_api_Const v0.1], frz := 0, pure := false })]) (by kernel_rfl) ?_
    obtain ⟨v1, e1, h⟩ := bindE h
    rcases Bool.eq_false_or_eq_true (!v1) with h1 | h1
    · replace h := iteT h1 h
      refine At.adv [] [(4, { told := [(1, aB v1), (8, aT)], gs := [(4, false), (5, false), (6, false), (7, false)], keep := some ([0, 6, 8, 31], [(6, 6), (8, 8)]) })] 400 (ev := .cond true c23x5 c23x6 [.seq c23x7]) (σ' := mkS 60 [(0, .sl false (x0.map row_T_api_Const)), (6, .lptr 6 0 0), (8, .lptr 8 0 0), (31, .bool true)] [(6, { sz := 3, rows := [[.str [], .str [], .str []]], frz := 0, pure := false }), (8, { sz := 5, rows := [row_T_api_Const v0.1], frz := 0, pure := false })]) (q := [True ∧ (cq Try.prog (tN 1) 42 [dI x2] (.bool v1)), ((!v1) == false) = false, ((!v1) == false) = false, ((!v1) == false) = false, ((!v1) == false) = false, True ∧ ((!v1) = true)]) (by kernel_rfl) ⟨⟨trivial, cqi (tNi 1) (w42 e1)⟩, gB h1 rfl, gB h1 rfl, gB h1 rfl, gB h1 rfl, ⟨trivial, h1⟩, trivial⟩ ?_
      refine EvOk.cond (fun _ => ?_) (fun hb => Bool.noConfusion hb)
      refine At.gc [6] [(6, 6)] (n := 60) (l := [(6, .lptr 6 0 0)]) (bl := [(6, { sz := 3, rows := [[.str [], .str [], .str []]], frz := 0, pure := false })]) (by kernel_rfl) ?_
      refine At.adv [] [(5, { keep := some ([6, 7], [(6, 6)]) })] 400 (ev := .ret) (σ' := mkS 60 [(6, .lptr 6 0 0), (7, dI 11)] [(6, { sz := 3, rows := [[.str [], .str [], .str []]], frz := 0, pure := false })]) (q := [True ∧ (0 ≤ 0 ∧ 0 + ([.str [], .str [], .str []] : List D).length ≤ ([.str [], .str [], .str []] : List D).length ∧ ([[.str [], .str [], .str []]] : List (List D)) = ([[.str [], .str [], .str []]] : List (List D)))]) (by kernel_rfl) ⟨⟨trivial, ⟨Nat.zero_le _, Nat.le_of_ble_eq_true rfl, rfl⟩⟩, trivial⟩ ?_
      refine EvOk.ret ?_
      obtain rfl := someE h
      exact Den.Ends.mk (.inl rfl) (d := .tup [.agg [.str [], .str [], .str []], dI 11]) (p := (True ∧ (True ∧ True)) ∧ ((tN 3) ∧ (True ∧ True))) (by kernel_rfl) ⟨⟨trivial, ⟨trivial, trivial⟩⟩, ⟨tNi 3, ⟨trivial, trivial⟩⟩⟩ (by kernel_rfl)
    · replace h := iteF h1 h
      refine At.adv [] [(4, { told := [(1, aB v1), (8, aF)], gs := [(4, true), (5, true), (6, true), (7, true)], keep := some ([0, 6, 8, 31], [(6, 6), (8, 8)]) })] 400 (ev := .cond (v0.1.f_Tag != x2) c23x5 c23x6 [.seq c23x7]) (σ' := mkS 60 [(0, .sl false (x0.map row_T_api_Const)), (6, .lptr 6 0 0), (8, .lptr 8 0 0), (31, .bool (v0.1.f_Tag != x2))] [(6, { sz := 3, rows := [[.str [], .str [], .str []]], frz := 0, pure := false }), (8, { sz := 5, rows := [row_T_api_Const v0.1], frz := 0, pure := false })]) (q := [True ∧ (cq Try.prog (tN 1) 42 [dI x2] (.bool v1)), ((!v1) == false) = true ∧ True, ((!v1) == false) = true ∧ True, ((!v1) == false) = true ∧ True, ((!v1) == false) = true ∧ True, True ∧ ((!v1) = false)]) (by kernel_rfl) ⟨⟨trivial, cqi (tNi 1) (w42 e1)⟩, ⟨(gB h1 rfl), trivial⟩, ⟨(gB h1 rfl), trivial⟩, ⟨(gB h1 rfl), trivial⟩, ⟨(gB h1 rfl), trivial⟩, ⟨trivial, h1⟩, trivial⟩ ?_
      refine EvOk.cond (fun h2 => ?_) (fun h2 => ?_)
      · replace h := iteT h2 h
        refine At.gc [6] [(6, 6)] (n := 60) (l := [(6, .lptr 6 0 0)]) (bl := [(6, { sz := 3, rows := [[.str [], .str [], .str []]], frz := 0, pure := false })]) (by kernel_rfl) ?_
        refine At.adv [] [(5, { keep := some ([6, 7], [(6, 6)]) })] 400 (ev := .ret) (σ' := mkS 60 [(6, .lptr 6 0 0), (7, dI 11)] [(6, { sz := 3, rows := [[.str [], .str [], .str []]], frz := 0, pure := false })]) (q := [True ∧ (0 ≤ 0 ∧ 0 + ([.str [], .str [], .str []] : List D).length ≤ ([.str [], .str [], .str []] : List D).length ∧ ([[.str [], .str [], .str []]] : List (List D)) = ([[.str [], .str [], .str []]] : List (List D)))]) (by kernel_rfl) ⟨⟨trivial, ⟨Nat.zero_le _, Nat.le_of_ble_eq_true rfl, rfl⟩⟩, trivial⟩ ?_
        refine EvOk.ret ?_
        obtain rfl := someE h
        exact Den.Ends.mk (.inl rfl) (d := .tup [.agg [.str [], .str [], .str []], dI 11]) (p := (True ∧ (True ∧ True)) ∧ ((tN 3) ∧ (True ∧ True))) (by kernel_rfl) ⟨⟨trivial, ⟨trivial, trivial⟩⟩, ⟨tNi 3, ⟨trivial, trivial⟩⟩⟩ (by kernel_rfl)
      · replace h := iteF h2 h
        refine At.gc [0, 6, 8] [(6, 6), (8, 8)] (n := 60) (l := [(0, .sl false (x0.map row_T_api_Const)), (6, .lptr 6 0 0), (8, .lptr 8 0 0)]) (bl := [(6, { sz := 3, rows := [[.str [], .str [], .str []]], frz := 0, pure := false }), (8, { sz := 5, rows := [row_T_api_Const v0.1], frz := 0, pure := false })]) (by kernel_rfl) ?_
        refine At.adv [6] [] 400 (ev := .stop c23x8 [.seq c23x9]) (σ' := mkS 60 [(0, .sl false (x0.map row_T_api_Const)), (6, .lptr 6 0 0), (8, .lptr 8 0 0)] [(6, { sz := 3, rows := [[.str [], .str [], .str []]], frz := 0, pure := false }), (8, { sz := 5, rows := [row_T_api_Const v0.1], frz := 0, pure := false })]) (q := []) (by kernel_rfl) trivial ?_
        exact (wj23x1 v0 x0)  r h Γ
theorem w23 {x0 : List T_api_Const} {x1 : Int} {x2 : Int} {r : T_api_Ref × Int} (h : m_armatureref05_MemberRef x0 x1 x2 = some r) : CallSpec Try.prog 23 [.sl false (x0.map row_T_api_Const), .int .i64 x1, .int .i64 x2] (.tup [.agg (row_T_api_Ref r.1), .int .i64 r.2]) :=
  CallSpec.at2 b23 (n := 60) (l := [(0, .sl false (x0.map row_T_api_Const)), (1, .int .i64 x1), (2, .int .i64 x2)]) (by kernel_rfl) (by kernel_rfl) (by kernel_rfl) (by kernel_rfl) (by kernel_rfl) (Nat.le_of_ble_eq_true (by kernel_rfl)) (fun Γ => we23 x0 x1 x2 r h Γ)

/-! ### armature pool.AddString -/
noncomputable def b25 : Code := Try.f25.body.getD .skip
def m_pool_AddString (x0 : List T_api_Const) (x1 : List UInt8) : Option ((List T_api_Const) × Int × Int) :=
  (m_armature_pool_builder_add ({ f_pool := x0, f_err := 0 } : T_pool_builder) ({ f_Tag := 1, f_S := x1, f_N := 0, f_A := 0, f_B := 0 } : T_api_Const)).bind fun v0 =>
  (m_armature_pool_builder_add v0.1 ({ f_Tag := 8, f_S := [], f_N := 0, f_A := v0.2, f_B := 0 } : T_api_Const)).bind fun v1 =>
  (m_armature_pool_builder_result v1.1 x0 v1.2).bind fun v2 =>
  some (v2.2.1, v2.2.2.1, v2.2.2.2)
theorem we25 (x0 : List T_api_Const) (x1 : List UInt8) (r : (List T_api_Const) × Int × Int) (h : m_pool_AddString x0 x1 = some r) (Γ : Ctx) : At Try.prog Γ b25 [] (Den.Ends Try.prog Try.f25 (.tup [.sl false (r.1.map row_T_api_Const), dI r.2.1, dI r.2.2])) (mkS 24 [(0, .sl false (x0.map row_T_api_Const)), (1, .str x1)] []) := by
  obtain ⟨v0, e0, h⟩ := bindE h
  obtain ⟨v1, e1, h⟩ := bindE h
  obtain ⟨v2, e2, h⟩ := bindE h
  refine At.adv [] [(0, { keep := some ([0, 1], []) }), (1, { keep := some ([0, 1, 7], [(10, 10)]) }), (2, { told := [(6, { ans := .val (dI v0.2), io := some { names := [10], bs := [{ sz := 2, rows := [[.sl false (({ f_pool := x0, f_err := 0 } : T_pool_builder).f_pool.map row_T_api_Const), dI ({ f_pool := x0, f_err := 0 } : T_pool_builder).f_err]], frz := 0, pure := false, pin := some 0 }], bs' := [{ sz := 2, rows := [row_T_pool_builder v0.1], frz := 0, pure := false, pin := some 0 }] } }), (8, { ans := .val (dI v1.2), io := some { names := [10], bs := [{ sz := 2, rows := [row_T_pool_builder v0.1], frz := 0, pure := false, pin := some 0 }], bs' := [{ sz := 2, rows := [row_T_pool_builder v1.1], frz := 0, pure := false, pin := some 0 }] } }), (9, { ans := .val (.tup [.sl false (v2.2.1.map row_T_api_Const), dI v2.2.2.1, dI v2.2.2.2]), io := some { names := [10], bs := [{ sz := 2, rows := [row_T_pool_builder v1.1], frz := 0, pure := false, pin := some 0 }], bs' := [{ sz := 2, rows := [row_T_pool_builder v2.1], frz := 0, pure := false, pin := some 0 }] } })], keep := some ([4, 5, 6], []) })] 400 (ev := .ret) (σ' := mkS 24 [(4, .sl false (v2.2.1.map row_T_api_Const)), (5, dI v2.2.2.1), (6, dI v2.2.2.2)] []) (q := [True ∧ (cqo Try.prog ((tN 5) ∧ True) 44 [.lptr 0 0 0, .agg [dI 1, .str x1, dI 0, dI 0, dI 0]] [{ sz := 2, rows := [[.sl false (({ f_pool := x0, f_err := 0 } : T_pool_builder).f_pool.map row_T_api_Const), dI ({ f_pool := x0, f_err := 0 } : T_pool_builder).f_err]], frz := 0, pure := false, pin := some 0 }] (dI v0.2) [{ sz := 2, rows := [row_T_pool_builder v0.1], frz := 0, pure := false, pin := some 0 }]), True ∧ (cqo Try.prog ((tN 5) ∧ True) 44 [.lptr 0 0 0, .agg [dI 8, .str [], dI 0, dI v0.2, dI 0]] [{ sz := 2, rows := [row_T_pool_builder v0.1], frz := 0, pure := false, pin := some 0 }] (dI v1.2) [{ sz := 2, rows := [row_T_pool_builder v1.1], frz := 0, pure := false, pin := some 0 }]), True ∧ (cqo Try.prog (True ∧ (True ∧ True)) 43 [.lptr 0 0 0, .sl false (x0.map row_T_api_Const), dI v1.2] [{ sz := 2, rows := [row_T_pool_builder v1.1], frz := 0, pure := false, pin := some 0 }] (.tup [.sl false (v2.2.1.map row_T_api_Const), dI v2.2.2.1, dI v2.2.2.2]) [{ sz := 2, rows := [row_T_pool_builder v2.1], frz := 0, pure := false, pin := some 0 }])]) (by kernel_rfl) ⟨⟨trivial, cqoi (⟨tNi 5, trivial⟩) (w44 e0)⟩, ⟨trivial, cqoi (⟨tNi 5, trivial⟩) (w44 e1)⟩, ⟨trivial, cqoi (⟨trivial, ⟨trivial, trivial⟩⟩) (w43 e2)⟩, trivial⟩ ?_
  refine EvOk.ret ?_
  obtain rfl := someE h
  exact Den.Ends.mk (.inl rfl) (d := .tup [.sl false (v2.2.1.map row_T_api_Const), dI v2.2.2.1, dI v2.2.2.2]) (p := (True ∧ (True ∧ (True ∧ True))) ∧ (tN 3)) (by kernel_rfl) ⟨⟨trivial, ⟨trivial, ⟨trivial, trivial⟩⟩⟩, tNi 3⟩ (by kernel_rfl)
theorem w25 {x0 : List T_api_Const} {x1 : List UInt8} {r : (List T_api_Const) × Int × Int} (h : m_pool_AddString x0 x1 = some r) : CallSpec Try.prog 25 [.sl false (x0.map row_T_api_Const), .str x1] (.tup [.sl false (r.1.map row_T_api_Const), .int .i64 r.2.1, .int .i64 r.2.2]) :=
  CallSpec.at2 b25 (n := 24) (l := [(0, .sl false (x0.map row_T_api_Const)), (1, .str x1)]) (by kernel_rfl) (by kernel_rfl) (by kernel_rfl) (by kernel_rfl) (by kernel_rfl) (Nat.le_of_ble_eq_true (by kernel_rfl)) (fun Γ => we25 x0 x1 r h Γ)

/-! ### armature armatureref05.Same -/
noncomputable def b27 : Code := Try.f27.body.getD .skip
noncomputable def c27x0 : Code := sub1 b27
noncomputable def c27x1 : Code := sub0 c27x0
noncomputable def c27x2 : Code := sub1 c27x1
noncomputable def c27x3 : Code := sub0 c27x2
noncomputable def c27x4 : Code := sub0 c27x3
noncomputable def c27x5 : Code := sub1 c27x4
noncomputable def c27x6 : Code := sub0 c27x5
noncomputable def c27x7 : Code := sub0 c27x6
noncomputable def c27x8 : Code := sub0 c27x7
noncomputable def c27x9 : Code := sub1 c27x7
noncomputable def c27x10 : Code := sub1 c27x5
noncomputable def c27x11 : Code := sub0 c27x4
noncomputable def c27x12 : Code := sub1 c27x11
noncomputable def c27x13 : Code := sub0 c27x12
noncomputable def c27x14 : Code := sub1 c27x12
noncomputable def c27x15 : Code := sub0 c27x9
noncomputable def c27x16 : Code := sub1 c27x9
noncomputable def c27x17 : Code := sub1 c27x0
def j27x1 (t0 : Int) (x0 : List T_api_Const) (x1 : List T_api_Const) : Option (Ctl (Int) (Unit ⊕ Bool)) :=
  (getR x0 t0).bind fun v2 =>
  (getR x1 t0).bind fun v3 =>
  if (!(eqb_T_api_Const v2 v3)) = true then
    (some (.done (.inr false))) else
  ((some (IntKind.wrap .i64 (t0 + (1 : Int)))).bind fun v4 =>
    some (.next v4))
def l27x1 (x0 : List T_api_Const) (x1 : List T_api_Const) (t0 : Int) : Option (Ctl (Int) (Unit ⊕ Bool)) :=
  if (decide (t0 < (x0.length : Int))) = true then (if (decide (t0 < (x1.length : Int))) = true then
    ((j27x1 t0 x0 x1) ) else
  (some (.done (.inl (()))))) else
  (some (.done (.inl (()))))
def m_armatureref05_Same (x0 : List T_api_Const) (x1 : List T_api_Const) : Option (Bool) :=
  (loopM (l27x1 x0 x1) rounds 0).bind fun q1 =>
  match q1 with
  | .inl q0 => (some ((x0.length : Int) == (x1.length : Int)))
  | .inr y0 => (some y0)
def st27x1 (x0 : List T_api_Const) (x1 : List T_api_Const) : Int → S :=
  fun t0 => mkS 32 [(0, .sl false (x0.map row_T_api_Const)), (1, .sl false (x1.map row_T_api_Const)), (5, .int .i64 t0)] []
noncomputable def J27x1 (x0 : List T_api_Const) (x1 : List T_api_Const) : (Unit ⊕ Bool) → Exit → S → Prop :=
  JSum (JExit 0 (fun q0 : Unit => mkS 32 [(0, .sl false (x0.map row_T_api_Const)), (1, .sl false (x1.map row_T_api_Const))] [])) (JRet Try.prog Try.f27 (fun y : Bool => .bool y))
theorem wj27x1 (t0 : Int) (x0 : List T_api_Const) (x1 : List T_api_Const) (r : Ctl (Int) (Unit ⊕ Bool)) (h : (j27x1 t0 x0 x1)  = some r) (Γ : Ctx) : EvOk Try.prog Γ (Round (st27x1 x0 x1) (J27x1 x0 x1) r) (mkS 32 [(0, .sl false (x0.map row_T_api_Const)), (1, .sl false (x1.map row_T_api_Const)), (5, dI t0)] []) (.stop c27x8 [.seq c27x9, .blk 1, .seq c27x10]) := by
  refine EvOk.stop ?_
  obtain ⟨v2, e2, h⟩ := bindE h
  obtain ⟨v3, e3, h⟩ := bindE h
  refine At.adv [] [(4, { told := [(2, { ans := .row (row_T_api_Const v2) }), (6, { ans := .row (row_T_api_Const v3) }), (8, { ans := .val (.bool (!(eqb_T_api_Const v2 v3))) })], keep := some ([0, 1, 5, 26], []), ord := some ([0, 1, 2, 3, 4, 5, 6, 7, 8], [], [(2, [0, 1]), (3, [0, 1, 2]), (6, [4, 5]), (7, [4, 5, 6]), (8, [0, 1, 2, 3, 4, 5, 6, 7])]) })] 400 (ev := .cond (!(eqb_T_api_Const v2 v3)) c27x15 c27x16 [.blk 1, .seq c27x10]) (σ' := mkS 32 [(0, .sl false (x0.map row_T_api_Const)), (1, .sl false (x1.map row_T_api_Const)), (5, dI t0), (26, .bool (!(eqb_T_api_Const v2 v3)))] []) (q := [True ∧ (getR (x0.map row_T_api_Const) t0 = some (row_T_api_Const v2)), True ∧ (getR (x1.map row_T_api_Const) t0 = some (row_T_api_Const v3)), True ∧ (Try.prog.eqGuardType Try.prog.depth 29 = false ∧ eqq_29 ∧ (!(eqb_T_api_Const v2 v3)) = (!(eqb_T_api_Const v2 v3)))]) (by kernel_rfl) ⟨⟨trivial, getR_map row_T_api_Const e2⟩, ⟨trivial, getR_map row_T_api_Const e3⟩, ⟨trivial, ⟨eqg_29, eqp_29, rfl⟩⟩, trivial⟩ ?_
  refine EvOk.cond (fun h5 => ?_) (fun h5 => ?_)
  · replace h := iteT h5 h
    refine At.gc [] [] (n := 32) (l := []) (bl := []) (by kernel_rfl) ?_
    refine At.adv [] [(5, { keep := some ([4], []) })] 400 (ev := .ret) (σ' := mkS 32 [(4, .bool false)] []) (q := []) (by kernel_rfl) trivial ?_
    refine EvOk.ret ?_
    obtain rfl := someE h
    exact Round.done neRet ⟨rfl, Den.Ends.mk (.inl rfl) (d := .bool false) (p := (True ∧ True) ∧ (tN 1)) (by kernel_rfl) ⟨⟨trivial, trivial⟩, tNi 1⟩ (by kernel_rfl)⟩
  · replace h := iteF h5 h
    refine At.gc [0, 1, 5] [] (n := 32) (l := [(0, .sl false (x0.map row_T_api_Const)), (1, .sl false (x1.map row_T_api_Const)), (5, dI t0)]) (bl := []) (by kernel_rfl) ?_
    obtain ⟨v4, e4, h⟩ := bindE h
    refine At.adv [] [(3, { told := [(1, aI v4)], keep := some ([0, 1, 5], []) })] 400 (ev := .normal) (σ' := mkS 32 [(0, .sl false (x0.map row_T_api_Const)), (1, .sl false (x1.map row_T_api_Const)), (5, dI v4)] []) (q := [True ∧ (IntKind.wrap .i64 (t0 + (1 : Int)) = v4)]) (by kernel_rfl) ⟨⟨trivial, someE e4⟩, trivial⟩ ?_
    refine EvOk.normal ?_
    obtain rfl := someE h
    exact Round.next (by kernel_rfl)
theorem wl27x1 (x0 : List T_api_Const) (x1 : List T_api_Const) (t0 : Int) (r : Ctl (Int) (Unit ⊕ Bool)) (h : (l27x1 x0 x1) t0 = some r) (Γ : Ctx) : At Try.prog Γ c27x4 [] (Round (st27x1 x0 x1) (J27x1 x0 x1) r) ((st27x1 x0 x1) t0) := by
  rcases Bool.eq_false_or_eq_true (decide (t0 < (x0.length : Int))) with h3 | h3
  · replace h := iteT h3 h
    refine At.adv [] [(2, { told := [(2, { ans := .val (dI (x0.length : Int)) }), (3, aB true), (7, { ans := .val (dI (x1.length : Int)) })], keep := some ([0, 1, 5, 15], []) })] 400 (ev := .cond (decide (t0 < (x1.length : Int))) c27x13 c27x14 [.seq c27x5]) (σ' := mkS 32 [(0, .sl false (x0.map row_T_api_Const)), (1, .sl false (x1.map row_T_api_Const)), (5, dI t0), (15, .bool (decide (t0 < (x1.length : Int))))] []) (q := [True ∧ (((x0.map row_T_api_Const).length : Int) = (x0.length : Int)), True ∧ ((decide (t0 < (x0.length : Int))) = true), True ∧ True, True ∧ True, True ∧ (((x1.map row_T_api_Const).length : Int) = (x1.length : Int)), True ∧ True]) (by kernel_rfl) ⟨⟨trivial, lenM _ _⟩, ⟨trivial, h3⟩, ⟨trivial, trivial⟩, ⟨trivial, trivial⟩, ⟨trivial, lenM _ _⟩, ⟨trivial, trivial⟩, trivial⟩ ?_
    refine EvOk.cond (fun h4 => ?_) (fun h4 => ?_)
    · replace h := iteT h4 h
      refine At.gc [0, 1, 5] [] (n := 32) (l := [(0, .sl false (x0.map row_T_api_Const)), (1, .sl false (x1.map row_T_api_Const)), (5, dI t0)]) (bl := []) (by kernel_rfl) ?_
      refine At.adv [4] [] 400 (ev := .stop c27x8 [.seq c27x9, .blk 1, .seq c27x10]) (σ' := mkS 32 [(0, .sl false (x0.map row_T_api_Const)), (1, .sl false (x1.map row_T_api_Const)), (5, dI t0)] []) (q := []) (by kernel_rfl) trivial ?_
      exact (wj27x1 t0 x0 x1)  r h Γ
    · replace h := iteF h4 h
      refine At.gc [0, 1] [] (n := 32) (l := [(0, .sl false (x0.map row_T_api_Const)), (1, .sl false (x1.map row_T_api_Const))]) (bl := []) (by kernel_rfl) ?_
      refine At.adv [] [] 400 (ev := .exit 0) (σ' := mkS 32 [(0, .sl false (x0.map row_T_api_Const)), (1, .sl false (x1.map row_T_api_Const))] []) (q := []) (by kernel_rfl) trivial ?_
      refine EvOk.exit ?_
      obtain rfl := someE h
      exact Round.done (neExit _) ⟨rfl, by kernel_rfl⟩
  · replace h := iteF h3 h
    refine At.adv [] [(2, { told := [(2, { ans := .val (dI (x0.length : Int)) }), (3, aB false)], keep := some ([0, 1, 5, 15], []) })] 400 (ev := .cond false c27x13 c27x14 [.seq c27x5]) (σ' := mkS 32 [(0, .sl false (x0.map row_T_api_Const)), (1, .sl false (x1.map row_T_api_Const)), (5, dI t0), (15, .bool false)] []) (q := [True ∧ (((x0.map row_T_api_Const).length : Int) = (x0.length : Int)), True ∧ ((decide (t0 < (x0.length : Int))) = false), True, True, True, True]) (by kernel_rfl) ⟨⟨trivial, lenM _ _⟩, ⟨trivial, h3⟩, trivial, trivial, trivial, trivial, trivial⟩ ?_
    refine EvOk.cond (fun hb => Bool.noConfusion hb) (fun _ => ?_)
    refine At.gc [0, 1] [] (n := 32) (l := [(0, .sl false (x0.map row_T_api_Const)), (1, .sl false (x1.map row_T_api_Const))]) (bl := []) (by kernel_rfl) ?_
    refine At.adv [] [] 400 (ev := .exit 0) (σ' := mkS 32 [(0, .sl false (x0.map row_T_api_Const)), (1, .sl false (x1.map row_T_api_Const))] []) (q := []) (by kernel_rfl) trivial ?_
    refine EvOk.exit ?_
    obtain rfl := someE h
    exact Round.done (neExit _) ⟨rfl, by kernel_rfl⟩
theorem we27 (x0 : List T_api_Const) (x1 : List T_api_Const) (r : Bool) (h : m_armatureref05_Same x0 x1 = some r) (Γ : Ctx) : At Try.prog Γ b27 [] (Den.Ends Try.prog Try.f27 (.bool r)) (mkS 32 [(0, .sl false (x0.map row_T_api_Const)), (1, .sl false (x1.map row_T_api_Const))] []) := by
  refine At.adv [] [(0, { keep := some ([0, 1], []) }), (1, { keep := some ([0, 1, 5], []) })] 400 (ev := .loop c27x4 [.blk 0, .seq c27x17]) (σ' := mkS 32 [(0, .sl false (x0.map row_T_api_Const)), (1, .sl false (x1.map row_T_api_Const)), (5, dI 0)] []) (q := []) (by kernel_rfl) trivial ?_
  refine EvOk.loop ?_
  obtain ⟨q1, e5, h⟩ := bindE h
  refine At.loop (l27x1 x0 x1) (st27x1 x0 x1) (J27x1 x0 x1) 0 e5 (by kernel_rfl) (fun t x hx => (wl27x1 x0 x1) t x hx Γ) ?_
  intro e σ' hJ
  rcases q1 with q0 | y0
  · obtain ⟨rfl, rfl⟩ := hJ
    refine At.exitK (K' := [.seq c27x17]) (by kernel_rfl) ?_
    refine At.advN [] [(6, { told := [(1, { ans := .val (dI (x0.length : Int)) }), (3, { ans := .val (dI (x1.length : Int)) })], keep := some ([4], []) })] 400 (ev := .ret) (σ' := mkS 32 [(4, .bool ((x0.length : Int) == (x1.length : Int)))] []) (q := [True ∧ (((x0.map row_T_api_Const).length : Int) = (x0.length : Int)), True ∧ (((x1.map row_T_api_Const).length : Int) = (x1.length : Int))]) (by kernel_rfl) ⟨⟨trivial, lenM _ _⟩, ⟨trivial, lenM _ _⟩, trivial⟩ ?_
    refine EvOk.ret ?_
    obtain rfl := someE h
    exact Den.Ends.mk (.inl rfl) (d := .bool ((x0.length : Int) == (x1.length : Int))) (p := (True ∧ True) ∧ (tN 1)) (by kernel_rfl) ⟨⟨trivial, trivial⟩, tNi 1⟩ (by kernel_rfl)
  · obtain rfl := someE h
    obtain ⟨rfl, hE⟩ := hJ
    exact At.retK hE
theorem w27 {x0 : List T_api_Const} {x1 : List T_api_Const} {r : Bool} (h : m_armatureref05_Same x0 x1 = some r) : CallSpec Try.prog 27 [.sl false (x0.map row_T_api_Const), .sl false (x1.map row_T_api_Const)] (.bool r) :=
  CallSpec.at2 b27 (n := 32) (l := [(0, .sl false (x0.map row_T_api_Const)), (1, .sl false (x1.map row_T_api_Const))]) (by kernel_rfl) (by kernel_rfl) (by kernel_rfl) (by kernel_rfl) (by kernel_rfl) (Nat.le_of_ble_eq_true (by kernel_rfl)) (fun Γ => we27 x0 x1 r h Γ)

/-! ### armature armaturelaw05.asked -/
noncomputable def b28 : Code := Try.f28.body.getD .skip
noncomputable def c28x0 : Code := sub1 b28
noncomputable def c28x1 : Code := sub1 c28x0
noncomputable def c28x2 : Code := sub1 c28x1
noncomputable def c28x3 : Code := sub0 c28x2
noncomputable def c28x4 : Code := sub1 c28x3
noncomputable def c28x5 : Code := sub0 c28x4
noncomputable def c28x6 : Code := sub1 c28x5
noncomputable def c28x7 : Code := sub1 c28x6
noncomputable def c28x8 : Code := sub1 c28x7
noncomputable def c28x9 : Code := sub1 c28x8
noncomputable def c28x10 : Code := sub1 c28x9
noncomputable def c28x11 : Code := sub1 c28x10
noncomputable def c28x12 : Code := sub1 c28x11
noncomputable def c28x13 : Code := sub1 c28x12
noncomputable def c28x14 : Code := sub1 c28x13
noncomputable def c28x15 : Code := sub0 c28x14
noncomputable def c28x16 : Code := sub1 c28x2
noncomputable def c28x17 : Code := sub1 c28x14
noncomputable def c28x18 : Code := sub0 c28x13
noncomputable def c28x19 : Code := sub1 c28x18
noncomputable def c28x20 : Code := sub1 c28x19
noncomputable def c28x21 : Code := sub1 c28x20
noncomputable def c28x22 : Code := sub0 c28x21
noncomputable def c28x23 : Code := sub1 c28x21
noncomputable def c28x24 : Code := sub0 c28x19
noncomputable def c28x25 : Code := sub0 c28x12
noncomputable def c28x26 : Code := sub0 c28x10
noncomputable def c28x27 : Code := sub0 c28x8
noncomputable def c28x28 : Code := sub0 c28x6
noncomputable def c28x29 : Code := sub0 c28x1
noncomputable def c28x30 : Code := sub1 c28x29
noncomputable def c28x31 : Code := sub0 c28x30
noncomputable def c28x32 : Code := sub1 c28x30
def j28x2 (v0 : T_api_Const × Int) (x0 : List T_api_Const) (x1 : Int) : Option (Bool) :=
  (m_pool_MemberRef x0 x1 v0.1.f_Tag).bind fun v5 =>
  some (v5.2 == 0)
def j28x1 (v0 : T_api_Const × Int) (x0 : List T_api_Const) (x1 : Int) : Option (Bool) :=
  if (v0.1.f_Tag == 11) = true then
    ((j28x2 v0 x0 x1) ) else
  (some (v0.2 == 0))
def m_armaturelaw05_asked (x0 : List T_api_Const) (x1 : Int) : Option (Bool) :=
  (m_pool_At x0 x1).bind fun v0 =>
  if (v0.2 != 0) = true then
    (some false) else
  (if (v0.1.f_Tag == 1) = true then
      ((m_pool_UTF8 x0 x1).bind fun v1 =>
      some (v1.2 == 0)) else
    (if (v0.1.f_Tag == 7) = true then
        ((m_pool_ClassName x0 x1).bind fun v2 =>
        some (v2.2 == 0)) else
      (if (v0.1.f_Tag == 8) = true then
          ((m_pool_StringValue x0 x1).bind fun v3 =>
          some (v3.2 == 0)) else
        (if (v0.1.f_Tag == 12) = true then
            ((m_pool_NameAndType x0 x1).bind fun v4 =>
            some (v4.2.2 == 0)) else
          (if (v0.1.f_Tag == 9) = true then
              ((j28x2 v0 x0 x1) ) else
            (if (v0.1.f_Tag == 10) = true then
                ((j28x2 v0 x0 x1) ) else
              ((j28x1 v0 x0 x1) )))))))
theorem wj28x2 (v0 : T_api_Const × Int) (x0 : List T_api_Const) (x1 : Int) (r : Bool) (h : (j28x2 v0 x0 x1)  = some r) (Γ : Ctx) : EvOk Try.prog Γ (Den.Ends Try.prog Try.f28 (.bool r)) (mkS 64 [(0, .sl false (x0.map row_T_api_Const)), (1, dI x1), (5, .lptr 5 0 0)] [(5, { sz := 5, rows := [row_T_api_Const v0.1], frz := 0, pure := false })]) (.stop c28x15 [.blk 0, .seq c28x16]) := by
  refine EvOk.stop ?_
  obtain ⟨v5, e5, h⟩ := bindE h
  refine At.adv [] [(16, { told := [(4, { ans := .val (.tup [.agg (row_T_api_Ref v5.1), dI v5.2]) })], keep := some ([6], []) }), (17, { keep := some ([4], []) })] 400 (ev := .ret) (σ' := mkS 64 [(4, .bool (v5.2 == 0))] []) (q := [True ∧ (cq Try.prog (tN 3) 22 [.sl false (x0.map row_T_api_Const), dI x1, dI v0.1.f_Tag] (.tup [.agg (row_T_api_Ref v5.1), dI v5.2]))]) (by kernel_rfl) ⟨⟨trivial, cqi (tNi 3) (w22 e5)⟩, trivial⟩ ?_
  refine EvOk.ret ?_
  obtain rfl := someE h
  exact Den.Ends.mk (.inl rfl) (d := .bool (v5.2 == 0)) (p := (True ∧ True) ∧ (tN 1)) (by kernel_rfl) ⟨⟨trivial, trivial⟩, tNi 1⟩ (by kernel_rfl)
theorem wj28x1 (v0 : T_api_Const × Int) (x0 : List T_api_Const) (x1 : Int) (r : Bool) (h : (j28x1 v0 x0 x1)  = some r) (Γ : Ctx) : EvOk Try.prog Γ (Den.Ends Try.prog Try.f28 (.bool r)) (mkS 64 [(0, .sl false (x0.map row_T_api_Const)), (1, dI x1), (5, .lptr 5 0 0), (6, dI v0.2), (50, .bool (v0.1.f_Tag == 11))] [(5, { sz := 5, rows := [row_T_api_Const v0.1], frz := 0, pure := false })]) (.cond (v0.1.f_Tag == 11) c28x15 c28x17 [.blk 0, .seq c28x16]) := by
  refine EvOk.cond (fun h7 => ?_) (fun h7 => ?_)
  · replace h := iteT h7 h
    refine At.gc [0, 1, 5] [(5, 5)] (n := 64) (l := [(0, .sl false (x0.map row_T_api_Const)), (1, dI x1), (5, .lptr 5 0 0)]) (bl := [(5, { sz := 5, rows := [row_T_api_Const v0.1], frz := 0, pure := false })]) (by kernel_rfl) ?_
    refine At.adv [16] [] 400 (ev := .stop c28x15 [.blk 0, .seq c28x16]) (σ' := mkS 64 [(0, .sl false (x0.map row_T_api_Const)), (1, dI x1), (5, .lptr 5 0 0)] [(5, { sz := 5, rows := [row_T_api_Const v0.1], frz := 0, pure := false })]) (q := []) (by kernel_rfl) trivial ?_
    exact (wj28x2 v0 x0 x1)  r h Γ
  · replace h := iteF h7 h
    refine At.gc [6] [] (n := 64) (l := [(6, dI v0.2)]) (bl := []) (by kernel_rfl) ?_
    refine At.adv [] [(17, { keep := some ([4], []) })] 400 (ev := .ret) (σ' := mkS 64 [(4, .bool (v0.2 == 0))] []) (q := []) (by kernel_rfl) trivial ?_
    refine EvOk.ret ?_
    obtain rfl := someE h
    exact Den.Ends.mk (.inl rfl) (d := .bool (v0.2 == 0)) (p := (True ∧ True) ∧ (tN 1)) (by kernel_rfl) ⟨⟨trivial, trivial⟩, tNi 1⟩ (by kernel_rfl)
theorem we28 (x0 : List T_api_Const) (x1 : Int) (r : Bool) (h : m_armaturelaw05_asked x0 x1 = some r) (Γ : Ctx) : At Try.prog Γ b28 [] (Den.Ends Try.prog Try.f28 (.bool r)) (mkS 64 [(0, .sl false (x0.map row_T_api_Const)), (1, dI x1)] []) := by
  obtain ⟨v0, e0, h⟩ := bindE h
  refine At.adv [] [(0, { keep := some ([0, 1], []) }), (1, { told := [(2, { ans := .val (.tup [.agg (row_T_api_Const v0.1), dI v0.2]) })], keep := some ([0, 1, 5, 6], [(5, 5)]) }), (2, { keep := some ([0, 1, 5, 6, 14], [(5, 5)]) })] 400 (ev := .cond (v0.2 != 0) c28x31 c28x32 [.seq c28x2]) (σ' := mkS 64 [(0, .sl false (x0.map row_T_api_Const)), (1, dI x1), (5, .lptr 5 0 0), (6, dI v0.2), (14, .bool (v0.2 != 0))] [(5, { sz := 5, rows := [row_T_api_Const v0.1], frz := 0, pure := false })]) (q := [True ∧ (cq Try.prog (tN 2) 12 [.sl false (x0.map row_T_api_Const), dI x1] (.tup [.agg (row_T_api_Const v0.1), dI v0.2])), True ∧ (0 ≤ 0 ∧ 0 + ([dI v0.1.f_Tag, .str v0.1.f_S, dI v0.1.f_N, dI v0.1.f_A, dI v0.1.f_B] : List D).length ≤ ([dI 0, .str [], dI 0, dI 0, dI 0] : List D).length ∧ ([[dI v0.1.f_Tag, .str v0.1.f_S, dI v0.1.f_N, dI v0.1.f_A, dI v0.1.f_B]] : List (List D)) = ([[dI v0.1.f_Tag, .str v0.1.f_S, dI v0.1.f_N, dI v0.1.f_A, dI v0.1.f_B]] : List (List D)))]) (by kernel_rfl) ⟨⟨trivial, cqi (tNi 2) (w12 e0)⟩, ⟨trivial, ⟨Nat.zero_le _, Nat.le_of_ble_eq_true rfl, rfl⟩⟩, trivial⟩ ?_
  refine EvOk.cond (fun h0 => ?_) (fun h0 => ?_)
  · replace h := iteT h0 h
    refine At.gc [] [] (n := 64) (l := []) (bl := []) (by kernel_rfl) ?_
    refine At.adv [] [(3, { keep := some ([4], []) })] 400 (ev := .ret) (σ' := mkS 64 [(4, .bool false)] []) (q := []) (by kernel_rfl) trivial ?_
    refine EvOk.ret ?_
    obtain rfl := someE h
    exact Den.Ends.mk (.inl rfl) (d := .bool false) (p := (True ∧ True) ∧ (tN 1)) (by kernel_rfl) ⟨⟨trivial, trivial⟩, tNi 1⟩ (by kernel_rfl)
  · replace h := iteF h0 h
    refine At.gc [0, 1, 5, 6] [(5, 5)] (n := 64) (l := [(0, .sl false (x0.map row_T_api_Const)), (1, dI x1), (5, .lptr 5 0 0), (6, dI v0.2)]) (bl := [(5, { sz := 5, rows := [row_T_api_Const v0.1], frz := 0, pure := false })]) (by kernel_rfl) ?_
    refine At.adv [] [(4, { keep := some ([0, 1, 5, 6, 16], [(5, 5)]) }), (5, { keep := some ([0, 1, 5, 6, 16, 17], [(5, 5)]) })] 400 (ev := .cond (v0.1.f_Tag == 1) c28x28 c28x7 [.blk 0, .seq c28x16]) (σ' := mkS 64 [(0, .sl false (x0.map row_T_api_Const)), (1, dI x1), (5, .lptr 5 0 0), (6, dI v0.2), (16, dI v0.1.f_Tag), (17, .bool (v0.1.f_Tag == 1))] [(5, { sz := 5, rows := [row_T_api_Const v0.1], frz := 0, pure := false })]) (q := []) (by kernel_rfl) trivial ?_
    refine EvOk.cond (fun h1 => ?_) (fun h1 => ?_)
    · replace h := iteT h1 h
      refine At.gc [0, 1] [] (n := 64) (l := [(0, .sl false (x0.map row_T_api_Const)), (1, dI x1)]) (bl := []) (by kernel_rfl) ?_
      obtain ⟨v1, e1, h⟩ := bindE h
      refine At.adv [] [(6, { told := [(2, { ans := .val (.tup [.str v1.1, dI v1.2]) })], keep := some ([6], []) }), (17, { keep := some ([4], []) })] 400 (ev := .ret) (σ' := mkS 64 [(4, .bool (v1.2 == 0))] []) (q := [True ∧ (cq Try.prog (tN 2) 14 [.sl false (x0.map row_T_api_Const), dI x1] (.tup [.str v1.1, dI v1.2]))]) (by kernel_rfl) ⟨⟨trivial, cqi (tNi 2) (w14 e1)⟩, trivial⟩ ?_
      refine EvOk.ret ?_
      obtain rfl := someE h
      exact Den.Ends.mk (.inl rfl) (d := .bool (v1.2 == 0)) (p := (True ∧ True) ∧ (tN 1)) (by kernel_rfl) ⟨⟨trivial, trivial⟩, tNi 1⟩ (by kernel_rfl)
    · replace h := iteF h1 h
      refine At.gc [0, 1, 5, 6, 16] [(5, 5)] (n := 64) (l := [(0, .sl false (x0.map row_T_api_Const)), (1, dI x1), (5, .lptr 5 0 0), (6, dI v0.2), (16, dI v0.1.f_Tag)]) (bl := [(5, { sz := 5, rows := [row_T_api_Const v0.1], frz := 0, pure := false })]) (by kernel_rfl) ?_
      refine At.adv [] [(7, { keep := some ([0, 1, 5, 6, 16, 25], [(5, 5)]) })] 400 (ev := .cond (v0.1.f_Tag == 7) c28x27 c28x9 [.blk 0, .seq c28x16]) (σ' := mkS 64 [(0, .sl false (x0.map row_T_api_Const)), (1, dI x1), (5, .lptr 5 0 0), (6, dI v0.2), (16, dI v0.1.f_Tag), (25, .bool (v0.1.f_Tag == 7))] [(5, { sz := 5, rows := [row_T_api_Const v0.1], frz := 0, pure := false })]) (q := []) (by kernel_rfl) trivial ?_
      refine EvOk.cond (fun h2 => ?_) (fun h2 => ?_)
      · replace h := iteT h2 h
        refine At.gc [0, 1] [] (n := 64) (l := [(0, .sl false (x0.map row_T_api_Const)), (1, dI x1)]) (bl := []) (by kernel_rfl) ?_
        obtain ⟨v2, e2, h⟩ := bindE h
        refine At.adv [] [(8, { told := [(2, { ans := .val (.tup [.str v2.1, dI v2.2]) })], keep := some ([6], []) }), (17, { keep := some ([4], []) })] 400 (ev := .ret) (σ' := mkS 64 [(4, .bool (v2.2 == 0))] []) (q := [True ∧ (cq Try.prog (tN 2) 16 [.sl false (x0.map row_T_api_Const), dI x1] (.tup [.str v2.1, dI v2.2]))]) (by kernel_rfl) ⟨⟨trivial, cqi (tNi 2) (w16 e2)⟩, trivial⟩ ?_
        refine EvOk.ret ?_
        obtain rfl := someE h
        exact Den.Ends.mk (.inl rfl) (d := .bool (v2.2 == 0)) (p := (True ∧ True) ∧ (tN 1)) (by kernel_rfl) ⟨⟨trivial, trivial⟩, tNi 1⟩ (by kernel_rfl)
      · replace h := iteF h2 h
        refine At.gc [0, 1, 5, 6, 16] [(5, 5)] (n := 64) (l := [(0, .sl false (x0.map row_T_api_Const)), (1, dI x1), (5, .lptr 5 0 0), (6, dI v0.2), (16, dI v0.1.f_Tag)]) (bl := [(5, { sz := 5, rows := [row_T_api_Const v0.1], frz := 0, pure := false })]) (by kernel_rfl) ?_
        refine At.adv [] [(9, { keep := some ([0, 1, 5, 6, 16, 33], [(5, 5)]) })] 400 (ev := .cond (v0.1.f_Tag == 8) c28x26 c28x11 [.blk 0, .seq c28x16]) (σ' := mkS 64 [(0, .sl false (x0.map row_T_api_Const)), (1, dI x1), (5, .lptr 5 0 0), (6, dI v0.2), (16, dI v0.1.f_Tag), (33, .bool (v0.1.f_Tag == 8))] [(5, { sz := 5, rows := [row_T_api_Const v0.1], frz := 0, pure := false })]) (q := []) (by kernel_rfl) trivial ?_
        refine EvOk.cond (fun h3 => ?_) (fun h3 => ?_)
        · replace h := iteT h3 h
          refine At.gc [0, 1] [] (n := 64) (l := [(0, .sl false (x0.map row_T_api_Const)), (1, dI x1)]) (bl := []) (by kernel_rfl) ?_
          obtain ⟨v3, e3, h⟩ := bindE h
          refine At.adv [] [(10, { told := [(2, { ans := .val (.tup [.str v3.1, dI v3.2]) })], keep := some ([6], []) }), (17, { keep := some ([4], []) })] 400 (ev := .ret) (σ' := mkS 64 [(4, .bool (v3.2 == 0))] []) (q := [True ∧ (cq Try.prog (tN 2) 18 [.sl false (x0.map row_T_api_Const), dI x1] (.tup [.str v3.1, dI v3.2]))]) (by kernel_rfl) ⟨⟨trivial, cqi (tNi 2) (w18 e3)⟩, trivial⟩ ?_
          refine EvOk.ret ?_
          obtain rfl := someE h
          exact Den.Ends.mk (.inl rfl) (d := .bool (v3.2 == 0)) (p := (True ∧ True) ∧ (tN 1)) (by kernel_rfl) ⟨⟨trivial, trivial⟩, tNi 1⟩ (by kernel_rfl)
        · replace h := iteF h3 h
          refine At.gc [0, 1, 5, 6, 16] [(5, 5)] (n := 64) (l := [(0, .sl false (x0.map row_T_api_Const)), (1, dI x1), (5, .lptr 5 0 0), (6, dI v0.2), (16, dI v0.1.f_Tag)]) (bl := [(5, { sz := 5, rows := [row_T_api_Const v0.1], frz := 0, pure := false })]) (by kernel_rfl) ?_
          refine At.adv [] [(11, { keep := some ([0, 1, 5, 6, 16, 41], [(5, 5)]) })] 400 (ev := .cond (v0.1.f_Tag == 12) c28x25 c28x13 [.blk 0, .seq c28x16]) (σ' := mkS 64 [(0, .sl false (x0.map row_T_api_Const)), (1, dI x1), (5, .lptr 5 0 0), (6, dI v0.2), (16, dI v0.1.f_Tag), (41, .bool (v0.1.f_Tag == 12))] [(5, { sz := 5, rows := [row_T_api_Const v0.1], frz := 0, pure := false })]) (q := []) (by kernel_rfl) trivial ?_
          refine EvOk.cond (fun h4 => ?_) (fun h4 => ?_)
          · replace h := iteT h4 h
            refine At.gc [0, 1] [] (n := 64) (l := [(0, .sl false (x0.map row_T_api_Const)), (1, dI x1)]) (bl := []) (by kernel_rfl) ?_
            obtain ⟨v4, e4, h⟩ := bindE h
            refine At.adv [] [(12, { told := [(2, { ans := .val (.tup [.str v4.1, .str v4.2.1, dI v4.2.2]) })], keep := some ([6], []) }), (17, { keep := some ([4], []) })] 400 (ev := .ret) (σ' := mkS 64 [(4, .bool (v4.2.2 == 0))] []) (q := [True ∧ (cq Try.prog (tN 2) 20 [.sl false (x0.map row_T_api_Const), dI x1] (.tup [.str v4.1, .str v4.2.1, dI v4.2.2]))]) (by kernel_rfl) ⟨⟨trivial, cqi (tNi 2) (w20 e4)⟩, trivial⟩ ?_
            refine EvOk.ret ?_
            obtain rfl := someE h
            exact Den.Ends.mk (.inl rfl) (d := .bool (v4.2.2 == 0)) (p := (True ∧ True) ∧ (tN 1)) (by kernel_rfl) ⟨⟨trivial, trivial⟩, tNi 1⟩ (by kernel_rfl)
          · replace h := iteF h4 h
            refine At.gc [0, 1, 5, 6, 16] [(5, 5)] (n := 64) (l := [(0, .sl false (x0.map row_T_api_Const)), (1, dI x1), (5, .lptr 5 0 0), (6, dI v0.2), (16, dI v0.1.f_Tag)]) (bl := [(5, { sz := 5, rows := [row_T_api_Const v0.1], frz := 0, pure := false })]) (by kernel_rfl) ?_
            refine At.adv [] [(13, { keep := some ([0, 1, 5, 6, 16, 50], [(5, 5)]) })] 400 (ev := .cond (v0.1.f_Tag == 9) c28x24 c28x20 [.seq c28x14, .blk 0, .seq c28x16]) (σ' := mkS 64 [(0, .sl false (x0.map row_T_api_Const)), (1, dI x1), (5, .lptr 5 0 0), (6, dI v0.2), (16, dI v0.1.f_Tag), (50, .bool (v0.1.f_Tag == 9))] [(5, { sz := 5, rows := [row_T_api_Const v0.1], frz := 0, pure := false })]) (q := []) (by kernel_rfl) trivial ?_
            refine EvOk.cond (fun h5 => ?_) (fun h5 => ?_)
            · replace h := iteT h5 h
              refine At.gc [0, 1, 5, 6, 50] [(5, 5)] (n := 64) (l := [(0, .sl false (x0.map row_T_api_Const)), (1, dI x1), (5, .lptr 5 0 0), (6, dI v0.2), (50, .bool (v0.1.f_Tag == 9))]) (bl := [(5, { sz := 5, rows := [row_T_api_Const v0.1], frz := 0, pure := false })]) (by kernel_rfl) ?_
              refine At.adv [] [] 400 (ev := .cond (v0.1.f_Tag == 9) c28x15 c28x17 [.blk 0, .seq c28x16]) (σ' := mkS 64 [(0, .sl false (x0.map row_T_api_Const)), (1, dI x1), (5, .lptr 5 0 0), (6, dI v0.2), (50, .bool (v0.1.f_Tag == 9))] [(5, { sz := 5, rows := [row_T_api_Const v0.1], frz := 0, pure := false })]) (q := []) (by kernel_rfl) trivial ?_
              refine EvOk.cond (fun _ => ?_) (fun hb => Bool.noConfusion (h5.symm.trans hb))
              refine At.gc [0, 1, 5] [(5, 5)] (n := 64) (l := [(0, .sl false (x0.map row_T_api_Const)), (1, dI x1), (5, .lptr 5 0 0)]) (bl := [(5, { sz := 5, rows := [row_T_api_Const v0.1], frz := 0, pure := false })]) (by kernel_rfl) ?_
              refine At.adv [16] [] 400 (ev := .stop c28x15 [.blk 0, .seq c28x16]) (σ' := mkS 64 [(0, .sl false (x0.map row_T_api_Const)), (1, dI x1), (5, .lptr 5 0 0)] [(5, { sz := 5, rows := [row_T_api_Const v0.1], frz := 0, pure := false })]) (q := []) (by kernel_rfl) trivial ?_
              exact (wj28x2 v0 x0 x1)  r h Γ
            · replace h := iteF h5 h
              refine At.gc [0, 1, 5, 6, 16] [(5, 5)] (n := 64) (l := [(0, .sl false (x0.map row_T_api_Const)), (1, dI x1), (5, .lptr 5 0 0), (6, dI v0.2), (16, dI v0.1.f_Tag)]) (bl := [(5, { sz := 5, rows := [row_T_api_Const v0.1], frz := 0, pure := false })]) (by kernel_rfl) ?_
              refine At.adv [] [(14, { keep := some ([0, 1, 5, 6, 16, 50], [(5, 5)]) })] 400 (ev := .cond (v0.1.f_Tag == 10) c28x22 c28x23 [.seq c28x14, .blk 0, .seq c28x16]) (σ' := mkS 64 [(0, .sl false (x0.map row_T_api_Const)), (1, dI x1), (5, .lptr 5 0 0), (6, dI v0.2), (16, dI v0.1.f_Tag), (50, .bool (v0.1.f_Tag == 10))] [(5, { sz := 5, rows := [row_T_api_Const v0.1], frz := 0, pure := false })]) (q := []) (by kernel_rfl) trivial ?_
              refine EvOk.cond (fun h6 => ?_) (fun h6 => ?_)
              · replace h := iteT h6 h
                refine At.gc [0, 1, 5, 6, 50] [(5, 5)] (n := 64) (l := [(0, .sl false (x0.map row_T_api_Const)), (1, dI x1), (5, .lptr 5 0 0), (6, dI v0.2), (50, .bool (v0.1.f_Tag == 10))]) (bl := [(5, { sz := 5, rows := [row_T_api_Const v0.1], frz := 0, pure := false })]) (by kernel_rfl) ?_
                refine At.adv [] [] 400 (ev := .cond (v0.1.f_Tag == 10) c28x15 c28x17 [.blk 0, .seq c28x16]) (σ' := mkS 64 [(0, .sl false (x0.map row_T_api_Const)), (1, dI x1), (5, .lptr 5 0 0), (6, dI v0.2), (50, .bool (v0.1.f_Tag == 10))] [(5, { sz := 5, rows := [row_T_api_Const v0.1], frz := 0, pure := false })]) (q := []) (by kernel_rfl) trivial ?_
                refine EvOk.cond (fun _ => ?_) (fun hb => Bool.noConfusion (h6.symm.trans hb))
                refine At.gc [0, 1, 5] [(5, 5)] (n := 64) (l := [(0, .sl false (x0.map row_T_api_Const)), (1, dI x1), (5, .lptr 5 0 0)]) (bl := [(5, { sz := 5, rows := [row_T_api_Const v0.1], frz := 0, pure := false })]) (by kernel_rfl) ?_
                refine At.adv [16] [] 400 (ev := .stop c28x15 [.blk 0, .seq c28x16]) (σ' := mkS 64 [(0, .sl false (x0.map row_T_api_Const)), (1, dI x1), (5, .lptr 5 0 0)] [(5, { sz := 5, rows := [row_T_api_Const v0.1], frz := 0, pure := false })]) (q := []) (by kernel_rfl) trivial ?_
                exact (wj28x2 v0 x0 x1)  r h Γ
              · replace h := iteF h6 h
                refine At.gc [0, 1, 5, 6, 16] [(5, 5)] (n := 64) (l := [(0, .sl false (x0.map row_T_api_Const)), (1, dI x1), (5, .lptr 5 0 0), (6, dI v0.2), (16, dI v0.1.f_Tag)]) (bl := [(5, { sz := 5, rows := [row_T_api_Const v0.1], frz := 0, pure := false })]) (by kernel_rfl) ?_
                refine At.adv [] [(15, { keep := some ([0, 1, 5, 6, 50], [(5, 5)]) })] 400 (ev := .cond (v0.1.f_Tag == 11) c28x15 c28x17 [.blk 0, .seq c28x16]) (σ' := mkS 64 [(0, .sl false (x0.map row_T_api_Const)), (1, dI x1), (5, .lptr 5 0 0), (6, dI v0.2), (50, .bool (v0.1.f_Tag == 11))] [(5, { sz := 5, rows := [row_T_api_Const v0.1], frz := 0, pure := false })]) (q := []) (by kernel_rfl) trivial ?_
                exact (wj28x1 v0 x0 x1)  r h Γ
theorem w28 {x0 : List T_api_Const} {x1 : Int} {r : Bool} (h : m_armaturelaw05_asked x0 x1 = some r) : CallSpec Try.prog 28 [.sl false (x0.map row_T_api_Const), .int .i64 x1] (.bool r) :=
  CallSpec.at2 b28 (n := 64) (l := [(0, .sl false (x0.map row_T_api_Const)), (1, .int .i64 x1)]) (by kernel_rfl) (by kernel_rfl) (by kernel_rfl) (by kernel_rfl) (by kernel_rfl) (Nat.le_of_ble_eq_true (by kernel_rfl)) (fun Γ => we28 x0 x1 r h Γ)

/-! ### armature armatureref05.Add -/
noncomputable def b30 : Code := Try.f30.body.getD .skip
noncomputable def c30x0 : Code := sub1 b30
noncomputable def c30x1 : Code := sub0 c30x0
noncomputable def c30x2 : Code := sub1 c30x1
noncomputable def c30x3 : Code := sub0 c30x2
noncomputable def c30x4 : Code := sub0 c30x3
noncomputable def c30x5 : Code := sub1 c30x4
noncomputable def c30x6 : Code := sub0 c30x5
noncomputable def c30x7 : Code := sub0 c30x6
noncomputable def c30x8 : Code := sub1 c30x7
noncomputable def c30x9 : Code := sub0 c30x8
noncomputable def c30x10 : Code := sub1 c30x8
noncomputable def c30x11 : Code := sub1 c30x5
noncomputable def c30x12 : Code := sub0 c30x4
noncomputable def c30x13 : Code := sub1 c30x12
noncomputable def c30x14 : Code := sub0 c30x13
noncomputable def c30x15 : Code := sub1 c30x13
noncomputable def c30x16 : Code := sub1 c30x0
noncomputable def c30x17 : Code := sub0 c30x16
noncomputable def c30x18 : Code := sub1 c30x17
noncomputable def c30x19 : Code := sub0 c30x18
noncomputable def c30x20 : Code := sub1 c30x18
noncomputable def c30x21 : Code := sub1 c30x16
def l30x1 (x0 : List T_api_Const) (x1 : T_api_Const) (t0 : Int) : Option (Ctl (Int) (Unit ⊕ ((List T_api_Const) × Int × Int))) :=
  if (decide (t0 < (x0.length : Int))) = true then
    ((getR x0 t0).bind fun v1 =>
    if (eqb_T_api_Const v1 x1) = true then
      ((some (IntKind.wrap .i64 (t0 + (1 : Int)))).bind fun v2 =>
      some (.done (.inr (x0, v2, 0)))) else
    ((some (IntKind.wrap .i64 (t0 + (1 : Int)))).bind fun v3 =>
      some (.next v3))) else
  (some (.done (.inl (()))))
def m_armatureref05_Add (x0 : List T_api_Const) (x1 : T_api_Const) : Option ((List T_api_Const) × Int × Int) :=
  (loopM (l30x1 x0 x1) rounds 0).bind fun q1 =>
  match q1 with
  | .inl q0 => (if (decide ((x0.length : Int) ≥ 1000)) = true then
      (some (x0, 0, 5)) else
    ((some (IntKind.wrap .i64 ((x0.length : Int) + (1 : Int)))).bind fun v4 =>
      (growK 48 (([] : List T_api_Const) ++ x0).length).bind fun v5 =>
      (growK 48 ((([] : List T_api_Const) ++ x0) ++ [x1]).length).bind fun v6 =>
      some (((([] : List T_api_Const) ++ x0) ++ [x1]), v4, 0)))
  | .inr y0 => (some y0)
def st30x1 (x0 : List T_api_Const) (x1 : T_api_Const) : Int → S :=
  fun t0 => mkS 36 [(0, .sl false (x0.map row_T_api_Const)), (3, .ptr (row_T_api_Const x1)), (7, .int .i64 t0)] []
noncomputable def J30x1 (x0 : List T_api_Const) (x1 : T_api_Const) : (Unit ⊕ ((List T_api_Const) × Int × Int)) → Exit → S → Prop :=
  JSum (JExit 0 (fun q0 : Unit => mkS 36 [(0, .sl false (x0.map row_T_api_Const)), (3, .ptr (row_T_api_Const x1))] [])) (JRet Try.prog Try.f30 (fun y : (List T_api_Const) × Int × Int => .tup [.sl false (y.1.map row_T_api_Const), .int .i64 y.2.1, .int .i64 y.2.2]))
theorem wl30x1 (x0 : List T_api_Const) (x1 : T_api_Const) (t0 : Int) (r : Ctl (Int) (Unit ⊕ ((List T_api_Const) × Int × Int))) (h : (l30x1 x0 x1) t0 = some r) (Γ : Ctx) : At Try.prog Γ c30x4 [] (Round (st30x1 x0 x1) (J30x1 x0 x1) r) ((st30x1 x0 x1) t0) := by
  refine At.adv [] [(2, { told := [(2, { ans := .val (dI (x0.length : Int)) })], keep := some ([0, 3, 7, 11], []) })] 400 (ev := .cond (decide (t0 < (x0.length : Int))) c30x14 c30x15 [.seq c30x5]) (σ' := mkS 36 [(0, .sl false (x0.map row_T_api_Const)), (3, .ptr (row_T_api_Const x1)), (7, dI t0), (11, .bool (decide (t0 < (x0.length : Int))))] []) (q := [True ∧ (((x0.map row_T_api_Const).length : Int) = (x0.length : Int))]) (by kernel_rfl) ⟨⟨trivial, lenM _ _⟩, trivial⟩ ?_
  refine EvOk.cond (fun h2 => ?_) (fun h2 => ?_)
  · replace h := iteT h2 h
    refine At.gc [0, 3, 7] [] (n := 36) (l := [(0, .sl false (x0.map row_T_api_Const)), (3, .ptr (row_T_api_Const x1)), (7, dI t0)]) (bl := []) (by kernel_rfl) ?_
    obtain ⟨v1, e1, h⟩ := bindE h
    refine At.adv [] [(4, { told := [(2, { ans := .row (row_T_api_Const v1) }), (5, { ans := .val (.bool (eqb_T_api_Const v1 x1)) })], keep := some ([0, 3, 7, 19], []), ord := some ([0, 1, 2, 3, 4, 5], [], [(2, [0, 1]), (3, [0, 1, 2]), (5, [0, 1, 2, 3, 4])]) })] 400 (ev := .cond (eqb_T_api_Const v1 x1) c30x9 c30x10 [.blk 1, .seq c30x11]) (σ' := mkS 36 [(0, .sl false (x0.map row_T_api_Const)), (3, .ptr (row_T_api_Const x1)), (7, dI t0), (19, .bool (eqb_T_api_Const v1 x1))] []) (q := [True ∧ (getR (x0.map row_T_api_Const) t0 = some (row_T_api_Const v1)), True ∧ (Try.prog.eqGuardType Try.prog.depth 29 = false ∧ eqq_29 ∧ (eqb_T_api_Const v1 x1) = (eqb_T_api_Const v1 x1))]) (by kernel_rfl) ⟨⟨trivial, getR_map row_T_api_Const e1⟩, ⟨trivial, ⟨eqg_29, eqp_29, rfl⟩⟩, trivial⟩ ?_
    refine EvOk.cond (fun h3 => ?_) (fun h3 => ?_)
    · replace h := iteT h3 h
      refine At.gc [0, 7] [] (n := 36) (l := [(0, .sl false (x0.map row_T_api_Const)), (7, dI t0)]) (bl := []) (by kernel_rfl) ?_
      obtain ⟨v2, e2, h⟩ := bindE h
      refine At.adv [] [(5, { told := [(2, aI v2)], keep := some ([4, 5, 6], []) })] 400 (ev := .ret) (σ' := mkS 36 [(4, .sl false (x0.map row_T_api_Const)), (5, dI v2), (6, dI 0)] []) (q := [True ∧ (IntKind.wrap .i64 (t0 + (1 : Int)) = v2)]) (by kernel_rfl) ⟨⟨trivial, someE e2⟩, trivial⟩ ?_
      refine EvOk.ret ?_
      obtain rfl := someE h
      exact Round.done neRet ⟨rfl, Den.Ends.mk (.inl rfl) (d := .tup [.sl false (x0.map row_T_api_Const), dI v2, dI 0]) (p := (True ∧ (True ∧ (True ∧ True))) ∧ (tN 3)) (by kernel_rfl) ⟨⟨trivial, ⟨trivial, ⟨trivial, trivial⟩⟩⟩, tNi 3⟩ (by kernel_rfl)⟩
    · replace h := iteF h3 h
      refine At.gc [0, 3, 7] [] (n := 36) (l := [(0, .sl false (x0.map row_T_api_Const)), (3, .ptr (row_T_api_Const x1)), (7, dI t0)]) (bl := []) (by kernel_rfl) ?_
      obtain ⟨v3, e3, h⟩ := bindE h
      refine At.adv [] [(3, { told := [(1, aI v3)], keep := some ([0, 3, 7], []) })] 400 (ev := .normal) (σ' := mkS 36 [(0, .sl false (x0.map row_T_api_Const)), (3, .ptr (row_T_api_Const x1)), (7, dI v3)] []) (q := [True ∧ (IntKind.wrap .i64 (t0 + (1 : Int)) = v3)]) (by kernel_rfl) ⟨⟨trivial, someE e3⟩, trivial⟩ ?_
      refine EvOk.normal ?_
      obtain rfl := someE h
      exact Round.next (by kernel_rfl)
  · replace h := iteF h2 h
    refine At.gc [0, 3] [] (n := 36) (l := [(0, .sl false (x0.map row_T_api_Const)), (3, .ptr (row_T_api_Const x1))]) (bl := []) (by kernel_rfl) ?_
    refine At.adv [] [] 400 (ev := .exit 0) (σ' := mkS 36 [(0, .sl false (x0.map row_T_api_Const)), (3, .ptr (row_T_api_Const x1))] []) (q := []) (by kernel_rfl) trivial ?_
    refine EvOk.exit ?_
    obtain rfl := someE h
    exact Round.done (neExit _) ⟨rfl, by kernel_rfl⟩
theorem we30 (x0 : List T_api_Const) (x1 : T_api_Const) (r : (List T_api_Const) × Int × Int) (h : m_armatureref05_Add x0 x1 = some r) (Γ : Ctx) : At Try.prog Γ b30 [] (Den.Ends Try.prog Try.f30 (.tup [.sl false (r.1.map row_T_api_Const), dI r.2.1, dI r.2.2])) (mkS 36 [(0, .sl false (x0.map row_T_api_Const)), (1, .agg (row_T_api_Const x1))] []) := by
  refine At.adv [] [(0, { told := [(0, { ro := true })], keep := some ([0, 3], []) }), (1, { keep := some ([0, 3, 7], []) })] 400 (ev := .loop c30x4 [.blk 0, .seq c30x16]) (σ' := mkS 36 [(0, .sl false (x0.map row_T_api_Const)), (3, .ptr (row_T_api_Const x1)), (7, dI 0)] []) (q := []) (by kernel_rfl) trivial ?_
  refine EvOk.loop ?_
  obtain ⟨q1, e4, h⟩ := bindE h
  refine At.loop (l30x1 x0 x1) (st30x1 x0 x1) (J30x1 x0 x1) 0 e4 (by kernel_rfl) (fun t x hx => (wl30x1 x0 x1) t x hx Γ) ?_
  intro e σ' hJ
  rcases q1 with q0 | y0
  · obtain ⟨rfl, rfl⟩ := hJ
    refine At.exitK (K' := [.seq c30x16]) (by kernel_rfl) ?_
    refine At.advN [] [(6, { told := [(1, { ans := .val (dI (x0.length : Int)) })], keep := some ([0, 3, 25], []) })] 400 (ev := .cond (decide ((x0.length : Int) ≥ 1000)) c30x19 c30x20 [.seq c30x21]) (σ' := mkS 36 [(0, .sl false (x0.map row_T_api_Const)), (3, .ptr (row_T_api_Const x1)), (25, .bool (decide ((x0.length : Int) ≥ 1000)))] []) (q := [True ∧ (((x0.map row_T_api_Const).length : Int) = (x0.length : Int))]) (by kernel_rfl) ⟨⟨trivial, lenM _ _⟩, trivial⟩ ?_
    refine EvOk.cond (fun h4 => ?_) (fun h4 => ?_)
    · replace h := iteT h4 h
      refine At.gc [0] [] (n := 36) (l := [(0, .sl false (x0.map row_T_api_Const))]) (bl := []) (by kernel_rfl) ?_
      refine At.adv [] [(7, { keep := some ([4, 5, 6], []) })] 400 (ev := .ret) (σ' := mkS 36 [(4, .sl false (x0.map row_T_api_Const)), (5, dI 0), (6, dI 5)] []) (q := []) (by kernel_rfl) trivial ?_
      refine EvOk.ret ?_
      obtain rfl := someE h
      exact Den.Ends.mk (.inl rfl) (d := .tup [.sl false (x0.map row_T_api_Const), dI 0, dI 5]) (p := (True ∧ (True ∧ (True ∧ True))) ∧ (tN 3)) (by kernel_rfl) ⟨⟨trivial, ⟨trivial, ⟨trivial, trivial⟩⟩⟩, tNi 3⟩ (by kernel_rfl)
    · replace h := iteF h4 h
      refine At.gc [0, 3] [] (n := 36) (l := [(0, .sl false (x0.map row_T_api_Const)), (3, .ptr (row_T_api_Const x1))]) (bl := []) (by kernel_rfl) ?_
      obtain ⟨v4, e5, h⟩ := bindE h
      obtain ⟨v5, e6, h⟩ := bindE h
      obtain ⟨v6, e7, h⟩ := bindE h
      refine At.adv [] [(8, { told := [(7, { ans := .val (dI (x0.length : Int)) }), (8, aI v4), (4, { ro := true }), (2, { rows := some ((([] : List T_api_Const) ++ x0).map row_T_api_Const) }), (5, { rows := some (((([] : List T_api_Const) ++ x0) ++ [x1]).map row_T_api_Const) })], keep := some ([4, 5, 6], [(27, 27)]), ord := some ([1, 3, 6, 7, 8, 0, 4, 2, 5, 9, 10, 11], [2, 5, 1003, 1006, 1007, 1008, 2004, 1004], [(2, [0, 1]), (4, [3]), (5, [0, 1, 2, 3, 4]), (7, [6]), (8, [6, 7]), (9, [0, 1, 2, 3, 4, 5]), (10, [0, 1, 2, 3, 4, 5, 6, 7, 8, 9]), (11, [0, 1, 2, 3, 4, 5, 6, 7, 8, 9, 10])]) })] 400 (ev := .ret) (σ' := mkS 36 [(4, .lsl 27 0 ((((([] : List T_api_Const) ++ x0) ++ [x1]).map row_T_api_Const).length)), (5, dI v4), (6, dI 0)] [(27, { sz := 5, rows := (((([] : List T_api_Const) ++ x0) ++ [x1]).map row_T_api_Const), frz := 0, pure := true })]) (q := [True ∧ (((x0.map row_T_api_Const).length : Int) = (x0.length : Int)), True ∧ (IntKind.wrap .i64 ((x0.length : Int) + (1 : Int)) = v4), True ∧ (tN 0), True ∧ ((tN 5) ∧ True), True ∧ (True ∧ (([] : List T_api_Const).map row_T_api_Const).length = (([] : List T_api_Const).map row_T_api_Const).length ∧ (∀ r ∈ (x0.map row_T_api_Const), r.length = 5) ∧ (([] : List T_api_Const).map row_T_api_Const) ++ (x0.map row_T_api_Const) = ((([] : List T_api_Const) ++ x0).map row_T_api_Const) ∧ ((([] : List T_api_Const) ++ x0).map row_T_api_Const).length ≤ 9223372036854775807 ∧ ((([] : List T_api_Const) ++ x0).map row_T_api_Const).length * 48 ≤ 140737488355328), True ∧ (True ∧ ((([] : List T_api_Const) ++ x0).map row_T_api_Const).length = ((([] : List T_api_Const) ++ x0).map row_T_api_Const).length ∧ (∀ r ∈ ([x1].map row_T_api_Const), r.length = 5) ∧ ((([] : List T_api_Const) ++ x0).map row_T_api_Const) ++ ([x1].map row_T_api_Const) = (((([] : List T_api_Const) ++ x0) ++ [x1]).map row_T_api_Const) ∧ (((([] : List T_api_Const) ++ x0) ++ [x1]).map row_T_api_Const).length ≤ 9223372036854775807 ∧ (((([] : List T_api_Const) ++ x0) ++ [x1]).map row_T_api_Const).length * 48 ≤ 140737488355328)]) (by kernel_rfl) ⟨⟨trivial, lenM _ _⟩, ⟨trivial, someE e5⟩, ⟨trivial, tNi 0⟩, ⟨trivial, ⟨tNi 5, trivial⟩⟩, ⟨trivial, ⟨trivial, rfl, szM (f := row_T_api_Const) (n := 5) (fun _ => rfl) _, appM row_T_api_Const _ _, (growK_spec e6 (lenMN _ _)).1, (growK_spec e6 (lenMN _ _)).2⟩⟩, ⟨trivial, ⟨trivial, rfl, szM (f := row_T_api_Const) (n := 5) (fun _ => rfl) _, appM row_T_api_Const _ _, (growK_spec e7 (lenMN _ _)).1, (growK_spec e7 (lenMN _ _)).2⟩⟩, trivial⟩ ?_
      refine EvOk.ret ?_
      obtain rfl := someE h
      exact Den.Ends.mk (.inl rfl) (d := .tup [.sl false (((((([] : List T_api_Const) ++ x0) ++ [x1]).map row_T_api_Const).drop 0).take (((([] : List T_api_Const) ++ x0) ++ [x1]).map row_T_api_Const).length), dI v4, dI 0]) (p := (True ∧ (True ∧ (True ∧ True))) ∧ ((0 + (((([] : List T_api_Const) ++ x0) ++ [x1]).map row_T_api_Const).length ≤ (((([] : List T_api_Const) ++ x0) ++ [x1]).map row_T_api_Const).length) ∧ (True ∧ (True ∧ True)))) (by kernel_rfl) ⟨⟨trivial, ⟨trivial, ⟨trivial, trivial⟩⟩⟩, ⟨roomAll _, ⟨trivial, ⟨trivial, trivial⟩⟩⟩⟩ (by simp only [takeAll] <;> kernel_rfl)
  · obtain rfl := someE h
    obtain ⟨rfl, hE⟩ := hJ
    exact At.retK hE
theorem w30 {x0 : List T_api_Const} {x1 : T_api_Const} {r : (List T_api_Const) × Int × Int} (h : m_armatureref05_Add x0 x1 = some r) : CallSpec Try.prog 30 [.sl false (x0.map row_T_api_Const), .agg (row_T_api_Const x1)] (.tup [.sl false (r.1.map row_T_api_Const), .int .i64 r.2.1, .int .i64 r.2.2]) :=
  CallSpec.at2 b30 (n := 36) (l := [(0, .sl false (x0.map row_T_api_Const)), (1, .agg (row_T_api_Const x1))]) (by kernel_rfl) (by kernel_rfl) (by kernel_rfl) (by kernel_rfl) (by kernel_rfl) (Nat.le_of_ble_eq_true (by kernel_rfl)) (fun Γ => we30 x0 x1 r h Γ)
end Go.Proofs
