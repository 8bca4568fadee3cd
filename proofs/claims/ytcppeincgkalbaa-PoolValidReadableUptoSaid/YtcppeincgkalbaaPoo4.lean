/-
  Models of functions of the program, and that the functions compute them. Printed by den2.py. No condition.
-/
import Derived.Test.YtcppeincgkalbaaPoo3
set_option linter.unusedVariables false
namespace Go.Proofs
open Go.Den
/-! ### armature pool.AddUTF8 -/
noncomputable def b31 : Code := Try.f31.body.getD .skip
def m_pool_AddUTF8 (x0 : List T_api_Const) (x1 : List UInt8) : Option ((List T_api_Const) × Int × Int) :=
  (m_pool_Add x0 ({ f_Tag := 1, f_S := x1, f_N := 0, f_A := 0, f_B := 0 } : T_api_Const)).bind fun v0 =>
  some (v0.1, v0.2.1, v0.2.2)
theorem we31 (x0 : List T_api_Const) (x1 : List UInt8) (r : (List T_api_Const) × Int × Int) (h : m_pool_AddUTF8 x0 x1 = some r) (Γ : Ctx) : At Try.prog Γ b31 [] (Den.Ends Try.prog Try.f31 (.tup [.sl false (r.1.map row_T_api_Const), dI r.2.1, dI r.2.2])) (mkS 14 [(0, .sl false (x0.map row_T_api_Const)), (1, .str x1)] []) := by
  obtain ⟨v0, e0, h⟩ := bindE h
  refine At.adv [] [(0, { keep := some ([0, 1], []) }), (1, { told := [(3, { ans := .val (.tup [.sl false (v0.1.map row_T_api_Const), dI v0.2.1, dI v0.2.2]) })], keep := some ([4, 5, 6], []) })] 400 (ev := .ret) (σ' := mkS 14 [(4, .sl false (v0.1.map row_T_api_Const)), (5, dI v0.2.1), (6, dI v0.2.2)] []) (q := [True ∧ (cq Try.prog (True ∧ ((tN 5) ∧ True)) 29 [.sl false (x0.map row_T_api_Const), .agg [dI 1, .str x1, dI 0, dI 0, dI 0]] (.tup [.sl false (v0.1.map row_T_api_Const), dI v0.2.1, dI v0.2.2]))]) (by kernel_rfl) ⟨⟨trivial, cqi (⟨trivial, ⟨tNi 5, trivial⟩⟩) (w29 e0)⟩, trivial⟩ ?_
  refine EvOk.ret ?_
  obtain rfl := someE h
  exact Den.Ends.mk (.inl rfl) (d := .tup [.sl false (v0.1.map row_T_api_Const), dI v0.2.1, dI v0.2.2]) (p := (True ∧ (True ∧ (True ∧ True))) ∧ (tN 3)) (by kernel_rfl) ⟨⟨trivial, ⟨trivial, ⟨trivial, trivial⟩⟩⟩, tNi 3⟩ (by kernel_rfl)
theorem w31 {x0 : List T_api_Const} {x1 : List UInt8} {r : (List T_api_Const) × Int × Int} (h : m_pool_AddUTF8 x0 x1 = some r) : CallSpec Try.prog 31 [.sl false (x0.map row_T_api_Const), .str x1] (.tup [.sl false (r.1.map row_T_api_Const), .int .i64 r.2.1, .int .i64 r.2.2]) :=
  CallSpec.at2 b31 (n := 14) (l := [(0, .sl false (x0.map row_T_api_Const)), (1, .str x1)]) (by kernel_rfl) (by kernel_rfl) (by kernel_rfl) (by kernel_rfl) (by kernel_rfl) (Nat.le_of_ble_eq_true (by kernel_rfl)) (fun Γ => we31 x0 x1 r h Γ)

/-! ### armature armatureref05.AddUTF8 -/
noncomputable def b32 : Code := Try.f32.body.getD .skip
def m_armatureref05_AddUTF8 (x0 : List T_api_Const) (x1 : List UInt8) : Option ((List T_api_Const) × Int × Int) :=
  (m_armatureref05_Add x0 ({ f_Tag := 1, f_S := x1, f_N := 0, f_A := 0, f_B := 0 } : T_api_Const)).bind fun v0 =>
  some (v0.1, v0.2.1, v0.2.2)
theorem we32 (x0 : List T_api_Const) (x1 : List UInt8) (r : (List T_api_Const) × Int × Int) (h : m_armatureref05_AddUTF8 x0 x1 = some r) (Γ : Ctx) : At Try.prog Γ b32 [] (Den.Ends Try.prog Try.f32 (.tup [.sl false (r.1.map row_T_api_Const), dI r.2.1, dI r.2.2])) (mkS 14 [(0, .sl false (x0.map row_T_api_Const)), (1, .str x1)] []) := by
  obtain ⟨v0, e0, h⟩ := bindE h
  refine At.adv [] [(0, { keep := some ([0, 1], []) }), (1, { told := [(3, { ans := .val (.tup [.sl false (v0.1.map row_T_api_Const), dI v0.2.1, dI v0.2.2]) })], keep := some ([4, 5, 6], []) })] 400 (ev := .ret) (σ' := mkS 14 [(4, .sl false (v0.1.map row_T_api_Const)), (5, dI v0.2.1), (6, dI v0.2.2)] []) (q := [True ∧ (cq Try.prog (True ∧ ((tN 5) ∧ True)) 30 [.sl false (x0.map row_T_api_Const), .agg [dI 1, .str x1, dI 0, dI 0, dI 0]] (.tup [.sl false (v0.1.map row_T_api_Const), dI v0.2.1, dI v0.2.2]))]) (by kernel_rfl) ⟨⟨trivial, cqi (⟨trivial, ⟨tNi 5, trivial⟩⟩) (w30 e0)⟩, trivial⟩ ?_
  refine EvOk.ret ?_
  obtain rfl := someE h
  exact Den.Ends.mk (.inl rfl) (d := .tup [.sl false (v0.1.map row_T_api_Const), dI v0.2.1, dI v0.2.2]) (p := (True ∧ (True ∧ (True ∧ True))) ∧ (tN 3)) (by kernel_rfl) ⟨⟨trivial, ⟨trivial, ⟨trivial, trivial⟩⟩⟩, tNi 3⟩ (by kernel_rfl)
theorem w32 {x0 : List T_api_Const} {x1 : List UInt8} {r : (List T_api_Const) × Int × Int} (h : m_armatureref05_AddUTF8 x0 x1 = some r) : CallSpec Try.prog 32 [.sl false (x0.map row_T_api_Const), .str x1] (.tup [.sl false (r.1.map row_T_api_Const), .int .i64 r.2.1, .int .i64 r.2.2]) :=
  CallSpec.at2 b32 (n := 14) (l := [(0, .sl false (x0.map row_T_api_Const)), (1, .str x1)]) (by kernel_rfl) (by kernel_rfl) (by kernel_rfl) (by kernel_rfl) (by kernel_rfl) (Nat.le_of_ble_eq_true (by kernel_rfl)) (fun Γ => we32 x0 x1 r h Γ)

/-! ### armature armatureref05.addNamed -/
noncomputable def b46 : Code := Try.f46.body.getD .skip
noncomputable def c46x0 : Code := sub1 b46
noncomputable def c46x1 : Code := sub1 c46x0
noncomputable def c46x2 : Code := sub1 c46x1
noncomputable def c46x3 : Code := sub1 c46x2
noncomputable def c46x4 : Code := sub0 c46x3
noncomputable def c46x5 : Code := sub1 c46x4
noncomputable def c46x6 : Code := sub0 c46x5
noncomputable def c46x7 : Code := sub1 c46x5
noncomputable def c46x8 : Code := sub1 c46x3
noncomputable def c46x9 : Code := sub0 c46x1
noncomputable def c46x10 : Code := sub1 c46x9
noncomputable def c46x11 : Code := sub0 c46x10
noncomputable def c46x12 : Code := sub1 c46x10
def m_armatureref05_addNamed (x0 : List T_api_Const) (x1 : Int) (x2 : List UInt8) : Option ((List T_api_Const) × Int × Int) :=
  (m_armatureref05_AddUTF8 x0 x2).bind fun v0 =>
  if (v0.2.2 != 0) = true then
    (some (x0, 0, v0.2.2)) else
  ((m_armatureref05_Add v0.1 ({ f_Tag := x1, f_S := [], f_N := 0, f_A := v0.2.1, f_B := 0 } : T_api_Const)).bind fun v1 =>
    if (v1.2.2 != 0) = true then
      (some (x0, 0, v1.2.2)) else
    (some (v1.1, v1.2.1, 0)))
theorem we46 (x0 : List T_api_Const) (x1 : Int) (x2 : List UInt8) (r : (List T_api_Const) × Int × Int) (h : m_armatureref05_addNamed x0 x1 x2 = some r) (Γ : Ctx) : At Try.prog Γ b46 [] (Den.Ends Try.prog Try.f46 (.tup [.sl false (r.1.map row_T_api_Const), dI r.2.1, dI r.2.2])) (mkS 38 [(0, .sl false (x0.map row_T_api_Const)), (1, dI x1), (2, .str x2)] []) := by
  obtain ⟨v0, e0, h⟩ := bindE h
  refine At.adv [] [(0, { keep := some ([0, 1, 2], []) }), (1, { told := [(2, { ans := .val (.tup [.sl false (v0.1.map row_T_api_Const), dI v0.2.1, dI v0.2.2]) })], keep := some ([0, 1, 9, 10, 11], []) }), (2, { keep := some ([0, 1, 9, 10, 11, 20], []) })] 400 (ev := .cond (v0.2.2 != 0) c46x11 c46x12 [.seq c46x2]) (σ' := mkS 38 [(0, .sl false (x0.map row_T_api_Const)), (1, dI x1), (9, .sl false (v0.1.map row_T_api_Const)), (10, dI v0.2.1), (11, dI v0.2.2), (20, .bool (v0.2.2 != 0))] []) (q := [True ∧ (cq Try.prog (tN 2) 32 [.sl false (x0.map row_T_api_Const), .str x2] (.tup [.sl false (v0.1.map row_T_api_Const), dI v0.2.1, dI v0.2.2]))]) (by kernel_rfl) ⟨⟨trivial, cqi (tNi 2) (w32 e0)⟩, trivial⟩ ?_
  refine EvOk.cond (fun h0 => ?_) (fun h0 => ?_)
  · replace h := iteT h0 h
    refine At.gc [0, 11] [] (n := 38) (l := [(0, .sl false (x0.map row_T_api_Const)), (11, dI v0.2.2)]) (bl := []) (by kernel_rfl) ?_
    refine At.adv [] [(3, { keep := some ([6, 7, 8], []) })] 400 (ev := .ret) (σ' := mkS 38 [(6, .sl false (x0.map row_T_api_Const)), (7, dI 0), (8, dI v0.2.2)] []) (q := []) (by kernel_rfl) trivial ?_
    refine EvOk.ret ?_
    obtain rfl := someE h
    exact Den.Ends.mk (.inl rfl) (d := .tup [.sl false (x0.map row_T_api_Const), dI 0, dI v0.2.2]) (p := (True ∧ (True ∧ (True ∧ True))) ∧ (tN 3)) (by kernel_rfl) ⟨⟨trivial, ⟨trivial, ⟨trivial, trivial⟩⟩⟩, tNi 3⟩ (by kernel_rfl)
  · replace h := iteF h0 h
    refine At.gc [0, 1, 9, 10] [] (n := 38) (l := [(0, .sl false (x0.map row_T_api_Const)), (1, dI x1), (9, .sl false (v0.1.map row_T_api_Const)), (10, dI v0.2.1)]) (bl := []) (by kernel_rfl) ?_
    obtain ⟨v1, e1, h⟩ := bindE h
    refine At.adv [] [(4, { told := [(4, { ans := .val (.tup [.sl false (v1.1.map row_T_api_Const), dI v1.2.1, dI v1.2.2]) })], keep := some ([0, 9, 10, 11], []) }), (5, { keep := some ([0, 9, 10, 11, 33], []) })] 400 (ev := .cond (v1.2.2 != 0) c46x6 c46x7 [.seq c46x8]) (σ' := mkS 38 [(0, .sl false (x0.map row_T_api_Const)), (9, .sl false (v1.1.map row_T_api_Const)), (10, dI v1.2.1), (11, dI v1.2.2), (33, .bool (v1.2.2 != 0))] []) (q := [True ∧ (cq Try.prog (True ∧ ((tN 5) ∧ True)) 30 [.sl false (v0.1.map row_T_api_Const), .agg [dI x1, .str [], dI 0, dI v0.2.1, dI 0]] (.tup [.sl false (v1.1.map row_T_api_Const), dI v1.2.1, dI v1.2.2]))]) (by kernel_rfl) ⟨⟨trivial, cqi (⟨trivial, ⟨tNi 5, trivial⟩⟩) (w30 e1)⟩, trivial⟩ ?_
    refine EvOk.cond (fun h1 => ?_) (fun h1 => ?_)
    · replace h := iteT h1 h
      refine At.gc [0, 11] [] (n := 38) (l := [(0, .sl false (x0.map row_T_api_Const)), (11, dI v1.2.2)]) (bl := []) (by kernel_rfl) ?_
      refine At.adv [] [(6, { keep := some ([6, 7, 8], []) })] 400 (ev := .ret) (σ' := mkS 38 [(6, .sl false (x0.map row_T_api_Const)), (7, dI 0), (8, dI v1.2.2)] []) (q := []) (by kernel_rfl) trivial ?_
      refine EvOk.ret ?_
      obtain rfl := someE h
      exact Den.Ends.mk (.inl rfl) (d := .tup [.sl false (x0.map row_T_api_Const), dI 0, dI v1.2.2]) (p := (True ∧ (True ∧ (True ∧ True))) ∧ (tN 3)) (by kernel_rfl) ⟨⟨trivial, ⟨trivial, ⟨trivial, trivial⟩⟩⟩, tNi 3⟩ (by kernel_rfl)
    · replace h := iteF h1 h
      refine At.gc [9, 10] [] (n := 38) (l := [(9, .sl false (v1.1.map row_T_api_Const)), (10, dI v1.2.1)]) (bl := []) (by kernel_rfl) ?_
      refine At.adv [] [(7, { keep := some ([6, 7, 8], []) })] 400 (ev := .ret) (σ' := mkS 38 [(6, .sl false (v1.1.map row_T_api_Const)), (7, dI v1.2.1), (8, dI 0)] []) (q := []) (by kernel_rfl) trivial ?_
      refine EvOk.ret ?_
      obtain rfl := someE h
      exact Den.Ends.mk (.inl rfl) (d := .tup [.sl false (v1.1.map row_T_api_Const), dI v1.2.1, dI 0]) (p := (True ∧ (True ∧ (True ∧ True))) ∧ (tN 3)) (by kernel_rfl) ⟨⟨trivial, ⟨trivial, ⟨trivial, trivial⟩⟩⟩, tNi 3⟩ (by kernel_rfl)
theorem w46 {x0 : List T_api_Const} {x1 : Int} {x2 : List UInt8} {r : (List T_api_Const) × Int × Int} (h : m_armatureref05_addNamed x0 x1 x2 = some r) : CallSpec Try.prog 46 [.sl false (x0.map row_T_api_Const), .int .i64 x1, .str x2] (.tup [.sl false (r.1.map row_T_api_Const), .int .i64 r.2.1, .int .i64 r.2.2]) :=
  CallSpec.at2 b46 (n := 38) (l := [(0, .sl false (x0.map row_T_api_Const)), (1, .int .i64 x1), (2, .str x2)]) (by kernel_rfl) (by kernel_rfl) (by kernel_rfl) (by kernel_rfl) (by kernel_rfl) (Nat.le_of_ble_eq_true (by kernel_rfl)) (fun Γ => we46 x0 x1 x2 r h Γ)

/-! ### armature armatureref05.AddClass -/
noncomputable def b33 : Code := Try.f33.body.getD .skip
def m_armatureref05_AddClass (x0 : List T_api_Const) (x1 : List UInt8) : Option ((List T_api_Const) × Int × Int) :=
  (m_armatureref05_addNamed x0 7 x1).bind fun v0 =>
  some (v0.1, v0.2.1, v0.2.2)
theorem we33 (x0 : List T_api_Const) (x1 : List UInt8) (r : (List T_api_Const) × Int × Int) (h : m_armatureref05_AddClass x0 x1 = some r) (Γ : Ctx) : At Try.prog Γ b33 [] (Den.Ends Try.prog Try.f33 (.tup [.sl false (r.1.map row_T_api_Const), dI r.2.1, dI r.2.2])) (mkS 13 [(0, .sl false (x0.map row_T_api_Const)), (1, .str x1)] []) := by
  obtain ⟨v0, e0, h⟩ := bindE h
  refine At.adv [] [(0, { keep := some ([0, 1], []) }), (1, { told := [(2, { ans := .val (.tup [.sl false (v0.1.map row_T_api_Const), dI v0.2.1, dI v0.2.2]) })], keep := some ([4, 5, 6], []) })] 400 (ev := .ret) (σ' := mkS 13 [(4, .sl false (v0.1.map row_T_api_Const)), (5, dI v0.2.1), (6, dI v0.2.2)] []) (q := [True ∧ (cq Try.prog (tN 3) 46 [.sl false (x0.map row_T_api_Const), dI 7, .str x1] (.tup [.sl false (v0.1.map row_T_api_Const), dI v0.2.1, dI v0.2.2]))]) (by kernel_rfl) ⟨⟨trivial, cqi (tNi 3) (w46 e0)⟩, trivial⟩ ?_
  refine EvOk.ret ?_
  obtain rfl := someE h
  exact Den.Ends.mk (.inl rfl) (d := .tup [.sl false (v0.1.map row_T_api_Const), dI v0.2.1, dI v0.2.2]) (p := (True ∧ (True ∧ (True ∧ True))) ∧ (tN 3)) (by kernel_rfl) ⟨⟨trivial, ⟨trivial, ⟨trivial, trivial⟩⟩⟩, tNi 3⟩ (by kernel_rfl)
theorem w33 {x0 : List T_api_Const} {x1 : List UInt8} {r : (List T_api_Const) × Int × Int} (h : m_armatureref05_AddClass x0 x1 = some r) : CallSpec Try.prog 33 [.sl false (x0.map row_T_api_Const), .str x1] (.tup [.sl false (r.1.map row_T_api_Const), .int .i64 r.2.1, .int .i64 r.2.2]) :=
  CallSpec.at2 b33 (n := 13) (l := [(0, .sl false (x0.map row_T_api_Const)), (1, .str x1)]) (by kernel_rfl) (by kernel_rfl) (by kernel_rfl) (by kernel_rfl) (by kernel_rfl) (Nat.le_of_ble_eq_true (by kernel_rfl)) (fun Γ => we33 x0 x1 r h Γ)

/-! ### armature armatureref05.AddString -/
noncomputable def b34 : Code := Try.f34.body.getD .skip
def m_armatureref05_AddString (x0 : List T_api_Const) (x1 : List UInt8) : Option ((List T_api_Const) × Int × Int) :=
  (m_armatureref05_addNamed x0 8 x1).bind fun v0 =>
  some (v0.1, v0.2.1, v0.2.2)
theorem we34 (x0 : List T_api_Const) (x1 : List UInt8) (r : (List T_api_Const) × Int × Int) (h : m_armatureref05_AddString x0 x1 = some r) (Γ : Ctx) : At Try.prog Γ b34 [] (Den.Ends Try.prog Try.f34 (.tup [.sl false (r.1.map row_T_api_Const), dI r.2.1, dI r.2.2])) (mkS 13 [(0, .sl false (x0.map row_T_api_Const)), (1, .str x1)] []) := by
  obtain ⟨v0, e0, h⟩ := bindE h
  refine At.adv [] [(0, { keep := some ([0, 1], []) }), (1, { told := [(2, { ans := .val (.tup [.sl false (v0.1.map row_T_api_Const), dI v0.2.1, dI v0.2.2]) })], keep := some ([4, 5, 6], []) })] 400 (ev := .ret) (σ' := mkS 13 [(4, .sl false (v0.1.map row_T_api_Const)), (5, dI v0.2.1), (6, dI v0.2.2)] []) (q := [True ∧ (cq Try.prog (tN 3) 46 [.sl false (x0.map row_T_api_Const), dI 8, .str x1] (.tup [.sl false (v0.1.map row_T_api_Const), dI v0.2.1, dI v0.2.2]))]) (by kernel_rfl) ⟨⟨trivial, cqi (tNi 3) (w46 e0)⟩, trivial⟩ ?_
  refine EvOk.ret ?_
  obtain rfl := someE h
  exact Den.Ends.mk (.inl rfl) (d := .tup [.sl false (v0.1.map row_T_api_Const), dI v0.2.1, dI v0.2.2]) (p := (True ∧ (True ∧ (True ∧ True))) ∧ (tN 3)) (by kernel_rfl) ⟨⟨trivial, ⟨trivial, ⟨trivial, trivial⟩⟩⟩, tNi 3⟩ (by kernel_rfl)
theorem w34 {x0 : List T_api_Const} {x1 : List UInt8} {r : (List T_api_Const) × Int × Int} (h : m_armatureref05_AddString x0 x1 = some r) : CallSpec Try.prog 34 [.sl false (x0.map row_T_api_Const), .str x1] (.tup [.sl false (r.1.map row_T_api_Const), .int .i64 r.2.1, .int .i64 r.2.2]) :=
  CallSpec.at2 b34 (n := 13) (l := [(0, .sl false (x0.map row_T_api_Const)), (1, .str x1)]) (by kernel_rfl) (by kernel_rfl) (by kernel_rfl) (by kernel_rfl) (by kernel_rfl) (Nat.le_of_ble_eq_true (by kernel_rfl)) (fun Γ => we34 x0 x1 r h Γ)

/-! ### armature armatureref05.AddMemberRef -/
noncomputable def b35 : Code := Try.f35.body.getD .skip
noncomputable def c35x0 : Code := sub1 b35
noncomputable def c35x1 : Code := sub1 c35x0
noncomputable def c35x2 : Code := sub1 c35x1
noncomputable def c35x3 : Code := sub1 c35x2
noncomputable def c35x4 : Code := sub1 c35x3
noncomputable def c35x5 : Code := sub1 c35x4
noncomputable def c35x6 : Code := sub1 c35x5
noncomputable def c35x7 : Code := sub1 c35x6
noncomputable def c35x8 : Code := sub1 c35x7
noncomputable def c35x9 : Code := sub1 c35x8
noncomputable def c35x10 : Code := sub0 c35x9
noncomputable def c35x11 : Code := sub1 c35x10
noncomputable def c35x12 : Code := sub0 c35x11
noncomputable def c35x13 : Code := sub1 c35x11
noncomputable def c35x14 : Code := sub1 c35x9
noncomputable def c35x15 : Code := sub0 c35x7
noncomputable def c35x16 : Code := sub1 c35x15
noncomputable def c35x17 : Code := sub0 c35x16
noncomputable def c35x18 : Code := sub1 c35x16
noncomputable def c35x19 : Code := sub0 c35x5
noncomputable def c35x20 : Code := sub1 c35x19
noncomputable def c35x21 : Code := sub0 c35x20
noncomputable def c35x22 : Code := sub1 c35x20
noncomputable def c35x23 : Code := sub0 c35x3
noncomputable def c35x24 : Code := sub1 c35x23
noncomputable def c35x25 : Code := sub0 c35x24
noncomputable def c35x26 : Code := sub1 c35x24
noncomputable def c35x27 : Code := sub0 c35x1
noncomputable def c35x28 : Code := sub1 c35x27
noncomputable def c35x29 : Code := sub0 c35x28
noncomputable def c35x30 : Code := sub1 c35x28
def m_armatureref05_AddMemberRef (x0 : List T_api_Const) (x1 : Int) (x2 : T_api_Ref) : Option ((List T_api_Const) × Int × Int) :=
  (m_armatureref05_AddClass x0 x2.f_Class).bind fun v0 =>
  if (v0.2.2 != 0) = true then
    (some (x0, 0, v0.2.2)) else
  ((m_armatureref05_AddUTF8 v0.1 x2.f_Name).bind fun v1 =>
    if (v1.2.2 != 0) = true then
      (some (x0, 0, v1.2.2)) else
    ((m_armatureref05_AddUTF8 v1.1 x2.f_Desc).bind fun v2 =>
      if (v2.2.2 != 0) = true then
        (some (x0, 0, v2.2.2)) else
      ((m_armatureref05_Add v2.1 ({ f_Tag := 12, f_S := [], f_N := 0, f_A := v1.2.1, f_B := v2.2.1 } : T_api_Const)).bind fun v3 =>
        if (v3.2.2 != 0) = true then
          (some (x0, 0, v3.2.2)) else
        ((m_armatureref05_Add v3.1 ({ f_Tag := x1, f_S := [], f_N := 0, f_A := v0.2.1, f_B := v3.2.1 } : T_api_Const)).bind fun v4 =>
          if (v4.2.2 != 0) = true then
            (some (x0, 0, v4.2.2)) else
          (some (v4.1, v4.2.1, 0))))))
theorem we35 (x0 : List T_api_Const) (x1 : Int) (x2 : T_api_Ref) (r : (List T_api_Const) × Int × Int) (h : m_armatureref05_AddMemberRef x0 x1 x2 = some r) (Γ : Ctx) : At Try.prog Γ b35 [] (Den.Ends Try.prog Try.f35 (.tup [.sl false (r.1.map row_T_api_Const), dI r.2.1, dI r.2.2])) (mkS 80 [(0, .sl false (x0.map row_T_api_Const)), (1, dI x1), (2, .agg (row_T_api_Ref x2))] []) := by
  obtain ⟨v0, e0, h⟩ := bindE h
  refine At.adv [] [(0, { told := [(0, { ro := true })], keep := some ([0, 1, 5], []) }), (1, { told := [(3, { ans := .val (.tup [.sl false (v0.1.map row_T_api_Const), dI v0.2.1, dI v0.2.2]) })], keep := some ([0, 1, 5, 9, 10, 11], []) }), (2, { keep := some ([0, 1, 5, 9, 10, 11, 24], []) })] 400 (ev := .cond (v0.2.2 != 0) c35x29 c35x30 [.seq c35x2]) (σ' := mkS 80 [(0, .sl false (x0.map row_T_api_Const)), (1, dI x1), (5, .ptr (row_T_api_Ref x2)), (9, .sl false (v0.1.map row_T_api_Const)), (10, dI v0.2.1), (11, dI v0.2.2), (24, .bool (v0.2.2 != 0))] []) (q := [True ∧ (cq Try.prog (tN 2) 33 [.sl false (x0.map row_T_api_Const), .str x2.f_Class] (.tup [.sl false (v0.1.map row_T_api_Const), dI v0.2.1, dI v0.2.2]))]) (by kernel_rfl) ⟨⟨trivial, cqi (tNi 2) (w33 e0)⟩, trivial⟩ ?_
  refine EvOk.cond (fun h0 => ?_) (fun h0 => ?_)
  · replace h := iteT h0 h
    refine At.gc [0, 11] [] (n := 80) (l := [(0, .sl false (x0.map row_T_api_Const)), (11, dI v0.2.2)]) (bl := []) (by kernel_rfl) ?_
    refine At.adv [] [(3, { keep := some ([6, 7, 8], []) })] 400 (ev := .ret) (σ' := mkS 80 [(6, .sl false (x0.map row_T_api_Const)), (7, dI 0), (8, dI v0.2.2)] []) (q := []) (by kernel_rfl) trivial ?_
    refine EvOk.ret ?_
    obtain rfl := someE h
    exact Den.Ends.mk (.inl rfl) (d := .tup [.sl false (x0.map row_T_api_Const), dI 0, dI v0.2.2]) (p := (True ∧ (True ∧ (True ∧ True))) ∧ (tN 3)) (by kernel_rfl) ⟨⟨trivial, ⟨trivial, ⟨trivial, trivial⟩⟩⟩, tNi 3⟩ (by kernel_rfl)
  · replace h := iteF h0 h
    refine At.gc [0, 1, 5, 9, 10] [] (n := 80) (l := [(0, .sl false (x0.map row_T_api_Const)), (1, dI x1), (5, .ptr (row_T_api_Ref x2)), (9, .sl false (v0.1.map row_T_api_Const)), (10, dI v0.2.1)]) (bl := []) (by kernel_rfl) ?_
    obtain ⟨v1, e1, h⟩ := bindE h
    refine At.adv [] [(4, { told := [(3, { ans := .val (.tup [.sl false (v1.1.map row_T_api_Const), dI v1.2.1, dI v1.2.2]) })], keep := some ([0, 1, 5, 9, 10, 11, 12], []) }), (5, { keep := some ([0, 1, 5, 9, 10, 11, 12, 36], []) })] 400 (ev := .cond (v1.2.2 != 0) c35x25 c35x26 [.seq c35x4]) (σ' := mkS 80 [(0, .sl false (x0.map row_T_api_Const)), (1, dI x1), (5, .ptr (row_T_api_Ref x2)), (9, .sl false (v1.1.map row_T_api_Const)), (10, dI v0.2.1), (11, dI v1.2.2), (12, dI v1.2.1), (36, .bool (v1.2.2 != 0))] []) (q := [True ∧ (cq Try.prog (tN 2) 32 [.sl false (v0.1.map row_T_api_Const), .str x2.f_Name] (.tup [.sl false (v1.1.map row_T_api_Const), dI v1.2.1, dI v1.2.2]))]) (by kernel_rfl) ⟨⟨trivial, cqi (tNi 2) (w32 e1)⟩, trivial⟩ ?_
    refine EvOk.cond (fun h1 => ?_) (fun h1 => ?_)
    · replace h := iteT h1 h
      refine At.gc [0, 11] [] (n := 80) (l := [(0, .sl false (x0.map row_T_api_Const)), (11, dI v1.2.2)]) (bl := []) (by kernel_rfl) ?_
      refine At.adv [] [(6, { keep := some ([6, 7, 8], []) })] 400 (ev := .ret) (σ' := mkS 80 [(6, .sl false (x0.map row_T_api_Const)), (7, dI 0), (8, dI v1.2.2)] []) (q := []) (by kernel_rfl) trivial ?_
      refine EvOk.ret ?_
      obtain rfl := someE h
      exact Den.Ends.mk (.inl rfl) (d := .tup [.sl false (x0.map row_T_api_Const), dI 0, dI v1.2.2]) (p := (True ∧ (True ∧ (True ∧ True))) ∧ (tN 3)) (by kernel_rfl) ⟨⟨trivial, ⟨trivial, ⟨trivial, trivial⟩⟩⟩, tNi 3⟩ (by kernel_rfl)
    · replace h := iteF h1 h
      refine At.gc [0, 1, 5, 9, 10, 12] [] (n := 80) (l := [(0, .sl false (x0.map row_T_api_Const)), (1, dI x1), (5, .ptr (row_T_api_Ref x2)), (9, .sl false (v1.1.map row_T_api_Const)), (10, dI v0.2.1), (12, dI v1.2.1)]) (bl := []) (by kernel_rfl) ?_
      obtain ⟨v2, e2, h⟩ := bindE h
      refine At.adv [] [(7, { told := [(3, { ans := .val (.tup [.sl false (v2.1.map row_T_api_Const), dI v2.2.1, dI v2.2.2]) })], keep := some ([0, 1, 9, 10, 11, 12, 13], []) }), (8, { keep := some ([0, 1, 9, 10, 11, 12, 13, 48], []) })] 400 (ev := .cond (v2.2.2 != 0) c35x21 c35x22 [.seq c35x6]) (σ' := mkS 80 [(0, .sl false (x0.map row_T_api_Const)), (1, dI x1), (9, .sl false (v2.1.map row_T_api_Const)), (10, dI v0.2.1), (11, dI v2.2.2), (12, dI v1.2.1), (13, dI v2.2.1), (48, .bool (v2.2.2 != 0))] []) (q := [True ∧ (cq Try.prog (tN 2) 32 [.sl false (v1.1.map row_T_api_Const), .str x2.f_Desc] (.tup [.sl false (v2.1.map row_T_api_Const), dI v2.2.1, dI v2.2.2]))]) (by kernel_rfl) ⟨⟨trivial, cqi (tNi 2) (w32 e2)⟩, trivial⟩ ?_
      refine EvOk.cond (fun h2 => ?_) (fun h2 => ?_)
      · replace h := iteT h2 h
        refine At.gc [0, 11] [] (n := 80) (l := [(0, .sl false (x0.map row_T_api_Const)), (11, dI v2.2.2)]) (bl := []) (by kernel_rfl) ?_
        refine At.adv [] [(9, { keep := some ([6, 7, 8], []) })] 400 (ev := .ret) (σ' := mkS 80 [(6, .sl false (x0.map row_T_api_Const)), (7, dI 0), (8, dI v2.2.2)] []) (q := []) (by kernel_rfl) trivial ?_
        refine EvOk.ret ?_
        obtain rfl := someE h
        exact Den.Ends.mk (.inl rfl) (d := .tup [.sl false (x0.map row_T_api_Const), dI 0, dI v2.2.2]) (p := (True ∧ (True ∧ (True ∧ True))) ∧ (tN 3)) (by kernel_rfl) ⟨⟨trivial, ⟨trivial, ⟨trivial, trivial⟩⟩⟩, tNi 3⟩ (by kernel_rfl)
      · replace h := iteF h2 h
        refine At.gc [0, 1, 9, 10, 12, 13] [] (n := 80) (l := [(0, .sl false (x0.map row_T_api_Const)), (1, dI x1), (9, .sl false (v2.1.map row_T_api_Const)), (10, dI v0.2.1), (12, dI v1.2.1), (13, dI v2.2.1)]) (bl := []) (by kernel_rfl) ?_
        obtain ⟨v3, e3, h⟩ := bindE h
        refine At.adv [] [(10, { told := [(4, { ans := .val (.tup [.sl false (v3.1.map row_T_api_Const), dI v3.2.1, dI v3.2.2]) })], keep := some ([0, 1, 9, 10, 11, 14], []) }), (11, { keep := some ([0, 1, 9, 10, 11, 14, 61], []) })] 400 (ev := .cond (v3.2.2 != 0) c35x17 c35x18 [.seq c35x8]) (σ' := mkS 80 [(0, .sl false (x0.map row_T_api_Const)), (1, dI x1), (9, .sl false (v3.1.map row_T_api_Const)), (10, dI v0.2.1), (11, dI v3.2.2), (14, dI v3.2.1), (61, .bool (v3.2.2 != 0))] []) (q := [True ∧ (cq Try.prog (True ∧ ((tN 5) ∧ True)) 30 [.sl false (v2.1.map row_T_api_Const), .agg [dI 12, .str [], dI 0, dI v1.2.1, dI v2.2.1]] (.tup [.sl false (v3.1.map row_T_api_Const), dI v3.2.1, dI v3.2.2]))]) (by kernel_rfl) ⟨⟨trivial, cqi (⟨trivial, ⟨tNi 5, trivial⟩⟩) (w30 e3)⟩, trivial⟩ ?_
        refine EvOk.cond (fun h3 => ?_) (fun h3 => ?_)
        · replace h := iteT h3 h
          refine At.gc [0, 11] [] (n := 80) (l := [(0, .sl false (x0.map row_T_api_Const)), (11, dI v3.2.2)]) (bl := []) (by kernel_rfl) ?_
          refine At.adv [] [(12, { keep := some ([6, 7, 8], []) })] 400 (ev := .ret) (σ' := mkS 80 [(6, .sl false (x0.map row_T_api_Const)), (7, dI 0), (8, dI v3.2.2)] []) (q := []) (by kernel_rfl) trivial ?_
          refine EvOk.ret ?_
          obtain rfl := someE h
          exact Den.Ends.mk (.inl rfl) (d := .tup [.sl false (x0.map row_T_api_Const), dI 0, dI v3.2.2]) (p := (True ∧ (True ∧ (True ∧ True))) ∧ (tN 3)) (by kernel_rfl) ⟨⟨trivial, ⟨trivial, ⟨trivial, trivial⟩⟩⟩, tNi 3⟩ (by kernel_rfl)
        · replace h := iteF h3 h
          refine At.gc [0, 1, 9, 10, 14] [] (n := 80) (l := [(0, .sl false (x0.map row_T_api_Const)), (1, dI x1), (9, .sl false (v3.1.map row_T_api_Const)), (10, dI v0.2.1), (14, dI v3.2.1)]) (bl := []) (by kernel_rfl) ?_
          obtain ⟨v4, e4, h⟩ := bindE h
          refine At.adv [] [(13, { told := [(5, { ans := .val (.tup [.sl false (v4.1.map row_T_api_Const), dI v4.2.1, dI v4.2.2]) })], keep := some ([0, 9, 11, 14], []) }), (14, { keep := some ([0, 9, 11, 14, 75], []) })] 400 (ev := .cond (v4.2.2 != 0) c35x12 c35x13 [.seq c35x14]) (σ' := mkS 80 [(0, .sl false (x0.map row_T_api_Const)), (9, .sl false (v4.1.map row_T_api_Const)), (11, dI v4.2.2), (14, dI v4.2.1), (75, .bool (v4.2.2 != 0))] []) (q := [True ∧ (cq Try.prog (True ∧ ((tN 5) ∧ True)) 30 [.sl false (v3.1.map row_T_api_Const), .agg [dI x1, .str [], dI 0, dI v0.2.1, dI v3.2.1]] (.tup [.sl false (v4.1.map row_T_api_Const), dI v4.2.1, dI v4.2.2]))]) (by kernel_rfl) ⟨⟨trivial, cqi (⟨trivial, ⟨tNi 5, trivial⟩⟩) (w30 e4)⟩, trivial⟩ ?_
          refine EvOk.cond (fun h4 => ?_) (fun h4 => ?_)
          · replace h := iteT h4 h
            refine At.gc [0, 11] [] (n := 80) (l := [(0, .sl false (x0.map row_T_api_Const)), (11, dI v4.2.2)]) (bl := []) (by kernel_rfl) ?_
            refine At.adv [] [(15, { keep := some ([6, 7, 8], []) })] 400 (ev := .ret) (σ' := mkS 80 [(6, .sl false (x0.map row_T_api_Const)), (7, dI 0), (8, dI v4.2.2)] []) (q := []) (by kernel_rfl) trivial ?_
            refine EvOk.ret ?_
            obtain rfl := someE h
            exact Den.Ends.mk (.inl rfl) (d := .tup [.sl false (x0.map row_T_api_Const), dI 0, dI v4.2.2]) (p := (True ∧ (True ∧ (True ∧ True))) ∧ (tN 3)) (by kernel_rfl) ⟨⟨trivial, ⟨trivial, ⟨trivial, trivial⟩⟩⟩, tNi 3⟩ (by kernel_rfl)
          · replace h := iteF h4 h
            refine At.gc [9, 14] [] (n := 80) (l := [(9, .sl false (v4.1.map row_T_api_Const)), (14, dI v4.2.1)]) (bl := []) (by kernel_rfl) ?_
            refine At.adv [] [(16, { keep := some ([6, 7, 8], []) })] 400 (ev := .ret) (σ' := mkS 80 [(6, .sl false (v4.1.map row_T_api_Const)), (7, dI v4.2.1), (8, dI 0)] []) (q := []) (by kernel_rfl) trivial ?_
            refine EvOk.ret ?_
            obtain rfl := someE h
            exact Den.Ends.mk (.inl rfl) (d := .tup [.sl false (v4.1.map row_T_api_Const), dI v4.2.1, dI 0]) (p := (True ∧ (True ∧ (True ∧ True))) ∧ (tN 3)) (by kernel_rfl) ⟨⟨trivial, ⟨trivial, ⟨trivial, trivial⟩⟩⟩, tNi 3⟩ (by kernel_rfl)
theorem w35 {x0 : List T_api_Const} {x1 : Int} {x2 : T_api_Ref} {r : (List T_api_Const) × Int × Int} (h : m_armatureref05_AddMemberRef x0 x1 x2 = some r) : CallSpec Try.prog 35 [.sl false (x0.map row_T_api_Const), .int .i64 x1, .agg (row_T_api_Ref x2)] (.tup [.sl false (r.1.map row_T_api_Const), .int .i64 r.2.1, .int .i64 r.2.2]) :=
  CallSpec.at2 b35 (n := 80) (l := [(0, .sl false (x0.map row_T_api_Const)), (1, .int .i64 x1), (2, .agg (row_T_api_Ref x2))]) (by kernel_rfl) (by kernel_rfl) (by kernel_rfl) (by kernel_rfl) (by kernel_rfl) (Nat.le_of_ble_eq_true (by kernel_rfl)) (fun Γ => we35 x0 x1 x2 r h Γ)
end Go.Proofs
