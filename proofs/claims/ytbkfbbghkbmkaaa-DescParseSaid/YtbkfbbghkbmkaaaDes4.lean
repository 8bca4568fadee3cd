/-
  Models of functions of the program, part 4, and that the functions compute them. Printed by den2.py. No condition.
-/
import Derived.Test.YtbkfbbghkbmkaaaDes3
set_option linter.unusedVariables false
namespace Go.Proofs
open Go.Den
/-! ### armature armaturelaw04.DescRoundTrip -/
noncomputable def b8 : Code := Try.f8.body.getD .skip
noncomputable def c8x0 : Code := sub1 b8
noncomputable def c8x1 : Code := sub1 c8x0
noncomputable def c8x2 : Code := sub1 c8x1
noncomputable def c8x3 : Code := sub1 c8x2
noncomputable def c8x4 : Code := sub1 c8x3
noncomputable def c8x5 : Code := sub0 c8x4
noncomputable def c8x6 : Code := sub1 c8x5
noncomputable def c8x7 : Code := sub0 c8x6
noncomputable def c8x8 : Code := sub1 c8x6
noncomputable def c8x9 : Code := sub1 c8x4
noncomputable def c8x10 : Code := sub0 c8x9
noncomputable def c8x11 : Code := sub0 c8x10
noncomputable def c8x12 : Code := sub1 c8x10
noncomputable def c8x13 : Code := sub1 c8x9
noncomputable def c8x14 : Code := sub0 c8x2
noncomputable def c8x15 : Code := sub1 c8x14
noncomputable def c8x16 : Code := sub0 c8x15
noncomputable def c8x17 : Code := sub1 c8x15
noncomputable def c8x18 : Code := sub0 c8x0
noncomputable def c8x19 : Code := sub1 c8x18
noncomputable def c8x20 : Code := sub0 c8x19
noncomputable def c8x21 : Code := sub1 c8x19
noncomputable def c8x22 : Code := sub1 c8x12
noncomputable def c8x23 : Code := sub0 c8x22
noncomputable def c8x24 : Code := sub1 c8x23
noncomputable def c8x25 : Code := sub1 c8x24
noncomputable def c8x26 : Code := sub0 c8x25
noncomputable def c8x27 : Code := sub1 c8x25
noncomputable def c8x28 : Code := sub0 c8x13
noncomputable def c8x29 : Code := sub0 c8x28
noncomputable def c8x30 : Code := sub1 c8x28
noncomputable def c8x31 : Code := sub1 c8x13
noncomputable def c8x32 : Code := sub1 c8x22
noncomputable def c8x33 : Code := sub1 c8x30
noncomputable def c8x34 : Code := sub0 c8x33
noncomputable def c8x35 : Code := sub1 c8x34
noncomputable def c8x36 : Code := sub1 c8x35
noncomputable def c8x37 : Code := sub0 c8x36
noncomputable def c8x38 : Code := sub1 c8x36
noncomputable def c8x39 : Code := sub0 c8x31
noncomputable def c8x40 : Code := sub1 c8x31
noncomputable def c8x41 : Code := sub1 c8x33
def j8x3  : Option (Bool) :=
  (m_armaturelaw04_works).bind fun v10 =>
  some v10
def j8x2 (x0 : T_api_Type) : Option (Bool) :=
  (m_desc_ArrayOf x0).bind fun v8 =>
  if (v8.2 == 0) = true then
    ((m_desc_Element ({ f_Dim := v8.1.f_Dim, f_Base := v8.1.f_Base, f_Name := v8.1.f_Name } : T_api_Type)).bind fun v9 =>
    if (!(eqb_T_api_Type ({ f_Dim := v9.1.f_Dim, f_Base := v9.1.f_Base, f_Name := v9.1.f_Name } : T_api_Type) x0)) = true then (some false) else
    (if (v9.2 != 0) = true then
      (some false) else
    (j8x3 ))) else
  (j8x3 )
def j8x1 (x0 : T_api_Type) : Option (Bool) :=
  (m_desc_FormatClassConstant x0).bind fun v6 =>
  if (v6.2 == 0) = true then
    ((m_desc_ParseClassConstant v6.1).bind fun v7 =>
    if (!(eqb_T_api_Type ({ f_Dim := v7.1.f_Dim, f_Base := v7.1.f_Base, f_Name := v7.1.f_Name } : T_api_Type) x0)) = true then (some false) else
    (if (v7.2 != 0) = true then
      (some false) else
    ((j8x2 x0) ))) else
  ((j8x2 x0) )
def m_armaturelaw04_DescRoundTrip (x0 : T_api_Type) : Option (Bool) :=
  if (decide ((x0.f_Name.length : Int) > 500)) = true then
    ((m_armaturelaw04_works).bind fun v0 =>
    some v0) else
  ((m_desc_Format x0).bind fun v1 =>
    if (v1.2 != 0) = true then
      ((m_desc_Valid x0).bind fun v2 =>
      if (!v2) = true then ((m_armaturelaw04_works).bind fun v3 =>
      some v3) else
      (some false)) else
    ((m_desc_Parse v1.1).bind fun v4 =>
      if (!(eqb_T_api_Type ({ f_Dim := v4.1.f_Dim, f_Base := v4.1.f_Base, f_Name := v4.1.f_Name } : T_api_Type) x0)) = true then (some false) else
      (if (v4.2 != 0) = true then (some false) else
      ((m_desc_Valid x0).bind fun v5 =>
      if (!v5) = true then
        (some false) else
      ((j8x1 x0) )))))
theorem wj8x3  (r : Bool) (h : j8x3  = some r) (Γ : Ctx) : EvOk Try.prog Γ (Den.Ends Try.prog Try.f8 (.bool r)) (mkS 89 [] []) (.stop c8x39 [.seq c8x40]) := by
  refine EvOk.stop ?_
  obtain ⟨v10, e10, h⟩ := bindE h
  refine At.adv [] [(19, { told := [(0, { ans := .val (.bool v10), args := [] })], gs := [], keep := some ([2], []) })] 400 (ev := .ret) (σ' := mkS 89 [(2, .bool v10)] []) (q := [True ∧ (True ∧ ([] : List D) = [] ∧ CallAny Try.prog 10 [] (.bool v10))]) (by kernel_rfl) ⟨⟨trivial, ⟨trivial, rfl, .inl (w10 e10)⟩⟩, trivial⟩ ?_
  refine EvOk.ret ?_
  obtain rfl := someE h
  exact Den.Ends.mk (.inl rfl) (d := .bool v10) (p := (True ∧ True) ∧ (True ∧ True)) (by kernel_rfl) ⟨⟨trivial, trivial⟩, ⟨trivial, trivial⟩⟩ (by kernel_rfl)
theorem wj8x2 (x0 : T_api_Type) (r : Bool) (h : (j8x2 x0)  = some r) (Γ : Ctx) : EvOk Try.prog Γ (Den.Ends Try.prog Try.f8 (.bool r)) (mkS 89 [(1, .ptr [.int .i64 x0.f_Dim, .int .u8 x0.f_Base, .str x0.f_Name])] []) (.stop c8x29 [.seq c8x30, .seq c8x31]) := by
  refine EvOk.stop ?_
  obtain ⟨v8, e8, h⟩ := bindE h
  refine At.adv [] [(14, { told := [(1, { ans := .val (.tup [.agg (row_T_api_Type v8.1), .int .i64 v8.2]), args := [.agg [.int .i64 x0.f_Dim, .int .u8 x0.f_Base, .str x0.f_Name]] })], gs := [], keep := some ([1, 11, 12], [(11, 11)]) }), (15, { told := [], gs := [], keep := some ([1, 11, 75], [(11, 11)]) })] 400 (ev := .cond (v8.2 == 0) c8x34 c8x41 [.seq c8x31]) (σ' := mkS 89 [(1, .ptr [.int .i64 x0.f_Dim, .int .u8 x0.f_Base, .str x0.f_Name]), (11, .lptr 11 0 0), (75, .bool (v8.2 == 0))] [(11, { sz := 3, rows := [[.int .i64 v8.1.f_Dim, .int .u8 v8.1.f_Base, .str v8.1.f_Name]], frz := 0, pure := false })]) (q := [True ∧ (((True ∧ (True ∧ (True ∧ True))) ∧ True) ∧ ([.agg [.int .i64 x0.f_Dim, .int .u8 x0.f_Base, .str x0.f_Name]] : List D) = [.agg [.int .i64 x0.f_Dim, .int .u8 x0.f_Base, .str x0.f_Name]] ∧ CallAny Try.prog 26 [.agg [.int .i64 x0.f_Dim, .int .u8 x0.f_Base, .str x0.f_Name]] (.tup [.agg (row_T_api_Type v8.1), .int .i64 v8.2])), True ∧ (0 ≤ 0 ∧ 0 + ([.int .i64 v8.1.f_Dim, .int .u8 v8.1.f_Base, .str v8.1.f_Name] : List D).length ≤ ([.int .i64 0, .int .u8 0, .str []] : List D).length ∧ ([[.int .i64 v8.1.f_Dim, .int .u8 v8.1.f_Base, .str v8.1.f_Name]] : List (List D)) = ([[.int .i64 v8.1.f_Dim, .int .u8 v8.1.f_Base, .str v8.1.f_Name]] : List (List D)))]) (by kernel_rfl) ⟨⟨trivial, ⟨⟨⟨trivial, ⟨trivial, ⟨trivial, trivial⟩⟩⟩, trivial⟩, rfl, .inl (w26 e8)⟩⟩, ⟨trivial, ⟨Nat.zero_le _, Nat.le_of_ble_eq_true rfl, rfl⟩⟩, trivial⟩ ?_
  refine EvOk.cond (fun h9 => ?_) (fun h9 => ?_)
  · replace h := iteT h9 h
    refine At.gc [1, 11] [(11, 11)] (n := 89) (l := [(1, .ptr [.int .i64 x0.f_Dim, .int .u8 x0.f_Base, .str x0.f_Name]), (11, .lptr 11 0 0)]) (bl := [(11, { sz := 3, rows := [[.int .i64 v8.1.f_Dim, .int .u8 v8.1.f_Base, .str v8.1.f_Name]], frz := 0, pure := false })]) (by kernel_rfl) ?_
    obtain ⟨v9, e9, h⟩ := bindE h
    rcases Bool.eq_false_or_eq_true (!(eqb_T_api_Type ({ f_Dim := v9.1.f_Dim, f_Base := v9.1.f_Base, f_Name := v9.1.f_Name } : T_api_Type) x0)) with h10 | h10
    · replace h := iteT h10 h
      refine At.adv [] [(16, { told := [(1, { ans := .val (.tup [.agg (row_T_api_Type v9.1), .int .i64 v9.2]), args := [.agg [.int .i64 v8.1.f_Dim, .int .u8 v8.1.f_Base, .str v8.1.f_Name]] })], gs := [], keep := some ([1, 13, 14], [(13, 13)]) }), (17, { told := [(2, { ans := .val (.bool (!(eqb_T_api_Type ({ f_Dim := v9.1.f_Dim, f_Base := v9.1.f_Base, f_Name := v9.1.f_Name } : T_api_Type) x0))) }), (6, { ans := .yes })], gs := [(4, false), (5, false)], keep := some ([87], []) })] 400 (ev := .cond true c8x37 c8x38 [.seq c8x31]) (σ' := mkS 89 [(87, .bool true)] []) (q := [True ∧ (((True ∧ (True ∧ (True ∧ True))) ∧ True) ∧ ([.agg [.int .i64 v8.1.f_Dim, .int .u8 v8.1.f_Base, .str v8.1.f_Name]] : List D) = [.agg [.int .i64 v8.1.f_Dim, .int .u8 v8.1.f_Base, .str v8.1.f_Name]] ∧ CallAny Try.prog 27 [.agg [.int .i64 v8.1.f_Dim, .int .u8 v8.1.f_Base, .str v8.1.f_Name]] (.tup [.agg (row_T_api_Type v9.1), .int .i64 v9.2])), True ∧ (0 ≤ 0 ∧ 0 + ([.int .i64 v9.1.f_Dim, .int .u8 v9.1.f_Base, .str v9.1.f_Name] : List D).length ≤ ([.int .i64 0, .int .u8 0, .str []] : List D).length ∧ ([[.int .i64 v9.1.f_Dim, .int .u8 v9.1.f_Base, .str v9.1.f_Name]] : List (List D)) = ([[.int .i64 v9.1.f_Dim, .int .u8 v9.1.f_Base, .str v9.1.f_Name]] : List (List D))), True ∧ (Try.prog.eqGuardType Try.prog.depth 24 = false ∧ eqq_24 ∧ (!(eqb_T_api_Type ({ f_Dim := v9.1.f_Dim, f_Base := v9.1.f_Base, f_Name := v9.1.f_Name } : T_api_Type) x0)) = (!(eqb_T_api_Type ({ f_Dim := v9.1.f_Dim, f_Base := v9.1.f_Base, f_Name := v9.1.f_Name } : T_api_Type) x0))), ((!(eqb_T_api_Type ({ f_Dim := v9.1.f_Dim, f_Base := v9.1.f_Base, f_Name := v9.1.f_Name } : T_api_Type) x0)) == false) = false, ((!(eqb_T_api_Type ({ f_Dim := v9.1.f_Dim, f_Base := v9.1.f_Base, f_Name := v9.1.f_Name } : T_api_Type) x0)) == false) = false, True ∧ ((!(eqb_T_api_Type ({ f_Dim := v9.1.f_Dim, f_Base := v9.1.f_Base, f_Name := v9.1.f_Name } : T_api_Type) x0)) = true)]) (by kernel_rfl) ⟨⟨trivial, ⟨⟨⟨trivial, ⟨trivial, ⟨trivial, trivial⟩⟩⟩, trivial⟩, rfl, .inl (w27 e9)⟩⟩, ⟨trivial, ⟨Nat.zero_le _, Nat.le_of_ble_eq_true rfl, rfl⟩⟩, ⟨trivial, ⟨eqg_24, eqp_24, rfl⟩⟩, gB h10 rfl, gB h10 rfl, ⟨trivial, h10⟩, trivial⟩ ?_
      refine EvOk.cond (fun _ => ?_) (fun hb => Bool.noConfusion hb)
      refine At.gc [] [] (n := 89) (l := []) (bl := []) (by kernel_rfl) ?_
      refine At.adv [] [(18, { told := [], gs := [], keep := some ([2], []) })] 400 (ev := .ret) (σ' := mkS 89 [(2, .bool false)] []) (q := []) (by kernel_rfl) trivial ?_
      refine EvOk.ret ?_
      obtain rfl := someE h
      exact Den.Ends.mk (.inl rfl) (d := .bool false) (p := (True ∧ True) ∧ (True ∧ True)) (by kernel_rfl) ⟨⟨trivial, trivial⟩, ⟨trivial, trivial⟩⟩ (by kernel_rfl)
    · replace h := iteF h10 h
      refine At.adv [] [(16, { told := [(1, { ans := .val (.tup [.agg (row_T_api_Type v9.1), .int .i64 v9.2]), args := [.agg [.int .i64 v8.1.f_Dim, .int .u8 v8.1.f_Base, .str v8.1.f_Name]] })], gs := [], keep := some ([1, 13, 14], [(13, 13)]) }), (17, { told := [(2, { ans := .val (.bool (!(eqb_T_api_Type ({ f_Dim := v9.1.f_Dim, f_Base := v9.1.f_Base, f_Name := v9.1.f_Name } : T_api_Type) x0))) }), (6, { ans := .no })], gs := [(4, true), (5, true)], keep := some ([87], []) })] 400 (ev := .cond (v9.2 != 0) c8x37 c8x38 [.seq c8x31]) (σ' := mkS 89 [(87, .bool (v9.2 != 0))] []) (q := [True ∧ (((True ∧ (True ∧ (True ∧ True))) ∧ True) ∧ ([.agg [.int .i64 v8.1.f_Dim, .int .u8 v8.1.f_Base, .str v8.1.f_Name]] : List D) = [.agg [.int .i64 v8.1.f_Dim, .int .u8 v8.1.f_Base, .str v8.1.f_Name]] ∧ CallAny Try.prog 27 [.agg [.int .i64 v8.1.f_Dim, .int .u8 v8.1.f_Base, .str v8.1.f_Name]] (.tup [.agg (row_T_api_Type v9.1), .int .i64 v9.2])), True ∧ (0 ≤ 0 ∧ 0 + ([.int .i64 v9.1.f_Dim, .int .u8 v9.1.f_Base, .str v9.1.f_Name] : List D).length ≤ ([.int .i64 0, .int .u8 0, .str []] : List D).length ∧ ([[.int .i64 v9.1.f_Dim, .int .u8 v9.1.f_Base, .str v9.1.f_Name]] : List (List D)) = ([[.int .i64 v9.1.f_Dim, .int .u8 v9.1.f_Base, .str v9.1.f_Name]] : List (List D))), True ∧ (Try.prog.eqGuardType Try.prog.depth 24 = false ∧ eqq_24 ∧ (!(eqb_T_api_Type ({ f_Dim := v9.1.f_Dim, f_Base := v9.1.f_Base, f_Name := v9.1.f_Name } : T_api_Type) x0)) = (!(eqb_T_api_Type ({ f_Dim := v9.1.f_Dim, f_Base := v9.1.f_Base, f_Name := v9.1.f_Name } : T_api_Type) x0))), ((!(eqb_T_api_Type ({ f_Dim := v9.1.f_Dim, f_Base := v9.1.f_Base, f_Name := v9.1.f_Name } : T_api_Type) x0)) == false) = true ∧ True, ((!(eqb_T_api_Type ({ f_Dim := v9.1.f_Dim, f_Base := v9.1.f_Base, f_Name := v9.1.f_Name } : T_api_Type) x0)) == false) = true ∧ True, True ∧ ((!(eqb_T_api_Type ({ f_Dim := v9.1.f_Dim, f_Base := v9.1.f_Base, f_Name := v9.1.f_Name } : T_api_Type) x0)) = false)]) (by kernel_rfl) ⟨⟨trivial, ⟨⟨⟨trivial, ⟨trivial, ⟨trivial, trivial⟩⟩⟩, trivial⟩, rfl, .inl (w27 e9)⟩⟩, ⟨trivial, ⟨Nat.zero_le _, Nat.le_of_ble_eq_true rfl, rfl⟩⟩, ⟨trivial, ⟨eqg_24, eqp_24, rfl⟩⟩, ⟨(gB h10 rfl), trivial⟩, ⟨(gB h10 rfl), trivial⟩, ⟨trivial, h10⟩, trivial⟩ ?_
      refine EvOk.cond (fun h11 => ?_) (fun h11 => ?_)
      · replace h := iteT h11 h
        refine At.gc [] [] (n := 89) (l := []) (bl := []) (by kernel_rfl) ?_
        refine At.adv [] [(18, { told := [], gs := [], keep := some ([2], []) })] 400 (ev := .ret) (σ' := mkS 89 [(2, .bool false)] []) (q := []) (by kernel_rfl) trivial ?_
        refine EvOk.ret ?_
        obtain rfl := someE h
        exact Den.Ends.mk (.inl rfl) (d := .bool false) (p := (True ∧ True) ∧ (True ∧ True)) (by kernel_rfl) ⟨⟨trivial, trivial⟩, ⟨trivial, trivial⟩⟩ (by kernel_rfl)
      · replace h := iteF h11 h
        refine At.gc [] [] (n := 89) (l := []) (bl := []) (by kernel_rfl) ?_
        refine At.adv [19] [] 400 (ev := .stop c8x39 [.seq c8x40]) (σ' := mkS 89 [] []) (q := []) (by kernel_rfl) trivial ?_
        exact wj8x3  r h Γ
  · replace h := iteF h9 h
    refine At.gc [] [] (n := 89) (l := []) (bl := []) (by kernel_rfl) ?_
    refine At.adv [19] [] 400 (ev := .stop c8x39 [.seq c8x40]) (σ' := mkS 89 [] []) (q := []) (by kernel_rfl) trivial ?_
    exact wj8x3  r h Γ
theorem wj8x1 (x0 : T_api_Type) (r : Bool) (h : (j8x1 x0)  = some r) (Γ : Ctx) : EvOk Try.prog Γ (Den.Ends Try.prog Try.f8 (.bool r)) (mkS 89 [(1, .ptr [.int .i64 x0.f_Dim, .int .u8 x0.f_Base, .str x0.f_Name])] []) (.stop c8x11 [.seq c8x12, .seq c8x13]) := by
  refine EvOk.stop ?_
  obtain ⟨v6, e6, h⟩ := bindE h
  refine At.adv [] [(9, { told := [(1, { ans := .val (.tup [.str v6.1, .int .i64 v6.2]), args := [.agg [.int .i64 x0.f_Dim, .int .u8 x0.f_Base, .str x0.f_Name]] })], gs := [], keep := some ([1, 7, 8], []) }), (10, { told := [], gs := [], keep := some ([1, 7, 56], []) })] 400 (ev := .cond (v6.2 == 0) c8x23 c8x32 [.seq c8x13]) (σ' := mkS 89 [(1, .ptr [.int .i64 x0.f_Dim, .int .u8 x0.f_Base, .str x0.f_Name]), (7, .str v6.1), (56, .bool (v6.2 == 0))] []) (q := [True ∧ (((True ∧ (True ∧ (True ∧ True))) ∧ True) ∧ ([.agg [.int .i64 x0.f_Dim, .int .u8 x0.f_Base, .str x0.f_Name]] : List D) = [.agg [.int .i64 x0.f_Dim, .int .u8 x0.f_Base, .str x0.f_Name]] ∧ CallAny Try.prog 21 [.agg [.int .i64 x0.f_Dim, .int .u8 x0.f_Base, .str x0.f_Name]] (.tup [.str v6.1, .int .i64 v6.2]))]) (by kernel_rfl) ⟨⟨trivial, ⟨⟨⟨trivial, ⟨trivial, ⟨trivial, trivial⟩⟩⟩, trivial⟩, rfl, .inl (w21 e6)⟩⟩, trivial⟩ ?_
  refine EvOk.cond (fun h6 => ?_) (fun h6 => ?_)
  · replace h := iteT h6 h
    refine At.gc [1, 7] [] (n := 89) (l := [(1, .ptr [.int .i64 x0.f_Dim, .int .u8 x0.f_Base, .str x0.f_Name]), (7, .str v6.1)]) (bl := []) (by kernel_rfl) ?_
    obtain ⟨v7, e7, h⟩ := bindE h
    rcases Bool.eq_false_or_eq_true (!(eqb_T_api_Type ({ f_Dim := v7.1.f_Dim, f_Base := v7.1.f_Base, f_Name := v7.1.f_Name } : T_api_Type) x0)) with h7 | h7
    · replace h := iteT h7 h
      refine At.adv [] [(11, { told := [(1, { ans := .val (.tup [.agg (row_T_api_Type v7.1), .int .i64 v7.2]), args := [.str v6.1] })], gs := [], keep := some ([1, 9, 10], [(9, 9)]) }), (12, { told := [(2, { ans := .val (.bool (!(eqb_T_api_Type ({ f_Dim := v7.1.f_Dim, f_Base := v7.1.f_Base, f_Name := v7.1.f_Name } : T_api_Type) x0))) }), (6, { ans := .yes })], gs := [(4, false), (5, false)], keep := some ([1, 68], []) })] 400 (ev := .cond true c8x26 c8x27 [.seq c8x13]) (σ' := mkS 89 [(1, .ptr [.int .i64 x0.f_Dim, .int .u8 x0.f_Base, .str x0.f_Name]), (68, .bool true)] []) (q := [True ∧ ((True ∧ True) ∧ ([.str v6.1] : List D) = [.str v6.1] ∧ CallAny Try.prog 13 [.str v6.1] (.tup [.agg (row_T_api_Type v7.1), .int .i64 v7.2])), True ∧ (0 ≤ 0 ∧ 0 + ([.int .i64 v7.1.f_Dim, .int .u8 v7.1.f_Base, .str v7.1.f_Name] : List D).length ≤ ([.int .i64 0, .int .u8 0, .str []] : List D).length ∧ ([[.int .i64 v7.1.f_Dim, .int .u8 v7.1.f_Base, .str v7.1.f_Name]] : List (List D)) = ([[.int .i64 v7.1.f_Dim, .int .u8 v7.1.f_Base, .str v7.1.f_Name]] : List (List D))), True ∧ (Try.prog.eqGuardType Try.prog.depth 24 = false ∧ eqq_24 ∧ (!(eqb_T_api_Type ({ f_Dim := v7.1.f_Dim, f_Base := v7.1.f_Base, f_Name := v7.1.f_Name } : T_api_Type) x0)) = (!(eqb_T_api_Type ({ f_Dim := v7.1.f_Dim, f_Base := v7.1.f_Base, f_Name := v7.1.f_Name } : T_api_Type) x0))), ((!(eqb_T_api_Type ({ f_Dim := v7.1.f_Dim, f_Base := v7.1.f_Base, f_Name := v7.1.f_Name } : T_api_Type) x0)) == false) = false, ((!(eqb_T_api_Type ({ f_Dim := v7.1.f_Dim, f_Base := v7.1.f_Base, f_Name := v7.1.f_Name } : T_api_Type) x0)) == false) = false, True ∧ ((!(eqb_T_api_Type ({ f_Dim := v7.1.f_Dim, f_Base := v7.1.f_Base, f_Name := v7.1.f_Name } : T_api_Type) x0)) = true)]) (by kernel_rfl) ⟨⟨trivial, ⟨⟨trivial, trivial⟩, rfl, .inl (w13 e7)⟩⟩, ⟨trivial, ⟨Nat.zero_le _, Nat.le_of_ble_eq_true rfl, rfl⟩⟩, ⟨trivial, ⟨eqg_24, eqp_24, rfl⟩⟩, gB h7 rfl, gB h7 rfl, ⟨trivial, h7⟩, trivial⟩ ?_
      refine EvOk.cond (fun _ => ?_) (fun hb => Bool.noConfusion hb)
      refine At.gc [] [] (n := 89) (l := []) (bl := []) (by kernel_rfl) ?_
      refine At.adv [] [(13, { told := [], gs := [], keep := some ([2], []) })] 400 (ev := .ret) (σ' := mkS 89 [(2, .bool false)] []) (q := []) (by kernel_rfl) trivial ?_
      refine EvOk.ret ?_
      obtain rfl := someE h
      exact Den.Ends.mk (.inl rfl) (d := .bool false) (p := (True ∧ True) ∧ (True ∧ True)) (by kernel_rfl) ⟨⟨trivial, trivial⟩, ⟨trivial, trivial⟩⟩ (by kernel_rfl)
    · replace h := iteF h7 h
      refine At.adv [] [(11, { told := [(1, { ans := .val (.tup [.agg (row_T_api_Type v7.1), .int .i64 v7.2]), args := [.str v6.1] })], gs := [], keep := some ([1, 9, 10], [(9, 9)]) }), (12, { told := [(2, { ans := .val (.bool (!(eqb_T_api_Type ({ f_Dim := v7.1.f_Dim, f_Base := v7.1.f_Base, f_Name := v7.1.f_Name } : T_api_Type) x0))) }), (6, { ans := .no })], gs := [(4, true), (5, true)], keep := some ([1, 68], []) })] 400 (ev := .cond (v7.2 != 0) c8x26 c8x27 [.seq c8x13]) (σ' := mkS 89 [(1, .ptr [.int .i64 x0.f_Dim, .int .u8 x0.f_Base, .str x0.f_Name]), (68, .bool (v7.2 != 0))] []) (q := [True ∧ ((True ∧ True) ∧ ([.str v6.1] : List D) = [.str v6.1] ∧ CallAny Try.prog 13 [.str v6.1] (.tup [.agg (row_T_api_Type v7.1), .int .i64 v7.2])), True ∧ (0 ≤ 0 ∧ 0 + ([.int .i64 v7.1.f_Dim, .int .u8 v7.1.f_Base, .str v7.1.f_Name] : List D).length ≤ ([.int .i64 0, .int .u8 0, .str []] : List D).length ∧ ([[.int .i64 v7.1.f_Dim, .int .u8 v7.1.f_Base, .str v7.1.f_Name]] : List (List D)) = ([[.int .i64 v7.1.f_Dim, .int .u8 v7.1.f_Base, .str v7.1.f_Name]] : List (List D))), True ∧ (Try.prog.eqGuardType Try.prog.depth 24 = false ∧ eqq_24 ∧ (!(eqb_T_api_Type ({ f_Dim := v7.1.f_Dim, f_Base := v7.1.f_Base, f_Name := v7.1.f_Name } : T_api_Type) x0)) = (!(eqb_T_api_Type ({ f_Dim := v7.1.f_Dim, f_Base := v7.1.f_Base, f_Name := v7.1.f_Name } : T_api_Type) x0))), ((!(eqb_T_api_Type ({ f_Dim := v7.1.f_Dim, f_Base := v7.1.f_Base, f_Name := v7.1.f_Name } : T_api_Type) x0)) == false) = true ∧ True, ((!(eqb_T_api_Type ({ f_Dim := v7.1.f_Dim, f_Base := v7.1.f_Base, f_Name := v7.1.f_Name } : T_api_Type) x0)) == false) = true ∧ True, True ∧ ((!(eqb_T_api_Type ({ f_Dim := v7.1.f_Dim, f_Base := v7.1.f_Base, f_Name := v7.1.f_Name } : T_api_Type) x0)) = false)]) (by kernel_rfl) ⟨⟨trivial, ⟨⟨trivial, trivial⟩, rfl, .inl (w13 e7)⟩⟩, ⟨trivial, ⟨Nat.zero_le _, Nat.le_of_ble_eq_true rfl, rfl⟩⟩, ⟨trivial, ⟨eqg_24, eqp_24, rfl⟩⟩, ⟨(gB h7 rfl), trivial⟩, ⟨(gB h7 rfl), trivial⟩, ⟨trivial, h7⟩, trivial⟩ ?_
      refine EvOk.cond (fun h8 => ?_) (fun h8 => ?_)
      · replace h := iteT h8 h
        refine At.gc [] [] (n := 89) (l := []) (bl := []) (by kernel_rfl) ?_
        refine At.adv [] [(13, { told := [], gs := [], keep := some ([2], []) })] 400 (ev := .ret) (σ' := mkS 89 [(2, .bool false)] []) (q := []) (by kernel_rfl) trivial ?_
        refine EvOk.ret ?_
        obtain rfl := someE h
        exact Den.Ends.mk (.inl rfl) (d := .bool false) (p := (True ∧ True) ∧ (True ∧ True)) (by kernel_rfl) ⟨⟨trivial, trivial⟩, ⟨trivial, trivial⟩⟩ (by kernel_rfl)
      · replace h := iteF h8 h
        refine At.gc [1] [] (n := 89) (l := [(1, .ptr [.int .i64 x0.f_Dim, .int .u8 x0.f_Base, .str x0.f_Name])]) (bl := []) (by kernel_rfl) ?_
        refine At.adv [14] [] 400 (ev := .stop c8x29 [.seq c8x30, .seq c8x31]) (σ' := mkS 89 [(1, .ptr [.int .i64 x0.f_Dim, .int .u8 x0.f_Base, .str x0.f_Name])] []) (q := []) (by kernel_rfl) trivial ?_
        exact (wj8x2 x0)  r h Γ
  · replace h := iteF h6 h
    refine At.gc [1] [] (n := 89) (l := [(1, .ptr [.int .i64 x0.f_Dim, .int .u8 x0.f_Base, .str x0.f_Name])]) (bl := []) (by kernel_rfl) ?_
    refine At.adv [14] [] 400 (ev := .stop c8x29 [.seq c8x30, .seq c8x31]) (σ' := mkS 89 [(1, .ptr [.int .i64 x0.f_Dim, .int .u8 x0.f_Base, .str x0.f_Name])] []) (q := []) (by kernel_rfl) trivial ?_
    exact (wj8x2 x0)  r h Γ
theorem we8 (x0 : T_api_Type) (r : Bool) (h : m_armaturelaw04_DescRoundTrip x0 = some r) (Γ : Ctx) : At Try.prog Γ b8 [] (Den.Ends Try.prog Try.f8 (.bool r)) (mkS 89 [(0, .agg (row_T_api_Type x0))] []) := by
  refine At.adv [] [(0, { told := [(0, { ro := true })], gs := [], keep := some ([1], []) }), (1, { told := [], gs := [], keep := some ([1, 18], []) })] 400 (ev := .cond (decide ((x0.f_Name.length : Int) > 500)) c8x20 c8x21 [.seq c8x1]) (σ' := mkS 89 [(1, .ptr [.int .i64 x0.f_Dim, .int .u8 x0.f_Base, .str x0.f_Name]), (18, .bool (decide ((x0.f_Name.length : Int) > 500)))] []) (q := []) (by kernel_rfl) trivial ?_
  refine EvOk.cond (fun h0 => ?_) (fun h0 => ?_)
  · replace h := iteT h0 h
    refine At.gc [] [] (n := 89) (l := []) (bl := []) (by kernel_rfl) ?_
    obtain ⟨v0, e0, h⟩ := bindE h
    refine At.adv [] [(2, { told := [(0, { ans := .val (.bool v0), args := [] })], gs := [], keep := some ([2], []) })] 400 (ev := .ret) (σ' := mkS 89 [(2, .bool v0)] []) (q := [True ∧ (True ∧ ([] : List D) = [] ∧ CallAny Try.prog 10 [] (.bool v0))]) (by kernel_rfl) ⟨⟨trivial, ⟨trivial, rfl, .inl (w10 e0)⟩⟩, trivial⟩ ?_
    refine EvOk.ret ?_
    obtain rfl := someE h
    exact Den.Ends.mk (.inl rfl) (d := .bool v0) (p := (True ∧ True) ∧ (True ∧ True)) (by kernel_rfl) ⟨⟨trivial, trivial⟩, ⟨trivial, trivial⟩⟩ (by kernel_rfl)
  · replace h := iteF h0 h
    refine At.gc [1] [] (n := 89) (l := [(1, .ptr [.int .i64 x0.f_Dim, .int .u8 x0.f_Base, .str x0.f_Name])]) (bl := []) (by kernel_rfl) ?_
    obtain ⟨v1, e1, h⟩ := bindE h
    refine At.adv [] [(3, { told := [(1, { ans := .val (.tup [.str v1.1, .int .i64 v1.2]), args := [.agg [.int .i64 x0.f_Dim, .int .u8 x0.f_Base, .str x0.f_Name]] })], gs := [], keep := some ([1, 3, 4], []) }), (4, { told := [], gs := [], keep := some ([1, 3, 26], []) })] 400 (ev := .cond (v1.2 != 0) c8x16 c8x17 [.seq c8x3]) (σ' := mkS 89 [(1, .ptr [.int .i64 x0.f_Dim, .int .u8 x0.f_Base, .str x0.f_Name]), (3, .str v1.1), (26, .bool (v1.2 != 0))] []) (q := [True ∧ (((True ∧ (True ∧ (True ∧ True))) ∧ True) ∧ ([.agg [.int .i64 x0.f_Dim, .int .u8 x0.f_Base, .str x0.f_Name]] : List D) = [.agg [.int .i64 x0.f_Dim, .int .u8 x0.f_Base, .str x0.f_Name]] ∧ CallAny Try.prog 20 [.agg [.int .i64 x0.f_Dim, .int .u8 x0.f_Base, .str x0.f_Name]] (.tup [.str v1.1, .int .i64 v1.2]))]) (by kernel_rfl) ⟨⟨trivial, ⟨⟨⟨trivial, ⟨trivial, ⟨trivial, trivial⟩⟩⟩, trivial⟩, rfl, .inl (w20 e1)⟩⟩, trivial⟩ ?_
    refine EvOk.cond (fun h1 => ?_) (fun h1 => ?_)
    · replace h := iteT h1 h
      refine At.gc [1] [] (n := 89) (l := [(1, .ptr [.int .i64 x0.f_Dim, .int .u8 x0.f_Base, .str x0.f_Name])]) (bl := []) (by kernel_rfl) ?_
      obtain ⟨v2, e2, h⟩ := bindE h
      rcases Bool.eq_false_or_eq_true (!v2) with h2 | h2
      · replace h := iteT h2 h
        obtain ⟨v3, e3, h⟩ := bindE h
        refine At.adv [] [(5, { told := [(1, { ans := .val (.bool v2), args := [.agg [.int .i64 x0.f_Dim, .int .u8 x0.f_Base, .str x0.f_Name]] }), (4, { ans := .val (.bool v3), args := [] }), (5, { ans := .yes })], gs := [(4, true)], keep := some ([2], []) })] 400 (ev := .ret) (σ' := mkS 89 [(2, .bool v3)] []) (q := [True ∧ (((True ∧ (True ∧ (True ∧ True))) ∧ True) ∧ ([.agg [.int .i64 x0.f_Dim, .int .u8 x0.f_Base, .str x0.f_Name]] : List D) = [.agg [.int .i64 x0.f_Dim, .int .u8 x0.f_Base, .str x0.f_Name]] ∧ CallAny Try.prog 25 [.agg [.int .i64 x0.f_Dim, .int .u8 x0.f_Base, .str x0.f_Name]] (.bool v2)), ((!v2) == true) = true ∧ (True ∧ ([] : List D) = [] ∧ CallAny Try.prog 10 [] (.bool v3)), True ∧ ((!v2) = true)]) (by kernel_rfl) ⟨⟨trivial, ⟨⟨⟨trivial, ⟨trivial, ⟨trivial, trivial⟩⟩⟩, trivial⟩, rfl, .inl (w25 e2)⟩⟩, ⟨(gB h2 rfl), ⟨trivial, rfl, .inl (w10 e3)⟩⟩, ⟨trivial, h2⟩, trivial⟩ ?_
        refine EvOk.ret ?_
        obtain rfl := someE h
        exact Den.Ends.mk (.inl rfl) (d := .bool v3) (p := (True ∧ True) ∧ (True ∧ True)) (by kernel_rfl) ⟨⟨trivial, trivial⟩, ⟨trivial, trivial⟩⟩ (by kernel_rfl)
      · replace h := iteF h2 h
        refine At.adv [] [(5, { told := [(1, { ans := .val (.bool v2), args := [.agg [.int .i64 x0.f_Dim, .int .u8 x0.f_Base, .str x0.f_Name]] }), (5, { ans := .no })], gs := [(4, false)], keep := some ([2], []) })] 400 (ev := .ret) (σ' := mkS 89 [(2, .bool false)] []) (q := [True ∧ (((True ∧ (True ∧ (True ∧ True))) ∧ True) ∧ ([.agg [.int .i64 x0.f_Dim, .int .u8 x0.f_Base, .str x0.f_Name]] : List D) = [.agg [.int .i64 x0.f_Dim, .int .u8 x0.f_Base, .str x0.f_Name]] ∧ CallAny Try.prog 25 [.agg [.int .i64 x0.f_Dim, .int .u8 x0.f_Base, .str x0.f_Name]] (.bool v2)), ((!v2) == true) = false, True ∧ ((!v2) = false)]) (by kernel_rfl) ⟨⟨trivial, ⟨⟨⟨trivial, ⟨trivial, ⟨trivial, trivial⟩⟩⟩, trivial⟩, rfl, .inl (w25 e2)⟩⟩, gB h2 rfl, ⟨trivial, h2⟩, trivial⟩ ?_
        refine EvOk.ret ?_
        obtain rfl := someE h
        exact Den.Ends.mk (.inl rfl) (d := .bool false) (p := (True ∧ True) ∧ (True ∧ True)) (by kernel_rfl) ⟨⟨trivial, trivial⟩, ⟨trivial, trivial⟩⟩ (by kernel_rfl)
    · replace h := iteF h1 h
      refine At.gc [1, 3] [] (n := 89) (l := [(1, .ptr [.int .i64 x0.f_Dim, .int .u8 x0.f_Base, .str x0.f_Name]), (3, .str v1.1)]) (bl := []) (by kernel_rfl) ?_
      obtain ⟨v4, e4, h⟩ := bindE h
      rcases Bool.eq_false_or_eq_true (!(eqb_T_api_Type ({ f_Dim := v4.1.f_Dim, f_Base := v4.1.f_Base, f_Name := v4.1.f_Name } : T_api_Type) x0)) with h3 | h3
      · replace h := iteT h3 h
        refine At.adv [] [(6, { told := [(1, { ans := .val (.tup [.agg (row_T_api_Type v4.1), .int .i64 v4.2]), args := [.str v1.1] })], gs := [], keep := some ([1, 5, 6], [(5, 5)]) }), (7, { told := [(2, { ans := .val (.bool (!(eqb_T_api_Type ({ f_Dim := v4.1.f_Dim, f_Base := v4.1.f_Base, f_Name := v4.1.f_Name } : T_api_Type) x0))) }), (6, { ans := .yes })], gs := [(4, false), (5, false)], keep := some ([1, 49], []) })] 400 (ev := .cond true c8x7 c8x8 [.seq c8x9]) (σ' := mkS 89 [(1, .ptr [.int .i64 x0.f_Dim, .int .u8 x0.f_Base, .str x0.f_Name]), (49, .bool true)] []) (q := [True ∧ ((True ∧ True) ∧ ([.str v1.1] : List D) = [.str v1.1] ∧ CallAny Try.prog 11 [.str v1.1] (.tup [.agg (row_T_api_Type v4.1), .int .i64 v4.2])), True ∧ (0 ≤ 0 ∧ 0 + ([.int .i64 v4.1.f_Dim, .int .u8 v4.1.f_Base, .str v4.1.f_Name] : List D).length ≤ ([.int .i64 0, .int .u8 0, .str []] : List D).length ∧ ([[.int .i64 v4.1.f_Dim, .int .u8 v4.1.f_Base, .str v4.1.f_Name]] : List (List D)) = ([[.int .i64 v4.1.f_Dim, .int .u8 v4.1.f_Base, .str v4.1.f_Name]] : List (List D))), True ∧ (Try.prog.eqGuardType Try.prog.depth 24 = false ∧ eqq_24 ∧ (!(eqb_T_api_Type ({ f_Dim := v4.1.f_Dim, f_Base := v4.1.f_Base, f_Name := v4.1.f_Name } : T_api_Type) x0)) = (!(eqb_T_api_Type ({ f_Dim := v4.1.f_Dim, f_Base := v4.1.f_Base, f_Name := v4.1.f_Name } : T_api_Type) x0))), ((!(eqb_T_api_Type ({ f_Dim := v4.1.f_Dim, f_Base := v4.1.f_Base, f_Name := v4.1.f_Name } : T_api_Type) x0)) == false) = false, ((!(eqb_T_api_Type ({ f_Dim := v4.1.f_Dim, f_Base := v4.1.f_Base, f_Name := v4.1.f_Name } : T_api_Type) x0)) == false) = false, True ∧ ((!(eqb_T_api_Type ({ f_Dim := v4.1.f_Dim, f_Base := v4.1.f_Base, f_Name := v4.1.f_Name } : T_api_Type) x0)) = true), True, True, True]) (by kernel_rfl) ⟨⟨trivial, ⟨⟨trivial, trivial⟩, rfl, .inl (w11 e4)⟩⟩, ⟨trivial, ⟨Nat.zero_le _, Nat.le_of_ble_eq_true rfl, rfl⟩⟩, ⟨trivial, ⟨eqg_24, eqp_24, rfl⟩⟩, gB h3 rfl, gB h3 rfl, ⟨trivial, h3⟩, trivial, trivial, trivial, trivial⟩ ?_
        refine EvOk.cond (fun _ => ?_) (fun hb => Bool.noConfusion hb)
        refine At.gc [] [] (n := 89) (l := []) (bl := []) (by kernel_rfl) ?_
        refine At.adv [] [(8, { told := [], gs := [], keep := some ([2], []) })] 400 (ev := .ret) (σ' := mkS 89 [(2, .bool false)] []) (q := []) (by kernel_rfl) trivial ?_
        refine EvOk.ret ?_
        obtain rfl := someE h
        exact Den.Ends.mk (.inl rfl) (d := .bool false) (p := (True ∧ True) ∧ (True ∧ True)) (by kernel_rfl) ⟨⟨trivial, trivial⟩, ⟨trivial, trivial⟩⟩ (by kernel_rfl)
      · replace h := iteF h3 h
        rcases Bool.eq_false_or_eq_true (v4.2 != 0) with h4 | h4
        · replace h := iteT h4 h
          refine At.adv [] [(6, { told := [(1, { ans := .val (.tup [.agg (row_T_api_Type v4.1), .int .i64 v4.2]), args := [.str v1.1] })], gs := [], keep := some ([1, 5, 6], [(5, 5)]) }), (7, { told := [(2, { ans := .val (.bool (!(eqb_T_api_Type ({ f_Dim := v4.1.f_Dim, f_Base := v4.1.f_Base, f_Name := v4.1.f_Name } : T_api_Type) x0))) }), (6, { ans := .no }), (11, { ans := .yes })], gs := [(4, true), (5, true), (8, false), (9, false), (10, false)], keep := some ([1, 49], []) })] 400 (ev := .cond true c8x7 c8x8 [.seq c8x9]) (σ' := mkS 89 [(1, .ptr [.int .i64 x0.f_Dim, .int .u8 x0.f_Base, .str x0.f_Name]), (49, .bool true)] []) (q := [True ∧ ((True ∧ True) ∧ ([.str v1.1] : List D) = [.str v1.1] ∧ CallAny Try.prog 11 [.str v1.1] (.tup [.agg (row_T_api_Type v4.1), .int .i64 v4.2])), True ∧ (0 ≤ 0 ∧ 0 + ([.int .i64 v4.1.f_Dim, .int .u8 v4.1.f_Base, .str v4.1.f_Name] : List D).length ≤ ([.int .i64 0, .int .u8 0, .str []] : List D).length ∧ ([[.int .i64 v4.1.f_Dim, .int .u8 v4.1.f_Base, .str v4.1.f_Name]] : List (List D)) = ([[.int .i64 v4.1.f_Dim, .int .u8 v4.1.f_Base, .str v4.1.f_Name]] : List (List D))), True ∧ (Try.prog.eqGuardType Try.prog.depth 24 = false ∧ eqq_24 ∧ (!(eqb_T_api_Type ({ f_Dim := v4.1.f_Dim, f_Base := v4.1.f_Base, f_Name := v4.1.f_Name } : T_api_Type) x0)) = (!(eqb_T_api_Type ({ f_Dim := v4.1.f_Dim, f_Base := v4.1.f_Base, f_Name := v4.1.f_Name } : T_api_Type) x0))), ((!(eqb_T_api_Type ({ f_Dim := v4.1.f_Dim, f_Base := v4.1.f_Base, f_Name := v4.1.f_Name } : T_api_Type) x0)) == false) = true ∧ True, ((!(eqb_T_api_Type ({ f_Dim := v4.1.f_Dim, f_Base := v4.1.f_Base, f_Name := v4.1.f_Name } : T_api_Type) x0)) == false) = true ∧ True, True ∧ ((!(eqb_T_api_Type ({ f_Dim := v4.1.f_Dim, f_Base := v4.1.f_Base, f_Name := v4.1.f_Name } : T_api_Type) x0)) = false), ((v4.2 != 0) == false) = false, ((v4.2 != 0) == false) = false, ((v4.2 != 0) == false) = false, True ∧ ((v4.2 != 0) = true)]) (by kernel_rfl) ⟨⟨trivial, ⟨⟨trivial, trivial⟩, rfl, .inl (w11 e4)⟩⟩, ⟨trivial, ⟨Nat.zero_le _, Nat.le_of_ble_eq_true rfl, rfl⟩⟩, ⟨trivial, ⟨eqg_24, eqp_24, rfl⟩⟩, ⟨(gB h3 rfl), trivial⟩, ⟨(gB h3 rfl), trivial⟩, ⟨trivial, h3⟩, gB h4 rfl, gB h4 rfl, gB h4 rfl, ⟨trivial, h4⟩, trivial⟩ ?_
          refine EvOk.cond (fun _ => ?_) (fun hb => Bool.noConfusion hb)
          refine At.gc [] [] (n := 89) (l := []) (bl := []) (by kernel_rfl) ?_
          refine At.adv [] [(8, { told := [], gs := [], keep := some ([2], []) })] 400 (ev := .ret) (σ' := mkS 89 [(2, .bool false)] []) (q := []) (by kernel_rfl) trivial ?_
          refine EvOk.ret ?_
          obtain rfl := someE h
          exact Den.Ends.mk (.inl rfl) (d := .bool false) (p := (True ∧ True) ∧ (True ∧ True)) (by kernel_rfl) ⟨⟨trivial, trivial⟩, ⟨trivial, trivial⟩⟩ (by kernel_rfl)
        · replace h := iteF h4 h
          obtain ⟨v5, e5, h⟩ := bindE h
          refine At.adv [] [(6, { told := [(1, { ans := .val (.tup [.agg (row_T_api_Type v4.1), .int .i64 v4.2]), args := [.str v1.1] })], gs := [], keep := some ([1, 5, 6], [(5, 5)]) }), (7, { told := [(2, { ans := .val (.bool (!(eqb_T_api_Type ({ f_Dim := v4.1.f_Dim, f_Base := v4.1.f_Base, f_Name := v4.1.f_Name } : T_api_Type) x0))) }), (6, { ans := .no }), (9, { ans := .val (.bool v5), args := [.agg [.int .i64 x0.f_Dim, .int .u8 x0.f_Base, .str x0.f_Name]] }), (11, { ans := .no })], gs := [(4, true), (5, true), (8, true), (9, true), (10, true)], keep := some ([1, 49], []) })] 400 (ev := .cond (!v5) c8x7 c8x8 [.seq c8x9]) (σ' := mkS 89 [(1, .ptr [.int .i64 x0.f_Dim, .int .u8 x0.f_Base, .str x0.f_Name]), (49, .bool (!v5))] []) (q := [True ∧ ((True ∧ True) ∧ ([.str v1.1] : List D) = [.str v1.1] ∧ CallAny Try.prog 11 [.str v1.1] (.tup [.agg (row_T_api_Type v4.1), .int .i64 v4.2])), True ∧ (0 ≤ 0 ∧ 0 + ([.int .i64 v4.1.f_Dim, .int .u8 v4.1.f_Base, .str v4.1.f_Name] : List D).length ≤ ([.int .i64 0, .int .u8 0, .str []] : List D).length ∧ ([[.int .i64 v4.1.f_Dim, .int .u8 v4.1.f_Base, .str v4.1.f_Name]] : List (List D)) = ([[.int .i64 v4.1.f_Dim, .int .u8 v4.1.f_Base, .str v4.1.f_Name]] : List (List D))), True ∧ (Try.prog.eqGuardType Try.prog.depth 24 = false ∧ eqq_24 ∧ (!(eqb_T_api_Type ({ f_Dim := v4.1.f_Dim, f_Base := v4.1.f_Base, f_Name := v4.1.f_Name } : T_api_Type) x0)) = (!(eqb_T_api_Type ({ f_Dim := v4.1.f_Dim, f_Base := v4.1.f_Base, f_Name := v4.1.f_Name } : T_api_Type) x0))), ((!(eqb_T_api_Type ({ f_Dim := v4.1.f_Dim, f_Base := v4.1.f_Base, f_Name := v4.1.f_Name } : T_api_Type) x0)) == false) = true ∧ True, ((!(eqb_T_api_Type ({ f_Dim := v4.1.f_Dim, f_Base := v4.1.f_Base, f_Name := v4.1.f_Name } : T_api_Type) x0)) == false) = true ∧ True, True ∧ ((!(eqb_T_api_Type ({ f_Dim := v4.1.f_Dim, f_Base := v4.1.f_Base, f_Name := v4.1.f_Name } : T_api_Type) x0)) = false), ((v4.2 != 0) == false) = true ∧ True, ((v4.2 != 0) == false) = true ∧ (((True ∧ (True ∧ (True ∧ True))) ∧ True) ∧ ([.agg [.int .i64 x0.f_Dim, .int .u8 x0.f_Base, .str x0.f_Name]] : List D) = [.agg [.int .i64 x0.f_Dim, .int .u8 x0.f_Base, .str x0.f_Name]] ∧ CallAny Try.prog 25 [.agg [.int .i64 x0.f_Dim, .int .u8 x0.f_Base, .str x0.f_Name]] (.bool v5)), ((v4.2 != 0) == false) = true ∧ True, True ∧ ((v4.2 != 0) = false)]) (by kernel_rfl) ⟨⟨trivial, ⟨⟨trivial, trivial⟩, rfl, .inl (w11 e4)⟩⟩, ⟨trivial, ⟨Nat.zero_le _, Nat.le_of_ble_eq_true rfl, rfl⟩⟩, ⟨trivial, ⟨eqg_24, eqp_24, rfl⟩⟩, ⟨(gB h3 rfl), trivial⟩, ⟨(gB h3 rfl), trivial⟩, ⟨trivial, h3⟩, ⟨(gB h4 rfl), trivial⟩, ⟨(gB h4 rfl), ⟨⟨⟨trivial, ⟨trivial, ⟨trivial, trivial⟩⟩⟩, trivial⟩, rfl, .inl (w25 e5)⟩⟩, ⟨(gB h4 rfl), trivial⟩, ⟨trivial, h4⟩, trivial⟩ ?_
          refine EvOk.cond (fun h5 => ?_) (fun h5 => ?_)
          · replace h := iteT h5 h
            refine At.gc [] [] (n := 89) (l := []) (bl := []) (by kernel_rfl) ?_
            refine At.adv [] [(8, { told := [], gs := [], keep := some ([2], []) })] 400 (ev := .ret) (σ' := mkS 89 [(2, .bool false)] []) (q := []) (by kernel_rfl) trivial ?_
            refine EvOk.ret ?_
            obtain rfl := someE h
            exact Den.Ends.mk (.inl rfl) (d := .bool false) (p := (True ∧ True) ∧ (True ∧ True)) (by kernel_rfl) ⟨⟨trivial, trivial⟩, ⟨trivial, trivial⟩⟩ (by kernel_rfl)
          · replace h := iteF h5 h
            refine At.gc [1] [] (n := 89) (l := [(1, .ptr [.int .i64 x0.f_Dim, .int .u8 x0.f_Base, .str x0.f_Name])]) (bl := []) (by kernel_rfl) ?_
            refine At.adv [9] [] 400 (ev := .stop c8x11 [.seq c8x12, .seq c8x13]) (σ' := mkS 89 [(1, .ptr [.int .i64 x0.f_Dim, .int .u8 x0.f_Base, .str x0.f_Name])] []) (q := []) (by kernel_rfl) trivial ?_
            exact (wj8x1 x0)  r h Γ
theorem w8 {x0 : T_api_Type} {r : Bool} (h : m_armaturelaw04_DescRoundTrip x0 = some r) : CallSpec Try.prog 8 [.agg (row_T_api_Type x0)] (.bool r) :=
  CallSpec.at2 b8 (n := 89) (l := [(0, .agg (row_T_api_Type x0))]) (by kernel_rfl) (by kernel_rfl) (by kernel_rfl) (by kernel_rfl) (by kernel_rfl) (Nat.le_of_ble_eq_true (by kernel_rfl)) (fun Γ => we8 x0 r h Γ)

/-! ### armature armatureref04.Element -/
noncomputable def b29 : Code := Try.f29.body.getD .skip
noncomputable def c29x0 : Code := sub1 b29
noncomputable def c29x1 : Code := sub1 c29x0
noncomputable def c29x2 : Code := sub0 c29x1
noncomputable def c29x3 : Code := sub1 c29x2
noncomputable def c29x4 : Code := sub0 c29x3
noncomputable def c29x5 : Code := sub1 c29x3
noncomputable def c29x6 : Code := sub1 c29x1
noncomputable def c29x7 : Code := sub0 c29x0
noncomputable def c29x8 : Code := sub1 c29x7
noncomputable def c29x9 : Code := sub0 c29x8
noncomputable def c29x10 : Code := sub1 c29x8
def m_armatureref04_Element (x0 : T_api_Type) : Option (T_api_Type × Int) :=
  (m_armatureref04_Valid ({ f_Dim := x0.f_Dim, f_Base := x0.f_Base, f_Name := x0.f_Name } : T_api_Type)).bind fun v0 =>
  if (!v0) = true then
    (some (({ f_Dim := 0, f_Base := 0, f_Name := [] } : T_api_Type), 13)) else
  (if (x0.f_Dim == 0) = true then
      (some (({ f_Dim := 0, f_Base := 0, f_Name := [] } : T_api_Type), 1)) else
    ((some (IntKind.wrap .i64 (x0.f_Dim - (1 : Int)))).bind fun v1 =>
      some (({ f_Dim := v1, f_Base := x0.f_Base, f_Name := x0.f_Name } : T_api_Type), 0)))
theorem we29 (x0 : T_api_Type) (r : T_api_Type × Int) (h : m_armatureref04_Element x0 = some r) (Γ : Ctx) : At Try.prog Γ b29 [] (Den.Ends Try.prog Try.f29 (.tup [.agg (row_T_api_Type r.1), .int .i64 r.2])) (mkS 17 [(0, .agg (row_T_api_Type x0))] []) := by
  obtain ⟨v0, e0, h⟩ := bindE h
  refine At.adv [] [(0, { told := [], gs := [], keep := some ([1, 2], [(1, 1), (2, 2)]) }), (1, { told := [(1, { ans := .val (.bool v0), args := [.agg [.int .i64 x0.f_Dim, .int .u8 x0.f_Base, .str x0.f_Name]] })], gs := [], keep := some ([1, 2, 6], [(1, 1), (2, 2)]) })] 400 (ev := .cond (!v0) c29x9 c29x10 [.seq c29x1]) (σ' := mkS 17 [(1, .lptr 1 0 0), (2, .lptr 2 0 0), (6, .bool (!v0))] [(1, { sz := 3, rows := [[.int .i64 x0.f_Dim, .int .u8 x0.f_Base, .str x0.f_Name]], frz := 0, pure := false }), (2, { sz := 3, rows := [[.int .i64 0, .int .u8 0, .str []]], frz := 0, pure := false })]) (q := [True ∧ (((True ∧ (True ∧ (True ∧ True))) ∧ True) ∧ ([.agg [.int .i64 x0.f_Dim, .int .u8 x0.f_Base, .str x0.f_Name]] : List D) = [.agg [.int .i64 x0.f_Dim, .int .u8 x0.f_Base, .str x0.f_Name]] ∧ CallAny Try.prog 32 [.agg [.int .i64 x0.f_Dim, .int .u8 x0.f_Base, .str x0.f_Name]] (.bool v0))]) (by kernel_rfl) ⟨⟨trivial, ⟨⟨⟨trivial, ⟨trivial, ⟨trivial, trivial⟩⟩⟩, trivial⟩, rfl, .inl (w32 e0)⟩⟩, trivial⟩ ?_
  refine EvOk.cond (fun h0 => ?_) (fun h0 => ?_)
  · replace h := iteT h0 h
    refine At.gc [2] [(2, 2)] (n := 17) (l := [(2, .lptr 2 0 0)]) (bl := [(2, { sz := 3, rows := [[.int .i64 0, .int .u8 0, .str []]], frz := 0, pure := false })]) (by kernel_rfl) ?_
    refine At.adv [] [(2, { told := [], gs := [], keep := some ([2, 3], [(2, 2)]) })] 400 (ev := .ret) (σ' := mkS 17 [(2, .lptr 2 0 0), (3, .int .i64 13)] [(2, { sz := 3, rows := [[.int .i64 0, .int .u8 0, .str []]], frz := 0, pure := false })]) (q := [True ∧ (0 ≤ 0 ∧ 0 + ([.int .i64 0, .int .u8 0, .str []] : List D).length ≤ ([.int .i64 0, .int .u8 0, .str []] : List D).length ∧ ([[.int .i64 0, .int .u8 0, .str []]] : List (List D)) = ([[.int .i64 0, .int .u8 0, .str []]] : List (List D)))]) (by kernel_rfl) ⟨⟨trivial, ⟨Nat.zero_le _, Nat.le_of_ble_eq_true rfl, rfl⟩⟩, trivial⟩ ?_
    refine EvOk.ret ?_
    obtain rfl := someE h
    exact Den.Ends.mk (.inl rfl) (d := .tup [.agg [.int .i64 0, .int .u8 0, .str []], .int .i64 13]) (p := (True ∧ (True ∧ True)) ∧ ((True ∧ (True ∧ (True ∧ True))) ∧ (True ∧ True))) (by kernel_rfl) ⟨⟨trivial, ⟨trivial, trivial⟩⟩, ⟨⟨trivial, ⟨trivial, ⟨trivial, trivial⟩⟩⟩, ⟨trivial, trivial⟩⟩⟩ (by kernel_rfl)
  · replace h := iteF h0 h
    refine At.gc [1, 2] [(1, 1), (2, 2)] (n := 17) (l := [(1, .lptr 1 0 0), (2, .lptr 2 0 0)]) (bl := [(1, { sz := 3, rows := [[.int .i64 x0.f_Dim, .int .u8 x0.f_Base, .str x0.f_Name]], frz := 0, pure := false }), (2, { sz := 3, rows := [[.int .i64 0, .int .u8 0, .str []]], frz := 0, pure := false })]) (by kernel_rfl) ?_
    refine At.adv [] [(3, { told := [], gs := [], keep := some ([1, 2, 10], [(1, 1), (2, 2)]) })] 400 (ev := .cond (x0.f_Dim == 0) c29x4 c29x5 [.seq c29x6]) (σ' := mkS 17 [(1, .lptr 1 0 0), (2, .lptr 2 0 0), (10, .bool (x0.f_Dim == 0))] [(1, { sz := 3, rows := [[.int .i64 x0.f_Dim, .int .u8 x0.f_Base, .str x0.f_Name]], frz := 0, pure := false }), (2, { sz := 3, rows := [[.int .i64 0, .int .u8 0, .str []]], frz := 0, pure := false })]) (q := []) (by kernel_rfl) trivial ?_
    refine EvOk.cond (fun h1 => ?_) (fun h1 => ?_)
    · replace h := iteT h1 h
      refine At.gc [2] [(2, 2)] (n := 17) (l := [(2, .lptr 2 0 0)]) (bl := [(2, { sz := 3, rows := [[.int .i64 0, .int .u8 0, .str []]], frz := 0, pure := false })]) (by kernel_rfl) ?_
      refine At.adv [] [(4, { told := [], gs := [], keep := some ([2, 3], [(2, 2)]) })] 400 (ev := .ret) (σ' := mkS 17 [(2, .lptr 2 0 0), (3, .int .i64 1)] [(2, { sz := 3, rows := [[.int .i64 0, .int .u8 0, .str []]], frz := 0, pure := false })]) (q := [True ∧ (0 ≤ 0 ∧ 0 + ([.int .i64 0, .int .u8 0, .str []] : List D).length ≤ ([.int .i64 0, .int .u8 0, .str []] : List D).length ∧ ([[.int .i64 0, .int .u8 0, .str []]] : List (List D)) = ([[.int .i64 0, .int .u8 0, .str []]] : List (List D)))]) (by kernel_rfl) ⟨⟨trivial, ⟨Nat.zero_le _, Nat.le_of_ble_eq_true rfl, rfl⟩⟩, trivial⟩ ?_
      refine EvOk.ret ?_
      obtain rfl := someE h
      exact Den.Ends.mk (.inl rfl) (d := .tup [.agg [.int .i64 0, .int .u8 0, .str []], .int .i64 1]) (p := (True ∧ (True ∧ True)) ∧ ((True ∧ (True ∧ (True ∧ True))) ∧ (True ∧ True))) (by kernel_rfl) ⟨⟨trivial, ⟨trivial, trivial⟩⟩, ⟨⟨trivial, ⟨trivial, ⟨trivial, trivial⟩⟩⟩, ⟨trivial, trivial⟩⟩⟩ (by kernel_rfl)
    · replace h := iteF h1 h
      refine At.gc [1, 2] [(1, 1), (2, 2)] (n := 17) (l := [(1, .lptr 1 0 0), (2, .lptr 2 0 0)]) (bl := [(1, { sz := 3, rows := [[.int .i64 x0.f_Dim, .int .u8 x0.f_Base, .str x0.f_Name]], frz := 0, pure := false }), (2, { sz := 3, rows := [[.int .i64 0, .int .u8 0, .str []]], frz := 0, pure := false })]) (by kernel_rfl) ?_
      obtain ⟨v1, e1, h⟩ := bindE h
      refine At.adv [] [(5, { told := [(2, { ans := .val (.int .i64 v1) })], gs := [], keep := some ([1, 2], [(1, 1), (2, 2)]) }), (6, { told := [], gs := [], keep := some ([2, 3], [(2, 2)]) })] 400 (ev := .ret) (σ' := mkS 17 [(2, .lptr 2 0 0), (3, .int .i64 0)] [(2, { sz := 3, rows := [[.int .i64 v1, .int .u8 x0.f_Base, .str x0.f_Name]], frz := 0, pure := false })]) (q := [True ∧ (IntKind.wrap .i64 (x0.f_Dim - (1 : Int)) = v1), True ∧ (0 ≤ 0 ∧ 0 + ([.int .i64 v1] : List D).length ≤ ([.int .i64 x0.f_Dim, .int .u8 x0.f_Base, .str x0.f_Name] : List D).length ∧ ([[.int .i64 v1, .int .u8 x0.f_Base, .str x0.f_Name]] : List (List D)) = ([[.int .i64 v1, .int .u8 x0.f_Base, .str x0.f_Name]] : List (List D))), True ∧ (0 ≤ 0 ∧ 0 + ([.int .i64 v1, .int .u8 x0.f_Base, .str x0.f_Name] : List D).length ≤ ([.int .i64 0, .int .u8 0, .str []] : List D).length ∧ ([[.int .i64 v1, .int .u8 x0.f_Base, .str x0.f_Name]] : List (List D)) = ([[.int .i64 v1, .int .u8 x0.f_Base, .str x0.f_Name]] : List (List D)))]) (by kernel_rfl) ⟨⟨trivial, someE e1⟩, ⟨trivial, ⟨Nat.zero_le _, Nat.le_of_ble_eq_true rfl, rfl⟩⟩, ⟨trivial, ⟨Nat.zero_le _, Nat.le_of_ble_eq_true rfl, rfl⟩⟩, trivial⟩ ?_
      refine EvOk.ret ?_
      obtain rfl := someE h
      exact Den.Ends.mk (.inl rfl) (d := .tup [.agg [.int .i64 v1, .int .u8 x0.f_Base, .str x0.f_Name], .int .i64 0]) (p := (True ∧ (True ∧ True)) ∧ ((True ∧ (True ∧ (True ∧ True))) ∧ (True ∧ True))) (by kernel_rfl) ⟨⟨trivial, ⟨trivial, trivial⟩⟩, ⟨⟨trivial, ⟨trivial, ⟨trivial, trivial⟩⟩⟩, ⟨trivial, trivial⟩⟩⟩ (by kernel_rfl)
theorem w29 {x0 : T_api_Type} {r : T_api_Type × Int} (h : m_armatureref04_Element x0 = some r) : CallSpec Try.prog 29 [.agg (row_T_api_Type x0)] (.tup [.agg (row_T_api_Type r.1), .int .i64 r.2]) :=
  CallSpec.at2 b29 (n := 17) (l := [(0, .agg (row_T_api_Type x0))]) (by kernel_rfl) (by kernel_rfl) (by kernel_rfl) (by kernel_rfl) (by kernel_rfl) (Nat.le_of_ble_eq_true (by kernel_rfl)) (fun Γ => we29 x0 r h Γ)

/-! ### armature armatureref04.ArrayOf -/
noncomputable def b30 : Code := Try.f30.body.getD .skip
noncomputable def c30x0 : Code := sub1 b30
noncomputable def c30x1 : Code := sub1 c30x0
noncomputable def c30x2 : Code := sub1 c30x1
noncomputable def c30x3 : Code := sub0 c30x2
noncomputable def c30x4 : Code := sub1 c30x3
noncomputable def c30x5 : Code := sub0 c30x4
noncomputable def c30x6 : Code := sub1 c30x4
noncomputable def c30x7 : Code := sub1 c30x2
noncomputable def c30x8 : Code := sub0 c30x1
noncomputable def c30x9 : Code := sub1 c30x8
noncomputable def c30x10 : Code := sub0 c30x9
noncomputable def c30x11 : Code := sub1 c30x9
noncomputable def c30x12 : Code := sub0 c30x0
noncomputable def c30x13 : Code := sub1 c30x12
noncomputable def c30x14 : Code := sub0 c30x13
noncomputable def c30x15 : Code := sub1 c30x13
def m_armatureref04_ArrayOf (x0 : T_api_Type) : Option (T_api_Type × Int) :=
  (m_armatureref04_Valid ({ f_Dim := x0.f_Dim, f_Base := x0.f_Base, f_Name := x0.f_Name } : T_api_Type)).bind fun v0 =>
  if (!v0) = true then
    (some (({ f_Dim := 0, f_Base := 0, f_Name := [] } : T_api_Type), 13)) else
  (if (x0.f_Base == 86) = true then
      (some (({ f_Dim := 0, f_Base := 0, f_Name := [] } : T_api_Type), 1)) else
    (if (x0.f_Dim == 8) = true then
        (some (({ f_Dim := 0, f_Base := 0, f_Name := [] } : T_api_Type), 9)) else
      ((some (IntKind.wrap .i64 (x0.f_Dim + (1 : Int)))).bind fun v1 =>
        some (({ f_Dim := v1, f_Base := x0.f_Base, f_Name := x0.f_Name } : T_api_Type), 0))))
theorem we30 (x0 : T_api_Type) (r : T_api_Type × Int) (h : m_armatureref04_ArrayOf x0 = some r) (Γ : Ctx) : At Try.prog Γ b30 [] (Den.Ends Try.prog Try.f30 (.tup [.agg (row_T_api_Type r.1), .int .i64 r.2])) (mkS 21 [(0, .agg (row_T_api_Type x0))] []) := by
  obtain ⟨v0, e0, h⟩ := bindE h
  refine At.adv [] [(0, { told := [], gs := [], keep := some ([1, 2], [(1, 1), (2, 2)]) }), (1, { told := [(1, { ans := .val (.bool v0), args := [.agg [.int .i64 x0.f_Dim, .int .u8 x0.f_Base, .str x0.f_Name]] })], gs := [], keep := some ([1, 2, 6], [(1, 1), (2, 2)]) })] 400 (ev := .cond (!v0) c30x14 c30x15 [.seq c30x1]) (σ' := mkS 21 [(1, .lptr 1 0 0), (2, .lptr 2 0 0), (6, .bool (!v0))] [(1, { sz := 3, rows := [[.int .i64 x0.f_Dim, .int .u8 x0.f_Base, .str x0.f_Name]], frz := 0, pure := false }), (2, { sz := 3, rows := [[.int .i64 0, .int .u8 0, .str []]], frz := 0, pure := false })]) (q := [True ∧ (((True ∧ (True ∧ (True ∧ True))) ∧ True) ∧ ([.agg [.int .i64 x0.f_Dim, .int .u8 x0.f_Base, .str x0.f_Name]] : List D) = [.agg [.int .i64 x0.f_Dim, .int .u8 x0.f_Base, .str x0.f_Name]] ∧ CallAny Try.prog 32 [.agg [.int .i64 x0.f_Dim, .int .u8 x0.f_Base, .str x0.f_Name]] (.bool v0))]) (by kernel_rfl) ⟨⟨trivial, ⟨⟨⟨trivial, ⟨trivial, ⟨trivial, trivial⟩⟩⟩, trivial⟩, rfl, .inl (w32 e0)⟩⟩, trivial⟩ ?_
  refine EvOk.cond (fun h0 => ?_) (fun h0 => ?_)
  · replace h := iteT h0 h
    refine At.gc [2] [(2, 2)] (n := 21) (l := [(2, .lptr 2 0 0)]) (bl := [(2, { sz := 3, rows := [[.int .i64 0, .int .u8 0, .str []]], frz := 0, pure := false })]) (by kernel_rfl) ?_
    refine At.adv [] [(2, { told := [], gs := [], keep := some ([2, 3], [(2, 2)]) })] 400 (ev := .ret) (σ' := mkS 21 [(2, .lptr 2 0 0), (3, .int .i64 13)] [(2, { sz := 3, rows := [[.int .i64 0, .int .u8 0, .str []]], frz := 0, pure := false })]) (q := [True ∧ (0 ≤ 0 ∧ 0 + ([.int .i64 0, .int .u8 0, .str []] : List D).length ≤ ([.int .i64 0, .int .u8 0, .str []] : List D).length ∧ ([[.int .i64 0, .int .u8 0, .str []]] : List (List D)) = ([[.int .i64 0, .int .u8 0, .str []]] : List (List D)))]) (by kernel_rfl) ⟨⟨trivial, ⟨Nat.zero_le _, Nat.le_of_ble_eq_true rfl, rfl⟩⟩, trivial⟩ ?_
    refine EvOk.ret ?_
    obtain rfl := someE h
    exact Den.Ends.mk (.inl rfl) (d := .tup [.agg [.int .i64 0, .int .u8 0, .str []], .int .i64 13]) (p := (True ∧ (True ∧ True)) ∧ ((True ∧ (True ∧ (True ∧ True))) ∧ (True ∧ True))) (by kernel_rfl) ⟨⟨trivial, ⟨trivial, trivial⟩⟩, ⟨⟨trivial, ⟨trivial, ⟨trivial, trivial⟩⟩⟩, ⟨trivial, trivial⟩⟩⟩ (by kernel_rfl)
  · replace h := iteF h0 h
    refine At.gc [1, 2] [(1, 1), (2, 2)] (n := 21) (l := [(1, .lptr 1 0 0), (2, .lptr 2 0 0)]) (bl := [(1, { sz := 3, rows := [[.int .i64 x0.f_Dim, .int .u8 x0.f_Base, .str x0.f_Name]], frz := 0, pure := false }), (2, { sz := 3, rows := [[.int .i64 0, .int .u8 0, .str []]], frz := 0, pure := false })]) (by kernel_rfl) ?_
    refine At.adv [] [(3, { told := [], gs := [], keep := some ([1, 2, 10], [(1, 1), (2, 2)]) })] 400 (ev := .cond (x0.f_Base == 86) c30x10 c30x11 [.seq c30x2]) (σ' := mkS 21 [(1, .lptr 1 0 0), (2, .lptr 2 0 0), (10, .bool (x0.f_Base == 86))] [(1, { sz := 3, rows := [[.int .i64 x0.f_Dim, .int .u8 x0.f_Base, .str x0.f_Name]], frz := 0, pure := false }), (2, { sz := 3, rows := [[.int .i64 0, .int .u8 0, .str []]], frz := 0, pure := false })]) (q := []) (by kernel_rfl) trivial ?_
    refine EvOk.cond (fun h1 => ?_) (fun h1 => ?_)
    · replace h := iteT h1 h
      refine At.gc [2] [(2, 2)] (n := 21) (l := [(2, .lptr 2 0 0)]) (bl := [(2, { sz := 3, rows := [[.int .i64 0, .int .u8 0, .str []]], frz := 0, pure := false })]) (by kernel_rfl) ?_
      refine At.adv [] [(4, { told := [], gs := [], keep := some ([2, 3], [(2, 2)]) })] 400 (ev := .ret) (σ' := mkS 21 [(2, .lptr 2 0 0), (3, .int .i64 1)] [(2, { sz := 3, rows := [[.int .i64 0, .int .u8 0, .str []]], frz := 0, pure := false })]) (q := [True ∧ (0 ≤ 0 ∧ 0 + ([.int .i64 0, .int .u8 0, .str []] : List D).length ≤ ([.int .i64 0, .int .u8 0, .str []] : List D).length ∧ ([[.int .i64 0, .int .u8 0, .str []]] : List (List D)) = ([[.int .i64 0, .int .u8 0, .str []]] : List (List D)))]) (by kernel_rfl) ⟨⟨trivial, ⟨Nat.zero_le _, Nat.le_of_ble_eq_true rfl, rfl⟩⟩, trivial⟩ ?_
      refine EvOk.ret ?_
      obtain rfl := someE h
      exact Den.Ends.mk (.inl rfl) (d := .tup [.agg [.int .i64 0, .int .u8 0, .str []], .int .i64 1]) (p := (True ∧ (True ∧ True)) ∧ ((True ∧ (True ∧ (True ∧ True))) ∧ (True ∧ True))) (by kernel_rfl) ⟨⟨trivial, ⟨trivial, trivial⟩⟩, ⟨⟨trivial, ⟨trivial, ⟨trivial, trivial⟩⟩⟩, ⟨trivial, trivial⟩⟩⟩ (by kernel_rfl)
    · replace h := iteF h1 h
      refine At.gc [1, 2] [(1, 1), (2, 2)] (n := 21) (l := [(1, .lptr 1 0 0), (2, .lptr 2 0 0)]) (bl := [(1, { sz := 3, rows := [[.int .i64 x0.f_Dim, .int .u8 x0.f_Base, .str x0.f_Name]], frz := 0, pure := false }), (2, { sz := 3, rows := [[.int .i64 0, .int .u8 0, .str []]], frz := 0, pure := false })]) (by kernel_rfl) ?_
      refine At.adv [] [(5, { told := [], gs := [], keep := some ([1, 2, 14], [(1, 1), (2, 2)]) })] 400 (ev := .cond (x0.f_Dim == 8) c30x5 c30x6 [.seq c30x7]) (σ' := mkS 21 [(1, .lptr 1 0 0), (2, .lptr 2 0 0), (14, .bool (x0.f_Dim == 8))] [(1, { sz := 3, rows := [[.int .i64 x0.f_Dim, .int .u8 x0.f_Base, .str x0.f_Name]], frz := 0, pure := false }), (2, { sz := 3, rows := [[.int .i64 0, .int .u8 0, .str []]], frz := 0, pure := false })]) (q := []) (by kernel_rfl) trivial ?_
      refine EvOk.cond (fun h2 => ?_) (fun h2 => ?_)
      · replace h := iteT h2 h
        refine At.gc [2] [(2, 2)] (n := 21) (l := [(2, .lptr 2 0 0)]) (bl := [(2, { sz := 3, rows := [[.int .i64 0, .int .u8 0, .str []]], frz := 0, pure := false })]) (by kernel_rfl) ?_
        refine At.adv [] [(6, { told := [], gs := [], keep := some ([2, 3], [(2, 2)]) })] 400 (ev := .ret) (σ' := mkS 21 [(2, .lptr 2 0 0), (3, .int .i64 9)] [(2, { sz := 3, rows := [[.int .i64 0, .int .u8 0, .str []]], frz := 0, pure := false })]) (q := [True ∧ (0 ≤ 0 ∧ 0 + ([.int .i64 0, .int .u8 0, .str []] : List D).length ≤ ([.int .i64 0, .int .u8 0, .str []] : List D).length ∧ ([[.int .i64 0, .int .u8 0, .str []]] : List (List D)) = ([[.int .i64 0, .int .u8 0, .str []]] : List (List D)))]) (by kernel_rfl) ⟨⟨trivial, ⟨Nat.zero_le _, Nat.le_of_ble_eq_true rfl, rfl⟩⟩, trivial⟩ ?_
        refine EvOk.ret ?_
        obtain rfl := someE h
        exact Den.Ends.mk (.inl rfl) (d := .tup [.agg [.int .i64 0, .int .u8 0, .str []], .int .i64 9]) (p := (True ∧ (True ∧ True)) ∧ ((True ∧ (True ∧ (True ∧ True))) ∧ (True ∧ True))) (by kernel_rfl) ⟨⟨trivial, ⟨trivial, trivial⟩⟩, ⟨⟨trivial, ⟨trivial, ⟨trivial, trivial⟩⟩⟩, ⟨trivial, trivial⟩⟩⟩ (by kernel_rfl)
      · replace h := iteF h2 h
        refine At.gc [1, 2] [(1, 1), (2, 2)] (n := 21) (l := [(1, .lptr 1 0 0), (2, .lptr 2 0 0)]) (bl := [(1, { sz := 3, rows := [[.int .i64 x0.f_Dim, .int .u8 x0.f_Base, .str x0.f_Name]], frz := 0, pure := false }), (2, { sz := 3, rows := [[.int .i64 0, .int .u8 0, .str []]], frz := 0, pure := false })]) (by kernel_rfl) ?_
        obtain ⟨v1, e1, h⟩ := bindE h
        refine At.adv [] [(7, { told := [(2, { ans := .val (.int .i64 v1) })], gs := [], keep := some ([1, 2], [(1, 1), (2, 2)]) }), (8, { told := [], gs := [], keep := some ([2, 3], [(2, 2)]) })] 400 (ev := .ret) (σ' := mkS 21 [(2, .lptr 2 0 0), (3, .int .i64 0)] [(2, { sz := 3, rows := [[.int .i64 v1, .int .u8 x0.f_Base, .str x0.f_Name]], frz := 0, pure := false })]) (q := [True ∧ (IntKind.wrap .i64 (x0.f_Dim + (1 : Int)) = v1), True ∧ (0 ≤ 0 ∧ 0 + ([.int .i64 v1] : List D).length ≤ ([.int .i64 x0.f_Dim, .int .u8 x0.f_Base, .str x0.f_Name] : List D).length ∧ ([[.int .i64 v1, .int .u8 x0.f_Base, .str x0.f_Name]] : List (List D)) = ([[.int .i64 v1, .int .u8 x0.f_Base, .str x0.f_Name]] : List (List D))), True ∧ (0 ≤ 0 ∧ 0 + ([.int .i64 v1, .int .u8 x0.f_Base, .str x0.f_Name] : List D).length ≤ ([.int .i64 0, .int .u8 0, .str []] : List D).length ∧ ([[.int .i64 v1, .int .u8 x0.f_Base, .str x0.f_Name]] : List (List D)) = ([[.int .i64 v1, .int .u8 x0.f_Base, .str x0.f_Name]] : List (List D)))]) (by kernel_rfl) ⟨⟨trivial, someE e1⟩, ⟨trivial, ⟨Nat.zero_le _, Nat.le_of_ble_eq_true rfl, rfl⟩⟩, ⟨trivial, ⟨Nat.zero_le _, Nat.le_of_ble_eq_true rfl, rfl⟩⟩, trivial⟩ ?_
        refine EvOk.ret ?_
        obtain rfl := someE h
        exact Den.Ends.mk (.inl rfl) (d := .tup [.agg [.int .i64 v1, .int .u8 x0.f_Base, .str x0.f_Name], .int .i64 0]) (p := (True ∧ (True ∧ True)) ∧ ((True ∧ (True ∧ (True ∧ True))) ∧ (True ∧ True))) (by kernel_rfl) ⟨⟨trivial, ⟨trivial, trivial⟩⟩, ⟨⟨trivial, ⟨trivial, ⟨trivial, trivial⟩⟩⟩, ⟨trivial, trivial⟩⟩⟩ (by kernel_rfl)
theorem w30 {x0 : T_api_Type} {r : T_api_Type × Int} (h : m_armatureref04_ArrayOf x0 = some r) : CallSpec Try.prog 30 [.agg (row_T_api_Type x0)] (.tup [.agg (row_T_api_Type r.1), .int .i64 r.2]) :=
  CallSpec.at2 b30 (n := 21) (l := [(0, .agg (row_T_api_Type x0))]) (by kernel_rfl) (by kernel_rfl) (by kernel_rfl) (by kernel_rfl) (by kernel_rfl) (Nat.le_of_ble_eq_true (by kernel_rfl)) (fun Γ => we30 x0 r h Γ)

/-! ### armature armatureref04.FormatClassConstant -/
noncomputable def b31 : Code := Try.f31.body.getD .skip
noncomputable def c31x0 : Code := sub1 b31
noncomputable def c31x1 : Code := sub1 c31x0
noncomputable def c31x2 : Code := sub1 c31x1
noncomputable def c31x3 : Code := sub0 c31x2
noncomputable def c31x4 : Code := sub0 c31x3
noncomputable def c31x5 : Code := sub1 c31x3
noncomputable def c31x6 : Code := sub1 c31x2
noncomputable def c31x7 : Code := sub0 c31x1
noncomputable def c31x8 : Code := sub1 c31x7
noncomputable def c31x9 : Code := sub0 c31x8
noncomputable def c31x10 : Code := sub1 c31x8
noncomputable def c31x11 : Code := sub0 c31x0
noncomputable def c31x12 : Code := sub1 c31x11
noncomputable def c31x13 : Code := sub0 c31x12
noncomputable def c31x14 : Code := sub1 c31x12
noncomputable def c31x15 : Code := sub0 c31x5
noncomputable def c31x16 : Code := sub1 c31x5
def j31x1 (x0 : T_api_Type) : Option ((List UInt8) × Int) :=
  if (x0.f_Dim == 0) = true then
    (some (x0.f_Name, 0)) else
  ((m_armatureref04_Format x0).bind fun v1 =>
    some (v1.1, v1.2))
def m_armatureref04_FormatClassConstant (x0 : T_api_Type) : Option ((List UInt8) × Int) :=
  (m_armatureref04_Valid x0).bind fun v0 =>
  if (!v0) = true then
    (some ([], 13)) else
  (if (x0.f_Dim == 0) = true then (if (x0.f_Base != 76) = true then
      (some ([], 1)) else
    ((j31x1 x0) )) else
    ((j31x1 x0) ))
theorem wj31x1 (x0 : T_api_Type) (r : (List UInt8) × Int) (h : (j31x1 x0)  = some r) (Γ : Ctx) : EvOk Try.prog Γ (Den.Ends Try.prog Try.f31 (.tup [.str r.1, .int .i64 r.2])) (mkS 24 [(1, .ptr [.int .i64 x0.f_Dim, .int .u8 x0.f_Base, .str x0.f_Name])] []) (.stop c31x4 [.seq c31x5, .seq c31x6]) := by
  refine EvOk.stop ?_
  refine At.adv [] [(5, { told := [], gs := [], keep := some ([1, 17], []) })] 400 (ev := .cond (x0.f_Dim == 0) c31x15 c31x16 [.seq c31x6]) (σ' := mkS 24 [(1, .ptr [.int .i64 x0.f_Dim, .int .u8 x0.f_Base, .str x0.f_Name]), (17, .bool (x0.f_Dim == 0))] []) (q := []) (by kernel_rfl) trivial ?_
  refine EvOk.cond (fun h3 => ?_) (fun h3 => ?_)
  · replace h := iteT h3 h
    refine At.gc [1] [] (n := 24) (l := [(1, .ptr [.int .i64 x0.f_Dim, .int .u8 x0.f_Base, .str x0.f_Name])]) (bl := []) (by kernel_rfl) ?_
    refine At.adv [] [(6, { told := [], gs := [], keep := some ([2, 3], []) })] 400 (ev := .ret) (σ' := mkS 24 [(2, .str x0.f_Name), (3, .int .i64 0)] []) (q := []) (by kernel_rfl) trivial ?_
    refine EvOk.ret ?_
    obtain rfl := someE h
    exact Den.Ends.mk (.inl rfl) (d := .tup [.str x0.f_Name, .int .i64 0]) (p := (True ∧ (True ∧ True)) ∧ (True ∧ (True ∧ True))) (by kernel_rfl) ⟨⟨trivial, ⟨trivial, trivial⟩⟩, ⟨trivial, ⟨trivial, trivial⟩⟩⟩ (by kernel_rfl)
  · replace h := iteF h3 h
    refine At.gc [1] [] (n := 24) (l := [(1, .ptr [.int .i64 x0.f_Dim, .int .u8 x0.f_Base, .str x0.f_Name])]) (bl := []) (by kernel_rfl) ?_
    obtain ⟨v1, e1, h⟩ := bindE h
    refine At.adv [] [(7, { told := [(1, { ans := .val (.tup [.str v1.1, .int .i64 v1.2]), args := [.agg [.int .i64 x0.f_Dim, .int .u8 x0.f_Base, .str x0.f_Name]] })], gs := [], keep := some ([2, 3], []) })] 400 (ev := .ret) (σ' := mkS 24 [(2, .str v1.1), (3, .int .i64 v1.2)] []) (q := [True ∧ (((True ∧ (True ∧ (True ∧ True))) ∧ True) ∧ ([.agg [.int .i64 x0.f_Dim, .int .u8 x0.f_Base, .str x0.f_Name]] : List D) = [.agg [.int .i64 x0.f_Dim, .int .u8 x0.f_Base, .str x0.f_Name]] ∧ CallAny Try.prog 28 [.agg [.int .i64 x0.f_Dim, .int .u8 x0.f_Base, .str x0.f_Name]] (.tup [.str v1.1, .int .i64 v1.2]))]) (by kernel_rfl) ⟨⟨trivial, ⟨⟨⟨trivial, ⟨trivial, ⟨trivial, trivial⟩⟩⟩, trivial⟩, rfl, .inl (w28 e1)⟩⟩, trivial⟩ ?_
    refine EvOk.ret ?_
    obtain rfl := someE h
    exact Den.Ends.mk (.inl rfl) (d := .tup [.str v1.1, .int .i64 v1.2]) (p := (True ∧ (True ∧ True)) ∧ (True ∧ (True ∧ True))) (by kernel_rfl) ⟨⟨trivial, ⟨trivial, trivial⟩⟩, ⟨trivial, ⟨trivial, trivial⟩⟩⟩ (by kernel_rfl)
theorem we31 (x0 : T_api_Type) (r : (List UInt8) × Int) (h : m_armatureref04_FormatClassConstant x0 = some r) (Γ : Ctx) : At Try.prog Γ b31 [] (Den.Ends Try.prog Try.f31 (.tup [.str r.1, .int .i64 r.2])) (mkS 24 [(0, .agg (row_T_api_Type x0))] []) := by
  obtain ⟨v0, e0, h⟩ := bindE h
  refine At.adv [] [(0, { told := [(0, { ro := true })], gs := [], keep := some ([1], []) }), (1, { told := [(1, { ans := .val (.bool v0), args := [.agg [.int .i64 x0.f_Dim, .int .u8 x0.f_Base, .str x0.f_Name]] })], gs := [], keep := some ([1, 6], []) })] 400 (ev := .cond (!v0) c31x13 c31x14 [.seq c31x1]) (σ' := mkS 24 [(1, .ptr [.int .i64 x0.f_Dim, .int .u8 x0.f_Base, .str x0.f_Name]), (6, .bool (!v0))] []) (q := [True ∧ (((True ∧ (True ∧ (True ∧ True))) ∧ True) ∧ ([.agg [.int .i64 x0.f_Dim, .int .u8 x0.f_Base, .str x0.f_Name]] : List D) = [.agg [.int .i64 x0.f_Dim, .int .u8 x0.f_Base, .str x0.f_Name]] ∧ CallAny Try.prog 32 [.agg [.int .i64 x0.f_Dim, .int .u8 x0.f_Base, .str x0.f_Name]] (.bool v0))]) (by kernel_rfl) ⟨⟨trivial, ⟨⟨⟨trivial, ⟨trivial, ⟨trivial, trivial⟩⟩⟩, trivial⟩, rfl, .inl (w32 e0)⟩⟩, trivial⟩ ?_
  refine EvOk.cond (fun h0 => ?_) (fun h0 => ?_)
  · replace h := iteT h0 h
    refine At.gc [] [] (n := 24) (l := []) (bl := []) (by kernel_rfl) ?_
    refine At.adv [] [(2, { told := [], gs := [], keep := some ([2, 3], []) })] 400 (ev := .ret) (σ' := mkS 24 [(2, .str []), (3, .int .i64 13)] []) (q := []) (by kernel_rfl) trivial ?_
    refine EvOk.ret ?_
    obtain rfl := someE h
    exact Den.Ends.mk (.inl rfl) (d := .tup [.str [], .int .i64 13]) (p := (True ∧ (True ∧ True)) ∧ (True ∧ (True ∧ True))) (by kernel_rfl) ⟨⟨trivial, ⟨trivial, trivial⟩⟩, ⟨trivial, ⟨trivial, trivial⟩⟩⟩ (by kernel_rfl)
  · replace h := iteF h0 h
    refine At.gc [1] [] (n := 24) (l := [(1, .ptr [.int .i64 x0.f_Dim, .int .u8 x0.f_Base, .str x0.f_Name])]) (bl := []) (by kernel_rfl) ?_
    rcases Bool.eq_false_or_eq_true (x0.f_Dim == 0) with h1 | h1
    · replace h := iteT h1 h
      refine At.adv [] [(3, { told := [(7, { ans := .yes })], gs := [(4, true), (5, true), (6, true)], keep := some ([1, 14], []) })] 400 (ev := .cond (x0.f_Base != 76) c31x9 c31x10 [.seq c31x2]) (σ' := mkS 24 [(1, .ptr [.int .i64 x0.f_Dim, .int .u8 x0.f_Base, .str x0.f_Name]), (14, .bool (x0.f_Base != 76))] []) (q := [((x0.f_Dim == 0) == true) = true ∧ True, ((x0.f_Dim == 0) == true) = true ∧ True, ((x0.f_Dim == 0) == true) = true ∧ True, True ∧ ((x0.f_Dim == 0) = true)]) (by kernel_rfl) ⟨⟨(gB h1 rfl), trivial⟩, ⟨(gB h1 rfl), trivial⟩, ⟨(gB h1 rfl), trivial⟩, ⟨trivial, h1⟩, trivial⟩ ?_
      refine EvOk.cond (fun h2 => ?_) (fun h2 => ?_)
      · replace h := iteT h2 h
        refine At.gc [] [] (n := 24) (l := []) (bl := []) (by kernel_rfl) ?_
        refine At.adv [] [(4, { told := [], gs := [], keep := some ([2, 3], []) })] 400 (ev := .ret) (σ' := mkS 24 [(2, .str []), (3, .int .i64 1)] []) (q := []) (by kernel_rfl) trivial ?_
        refine EvOk.ret ?_
        obtain rfl := someE h
        exact Den.Ends.mk (.inl rfl) (d := .tup [.str [], .int .i64 1]) (p := (True ∧ (True ∧ True)) ∧ (True ∧ (True ∧ True))) (by kernel_rfl) ⟨⟨trivial, ⟨trivial, trivial⟩⟩, ⟨trivial, ⟨trivial, trivial⟩⟩⟩ (by kernel_rfl)
      · replace h := iteF h2 h
        refine At.gc [1] [] (n := 24) (l := [(1, .ptr [.int .i64 x0.f_Dim, .int .u8 x0.f_Base, .str x0.f_Name])]) (bl := []) (by kernel_rfl) ?_
        refine At.adv [5] [] 400 (ev := .stop c31x4 [.seq c31x5, .seq c31x6]) (σ' := mkS 24 [(1, .ptr [.int .i64 x0.f_Dim, .int .u8 x0.f_Base, .str x0.f_Name])] []) (q := []) (by kernel_rfl) trivial ?_
        exact (wj31x1 x0)  r h Γ
    · replace h := iteF h1 h
      refine At.adv [] [(3, { told := [(7, { ans := .no })], gs := [(4, false), (5, false), (6, false)], keep := some ([1, 14], []) })] 400 (ev := .cond false c31x9 c31x10 [.seq c31x2]) (σ' := mkS 24 [(1, .ptr [.int .i64 x0.f_Dim, .int .u8 x0.f_Base, .str x0.f_Name]), (14, .bool false)] []) (q := [((x0.f_Dim == 0) == true) = false, ((x0.f_Dim == 0) == true) = false, ((x0.f_Dim == 0) == true) = false, True ∧ ((x0.f_Dim == 0) = false)]) (by kernel_rfl) ⟨gB h1 rfl, gB h1 rfl, gB h1 rfl, ⟨trivial, h1⟩, trivial⟩ ?_
      refine EvOk.cond (fun hb => Bool.noConfusion hb) (fun _ => ?_)
      refine At.gc [1] [] (n := 24) (l := [(1, .ptr [.int .i64 x0.f_Dim, .int .u8 x0.f_Base, .str x0.f_Name])]) (bl := []) (by kernel_rfl) ?_
      refine At.adv [5] [] 400 (ev := .stop c31x4 [.seq c31x5, .seq c31x6]) (σ' := mkS 24 [(1, .ptr [.int .i64 x0.f_Dim, .int .u8 x0.f_Base, .str x0.f_Name])] []) (q := []) (by kernel_rfl) trivial ?_
      exact (wj31x1 x0)  r h Γ
theorem w31 {x0 : T_api_Type} {r : (List UInt8) × Int} (h : m_armatureref04_FormatClassConstant x0 = some r) : CallSpec Try.prog 31 [.agg (row_T_api_Type x0)] (.tup [.str r.1, .int .i64 r.2]) :=
  CallSpec.at2 b31 (n := 24) (l := [(0, .agg (row_T_api_Type x0))]) (by kernel_rfl) (by kernel_rfl) (by kernel_rfl) (by kernel_rfl) (by kernel_rfl) (Nat.le_of_ble_eq_true (by kernel_rfl)) (fun Γ => we31 x0 r h Γ)

/-! ### armature desc.Kind -/
noncomputable def b33 : Code := Try.f33.body.getD .skip
noncomputable def c33x0 : Code := sub1 b33
noncomputable def c33x1 : Code := sub0 c33x0
noncomputable def c33x2 : Code := sub0 c33x1
noncomputable def c33x3 : Code := sub1 c33x2
noncomputable def c33x4 : Code := sub0 c33x3
noncomputable def c33x5 : Code := sub1 c33x3
noncomputable def c33x6 : Code := sub1 c33x0
noncomputable def c33x7 : Code := sub0 c33x5
noncomputable def c33x8 : Code := sub1 c33x5
noncomputable def c33x9 : Code := sub0 c33x8
noncomputable def c33x10 : Code := sub1 c33x8
noncomputable def c33x11 : Code := sub0 c33x10
noncomputable def c33x12 : Code := sub1 c33x10
noncomputable def c33x13 : Code := sub0 c33x12
noncomputable def c33x14 : Code := sub1 c33x12
def j33x2 (x0 : T_api_Type) : Option (Int) :=
  if (x0.f_Base == 73) = true then
    (some 1) else
  (some 2)
def j33x1 (x0 : T_api_Type) : Option (Int) :=
  if (decide (x0.f_Dim > 0)) = true then (some 3) else
  (if (x0.f_Base == 76) = true then
    (some 3) else
  ((j33x2 x0) ))
def m_desc_Kind (x0 : T_api_Type) : Option (Int) :=
  (m_desc_Valid x0).bind fun v0 =>
  if (!v0) = true then (some 0) else
  (if (x0.f_Base == 86) = true then
    (some 0) else
  ((j33x1 x0) ))
theorem wj33x2 (x0 : T_api_Type) (r : Int) (h : (j33x2 x0)  = some r) (Γ : Ctx) : EvOk Try.prog Γ (Den.Ends Try.prog Try.f33 (.int .i64 r)) (mkS 25 [(1, .ptr [.int .i64 x0.f_Dim, .int .u8 x0.f_Base, .str x0.f_Name])] []) (.stop c33x11 [.seq c33x12, .blk 0, .seq c33x6]) := by
  refine EvOk.stop ?_
  refine At.adv [] [(5, { told := [], gs := [], keep := some ([21], []) })] 400 (ev := .cond (x0.f_Base == 73) c33x13 c33x14 [.blk 0, .seq c33x6]) (σ' := mkS 25 [(21, .bool (x0.f_Base == 73))] []) (q := []) (by kernel_rfl) trivial ?_
  refine EvOk.cond (fun h4 => ?_) (fun h4 => ?_)
  · replace h := iteT h4 h
    refine At.gc [] [] (n := 25) (l := []) (bl := []) (by kernel_rfl) ?_
    refine At.adv [] [(6, { told := [], gs := [], keep := some ([2], []) })] 400 (ev := .ret) (σ' := mkS 25 [(2, .int .i64 1)] []) (q := []) (by kernel_rfl) trivial ?_
    refine EvOk.ret ?_
    obtain rfl := someE h
    exact Den.Ends.mk (.inl rfl) (d := .int .i64 1) (p := (True ∧ True) ∧ (True ∧ True)) (by kernel_rfl) ⟨⟨trivial, trivial⟩, ⟨trivial, trivial⟩⟩ (by kernel_rfl)
  · replace h := iteF h4 h
    refine At.gc [] [] (n := 25) (l := []) (bl := []) (by kernel_rfl) ?_
    refine At.adv [] [(7, { told := [], gs := [], keep := some ([2], []) })] 400 (ev := .ret) (σ' := mkS 25 [(2, .int .i64 2)] []) (q := []) (by kernel_rfl) trivial ?_
    refine EvOk.ret ?_
    obtain rfl := someE h
    exact Den.Ends.mk (.inl rfl) (d := .int .i64 2) (p := (True ∧ True) ∧ (True ∧ True)) (by kernel_rfl) ⟨⟨trivial, trivial⟩, ⟨trivial, trivial⟩⟩ (by kernel_rfl)
theorem wj33x1 (x0 : T_api_Type) (r : Int) (h : (j33x1 x0)  = some r) (Γ : Ctx) : EvOk Try.prog Γ (Den.Ends Try.prog Try.f33 (.int .i64 r)) (mkS 25 [(1, .ptr [.int .i64 x0.f_Dim, .int .u8 x0.f_Base, .str x0.f_Name])] []) (.stop c33x7 [.seq c33x8, .blk 0, .seq c33x6]) := by
  refine EvOk.stop ?_
  rcases Bool.eq_false_or_eq_true (decide (x0.f_Dim > 0)) with h2 | h2
  · replace h := iteT h2 h
    refine At.adv [] [(3, { told := [(7, { ans := .yes })], gs := [(4, false), (5, false), (6, false)], keep := some ([1, 12], []) })] 400 (ev := .cond true c33x9 c33x10 [.blk 0, .seq c33x6]) (σ' := mkS 25 [(1, .ptr [.int .i64 x0.f_Dim, .int .u8 x0.f_Base, .str x0.f_Name]), (12, .bool true)] []) (q := [((decide (x0.f_Dim > 0)) == false) = false, ((decide (x0.f_Dim > 0)) == false) = false, ((decide (x0.f_Dim > 0)) == false) = false, True ∧ ((decide (x0.f_Dim > 0)) = true)]) (by kernel_rfl) ⟨gB h2 rfl, gB h2 rfl, gB h2 rfl, ⟨trivial, h2⟩, trivial⟩ ?_
    refine EvOk.cond (fun _ => ?_) (fun hb => Bool.noConfusion hb)
    refine At.gc [] [] (n := 25) (l := []) (bl := []) (by kernel_rfl) ?_
    refine At.adv [] [(4, { told := [], gs := [], keep := some ([2], []) })] 400 (ev := .ret) (σ' := mkS 25 [(2, .int .i64 3)] []) (q := []) (by kernel_rfl) trivial ?_
    refine EvOk.ret ?_
    obtain rfl := someE h
    exact Den.Ends.mk (.inl rfl) (d := .int .i64 3) (p := (True ∧ True) ∧ (True ∧ True)) (by kernel_rfl) ⟨⟨trivial, trivial⟩, ⟨trivial, trivial⟩⟩ (by kernel_rfl)
  · replace h := iteF h2 h
    refine At.adv [] [(3, { told := [(7, { ans := .no })], gs := [(4, true), (5, true), (6, true)], keep := some ([1, 12], []) })] 400 (ev := .cond (x0.f_Base == 76) c33x9 c33x10 [.blk 0, .seq c33x6]) (σ' := mkS 25 [(1, .ptr [.int .i64 x0.f_Dim, .int .u8 x0.f_Base, .str x0.f_Name]), (12, .bool (x0.f_Base == 76))] []) (q := [((decide (x0.f_Dim > 0)) == false) = true ∧ True, ((decide (x0.f_Dim > 0)) == false) = true ∧ True, ((decide (x0.f_Dim > 0)) == false) = true ∧ True, True ∧ ((decide (x0.f_Dim > 0)) = false)]) (by kernel_rfl) ⟨⟨(gB h2 rfl), trivial⟩, ⟨(gB h2 rfl), trivial⟩, ⟨(gB h2 rfl), trivial⟩, ⟨trivial, h2⟩, trivial⟩ ?_
    refine EvOk.cond (fun h3 => ?_) (fun h3 => ?_)
    · replace h := iteT h3 h
      refine At.gc [] [] (n := 25) (l := []) (bl := []) (by kernel_rfl) ?_
      refine At.adv [] [(4, { told := [], gs := [], keep := some ([2], []) })] 400 (ev := .ret) (σ' := mkS 25 [(2, .int .i64 3)] []) (q := []) (by kernel_rfl) trivial ?_
      refine EvOk.ret ?_
      obtain rfl := someE h
      exact Den.Ends.mk (.inl rfl) (d := .int .i64 3) (p := (True ∧ True) ∧ (True ∧ True)) (by kernel_rfl) ⟨⟨trivial, trivial⟩, ⟨trivial, trivial⟩⟩ (by kernel_rfl)
    · replace h := iteF h3 h
      refine At.gc [1] [] (n := 25) (l := [(1, .ptr [.int .i64 x0.f_Dim, .int .u8 x0.f_Base, .str x0.f_Name])]) (bl := []) (by kernel_rfl) ?_
      refine At.adv [5] [] 400 (ev := .stop c33x11 [.seq c33x12, .blk 0, .seq c33x6]) (σ' := mkS 25 [(1, .ptr [.int .i64 x0.f_Dim, .int .u8 x0.f_Base, .str x0.f_Name])] []) (q := []) (by kernel_rfl) trivial ?_
      exact (wj33x2 x0)  r h Γ
theorem we33 (x0 : T_api_Type) (r : Int) (h : m_desc_Kind x0 = some r) (Γ : Ctx) : At Try.prog Γ b33 [] (Den.Ends Try.prog Try.f33 (.int .i64 r)) (mkS 25 [(0, .agg (row_T_api_Type x0))] []) := by
  obtain ⟨v0, e0, h⟩ := bindE h
  rcases Bool.eq_false_or_eq_true (!v0) with h0 | h0
  · replace h := iteT h0 h
    refine At.adv [] [(0, { told := [(0, { ro := true })], gs := [], keep := some ([1], []) }), (1, { told := [(1, { ans := .val (.bool v0), args := [.agg [.int .i64 x0.f_Dim, .int .u8 x0.f_Base, .str x0.f_Name]] }), (7, { ans := .yes })], gs := [(4, false), (5, false), (6, false)], keep := some ([1, 3], []) })] 400 (ev := .cond true c33x4 c33x5 [.blk 0, .seq c33x6]) (σ' := mkS 25 [(1, .ptr [.int .i64 x0.f_Dim, .int .u8 x0.f_Base, .str x0.f_Name]), (3, .bool true)] []) (q := [True ∧ (((True ∧ (True ∧ (True ∧ True))) ∧ True) ∧ ([.agg [.int .i64 x0.f_Dim, .int .u8 x0.f_Base, .str x0.f_Name]] : List D) = [.agg [.int .i64 x0.f_Dim, .int .u8 x0.f_Base, .str x0.f_Name]] ∧ CallAny Try.prog 25 [.agg [.int .i64 x0.f_Dim, .int .u8 x0.f_Base, .str x0.f_Name]] (.bool v0)), ((!v0) == false) = false, ((!v0) == false) = false, ((!v0) == false) = false, True ∧ ((!v0) = true)]) (by kernel_rfl) ⟨⟨trivial, ⟨⟨⟨trivial, ⟨trivial, ⟨trivial, trivial⟩⟩⟩, trivial⟩, rfl, .inl (w25 e0)⟩⟩, gB h0 rfl, gB h0 rfl, gB h0 rfl, ⟨trivial, h0⟩, trivial⟩ ?_
    refine EvOk.cond (fun _ => ?_) (fun hb => Bool.noConfusion hb)
    refine At.gc [] [] (n := 25) (l := []) (bl := []) (by kernel_rfl) ?_
    refine At.adv [] [(2, { told := [], gs := [], keep := some ([2], []) })] 400 (ev := .ret) (σ' := mkS 25 [(2, .int .i64 0)] []) (q := []) (by kernel_rfl) trivial ?_
    refine EvOk.ret ?_
    obtain rfl := someE h
    exact Den.Ends.mk (.inl rfl) (d := .int .i64 0) (p := (True ∧ True) ∧ (True ∧ True)) (by kernel_rfl) ⟨⟨trivial, trivial⟩, ⟨trivial, trivial⟩⟩ (by kernel_rfl)
  · replace h := iteF h0 h
    refine At.adv [] [(0, { told := [(0, { ro := true })], gs := [], keep := some ([1], []) }), (1, { told := [(1, { ans := .val (.bool v0), args := [.agg [.int .i64 x0.f_Dim, .int .u8 x0.f_Base, .str x0.f_Name]] }), (7, { ans := .no })], gs := [(4, true), (5, true), (6, true)], keep := some ([1, 3], []) })] 400 (ev := .cond (x0.f_Base == 86) c33x4 c33x5 [.blk 0, .seq c33x6]) (σ' := mkS 25 [(1, .ptr [.int .i64 x0.f_Dim, .int .u8 x0.f_Base, .str x0.f_Name]), (3, .bool (x0.f_Base == 86))] []) (q := [True ∧ (((True ∧ (True ∧ (True ∧ True))) ∧ True) ∧ ([.agg [.int .i64 x0.f_Dim, .int .u8 x0.f_Base, .str x0.f_Name]] : List D) = [.agg [.int .i64 x0.f_Dim, .int .u8 x0.f_Base, .str x0.f_Name]] ∧ CallAny Try.prog 25 [.agg [.int .i64 x0.f_Dim, .int .u8 x0.f_Base, .str x0.f_Name]] (.bool v0)), ((!v0) == false) = true ∧ True, ((!v0) == false) = true ∧ True, ((!v0) == false) = true ∧ True, True ∧ ((!v0) = false)]) (by kernel_rfl) ⟨⟨trivial, ⟨⟨⟨trivial, ⟨trivial, ⟨trivial, trivial⟩⟩⟩, trivial⟩, rfl, .inl (w25 e0)⟩⟩, ⟨(gB h0 rfl), trivial⟩, ⟨(gB h0 rfl), trivial⟩, ⟨(gB h0 rfl), trivial⟩, ⟨trivial, h0⟩, trivial⟩ ?_
    refine EvOk.cond (fun h1 => ?_) (fun h1 => ?_)
    · replace h := iteT h1 h
      refine At.gc [] [] (n := 25) (l := []) (bl := []) (by kernel_rfl) ?_
      refine At.adv [] [(2, { told := [], gs := [], keep := some ([2], []) })] 400 (ev := .ret) (σ' := mkS 25 [(2, .int .i64 0)] []) (q := []) (by kernel_rfl) trivial ?_
      refine EvOk.ret ?_
      obtain rfl := someE h
      exact Den.Ends.mk (.inl rfl) (d := .int .i64 0) (p := (True ∧ True) ∧ (True ∧ True)) (by kernel_rfl) ⟨⟨trivial, trivial⟩, ⟨trivial, trivial⟩⟩ (by kernel_rfl)
    · replace h := iteF h1 h
      refine At.gc [1] [] (n := 25) (l := [(1, .ptr [.int .i64 x0.f_Dim, .int .u8 x0.f_Base, .str x0.f_Name])]) (bl := []) (by kernel_rfl) ?_
      refine At.adv [3] [] 400 (ev := .stop c33x7 [.seq c33x8, .blk 0, .seq c33x6]) (σ' := mkS 25 [(1, .ptr [.int .i64 x0.f_Dim, .int .u8 x0.f_Base, .str x0.f_Name])] []) (q := []) (by kernel_rfl) trivial ?_
      exact (wj33x1 x0)  r h Γ
theorem w33 {x0 : T_api_Type} {r : Int} (h : m_desc_Kind x0 = some r) : CallSpec Try.prog 33 [.agg (row_T_api_Type x0)] (.int .i64 r) :=
  CallSpec.at2 b33 (n := 25) (l := [(0, .agg (row_T_api_Type x0))]) (by kernel_rfl) (by kernel_rfl) (by kernel_rfl) (by kernel_rfl) (by kernel_rfl) (Nat.le_of_ble_eq_true (by kernel_rfl)) (fun Γ => we33 x0 r h Γ)

/-! ### armature armatureref04.Kind -/
noncomputable def b34 : Code := Try.f34.body.getD .skip
noncomputable def c34x0 : Code := sub1 b34
noncomputable def c34x1 : Code := sub0 c34x0
noncomputable def c34x2 : Code := sub1 c34x1
noncomputable def c34x3 : Code := sub0 c34x2
noncomputable def c34x4 : Code := sub1 c34x2
noncomputable def c34x5 : Code := sub1 c34x0
noncomputable def c34x6 : Code := sub0 c34x5
noncomputable def c34x7 : Code := sub0 c34x6
noncomputable def c34x8 : Code := sub1 c34x6
noncomputable def c34x9 : Code := sub1 c34x5
noncomputable def c34x10 : Code := sub0 c34x8
noncomputable def c34x11 : Code := sub1 c34x8
noncomputable def c34x12 : Code := sub0 c34x9
noncomputable def c34x13 : Code := sub0 c34x12
noncomputable def c34x14 : Code := sub1 c34x12
noncomputable def c34x15 : Code := sub1 c34x9
noncomputable def c34x16 : Code := sub0 c34x14
noncomputable def c34x17 : Code := sub1 c34x14
def j34x2 (x0 : T_api_Type) : Option (Int) :=
  if (x0.f_Base == 74) = true then
    (some 2) else
  (some 1)
def j34x1 (x0 : T_api_Type) : Option (Int) :=
  if (decide (x0.f_Dim > 0)) = true then (some 3) else
  (if (x0.f_Base == 76) = true then
    (some 3) else
  ((j34x2 x0) ))
def m_armatureref04_Kind (x0 : T_api_Type) : Option (Int) :=
  (m_armatureref04_Valid x0).bind fun v0 =>
  if (!v0) = true then (some 0) else
  (if (x0.f_Base == 86) = true then
    (some 0) else
  ((j34x1 x0) ))
theorem wj34x2 (x0 : T_api_Type) (r : Int) (h : (j34x2 x0)  = some r) (Γ : Ctx) : EvOk Try.prog Γ (Den.Ends Try.prog Try.f34 (.int .i64 r)) (mkS 22 [(1, .ptr [.int .i64 x0.f_Dim, .int .u8 x0.f_Base, .str x0.f_Name])] []) (.stop c34x13 [.seq c34x14, .seq c34x15]) := by
  refine EvOk.stop ?_
  refine At.adv [] [(5, { told := [], gs := [], keep := some ([21], []) })] 400 (ev := .cond (x0.f_Base == 74) c34x16 c34x17 [.seq c34x15]) (σ' := mkS 22 [(21, .bool (x0.f_Base == 74))] []) (q := []) (by kernel_rfl) trivial ?_
  refine EvOk.cond (fun h4 => ?_) (fun h4 => ?_)
  · replace h := iteT h4 h
    refine At.gc [] [] (n := 22) (l := []) (bl := []) (by kernel_rfl) ?_
    refine At.adv [] [(6, { told := [], gs := [], keep := some ([2], []) })] 400 (ev := .ret) (σ' := mkS 22 [(2, .int .i64 2)] []) (q := []) (by kernel_rfl) trivial ?_
    refine EvOk.ret ?_
    obtain rfl := someE h
    exact Den.Ends.mk (.inl rfl) (d := .int .i64 2) (p := (True ∧ True) ∧ (True ∧ True)) (by kernel_rfl) ⟨⟨trivial, trivial⟩, ⟨trivial, trivial⟩⟩ (by kernel_rfl)
  · replace h := iteF h4 h
    refine At.gc [] [] (n := 22) (l := []) (bl := []) (by kernel_rfl) ?_
    refine At.adv [] [(7, { told := [], gs := [], keep := some ([2], []) })] 400 (ev := .ret) (σ' := mkS 22 [(2, .int .i64 1)] []) (q := []) (by kernel_rfl) trivial ?_
    refine EvOk.ret ?_
    obtain rfl := someE h
    exact Den.Ends.mk (.inl rfl) (d := .int .i64 1) (p := (True ∧ True) ∧ (True ∧ True)) (by kernel_rfl) ⟨⟨trivial, trivial⟩, ⟨trivial, trivial⟩⟩ (by kernel_rfl)
theorem wj34x1 (x0 : T_api_Type) (r : Int) (h : (j34x1 x0)  = some r) (Γ : Ctx) : EvOk Try.prog Γ (Den.Ends Try.prog Try.f34 (.int .i64 r)) (mkS 22 [(1, .ptr [.int .i64 x0.f_Dim, .int .u8 x0.f_Base, .str x0.f_Name])] []) (.stop c34x7 [.seq c34x8, .seq c34x9]) := by
  refine EvOk.stop ?_
  rcases Bool.eq_false_or_eq_true (decide (x0.f_Dim > 0)) with h2 | h2
  · replace h := iteT h2 h
    refine At.adv [] [(3, { told := [(7, { ans := .yes })], gs := [(4, false), (5, false), (6, false)], keep := some ([1, 18], []) })] 400 (ev := .cond true c34x10 c34x11 [.seq c34x9]) (σ' := mkS 22 [(1, .ptr [.int .i64 x0.f_Dim, .int .u8 x0.f_Base, .str x0.f_Name]), (18, .bool true)] []) (q := [((decide (x0.f_Dim > 0)) == false) = false, ((decide (x0.f_Dim > 0)) == false) = false, ((decide (x0.f_Dim > 0)) == false) = false, True ∧ ((decide (x0.f_Dim > 0)) = true)]) (by kernel_rfl) ⟨gB h2 rfl, gB h2 rfl, gB h2 rfl, ⟨trivial, h2⟩, trivial⟩ ?_
    refine EvOk.cond (fun _ => ?_) (fun hb => Bool.noConfusion hb)
    refine At.gc [] [] (n := 22) (l := []) (bl := []) (by kernel_rfl) ?_
    refine At.adv [] [(4, { told := [], gs := [], keep := some ([2], []) })] 400 (ev := .ret) (σ' := mkS 22 [(2, .int .i64 3)] []) (q := []) (by kernel_rfl) trivial ?_
    refine EvOk.ret ?_
    obtain rfl := someE h
    exact Den.Ends.mk (.inl rfl) (d := .int .i64 3) (p := (True ∧ True) ∧ (True ∧ True)) (by kernel_rfl) ⟨⟨trivial, trivial⟩, ⟨trivial, trivial⟩⟩ (by kernel_rfl)
  · replace h := iteF h2 h
    refine At.adv [] [(3, { told := [(7, { ans := .no })], gs := [(4, true), (5, true), (6, true)], keep := some ([1, 18], []) })] 400 (ev := .cond (x0.f_Base == 76) c34x10 c34x11 [.seq c34x9]) (σ' := mkS 22 [(1, .ptr [.int .i64 x0.f_Dim, .int .u8 x0.f_Base, .str x0.f_Name]), (18, .bool (x0.f_Base == 76))] []) (q := [((decide (x0.f_Dim > 0)) == false) = true ∧ True, ((decide (x0.f_Dim > 0)) == false) = true ∧ True, ((decide (x0.f_Dim > 0)) == false) = true ∧ True, True ∧ ((decide (x0.f_Dim > 0)) = false)]) (by kernel_rfl) ⟨⟨(gB h2 rfl), trivial⟩, ⟨(gB h2 rfl), trivial⟩, ⟨(gB h2 rfl), trivial⟩, ⟨trivial, h2⟩, trivial⟩ ?_
    refine EvOk.cond (fun h3 => ?_) (fun h3 => ?_)
    · replace h := iteT h3 h
      refine At.gc [] [] (n := 22) (l := []) (bl := []) (by kernel_rfl) ?_
      refine At.adv [] [(4, { told := [], gs := [], keep := some ([2], []) })] 400 (ev := .ret) (σ' := mkS 22 [(2, .int .i64 3)] []) (q := []) (by kernel_rfl) trivial ?_
      refine EvOk.ret ?_
      obtain rfl := someE h
      exact Den.Ends.mk (.inl rfl) (d := .int .i64 3) (p := (True ∧ True) ∧ (True ∧ True)) (by kernel_rfl) ⟨⟨trivial, trivial⟩, ⟨trivial, trivial⟩⟩ (by kernel_rfl)
    · replace h := iteF h3 h
      refine At.gc [1] [] (n := 22) (l := [(1, .ptr [.int .i64 x0.f_Dim, .int .u8 x0.f_Base, .str x0.f_Name])]) (bl := []) (by kernel_rfl) ?_
      refine At.adv [5] [] 400 (ev := .stop c34x13 [.seq c34x14, .seq c34x15]) (σ' := mkS 22 [(1, .ptr [.int .i64 x0.f_Dim, .int .u8 x0.f_Base, .str x0.f_Name])] []) (q := []) (by kernel_rfl) trivial ?_
      exact (wj34x2 x0)  r h Γ
theorem we34 (x0 : T_api_Type) (r : Int) (h : m_armatureref04_Kind x0 = some r) (Γ : Ctx) : At Try.prog Γ b34 [] (Den.Ends Try.prog Try.f34 (.int .i64 r)) (mkS 22 [(0, .agg (row_T_api_Type x0))] []) := by
  obtain ⟨v0, e0, h⟩ := bindE h
  rcases Bool.eq_false_or_eq_true (!v0) with h0 | h0
  · replace h := iteT h0 h
    refine At.adv [] [(0, { told := [(0, { ro := true })], gs := [], keep := some ([1], []) }), (1, { told := [(1, { ans := .val (.bool v0), args := [.agg [.int .i64 x0.f_Dim, .int .u8 x0.f_Base, .str x0.f_Name]] }), (7, { ans := .yes })], gs := [(4, false), (5, false), (6, false)], keep := some ([1, 10], []) })] 400 (ev := .cond true c34x3 c34x4 [.seq c34x5]) (σ' := mkS 22 [(1, .ptr [.int .i64 x0.f_Dim, .int .u8 x0.f_Base, .str x0.f_Name]), (10, .bool true)] []) (q := [True ∧ (((True ∧ (True ∧ (True ∧ True))) ∧ True) ∧ ([.agg [.int .i64 x0.f_Dim, .int .u8 x0.f_Base, .str x0.f_Name]] : List D) = [.agg [.int .i64 x0.f_Dim, .int .u8 x0.f_Base, .str x0.f_Name]] ∧ CallAny Try.prog 32 [.agg [.int .i64 x0.f_Dim, .int .u8 x0.f_Base, .str x0.f_Name]] (.bool v0)), ((!v0) == false) = false, ((!v0) == false) = false, ((!v0) == false) = false, True ∧ ((!v0) = true)]) (by kernel_rfl) ⟨⟨trivial, ⟨⟨⟨trivial, ⟨trivial, ⟨trivial, trivial⟩⟩⟩, trivial⟩, rfl, .inl (w32 e0)⟩⟩, gB h0 rfl, gB h0 rfl, gB h0 rfl, ⟨trivial, h0⟩, trivial⟩ ?_
    refine EvOk.cond (fun _ => ?_) (fun hb => Bool.noConfusion hb)
    refine At.gc [] [] (n := 22) (l := []) (bl := []) (by kernel_rfl) ?_
    refine At.adv [] [(2, { told := [], gs := [], keep := some ([2], []) })] 400 (ev := .ret) (σ' := mkS 22 [(2, .int .i64 0)] []) (q := []) (by kernel_rfl) trivial ?_
    refine EvOk.ret ?_
    obtain rfl := someE h
    exact Den.Ends.mk (.inl rfl) (d := .int .i64 0) (p := (True ∧ True) ∧ (True ∧ True)) (by kernel_rfl) ⟨⟨trivial, trivial⟩, ⟨trivial, trivial⟩⟩ (by kernel_rfl)
  · replace h := iteF h0 h
    refine At.adv [] [(0, { told := [(0, { ro := true })], gs := [], keep := some ([1], []) }), (1, { told := [(1, { ans := .val (.bool v0), args := [.agg [.int .i64 x0.f_Dim, .int .u8 x0.f_Base, .str x0.f_Name]] }), (7, { ans := .no })], gs := [(4, true), (5, true), (6, true)], keep := some ([1, 10], []) })] 400 (ev := .cond (x0.f_Base == 86) c34x3 c34x4 [.seq c34x5]) (σ' := mkS 22 [(1, .ptr [.int .i64 x0.f_Dim, .int .u8 x0.f_Base, .str x0.f_Name]), (10, .bool (x0.f_Base == 86))] []) (q := [True ∧ (((True ∧ (True ∧ (True ∧ True))) ∧ True) ∧ ([.agg [.int .i64 x0.f_Dim, .int .u8 x0.f_Base, .str x0.f_Name]] : List D) = [.agg [.int .i64 x0.f_Dim, .int .u8 x0.f_Base, .str x0.f_Name]] ∧ CallAny Try.prog 32 [.agg [.int .i64 x0.f_Dim, .int .u8 x0.f_Base, .str x0.f_Name]] (.bool v0)), ((!v0) == false) = true ∧ True, ((!v0) == false) = true ∧ True, ((!v0) == false) = true ∧ True, True ∧ ((!v0) = false)]) (by kernel_rfl) ⟨⟨trivial, ⟨⟨⟨trivial, ⟨trivial, ⟨trivial, trivial⟩⟩⟩, trivial⟩, rfl, .inl (w32 e0)⟩⟩, ⟨(gB h0 rfl), trivial⟩, ⟨(gB h0 rfl), trivial⟩, ⟨(gB h0 rfl), trivial⟩, ⟨trivial, h0⟩, trivial⟩ ?_
    refine EvOk.cond (fun h1 => ?_) (fun h1 => ?_)
    · replace h := iteT h1 h
      refine At.gc [] [] (n := 22) (l := []) (bl := []) (by kernel_rfl) ?_
      refine At.adv [] [(2, { told := [], gs := [], keep := some ([2], []) })] 400 (ev := .ret) (σ' := mkS 22 [(2, .int .i64 0)] []) (q := []) (by kernel_rfl) trivial ?_
      refine EvOk.ret ?_
      obtain rfl := someE h
      exact Den.Ends.mk (.inl rfl) (d := .int .i64 0) (p := (True ∧ True) ∧ (True ∧ True)) (by kernel_rfl) ⟨⟨trivial, trivial⟩, ⟨trivial, trivial⟩⟩ (by kernel_rfl)
    · replace h := iteF h1 h
      refine At.gc [1] [] (n := 22) (l := [(1, .ptr [.int .i64 x0.f_Dim, .int .u8 x0.f_Base, .str x0.f_Name])]) (bl := []) (by kernel_rfl) ?_
      refine At.adv [3] [] 400 (ev := .stop c34x7 [.seq c34x8, .seq c34x9]) (σ' := mkS 22 [(1, .ptr [.int .i64 x0.f_Dim, .int .u8 x0.f_Base, .str x0.f_Name])] []) (q := []) (by kernel_rfl) trivial ?_
      exact (wj34x1 x0)  r h Γ
theorem w34 {x0 : T_api_Type} {r : Int} (h : m_armatureref04_Kind x0 = some r) : CallSpec Try.prog 34 [.agg (row_T_api_Type x0)] (.int .i64 r) :=
  CallSpec.at2 b34 (n := 22) (l := [(0, .agg (row_T_api_Type x0))]) (by kernel_rfl) (by kernel_rfl) (by kernel_rfl) (by kernel_rfl) (by kernel_rfl) (Nat.le_of_ble_eq_true (by kernel_rfl)) (fun Γ => we34 x0 r h Γ)
end Go.Proofs
