/-
  Models of functions of the program, and that the functions compute them. Printed by den2.py. No condition.
-/
import Derived.Test.YtbkfbbghkbmkaaaDes3
set_option linter.unusedVariables false
namespace Go.Proofs
open Go.Den
/-! ### armature armaturelaw04.DescRoundTrip -/
noncomputable def b8 : Code := Try.f8.body.getD .skip
noncomputable def c8x0 : Code := sub1 b8
noncomputable def c8x1 : Code := sub1 c8x0
noncomputable def c8x2 : Code := sub1 c8x1
noncomputable def c8x3 : Code := sub1 c8x2
noncomputable def c8x4 : Code := sub1 c8x3
noncomputable def c8x5 : Code := sub0 c8x4
noncomputable def c8x6 : Code := sub1 c8x5
noncomputable def c8x7 : Code := sub0 c8x6
noncomputable def c8x8 : Code := sub1 c8x6
noncomputable def c8x9 : Code := sub1 c8x4
noncomputable def c8x10 : Code := sub0 c8x9
noncomputable def c8x11 : Code := sub0 c8x10
noncomputable def c8x12 : Code := sub1 c8x10
noncomputable def c8x13 : Code := sub1 c8x9
noncomputable def c8x14 : Code := sub0 c8x2
noncomputable def c8x15 : Code := sub1 c8x14
noncomputable def c8x16 : Code := sub0 c8x15
noncomputable def c8x17 : Code := sub1 c8x15
noncomputable def c8x18 : Code := sub0 c8x0
noncomputable def c8x19 : Code := sub1 c8x18
noncomputable def c8x20 : Code := sub0 c8x19
noncomputable def c8x21 : Code := sub1 c8x19
noncomputable def c8x22 : Code := sub1 c8x12
noncomputable def c8x23 : Code := sub0 c8x22
noncomputable def c8x24 : Code := sub1 c8x23
noncomputable def c8x25 : Code := sub1 c8x24
noncomputable def c8x26 : Code := sub0 c8x25
noncomputable def c8x27 : Code := sub1 c8x25
noncomputable def c8x28 : Code := sub0 c8x13
noncomputable def c8x29 : Code := sub0 c8x28
noncomputable def c8x30 : Code := sub1 c8x28
noncomputable def c8x31 : Code := sub1 c8x13
noncomputable def c8x32 : Code := sub1 c8x22
noncomputable def c8x33 : Code := sub1 c8x30
noncomputable def c8x34 : Code := sub0 c8x33
noncomputable def c8x35 : Code := sub1 c8x34
noncomputable def c8x36 : Code := sub1 c8x35
noncomputable def c8x37 : Code := sub0 c8x36
noncomputable def c8x38 : Code := sub1 c8x36
noncomputable def c8x39 : Code := sub0 c8x31
noncomputable def c8x40 : Code := sub1 c8x31
noncomputable def c8x41 : Code := sub1 c8x33
def j8x3  : Option (Bool) :=
  (m_armaturelaw04_works).bind fun v10 =>
  some v10
def j8x2 (x0 : T_api_Type) : Option (Bool) :=
  (m_desc_ArrayOf x0).bind fun v8 =>
  if (v8.2 == 0) = true then
    ((m_desc_Element ({ f_Dim := v8.1.f_Dim, f_Base := v8.1.f_Base, f_Name := v8.1.f_Name } : T_api_Type)).bind fun v9 =>
    if (!(eqb_T_api_Type ({ f_Dim := v9.1.f_Dim, f_Base := v9.1.f_Base, f_Name := v9.1.f_Name } : T_api_Type) x0)) = true then (some false) else
    (if (v9.2 != 0) = true then
      (some false) else
    (j8x3 ))) else
  (j8x3 )
def j8x1 (x0 : T_api_Type) : Option (Bool) :=
  (m_desc_FormatClassConstant x0).bind fun v6 =>
  if (v6.2 == 0) = true then
    ((m_desc_ParseClassConstant v6.1).bind fun v7 =>
    if (!(eqb_T_api_Type ({ f_Dim := v7.1.f_Dim, f_Base := v7.1.f_Base, f_Name := v7.1.f_Name } : T_api_Type) x0)) = true then (some false) else
    (if (v7.2 != 0) = true then
      (some false) else
    ((j8x2 x0) ))) else
  ((j8x2 x0) )
def m_armaturelaw04_DescRoundTrip (x0 : T_api_Type) : Option (Bool) :=
  if (decide ((x0.f_Name.length : Int) > 500)) = true then
    ((m_armaturelaw04_works).bind fun v0 =>
    some v0) else
  ((m_desc_Format x0).bind fun v1 =>
    if (v1.2 != 0) = true then
      ((m_desc_Valid x0).bind fun v2 =>
      if (!v2) = true then ((m_armaturelaw04_works).bind fun v3 =>
      some v3) else
      (some false)) else
    ((m_desc_Parse v1.1).bind fun v4 =>
      if (!(eqb_T_api_Type ({ f_Dim := v4.1.f_Dim, f_Base := v4.1.f_Base, f_Name := v4.1.f_Name } : T_api_Type) x0)) = true then (some false) else
      (if (v4.2 != 0) = true then (some false) else
      ((m_desc_Valid x0).bind fun v5 =>
      if (!v5) = true then
        (some false) else
      ((j8x1 x0) )))))
theorem wj8x3  (r : Bool) (h : j8x3  = some r) (Γ : Ctx) : EvOk Try.prog Γ (Den.Ends Try.prog Try.f8 (.bool r)) (mkS 89 [] []) (.stop c8x39 [.seq c8x40]) := by
  refine EvOk.stop ?_
  obtain ⟨v10, e10, h⟩ := bindE h
  refine At.adv [] [(19, { told := [(0, { ans := .val (.bool v10), args := [] })], gs := [], keep := some ([2], []) })] 400 (ev := .ret) (σ' := mkS 89 [(2, .bool v10)] []) (q := [True ∧ (True ∧ ([] : List D) = [] ∧ CallAny Try.prog 10 [] (.bool v10))]) (by kernel_rfl) ⟨⟨trivial, ⟨trivial, rfl, .inl (w10 e10)⟩⟩, trivial⟩ ?_
  refine EvOk.ret ?_
  obtain rfl := someE h
  exact Den.Ends.mk (.inl rfl) (d := .bool v10) (p := (True ∧ True) ∧ (True ∧ True)) (by kernel_rfl) ⟨⟨trivial, trivial⟩, ⟨trivial, trivial⟩⟩ (by kernel_rfl)
theorem wj8x2 (x0 : T_api_Type) (r : Bool) (h : (j8x2 x0)  = some r) (Γ : Ctx) : EvOk Try.prog Γ (Den.Ends Try.prog Try.f8 (.bool r)) (mkS 89 [(1, .ptr [.int .i64 x0.f_Dim, .int .u8 x0.f_Base, .str x0.f_Name])] []) (.stop c8x29 [.seq c8x30, .seq c8x31]) := by
  refine EvOk.stop ?_
  obtain ⟨v8, e8, h⟩ := bindE h
  refine At.adv [] [(14, { told := [(1, { ans := .val (.tup [.agg (row_T_api_Type v8.1), .int .i64 v8.2]), args := [.agg [.int .i64 x0.f_Dim, .int .u8 x0.f_Base, .str x0.f_Name]] })], gs := [], keep := some ([1, 11, 12], [(11, 11)]) }), (15, { told := [], gs := [], keep := some ([1, 11, 75], [(11, 11)]) })] 400 (ev := .cond (v8.2 == 0) c8x34 c8x41 [.seq c8x31]) (σ' := mkS 89 [(1, .ptr [.int .i64 x0.f_Dim, .int .u8 x0.f_Base, .str x0.f_Name]), (11, .lptr 11 0 0), (75, .bool (v8.2 == 0))] [(11, { sz := 3, rows := [[.int .i64 v8.1.f_Dim, .int .u8 v8.1.f_Base, .str v8.1.f_Name]], frz := 0, pure := false })]) (q := [True ∧ (((True ∧ (True ∧ (True ∧ True))) ∧ True) ∧ ([.agg [.int .i64 x0.f_Dim, .int .u8 x0.f_Base, .str x0.f_Name]] : List D) = [.agg [.int .i64 x0.f_Dim, .int .u8 x0.f_Base, .str x0.f_Name]] ∧ CallAny Try.prog 26 [.agg [.int .i64 x0.f_Dim, .int .u8 x0.f_Base, .str x0.f_Name]] (.tup [.agg (row_T_api_Type v8.1), .int .i64 v8.2])), True ∧ (0 ≤ 0 ∧ 0 + ([.int .i64 v8.1.f_Dim, .int .u8 v8.1.f_Base, .str v8.1.f_Name] : List D).length ≤ ([.int .i64 0, .int .u8 0, .str []] : List D).length ∧ ([[.int .i64 v8.1.f_Dim, .int .u8 v8.1.f_Base, .str v8.1.f_Name]] : List (List D)) = ([[.int .i64 v8.1.f_Dim, .int .u8 v8.1.f_Base, .str v8.1.f_Name]] : List (List D)))]) (by kernel_rfl) ⟨⟨trivial, ⟨⟨⟨trivial, ⟨trivial, ⟨trivial, trivial⟩⟩⟩, trivial⟩, rfl, .inl (w26 e8)⟩⟩, ⟨trivial, ⟨Nat.zero_le _, Nat.le_of_ble_eq_true rfl, rfl⟩⟩, trivial⟩ ?_
  refine EvOk.cond (fun h9 => ?_) (fun h9 => ?_)
  · replace h := iteT h9 h
    refine At.gc [1, 11] [(11, 11)] (n := 89) (l := [(1, .ptr [.int .i64 x0.f_Dim, .int .u8 x0.f_Base, .str x0.f_Name]), (11, .lptr 11 0 0)]) (bl := [(11, { sz := 3, rows := [[.int .i64 v8.1.f_Dim, .int .u8 v8.1.f_Base, .str v8.1.f_Name]], frz := 0, pure := false })]) (by kernel_rfl) ?_
    obtain ⟨v9, e9, h⟩ := bindE h
    rcases Bool.eq_false_or_eq_true (!(eqb_T_api_Type ({ f_Dim := v9.1.f_Dim, f_Base := v9.1.f_Base, f_Name := v9.1.f_Name } : T_api_Type) x0)) with h10 | h10
    · replace h := iteT h10 h
      refine At.adv [] [(16, { told := [(1, { ans := .val (.tup [.agg (row_T_api_Type v9.1), .int .i64 v9.2]), args := [.agg [.int .i64 v8.1.f_Dim, .int .u8 v8.1.f_Base, .str v8.1.f_Name]] })], gs := [], keep := some ([1, 13, 14], [(13, 13)]) }), (17, { told := [(2, { ans := .val (.bool (!(eqb_T_api_Type ({ f_Dim := v9.1.f_Dim, f_Base := v9.1.f_Base, f_Name := v9.1.f_Name } : T_api_Type) x0))) }), (6, { ans := .yes })], gs := [(4, false), (5, false)], keep := some ([87], []) })] 400 (ev := .cond true c8x37 c8x38 [.seq c8x31]) (σ' := mkS 89 [(87, .bool true)] []) (q := [True ∧ (((True ∧ (True ∧ (True ∧ True))) ∧ True) ∧ ([.agg [.int .i64 v8.1.f_Dim, .int .u8 v8.1.f_Base, .str v8.1.f_Name]] : List D) = [.agg [.int .i64 v8.1.f_Dim, .int .u8 v8.1.f_Base, .str v8.1.f_Name]] ∧ CallAny Try.prog 27 [.agg [.int .i64 v8.1.f_Dim, .int .u8 v8.1.f_Base, .str v8.1.f_Name]] (.tup [.agg (row_T_api_Type v9.1), .int .i64 v9.2])), True ∧ (0 ≤ 0 ∧ 0 + ([.int .i64 v9.1.f_Dim, .int .u8 v9.1.f_Base, .str v9.1.f_Name] : List D).length ≤ ([.int .i64 0, .int .u8 0, .str []] : List D).length ∧ ([[.int .i64 v9.1.f_Dim, .int .u8 v9.1.f_Base, .str v9.1.f_Name]] : List (List D)) = ([[.int .i64 v9.1.f_Dim, .int .u8 v9.1.f_Base, .str v9.1.f_Name]] : List (List D))), True ∧ (Try.prog.eqGuardType Try.prog.depth 24 = false ∧ eqq_24 ∧ (!(eqb_T_api_Type ({ f_Dim := v9.1.f_Dim, f_Base := v9.1.f_Base, f_Name := v9.1.f_Name } : T_api_Type) x0)) = (!(eqb_T_api_Type ({ f_Dim := v9.1.f_Dim, f_Base := v9.1.f_Base, f_Name := v9.1.f_Name } : T_api_Type) x0))), ((!(eqb_T_api_Type ({ f_Dim := v9.1.f_Dim, f_Base := v9.1.f_Base, f_Name := v9.1.f_Name } : T_api_Type) x0)) == false) = false, ((!(eqb_T_api_Type ({ f_Dim := v9.1.f_Dim, f_Base := v9.1.f_Base, f_Name := v9.1.f_Name } : T_api_Type) x0)) == false) = false, True ∧ ((!(eqb_T_api_Type ({ f_Dim := v9.1.f_Dim, f_Base := v9.1.f_Base, f_Name := v9.1.f_Name } : T_api_Type) x0)) = true)]) (by kernel_rfl) ⟨⟨trivial, ⟨⟨⟨trivial, ⟨trivial, ⟨trivial, trivial⟩⟩⟩, trivial⟩, rfl, .inl (w27 e9)⟩⟩, ⟨trivial, ⟨Nat.zero_le _, Nat.le_of_ble_eq_true rfl, rfl⟩⟩, ⟨trivial, ⟨eqg_24, eqp_24, rfl⟩⟩, gB h10 rfl, gB h10 rfl, ⟨trivial, h10⟩, trivial⟩ ?_
      refine EvOk.cond (fun _ => ?_) (fun hb => Bool.noConfusion hb)
      refine At.gc [] [] (n := 89) (l := []) (bl := []) (by kernel_rfl) ?_
      refine At.adv [] [(18, { told := [], gs := [], keep := some ([2], []) })] 400 (ev := .ret) (σ' := mkS 89 [(2, .bool false)] []) (q := []) (by kernel_rfl) trivial ?_
      refine EvOk.ret ?_
      obtain rfl := someE h
      exact Den.Ends.mk (.inl rfl) (d := .bool false) (p := (True ∧ True) ∧ (True ∧ True)) (by kernel_rfl) ⟨⟨trivial, trivial⟩, ⟨trivial, trivial⟩⟩ (by kernel_rfl)
    · replace h := iteF h10 h
      refine At.adv [] [(16, { told := [(1, { ans := .val (.tup [.agg (row_T_api_Type v9.1), .int .i64 v9.2]), args := [.agg [.int .i64 v8.1.f_Dim, .int .u8 v8.1.f_Base, .str v8.1.f_Name]] })], gs := [], keep := some ([1, 13, 14], [(13, 13)]) }), (17, { told := [(2, { ans := .val (.bool (!(eqb_T_api_Type ({ f_Dim := v9.1.f_Dim, f_Base := v9.1.f_Base, f_Name := v9.1.f_Name } : T_api_Type) x0))) }), (6, { ans := .no })], gs := [(4, true), (5, true)], keep := some ([87], []) })] 400 (ev := .cond (v9.2 != 0) c8x37 c8x38 [.seq c8x31]) (σ' := mkS 89 [(87, .bool (v9.2 != 0))] []) (q := [True ∧ (((True ∧ (True ∧ (True ∧ True))) ∧ True) ∧ ([.agg [.int .i64 v8.1.f_Dim, .int .u8 v8.1.f_Base, .str v8.1.f_Name]] : List D) = [.agg [.int .i64 v8.1.f_Dim, .int .u8 v8.1.f_Base, .str v8.1.f_Name]] ∧ CallAny Try.prog 27 [.agg [.int .i64 v8.1.f_Dim, .int .u8 v8.1.f_Base, .str v8.1.f_Name]] (.tup [.agg (row_T_api_Type v9.1), .int .i64 v9.2])), True ∧ (0 ≤ 0 ∧ 0 + ([.int .i64 v9.1.f_Dim, .int .u8 v9.1.f_Base, .str v9.1.f_Name] : List D).length ≤ ([.int .i64 0, .int .u8 0, .str []] : List D).length ∧ ([[.int .i64 v9.1.f_Dim, .int .u8 v9.1.f_Base, .str v9.1.f_Name]] : List (List D)) = ([[.int .i64 v9.1.f_Dim, .int .u8 v9.1.f_Base, .str v9.1.f_Name]] : List (List D))), True ∧ (Try.prog.eqGuardType Try.prog.depth 24 = false ∧ eqq_24 ∧ (!(eqb_T_api_Type ({ f_Dim := v9.1.f_Dim, f_Base := v9.1.f_Base, f_Name := v9.1.f_Name } : T_api_Type) x0)) = (!(eqb_T_api_Type ({ f_Dim := v9.1.f_Dim, f_Base := v9.1.f_Base, f_Name := v9.1.f_Name } : T_api_Type) x0))), ((!(eqb_T_api_Type ({ f_Dim := v9.1.f_Dim, f_Base := v9.1.f_Base, f_Name := v9.1.f_Name } : T_api_Type) x0)) == false) = true ∧ True, ((!(eqb_T_api_Type ({ f_Dim := v9.1.f_Dim, f_Base := v9.1.f_Base, f_Name := v9.1.f_Name } : T_api_Type) x0)) == false) = true ∧ True, True ∧ ((!(eqb_T_api_Type ({ f_Dim := v9.1.f_Dim, f_Base := v9.1.f_Base, f_Name := v9.1.f_Name } : T_api_Type) x0)) = false)]) (by kernel_rfl) ⟨⟨trivial, ⟨⟨⟨trivial, ⟨trivial, ⟨trivial, trivial⟩⟩⟩, trivial⟩, rfl, .inl (w27 e9)⟩⟩, ⟨trivial, ⟨Nat.zero_le _, Nat.le_of_ble_eq_true rfl, rfl⟩⟩, ⟨trivial, ⟨eqg_24, eqp_24, rfl⟩⟩, ⟨(gB h10 rfl), trivial⟩, ⟨(gB h10 rfl), trivial⟩, ⟨trivial, h10⟩, trivial⟩ ?_
      refine EvOk.cond (fun h11 => ?_) (fun h11 => ?_)
      · replace h := iteT h11 h
        refine At.gc [] [] (n := 89) (l := []) (bl := []) (by kernel_rfl) ?_
        refine At.adv [] [(18, { told := [], gs := [], keep := some ([2], []) })] 400 (ev := .ret) (σ' := mkS 89 [(2, .bool false)] []) (q := []) (by kernel_rfl) trivial ?_
        refine EvOk.ret ?_
        obtain rfl := someE h
        exact Den.Ends.mk (.inl rfl) (d := .bool false) (p := (True ∧ True) ∧ (True ∧ True)) (by kernel_rfl) ⟨⟨trivial, trivial⟩, ⟨trivial, trivial⟩⟩ (by kernel_rfl)
      · replace h := iteF h11 h
        refine At.gc [] [] (n := 89) (l := []) (bl := []) (by kernel_rfl) ?_
        refine At.adv [19] [] 400 (ev := .stop c8x39 [.seq c8x40]) (σ' := mkS 89 [] []) (q := []) (by kernel_rfl) trivial ?_
        exact wj8x3  r h Γ
  · replace h := iteF h9 h
    refine At.gc [] [] (n := 89) (l := []) (bl := []) (by kernel_rfl) ?_
    refine At.adv [19] [] 400 (ev := .stop c8x39 [.seq c8x40]) (σ' := mkS 89 [] []) (q := []) (by kernel_rfl) trivial ?_
    exact wj8x3  r h Γ
theorem wj8x1 (x0 : T_api_Type) (r : Bool) (h : (j8x1 x0)  = some r) (Γ : Ctx) : EvOk Try.prog Γ (Den.Ends Try.prog Try.f8 (.bool r)) (mkS 89 [(1, .ptr [.int .i64 x0.f_Dim, .int .u8 x0.f_Base, .str x0.f_Name])] []) (.stop c8x11 [.seq c8x12, .seq c8x13]) := by
  refine EvOk.stop ?_
  obtain ⟨v6, e6, h⟩ := bindE h
  refine At.adv [] [(9, { told := [(1, { ans := .val (.tup [.str v6.1, .int .i64 v6.2]), args := [.agg [.int .i64 x0.f_Dim, .int .u8 x0.f_Base, .str x0.f_Name]] })], gs := [], keep := some ([1, 7, 8], []) }), (10, { told := [], gs := [], keep := some ([1, 7, 56], []) })] 400 (ev := .cond (v6.2 == 0) c8x23 c8x32 [.seq c8x13]) (σ' := mkS 89 [(1, .ptr [.int .i64 x0.f_Dim, .int .u8 x0.f_Base, .str x0.f_Name]), (7, .str v6.1), (56, .bool (v6.2 == 0))] []) (q := [True ∧ (((True ∧ (True ∧ (True ∧ True))) ∧ True) ∧ ([.agg [.int .i64 x0.f_Dim, .int .u8 x0.f_Base, .str x0.f_Name]] : List D) = [.agg [.int .i64 x0.f_Dim, .int .u8 x0.f_Base, .str x0.f_Name]] ∧ CallAny Try.prog 21 [.agg [.int .i64 x0.f_Dim, .int .u8 x0.f_Base, .str x0.f_Name]] (.tup [.str v6.1, .int .i64 v6.2]))]) (by kernel_rfl) ⟨⟨trivial, ⟨⟨⟨trivial, ⟨trivial, ⟨trivial, trivial⟩⟩⟩, trivial⟩, rfl, .inl (w21 e6)⟩⟩, trivial⟩ ?_
  refine EvOk.cond (fun h6 => ?_) (fun h6 => ?_)
  · replace h := iteT h6 h
    refine At.gc [1, 7] [] (n := 89) (l := [(1, .ptr [.int .i64 x0.f_Dim, .int .u8 x0.f_Base, .str x0.f_Name]), (7, .str v6.1)]) (bl := []) (by kernel_rfl) ?_
    obtain ⟨v7, e7, h⟩ := bindE h
    rcases Bool.eq_false_or_eq_true (!(eqb_T_api_Type ({ f_Dim := v7.1.f_Dim, f_Base := v7.1.f_Base, f_Name := v7.1.f_Name } : T_api_Type) x0)) with h7 | h7
    · replace h := iteT h7 h
      refine At.adv [] [(11, { told := [(1, { ans := .val (.tup [.agg (row_T_api_Type v7.1), .int .i64 v7.2]), args := [.str v6.1] })], gs := [], keep := some ([1, 9, 10], [(9, 9)]) }), (12, { told := [(2, { ans := .val (.bool (!(eqb_T_api_Type ({ f_Dim := v7.1.f_Dim, f_Base := v7.1.f_Base, f_Name := v7.1.f_Name } : T_api_Type) x0))) }), (6, { ans := .yes })], gs := [(4, false), (5, false)], keep := some ([1, 68], []) })] 400 (ev := .cond true c8x26 c8x27 [.seq c8x13]) (σ' := mkS 89 [(1, .ptr [.int .i64 x0.f_Dim, .int .u8 x0.f_Base, .str x0.f_Name]), (68, .bool true)] []) (q := [True ∧ ((True ∧ True) ∧ ([.str v6.1] : List D) = [.str v6.1] ∧ CallAny Try.prog 13 [.str v6.1] (.tup [.agg (row_T_api_Type v7.1), .int .i64 v7.2])), True ∧ (0 ≤ 0 ∧ 0 + ([.int .i64 v7.1.f_Dim, .int .u8 v7.1.f_Base, .str v7.1.f_Name] : List D).length ≤ ([.int .i64 0, .int .u8 0, .str []] : List D).length ∧ ([[.int .i64 v7.1.f_Dim, .int .u8 v7.1.f_Base, .str v7.1.f_Name]] : List (List D)) = ([[.int .i64 v7.1.f_Dim, .int .u8 v7.1.f_Base, .str v7.1.f_Name]] : List (List D))), True ∧ (Try.prog.eqGuardType Try.prog.depth 24 = false ∧ eqq_24 ∧ (!(eqb_T_api_Type ({ f_Dim := v7.1.f_Dim, f_Base := v7.1.f_Base, f_Name := v7.1.f_Name } : T_api_Type) x0)) = (!(eqb_T_api_Type ({ f_Dim := v7.1.f_Dim, f_Base := v7.1.f_Base, f_Name := v7.1.f_Name } : T_api_Type) x0))), ((!(eqb_T_api_Type ({ f_Dim := v7.1.f_Dim, f_Base := v7.1.f_Base, f_Name := v7.1.f_Name } : T_api_Type) x0)) == false) = false, ((!(eqb_T_api_Type ({ f_Dim := v7.1.f_Dim, f_Base := v7.1.f_Base, f_Name := v7.1.f_Name } : T_api_Type) x0)) == false) = false, True ∧ ((!(eqb_T_api_Type ({ f_Dim := v7.1.f_Dim, f_Base := v7.1.f_Base, f_Name := v7.1.f_Name } : T_api_Type) x0)) = true)]) (by kernel_rfl) ⟨⟨trivial, ⟨⟨trivial, trivial⟩, rfl, .inl (w13 e7)⟩⟩, ⟨trivial, ⟨Nat.zero_le _, Nat.le_of_ble_eq_true rfl, rfl⟩⟩, ⟨trivial, ⟨eqg_24, eqp_24, rfl⟩⟩, gB h7 rfl, gB h7 rfl, ⟨trivial, h7⟩, trivial⟩ ?_
      refine EvOk.cond (fun _ => ?_) (fun hb => Bool.noConfusion hb)
      refine At.gc [] [] (n := 89) (l := []) (bl := []) (by kernel_rfl) ?_
      refine At.adv [] [(13, { told := [], gs := [], keep := some ([2], []) })] 400 (ev := .ret) (σ' := mkS 89 [(2, .bool false)] []) (q := []) (by kernel_rfl) trivial ?_
      refine EvOk.ret ?_
      obtain rfl := someE h
      exact Den.Ends.mk (.inl rfl) (d := .bool false) (p := (True ∧ True) ∧ (True ∧ True)) (by kernel_rfl) ⟨⟨trivial, trivial⟩, ⟨trivial, trivial⟩⟩ (by kernel_rfl)
    · replace h := iteF h7 h
      refine At.adv [] [(11, { told := [(1, { ans := .val (.tup [.agg (row_T_api_Type v7.1), .int .i64 v7.2]), args := [.str v6.1] })], gs := [], keep := some ([1, 9, 10], [(9, 9)]) }), (12, { told := [(2, { ans := .val (.bool (!(eqb_T_api_Type ({ f_Dim := v7.1.f_Dim, f_Base := v7.1.f_Base, f_Name := v7.1.f_Name } : T_api_Type) x0))) }), (6, { ans := .no })], gs := [(4, true), (5, true)], keep := some ([1, 68], []) })] 400 (ev := .cond (v7.2 != 0) c8x26 c8x27 [.seq c8x13]) (σ' := mkS 89 [(1, .ptr [.int .i64 x0.f_Dim, .int .u8 x0.f_Base, .str x0.f_Name]), (68, .bool (v7.2 != 0))] []) (q := [True ∧ ((True ∧ True) ∧ ([.str v6.1] : List D) = [.str v6.1] ∧ CallAny Try.prog 13 [.str v6.1] (.tup [.agg (row_T_api_Type v7.1), .int .i64 v7.2])), True ∧ (0 ≤ 0 ∧ 0 + ([.int .i64 v7.1.f_Dim, .int .u8 v7.1.f_Base, .str v7.1.f_Name] : List D).length ≤ ([.int .i64 0, .int .u8 0, .str []] : List D).length ∧ ([[.int .i64 v7.1.f_Dim, .int .u8 v7.1.f_Base, .str v7.1.f_Name]] : List (List D)) = ([[.int .i64 v7.1.f_Dim, .int .u8 v7.1.f_Base, .str v7.1.f_Name]] : List (List D))), True ∧ (Try.prog.eqGuardType Try.prog.depth 24 = false ∧ eqq_24 ∧ (!(eqb_T_api_Type ({ f_Dim := v7.1.f_Dim, f_Base := v7.1.f_Base, f_Name := v7.1.f_Name } : T_api_Type) x0)) = (!(eqb_T_api_Type ({ f_Dim := v7.1.f_Dim, f_Base := v7.1.f_Base, f_Name := v7.1.f_Name } : T_api_Type) x0))), ((!(eqb_T_api_Type ({ f_Dim := v7.1.f_Dim, f_Base := v7.1.f_Base, f_Name := v7.1.f_Name } : T_api_Type) x0)) == false) = true ∧ True, ((!(eqb_T_api_Type ({ f_Dim := v7.1.f_Dim, f_Base := v7.1.f_Base, f_Name := v7.1.f_Name } : T_api_Type) x0)) == false) = true ∧ True, True ∧ ((!(eqb_T_api_Type ({ f_Dim := v7.1.f_Dim, f_Base := v7.1.f_Base, f_Name := v7.1.f_Name } : T_api_Type) x0)) = false)]) (by kernel_rfl) ⟨⟨trivial, ⟨⟨trivial, trivial⟩, rfl, .inl (w13 e7)⟩⟩, ⟨trivial, ⟨Nat.zero_le _, Nat.le_of_ble_eq_true rfl, rfl⟩⟩, ⟨trivial, ⟨eqg_24, eqp_24, rfl⟩⟩, ⟨(gB h7 rfl), trivial⟩, ⟨(gB h7 rfl), trivial⟩, ⟨trivial, h7⟩, trivial⟩ ?_
      refine EvOk.cond (fun h8 => ?_) (fun h8 => ?_)
      · replace h := iteT h8 h
        refine At.gc [] [] (n := 89) (l := []) (bl := []) (by kernel_rfl) ?_
        refine At.adv [] [(13, { told := [], gs := [], keep := some ([2], []) })] 400 (ev := .ret) (σ' := mkS 89 [(2, .bool false)] []) (q := []) (by kernel_rfl) trivial ?_
        refine EvOk.ret ?_
        obtain rfl := someE h
        exact Den.Ends.mk (.inl rfl) (d := .bool false) (p := (True ∧ True) ∧ (True ∧ True)) (by kernel_rfl) ⟨⟨trivial, trivial⟩, ⟨trivial, trivial⟩⟩ (by kernel_rfl)
      · replace h := iteF h8 h
        refine At.gc [1] [] (n := 89) (l := [(1, .ptr [.int .i64 x0.f_Dim, .int .u8 x0.f_Base, .str x0.f_Name])]) (bl := []) (by kernel_rfl) ?_
        refine At.adv [14] [] 400 (ev := .stop c8x29 [.seq c8x30, .seq c8x31]) (σ' := mkS 89 [(1, .ptr [.int .i64 x0.f_Dim, .int .u8 x0.f_Base, .str x0.f_Name])] []) (q := []) (by kernel_rfl) trivial ?_
        exact (wj8x2 x0)  r h Γ
  · replace h := iteF h6 h
    refine At.gc [1] [] (n := 89) (l := [(1, .ptr [.int .i64 x0.f_Dim, .int .u8 x0.f_Base, .str x0.f_Name])]) (bl := []) (by kernel_rfl) ?_
    refine At.adv [14] [] 400 (ev := .stop c8x29 [.seq c8x30, .seq c8x31]) (σ' := mkS 89 [(1, .ptr [.int .i64 x0.f_Dim, .int .u8 x0.f_Base, .str x0.f_Name])] []) (q := []) (by kernel_rfl) trivial ?_
    exact (wj8x2 x0)  r h Γ
theorem we8 (x0 : T_api_Type) (r : Bool) (h : m_armaturelaw04_DescRoundTrip x0 = some r) (Γ : Ctx) : At Try.prog Γ b8 [] (Den.Ends Try.prog Try.f8 (.bool r)) (mkS 89 [(0, .agg (row_T_api_Type x0))] []) := by
  refine At.adv [] [(0, { told := [(0, { ro := true })], gs := [], keep := some ([1], []) }), (1, { told := [], gs := [], keep := some ([1, 18], []) })] 400 (ev := .cond (decide ((x0.f_Name.length : Int) > 500)) c8x20 c8x21 [.seq c8x1]) (σ' := mkS 89 [(1, .ptr [.int .i64 x0.f_Dim, .int .u8 x0.f_Base, .str x0.f_Name]), (18, .bool (decide ((x0.f_Name.length : Int) > 500)))] []) (q := []) (by kernel_rfl) trivial ?_
  refine EvOk.cond (fun h0 => ?_) (fun h0 => ?_)
  · replace h := iteT h0 h
    refine At.gc [] [] (n := 89) (l := []) (bl := []) (by kernel_rfl) ?_
    obtain ⟨v0, e0, h⟩ := bindE h
    refine At.adv [] [(2, { told := [(0, { ans := .val (.bool v0), args := [] })], gs := [], keep := some ([2], []) })] 400 (ev := .ret) (σ' := mkS 89 [(2, .bool v0)] []) (q := [True ∧ (True ∧ ([] : List D) = [] ∧ CallAny Try.prog 10 [] (.bool v0))]) (by kernel_rfl) ⟨⟨trivial, ⟨trivial, rfl, .inl (w10 e0)⟩⟩, trivial⟩ ?_
    refine EvOk.ret ?_
    obtain rfl := someE h
    exact Den.Ends.mk (.inl rfl) (d := .bool v0) (p := (True ∧ True) ∧ (True ∧ True)) (by kernel_rfl) ⟨⟨trivial, trivial⟩, ⟨trivial, trivial⟩⟩ (by kernel_rfl)
  · replace h := iteF h0 h
    refine At.gc [1] [] (n := 89) (l := [(1, .ptr [.int .i64 x0.f_Dim, .int .u8 x0.f_Base, .str x0.f_Name])]) (bl := []) (by kernel_rfl) ?_
    obtain ⟨v1, e1, h⟩ := bindE h
    refine At.adv [] [(3, { told := [(1, { ans := .val (.tup [.str v1.1, .int .i64 v1.2]), args := [.agg [.int .i64 x0.f_Dim, .int .u8 x0.f_Base, .str x0.f_Name]] })], gs := [], keep := some ([1, 3, 4], []) }), (4, { told := [], gs := [], keep := some ([1, 3, 26], []) })] 400 (ev := .cond (v1.2 != 0) c8x16 c8x17 [.seq c8x3]) (σ' := mkS 89 [(1, .ptr [.int .i64 x0.f_Dim, .int .u8 x0.f_Base, .str x0.f_Name]), (3, .str v1.1), (26, .bool (v1.2 != 0))] []) (q := [True ∧ (((True ∧ (True ∧ (True ∧ True))) ∧ True) ∧ ([.agg [.int .i64 x0.f_Dim, .int .u8 x0.f_Base, .str x0.f_Name]] : List D) = [.agg [.int .i64 x0.f_Dim, .int .u8 x0.f_Base, .str x0.f_Name]] ∧ CallAny Try.prog 20 [.agg [.int .i64 x0.f_Dim, .int .u8 x0.f_Base, .str x0.f_Name]] (.tup [.str v1.1, .int .i64 v1.2]))]) (by kernel_rfl) ⟨⟨trivial, ⟨⟨⟨trivial, ⟨trivial, ⟨trivial, trivial⟩⟩⟩, trivial⟩, rfl, .inl (w20 e1)⟩⟩, trivial⟩ ?_
    refine EvOk.cond (fun h1 => ?_) (fun h1 => ?_)
    · replace h := iteT h1 h
      refine At.gc [1] [] (n := 89) (l := [(1, .ptr [.int .i64 x0.f_Dim, .int .u8 x0.f_Base, .str x0.f_Name])]) (bl := []) (by kernel_rfl) ?_
      obtain ⟨v2, e2, h⟩ := bindE h
      rcases Bool.eq_false_or_eq_true (!v2) with h2 | h2
      · replace h := iteT h2 h
        obtain ⟨v3, e3, h⟩ := bindE h
        refine At.adv [] [(5, { told := [(1, { ans := .val (.bool v2), args := [.agg [.int .i64 x0.f_Dim, .int .u8 x0.f_Base, .str x0.f_Name]] }), (4, { ans := .val (.bool v3), args := [] }), (5, { ans := .yes })], gs := [(4, true)], keep := some ([2], []) })] 400 (ev := .ret) (σ' := mkS 89 [(2, .bool v3)] []) (q := [True ∧ (((True ∧ (True ∧ (True ∧ True))) ∧ True) ∧ ([.agg [.int .i64 x0.f_Dim, .int .u8 x0.f_Base, .str x0.f_Name]] : List D) = [.agg [.int .i64 x0.f_Dim, .int .u8 x0.f_Base, .str x0.f_Name]] ∧ CallAny Try.prog 25 [.agg [.int .i64 x0.f_Dim, .int .u8 x0.f_Base, .str x0.f_Name]] (.bool v2)), ((!v2) == true) = true ∧ (True ∧ ([] : List D) = [] ∧ CallAny Try.prog 10 [] (.bool v3)), True ∧ ((!v2) = true)]) (by kernel_rfl) ⟨⟨trivial, ⟨⟨⟨trivial, ⟨trivial, ⟨trivial, trivial⟩⟩⟩, trivial⟩, rfl, .inl (w25 e2)⟩⟩, ⟨(gB h2 rfl), ⟨trivial, rfl, .inl (w10 e3)⟩⟩, ⟨trivial, h2⟩, trivial⟩ ?_
        refine EvOk.ret ?_
        obtain rfl := someE h
        exact Den.Ends.mk (.inl rfl) (d := .bool v3) (p := (True ∧ True) ∧ (True ∧ True)) (by kernel_rfl) ⟨⟨trivial, trivial⟩, ⟨trivial, trivial⟩⟩ (by kernel_rfl)
      · replace h := iteF h2 h
        refine At.adv [] [(5, { told := [(1, { ans := .val (.bool v2), args := [.agg [.int .i64 x0.f_Dim, .int .u8 x0.f_Base, .str x0.f_Name]] }), (5, { ans := .no })], gs := [(4, false)], keep := some ([2], []) })] 400 (ev := .ret) (σ' := mkS 89 [(2, .bool false)] []) (q := [True ∧ (((True ∧ (True ∧ (True ∧ True))) ∧ True) ∧ ([.agg [.int .i64 x0.f_Dim, .int .u8 x0.f_Base, .str x0.f_Name]] : List D) = [.agg [.int .i64 x0.f_Dim, .int .u8 x0.f_Base, .str x0.f_Name]] ∧ CallAny Try.prog 25 [.agg [.int .i64 x0.f_Dim, .int .u8 x0.f_Base, .str x0.f_Name]] (.bool v2)), ((!v2) == true) = false, True ∧ ((!v2) = false)]) (by kernel_rfl) ⟨⟨trivial, ⟨⟨⟨trivial, ⟨trivial, ⟨trivial, trivial⟩⟩⟩, trivial⟩, rfl, .inl (w25 e2)⟩⟩, gB h2 rfl, ⟨trivial, h2⟩, trivial⟩ ?_
        refine EvOk.ret ?_
        obtain rfl := someE h
        exact Den.Ends.mk (.inl rfl) (d := .bool false) (p := (True ∧ True) ∧ (True ∧ True)) (by kernel_rfl) ⟨⟨trivial, trivial⟩, ⟨trivial, trivial⟩⟩ (by kernel_rfl)
    · replace h := iteF h1 h
      refine At.gc [1, 3] [] (n := 89) (l := [(1, .ptr [.int .i64 x0.f_Dim, .int .u8 x0.f_Base, .str x0.f_Name]), (3, .str v1.1)]) (bl := []) (by kernel_rfl) ?_
      obtain ⟨v4, e4, h⟩ := bindE h
      rcases Bool.eq_false_or_eq_true (!(eqb_T_api_Type ({ f_Dim := v4.1.f_Dim, f_Base := v4.1.f_Base, f_Name := v4.1.f_Name } : T_api_Type) x0)) with h3 | h3
      · replace h := iteT h3 h
        refine At.adv [] [(6, { told := [(1, { ans := .val (.tup [.agg (row_T_api_Type v4.1), .int .i64 v4.2]), args := [.str v1.1] })], gs := [], keep := some ([1, 5, 6], [(5, 5)]) }), (7, { told := [(2, { ans := .val (.bool (!(eqb_T_api_Type ({ f_Dim := v4.1.f_Dim, f_Base := v4.1.f_Base, f_Name := v4.1.f_Name } : T_api_Type) x0))) }), (6, { ans := .yes })], gs := [(4, false), (5, false)], keep := some ([1, 49], []) })] 400 (ev := .cond true c8x7 c8x8 [.seq c8x9]) (σ' := mkS 89 [(1, .ptr [.int .i64 x0.f_Dim, .int .u8 x0.f_Base, .str x0.f_Name]), (49, .bool true)] []) (q := [True ∧ ((True ∧ True) ∧ ([.str v1.1] : List D) = [.str v1.1] ∧ CallAny Try.prog 11 [.str v1.1] (.tup [.agg (row_T_api_Type v4.1), .int .i64 v4.2])), True ∧ (0 ≤ 0 ∧ 0 + ([.int .i64 v4.1.f_Dim, .int .u8 v4.1.f_Base, .str v4.1.f_Name] : List D).length ≤ ([.int .i64 0, .int .u8 0, .str []] : List D).length ∧ ([[.int .i64 v4.1.f_Dim, .int .u8 v4.1.f_Base, .str v4.1.f_Name]] : List (List D)) = ([[.int .i64 v4.1.f_Dim, .int .u8 v4.1.f_Base, .str v4.1.f_Name]] : List (List D))), True ∧ (Try.prog.eqGuardType Try.prog.depth 24 = false ∧ eqq_24 ∧ (!(eqb_T_api_Type ({ f_Dim := v4.1.f_Dim, f_Base := v4.1.f_Base, f_Name := v4.1.f_Name } : T_api_Type) x0)) = (!(eqb_T_api_Type ({ f_Dim := v4.1.f_Dim, f_Base := v4.1.f_Base, f_Name := v4.1.f_Name } : T_api_Type) x0))), ((!(eqb_T_api_Type ({ f_Dim := v4.1.f_Dim, f_Base := v4.1.f_Base, f_Name := v4.1.f_Name } : T_api_Type) x0)) == false) = false, ((!(eqb_T_api_Type ({ f_Dim := v4.1.f_Dim, f_Base := v4.1.f_Base, f_Name := v4.1.f_Name } : T_api_Type) x0)) == false) = false, True ∧ ((!(eqb_T_api_Type ({ f_Dim := v4.1.f_Dim, f_Base := v4.1.f_Base, f_Name := v4.1.f_Name } : T_api_Type) x0)) = true), True, True, True]) (by kernel_rfl) ⟨⟨trivial, ⟨⟨trivial, trivial⟩, rfl, .inl (w11 e4)⟩⟩, ⟨trivial, ⟨Nat.zero_le _, Nat.le_of_ble_eq_true rfl, rfl⟩⟩, ⟨trivial, ⟨eqg_24, eqp_24, rfl⟩⟩, gB h3 rfl, gB h3 rfl, ⟨trivial, h3⟩, trivial, trivial, trivial, trivial⟩ ?_
        refine EvOk.cond (fun _ => ?_) (fun hb => Bool.noConfusion hb)
        refine At.gc [] [] (n := 89) (l := []) (bl := []) (by kernel_rfl) ?_
        refine At.adv [] [(8, { told := [], gs := [], keep := some ([2], []) })] 400 (ev := .ret) (σ' := mkS 89 [(2, .bool false)] []) (q := []) (by kernel_rfl) trivial ?_
        refine EvOk.ret ?_
        obtain rfl := someE h
        exact Den.Ends.mk (.inl rfl) (d := .bool false) (p := (True ∧ True) ∧ (True ∧ True)) (by kernel_rfl) ⟨⟨trivial, trivial⟩, ⟨trivial, trivial⟩⟩ (by kernel_rfl)
      · replace h := iteF h3 h
        rcases Bool.eq_false_or_eq_true (v4.2 != 0) with h4 | h4
        · replace h := iteT h4 h
          refine At.adv [] [(6, { told := [(1, { ans := .val (.tup [.agg (row_T_api_Type v4.1), .int .i64 v4.2]), args := [.str v1.1] })], gs := [], keep := some ([1, 5, 6], [(5, 5)]) }), (7, { told := [(2, { ans := .val (.bool (!(eqb_T_api_Type ({ f_Dim := v4.1.f_Dim, f_Base := v4.1.f_Base, f_Name := v4.1.f_Name } : T_api_Type) x0))) }), (6, { ans := .no }), (11, { ans := .yes })], gs := [(4, true), (5, true), (8, false), (9, false), (10, false)], keep := some ([1, 49], []) })] 400 (ev := .cond true c8x7 c8x8 [.seq c8x9]) (σ' := mkS 89 [(1, .ptr [.int .i64 x0.f_Dim, .int .u8 x0.f_Base, .str x0.f_Name]), (49, .bool true)] []) (q := [True ∧ ((True ∧ True) ∧ ([.str v1.1] : List D) = [.str v1.1] ∧ CallAny Try.prog 11 [.str v1.1] (.tup [.agg (row_T_api_Type v4.1), .int .i64 v4.2])), True ∧ (0 ≤ 0 ∧ 0 + ([.int .i64 v4.1.f_Dim, .int .u8 v4.1.f_Base, .str v4.1.f_Name] : List D).length ≤ ([.int .i64 0, .int .u8 0, .str []] : List D).length ∧ ([[.int .i64 v4.1.f_Dim, .int .u8 v4.1.f_Base, .str v4.1.f_Name]] : List (List D)) = ([[.int .i64 v4.1.f_Dim, .int .u8 v4.1.f_Base, .str v4.1.f_Name]] : List (List D))), True ∧ (Try.prog.eqGuardType Try.prog.depth 24 = false ∧ eqq_24 ∧ (!(eqb_T_api_Type ({ f_Dim := v4.1.f_Dim, f_Base := v4.1.f_Base, f_Name := v4.1.f_Name } : T_api_Type) x0)) = (!(eqb_T_api_Type ({ f_Dim := v4.1.f_Dim, f_Base := v4.1.f_Base, f_Name := v4.1.f_Name } : T_api_Type) x0))), ((!(eqb_T_api_Type ({ f_Dim := v4.1.f_Dim, f_Base := v4.1.f_Base, f_Name := v4.1.f_Name } : T_api_Type) x0)) == false) = true ∧ True, ((!(eqb_T_api_Type ({ f_Dim := v4.1.f_Dim, f_Base := v4.1.f_Base, f_Name := v4.1.f_Name } : T_api_Type) x0)) == false) = true ∧ True, True ∧ ((!(eqb_T_api_Type ({ f_Dim := v4.1.f_Dim, f_Base := v4.1.f_Base, f_Name := v4.1.f_Name } : T_api_Type) x0)) = false), ((v4.2 != 0) == false) = false, ((v4.2 != 0) == false) = false, ((v4.2 != 0) == false) = false, True ∧ ((v4.2 != 0) = true)]) (by kernel_rfl) ⟨⟨trivial, ⟨⟨trivial, trivial⟩, rfl, .inl (w11 e4)⟩⟩, ⟨trivial, ⟨Nat.zero_le _, Nat.le_of_ble_eq_true rfl, rfl⟩⟩, ⟨trivial, ⟨eqg_24, eqp_24, rfl⟩⟩, ⟨(gB h3 rfl), trivial⟩, ⟨(gB h3 rfl), trivial⟩, ⟨trivial, h3⟩, gB h4 rfl, gB h4 rfl, gB h4 rfl, ⟨trivial, h4⟩, trivial⟩ ?_
          refine EvOk.cond (fun _ => ?_) (fun hb => Bool.noConfusion hb)
          refine At.gc [] [] (n := 89) (l := []) (bl := []) (by kernel_rfl) ?_
          refine At.adv [] [(8, { told := [], gs := [], keep := some ([2], []) })] 400 (ev := .ret) (σ' := mkS 89 [(2, .bool false)] []) (q := []) (by kernel_rfl) trivial ?_
          refine EvOk.ret ?_
          obtain rfl := someE h
          exact Den.Ends.mk (.inl rfl) (d := .bool false) (p := (True ∧ True) ∧ (True ∧ True)) (by kernel_rfl) ⟨⟨trivial, trivial⟩, ⟨trivial, trivial⟩⟩ (by kernel_rfl)
        · replace h := iteF h4 h
          obtain ⟨v5, e5, h⟩ := bindE h
          refine At.adv [] [(6, { told := [(1, { ans := .val (.tup [.agg (row_T_api_Type v4.1), .int .i64 v4.2]), args := [.str v1.1] })], gs := [], keep := some ([1, 5, 6], [(5, 5)]) }), (7, { told := [(2, { ans := .val (.bool (!(eqb_T_api_Type ({ f_Dim := v4.1.f_Dim, f_Base := v4.1.f_Base, f_Name := v4.1.f_Name } : T_api_Type) x0))) }), (6, { ans := .no }), (9, { ans := .val (.bool v5), args := [.agg [.int .i64 x0.f_Dim, .int .u8 x0.f_Base, .str x0.f_Name]] }), (11, { ans := .no })], gs := [(4, true), (5, true), (8, true), (9, true), (10, true)], keep := some ([1, 49], []) })] 400 (ev := .cond (!v5) c8x7 c8x8 [.seq c8x9]) (σ' := mkS 89 [(1, .ptr [.int .i64 x0.f_Dim, .int .u8 x0.f_Base, .str x0.f_Name]), (49, .bool (!v5))] []) (q := [True ∧ ((True ∧ True) ∧ ([.str v1.1] : List D) = [.str v1.1] ∧ CallAny Try.prog 11 [.str v1.1] (.tup [.agg (row_T_api_Type v4.1), .int .i64 v4.2])), True ∧ (0 ≤ 0 ∧ 0 + ([.int .i64 v4.1.f_Dim, .int .u8 v4.1.f_Base, .str v4.1.f_Name] : List D).length ≤ ([.int .i64 0, .int .u8 0, .str []] : List D).length ∧ ([[.int .i64 v4.1.f_Dim, .int .u8 v4.1.f_Base, .str v4.1.f_Name]] : List (List D)) = ([[.int .i64 v4.1.f_Dim, .int .u8 v4.1.f_Base, .str v4.1.f_Name]] : List (List D))), True ∧ (Try.prog.eqGuardType Try.prog.depth 24 = false ∧ eqq_24 ∧ (!(eqb_T_api_Type ({ f_Dim := v4.1.f_Dim, f_Base := v4.1.f_Base, f_Name := v4.1.f_Name } : T_api_Type) x0)) = (!(eqb_T_api_Type ({ f_Dim := v4.1.f_Dim, f_Base := v4.1.f_Base, f_Name := v4.1.f_Name } : T_api_Type) x0))), ((!(eqb_T_api_Type ({ f_Dim := v4.1.f_Dim, f_Base := v4.1.f_Base, f_Name := v4.1.f_Name } : T_api_Type) x0)) == false) = true ∧ True, ((!(eqb_T_api_Type ({ f_Dim := v4.1.f_Dim, f_Base := v4.1.f_Base, f_Name := v4.1.f_Name } : T_api_Type) x0)) == false) = true ∧ True, True ∧ ((!(eqb_T_api_Type ({ f_Dim := v4.1.f_Dim, f_Base := v4.1.f_Base, f_Name := v4.1.f_Name } : T_api_Type) x0)) = false), ((v4.2 != 0) == false) = true ∧ True, ((v4.2 != 0) == false) = true ∧ (((True ∧ (True ∧ (True ∧ True))) ∧ True) ∧ ([.agg [.int .i64 x0.f_Dim, .int .u8 x0.f_Base, .str x0.f_Name]] : List D) = [.agg [.int .i64 x0.f_Dim, .int .u8 x0.f_Base, .str x0.f_Name]] ∧ CallAny Try.prog 25 [.agg [.int .i64 x0.f_Dim, .int .u8 x0.f_Base, .str x0.f_Name]] (.bool v5)), ((v4.2 != 0) == false) = true ∧ True, True ∧ ((v4.2 != 0) = false)]) (by kernel_rfl) ⟨⟨trivial, ⟨⟨trivial, trivial⟩, rfl, .inl (w11 e4)⟩⟩, ⟨trivial, ⟨Nat.zero_le _, Nat.le_of_ble_eq_true rfl, rfl⟩⟩, ⟨trivial, ⟨eqg_24, eqp_24, rfl⟩⟩, ⟨(gB h3 rfl), trivial⟩, ⟨(gB h3 rfl), trivial⟩, ⟨trivial, h3⟩, ⟨(gB h4 rfl), trivial⟩, ⟨(gB h4 rfl), ⟨⟨⟨trivial, ⟨trivial, ⟨trivial, trivial⟩⟩⟩, trivial⟩, rfl, .inl (w25 e5)⟩⟩, ⟨(gB h4 rfl), trivial⟩, ⟨trivial, h4⟩, trivial⟩ ?_
          refine EvOk.cond (fun h5 => ?_) (fun h5 => ?_)
          · replace h := iteT h5 h
            refine At.gc [] [] (n := 89) (l := []) (bl := []) (by kernel_rfl) ?_
            refine At.adv [] [(8, { told := [], gs := [], keep := some ([2], []) })] 400 (ev := .ret) (σ' := mkS 89 [(2, .bool false)] []) (q := []) (by kernel_rfl) trivial ?_
            refine EvOk.ret ?_
            obtain rfl := someE h
            exact Den.Ends.mk (.inl rfl) (d := .bool false) (p := (True ∧ True) ∧ (True ∧ True)) (by kernel_rfl) ⟨⟨trivial, trivial⟩, ⟨trivial, trivial⟩⟩ (by kernel_rfl)
          · replace h := iteF h5 h
            refine At.gc [1] [] (n := 89) (l := [(1, .ptr [.int .i64 x0.f_Dim, .int .u8 x0.f_Base, .str x0.f_Name])]) (bl := []) (by kernel_rfl) ?_
            refine At.adv [9] [] 400 (ev := .stop c8x11 [.seq c8x12, .seq c8x13]) (σ' := mkS 89 [(1, .ptr [.int .i64 x0.f_Dim, .int .u8 x0.f_Base, .str x0.f_Name])] []) (q := []) (by kernel_rfl) trivial ?_
            exact (wj8x1 x0)  r h Γ
theorem w8 {x0 : T_api_Type} {r : Bool} (h : m_armaturelaw04_DescRoundTrip x0 = some r) : CallSpec Try.prog 8 [.agg (row_T_api_Type x0)] (.bool r) :=
  CallSpec.at2 b8 (n := 89) (l := [(0, .agg (row_T_api_Type x0))]) (by kernel_rfl) (by kernel_rfl) (by kernel_rfl) (by kernel_rfl) (by kernel_rfl) (Nat.le_of_ble_eq_true (by kernel_rfl)) (fun Γ => we8 x0 r h Γ)
end Go.Proofs
