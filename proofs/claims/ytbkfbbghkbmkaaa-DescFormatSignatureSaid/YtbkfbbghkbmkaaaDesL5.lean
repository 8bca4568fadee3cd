/-
  Models of functions of the program, and that the functions compute them. Printed by den2.py. No condition.
-/
import Derived.Test.YtbkfbbghkbmkaaaDes3
set_option linter.unusedVariables false
namespace Go.Proofs
open Go.Den
/-! ### armature armaturelaw04.DescFormatSignature -/
noncomputable def b5 : Code := Try.f5.body.getD .skip
noncomputable def c5x0 : Code := sub1 b5
noncomputable def c5x1 : Code := sub0 c5x0
noncomputable def c5x2 : Code := sub1 c5x1
noncomputable def c5x3 : Code := sub0 c5x2
noncomputable def c5x4 : Code := sub1 c5x2
noncomputable def c5x5 : Code := sub1 c5x0
def m_armaturelaw04_DescFormatSignature (x0 : T_api_Sig) : Option (Bool) :=
  if (decide ((x0.f_Params.length : Int) > 40)) = true then
    ((m_armaturelaw04_works).bind fun v0 =>
    some v0) else
  ((m_desc_FormatSignature x0).bind fun v1 =>
    (m_armatureref04_FormatSignature x0).bind fun v2 =>
    if (v1.1 == v2.1) = true then (if (v1.2 == v2.2) = true then ((m_armaturelaw04_works).bind fun v3 =>
    some v3) else
    (some false)) else
    (some false))
theorem we5 (x0 : T_api_Sig) (r : Bool) (h : m_armaturelaw04_DescFormatSignature x0 = some r) (Γ : Ctx) : At Try.prog Γ b5 [] (Den.Ends Try.prog Try.f5 (.bool r)) (mkS 33 [(0, .agg (row_T_api_Sig x0))] []) := by
  refine At.adv [] [(0, { told := [(0, { ro := true })], gs := [], keep := some ([1], []) }), (1, { told := [(2, { ans := .val (.int .i64 (x0.f_Params.length : Int)) })], gs := [], keep := some ([1, 10], []) })] 400 (ev := .cond (decide ((x0.f_Params.length : Int) > 40)) c5x3 c5x4 [.seq c5x5]) (σ' := mkS 33 [(1, .ptr [.sl false (x0.f_Params.map row_T_api_Type), .int .i64 x0.f_Result.f_Dim, .int .u8 x0.f_Result.f_Base, .str x0.f_Result.f_Name]), (10, .bool (decide ((x0.f_Params.length : Int) > 40)))] []) (q := [True ∧ (((x0.f_Params.map row_T_api_Type).length : Int) = (x0.f_Params.length : Int))]) (by kernel_rfl) ⟨⟨trivial, lenM _ _⟩, trivial⟩ ?_
  refine EvOk.cond (fun h0 => ?_) (fun h0 => ?_)
  · replace h := iteT h0 h
    refine At.gc [] [] (n := 33) (l := []) (bl := []) (by kernel_rfl) ?_
    obtain ⟨v0, e0, h⟩ := bindE h
    refine At.adv [] [(2, { told := [(0, { ans := .val (.bool v0), args := [] })], gs := [], keep := some ([2], []) })] 400 (ev := .ret) (σ' := mkS 33 [(2, .bool v0)] []) (q := [True ∧ (True ∧ ([] : List D) = [] ∧ CallAny Try.prog 10 [] (.bool v0))]) (by kernel_rfl) ⟨⟨trivial, ⟨trivial, rfl, .inl (w10 e0)⟩⟩, trivial⟩ ?_
    refine EvOk.ret ?_
    obtain rfl := someE h
    exact Den.Ends.mk (.inl rfl) (d := .bool v0) (p := (True ∧ True) ∧ (True ∧ True)) (by kernel_rfl) ⟨⟨trivial, trivial⟩, ⟨trivial, trivial⟩⟩ (by kernel_rfl)
  · replace h := iteF h0 h
    refine At.gc [1] [] (n := 33) (l := [(1, .ptr [.sl false (x0.f_Params.map row_T_api_Type), .int .i64 x0.f_Result.f_Dim, .int .u8 x0.f_Result.f_Base, .str x0.f_Result.f_Name])]) (bl := []) (by kernel_rfl) ?_
    obtain ⟨v1, e1, h⟩ := bindE h
    obtain ⟨v2, e2, h⟩ := bindE h
    rcases Bool.eq_false_or_eq_true (v1.1 == v2.1) with h1 | h1
    · replace h := iteT h1 h
      rcases Bool.eq_false_or_eq_true (v1.2 == v2.2) with h2 | h2
      · replace h := iteT h2 h
        obtain ⟨v3, e3, h⟩ := bindE h
        refine At.adv [] [(3, { told := [(1, { ans := .val (.tup [.str v1.1, .int .i64 v1.2]), args := [.agg [.sl false (x0.f_Params.map row_T_api_Type), .int .i64 x0.f_Result.f_Dim, .int .u8 x0.f_Result.f_Base, .str x0.f_Result.f_Name]] })], gs := [], keep := some ([1, 3, 4], []) }), (4, { told := [(1, { ans := .val (.tup [.str v2.1, .int .i64 v2.2]), args := [.agg [.sl false (x0.f_Params.map row_T_api_Type), .int .i64 x0.f_Result.f_Dim, .int .u8 x0.f_Result.f_Base, .str x0.f_Result.f_Name]] })], gs := [], keep := some ([3, 4, 5, 6], []) }), (5, { told := [(7, { ans := .yes }), (9, { ans := .val (.bool v3), args := [] }), (10, { ans := .yes })], gs := [(4, true), (5, true), (6, true), (9, true)], keep := some ([2], []) })] 400 (ev := .ret) (σ' := mkS 33 [(2, .bool v3)] []) (q := [True ∧ (((True ∧ (True ∧ (True ∧ (True ∧ True)))) ∧ True) ∧ ([.agg [.sl false (x0.f_Params.map row_T_api_Type), .int .i64 x0.f_Result.f_Dim, .int .u8 x0.f_Result.f_Base, .str x0.f_Result.f_Name]] : List D) = [.agg [.sl false (x0.f_Params.map row_T_api_Type), .int .i64 x0.f_Result.f_Dim, .int .u8 x0.f_Result.f_Base, .str x0.f_Result.f_Name]] ∧ CallAny Try.prog 18 [.agg [.sl false (x0.f_Params.map row_T_api_Type), .int .i64 x0.f_Result.f_Dim, .int .u8 x0.f_Result.f_Base, .str x0.f_Result.f_Name]] (.tup [.str v1.1, .int .i64 v1.2])), True ∧ (((True ∧ (True ∧ (True ∧ (True ∧ True)))) ∧ True) ∧ ([.agg [.sl false (x0.f_Params.map row_T_api_Type), .int .i64 x0.f_Result.f_Dim, .int .u8 x0.f_Result.f_Base, .str x0.f_Result.f_Name]] : List D) = [.agg [.sl false (x0.f_Params.map row_T_api_Type), .int .i64 x0.f_Result.f_Dim, .int .u8 x0.f_Result.f_Base, .str x0.f_Result.f_Name]] ∧ CallAny Try.prog 19 [.agg [.sl false (x0.f_Params.map row_T_api_Type), .int .i64 x0.f_Result.f_Dim, .int .u8 x0.f_Result.f_Base, .str x0.f_Result.f_Name]] (.tup [.str v2.1, .int .i64 v2.2])), ((v1.1 == v2.1) == true) = true ∧ True, ((v1.1 == v2.1) == true) = true ∧ True, ((v1.1 == v2.1) == true) = true ∧ True, True ∧ ((v1.1 == v2.1) = true), ((v1.2 == v2.2) == true) = true ∧ (True ∧ ([] : List D) = [] ∧ CallAny Try.prog 10 [] (.bool v3)), True ∧ ((v1.2 == v2.2) = true)]) (by kernel_rfl) ⟨⟨trivial, ⟨⟨⟨trivial, ⟨trivial, ⟨trivial, ⟨trivial, trivial⟩⟩⟩⟩, trivial⟩, rfl, .inl (w18 e1)⟩⟩, ⟨trivial, ⟨⟨⟨trivial, ⟨trivial, ⟨trivial, ⟨trivial, trivial⟩⟩⟩⟩, trivial⟩, rfl, .inl (w19 e2)⟩⟩, ⟨(gB h1 rfl), trivial⟩, ⟨(gB h1 rfl), trivial⟩, ⟨(gB h1 rfl), trivial⟩, ⟨trivial, h1⟩, ⟨(gB h2 rfl), ⟨trivial, rfl, .inl (w10 e3)⟩⟩, ⟨trivial, h2⟩, trivial⟩ ?_
        refine EvOk.ret ?_
        obtain rfl := someE h
        exact Den.Ends.mk (.inl rfl) (d := .bool v3) (p := (True ∧ True) ∧ (True ∧ True)) (by kernel_rfl) ⟨⟨trivial, trivial⟩, ⟨trivial, trivial⟩⟩ (by kernel_rfl)
      · replace h := iteF h2 h
        refine At.adv [] [(3, { told := [(1, { ans := .val (.tup [.str v1.1, .int .i64 v1.2]), args := [.agg [.sl false (x0.f_Params.map row_T_api_Type), .int .i64 x0.f_Result.f_Dim, .int .u8 x0.f_Result.f_Base, .str x0.f_Result.f_Name]] })], gs := [], keep := some ([1, 3, 4], []) }), (4, { told := [(1, { ans := .val (.tup [.str v2.1, .int .i64 v2.2]), args := [.agg [.sl false (x0.f_Params.map row_T_api_Type), .int .i64 x0.f_Result.f_Dim, .int .u8 x0.f_Result.f_Base, .str x0.f_Result.f_Name]] })], gs := [], keep := some ([3, 4, 5, 6], []) }), (5, { told := [(7, { ans := .yes }), (10, { ans := .no })], gs := [(4, true), (5, true), (6, true), (9, false)], keep := some ([2], []) })] 400 (ev := .ret) (σ' := mkS 33 [(2, .bool false)] []) (q := [True ∧ (((True ∧ (True ∧ (True ∧ (True ∧ True)))) ∧ True) ∧ ([.agg [.sl false (x0.f_Params.map row_T_api_Type), .int .i64 x0.f_Result.f_Dim, .int .u8 x0.f_Result.f_Base, .str x0.f_Result.f_Name]] : List D) = [.agg [.sl false (x0.f_Params.map row_T_api_Type), .int .i64 x0.f_Result.f_Dim, .int .u8 x0.f_Result.f_Base, .str x0.f_Result.f_Name]] ∧ CallAny Try.prog 18 [.agg [.sl false (x0.f_Params.map row_T_api_Type), .int .i64 x0.f_Result.f_Dim, .int .u8 x0.f_Result.f_Base, .str x0.f_Result.f_Name]] (.tup [.str v1.1, .int .i64 v1.2])), True ∧ (((True ∧ (True ∧ (True ∧ (True ∧ True)))) ∧ True) ∧ ([.agg [.sl false (x0.f_Params.map row_T_api_Type), .int .i64 x0.f_Result.f_Dim, .int .u8 x0.f_Result.f_Base, .str x0.f_Result.f_Name]] : List D) = [.agg [.sl false (x0.f_Params.map row_T_api_Type), .int .i64 x0.f_Result.f_Dim, .int .u8 x0.f_Result.f_Base, .str x0.f_Result.f_Name]] ∧ CallAny Try.prog 19 [.agg [.sl false (x0.f_Params.map row_T_api_Type), .int .i64 x0.f_Result.f_Dim, .int .u8 x0.f_Result.f_Base, .str x0.f_Result.f_Name]] (.tup [.str v2.1, .int .i64 v2.2])), ((v1.1 == v2.1) == true) = true ∧ True, ((v1.1 == v2.1) == true) = true ∧ True, ((v1.1 == v2.1) == true) = true ∧ True, True ∧ ((v1.1 == v2.1) = true), ((v1.2 == v2.2) == true) = false, True ∧ ((v1.2 == v2.2) = false)]) (by kernel_rfl) ⟨⟨trivial, ⟨⟨⟨trivial, ⟨trivial, ⟨trivial, ⟨trivial, trivial⟩⟩⟩⟩, trivial⟩, rfl, .inl (w18 e1)⟩⟩, ⟨trivial, ⟨⟨⟨trivial, ⟨trivial, ⟨trivial, ⟨trivial, trivial⟩⟩⟩⟩, trivial⟩, rfl, .inl (w19 e2)⟩⟩, ⟨(gB h1 rfl), trivial⟩, ⟨(gB h1 rfl), trivial⟩, ⟨(gB h1 rfl), trivial⟩, ⟨trivial, h1⟩, gB h2 rfl, ⟨trivial, h2⟩, trivial⟩ ?_
        refine EvOk.ret ?_
        obtain rfl := someE h
        exact Den.Ends.mk (.inl rfl) (d := .bool false) (p := (True ∧ True) ∧ (True ∧ True)) (by kernel_rfl) ⟨⟨trivial, trivial⟩, ⟨trivial, trivial⟩⟩ (by kernel_rfl)
    · replace h := iteF h1 h
      refine At.adv [] [(3, { told := [(1, { ans := .val (.tup [.str v1.1, .int .i64 v1.2]), args := [.agg [.sl false (x0.f_Params.map row_T_api_Type), .int .i64 x0.f_Result.f_Dim, .int .u8 x0.f_Result.f_Base, .str x0.f_Result.f_Name]] })], gs := [], keep := some ([1, 3, 4], []) }), (4, { told := [(1, { ans := .val (.tup [.str v2.1, .int .i64 v2.2]), args := [.agg [.sl false (x0.f_Params.map row_T_api_Type), .int .i64 x0.f_Result.f_Dim, .int .u8 x0.f_Result.f_Base, .str x0.f_Result.f_Name]] })], gs := [], keep := some ([3, 4, 5, 6], []) }), (5, { told := [(7, { ans := .no })], gs := [(4, false), (5, false), (6, false)], keep := some ([2], []) })] 400 (ev := .ret) (σ' := mkS 33 [(2, .bool false)] []) (q := [True ∧ (((True ∧ (True ∧ (True ∧ (True ∧ True)))) ∧ True) ∧ ([.agg [.sl false (x0.f_Params.map row_T_api_Type), .int .i64 x0.f_Result.f_Dim, .int .u8 x0.f_Result.f_Base, .str x0.f_Result.f_Name]] : List D) = [.agg [.sl false (x0.f_Params.map row_T_api_Type), .int .i64 x0.f_Result.f_Dim, .int .u8 x0.f_Result.f_Base, .str x0.f_Result.f_Name]] ∧ CallAny Try.prog 18 [.agg [.sl false (x0.f_Params.map row_T_api_Type), .int .i64 x0.f_Result.f_Dim, .int .u8 x0.f_Result.f_Base, .str x0.f_Result.f_Name]] (.tup [.str v1.1, .int .i64 v1.2])), True ∧ (((True ∧ (True ∧ (True ∧ (True ∧ True)))) ∧ True) ∧ ([.agg [.sl false (x0.f_Params.map row_T_api_Type), .int .i64 x0.f_Result.f_Dim, .int .u8 x0.f_Result.f_Base, .str x0.f_Result.f_Name]] : List D) = [.agg [.sl false (x0.f_Params.map row_T_api_Type), .int .i64 x0.f_Result.f_Dim, .int .u8 x0.f_Result.f_Base, .str x0.f_Result.f_Name]] ∧ CallAny Try.prog 19 [.agg [.sl false (x0.f_Params.map row_T_api_Type), .int .i64 x0.f_Result.f_Dim, .int .u8 x0.f_Result.f_Base, .str x0.f_Result.f_Name]] (.tup [.str v2.1, .int .i64 v2.2])), ((v1.1 == v2.1) == true) = false, ((v1.1 == v2.1) == true) = false, ((v1.1 == v2.1) == true) = false, True ∧ ((v1.1 == v2.1) = false), True]) (by kernel_rfl) ⟨⟨trivial, ⟨⟨⟨trivial, ⟨trivial, ⟨trivial, ⟨trivial, trivial⟩⟩⟩⟩, trivial⟩, rfl, .inl (w18 e1)⟩⟩, ⟨trivial, ⟨⟨⟨trivial, ⟨trivial, ⟨trivial, ⟨trivial, trivial⟩⟩⟩⟩, trivial⟩, rfl, .inl (w19 e2)⟩⟩, gB h1 rfl, gB h1 rfl, gB h1 rfl, ⟨trivial, h1⟩, trivial, trivial⟩ ?_
      refine EvOk.ret ?_
      obtain rfl := someE h
      exact Den.Ends.mk (.inl rfl) (d := .bool false) (p := (True ∧ True) ∧ (True ∧ True)) (by kernel_rfl) ⟨⟨trivial, trivial⟩, ⟨trivial, trivial⟩⟩ (by kernel_rfl)
theorem w5 {x0 : T_api_Sig} {r : Bool} (h : m_armaturelaw04_DescFormatSignature x0 = some r) : CallSpec Try.prog 5 [.agg (row_T_api_Sig x0)] (.bool r) :=
  CallSpec.at2 b5 (n := 33) (l := [(0, .agg (row_T_api_Sig x0))]) (by kernel_rfl) (by kernel_rfl) (by kernel_rfl) (by kernel_rfl) (by kernel_rfl) (Nat.le_of_ble_eq_true (by kernel_rfl)) (fun Γ => we5 x0 r h Γ)
end Go.Proofs
