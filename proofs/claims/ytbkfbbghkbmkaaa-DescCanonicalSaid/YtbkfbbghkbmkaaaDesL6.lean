/-
  Models of functions of the program, and that the functions compute them. Printed by den2.py. No condition.
-/
import Derived.Test.YtbkfbbghkbmkaaaDes3
set_option linter.unusedVariables false
namespace Go.Proofs
open Go.Den
/-! ### armature armaturelaw04.DescCanonical -/
noncomputable def b6 : Code := Try.f6.body.getD .skip
noncomputable def c6x0 : Code := sub1 b6
noncomputable def c6x1 : Code := sub1 c6x0
noncomputable def c6x2 : Code := sub0 c6x1
noncomputable def c6x3 : Code := sub1 c6x2
noncomputable def c6x4 : Code := sub1 c6x3
noncomputable def c6x5 : Code := sub0 c6x4
noncomputable def c6x6 : Code := sub1 c6x5
noncomputable def c6x7 : Code := sub1 c6x6
noncomputable def c6x8 : Code := sub0 c6x7
noncomputable def c6x9 : Code := sub1 c6x7
noncomputable def c6x10 : Code := sub1 c6x1
noncomputable def c6x11 : Code := sub0 c6x10
noncomputable def c6x12 : Code := sub0 c6x11
noncomputable def c6x13 : Code := sub1 c6x11
noncomputable def c6x14 : Code := sub1 c6x10
noncomputable def c6x15 : Code := sub1 c6x4
noncomputable def c6x16 : Code := sub0 c6x0
noncomputable def c6x17 : Code := sub1 c6x16
noncomputable def c6x18 : Code := sub0 c6x17
noncomputable def c6x19 : Code := sub1 c6x17
noncomputable def c6x20 : Code := sub1 c6x13
noncomputable def c6x21 : Code := sub0 c6x20
noncomputable def c6x22 : Code := sub1 c6x21
noncomputable def c6x23 : Code := sub1 c6x22
noncomputable def c6x24 : Code := sub0 c6x23
noncomputable def c6x25 : Code := sub1 c6x23
noncomputable def c6x26 : Code := sub0 c6x14
noncomputable def c6x27 : Code := sub0 c6x26
noncomputable def c6x28 : Code := sub1 c6x26
noncomputable def c6x29 : Code := sub1 c6x14
noncomputable def c6x30 : Code := sub1 c6x20
noncomputable def c6x31 : Code := sub1 c6x28
noncomputable def c6x32 : Code := sub0 c6x31
noncomputable def c6x33 : Code := sub1 c6x32
noncomputable def c6x34 : Code := sub1 c6x33
noncomputable def c6x35 : Code := sub0 c6x34
noncomputable def c6x36 : Code := sub1 c6x34
noncomputable def c6x37 : Code := sub0 c6x29
noncomputable def c6x38 : Code := sub1 c6x29
noncomputable def c6x39 : Code := sub1 c6x31
def j6x3  : Option (Bool) :=
  (m_armaturelaw04_works).bind fun v7 =>
  some v7
def j6x2 (x0 : List UInt8) : Option (Bool) :=
  (m_desc_ParseClassConstant x0).bind fun v5 =>
  if (v5.2 == 0) = true then
    ((m_desc_FormatClassConstant ({ f_Dim := v5.1.f_Dim, f_Base := v5.1.f_Base, f_Name := v5.1.f_Name } : T_api_Type)).bind fun v6 =>
    if (!(v6.1 == x0)) = true then (some false) else
    (if (v6.2 != 0) = true then
      (some false) else
    (j6x3 ))) else
  (j6x3 )
def j6x1 (x0 : List UInt8) : Option (Bool) :=
  (m_desc_ParseSignature x0).bind fun v3 =>
  if (v3.2 == 0) = true then
    ((m_desc_FormatSignature ({ f_Params := v3.1.f_Params, f_Result := ({ f_Dim := v3.1.f_Result.f_Dim, f_Base := v3.1.f_Result.f_Base, f_Name := v3.1.f_Result.f_Name } : T_api_Type) } : T_api_Sig)).bind fun v4 =>
    if (!(v4.1 == x0)) = true then (some false) else
    (if (v4.2 != 0) = true then
      (some false) else
    ((j6x2 x0) ))) else
  ((j6x2 x0) )
def m_armaturelaw04_DescCanonical (x0 : List UInt8) : Option (Bool) :=
  if (decide ((x0.length : Int) > 3000)) = true then
    ((m_armaturelaw04_works).bind fun v0 =>
    some v0) else
  ((m_desc_Parse x0).bind fun v1 =>
    if (v1.2 == 0) = true then
      ((m_desc_Format ({ f_Dim := v1.1.f_Dim, f_Base := v1.1.f_Base, f_Name := v1.1.f_Name } : T_api_Type)).bind fun v2 =>
      if (!(v2.1 == x0)) = true then (some false) else
      (if (v2.2 != 0) = true then
        (some false) else
      ((j6x1 x0) ))) else
    ((j6x1 x0) ))
theorem wj6x3  (r : Bool) (h : j6x3  = some r) (Γ : Ctx) : EvOk Try.prog Γ (Den.Ends Try.prog Try.f6 (.bool r)) (mkS 77 [] []) (.stop c6x37 [.seq c6x38]) := by
  refine EvOk.stop ?_
  obtain ⟨v7, e7, h⟩ := bindE h
  refine At.adv [] [(18, { told := [(0, { ans := .val (.bool v7), args := [] })], gs := [], keep := some ([2], []) })] 400 (ev := .ret) (σ' := mkS 77 [(2, .bool v7)] []) (q := [True ∧ (True ∧ ([] : List D) = [] ∧ CallAny Try.prog 10 [] (.bool v7))]) (by kernel_rfl) ⟨⟨trivial, ⟨trivial, rfl, .inl (w10 e7)⟩⟩, trivial⟩ ?_
  refine EvOk.ret ?_
  obtain rfl := someE h
  exact Den.Ends.mk (.inl rfl) (d := .bool v7) (p := (True ∧ True) ∧ (True ∧ True)) (by kernel_rfl) ⟨⟨trivial, trivial⟩, ⟨trivial, trivial⟩⟩ (by kernel_rfl)
theorem wj6x2 (x0 : List UInt8) (r : Bool) (h : (j6x2 x0)  = some r) (Γ : Ctx) : EvOk Try.prog Γ (Den.Ends Try.prog Try.f6 (.bool r)) (mkS 77 [(0, .str x0)] []) (.stop c6x27 [.seq c6x28, .seq c6x29]) := by
  refine EvOk.stop ?_
  obtain ⟨v5, e5, h⟩ := bindE h
  refine At.adv [] [(13, { told := [(1, { ans := .val (.tup [.agg (row_T_api_Type v5.1), .int .i64 v5.2]), args := [.str x0] })], gs := [], keep := some ([0, 11, 12], [(11, 11)]) }), (14, { told := [], gs := [], keep := some ([0, 11, 63], [(11, 11)]) })] 400 (ev := .cond (v5.2 == 0) c6x32 c6x39 [.seq c6x29]) (σ' := mkS 77 [(0, .str x0), (11, .lptr 11 0 0), (63, .bool (v5.2 == 0))] [(11, { sz := 3, rows := [[.int .i64 v5.1.f_Dim, .int .u8 v5.1.f_Base, .str v5.1.f_Name]], frz := 0, pure := false })]) (q := [True ∧ ((True ∧ True) ∧ ([.str x0] : List D) = [.str x0] ∧ CallAny Try.prog 13 [.str x0] (.tup [.agg (row_T_api_Type v5.1), .int .i64 v5.2])), True ∧ (0 ≤ 0 ∧ 0 + ([.int .i64 v5.1.f_Dim, .int .u8 v5.1.f_Base, .str v5.1.f_Name] : List D).length ≤ ([.int .i64 0, .int .u8 0, .str []] : List D).length ∧ ([[.int .i64 v5.1.f_Dim, .int .u8 v5.1.f_Base, .str v5.1.f_Name]] : List (List D)) = ([[.int .i64 v5.1.f_Dim, .int .u8 v5.1.f_Base, .str v5.1.f_Name]] : List (List D)))]) (by kernel_rfl) ⟨⟨trivial, ⟨⟨trivial, trivial⟩, rfl, .inl (w13 e5)⟩⟩, ⟨trivial, ⟨Nat.zero_le _, Nat.le_of_ble_eq_true rfl, rfl⟩⟩, trivial⟩ ?_
  refine EvOk.cond (fun h7 => ?_) (fun h7 => ?_)
  · replace h := iteT h7 h
    refine At.gc [0, 11] [(11, 11)] (n := 77) (l := [(0, .str x0), (11, .lptr 11 0 0)]) (bl := [(11, { sz := 3, rows := [[.int .i64 v5.1.f_Dim, .int .u8 v5.1.f_Base, .str v5.1.f_Name]], frz := 0, pure := false })]) (by kernel_rfl) ?_
    obtain ⟨v6, e6, h⟩ := bindE h
    rcases Bool.eq_false_or_eq_true (!(v6.1 == x0)) with h8 | h8
    · replace h := iteT h8 h
      refine At.adv [] [(15, { told := [(1, { ans := .val (.tup [.str v6.1, .int .i64 v6.2]), args := [.agg [.int .i64 v5.1.f_Dim, .int .u8 v5.1.f_Base, .str v5.1.f_Name]] })], gs := [], keep := some ([0, 13, 14], []) }), (16, { told := [(6, { ans := .yes })], gs := [(4, false), (5, false)], keep := some ([75], []) })] 400 (ev := .cond true c6x35 c6x36 [.seq c6x29]) (σ' := mkS 77 [(75, .bool true)] []) (q := [True ∧ (((True ∧ (True ∧ (True ∧ True))) ∧ True) ∧ ([.agg [.int .i64 v5.1.f_Dim, .int .u8 v5.1.f_Base, .str v5.1.f_Name]] : List D) = [.agg [.int .i64 v5.1.f_Dim, .int .u8 v5.1.f_Base, .str v5.1.f_Name]] ∧ CallAny Try.prog 21 [.agg [.int .i64 v5.1.f_Dim, .int .u8 v5.1.f_Base, .str v5.1.f_Name]] (.tup [.str v6.1, .int .i64 v6.2])), ((!(v6.1 == x0)) == false) = false, ((!(v6.1 == x0)) == false) = false, True ∧ ((!(v6.1 == x0)) = true)]) (by kernel_rfl) ⟨⟨trivial, ⟨⟨⟨trivial, ⟨trivial, ⟨trivial, trivial⟩⟩⟩, trivial⟩, rfl, .inl (w21 e6)⟩⟩, gB h8 rfl, gB h8 rfl, ⟨trivial, h8⟩, trivial⟩ ?_
      refine EvOk.cond (fun _ => ?_) (fun hb => Bool.noConfusion hb)
      refine At.gc [] [] (n := 77) (l := []) (bl := []) (by kernel_rfl) ?_
      refine At.adv [] [(17, { told := [], gs := [], keep := some ([2], []) })] 400 (ev := .ret) (σ' := mkS 77 [(2, .bool false)] []) (q := []) (by kernel_rfl) trivial ?_
      refine EvOk.ret ?_
      obtain rfl := someE h
      exact Den.Ends.mk (.inl rfl) (d := .bool false) (p := (True ∧ True) ∧ (True ∧ True)) (by kernel_rfl) ⟨⟨trivial, trivial⟩, ⟨trivial, trivial⟩⟩ (by kernel_rfl)
    · replace h := iteF h8 h
      refine At.adv [] [(15, { told := [(1, { ans := .val (.tup [.str v6.1, .int .i64 v6.2]), args := [.agg [.int .i64 v5.1.f_Dim, .int .u8 v5.1.f_Base, .str v5.1.f_Name]] })], gs := [], keep := some ([0, 13, 14], []) }), (16, { told := [(6, { ans := .no })], gs := [(4, true), (5, true)], keep := some ([75], []) })] 400 (ev := .cond (v6.2 != 0) c6x35 c6x36 [.seq c6x29]) (σ' := mkS 77 [(75, .bool (v6.2 != 0))] []) (q := [True ∧ (((True ∧ (True ∧ (True ∧ True))) ∧ True) ∧ ([.agg [.int .i64 v5.1.f_Dim, .int .u8 v5.1.f_Base, .str v5.1.f_Name]] : List D) = [.agg [.int .i64 v5.1.f_Dim, .int .u8 v5.1.f_Base, .str v5.1.f_Name]] ∧ CallAny Try.prog 21 [.agg [.int .i64 v5.1.f_Dim, .int .u8 v5.1.f_Base, .str v5.1.f_Name]] (.tup [.str v6.1, .int .i64 v6.2])), ((!(v6.1 == x0)) == false) = true ∧ True, ((!(v6.1 == x0)) == false) = true ∧ True, True ∧ ((!(v6.1 == x0)) = false)]) (by kernel_rfl) ⟨⟨trivial, ⟨⟨⟨trivial, ⟨trivial, ⟨trivial, trivial⟩⟩⟩, trivial⟩, rfl, .inl (w21 e6)⟩⟩, ⟨(gB h8 rfl), trivial⟩, ⟨(gB h8 rfl), trivial⟩, ⟨trivial, h8⟩, trivial⟩ ?_
      refine EvOk.cond (fun h9 => ?_) (fun h9 => ?_)
      · replace h := iteT h9 h
        refine At.gc [] [] (n := 77) (l := []) (bl := []) (by kernel_rfl) ?_
        refine At.adv [] [(17, { told := [], gs := [], keep := some ([2], []) })] 400 (ev := .ret) (σ' := mkS 77 [(2, .bool false)] []) (q := []) (by kernel_rfl) trivial ?_
        refine EvOk.ret ?_
        obtain rfl := someE h
        exact Den.Ends.mk (.inl rfl) (d := .bool false) (p := (True ∧ True) ∧ (True ∧ True)) (by kernel_rfl) ⟨⟨trivial, trivial⟩, ⟨trivial, trivial⟩⟩ (by kernel_rfl)
      · replace h := iteF h9 h
        refine At.gc [] [] (n := 77) (l := []) (bl := []) (by kernel_rfl) ?_
        refine At.adv [18] [] 400 (ev := .stop c6x37 [.seq c6x38]) (σ' := mkS 77 [] []) (q := []) (by kernel_rfl) trivial ?_
        exact wj6x3  r h Γ
  · replace h := iteF h7 h
    refine At.gc [] [] (n := 77) (l := []) (bl := []) (by kernel_rfl) ?_
    refine At.adv [18] [] 400 (ev := .stop c6x37 [.seq c6x38]) (σ' := mkS 77 [] []) (q := []) (by kernel_rfl) trivial ?_
    exact wj6x3  r h Γ
theorem wj6x1 (x0 : List UInt8) (r : Bool) (h : (j6x1 x0)  = some r) (Γ : Ctx) : EvOk Try.prog Γ (Den.Ends Try.prog Try.f6 (.bool r)) (mkS 77 [(0, .str x0)] []) (.stop c6x12 [.seq c6x13, .seq c6x14]) := by
  refine EvOk.stop ?_
  obtain ⟨v3, e3, h⟩ := bindE h
  refine At.adv [] [(8, { told := [(1, { ans := .val (.tup [.agg (row_T_api_Sig v3.1), .int .i64 v3.2]), args := [.str x0] })], gs := [], keep := some ([0, 7, 8], [(7, 7)]) }), (9, { told := [], gs := [], keep := some ([0, 7, 44], [(7, 7)]) })] 400 (ev := .cond (v3.2 == 0) c6x21 c6x30 [.seq c6x14]) (σ' := mkS 77 [(0, .str x0), (7, .lptr 7 0 0), (44, .bool (v3.2 == 0))] [(7, { sz := 4, rows := [[.sl false (v3.1.f_Params.map row_T_api_Type), .int .i64 v3.1.f_Result.f_Dim, .int .u8 v3.1.f_Result.f_Base, .str v3.1.f_Result.f_Name]], frz := 0, pure := false })]) (q := [True ∧ ((True ∧ True) ∧ ([.str x0] : List D) = [.str x0] ∧ CallAny Try.prog 15 [.str x0] (.tup [.agg (row_T_api_Sig v3.1), .int .i64 v3.2])), True ∧ (0 ≤ 0 ∧ 0 + ([.sl false (v3.1.f_Params.map row_T_api_Type), .int .i64 v3.1.f_Result.f_Dim, .int .u8 v3.1.f_Result.f_Base, .str v3.1.f_Result.f_Name] : List D).length ≤ ([.sl true (([] : List T_api_Type).map row_T_api_Type), .int .i64 0, .int .u8 0, .str []] : List D).length ∧ ([[.sl false (v3.1.f_Params.map row_T_api_Type), .int .i64 v3.1.f_Result.f_Dim, .int .u8 v3.1.f_Result.f_Base, .str v3.1.f_Result.f_Name]] : List (List D)) = ([[.sl false (v3.1.f_Params.map row_T_api_Type), .int .i64 v3.1.f_Result.f_Dim, .int .u8 v3.1.f_Result.f_Base, .str v3.1.f_Result.f_Name]] : List (List D)))]) (by kernel_rfl) ⟨⟨trivial, ⟨⟨trivial, trivial⟩, rfl, .inl (w15 e3)⟩⟩, ⟨trivial, ⟨Nat.zero_le _, Nat.le_of_ble_eq_true rfl, rfl⟩⟩, trivial⟩ ?_
  refine EvOk.cond (fun h4 => ?_) (fun h4 => ?_)
  · replace h := iteT h4 h
    refine At.gc [0, 7] [(7, 7)] (n := 77) (l := [(0, .str x0), (7, .lptr 7 0 0)]) (bl := [(7, { sz := 4, rows := [[.sl false (v3.1.f_Params.map row_T_api_Type), .int .i64 v3.1.f_Result.f_Dim, .int .u8 v3.1.f_Result.f_Base, .str v3.1.f_Result.f_Name]], frz := 0, pure := false })]) (by kernel_rfl) ?_
    obtain ⟨v4, e4, h⟩ := bindE h
    rcases Bool.eq_false_or_eq_true (!(v4.1 == x0)) with h5 | h5
    · replace h := iteT h5 h
      refine At.adv [] [(10, { told := [(1, { ans := .val (.tup [.str v4.1, .int .i64 v4.2]), args := [.agg [.sl false (v3.1.f_Params.map row_T_api_Type), .int .i64 v3.1.f_Result.f_Dim, .int .u8 v3.1.f_Result.f_Base, .str v3.1.f_Result.f_Name]] })], gs := [], keep := some ([0, 9, 10], []) }), (11, { told := [(6, { ans := .yes })], gs := [(4, false), (5, false)], keep := some ([0, 56], []) })] 400 (ev := .cond true c6x24 c6x25 [.seq c6x14]) (σ' := mkS 77 [(0, .str x0), (56, .bool true)] []) (q := [True ∧ (((True ∧ (True ∧ (True ∧ (True ∧ True)))) ∧ True) ∧ ([.agg [.sl false (v3.1.f_Params.map row_T_api_Type), .int .i64 v3.1.f_Result.f_Dim, .int .u8 v3.1.f_Result.f_Base, .str v3.1.f_Result.f_Name]] : List D) = [.agg [.sl false (v3.1.f_Params.map row_T_api_Type), .int .i64 v3.1.f_Result.f_Dim, .int .u8 v3.1.f_Result.f_Base, .str v3.1.f_Result.f_Name]] ∧ CallAny Try.prog 18 [.agg [.sl false (v3.1.f_Params.map row_T_api_Type), .int .i64 v3.1.f_Result.f_Dim, .int .u8 v3.1.f_Result.f_Base, .str v3.1.f_Result.f_Name]] (.tup [.str v4.1, .int .i64 v4.2])), ((!(v4.1 == x0)) == false) = false, ((!(v4.1 == x0)) == false) = false, True ∧ ((!(v4.1 == x0)) = true)]) (by kernel_rfl) ⟨⟨trivial, ⟨⟨⟨trivial, ⟨trivial, ⟨trivial, ⟨trivial, trivial⟩⟩⟩⟩, trivial⟩, rfl, .inl (w18 e4)⟩⟩, gB h5 rfl, gB h5 rfl, ⟨trivial, h5⟩, trivial⟩ ?_
      refine EvOk.cond (fun _ => ?_) (fun hb => Bool.noConfusion hb)
      refine At.gc [] [] (n := 77) (l := []) (bl := []) (by kernel_rfl) ?_
      refine At.adv [] [(12, { told := [], gs := [], keep := some ([2], []) })] 400 (ev := .ret) (σ' := mkS 77 [(2, .bool false)] []) (q := []) (by kernel_rfl) trivial ?_
      refine EvOk.ret ?_
      obtain rfl := someE h
      exact Den.Ends.mk (.inl rfl) (d := .bool false) (p := (True ∧ True) ∧ (True ∧ True)) (by kernel_rfl) ⟨⟨trivial, trivial⟩, ⟨trivial, trivial⟩⟩ (by kernel_rfl)
    · replace h := iteF h5 h
      refine At.adv [] [(10, { told := [(1, { ans := .val (.tup [.str v4.1, .int .i64 v4.2]), args := [.agg [.sl false (v3.1.f_Params.map row_T_api_Type), .int .i64 v3.1.f_Result.f_Dim, .int .u8 v3.1.f_Result.f_Base, .str v3.1.f_Result.f_Name]] })], gs := [], keep := some ([0, 9, 10], []) }), (11, { told := [(6, { ans := .no })], gs := [(4, true), (5, true)], keep := some ([0, 56], []) })] 400 (ev := .cond (v4.2 != 0) c6x24 c6x25 [.seq c6x14]) (σ' := mkS 77 [(0, .str x0), (56, .bool (v4.2 != 0))] []) (q := [True ∧ (((True ∧ (True ∧ (True ∧ (True ∧ True)))) ∧ True) ∧ ([.agg [.sl false (v3.1.f_Params.map row_T_api_Type), .int .i64 v3.1.f_Result.f_Dim, .int .u8 v3.1.f_Result.f_Base, .str v3.1.f_Result.f_Name]] : List D) = [.agg [.sl false (v3.1.f_Params.map row_T_api_Type), .int .i64 v3.1.f_Result.f_Dim, .int .u8 v3.1.f_Result.f_Base, .str v3.1.f_Result.f_Name]] ∧ CallAny Try.prog 18 [.agg [.sl false (v3.1.f_Params.map row_T_api_Type), .int .i64 v3.1.f_Result.f_Dim, .int .u8 v3.1.f_Result.f_Base, .str v3.1.f_Result.f_Name]] (.tup [.str v4.1, .int .i64 v4.2])), ((!(v4.1 == x0)) == false) = true ∧ True, ((!(v4.1 == x0)) == false) = true ∧ True, True ∧ ((!(v4.1 == x0)) = false)]) (by kernel_rfl) ⟨⟨trivial, ⟨⟨⟨trivial, ⟨trivial, ⟨trivial, ⟨trivial, trivial⟩⟩⟩⟩, trivial⟩, rfl, .inl (w18 e4)⟩⟩, ⟨(gB h5 rfl), trivial⟩, ⟨(gB h5 rfl), trivial⟩, ⟨trivial, h5⟩, trivial⟩ ?_
      refine EvOk.cond (fun h6 => ?_) (fun h6 => ?_)
      · replace h := iteT h6 h
        refine At.gc [] [] (n := 77) (l := []) (bl := []) (by kernel_rfl) ?_
        refine At.adv [] [(12, { told := [], gs := [], keep := some ([2], []) })] 400 (ev := .ret) (σ' := mkS 77 [(2, .bool false)] []) (q := []) (by kernel_rfl) trivial ?_
        refine EvOk.ret ?_
        obtain rfl := someE h
        exact Den.Ends.mk (.inl rfl) (d := .bool false) (p := (True ∧ True) ∧ (True ∧ True)) (by kernel_rfl) ⟨⟨trivial, trivial⟩, ⟨trivial, trivial⟩⟩ (by kernel_rfl)
      · replace h := iteF h6 h
        refine At.gc [0] [] (n := 77) (l := [(0, .str x0)]) (bl := []) (by kernel_rfl) ?_
        refine At.adv [13] [] 400 (ev := .stop c6x27 [.seq c6x28, .seq c6x29]) (σ' := mkS 77 [(0, .str x0)] []) (q := []) (by kernel_rfl) trivial ?_
        exact (wj6x2 x0)  r h Γ
  · replace h := iteF h4 h
    refine At.gc [0] [] (n := 77) (l := [(0, .str x0)]) (bl := []) (by kernel_rfl) ?_
    refine At.adv [13] [] 400 (ev := .stop c6x27 [.seq c6x28, .seq c6x29]) (σ' := mkS 77 [(0, .str x0)] []) (q := []) (by kernel_rfl) trivial ?_
    exact (wj6x2 x0)  r h Γ
theorem we6 (x0 : List UInt8) (r : Bool) (h : m_armaturelaw04_DescCanonical x0 = some r) (Γ : Ctx) : At Try.prog Γ b6 [] (Den.Ends Try.prog Try.f6 (.bool r)) (mkS 77 [(0, .str x0)] []) := by
  refine At.adv [] [(0, { told := [], gs := [], keep := some ([0], []) }), (1, { told := [], gs := [], keep := some ([0, 17], []) })] 400 (ev := .cond (decide ((x0.length : Int) > 3000)) c6x18 c6x19 [.seq c6x1]) (σ' := mkS 77 [(0, .str x0), (17, .bool (decide ((x0.length : Int) > 3000)))] []) (q := []) (by kernel_rfl) trivial ?_
  refine EvOk.cond (fun h0 => ?_) (fun h0 => ?_)
  · replace h := iteT h0 h
    refine At.gc [] [] (n := 77) (l := []) (bl := []) (by kernel_rfl) ?_
    obtain ⟨v0, e0, h⟩ := bindE h
    refine At.adv [] [(2, { told := [(0, { ans := .val (.bool v0), args := [] })], gs := [], keep := some ([2], []) })] 400 (ev := .ret) (σ' := mkS 77 [(2, .bool v0)] []) (q := [True ∧ (True ∧ ([] : List D) = [] ∧ CallAny Try.prog 10 [] (.bool v0))]) (by kernel_rfl) ⟨⟨trivial, ⟨trivial, rfl, .inl (w10 e0)⟩⟩, trivial⟩ ?_
    refine EvOk.ret ?_
    obtain rfl := someE h
    exact Den.Ends.mk (.inl rfl) (d := .bool v0) (p := (True ∧ True) ∧ (True ∧ True)) (by kernel_rfl) ⟨⟨trivial, trivial⟩, ⟨trivial, trivial⟩⟩ (by kernel_rfl)
  · replace h := iteF h0 h
    refine At.gc [0] [] (n := 77) (l := [(0, .str x0)]) (bl := []) (by kernel_rfl) ?_
    obtain ⟨v1, e1, h⟩ := bindE h
    refine At.adv [] [(3, { told := [(1, { ans := .val (.tup [.agg (row_T_api_Type v1.1), .int .i64 v1.2]), args := [.str x0] })], gs := [], keep := some ([0, 3, 4], [(3, 3)]) }), (4, { told := [], gs := [], keep := some ([0, 3, 25], [(3, 3)]) })] 400 (ev := .cond (v1.2 == 0) c6x5 c6x15 [.seq c6x10]) (σ' := mkS 77 [(0, .str x0), (3, .lptr 3 0 0), (25, .bool (v1.2 == 0))] [(3, { sz := 3, rows := [[.int .i64 v1.1.f_Dim, .int .u8 v1.1.f_Base, .str v1.1.f_Name]], frz := 0, pure := false })]) (q := [True ∧ ((True ∧ True) ∧ ([.str x0] : List D) = [.str x0] ∧ CallAny Try.prog 11 [.str x0] (.tup [.agg (row_T_api_Type v1.1), .int .i64 v1.2])), True ∧ (0 ≤ 0 ∧ 0 + ([.int .i64 v1.1.f_Dim, .int .u8 v1.1.f_Base, .str v1.1.f_Name] : List D).length ≤ ([.int .i64 0, .int .u8 0, .str []] : List D).length ∧ ([[.int .i64 v1.1.f_Dim, .int .u8 v1.1.f_Base, .str v1.1.f_Name]] : List (List D)) = ([[.int .i64 v1.1.f_Dim, .int .u8 v1.1.f_Base, .str v1.1.f_Name]] : List (List D)))]) (by kernel_rfl) ⟨⟨trivial, ⟨⟨trivial, trivial⟩, rfl, .inl (w11 e1)⟩⟩, ⟨trivial, ⟨Nat.zero_le _, Nat.le_of_ble_eq_true rfl, rfl⟩⟩, trivial⟩ ?_
    refine EvOk.cond (fun h1 => ?_) (fun h1 => ?_)
    · replace h := iteT h1 h
      refine At.gc [0, 3] [(3, 3)] (n := 77) (l := [(0, .str x0), (3, .lptr 3 0 0)]) (bl := [(3, { sz := 3, rows := [[.int .i64 v1.1.f_Dim, .int .u8 v1.1.f_Base, .str v1.1.f_Name]], frz := 0, pure := false })]) (by kernel_rfl) ?_
      obtain ⟨v2, e2, h⟩ := bindE h
      rcases Bool.eq_false_or_eq_true (!(v2.1 == x0)) with h2 | h2
      · replace h := iteT h2 h
        refine At.adv [] [(5, { told := [(1, { ans := .val (.tup [.str v2.1, .int .i64 v2.2]), args := [.agg [.int .i64 v1.1.f_Dim, .int .u8 v1.1.f_Base, .str v1.1.f_Name]] })], gs := [], keep := some ([0, 5, 6], []) }), (6, { told := [(6, { ans := .yes })], gs := [(4, false), (5, false)], keep := some ([0, 37], []) })] 400 (ev := .cond true c6x8 c6x9 [.seq c6x10]) (σ' := mkS 77 [(0, .str x0), (37, .bool true)] []) (q := [True ∧ (((True ∧ (True ∧ (True ∧ True))) ∧ True) ∧ ([.agg [.int .i64 v1.1.f_Dim, .int .u8 v1.1.f_Base, .str v1.1.f_Name]] : List D) = [.agg [.int .i64 v1.1.f_Dim, .int .u8 v1.1.f_Base, .str v1.1.f_Name]] ∧ CallAny Try.prog 20 [.agg [.int .i64 v1.1.f_Dim, .int .u8 v1.1.f_Base, .str v1.1.f_Name]] (.tup [.str v2.1, .int .i64 v2.2])), ((!(v2.1 == x0)) == false) = false, ((!(v2.1 == x0)) == false) = false, True ∧ ((!(v2.1 == x0)) = true)]) (by kernel_rfl) ⟨⟨trivial, ⟨⟨⟨trivial, ⟨trivial, ⟨trivial, trivial⟩⟩⟩, trivial⟩, rfl, .inl (w20 e2)⟩⟩, gB h2 rfl, gB h2 rfl, ⟨trivial, h2⟩, trivial⟩ ?_
        refine EvOk.cond (fun _ => ?_) (fun hb => Bool.noConfusion hb)
        refine At.gc [] [] (n := 77) (l := []) (bl := []) (by kernel_rfl) ?_
        refine At.adv [] [(7, { told := [], gs := [], keep := some ([2], []) })] 400 (ev := .ret) (σ' := mkS 77 [(2, .bool false)] []) (q := []) (by kernel_rfl) trivial ?_
        refine EvOk.ret ?_
        obtain rfl := someE h
        exact Den.Ends.mk (.inl rfl) (d := .bool false) (p := (True ∧ True) ∧ (True ∧ True)) (by kernel_rfl) ⟨⟨trivial, trivial⟩, ⟨trivial, trivial⟩⟩ (by kernel_rfl)
      · replace h := iteF h2 h
        refine At.adv [] [(5, { told := [(1, { ans := .val (.tup [.str v2.1, .int .i64 v2.2]), args := [.agg [.int .i64 v1.1.f_Dim, .int .u8 v1.1.f_Base, .str v1.1.f_Name]] })], gs := [], keep := some ([0, 5, 6], []) }), (6, { told := [(6, { ans := .no })], gs := [(4, true), (5, true)], keep := some ([0, 37], []) })] 400 (ev := .cond (v2.2 != 0) c6x8 c6x9 [.seq c6x10]) (σ' := mkS 77 [(0, .str x0), (37, .bool (v2.2 != 0))] []) (q := [True ∧ (((True ∧ (True ∧ (True ∧ True))) ∧ True) ∧ ([.agg [.int .i64 v1.1.f_Dim, .int .u8 v1.1.f_Base, .str v1.1.f_Name]] : List D) = [.agg [.int .i64 v1.1.f_Dim, .int .u8 v1.1.f_Base, .str v1.1.f_Name]] ∧ CallAny Try.prog 20 [.agg [.int .i64 v1.1.f_Dim, .int .u8 v1.1.f_Base, .str v1.1.f_Name]] (.tup [.str v2.1, .int .i64 v2.2])), ((!(v2.1 == x0)) == false) = true ∧ True, ((!(v2.1 == x0)) == false) = true ∧ True, True ∧ ((!(v2.1 == x0)) = false)]) (by kernel_rfl) ⟨⟨trivial, ⟨⟨⟨trivial, ⟨trivial, ⟨trivial, trivial⟩⟩⟩, trivial⟩, rfl, .inl (w20 e2)⟩⟩, ⟨(gB h2 rfl), trivial⟩, ⟨(gB h2 rfl), trivial⟩, ⟨trivial, h2⟩, trivial⟩ ?_
        refine EvOk.cond (fun h3 => ?_) (fun h3 => ?_)
        · replace h := iteT h3 h
          refine At.gc [] [] (n := 77) (l := []) (bl := []) (by kernel_rfl) ?_
          refine At.adv [] [(7, { told := [], gs := [], keep := some ([2], []) })] 400 (ev := .ret) (σ' := mkS 77 [(2, .bool false)] []) (q := []) (by kernel_rfl) trivial ?_
          refine EvOk.ret ?_
          obtain rfl := someE h
          exact Den.Ends.mk (.inl rfl) (d := .bool false) (p := (True ∧ True) ∧ (True ∧ True)) (by kernel_rfl) ⟨⟨trivial, trivial⟩, ⟨trivial, trivial⟩⟩ (by kernel_rfl)
        · replace h := iteF h3 h
          refine At.gc [0] [] (n := 77) (l := [(0, .str x0)]) (bl := []) (by kernel_rfl) ?_
          refine At.adv [8] [] 400 (ev := .stop c6x12 [.seq c6x13, .seq c6x14]) (σ' := mkS 77 [(0, .str x0)] []) (q := []) (by kernel_rfl) trivial ?_
          exact (wj6x1 x0)  r h Γ
    · replace h := iteF h1 h
      refine At.gc [0] [] (n := 77) (l := [(0, .str x0)]) (bl := []) (by kernel_rfl) ?_
      refine At.adv [8] [] 400 (ev := .stop c6x12 [.seq c6x13, .seq c6x14]) (σ' := mkS 77 [(0, .str x0)] []) (q := []) (by kernel_rfl) trivial ?_
      exact (wj6x1 x0)  r h Γ
theorem w6 {x0 : List UInt8} {r : Bool} (h : m_armaturelaw04_DescCanonical x0 = some r) : CallSpec Try.prog 6 [.str x0] (.bool r) :=
  CallSpec.at2 b6 (n := 77) (l := [(0, .str x0)]) (by kernel_rfl) (by kernel_rfl) (by kernel_rfl) (by kernel_rfl) (by kernel_rfl) (Nat.le_of_ble_eq_true (by kernel_rfl)) (fun Γ => we6 x0 r h Γ)
end Go.Proofs
