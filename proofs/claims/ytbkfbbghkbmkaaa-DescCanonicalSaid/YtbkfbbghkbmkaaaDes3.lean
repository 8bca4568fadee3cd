/-
  Models of functions of the program, and that the functions compute them. Printed by den2.py. No condition.
-/
import Derived.Test.YtbkfbbghkbmkaaaDes2
set_option linter.unusedVariables false
namespace Go.Proofs
open Go.Den
/-! ### armature armatureref04.ParseSignature -/
noncomputable def b16 : Code := Try.f16.body.getD .skip
noncomputable def c16x0 : Code := sub1 b16
noncomputable def c16x1 : Code := sub0 c16x0
noncomputable def c16x2 : Code := sub1 c16x1
noncomputable def c16x3 : Code := sub0 c16x2
noncomputable def c16x4 : Code := sub1 c16x2
noncomputable def c16x5 : Code := sub1 c16x0
noncomputable def c16x6 : Code := sub0 c16x5
noncomputable def c16x7 : Code := sub1 c16x5
noncomputable def c16x8 : Code := sub1 c16x7
noncomputable def c16x9 : Code := sub0 c16x8
noncomputable def c16x10 : Code := sub0 c16x9
noncomputable def c16x11 : Code := sub0 c16x10
noncomputable def c16x12 : Code := sub1 c16x11
noncomputable def c16x13 : Code := sub0 c16x12
noncomputable def c16x14 : Code := sub0 c16x13
noncomputable def c16x15 : Code := sub1 c16x13
noncomputable def c16x16 : Code := sub0 c16x11
noncomputable def c16x17 : Code := sub1 c16x16
noncomputable def c16x18 : Code := sub0 c16x17
noncomputable def c16x19 : Code := sub1 c16x17
noncomputable def c16x20 : Code := sub0 c16x15
noncomputable def c16x21 : Code := sub1 c16x20
noncomputable def c16x22 : Code := sub0 c16x21
noncomputable def c16x23 : Code := sub1 c16x21
noncomputable def c16x24 : Code := sub1 c16x15
noncomputable def c16x25 : Code := sub0 c16x24
noncomputable def c16x26 : Code := sub1 c16x24
noncomputable def c16x27 : Code := sub1 c16x8
noncomputable def c16x28 : Code := sub1 c16x27
noncomputable def c16x29 : Code := sub1 c16x28
noncomputable def c16x30 : Code := sub1 c16x29
noncomputable def c16x31 : Code := sub0 c16x30
noncomputable def c16x32 : Code := sub1 c16x31
noncomputable def c16x33 : Code := sub0 c16x32
noncomputable def c16x34 : Code := sub1 c16x32
noncomputable def c16x35 : Code := sub1 c16x30
noncomputable def c16x36 : Code := sub0 c16x29
noncomputable def c16x37 : Code := sub1 c16x36
noncomputable def c16x38 : Code := sub0 c16x37
noncomputable def c16x39 : Code := sub1 c16x37
noncomputable def c16x40 : Code := sub0 c16x27
noncomputable def c16x41 : Code := sub1 c16x40
noncomputable def c16x42 : Code := sub0 c16x41
noncomputable def c16x43 : Code := sub1 c16x41
def j16x3 (t0 : Int × (List T_api_Type)) (v8 : T_api_Type × Int) : Option (Ctl (Int × (List T_api_Type)) (((List T_api_Type) × Int) ⊕ (T_api_Sig × Int))) :=
  (growK 32 (t0.2 ++ [({ f_Dim := v8.1.f_Dim, f_Base := v8.1.f_Base, f_Name := v8.1.f_Name } : T_api_Type)]).length).bind fun v9 =>
  some (.next (v8.2, (t0.2 ++ [({ f_Dim := v8.1.f_Dim, f_Base := v8.1.f_Base, f_Name := v8.1.f_Name } : T_api_Type)])))
def j16x2 (t0 : Int × (List T_api_Type)) (x0 : List UInt8) : Option (Ctl (Int × (List T_api_Type)) (((List T_api_Type) × Int) ⊕ (T_api_Sig × Int))) :=
  (m_armatureref04_take x0 t0.1).bind fun v8 =>
  if (decide (v8.2 < 0)) = true then (some (.done (.inr (({ f_Params := ([] : List T_api_Type), f_Result := ({ f_Dim := 0, f_Base := 0, f_Name := [] } : T_api_Type) } : T_api_Sig), 13)))) else
  (if (v8.1.f_Base == 86) = true then
    (some (.done (.inr (({ f_Params := ([] : List T_api_Type), f_Result := ({ f_Dim := 0, f_Base := 0, f_Name := [] } : T_api_Type) } : T_api_Sig), 13)))) else
  ((j16x3 t0 v8) ))
def l16x1 (x0 : List UInt8) (t0 : Int × (List T_api_Type)) : Option (Ctl (Int × (List T_api_Type)) (((List T_api_Type) × Int) ⊕ (T_api_Sig × Int))) :=
  if (decide (t0.1 < (x0.length : Int))) = true then ((getS x0 t0.1).bind fun v7 =>
  if (v7 != 41) = true then
    ((j16x2 t0 x0) ) else
  (some (.done (.inl ((t0.2, t0.1)))))) else
  (some (.done (.inl ((t0.2, t0.1)))))
def j16x1 (x0 : List UInt8) : Option (T_api_Sig × Int) :=
  (loopM (l16x1 x0) rounds (1, ([] : List T_api_Type))).bind fun q1 =>
  match q1 with
  | .inl q0 => (if (decide (q0.2 ≥ (x0.length : Int))) = true then
      (some (({ f_Params := ([] : List T_api_Type), f_Result := ({ f_Dim := 0, f_Base := 0, f_Name := [] } : T_api_Type) } : T_api_Sig), 13)) else
    ((some (IntKind.wrap .i64 (q0.2 + (1 : Int)))).bind fun v10 =>
      (m_armatureref04_take x0 v10).bind fun v11 =>
      if (v11.2 != (x0.length : Int)) = true then
        (some (({ f_Params := ([] : List T_api_Type), f_Result := ({ f_Dim := 0, f_Base := 0, f_Name := [] } : T_api_Type) } : T_api_Sig), 13)) else
      (if (decide ((q0.1.length : Int) > 16)) = true then
          (some (({ f_Params := ([] : List T_api_Type), f_Result := ({ f_Dim := 0, f_Base := 0, f_Name := [] } : T_api_Type) } : T_api_Sig), 5)) else
        (some (({ f_Params := q0.1, f_Result := ({ f_Dim := v11.1.f_Dim, f_Base := v11.1.f_Base, f_Name := v11.1.f_Name } : T_api_Type) } : T_api_Sig), 0)))))
  | .inr y0 => (some y0)
def m_armatureref04_ParseSignature (x0 : List UInt8) : Option (T_api_Sig × Int) :=
  if (x0 == ([] : List UInt8)) = true then (some (({ f_Params := ([] : List T_api_Type), f_Result := ({ f_Dim := 0, f_Base := 0, f_Name := [] } : T_api_Type) } : T_api_Sig), 13)) else
  ((getS x0 0).bind fun v0 =>
  if (v0 != 40) = true then
    (some (({ f_Params := ([] : List T_api_Type), f_Result := ({ f_Dim := 0, f_Base := 0, f_Name := [] } : T_api_Type) } : T_api_Sig), 13)) else
  ((j16x1 x0) ))
def st16x1 (x0 : List UInt8) : (Int × (List T_api_Type)) → S :=
  fun t0 => mkS 75 [(0, .str x0), (2, .lptr 2 0 0), (4, .lptr 4 0 0), (5, .int .i64 t0.1)] [(2, { sz := 4, rows := [[.sl true (([] : List T_api_Type).map row_T_api_Type), .int .i64 0, .int .u8 0, .str []]], frz := 0, pure := false }), (4, { sz := 4, rows := [[.lsl 1004 0 ((t0.2.map row_T_api_Type).length), .int .i64 0, .int .u8 0, .str []]], frz := 0, pure := false }), (1004, { sz := 3, rows := (t0.2.map row_T_api_Type), frz := 0, pure := true })]
noncomputable def J16x1 (x0 : List UInt8) : (((List T_api_Type) × Int) ⊕ (T_api_Sig × Int)) → Exit → S → Prop :=
  JSum (JExit 0 (fun q0 : (List T_api_Type) × Int => mkS 75 [(0, .str x0), (2, .lptr 2 0 0), (4, .lptr 4 0 0), (5, .int .i64 q0.2)] [(2, { sz := 4, rows := [[.sl true (([] : List T_api_Type).map row_T_api_Type), .int .i64 0, .int .u8 0, .str []]], frz := 0, pure := false }), (4, { sz := 4, rows := [[.lsl 1004 0 ((q0.1.map row_T_api_Type).length), .int .i64 0, .int .u8 0, .str []]], frz := 0, pure := false }), (1004, { sz := 3, rows := (q0.1.map row_T_api_Type), frz := 0, pure := true })])) (JRet Try.prog Try.f16 (fun y : T_api_Sig × Int => .tup [.agg (row_T_api_Sig y.1), .int .i64 y.2]))
theorem wj16x3 (t0 : Int × (List T_api_Type)) (v8 : T_api_Type × Int) (x0 : List UInt8) (r : Ctl (Int × (List T_api_Type)) (((List T_api_Type) × Int) ⊕ (T_api_Sig × Int))) (h : (j16x3 t0 v8)  = some r) (Γ : Ctx) : EvOk Try.prog Γ (Round (st16x1 x0) (J16x1 x0) r) (mkS 75 [(0, .str x0), (2, .lptr 2 0 0), (4, .lptr 4 0 0), (6, .lptr 6 0 0), (7, .int .i64 v8.2)] [(2, { sz := 4, rows := [[.sl true (([] : List T_api_Type).map row_T_api_Type), .int .i64 0, .int .u8 0, .str []]], frz := 0, pure := false }), (4, { sz := 4, rows := [[.lsl 1004 0 ((t0.2.map row_T_api_Type).length), .int .i64 0, .int .u8 0, .str []]], frz := 0, pure := false }), (6, { sz := 3, rows := [[.int .i64 v8.1.f_Dim, .int .u8 v8.1.f_Base, .str v8.1.f_Name]], frz := 0, pure := false }), (1004, { sz := 3, rows := (t0.2.map row_T_api_Type), frz := 0, pure := true })]) (.stop c16x25 [.seq c16x26, .blk 1]) := by
  refine EvOk.stop ?_
  obtain ⟨v9, e9, h⟩ := bindE h
  refine At.adv [] [(9, { told := [(4, { rows := some ((t0.2 ++ [({ f_Dim := v8.1.f_Dim, f_Base := v8.1.f_Base, f_Name := v8.1.f_Name } : T_api_Type)]).map row_T_api_Type) })], gs := [], keep := some ([0, 2, 4, 7], [(2, 2), (4, 4), (1004, 1004)]) }), (10, { told := [], gs := [], keep := some ([0, 2, 4, 5], [(2, 2), (4, 4), (1004, 1004)]) })] 400 (ev := .normal) (σ' := mkS 75 [(0, .str x0), (2, .lptr 2 0 0), (4, .lptr 4 0 0), (5, .int .i64 v8.2)] [(2, { sz := 4, rows := [[.sl true (([] : List T_api_Type).map row_T_api_Type), .int .i64 0, .int .u8 0, .str []]], frz := 0, pure := false }), (4, { sz := 4, rows := [[.lsl 1004 0 (((t0.2 ++ [({ f_Dim := v8.1.f_Dim, f_Base := v8.1.f_Base, f_Name := v8.1.f_Name } : T_api_Type)]).map row_T_api_Type).length), .int .i64 0, .int .u8 0, .str []]], frz := 0, pure := false }), (1004, { sz := 3, rows := ((t0.2 ++ [({ f_Dim := v8.1.f_Dim, f_Base := v8.1.f_Base, f_Name := v8.1.f_Name } : T_api_Type)]).map row_T_api_Type), frz := 0, pure := true })]) (q := [True ∧ ((True ∧ (True ∧ (True ∧ True))) ∧ True), True ∧ ((0 + ([({ f_Dim := v8.1.f_Dim, f_Base := v8.1.f_Base, f_Name := v8.1.f_Name } : T_api_Type)].map row_T_api_Type).length ≤ ([({ f_Dim := v8.1.f_Dim, f_Base := v8.1.f_Base, f_Name := v8.1.f_Name } : T_api_Type)].map row_T_api_Type).length) ∧ (t0.2.map row_T_api_Type).length = (t0.2.map row_T_api_Type).length ∧ (∀ r ∈ ((([({ f_Dim := v8.1.f_Dim, f_Base := v8.1.f_Base, f_Name := v8.1.f_Name } : T_api_Type)].map row_T_api_Type).drop 0).take ([({ f_Dim := v8.1.f_Dim, f_Base := v8.1.f_Base, f_Name := v8.1.f_Name } : T_api_Type)].map row_T_api_Type).length), r.length = 3) ∧ (t0.2.map row_T_api_Type) ++ ((([({ f_Dim := v8.1.f_Dim, f_Base := v8.1.f_Base, f_Name := v8.1.f_Name } : T_api_Type)].map row_T_api_Type).drop 0).take ([({ f_Dim := v8.1.f_Dim, f_Base := v8.1.f_Base, f_Name := v8.1.f_Name } : T_api_Type)].map row_T_api_Type).length) = ((t0.2 ++ [({ f_Dim := v8.1.f_Dim, f_Base := v8.1.f_Base, f_Name := v8.1.f_Name } : T_api_Type)]).map row_T_api_Type) ∧ ((t0.2 ++ [({ f_Dim := v8.1.f_Dim, f_Base := v8.1.f_Base, f_Name := v8.1.f_Name } : T_api_Type)]).map row_T_api_Type).length ≤ 9223372036854775807 ∧ ((t0.2 ++ [({ f_Dim := v8.1.f_Dim, f_Base := v8.1.f_Base, f_Name := v8.1.f_Name } : T_api_Type)]).map row_T_api_Type).length * 32 ≤ 140737488355328), True ∧ (0 ≤ 0 ∧ 0 + ([.lsl 1004 0 (((t0.2 ++ [({ f_Dim := v8.1.f_Dim, f_Base := v8.1.f_Base, f_Name := v8.1.f_Name } : T_api_Type)]).map row_T_api_Type).length)] : List D).length ≤ ([.undef, .int .i64 0, .int .u8 0, .str []] : List D).length ∧ ([[.lsl 1004 0 (((t0.2 ++ [({ f_Dim := v8.1.f_Dim, f_Base := v8.1.f_Base, f_Name := v8.1.f_Name } : T_api_Type)]).map row_T_api_Type).length), .int .i64 0, .int .u8 0, .str []]] : List (List D)) = ([[.lsl 1004 0 (((t0.2 ++ [({ f_Dim := v8.1.f_Dim, f_Base := v8.1.f_Base, f_Name := v8.1.f_Name } : T_api_Type)]).map row_T_api_Type).length), .int .i64 0, .int .u8 0, .str []]] : List (List D)))]) (by kernel_rfl) ⟨⟨trivial, ⟨⟨trivial, ⟨trivial, ⟨trivial, trivial⟩⟩⟩, trivial⟩⟩, ⟨trivial, ⟨roomAll _, rfl, by rw [takeAll]; exact szM (f := row_T_api_Type) (n := 3) (fun _ => rfl) _, by rw [takeAll]; exact appM row_T_api_Type _ _, (growK_spec e9 (lenMN _ _)).1, (growK_spec e9 (lenMN _ _)).2⟩⟩, ⟨trivial, ⟨Nat.zero_le _, Nat.le_of_ble_eq_true rfl, rfl⟩⟩, trivial⟩ ?_
  refine EvOk.normal ?_
  obtain rfl := someE h
  exact Round.next (by kernel_rfl)
theorem wj16x2 (t0 : Int × (List T_api_Type)) (x0 : List UInt8) (r : Ctl (Int × (List T_api_Type)) (((List T_api_Type) × Int) ⊕ (T_api_Sig × Int))) (h : (j16x2 t0 x0)  = some r) (Γ : Ctx) : EvOk Try.prog Γ (Round (st16x1 x0) (J16x1 x0) r) (mkS 75 [(0, .str x0), (2, .lptr 2 0 0), (4, .lptr 4 0 0), (5, .int .i64 t0.1)] [(2, { sz := 4, rows := [[.sl true (([] : List T_api_Type).map row_T_api_Type), .int .i64 0, .int .u8 0, .str []]], frz := 0, pure := false }), (4, { sz := 4, rows := [[.lsl 1004 0 ((t0.2.map row_T_api_Type).length), .int .i64 0, .int .u8 0, .str []]], frz := 0, pure := false }), (1004, { sz := 3, rows := (t0.2.map row_T_api_Type), frz := 0, pure := true })]) (.stop c16x14 [.seq c16x15, .blk 1]) := by
  refine EvOk.stop ?_
  obtain ⟨v8, e8, h⟩ := bindE h
  rcases Bool.eq_false_or_eq_true (decide (v8.2 < 0)) with h12 | h12
  · replace h := iteT h12 h
    refine At.adv [] [(6, { told := [(2, { ans := .val (.tup [.agg (row_T_api_Type v8.1), .int .i64 v8.2]), args := [.str x0, .int .i64 t0.1] })], gs := [], keep := some ([0, 2, 4, 6, 7], [(2, 2), (4, 4), (6, 6), (1004, 1004)]) }), (7, { told := [(6, { ans := .yes })], gs := [(3, false), (4, false), (5, false)], keep := some ([0, 2, 4, 6, 7, 41], [(2, 2), (4, 4), (6, 6), (1004, 1004)]) })] 400 (ev := .cond true c16x22 c16x23 [.seq c16x24, .blk 1]) (σ' := mkS 75 [(0, .str x0), (2, .lptr 2 0 0), (4, .lptr 4 0 0), (6, .lptr 6 0 0), (7, .int .i64 v8.2), (41, .bool true)] [(2, { sz := 4, rows := [[.sl true (([] : List T_api_Type).map row_T_api_Type), .int .i64 0, .int .u8 0, .str []]], frz := 0, pure := false }), (4, { sz := 4, rows := [[.lsl 1004 0 ((t0.2.map row_T_api_Type).length), .int .i64 0, .int .u8 0, .str []]], frz := 0, pure := false }), (6, { sz := 3, rows := [[.int .i64 v8.1.f_Dim, .int .u8 v8.1.f_Base, .str v8.1.f_Name]], frz := 0, pure := false }), (1004, { sz := 3, rows := (t0.2.map row_T_api_Type), frz := 0, pure := true })]) (q := [True ∧ ((True ∧ (True ∧ True)) ∧ ([.str x0, .int .i64 t0.1] : List D) = [.str x0, .int .i64 t0.1] ∧ CallAny Try.prog 36 [.str x0, .int .i64 t0.1] (.tup [.agg (row_T_api_Type v8.1), .int .i64 v8.2])), True ∧ (0 ≤ 0 ∧ 0 + ([.int .i64 v8.1.f_Dim, .int .u8 v8.1.f_Base, .str v8.1.f_Name] : List D).length ≤ ([.int .i64 0, .int .u8 0, .str []] : List D).length ∧ ([[.int .i64 v8.1.f_Dim, .int .u8 v8.1.f_Base, .str v8.1.f_Name]] : List (List D)) = ([[.int .i64 v8.1.f_Dim, .int .u8 v8.1.f_Base, .str v8.1.f_Name]] : List (List D))), ((decide (v8.2 < 0)) == false) = false, ((decide (v8.2 < 0)) == false) = false, ((decide (v8.2 < 0)) == false) = false, True ∧ ((decide (v8.2 < 0)) = true)]) (by kernel_rfl) ⟨⟨trivial, ⟨⟨trivial, ⟨trivial, trivial⟩⟩, rfl, .inl (w36 e8)⟩⟩, ⟨trivial, ⟨Nat.zero_le _, Nat.le_of_ble_eq_true rfl, rfl⟩⟩, gB h12 rfl, gB h12 rfl, gB h12 rfl, ⟨trivial, h12⟩, trivial⟩ ?_
    refine EvOk.cond (fun _ => ?_) (fun hb => Bool.noConfusion hb)
    refine At.gc [2] [(2, 2)] (n := 75) (l := [(2, .lptr 2 0 0)]) (bl := [(2, { sz := 4, rows := [[.sl true (([] : List T_api_Type).map row_T_api_Type), .int .i64 0, .int .u8 0, .str []]], frz := 0, pure := false })]) (by kernel_rfl) ?_
    refine At.adv [] [(8, { told := [], gs := [], keep := some ([2, 3], [(2, 2)]) })] 400 (ev := .ret) (σ' := mkS 75 [(2, .lptr 2 0 0), (3, .int .i64 13)] [(2, { sz := 4, rows := [[.sl true (([] : List T_api_Type).map row_T_api_Type), .int .i64 0, .int .u8 0, .str []]], frz := 0, pure := false })]) (q := [True ∧ (0 ≤ 0 ∧ 0 + ([.sl true (([] : List T_api_Type).map row_T_api_Type), .int .i64 0, .int .u8 0, .str []] : List D).length ≤ ([.sl true (([] : List T_api_Type).map row_T_api_Type), .int .i64 0, .int .u8 0, .str []] : List D).length ∧ ([[.sl true (([] : List T_api_Type).map row_T_api_Type), .int .i64 0, .int .u8 0, .str []]] : List (List D)) = ([[.sl true (([] : List T_api_Type).map row_T_api_Type), .int .i64 0, .int .u8 0, .str []]] : List (List D)))]) (by kernel_rfl) ⟨⟨trivial, ⟨Nat.zero_le _, Nat.le_of_ble_eq_true rfl, rfl⟩⟩, trivial⟩ ?_
    refine EvOk.ret ?_
    obtain rfl := someE h
    exact Round.done neRet ⟨rfl, Den.Ends.mk (.inl rfl) (d := .tup [.agg [.sl false (([] : List T_api_Type).map row_T_api_Type), .int .i64 0, .int .u8 0, .str []], .int .i64 13]) (p := (True ∧ (True ∧ True)) ∧ ((True ∧ (True ∧ (True ∧ (True ∧ True)))) ∧ (True ∧ True))) (by kernel_rfl) ⟨⟨trivial, ⟨trivial, trivial⟩⟩, ⟨⟨trivial, ⟨trivial, ⟨trivial, ⟨trivial, trivial⟩⟩⟩⟩, ⟨trivial, trivial⟩⟩⟩ (by kernel_rfl)⟩
  · replace h := iteF h12 h
    refine At.adv [] [(6, { told := [(2, { ans := .val (.tup [.agg (row_T_api_Type v8.1), .int .i64 v8.2]), args := [.str x0, .int .i64 t0.1] })], gs := [], keep := some ([0, 2, 4, 6, 7], [(2, 2), (4, 4), (6, 6), (1004, 1004)]) }), (7, { told := [(6, { ans := .no })], gs := [(3, true), (4, true), (5, true)], keep := some ([0, 2, 4, 6, 7, 41], [(2, 2), (4, 4), (6, 6), (1004, 1004)]) })] 400 (ev := .cond (v8.1.f_Base == 86) c16x22 c16x23 [.seq c16x24, .blk 1]) (σ' := mkS 75 [(0, .str x0), (2, .lptr 2 0 0), (4, .lptr 4 0 0), (6, .lptr 6 0 0), (7, .int .i64 v8.2), (41, .bool (v8.1.f_Base == 86))] [(2, { sz := 4, rows := [[.sl true (([] : List T_api_Type).map row_T_api_Type), .int .i64 0, .int .u8 0, .str []]], frz := 0, pure := false }), (4, { sz := 4, rows := [[.lsl 1004 0 ((t0.2.map row_T_api_Type).length), .int .i64 0, .int .u8 0, .str []]], frz := 0, pure := false }), (6, { sz := 3, rows := [[.int .i64 v8.1.f_Dim, .int .u8 v8.1.f_Base, .str v8.1.f_Name]], frz := 0, pure := false }), (1004, { sz := 3, rows := (t0.2.map row_T_api_Type), frz := 0, pure := true })]) (q := [True ∧ ((True ∧ (True ∧ True)) ∧ ([.str x0, .int .i64 t0.1] : List D) = [.str x0, .int .i64 t0.1] ∧ CallAny Try.prog 36 [.str x0, .int .i64 t0.1] (.tup [.agg (row_T_api_Type v8.1), .int .i64 v8.2])), True ∧ (0 ≤ 0 ∧ 0 + ([.int .i64 v8.1.f_Dim, .int .u8 v8.1.f_Base, .str v8.1.f_Name] : List D).length ≤ ([.int .i64 0, .int .u8 0, .str []] : List D).length ∧ ([[.int .i64 v8.1.f_Dim, .int .u8 v8.1.f_Base, .str v8.1.f_Name]] : List (List D)) = ([[.int .i64 v8.1.f_Dim, .int .u8 v8.1.f_Base, .str v8.1.f_Name]] : List (List D))), ((decide (v8.2 < 0)) == false) = true ∧ True, ((decide (v8.2 < 0)) == false) = true ∧ True, ((decide (v8.2 < 0)) == false) = true ∧ True, True ∧ ((decide (v8.2 < 0)) = false)]) (by kernel_rfl) ⟨⟨trivial, ⟨⟨trivial, ⟨trivial, trivial⟩⟩, rfl, .inl (w36 e8)⟩⟩, ⟨trivial, ⟨Nat.zero_le _, Nat.le_of_ble_eq_true rfl, rfl⟩⟩, ⟨(gB h12 rfl), trivial⟩, ⟨(gB h12 rfl), trivial⟩, ⟨(gB h12 rfl), trivial⟩, ⟨trivial, h12⟩, trivial⟩ ?_
    refine EvOk.cond (fun h13 => ?_) (fun h13 => ?_)
    · replace h := iteT h13 h
      refine At.gc [2] [(2, 2)] (n := 75) (l := [(2, .lptr 2 0 0)]) (bl := [(2, { sz := 4, rows := [[.sl true (([] : List T_api_Type).map row_T_api_Type), .int .i64 0, .int .u8 0, .str []]], frz := 0, pure := false })]) (by kernel_rfl) ?_
      refine At.adv [] [(8, { told := [], gs := [], keep := some ([2, 3], [(2, 2)]) })] 400 (ev := .ret) (σ' := mkS 75 [(2, .lptr 2 0 0), (3, .int .i64 13)] [(2, { sz := 4, rows := [[.sl true (([] : List T_api_Type).map row_T_api_Type), .int .i64 0, .int .u8 0, .str []]], frz := 0, pure := false })]) (q := [True ∧ (0 ≤ 0 ∧ 0 + ([.sl true (([] : List T_api_Type).map row_T_api_Type), .int .i64 0, .int .u8 0, .str []] : List D).length ≤ ([.sl true (([] : List T_api_Type).map row_T_api_Type), .int .i64 0, .int .u8 0, .str []] : List D).length ∧ ([[.sl true (([] : List T_api_Type).map row_T_api_Type), .int .i64 0, .int .u8 0, .str []]] : List (List D)) = ([[.sl true (([] : List T_api_Type).map row_T_api_Type), .int .i64 0, .int .u8 0, .str []]] : List (List D)))]) (by kernel_rfl) ⟨⟨trivial, ⟨Nat.zero_le _, Nat.le_of_ble_eq_true rfl, rfl⟩⟩, trivial⟩ ?_
      refine EvOk.ret ?_
      obtain rfl := someE h
      exact Round.done neRet ⟨rfl, Den.Ends.mk (.inl rfl) (d := .tup [.agg [.sl false (([] : List T_api_Type).map row_T_api_Type), .int .i64 0, .int .u8 0, .str []], .int .i64 13]) (p := (True ∧ (True ∧ True)) ∧ ((True ∧ (True ∧ (True ∧ (True ∧ True)))) ∧ (True ∧ True))) (by kernel_rfl) ⟨⟨trivial, ⟨trivial, trivial⟩⟩, ⟨⟨trivial, ⟨trivial, ⟨trivial, ⟨trivial, trivial⟩⟩⟩⟩, ⟨trivial, trivial⟩⟩⟩ (by kernel_rfl)⟩
    · replace h := iteF h13 h
      refine At.gc [0, 2, 4, 6, 7] [(2, 2), (4, 4), (6, 6), (1004, 1004)] (n := 75) (l := [(0, .str x0), (2, .lptr 2 0 0), (4, .lptr 4 0 0), (6, .lptr 6 0 0), (7, .int .i64 v8.2)]) (bl := [(2, { sz := 4, rows := [[.sl true (([] : List T_api_Type).map row_T_api_Type), .int .i64 0, .int .u8 0, .str []]], frz := 0, pure := false }), (4, { sz := 4, rows := [[.lsl 1004 0 ((t0.2.map row_T_api_Type).length), .int .i64 0, .int .u8 0, .str []]], frz := 0, pure := false }), (6, { sz := 3, rows := [[.int .i64 v8.1.f_Dim, .int .u8 v8.1.f_Base, .str v8.1.f_Name]], frz := 0, pure := false }), (1004, { sz := 3, rows := (t0.2.map row_T_api_Type), frz := 0, pure := true })]) (by kernel_rfl) ?_
      refine At.adv [9] [] 400 (ev := .stop c16x25 [.seq c16x26, .blk 1]) (σ' := mkS 75 [(0, .str x0), (2, .lptr 2 0 0), (4, .lptr 4 0 0), (6, .lptr 6 0 0), (7, .int .i64 v8.2)] [(2, { sz := 4, rows := [[.sl true (([] : List T_api_Type).map row_T_api_Type), .int .i64 0, .int .u8 0, .str []]], frz := 0, pure := false }), (4, { sz := 4, rows := [[.lsl 1004 0 ((t0.2.map row_T_api_Type).length), .int .i64 0, .int .u8 0, .str []]], frz := 0, pure := false }), (6, { sz := 3, rows := [[.int .i64 v8.1.f_Dim, .int .u8 v8.1.f_Base, .str v8.1.f_Name]], frz := 0, pure := false }), (1004, { sz := 3, rows := (t0.2.map row_T_api_Type), frz := 0, pure := true })]) (q := []) (by kernel_rfl) trivial ?_
      exact (wj16x3 t0 v8 x0)  r h Γ
theorem wl16x1 (x0 : List UInt8) (t0 : Int × (List T_api_Type)) (r : Ctl (Int × (List T_api_Type)) (((List T_api_Type) × Int) ⊕ (T_api_Sig × Int))) (h : (l16x1 x0) t0 = some r) (Γ : Ctx) : At Try.prog Γ c16x11 [] (Round (st16x1 x0) (J16x1 x0) r) ((st16x1 x0) t0) := by
  rcases Bool.eq_false_or_eq_true (decide (t0.1 < (x0.length : Int))) with h10 | h10
  · replace h := iteT h10 h
    obtain ⟨v7, e7, h⟩ := bindE h
    refine At.adv [] [(5, { told := [(7, { ans := .val (.int .u8 v7) }), (9, { ans := .yes })], gs := [(5, true), (6, true), (7, true), (8, true)], keep := some ([0, 2, 4, 5, 28], [(2, 2), (4, 4), (1004, 1004)]) })] 400 (ev := .cond (v7 != 41) c16x18 c16x19 [.seq c16x12]) (σ' := mkS 75 [(0, .str x0), (2, .lptr 2 0 0), (4, .lptr 4 0 0), (5, .int .i64 t0.1), (28, .bool (v7 != 41))] [(2, { sz := 4, rows := [[.sl true (([] : List T_api_Type).map row_T_api_Type), .int .i64 0, .int .u8 0, .str []]], frz := 0, pure := false }), (4, { sz := 4, rows := [[.lsl 1004 0 ((t0.2.map row_T_api_Type).length), .int .i64 0, .int .u8 0, .str []]], frz := 0, pure := false }), (1004, { sz := 3, rows := (t0.2.map row_T_api_Type), frz := 0, pure := true })]) (q := [((decide (t0.1 < (x0.length : Int))) == true) = true ∧ True, ((decide (t0.1 < (x0.length : Int))) == true) = true ∧ True, ((decide (t0.1 < (x0.length : Int))) == true) = true ∧ (getS x0 t0.1 = some v7), ((decide (t0.1 < (x0.length : Int))) == true) = true ∧ True, True ∧ ((decide (t0.1 < (x0.length : Int))) = true)]) (by kernel_rfl) ⟨⟨(gB h10 rfl), trivial⟩, ⟨(gB h10 rfl), trivial⟩, ⟨(gB h10 rfl), e7⟩, ⟨(gB h10 rfl), trivial⟩, ⟨trivial, h10⟩, trivial⟩ ?_
    refine EvOk.cond (fun h11 => ?_) (fun h11 => ?_)
    · replace h := iteT h11 h
      refine At.gc [0, 2, 4, 5] [(2, 2), (4, 4), (1004, 1004)] (n := 75) (l := [(0, .str x0), (2, .lptr 2 0 0), (4, .lptr 4 0 0), (5, .int .i64 t0.1)]) (bl := [(2, { sz := 4, rows := [[.sl true (([] : List T_api_Type).map row_T_api_Type), .int .i64 0, .int .u8 0, .str []]], frz := 0, pure := false }), (4, { sz := 4, rows := [[.lsl 1004 0 ((t0.2.map row_T_api_Type).length), .int .i64 0, .int .u8 0, .str []]], frz := 0, pure := false }), (1004, { sz := 3, rows := (t0.2.map row_T_api_Type), frz := 0, pure := true })]) (by kernel_rfl) ?_
      refine At.adv [6] [] 400 (ev := .stop c16x14 [.seq c16x15, .blk 1]) (σ' := mkS 75 [(0, .str x0), (2, .lptr 2 0 0), (4, .lptr 4 0 0), (5, .int .i64 t0.1)] [(2, { sz := 4, rows := [[.sl true (([] : List T_api_Type).map row_T_api_Type), .int .i64 0, .int .u8 0, .str []]], frz := 0, pure := false }), (4, { sz := 4, rows := [[.lsl 1004 0 ((t0.2.map row_T_api_Type).length), .int .i64 0, .int .u8 0, .str []]], frz := 0, pure := false }), (1004, { sz := 3, rows := (t0.2.map row_T_api_Type), frz := 0, pure := true })]) (q := []) (by kernel_rfl) trivial ?_
      exact (wj16x2 t0 x0)  r h Γ
    · replace h := iteF h11 h
      refine At.gc [0, 2, 4, 5] [(2, 2), (4, 4), (1004, 1004)] (n := 75) (l := [(0, .str x0), (2, .lptr 2 0 0), (4, .lptr 4 0 0), (5, .int .i64 t0.1)]) (bl := [(2, { sz := 4, rows := [[.sl true (([] : List T_api_Type).map row_T_api_Type), .int .i64 0, .int .u8 0, .str []]], frz := 0, pure := false }), (4, { sz := 4, rows := [[.lsl 1004 0 ((t0.2.map row_T_api_Type).length), .int .i64 0, .int .u8 0, .str []]], frz := 0, pure := false }), (1004, { sz := 3, rows := (t0.2.map row_T_api_Type), frz := 0, pure := true })]) (by kernel_rfl) ?_
      refine At.adv [] [] 400 (ev := .exit 0) (σ' := mkS 75 [(0, .str x0), (2, .lptr 2 0 0), (4, .lptr 4 0 0), (5, .int .i64 t0.1)] [(2, { sz := 4, rows := [[.sl true (([] : List T_api_Type).map row_T_api_Type), .int .i64 0, .int .u8 0, .str []]], frz := 0, pure := false }), (4, { sz := 4, rows := [[.lsl 1004 0 ((t0.2.map row_T_api_Type).length), .int .i64 0, .int .u8 0, .str []]], frz := 0, pure := false }), (1004, { sz := 3, rows := (t0.2.map row_T_api_Type), frz := 0, pure := true })]) (q := []) (by kernel_rfl) trivial ?_
      refine EvOk.exit ?_
      obtain rfl := someE h
      exact Round.done (neExit _) ⟨rfl, by kernel_rfl⟩
  · replace h := iteF h10 h
    refine At.adv [] [(5, { told := [(9, { ans := .no })], gs := [(5, false), (6, false), (7, false), (8, false)], keep := some ([0, 2, 4, 5, 28], [(2, 2), (4, 4), (1004, 1004)]) })] 400 (ev := .cond false c16x18 c16x19 [.seq c16x12]) (σ' := mkS 75 [(0, .str x0), (2, .lptr 2 0 0), (4, .lptr 4 0 0), (5, .int .i64 t0.1), (28, .bool false)] [(2, { sz := 4, rows := [[.sl true (([] : List T_api_Type).map row_T_api_Type), .int .i64 0, .int .u8 0, .str []]], frz := 0, pure := false }), (4, { sz := 4, rows := [[.lsl 1004 0 ((t0.2.map row_T_api_Type).length), .int .i64 0, .int .u8 0, .str []]], frz := 0, pure := false }), (1004, { sz := 3, rows := (t0.2.map row_T_api_Type), frz := 0, pure := true })]) (q := [((decide (t0.1 < (x0.length : Int))) == true) = false, ((decide (t0.1 < (x0.length : Int))) == true) = false, ((decide (t0.1 < (x0.length : Int))) == true) = false, ((decide (t0.1 < (x0.length : Int))) == true) = false, True ∧ ((decide (t0.1 < (x0.length : Int))) = false)]) (by kernel_rfl) ⟨gB h10 rfl, gB h10 rfl, gB h10 rfl, gB h10 rfl, ⟨trivial, h10⟩, trivial⟩ ?_
    refine EvOk.cond (fun hb => Bool.noConfusion hb) (fun _ => ?_)
    refine At.gc [0, 2, 4, 5] [(2, 2), (4, 4), (1004, 1004)] (n := 75) (l := [(0, .str x0), (2, .lptr 2 0 0), (4, .lptr 4 0 0), (5, .int .i64 t0.1)]) (bl := [(2, { sz := 4, rows := [[.sl true (([] : List T_api_Type).map row_T_api_Type), .int .i64 0, .int .u8 0, .str []]], frz := 0, pure := false }), (4, { sz := 4, rows := [[.lsl 1004 0 ((t0.2.map row_T_api_Type).length), .int .i64 0, .int .u8 0, .str []]], frz := 0, pure := false }), (1004, { sz := 3, rows := (t0.2.map row_T_api_Type), frz := 0, pure := true })]) (by kernel_rfl) ?_
    refine At.adv [] [] 400 (ev := .exit 0) (σ' := mkS 75 [(0, .str x0), (2, .lptr 2 0 0), (4, .lptr 4 0 0), (5, .int .i64 t0.1)] [(2, { sz := 4, rows := [[.sl true (([] : List T_api_Type).map row_T_api_Type), .int .i64 0, .int .u8 0, .str []]], frz := 0, pure := false }), (4, { sz := 4, rows := [[.lsl 1004 0 ((t0.2.map row_T_api_Type).length), .int .i64 0, .int .u8 0, .str []]], frz := 0, pure := false }), (1004, { sz := 3, rows := (t0.2.map row_T_api_Type), frz := 0, pure := true })]) (q := []) (by kernel_rfl) trivial ?_
    refine EvOk.exit ?_
    obtain rfl := someE h
    exact Round.done (neExit _) ⟨rfl, by kernel_rfl⟩
theorem wj16x1 (x0 : List UInt8) (r : T_api_Sig × Int) (h : (j16x1 x0)  = some r) (Γ : Ctx) : EvOk Try.prog Γ (Den.Ends Try.prog Try.f16 (.tup [.agg (row_T_api_Sig r.1), .int .i64 r.2])) (mkS 75 [(0, .str x0), (2, .lptr 2 0 0)] [(2, { sz := 4, rows := [[.sl true (([] : List T_api_Type).map row_T_api_Type), .int .i64 0, .int .u8 0, .str []]], frz := 0, pure := false })]) (.stop c16x6 [.seq c16x7]) := by
  refine EvOk.stop ?_
  refine At.adv [] [(3, { told := [], gs := [], keep := some ([0, 2, 4], [(2, 2), (4, 4)]) }), (4, { told := [], gs := [], keep := some ([0, 2, 4, 5], [(2, 2), (4, 4)]) })] 400 (ev := .loop c16x11 [.blk 0, .seq c16x27]) (σ' := mkS 75 [(0, .str x0), (2, .lptr 2 0 0), (4, .lptr 4 0 0), (5, .int .i64 1)] [(2, { sz := 4, rows := [[.sl true (([] : List T_api_Type).map row_T_api_Type), .int .i64 0, .int .u8 0, .str []]], frz := 0, pure := false }), (4, { sz := 4, rows := [[.sl true (([] : List T_api_Type).map row_T_api_Type), .int .i64 0, .int .u8 0, .str []]], frz := 0, pure := false })]) (q := [True ∧ (0 ≤ 0 ∧ 0 + ([.sl true (([] : List T_api_Type).map row_T_api_Type), .int .i64 0, .int .u8 0, .str []] : List D).length ≤ ([.sl true (([] : List T_api_Type).map row_T_api_Type), .int .i64 0, .int .u8 0, .str []] : List D).length ∧ ([[.sl true (([] : List T_api_Type).map row_T_api_Type), .int .i64 0, .int .u8 0, .str []]] : List (List D)) = ([[.sl true (([] : List T_api_Type).map row_T_api_Type), .int .i64 0, .int .u8 0, .str []]] : List (List D)))]) (by kernel_rfl) ⟨⟨trivial, ⟨Nat.zero_le _, Nat.le_of_ble_eq_true rfl, rfl⟩⟩, trivial⟩ ?_
  refine EvOk.loop ?_
  obtain ⟨q1, e10, h⟩ := bindE h
  refine At.convG [.blk 4 0 1004 3] [0, 2, 4, 5] [(2, 2), (4, 4), (1004, 1004)] (n := 75) (l := [(0, .str x0), (2, .lptr 2 0 0), (4, .lptr 4 0 0), (5, .int .i64 1)]) (bl := [(2, { sz := 4, rows := [[.sl true (([] : List T_api_Type).map row_T_api_Type), .int .i64 0, .int .u8 0, .str []]], frz := 0, pure := false }), (4, { sz := 4, rows := [[.lsl 1004 0 ((([] : List T_api_Type).map row_T_api_Type).length), .int .i64 0, .int .u8 0, .str []]], frz := 0, pure := false }), (1004, { sz := 3, rows := (([] : List T_api_Type).map row_T_api_Type), frz := 0, pure := true })]) (by kernel_rfl) ?_
  refine At.loop (l16x1 x0) (st16x1 x0) (J16x1 x0) (1, ([] : List T_api_Type)) e10 (by kernel_rfl) (fun t x hx => (wl16x1 x0) t x hx Γ) ?_
  intro e σ' hJ
  rcases q1 with q0 | y0
  · obtain ⟨rfl, rfl⟩ := hJ
    refine At.exitK (K' := [.seq c16x27]) (by kernel_rfl) ?_
    refine At.advN [] [(11, { told := [], gs := [], keep := some ([0, 2, 4, 5, 53], [(2, 2), (4, 4), (1004, 1004)]) })] 400 (ev := .cond (decide (q0.2 ≥ (x0.length : Int))) c16x42 c16x43 [.seq c16x28]) (σ' := mkS 75 [(0, .str x0), (2, .lptr 2 0 0), (4, .lptr 4 0 0), (5, .int .i64 q0.2), (53, .bool (decide (q0.2 ≥ (x0.length : Int))))] [(2, { sz := 4, rows := [[.sl true (([] : List T_api_Type).map row_T_api_Type), .int .i64 0, .int .u8 0, .str []]], frz := 0, pure := false }), (4, { sz := 4, rows := [[.lsl 1004 0 ((q0.1.map row_T_api_Type).length), .int .i64 0, .int .u8 0, .str []]], frz := 0, pure := false }), (1004, { sz := 3, rows := (q0.1.map row_T_api_Type), frz := 0, pure := true })]) (q := []) (by kernel_rfl) trivial ?_
    refine EvOk.cond (fun h14 => ?_) (fun h14 => ?_)
    · replace h := iteT h14 h
      refine At.gc [2] [(2, 2)] (n := 75) (l := [(2, .lptr 2 0 0)]) (bl := [(2, { sz := 4, rows := [[.sl true (([] : List T_api_Type).map row_T_api_Type), .int .i64 0, .int .u8 0, .str []]], frz := 0, pure := false })]) (by kernel_rfl) ?_
      refine At.adv [] [(12, { told := [], gs := [], keep := some ([2, 3], [(2, 2)]) })] 400 (ev := .ret) (σ' := mkS 75 [(2, .lptr 2 0 0), (3, .int .i64 13)] [(2, { sz := 4, rows := [[.sl true (([] : List T_api_Type).map row_T_api_Type), .int .i64 0, .int .u8 0, .str []]], frz := 0, pure := false })]) (q := [True ∧ (0 ≤ 0 ∧ 0 + ([.sl true (([] : List T_api_Type).map row_T_api_Type), .int .i64 0, .int .u8 0, .str []] : List D).length ≤ ([.sl true (([] : List T_api_Type).map row_T_api_Type), .int .i64 0, .int .u8 0, .str []] : List D).length ∧ ([[.sl true (([] : List T_api_Type).map row_T_api_Type), .int .i64 0, .int .u8 0, .str []]] : List (List D)) = ([[.sl true (([] : List T_api_Type).map row_T_api_Type), .int .i64 0, .int .u8 0, .str []]] : List (List D)))]) (by kernel_rfl) ⟨⟨trivial, ⟨Nat.zero_le _, Nat.le_of_ble_eq_true rfl, rfl⟩⟩, trivial⟩ ?_
      refine EvOk.ret ?_
      obtain rfl := someE h
      exact Den.Ends.mk (.inl rfl) (d := .tup [.agg [.sl false (([] : List T_api_Type).map row_T_api_Type), .int .i64 0, .int .u8 0, .str []], .int .i64 13]) (p := (True ∧ (True ∧ True)) ∧ ((True ∧ (True ∧ (True ∧ (True ∧ True)))) ∧ (True ∧ True))) (by kernel_rfl) ⟨⟨trivial, ⟨trivial, trivial⟩⟩, ⟨⟨trivial, ⟨trivial, ⟨trivial, ⟨trivial, trivial⟩⟩⟩⟩, ⟨trivial, trivial⟩⟩⟩ (by kernel_rfl)
    · replace h := iteF h14 h
      refine At.gc [0, 2, 4, 5] [(2, 2), (4, 4), (1004, 1004)] (n := 75) (l := [(0, .str x0), (2, .lptr 2 0 0), (4, .lptr 4 0 0), (5, .int .i64 q0.2)]) (bl := [(2, { sz := 4, rows := [[.sl true (([] : List T_api_Type).map row_T_api_Type), .int .i64 0, .int .u8 0, .str []]], frz := 0, pure := false }), (4, { sz := 4, rows := [[.lsl 1004 0 ((q0.1.map row_T_api_Type).length), .int .i64 0, .int .u8 0, .str []]], frz := 0, pure := false }), (1004, { sz := 3, rows := (q0.1.map row_T_api_Type), frz := 0, pure := true })]) (by kernel_rfl) ?_
      obtain ⟨v10, e11, h⟩ := bindE h
      obtain ⟨v11, e12, h⟩ := bindE h
      refine At.adv [] [(13, { told := [(2, { ans := .val (.int .i64 v10) }), (3, { ans := .val (.tup [.agg (row_T_api_Type v11.1), .int .i64 v11.2]), args := [.str x0, .int .i64 v10] })], gs := [], keep := some ([0, 2, 4, 8, 9], [(2, 2), (4, 4), (8, 8), (1004, 1004)]) }), (14, { told := [], gs := [], keep := some ([2, 4, 8, 65], [(2, 2), (4, 4), (8, 8), (1004, 1004)]) })] 400 (ev := .cond (v11.2 != (x0.length : Int)) c16x38 c16x39 [.seq c16x30]) (σ' := mkS 75 [(2, .lptr 2 0 0), (4, .lptr 4 0 0), (8, .lptr 8 0 0), (65, .bool (v11.2 != (x0.length : Int)))] [(2, { sz := 4, rows := [[.sl true (([] : List T_api_Type).map row_T_api_Type), .int .i64 0, .int .u8 0, .str []]], frz := 0, pure := false }), (4, { sz := 4, rows := [[.lsl 1004 0 ((q0.1.map row_T_api_Type).length), .int .i64 0, .int .u8 0, .str []]], frz := 0, pure := false }), (8, { sz := 3, rows := [[.int .i64 v11.1.f_Dim, .int .u8 v11.1.f_Base, .str v11.1.f_Name]], frz := 0, pure := false }), (1004, { sz := 3, rows := (q0.1.map row_T_api_Type), frz := 0, pure := true })]) (q := [True ∧ (IntKind.wrap .i64 (q0.2 + (1 : Int)) = v10), True ∧ ((True ∧ (True ∧ True)) ∧ ([.str x0, .int .i64 v10] : List D) = [.str x0, .int .i64 v10] ∧ CallAny Try.prog 36 [.str x0, .int .i64 v10] (.tup [.agg (row_T_api_Type v11.1), .int .i64 v11.2])), True ∧ (0 ≤ 0 ∧ 0 + ([.int .i64 v11.1.f_Dim, .int .u8 v11.1.f_Base, .str v11.1.f_Name] : List D).length ≤ ([.int .i64 0, .int .u8 0, .str []] : List D).length ∧ ([[.int .i64 v11.1.f_Dim, .int .u8 v11.1.f_Base, .str v11.1.f_Name]] : List (List D)) = ([[.int .i64 v11.1.f_Dim, .int .u8 v11.1.f_Base, .str v11.1.f_Name]] : List (List D)))]) (by kernel_rfl) ⟨⟨trivial, someE e11⟩, ⟨trivial, ⟨⟨trivial, ⟨trivial, trivial⟩⟩, rfl, .inl (w36 e12)⟩⟩, ⟨trivial, ⟨Nat.zero_le _, Nat.le_of_ble_eq_true rfl, rfl⟩⟩, trivial⟩ ?_
      refine EvOk.cond (fun h15 => ?_) (fun h15 => ?_)
      · replace h := iteT h15 h
        refine At.gc [2] [(2, 2)] (n := 75) (l := [(2, .lptr 2 0 0)]) (bl := [(2, { sz := 4, rows := [[.sl true (([] : List T_api_Type).map row_T_api_Type), .int .i64 0, .int .u8 0, .str []]], frz := 0, pure := false })]) (by kernel_rfl) ?_
        refine At.adv [] [(15, { told := [], gs := [], keep := some ([2, 3], [(2, 2)]) })] 400 (ev := .ret) (σ' := mkS 75 [(2, .lptr 2 0 0), (3, .int .i64 13)] [(2, { sz := 4, rows := [[.sl true (([] : List T_api_Type).map row_T_api_Type), .int .i64 0, .int .u8 0, .str []]], frz := 0, pure := false })]) (q := [True ∧ (0 ≤ 0 ∧ 0 + ([.sl true (([] : List T_api_Type).map row_T_api_Type), .int .i64 0, .int .u8 0, .str []] : List D).length ≤ ([.sl true (([] : List T_api_Type).map row_T_api_Type), .int .i64 0, .int .u8 0, .str []] : List D).length ∧ ([[.sl true (([] : List T_api_Type).map row_T_api_Type), .int .i64 0, .int .u8 0, .str []]] : List (List D)) = ([[.sl true (([] : List T_api_Type).map row_T_api_Type), .int .i64 0, .int .u8 0, .str []]] : List (List D)))]) (by kernel_rfl) ⟨⟨trivial, ⟨Nat.zero_le _, Nat.le_of_ble_eq_true rfl, rfl⟩⟩, trivial⟩ ?_
        refine EvOk.ret ?_
        obtain rfl := someE h
        exact Den.Ends.mk (.inl rfl) (d := .tup [.agg [.sl false (([] : List T_api_Type).map row_T_api_Type), .int .i64 0, .int .u8 0, .str []], .int .i64 13]) (p := (True ∧ (True ∧ True)) ∧ ((True ∧ (True ∧ (True ∧ (True ∧ True)))) ∧ (True ∧ True))) (by kernel_rfl) ⟨⟨trivial, ⟨trivial, trivial⟩⟩, ⟨⟨trivial, ⟨trivial, ⟨trivial, ⟨trivial, trivial⟩⟩⟩⟩, ⟨trivial, trivial⟩⟩⟩ (by kernel_rfl)
      · replace h := iteF h15 h
        refine At.gc [2, 4, 8] [(2, 2), (4, 4), (8, 8), (1004, 1004)] (n := 75) (l := [(2, .lptr 2 0 0), (4, .lptr 4 0 0), (8, .lptr 8 0 0)]) (bl := [(2, { sz := 4, rows := [[.sl true (([] : List T_api_Type).map row_T_api_Type), .int .i64 0, .int .u8 0, .str []]], frz := 0, pure := false }), (4, { sz := 4, rows := [[.lsl 1004 0 ((q0.1.map row_T_api_Type).length), .int .i64 0, .int .u8 0, .str []]], frz := 0, pure := false }), (8, { sz := 3, rows := [[.int .i64 v11.1.f_Dim, .int .u8 v11.1.f_Base, .str v11.1.f_Name]], frz := 0, pure := false }), (1004, { sz := 3, rows := (q0.1.map row_T_api_Type), frz := 0, pure := true })]) (by kernel_rfl) ?_
        refine At.adv [] [(16, { told := [(2, { ans := .val (.int .i64 (q0.1.length : Int)) })], gs := [], keep := some ([2, 4, 8, 70], [(2, 2), (4, 4), (8, 8), (1004, 1004)]) })] 400 (ev := .cond (decide ((q0.1.length : Int) > 16)) c16x33 c16x34 [.seq c16x35]) (σ' := mkS 75 [(2, .lptr 2 0 0), (4, .lptr 4 0 0), (8, .lptr 8 0 0), (70, .bool (decide ((q0.1.length : Int) > 16)))] [(2, { sz := 4, rows := [[.sl true (([] : List T_api_Type).map row_T_api_Type), .int .i64 0, .int .u8 0, .str []]], frz := 0, pure := false }), (4, { sz := 4, rows := [[.lsl 1004 0 ((q0.1.map row_T_api_Type).length), .int .i64 0, .int .u8 0, .str []]], frz := 0, pure := false }), (8, { sz := 3, rows := [[.int .i64 v11.1.f_Dim, .int .u8 v11.1.f_Base, .str v11.1.f_Name]], frz := 0, pure := false }), (1004, { sz := 3, rows := (q0.1.map row_T_api_Type), frz := 0, pure := true })]) (q := [True ∧ ((((q0.1.map row_T_api_Type).length : Nat) : Int) = (q0.1.length : Int))]) (by kernel_rfl) ⟨⟨trivial, lenM _ _⟩, trivial⟩ ?_
        refine EvOk.cond (fun h16 => ?_) (fun h16 => ?_)
        · replace h := iteT h16 h
          refine At.gc [2] [(2, 2)] (n := 75) (l := [(2, .lptr 2 0 0)]) (bl := [(2, { sz := 4, rows := [[.sl true (([] : List T_api_Type).map row_T_api_Type), .int .i64 0, .int .u8 0, .str []]], frz := 0, pure := false })]) (by kernel_rfl) ?_
          refine At.adv [] [(17, { told := [], gs := [], keep := some ([2, 3], [(2, 2)]) })] 400 (ev := .ret) (σ' := mkS 75 [(2, .lptr 2 0 0), (3, .int .i64 5)] [(2, { sz := 4, rows := [[.sl true (([] : List T_api_Type).map row_T_api_Type), .int .i64 0, .int .u8 0, .str []]], frz := 0, pure := false })]) (q := [True ∧ (0 ≤ 0 ∧ 0 + ([.sl true (([] : List T_api_Type).map row_T_api_Type), .int .i64 0, .int .u8 0, .str []] : List D).length ≤ ([.sl true (([] : List T_api_Type).map row_T_api_Type), .int .i64 0, .int .u8 0, .str []] : List D).length ∧ ([[.sl true (([] : List T_api_Type).map row_T_api_Type), .int .i64 0, .int .u8 0, .str []]] : List (List D)) = ([[.sl true (([] : List T_api_Type).map row_T_api_Type), .int .i64 0, .int .u8 0, .str []]] : List (List D)))]) (by kernel_rfl) ⟨⟨trivial, ⟨Nat.zero_le _, Nat.le_of_ble_eq_true rfl, rfl⟩⟩, trivial⟩ ?_
          refine EvOk.ret ?_
          obtain rfl := someE h
          exact Den.Ends.mk (.inl rfl) (d := .tup [.agg [.sl false (([] : List T_api_Type).map row_T_api_Type), .int .i64 0, .int .u8 0, .str []], .int .i64 5]) (p := (True ∧ (True ∧ True)) ∧ ((True ∧ (True ∧ (True ∧ (True ∧ True)))) ∧ (True ∧ True))) (by kernel_rfl) ⟨⟨trivial, ⟨trivial, trivial⟩⟩, ⟨⟨trivial, ⟨trivial, ⟨trivial, ⟨trivial, trivial⟩⟩⟩⟩, ⟨trivial, trivial⟩⟩⟩ (by kernel_rfl)
        · replace h := iteF h16 h
          refine At.gc [2, 4, 8] [(2, 2), (4, 4), (8, 8), (1004, 1004)] (n := 75) (l := [(2, .lptr 2 0 0), (4, .lptr 4 0 0), (8, .lptr 8 0 0)]) (bl := [(2, { sz := 4, rows := [[.sl true (([] : List T_api_Type).map row_T_api_Type), .int .i64 0, .int .u8 0, .str []]], frz := 0, pure := false }), (4, { sz := 4, rows := [[.lsl 1004 0 ((q0.1.map row_T_api_Type).length), .int .i64 0, .int .u8 0, .str []]], frz := 0, pure := false }), (8, { sz := 3, rows := [[.int .i64 v11.1.f_Dim, .int .u8 v11.1.f_Base, .str v11.1.f_Name]], frz := 0, pure := false }), (1004, { sz := 3, rows := (q0.1.map row_T_api_Type), frz := 0, pure := true })]) (by kernel_rfl) ?_
          refine At.adv [] [(18, { told := [], gs := [], keep := some ([2, 4], [(2, 2), (4, 4), (1004, 1004)]) }), (19, { told := [], gs := [], keep := some ([2, 3], [(2, 2), (1004, 1004)]) })] 400 (ev := .ret) (σ' := mkS 75 [(2, .lptr 2 0 0), (3, .int .i64 0)] [(2, { sz := 4, rows := [[.lsl 1004 0 ((q0.1.map row_T_api_Type).length), .int .i64 v11.1.f_Dim, .int .u8 v11.1.f_Base, .str v11.1.f_Name]], frz := 0, pure := false }), (1004, { sz := 3, rows := (q0.1.map row_T_api_Type), frz := 0, pure := true })]) (q := [True ∧ (0 ≤ 0 ∧ 1 + ([.int .i64 v11.1.f_Dim, .int .u8 v11.1.f_Base, .str v11.1.f_Name] : List D).length ≤ ([.lsl 1004 0 ((q0.1.map row_T_api_Type).length), .int .i64 0, .int .u8 0, .str []] : List D).length ∧ ([[.lsl 1004 0 ((q0.1.map row_T_api_Type).length), .int .i64 v11.1.f_Dim, .int .u8 v11.1.f_Base, .str v11.1.f_Name]] : List (List D)) = ([[.lsl 1004 0 ((q0.1.map row_T_api_Type).length), .int .i64 v11.1.f_Dim, .int .u8 v11.1.f_Base, .str v11.1.f_Name]] : List (List D))), True ∧ (0 ≤ 0 ∧ 0 + ([.lsl 1004 0 ((q0.1.map row_T_api_Type).length), .int .i64 v11.1.f_Dim, .int .u8 v11.1.f_Base, .str v11.1.f_Name] : List D).length ≤ ([.sl true (([] : List T_api_Type).map row_T_api_Type), .int .i64 0, .int .u8 0, .str []] : List D).length ∧ ([[.lsl 1004 0 ((q0.1.map row_T_api_Type).length), .int .i64 v11.1.f_Dim, .int .u8 v11.1.f_Base, .str v11.1.f_Name]] : List (List D)) = ([[.lsl 1004 0 ((q0.1.map row_T_api_Type).length), .int .i64 v11.1.f_Dim, .int .u8 v11.1.f_Base, .str v11.1.f_Name]] : List (List D)))]) (by kernel_rfl) ⟨⟨trivial, ⟨Nat.zero_le _, Nat.le_of_ble_eq_true rfl, rfl⟩⟩, ⟨trivial, ⟨Nat.zero_le _, Nat.le_of_ble_eq_true rfl, rfl⟩⟩, trivial⟩ ?_
          refine EvOk.ret ?_
          obtain rfl := someE h
          exact Den.Ends.mk (.inl rfl) (d := .tup [.agg [.sl false (((q0.1.map row_T_api_Type).drop 0).take (q0.1.map row_T_api_Type).length), .int .i64 v11.1.f_Dim, .int .u8 v11.1.f_Base, .str v11.1.f_Name], .int .i64 0]) (p := (True ∧ (True ∧ True)) ∧ (((0 + (q0.1.map row_T_api_Type).length ≤ (q0.1.map row_T_api_Type).length) ∧ (True ∧ (True ∧ (True ∧ True)))) ∧ (True ∧ True))) (by kernel_rfl) ⟨⟨trivial, ⟨trivial, trivial⟩⟩, ⟨⟨roomAll _, ⟨trivial, ⟨trivial, ⟨trivial, trivial⟩⟩⟩⟩, ⟨trivial, trivial⟩⟩⟩ (by simp only [takeAll] <;> kernel_rfl)
  · obtain rfl := someE h
    obtain ⟨rfl, hE⟩ := hJ
    exact At.retK hE
theorem we16 (x0 : List UInt8) (r : T_api_Sig × Int) (h : m_armatureref04_ParseSignature x0 = some r) (Γ : Ctx) : At Try.prog Γ b16 [] (Den.Ends Try.prog Try.f16 (.tup [.agg (row_T_api_Sig r.1), .int .i64 r.2])) (mkS 75 [(0, .str x0)] []) := by
  rcases Bool.eq_false_or_eq_true (x0 == ([] : List UInt8)) with h0 | h0
  · replace h := iteT h0 h
    refine At.adv [] [(0, { told := [], gs := [], keep := some ([0, 2], [(2, 2)]) }), (1, { told := [(6, { ans := .yes })], gs := [(3, false), (4, false), (5, false)], keep := some ([0, 2, 16], [(2, 2)]) })] 400 (ev := .cond true c16x3 c16x4 [.seq c16x5]) (σ' := mkS 75 [(0, .str x0), (2, .lptr 2 0 0), (16, .bool true)] [(2, { sz := 4, rows := [[.sl true (([] : List T_api_Type).map row_T_api_Type), .int .i64 0, .int .u8 0, .str []]], frz := 0, pure := false })]) (q := [((x0 == ([] : List UInt8)) == false) = false, ((x0 == ([] : List UInt8)) == false) = false, ((x0 == ([] : List UInt8)) == false) = false, True ∧ ((x0 == ([] : List UInt8)) = true)]) (by kernel_rfl) ⟨gB h0 rfl, gB h0 rfl, gB h0 rfl, ⟨trivial, h0⟩, trivial⟩ ?_
    refine EvOk.cond (fun _ => ?_) (fun hb => Bool.noConfusion hb)
    refine At.gc [2] [(2, 2)] (n := 75) (l := [(2, .lptr 2 0 0)]) (bl := [(2, { sz := 4, rows := [[.sl true (([] : List T_api_Type).map row_T_api_Type), .int .i64 0, .int .u8 0, .str []]], frz := 0, pure := false })]) (by kernel_rfl) ?_
    refine At.adv [] [(2, { told := [], gs := [], keep := some ([2, 3], [(2, 2)]) })] 400 (ev := .ret) (σ' := mkS 75 [(2, .lptr 2 0 0), (3, .int .i64 13)] [(2, { sz := 4, rows := [[.sl true (([] : List T_api_Type).map row_T_api_Type), .int .i64 0, .int .u8 0, .str []]], frz := 0, pure := false })]) (q := [True ∧ (0 ≤ 0 ∧ 0 + ([.sl true (([] : List T_api_Type).map row_T_api_Type), .int .i64 0, .int .u8 0, .str []] : List D).length ≤ ([.sl true (([] : List T_api_Type).map row_T_api_Type), .int .i64 0, .int .u8 0, .str []] : List D).length ∧ ([[.sl true (([] : List T_api_Type).map row_T_api_Type), .int .i64 0, .int .u8 0, .str []]] : List (List D)) = ([[.sl true (([] : List T_api_Type).map row_T_api_Type), .int .i64 0, .int .u8 0, .str []]] : List (List D)))]) (by kernel_rfl) ⟨⟨trivial, ⟨Nat.zero_le _, Nat.le_of_ble_eq_true rfl, rfl⟩⟩, trivial⟩ ?_
    refine EvOk.ret ?_
    obtain rfl := someE h
    exact Den.Ends.mk (.inl rfl) (d := .tup [.agg [.sl false (([] : List T_api_Type).map row_T_api_Type), .int .i64 0, .int .u8 0, .str []], .int .i64 13]) (p := (True ∧ (True ∧ True)) ∧ ((True ∧ (True ∧ (True ∧ (True ∧ True)))) ∧ (True ∧ True))) (by kernel_rfl) ⟨⟨trivial, ⟨trivial, trivial⟩⟩, ⟨⟨trivial, ⟨trivial, ⟨trivial, ⟨trivial, trivial⟩⟩⟩⟩, ⟨trivial, trivial⟩⟩⟩ (by kernel_rfl)
  · replace h := iteF h0 h
    obtain ⟨v0, e0, h⟩ := bindE h
    refine At.adv [] [(0, { told := [], gs := [], keep := some ([0, 2], [(2, 2)]) }), (1, { told := [(4, { ans := .val (.int .u8 v0) }), (6, { ans := .no })], gs := [(3, true), (4, true), (5, true)], keep := some ([0, 2, 16], [(2, 2)]) })] 400 (ev := .cond (v0 != 40) c16x3 c16x4 [.seq c16x5]) (σ' := mkS 75 [(0, .str x0), (2, .lptr 2 0 0), (16, .bool (v0 != 40))] [(2, { sz := 4, rows := [[.sl true (([] : List T_api_Type).map row_T_api_Type), .int .i64 0, .int .u8 0, .str []]], frz := 0, pure := false })]) (q := [((x0 == ([] : List UInt8)) == false) = true ∧ True, ((x0 == ([] : List UInt8)) == false) = true ∧ (getS x0 0 = some v0), ((x0 == ([] : List UInt8)) == false) = true ∧ True, True ∧ ((x0 == ([] : List UInt8)) = false)]) (by kernel_rfl) ⟨⟨(gB h0 rfl), trivial⟩, ⟨(gB h0 rfl), e0⟩, ⟨(gB h0 rfl), trivial⟩, ⟨trivial, h0⟩, trivial⟩ ?_
    refine EvOk.cond (fun h1 => ?_) (fun h1 => ?_)
    · replace h := iteT h1 h
      refine At.gc [2] [(2, 2)] (n := 75) (l := [(2, .lptr 2 0 0)]) (bl := [(2, { sz := 4, rows := [[.sl true (([] : List T_api_Type).map row_T_api_Type), .int .i64 0, .int .u8 0, .str []]], frz := 0, pure := false })]) (by kernel_rfl) ?_
      refine At.adv [] [(2, { told := [], gs := [], keep := some ([2, 3], [(2, 2)]) })] 400 (ev := .ret) (σ' := mkS 75 [(2, .lptr 2 0 0), (3, .int .i64 13)] [(2, { sz := 4, rows := [[.sl true (([] : List T_api_Type).map row_T_api_Type), .int .i64 0, .int .u8 0, .str []]], frz := 0, pure := false })]) (q := [True ∧ (0 ≤ 0 ∧ 0 + ([.sl true (([] : List T_api_Type).map row_T_api_Type), .int .i64 0, .int .u8 0, .str []] : List D).length ≤ ([.sl true (([] : List T_api_Type).map row_T_api_Type), .int .i64 0, .int .u8 0, .str []] : List D).length ∧ ([[.sl true (([] : List T_api_Type).map row_T_api_Type), .int .i64 0, .int .u8 0, .str []]] : List (List D)) = ([[.sl true (([] : List T_api_Type).map row_T_api_Type), .int .i64 0, .int .u8 0, .str []]] : List (List D)))]) (by kernel_rfl) ⟨⟨trivial, ⟨Nat.zero_le _, Nat.le_of_ble_eq_true rfl, rfl⟩⟩, trivial⟩ ?_
      refine EvOk.ret ?_
      obtain rfl := someE h
      exact Den.Ends.mk (.inl rfl) (d := .tup [.agg [.sl false (([] : List T_api_Type).map row_T_api_Type), .int .i64 0, .int .u8 0, .str []], .int .i64 13]) (p := (True ∧ (True ∧ True)) ∧ ((True ∧ (True ∧ (True ∧ (True ∧ True)))) ∧ (True ∧ True))) (by kernel_rfl) ⟨⟨trivial, ⟨trivial, trivial⟩⟩, ⟨⟨trivial, ⟨trivial, ⟨trivial, ⟨trivial, trivial⟩⟩⟩⟩, ⟨trivial, trivial⟩⟩⟩ (by kernel_rfl)
    · replace h := iteF h1 h
      refine At.gc [0, 2] [(2, 2)] (n := 75) (l := [(0, .str x0), (2, .lptr 2 0 0)]) (bl := [(2, { sz := 4, rows := [[.sl true (([] : List T_api_Type).map row_T_api_Type), .int .i64 0, .int .u8 0, .str []]], frz := 0, pure := false })]) (by kernel_rfl) ?_
      refine At.adv [3] [] 400 (ev := .stop c16x6 [.seq c16x7]) (σ' := mkS 75 [(0, .str x0), (2, .lptr 2 0 0)] [(2, { sz := 4, rows := [[.sl true (([] : List T_api_Type).map row_T_api_Type), .int .i64 0, .int .u8 0, .str []]], frz := 0, pure := false })]) (q := []) (by kernel_rfl) trivial ?_
      exact (wj16x1 x0)  r h Γ
theorem w16 {x0 : List UInt8} {r : T_api_Sig × Int} (h : m_armatureref04_ParseSignature x0 = some r) : CallSpec Try.prog 16 [.str x0] (.tup [.agg (row_T_api_Sig r.1), .int .i64 r.2]) :=
  CallSpec.at2 b16 (n := 75) (l := [(0, .str x0)]) (by kernel_rfl) (by kernel_rfl) (by kernel_rfl) (by kernel_rfl) (by kernel_rfl) (Nat.le_of_ble_eq_true (by kernel_rfl)) (fun Γ => we16 x0 r h Γ)

/-! ### armature armatureref04.Same -/
noncomputable def b17 : Code := Try.f17.body.getD .skip
noncomputable def c17x0 : Code := sub1 b17
noncomputable def c17x1 : Code := sub0 c17x0
noncomputable def c17x2 : Code := sub1 c17x1
noncomputable def c17x3 : Code := sub0 c17x2
noncomputable def c17x4 : Code := sub1 c17x2
noncomputable def c17x5 : Code := sub1 c17x0
noncomputable def c17x6 : Code := sub0 c17x5
noncomputable def c17x7 : Code := sub0 c17x6
noncomputable def c17x8 : Code := sub1 c17x6
noncomputable def c17x9 : Code := sub1 c17x5
noncomputable def c17x10 : Code := sub0 c17x8
noncomputable def c17x11 : Code := sub0 c17x10
noncomputable def c17x12 : Code := sub1 c17x11
noncomputable def c17x13 : Code := sub0 c17x12
noncomputable def c17x14 : Code := sub0 c17x13
noncomputable def c17x15 : Code := sub1 c17x14
noncomputable def c17x16 : Code := sub0 c17x15
noncomputable def c17x17 : Code := sub1 c17x15
noncomputable def c17x18 : Code := sub1 c17x12
noncomputable def c17x19 : Code := sub0 c17x11
noncomputable def c17x20 : Code := sub1 c17x19
noncomputable def c17x21 : Code := sub0 c17x20
noncomputable def c17x22 : Code := sub1 c17x20
def l17x1 (x0 : T_api_Sig) (x1 : T_api_Sig) (t0 : Int) : Option (Ctl (Int) (Unit ⊕ Bool)) :=
  if (decide (t0 < (x0.f_Params.length : Int))) = true then
    ((getR x0.f_Params t0).bind fun v2 =>
    (getR x1.f_Params t0).bind fun v3 =>
    if (!(eqb_T_api_Type v2 v3)) = true then
      (some (.done (.inr false))) else
    ((some (IntKind.wrap .i64 (t0 + (1 : Int)))).bind fun v4 =>
      some (.next v4))) else
  (some (.done (.inl (()))))
def j17x1 (x0 : T_api_Sig) (x1 : T_api_Sig) : Option (Bool) :=
  (loopM (l17x1 x0 x1) rounds 0).bind fun q1 =>
  match q1 with
  | .inl q0 => (some true)
  | .inr y0 => (some y0)
def m_armatureref04_Same (x0 : T_api_Sig) (x1 : T_api_Sig) : Option (Bool) :=
  if ((x0.f_Params.length : Int) != (x1.f_Params.length : Int)) = true then (some false) else
  (if (!(eqb_T_api_Type x0.f_Result x1.f_Result)) = true then
    (some false) else
  ((j17x1 x0 x1) ))
def st17x1 (x0 : T_api_Sig) (x1 : T_api_Sig) : Int → S :=
  fun t0 => mkS 38 [(2, .ptr [.sl false (x0.f_Params.map row_T_api_Type), .int .i64 x0.f_Result.f_Dim, .int .u8 x0.f_Result.f_Base, .str x0.f_Result.f_Name]), (3, .ptr [.sl false (x1.f_Params.map row_T_api_Type), .int .i64 x1.f_Result.f_Dim, .int .u8 x1.f_Result.f_Base, .str x1.f_Result.f_Name]), (5, .int .i64 t0)] []
noncomputable def J17x1  : (Unit ⊕ Bool) → Exit → S → Prop :=
  JSum (JExit 0 (fun q0 : Unit => mkS 38 [] [])) (JRet Try.prog Try.f17 (fun y : Bool => .bool y))
theorem wl17x1 (x0 : T_api_Sig) (x1 : T_api_Sig) (t0 : Int) (r : Ctl (Int) (Unit ⊕ Bool)) (h : (l17x1 x0 x1) t0 = some r) (Γ : Ctx) : At Try.prog Γ c17x11 [] (Round (st17x1 x0 x1) J17x1 r) ((st17x1 x0 x1) t0) := by
  refine At.adv [] [(4, { told := [(3, { ans := .val (.int .i64 (x0.f_Params.length : Int)) })], gs := [], keep := some ([2, 3, 5, 24], []) })] 400 (ev := .cond (decide (t0 < (x0.f_Params.length : Int))) c17x21 c17x22 [.seq c17x12]) (σ' := mkS 38 [(2, .ptr [.sl false (x0.f_Params.map row_T_api_Type), .int .i64 x0.f_Result.f_Dim, .int .u8 x0.f_Result.f_Base, .str x0.f_Result.f_Name]), (3, .ptr [.sl false (x1.f_Params.map row_T_api_Type), .int .i64 x1.f_Result.f_Dim, .int .u8 x1.f_Result.f_Base, .str x1.f_Result.f_Name]), (5, .int .i64 t0), (24, .bool (decide (t0 < (x0.f_Params.length : Int))))] []) (q := [True ∧ (((x0.f_Params.map row_T_api_Type).length : Int) = (x0.f_Params.length : Int))]) (by kernel_rfl) ⟨⟨trivial, lenM _ _⟩, trivial⟩ ?_
  refine EvOk.cond (fun h4 => ?_) (fun h4 => ?_)
  · replace h := iteT h4 h
    refine At.gc [2, 3, 5] [] (n := 38) (l := [(2, .ptr [.sl false (x0.f_Params.map row_T_api_Type), .int .i64 x0.f_Result.f_Dim, .int .u8 x0.f_Result.f_Base, .str x0.f_Result.f_Name]), (3, .ptr [.sl false (x1.f_Params.map row_T_api_Type), .int .i64 x1.f_Result.f_Dim, .int .u8 x1.f_Result.f_Base, .str x1.f_Result.f_Name]), (5, .int .i64 t0)]) (bl := []) (by kernel_rfl) ?_
    obtain ⟨v2, e2, h⟩ := bindE h
    obtain ⟨v3, e3, h⟩ := bindE h
    refine At.adv [] [(6, { told := [(3, { ans := .row (row_T_api_Type v2) }), (8, { ans := .row (row_T_api_Type v3) }), (10, { ans := .val (.bool (!(eqb_T_api_Type v2 v3))) })], gs := [], keep := some ([2, 3, 5, 37], []), ord := some ([0, 1, 2, 3, 4, 5, 6, 7, 8, 9, 10], [], [(1, [0]), (3, [0, 1, 2]), (4, [0, 1, 2, 3]), (6, [5]), (8, [5, 6, 7]), (9, [5, 6, 7, 8]), (10, [0, 1, 2, 3, 4, 5, 6, 7, 8, 9])]) })] 400 (ev := .cond (!(eqb_T_api_Type v2 v3)) c17x16 c17x17 [.blk 1, .seq c17x18]) (σ' := mkS 38 [(2, .ptr [.sl false (x0.f_Params.map row_T_api_Type), .int .i64 x0.f_Result.f_Dim, .int .u8 x0.f_Result.f_Base, .str x0.f_Result.f_Name]), (3, .ptr [.sl false (x1.f_Params.map row_T_api_Type), .int .i64 x1.f_Result.f_Dim, .int .u8 x1.f_Result.f_Base, .str x1.f_Result.f_Name]), (5, .int .i64 t0), (37, .bool (!(eqb_T_api_Type v2 v3)))] []) (q := [True ∧ (getR (x0.f_Params.map row_T_api_Type) t0 = some (row_T_api_Type v2)), True ∧ (getR (x1.f_Params.map row_T_api_Type) t0 = some (row_T_api_Type v3)), True ∧ (Try.prog.eqGuardType Try.prog.depth 24 = false ∧ eqq_24 ∧ (!(eqb_T_api_Type v2 v3)) = (!(eqb_T_api_Type v2 v3)))]) (by kernel_rfl) ⟨⟨trivial, getR_map row_T_api_Type e2⟩, ⟨trivial, getR_map row_T_api_Type e3⟩, ⟨trivial, ⟨eqg_24, eqp_24, rfl⟩⟩, trivial⟩ ?_
    refine EvOk.cond (fun h5 => ?_) (fun h5 => ?_)
    · replace h := iteT h5 h
      refine At.gc [] [] (n := 38) (l := []) (bl := []) (by kernel_rfl) ?_
      refine At.adv [] [(7, { told := [], gs := [], keep := some ([4], []) })] 400 (ev := .ret) (σ' := mkS 38 [(4, .bool false)] []) (q := []) (by kernel_rfl) trivial ?_
      refine EvOk.ret ?_
      obtain rfl := someE h
      exact Round.done neRet ⟨rfl, Den.Ends.mk (.inl rfl) (d := .bool false) (p := (True ∧ True) ∧ (True ∧ True)) (by kernel_rfl) ⟨⟨trivial, trivial⟩, ⟨trivial, trivial⟩⟩ (by kernel_rfl)⟩
    · replace h := iteF h5 h
      refine At.gc [2, 3, 5] [] (n := 38) (l := [(2, .ptr [.sl false (x0.f_Params.map row_T_api_Type), .int .i64 x0.f_Result.f_Dim, .int .u8 x0.f_Result.f_Base, .str x0.f_Result.f_Name]), (3, .ptr [.sl false (x1.f_Params.map row_T_api_Type), .int .i64 x1.f_Result.f_Dim, .int .u8 x1.f_Result.f_Base, .str x1.f_Result.f_Name]), (5, .int .i64 t0)]) (bl := []) (by kernel_rfl) ?_
      obtain ⟨v4, e4, h⟩ := bindE h
      refine At.adv [] [(5, { told := [(1, { ans := .val (.int .i64 v4) })], gs := [], keep := some ([2, 3, 5], []) })] 400 (ev := .normal) (σ' := mkS 38 [(2, .ptr [.sl false (x0.f_Params.map row_T_api_Type), .int .i64 x0.f_Result.f_Dim, .int .u8 x0.f_Result.f_Base, .str x0.f_Result.f_Name]), (3, .ptr [.sl false (x1.f_Params.map row_T_api_Type), .int .i64 x1.f_Result.f_Dim, .int .u8 x1.f_Result.f_Base, .str x1.f_Result.f_Name]), (5, .int .i64 v4)] []) (q := [True ∧ (IntKind.wrap .i64 (t0 + (1 : Int)) = v4)]) (by kernel_rfl) ⟨⟨trivial, someE e4⟩, trivial⟩ ?_
      refine EvOk.normal ?_
      obtain rfl := someE h
      exact Round.next (by kernel_rfl)
  · replace h := iteF h4 h
    refine At.gc [] [] (n := 38) (l := []) (bl := []) (by kernel_rfl) ?_
    refine At.adv [] [] 400 (ev := .exit 0) (σ' := mkS 38 [] []) (q := []) (by kernel_rfl) trivial ?_
    refine EvOk.exit ?_
    obtain rfl := someE h
    exact Round.done (neExit _) ⟨rfl, by kernel_rfl⟩
theorem wj17x1 (x0 : T_api_Sig) (x1 : T_api_Sig) (r : Bool) (h : (j17x1 x0 x1)  = some r) (Γ : Ctx) : EvOk Try.prog Γ (Den.Ends Try.prog Try.f17 (.bool r)) (mkS 38 [(2, .ptr [.sl false (x0.f_Params.map row_T_api_Type), .int .i64 x0.f_Result.f_Dim, .int .u8 x0.f_Result.f_Base, .str x0.f_Result.f_Name]), (3, .ptr [.sl false (x1.f_Params.map row_T_api_Type), .int .i64 x1.f_Result.f_Dim, .int .u8 x1.f_Result.f_Base, .str x1.f_Result.f_Name])] []) (.stop c17x7 [.seq c17x8, .seq c17x9]) := by
  refine EvOk.stop ?_
  refine At.adv [] [(3, { told := [], gs := [], keep := some ([2, 3, 5], []) })] 400 (ev := .loop c17x11 [.blk 0, .seq c17x9]) (σ' := mkS 38 [(2, .ptr [.sl false (x0.f_Params.map row_T_api_Type), .int .i64 x0.f_Result.f_Dim, .int .u8 x0.f_Result.f_Base, .str x0.f_Result.f_Name]), (3, .ptr [.sl false (x1.f_Params.map row_T_api_Type), .int .i64 x1.f_Result.f_Dim, .int .u8 x1.f_Result.f_Base, .str x1.f_Result.f_Name]), (5, .int .i64 0)] []) (q := []) (by kernel_rfl) trivial ?_
  refine EvOk.loop ?_
  obtain ⟨q1, e5, h⟩ := bindE h
  refine At.loop (l17x1 x0 x1) (st17x1 x0 x1) J17x1 0 e5 (by kernel_rfl) (fun t x hx => (wl17x1 x0 x1) t x hx Γ) ?_
  intro e σ' hJ
  rcases q1 with q0 | y0
  · obtain ⟨rfl, rfl⟩ := hJ
    refine At.exitK (K' := [.seq c17x9]) (by kernel_rfl) ?_
    refine At.advN [] [(8, { told := [], gs := [], keep := some ([4], []) })] 400 (ev := .ret) (σ' := mkS 38 [(4, .bool true)] []) (q := []) (by kernel_rfl) trivial ?_
    refine EvOk.ret ?_
    obtain rfl := someE h
    exact Den.Ends.mk (.inl rfl) (d := .bool true) (p := (True ∧ True) ∧ (True ∧ True)) (by kernel_rfl) ⟨⟨trivial, trivial⟩, ⟨trivial, trivial⟩⟩ (by kernel_rfl)
  · obtain rfl := someE h
    obtain ⟨rfl, hE⟩ := hJ
    exact At.retK hE
theorem we17 (x0 : T_api_Sig) (x1 : T_api_Sig) (r : Bool) (h : m_armatureref04_Same x0 x1 = some r) (Γ : Ctx) : At Try.prog Γ b17 [] (Den.Ends Try.prog Try.f17 (.bool r)) (mkS 38 [(0, .agg (row_T_api_Sig x0)), (1, .agg (row_T_api_Sig x1))] []) := by
  rcases Bool.eq_false_or_eq_true ((x0.f_Params.length : Int) != (x1.f_Params.length : Int)) with h0 | h0
  · replace h := iteT h0 h
    refine At.adv [] [(0, { told := [(0, { ro := true }), (1, { ro := true })], gs := [], keep := some ([2, 3], []) }), (1, { told := [(2, { ans := .val (.int .i64 (x0.f_Params.length : Int)) }), (5, { ans := .val (.int .i64 (x1.f_Params.length : Int)) }), (13, { ans := .yes })], gs := [(8, false), (9, false), (10, false), (11, false), (12, false)], keep := some ([2, 3, 19], []) })] 400 (ev := .cond true c17x3 c17x4 [.seq c17x5]) (σ' := mkS 38 [(2, .ptr [.sl false (x0.f_Params.map row_T_api_Type), .int .i64 x0.f_Result.f_Dim, .int .u8 x0.f_Result.f_Base, .str x0.f_Result.f_Name]), (3, .ptr [.sl false (x1.f_Params.map row_T_api_Type), .int .i64 x1.f_Result.f_Dim, .int .u8 x1.f_Result.f_Base, .str x1.f_Result.f_Name]), (19, .bool true)] []) (q := [True ∧ (((x0.f_Params.map row_T_api_Type).length : Int) = (x0.f_Params.length : Int)), True ∧ (((x1.f_Params.map row_T_api_Type).length : Int) = (x1.f_Params.length : Int)), (((x0.f_Params.length : Int) != (x1.f_Params.length : Int)) == false) = false, (((x0.f_Params.length : Int) != (x1.f_Params.length : Int)) == false) = false, (((x0.f_Params.length : Int) != (x1.f_Params.length : Int)) == false) = false, (((x0.f_Params.length : Int) != (x1.f_Params.length : Int)) == false) = false, (((x0.f_Params.length : Int) != (x1.f_Params.length : Int)) == false) = false, True ∧ (((x0.f_Params.length : Int) != (x1.f_Params.length : Int)) = true)]) (by kernel_rfl) ⟨⟨trivial, lenM _ _⟩, ⟨trivial, lenM _ _⟩, gB h0 rfl, gB h0 rfl, gB h0 rfl, gB h0 rfl, gB h0 rfl, ⟨trivial, h0⟩, trivial⟩ ?_
    refine EvOk.cond (fun _ => ?_) (fun hb => Bool.noConfusion hb)
    refine At.gc [] [] (n := 38) (l := []) (bl := []) (by kernel_rfl) ?_
    refine At.adv [] [(2, { told := [], gs := [], keep := some ([4], []) })] 400 (ev := .ret) (σ' := mkS 38 [(4, .bool false)] []) (q := []) (by kernel_rfl) trivial ?_
    refine EvOk.ret ?_
    obtain rfl := someE h
    exact Den.Ends.mk (.inl rfl) (d := .bool false) (p := (True ∧ True) ∧ (True ∧ True)) (by kernel_rfl) ⟨⟨trivial, trivial⟩, ⟨trivial, trivial⟩⟩ (by kernel_rfl)
  · replace h := iteF h0 h
    refine At.adv [] [(0, { told := [(0, { ro := true }), (1, { ro := true })], gs := [], keep := some ([2, 3], []) }), (1, { told := [(2, { ans := .val (.int .i64 (x0.f_Params.length : Int)) }), (5, { ans := .val (.int .i64 (x1.f_Params.length : Int)) }), (12, { ans := .val (.bool (!(eqb_T_api_Type x0.f_Result x1.f_Result))) }), (13, { ans := .no })], gs := [(8, true), (9, true), (10, true), (11, true), (12, true)], keep := some ([2, 3, 19], []) })] 400 (ev := .cond (!(eqb_T_api_Type x0.f_Result x1.f_Result)) c17x3 c17x4 [.seq c17x5]) (σ' := mkS 38 [(2, .ptr [.sl false (x0.f_Params.map row_T_api_Type), .int .i64 x0.f_Result.f_Dim, .int .u8 x0.f_Result.f_Base, .str x0.f_Result.f_Name]), (3, .ptr [.sl false (x1.f_Params.map row_T_api_Type), .int .i64 x1.f_Result.f_Dim, .int .u8 x1.f_Result.f_Base, .str x1.f_Result.f_Name]), (19, .bool (!(eqb_T_api_Type x0.f_Result x1.f_Result)))] []) (q := [True ∧ (((x0.f_Params.map row_T_api_Type).length : Int) = (x0.f_Params.length : Int)), True ∧ (((x1.f_Params.map row_T_api_Type).length : Int) = (x1.f_Params.length : Int)), (((x0.f_Params.length : Int) != (x1.f_Params.length : Int)) == false) = true ∧ True, (((x0.f_Params.length : Int) != (x1.f_Params.length : Int)) == false) = true ∧ True, (((x0.f_Params.length : Int) != (x1.f_Params.length : Int)) == false) = true ∧ True, (((x0.f_Params.length : Int) != (x1.f_Params.length : Int)) == false) = true ∧ True, (((x0.f_Params.length : Int) != (x1.f_Params.length : Int)) == false) = true ∧ (Try.prog.eqGuardType Try.prog.depth 24 = false ∧ eqq_24 ∧ (!(eqb_T_api_Type x0.f_Result x1.f_Result)) = (!(eqb_T_api_Type x0.f_Result x1.f_Result))), True ∧ (((x0.f_Params.length : Int) != (x1.f_Params.length : Int)) = false)]) (by kernel_rfl) ⟨⟨trivial, lenM _ _⟩, ⟨trivial, lenM _ _⟩, ⟨(gB h0 rfl), trivial⟩, ⟨(gB h0 rfl), trivial⟩, ⟨(gB h0 rfl), trivial⟩, ⟨(gB h0 rfl), trivial⟩, ⟨(gB h0 rfl), ⟨eqg_24, eqp_24, rfl⟩⟩, ⟨trivial, h0⟩, trivial⟩ ?_
    refine EvOk.cond (fun h1 => ?_) (fun h1 => ?_)
    · replace h := iteT h1 h
      refine At.gc [] [] (n := 38) (l := []) (bl := []) (by kernel_rfl) ?_
      refine At.adv [] [(2, { told := [], gs := [], keep := some ([4], []) })] 400 (ev := .ret) (σ' := mkS 38 [(4, .bool false)] []) (q := []) (by kernel_rfl) trivial ?_
      refine EvOk.ret ?_
      obtain rfl := someE h
      exact Den.Ends.mk (.inl rfl) (d := .bool false) (p := (True ∧ True) ∧ (True ∧ True)) (by kernel_rfl) ⟨⟨trivial, trivial⟩, ⟨trivial, trivial⟩⟩ (by kernel_rfl)
    · replace h := iteF h1 h
      refine At.gc [2, 3] [] (n := 38) (l := [(2, .ptr [.sl false (x0.f_Params.map row_T_api_Type), .int .i64 x0.f_Result.f_Dim, .int .u8 x0.f_Result.f_Base, .str x0.f_Result.f_Name]), (3, .ptr [.sl false (x1.f_Params.map row_T_api_Type), .int .i64 x1.f_Result.f_Dim, .int .u8 x1.f_Result.f_Base, .str x1.f_Result.f_Name])]) (bl := []) (by kernel_rfl) ?_
      refine At.adv [3] [] 400 (ev := .stop c17x7 [.seq c17x8, .seq c17x9]) (σ' := mkS 38 [(2, .ptr [.sl false (x0.f_Params.map row_T_api_Type), .int .i64 x0.f_Result.f_Dim, .int .u8 x0.f_Result.f_Base, .str x0.f_Result.f_Name]), (3, .ptr [.sl false (x1.f_Params.map row_T_api_Type), .int .i64 x1.f_Result.f_Dim, .int .u8 x1.f_Result.f_Base, .str x1.f_Result.f_Name])] []) (q := []) (by kernel_rfl) trivial ?_
      exact (wj17x1 x0 x1)  r h Γ
theorem w17 {x0 : T_api_Sig} {x1 : T_api_Sig} {r : Bool} (h : m_armatureref04_Same x0 x1 = some r) : CallSpec Try.prog 17 [.agg (row_T_api_Sig x0), .agg (row_T_api_Sig x1)] (.bool r) :=
  CallSpec.at2 b17 (n := 38) (l := [(0, .agg (row_T_api_Sig x0)), (1, .agg (row_T_api_Sig x1))]) (by kernel_rfl) (by kernel_rfl) (by kernel_rfl) (by kernel_rfl) (by kernel_rfl) (Nat.le_of_ble_eq_true (by kernel_rfl)) (fun Γ => we17 x0 x1 r h Γ)

/-! ### armature desc.FormatSignature -/
noncomputable def b18 : Code := Try.f18.body.getD .skip
noncomputable def c18x0 : Code := sub1 b18
noncomputable def c18x1 : Code := sub1 c18x0
noncomputable def c18x2 : Code := sub1 c18x1
noncomputable def c18x3 : Code := sub0 c18x2
noncomputable def c18x4 : Code := sub1 c18x3
noncomputable def c18x5 : Code := sub0 c18x4
noncomputable def c18x6 : Code := sub0 c18x5
noncomputable def c18x7 : Code := sub1 c18x6
noncomputable def c18x8 : Code := sub1 c18x7
noncomputable def c18x9 : Code := sub0 c18x8
noncomputable def c18x10 : Code := sub0 c18x9
noncomputable def c18x11 : Code := sub1 c18x10
noncomputable def c18x12 : Code := sub0 c18x11
noncomputable def c18x13 : Code := sub1 c18x12
noncomputable def c18x14 : Code := sub0 c18x13
noncomputable def c18x15 : Code := sub1 c18x13
noncomputable def c18x16 : Code := sub1 c18x11
noncomputable def c18x17 : Code := sub1 c18x8
noncomputable def c18x18 : Code := sub0 c18x7
noncomputable def c18x19 : Code := sub0 c18x18
noncomputable def c18x20 : Code := sub1 c18x18
noncomputable def c18x21 : Code := sub1 c18x2
noncomputable def c18x22 : Code := sub0 c18x21
noncomputable def c18x23 : Code := sub1 c18x22
noncomputable def c18x24 : Code := sub0 c18x23
noncomputable def c18x25 : Code := sub1 c18x23
noncomputable def c18x26 : Code := sub1 c18x21
noncomputable def c18x27 : Code := sub0 c18x0
noncomputable def c18x28 : Code := sub1 c18x27
noncomputable def c18x29 : Code := sub0 c18x28
noncomputable def c18x30 : Code := sub1 c18x28
def j18x1 (t0 : Int × (List Int)) (v3 : T_api_Type) : Option (Ctl (Int × (List Int)) (((List Int)) ⊕ ((List UInt8) × Int))) :=
  (m_desc_appendType t0.2 ({ f_Dim := v3.f_Dim, f_Base := v3.f_Base, f_Name := v3.f_Name } : T_api_Type)).bind fun v5 =>
  (some (IntKind.wrap .i64 (t0.1 + (1 : Int)))).bind fun v6 =>
  some (.next (v6, v5))
def l18x1 (x0 : T_api_Sig) (t0 : Int × (List Int)) : Option (Ctl (Int × (List Int)) (((List Int)) ⊕ ((List UInt8) × Int))) :=
  if (decide (t0.1 < (x0.f_Params.length : Int))) = true then
    ((getR x0.f_Params t0.1).bind fun v3 =>
    (m_desc_Valid ({ f_Dim := v3.f_Dim, f_Base := v3.f_Base, f_Name := v3.f_Name } : T_api_Type)).bind fun v4 =>
    if (!v4) = true then (some (.done (.inr ([], 13)))) else
    (if (v3.f_Base == 86) = true then
      (some (.done (.inr ([], 13)))) else
    ((j18x1 t0 v3) ))) else
  (some (.done (.inl (t0.2))))
def m_desc_FormatSignature (x0 : T_api_Sig) : Option ((List UInt8) × Int) :=
  if (decide ((x0.f_Params.length : Int) > 16)) = true then
    (some ([], 5)) else
  ((loopM (l18x1 x0) rounds (0, [40])).bind fun q1 =>
    match q1 with
    | .inl q0 => ((m_desc_Valid x0.f_Result).bind fun v7 =>
      if (!v7) = true then
        (some ([], 13)) else
      ((growK 1 (q0 ++ [41]).length).bind fun v8 =>
        (m_desc_appendType (q0 ++ [41]) x0.f_Result).bind fun v9 =>
        some ((bytesOf v9), 0)))
    | .inr y0 => (some y0))
def st18x1 (x0 : T_api_Sig) : (Int × (List Int)) → S :=
  fun t0 => mkS 42 [(1, .ptr [.sl false (x0.f_Params.map row_T_api_Type), .int .i64 x0.f_Result.f_Dim, .int .u8 x0.f_Result.f_Base, .str x0.f_Result.f_Name]), (4, .lsl 4 0 ((t0.2.map rU8).length)), (13, .sl false (x0.f_Params.map row_T_api_Type)), (14, .int .i64 (x0.f_Params.length : Int)), (15, .int .i64 t0.1)] [(4, { sz := 1, rows := (t0.2.map rU8), frz := 0, pure := true })]
noncomputable def J18x1 (x0 : T_api_Sig) : (((List Int)) ⊕ ((List UInt8) × Int)) → Exit → S → Prop :=
  JSum (JExit 0 (fun q0 : (List Int) => mkS 42 [(1, .ptr [.sl false (x0.f_Params.map row_T_api_Type), .int .i64 x0.f_Result.f_Dim, .int .u8 x0.f_Result.f_Base, .str x0.f_Result.f_Name]), (4, .lsl 4 0 ((q0.map rU8).length))] [(4, { sz := 1, rows := (q0.map rU8), frz := 0, pure := true })])) (JRet Try.prog Try.f18 (fun y : (List UInt8) × Int => .tup [.str y.1, .int .i64 y.2]))
theorem wj18x1 (t0 : Int × (List Int)) (v3 : T_api_Type) (x0 : T_api_Sig) (r : Ctl (Int × (List Int)) (((List Int)) ⊕ ((List UInt8) × Int))) (h : (j18x1 t0 v3)  = some r) (Γ : Ctx) : EvOk Try.prog Γ (Round (st18x1 x0) (J18x1 x0) r) (mkS 42 [(1, .ptr [.sl false (x0.f_Params.map row_T_api_Type), .int .i64 x0.f_Result.f_Dim, .int .u8 x0.f_Result.f_Base, .str x0.f_Result.f_Name]), (4, .lsl 4 0 ((t0.2.map rU8).length)), (6, .lptr 6 0 0), (13, .sl false (x0.f_Params.map row_T_api_Type)), (14, .int .i64 (x0.f_Params.length : Int)), (15, .int .i64 t0.1)] [(4, { sz := 1, rows := (t0.2.map rU8), frz := 0, pure := true }), (6, { sz := 3, rows := [[.int .i64 v3.f_Dim, .int .u8 v3.f_Base, .str v3.f_Name]], frz := 0, pure := false })]) (.stop c18x16 [.blk 1, .seq c18x17]) := by
  refine EvOk.stop ?_
  obtain ⟨v5, e5, h⟩ := bindE h
  obtain ⟨v6, e6, h⟩ := bindE h
  refine At.adv [] [(9, { told := [(2, { ans := .val (.lsl 0 0 ((v5.map rU8).length)), args := [.lsl 0 0 ((t0.2.map rU8).length), .agg [.int .i64 v3.f_Dim, .int .u8 v3.f_Base, .str v3.f_Name]], io := some { names := [4], bs := [{ sz := 1, rows := (t0.2.map rU8), frz := 0, pure := true }], bs' := [{ sz := 1, rows := (v5.map rU8), frz := 0, pure := true }] } })], gs := [], keep := some ([1, 4, 13, 14, 15], [(4, 4)]) }), (10, { told := [(0, { ans := .val (.int .i64 v6) })], gs := [], keep := some ([1, 4, 13, 14, 15], [(4, 4)]) })] 400 (ev := .normal) (σ' := mkS 42 [(1, .ptr [.sl false (x0.f_Params.map row_T_api_Type), .int .i64 x0.f_Result.f_Dim, .int .u8 x0.f_Result.f_Base, .str x0.f_Result.f_Name]), (4, .lsl 4 0 ((v5.map rU8).length)), (13, .sl false (x0.f_Params.map row_T_api_Type)), (14, .int .i64 (x0.f_Params.length : Int)), (15, .int .i64 v6)] [(4, { sz := 1, rows := (v5.map rU8), frz := 0, pure := true })]) (q := [True ∧ (((True ∧ (True ∧ (True ∧ True))) ∧ True) ∧ ([.lsl 0 0 ((t0.2.map rU8).length), .agg [.int .i64 v3.f_Dim, .int .u8 v3.f_Base, .str v3.f_Name]] : List D) = [.lsl 0 0 ((t0.2.map rU8).length), .agg [.int .i64 v3.f_Dim, .int .u8 v3.f_Base, .str v3.f_Name]] ∧ ([{ sz := 1, rows := (t0.2.map rU8), frz := 0, pure := true }] : List Blk) = [{ sz := 1, rows := (t0.2.map rU8), frz := 0, pure := true }] ∧ CallSpecO Try.prog 40 [.lsl 0 0 ((t0.2.map rU8).length), .agg [.int .i64 v3.f_Dim, .int .u8 v3.f_Base, .str v3.f_Name]] [{ sz := 1, rows := (t0.2.map rU8), frz := 0, pure := true }] (.lsl 0 0 ((v5.map rU8).length)) [{ sz := 1, rows := (v5.map rU8), frz := 0, pure := true }]), True ∧ (IntKind.wrap .i64 (t0.1 + (1 : Int)) = v6)]) (by kernel_rfl) ⟨⟨trivial, ⟨⟨⟨trivial, ⟨trivial, ⟨trivial, trivial⟩⟩⟩, trivial⟩, rfl, rfl, w40 e5⟩⟩, ⟨trivial, someE e6⟩, trivial⟩ ?_
  refine EvOk.normal ?_
  obtain rfl := someE h
  exact Round.next (by kernel_rfl)
theorem wl18x1 (x0 : T_api_Sig) (t0 : Int × (List Int)) (r : Ctl (Int × (List Int)) (((List Int)) ⊕ ((List UInt8) × Int))) (h : (l18x1 x0) t0 = some r) (Γ : Ctx) : At Try.prog Γ c18x6 [] (Round (st18x1 x0) (J18x1 x0) r) ((st18x1 x0) t0) := by
  refine At.adv [] [(5, { told := [], gs := [], keep := some ([1, 4, 13, 14, 15, 16], [(4, 4)]) })] 400 (ev := .cond (decide (t0.1 < (x0.f_Params.length : Int))) c18x19 c18x20 [.seq c18x8]) (σ' := mkS 42 [(1, .ptr [.sl false (x0.f_Params.map row_T_api_Type), .int .i64 x0.f_Result.f_Dim, .int .u8 x0.f_Result.f_Base, .str x0.f_Result.f_Name]), (4, .lsl 4 0 ((t0.2.map rU8).length)), (13, .sl false (x0.f_Params.map row_T_api_Type)), (14, .int .i64 (x0.f_Params.length : Int)), (15, .int .i64 t0.1), (16, .bool (decide (t0.1 < (x0.f_Params.length : Int))))] [(4, { sz := 1, rows := (t0.2.map rU8), frz := 0, pure := true })]) (q := []) (by kernel_rfl) trivial ?_
  refine EvOk.cond (fun h4 => ?_) (fun h4 => ?_)
  · replace h := iteT h4 h
    refine At.gc [1, 4, 13, 14, 15] [(4, 4)] (n := 42) (l := [(1, .ptr [.sl false (x0.f_Params.map row_T_api_Type), .int .i64 x0.f_Result.f_Dim, .int .u8 x0.f_Result.f_Base, .str x0.f_Result.f_Name]), (4, .lsl 4 0 ((t0.2.map rU8).length)), (13, .sl false (x0.f_Params.map row_T_api_Type)), (14, .int .i64 (x0.f_Params.length : Int)), (15, .int .i64 t0.1)]) (bl := [(4, { sz := 1, rows := (t0.2.map rU8), frz := 0, pure := true })]) (by kernel_rfl) ?_
    obtain ⟨v3, e3, h⟩ := bindE h
    obtain ⟨v4, e4, h⟩ := bindE h
    rcases Bool.eq_false_or_eq_true (!v4) with h5 | h5
    · replace h := iteT h5 h
      refine At.adv [] [(6, { told := [(0, { ans := .row (row_T_api_Type v3) })], gs := [], keep := some ([1, 4, 6, 13, 14, 15], [(4, 4), (6, 6)]) }), (7, { told := [(1, { ans := .val (.bool v4), args := [.agg [.int .i64 v3.f_Dim, .int .u8 v3.f_Base, .str v3.f_Name]] }), (7, { ans := .yes })], gs := [(4, false), (5, false), (6, false)], keep := some ([1, 4, 6, 13, 14, 15, 26], [(4, 4), (6, 6)]) })] 400 (ev := .cond true c18x14 c18x15 [.seq c18x16, .blk 1, .seq c18x17]) (σ' := mkS 42 [(1, .ptr [.sl false (x0.f_Params.map row_T_api_Type), .int .i64 x0.f_Result.f_Dim, .int .u8 x0.f_Result.f_Base, .str x0.f_Result.f_Name]), (4, .lsl 4 0 ((t0.2.map rU8).length)), (6, .lptr 6 0 0), (13, .sl false (x0.f_Params.map row_T_api_Type)), (14, .int .i64 (x0.f_Params.length : Int)), (15, .int .i64 t0.1), (26, .bool true)] [(4, { sz := 1, rows := (t0.2.map rU8), frz := 0, pure := true }), (6, { sz := 3, rows := [[.int .i64 v3.f_Dim, .int .u8 v3.f_Base, .str v3.f_Name]], frz := 0, pure := false })]) (q := [True ∧ (getR (x0.f_Params.map row_T_api_Type) t0.1 = some (row_T_api_Type v3)), True ∧ (0 ≤ 0 ∧ 0 + ([.int .i64 v3.f_Dim, .int .u8 v3.f_Base, .str v3.f_Name] : List D).length ≤ ([.int .i64 0, .int .u8 0, .str []] : List D).length ∧ ([[.int .i64 v3.f_Dim, .int .u8 v3.f_Base, .str v3.f_Name]] : List (List D)) = ([[.int .i64 v3.f_Dim, .int .u8 v3.f_Base, .str v3.f_Name]] : List (List D))), True ∧ (((True ∧ (True ∧ (True ∧ True))) ∧ True) ∧ ([.agg [.int .i64 v3.f_Dim, .int .u8 v3.f_Base, .str v3.f_Name]] : List D) = [.agg [.int .i64 v3.f_Dim, .int .u8 v3.f_Base, .str v3.f_Name]] ∧ CallAny Try.prog 25 [.agg [.int .i64 v3.f_Dim, .int .u8 v3.f_Base, .str v3.f_Name]] (.bool v4)), ((!v4) == false) = false, ((!v4) == false) = false, ((!v4) == false) = false, True ∧ ((!v4) = true)]) (by kernel_rfl) ⟨⟨trivial, getR_map row_T_api_Type e3⟩, ⟨trivial, ⟨Nat.zero_le _, Nat.le_of_ble_eq_true rfl, rfl⟩⟩, ⟨trivial, ⟨⟨⟨trivial, ⟨trivial, ⟨trivial, trivial⟩⟩⟩, trivial⟩, rfl, .inl (w25 e4)⟩⟩, gB h5 rfl, gB h5 rfl, gB h5 rfl, ⟨trivial, h5⟩, trivial⟩ ?_
      refine EvOk.cond (fun _ => ?_) (fun hb => Bool.noConfusion hb)
      refine At.gc [] [] (n := 42) (l := []) (bl := []) (by kernel_rfl) ?_
      refine At.adv [] [(8, { told := [], gs := [], keep := some ([2, 3], []) })] 400 (ev := .ret) (σ' := mkS 42 [(2, .str []), (3, .int .i64 13)] []) (q := []) (by kernel_rfl) trivial ?_
      refine EvOk.ret ?_
      obtain rfl := someE h
      exact Round.done neRet ⟨rfl, Den.Ends.mk (.inl rfl) (d := .tup [.str [], .int .i64 13]) (p := (True ∧ (True ∧ True)) ∧ (True ∧ (True ∧ True))) (by kernel_rfl) ⟨⟨trivial, ⟨trivial, trivial⟩⟩, ⟨trivial, ⟨trivial, trivial⟩⟩⟩ (by kernel_rfl)⟩
    · replace h := iteF h5 h
      refine At.adv [] [(6, { told := [(0, { ans := .row (row_T_api_Type v3) })], gs := [], keep := some ([1, 4, 6, 13, 14, 15], [(4, 4), (6, 6)]) }), (7, { told := [(1, { ans := .val (.bool v4), args := [.agg [.int .i64 v3.f_Dim, .int .u8 v3.f_Base, .str v3.f_Name]] }), (7, { ans := .no })], gs := [(4, true), (5, true), (6, true)], keep := some ([1, 4, 6, 13, 14, 15, 26], [(4, 4), (6, 6)]) })] 400 (ev := .cond (v3.f_Base == 86) c18x14 c18x15 [.seq c18x16, .blk 1, .seq c18x17]) (σ' := mkS 42 [(1, .ptr [.sl false (x0.f_Params.map row_T_api_Type), .int .i64 x0.f_Result.f_Dim, .int .u8 x0.f_Result.f_Base, .str x0.f_Result.f_Name]), (4, .lsl 4 0 ((t0.2.map rU8).length)), (6, .lptr 6 0 0), (13, .sl false (x0.f_Params.map row_T_api_Type)), (14, .int .i64 (x0.f_Params.length : Int)), (15, .int .i64 t0.1), (26, .bool (v3.f_Base == 86))] [(4, { sz := 1, rows := (t0.2.map rU8), frz := 0, pure := true }), (6, { sz := 3, rows := [[.int .i64 v3.f_Dim, .int .u8 v3.f_Base, .str v3.f_Name]], frz := 0, pure := false })]) (q := [True ∧ (getR (x0.f_Params.map row_T_api_Type) t0.1 = some (row_T_api_Type v3)), True ∧ (0 ≤ 0 ∧ 0 + ([.int .i64 v3.f_Dim, .int .u8 v3.f_Base, .str v3.f_Name] : List D).length ≤ ([.int .i64 0, .int .u8 0, .str []] : List D).length ∧ ([[.int .i64 v3.f_Dim, .int .u8 v3.f_Base, .str v3.f_Name]] : List (List D)) = ([[.int .i64 v3.f_Dim, .int .u8 v3.f_Base, .str v3.f_Name]] : List (List D))), True ∧ (((True ∧ (True ∧ (True ∧ True))) ∧ True) ∧ ([.agg [.int .i64 v3.f_Dim, .int .u8 v3.f_Base, .str v3.f_Name]] : List D) = [.agg [.int .i64 v3.f_Dim, .int .u8 v3.f_Base, .str v3.f_Name]] ∧ CallAny Try.prog 25 [.agg [.int .i64 v3.f_Dim, .int .u8 v3.f_Base, .str v3.f_Name]] (.bool v4)), ((!v4) == false) = true ∧ True, ((!v4) == false) = true ∧ True, ((!v4) == false) = true ∧ True, True ∧ ((!v4) = false)]) (by kernel_rfl) ⟨⟨trivial, getR_map row_T_api_Type e3⟩, ⟨trivial, ⟨Nat.zero_le _, Nat.le_of_ble_eq_true rfl, rfl⟩⟩, ⟨trivial, ⟨⟨⟨trivial, ⟨trivial, ⟨trivial, trivial⟩⟩⟩, trivial⟩, rfl, .inl (w25 e4)⟩⟩, ⟨(gB h5 rfl), trivial⟩, ⟨(gB h5 rfl), trivial⟩, ⟨(gB h5 rfl), trivial⟩, ⟨trivial, h5⟩, trivial⟩ ?_
      refine EvOk.cond (fun h6 => ?_) (fun h6 => ?_)
      · replace h := iteT h6 h
        refine At.gc [] [] (n := 42) (l := []) (bl := []) (by kernel_rfl) ?_
        refine At.adv [] [(8, { told := [], gs := [], keep := some ([2, 3], []) })] 400 (ev := .ret) (σ' := mkS 42 [(2, .str []), (3, .int .i64 13)] []) (q := []) (by kernel_rfl) trivial ?_
        refine EvOk.ret ?_
        obtain rfl := someE h
        exact Round.done neRet ⟨rfl, Den.Ends.mk (.inl rfl) (d := .tup [.str [], .int .i64 13]) (p := (True ∧ (True ∧ True)) ∧ (True ∧ (True ∧ True))) (by kernel_rfl) ⟨⟨trivial, ⟨trivial, trivial⟩⟩, ⟨trivial, ⟨trivial, trivial⟩⟩⟩ (by kernel_rfl)⟩
      · replace h := iteF h6 h
        refine At.gc [1, 4, 6, 13, 14, 15] [(4, 4), (6, 6)] (n := 42) (l := [(1, .ptr [.sl false (x0.f_Params.map row_T_api_Type), .int .i64 x0.f_Result.f_Dim, .int .u8 x0.f_Result.f_Base, .str x0.f_Result.f_Name]), (4, .lsl 4 0 ((t0.2.map rU8).length)), (6, .lptr 6 0 0), (13, .sl false (x0.f_Params.map row_T_api_Type)), (14, .int .i64 (x0.f_Params.length : Int)), (15, .int .i64 t0.1)]) (bl := [(4, { sz := 1, rows := (t0.2.map rU8), frz := 0, pure := true }), (6, { sz := 3, rows := [[.int .i64 v3.f_Dim, .int .u8 v3.f_Base, .str v3.f_Name]], frz := 0, pure := false })]) (by kernel_rfl) ?_
        refine At.adv [9] [] 400 (ev := .stop c18x16 [.blk 1, .seq c18x17]) (σ' := mkS 42 [(1, .ptr [.sl false (x0.f_Params.map row_T_api_Type), .int .i64 x0.f_Result.f_Dim, .int .u8 x0.f_Result.f_Base, .str x0.f_Result.f_Name]), (4, .lsl 4 0 ((t0.2.map rU8).length)), (6, .lptr 6 0 0), (13, .sl false (x0.f_Params.map row_T_api_Type)), (14, .int .i64 (x0.f_Params.length : Int)), (15, .int .i64 t0.1)] [(4, { sz := 1, rows := (t0.2.map rU8), frz := 0, pure := true }), (6, { sz := 3, rows := [[.int .i64 v3.f_Dim, .int .u8 v3.f_Base, .str v3.f_Name]], frz := 0, pure := false })]) (q := []) (by kernel_rfl) trivial ?_
        exact (wj18x1 t0 v3 x0)  r h Γ
  · replace h := iteF h4 h
    refine At.gc [1, 4] [(4, 4)] (n := 42) (l := [(1, .ptr [.sl false (x0.f_Params.map row_T_api_Type), .int .i64 x0.f_Result.f_Dim, .int .u8 x0.f_Result.f_Base, .str x0.f_Result.f_Name]), (4, .lsl 4 0 ((t0.2.map rU8).length))]) (bl := [(4, { sz := 1, rows := (t0.2.map rU8), frz := 0, pure := true })]) (by kernel_rfl) ?_
    refine At.adv [] [] 400 (ev := .exit 0) (σ' := mkS 42 [(1, .ptr [.sl false (x0.f_Params.map row_T_api_Type), .int .i64 x0.f_Result.f_Dim, .int .u8 x0.f_Result.f_Base, .str x0.f_Result.f_Name]), (4, .lsl 4 0 ((t0.2.map rU8).length))] [(4, { sz := 1, rows := (t0.2.map rU8), frz := 0, pure := true })]) (q := []) (by kernel_rfl) trivial ?_
    refine EvOk.exit ?_
    obtain rfl := someE h
    exact Round.done (neExit _) ⟨rfl, by kernel_rfl⟩
theorem we18 (x0 : T_api_Sig) (r : (List UInt8) × Int) (h : m_desc_FormatSignature x0 = some r) (Γ : Ctx) : At Try.prog Γ b18 [] (Den.Ends Try.prog Try.f18 (.tup [.str r.1, .int .i64 r.2])) (mkS 42 [(0, .agg (row_T_api_Sig x0))] []) := by
  refine At.adv [] [(0, { told := [(0, { ro := true })], gs := [], keep := some ([1], []) }), (1, { told := [(2, { ans := .val (.int .i64 (x0.f_Params.length : Int)) })], gs := [], keep := some ([1, 10], []) })] 400 (ev := .cond (decide ((x0.f_Params.length : Int) > 16)) c18x29 c18x30 [.seq c18x1]) (σ' := mkS 42 [(1, .ptr [.sl false (x0.f_Params.map row_T_api_Type), .int .i64 x0.f_Result.f_Dim, .int .u8 x0.f_Result.f_Base, .str x0.f_Result.f_Name]), (10, .bool (decide ((x0.f_Params.length : Int) > 16)))] []) (q := [True ∧ (((x0.f_Params.map row_T_api_Type).length : Int) = (x0.f_Params.length : Int))]) (by kernel_rfl) ⟨⟨trivial, lenM _ _⟩, trivial⟩ ?_
  refine EvOk.cond (fun h0 => ?_) (fun h0 => ?_)
  · replace h := iteT h0 h
    refine At.gc [] [] (n := 42) (l := []) (bl := []) (by kernel_rfl) ?_
    refine At.adv [] [(2, { told := [], gs := [], keep := some ([2, 3], []) })] 400 (ev := .ret) (σ' := mkS 42 [(2, .str []), (3, .int .i64 5)] []) (q := []) (by kernel_rfl) trivial ?_
    refine EvOk.ret ?_
    obtain rfl := someE h
    exact Den.Ends.mk (.inl rfl) (d := .tup [.str [], .int .i64 5]) (p := (True ∧ (True ∧ True)) ∧ (True ∧ (True ∧ True))) (by kernel_rfl) ⟨⟨trivial, ⟨trivial, trivial⟩⟩, ⟨trivial, ⟨trivial, trivial⟩⟩⟩ (by kernel_rfl)
  · replace h := iteF h0 h
    refine At.gc [1] [] (n := 42) (l := [(1, .ptr [.sl false (x0.f_Params.map row_T_api_Type), .int .i64 x0.f_Result.f_Dim, .int .u8 x0.f_Result.f_Base, .str x0.f_Result.f_Name])]) (bl := []) (by kernel_rfl) ?_
    refine At.adv [] [(3, { told := [], gs := [], keep := some ([1, 4], [(11, 11)]) }), (4, { told := [(2, { ans := .val (.int .i64 (x0.f_Params.length : Int)) })], gs := [], keep := some ([1, 4, 13, 14, 15], [(11, 4)]) })] 400 (ev := .loop c18x6 [.blk 0, .seq c18x21]) (σ' := mkS 42 [(1, .ptr [.sl false (x0.f_Params.map row_T_api_Type), .int .i64 x0.f_Result.f_Dim, .int .u8 x0.f_Result.f_Base, .str x0.f_Result.f_Name]), (4, .lsl 4 0 (([40].map rU8).length)), (13, .sl false (x0.f_Params.map row_T_api_Type)), (14, .int .i64 (x0.f_Params.length : Int)), (15, .int .i64 0)] [(4, { sz := 1, rows := ([40].map rU8), frz := 0, pure := true })]) (q := [True ∧ (True ∧ True), True ∧ (((x0.f_Params.map row_T_api_Type).length : Int) = (x0.f_Params.length : Int))]) (by kernel_rfl) ⟨⟨trivial, ⟨trivial, trivial⟩⟩, ⟨trivial, lenM _ _⟩, trivial⟩ ?_
    refine EvOk.loop ?_
    obtain ⟨q1, e7, h⟩ := bindE h
    refine At.loop (l18x1 x0) (st18x1 x0) (J18x1 x0) (0, [40]) e7 (by kernel_rfl) (fun t x hx => (wl18x1 x0) t x hx Γ) ?_
    intro e σ' hJ
    rcases q1 with q0 | y0
    · obtain ⟨rfl, rfl⟩ := hJ
      refine At.exitK (K' := [.seq c18x21]) (by kernel_rfl) ?_
      obtain ⟨v7, e8, h⟩ := bindE h
      refine At.advN [] [(11, { told := [(2, { ans := .val (.bool v7), args := [.agg [.int .i64 x0.f_Result.f_Dim, .int .u8 x0.f_Result.f_Base, .str x0.f_Result.f_Name]] })], gs := [], keep := some ([1, 4, 34], [(4, 4)]) })] 400 (ev := .cond (!v7) c18x24 c18x25 [.seq c18x26]) (σ' := mkS 42 [(1, .ptr [.sl false (x0.f_Params.map row_T_api_Type), .int .i64 x0.f_Result.f_Dim, .int .u8 x0.f_Result.f_Base, .str x0.f_Result.f_Name]), (4, .lsl 4 0 ((q0.map rU8).length)), (34, .bool (!v7))] [(4, { sz := 1, rows := (q0.map rU8), frz := 0, pure := true })]) (q := [True ∧ (((True ∧ (True ∧ (True ∧ True))) ∧ True) ∧ ([.agg [.int .i64 x0.f_Result.f_Dim, .int .u8 x0.f_Result.f_Base, .str x0.f_Result.f_Name]] : List D) = [.agg [.int .i64 x0.f_Result.f_Dim, .int .u8 x0.f_Result.f_Base, .str x0.f_Result.f_Name]] ∧ CallAny Try.prog 25 [.agg [.int .i64 x0.f_Result.f_Dim, .int .u8 x0.f_Result.f_Base, .str x0.f_Result.f_Name]] (.bool v7))]) (by kernel_rfl) ⟨⟨trivial, ⟨⟨⟨trivial, ⟨trivial, ⟨trivial, trivial⟩⟩⟩, trivial⟩, rfl, .inl (w25 e8)⟩⟩, trivial⟩ ?_
      refine EvOk.cond (fun h7 => ?_) (fun h7 => ?_)
      · replace h := iteT h7 h
        refine At.gc [] [] (n := 42) (l := []) (bl := []) (by kernel_rfl) ?_
        refine At.adv [] [(12, { told := [], gs := [], keep := some ([2, 3], []) })] 400 (ev := .ret) (σ' := mkS 42 [(2, .str []), (3, .int .i64 13)] []) (q := []) (by kernel_rfl) trivial ?_
        refine EvOk.ret ?_
        obtain rfl := someE h
        exact Den.Ends.mk (.inl rfl) (d := .tup [.str [], .int .i64 13]) (p := (True ∧ (True ∧ True)) ∧ (True ∧ (True ∧ True))) (by kernel_rfl) ⟨⟨trivial, ⟨trivial, trivial⟩⟩, ⟨trivial, ⟨trivial, trivial⟩⟩⟩ (by kernel_rfl)
      · replace h := iteF h7 h
        refine At.gc [1, 4] [(4, 4)] (n := 42) (l := [(1, .ptr [.sl false (x0.f_Params.map row_T_api_Type), .int .i64 x0.f_Result.f_Dim, .int .u8 x0.f_Result.f_Base, .str x0.f_Result.f_Name]), (4, .lsl 4 0 ((q0.map rU8).length))]) (bl := [(4, { sz := 1, rows := (q0.map rU8), frz := 0, pure := true })]) (by kernel_rfl) ?_
        obtain ⟨v8, e9, h⟩ := bindE h
        obtain ⟨v9, e10, h⟩ := bindE h
        refine At.adv [] [(13, { told := [(2, { rows := some ((q0 ++ [41]).map rU8) }), (5, { ans := .val (.lsl 0 0 ((v9.map rU8).length)), args := [.lsl 0 0 (((q0 ++ [41]).map rU8).length), .agg [.int .i64 x0.f_Result.f_Dim, .int .u8 x0.f_Result.f_Base, .str x0.f_Result.f_Name]], io := some { names := [4], bs := [{ sz := 1, rows := ((q0 ++ [41]).map rU8), frz := 0, pure := true }], bs' := [{ sz := 1, rows := (v9.map rU8), frz := 0, pure := true }] } }), (6, { ans := .val (.str (bytesOf v9)) })], gs := [], keep := some ([2, 3], []), ord := some ([0, 3, 4, 1, 2, 5, 6, 7, 8], [2, 5, 1003, 1004], [(2, [0, 1]), (4, [3]), (5, [0, 1, 2, 3, 4]), (6, [0, 1, 2, 3, 4, 5]), (7, [0, 1, 2, 3, 4, 5, 6]), (8, [0, 1, 2, 3, 4, 5, 6, 7])]) })] 400 (ev := .ret) (σ' := mkS 42 [(2, .str (bytesOf v9)), (3, .int .i64 0)] []) (q := [True ∧ (True ∧ True), True ∧ ((0 + ([41].map rU8).length ≤ ([41].map rU8).length) ∧ (q0.map rU8).length = (q0.map rU8).length ∧ (∀ r ∈ ((([41].map rU8).drop 0).take ([41].map rU8).length), r.length = 1) ∧ (q0.map rU8) ++ ((([41].map rU8).drop 0).take ([41].map rU8).length) = ((q0 ++ [41]).map rU8) ∧ ((q0 ++ [41]).map rU8).length ≤ 9223372036854775807 ∧ ((q0 ++ [41]).map rU8).length * 1 ≤ 140737488355328), True ∧ (((True ∧ (True ∧ (True ∧ True))) ∧ True) ∧ ([.lsl 0 0 (((q0 ++ [41]).map rU8).length), .agg [.int .i64 x0.f_Result.f_Dim, .int .u8 x0.f_Result.f_Base, .str x0.f_Result.f_Name]] : List D) = [.lsl 0 0 (((q0 ++ [41]).map rU8).length), .agg [.int .i64 x0.f_Result.f_Dim, .int .u8 x0.f_Result.f_Base, .str x0.f_Result.f_Name]] ∧ ([{ sz := 1, rows := ((q0 ++ [41]).map rU8), frz := 0, pure := true }] : List Blk) = [{ sz := 1, rows := ((q0 ++ [41]).map rU8), frz := 0, pure := true }] ∧ CallSpecO Try.prog 40 [.lsl 0 0 (((q0 ++ [41]).map rU8).length), .agg [.int .i64 x0.f_Result.f_Dim, .int .u8 x0.f_Result.f_Base, .str x0.f_Result.f_Name]] [{ sz := 1, rows := ((q0 ++ [41]).map rU8), frz := 0, pure := true }] (.lsl 0 0 ((v9.map rU8).length)) [{ sz := 1, rows := (v9.map rU8), frz := 0, pure := true }]), True ∧ ((0 + (v9.map rU8).length ≤ (v9.map rU8).length) ∧ rowBytes (((v9.map rU8).drop 0).take (v9.map rU8).length) = some (bytesOf v9))]) (by kernel_rfl) ⟨⟨trivial, ⟨trivial, trivial⟩⟩, ⟨trivial, ⟨roomAll _, rfl, by rw [takeAll]; exact szM (f := rU8) (n := 1) (fun _ => rfl) _, by rw [takeAll]; exact appM rU8 _ _, (growK_spec e9 (lenMN _ _)).1, (growK_spec e9 (lenMN _ _)).2⟩⟩, ⟨trivial, ⟨⟨⟨trivial, ⟨trivial, ⟨trivial, trivial⟩⟩⟩, trivial⟩, rfl, rfl, w40 e10⟩⟩, ⟨trivial, ⟨roomAll _, by rw [takeAll]; exact rowBytes_of _⟩⟩, trivial⟩ ?_
        refine EvOk.ret ?_
        obtain rfl := someE h
        exact Den.Ends.mk (.inl rfl) (d := .tup [.str (bytesOf v9), .int .i64 0]) (p := (True ∧ (True ∧ True)) ∧ (True ∧ (True ∧ True))) (by kernel_rfl) ⟨⟨trivial, ⟨trivial, trivial⟩⟩, ⟨trivial, ⟨trivial, trivial⟩⟩⟩ (by kernel_rfl)
    · obtain rfl := someE h
      obtain ⟨rfl, hE⟩ := hJ
      exact At.retK hE
theorem w18 {x0 : T_api_Sig} {r : (List UInt8) × Int} (h : m_desc_FormatSignature x0 = some r) : CallSpec Try.prog 18 [.agg (row_T_api_Sig x0)] (.tup [.str r.1, .int .i64 r.2]) :=
  CallSpec.at2 b18 (n := 42) (l := [(0, .agg (row_T_api_Sig x0))]) (by kernel_rfl) (by kernel_rfl) (by kernel_rfl) (by kernel_rfl) (by kernel_rfl) (Nat.le_of_ble_eq_true (by kernel_rfl)) (fun Γ => we18 x0 r h Γ)

/-! ### armature armatureref04.Format -/
noncomputable def b28 : Code := Try.f28.body.getD .skip
noncomputable def c28x0 : Code := sub1 b28
noncomputable def c28x1 : Code := sub1 c28x0
noncomputable def c28x2 : Code := sub1 c28x1
noncomputable def c28x3 : Code := sub0 c28x2
noncomputable def c28x4 : Code := sub1 c28x3
noncomputable def c28x5 : Code := sub0 c28x4
noncomputable def c28x6 : Code := sub0 c28x5
noncomputable def c28x7 : Code := sub0 c28x6
noncomputable def c28x8 : Code := sub1 c28x7
noncomputable def c28x9 : Code := sub0 c28x8
noncomputable def c28x10 : Code := sub1 c28x8
noncomputable def c28x11 : Code := sub1 c28x6
noncomputable def c28x12 : Code := sub1 c28x2
noncomputable def c28x13 : Code := sub1 c28x12
noncomputable def c28x14 : Code := sub0 c28x13
noncomputable def c28x15 : Code := sub1 c28x14
noncomputable def c28x16 : Code := sub0 c28x15
noncomputable def c28x17 : Code := sub1 c28x15
noncomputable def c28x18 : Code := sub1 c28x13
noncomputable def c28x19 : Code := sub0 c28x0
noncomputable def c28x20 : Code := sub1 c28x19
noncomputable def c28x21 : Code := sub0 c28x20
noncomputable def c28x22 : Code := sub1 c28x20
def l28x1 (x0 : T_api_Type) (t0 : (List UInt8) × Int) : Option (Ctl ((List UInt8) × Int) (((List UInt8)))) :=
  if (decide (t0.2 < x0.f_Dim)) = true then
    ((catK t0.1 ([91] : List UInt8)).bind fun v2 =>
    (some (IntKind.wrap .i64 (t0.2 + (1 : Int)))).bind fun v3 =>
    some (.next (v2, v3))) else
  (some (.done (t0.1)))
def m_armatureref04_Format (x0 : T_api_Type) : Option ((List UInt8) × Int) :=
  (m_armatureref04_Valid x0).bind fun v0 =>
  if (!v0) = true then
    (some ([], 13)) else
  ((loopM (l28x1 x0) rounds ([], 0)).bind fun q0 =>
    (some (IntKind.wrap .i32 x0.f_Base)).bind fun v4 =>
    (catK q0 (runeStr v4)).bind fun v5 =>
    if (x0.f_Base == 76) = true then
      ((catK v5 x0.f_Name).bind fun v6 =>
      (catK v6 ([59] : List UInt8)).bind fun v7 =>
      some (v7, 0)) else
    (some (v5, 0)))
def st28x1 (x0 : T_api_Type) : ((List UInt8) × Int) → S :=
  fun t0 => mkS 32 [(1, .ptr [.int .i64 x0.f_Dim, .int .u8 x0.f_Base, .str x0.f_Name]), (4, .str t0.1), (5, .int .i64 t0.2)] []
noncomputable def J28x1 (x0 : T_api_Type) : (((List UInt8))) → Exit → S → Prop :=
  JExit 0 (fun q0 : (List UInt8) => mkS 32 [(1, .ptr [.int .i64 x0.f_Dim, .int .u8 x0.f_Base, .str x0.f_Name]), (4, .str q0)] [])
theorem wl28x1 (x0 : T_api_Type) (t0 : (List UInt8) × Int) (r : Ctl ((List UInt8) × Int) (((List UInt8)))) (h : (l28x1 x0) t0 = some r) (Γ : Ctx) : At Try.prog Γ c28x6 [] (Round (st28x1 x0) (J28x1 x0) r) ((st28x1 x0) t0) := by
  refine At.adv [] [(5, { told := [], gs := [], keep := some ([1, 4, 5, 12], []) })] 400 (ev := .cond (decide (t0.2 < x0.f_Dim)) c28x9 c28x10 [.seq c28x11]) (σ' := mkS 32 [(1, .ptr [.int .i64 x0.f_Dim, .int .u8 x0.f_Base, .str x0.f_Name]), (4, .str t0.1), (5, .int .i64 t0.2), (12, .bool (decide (t0.2 < x0.f_Dim)))] []) (q := []) (by kernel_rfl) trivial ?_
  refine EvOk.cond (fun h2 => ?_) (fun h2 => ?_)
  · replace h := iteT h2 h
    refine At.gc [1, 4, 5] [] (n := 32) (l := [(1, .ptr [.int .i64 x0.f_Dim, .int .u8 x0.f_Base, .str x0.f_Name]), (4, .str t0.1), (5, .int .i64 t0.2)]) (bl := []) (by kernel_rfl) ?_
    obtain ⟨v2, e2, h⟩ := bindE h
    obtain ⟨v3, e3, h⟩ := bindE h
    refine At.adv [] [(7, { told := [(1, { ans := .val (.str v2) })], gs := [], keep := some ([1, 4, 5], []) }), (6, { told := [(1, { ans := .val (.int .i64 v3) })], gs := [], keep := some ([1, 4, 5], []) })] 400 (ev := .normal) (σ' := mkS 32 [(1, .ptr [.int .i64 x0.f_Dim, .int .u8 x0.f_Base, .str x0.f_Name]), (4, .str v2), (5, .int .i64 v3)] []) (q := [True ∧ (t0.1.length + ([91] : List UInt8).length ≤ 9223372036854775807 ∧ t0.1 ++ ([91] : List UInt8) = v2), True ∧ (IntKind.wrap .i64 (t0.2 + (1 : Int)) = v3)]) (by kernel_rfl) ⟨⟨trivial, catK_spec e2⟩, ⟨trivial, someE e3⟩, trivial⟩ ?_
    refine EvOk.normal ?_
    obtain rfl := someE h
    exact Round.next (by kernel_rfl)
  · replace h := iteF h2 h
    refine At.gc [1, 4] [] (n := 32) (l := [(1, .ptr [.int .i64 x0.f_Dim, .int .u8 x0.f_Base, .str x0.f_Name]), (4, .str t0.1)]) (bl := []) (by kernel_rfl) ?_
    refine At.adv [] [] 400 (ev := .exit 0) (σ' := mkS 32 [(1, .ptr [.int .i64 x0.f_Dim, .int .u8 x0.f_Base, .str x0.f_Name]), (4, .str t0.1)] []) (q := []) (by kernel_rfl) trivial ?_
    refine EvOk.exit ?_
    obtain rfl := someE h
    exact Round.done (neExit _) ⟨rfl, by kernel_rfl⟩
theorem we28 (x0 : T_api_Type) (r : (List UInt8) × Int) (h : m_armatureref04_Format x0 = some r) (Γ : Ctx) : At Try.prog Γ b28 [] (Den.Ends Try.prog Try.f28 (.tup [.str r.1, .int .i64 r.2])) (mkS 32 [(0, .agg (row_T_api_Type x0))] []) := by
  obtain ⟨v0, e0, h⟩ := bindE h
  refine At.adv [] [(0, { told := [(0, { ro := true })], gs := [], keep := some ([1], []) }), (1, { told := [(1, { ans := .val (.bool v0), args := [.agg [.int .i64 x0.f_Dim, .int .u8 x0.f_Base, .str x0.f_Name]] })], gs := [], keep := some ([1, 8], []) })] 400 (ev := .cond (!v0) c28x21 c28x22 [.seq c28x1]) (σ' := mkS 32 [(1, .ptr [.int .i64 x0.f_Dim, .int .u8 x0.f_Base, .str x0.f_Name]), (8, .bool (!v0))] []) (q := [True ∧ (((True ∧ (True ∧ (True ∧ True))) ∧ True) ∧ ([.agg [.int .i64 x0.f_Dim, .int .u8 x0.f_Base, .str x0.f_Name]] : List D) = [.agg [.int .i64 x0.f_Dim, .int .u8 x0.f_Base, .str x0.f_Name]] ∧ CallAny Try.prog 32 [.agg [.int .i64 x0.f_Dim, .int .u8 x0.f_Base, .str x0.f_Name]] (.bool v0))]) (by kernel_rfl) ⟨⟨trivial, ⟨⟨⟨trivial, ⟨trivial, ⟨trivial, trivial⟩⟩⟩, trivial⟩, rfl, .inl (w32 e0)⟩⟩, trivial⟩ ?_
  refine EvOk.cond (fun h0 => ?_) (fun h0 => ?_)
  · replace h := iteT h0 h
    refine At.gc [] [] (n := 32) (l := []) (bl := []) (by kernel_rfl) ?_
    refine At.adv [] [(2, { told := [], gs := [], keep := some ([2, 3], []) })] 400 (ev := .ret) (σ' := mkS 32 [(2, .str []), (3, .int .i64 13)] []) (q := []) (by kernel_rfl) trivial ?_
    refine EvOk.ret ?_
    obtain rfl := someE h
    exact Den.Ends.mk (.inl rfl) (d := .tup [.str [], .int .i64 13]) (p := (True ∧ (True ∧ True)) ∧ (True ∧ (True ∧ True))) (by kernel_rfl) ⟨⟨trivial, ⟨trivial, trivial⟩⟩, ⟨trivial, ⟨trivial, trivial⟩⟩⟩ (by kernel_rfl)
  · replace h := iteF h0 h
    refine At.gc [1] [] (n := 32) (l := [(1, .ptr [.int .i64 x0.f_Dim, .int .u8 x0.f_Base, .str x0.f_Name])]) (bl := []) (by kernel_rfl) ?_
    refine At.adv [] [(3, { told := [], gs := [], keep := some ([1, 4], []) }), (4, { told := [], gs := [], keep := some ([1, 4, 5], []) })] 400 (ev := .loop c28x6 [.blk 0, .seq c28x12]) (σ' := mkS 32 [(1, .ptr [.int .i64 x0.f_Dim, .int .u8 x0.f_Base, .str x0.f_Name]), (4, .str []), (5, .int .i64 0)] []) (q := []) (by kernel_rfl) trivial ?_
    refine EvOk.loop ?_
    obtain ⟨q0, e4, h⟩ := bindE h
    refine At.loop (l28x1 x0) (st28x1 x0) (J28x1 x0) ([], 0) e4 (by kernel_rfl) (fun t x hx => (wl28x1 x0) t x hx Γ) ?_
    intro e σ' hJ
    obtain ⟨rfl, rfl⟩ := hJ
    refine At.exitK (K' := [.seq c28x12]) (by kernel_rfl) ?_
    obtain ⟨v4, e5, h⟩ := bindE h
    obtain ⟨v5, e6, h⟩ := bindE h
    refine At.advN [] [(8, { told := [(3, { ans := .val (.int .i32 v4) }), (5, { ans := .val (.str v5) })], gs := [], keep := some ([1, 4], []) }), (9, { told := [], gs := [], keep := some ([1, 4, 25], []) })] 400 (ev := .cond (x0.f_Base == 76) c28x16 c28x17 [.seq c28x18]) (σ' := mkS 32 [(1, .ptr [.int .i64 x0.f_Dim, .int .u8 x0.f_Base, .str x0.f_Name]), (4, .str v5), (25, .bool (x0.f_Base == 76))] []) (q := [True ∧ (IntKind.wrap .i32 x0.f_Base = v4), True ∧ (q0.length + (runeStr v4).length ≤ 9223372036854775807 ∧ q0 ++ (runeStr v4) = v5)]) (by kernel_rfl) ⟨⟨trivial, someE e5⟩, ⟨trivial, catK_spec e6⟩, trivial⟩ ?_
    refine EvOk.cond (fun h3 => ?_) (fun h3 => ?_)
    · replace h := iteT h3 h
      refine At.gc [1, 4] [] (n := 32) (l := [(1, .ptr [.int .i64 x0.f_Dim, .int .u8 x0.f_Base, .str x0.f_Name]), (4, .str v5)]) (bl := []) (by kernel_rfl) ?_
      obtain ⟨v6, e7, h⟩ := bindE h
      obtain ⟨v7, e8, h⟩ := bindE h
      refine At.adv [] [(10, { told := [(3, { ans := .val (.str v6) }), (4, { ans := .val (.str v7) })], gs := [], keep := some ([4], []) }), (11, { told := [], gs := [], keep := some ([2, 3], []) })] 400 (ev := .ret) (σ' := mkS 32 [(2, .str v7), (3, .int .i64 0)] []) (q := [True ∧ (v5.length + x0.f_Name.length ≤ 9223372036854775807 ∧ v5 ++ x0.f_Name = v6), True ∧ (v6.length + ([59] : List UInt8).length ≤ 9223372036854775807 ∧ v6 ++ ([59] : List UInt8) = v7)]) (by kernel_rfl) ⟨⟨trivial, catK_spec e7⟩, ⟨trivial, catK_spec e8⟩, trivial⟩ ?_
      refine EvOk.ret ?_
      obtain rfl := someE h
      exact Den.Ends.mk (.inl rfl) (d := .tup [.str v7, .int .i64 0]) (p := (True ∧ (True ∧ True)) ∧ (True ∧ (True ∧ True))) (by kernel_rfl) ⟨⟨trivial, ⟨trivial, trivial⟩⟩, ⟨trivial, ⟨trivial, trivial⟩⟩⟩ (by kernel_rfl)
    · replace h := iteF h3 h
      refine At.gc [4] [] (n := 32) (l := [(4, .str v5)]) (bl := []) (by kernel_rfl) ?_
      refine At.adv [] [(11, { told := [], gs := [], keep := some ([2, 3], []) })] 400 (ev := .ret) (σ' := mkS 32 [(2, .str v5), (3, .int .i64 0)] []) (q := []) (by kernel_rfl) trivial ?_
      refine EvOk.ret ?_
      obtain rfl := someE h
      exact Den.Ends.mk (.inl rfl) (d := .tup [.str v5, .int .i64 0]) (p := (True ∧ (True ∧ True)) ∧ (True ∧ (True ∧ True))) (by kernel_rfl) ⟨⟨trivial, ⟨trivial, trivial⟩⟩, ⟨trivial, ⟨trivial, trivial⟩⟩⟩ (by kernel_rfl)
theorem w28 {x0 : T_api_Type} {r : (List UInt8) × Int} (h : m_armatureref04_Format x0 = some r) : CallSpec Try.prog 28 [.agg (row_T_api_Type x0)] (.tup [.str r.1, .int .i64 r.2]) :=
  CallSpec.at2 b28 (n := 32) (l := [(0, .agg (row_T_api_Type x0))]) (by kernel_rfl) (by kernel_rfl) (by kernel_rfl) (by kernel_rfl) (by kernel_rfl) (Nat.le_of_ble_eq_true (by kernel_rfl)) (fun Γ => we28 x0 r h Γ)

/-! ### armature armatureref04.FormatSignature -/
noncomputable def b19 : Code := Try.f19.body.getD .skip
noncomputable def c19x0 : Code := sub1 b19
noncomputable def c19x1 : Code := sub1 c19x0
noncomputable def c19x2 : Code := sub1 c19x1
noncomputable def c19x3 : Code := sub0 c19x2
noncomputable def c19x4 : Code := sub1 c19x3
noncomputable def c19x5 : Code := sub0 c19x4
noncomputable def c19x6 : Code := sub0 c19x5
noncomputable def c19x7 : Code := sub1 c19x6
noncomputable def c19x8 : Code := sub1 c19x7
noncomputable def c19x9 : Code := sub0 c19x8
noncomputable def c19x10 : Code := sub0 c19x9
noncomputable def c19x11 : Code := sub1 c19x10
noncomputable def c19x12 : Code := sub1 c19x11
noncomputable def c19x13 : Code := sub0 c19x12
noncomputable def c19x14 : Code := sub1 c19x13
noncomputable def c19x15 : Code := sub0 c19x14
noncomputable def c19x16 : Code := sub1 c19x14
noncomputable def c19x17 : Code := sub1 c19x12
noncomputable def c19x18 : Code := sub1 c19x8
noncomputable def c19x19 : Code := sub0 c19x7
noncomputable def c19x20 : Code := sub0 c19x19
noncomputable def c19x21 : Code := sub1 c19x19
noncomputable def c19x22 : Code := sub1 c19x2
noncomputable def c19x23 : Code := sub1 c19x22
noncomputable def c19x24 : Code := sub0 c19x23
noncomputable def c19x25 : Code := sub1 c19x24
noncomputable def c19x26 : Code := sub0 c19x25
noncomputable def c19x27 : Code := sub1 c19x25
noncomputable def c19x28 : Code := sub1 c19x23
noncomputable def c19x29 : Code := sub0 c19x0
noncomputable def c19x30 : Code := sub1 c19x29
noncomputable def c19x31 : Code := sub0 c19x30
noncomputable def c19x32 : Code := sub1 c19x30
def j19x1 (t0 : (List UInt8) × Int) (v4 : (List UInt8) × Int) : Option (Ctl ((List UInt8) × Int) (((List UInt8)) ⊕ ((List UInt8) × Int))) :=
  (catK t0.1 v4.1).bind fun v5 =>
  (some (IntKind.wrap .i64 (t0.2 + (1 : Int)))).bind fun v6 =>
  some (.next (v5, v6))
def l19x1 (x0 : T_api_Sig) (t0 : (List UInt8) × Int) : Option (Ctl ((List UInt8) × Int) (((List UInt8)) ⊕ ((List UInt8) × Int))) :=
  if (decide (t0.2 < (x0.f_Params.length : Int))) = true then
    ((getR x0.f_Params t0.2).bind fun v3 =>
    (m_armatureref04_Format ({ f_Dim := v3.f_Dim, f_Base := v3.f_Base, f_Name := v3.f_Name } : T_api_Type)).bind fun v4 =>
    if (v4.2 != 0) = true then (some (.done (.inr ([], 13)))) else
    (if (v3.f_Base == 86) = true then
      (some (.done (.inr ([], 13)))) else
    ((j19x1 t0 v4) ))) else
  (some (.done (.inl (t0.1))))
def m_armatureref04_FormatSignature (x0 : T_api_Sig) : Option ((List UInt8) × Int) :=
  if (decide ((x0.f_Params.length : Int) > 16)) = true then
    (some ([], 5)) else
  ((loopM (l19x1 x0) rounds ([40], 0)).bind fun q1 =>
    match q1 with
    | .inl q0 => ((m_armatureref04_Format x0.f_Result).bind fun v7 =>
      if (v7.2 != 0) = true then
        (some ([], 13)) else
      ((catK q0 ([41] : List UInt8)).bind fun v8 =>
        (catK v8 v7.1).bind fun v9 =>
        some (v9, 0)))
    | .inr y0 => (some y0))
def st19x1 (x0 : T_api_Sig) : ((List UInt8) × Int) → S :=
  fun t0 => mkS 50 [(1, .ptr [.sl false (x0.f_Params.map row_T_api_Type), .int .i64 x0.f_Result.f_Dim, .int .u8 x0.f_Result.f_Base, .str x0.f_Result.f_Name]), (4, .str t0.1), (16, .sl false (x0.f_Params.map row_T_api_Type)), (17, .int .i64 (x0.f_Params.length : Int)), (18, .int .i64 t0.2)] []
noncomputable def J19x1 (x0 : T_api_Sig) : (((List UInt8)) ⊕ ((List UInt8) × Int)) → Exit → S → Prop :=
  JSum (JExit 0 (fun q0 : (List UInt8) => mkS 50 [(1, .ptr [.sl false (x0.f_Params.map row_T_api_Type), .int .i64 x0.f_Result.f_Dim, .int .u8 x0.f_Result.f_Base, .str x0.f_Result.f_Name]), (4, .str q0)] [])) (JRet Try.prog Try.f19 (fun y : (List UInt8) × Int => .tup [.str y.1, .int .i64 y.2]))
theorem wj19x1 (t0 : (List UInt8) × Int) (v4 : (List UInt8) × Int) (x0 : T_api_Sig) (r : Ctl ((List UInt8) × Int) (((List UInt8)) ⊕ ((List UInt8) × Int))) (h : (j19x1 t0 v4)  = some r) (Γ : Ctx) : EvOk Try.prog Γ (Round (st19x1 x0) (J19x1 x0) r) (mkS 50 [(1, .ptr [.sl false (x0.f_Params.map row_T_api_Type), .int .i64 x0.f_Result.f_Dim, .int .u8 x0.f_Result.f_Base, .str x0.f_Result.f_Name]), (4, .str t0.1), (7, .str v4.1), (16, .sl false (x0.f_Params.map row_T_api_Type)), (17, .int .i64 (x0.f_Params.length : Int)), (18, .int .i64 t0.2)] []) (.stop c19x17 [.blk 1, .seq c19x18]) := by
  refine EvOk.stop ?_
  obtain ⟨v5, e5, h⟩ := bindE h
  obtain ⟨v6, e6, h⟩ := bindE h
  refine At.adv [] [(10, { told := [(2, { ans := .val (.str v5) })], gs := [], keep := some ([1, 4, 16, 17, 18], []) }), (11, { told := [(0, { ans := .val (.int .i64 v6) })], gs := [], keep := some ([1, 4, 16, 17, 18], []) })] 400 (ev := .normal) (σ' := mkS 50 [(1, .ptr [.sl false (x0.f_Params.map row_T_api_Type), .int .i64 x0.f_Result.f_Dim, .int .u8 x0.f_Result.f_Base, .str x0.f_Result.f_Name]), (4, .str v5), (16, .sl false (x0.f_Params.map row_T_api_Type)), (17, .int .i64 (x0.f_Params.length : Int)), (18, .int .i64 v6)] []) (q := [True ∧ (t0.1.length + v4.1.length ≤ 9223372036854775807 ∧ t0.1 ++ v4.1 = v5), True ∧ (IntKind.wrap .i64 (t0.2 + (1 : Int)) = v6)]) (by kernel_rfl) ⟨⟨trivial, catK_spec e5⟩, ⟨trivial, someE e6⟩, trivial⟩ ?_
  refine EvOk.normal ?_
  obtain rfl := someE h
  exact Round.next (by kernel_rfl)
theorem wl19x1 (x0 : T_api_Sig) (t0 : (List UInt8) × Int) (r : Ctl ((List UInt8) × Int) (((List UInt8)) ⊕ ((List UInt8) × Int))) (h : (l19x1 x0) t0 = some r) (Γ : Ctx) : At Try.prog Γ c19x6 [] (Round (st19x1 x0) (J19x1 x0) r) ((st19x1 x0) t0) := by
  refine At.adv [] [(5, { told := [], gs := [], keep := some ([1, 4, 16, 17, 18, 19], []) })] 400 (ev := .cond (decide (t0.2 < (x0.f_Params.length : Int))) c19x20 c19x21 [.seq c19x8]) (σ' := mkS 50 [(1, .ptr [.sl false (x0.f_Params.map row_T_api_Type), .int .i64 x0.f_Result.f_Dim, .int .u8 x0.f_Result.f_Base, .str x0.f_Result.f_Name]), (4, .str t0.1), (16, .sl false (x0.f_Params.map row_T_api_Type)), (17, .int .i64 (x0.f_Params.length : Int)), (18, .int .i64 t0.2), (19, .bool (decide (t0.2 < (x0.f_Params.length : Int))))] []) (q := []) (by kernel_rfl) trivial ?_
  refine EvOk.cond (fun h4 => ?_) (fun h4 => ?_)
  · replace h := iteT h4 h
    refine At.gc [1, 4, 16, 17, 18] [] (n := 50) (l := [(1, .ptr [.sl false (x0.f_Params.map row_T_api_Type), .int .i64 x0.f_Result.f_Dim, .int .u8 x0.f_Result.f_Base, .str x0.f_Result.f_Name]), (4, .str t0.1), (16, .sl false (x0.f_Params.map row_T_api_Type)), (17, .int .i64 (x0.f_Params.length : Int)), (18, .int .i64 t0.2)]) (bl := []) (by kernel_rfl) ?_
    obtain ⟨v3, e3, h⟩ := bindE h
    obtain ⟨v4, e4, h⟩ := bindE h
    rcases Bool.eq_false_or_eq_true (v4.2 != 0) with h5 | h5
    · replace h := iteT h5 h
      refine At.adv [] [(6, { told := [(0, { ans := .row (row_T_api_Type v3) })], gs := [], keep := some ([1, 4, 6, 16, 17, 18], [(6, 6)]) }), (7, { told := [(1, { ans := .val (.tup [.str v4.1, .int .i64 v4.2]), args := [.agg [.int .i64 v3.f_Dim, .int .u8 v3.f_Base, .str v3.f_Name]] })], gs := [], keep := some ([1, 4, 6, 7, 8, 16, 17, 18], [(6, 6)]) }), (8, { told := [(6, { ans := .yes })], gs := [(3, false), (4, false), (5, false)], keep := some ([1, 4, 7, 16, 17, 18, 33], []) })] 400 (ev := .cond true c19x15 c19x16 [.seq c19x17, .blk 1, .seq c19x18]) (σ' := mkS 50 [(1, .ptr [.sl false (x0.f_Params.map row_T_api_Type), .int .i64 x0.f_Result.f_Dim, .int .u8 x0.f_Result.f_Base, .str x0.f_Result.f_Name]), (4, .str t0.1), (7, .str v4.1), (16, .sl false (x0.f_Params.map row_T_api_Type)), (17, .int .i64 (x0.f_Params.length : Int)), (18, .int .i64 t0.2), (33, .bool true)] []) (q := [True ∧ (getR (x0.f_Params.map row_T_api_Type) t0.2 = some (row_T_api_Type v3)), True ∧ (0 ≤ 0 ∧ 0 + ([.int .i64 v3.f_Dim, .int .u8 v3.f_Base, .str v3.f_Name] : List D).length ≤ ([.int .i64 0, .int .u8 0, .str []] : List D).length ∧ ([[.int .i64 v3.f_Dim, .int .u8 v3.f_Base, .str v3.f_Name]] : List (List D)) = ([[.int .i64 v3.f_Dim, .int .u8 v3.f_Base, .str v3.f_Name]] : List (List D))), True ∧ (((True ∧ (True ∧ (True ∧ True))) ∧ True) ∧ ([.agg [.int .i64 v3.f_Dim, .int .u8 v3.f_Base, .str v3.f_Name]] : List D) = [.agg [.int .i64 v3.f_Dim, .int .u8 v3.f_Base, .str v3.f_Name]] ∧ CallAny Try.prog 28 [.agg [.int .i64 v3.f_Dim, .int .u8 v3.f_Base, .str v3.f_Name]] (.tup [.str v4.1, .int .i64 v4.2])), ((v4.2 != 0) == false) = false, ((v4.2 != 0) == false) = false, ((v4.2 != 0) == false) = false, True ∧ ((v4.2 != 0) = true)]) (by kernel_rfl) ⟨⟨trivial, getR_map row_T_api_Type e3⟩, ⟨trivial, ⟨Nat.zero_le _, Nat.le_of_ble_eq_true rfl, rfl⟩⟩, ⟨trivial, ⟨⟨⟨trivial, ⟨trivial, ⟨trivial, trivial⟩⟩⟩, trivial⟩, rfl, .inl (w28 e4)⟩⟩, gB h5 rfl, gB h5 rfl, gB h5 rfl, ⟨trivial, h5⟩, trivial⟩ ?_
      refine EvOk.cond (fun _ => ?_) (fun hb => Bool.noConfusion hb)
      refine At.gc [] [] (n := 50) (l := []) (bl := []) (by kernel_rfl) ?_
      refine At.adv [] [(9, { told := [], gs := [], keep := some ([2, 3], []) })] 400 (ev := .ret) (σ' := mkS 50 [(2, .str []), (3, .int .i64 13)] []) (q := []) (by kernel_rfl) trivial ?_
      refine EvOk.ret ?_
      obtain rfl := someE h
      exact Round.done neRet ⟨rfl, Den.Ends.mk (.inl rfl) (d := .tup [.str [], .int .i64 13]) (p := (True ∧ (True ∧ True)) ∧ (True ∧ (True ∧ True))) (by kernel_rfl) ⟨⟨trivial, ⟨trivial, trivial⟩⟩, ⟨trivial, ⟨trivial, trivial⟩⟩⟩ (by kernel_rfl)⟩
    · replace h := iteF h5 h
      refine At.adv [] [(6, { told := [(0, { ans := .row (row_T_api_Type v3) })], gs := [], keep := some ([1, 4, 6, 16, 17, 18], [(6, 6)]) }), (7, { told := [(1, { ans := .val (.tup [.str v4.1, .int .i64 v4.2]), args := [.agg [.int .i64 v3.f_Dim, .int .u8 v3.f_Base, .str v3.f_Name]] })], gs := [], keep := some ([1, 4, 6, 7, 8, 16, 17, 18], [(6, 6)]) }), (8, { told := [(6, { ans := .no })], gs := [(3, true), (4, true), (5, true)], keep := some ([1, 4, 7, 16, 17, 18, 33], []) })] 400 (ev := .cond (v3.f_Base == 86) c19x15 c19x16 [.seq c19x17, .blk 1, .seq c19x18]) (σ' := mkS 50 [(1, .ptr [.sl false (x0.f_Params.map row_T_api_Type), .int .i64 x0.f_Result.f_Dim, .int .u8 x0.f_Result.f_Base, .str x0.f_Result.f_Name]), (4, .str t0.1), (7, .str v4.1), (16, .sl false (x0.f_Params.map row_T_api_Type)), (17, .int .i64 (x0.f_Params.length : Int)), (18, .int .i64 t0.2), (33, .bool (v3.f_Base == 86))] []) (q := [True ∧ (getR (x0.f_Params.map row_T_api_Type) t0.2 = some (row_T_api_Type v3)), True ∧ (0 ≤ 0 ∧ 0 + ([.int .i64 v3.f_Dim, .int .u8 v3.f_Base, .str v3.f_Name] : List D).length ≤ ([.int .i64 0, .int .u8 0, .str []] : List D).length ∧ ([[.int .i64 v3.f_Dim, .int .u8 v3.f_Base, .str v3.f_Name]] : List (List D)) = ([[.int .i64 v3.f_Dim, .int .u8 v3.f_Base, .str v3.f_Name]] : List (List D))), True ∧ (((True ∧ (True ∧ (True ∧ True))) ∧ True) ∧ ([.agg [.int .i64 v3.f_Dim, .int .u8 v3.f_Base, .str v3.f_Name]] : List D) = [.agg [.int .i64 v3.f_Dim, .int .u8 v3.f_Base, .str v3.f_Name]] ∧ CallAny Try.prog 28 [.agg [.int .i64 v3.f_Dim, .int .u8 v3.f_Base, .str v3.f_Name]] (.tup [.str v4.1, .int .i64 v4.2])), ((v4.2 != 0) == false) = true ∧ True, ((v4.2 != 0) == false) = true ∧ True, ((v4.2 != 0) == false) = true ∧ True, True ∧ ((v4.2 != 0) = false)]) (by kernel_rfl) ⟨⟨trivial, getR_map row_T_api_Type e3⟩, ⟨trivial, ⟨Nat.zero_le _, Nat.le_of_ble_eq_true rfl, rfl⟩⟩, ⟨trivial, ⟨⟨⟨trivial, ⟨trivial, ⟨trivial, trivial⟩⟩⟩, trivial⟩, rfl, .inl (w28 e4)⟩⟩, ⟨(gB h5 rfl), trivial⟩, ⟨(gB h5 rfl), trivial⟩, ⟨(gB h5 rfl), trivial⟩, ⟨trivial, h5⟩, trivial⟩ ?_
      refine EvOk.cond (fun h6 => ?_) (fun h6 => ?_)
      · replace h := iteT h6 h
        refine At.gc [] [] (n := 50) (l := []) (bl := []) (by kernel_rfl) ?_
        refine At.adv [] [(9, { told := [], gs := [], keep := some ([2, 3], []) })] 400 (ev := .ret) (σ' := mkS 50 [(2, .str []), (3, .int .i64 13)] []) (q := []) (by kernel_rfl) trivial ?_
        refine EvOk.ret ?_
        obtain rfl := someE h
        exact Round.done neRet ⟨rfl, Den.Ends.mk (.inl rfl) (d := .tup [.str [], .int .i64 13]) (p := (True ∧ (True ∧ True)) ∧ (True ∧ (True ∧ True))) (by kernel_rfl) ⟨⟨trivial, ⟨trivial, trivial⟩⟩, ⟨trivial, ⟨trivial, trivial⟩⟩⟩ (by kernel_rfl)⟩
      · replace h := iteF h6 h
        refine At.gc [1, 4, 7, 16, 17, 18] [] (n := 50) (l := [(1, .ptr [.sl false (x0.f_Params.map row_T_api_Type), .int .i64 x0.f_Result.f_Dim, .int .u8 x0.f_Result.f_Base, .str x0.f_Result.f_Name]), (4, .str t0.1), (7, .str v4.1), (16, .sl false (x0.f_Params.map row_T_api_Type)), (17, .int .i64 (x0.f_Params.length : Int)), (18, .int .i64 t0.2)]) (bl := []) (by kernel_rfl) ?_
        refine At.adv [10] [] 400 (ev := .stop c19x17 [.blk 1, .seq c19x18]) (σ' := mkS 50 [(1, .ptr [.sl false (x0.f_Params.map row_T_api_Type), .int .i64 x0.f_Result.f_Dim, .int .u8 x0.f_Result.f_Base, .str x0.f_Result.f_Name]), (4, .str t0.1), (7, .str v4.1), (16, .sl false (x0.f_Params.map row_T_api_Type)), (17, .int .i64 (x0.f_Params.length : Int)), (18, .int .i64 t0.2)] []) (q := []) (by kernel_rfl) trivial ?_
        exact (wj19x1 t0 v4 x0)  r h Γ
  · replace h := iteF h4 h
    refine At.gc [1, 4] [] (n := 50) (l := [(1, .ptr [.sl false (x0.f_Params.map row_T_api_Type), .int .i64 x0.f_Result.f_Dim, .int .u8 x0.f_Result.f_Base, .str x0.f_Result.f_Name]), (4, .str t0.1)]) (bl := []) (by kernel_rfl) ?_
    refine At.adv [] [] 400 (ev := .exit 0) (σ' := mkS 50 [(1, .ptr [.sl false (x0.f_Params.map row_T_api_Type), .int .i64 x0.f_Result.f_Dim, .int .u8 x0.f_Result.f_Base, .str x0.f_Result.f_Name]), (4, .str t0.1)] []) (q := []) (by kernel_rfl) trivial ?_
    refine EvOk.exit ?_
    obtain rfl := someE h
    exact Round.done (neExit _) ⟨rfl, by kernel_rfl⟩
theorem we19 (x0 : T_api_Sig) (r : (List UInt8) × Int) (h : m_armatureref04_FormatSignature x0 = some r) (Γ : Ctx) : At Try.prog Γ b19 [] (Den.Ends Try.prog Try.f19 (.tup [.str r.1, .int .i64 r.2])) (mkS 50 [(0, .agg (row_T_api_Sig x0))] []) := by
  refine At.adv [] [(0, { told := [(0, { ro := true })], gs := [], keep := some ([1], []) }), (1, { told := [(2, { ans := .val (.int .i64 (x0.f_Params.length : Int)) })], gs := [], keep := some ([1, 14], []) })] 400 (ev := .cond (decide ((x0.f_Params.length : Int) > 16)) c19x31 c19x32 [.seq c19x1]) (σ' := mkS 50 [(1, .ptr [.sl false (x0.f_Params.map row_T_api_Type), .int .i64 x0.f_Result.f_Dim, .int .u8 x0.f_Result.f_Base, .str x0.f_Result.f_Name]), (14, .bool (decide ((x0.f_Params.length : Int) > 16)))] []) (q := [True ∧ (((x0.f_Params.map row_T_api_Type).length : Int) = (x0.f_Params.length : Int))]) (by kernel_rfl) ⟨⟨trivial, lenM _ _⟩, trivial⟩ ?_
  refine EvOk.cond (fun h0 => ?_) (fun h0 => ?_)
  · replace h := iteT h0 h
    refine At.gc [] [] (n := 50) (l := []) (bl := []) (by kernel_rfl) ?_
    refine At.adv [] [(2, { told := [], gs := [], keep := some ([2, 3], []) })] 400 (ev := .ret) (σ' := mkS 50 [(2, .str []), (3, .int .i64 5)] []) (q := []) (by kernel_rfl) trivial ?_
    refine EvOk.ret ?_
    obtain rfl := someE h
    exact Den.Ends.mk (.inl rfl) (d := .tup [.str [], .int .i64 5]) (p := (True ∧ (True ∧ True)) ∧ (True ∧ (True ∧ True))) (by kernel_rfl) ⟨⟨trivial, ⟨trivial, trivial⟩⟩, ⟨trivial, ⟨trivial, trivial⟩⟩⟩ (by kernel_rfl)
  · replace h := iteF h0 h
    refine At.gc [1] [] (n := 50) (l := [(1, .ptr [.sl false (x0.f_Params.map row_T_api_Type), .int .i64 x0.f_Result.f_Dim, .int .u8 x0.f_Result.f_Base, .str x0.f_Result.f_Name])]) (bl := []) (by kernel_rfl) ?_
    refine At.adv [] [(3, { told := [], gs := [], keep := some ([1, 4], []) }), (4, { told := [(2, { ans := .val (.int .i64 (x0.f_Params.length : Int)) })], gs := [], keep := some ([1, 4, 16, 17, 18], []) })] 400 (ev := .loop c19x6 [.blk 0, .seq c19x22]) (σ' := mkS 50 [(1, .ptr [.sl false (x0.f_Params.map row_T_api_Type), .int .i64 x0.f_Result.f_Dim, .int .u8 x0.f_Result.f_Base, .str x0.f_Result.f_Name]), (4, .str [40]), (16, .sl false (x0.f_Params.map row_T_api_Type)), (17, .int .i64 (x0.f_Params.length : Int)), (18, .int .i64 0)] []) (q := [True ∧ (((x0.f_Params.map row_T_api_Type).length : Int) = (x0.f_Params.length : Int))]) (by kernel_rfl) ⟨⟨trivial, lenM _ _⟩, trivial⟩ ?_
    refine EvOk.loop ?_
    obtain ⟨q1, e7, h⟩ := bindE h
    refine At.loop (l19x1 x0) (st19x1 x0) (J19x1 x0) ([40], 0) e7 (by kernel_rfl) (fun t x hx => (wl19x1 x0) t x hx Γ) ?_
    intro e σ' hJ
    rcases q1 with q0 | y0
    · obtain ⟨rfl, rfl⟩ := hJ
      refine At.exitK (K' := [.seq c19x22]) (by kernel_rfl) ?_
      obtain ⟨v7, e8, h⟩ := bindE h
      refine At.advN [] [(12, { told := [(2, { ans := .val (.tup [.str v7.1, .int .i64 v7.2]), args := [.agg [.int .i64 x0.f_Result.f_Dim, .int .u8 x0.f_Result.f_Base, .str x0.f_Result.f_Name]] })], gs := [], keep := some ([4, 9, 10], []) }), (13, { told := [], gs := [], keep := some ([4, 9, 45], []) })] 400 (ev := .cond (v7.2 != 0) c19x26 c19x27 [.seq c19x28]) (σ' := mkS 50 [(4, .str q0), (9, .str v7.1), (45, .bool (v7.2 != 0))] []) (q := [True ∧ (((True ∧ (True ∧ (True ∧ True))) ∧ True) ∧ ([.agg [.int .i64 x0.f_Result.f_Dim, .int .u8 x0.f_Result.f_Base, .str x0.f_Result.f_Name]] : List D) = [.agg [.int .i64 x0.f_Result.f_Dim, .int .u8 x0.f_Result.f_Base, .str x0.f_Result.f_Name]] ∧ CallAny Try.prog 28 [.agg [.int .i64 x0.f_Result.f_Dim, .int .u8 x0.f_Result.f_Base, .str x0.f_Result.f_Name]] (.tup [.str v7.1, .int .i64 v7.2]))]) (by kernel_rfl) ⟨⟨trivial, ⟨⟨⟨trivial, ⟨trivial, ⟨trivial, trivial⟩⟩⟩, trivial⟩, rfl, .inl (w28 e8)⟩⟩, trivial⟩ ?_
      refine EvOk.cond (fun h7 => ?_) (fun h7 => ?_)
      · replace h := iteT h7 h
        refine At.gc [] [] (n := 50) (l := []) (bl := []) (by kernel_rfl) ?_
        refine At.adv [] [(14, { told := [], gs := [], keep := some ([2, 3], []) })] 400 (ev := .ret) (σ' := mkS 50 [(2, .str []), (3, .int .i64 13)] []) (q := []) (by kernel_rfl) trivial ?_
        refine EvOk.ret ?_
        obtain rfl := someE h
        exact Den.Ends.mk (.inl rfl) (d := .tup [.str [], .int .i64 13]) (p := (True ∧ (True ∧ True)) ∧ (True ∧ (True ∧ True))) (by kernel_rfl) ⟨⟨trivial, ⟨trivial, trivial⟩⟩, ⟨trivial, ⟨trivial, trivial⟩⟩⟩ (by kernel_rfl)
      · replace h := iteF h7 h
        refine At.gc [4, 9] [] (n := 50) (l := [(4, .str q0), (9, .str v7.1)]) (bl := []) (by kernel_rfl) ?_
        obtain ⟨v8, e9, h⟩ := bindE h
        obtain ⟨v9, e10, h⟩ := bindE h
        refine At.adv [] [(15, { told := [(1, { ans := .val (.str v8) }), (3, { ans := .val (.str v9) })], gs := [], keep := some ([2, 3], []) })] 400 (ev := .ret) (σ' := mkS 50 [(2, .str v9), (3, .int .i64 0)] []) (q := [True ∧ (q0.length + ([41] : List UInt8).length ≤ 9223372036854775807 ∧ q0 ++ ([41] : List UInt8) = v8), True ∧ (v8.length + v7.1.length ≤ 9223372036854775807 ∧ v8 ++ v7.1 = v9)]) (by kernel_rfl) ⟨⟨trivial, catK_spec e9⟩, ⟨trivial, catK_spec e10⟩, trivial⟩ ?_
        refine EvOk.ret ?_
        obtain rfl := someE h
        exact Den.Ends.mk (.inl rfl) (d := .tup [.str v9, .int .i64 0]) (p := (True ∧ (True ∧ True)) ∧ (True ∧ (True ∧ True))) (by kernel_rfl) ⟨⟨trivial, ⟨trivial, trivial⟩⟩, ⟨trivial, ⟨trivial, trivial⟩⟩⟩ (by kernel_rfl)
    · obtain rfl := someE h
      obtain ⟨rfl, hE⟩ := hJ
      exact At.retK hE
theorem w19 {x0 : T_api_Sig} {r : (List UInt8) × Int} (h : m_armatureref04_FormatSignature x0 = some r) : CallSpec Try.prog 19 [.agg (row_T_api_Sig x0)] (.tup [.str r.1, .int .i64 r.2]) :=
  CallSpec.at2 b19 (n := 50) (l := [(0, .agg (row_T_api_Sig x0))]) (by kernel_rfl) (by kernel_rfl) (by kernel_rfl) (by kernel_rfl) (by kernel_rfl) (Nat.le_of_ble_eq_true (by kernel_rfl)) (fun Γ => we19 x0 r h Γ)

/-! ### armature desc.FormatClassConstant -/
noncomputable def b21 : Code := Try.f21.body.getD .skip
noncomputable def c21x0 : Code := sub1 b21
noncomputable def c21x1 : Code := sub0 c21x0
noncomputable def c21x2 : Code := sub0 c21x1
noncomputable def c21x3 : Code := sub1 c21x2
noncomputable def c21x4 : Code := sub1 c21x3
noncomputable def c21x5 : Code := sub1 c21x4
noncomputable def c21x6 : Code := sub1 c21x5
noncomputable def c21x7 : Code := sub1 c21x6
noncomputable def c21x8 : Code := sub0 c21x7
noncomputable def c21x9 : Code := sub1 c21x7
noncomputable def c21x10 : Code := sub1 c21x0
noncomputable def c21x11 : Code := sub0 c21x5
noncomputable def c21x12 : Code := sub0 c21x3
def m_desc_FormatClassConstant (x0 : T_api_Type) : Option ((List UInt8) × Int) :=
  (m_desc_Valid x0).bind fun v0 =>
  if (!v0) = true then
    (some ([], 13)) else
  (if (decide (x0.f_Dim > 0)) = true then
      ((m_desc_Format x0).bind fun v1 =>
      some (v1.1, v1.2)) else
    (if (x0.f_Base == 76) = true then
        (some (x0.f_Name, 0)) else
      (some ([], 1))))
theorem we21 (x0 : T_api_Type) (r : (List UInt8) × Int) (h : m_desc_FormatClassConstant x0 = some r) (Γ : Ctx) : At Try.prog Γ b21 [] (Den.Ends Try.prog Try.f21 (.tup [.str r.1, .int .i64 r.2])) (mkS 22 [(0, .agg (row_T_api_Type x0))] []) := by
  obtain ⟨v0, e0, h⟩ := bindE h
  refine At.adv [] [(0, { told := [(0, { ro := true })], gs := [], keep := some ([1], []) }), (1, { told := [(1, { ans := .val (.bool v0), args := [.agg [.int .i64 x0.f_Dim, .int .u8 x0.f_Base, .str x0.f_Name]] })], gs := [], keep := some ([1, 4], []) })] 400 (ev := .cond (!v0) c21x12 c21x4 [.blk 0, .seq c21x10]) (σ' := mkS 22 [(1, .ptr [.int .i64 x0.f_Dim, .int .u8 x0.f_Base, .str x0.f_Name]), (4, .bool (!v0))] []) (q := [True ∧ (((True ∧ (True ∧ (True ∧ True))) ∧ True) ∧ ([.agg [.int .i64 x0.f_Dim, .int .u8 x0.f_Base, .str x0.f_Name]] : List D) = [.agg [.int .i64 x0.f_Dim, .int .u8 x0.f_Base, .str x0.f_Name]] ∧ CallAny Try.prog 25 [.agg [.int .i64 x0.f_Dim, .int .u8 x0.f_Base, .str x0.f_Name]] (.bool v0))]) (by kernel_rfl) ⟨⟨trivial, ⟨⟨⟨trivial, ⟨trivial, ⟨trivial, trivial⟩⟩⟩, trivial⟩, rfl, .inl (w25 e0)⟩⟩, trivial⟩ ?_
  refine EvOk.cond (fun h0 => ?_) (fun h0 => ?_)
  · replace h := iteT h0 h
    refine At.gc [] [] (n := 22) (l := []) (bl := []) (by kernel_rfl) ?_
    refine At.adv [] [(2, { told := [], gs := [], keep := some ([2, 3], []) })] 400 (ev := .ret) (σ' := mkS 22 [(2, .str []), (3, .int .i64 13)] []) (q := []) (by kernel_rfl) trivial ?_
    refine EvOk.ret ?_
    obtain rfl := someE h
    exact Den.Ends.mk (.inl rfl) (d := .tup [.str [], .int .i64 13]) (p := (True ∧ (True ∧ True)) ∧ (True ∧ (True ∧ True))) (by kernel_rfl) ⟨⟨trivial, ⟨trivial, trivial⟩⟩, ⟨trivial, ⟨trivial, trivial⟩⟩⟩ (by kernel_rfl)
  · replace h := iteF h0 h
    refine At.gc [1] [] (n := 22) (l := [(1, .ptr [.int .i64 x0.f_Dim, .int .u8 x0.f_Base, .str x0.f_Name])]) (bl := []) (by kernel_rfl) ?_
    refine At.adv [] [(3, { told := [], gs := [], keep := some ([1, 8], []) })] 400 (ev := .cond (decide (x0.f_Dim > 0)) c21x11 c21x6 [.blk 0, .seq c21x10]) (σ' := mkS 22 [(1, .ptr [.int .i64 x0.f_Dim, .int .u8 x0.f_Base, .str x0.f_Name]), (8, .bool (decide (x0.f_Dim > 0)))] []) (q := []) (by kernel_rfl) trivial ?_
    refine EvOk.cond (fun h1 => ?_) (fun h1 => ?_)
    · replace h := iteT h1 h
      refine At.gc [1] [] (n := 22) (l := [(1, .ptr [.int .i64 x0.f_Dim, .int .u8 x0.f_Base, .str x0.f_Name])]) (bl := []) (by kernel_rfl) ?_
      obtain ⟨v1, e1, h⟩ := bindE h
      refine At.adv [] [(4, { told := [(1, { ans := .val (.tup [.str v1.1, .int .i64 v1.2]), args := [.agg [.int .i64 x0.f_Dim, .int .u8 x0.f_Base, .str x0.f_Name]] })], gs := [], keep := some ([2, 3], []) })] 400 (ev := .ret) (σ' := mkS 22 [(2, .str v1.1), (3, .int .i64 v1.2)] []) (q := [True ∧ (((True ∧ (True ∧ (True ∧ True))) ∧ True) ∧ ([.agg [.int .i64 x0.f_Dim, .int .u8 x0.f_Base, .str x0.f_Name]] : List D) = [.agg [.int .i64 x0.f_Dim, .int .u8 x0.f_Base, .str x0.f_Name]] ∧ CallAny Try.prog 20 [.agg [.int .i64 x0.f_Dim, .int .u8 x0.f_Base, .str x0.f_Name]] (.tup [.str v1.1, .int .i64 v1.2]))]) (by kernel_rfl) ⟨⟨trivial, ⟨⟨⟨trivial, ⟨trivial, ⟨trivial, trivial⟩⟩⟩, trivial⟩, rfl, .inl (w20 e1)⟩⟩, trivial⟩ ?_
      refine EvOk.ret ?_
      obtain rfl := someE h
      exact Den.Ends.mk (.inl rfl) (d := .tup [.str v1.1, .int .i64 v1.2]) (p := (True ∧ (True ∧ True)) ∧ (True ∧ (True ∧ True))) (by kernel_rfl) ⟨⟨trivial, ⟨trivial, trivial⟩⟩, ⟨trivial, ⟨trivial, trivial⟩⟩⟩ (by kernel_rfl)
    · replace h := iteF h1 h
      refine At.gc [1] [] (n := 22) (l := [(1, .ptr [.int .i64 x0.f_Dim, .int .u8 x0.f_Base, .str x0.f_Name])]) (bl := []) (by kernel_rfl) ?_
      refine At.adv [] [(5, { told := [], gs := [], keep := some ([1, 16], []) })] 400 (ev := .cond (x0.f_Base == 76) c21x8 c21x9 [.blk 0, .seq c21x10]) (σ' := mkS 22 [(1, .ptr [.int .i64 x0.f_Dim, .int .u8 x0.f_Base, .str x0.f_Name]), (16, .bool (x0.f_Base == 76))] []) (q := []) (by kernel_rfl) trivial ?_
      refine EvOk.cond (fun h2 => ?_) (fun h2 => ?_)
      · replace h := iteT h2 h
        refine At.gc [1] [] (n := 22) (l := [(1, .ptr [.int .i64 x0.f_Dim, .int .u8 x0.f_Base, .str x0.f_Name])]) (bl := []) (by kernel_rfl) ?_
        refine At.adv [] [(6, { told := [], gs := [], keep := some ([2, 3], []) })] 400 (ev := .ret) (σ' := mkS 22 [(2, .str x0.f_Name), (3, .int .i64 0)] []) (q := []) (by kernel_rfl) trivial ?_
        refine EvOk.ret ?_
        obtain rfl := someE h
        exact Den.Ends.mk (.inl rfl) (d := .tup [.str x0.f_Name, .int .i64 0]) (p := (True ∧ (True ∧ True)) ∧ (True ∧ (True ∧ True))) (by kernel_rfl) ⟨⟨trivial, ⟨trivial, trivial⟩⟩, ⟨trivial, ⟨trivial, trivial⟩⟩⟩ (by kernel_rfl)
      · replace h := iteF h2 h
        refine At.gc [] [] (n := 22) (l := []) (bl := []) (by kernel_rfl) ?_
        refine At.adv [] [(7, { told := [], gs := [], keep := some ([2, 3], []) })] 400 (ev := .ret) (σ' := mkS 22 [(2, .str []), (3, .int .i64 1)] []) (q := []) (by kernel_rfl) trivial ?_
        refine EvOk.ret ?_
        obtain rfl := someE h
        exact Den.Ends.mk (.inl rfl) (d := .tup [.str [], .int .i64 1]) (p := (True ∧ (True ∧ True)) ∧ (True ∧ (True ∧ True))) (by kernel_rfl) ⟨⟨trivial, ⟨trivial, trivial⟩⟩, ⟨trivial, ⟨trivial, trivial⟩⟩⟩ (by kernel_rfl)
theorem w21 {x0 : T_api_Type} {r : (List UInt8) × Int} (h : m_desc_FormatClassConstant x0 = some r) : CallSpec Try.prog 21 [.agg (row_T_api_Type x0)] (.tup [.str r.1, .int .i64 r.2]) :=
  CallSpec.at2 b21 (n := 22) (l := [(0, .agg (row_T_api_Type x0))]) (by kernel_rfl) (by kernel_rfl) (by kernel_rfl) (by kernel_rfl) (by kernel_rfl) (Nat.le_of_ble_eq_true (by kernel_rfl)) (fun Γ => we21 x0 r h Γ)

/-! ### slices.Index   string string  -/
noncomputable def b46 : Code := Try.f46.body.getD .skip
noncomputable def c46x0 : Code := sub1 b46
noncomputable def c46x1 : Code := sub0 c46x0
noncomputable def c46x2 : Code := sub1 c46x1
noncomputable def c46x3 : Code := sub0 c46x2
noncomputable def c46x4 : Code := sub0 c46x3
noncomputable def c46x5 : Code := sub1 c46x4
noncomputable def c46x6 : Code := sub1 c46x5
noncomputable def c46x7 : Code := sub0 c46x6
noncomputable def c46x8 : Code := sub0 c46x7
noncomputable def c46x9 : Code := sub1 c46x8
noncomputable def c46x10 : Code := sub1 c46x9
noncomputable def c46x11 : Code := sub0 c46x10
noncomputable def c46x12 : Code := sub1 c46x10
noncomputable def c46x13 : Code := sub1 c46x6
noncomputable def c46x14 : Code := sub0 c46x5
noncomputable def c46x15 : Code := sub0 c46x14
noncomputable def c46x16 : Code := sub1 c46x14
noncomputable def c46x17 : Code := sub1 c46x0
def l46x1 (x0 : List (List UInt8)) (x1 : List UInt8) (t0 : Int) : Option (Ctl (Int) (Unit ⊕ Int)) :=
  if (decide (t0 < (x0.length : Int))) = true then
    ((getR x0 t0).bind fun v1 =>
    if (x1 == v1) = true then
      (some (.done (.inr t0))) else
    ((some (IntKind.wrap .i64 (t0 + (1 : Int)))).bind fun v2 =>
      some (.next v2))) else
  (some (.done (.inl (()))))
def m_slices_Index_string_string (x0 : List (List UInt8)) (x1 : List UInt8) : Option (Int) :=
  (loopM (l46x1 x0 x1) rounds 0).bind fun q1 =>
  match q1 with
  | .inl q0 => (some (-1))
  | .inr y0 => (some y0)
def st46x1 (x0 : List (List UInt8)) (x1 : List UInt8) : Int → S :=
  fun t0 => mkS 19 [(0, .sl false (x0.map rStr)), (1, .str x1), (7, .int .i64 (x0.length : Int)), (8, .int .i64 t0)] []
noncomputable def J46x1  : (Unit ⊕ Int) → Exit → S → Prop :=
  JSum (JExit 0 (fun q0 : Unit => mkS 19 [] [])) (JRet Try.prog Try.f46 (fun y : Int => .int .i64 y))
theorem wl46x1 (x0 : List (List UInt8)) (x1 : List UInt8) (t0 : Int) (r : Ctl (Int) (Unit ⊕ Int)) (h : (l46x1 x0 x1) t0 = some r) (Γ : Ctx) : At Try.prog Γ c46x4 [] (Round (st46x1 x0 x1) J46x1 r) ((st46x1 x0 x1) t0) := by
  refine At.adv [] [(2, { told := [], gs := [], keep := some ([0, 1, 7, 8, 9], []) })] 400 (ev := .cond (decide (t0 < (x0.length : Int))) c46x15 c46x16 [.seq c46x6]) (σ' := mkS 19 [(0, .sl false (x0.map rStr)), (1, .str x1), (7, .int .i64 (x0.length : Int)), (8, .int .i64 t0), (9, .bool (decide (t0 < (x0.length : Int))))] []) (q := []) (by kernel_rfl) trivial ?_
  refine EvOk.cond (fun h2 => ?_) (fun h2 => ?_)
  · replace h := iteT h2 h
    refine At.gc [0, 1, 7, 8] [] (n := 19) (l := [(0, .sl false (x0.map rStr)), (1, .str x1), (7, .int .i64 (x0.length : Int)), (8, .int .i64 t0)]) (bl := []) (by kernel_rfl) ?_
    obtain ⟨v1, e1, h⟩ := bindE h
    refine At.adv [] [(3, { told := [], gs := [], keep := some ([0, 1, 5, 7, 8], []) }), (4, { told := [(3, { ans := .row (rStr v1) })], gs := [], keep := some ([0, 1, 5, 7, 8, 16], []) })] 400 (ev := .cond (x1 == v1) c46x11 c46x12 [.blk 1, .seq c46x13]) (σ' := mkS 19 [(0, .sl false (x0.map rStr)), (1, .str x1), (5, .int .i64 t0), (7, .int .i64 (x0.length : Int)), (8, .int .i64 t0), (16, .bool (x1 == v1))] []) (q := [True ∧ (getR (x0.map rStr) t0 = some (rStr v1))]) (by kernel_rfl) ⟨⟨trivial, getR_map rStr e1⟩, trivial⟩ ?_
    refine EvOk.cond (fun h3 => ?_) (fun h3 => ?_)
    · replace h := iteT h3 h
      refine At.gc [5] [] (n := 19) (l := [(5, .int .i64 t0)]) (bl := []) (by kernel_rfl) ?_
      refine At.adv [] [(5, { told := [], gs := [], keep := some ([4], []) })] 400 (ev := .ret) (σ' := mkS 19 [(4, .int .i64 t0)] []) (q := []) (by kernel_rfl) trivial ?_
      refine EvOk.ret ?_
      obtain rfl := someE h
      exact Round.done neRet ⟨rfl, Den.Ends.mk (.inl rfl) (d := .int .i64 t0) (p := (True ∧ True) ∧ (True ∧ True)) (by kernel_rfl) ⟨⟨trivial, trivial⟩, ⟨trivial, trivial⟩⟩ (by kernel_rfl)⟩
    · replace h := iteF h3 h
      refine At.gc [0, 1, 7, 8] [] (n := 19) (l := [(0, .sl false (x0.map rStr)), (1, .str x1), (7, .int .i64 (x0.length : Int)), (8, .int .i64 t0)]) (bl := []) (by kernel_rfl) ?_
      obtain ⟨v2, e2, h⟩ := bindE h
      refine At.adv [] [(6, { told := [(0, { ans := .val (.int .i64 v2) })], gs := [], keep := some ([0, 1, 7, 8], []) })] 400 (ev := .normal) (σ' := mkS 19 [(0, .sl false (x0.map rStr)), (1, .str x1), (7, .int .i64 (x0.length : Int)), (8, .int .i64 v2)] []) (q := [True ∧ (IntKind.wrap .i64 (t0 + (1 : Int)) = v2)]) (by kernel_rfl) ⟨⟨trivial, someE e2⟩, trivial⟩ ?_
      refine EvOk.normal ?_
      obtain rfl := someE h
      exact Round.next (by kernel_rfl)
  · replace h := iteF h2 h
    refine At.gc [] [] (n := 19) (l := []) (bl := []) (by kernel_rfl) ?_
    refine At.adv [] [] 400 (ev := .exit 0) (σ' := mkS 19 [] []) (q := []) (by kernel_rfl) trivial ?_
    refine EvOk.exit ?_
    obtain rfl := someE h
    exact Round.done (neExit _) ⟨rfl, by kernel_rfl⟩
theorem we46 (x0 : List (List UInt8)) (x1 : List UInt8) (r : Int) (h : m_slices_Index_string_string x0 x1 = some r) (Γ : Ctx) : At Try.prog Γ b46 [] (Den.Ends Try.prog Try.f46 (.int .i64 r)) (mkS 19 [(0, .sl false (x0.map rStr)), (1, .str x1)] []) := by
  refine At.adv [] [(0, { told := [], gs := [], keep := some ([0, 1], []) }), (1, { told := [(1, { ans := .val (.int .i64 (x0.length : Int)) })], gs := [], keep := some ([0, 1, 7, 8], []) })] 400 (ev := .loop c46x4 [.blk 0, .seq c46x17]) (σ' := mkS 19 [(0, .sl false (x0.map rStr)), (1, .str x1), (7, .int .i64 (x0.length : Int)), (8, .int .i64 0)] []) (q := [True ∧ (((x0.map rStr).length : Int) = (x0.length : Int))]) (by kernel_rfl) ⟨⟨trivial, lenM _ _⟩, trivial⟩ ?_
  refine EvOk.loop ?_
  obtain ⟨q1, e3, h⟩ := bindE h
  refine At.loop (l46x1 x0 x1) (st46x1 x0 x1) J46x1 0 e3 (by kernel_rfl) (fun t x hx => (wl46x1 x0 x1) t x hx Γ) ?_
  intro e σ' hJ
  rcases q1 with q0 | y0
  · obtain ⟨rfl, rfl⟩ := hJ
    refine At.exitK (K' := [.seq c46x17]) (by kernel_rfl) ?_
    refine At.advN [] [(7, { told := [], gs := [], keep := some ([4], []) })] 400 (ev := .ret) (σ' := mkS 19 [(4, .int .i64 (-1))] []) (q := []) (by kernel_rfl) trivial ?_
    refine EvOk.ret ?_
    obtain rfl := someE h
    exact Den.Ends.mk (.inl rfl) (d := .int .i64 (-1)) (p := (True ∧ True) ∧ (True ∧ True)) (by kernel_rfl) ⟨⟨trivial, trivial⟩, ⟨trivial, trivial⟩⟩ (by kernel_rfl)
  · obtain rfl := someE h
    obtain ⟨rfl, hE⟩ := hJ
    exact At.retK hE
theorem w46 {x0 : List (List UInt8)} {x1 : List UInt8} {r : Int} (h : m_slices_Index_string_string x0 x1 = some r) : CallSpec Try.prog 46 [.sl false (x0.map rStr), .str x1] (.int .i64 r) :=
  CallSpec.at2 b46 (n := 19) (l := [(0, .sl false (x0.map rStr)), (1, .str x1)]) (by kernel_rfl) (by kernel_rfl) (by kernel_rfl) (by kernel_rfl) (by kernel_rfl) (Nat.le_of_ble_eq_true (by kernel_rfl)) (fun Γ => we46 x0 x1 r h Γ)

/-! ### slices.Contains   string string  -/
noncomputable def b41 : Code := Try.f41.body.getD .skip
def m_slices_Contains_string_string (x0 : List (List UInt8)) (x1 : List UInt8) : Option (Bool) :=
  (m_slices_Index_string_string x0 x1).bind fun v0 =>
  some (decide (v0 ≥ 0))
theorem we41 (x0 : List (List UInt8)) (x1 : List UInt8) (r : Bool) (h : m_slices_Contains_string_string x0 x1 = some r) (Γ : Ctx) : At Try.prog Γ b41 [] (Den.Ends Try.prog Try.f41 (.bool r)) (mkS 9 [(0, .sl false (x0.map rStr)), (1, .str x1)] []) := by
  obtain ⟨v0, e0, h⟩ := bindE h
  refine At.adv [] [(0, { told := [], gs := [], keep := some ([0, 1], []) }), (1, { told := [(2, { ans := .val (.int .i64 v0), args := [.sl false (x0.map rStr), .str x1] })], gs := [], keep := some ([4], []) })] 400 (ev := .ret) (σ' := mkS 9 [(4, .bool (decide (v0 ≥ 0)))] []) (q := [True ∧ ((True ∧ (True ∧ True)) ∧ ([.sl false (x0.map rStr), .str x1] : List D) = [.sl false (x0.map rStr), .str x1] ∧ CallAny Try.prog 46 [.sl false (x0.map rStr), .str x1] (.int .i64 v0))]) (by kernel_rfl) ⟨⟨trivial, ⟨⟨trivial, ⟨trivial, trivial⟩⟩, rfl, .inl (w46 e0)⟩⟩, trivial⟩ ?_
  refine EvOk.ret ?_
  obtain rfl := someE h
  exact Den.Ends.mk (.inl rfl) (d := .bool (decide (v0 ≥ 0))) (p := (True ∧ True) ∧ (True ∧ True)) (by kernel_rfl) ⟨⟨trivial, trivial⟩, ⟨trivial, trivial⟩⟩ (by kernel_rfl)
theorem w41 {x0 : List (List UInt8)} {x1 : List UInt8} {r : Bool} (h : m_slices_Contains_string_string x0 x1 = some r) : CallSpec Try.prog 41 [.sl false (x0.map rStr), .str x1] (.bool r) :=
  CallSpec.at2 b41 (n := 9) (l := [(0, .sl false (x0.map rStr)), (1, .str x1)]) (by kernel_rfl) (by kernel_rfl) (by kernel_rfl) (by kernel_rfl) (by kernel_rfl) (Nat.le_of_ble_eq_true (by kernel_rfl)) (fun Γ => we41 x0 x1 r h Γ)

/-! ### armature desc.ClassNames -/
noncomputable def b23 : Code := Try.f23.body.getD .skip
noncomputable def c23x0 : Code := sub1 b23
noncomputable def c23x1 : Code := sub1 c23x0
noncomputable def c23x2 : Code := sub0 c23x1
noncomputable def c23x3 : Code := sub1 c23x2
noncomputable def c23x4 : Code := sub0 c23x3
noncomputable def c23x5 : Code := sub0 c23x4
noncomputable def c23x6 : Code := sub1 c23x5
noncomputable def c23x7 : Code := sub1 c23x6
noncomputable def c23x8 : Code := sub0 c23x7
noncomputable def c23x9 : Code := sub0 c23x8
noncomputable def c23x10 : Code := sub1 c23x9
noncomputable def c23x11 : Code := sub1 c23x10
noncomputable def c23x12 : Code := sub0 c23x11
noncomputable def c23x13 : Code := sub1 c23x7
noncomputable def c23x14 : Code := sub1 c23x11
noncomputable def c23x15 : Code := sub0 c23x6
noncomputable def c23x16 : Code := sub0 c23x15
noncomputable def c23x17 : Code := sub1 c23x15
noncomputable def c23x18 : Code := sub1 c23x1
def j23x1 (t0 : Int × (List (List UInt8))) (v3 : T_api_Type) : Option (Ctl (Int × (List (List UInt8))) (((List (List UInt8))))) :=
  (growK 16 (t0.2 ++ [v3.f_Name]).length).bind fun v7 =>
  (some (IntKind.wrap .i64 (t0.1 + (1 : Int)))).bind fun v8 =>
  some (.next (v8, (t0.2 ++ [v3.f_Name])))
def l23x1 (x0 : List T_api_Type) (t0 : Int × (List (List UInt8))) : Option (Ctl (Int × (List (List UInt8))) (((List (List UInt8))))) :=
  if (decide (t0.1 < (x0.length : Int))) = true then
    ((getR x0 t0.1).bind fun v3 =>
    if (v3.f_Base == 76) = true then ((m_slices_Contains_string_string t0.2 v3.f_Name).bind fun v4 =>
    if (!v4) = true then
      ((j23x1 t0 v3) ) else
    ((some (IntKind.wrap .i64 (t0.1 + (1 : Int)))).bind fun v5 =>
      some (.next (v5, t0.2)))) else
    ((some (IntKind.wrap .i64 (t0.1 + (1 : Int)))).bind fun v6 =>
      some (.next (v6, t0.2)))) else
  (some (.done (t0.2)))
def m_desc_ClassNames (x0 : List T_api_Type) : Option ((List (List UInt8))) :=
  (loopM (l23x1 x0) rounds (0, ([] : List (List UInt8)))).bind fun q0 =>
  some q0
def st23x1 (x0 : List T_api_Type) : (Int × (List (List UInt8))) → S :=
  fun t0 => mkS 30 [(3, .lsl 3 0 ((t0.2.map rStr).length)), (7, .sl false (x0.map row_T_api_Type)), (8, .int .i64 (x0.length : Int)), (9, .int .i64 t0.1)] [(3, { sz := 1, rows := (t0.2.map rStr), frz := 0, pure := true })]
noncomputable def J23x1  : (((List (List UInt8)))) → Exit → S → Prop :=
  JExit 0 (fun q0 : (List (List UInt8)) => mkS 30 [(3, .lsl 3 0 ((q0.map rStr).length))] [(3, { sz := 1, rows := (q0.map rStr), frz := 0, pure := true })])
theorem wj23x1 (t0 : Int × (List (List UInt8))) (v3 : T_api_Type) (x0 : List T_api_Type) (r : Ctl (Int × (List (List UInt8))) (((List (List UInt8))))) (h : (j23x1 t0 v3)  = some r) (Γ : Ctx) : EvOk Try.prog Γ (Round (st23x1 x0) J23x1 r) (mkS 30 [(3, .lsl 3 0 ((t0.2.map rStr).length)), (5, .lptr 5 0 0), (7, .sl false (x0.map row_T_api_Type)), (8, .int .i64 (x0.length : Int)), (9, .int .i64 t0.1)] [(3, { sz := 1, rows := (t0.2.map rStr), frz := 0, pure := true }), (5, { sz := 3, rows := [[.int .i64 v3.f_Dim, .int .u8 v3.f_Base, .str v3.f_Name]], frz := 0, pure := false })]) (.stop c23x12 [.blk 1, .seq c23x13]) := by
  refine EvOk.stop ?_
  obtain ⟨v7, e7, h⟩ := bindE h
  obtain ⟨v8, e8, h⟩ := bindE h
  refine At.adv [] [(6, { told := [(4, { rows := some ((t0.2 ++ [v3.f_Name]).map rStr) })], gs := [], keep := some ([3, 7, 8, 9], [(3, 3)]) }), (7, { told := [(0, { ans := .val (.int .i64 v8) })], gs := [], keep := some ([3, 7, 8, 9], [(3, 3)]) })] 400 (ev := .normal) (σ' := mkS 30 [(3, .lsl 3 0 (((t0.2 ++ [v3.f_Name]).map rStr).length)), (7, .sl false (x0.map row_T_api_Type)), (8, .int .i64 (x0.length : Int)), (9, .int .i64 v8)] [(3, { sz := 1, rows := ((t0.2 ++ [v3.f_Name]).map rStr), frz := 0, pure := true })]) (q := [True ∧ (True ∧ True), True ∧ ((0 + ([v3.f_Name].map rStr).length ≤ ([v3.f_Name].map rStr).length) ∧ (t0.2.map rStr).length = (t0.2.map rStr).length ∧ (∀ r ∈ ((([v3.f_Name].map rStr).drop 0).take ([v3.f_Name].map rStr).length), r.length = 1) ∧ (t0.2.map rStr) ++ ((([v3.f_Name].map rStr).drop 0).take ([v3.f_Name].map rStr).length) = ((t0.2 ++ [v3.f_Name]).map rStr) ∧ ((t0.2 ++ [v3.f_Name]).map rStr).length ≤ 9223372036854775807 ∧ ((t0.2 ++ [v3.f_Name]).map rStr).length * 16 ≤ 140737488355328), True ∧ (IntKind.wrap .i64 (t0.1 + (1 : Int)) = v8)]) (by kernel_rfl) ⟨⟨trivial, ⟨trivial, trivial⟩⟩, ⟨trivial, ⟨roomAll _, rfl, by rw [takeAll]; exact szM (f := rStr) (n := 1) (fun _ => rfl) _, by rw [takeAll]; exact appM rStr _ _, (growK_spec e7 (lenMN _ _)).1, (growK_spec e7 (lenMN _ _)).2⟩⟩, ⟨trivial, someE e8⟩, trivial⟩ ?_
  refine EvOk.normal ?_
  obtain rfl := someE h
  exact Round.next (by kernel_rfl)
theorem wl23x1 (x0 : List T_api_Type) (t0 : Int × (List (List UInt8))) (r : Ctl (Int × (List (List UInt8))) (((List (List UInt8))))) (h : (l23x1 x0) t0 = some r) (Γ : Ctx) : At Try.prog Γ c23x5 [] (Round (st23x1 x0) J23x1 r) ((st23x1 x0) t0) := by
  refine At.adv [] [(3, { told := [], gs := [], keep := some ([3, 7, 8, 9, 10], [(3, 3)]) })] 400 (ev := .cond (decide (t0.1 < (x0.length : Int))) c23x16 c23x17 [.seq c23x7]) (σ' := mkS 30 [(3, .lsl 3 0 ((t0.2.map rStr).length)), (7, .sl false (x0.map row_T_api_Type)), (8, .int .i64 (x0.length : Int)), (9, .int .i64 t0.1), (10, .bool (decide (t0.1 < (x0.length : Int))))] [(3, { sz := 1, rows := (t0.2.map rStr), frz := 0, pure := true })]) (q := []) (by kernel_rfl) trivial ?_
  refine EvOk.cond (fun h3 => ?_) (fun h3 => ?_)
  · replace h := iteT h3 h
    refine At.gc [3, 7, 8, 9] [(3, 3)] (n := 30) (l := [(3, .lsl 3 0 ((t0.2.map rStr).length)), (7, .sl false (x0.map row_T_api_Type)), (8, .int .i64 (x0.length : Int)), (9, .int .i64 t0.1)]) (bl := [(3, { sz := 1, rows := (t0.2.map rStr), frz := 0, pure := true })]) (by kernel_rfl) ?_
    obtain ⟨v3, e3, h⟩ := bindE h
    rcases Bool.eq_false_or_eq_true (v3.f_Base == 76) with h4 | h4
    · replace h := iteT h4 h
      obtain ⟨v4, e4, h⟩ := bindE h
      refine At.adv [] [(4, { told := [(0, { ans := .row (row_T_api_Type v3) })], gs := [], keep := some ([3, 5, 7, 8, 9], [(3, 3), (5, 5)]) }), (5, { told := [(7, { ans := .val (.bool v4), args := [.sl false (t0.2.map rStr), .str v3.f_Name] }), (9, { ans := .yes })], gs := [(4, true), (5, true), (6, true), (7, true), (8, true)], keep := some ([3, 5, 7, 8, 9, 22], [(3, 3), (5, 5)]) })] 400 (ev := .cond (!v4) c23x12 c23x14 [.blk 1, .seq c23x13]) (σ' := mkS 30 [(3, .lsl 3 0 ((t0.2.map rStr).length)), (5, .lptr 5 0 0), (7, .sl false (x0.map row_T_api_Type)), (8, .int .i64 (x0.length : Int)), (9, .int .i64 t0.1), (22, .bool (!v4))] [(3, { sz := 1, rows := (t0.2.map rStr), frz := 0, pure := true }), (5, { sz := 3, rows := [[.int .i64 v3.f_Dim, .int .u8 v3.f_Base, .str v3.f_Name]], frz := 0, pure := false })]) (q := [True ∧ (getR (x0.map row_T_api_Type) t0.1 = some (row_T_api_Type v3)), True ∧ (0 ≤ 0 ∧ 0 + ([.int .i64 v3.f_Dim, .int .u8 v3.f_Base, .str v3.f_Name] : List D).length ≤ ([.int .i64 0, .int .u8 0, .str []] : List D).length ∧ ([[.int .i64 v3.f_Dim, .int .u8 v3.f_Base, .str v3.f_Name]] : List (List D)) = ([[.int .i64 v3.f_Dim, .int .u8 v3.f_Base, .str v3.f_Name]] : List (List D))), ((v3.f_Base == 76) == true) = true ∧ True, ((v3.f_Base == 76) == true) = true ∧ True, ((v3.f_Base == 76) == true) = true ∧ True, ((v3.f_Base == 76) == true) = true ∧ (((0 + (t0.2.map rStr).length ≤ (t0.2.map rStr).length) ∧ (True ∧ True)) ∧ ([.sl false (((t0.2.map rStr).drop 0).take (t0.2.map rStr).length), .str v3.f_Name] : List D) = [.sl false (t0.2.map rStr), .str v3.f_Name] ∧ CallAny Try.prog 41 [.sl false (t0.2.map rStr), .str v3.f_Name] (.bool v4)), ((v3.f_Base == 76) == true) = true ∧ True, True ∧ ((v3.f_Base == 76) = true)]) (by kernel_rfl) ⟨⟨trivial, getR_map row_T_api_Type e3⟩, ⟨trivial, ⟨Nat.zero_le _, Nat.le_of_ble_eq_true rfl, rfl⟩⟩, ⟨(gB h4 rfl), trivial⟩, ⟨(gB h4 rfl), trivial⟩, ⟨(gB h4 rfl), trivial⟩, ⟨(gB h4 rfl), ⟨⟨roomAll _, ⟨trivial, trivial⟩⟩, by simp only [takeAll] <;> kernel_rfl, .inl (w41 e4)⟩⟩, ⟨(gB h4 rfl), trivial⟩, ⟨trivial, h4⟩, trivial⟩ ?_
      refine EvOk.cond (fun h5 => ?_) (fun h5 => ?_)
      · replace h := iteT h5 h
        refine At.gc [3, 5, 7, 8, 9] [(3, 3), (5, 5)] (n := 30) (l := [(3, .lsl 3 0 ((t0.2.map rStr).length)), (5, .lptr 5 0 0), (7, .sl false (x0.map row_T_api_Type)), (8, .int .i64 (x0.length : Int)), (9, .int .i64 t0.1)]) (bl := [(3, { sz := 1, rows := (t0.2.map rStr), frz := 0, pure := true }), (5, { sz := 3, rows := [[.int .i64 v3.f_Dim, .int .u8 v3.f_Base, .str v3.f_Name]], frz := 0, pure := false })]) (by kernel_rfl) ?_
        refine At.adv [6] [] 400 (ev := .stop c23x12 [.blk 1, .seq c23x13]) (σ' := mkS 30 [(3, .lsl 3 0 ((t0.2.map rStr).length)), (5, .lptr 5 0 0), (7, .sl false (x0.map row_T_api_Type)), (8, .int .i64 (x0.length : Int)), (9, .int .i64 t0.1)] [(3, { sz := 1, rows := (t0.2.map rStr), frz := 0, pure := true }), (5, { sz := 3, rows := [[.int .i64 v3.f_Dim, .int .u8 v3.f_Base, .str v3.f_Name]], frz := 0, pure := false })]) (q := []) (by kernel_rfl) trivial ?_
        exact (wj23x1 t0 v3 x0)  r h Γ
      · replace h := iteF h5 h
        refine At.gc [3, 7, 8, 9] [(3, 3)] (n := 30) (l := [(3, .lsl 3 0 ((t0.2.map rStr).length)), (7, .sl false (x0.map row_T_api_Type)), (8, .int .i64 (x0.length : Int)), (9, .int .i64 t0.1)]) (bl := [(3, { sz := 1, rows := (t0.2.map rStr), frz := 0, pure := true })]) (by kernel_rfl) ?_
        obtain ⟨v5, e5, h⟩ := bindE h
        refine At.adv [] [(7, { told := [(0, { ans := .val (.int .i64 v5) })], gs := [], keep := some ([3, 7, 8, 9], [(3, 3)]) })] 400 (ev := .normal) (σ' := mkS 30 [(3, .lsl 3 0 ((t0.2.map rStr).length)), (7, .sl false (x0.map row_T_api_Type)), (8, .int .i64 (x0.length : Int)), (9, .int .i64 v5)] [(3, { sz := 1, rows := (t0.2.map rStr), frz := 0, pure := true })]) (q := [True ∧ (IntKind.wrap .i64 (t0.1 + (1 : Int)) = v5)]) (by kernel_rfl) ⟨⟨trivial, someE e5⟩, trivial⟩ ?_
        refine EvOk.normal ?_
        obtain rfl := someE h
        exact Round.next (by kernel_rfl)
    · replace h := iteF h4 h
      refine At.adv [] [(4, { told := [(0, { ans := .row (row_T_api_Type v3) })], gs := [], keep := some ([3, 5, 7, 8, 9], [(3, 3), (5, 5)]) }), (5, { told := [(9, { ans := .no })], gs := [(4, false), (5, false), (6, false), (7, false), (8, false)], keep := some ([3, 5, 7, 8, 9, 22], [(3, 3), (5, 5)]) })] 400 (ev := .cond false c23x12 c23x14 [.blk 1, .seq c23x13]) (σ' := mkS 30 [(3, .lsl 3 0 ((t0.2.map rStr).length)), (5, .lptr 5 0 0), (7, .sl false (x0.map row_T_api_Type)), (8, .int .i64 (x0.length : Int)), (9, .int .i64 t0.1), (22, .bool false)] [(3, { sz := 1, rows := (t0.2.map rStr), frz := 0, pure := true }), (5, { sz := 3, rows := [[.int .i64 v3.f_Dim, .int .u8 v3.f_Base, .str v3.f_Name]], frz := 0, pure := false })]) (q := [True ∧ (getR (x0.map row_T_api_Type) t0.1 = some (row_T_api_Type v3)), True ∧ (0 ≤ 0 ∧ 0 + ([.int .i64 v3.f_Dim, .int .u8 v3.f_Base, .str v3.f_Name] : List D).length ≤ ([.int .i64 0, .int .u8 0, .str []] : List D).length ∧ ([[.int .i64 v3.f_Dim, .int .u8 v3.f_Base, .str v3.f_Name]] : List (List D)) = ([[.int .i64 v3.f_Dim, .int .u8 v3.f_Base, .str v3.f_Name]] : List (List D))), ((v3.f_Base == 76) == true) = false, ((v3.f_Base == 76) == true) = false, ((v3.f_Base == 76) == true) = false, ((v3.f_Base == 76) == true) = false, ((v3.f_Base == 76) == true) = false, True ∧ ((v3.f_Base == 76) = false)]) (by kernel_rfl) ⟨⟨trivial, getR_map row_T_api_Type e3⟩, ⟨trivial, ⟨Nat.zero_le _, Nat.le_of_ble_eq_true rfl, rfl⟩⟩, gB h4 rfl, gB h4 rfl, gB h4 rfl, gB h4 rfl, gB h4 rfl, ⟨trivial, h4⟩, trivial⟩ ?_
      refine EvOk.cond (fun hb => Bool.noConfusion hb) (fun _ => ?_)
      refine At.gc [3, 7, 8, 9] [(3, 3)] (n := 30) (l := [(3, .lsl 3 0 ((t0.2.map rStr).length)), (7, .sl false (x0.map row_T_api_Type)), (8, .int .i64 (x0.length : Int)), (9, .int .i64 t0.1)]) (bl := [(3, { sz := 1, rows := (t0.2.map rStr), frz := 0, pure := true })]) (by kernel_rfl) ?_
      obtain ⟨v6, e6, h⟩ := bindE h
      refine At.adv [] [(7, { told := [(0, { ans := .val (.int .i64 v6) })], gs := [], keep := some ([3, 7, 8, 9], [(3, 3)]) })] 400 (ev := .normal) (σ' := mkS 30 [(3, .lsl 3 0 ((t0.2.map rStr).length)), (7, .sl false (x0.map row_T_api_Type)), (8, .int .i64 (x0.length : Int)), (9, .int .i64 v6)] [(3, { sz := 1, rows := (t0.2.map rStr), frz := 0, pure := true })]) (q := [True ∧ (IntKind.wrap .i64 (t0.1 + (1 : Int)) = v6)]) (by kernel_rfl) ⟨⟨trivial, someE e6⟩, trivial⟩ ?_
      refine EvOk.normal ?_
      obtain rfl := someE h
      exact Round.next (by kernel_rfl)
  · replace h := iteF h3 h
    refine At.gc [3] [(3, 3)] (n := 30) (l := [(3, .lsl 3 0 ((t0.2.map rStr).length))]) (bl := [(3, { sz := 1, rows := (t0.2.map rStr), frz := 0, pure := true })]) (by kernel_rfl) ?_
    refine At.adv [] [] 400 (ev := .exit 0) (σ' := mkS 30 [(3, .lsl 3 0 ((t0.2.map rStr).length))] [(3, { sz := 1, rows := (t0.2.map rStr), frz := 0, pure := true })]) (q := []) (by kernel_rfl) trivial ?_
    refine EvOk.exit ?_
    obtain rfl := someE h
    exact Round.done (neExit _) ⟨rfl, by kernel_rfl⟩
theorem we23 (x0 : List T_api_Type) (r : (List (List UInt8))) (h : m_desc_ClassNames x0 = some r) (Γ : Ctx) : At Try.prog Γ b23 [] (Den.Ends Try.prog Try.f23 (.sl false (r.map rStr))) (mkS 30 [(0, .sl false (x0.map row_T_api_Type))] []) := by
  refine At.adv [] [(0, { told := [], gs := [], keep := some ([0], []) }), (1, { told := [], gs := [], keep := some ([0, 3], [(6, 6)]) }), (2, { told := [(1, { ans := .val (.int .i64 (x0.length : Int)) })], gs := [], keep := some ([3, 7, 8, 9], [(6, 3)]) })] 400 (ev := .loop c23x5 [.blk 0, .seq c23x18]) (σ' := mkS 30 [(3, .lsl 3 0 ((([] : List (List UInt8)).map rStr).length)), (7, .sl false (x0.map row_T_api_Type)), (8, .int .i64 (x0.length : Int)), (9, .int .i64 0)] [(3, { sz := 1, rows := (([] : List (List UInt8)).map rStr), frz := 0, pure := true })]) (q := [True ∧ True, True ∧ (((x0.map row_T_api_Type).length : Int) = (x0.length : Int))]) (by kernel_rfl) ⟨⟨trivial, trivial⟩, ⟨trivial, lenM _ _⟩, trivial⟩ ?_
  refine EvOk.loop ?_
  obtain ⟨q0, e9, h⟩ := bindE h
  refine At.loop (l23x1 x0) (st23x1 x0) J23x1 (0, ([] : List (List UInt8))) e9 (by kernel_rfl) (fun t x hx => (wl23x1 x0) t x hx Γ) ?_
  intro e σ' hJ
  obtain ⟨rfl, rfl⟩ := hJ
  refine At.exitK (K' := [.seq c23x18]) (by kernel_rfl) ?_
  refine At.advN [] [(8, { told := [], gs := [], keep := some ([2], [(3, 3)]) })] 400 (ev := .ret) (σ' := mkS 30 [(2, .lsl 3 0 ((q0.map rStr).length))] [(3, { sz := 1, rows := (q0.map rStr), frz := 0, pure := true })]) (q := []) (by kernel_rfl) trivial ?_
  refine EvOk.ret ?_
  obtain rfl := someE h
  exact Den.Ends.mk (.inl rfl) (d := .sl false (((q0.map rStr).drop 0).take (q0.map rStr).length)) (p := (True ∧ True) ∧ ((0 + (q0.map rStr).length ≤ (q0.map rStr).length) ∧ True)) (by kernel_rfl) ⟨⟨trivial, trivial⟩, ⟨roomAll _, trivial⟩⟩ (by simp only [takeAll] <;> kernel_rfl)
theorem w23 {x0 : List T_api_Type} {r : (List (List UInt8))} (h : m_desc_ClassNames x0 = some r) : CallSpec Try.prog 23 [.sl false (x0.map row_T_api_Type)] (.sl false (r.map rStr)) :=
  CallSpec.at2 b23 (n := 30) (l := [(0, .sl false (x0.map row_T_api_Type))]) (by kernel_rfl) (by kernel_rfl) (by kernel_rfl) (by kernel_rfl) (by kernel_rfl) (Nat.le_of_ble_eq_true (by kernel_rfl)) (fun Γ => we23 x0 r h Γ)

/-! ### armature armatureref04.ClassNames -/
noncomputable def b24 : Code := Try.f24.body.getD .skip
noncomputable def c24x0 : Code := sub1 b24
noncomputable def c24x1 : Code := sub1 c24x0
noncomputable def c24x2 : Code := sub0 c24x1
noncomputable def c24x3 : Code := sub1 c24x2
noncomputable def c24x4 : Code := sub0 c24x3
noncomputable def c24x5 : Code := sub0 c24x4
noncomputable def c24x6 : Code := sub1 c24x5
noncomputable def c24x7 : Code := sub0 c24x6
noncomputable def c24x8 : Code := sub0 c24x7
noncomputable def c24x9 : Code := sub1 c24x8
noncomputable def c24x10 : Code := sub0 c24x9
noncomputable def c24x11 : Code := sub1 c24x10
noncomputable def c24x12 : Code := sub0 c24x11
noncomputable def c24x13 : Code := sub0 c24x12
noncomputable def c24x14 : Code := sub0 c24x13
noncomputable def c24x15 : Code := sub1 c24x14
noncomputable def c24x16 : Code := sub0 c24x15
noncomputable def c24x17 : Code := sub1 c24x15
noncomputable def c24x18 : Code := sub1 c24x13
noncomputable def c24x19 : Code := sub1 c24x9
noncomputable def c24x20 : Code := sub1 c24x19
noncomputable def c24x21 : Code := sub0 c24x20
noncomputable def c24x22 : Code := sub1 c24x6
noncomputable def c24x23 : Code := sub1 c24x20
noncomputable def c24x24 : Code := sub0 c24x5
noncomputable def c24x25 : Code := sub1 c24x24
noncomputable def c24x26 : Code := sub0 c24x25
noncomputable def c24x27 : Code := sub1 c24x25
noncomputable def c24x28 : Code := sub1 c24x1
def l24x2 (t0 : Int × (List (List UInt8))) (x0 : List T_api_Type) (t3 : Bool × Int) : Option (Ctl (Bool × Int) (Bool)) :=
  if (decide (t3.2 < (t0.2.length : Int))) = true then
    (if t3.1 = true then ((some (IntKind.wrap .i64 (t3.2 + (1 : Int)))).bind fun v23 =>
    some (.next (true, v23))) else
    ((idxK t3.2 t0.2.length).bind fun v24 =>
    (t0.2[v24]?).bind fun v25 =>
    (getR x0 t0.1).bind fun v26 =>
    (some (IntKind.wrap .i64 (t3.2 + (1 : Int)))).bind fun v27 =>
    some (.next ((v25 == v26.f_Name), v27)))) else
  (some (.done (t3.1)))
def j24x1 (t0 : Int × (List (List UInt8))) (x0 : List T_api_Type) : Option (Ctl (Int × (List (List UInt8))) (((List (List UInt8))))) :=
  (getR x0 t0.1).bind fun v31 =>
  (growK 16 (t0.2 ++ [v31.f_Name]).length).bind fun v32 =>
  (some (IntKind.wrap .i64 (t0.1 + (1 : Int)))).bind fun v33 =>
  some (.next (v33, (t0.2 ++ [v31.f_Name])))
def l24x1 (x0 : List T_api_Type) (t0 : Int × (List (List UInt8))) : Option (Ctl (Int × (List (List UInt8))) (((List (List UInt8))))) :=
  if (decide (t0.1 < (x0.length : Int))) = true then
    ((loopM (l24x2 t0 x0) rounds (false, 0)).bind fun q4 =>
    (getR x0 t0.1).bind fun v28 =>
    if (v28.f_Base == 76) = true then (if (!q4) = true then
      ((j24x1 t0 x0) ) else
    ((some (IntKind.wrap .i64 (t0.1 + (1 : Int)))).bind fun v29 =>
      some (.next (v29, t0.2)))) else
    ((some (IntKind.wrap .i64 (t0.1 + (1 : Int)))).bind fun v30 =>
      some (.next (v30, t0.2)))) else
  (some (.done (t0.2)))
def m_armatureref04_ClassNames (x0 : List T_api_Type) : Option ((List (List UInt8))) :=
  (loopM (l24x1 x0) rounds (0, ([] : List (List UInt8)))).bind fun q6 =>
  some q6
def st24x1 (x0 : List T_api_Type) : (Int × (List (List UInt8))) → S :=
  fun t0 => mkS 51 [(0, .sl false (x0.map row_T_api_Type)), (3, .lsl 3 0 ((t0.2.map rStr).length)), (4, .int .i64 t0.1)] [(3, { sz := 1, rows := (t0.2.map rStr), frz := 0, pure := true })]
noncomputable def J24x1  : (((List (List UInt8)))) → Exit → S → Prop :=
  JExit 0 (fun q6 : (List (List UInt8)) => mkS 51 [(3, .lsl 3 0 ((q6.map rStr).length))] [(3, { sz := 1, rows := (q6.map rStr), frz := 0, pure := true })])
def st24x2 (t0 : Int × (List (List UInt8))) (x0 : List T_api_Type) : (Bool × Int) → S :=
  fun t3 => mkS 51 [(0, .sl false (x0.map row_T_api_Type)), (3, .lsl 3 0 ((t0.2.map rStr).length)), (4, .int .i64 t0.1), (5, .bool t3.1), (6, .int .i64 t3.2)] [(3, { sz := 1, rows := (t0.2.map rStr), frz := 0, pure := true })]
noncomputable def J24x2 (t0 : Int × (List (List UInt8))) (x0 : List T_api_Type) : Bool → Exit → S → Prop :=
  JExit 2 (fun q4 : Bool => mkS 51 [(0, .sl false (x0.map row_T_api_Type)), (3, .lsl 3 0 ((t0.2.map rStr).length)), (4, .int .i64 t0.1), (5, .bool q4)] [(3, { sz := 1, rows := (t0.2.map rStr), frz := 0, pure := true })])
theorem wl24x2 (t0 : Int × (List (List UInt8))) (x0 : List T_api_Type) (t3 : Bool × Int) (r : Ctl (Bool × Int) (Bool)) (h : (l24x2 t0 x0) t3 = some r) (Γ : Ctx) : At Try.prog Γ c24x13 [] (Round (st24x2 t0 x0) (J24x2 t0 x0) r) ((st24x2 t0 x0) t3) := by
  refine At.adv [] [(7, { told := [(2, { ans := .val (.int .i64 (t0.2.length : Int)) })], gs := [], keep := some ([0, 3, 4, 5, 6, 16], [(3, 3)]) })] 400 (ev := .cond (decide (t3.2 < (t0.2.length : Int))) c24x16 c24x17 [.seq c24x18]) (σ' := mkS 51 [(0, .sl false (x0.map row_T_api_Type)), (3, .lsl 3 0 ((t0.2.map rStr).length)), (4, .int .i64 t0.1), (5, .bool t3.1), (6, .int .i64 t3.2), (16, .bool (decide (t3.2 < (t0.2.length : Int))))] [(3, { sz := 1, rows := (t0.2.map rStr), frz := 0, pure := true })]) (q := [True ∧ ((((t0.2.map rStr).length : Nat) : Int) = (t0.2.length : Int))]) (by kernel_rfl) ⟨⟨trivial, lenM _ _⟩, trivial⟩ ?_
  refine EvOk.cond (fun h14 => ?_) (fun h14 => ?_)
  · replace h := iteT h14 h
    refine At.gc [0, 3, 4, 5, 6] [(3, 3)] (n := 51) (l := [(0, .sl false (x0.map row_T_api_Type)), (3, .lsl 3 0 ((t0.2.map rStr).length)), (4, .int .i64 t0.1), (5, .bool t3.1), (6, .int .i64 t3.2)]) (bl := [(3, { sz := 1, rows := (t0.2.map rStr), frz := 0, pure := true })]) (by kernel_rfl) ?_
    rcases Bool.eq_false_or_eq_true t3.1 with h15 | h15
    · replace h := iteT h15 h
      obtain ⟨v23, e25, h⟩ := bindE h
      refine At.adv [] [(9, { told := [(12, { ans := .yes })], gs := [(2, false), (3, false), (4, false), (5, false), (6, false), (7, false), (8, false), (9, false), (10, false), (11, false)], keep := some ([0, 3, 4, 5, 6], [(3, 3)]), ord := some ([0, 1, 2, 3, 4, 5, 6, 7, 8, 9, 10, 11, 12, 13], [], [(1, [0]), (2, [0, 1]), (3, [0, 1]), (4, [0, 1, 2, 3]), (5, [0, 1, 2, 3, 4]), (6, [0, 1]), (7, [0, 1]), (8, [0, 1, 6, 7]), (9, [0, 1, 6, 7, 8]), (10, [0, 1, 6, 7, 8, 9]), (11, [0, 1, 2, 3, 4, 5, 6, 7, 8, 9, 10]), (12, [0, 1, 2, 3, 4, 5, 6, 7, 8, 9, 10, 11]), (13, [0, 1, 2, 3, 4, 5, 6, 7, 8, 9, 10, 11, 12])]) }), (8, { told := [(1, { ans := .val (.int .i64 v23) })], gs := [], keep := some ([0, 3, 4, 5, 6], [(3, 3)]) })] 400 (ev := .normal) (σ' := mkS 51 [(0, .sl false (x0.map row_T_api_Type)), (3, .lsl 3 0 ((t0.2.map rStr).length)), (4, .int .i64 t0.1), (5, .bool true), (6, .int .i64 v23)] [(3, { sz := 1, rows := (t0.2.map rStr), frz := 0, pure := true })]) (q := [(t3.1 == false) = false, (t3.1 == false) = false, (t3.1 == false) = false, (t3.1 == false) = false, (t3.1 == false) = false, (t3.1 == false) = false, (t3.1 == false) = false, (t3.1 == false) = false, (t3.1 == false) = false, (t3.1 == false) = false, True ∧ (t3.1 = true), True ∧ (IntKind.wrap .i64 (t3.2 + (1 : Int)) = v23)]) (by kernel_rfl) ⟨gB h15 rfl, gB h15 rfl, gB h15 rfl, gB h15 rfl, gB h15 rfl, gB h15 rfl, gB h15 rfl, gB h15 rfl, gB h15 rfl, gB h15 rfl, ⟨trivial, h15⟩, ⟨trivial, someE e25⟩, trivial⟩ ?_
      refine EvOk.normal ?_
      obtain rfl := someE h
      exact Round.next (by kernel_rfl)
    · replace h := iteF h15 h
      obtain ⟨v24, e26, h⟩ := bindE h
      obtain ⟨v25, e27, h⟩ := bindE h
      obtain ⟨v26, e28, h⟩ := bindE h
      obtain ⟨v27, e29, h⟩ := bindE h
      refine At.adv [] [(9, { told := [(4, { ans := .val (.lptr 3 v24 0) }), (5, { ans := .row (rStr v25) }), (8, { ans := .row (row_T_api_Type v26) }), (12, { ans := .no })], gs := [(2, true), (3, true), (4, true), (5, true), (6, true), (7, true), (8, true), (9, true), (10, true), (11, true)], keep := some ([0, 3, 4, 5, 6], [(3, 3)]), ord := some ([0, 1, 2, 3, 4, 5, 6, 7, 8, 9, 10, 11, 12, 13], [], [(1, [0]), (2, [0, 1]), (3, [0, 1]), (4, [0, 1, 2, 3]), (5, [0, 1, 2, 3, 4]), (6, [0, 1]), (7, [0, 1]), (8, [0, 1, 6, 7]), (9, [0, 1, 6, 7, 8]), (10, [0, 1, 6, 7, 8, 9]), (11, [0, 1, 2, 3, 4, 5, 6, 7, 8, 9, 10]), (12, [0, 1, 2, 3, 4, 5, 6, 7, 8, 9, 10, 11]), (13, [0, 1, 2, 3, 4, 5, 6, 7, 8, 9, 10, 11, 12])]) }), (8, { told := [(1, { ans := .val (.int .i64 v27) })], gs := [], keep := some ([0, 3, 4, 5, 6], [(3, 3)]) })] 400 (ev := .normal) (σ' := mkS 51 [(0, .sl false (x0.map row_T_api_Type)), (3, .lsl 3 0 ((t0.2.map rStr).length)), (4, .int .i64 t0.1), (5, .bool (v25 == v26.f_Name)), (6, .int .i64 v27)] [(3, { sz := 1, rows := (t0.2.map rStr), frz := 0, pure := true })]) (q := [(t3.1 == false) = true ∧ True, (t3.1 == false) = true ∧ True, (t3.1 == false) = true ∧ (0 ≤ t3.2 ∧ t3.2 < (((t0.2.map rStr).length : Nat) : Int) ∧ ((0 : Nat) : Int) + t3.2 = (v24 : Nat)), (t3.1 == false) = true ∧ ((t0.2.map rStr)[v24]? = some (rStr v25)), (t3.1 == false) = true ∧ True, (t3.1 == false) = true ∧ True, (t3.1 == false) = true ∧ (getR (x0.map row_T_api_Type) t0.1 = some (row_T_api_Type v26)), (t3.1 == false) = true ∧ True, (t3.1 == false) = true ∧ True, (t3.1 == false) = true ∧ True, True ∧ (t3.1 = false), True ∧ (IntKind.wrap .i64 (t3.2 + (1 : Int)) = v27)]) (by kernel_rfl) ⟨⟨(gB h15 rfl), trivial⟩, ⟨(gB h15 rfl), trivial⟩, ⟨(gB h15 rfl), idxK_spec e26 (lenMN _ _)⟩, ⟨(gB h15 rfl), getM rStr e27⟩, ⟨(gB h15 rfl), trivial⟩, ⟨(gB h15 rfl), trivial⟩, ⟨(gB h15 rfl), getR_map row_T_api_Type e28⟩, ⟨(gB h15 rfl), trivial⟩, ⟨(gB h15 rfl), trivial⟩, ⟨(gB h15 rfl), trivial⟩, ⟨trivial, h15⟩, ⟨trivial, someE e29⟩, trivial⟩ ?_
      refine EvOk.normal ?_
      obtain rfl := someE h
      exact Round.next (by kernel_rfl)
  · replace h := iteF h14 h
    refine At.gc [0, 3, 4, 5] [(3, 3)] (n := 51) (l := [(0, .sl false (x0.map row_T_api_Type)), (3, .lsl 3 0 ((t0.2.map rStr).length)), (4, .int .i64 t0.1), (5, .bool t3.1)]) (bl := [(3, { sz := 1, rows := (t0.2.map rStr), frz := 0, pure := true })]) (by kernel_rfl) ?_
    refine At.adv [] [] 400 (ev := .exit 2) (σ' := mkS 51 [(0, .sl false (x0.map row_T_api_Type)), (3, .lsl 3 0 ((t0.2.map rStr).length)), (4, .int .i64 t0.1), (5, .bool t3.1)] [(3, { sz := 1, rows := (t0.2.map rStr), frz := 0, pure := true })]) (q := []) (by kernel_rfl) trivial ?_
    refine EvOk.exit ?_
    obtain rfl := someE h
    exact Round.done (neExit _) ⟨rfl, by kernel_rfl⟩
theorem wj24x1 (t0 : Int × (List (List UInt8))) (x0 : List T_api_Type) (r : Ctl (Int × (List (List UInt8))) (((List (List UInt8))))) (h : (j24x1 t0 x0)  = some r) (Γ : Ctx) : EvOk Try.prog Γ (Round (st24x1 x0) J24x1 r) (mkS 51 [(0, .sl false (x0.map row_T_api_Type)), (3, .lsl 3 0 ((t0.2.map rStr).length)), (4, .int .i64 t0.1)] [(3, { sz := 1, rows := (t0.2.map rStr), frz := 0, pure := true })]) (.stop c24x21 [.blk 1, .seq c24x22]) := by
  refine EvOk.stop ?_
  obtain ⟨v31, e34, h⟩ := bindE h
  obtain ⟨v32, e35, h⟩ := bindE h
  obtain ⟨v33, e36, h⟩ := bindE h
  refine At.adv [] [(11, { told := [(3, { ans := .row (row_T_api_Type v31) }), (7, { rows := some ((t0.2 ++ [v31.f_Name]).map rStr) })], gs := [], keep := some ([0, 3, 4], [(3, 3)]) }), (4, { told := [(1, { ans := .val (.int .i64 v33) })], gs := [], keep := some ([0, 3, 4], [(3, 3)]) })] 400 (ev := .normal) (σ' := mkS 51 [(0, .sl false (x0.map row_T_api_Type)), (3, .lsl 3 0 (((t0.2 ++ [v31.f_Name]).map rStr).length)), (4, .int .i64 v33)] [(3, { sz := 1, rows := ((t0.2 ++ [v31.f_Name]).map rStr), frz := 0, pure := true })]) (q := [True ∧ (getR (x0.map row_T_api_Type) t0.1 = some (row_T_api_Type v31)), True ∧ (True ∧ True), True ∧ ((0 + ([v31.f_Name].map rStr).length ≤ ([v31.f_Name].map rStr).length) ∧ (t0.2.map rStr).length = (t0.2.map rStr).length ∧ (∀ r ∈ ((([v31.f_Name].map rStr).drop 0).take ([v31.f_Name].map rStr).length), r.length = 1) ∧ (t0.2.map rStr) ++ ((([v31.f_Name].map rStr).drop 0).take ([v31.f_Name].map rStr).length) = ((t0.2 ++ [v31.f_Name]).map rStr) ∧ ((t0.2 ++ [v31.f_Name]).map rStr).length ≤ 9223372036854775807 ∧ ((t0.2 ++ [v31.f_Name]).map rStr).length * 16 ≤ 140737488355328), True ∧ (IntKind.wrap .i64 (t0.1 + (1 : Int)) = v33)]) (by kernel_rfl) ⟨⟨trivial, getR_map row_T_api_Type e34⟩, ⟨trivial, ⟨trivial, trivial⟩⟩, ⟨trivial, ⟨roomAll _, rfl, by rw [takeAll]; exact szM (f := rStr) (n := 1) (fun _ => rfl) _, by rw [takeAll]; exact appM rStr _ _, (growK_spec e35 (lenMN _ _)).1, (growK_spec e35 (lenMN _ _)).2⟩⟩, ⟨trivial, someE e36⟩, trivial⟩ ?_
  refine EvOk.normal ?_
  obtain rfl := someE h
  exact Round.next (by kernel_rfl)
theorem wl24x1 (x0 : List T_api_Type) (t0 : Int × (List (List UInt8))) (r : Ctl (Int × (List (List UInt8))) (((List (List UInt8))))) (h : (l24x1 x0) t0 = some r) (Γ : Ctx) : At Try.prog Γ c24x5 [] (Round (st24x1 x0) J24x1 r) ((st24x1 x0) t0) := by
  refine At.adv [] [(3, { told := [(2, { ans := .val (.int .i64 (x0.length : Int)) })], gs := [], keep := some ([0, 3, 4, 10], [(3, 3)]) })] 400 (ev := .cond (decide (t0.1 < (x0.length : Int))) c24x26 c24x27 [.seq c24x6]) (σ' := mkS 51 [(0, .sl false (x0.map row_T_api_Type)), (3, .lsl 3 0 ((t0.2.map rStr).length)), (4, .int .i64 t0.1), (10, .bool (decide (t0.1 < (x0.length : Int))))] [(3, { sz := 1, rows := (t0.2.map rStr), frz := 0, pure := true })]) (q := [True ∧ (((x0.map row_T_api_Type).length : Int) = (x0.length : Int))]) (by kernel_rfl) ⟨⟨trivial, lenM _ _⟩, trivial⟩ ?_
  refine EvOk.cond (fun h12 => ?_) (fun h12 => ?_)
  · replace h := iteT h12 h
    refine At.gc [0, 3, 4] [(3, 3)] (n := 51) (l := [(0, .sl false (x0.map row_T_api_Type)), (3, .lsl 3 0 ((t0.2.map rStr).length)), (4, .int .i64 t0.1)]) (bl := [(3, { sz := 1, rows := (t0.2.map rStr), frz := 0, pure := true })]) (by kernel_rfl) ?_
    refine At.adv [] [(5, { told := [], gs := [], keep := some ([0, 3, 4, 5], [(3, 3)]) }), (6, { told := [], gs := [], keep := some ([0, 3, 4, 5, 6], [(3, 3)]) })] 400 (ev := .loop c24x13 [.blk 2, .seq c24x19, .blk 1, .seq c24x22]) (σ' := mkS 51 [(0, .sl false (x0.map row_T_api_Type)), (3, .lsl 3 0 ((t0.2.map rStr).length)), (4, .int .i64 t0.1), (5, .bool false), (6, .int .i64 0)] [(3, { sz := 1, rows := (t0.2.map rStr), frz := 0, pure := true })]) (q := []) (by kernel_rfl) trivial ?_
    refine EvOk.loop ?_
    obtain ⟨q4, e30, h⟩ := bindE h
    refine At.loop (l24x2 t0 x0) (st24x2 t0 x0) (J24x2 t0 x0) (false, 0) e30 (by kernel_rfl) (fun t x hx => (wl24x2 t0 x0) t x hx Γ) ?_
    intro e σ' hJ
    obtain ⟨rfl, rfl⟩ := hJ
    refine At.exitK (K' := [.seq c24x19, .blk 1, .seq c24x22]) (by kernel_rfl) ?_
    obtain ⟨v28, e31, h⟩ := bindE h
    rcases Bool.eq_false_or_eq_true (v28.f_Base == 76) with h16 | h16
    · replace h := iteT h16 h
      refine At.advN [] [(10, { told := [(2, { ans := .row (row_T_api_Type v28) }), (9, { ans := .yes })], gs := [(7, true), (8, true)], keep := some ([0, 3, 4, 41], [(3, 3)]) })] 400 (ev := .cond (!q4) c24x21 c24x23 [.blk 1, .seq c24x22]) (σ' := mkS 51 [(0, .sl false (x0.map row_T_api_Type)), (3, .lsl 3 0 ((t0.2.map rStr).length)), (4, .int .i64 t0.1), (41, .bool (!q4))] [(3, { sz := 1, rows := (t0.2.map rStr), frz := 0, pure := true })]) (q := [True ∧ (getR (x0.map row_T_api_Type) t0.1 = some (row_T_api_Type v28)), ((v28.f_Base == 76) == true) = true ∧ True, ((v28.f_Base == 76) == true) = true ∧ True, True ∧ ((v28.f_Base == 76) = true)]) (by kernel_rfl) ⟨⟨trivial, getR_map row_T_api_Type e31⟩, ⟨(gB h16 rfl), trivial⟩, ⟨(gB h16 rfl), trivial⟩, ⟨trivial, h16⟩, trivial⟩ ?_
      refine EvOk.cond (fun h17 => ?_) (fun h17 => ?_)
      · replace h := iteT h17 h
        refine At.gc [0, 3, 4] [(3, 3)] (n := 51) (l := [(0, .sl false (x0.map row_T_api_Type)), (3, .lsl 3 0 ((t0.2.map rStr).length)), (4, .int .i64 t0.1)]) (bl := [(3, { sz := 1, rows := (t0.2.map rStr), frz := 0, pure := true })]) (by kernel_rfl) ?_
        refine At.adv [11] [] 400 (ev := .stop c24x21 [.blk 1, .seq c24x22]) (σ' := mkS 51 [(0, .sl false (x0.map row_T_api_Type)), (3, .lsl 3 0 ((t0.2.map rStr).length)), (4, .int .i64 t0.1)] [(3, { sz := 1, rows := (t0.2.map rStr), frz := 0, pure := true })]) (q := []) (by kernel_rfl) trivial ?_
        exact (wj24x1 t0 x0)  r h Γ
      · replace h := iteF h17 h
        refine At.gc [0, 3, 4] [(3, 3)] (n := 51) (l := [(0, .sl false (x0.map row_T_api_Type)), (3, .lsl 3 0 ((t0.2.map rStr).length)), (4, .int .i64 t0.1)]) (bl := [(3, { sz := 1, rows := (t0.2.map rStr), frz := 0, pure := true })]) (by kernel_rfl) ?_
        obtain ⟨v29, e32, h⟩ := bindE h
        refine At.adv [] [(4, { told := [(1, { ans := .val (.int .i64 v29) })], gs := [], keep := some ([0, 3, 4], [(3, 3)]) })] 400 (ev := .normal) (σ' := mkS 51 [(0, .sl false (x0.map row_T_api_Type)), (3, .lsl 3 0 ((t0.2.map rStr).length)), (4, .int .i64 v29)] [(3, { sz := 1, rows := (t0.2.map rStr), frz := 0, pure := true })]) (q := [True ∧ (IntKind.wrap .i64 (t0.1 + (1 : Int)) = v29)]) (by kernel_rfl) ⟨⟨trivial, someE e32⟩, trivial⟩ ?_
        refine EvOk.normal ?_
        obtain rfl := someE h
        exact Round.next (by kernel_rfl)
    · replace h := iteF h16 h
      refine At.advN [] [(10, { told := [(2, { ans := .row (row_T_api_Type v28) }), (9, { ans := .no })], gs := [(7, false), (8, false)], keep := some ([0, 3, 4, 41], [(3, 3)]) })] 400 (ev := .cond false c24x21 c24x23 [.blk 1, .seq c24x22]) (σ' := mkS 51 [(0, .sl false (x0.map row_T_api_Type)), (3, .lsl 3 0 ((t0.2.map rStr).length)), (4, .int .i64 t0.1), (41, .bool false)] [(3, { sz := 1, rows := (t0.2.map rStr), frz := 0, pure := true })]) (q := [True ∧ (getR (x0.map row_T_api_Type) t0.1 = some (row_T_api_Type v28)), ((v28.f_Base == 76) == true) = false, ((v28.f_Base == 76) == true) = false, True ∧ ((v28.f_Base == 76) = false)]) (by kernel_rfl) ⟨⟨trivial, getR_map row_T_api_Type e31⟩, gB h16 rfl, gB h16 rfl, ⟨trivial, h16⟩, trivial⟩ ?_
      refine EvOk.cond (fun hb => Bool.noConfusion hb) (fun _ => ?_)
      refine At.gc [0, 3, 4] [(3, 3)] (n := 51) (l := [(0, .sl false (x0.map row_T_api_Type)), (3, .lsl 3 0 ((t0.2.map rStr).length)), (4, .int .i64 t0.1)]) (bl := [(3, { sz := 1, rows := (t0.2.map rStr), frz := 0, pure := true })]) (by kernel_rfl) ?_
      obtain ⟨v30, e33, h⟩ := bindE h
      refine At.adv [] [(4, { told := [(1, { ans := .val (.int .i64 v30) })], gs := [], keep := some ([0, 3, 4], [(3, 3)]) })] 400 (ev := .normal) (σ' := mkS 51 [(0, .sl false (x0.map row_T_api_Type)), (3, .lsl 3 0 ((t0.2.map rStr).length)), (4, .int .i64 v30)] [(3, { sz := 1, rows := (t0.2.map rStr), frz := 0, pure := true })]) (q := [True ∧ (IntKind.wrap .i64 (t0.1 + (1 : Int)) = v30)]) (by kernel_rfl) ⟨⟨trivial, someE e33⟩, trivial⟩ ?_
      refine EvOk.normal ?_
      obtain rfl := someE h
      exact Round.next (by kernel_rfl)
  · replace h := iteF h12 h
    refine At.gc [3] [(3, 3)] (n := 51) (l := [(3, .lsl 3 0 ((t0.2.map rStr).length))]) (bl := [(3, { sz := 1, rows := (t0.2.map rStr), frz := 0, pure := true })]) (by kernel_rfl) ?_
    refine At.adv [] [] 400 (ev := .exit 0) (σ' := mkS 51 [(3, .lsl 3 0 ((t0.2.map rStr).length))] [(3, { sz := 1, rows := (t0.2.map rStr), frz := 0, pure := true })]) (q := []) (by kernel_rfl) trivial ?_
    refine EvOk.exit ?_
    obtain rfl := someE h
    exact Round.done (neExit _) ⟨rfl, by kernel_rfl⟩
theorem we24 (x0 : List T_api_Type) (r : (List (List UInt8))) (h : m_armatureref04_ClassNames x0 = some r) (Γ : Ctx) : At Try.prog Γ b24 [] (Den.Ends Try.prog Try.f24 (.sl false (r.map rStr))) (mkS 51 [(0, .sl false (x0.map row_T_api_Type))] []) := by
  refine At.adv [] [(0, { told := [], gs := [], keep := some ([0], []) }), (1, { told := [], gs := [], keep := some ([0, 3], []) }), (2, { told := [], gs := [], keep := some ([0, 3, 4], []) })] 400 (ev := .loop c24x5 [.blk 0, .seq c24x28]) (σ' := mkS 51 [(0, .sl false (x0.map row_T_api_Type)), (3, .sl true (([] : List (List UInt8)).map rStr)), (4, .int .i64 0)] []) (q := []) (by kernel_rfl) trivial ?_
  refine EvOk.loop ?_
  obtain ⟨q6, e37, h⟩ := bindE h
  refine At.convG [.tmp 3 3 1] [0, 3, 4] [(3, 3)] (n := 51) (l := [(0, .sl false (x0.map row_T_api_Type)), (3, .lsl 3 0 ((([] : List (List UInt8)).map rStr).length)), (4, .int .i64 0)]) (bl := [(3, { sz := 1, rows := (([] : List (List UInt8)).map rStr), frz := 0, pure := true })]) (by kernel_rfl) ?_
  refine At.loop (l24x1 x0) (st24x1 x0) J24x1 (0, ([] : List (List UInt8))) e37 (by kernel_rfl) (fun t x hx => (wl24x1 x0) t x hx Γ) ?_
  intro e σ' hJ
  obtain ⟨rfl, rfl⟩ := hJ
  refine At.exitK (K' := [.seq c24x28]) (by kernel_rfl) ?_
  refine At.advN [] [(12, { told := [], gs := [], keep := some ([2], [(3, 3)]) })] 400 (ev := .ret) (σ' := mkS 51 [(2, .lsl 3 0 ((q6.map rStr).length))] [(3, { sz := 1, rows := (q6.map rStr), frz := 0, pure := true })]) (q := []) (by kernel_rfl) trivial ?_
  refine EvOk.ret ?_
  obtain rfl := someE h
  exact Den.Ends.mk (.inl rfl) (d := .sl false (((q6.map rStr).drop 0).take (q6.map rStr).length)) (p := (True ∧ True) ∧ ((0 + (q6.map rStr).length ≤ (q6.map rStr).length) ∧ True)) (by kernel_rfl) ⟨⟨trivial, trivial⟩, ⟨roomAll _, trivial⟩⟩ (by simp only [takeAll] <;> kernel_rfl)
theorem w24 {x0 : List T_api_Type} {r : (List (List UInt8))} (h : m_armatureref04_ClassNames x0 = some r) : CallSpec Try.prog 24 [.sl false (x0.map row_T_api_Type)] (.sl false (r.map rStr)) :=
  CallSpec.at2 b24 (n := 51) (l := [(0, .sl false (x0.map row_T_api_Type))]) (by kernel_rfl) (by kernel_rfl) (by kernel_rfl) (by kernel_rfl) (by kernel_rfl) (Nat.le_of_ble_eq_true (by kernel_rfl)) (fun Γ => we24 x0 r h Γ)

/-! ### slices.Equal   string string  -/
noncomputable def b22 : Code := Try.f22.body.getD .skip
noncomputable def c22x0 : Code := sub1 b22
noncomputable def c22x1 : Code := sub1 c22x0
noncomputable def c22x2 : Code := sub0 c22x1
noncomputable def c22x3 : Code := sub1 c22x2
noncomputable def c22x4 : Code := sub0 c22x3
noncomputable def c22x5 : Code := sub0 c22x4
noncomputable def c22x6 : Code := sub1 c22x5
noncomputable def c22x7 : Code := sub1 c22x6
noncomputable def c22x8 : Code := sub0 c22x7
noncomputable def c22x9 : Code := sub0 c22x8
noncomputable def c22x10 : Code := sub1 c22x9
noncomputable def c22x11 : Code := sub1 c22x10
noncomputable def c22x12 : Code := sub0 c22x11
noncomputable def c22x13 : Code := sub1 c22x11
noncomputable def c22x14 : Code := sub1 c22x7
noncomputable def c22x15 : Code := sub0 c22x6
noncomputable def c22x16 : Code := sub0 c22x15
noncomputable def c22x17 : Code := sub1 c22x15
noncomputable def c22x18 : Code := sub1 c22x1
noncomputable def c22x19 : Code := sub0 c22x0
noncomputable def c22x20 : Code := sub1 c22x19
noncomputable def c22x21 : Code := sub0 c22x20
noncomputable def c22x22 : Code := sub1 c22x20
def l22x1 (x0 : List (List UInt8)) (x1 : List (List UInt8)) (t0 : Int) : Option (Ctl (Int) (Unit ⊕ Bool)) :=
  if (decide (t0 < (x0.length : Int))) = true then
    ((getR x0 t0).bind fun v2 =>
    (getR x1 t0).bind fun v3 =>
    if (!(v2 == v3)) = true then
      (some (.done (.inr false))) else
    ((some (IntKind.wrap .i64 (t0 + (1 : Int)))).bind fun v4 =>
      some (.next v4))) else
  (some (.done (.inl (()))))
def m_slices_Equal_string_string (x0 : List (List UInt8)) (x1 : List (List UInt8)) : Option (Bool) :=
  if ((x0.length : Int) != (x1.length : Int)) = true then
    (some false) else
  ((loopM (l22x1 x0 x1) rounds 0).bind fun q1 =>
    match q1 with
    | .inl q0 => (some true)
    | .inr y0 => (some y0))
def st22x1 (x0 : List (List UInt8)) (x1 : List (List UInt8)) : Int → S :=
  fun t0 => mkS 26 [(0, .sl false (x0.map rStr)), (1, .sl false (x1.map rStr)), (12, .int .i64 (x0.length : Int)), (13, .int .i64 t0)] []
noncomputable def J22x1  : (Unit ⊕ Bool) → Exit → S → Prop :=
  JSum (JExit 0 (fun q0 : Unit => mkS 26 [] [])) (JRet Try.prog Try.f22 (fun y : Bool => .bool y))
theorem wl22x1 (x0 : List (List UInt8)) (x1 : List (List UInt8)) (t0 : Int) (r : Ctl (Int) (Unit ⊕ Bool)) (h : (l22x1 x0 x1) t0 = some r) (Γ : Ctx) : At Try.prog Γ c22x5 [] (Round (st22x1 x0 x1) J22x1 r) ((st22x1 x0 x1) t0) := by
  refine At.adv [] [(4, { told := [], gs := [], keep := some ([0, 1, 12, 13, 14], []) })] 400 (ev := .cond (decide (t0 < (x0.length : Int))) c22x16 c22x17 [.seq c22x7]) (σ' := mkS 26 [(0, .sl false (x0.map rStr)), (1, .sl false (x1.map rStr)), (12, .int .i64 (x0.length : Int)), (13, .int .i64 t0), (14, .bool (decide (t0 < (x0.length : Int))))] []) (q := []) (by kernel_rfl) trivial ?_
  refine EvOk.cond (fun h3 => ?_) (fun h3 => ?_)
  · replace h := iteT h3 h
    refine At.gc [0, 1, 12, 13] [] (n := 26) (l := [(0, .sl false (x0.map rStr)), (1, .sl false (x1.map rStr)), (12, .int .i64 (x0.length : Int)), (13, .int .i64 t0)]) (bl := []) (by kernel_rfl) ?_
    obtain ⟨v2, e2, h⟩ := bindE h
    obtain ⟨v3, e3, h⟩ := bindE h
    refine At.adv [] [(5, { told := [], gs := [], keep := some ([0, 1, 5, 12, 13], []) }), (6, { told := [(2, { ans := .row (rStr v2) }), (6, { ans := .row (rStr v3) })], gs := [], keep := some ([0, 1, 12, 13, 24], []), ord := some ([0, 1, 2, 3, 4, 5, 6, 7, 8], [], [(2, [0, 1]), (3, [0, 1, 2]), (6, [4, 5]), (7, [4, 5, 6]), (8, [0, 1, 2, 3, 4, 5, 6, 7])]) })] 400 (ev := .cond (!(v2 == v3)) c22x12 c22x13 [.blk 1, .seq c22x14]) (σ' := mkS 26 [(0, .sl false (x0.map rStr)), (1, .sl false (x1.map rStr)), (12, .int .i64 (x0.length : Int)), (13, .int .i64 t0), (24, .bool (!(v2 == v3)))] []) (q := [True ∧ (getR (x0.map rStr) t0 = some (rStr v2)), True ∧ (getR (x1.map rStr) t0 = some (rStr v3))]) (by kernel_rfl) ⟨⟨trivial, getR_map rStr e2⟩, ⟨trivial, getR_map rStr e3⟩, trivial⟩ ?_
    refine EvOk.cond (fun h4 => ?_) (fun h4 => ?_)
    · replace h := iteT h4 h
      refine At.gc [] [] (n := 26) (l := []) (bl := []) (by kernel_rfl) ?_
      refine At.adv [] [(7, { told := [], gs := [], keep := some ([4], []) })] 400 (ev := .ret) (σ' := mkS 26 [(4, .bool false)] []) (q := []) (by kernel_rfl) trivial ?_
      refine EvOk.ret ?_
      obtain rfl := someE h
      exact Round.done neRet ⟨rfl, Den.Ends.mk (.inl rfl) (d := .bool false) (p := (True ∧ True) ∧ (True ∧ True)) (by kernel_rfl) ⟨⟨trivial, trivial⟩, ⟨trivial, trivial⟩⟩ (by kernel_rfl)⟩
    · replace h := iteF h4 h
      refine At.gc [0, 1, 12, 13] [] (n := 26) (l := [(0, .sl false (x0.map rStr)), (1, .sl false (x1.map rStr)), (12, .int .i64 (x0.length : Int)), (13, .int .i64 t0)]) (bl := []) (by kernel_rfl) ?_
      obtain ⟨v4, e4, h⟩ := bindE h
      refine At.adv [] [(8, { told := [(0, { ans := .val (.int .i64 v4) })], gs := [], keep := some ([0, 1, 12, 13], []) })] 400 (ev := .normal) (σ' := mkS 26 [(0, .sl false (x0.map rStr)), (1, .sl false (x1.map rStr)), (12, .int .i64 (x0.length : Int)), (13, .int .i64 v4)] []) (q := [True ∧ (IntKind.wrap .i64 (t0 + (1 : Int)) = v4)]) (by kernel_rfl) ⟨⟨trivial, someE e4⟩, trivial⟩ ?_
      refine EvOk.normal ?_
      obtain rfl := someE h
      exact Round.next (by kernel_rfl)
  · replace h := iteF h3 h
    refine At.gc [] [] (n := 26) (l := []) (bl := []) (by kernel_rfl) ?_
    refine At.adv [] [] 400 (ev := .exit 0) (σ' := mkS 26 [] []) (q := []) (by kernel_rfl) trivial ?_
    refine EvOk.exit ?_
    obtain rfl := someE h
    exact Round.done (neExit _) ⟨rfl, by kernel_rfl⟩
theorem we22 (x0 : List (List UInt8)) (x1 : List (List UInt8)) (r : Bool) (h : m_slices_Equal_string_string x0 x1 = some r) (Γ : Ctx) : At Try.prog Γ b22 [] (Den.Ends Try.prog Try.f22 (.bool r)) (mkS 26 [(0, .sl false (x0.map rStr)), (1, .sl false (x1.map rStr))] []) := by
  refine At.adv [] [(0, { told := [], gs := [], keep := some ([0, 1], []) }), (1, { told := [(1, { ans := .val (.int .i64 (x0.length : Int)) }), (3, { ans := .val (.int .i64 (x1.length : Int)) })], gs := [], keep := some ([0, 1, 10], []) })] 400 (ev := .cond ((x0.length : Int) != (x1.length : Int)) c22x21 c22x22 [.seq c22x1]) (σ' := mkS 26 [(0, .sl false (x0.map rStr)), (1, .sl false (x1.map rStr)), (10, .bool ((x0.length : Int) != (x1.length : Int)))] []) (q := [True ∧ (((x0.map rStr).length : Int) = (x0.length : Int)), True ∧ (((x1.map rStr).length : Int) = (x1.length : Int))]) (by kernel_rfl) ⟨⟨trivial, lenM _ _⟩, ⟨trivial, lenM _ _⟩, trivial⟩ ?_
  refine EvOk.cond (fun h0 => ?_) (fun h0 => ?_)
  · replace h := iteT h0 h
    refine At.gc [] [] (n := 26) (l := []) (bl := []) (by kernel_rfl) ?_
    refine At.adv [] [(2, { told := [], gs := [], keep := some ([4], []) })] 400 (ev := .ret) (σ' := mkS 26 [(4, .bool false)] []) (q := []) (by kernel_rfl) trivial ?_
    refine EvOk.ret ?_
    obtain rfl := someE h
    exact Den.Ends.mk (.inl rfl) (d := .bool false) (p := (True ∧ True) ∧ (True ∧ True)) (by kernel_rfl) ⟨⟨trivial, trivial⟩, ⟨trivial, trivial⟩⟩ (by kernel_rfl)
  · replace h := iteF h0 h
    refine At.gc [0, 1] [] (n := 26) (l := [(0, .sl false (x0.map rStr)), (1, .sl false (x1.map rStr))]) (bl := []) (by kernel_rfl) ?_
    refine At.adv [] [(3, { told := [(1, { ans := .val (.int .i64 (x0.length : Int)) })], gs := [], keep := some ([0, 1, 12, 13], []) })] 400 (ev := .loop c22x5 [.blk 0, .seq c22x18]) (σ' := mkS 26 [(0, .sl false (x0.map rStr)), (1, .sl false (x1.map rStr)), (12, .int .i64 (x0.length : Int)), (13, .int .i64 0)] []) (q := [True ∧ (((x0.map rStr).length : Int) = (x0.length : Int))]) (by kernel_rfl) ⟨⟨trivial, lenM _ _⟩, trivial⟩ ?_
    refine EvOk.loop ?_
    obtain ⟨q1, e5, h⟩ := bindE h
    refine At.loop (l22x1 x0 x1) (st22x1 x0 x1) J22x1 0 e5 (by kernel_rfl) (fun t x hx => (wl22x1 x0 x1) t x hx Γ) ?_
    intro e σ' hJ
    rcases q1 with q0 | y0
    · obtain ⟨rfl, rfl⟩ := hJ
      refine At.exitK (K' := [.seq c22x18]) (by kernel_rfl) ?_
      refine At.advN [] [(9, { told := [], gs := [], keep := some ([4], []) })] 400 (ev := .ret) (σ' := mkS 26 [(4, .bool true)] []) (q := []) (by kernel_rfl) trivial ?_
      refine EvOk.ret ?_
      obtain rfl := someE h
      exact Den.Ends.mk (.inl rfl) (d := .bool true) (p := (True ∧ True) ∧ (True ∧ True)) (by kernel_rfl) ⟨⟨trivial, trivial⟩, ⟨trivial, trivial⟩⟩ (by kernel_rfl)
    · obtain rfl := someE h
      obtain ⟨rfl, hE⟩ := hJ
      exact At.retK hE
theorem w22 {x0 : List (List UInt8)} {x1 : List (List UInt8)} {r : Bool} (h : m_slices_Equal_string_string x0 x1 = some r) : CallSpec Try.prog 22 [.sl false (x0.map rStr), .sl false (x1.map rStr)] (.bool r) :=
  CallSpec.at2 b22 (n := 26) (l := [(0, .sl false (x0.map rStr)), (1, .sl false (x1.map rStr))]) (by kernel_rfl) (by kernel_rfl) (by kernel_rfl) (by kernel_rfl) (by kernel_rfl) (Nat.le_of_ble_eq_true (by kernel_rfl)) (fun Γ => we22 x0 x1 r h Γ)

/-! ### armature desc.ArrayOf -/
noncomputable def b26 : Code := Try.f26.body.getD .skip
noncomputable def c26x0 : Code := sub1 b26
noncomputable def c26x1 : Code := sub0 c26x0
noncomputable def c26x2 : Code := sub0 c26x1
noncomputable def c26x3 : Code := sub1 c26x2
noncomputable def c26x4 : Code := sub1 c26x3
noncomputable def c26x5 : Code := sub1 c26x4
noncomputable def c26x6 : Code := sub1 c26x5
noncomputable def c26x7 : Code := sub1 c26x6
noncomputable def c26x8 : Code := sub0 c26x7
noncomputable def c26x9 : Code := sub1 c26x7
noncomputable def c26x10 : Code := sub1 c26x0
noncomputable def c26x11 : Code := sub0 c26x5
noncomputable def c26x12 : Code := sub0 c26x3
def m_desc_ArrayOf (x0 : T_api_Type) : Option (T_api_Type × Int) :=
  (m_desc_Valid ({ f_Dim := x0.f_Dim, f_Base := x0.f_Base, f_Name := x0.f_Name } : T_api_Type)).bind fun v0 =>
  if (!v0) = true then
    (some (({ f_Dim := 0, f_Base := 0, f_Name := [] } : T_api_Type), 13)) else
  (if (x0.f_Base == 86) = true then
      (some (({ f_Dim := 0, f_Base := 0, f_Name := [] } : T_api_Type), 1)) else
    (if (x0.f_Dim == 8) = true then
        (some (({ f_Dim := 0, f_Base := 0, f_Name := [] } : T_api_Type), 9)) else
      ((some (IntKind.wrap .i64 (x0.f_Dim + (1 : Int)))).bind fun v1 =>
        some (({ f_Dim := v1, f_Base := x0.f_Base, f_Name := x0.f_Name } : T_api_Type), 0))))
theorem we26 (x0 : T_api_Type) (r : T_api_Type × Int) (h : m_desc_ArrayOf x0 = some r) (Γ : Ctx) : At Try.prog Γ b26 [] (Den.Ends Try.prog Try.f26 (.tup [.agg (row_T_api_Type r.1), .int .i64 r.2])) (mkS 24 [(0, .agg (row_T_api_Type x0))] []) := by
  obtain ⟨v0, e0, h⟩ := bindE h
  refine At.adv [] [(0, { told := [], gs := [], keep := some ([1, 2], [(1, 1), (2, 2)]) }), (1, { told := [(1, { ans := .val (.bool v0), args := [.agg [.int .i64 x0.f_Dim, .int .u8 x0.f_Base, .str x0.f_Name]] })], gs := [], keep := some ([1, 2, 4], [(1, 1), (2, 2)]) })] 400 (ev := .cond (!v0) c26x12 c26x4 [.blk 0, .seq c26x10]) (σ' := mkS 24 [(1, .lptr 1 0 0), (2, .lptr 2 0 0), (4, .bool (!v0))] [(1, { sz := 3, rows := [[.int .i64 x0.f_Dim, .int .u8 x0.f_Base, .str x0.f_Name]], frz := 0, pure := false }), (2, { sz := 3, rows := [[.int .i64 0, .int .u8 0, .str []]], frz := 0, pure := false })]) (q := [True ∧ (((True ∧ (True ∧ (True ∧ True))) ∧ True) ∧ ([.agg [.int .i64 x0.f_Dim, .int .u8 x0.f_Base, .str x0.f_Name]] : List D) = [.agg [.int .i64 x0.f_Dim, .int .u8 x0.f_Base, .str x0.f_Name]] ∧ CallAny Try.prog 25 [.agg [.int .i64 x0.f_Dim, .int .u8 x0.f_Base, .str x0.f_Name]] (.bool v0))]) (by kernel_rfl) ⟨⟨trivial, ⟨⟨⟨trivial, ⟨trivial, ⟨trivial, trivial⟩⟩⟩, trivial⟩, rfl, .inl (w25 e0)⟩⟩, trivial⟩ ?_
  refine EvOk.cond (fun h0 => ?_) (fun h0 => ?_)
  · replace h := iteT h0 h
    refine At.gc [2] [(2, 2)] (n := 24) (l := [(2, .lptr 2 0 0)]) (bl := [(2, { sz := 3, rows := [[.int .i64 0, .int .u8 0, .str []]], frz := 0, pure := false })]) (by kernel_rfl) ?_
    refine At.adv [] [(2, { told := [], gs := [], keep := some ([2, 3], [(2, 2)]) })] 400 (ev := .ret) (σ' := mkS 24 [(2, .lptr 2 0 0), (3, .int .i64 13)] [(2, { sz := 3, rows := [[.int .i64 0, .int .u8 0, .str []]], frz := 0, pure := false })]) (q := [True ∧ (0 ≤ 0 ∧ 0 + ([.int .i64 0, .int .u8 0, .str []] : List D).length ≤ ([.int .i64 0, .int .u8 0, .str []] : List D).length ∧ ([[.int .i64 0, .int .u8 0, .str []]] : List (List D)) = ([[.int .i64 0, .int .u8 0, .str []]] : List (List D)))]) (by kernel_rfl) ⟨⟨trivial, ⟨Nat.zero_le _, Nat.le_of_ble_eq_true rfl, rfl⟩⟩, trivial⟩ ?_
    refine EvOk.ret ?_
    obtain rfl := someE h
    exact Den.Ends.mk (.inl rfl) (d := .tup [.agg [.int .i64 0, .int .u8 0, .str []], .int .i64 13]) (p := (True ∧ (True ∧ True)) ∧ ((True ∧ (True ∧ (True ∧ True))) ∧ (True ∧ True))) (by kernel_rfl) ⟨⟨trivial, ⟨trivial, trivial⟩⟩, ⟨⟨trivial, ⟨trivial, ⟨trivial, trivial⟩⟩⟩, ⟨trivial, trivial⟩⟩⟩ (by kernel_rfl)
  · replace h := iteF h0 h
    refine At.gc [1, 2] [(1, 1), (2, 2)] (n := 24) (l := [(1, .lptr 1 0 0), (2, .lptr 2 0 0)]) (bl := [(1, { sz := 3, rows := [[.int .i64 x0.f_Dim, .int .u8 x0.f_Base, .str x0.f_Name]], frz := 0, pure := false }), (2, { sz := 3, rows := [[.int .i64 0, .int .u8 0, .str []]], frz := 0, pure := false })]) (by kernel_rfl) ?_
    refine At.adv [] [(3, { told := [], gs := [], keep := some ([1, 2, 9], [(1, 1), (2, 2)]) })] 400 (ev := .cond (x0.f_Base == 86) c26x11 c26x6 [.blk 0, .seq c26x10]) (σ' := mkS 24 [(1, .lptr 1 0 0), (2, .lptr 2 0 0), (9, .bool (x0.f_Base == 86))] [(1, { sz := 3, rows := [[.int .i64 x0.f_Dim, .int .u8 x0.f_Base, .str x0.f_Name]], frz := 0, pure := false }), (2, { sz := 3, rows := [[.int .i64 0, .int .u8 0, .str []]], frz := 0, pure := false })]) (q := []) (by kernel_rfl) trivial ?_
    refine EvOk.cond (fun h1 => ?_) (fun h1 => ?_)
    · replace h := iteT h1 h
      refine At.gc [2] [(2, 2)] (n := 24) (l := [(2, .lptr 2 0 0)]) (bl := [(2, { sz := 3, rows := [[.int .i64 0, .int .u8 0, .str []]], frz := 0, pure := false })]) (by kernel_rfl) ?_
      refine At.adv [] [(4, { told := [], gs := [], keep := some ([2, 3], [(2, 2)]) })] 400 (ev := .ret) (σ' := mkS 24 [(2, .lptr 2 0 0), (3, .int .i64 1)] [(2, { sz := 3, rows := [[.int .i64 0, .int .u8 0, .str []]], frz := 0, pure := false })]) (q := [True ∧ (0 ≤ 0 ∧ 0 + ([.int .i64 0, .int .u8 0, .str []] : List D).length ≤ ([.int .i64 0, .int .u8 0, .str []] : List D).length ∧ ([[.int .i64 0, .int .u8 0, .str []]] : List (List D)) = ([[.int .i64 0, .int .u8 0, .str []]] : List (List D)))]) (by kernel_rfl) ⟨⟨trivial, ⟨Nat.zero_le _, Nat.le_of_ble_eq_true rfl, rfl⟩⟩, trivial⟩ ?_
      refine EvOk.ret ?_
      obtain rfl := someE h
      exact Den.Ends.mk (.inl rfl) (d := .tup [.agg [.int .i64 0, .int .u8 0, .str []], .int .i64 1]) (p := (True ∧ (True ∧ True)) ∧ ((True ∧ (True ∧ (True ∧ True))) ∧ (True ∧ True))) (by kernel_rfl) ⟨⟨trivial, ⟨trivial, trivial⟩⟩, ⟨⟨trivial, ⟨trivial, ⟨trivial, trivial⟩⟩⟩, ⟨trivial, trivial⟩⟩⟩ (by kernel_rfl)
    · replace h := iteF h1 h
      refine At.gc [1, 2] [(1, 1), (2, 2)] (n := 24) (l := [(1, .lptr 1 0 0), (2, .lptr 2 0 0)]) (bl := [(1, { sz := 3, rows := [[.int .i64 x0.f_Dim, .int .u8 x0.f_Base, .str x0.f_Name]], frz := 0, pure := false }), (2, { sz := 3, rows := [[.int .i64 0, .int .u8 0, .str []]], frz := 0, pure := false })]) (by kernel_rfl) ?_
      refine At.adv [] [(5, { told := [], gs := [], keep := some ([1, 2, 14], [(1, 1), (2, 2)]) })] 400 (ev := .cond (x0.f_Dim == 8) c26x8 c26x9 [.blk 0, .seq c26x10]) (σ' := mkS 24 [(1, .lptr 1 0 0), (2, .lptr 2 0 0), (14, .bool (x0.f_Dim == 8))] [(1, { sz := 3, rows := [[.int .i64 x0.f_Dim, .int .u8 x0.f_Base, .str x0.f_Name]], frz := 0, pure := false }), (2, { sz := 3, rows := [[.int .i64 0, .int .u8 0, .str []]], frz := 0, pure := false })]) (q := []) (by kernel_rfl) trivial ?_
      refine EvOk.cond (fun h2 => ?_) (fun h2 => ?_)
      · replace h := iteT h2 h
        refine At.gc [2] [(2, 2)] (n := 24) (l := [(2, .lptr 2 0 0)]) (bl := [(2, { sz := 3, rows := [[.int .i64 0, .int .u8 0, .str []]], frz := 0, pure := false })]) (by kernel_rfl) ?_
        refine At.adv [] [(6, { told := [], gs := [], keep := some ([2, 3], [(2, 2)]) })] 400 (ev := .ret) (σ' := mkS 24 [(2, .lptr 2 0 0), (3, .int .i64 9)] [(2, { sz := 3, rows := [[.int .i64 0, .int .u8 0, .str []]], frz := 0, pure := false })]) (q := [True ∧ (0 ≤ 0 ∧ 0 + ([.int .i64 0, .int .u8 0, .str []] : List D).length ≤ ([.int .i64 0, .int .u8 0, .str []] : List D).length ∧ ([[.int .i64 0, .int .u8 0, .str []]] : List (List D)) = ([[.int .i64 0, .int .u8 0, .str []]] : List (List D)))]) (by kernel_rfl) ⟨⟨trivial, ⟨Nat.zero_le _, Nat.le_of_ble_eq_true rfl, rfl⟩⟩, trivial⟩ ?_
        refine EvOk.ret ?_
        obtain rfl := someE h
        exact Den.Ends.mk (.inl rfl) (d := .tup [.agg [.int .i64 0, .int .u8 0, .str []], .int .i64 9]) (p := (True ∧ (True ∧ True)) ∧ ((True ∧ (True ∧ (True ∧ True))) ∧ (True ∧ True))) (by kernel_rfl) ⟨⟨trivial, ⟨trivial, trivial⟩⟩, ⟨⟨trivial, ⟨trivial, ⟨trivial, trivial⟩⟩⟩, ⟨trivial, trivial⟩⟩⟩ (by kernel_rfl)
      · replace h := iteF h2 h
        refine At.gc [1, 2] [(1, 1), (2, 2)] (n := 24) (l := [(1, .lptr 1 0 0), (2, .lptr 2 0 0)]) (bl := [(1, { sz := 3, rows := [[.int .i64 x0.f_Dim, .int .u8 x0.f_Base, .str x0.f_Name]], frz := 0, pure := false }), (2, { sz := 3, rows := [[.int .i64 0, .int .u8 0, .str []]], frz := 0, pure := false })]) (by kernel_rfl) ?_
        obtain ⟨v1, e1, h⟩ := bindE h
        refine At.adv [] [(7, { told := [(2, { ans := .val (.int .i64 v1) })], gs := [], keep := some ([1, 2], [(1, 1), (2, 2)]) }), (8, { told := [], gs := [], keep := some ([2, 3], [(2, 2)]) })] 400 (ev := .ret) (σ' := mkS 24 [(2, .lptr 2 0 0), (3, .int .i64 0)] [(2, { sz := 3, rows := [[.int .i64 v1, .int .u8 x0.f_Base, .str x0.f_Name]], frz := 0, pure := false })]) (q := [True ∧ (IntKind.wrap .i64 (x0.f_Dim + (1 : Int)) = v1), True ∧ (0 ≤ 0 ∧ 0 + ([.int .i64 v1] : List D).length ≤ ([.int .i64 x0.f_Dim, .int .u8 x0.f_Base, .str x0.f_Name] : List D).length ∧ ([[.int .i64 v1, .int .u8 x0.f_Base, .str x0.f_Name]] : List (List D)) = ([[.int .i64 v1, .int .u8 x0.f_Base, .str x0.f_Name]] : List (List D))), True ∧ (0 ≤ 0 ∧ 0 + ([.int .i64 v1, .int .u8 x0.f_Base, .str x0.f_Name] : List D).length ≤ ([.int .i64 0, .int .u8 0, .str []] : List D).length ∧ ([[.int .i64 v1, .int .u8 x0.f_Base, .str x0.f_Name]] : List (List D)) = ([[.int .i64 v1, .int .u8 x0.f_Base, .str x0.f_Name]] : List (List D)))]) (by kernel_rfl) ⟨⟨trivial, someE e1⟩, ⟨trivial, ⟨Nat.zero_le _, Nat.le_of_ble_eq_true rfl, rfl⟩⟩, ⟨trivial, ⟨Nat.zero_le _, Nat.le_of_ble_eq_true rfl, rfl⟩⟩, trivial⟩ ?_
        refine EvOk.ret ?_
        obtain rfl := someE h
        exact Den.Ends.mk (.inl rfl) (d := .tup [.agg [.int .i64 v1, .int .u8 x0.f_Base, .str x0.f_Name], .int .i64 0]) (p := (True ∧ (True ∧ True)) ∧ ((True ∧ (True ∧ (True ∧ True))) ∧ (True ∧ True))) (by kernel_rfl) ⟨⟨trivial, ⟨trivial, trivial⟩⟩, ⟨⟨trivial, ⟨trivial, ⟨trivial, trivial⟩⟩⟩, ⟨trivial, trivial⟩⟩⟩ (by kernel_rfl)
theorem w26 {x0 : T_api_Type} {r : T_api_Type × Int} (h : m_desc_ArrayOf x0 = some r) : CallSpec Try.prog 26 [.agg (row_T_api_Type x0)] (.tup [.agg (row_T_api_Type r.1), .int .i64 r.2]) :=
  CallSpec.at2 b26 (n := 24) (l := [(0, .agg (row_T_api_Type x0))]) (by kernel_rfl) (by kernel_rfl) (by kernel_rfl) (by kernel_rfl) (by kernel_rfl) (Nat.le_of_ble_eq_true (by kernel_rfl)) (fun Γ => we26 x0 r h Γ)

/-! ### armature desc.Element -/
noncomputable def b27 : Code := Try.f27.body.getD .skip
noncomputable def c27x0 : Code := sub1 b27
noncomputable def c27x1 : Code := sub1 c27x0
noncomputable def c27x2 : Code := sub0 c27x1
noncomputable def c27x3 : Code := sub1 c27x2
noncomputable def c27x4 : Code := sub0 c27x3
noncomputable def c27x5 : Code := sub1 c27x3
noncomputable def c27x6 : Code := sub1 c27x1
noncomputable def c27x7 : Code := sub0 c27x0
noncomputable def c27x8 : Code := sub1 c27x7
noncomputable def c27x9 : Code := sub0 c27x8
noncomputable def c27x10 : Code := sub1 c27x8
def m_desc_Element (x0 : T_api_Type) : Option (T_api_Type × Int) :=
  (m_desc_Valid ({ f_Dim := x0.f_Dim, f_Base := x0.f_Base, f_Name := x0.f_Name } : T_api_Type)).bind fun v0 =>
  if (!v0) = true then
    (some (({ f_Dim := 0, f_Base := 0, f_Name := [] } : T_api_Type), 13)) else
  (if (x0.f_Dim == 0) = true then
      (some (({ f_Dim := 0, f_Base := 0, f_Name := [] } : T_api_Type), 1)) else
    ((some (IntKind.wrap .i64 (x0.f_Dim - (1 : Int)))).bind fun v1 =>
      some (({ f_Dim := v1, f_Base := x0.f_Base, f_Name := x0.f_Name } : T_api_Type), 0)))
theorem we27 (x0 : T_api_Type) (r : T_api_Type × Int) (h : m_desc_Element x0 = some r) (Γ : Ctx) : At Try.prog Γ b27 [] (Den.Ends Try.prog Try.f27 (.tup [.agg (row_T_api_Type r.1), .int .i64 r.2])) (mkS 17 [(0, .agg (row_T_api_Type x0))] []) := by
  obtain ⟨v0, e0, h⟩ := bindE h
  refine At.adv [] [(0, { told := [], gs := [], keep := some ([1, 2], [(1, 1), (2, 2)]) }), (1, { told := [(1, { ans := .val (.bool v0), args := [.agg [.int .i64 x0.f_Dim, .int .u8 x0.f_Base, .str x0.f_Name]] })], gs := [], keep := some ([1, 2, 6], [(1, 1), (2, 2)]) })] 400 (ev := .cond (!v0) c27x9 c27x10 [.seq c27x1]) (σ' := mkS 17 [(1, .lptr 1 0 0), (2, .lptr 2 0 0), (6, .bool (!v0))] [(1, { sz := 3, rows := [[.int .i64 x0.f_Dim, .int .u8 x0.f_Base, .str x0.f_Name]], frz := 0, pure := false }), (2, { sz := 3, rows := [[.int .i64 0, .int .u8 0, .str []]], frz := 0, pure := false })]) (q := [True ∧ (((True ∧ (True ∧ (True ∧ True))) ∧ True) ∧ ([.agg [.int .i64 x0.f_Dim, .int .u8 x0.f_Base, .str x0.f_Name]] : List D) = [.agg [.int .i64 x0.f_Dim, .int .u8 x0.f_Base, .str x0.f_Name]] ∧ CallAny Try.prog 25 [.agg [.int .i64 x0.f_Dim, .int .u8 x0.f_Base, .str x0.f_Name]] (.bool v0))]) (by kernel_rfl) ⟨⟨trivial, ⟨⟨⟨trivial, ⟨trivial, ⟨trivial, trivial⟩⟩⟩, trivial⟩, rfl, .inl (w25 e0)⟩⟩, trivial⟩ ?_
  refine EvOk.cond (fun h0 => ?_) (fun h0 => ?_)
  · replace h := iteT h0 h
    refine At.gc [2] [(2, 2)] (n := 17) (l := [(2, .lptr 2 0 0)]) (bl := [(2, { sz := 3, rows := [[.int .i64 0, .int .u8 0, .str []]], frz := 0, pure := false })]) (by kernel_rfl) ?_
    refine At.adv [] [(2, { told := [], gs := [], keep := some ([2, 3], [(2, 2)]) })] 400 (ev := .ret) (σ' := mkS 17 [(2, .lptr 2 0 0), (3, .int .i64 13)] [(2, { sz := 3, rows := [[.int .i64 0, .int .u8 0, .str []]], frz := 0, pure := false })]) (q := [True ∧ (0 ≤ 0 ∧ 0 + ([.int .i64 0, .int .u8 0, .str []] : List D).length ≤ ([.int .i64 0, .int .u8 0, .str []] : List D).length ∧ ([[.int .i64 0, .int .u8 0, .str []]] : List (List D)) = ([[.int .i64 0, .int .u8 0, .str []]] : List (List D)))]) (by kernel_rfl) ⟨⟨trivial, ⟨Nat.zero_le _, Nat.le_of_ble_eq_true rfl, rfl⟩⟩, trivial⟩ ?_
    refine EvOk.ret ?_
    obtain rfl := someE h
    exact Den.Ends.mk (.inl rfl) (d := .tup [.agg [.int .i64 0, .int .u8 0, .str []], .int .i64 13]) (p := (True ∧ (True ∧ True)) ∧ ((True ∧ (True ∧ (True ∧ True))) ∧ (True ∧ True))) (by kernel_rfl) ⟨⟨trivial, ⟨trivial, trivial⟩⟩, ⟨⟨trivial, ⟨trivial, ⟨trivial, trivial⟩⟩⟩, ⟨trivial, trivial⟩⟩⟩ (by kernel_rfl)
  · replace h := iteF h0 h
    refine At.gc [1, 2] [(1, 1), (2, 2)] (n := 17) (l := [(1, .lptr 1 0 0), (2, .lptr 2 0 0)]) (bl := [(1, { sz := 3, rows := [[.int .i64 x0.f_Dim, .int .u8 x0.f_Base, .str x0.f_Name]], frz := 0, pure := false }), (2, { sz := 3, rows := [[.int .i64 0, .int .u8 0, .str []]], frz := 0, pure := false })]) (by kernel_rfl) ?_
    refine At.adv [] [(3, { told := [], gs := [], keep := some ([1, 2, 10], [(1, 1), (2, 2)]) })] 400 (ev := .cond (x0.f_Dim == 0) c27x4 c27x5 [.seq c27x6]) (σ' := mkS 17 [(1, .lptr 1 0 0), (2, .lptr 2 0 0), (10, .bool (x0.f_Dim == 0))] [(1, { sz := 3, rows := [[.int .i64 x0.f_Dim, .int .u8 x0.f_Base, .str x0.f_Name]], frz := 0, pure := false }), (2, { sz := 3, rows := [[.int .i64 0, .int .u8 0, .str []]], frz := 0, pure := false })]) (q := []) (by kernel_rfl) trivial ?_
    refine EvOk.cond (fun h1 => ?_) (fun h1 => ?_)
    · replace h := iteT h1 h
      refine At.gc [2] [(2, 2)] (n := 17) (l := [(2, .lptr 2 0 0)]) (bl := [(2, { sz := 3, rows := [[.int .i64 0, .int .u8 0, .str []]], frz := 0, pure := false })]) (by kernel_rfl) ?_
      refine At.adv [] [(4, { told := [], gs := [], keep := some ([2, 3], [(2, 2)]) })] 400 (ev := .ret) (σ' := mkS 17 [(2, .lptr 2 0 0), (3, .int .i64 1)] [(2, { sz := 3, rows := [[.int .i64 0, .int .u8 0, .str []]], frz := 0, pure := false })]) (q := [True ∧ (0 ≤ 0 ∧ 0 + ([.int .i64 0, .int .u8 0, .str []] : List D).length ≤ ([.int .i64 0, .int .u8 0, .str []] : List D).length ∧ ([[.int .i64 0, .int .u8 0, .str []]] : List (List D)) = ([[.int .i64 0, .int .u8 0, .str []]] : List (List D)))]) (by kernel_rfl) ⟨⟨trivial, ⟨Nat.zero_le _, Nat.le_of_ble_eq_true rfl, rfl⟩⟩, trivial⟩ ?_
      refine EvOk.ret ?_
      obtain rfl := someE h
      exact Den.Ends.mk (.inl rfl) (d := .tup [.agg [.int .i64 0, .int .u8 0, .str []], .int .i64 1]) (p := (True ∧ (True ∧ True)) ∧ ((True ∧ (True ∧ (True ∧ True))) ∧ (True ∧ True))) (by kernel_rfl) ⟨⟨trivial, ⟨trivial, trivial⟩⟩, ⟨⟨trivial, ⟨trivial, ⟨trivial, trivial⟩⟩⟩, ⟨trivial, trivial⟩⟩⟩ (by kernel_rfl)
    · replace h := iteF h1 h
      refine At.gc [1, 2] [(1, 1), (2, 2)] (n := 17) (l := [(1, .lptr 1 0 0), (2, .lptr 2 0 0)]) (bl := [(1, { sz := 3, rows := [[.int .i64 x0.f_Dim, .int .u8 x0.f_Base, .str x0.f_Name]], frz := 0, pure := false }), (2, { sz := 3, rows := [[.int .i64 0, .int .u8 0, .str []]], frz := 0, pure := false })]) (by kernel_rfl) ?_
      obtain ⟨v1, e1, h⟩ := bindE h
      refine At.adv [] [(5, { told := [(2, { ans := .val (.int .i64 v1) })], gs := [], keep := some ([1, 2], [(1, 1), (2, 2)]) }), (6, { told := [], gs := [], keep := some ([2, 3], [(2, 2)]) })] 400 (ev := .ret) (σ' := mkS 17 [(2, .lptr 2 0 0), (3, .int .i64 0)] [(2, { sz := 3, rows := [[.int .i64 v1, .int .u8 x0.f_Base, .str x0.f_Name]], frz := 0, pure := false })]) (q := [True ∧ (IntKind.wrap .i64 (x0.f_Dim - (1 : Int)) = v1), True ∧ (0 ≤ 0 ∧ 0 + ([.int .i64 v1] : List D).length ≤ ([.int .i64 x0.f_Dim, .int .u8 x0.f_Base, .str x0.f_Name] : List D).length ∧ ([[.int .i64 v1, .int .u8 x0.f_Base, .str x0.f_Name]] : List (List D)) = ([[.int .i64 v1, .int .u8 x0.f_Base, .str x0.f_Name]] : List (List D))), True ∧ (0 ≤ 0 ∧ 0 + ([.int .i64 v1, .int .u8 x0.f_Base, .str x0.f_Name] : List D).length ≤ ([.int .i64 0, .int .u8 0, .str []] : List D).length ∧ ([[.int .i64 v1, .int .u8 x0.f_Base, .str x0.f_Name]] : List (List D)) = ([[.int .i64 v1, .int .u8 x0.f_Base, .str x0.f_Name]] : List (List D)))]) (by kernel_rfl) ⟨⟨trivial, someE e1⟩, ⟨trivial, ⟨Nat.zero_le _, Nat.le_of_ble_eq_true rfl, rfl⟩⟩, ⟨trivial, ⟨Nat.zero_le _, Nat.le_of_ble_eq_true rfl, rfl⟩⟩, trivial⟩ ?_
      refine EvOk.ret ?_
      obtain rfl := someE h
      exact Den.Ends.mk (.inl rfl) (d := .tup [.agg [.int .i64 v1, .int .u8 x0.f_Base, .str x0.f_Name], .int .i64 0]) (p := (True ∧ (True ∧ True)) ∧ ((True ∧ (True ∧ (True ∧ True))) ∧ (True ∧ True))) (by kernel_rfl) ⟨⟨trivial, ⟨trivial, trivial⟩⟩, ⟨⟨trivial, ⟨trivial, ⟨trivial, trivial⟩⟩⟩, ⟨trivial, trivial⟩⟩⟩ (by kernel_rfl)
theorem w27 {x0 : T_api_Type} {r : T_api_Type × Int} (h : m_desc_Element x0 = some r) : CallSpec Try.prog 27 [.agg (row_T_api_Type x0)] (.tup [.agg (row_T_api_Type r.1), .int .i64 r.2]) :=
  CallSpec.at2 b27 (n := 17) (l := [(0, .agg (row_T_api_Type x0))]) (by kernel_rfl) (by kernel_rfl) (by kernel_rfl) (by kernel_rfl) (by kernel_rfl) (Nat.le_of_ble_eq_true (by kernel_rfl)) (fun Γ => we27 x0 r h Γ)

/-! ### armature armatureref04.Element -/
noncomputable def b29 : Code := Try.f29.body.getD .skip
noncomputable def c29x0 : Code := sub1 b29
noncomputable def c29x1 : Code := sub1 c29x0
noncomputable def c29x2 : Code := sub0 c29x1
noncomputable def c29x3 : Code := sub1 c29x2
noncomputable def c29x4 : Code := sub0 c29x3
noncomputable def c29x5 : Code := sub1 c29x3
noncomputable def c29x6 : Code := sub1 c29x1
noncomputable def c29x7 : Code := sub0 c29x0
noncomputable def c29x8 : Code := sub1 c29x7
noncomputable def c29x9 : Code := sub0 c29x8
noncomputable def c29x10 : Code := sub1 c29x8
def m_armatureref04_Element (x0 : T_api_Type) : Option (T_api_Type × Int) :=
  (m_armatureref04_Valid ({ f_Dim := x0.f_Dim, f_Base := x0.f_Base, f_Name := x0.f_Name } : T_api_Type)).bind fun v0 =>
  if (!v0) = true then
    (some (({ f_Dim := 0, f_Base := 0, f_Name := [] } : T_api_Type), 13)) else
  (if (x0.f_Dim == 0) = true then
      (some (({ f_Dim := 0, f_Base := 0, f_Name := [] } : T_api_Type), 1)) else
    ((some (IntKind.wrap .i64 (x0.f_Dim - (1 : Int)))).bind fun v1 =>
      some (({ f_Dim := v1, f_Base := x0.f_Base, f_Name := x0.f_Name } : T_api_Type), 0)))
theorem we29 (x0 : T_api_Type) (r : T_api_Type × Int) (h : m_armatureref04_Element x0 = some r) (Γ : Ctx) : At Try.prog Γ b29 [] (Den.Ends Try.prog Try.f29 (.tup [.agg (row_T_api_Type r.1), .int .i64 r.2])) (mkS 17 [(0, .agg (row_T_api_Type x0))] []) := by
  obtain ⟨v0, e0, h⟩ := bindE h
  refine At.adv [] [(0, { told := [], gs := [], keep := some ([1, 2], [(1, 1), (2, 2)]) }), (1, { told := [(1, { ans := .val (.bool v0), args := [.agg [.int .i64 x0.f_Dim, .int .u8 x0.f_Base, .str x0.f_Name]] })], gs := [], keep := some ([1, 2, 6], [(1, 1), (2, 2)]) })] 400 (ev := .cond (!v0) c29x9 c29x10 [.seq c29x1]) (σ' := mkS 17 [(1, .lptr 1 0 0), (2, .lptr 2 0 0), (6, .bool (!v0))] [(1, { sz := 3, rows := [[.int .i64 x0.f_Dim, .int .u8 x0.f_Base, .str x0.f_Name]], frz := 0, pure := false }), (2, { sz := 3, rows := [[.int .i64 0, .int .u8 0, .str []]], frz := 0, pure := false })]) (q := [True ∧ (((True ∧ (True ∧ (True ∧ True))) ∧ True) ∧ ([.agg [.int .i64 x0.f_Dim, .int .u8 x0.f_Base, .str x0.f_Name]] : List D) = [.agg [.int .i64 x0.f_Dim, .int .u8 x0.f_Base, .str x0.f_Name]] ∧ CallAny Try.prog 32 [.agg [.int .i64 x0.f_Dim, .int .u8 x0.f_Base, .str x0.f_Name]] (.bool v0))]) (by kernel_rfl) ⟨⟨trivial, ⟨⟨⟨trivial, ⟨trivial, ⟨trivial, trivial⟩⟩⟩, trivial⟩, rfl, .inl (w32 e0)⟩⟩, trivial⟩ ?_
  refine EvOk.cond (fun h0 => ?_) (fun h0 => ?_)
  · replace h := iteT h0 h
    refine At.gc [2] [(2, 2)] (n := 17) (l := [(2, .lptr 2 0 0)]) (bl := [(2, { sz := 3, rows := [[.int .i64 0, .int .u8 0, .str []]], frz := 0, pure := false })]) (by kernel_rfl) ?_
    refine At.adv [] [(2, { told := [], gs := [], keep := some ([2, 3], [(2, 2)]) })] 400 (ev := .ret) (σ' := mkS 17 [(2, .lptr 2 0 0), (3, .int .i64 13)] [(2, { sz := 3, rows := [[.int .i64 0, .int .u8 0, .str []]], frz := 0, pure := false })]) (q := [True ∧ (0 ≤ 0 ∧ 0 + ([.int .i64 0, .int .u8 0, .str []] : List D).length ≤ ([.int .i64 0, .int .u8 0, .str []] : List D).length ∧ ([[.int .i64 0, .int .u8 0, .str []]] : List (List D)) = ([[.int .i64 0, .int .u8 0, .str []]] : List (List D)))]) (by kernel_rfl) ⟨⟨trivial, ⟨Nat.zero_le _, Nat.le_of_ble_eq_true rfl, rfl⟩⟩, trivial⟩ ?_
    refine EvOk.ret ?_
    obtain rfl := someE h
    exact Den.Ends.mk (.inl rfl) (d := .tup [.agg [.int .i64 0, .int .u8 0, .str []], .int .i64 13]) (p := (True ∧ (True ∧ True)) ∧ ((True ∧ (True ∧ (True ∧ True))) ∧ (True ∧ True))) (by kernel_rfl) ⟨⟨trivial, ⟨trivial, trivial⟩⟩, ⟨⟨trivial, ⟨trivial, ⟨trivial, trivial⟩⟩⟩, ⟨trivial, trivial⟩⟩⟩ (by kernel_rfl)
  · replace h := iteF h0 h
    refine At.gc [1, 2] [(1, 1), (2, 2)] (n := 17) (l := [(1, .lptr 1 0 0), (2, .lptr 2 0 0)]) (bl := [(1, { sz := 3, rows := [[.int .i64 x0.f_Dim, .int .u8 x0.f_Base, .str x0.f_Name]], frz := 0, pure := false }), (2, { sz := 3, rows := [[.int .i64 0, .int .u8 0, .str []]], frz := 0, pure := false })]) (by kernel_rfl) ?_
    refine At.adv [] [(3, { told := [], gs := [], keep := some ([1, 2, 10], [(1, 1), (2, 2)]) })] 400 (ev := .cond (x0.f_Dim == 0) c29x4 c29x5 [.seq c29x6]) (σ' := mkS 17 [(1, .lptr 1 0 0), (2, .lptr 2 0 0), (10, .bool (x0.f_Dim == 0))] [(1, { sz := 3, rows := [[.int .i64 x0.f_Dim, .int .u8 x0.f_Base, .str x0.f_Name]], frz := 0, pure := false }), (2, { sz := 3, rows := [[.int .i64 0, .int .u8 0, .str []]], frz := 0, pure := false })]) (q := []) (by kernel_rfl) trivial ?_
    refine EvOk.cond (fun h1 => ?_) (fun h1 => ?_)
    · replace h := iteT h1 h
      refine At.gc [2] [(2, 2)] (n := 17) (l := [(2, .lptr 2 0 0)]) (bl := [(2, { sz := 3, rows := [[.int .i64 0, .int .u8 0, .str []]], frz := 0, pure := false })]) (by kernel_rfl) ?_
      refine At.adv [] [(4, { told := [], gs := [], keep := some ([2, 3], [(2, 2)]) })] 400 (ev := .ret) (σ' := mkS 17 [(2, .lptr 2 0 0), (3, .int .i64 1)] [(2, { sz := 3, rows := [[.int .i64 0, .int .u8 0, .str []]], frz := 0, pure := false })]) (q := [True ∧ (0 ≤ 0 ∧ 0 + ([.int .i64 0, .int .u8 0, .str []] : List D).length ≤ ([.int .i64 0, .int .u8 0, .str []] : List D).length ∧ ([[.int .i64 0, .int .u8 0, .str []]] : List (List D)) = ([[.int .i64 0, .int .u8 0, .str []]] : List (List D)))]) (by kernel_rfl) ⟨⟨trivial, ⟨Nat.zero_le _, Nat.le_of_ble_eq_true rfl, rfl⟩⟩, trivial⟩ ?_
      refine EvOk.ret ?_
      obtain rfl := someE h
      exact Den.Ends.mk (.inl rfl) (d := .tup [.agg [.int .i64 0, .int .u8 0, .str []], .int .i64 1]) (p := (True ∧ (True ∧ True)) ∧ ((True ∧ (True ∧ (True ∧ True))) ∧ (True ∧ True))) (by kernel_rfl) ⟨⟨trivial, ⟨trivial, trivial⟩⟩, ⟨⟨trivial, ⟨trivial, ⟨trivial, trivial⟩⟩⟩, ⟨trivial, trivial⟩⟩⟩ (by kernel_rfl)
    · replace h := iteF h1 h
      refine At.gc [1, 2] [(1, 1), (2, 2)] (n := 17) (l := [(1, .lptr 1 0 0), (2, .lptr 2 0 0)]) (bl := [(1, { sz := 3, rows := [[.int .i64 x0.f_Dim, .int .u8 x0.f_Base, .str x0.f_Name]], frz := 0, pure := false }), (2, { sz := 3, rows := [[.int .i64 0, .int .u8 0, .str []]], frz := 0, pure := false })]) (by kernel_rfl) ?_
      obtain ⟨v1, e1, h⟩ := bindE h
      refine At.adv [] [(5, { told := [(2, { ans := .val (.int .i64 v1) })], gs := [], keep := some ([1, 2], [(1, 1), (2, 2)]) }), (6, { told := [], gs := [], keep := some ([2, 3], [(2, 2)]) })] 400 (ev := .ret) (σ' := mkS 17 [(2, .lptr 2 0 0), (3, .int .i64 0)] [(2, { sz := 3, rows := [[.int .i64 v1, .int .u8 x0.f_Base, .str x0.f_Name]], frz := 0, pure := false })]) (q := [True ∧ (IntKind.wrap .i64 (x0.f_Dim - (1 : Int)) = v1), True ∧ (0 ≤ 0 ∧ 0 + ([.int .i64 v1] : List D).length ≤ ([.int .i64 x0.f_Dim, .int .u8 x0.f_Base, .str x0.f_Name] : List D).length ∧ ([[.int .i64 v1, .int .u8 x0.f_Base, .str x0.f_Name]] : List (List D)) = ([[.int .i64 v1, .int .u8 x0.f_Base, .str x0.f_Name]] : List (List D))), True ∧ (0 ≤ 0 ∧ 0 + ([.int .i64 v1, .int .u8 x0.f_Base, .str x0.f_Name] : List D).length ≤ ([.int .i64 0, .int .u8 0, .str []] : List D).length ∧ ([[.int .i64 v1, .int .u8 x0.f_Base, .str x0.f_Name]] : List (List D)) = ([[.int .i64 v1, .int .u8 x0.f_Base, .str x0.f_Name]] : List (List D)))]) (by kernel_rfl) ⟨⟨trivial, someE e1⟩, ⟨trivial, ⟨Nat.zero_le _, Nat.le_of_ble_eq_true rfl, rfl⟩⟩, ⟨trivial, ⟨Nat.zero_le _, Nat.le_of_ble_eq_true rfl, rfl⟩⟩, trivial⟩ ?_
      refine EvOk.ret ?_
      obtain rfl := someE h
      exact Den.Ends.mk (.inl rfl) (d := .tup [.agg [.int .i64 v1, .int .u8 x0.f_Base, .str x0.f_Name], .int .i64 0]) (p := (True ∧ (True ∧ True)) ∧ ((True ∧ (True ∧ (True ∧ True))) ∧ (True ∧ True))) (by kernel_rfl) ⟨⟨trivial, ⟨trivial, trivial⟩⟩, ⟨⟨trivial, ⟨trivial, ⟨trivial, trivial⟩⟩⟩, ⟨trivial, trivial⟩⟩⟩ (by kernel_rfl)
theorem w29 {x0 : T_api_Type} {r : T_api_Type × Int} (h : m_armatureref04_Element x0 = some r) : CallSpec Try.prog 29 [.agg (row_T_api_Type x0)] (.tup [.agg (row_T_api_Type r.1), .int .i64 r.2]) :=
  CallSpec.at2 b29 (n := 17) (l := [(0, .agg (row_T_api_Type x0))]) (by kernel_rfl) (by kernel_rfl) (by kernel_rfl) (by kernel_rfl) (by kernel_rfl) (Nat.le_of_ble_eq_true (by kernel_rfl)) (fun Γ => we29 x0 r h Γ)

/-! ### armature armatureref04.ArrayOf -/
noncomputable def b30 : Code := Try.f30.body.getD .skip
noncomputable def c30x0 : Code := sub1 b30
noncomputable def c30x1 : Code := sub1 c30x0
noncomputable def c30x2 : Code := sub1 c30x1
noncomputable def c30x3 : Code := sub0 c30x2
noncomputable def c30x4 : Code := sub1 c30x3
noncomputable def c30x5 : Code := sub0 c30x4
noncomputable def c30x6 : Code := sub1 c30x4
noncomputable def c30x7 : Code := sub1 c30x2
noncomputable def c30x8 : Code := sub0 c30x1
noncomputable def c30x9 : Code := sub1 c30x8
noncomputable def c30x10 : Code := sub0 c30x9
noncomputable def c30x11 : Code := sub1 c30x9
noncomputable def c30x12 : Code := sub0 c30x0
noncomputable def c30x13 : Code := sub1 c30x12
noncomputable def c30x14 : Code := sub0 c30x13
noncomputable def c30x15 : Code := sub1 c30x13
def m_armatureref04_ArrayOf (x0 : T_api_Type) : Option (T_api_Type × Int) :=
  (m_armatureref04_Valid ({ f_Dim := x0.f_Dim, f_Base := x0.f_Base, f_Name := x0.f_Name } : T_api_Type)).bind fun v0 =>
  if (!v0) = true then
    (some (({ f_Dim := 0, f_Base := 0, f_Name := [] } : T_api_Type), 13)) else
  (if (x0.f_Base == 86) = true then
      (some (({ f_Dim := 0, f_Base := 0, f_Name := [] } : T_api_Type), 1)) else
    (if (x0.f_Dim == 8) = true then
        (some (({ f_Dim := 0, f_Base := 0, f_Name := [] } : T_api_Type), 9)) else
      ((some (IntKind.wrap .i64 (x0.f_Dim + (1 : Int)))).bind fun v1 =>
        some (({ f_Dim := v1, f_Base := x0.f_Base, f_Name := x0.f_Name } : T_api_Type), 0))))
theorem we30 (x0 : T_api_Type) (r : T_api_Type × Int) (h : m_armatureref04_ArrayOf x0 = some r) (Γ : Ctx) : At Try.prog Γ b30 [] (Den.Ends Try.prog Try.f30 (.tup [.agg (row_T_api_Type r.1), .int .i64 r.2])) (mkS 21 [(0, .agg (row_T_api_Type x0))] []) := by
  obtain ⟨v0, e0, h⟩ := bindE h
  refine At.adv [] [(0, { told := [], gs := [], keep := some ([1, 2], [(1, 1), (2, 2)]) }), (1, { told := [(1, { ans := .val (.bool v0), args := [.agg [.int .i64 x0.f_Dim, .int .u8 x0.f_Base, .str x0.f_Name]] })], gs := [], keep := some ([1, 2, 6], [(1, 1), (2, 2)]) })] 400 (ev := .cond (!v0) c30x14 c30x15 [.seq c30x1]) (σ' := mkS 21 [(1, .lptr 1 0 0), (2, .lptr 2 0 0), (6, .bool (!v0))] [(1, { sz := 3, rows := [[.int .i64 x0.f_Dim, .int .u8 x0.f_Base, .str x0.f_Name]], frz := 0, pure := false }), (2, { sz := 3, rows := [[.int .i64 0, .int .u8 0, .str []]], frz := 0, pure := false })]) (q := [True ∧ (((True ∧ (True ∧ (True ∧ True))) ∧ True) ∧ ([.agg [.int .i64 x0.f_Dim, .int .u8 x0.f_Base, .str x0.f_Name]] : List D) = [.agg [.int .i64 x0.f_Dim, .int .u8 x0.f_Base, .str x0.f_Name]] ∧ CallAny Try.prog 32 [.agg [.int .i64 x0.f_Dim, .int .u8 x0.f_Base, .str x0.f_Name]] (.bool v0))]) (by kernel_rfl) ⟨⟨trivial, ⟨⟨⟨trivial, ⟨trivial, ⟨trivial, trivial⟩⟩⟩, trivial⟩, rfl, .inl (w32 e0)⟩⟩, trivial⟩ ?_
  refine EvOk.cond (fun h0 => ?_) (fun h0 => ?_)
  · replace h := iteT h0 h
    refine At.gc [2] [(2, 2)] (n := 21) (l := [(2, .lptr 2 0 0)]) (bl := [(2, { sz := 3, rows := [[.int .i64 0, .int .u8 0, .str []]], frz := 0, pure := false })]) (by kernel_rfl) ?_
    refine At.adv [] [(2, { told := [], gs := [], keep := some ([2, 3], [(2, 2)]) })] 400 (ev := .ret) (σ' := mkS 21 [(2, .lptr 2 0 0), (3, .int .i64 13)] [(2, { sz := 3, rows := [[.int .i64 0, .int .u8 0, .str []]], frz := 0, pure := false })]) (q := [True ∧ (0 ≤ 0 ∧ 0 + ([.int .i64 0, .int .u8 0, .str []] : List D).length ≤ ([.int .i64 0, .int .u8 0, .str []] : List D).length ∧ ([[.int .i64 0, .int .u8 0, .str []]] : List (List D)) = ([[.int .i64 0, .int .u8 0, .str []]] : List (List D)))]) (by kernel_rfl) ⟨⟨trivial, ⟨Nat.zero_le _, Nat.le_of_ble_eq_true rfl, rfl⟩⟩, trivial⟩ ?_
    refine EvOk.ret ?_
    obtain rfl := someE h
    exact Den.Ends.mk (.inl rfl) (d := .tup [.agg [.int .i64 0, .int .u8 0, .str []], .int .i64 13]) (p := (True ∧ (True ∧ True)) ∧ ((True ∧ (True ∧ (True ∧ True))) ∧ (True ∧ True))) (by kernel_rfl) ⟨⟨trivial, ⟨trivial, trivial⟩⟩, ⟨⟨trivial, ⟨trivial, ⟨trivial, trivial⟩⟩⟩, ⟨trivial, trivial⟩⟩⟩ (by kernel_rfl)
  · replace h := iteF h0 h
    refine At.gc [1, 2] [(1, 1), (2, 2)] (n := 21) (l := [(1, .lptr 1 0 0), (2, .lptr 2 0 0)]) (bl := [(1, { sz := 3, rows := [[.int .i64 x0.f_Dim, .int .u8 x0.f_Base, .str x0.f_Name]], frz := 0, pure := false }), (2, { sz := 3, rows := [[.int .i64 0, .int .u8 0, .str []]], frz := 0, pure := false })]) (by kernel_rfl) ?_
    refine At.adv [] [(3, { told := [], gs := [], keep := some ([1, 2, 10], [(1, 1), (2, 2)]) })] 400 (ev := .cond (x0.f_Base == 86) c30x10 c30x11 [.seq c30x2]) (σ' := mkS 21 [(1, .lptr 1 0 0), (2, .lptr 2 0 0), (10, .bool (x0.f_Base == 86))] [(1, { sz := 3, rows := [[.int .i64 x0.f_Dim, .int .u8 x0.f_Base, .str x0.f_Name]], frz := 0, pure := false }), (2, { sz := 3, rows := [[.int .i64 0, .int .u8 0, .str []]], frz := 0, pure := false })]) (q := []) (by kernel_rfl) trivial ?_
    refine EvOk.cond (fun h1 => ?_) (fun h1 => ?_)
    · replace h := iteT h1 h
      refine At.gc [2] [(2, 2)] (n := 21) (l := [(2, .lptr 2 0 0)]) (bl := [(2, { sz := 3, rows := [[.int .i64 0, .int .u8 0, .str []]], frz := 0, pure := false })]) (by kernel_rfl) ?_
      refine At.adv [] [(4, { told := [], gs := [], keep := some ([2, 3], [(2, 2)]) })] 400 (ev := .ret) (σ' := mkS 21 [(2, .lptr 2 0 0), (3, .int .i64 1)] [(2, { sz := 3, rows := [[.int .i64 0, .int .u8 0, .str []]], frz := 0, pure := false })]) (q := [True ∧ (0 ≤ 0 ∧ 0 + ([.int .i64 0, .int .u8 0, .str []] : List D).length ≤ ([.int .i64 0, .int .u8 0, .str []] : List D).length ∧ ([[.int .i64 0, .int .u8 0, .str []]] : List (List D)) = ([[.int .i64 0, .int .u8 0, .str []]] : List (List D)))]) (by kernel_rfl) ⟨⟨trivial, ⟨Nat.zero_le _, Nat.le_of_ble_eq_true rfl, rfl⟩⟩, trivial⟩ ?_
      refine EvOk.ret ?_
      obtain rfl := someE h
      exact Den.Ends.mk (.inl rfl) (d := .tup [.agg [.int .i64 0, .int .u8 0, .str []], .int .i64 1]) (p := (True ∧ (True ∧ True)) ∧ ((True ∧ (True ∧ (True ∧ True))) ∧ (True ∧ True))) (by kernel_rfl) ⟨⟨trivial, ⟨trivial, trivial⟩⟩, ⟨⟨trivial, ⟨trivial, ⟨trivial, trivial⟩⟩⟩, ⟨trivial, trivial⟩⟩⟩ (by kernel_rfl)
    · replace h := iteF h1 h
      refine At.gc [1, 2] [(1, 1), (2, 2)] (n := 21) (l := [(1, .lptr 1 0 0), (2, .lptr 2 0 0)]) (bl := [(1, { sz := 3, rows := [[.int .i64 x0.f_Dim, .int .u8 x0.f_Base, .str x0.f_Name]], frz := 0, pure := false }), (2, { sz := 3, rows := [[.int .i64 0, .int .u8 0, .str []]], frz := 0, pure := false })]) (by kernel_rfl) ?_
      refine At.adv [] [(5, { told := [], gs := [], keep := some ([1, 2, 14], [(1, 1), (2, 2)]) })] 400 (ev := .cond (x0.f_Dim == 8) c30x5 c30x6 [.seq c30x7]) (σ' := mkS 21 [(1, .lptr 1 0 0), (2, .lptr 2 0 0), (14, .bool (x0.f_Dim == 8))] [(1, { sz := 3, rows := [[.int .i64 x0.f_Dim, .int .u8 x0.f_Base, .str x0.f_Name]], frz := 0, pure := false }), (2, { sz := 3, rows := [[.int .i64 0, .int .u8 0, .str []]], frz := 0, pure := false })]) (q := []) (by kernel_rfl) trivial ?_
      refine EvOk.cond (fun h2 => ?_) (fun h2 => ?_)
      · replace h := iteT h2 h
        refine At.gc [2] [(2, 2)] (n := 21) (l := [(2, .lptr 2 0 0)]) (bl := [(2, { sz := 3, rows := [[.int .i64 0, .int .u8 0, .str []]], frz := 0, pure := false })]) (by kernel_rfl) ?_
        refine At.adv [] [(6, { told := [], gs := [], keep := some ([2, 3], [(2, 2)]) })] 400 (ev := .ret) (σ' := mkS 21 [(2, .lptr 2 0 0), (3, .int .i64 9)] [(2, { sz := 3, rows := [[.int .i64 0, .int .u8 0, .str []]], frz := 0, pure := false })]) (q := [True ∧ (0 ≤ 0 ∧ 0 + ([.int .i64 0, .int .u8 0, .str []] : List D).length ≤ ([.int .i64 0, .int .u8 0, .str []] : List D).length ∧ ([[.int .i64 0, .int .u8 0, .str []]] : List (List D)) = ([[.int .i64 0, .int .u8 0, .str []]] : List (List D)))]) (by kernel_rfl) ⟨⟨trivial, ⟨Nat.zero_le _, Nat.le_of_ble_eq_true rfl, rfl⟩⟩, trivial⟩ ?_
        refine EvOk.ret ?_
        obtain rfl := someE h
        exact Den.Ends.mk (.inl rfl) (d := .tup [.agg [.int .i64 0, .int .u8 0, .str []], .int .i64 9]) (p := (True ∧ (True ∧ True)) ∧ ((True ∧ (True ∧ (True ∧ True))) ∧ (True ∧ True))) (by kernel_rfl) ⟨⟨trivial, ⟨trivial, trivial⟩⟩, ⟨⟨trivial, ⟨trivial, ⟨trivial, trivial⟩⟩⟩, ⟨trivial, trivial⟩⟩⟩ (by kernel_rfl)
      · replace h := iteF h2 h
        refine At.gc [1, 2] [(1, 1), (2, 2)] (n := 21) (l := [(1, .lptr 1 0 0), (2, .lptr 2 0 0)]) (bl := [(1, { sz := 3, rows := [[.int .i64 x0.f_Dim, .int .u8 x0.f_Base, .str x0.f_Name]], frz := 0, pure := false }), (2, { sz := 3, rows := [[.int .i64 0, .int .u8 0, .str []]], frz := 0, pure := false })]) (by kernel_rfl) ?_
        obtain ⟨v1, e1, h⟩ := bindE h
        refine At.adv [] [(7, { told := [(2, { ans := .val (.int .i64 v1) })], gs := [], keep := some ([1, 2], [(1, 1), (2, 2)]) }), (8, { told := [], gs := [], keep := some ([2, 3], [(2, 2)]) })] 400 (ev := .ret) (σ' := mkS 21 [(2, .lptr 2 0 0), (3, .int .i64 0)] [(2, { sz := 3, rows := [[.int .i64 v1, .int .u8 x0.f_Base, .str x0.f_Name]], frz := 0, pure := false })]) (q := [True ∧ (IntKind.wrap .i64 (x0.f_Dim + (1 : Int)) = v1), True ∧ (0 ≤ 0 ∧ 0 + ([.int .i64 v1] : List D).length ≤ ([.int .i64 x0.f_Dim, .int .u8 x0.f_Base, .str x0.f_Name] : List D).length ∧ ([[.int .i64 v1, .int .u8 x0.f_Base, .str x0.f_Name]] : List (List D)) = ([[.int .i64 v1, .int .u8 x0.f_Base, .str x0.f_Name]] : List (List D))), True ∧ (0 ≤ 0 ∧ 0 + ([.int .i64 v1, .int .u8 x0.f_Base, .str x0.f_Name] : List D).length ≤ ([.int .i64 0, .int .u8 0, .str []] : List D).length ∧ ([[.int .i64 v1, .int .u8 x0.f_Base, .str x0.f_Name]] : List (List D)) = ([[.int .i64 v1, .int .u8 x0.f_Base, .str x0.f_Name]] : List (List D)))]) (by kernel_rfl) ⟨⟨trivial, someE e1⟩, ⟨trivial, ⟨Nat.zero_le _, Nat.le_of_ble_eq_true rfl, rfl⟩⟩, ⟨trivial, ⟨Nat.zero_le _, Nat.le_of_ble_eq_true rfl, rfl⟩⟩, trivial⟩ ?_
        refine EvOk.ret ?_
        obtain rfl := someE h
        exact Den.Ends.mk (.inl rfl) (d := .tup [.agg [.int .i64 v1, .int .u8 x0.f_Base, .str x0.f_Name], .int .i64 0]) (p := (True ∧ (True ∧ True)) ∧ ((True ∧ (True ∧ (True ∧ True))) ∧ (True ∧ True))) (by kernel_rfl) ⟨⟨trivial, ⟨trivial, trivial⟩⟩, ⟨⟨trivial, ⟨trivial, ⟨trivial, trivial⟩⟩⟩, ⟨trivial, trivial⟩⟩⟩ (by kernel_rfl)
theorem w30 {x0 : T_api_Type} {r : T_api_Type × Int} (h : m_armatureref04_ArrayOf x0 = some r) : CallSpec Try.prog 30 [.agg (row_T_api_Type x0)] (.tup [.agg (row_T_api_Type r.1), .int .i64 r.2]) :=
  CallSpec.at2 b30 (n := 21) (l := [(0, .agg (row_T_api_Type x0))]) (by kernel_rfl) (by kernel_rfl) (by kernel_rfl) (by kernel_rfl) (by kernel_rfl) (Nat.le_of_ble_eq_true (by kernel_rfl)) (fun Γ => we30 x0 r h Γ)

/-! ### armature armatureref04.FormatClassConstant -/
noncomputable def b31 : Code := Try.f31.body.getD .skip
noncomputable def c31x0 : Code := sub1 b31
noncomputable def c31x1 : Code := sub1 c31x0
noncomputable def c31x2 : Code := sub1 c31x1
noncomputable def c31x3 : Code := sub0 c31x2
noncomputable def c31x4 : Code := sub0 c31x3
noncomputable def c31x5 : Code := sub1 c31x3
noncomputable def c31x6 : Code := sub1 c31x2
noncomputable def c31x7 : Code := sub0 c31x1
noncomputable def c31x8 : Code := sub1 c31x7
noncomputable def c31x9 : Code := sub0 c31x8
noncomputable def c31x10 : Code := sub1 c31x8
noncomputable def c31x11 : Code := sub0 c31x0
noncomputable def c31x12 : Code := sub1 c31x11
noncomputable def c31x13 : Code := sub0 c31x12
noncomputable def c31x14 : Code := sub1 c31x12
noncomputable def c31x15 : Code := sub0 c31x5
noncomputable def c31x16 : Code := sub1 c31x5
def j31x1 (x0 : T_api_Type) : Option ((List UInt8) × Int) :=
  if (x0.f_Dim == 0) = true then
    (some (x0.f_Name, 0)) else
  ((m_armatureref04_Format x0).bind fun v1 =>
    some (v1.1, v1.2))
def m_armatureref04_FormatClassConstant (x0 : T_api_Type) : Option ((List UInt8) × Int) :=
  (m_armatureref04_Valid x0).bind fun v0 =>
  if (!v0) = true then
    (some ([], 13)) else
  (if (x0.f_Dim == 0) = true then (if (x0.f_Base != 76) = true then
      (some ([], 1)) else
    ((j31x1 x0) )) else
    ((j31x1 x0) ))
theorem wj31x1 (x0 : T_api_Type) (r : (List UInt8) × Int) (h : (j31x1 x0)  = some r) (Γ : Ctx) : EvOk Try.prog Γ (Den.Ends Try.prog Try.f31 (.tup [.str r.1, .int .i64 r.2])) (mkS 24 [(1, .ptr [.int .i64 x0.f_Dim, .int .u8 x0.f_Base, .str x0.f_Name])] []) (.stop c31x4 [.seq c31x5, .seq c31x6]) := by
  refine EvOk.stop ?_
  refine At.adv [] [(5, { told := [], gs := [], keep := some ([1, 17], []) })] 400 (ev := .cond (x0.f_Dim == 0) c31x15 c31x16 [.seq c31x6]) (σ' := mkS 24 [(1, .ptr [.int .i64 x0.f_Dim, .int .u8 x0.f_Base, .str x0.f_Name]), (17, .bool (x0.f_Dim == 0))] []) (q := []) (by kernel_rfl) trivial ?_
  refine EvOk.cond (fun h3 => ?_) (fun h3 => ?_)
  · replace h := iteT h3 h
    refine At.gc [1] [] (n := 24) (l := [(1, .ptr [.int .i64 x0.f_Dim, .int .u8 x0.f_Base, .str x0.f_Name])]) (bl := []) (by kernel_rfl) ?_
    refine At.adv [] [(6, { told := [], gs := [], keep := some ([2, 3], []) })] 400 (ev := .ret) (σ' := mkS 24 [(2, .str x0.f_Name), (3, .int .i64 0)] []) (q := []) (by kernel_rfl) trivial ?_
    refine EvOk.ret ?_
    obtain rfl := someE h
    exact Den.Ends.mk (.inl rfl) (d := .tup [.str x0.f_Name, .int .i64 0]) (p := (True ∧ (True ∧ True)) ∧ (True ∧ (True ∧ True))) (by kernel_rfl) ⟨⟨trivial, ⟨trivial, trivial⟩⟩, ⟨trivial, ⟨trivial, trivial⟩⟩⟩ (by kernel_rfl)
  · replace h := iteF h3 h
    refine At.gc [1] [] (n := 24) (l := [(1, .ptr [.int .i64 x0.f_Dim, .int .u8 x0.f_Base, .str x0.f_Name])]) (bl := []) (by kernel_rfl) ?_
    obtain ⟨v1, e1, h⟩ := bindE h
    refine At.adv [] [(7, { told := [(1, { ans := .val (.tup [.str v1.1, .int .i64 v1.2]), args := [.agg [.int .i64 x0.f_Dim, .int .u8 x0.f_Base, .str x0.f_Name]] })], gs := [], keep := some ([2, 3], []) })] 400 (ev := .ret) (σ' := mkS 24 [(2, .str v1.1), (3, .int .i64 v1.2)] []) (q := [True ∧ (((True ∧ (True ∧ (True ∧ True))) ∧ True) ∧ ([.agg [.int .i64 x0.f_Dim, .int .u8 x0.f_Base, .str x0.f_Name]] : List D) = [.agg [.int .i64 x0.f_Dim, .int .u8 x0.f_Base, .str x0.f_Name]] ∧ CallAny Try.prog 28 [.agg [.int .i64 x0.f_Dim, .int .u8 x0.f_Base, .str x0.f_Name]] (.tup [.str v1.1, .int .i64 v1.2]))]) (by kernel_rfl) ⟨⟨trivial, ⟨⟨⟨trivial, ⟨trivial, ⟨trivial, trivial⟩⟩⟩, trivial⟩, rfl, .inl (w28 e1)⟩⟩, trivial⟩ ?_
    refine EvOk.ret ?_
    obtain rfl := someE h
    exact Den.Ends.mk (.inl rfl) (d := .tup [.str v1.1, .int .i64 v1.2]) (p := (True ∧ (True ∧ True)) ∧ (True ∧ (True ∧ True))) (by kernel_rfl) ⟨⟨trivial, ⟨trivial, trivial⟩⟩, ⟨trivial, ⟨trivial, trivial⟩⟩⟩ (by kernel_rfl)
theorem we31 (x0 : T_api_Type) (r : (List UInt8) × Int) (h : m_armatureref04_FormatClassConstant x0 = some r) (Γ : Ctx) : At Try.prog Γ b31 [] (Den.Ends Try.prog Try.f31 (.tup [.str r.1, .int .i64 r.2])) (mkS 24 [(0, .agg (row_T_api_Type x0))] []) := by
  obtain ⟨v0, e0, h⟩ := bindE h
  refine At.adv [] [(0, { told := [(0, { ro := true })], gs := [], keep := some ([1], []) }), (1, { told := [(1, { ans := .val (.bool v0), args := [.agg [.int .i64 x0.f_Dim, .int .u8 x0.f_Base, .str x0.f_Name]] })], gs := [], keep := some ([1, 6], []) })] 400 (ev := .cond (!v0) c31x13 c31x14 [.seq c31x1]) (σ' := mkS 24 [(1, .ptr [.int .i64 x0.f_Dim, .int .u8 x0.f_Base, .str x0.f_Name]), (6, .bool (!v0))] []) (q := [True ∧ (((True ∧ (True ∧ (True ∧ True))) ∧ True) ∧ ([.agg [.int .i64 x0.f_Dim, .int .u8 x0.f_Base, .str x0.f_Name]] : List D) = [.agg [.int .i64 x0.f_Dim, .int .u8 x0.f_Base, .str x0.f_Name]] ∧ CallAny Try.prog 32 [.agg [.int .i64 x0.f_Dim, .int .u8 x0.f_Base, .str x0.f_Name]] (.bool v0))]) (by kernel_rfl) ⟨⟨trivial, ⟨⟨⟨trivial, ⟨trivial, ⟨trivial, trivial⟩⟩⟩, trivial⟩, rfl, .inl (w32 e0)⟩⟩, trivial⟩ ?_
  refine EvOk.cond (fun h0 => ?_) (fun h0 => ?_)
  · replace h := iteT h0 h
    refine At.gc [] [] (n := 24) (l := []) (bl := []) (by kernel_rfl) ?_
    refine At.adv [] [(2, { told := [], gs := [], keep := some ([2, 3], []) })] 400 (ev := .ret) (σ' := mkS 24 [(2, .str []), (3, .int .i64 13)] []) (q := []) (by kernel_rfl) trivial ?_
    refine EvOk.ret ?_
    obtain rfl := someE h
    exact Den.Ends.mk (.inl rfl) (d := .tup [.str [], .int .i64 13]) (p := (True ∧ (True ∧ True)) ∧ (True ∧ (True ∧ True))) (by kernel_rfl) ⟨⟨trivial, ⟨trivial, trivial⟩⟩, ⟨trivial, ⟨trivial, trivial⟩⟩⟩ (by kernel_rfl)
  · replace h := iteF h0 h
    refine At.gc [1] [] (n := 24) (l := [(1, .ptr [.int .i64 x0.f_Dim, .int .u8 x0.f_Base, .str x0.f_Name])]) (bl := []) (by kernel_rfl) ?_
    rcases Bool.eq_false_or_eq_true (x0.f_Dim == 0) with h1 | h1
    · replace h := iteT h1 h
      refine At.adv [] [(3, { told := [(7, { ans := .yes })], gs := [(4, true), (5, true), (6, true)], keep := some ([1, 14], []) })] 400 (ev := .cond (x0.f_Base != 76) c31x9 c31x10 [.seq c31x2]) (σ' := mkS 24 [(1, .ptr [.int .i64 x0.f_Dim, .int .u8 x0.f_Base, .str x0.f_Name]), (14, .bool (x0.f_Base != 76))] []) (q := [((x0.f_Dim == 0) == true) = true ∧ True, ((x0.f_Dim == 0) == true) = true ∧ True, ((x0.f_Dim == 0) == true) = true ∧ True, True ∧ ((x0.f_Dim == 0) = true)]) (by kernel_rfl) ⟨⟨(gB h1 rfl), trivial⟩, ⟨(gB h1 rfl), trivial⟩, ⟨(gB h1 rfl), trivial⟩, ⟨trivial, h1⟩, trivial⟩ ?_
      refine EvOk.cond (fun h2 => ?_) (fun h2 => ?_)
      · replace h := iteT h2 h
        refine At.gc [] [] (n := 24) (l := []) (bl := []) (by kernel_rfl) ?_
        refine At.adv [] [(4, { told := [], gs := [], keep := some ([2, 3], []) })] 400 (ev := .ret) (σ' := mkS 24 [(2, .str []), (3, .int .i64 1)] []) (q := []) (by kernel_rfl) trivial ?_
        refine EvOk.ret ?_
        obtain rfl := someE h
        exact Den.Ends.mk (.inl rfl) (d := .tup [.str [], .int .i64 1]) (p := (True ∧ (True ∧ True)) ∧ (True ∧ (True ∧ True))) (by kernel_rfl) ⟨⟨trivial, ⟨trivial, trivial⟩⟩, ⟨trivial, ⟨trivial, trivial⟩⟩⟩ (by kernel_rfl)
      · replace h := iteF h2 h
        refine At.gc [1] [] (n := 24) (l := [(1, .ptr [.int .i64 x0.f_Dim, .int .u8 x0.f_Base, .str x0.f_Name])]) (bl := []) (by kernel_rfl) ?_
        refine At.adv [5] [] 400 (ev := .stop c31x4 [.seq c31x5, .seq c31x6]) (σ' := mkS 24 [(1, .ptr [.int .i64 x0.f_Dim, .int .u8 x0.f_Base, .str x0.f_Name])] []) (q := []) (by kernel_rfl) trivial ?_
        exact (wj31x1 x0)  r h Γ
    · replace h := iteF h1 h
      refine At.adv [] [(3, { told := [(7, { ans := .no })], gs := [(4, false), (5, false), (6, false)], keep := some ([1, 14], []) })] 400 (ev := .cond false c31x9 c31x10 [.seq c31x2]) (σ' := mkS 24 [(1, .ptr [.int .i64 x0.f_Dim, .int .u8 x0.f_Base, .str x0.f_Name]), (14, .bool false)] []) (q := [((x0.f_Dim == 0) == true) = false, ((x0.f_Dim == 0) == true) = false, ((x0.f_Dim == 0) == true) = false, True ∧ ((x0.f_Dim == 0) = false)]) (by kernel_rfl) ⟨gB h1 rfl, gB h1 rfl, gB h1 rfl, ⟨trivial, h1⟩, trivial⟩ ?_
      refine EvOk.cond (fun hb => Bool.noConfusion hb) (fun _ => ?_)
      refine At.gc [1] [] (n := 24) (l := [(1, .ptr [.int .i64 x0.f_Dim, .int .u8 x0.f_Base, .str x0.f_Name])]) (bl := []) (by kernel_rfl) ?_
      refine At.adv [5] [] 400 (ev := .stop c31x4 [.seq c31x5, .seq c31x6]) (σ' := mkS 24 [(1, .ptr [.int .i64 x0.f_Dim, .int .u8 x0.f_Base, .str x0.f_Name])] []) (q := []) (by kernel_rfl) trivial ?_
      exact (wj31x1 x0)  r h Γ
theorem w31 {x0 : T_api_Type} {r : (List UInt8) × Int} (h : m_armatureref04_FormatClassConstant x0 = some r) : CallSpec Try.prog 31 [.agg (row_T_api_Type x0)] (.tup [.str r.1, .int .i64 r.2]) :=
  CallSpec.at2 b31 (n := 24) (l := [(0, .agg (row_T_api_Type x0))]) (by kernel_rfl) (by kernel_rfl) (by kernel_rfl) (by kernel_rfl) (by kernel_rfl) (Nat.le_of_ble_eq_true (by kernel_rfl)) (fun Γ => we31 x0 r h Γ)

/-! ### armature desc.Kind -/
noncomputable def b33 : Code := Try.f33.body.getD .skip
noncomputable def c33x0 : Code := sub1 b33
noncomputable def c33x1 : Code := sub0 c33x0
noncomputable def c33x2 : Code := sub0 c33x1
noncomputable def c33x3 : Code := sub1 c33x2
noncomputable def c33x4 : Code := sub0 c33x3
noncomputable def c33x5 : Code := sub1 c33x3
noncomputable def c33x6 : Code := sub1 c33x0
noncomputable def c33x7 : Code := sub0 c33x5
noncomputable def c33x8 : Code := sub1 c33x5
noncomputable def c33x9 : Code := sub0 c33x8
noncomputable def c33x10 : Code := sub1 c33x8
noncomputable def c33x11 : Code := sub0 c33x10
noncomputable def c33x12 : Code := sub1 c33x10
noncomputable def c33x13 : Code := sub0 c33x12
noncomputable def c33x14 : Code := sub1 c33x12
def j33x2 (x0 : T_api_Type) : Option (Int) :=
  if (x0.f_Base == 73) = true then
    (some 1) else
  (some 2)
def j33x1 (x0 : T_api_Type) : Option (Int) :=
  if (decide (x0.f_Dim > 0)) = true then (some 3) else
  (if (x0.f_Base == 76) = true then
    (some 3) else
  ((j33x2 x0) ))
def m_desc_Kind (x0 : T_api_Type) : Option (Int) :=
  (m_desc_Valid x0).bind fun v0 =>
  if (!v0) = true then (some 0) else
  (if (x0.f_Base == 86) = true then
    (some 0) else
  ((j33x1 x0) ))
theorem wj33x2 (x0 : T_api_Type) (r : Int) (h : (j33x2 x0)  = some r) (Γ : Ctx) : EvOk Try.prog Γ (Den.Ends Try.prog Try.f33 (.int .i64 r)) (mkS 25 [(1, .ptr [.int .i64 x0.f_Dim, .int .u8 x0.f_Base, .str x0.f_Name])] []) (.stop c33x11 [.seq c33x12, .blk 0, .seq c33x6]) := by
  refine EvOk.stop ?_
  refine At.adv [] [(5, { told := [], gs := [], keep := some ([21], []) })] 400 (ev := .cond (x0.f_Base == 73) c33x13 c33x14 [.blk 0, .seq c33x6]) (σ' := mkS 25 [(21, .bool (x0.f_Base == 73))] []) (q := []) (by kernel_rfl) trivial ?_
  refine EvOk.cond (fun h4 => ?_) (fun h4 => ?_)
  · replace h := iteT h4 h
    refine At.gc [] [] (n := 25) (l := []) (bl := []) (by kernel_rfl) ?_
    refine At.adv [] [(6, { told := [], gs := [], keep := some ([2], []) })] 400 (ev := .ret) (σ' := mkS 25 [(2, .int .i64 1)] []) (q := []) (by kernel_rfl) trivial ?_
    refine EvOk.ret ?_
    obtain rfl := someE h
    exact Den.Ends.mk (.inl rfl) (d := .int .i64 1) (p := (True ∧ True) ∧ (True ∧ True)) (by kernel_rfl) ⟨⟨trivial, trivial⟩, ⟨trivial, trivial⟩⟩ (by kernel_rfl)
  · replace h := iteF h4 h
    refine At.gc [] [] (n := 25) (l := []) (bl := []) (by kernel_rfl) ?_
    refine At.adv [] [(7, { told := [], gs := [], keep := some ([2], []) })] 400 (ev := .ret) (σ' := mkS 25 [(2, .int .i64 2)] []) (q := []) (by kernel_rfl) trivial ?_
    refine EvOk.ret ?_
    obtain rfl := someE h
    exact Den.Ends.mk (.inl rfl) (d := .int .i64 2) (p := (True ∧ True) ∧ (True ∧ True)) (by kernel_rfl) ⟨⟨trivial, trivial⟩, ⟨trivial, trivial⟩⟩ (by kernel_rfl)
theorem wj33x1 (x0 : T_api_Type) (r : Int) (h : (j33x1 x0)  = some r) (Γ : Ctx) : EvOk Try.prog Γ (Den.Ends Try.prog Try.f33 (.int .i64 r)) (mkS 25 [(1, .ptr [.int .i64 x0.f_Dim, .int .u8 x0.f_Base, .str x0.f_Name])] []) (.stop c33x7 [.seq c33x8, .blk 0, .seq c33x6]) := by
  refine EvOk.stop ?_
  rcases Bool.eq_false_or_eq_true (decide (x0.f_Dim > 0)) with h2 | h2
  · replace h := iteT h2 h
    refine At.adv [] [(3, { told := [(7, { ans := .yes })], gs := [(4, false), (5, false), (6, false)], keep := some ([1, 12], []) })] 400 (ev := .cond true c33x9 c33x10 [.blk 0, .seq c33x6]) (σ' := mkS 25 [(1, .ptr [.int .i64 x0.f_Dim, .int .u8 x0.f_Base, .str x0.f_Name]), (12, .bool true)] []) (q := [((decide (x0.f_Dim > 0)) == false) = false, ((decide (x0.f_Dim > 0)) == false) = false, ((decide (x0.f_Dim > 0)) == false) = false, True ∧ ((decide (x0.f_Dim > 0)) = true)]) (by kernel_rfl) ⟨gB h2 rfl, gB h2 rfl, gB h2 rfl, ⟨trivial, h2⟩, trivial⟩ ?_
    refine EvOk.cond (fun _ => ?_) (fun hb => Bool.noConfusion hb)
    refine At.gc [] [] (n := 25) (l := []) (bl := []) (by kernel_rfl) ?_
    refine At.adv [] [(4, { told := [], gs := [], keep := some ([2], []) })] 400 (ev := .ret) (σ' := mkS 25 [(2, .int .i64 3)] []) (q := []) (by kernel_rfl) trivial ?_
    refine EvOk.ret ?_
    obtain rfl := someE h
    exact Den.Ends.mk (.inl rfl) (d := .int .i64 3) (p := (True ∧ True) ∧ (True ∧ True)) (by kernel_rfl) ⟨⟨trivial, trivial⟩, ⟨trivial, trivial⟩⟩ (by kernel_rfl)
  · replace h := iteF h2 h
    refine At.adv [] [(3, { told := [(7, { ans := .no })], gs := [(4, true), (5, true), (6, true)], keep := some ([1, 12], []) })] 400 (ev := .cond (x0.f_Base == 76) c33x9 c33x10 [.blk 0, .seq c33x6]) (σ' := mkS 25 [(1, .ptr [.int .i64 x0.f_Dim, .int .u8 x0.f_Base, .str x0.f_Name]), (12, .bool (x0.f_Base == 76))] []) (q := [((decide (x0.f_Dim > 0)) == false) = true ∧ True, ((decide (x0.f_Dim > 0)) == false) = true ∧ True, ((decide (x0.f_Dim > 0)) == false) = true ∧ True, True ∧ ((decide (x0.f_Dim > 0)) = false)]) (by kernel_rfl) ⟨⟨(gB h2 rfl), trivial⟩, ⟨(gB h2 rfl), trivial⟩, ⟨(gB h2 rfl), trivial⟩, ⟨trivial, h2⟩, trivial⟩ ?_
    refine EvOk.cond (fun h3 => ?_) (fun h3 => ?_)
    · replace h := iteT h3 h
      refine At.gc [] [] (n := 25) (l := []) (bl := []) (by kernel_rfl) ?_
      refine At.adv [] [(4, { told := [], gs := [], keep := some ([2], []) })] 400 (ev := .ret) (σ' := mkS 25 [(2, .int .i64 3)] []) (q := []) (by kernel_rfl) trivial ?_
      refine EvOk.ret ?_
      obtain rfl := someE h
      exact Den.Ends.mk (.inl rfl) (d := .int .i64 3) (p := (True ∧ True) ∧ (True ∧ True)) (by kernel_rfl) ⟨⟨trivial, trivial⟩, ⟨trivial, trivial⟩⟩ (by kernel_rfl)
    · replace h := iteF h3 h
      refine At.gc [1] [] (n := 25) (l := [(1, .ptr [.int .i64 x0.f_Dim, .int .u8 x0.f_Base, .str x0.f_Name])]) (bl := []) (by kernel_rfl) ?_
      refine At.adv [5] [] 400 (ev := .stop c33x11 [.seq c33x12, .blk 0, .seq c33x6]) (σ' := mkS 25 [(1, .ptr [.int .i64 x0.f_Dim, .int .u8 x0.f_Base, .str x0.f_Name])] []) (q := []) (by kernel_rfl) trivial ?_
      exact (wj33x2 x0)  r h Γ
theorem we33 (x0 : T_api_Type) (r : Int) (h : m_desc_Kind x0 = some r) (Γ : Ctx) : At Try.prog Γ b33 [] (Den.Ends Try.prog Try.f33 (.int .i64 r)) (mkS 25 [(0, .agg (row_T_api_Type x0))] []) := by
  obtain ⟨v0, e0, h⟩ := bindE h
  rcases Bool.eq_false_or_eq_true (!v0) with h0 | h0
  · replace h := iteT h0 h
    refine At.adv [] [(0, { told := [(0, { ro := true })], gs := [], keep := some ([1], []) }), (1, { told := [(1, { ans := .val (.bool v0), args := [.agg [.int .i64 x0.f_Dim, .int .u8 x0.f_Base, .str x0.f_Name]] }), (7, { ans := .yes })], gs := [(4, false), (5, false), (6, false)], keep := some ([1, 3], []) })] 400 (ev := .cond true c33x4 c33x5 [.blk 0, .seq c33x6]) (σ' := mkS 25 [(1, .ptr [.int .i64 x0.f_Dim, .int .u8 x0.f_Base, .str x0.f_Name]), (3, .bool true)] []) (q := [True ∧ (((True ∧ (True ∧ (True ∧ True))) ∧ True) ∧ ([.agg [.int .i64 x0.f_Dim, .int .u8 x0.f_Base, .str x0.f_Name]] : List D) = [.agg [.int .i64 x0.f_Dim, .int .u8 x0.f_Base, .str x0.f_Name]] ∧ CallAny Try.prog 25 [.agg [.int .i64 x0.f_Dim, .int .u8 x0.f_Base, .str x0.f_Name]] (.bool v0)), ((!v0) == false) = false, ((!v0) == false) = false, ((!v0) == false) = false, True ∧ ((!v0) = true)]) (by kernel_rfl) ⟨⟨trivial, ⟨⟨⟨trivial, ⟨trivial, ⟨trivial, trivial⟩⟩⟩, trivial⟩, rfl, .inl (w25 e0)⟩⟩, gB h0 rfl, gB h0 rfl, gB h0 rfl, ⟨trivial, h0⟩, trivial⟩ ?_
    refine EvOk.cond (fun _ => ?_) (fun hb => Bool.noConfusion hb)
    refine At.gc [] [] (n := 25) (l := []) (bl := []) (by kernel_rfl) ?_
    refine At.adv [] [(2, { told := [], gs := [], keep := some ([2], []) })] 400 (ev := .ret) (σ' := mkS 25 [(2, .int .i64 0)] []) (q := []) (by kernel_rfl) trivial ?_
    refine EvOk.ret ?_
    obtain rfl := someE h
    exact Den.Ends.mk (.inl rfl) (d := .int .i64 0) (p := (True ∧ True) ∧ (True ∧ True)) (by kernel_rfl) ⟨⟨trivial, trivial⟩, ⟨trivial, trivial⟩⟩ (by kernel_rfl)
  · replace h := iteF h0 h
    refine At.adv [] [(0, { told := [(0, { ro := true })], gs := [], keep := some ([1], []) }), (1, { told := [(1, { ans := .val (.bool v0), args := [.agg [.int .i64 x0.f_Dim, .int .u8 x0.f_Base, .str x0.f_Name]] }), (7, { ans := .no })], gs := [(4, true), (5, true), (6, true)], keep := some ([1, 3], []) })] 400 (ev := .cond (x0.f_Base == 86) c33x4 c33x5 [.blk 0, .seq c33x6]) (σ' := mkS 25 [(1, .ptr [.int .i64 x0.f_Dim, .int .u8 x0.f_Base, .str x0.f_Name]), (3, .bool (x0.f_Base == 86))] []) (q := [True ∧ (((True ∧ (True ∧ (True ∧ True))) ∧ True) ∧ ([.agg [.int .i64 x0.f_Dim, .int .u8 x0.f_Base, .str x0.f_Name]] : List D) = [.agg [.int .i64 x0.f_Dim, .int .u8 x0.f_Base, .str x0.f_Name]] ∧ CallAny Try.prog 25 [.agg [.int .i64 x0.f_Dim, .int .u8 x0.f_Base, .str x0.f_Name]] (.bool v0)), ((!v0) == false) = true ∧ True, ((!v0) == false) = true ∧ True, ((!v0) == false) = true ∧ True, True ∧ ((!v0) = false)]) (by kernel_rfl) ⟨⟨trivial, ⟨⟨⟨trivial, ⟨trivial, ⟨trivial, trivial⟩⟩⟩, trivial⟩, rfl, .inl (w25 e0)⟩⟩, ⟨(gB h0 rfl), trivial⟩, ⟨(gB h0 rfl), trivial⟩, ⟨(gB h0 rfl), trivial⟩, ⟨trivial, h0⟩, trivial⟩ ?_
    refine EvOk.cond (fun h1 => ?_) (fun h1 => ?_)
    · replace h := iteT h1 h
      refine At.gc [] [] (n := 25) (l := []) (bl := []) (by kernel_rfl) ?_
      refine At.adv [] [(2, { told := [], gs := [], keep := some ([2], []) })] 400 (ev := .ret) (σ' := mkS 25 [(2, .int .i64 0)] []) (q := []) (by kernel_rfl) trivial ?_
      refine EvOk.ret ?_
      obtain rfl := someE h
      exact Den.Ends.mk (.inl rfl) (d := .int .i64 0) (p := (True ∧ True) ∧ (True ∧ True)) (by kernel_rfl) ⟨⟨trivial, trivial⟩, ⟨trivial, trivial⟩⟩ (by kernel_rfl)
    · replace h := iteF h1 h
      refine At.gc [1] [] (n := 25) (l := [(1, .ptr [.int .i64 x0.f_Dim, .int .u8 x0.f_Base, .str x0.f_Name])]) (bl := []) (by kernel_rfl) ?_
      refine At.adv [3] [] 400 (ev := .stop c33x7 [.seq c33x8, .blk 0, .seq c33x6]) (σ' := mkS 25 [(1, .ptr [.int .i64 x0.f_Dim, .int .u8 x0.f_Base, .str x0.f_Name])] []) (q := []) (by kernel_rfl) trivial ?_
      exact (wj33x1 x0)  r h Γ
theorem w33 {x0 : T_api_Type} {r : Int} (h : m_desc_Kind x0 = some r) : CallSpec Try.prog 33 [.agg (row_T_api_Type x0)] (.int .i64 r) :=
  CallSpec.at2 b33 (n := 25) (l := [(0, .agg (row_T_api_Type x0))]) (by kernel_rfl) (by kernel_rfl) (by kernel_rfl) (by kernel_rfl) (by kernel_rfl) (Nat.le_of_ble_eq_true (by kernel_rfl)) (fun Γ => we33 x0 r h Γ)

/-! ### armature armatureref04.Kind -/
noncomputable def b34 : Code := Try.f34.body.getD .skip
noncomputable def c34x0 : Code := sub1 b34
noncomputable def c34x1 : Code := sub0 c34x0
noncomputable def c34x2 : Code := sub1 c34x1
noncomputable def c34x3 : Code := sub0 c34x2
noncomputable def c34x4 : Code := sub1 c34x2
noncomputable def c34x5 : Code := sub1 c34x0
noncomputable def c34x6 : Code := sub0 c34x5
noncomputable def c34x7 : Code := sub0 c34x6
noncomputable def c34x8 : Code := sub1 c34x6
noncomputable def c34x9 : Code := sub1 c34x5
noncomputable def c34x10 : Code := sub0 c34x8
noncomputable def c34x11 : Code := sub1 c34x8
noncomputable def c34x12 : Code := sub0 c34x9
noncomputable def c34x13 : Code := sub0 c34x12
noncomputable def c34x14 : Code := sub1 c34x12
noncomputable def c34x15 : Code := sub1 c34x9
noncomputable def c34x16 : Code := sub0 c34x14
noncomputable def c34x17 : Code := sub1 c34x14
def j34x2 (x0 : T_api_Type) : Option (Int) :=
  if (x0.f_Base == 74) = true then
    (some 2) else
  (some 1)
def j34x1 (x0 : T_api_Type) : Option (Int) :=
  if (decide (x0.f_Dim > 0)) = true then (some 3) else
  (if (x0.f_Base == 76) = true then
    (some 3) else
  ((j34x2 x0) ))
def m_armatureref04_Kind (x0 : T_api_Type) : Option (Int) :=
  (m_armatureref04_Valid x0).bind fun v0 =>
  if (!v0) = true then (some 0) else
  (if (x0.f_Base == 86) = true then
    (some 0) else
  ((j34x1 x0) ))
theorem wj34x2 (x0 : T_api_Type) (r : Int) (h : (j34x2 x0)  = some r) (Γ : Ctx) : EvOk Try.prog Γ (Den.Ends Try.prog Try.f34 (.int .i64 r)) (mkS 22 [(1, .ptr [.int .i64 x0.f_Dim, .int .u8 x0.f_Base, .str x0.f_Name])] []) (.stop c34x13 [.seq c34x14, .seq c34x15]) := by
  refine EvOk.stop ?_
  refine At.adv [] [(5, { told := [], gs := [], keep := some ([21], []) })] 400 (ev := .cond (x0.f_Base == 74) c34x16 c34x17 [.seq c34x15]) (σ' := mkS 22 [(21, .bool (x0.f_Base == 74))] []) (q := []) (by kernel_rfl) trivial ?_
  refine EvOk.cond (fun h4 => ?_) (fun h4 => ?_)
  · replace h := iteT h4 h
    refine At.gc [] [] (n := 22) (l := []) (bl := []) (by kernel_rfl) ?_
    refine At.adv [] [(6, { told := [], gs := [], keep := some ([2], []) })] 400 (ev := .ret) (σ' := mkS 22 [(2, .int .i64 2)] []) (q := []) (by kernel_rfl) trivial ?_
    refine EvOk.ret ?_
    obtain rfl := someE h
    exact Den.Ends.mk (.inl rfl) (d := .int .i64 2) (p := (True ∧ True) ∧ (True ∧ True)) (by kernel_rfl) ⟨⟨trivial, trivial⟩, ⟨trivial, trivial⟩⟩ (by kernel_rfl)
  · replace h := iteF h4 h
    refine At.gc [] [] (n := 22) (l := []) (bl := []) (by kernel_rfl) ?_
    refine At.adv [] [(7, { told := [], gs := [], keep := some ([2], []) })] 400 (ev := .ret) (σ' := mkS 22 [(2, .int .i64 1)] []) (q := []) (by kernel_rfl) trivial ?_
    refine EvOk.ret ?_
    obtain rfl := someE h
    exact Den.Ends.mk (.inl rfl) (d := .int .i64 1) (p := (True ∧ True) ∧ (True ∧ True)) (by kernel_rfl) ⟨⟨trivial, trivial⟩, ⟨trivial, trivial⟩⟩ (by kernel_rfl)
theorem wj34x1 (x0 : T_api_Type) (r : Int) (h : (j34x1 x0)  = some r) (Γ : Ctx) : EvOk Try.prog Γ (Den.Ends Try.prog Try.f34 (.int .i64 r)) (mkS 22 [(1, .ptr [.int .i64 x0.f_Dim, .int .u8 x0.f_Base, .str x0.f_Name])] []) (.stop c34x7 [.seq c34x8, .seq c34x9]) := by
  refine EvOk.stop ?_
  rcases Bool.eq_false_or_eq_true (decide (x0.f_Dim > 0)) with h2 | h2
  · replace h := iteT h2 h
    refine At.adv [] [(3, { told := [(7, { ans := .yes })], gs := [(4, false), (5, false), (6, false)], keep := some ([1, 18], []) })] 400 (ev := .cond true c34x10 c34x11 [.seq c34x9]) (σ' := mkS 22 [(1, .ptr [.int .i64 x0.f_Dim, .int .u8 x0.f_Base, .str x0.f_Name]), (18, .bool true)] []) (q := [((decide (x0.f_Dim > 0)) == false) = false, ((decide (x0.f_Dim > 0)) == false) = false, ((decide (x0.f_Dim > 0)) == false) = false, True ∧ ((decide (x0.f_Dim > 0)) = true)]) (by kernel_rfl) ⟨gB h2 rfl, gB h2 rfl, gB h2 rfl, ⟨trivial, h2⟩, trivial⟩ ?_
    refine EvOk.cond (fun _ => ?_) (fun hb => Bool.noConfusion hb)
    refine At.gc [] [] (n := 22) (l := []) (bl := []) (by kernel_rfl) ?_
    refine At.adv [] [(4, { told := [], gs := [], keep := some ([2], []) })] 400 (ev := .ret) (σ' := mkS 22 [(2, .int .i64 3)] []) (q := []) (by kernel_rfl) trivial ?_
    refine EvOk.ret ?_
    obtain rfl := someE h
    exact Den.Ends.mk (.inl rfl) (d := .int .i64 3) (p := (True ∧ True) ∧ (True ∧ True)) (by kernel_rfl) ⟨⟨trivial, trivial⟩, ⟨trivial, trivial⟩⟩ (by kernel_rfl)
  · replace h := iteF h2 h
    refine At.adv [] [(3, { told := [(7, { ans := .no })], gs := [(4, true), (5, true), (6, true)], keep := some ([1, 18], []) })] 400 (ev := .cond (x0.f_Base == 76) c34x10 c34x11 [.seq c34x9]) (σ' := mkS 22 [(1, .ptr [.int .i64 x0.f_Dim, .int .u8 x0.f_Base, .str x0.f_Name]), (18, .bool (x0.f_Base == 76))] []) (q := [((decide (x0.f_Dim > 0)) == false) = true ∧ True, ((decide (x0.f_Dim > 0)) == false) = true ∧ True, ((decide (x0.f_Dim > 0)) == false) = true ∧ True, True ∧ ((decide (x0.f_Dim > 0)) = false)]) (by kernel_rfl) ⟨⟨(gB h2 rfl), trivial⟩, ⟨(gB h2 rfl), trivial⟩, ⟨(gB h2 rfl), trivial⟩, ⟨trivial, h2⟩, trivial⟩ ?_
    refine EvOk.cond (fun h3 => ?_) (fun h3 => ?_)
    · replace h := iteT h3 h
      refine At.gc [] [] (n := 22) (l := []) (bl := []) (by kernel_rfl) ?_
      refine At.adv [] [(4, { told := [], gs := [], keep := some ([2], []) })] 400 (ev := .ret) (σ' := mkS 22 [(2, .int .i64 3)] []) (q := []) (by kernel_rfl) trivial ?_
      refine EvOk.ret ?_
      obtain rfl := someE h
      exact Den.Ends.mk (.inl rfl) (d := .int .i64 3) (p := (True ∧ True) ∧ (True ∧ True)) (by kernel_rfl) ⟨⟨trivial, trivial⟩, ⟨trivial, trivial⟩⟩ (by kernel_rfl)
    · replace h := iteF h3 h
      refine At.gc [1] [] (n := 22) (l := [(1, .ptr [.int .i64 x0.f_Dim, .int .u8 x0.f_Base, .str x0.f_Name])]) (bl := []) (by kernel_rfl) ?_
      refine At.adv [5] [] 400 (ev := .stop c34x13 [.seq c34x14, .seq c34x15]) (σ' := mkS 22 [(1, .ptr [.int .i64 x0.f_Dim, .int .u8 x0.f_Base, .str x0.f_Name])] []) (q := []) (by kernel_rfl) trivial ?_
      exact (wj34x2 x0)  r h Γ
theorem we34 (x0 : T_api_Type) (r : Int) (h : m_armatureref04_Kind x0 = some r) (Γ : Ctx) : At Try.prog Γ b34 [] (Den.Ends Try.prog Try.f34 (.int .i64 r)) (mkS 22 [(0, .agg (row_T_api_Type x0))] []) := by
  obtain ⟨v0, e0, h⟩ := bindE h
  rcases Bool.eq_false_or_eq_true (!v0) with h0 | h0
  · replace h := iteT h0 h
    refine At.adv [] [(0, { told := [(0, { ro := true })], gs := [], keep := some ([1], []) }), (1, { told := [(1, { ans := .val (.bool v0), args := [.agg [.int .i64 x0.f_Dim, .int .u8 x0.f_Base, .str x0.f_Name]] }), (7, { ans := .yes })], gs := [(4, false), (5, false), (6, false)], keep := some ([1, 10], []) })] 400 (ev := .cond true c34x3 c34x4 [.seq c34x5]) (σ' := mkS 22 [(1, .ptr [.int .i64 x0.f_Dim, .int .u8 x0.f_Base, .str x0.f_Name]), (10, .bool true)] []) (q := [True ∧ (((True ∧ (True ∧ (True ∧ True))) ∧ True) ∧ ([.agg [.int .i64 x0.f_Dim, .int .u8 x0.f_Base, .str x0.f_Name]] : List D) = [.agg [.int .i64 x0.f_Dim, .int .u8 x0.f_Base, .str x0.f_Name]] ∧ CallAny Try.prog 32 [.agg [.int .i64 x0.f_Dim, .int .u8 x0.f_Base, .str x0.f_Name]] (.bool v0)), ((!v0) == false) = false, ((!v0) == false) = false, ((!v0) == false) = false, True ∧ ((!v0) = true)]) (by kernel_rfl) ⟨⟨trivial, ⟨⟨⟨trivial, ⟨trivial, ⟨trivial, trivial⟩⟩⟩, trivial⟩, rfl, .inl (w32 e0)⟩⟩, gB h0 rfl, gB h0 rfl, gB h0 rfl, ⟨trivial, h0⟩, trivial⟩ ?_
    refine EvOk.cond (fun _ => ?_) (fun hb => Bool.noConfusion hb)
    refine At.gc [] [] (n := 22) (l := []) (bl := []) (by kernel_rfl) ?_
    refine At.adv [] [(2, { told := [], gs := [], keep := some ([2], []) })] 400 (ev := .ret) (σ' := mkS 22 [(2, .int .i64 0)] []) (q := []) (by kernel_rfl) trivial ?_
    refine EvOk.ret ?_
    obtain rfl := someE h
    exact Den.Ends.mk (.inl rfl) (d := .int .i64 0) (p := (True ∧ True) ∧ (True ∧ True)) (by kernel_rfl) ⟨⟨trivial, trivial⟩, ⟨trivial, trivial⟩⟩ (by kernel_rfl)
  · replace h := iteF h0 h
    refine At.adv [] [(0, { told := [(0, { ro := true })], gs := [], keep := some ([1], []) }), (1, { told := [(1, { ans := .val (.bool v0), args := [.agg [.int .i64 x0.f_Dim, .int .u8 x0.f_Base, .str x0.f_Name]] }), (7, { ans := .no })], gs := [(4, true), (5, true), (6, true)], keep := some ([1, 10], []) })] 400 (ev := .cond (x0.f_Base == 86) c34x3 c34x4 [.seq c34x5]) (σ' := mkS 22 [(1, .ptr [.int .i64 x0.f_Dim, .int .u8 x0.f_Base, .str x0.f_Name]), (10, .bool (x0.f_Base == 86))] []) (q := [True ∧ (((True ∧ (True ∧ (True ∧ True))) ∧ True) ∧ ([.agg [.int .i64 x0.f_Dim, .int .u8 x0.f_Base, .str x0.f_Name]] : List D) = [.agg [.int .i64 x0.f_Dim, .int .u8 x0.f_Base, .str x0.f_Name]] ∧ CallAny Try.prog 32 [.agg [.int .i64 x0.f_Dim, .int .u8 x0.f_Base, .str x0.f_Name]] (.bool v0)), ((!v0) == false) = true ∧ True, ((!v0) == false) = true ∧ True, ((!v0) == false) = true ∧ True, True ∧ ((!v0) = false)]) (by kernel_rfl) ⟨⟨trivial, ⟨⟨⟨trivial, ⟨trivial, ⟨trivial, trivial⟩⟩⟩, trivial⟩, rfl, .inl (w32 e0)⟩⟩, ⟨(gB h0 rfl), trivial⟩, ⟨(gB h0 rfl), trivial⟩, ⟨(gB h0 rfl), trivial⟩, ⟨trivial, h0⟩, trivial⟩ ?_
    refine EvOk.cond (fun h1 => ?_) (fun h1 => ?_)
    · replace h := iteT h1 h
      refine At.gc [] [] (n := 22) (l := []) (bl := []) (by kernel_rfl) ?_
      refine At.adv [] [(2, { told := [], gs := [], keep := some ([2], []) })] 400 (ev := .ret) (σ' := mkS 22 [(2, .int .i64 0)] []) (q := []) (by kernel_rfl) trivial ?_
      refine EvOk.ret ?_
      obtain rfl := someE h
      exact Den.Ends.mk (.inl rfl) (d := .int .i64 0) (p := (True ∧ True) ∧ (True ∧ True)) (by kernel_rfl) ⟨⟨trivial, trivial⟩, ⟨trivial, trivial⟩⟩ (by kernel_rfl)
    · replace h := iteF h1 h
      refine At.gc [1] [] (n := 22) (l := [(1, .ptr [.int .i64 x0.f_Dim, .int .u8 x0.f_Base, .str x0.f_Name])]) (bl := []) (by kernel_rfl) ?_
      refine At.adv [3] [] 400 (ev := .stop c34x7 [.seq c34x8, .seq c34x9]) (σ' := mkS 22 [(1, .ptr [.int .i64 x0.f_Dim, .int .u8 x0.f_Base, .str x0.f_Name])] []) (q := []) (by kernel_rfl) trivial ?_
      exact (wj34x1 x0)  r h Γ
theorem w34 {x0 : T_api_Type} {r : Int} (h : m_armatureref04_Kind x0 = some r) : CallSpec Try.prog 34 [.agg (row_T_api_Type x0)] (.int .i64 r) :=
  CallSpec.at2 b34 (n := 22) (l := [(0, .agg (row_T_api_Type x0))]) (by kernel_rfl) (by kernel_rfl) (by kernel_rfl) (by kernel_rfl) (by kernel_rfl) (Nat.le_of_ble_eq_true (by kernel_rfl)) (fun Γ => we34 x0 r h Γ)
end Go.Proofs
