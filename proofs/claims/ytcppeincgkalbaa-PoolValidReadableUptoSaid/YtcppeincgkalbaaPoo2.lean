/-
  Models of functions of the program, and that the functions compute them. Printed by den2.py. No condition.
-/
import Derived.Test.YtcppeincgkalbaaPoo1
set_option linter.unusedVariables false
namespace Go.Proofs
open Go.Den
/-! ### armature pool.texts -/
noncomputable def b49 : Code := Try.f49.body.getD .skip
noncomputable def c49x0 : Code := sub1 b49
noncomputable def c49x1 : Code := sub0 c49x0
noncomputable def c49x2 : Code := sub1 c49x1
noncomputable def c49x3 : Code := sub0 c49x2
noncomputable def c49x4 : Code := sub1 c49x3
noncomputable def c49x5 : Code := sub0 c49x4
noncomputable def c49x6 : Code := sub1 c49x5
noncomputable def c49x7 : Code := sub1 c49x6
noncomputable def c49x8 : Code := sub1 c49x7
noncomputable def c49x9 : Code := sub0 c49x8
noncomputable def c49x10 : Code := sub1 c49x8
noncomputable def c49x11 : Code := sub1 c49x0
noncomputable def c49x12 : Code := sub1 c49x4
noncomputable def c49x13 : Code := sub1 c49x12
noncomputable def c49x14 : Code := sub0 c49x13
noncomputable def c49x15 : Code := sub1 c49x14
noncomputable def c49x16 : Code := sub1 c49x15
noncomputable def c49x17 : Code := sub1 c49x16
noncomputable def c49x18 : Code := sub1 c49x17
noncomputable def c49x19 : Code := sub1 c49x18
noncomputable def c49x20 : Code := sub1 c49x19
noncomputable def c49x21 : Code := sub0 c49x20
noncomputable def c49x22 : Code := sub1 c49x20
noncomputable def c49x23 : Code := sub0 c49x19
noncomputable def c49x24 : Code := sub0 c49x16
noncomputable def c49x25 : Code := sub1 c49x24
noncomputable def c49x26 : Code := sub0 c49x25
noncomputable def c49x27 : Code := sub1 c49x25
noncomputable def c49x28 : Code := sub1 c49x13
noncomputable def c49x29 : Code := sub1 c49x28
noncomputable def c49x30 : Code := sub0 c49x29
noncomputable def c49x31 : Code := sub0 c49x30
noncomputable def c49x32 : Code := sub1 c49x30
noncomputable def c49x33 : Code := sub1 c49x29
noncomputable def c49x34 : Code := sub0 c49x28
noncomputable def c49x35 : Code := sub1 c49x34
noncomputable def c49x36 : Code := sub1 c49x35
noncomputable def c49x37 : Code := sub1 c49x36
noncomputable def c49x38 : Code := sub0 c49x37
noncomputable def c49x39 : Code := sub1 c49x37
noncomputable def c49x40 : Code := sub0 c49x35
def j49x2 (x0 : List T_api_Const) (x1 : T_api_Const) : Option (Int) :=
  (m_pool_member x0 x1).bind fun v7 =>
  some v7
def j49x1 (x0 : List T_api_Const) (x1 : T_api_Const) : Option (Int) :=
  if (x1.f_Tag == 11) = true then
    ((j49x2 x0 x1) ) else
  (some 0)
def m_pool_texts (x0 : List T_api_Const) (x1 : T_api_Const) : Option (Int) :=
  if (x1.f_Tag == 7) = true then
    ((m_pool_UTF8 x0 x1.f_A).bind fun v0 =>
    (m_desc_ParseClassConstant v0.1).bind fun v1 =>
    if (v1.2 != 0) = true then
      (some 13) else
    (some 0)) else
  (if (x1.f_Tag == 12) = true then
      ((m_pool_UTF8 x0 x1.f_A).bind fun v2 =>
      (m_pool_UTF8 x0 x1.f_B).bind fun v3 =>
      (m_name_IsMemberName v2.1).bind fun v4 =>
      if (!v4) = true then
        (some 12) else
      ((m_desc_Parse v3.1).bind fun v5 =>
        (m_desc_ParseSignature v3.1).bind fun v6 =>
        if (v6.2 != 0) = true then (if (v5.2 != 0) = true then (some 13) else
          (if (v5.1.f_Base == 86) = true then
              (some 13) else
            (some 0))) else
        (some 0))) else
    (if (x1.f_Tag == 9) = true then
        ((j49x2 x0 x1) ) else
      (if (x1.f_Tag == 10) = true then
          ((j49x2 x0 x1) ) else
        ((j49x1 x0 x1) ))))
theorem wj49x2 (x0 : List T_api_Const) (x1 : T_api_Const) (r : Int) (h : (j49x2 x0 x1)  = some r) (Γ : Ctx) : EvOk Try.prog Γ (Den.Ends Try.prog Try.f49 (dI r)) (mkS 82 [(0, .sl false (x0.map row_T_api_Const)), (3, .ptr (row_T_api_Const x1))] []) (.stop c49x31 [.seq c49x32, .blk 0, .seq c49x11]) := by
  refine EvOk.stop ?_
  obtain ⟨v7, e7, h⟩ := bindE h
  refine At.adv [] [(19, { told := [(2, aI v7)], keep := some ([4], []) })] 400 (ev := .ret) (σ' := mkS 82 [(4, dI v7)] []) (q := [True ∧ (cq Try.prog (True ∧ ((tN 5) ∧ True)) 58 [.sl false (x0.map row_T_api_Const), .agg [dI x1.f_Tag, .str x1.f_S, dI x1.f_N, dI x1.f_A, dI x1.f_B]] (dI v7))]) (by kernel_rfl) ⟨⟨trivial, cqi (⟨trivial, ⟨tNi 5, trivial⟩⟩) (w58 e7)⟩, trivial⟩ ?_
  refine EvOk.ret ?_
  obtain rfl := someE h
  exact Den.Ends.mk (.inl rfl) (d := dI v7) (p := (True ∧ True) ∧ (tN 1)) (by kernel_rfl) ⟨⟨trivial, trivial⟩, tNi 1⟩ (by kernel_rfl)
theorem wj49x1 (x0 : List T_api_Const) (x1 : T_api_Const) (r : Int) (h : (j49x1 x0 x1)  = some r) (Γ : Ctx) : EvOk Try.prog Γ (Den.Ends Try.prog Try.f49 (dI r)) (mkS 82 [(0, .sl false (x0.map row_T_api_Const)), (3, .ptr (row_T_api_Const x1)), (75, .bool (x1.f_Tag == 11))] []) (.cond (x1.f_Tag == 11) c49x30 c49x33 [.blk 0, .seq c49x11]) := by
  refine EvOk.cond (fun h9 => ?_) (fun h9 => ?_)
  · replace h := iteT h9 h
    refine At.gc [0, 3] [] (n := 82) (l := [(0, .sl false (x0.map row_T_api_Const)), (3, .ptr (row_T_api_Const x1))]) (bl := []) (by kernel_rfl) ?_
    refine At.adv [19] [] 400 (ev := .stop c49x31 [.seq c49x32, .blk 0, .seq c49x11]) (σ' := mkS 82 [(0, .sl false (x0.map row_T_api_Const)), (3, .ptr (row_T_api_Const x1))] []) (q := []) (by kernel_rfl) trivial ?_
    exact (wj49x2 x0 x1)  r h Γ
  · replace h := iteF h9 h
    refine At.gc [] [] (n := 82) (l := []) (bl := []) (by kernel_rfl) ?_
    refine At.adv [] [(20, { keep := some ([4], []) })] 400 (ev := .ret) (σ' := mkS 82 [(4, dI 0)] []) (q := []) (by kernel_rfl) trivial ?_
    refine EvOk.ret ?_
    obtain rfl := someE h
    exact Den.Ends.mk (.inl rfl) (d := dI 0) (p := (True ∧ True) ∧ (tN 1)) (by kernel_rfl) ⟨⟨trivial, trivial⟩, tNi 1⟩ (by kernel_rfl)
theorem we49 (x0 : List T_api_Const) (x1 : T_api_Const) (r : Int) (h : m_pool_texts x0 x1 = some r) (Γ : Ctx) : At Try.prog Γ b49 [] (Den.Ends Try.prog Try.f49 (dI r)) (mkS 82 [(0, .sl false (x0.map row_T_api_Const)), (1, .agg (row_T_api_Const x1))] []) := by
  refine At.adv [] [(0, { told := [(0, { ro := true })], keep := some ([0, 3], []) }), (1, { keep := some ([0, 3, 18], []) }), (2, { keep := some ([0, 3, 18, 19], []) })] 400 (ev := .cond (x1.f_Tag == 7) c49x5 c49x12 [.blk 0, .seq c49x11]) (σ' := mkS 82 [(0, .sl false (x0.map row_T_api_Const)), (3, .ptr (row_T_api_Const x1)), (18, dI x1.f_Tag), (19, .bool (x1.f_Tag == 7))] []) (q := []) (by kernel_rfl) trivial ?_
  refine EvOk.cond (fun h0 => ?_) (fun h0 => ?_)
  · replace h := iteT h0 h
    refine At.gc [0, 3] [] (n := 82) (l := [(0, .sl false (x0.map row_T_api_Const)), (3, .ptr (row_T_api_Const x1))]) (bl := []) (by kernel_rfl) ?_
    obtain ⟨v0, e0, h⟩ := bindE h
    obtain ⟨v1, e1, h⟩ := bindE h
    refine At.adv [] [(3, { told := [(3, { ans := .val (.tup [.str v0.1, dI v0.2]) })], keep := some ([5], []) }), (4, { told := [(1, { ans := .val (.tup [.agg (row_T_api_Type v1.1), dI v1.2]) })], keep := some ([8], []) }), (5, { keep := some ([34], []) })] 400 (ev := .cond (v1.2 != 0) c49x9 c49x10 [.blk 0, .seq c49x11]) (σ' := mkS 82 [(34, .bool (v1.2 != 0))] []) (q := [True ∧ (cq Try.prog (tN 2) 14 [.sl false (x0.map row_T_api_Const), dI x1.f_A] (.tup [.str v0.1, dI v0.2])), True ∧ (cq Try.prog (tN 1) 54 [.str v0.1] (.tup [.agg (row_T_api_Type v1.1), dI v1.2])), True ∧ (0 ≤ 0 ∧ 0 + ([dI v1.1.f_Dim, d8 v1.1.f_Base, .str v1.1.f_Name] : List D).length ≤ ([dI 0, d8 0, .str []] : List D).length ∧ ([[dI v1.1.f_Dim, d8 v1.1.f_Base, .str v1.1.f_Name]] : List (List D)) = ([[dI v1.1.f_Dim, d8 v1.1.f_Base, .str v1.1.f_Name]] : List (List D)))]) (by kernel_rfl) ⟨⟨trivial, cqi (tNi 2) (w14 e0)⟩, ⟨trivial, cqi (tNi 1) (w54 e1)⟩, ⟨trivial, ⟨Nat.zero_le _, Nat.le_of_ble_eq_true rfl, rfl⟩⟩, trivial⟩ ?_
    refine EvOk.cond (fun h1 => ?_) (fun h1 => ?_)
    · replace h := iteT h1 h
      refine At.gc [] [] (n := 82) (l := []) (bl := []) (by kernel_rfl) ?_
      refine At.adv [] [(6, { keep := some ([4], []) })] 400 (ev := .ret) (σ' := mkS 82 [(4, dI 13)] []) (q := []) (by kernel_rfl) trivial ?_
      refine EvOk.ret ?_
      obtain rfl := someE h
      exact Den.Ends.mk (.inl rfl) (d := dI 13) (p := (True ∧ True) ∧ (tN 1)) (by kernel_rfl) ⟨⟨trivial, trivial⟩, tNi 1⟩ (by kernel_rfl)
    · replace h := iteF h1 h
      refine At.gc [] [] (n := 82) (l := []) (bl := []) (by kernel_rfl) ?_
      refine At.adv [] [(20, { keep := some ([4], []) })] 400 (ev := .ret) (σ' := mkS 82 [(4, dI 0)] []) (q := []) (by kernel_rfl) trivial ?_
      refine EvOk.ret ?_
      obtain rfl := someE h
      exact Den.Ends.mk (.inl rfl) (d := dI 0) (p := (True ∧ True) ∧ (tN 1)) (by kernel_rfl) ⟨⟨trivial, trivial⟩, tNi 1⟩ (by kernel_rfl)
  · replace h := iteF h0 h
    refine At.gc [0, 3, 18] [] (n := 82) (l := [(0, .sl false (x0.map row_T_api_Const)), (3, .ptr (row_T_api_Const x1)), (18, dI x1.f_Tag)]) (bl := []) (by kernel_rfl) ?_
    refine At.adv [] [(7, { keep := some ([0, 3, 18, 35], []) })] 400 (ev := .cond (x1.f_Tag == 12) c49x14 c49x28 [.blk 0, .seq c49x11]) (σ' := mkS 82 [(0, .sl false (x0.map row_T_api_Const)), (3, .ptr (row_T_api_Const x1)), (18, dI x1.f_Tag), (35, .bool (x1.f_Tag == 12))] []) (q := []) (by kernel_rfl) trivial ?_
    refine EvOk.cond (fun h2 => ?_) (fun h2 => ?_)
    · replace h := iteT h2 h
      refine At.gc [0, 3] [] (n := 82) (l := [(0, .sl false (x0.map row_T_api_Const)), (3, .ptr (row_T_api_Const x1))]) (bl := []) (by kernel_rfl) ?_
      obtain ⟨v2, e2, h⟩ := bindE h
      obtain ⟨v3, e3, h⟩ := bindE h
      obtain ⟨v4, e4, h⟩ := bindE h
      refine At.adv [] [(8, { told := [(3, { ans := .val (.tup [.str v2.1, dI v2.2]) })], keep := some ([0, 3, 9], []) }), (9, { told := [(3, { ans := .val (.tup [.str v3.1, dI v3.2]) })], keep := some ([9, 11], []) }), (10, { told := [(1, aB v4)], keep := some ([11, 53], []) })] 400 (ev := .cond (!v4) c49x26 c49x27 [.seq c49x17, .blk 0, .seq c49x11]) (σ' := mkS 82 [(11, .str v3.1), (53, .bool (!v4))] []) (q := [True ∧ (cq Try.prog (tN 2) 14 [.sl false (x0.map row_T_api_Const), dI x1.f_A] (.tup [.str v2.1, dI v2.2])), True ∧ (cq Try.prog (tN 2) 14 [.sl false (x0.map row_T_api_Const), dI x1.f_B] (.tup [.str v3.1, dI v3.2])), True ∧ (cq Try.prog (tN 1) 55 [.str v2.1] (.bool v4))]) (by kernel_rfl) ⟨⟨trivial, cqi (tNi 2) (w14 e2)⟩, ⟨trivial, cqi (tNi 2) (w14 e3)⟩, ⟨trivial, cqi (tNi 1) (w55 e4)⟩, trivial⟩ ?_
      refine EvOk.cond (fun h3 => ?_) (fun h3 => ?_)
      · replace h := iteT h3 h
        refine At.gc [] [] (n := 82) (l := []) (bl := []) (by kernel_rfl) ?_
        refine At.adv [] [(11, { keep := some ([4], []) })] 400 (ev := .ret) (σ' := mkS 82 [(4, dI 12)] []) (q := []) (by kernel_rfl) trivial ?_
        refine EvOk.ret ?_
        obtain rfl := someE h
        exact Den.Ends.mk (.inl rfl) (d := dI 12) (p := (True ∧ True) ∧ (tN 1)) (by kernel_rfl) ⟨⟨trivial, trivial⟩, tNi 1⟩ (by kernel_rfl)
      · replace h := iteF h3 h
        refine At.gc [11] [] (n := 82) (l := [(11, .str v3.1)]) (bl := []) (by kernel_rfl) ?_
        obtain ⟨v5, e5, h⟩ := bindE h
        obtain ⟨v6, e6, h⟩ := bindE h
        refine At.adv [14] [(12, { told := [(1, { ans := .val (.tup [.agg (row_T_api_Type v5.1), dI v5.2]) })], keep := some ([11, 13, 14], [(13, 13)]) }), (13, { told := [(1, { ans := .val (.tup [.agg (row_T_api_Sig v6.1), dI v6.2]) })], keep := some ([13, 14, 16], [(13, 13)]) })] 400 (ev := .stop c49x23 [.seq c49x20, .blk 0, .seq c49x11]) (σ' := mkS 82 [(13, .lptr 13 0 0), (14, dI v5.2), (16, dI v6.2)] [(13, { sz := 3, rows := [row_T_api_Type v5.1], frz := 0, pure := false })]) (q := [True ∧ (cq Try.prog (tN 1) 56 [.str v3.1] (.tup [.agg (row_T_api_Type v5.1), dI v5.2])), True ∧ (0 ≤ 0 ∧ 0 + ([dI v5.1.f_Dim, d8 v5.1.f_Base, .str v5.1.f_Name] : List D).length ≤ ([dI 0, d8 0, .str []] : List D).length ∧ ([[dI v5.1.f_Dim, d8 v5.1.f_Base, .str v5.1.f_Name]] : List (List D)) = ([[dI v5.1.f_Dim, d8 v5.1.f_Base, .str v5.1.f_Name]] : List (List D))), True ∧ (cq Try.prog (tN 1) 57 [.str v3.1] (.tup [.agg (row_T_api_Sig v6.1), dI v6.2])), True ∧ (0 ≤ 0 ∧ 0 + ([.sl false (v6.1.f_Params.map row_T_api_Type), dI v6.1.f_Result.f_Dim, d8 v6.1.f_Result.f_Base, .str v6.1.f_Result.f_Name] : List D).length ≤ ([.sl true (([] : List T_api_Type).map row_T_api_Type), dI 0, d8 0, .str []] : List D).length ∧ ([[.sl false (v6.1.f_Params.map row_T_api_Type), dI v6.1.f_Result.f_Dim, d8 v6.1.f_Result.f_Base, .str v6.1.f_Result.f_Name]] : List (List D)) = ([[.sl false (v6.1.f_Params.map row_T_api_Type), dI v6.1.f_Result.f_Dim, d8 v6.1.f_Result.f_Base, .str v6.1.f_Result.f_Name]] : List (List D)))]) (by kernel_rfl) ⟨⟨trivial, cqi (tNi 1) (w56 e5)⟩, ⟨trivial, ⟨Nat.zero_le _, Nat.le_of_ble_eq_true rfl, rfl⟩⟩, ⟨trivial, cqi (tNi 1) (w57 e6)⟩, ⟨trivial, ⟨Nat.zero_le _, Nat.le_of_ble_eq_true rfl, rfl⟩⟩, trivial⟩ ?_
        refine EvOk.stop (At.ops (l := iv 0 11) (by kernel_rfl) (by kernel_rfl) ?_)
        refine AtOps.run (iv 0 3) (iv 3 8) [] [] [13, 14, 66] [(13, 13)] (n := 82) (sl := [(13, .lptr 13 0 0), (14, dI v5.2), (66, .bool (v6.2 != 0))]) (bl := [(13, { sz := 3, rows := [row_T_api_Type v5.1], frz := 0, pure := false })]) (q := []) (by kernel_rfl) (by kernel_rfl) trivial ?_
        rcases Bool.eq_false_or_eq_true (v6.2 != 0) with h4 | h4
        · replace h := iteT h4 h
          refine AtOps.run (iv 3 3) (iv 6 5) [] [(3, true), (4, true), (5, true)] [13, 66, 69] [(13, 13)] (n := 82) (sl := [(13, .lptr 13 0 0), (66, .bool (v6.2 != 0)), (69, .bool (v5.2 != 0))]) (bl := [(13, { sz := 3, rows := [row_T_api_Type v5.1], frz := 0, pure := false })]) (q := [((v6.2 != 0) == true) = true ∧ True, ((v6.2 != 0) == true) = true ∧ True, ((v6.2 != 0) == true) = true ∧ True]) (by kernel_rfl) (by kernel_rfl) ⟨⟨(gB h4 rfl), trivial⟩, ⟨(gB h4 rfl), trivial⟩, ⟨(gB h4 rfl), trivial⟩, trivial⟩ ?_
          rcases Bool.eq_false_or_eq_true (v5.2 != 0) with h5 | h5
          · replace h := iteT h5 h
            refine AtOps.run (iv 6 5) (iv 11 0) [(9, aT), (10, aT)] [(6, false), (7, false), (8, false), (9, true)] [74] [] (n := 82) (sl := [(74, .bool true)]) (bl := []) (q := [((v5.2 != 0) == false) = false, ((v5.2 != 0) == false) = false, ((v5.2 != 0) == false) = false, ((v6.2 != 0) == true) = true ∧ ((v5.2 != 0) = true), True ∧ ((v6.2 != 0) = true)]) (by kernel_rfl) (by kernel_rfl) ⟨gB h5 rfl, gB h5 rfl, gB h5 rfl, ⟨(gB h4 rfl), h5⟩, ⟨trivial, h4⟩, trivial⟩ ?_
            refine AtOps.done ?_
            refine At.advN [] [] 400 (ev := .cond true c49x21 c49x22 [.blk 0, .seq c49x11]) (σ' := mkS 82 [(74, .bool true)] []) (q := []) (by kernel_rfl) trivial ?_
            refine EvOk.cond (fun _ => ?_) (fun hb => Bool.noConfusion hb)
            refine At.gc [] [] (n := 82) (l := []) (bl := []) (by kernel_rfl) ?_
            refine At.adv [] [(15, { keep := some ([4], []) })] 400 (ev := .ret) (σ' := mkS 82 [(4, dI 13)] []) (q := []) (by kernel_rfl) trivial ?_
            refine EvOk.ret ?_
            obtain rfl := someE h
            exact Den.Ends.mk (.inl rfl) (d := dI 13) (p := (True ∧ True) ∧ (tN 1)) (by kernel_rfl) ⟨⟨trivial, trivial⟩, tNi 1⟩ (by kernel_rfl)
          · replace h := iteF h5 h
            refine AtOps.run (iv 6 5) (iv 11 0) [(9, aF), (10, aT)] [(6, true), (7, true), (8, true), (9, true)] [74] [] (n := 82) (sl := [(74, .bool (v5.1.f_Base == 86))]) (bl := []) (q := [((v5.2 != 0) == false) = true ∧ True, ((v5.2 != 0) == false) = true ∧ True, ((v5.2 != 0) == false) = true ∧ True, ((v6.2 != 0) == true) = true ∧ ((v5.2 != 0) = false), True ∧ ((v6.2 != 0) = true)]) (by kernel_rfl) (by kernel_rfl) ⟨⟨(gB h5 rfl), trivial⟩, ⟨(gB h5 rfl), trivial⟩, ⟨(gB h5 rfl), trivial⟩, ⟨(gB h4 rfl), h5⟩, ⟨trivial, h4⟩, trivial⟩ ?_
            refine AtOps.done ?_
            refine At.advN [] [] 400 (ev := .cond (v5.1.f_Base == 86) c49x21 c49x22 [.blk 0, .seq c49x11]) (σ' := mkS 82 [(74, .bool (v5.1.f_Base == 86))] []) (q := []) (by kernel_rfl) trivial ?_
            refine EvOk.cond (fun h6 => ?_) (fun h6 => ?_)
            · replace h := iteT h6 h
              refine At.gc [] [] (n := 82) (l := []) (bl := []) (by kernel_rfl) ?_
              refine At.adv [] [(15, { keep := some ([4], []) })] 400 (ev := .ret) (σ' := mkS 82 [(4, dI 13)] []) (q := []) (by kernel_rfl) trivial ?_
              refine EvOk.ret ?_
              obtain rfl := someE h
              exact Den.Ends.mk (.inl rfl) (d := dI 13) (p := (True ∧ True) ∧ (tN 1)) (by kernel_rfl) ⟨⟨trivial, trivial⟩, tNi 1⟩ (by kernel_rfl)
            · replace h := iteF h6 h
              refine At.gc [] [] (n := 82) (l := []) (bl := []) (by kernel_rfl) ?_
              refine At.adv [] [(20, { keep := some ([4], []) })] 400 (ev := .ret) (σ' := mkS 82 [(4, dI 0)] []) (q := []) (by kernel_rfl) trivial ?_
              refine EvOk.ret ?_
              obtain rfl := someE h
              exact Den.Ends.mk (.inl rfl) (d := dI 0) (p := (True ∧ True) ∧ (tN 1)) (by kernel_rfl) ⟨⟨trivial, trivial⟩, tNi 1⟩ (by kernel_rfl)
        · replace h := iteF h4 h
          refine AtOps.run (iv 3 8) (iv 11 0) [(10, aF)] [(3, false), (4, false), (5, false), (9, false)] [74] [] (n := 82) (sl := [(74, .bool false)]) (bl := []) (q := [((v6.2 != 0) == true) = false, ((v6.2 != 0) == true) = false, ((v6.2 != 0) == true) = false, True, True, True, ((v6.2 != 0) == true) = false, True ∧ ((v6.2 != 0) = false)]) (by kernel_rfl) (by kernel_rfl) ⟨gB h4 rfl, gB h4 rfl, gB h4 rfl, trivial, trivial, trivial, gB h4 rfl, ⟨trivial, h4⟩, trivial⟩ ?_
          refine AtOps.done ?_
          refine At.advN [] [] 400 (ev := .cond false c49x21 c49x22 [.blk 0, .seq c49x11]) (σ' := mkS 82 [(74, .bool false)] []) (q := []) (by kernel_rfl) trivial ?_
          refine EvOk.cond (fun hb => Bool.noConfusion hb) (fun _ => ?_)
          refine At.gc [] [] (n := 82) (l := []) (bl := []) (by kernel_rfl) ?_
          refine At.adv [] [(20, { keep := some ([4], []) })] 400 (ev := .ret) (σ' := mkS 82 [(4, dI 0)] []) (q := []) (by kernel_rfl) trivial ?_
          refine EvOk.ret ?_
          obtain rfl := someE h
          exact Den.Ends.mk (.inl rfl) (d := dI 0) (p := (True ∧ True) ∧ (tN 1)) (by kernel_rfl) ⟨⟨trivial, trivial⟩, tNi 1⟩ (by kernel_rfl)
    · replace h := iteF h2 h
      refine At.gc [0, 3, 18] [] (n := 82) (l := [(0, .sl false (x0.map row_T_api_Const)), (3, .ptr (row_T_api_Const x1)), (18, dI x1.f_Tag)]) (bl := []) (by kernel_rfl) ?_
      refine At.adv [] [(16, { keep := some ([0, 3, 18, 75], []) })] 400 (ev := .cond (x1.f_Tag == 9) c49x40 c49x36 [.seq c49x29, .blk 0, .seq c49x11]) (σ' := mkS 82 [(0, .sl false (x0.map row_T_api_Const)), (3, .ptr (row_T_api_Const x1)), (18, dI x1.f_Tag), (75, .bool (x1.f_Tag == 9))] []) (q := []) (by kernel_rfl) trivial ?_
      refine EvOk.cond (fun h7 => ?_) (fun h7 => ?_)
      · replace h := iteT h7 h
        refine At.gc [0, 3, 75] [] (n := 82) (l := [(0, .sl false (x0.map row_T_api_Const)), (3, .ptr (row_T_api_Const x1)), (75, .bool (x1.f_Tag == 9))]) (bl := []) (by kernel_rfl) ?_
        refine At.adv [] [] 400 (ev := .cond (x1.f_Tag == 9) c49x30 c49x33 [.blk 0, .seq c49x11]) (σ' := mkS 82 [(0, .sl false (x0.map row_T_api_Const)), (3, .ptr (row_T_api_Const x1)), (75, .bool (x1.f_Tag == 9))] []) (q := []) (by kernel_rfl) trivial ?_
        refine EvOk.cond (fun _ => ?_) (fun hb => Bool.noConfusion (h7.symm.trans hb))
        refine At.gc [0, 3] [] (n := 82) (l := [(0, .sl false (x0.map row_T_api_Const)), (3, .ptr (row_T_api_Const x1))]) (bl := []) (by kernel_rfl) ?_
        refine At.adv [19] [] 400 (ev := .stop c49x31 [.seq c49x32, .blk 0, .seq c49x11]) (σ' := mkS 82 [(0, .sl false (x0.map row_T_api_Const)), (3, .ptr (row_T_api_Const x1))] []) (q := []) (by kernel_rfl) trivial ?_
        exact (wj49x2 x0 x1)  r h Γ
      · replace h := iteF h7 h
        refine At.gc [0, 3, 18] [] (n := 82) (l := [(0, .sl false (x0.map row_T_api_Const)), (3, .ptr (row_T_api_Const x1)), (18, dI x1.f_Tag)]) (bl := []) (by kernel_rfl) ?_
        refine At.adv [] [(17, { keep := some ([0, 3, 18, 75], []) })] 400 (ev := .cond (x1.f_Tag == 10) c49x38 c49x39 [.seq c49x29, .blk 0, .seq c49x11]) (σ' := mkS 82 [(0, .sl false (x0.map row_T_api_Const)), (3, .ptr (row_T_api_Const x1)), (18, dI x1.f_Tag), (75, .bool (x1.f_Tag == 10))] []) (q := []) (by kernel_rfl) trivial ?_
        refine EvOk.cond (fun h8 => ?_) (fun h8 => ?_)
        · replace h := iteT h8 h
          refine At.gc [0, 3, 75] [] (n := 82) (l := [(0, .sl false (x0.map row_T_api_Const)), (3, .ptr (row_T_api_Const x1)), (75, .bool (x1.f_Tag == 10))]) (bl := []) (by kernel_rfl) ?_
          refine At.adv [] [] 400 (ev := .cond (x1.f_Tag == 10) c49x30 c49x33 [.blk 0, .seq c49x11]) (σ' := mkS 82 [(0, .sl false (x0.map row_T_api_Const)), (3, .ptr (row_T_api_Const x1)), (75, .bool (x1.f_Tag == 10))] []) (q := []) (by kernel_rfl) trivial ?_
          refine EvOk.cond (fun _ => ?_) (fun hb => Bool.noConfusion (h8.symm.trans hb))
          refine At.gc [0, 3] [] (n := 82) (l := [(0, .sl false (x0.map row_T_api_Const)), (3, .ptr (row_T_api_Const x1))]) (bl := []) (by kernel_rfl) ?_
          refine At.adv [19] [] 400 (ev := .stop c49x31 [.seq c49x32, .blk 0, .seq c49x11]) (σ' := mkS 82 [(0, .sl false (x0.map row_T_api_Const)), (3, .ptr (row_T_api_Const x1))] []) (q := []) (by kernel_rfl) trivial ?_
          exact (wj49x2 x0 x1)  r h Γ
        · replace h := iteF h8 h
          refine At.gc [0, 3, 18] [] (n := 82) (l := [(0, .sl false (x0.map row_T_api_Const)), (3, .ptr (row_T_api_Const x1)), (18, dI x1.f_Tag)]) (bl := []) (by kernel_rfl) ?_
          refine At.adv [] [(18, { keep := some ([0, 3, 75], []) })] 400 (ev := .cond (x1.f_Tag == 11) c49x30 c49x33 [.blk 0, .seq c49x11]) (σ' := mkS 82 [(0, .sl false (x0.map row_T_api_Const)), (3, .ptr (row_T_api_Const x1)), (75, .bool (x1.f_Tag == 11))] []) (q := []) (by kernel_rfl) trivial ?_
          exact (wj49x1 x0 x1)  r h Γ
theorem w49 {x0 : List T_api_Const} {x1 : T_api_Const} {r : Int} (h : m_pool_texts x0 x1 = some r) : CallSpec Try.prog 49 [.sl false (x0.map row_T_api_Const), .agg (row_T_api_Const x1)] (.int .i64 r) :=
  CallSpec.at2 b49 (n := 82) (l := [(0, .sl false (x0.map row_T_api_Const)), (1, .agg (row_T_api_Const x1))]) (by kernel_rfl) (by kernel_rfl) (by kernel_rfl) (by kernel_rfl) (by kernel_rfl) (Nat.le_of_ble_eq_true (by kernel_rfl)) (fun Γ => we49 x0 x1 r h Γ)

/-! ### armature pool.check -/
noncomputable def b36 : Code := Try.f36.body.getD .skip
noncomputable def c36x0 : Code := sub1 b36
noncomputable def c36x1 : Code := sub1 c36x0
noncomputable def c36x2 : Code := sub1 c36x1
noncomputable def c36x3 : Code := sub1 c36x2
noncomputable def c36x4 : Code := sub0 c36x3
noncomputable def c36x5 : Code := sub1 c36x4
noncomputable def c36x6 : Code := sub0 c36x5
noncomputable def c36x7 : Code := sub1 c36x5
noncomputable def c36x8 : Code := sub1 c36x3
noncomputable def c36x9 : Code := sub0 c36x8
noncomputable def c36x10 : Code := sub0 c36x9
noncomputable def c36x11 : Code := sub1 c36x9
noncomputable def c36x12 : Code := sub1 c36x8
noncomputable def c36x13 : Code := sub0 c36x4
noncomputable def c36x14 : Code := sub0 c36x2
noncomputable def c36x15 : Code := sub1 c36x14
noncomputable def c36x16 : Code := sub0 c36x15
noncomputable def c36x17 : Code := sub1 c36x15
noncomputable def c36x18 : Code := sub0 c36x1
noncomputable def c36x19 : Code := sub1 c36x18
noncomputable def c36x20 : Code := sub0 c36x19
noncomputable def c36x21 : Code := sub1 c36x19
noncomputable def c36x22 : Code := sub0 c36x12
noncomputable def c36x23 : Code := sub0 c36x22
noncomputable def c36x24 : Code := sub1 c36x22
noncomputable def c36x25 : Code := sub1 c36x12
noncomputable def c36x26 : Code := sub0 c36x11
noncomputable def c36x27 : Code := sub1 c36x26
noncomputable def c36x28 : Code := sub1 c36x27
noncomputable def c36x29 : Code := sub0 c36x28
noncomputable def c36x30 : Code := sub1 c36x28
noncomputable def c36x31 : Code := sub1 c36x11
noncomputable def c36x32 : Code := sub0 c36x25
noncomputable def c36x33 : Code := sub1 c36x25
noncomputable def c36x34 : Code := sub0 c36x24
noncomputable def c36x35 : Code := sub1 c36x34
noncomputable def c36x36 : Code := sub1 c36x35
noncomputable def c36x37 : Code := sub0 c36x36
noncomputable def c36x38 : Code := sub1 c36x36
noncomputable def c36x39 : Code := sub1 c36x24
def j36x3 (x0 : List T_api_Const) (x1 : T_api_Const) : Option (Int) :=
  (m_pool_texts x0 x1).bind fun v8 =>
  some v8
def j36x2 (v0 : Int × Int × Bool) (x0 : List T_api_Const) (x1 : T_api_Const) : Option (Int) :=
  if (v0.2.1 != 0) = true then
    ((m_pool_tagged x0 x1.f_B v0.2.1).bind fun v7 =>
    if (v7.2 != 0) = true then
      (some v7.2) else
    ((j36x3 x0 x1) )) else
  ((j36x3 x0 x1) )
def j36x1 (v0 : Int × Int × Bool) (x0 : List T_api_Const) (x1 : T_api_Const) : Option (Int) :=
  if (v0.1 != 0) = true then
    ((m_pool_tagged x0 x1.f_A v0.1).bind fun v6 =>
    if (v6.2 != 0) = true then
      (some v6.2) else
    ((j36x2 v0 x0 x1) )) else
  ((j36x2 v0 x0 x1) )
def m_pool_check (x0 : List T_api_Const) (x1 : T_api_Const) : Option (Int) :=
  (m_pool_links x1.f_Tag).bind fun v0 =>
  if (!v0.2.2) = true then
    (some 11) else
  ((m_pool_unused x1 v0.1 v0.2.1).bind fun v1 =>
    if v1 = true then
      (some 4) else
    (if (x1.f_Tag == 1) = true then (if (decide ((x1.f_S.length : Int) > 1024)) = true then (some 8) else
        (if (x1.f_Tag == 3) = true then ((some (IntKind.wrap .i32 x1.f_N)).bind fun v2 =>
            (some (IntKind.wrap .i64 v2)).bind fun v3 =>
            if (v3 != x1.f_N) = true then
              (some 8) else
            ((j36x1 v0 x0 x1) )) else
          ((j36x1 v0 x0 x1) ))) else
      (if (x1.f_Tag == 3) = true then ((some (IntKind.wrap .i32 x1.f_N)).bind fun v4 =>
          (some (IntKind.wrap .i64 v4)).bind fun v5 =>
          if (v5 != x1.f_N) = true then
            (some 8) else
          ((j36x1 v0 x0 x1) )) else
        ((j36x1 v0 x0 x1) ))))
theorem wj36x3 (x0 : List T_api_Const) (x1 : T_api_Const) (r : Int) (h : (j36x3 x0 x1)  = some r) (Γ : Ctx) : EvOk Try.prog Γ (Den.Ends Try.prog Try.f36 (dI r)) (mkS 77 [(0, .sl false (x0.map row_T_api_Const)), (3, .ptr (row_T_api_Const x1))] []) (.stop c36x32 [.seq c36x33]) := by
  refine EvOk.stop ?_
  obtain ⟨v8, e8, h⟩ := bindE h
  refine At.adv [] [(16, { told := [(2, aI v8)], keep := some ([4], []) })] 400 (ev := .ret) (σ' := mkS 77 [(4, dI v8)] []) (q := [True ∧ (cq Try.prog (True ∧ ((tN 5) ∧ True)) 49 [.sl false (x0.map row_T_api_Const), .agg [dI x1.f_Tag, .str x1.f_S, dI x1.f_N, dI x1.f_A, dI x1.f_B]] (dI v8))]) (by kernel_rfl) ⟨⟨trivial, cqi (⟨trivial, ⟨tNi 5, trivial⟩⟩) (w49 e8)⟩, trivial⟩ ?_
  refine EvOk.ret ?_
  obtain rfl := someE h
  exact Den.Ends.mk (.inl rfl) (d := dI v8) (p := (True ∧ True) ∧ (tN 1)) (by kernel_rfl) ⟨⟨trivial, trivial⟩, tNi 1⟩ (by kernel_rfl)
theorem wj36x2 (v0 : Int × Int × Bool) (x0 : List T_api_Const) (x1 : T_api_Const) (r : Int) (h : (j36x2 v0 x0 x1)  = some r) (Γ : Ctx) : EvOk Try.prog Γ (Den.Ends Try.prog Try.f36 (dI r)) (mkS 77 [(0, .sl false (x0.map row_T_api_Const)), (3, .ptr (row_T_api_Const x1)), (6, dI v0.2.1)] []) (.stop c36x23 [.seq c36x24, .seq c36x25]) := by
  refine EvOk.stop ?_
  refine At.adv [] [(12, { keep := some ([0, 3, 6, 62], []) })] 400 (ev := .cond (v0.2.1 != 0) c36x34 c36x39 [.seq c36x25]) (σ' := mkS 77 [(0, .sl false (x0.map row_T_api_Const)), (3, .ptr (row_T_api_Const x1)), (6, dI v0.2.1), (62, .bool (v0.2.1 != 0))] []) (q := []) (by kernel_rfl) trivial ?_
  refine EvOk.cond (fun h10 => ?_) (fun h10 => ?_)
  · replace h := iteT h10 h
    refine At.gc [0, 3, 6] [] (n := 77) (l := [(0, .sl false (x0.map row_T_api_Const)), (3, .ptr (row_T_api_Const x1)), (6, dI v0.2.1)]) (bl := []) (by kernel_rfl) ?_
    obtain ⟨v7, e7, h⟩ := bindE h
    refine At.adv [] [(13, { told := [(4, { ans := .val (.tup [.agg (row_T_api_Const v7.1), dI v7.2]) })], keep := some ([0, 3, 11], []) }), (14, { keep := some ([0, 3, 11, 72], []) })] 400 (ev := .cond (v7.2 != 0) c36x37 c36x38 [.seq c36x25]) (σ' := mkS 77 [(0, .sl false (x0.map row_T_api_Const)), (3, .ptr (row_T_api_Const x1)), (11, dI v7.2), (72, .bool (v7.2 != 0))] []) (q := [True ∧ (cq Try.prog (tN 3) 38 [.sl false (x0.map row_T_api_Const), dI x1.f_B, dI v0.2.1] (.tup [.agg (row_T_api_Const v7.1), dI v7.2])), True ∧ (0 ≤ 0 ∧ 0 + ([dI v7.1.f_Tag, .str v7.1.f_S, dI v7.1.f_N, dI v7.1.f_A, dI v7.1.f_B] : List D).length ≤ ([dI 0, .str [], dI 0, dI 0, dI 0] : List D).length ∧ ([[dI v7.1.f_Tag, .str v7.1.f_S, dI v7.1.f_N, dI v7.1.f_A, dI v7.1.f_B]] : List (List D)) = ([[dI v7.1.f_Tag, .str v7.1.f_S, dI v7.1.f_N, dI v7.1.f_A, dI v7.1.f_B]] : List (List D)))]) (by kernel_rfl) ⟨⟨trivial, cqi (tNi 3) (w38 e7)⟩, ⟨trivial, ⟨Nat.zero_le _, Nat.le_of_ble_eq_true rfl, rfl⟩⟩, trivial⟩ ?_
    refine EvOk.cond (fun h11 => ?_) (fun h11 => ?_)
    · replace h := iteT h11 h
      refine At.gc [11] [] (n := 77) (l := [(11, dI v7.2)]) (bl := []) (by kernel_rfl) ?_
      refine At.adv [] [(15, { keep := some ([4], []) })] 400 (ev := .ret) (σ' := mkS 77 [(4, dI v7.2)] []) (q := []) (by kernel_rfl) trivial ?_
      refine EvOk.ret ?_
      obtain rfl := someE h
      exact Den.Ends.mk (.inl rfl) (d := dI v7.2) (p := (True ∧ True) ∧ (tN 1)) (by kernel_rfl) ⟨⟨trivial, trivial⟩, tNi 1⟩ (by kernel_rfl)
    · replace h := iteF h11 h
      refine At.gc [0, 3] [] (n := 77) (l := [(0, .sl false (x0.map row_T_api_Const)), (3, .ptr (row_T_api_Const x1))]) (bl := []) (by kernel_rfl) ?_
      refine At.adv [16] [] 400 (ev := .stop c36x32 [.seq c36x33]) (σ' := mkS 77 [(0, .sl false (x0.map row_T_api_Const)), (3, .ptr (row_T_api_Const x1))] []) (q := []) (by kernel_rfl) trivial ?_
      exact (wj36x3 x0 x1)  r h Γ
  · replace h := iteF h10 h
    refine At.gc [0, 3] [] (n := 77) (l := [(0, .sl false (x0.map row_T_api_Const)), (3, .ptr (row_T_api_Const x1))]) (bl := []) (by kernel_rfl) ?_
    refine At.adv [16] [] 400 (ev := .stop c36x32 [.seq c36x33]) (σ' := mkS 77 [(0, .sl false (x0.map row_T_api_Const)), (3, .ptr (row_T_api_Const x1))] []) (q := []) (by kernel_rfl) trivial ?_
    exact (wj36x3 x0 x1)  r h Γ
theorem wj36x1 (v0 : Int × Int × Bool) (x0 : List T_api_Const) (x1 : T_api_Const) (r : Int) (h : (j36x1 v0 x0 x1)  = some r) (Γ : Ctx) : EvOk Try.prog Γ (Den.Ends Try.prog Try.f36 (dI r)) (mkS 77 [(0, .sl false (x0.map row_T_api_Const)), (3, .ptr (row_T_api_Const x1)), (5, dI v0.1), (6, dI v0.2.1)] []) (.stop c36x10 [.seq c36x11, .seq c36x12]) := by
  refine EvOk.stop ?_
  refine At.adv [] [(8, { keep := some ([0, 3, 5, 6, 49], []) })] 400 (ev := .cond (v0.1 != 0) c36x26 c36x31 [.seq c36x12]) (σ' := mkS 77 [(0, .sl false (x0.map row_T_api_Const)), (3, .ptr (row_T_api_Const x1)), (5, dI v0.1), (6, dI v0.2.1), (49, .bool (v0.1 != 0))] []) (q := []) (by kernel_rfl) trivial ?_
  refine EvOk.cond (fun h8 => ?_) (fun h8 => ?_)
  · replace h := iteT h8 h
    refine At.gc [0, 3, 5, 6] [] (n := 77) (l := [(0, .sl false (x0.map row_T_api_Const)), (3, .ptr (row_T_api_Const x1)), (5, dI v0.1), (6, dI v0.2.1)]) (bl := []) (by kernel_rfl) ?_
    obtain ⟨v6, e6, h⟩ := bindE h
    refine At.adv [] [(9, { told := [(4, { ans := .val (.tup [.agg (row_T_api_Const v6.1), dI v6.2]) })], keep := some ([0, 3, 6, 9], []) }), (10, { keep := some ([0, 3, 6, 9, 59], []) })] 400 (ev := .cond (v6.2 != 0) c36x29 c36x30 [.seq c36x12]) (σ' := mkS 77 [(0, .sl false (x0.map row_T_api_Const)), (3, .ptr (row_T_api_Const x1)), (6, dI v0.2.1), (9, dI v6.2), (59, .bool (v6.2 != 0))] []) (q := [True ∧ (cq Try.prog (tN 3) 38 [.sl false (x0.map row_T_api_Const), dI x1.f_A, dI v0.1] (.tup [.agg (row_T_api_Const v6.1), dI v6.2])), True ∧ (0 ≤ 0 ∧ 0 + ([dI v6.1.f_Tag, .str v6.1.f_S, dI v6.1.f_N, dI v6.1.f_A, dI v6.1.f_B] : List D).length ≤ ([dI 0, .str [], dI 0, dI 0, dI 0] : List D).length ∧ ([[dI v6.1.f_Tag, .str v6.1.f_S, dI v6.1.f_N, dI v6.1.f_A, dI v6.1.f_B]] : List (List D)) = ([[dI v6.1.f_Tag, .str v6.1.f_S, dI v6.1.f_N, dI v6.1.f_A, dI v6.1.f_B]] : List (List D)))]) (by kernel_rfl) ⟨⟨trivial, cqi (tNi 3) (w38 e6)⟩, ⟨trivial, ⟨Nat.zero_le _, Nat.le_of_ble_eq_true rfl, rfl⟩⟩, trivial⟩ ?_
    refine EvOk.cond (fun h9 => ?_) (fun h9 => ?_)
    · replace h := iteT h9 h
      refine At.gc [9] [] (n := 77) (l := [(9, dI v6.2)]) (bl := []) (by kernel_rfl) ?_
      refine At.adv [] [(11, { keep := some ([4], []) })] 400 (ev := .ret) (σ' := mkS 77 [(4, dI v6.2)] []) (q := []) (by kernel_rfl) trivial ?_
      refine EvOk.ret ?_
      obtain rfl := someE h
      exact Den.Ends.mk (.inl rfl) (d := dI v6.2) (p := (True ∧ True) ∧ (tN 1)) (by kernel_rfl) ⟨⟨trivial, trivial⟩, tNi 1⟩ (by kernel_rfl)
    · replace h := iteF h9 h
      refine At.gc [0, 3, 6] [] (n := 77) (l := [(0, .sl false (x0.map row_T_api_Const)), (3, .ptr (row_T_api_Const x1)), (6, dI v0.2.1)]) (bl := []) (by kernel_rfl) ?_
      refine At.adv [12] [] 400 (ev := .stop c36x23 [.seq c36x24, .seq c36x25]) (σ' := mkS 77 [(0, .sl false (x0.map row_T_api_Const)), (3, .ptr (row_T_api_Const x1)), (6, dI v0.2.1)] []) (q := []) (by kernel_rfl) trivial ?_
      exact (wj36x2 v0 x0 x1)  r h Γ
  · replace h := iteF h8 h
    refine At.gc [0, 3, 6] [] (n := 77) (l := [(0, .sl false (x0.map row_T_api_Const)), (3, .ptr (row_T_api_Const x1)), (6, dI v0.2.1)]) (bl := []) (by kernel_rfl) ?_
    refine At.adv [12] [] 400 (ev := .stop c36x23 [.seq c36x24, .seq c36x25]) (σ' := mkS 77 [(0, .sl false (x0.map row_T_api_Const)), (3, .ptr (row_T_api_Const x1)), (6, dI v0.2.1)] []) (q := []) (by kernel_rfl) trivial ?_
    exact (wj36x2 v0 x0 x1)  r h Γ
theorem we36 (x0 : List T_api_Const) (x1 : T_api_Const) (r : Int) (h : m_pool_check x0 x1 = some r) (Γ : Ctx) : At Try.prog Γ b36 [] (Den.Ends Try.prog Try.f36 (dI r)) (mkS 77 [(0, .sl false (x0.map row_T_api_Const)), (1, .agg (row_T_api_Const x1))] []) := by
  obtain ⟨v0, e0, h⟩ := bindE h
  refine At.adv [] [(0, { told := [(0, { ro := true })], keep := some ([0, 3], []) }), (1, { told := [(2, { ans := .val (.tup [dI v0.1, dI v0.2.1, .bool v0.2.2]) })], keep := some ([0, 3, 5, 6, 7], []) }), (2, { keep := some ([0, 3, 5, 6, 20], []) })] 400 (ev := .cond (!v0.2.2) c36x20 c36x21 [.seq c36x2]) (σ' := mkS 77 [(0, .sl false (x0.map row_T_api_Const)), (3, .ptr (row_T_api_Const x1)), (5, dI v0.1), (6, dI v0.2.1), (20, .bool (!v0.2.2))] []) (q := [True ∧ (cq Try.prog (tN 1) 47 [dI x1.f_Tag] (.tup [dI v0.1, dI v0.2.1, .bool v0.2.2]))]) (by kernel_rfl) ⟨⟨trivial, cqi (tNi 1) (w47 e0)⟩, trivial⟩ ?_
  refine EvOk.cond (fun h0 => ?_) (fun h0 => ?_)
  · replace h := iteT h0 h
    refine At.gc [] [] (n := 77) (l := []) (bl := []) (by kernel_rfl) ?_
    refine At.adv [] [(3, { keep := some ([4], []) })] 400 (ev := .ret) (σ' := mkS 77 [(4, dI 11)] []) (q := []) (by kernel_rfl) trivial ?_
    refine EvOk.ret ?_
    obtain rfl := someE h
    exact Den.Ends.mk (.inl rfl) (d := dI 11) (p := (True ∧ True) ∧ (tN 1)) (by kernel_rfl) ⟨⟨trivial, trivial⟩, tNi 1⟩ (by kernel_rfl)
  · replace h := iteF h0 h
    refine At.gc [0, 3, 5, 6] [] (n := 77) (l := [(0, .sl false (x0.map row_T_api_Const)), (3, .ptr (row_T_api_Const x1)), (5, dI v0.1), (6, dI v0.2.1)]) (bl := []) (by kernel_rfl) ?_
    obtain ⟨v1, e1, h⟩ := bindE h
    refine At.adv [] [(4, { told := [(3, aB v1)], keep := some ([0, 3, 5, 6, 24], []) })] 400 (ev := .cond v1 c36x16 c36x17 [.seq c36x3]) (σ' := mkS 77 [(0, .sl false (x0.map row_T_api_Const)), (3, .ptr (row_T_api_Const x1)), (5, dI v0.1), (6, dI v0.2.1), (24, .bool v1)] []) (q := [True ∧ (cq Try.prog ((tN 5) ∧ (True ∧ (True ∧ True))) 48 [.agg [dI x1.f_Tag, .str x1.f_S, dI x1.f_N, dI x1.f_A, dI x1.f_B], dI v0.1, dI v0.2.1] (.bool v1))]) (by kernel_rfl) ⟨⟨trivial, cqi (⟨tNi 5, ⟨trivial, ⟨trivial, trivial⟩⟩⟩) (w48 e1)⟩, trivial⟩ ?_
    refine EvOk.cond (fun h1 => ?_) (fun h1 => ?_)
    · replace h := iteT h1 h
      refine At.gc [] [] (n := 77) (l := []) (bl := []) (by kernel_rfl) ?_
      refine At.adv [] [(5, { keep := some ([4], []) })] 400 (ev := .ret) (σ' := mkS 77 [(4, dI 4)] []) (q := []) (by kernel_rfl) trivial ?_
      refine EvOk.ret ?_
      obtain rfl := someE h
      exact Den.Ends.mk (.inl rfl) (d := dI 4) (p := (True ∧ True) ∧ (tN 1)) (by kernel_rfl) ⟨⟨trivial, trivial⟩, tNi 1⟩ (by kernel_rfl)
    · replace h := iteF h1 h
      refine At.gc [0, 3, 5, 6] [] (n := 77) (l := [(0, .sl false (x0.map row_T_api_Const)), (3, .ptr (row_T_api_Const x1)), (5, dI v0.1), (6, dI v0.2.1)]) (bl := []) (by kernel_rfl) ?_
      refine At.adv [6] [] 400 (ev := .stop c36x13 [.seq c36x5, .seq c36x8]) (σ' := mkS 77 [(0, .sl false (x0.map row_T_api_Const)), (3, .ptr (row_T_api_Const x1)), (5, dI v0.1), (6, dI v0.2.1)] []) (q := []) (by kernel_rfl) trivial ?_
      refine EvOk.stop (At.ops (l := iv 0 23) (by kernel_rfl) (by kernel_rfl) ?_)
      refine AtOps.run (iv 0 4) (iv 4 19) [] [] [0, 3, 5, 6, 28] [] (n := 77) (sl := [(0, .sl false (x0.map row_T_api_Const)), (3, .ptr (row_T_api_Const x1)), (5, dI v0.1), (6, dI v0.2.1), (28, .bool (x1.f_Tag == 1))]) (bl := []) (q := []) (by kernel_rfl) (by kernel_rfl) trivial ?_
      rcases Bool.eq_false_or_eq_true (x1.f_Tag == 1) with h2 | h2
      · replace h := iteT h2 h
        refine AtOps.run (iv 4 6) (iv 10 13) [(8, aT)] [(4, true), (5, true), (6, true), (7, true)] [0, 3, 5, 6, 34] [] (n := 77) (sl := [(0, .sl false (x0.map row_T_api_Const)), (3, .ptr (row_T_api_Const x1)), (5, dI v0.1), (6, dI v0.2.1), (34, .bool (decide ((x1.f_S.length : Int) > 1024)))]) (bl := []) (q := [((x1.f_Tag == 1) == true) = true ∧ True, ((x1.f_Tag == 1) == true) = true ∧ True, ((x1.f_Tag == 1) == true) = true ∧ True, ((x1.f_Tag == 1) == true) = true ∧ True, True ∧ ((x1.f_Tag == 1) = true)]) (by kernel_rfl) (by kernel_rfl) ⟨⟨(gB h2 rfl), trivial⟩, ⟨(gB h2 rfl), trivial⟩, ⟨(gB h2 rfl), trivial⟩, ⟨(gB h2 rfl), trivial⟩, ⟨trivial, h2⟩, trivial⟩ ?_
        rcases Bool.eq_false_or_eq_true (decide ((x1.f_S.length : Int) > 1024)) with h3 | h3
        · replace h := iteT h3 h
          refine AtOps.run (iv 10 13) (iv 23 0) [(22, aT)] [(10, false), (11, false), (12, false), (13, false), (21, false)] [0, 3, 5, 6, 47] [] (n := 77) (sl := [(0, .sl false (x0.map row_T_api_Const)), (3, .ptr (row_T_api_Const x1)), (5, dI v0.1), (6, dI v0.2.1), (47, .bool true)]) (bl := []) (q := [((decide ((x1.f_S.length : Int) > 1024)) == false) = false, ((decide ((x1.f_S.length : Int) > 1024)) == false) = false, ((decide ((x1.f_S.length : Int) > 1024)) == false) = false, ((decide ((x1.f_S.length : Int) > 1024)) == false) = false, True, True, True, True, True, True, True, ((decide ((x1.f_S.length : Int) > 1024)) == false) = false, True ∧ ((decide ((x1.f_S.length : Int) > 1024)) = true)]) (by kernel_rfl) (by kernel_rfl) ⟨gB h3 rfl, gB h3 rfl, gB h3 rfl, gB h3 rfl, trivial, trivial, trivial, trivial, trivial, trivial, trivial, gB h3 rfl, ⟨trivial, h3⟩, trivial⟩ ?_
          refine AtOps.done ?_
          refine At.advN [] [] 400 (ev := .cond true c36x6 c36x7 [.seq c36x8]) (σ' := mkS 77 [(0, .sl false (x0.map row_T_api_Const)), (3, .ptr (row_T_api_Const x1)), (5, dI v0.1), (6, dI v0.2.1), (47, .bool true)] []) (q := []) (by kernel_rfl) trivial ?_
          refine EvOk.cond (fun _ => ?_) (fun hb => Bool.noConfusion hb)
          refine At.gc [] [] (n := 77) (l := []) (bl := []) (by kernel_rfl) ?_
          refine At.adv [] [(7, { keep := some ([4], []) })] 400 (ev := .ret) (σ' := mkS 77 [(4, dI 8)] []) (q := []) (by kernel_rfl) trivial ?_
          refine EvOk.ret ?_
          obtain rfl := someE h
          exact Den.Ends.mk (.inl rfl) (d := dI 8) (p := (True ∧ True) ∧ (tN 1)) (by kernel_rfl) ⟨⟨trivial, trivial⟩, tNi 1⟩ (by kernel_rfl)
        · replace h := iteF h3 h
          refine AtOps.run (iv 10 4) (iv 14 9) [] [(10, true), (11, true), (12, true), (13, true)] [0, 3, 5, 6, 34, 38] [] (n := 77) (sl := [(0, .sl false (x0.map row_T_api_Const)), (3, .ptr (row_T_api_Const x1)), (5, dI v0.1), (6, dI v0.2.1), (34, .bool (decide ((x1.f_S.length : Int) > 1024))), (38, .bool (x1.f_Tag == 3))]) (bl := []) (q := [((decide ((x1.f_S.length : Int) > 1024)) == false) = true ∧ True, ((decide ((x1.f_S.length : Int) > 1024)) == false) = true ∧ True, ((decide ((x1.f_S.length : Int) > 1024)) == false) = true ∧ True, ((decide ((x1.f_S.length : Int) > 1024)) == false) = true ∧ True]) (by kernel_rfl) (by kernel_rfl) ⟨⟨(gB h3 rfl), trivial⟩, ⟨(gB h3 rfl), trivial⟩, ⟨(gB h3 rfl), trivial⟩, ⟨(gB h3 rfl), trivial⟩, trivial⟩ ?_
          rcases Bool.eq_false_or_eq_true (x1.f_Tag == 3) with h4 | h4
          · replace h := iteT h4 h
            obtain ⟨v2, e2, h⟩ := bindE h
            obtain ⟨v3, e3, h⟩ := bindE h
            refine AtOps.run (iv 14 9) (iv 23 0) [(16, { ans := .val (.int .i32 v2) }), (17, aI v3), (21, aT), (22, aF)] [(14, true), (15, true), (16, true), (17, true), (18, true), (19, true), (20, true), (21, true)] [0, 3, 5, 6, 47] [] (n := 77) (sl := [(0, .sl false (x0.map row_T_api_Const)), (3, .ptr (row_T_api_Const x1)), (5, dI v0.1), (6, dI v0.2.1), (47, .bool (v3 != x1.f_N))]) (bl := []) (q := [((x1.f_Tag == 3) == true) = true ∧ True, ((x1.f_Tag == 3) == true) = true ∧ True, ((x1.f_Tag == 3) == true) = true ∧ (IntKind.wrap .i32 x1.f_N = v2), ((x1.f_Tag == 3) == true) = true ∧ (IntKind.wrap .i64 v2 = v3), ((x1.f_Tag == 3) == true) = true ∧ True, ((x1.f_Tag == 3) == true) = true ∧ True, ((x1.f_Tag == 3) == true) = true ∧ True, ((decide ((x1.f_S.length : Int) > 1024)) == false) = true ∧ ((x1.f_Tag == 3) = true), True ∧ ((decide ((x1.f_S.length : Int) > 1024)) = false)]) (by kernel_rfl) (by kernel_rfl) ⟨⟨(gB h4 rfl), trivial⟩, ⟨(gB h4 rfl), trivial⟩, ⟨(gB h4 rfl), someE e2⟩, ⟨(gB h4 rfl), someE e3⟩, ⟨(gB h4 rfl), trivial⟩, ⟨(gB h4 rfl), trivial⟩, ⟨(gB h4 rfl), trivial⟩, ⟨(gB h3 rfl), h4⟩, ⟨trivial, h3⟩, trivial⟩ ?_
            refine AtOps.done ?_
            refine At.advN [] [] 400 (ev := .cond (v3 != x1.f_N) c36x6 c36x7 [.seq c36x8]) (σ' := mkS 77 [(0, .sl false (x0.map row_T_api_Const)), (3, .ptr (row_T_api_Const x1)), (5, dI v0.1), (6, dI v0.2.1), (47, .bool (v3 != x1.f_N))] []) (q := []) (by kernel_rfl) trivial ?_
            refine EvOk.cond (fun h5 => ?_) (fun h5 => ?_)
            · replace h := iteT h5 h
              refine At.gc [] [] (n := 77) (l := []) (bl := []) (by kernel_rfl) ?_
              refine At.adv [] [(7, { keep := some ([4], []) })] 400 (ev := .ret) (σ' := mkS 77 [(4, dI 8)] []) (q := []) (by kernel_rfl) trivial ?_
              refine EvOk.ret ?_
              obtain rfl := someE h
              exact Den.Ends.mk (.inl rfl) (d := dI 8) (p := (True ∧ True) ∧ (tN 1)) (by kernel_rfl) ⟨⟨trivial, trivial⟩, tNi 1⟩ (by kernel_rfl)
            · replace h := iteF h5 h
              refine At.gc [0, 3, 5, 6] [] (n := 77) (l := [(0, .sl false (x0.map row_T_api_Const)), (3, .ptr (row_T_api_Const x1)), (5, dI v0.1), (6, dI v0.2.1)]) (bl := []) (by kernel_rfl) ?_
              refine At.adv [8] [] 400 (ev := .stop c36x10 [.seq c36x11, .seq c36x12]) (σ' := mkS 77 [(0, .sl false (x0.map row_T_api_Const)), (3, .ptr (row_T_api_Const x1)), (5, dI v0.1), (6, dI v0.2.1)] []) (q := []) (by kernel_rfl) trivial ?_
              exact (wj36x1 v0 x0 x1)  r h Γ
          · replace h := iteF h4 h
            refine AtOps.run (iv 14 9) (iv 23 0) [(21, aF), (22, aF)] [(14, false), (15, false), (16, false), (17, false), (18, false), (19, false), (20, false), (21, true)] [0, 3, 5, 6, 47] [] (n := 77) (sl := [(0, .sl false (x0.map row_T_api_Const)), (3, .ptr (row_T_api_Const x1)), (5, dI v0.1), (6, dI v0.2.1), (47, .bool false)]) (bl := []) (q := [((x1.f_Tag == 3) == true) = false, ((x1.f_Tag == 3) == true) = false, ((x1.f_Tag == 3) == true) = false, ((x1.f_Tag == 3) == true) = false, ((x1.f_Tag == 3) == true) = false, ((x1.f_Tag == 3) == true) = false, ((x1.f_Tag == 3) == true) = false, ((decide ((x1.f_S.length : Int) > 1024)) == false) = true ∧ ((x1.f_Tag == 3) = false), True ∧ ((decide ((x1.f_S.length : Int) > 1024)) = false)]) (by kernel_rfl) (by kernel_rfl) ⟨gB h4 rfl, gB h4 rfl, gB h4 rfl, gB h4 rfl, gB h4 rfl, gB h4 rfl, gB h4 rfl, ⟨(gB h3 rfl), h4⟩, ⟨trivial, h3⟩, trivial⟩ ?_
            refine AtOps.done ?_
            refine At.advN [] [] 400 (ev := .cond false c36x6 c36x7 [.seq c36x8]) (σ' := mkS 77 [(0, .sl false (x0.map row_T_api_Const)), (3, .ptr (row_T_api_Const x1)), (5, dI v0.1), (6, dI v0.2.1), (47, .bool false)] []) (q := []) (by kernel_rfl) trivial ?_
            refine EvOk.cond (fun hb => Bool.noConfusion hb) (fun _ => ?_)
            refine At.gc [0, 3, 5, 6] [] (n := 77) (l := [(0, .sl false (x0.map row_T_api_Const)), (3, .ptr (row_T_api_Const x1)), (5, dI v0.1), (6, dI v0.2.1)]) (bl := []) (by kernel_rfl) ?_
            refine At.adv [8] [] 400 (ev := .stop c36x10 [.seq c36x11, .seq c36x12]) (σ' := mkS 77 [(0, .sl false (x0.map row_T_api_Const)), (3, .ptr (row_T_api_Const x1)), (5, dI v0.1), (6, dI v0.2.1)] []) (q := []) (by kernel_rfl) trivial ?_
            exact (wj36x1 v0 x0 x1)  r h Γ
      · replace h := iteF h2 h
        refine AtOps.run (iv 4 10) (iv 14 9) [(8, aF)] [(4, false), (5, false), (6, false), (7, false)] [0, 3, 5, 6, 34, 38] [] (n := 77) (sl := [(0, .sl false (x0.map row_T_api_Const)), (3, .ptr (row_T_api_Const x1)), (5, dI v0.1), (6, dI v0.2.1), (34, .bool false), (38, .bool (x1.f_Tag == 3))]) (bl := []) (q := [((x1.f_Tag == 1) == true) = false, ((x1.f_Tag == 1) == true) = false, ((x1.f_Tag == 1) == true) = false, ((x1.f_Tag == 1) == true) = false, True ∧ ((x1.f_Tag == 1) = false), True ∧ True, True ∧ True, True ∧ True, True ∧ True]) (by kernel_rfl) (by kernel_rfl) ⟨gB h2 rfl, gB h2 rfl, gB h2 rfl, gB h2 rfl, ⟨trivial, h2⟩, ⟨trivial, trivial⟩, ⟨trivial, trivial⟩, ⟨trivial, trivial⟩, ⟨trivial, trivial⟩, trivial⟩ ?_
        rcases Bool.eq_false_or_eq_true (x1.f_Tag == 3) with h6 | h6
        · replace h := iteT h6 h
          obtain ⟨v4, e4, h⟩ := bindE h
          obtain ⟨v5, e5, h⟩ := bindE h
          refine AtOps.run (iv 14 9) (iv 23 0) [(16, { ans := .val (.int .i32 v4) }), (17, aI v5), (21, aT)] [(14, true), (15, true), (16, true), (17, true), (18, true), (19, true), (20, true)] [0, 3, 5, 6, 47] [] (n := 77) (sl := [(0, .sl false (x0.map row_T_api_Const)), (3, .ptr (row_T_api_Const x1)), (5, dI v0.1), (6, dI v0.2.1), (47, .bool (v5 != x1.f_N))]) (bl := []) (q := [((x1.f_Tag == 3) == true) = true ∧ True, ((x1.f_Tag == 3) == true) = true ∧ True, ((x1.f_Tag == 3) == true) = true ∧ (IntKind.wrap .i32 x1.f_N = v4), ((x1.f_Tag == 3) == true) = true ∧ (IntKind.wrap .i64 v4 = v5), ((x1.f_Tag == 3) == true) = true ∧ True, ((x1.f_Tag == 3) == true) = true ∧ True, ((x1.f_Tag == 3) == true) = true ∧ True, True ∧ ((x1.f_Tag == 3) = true)]) (by kernel_rfl) (by kernel_rfl) ⟨⟨(gB h6 rfl), trivial⟩, ⟨(gB h6 rfl), trivial⟩, ⟨(gB h6 rfl), someE e4⟩, ⟨(gB h6 rfl), someE e5⟩, ⟨(gB h6 rfl), trivial⟩, ⟨(gB h6 rfl), trivial⟩, ⟨(gB h6 rfl), trivial⟩, ⟨trivial, h6⟩, trivial⟩ ?_
          refine AtOps.done ?_
          refine At.advN [] [] 400 (ev := .cond (v5 != x1.f_N) c36x6 c36x7 [.seq c36x8]) (σ' := mkS 77 [(0, .sl false (x0.map row_T_api_Const)), (3, .ptr (row_T_api_Const x1)), (5, dI v0.1), (6, dI v0.2.1), (47, .bool (v5 != x1.f_N))] []) (q := []) (by kernel_rfl) trivial ?_
          refine EvOk.cond (fun h7 => ?_) (fun h7 => ?_)
          · replace h := iteT h7 h
            refine At.gc [] [] (n := 77) (l := []) (bl := []) (by kernel_rfl) ?_
            refine At.adv [] [(7, { keep := some ([4], []) })] 400 (ev := .ret) (σ' := mkS 77 [(4, dI 8)] []) (q := []) (by kernel_rfl) trivial ?_
            refine EvOk.ret ?_
            obtain rfl := someE h
            exact Den.Ends.mk (.inl rfl) (d := dI 8) (p := (True ∧ True) ∧ (tN 1)) (by kernel_rfl) ⟨⟨trivial, trivial⟩, tNi 1⟩ (by kernel_rfl)
          · replace h := iteF h7 h
            refine At.gc [0, 3, 5, 6] [] (n := 77) (l := [(0, .sl false (x0.map row_T_api_Const)), (3, .ptr (row_T_api_Const x1)), (5, dI v0.1), (6, dI v0.2.1)]) (bl := []) (by kernel_rfl) ?_
            refine At.adv [8] [] 400 (ev := .stop c36x10 [.seq c36x11, .seq c36x12]) (σ' := mkS 77 [(0, .sl false (x0.map row_T_api_Const)), (3, .ptr (row_T_api_Const x1)), (5, dI v0.1), (6, dI v0.2.1)] []) (q := []) (by kernel_rfl) trivial ?_
            exact (wj36x1 v0 x0 x1)  r h Γ
        · replace h := iteF h6 h
          refine AtOps.run (iv 14 9) (iv 23 0) [(21, aF)] [(14, false), (15, false), (16, false), (17, false), (18, false), (19, false), (20, false)] [0, 3, 5, 6, 47] [] (n := 77) (sl := [(0, .sl false (x0.map row_T_api_Const)), (3, .ptr (row_T_api_Const x1)), (5, dI v0.1), (6, dI v0.2.1), (47, .bool false)]) (bl := []) (q := [((x1.f_Tag == 3) == true) = false, ((x1.f_Tag == 3) == true) = false, ((x1.f_Tag == 3) == true) = false, ((x1.f_Tag == 3) == true) = false, ((x1.f_Tag == 3) == true) = false, ((x1.f_Tag == 3) == true) = false, ((x1.f_Tag == 3) == true) = false, True ∧ ((x1.f_Tag == 3) = false)]) (by kernel_rfl) (by kernel_rfl) ⟨gB h6 rfl, gB h6 rfl, gB h6 rfl, gB h6 rfl, gB h6 rfl, gB h6 rfl, gB h6 rfl, ⟨trivial, h6⟩, trivial⟩ ?_
          refine AtOps.done ?_
          refine At.advN [] [] 400 (ev := .cond false c36x6 c36x7 [.seq c36x8]) (σ' := mkS 77 [(0, .sl false (x0.map row_T_api_Const)), (3, .ptr (row_T_api_Const x1)), (5, dI v0.1), (6, dI v0.2.1), (47, .bool false)] []) (q := []) (by kernel_rfl) trivial ?_
          refine EvOk.cond (fun hb => Bool.noConfusion hb) (fun _ => ?_)
          refine At.gc [0, 3, 5, 6] [] (n := 77) (l := [(0, .sl false (x0.map row_T_api_Const)), (3, .ptr (row_T_api_Const x1)), (5, dI v0.1), (6, dI v0.2.1)]) (bl := []) (by kernel_rfl) ?_
          refine At.adv [8] [] 400 (ev := .stop c36x10 [.seq c36x11, .seq c36x12]) (σ' := mkS 77 [(0, .sl false (x0.map row_T_api_Const)), (3, .ptr (row_T_api_Const x1)), (5, dI v0.1), (6, dI v0.2.1)] []) (q := []) (by kernel_rfl) trivial ?_
          exact (wj36x1 v0 x0 x1)  r h Γ
theorem w36 {x0 : List T_api_Const} {x1 : T_api_Const} {r : Int} (h : m_pool_check x0 x1 = some r) : CallSpec Try.prog 36 [.sl false (x0.map row_T_api_Const), .agg (row_T_api_Const x1)] (.int .i64 r) :=
  CallSpec.at2 b36 (n := 77) (l := [(0, .sl false (x0.map row_T_api_Const)), (1, .agg (row_T_api_Const x1))]) (by kernel_rfl) (by kernel_rfl) (by kernel_rfl) (by kernel_rfl) (by kernel_rfl) (Nat.le_of_ble_eq_true (by kernel_rfl)) (fun Γ => we36 x0 x1 r h Γ)

/-! ### armature pool.Check -/
noncomputable def b9 : Code := Try.f9.body.getD .skip
noncomputable def c9x0 : Code := sub1 b9
noncomputable def c9x1 : Code := sub1 c9x0
noncomputable def c9x2 : Code := sub0 c9x1
noncomputable def c9x3 : Code := sub1 c9x2
noncomputable def c9x4 : Code := sub0 c9x3
noncomputable def c9x5 : Code := sub0 c9x4
noncomputable def c9x6 : Code := sub1 c9x5
noncomputable def c9x7 : Code := sub1 c9x6
noncomputable def c9x8 : Code := sub0 c9x7
noncomputable def c9x9 : Code := sub0 c9x8
noncomputable def c9x10 : Code := sub1 c9x9
noncomputable def c9x11 : Code := sub1 c9x10
noncomputable def c9x12 : Code := sub1 c9x11
noncomputable def c9x13 : Code := sub0 c9x12
noncomputable def c9x14 : Code := sub1 c9x12
noncomputable def c9x15 : Code := sub1 c9x7
noncomputable def c9x16 : Code := sub0 c9x6
noncomputable def c9x17 : Code := sub0 c9x16
noncomputable def c9x18 : Code := sub1 c9x16
noncomputable def c9x19 : Code := sub1 c9x1
noncomputable def c9x20 : Code := sub0 c9x0
noncomputable def c9x21 : Code := sub1 c9x20
noncomputable def c9x22 : Code := sub0 c9x21
noncomputable def c9x23 : Code := sub1 c9x21
def l9x1 (x0 : List T_api_Const) (t0 : Int) : Option (Ctl (Int) (Unit ⊕ (Int × Int))) :=
  if (decide (t0 < (x0.length : Int))) = true then
    ((getR x0 t0).bind fun v2 =>
    (m_pool_check x0 v2).bind fun v3 =>
    if (v3 != 0) = true then
      ((some (IntKind.wrap .i64 (t0 + (1 : Int)))).bind fun v4 =>
      some (.done (.inr (v4, v3)))) else
    ((some (IntKind.wrap .i64 (t0 + (1 : Int)))).bind fun v5 =>
      some (.next v5))) else
  (some (.done (.inl (()))))
def m_pool_Check (x0 : List T_api_Const) : Option (Int × Int) :=
  if (decide ((x0.length : Int) > 1000)) = true then
    (some (0, 5)) else
  ((loopM (l9x1 x0) rounds 0).bind fun q1 =>
    match q1 with
    | .inl q0 => (some (0, 0))
    | .inr y0 => (some y0))
def st9x1 (x0 : List T_api_Const) : Int → S :=
  fun t0 => mkS 26 [(0, .sl false (x0.map row_T_api_Const)), (10, .sl false (x0.map row_T_api_Const)), (11, .int .i64 (x0.length : Int)), (12, .int .i64 t0)] []
noncomputable def J9x1  : (Unit ⊕ (Int × Int)) → Exit → S → Prop :=
  JSum (JExit 0 (fun q0 : Unit => mkS 26 [] [])) (JRet Try.prog Try.f9 (fun y : Int × Int => .tup [.int .i64 y.1, .int .i64 y.2]))
theorem wl9x1 (x0 : List T_api_Const) (t0 : Int) (r : Ctl (Int) (Unit ⊕ (Int × Int))) (h : (l9x1 x0) t0 = some r) (Γ : Ctx) : At Try.prog Γ c9x5 [] (Round (st9x1 x0) J9x1 r) ((st9x1 x0) t0) := by
  refine At.adv [] [(4, { keep := some ([0, 10, 11, 12, 13], []) })] 400 (ev := .cond (decide (t0 < (x0.length : Int))) c9x17 c9x18 [.seq c9x7]) (σ' := mkS 26 [(0, .sl false (x0.map row_T_api_Const)), (10, .sl false (x0.map row_T_api_Const)), (11, dI (x0.length : Int)), (12, dI t0), (13, .bool (decide (t0 < (x0.length : Int))))] []) (q := []) (by kernel_rfl) trivial ?_
  refine EvOk.cond (fun h3 => ?_) (fun h3 => ?_)
  · replace h := iteT h3 h
    refine At.gc [0, 10, 11, 12] [] (n := 26) (l := [(0, .sl false (x0.map row_T_api_Const)), (10, .sl false (x0.map row_T_api_Const)), (11, dI (x0.length : Int)), (12, dI t0)]) (bl := []) (by kernel_rfl) ?_
    obtain ⟨v2, e2, h⟩ := bindE h
    obtain ⟨v3, e3, h⟩ := bindE h
    refine At.adv [] [(5, { told := [(1, { ans := .row (row_T_api_Const v2) })], keep := some ([0, 4, 5, 10, 11, 12], [(5, 5)]) }), (6, { told := [(2, aI v3)], keep := some ([0, 4, 6, 10, 11, 12], []) }), (7, { keep := some ([0, 4, 6, 10, 11, 12, 21], []) })] 400 (ev := .cond (v3 != 0) c9x13 c9x14 [.blk 1, .seq c9x15]) (σ' := mkS 26 [(0, .sl false (x0.map row_T_api_Const)), (4, dI t0), (6, dI v3), (10, .sl false (x0.map row_T_api_Const)), (11, dI (x0.length : Int)), (12, dI t0), (21, .bool (v3 != 0))] []) (q := [True ∧ (getR (x0.map row_T_api_Const) t0 = some (row_T_api_Const v2)), True ∧ (0 ≤ 0 ∧ 0 + ([dI v2.f_Tag, .str v2.f_S, dI v2.f_N, dI v2.f_A, dI v2.f_B] : List D).length ≤ ([dI 0, .str [], dI 0, dI 0, dI 0] : List D).length ∧ ([[dI v2.f_Tag, .str v2.f_S, dI v2.f_N, dI v2.f_A, dI v2.f_B]] : List (List D)) = ([[dI v2.f_Tag, .str v2.f_S, dI v2.f_N, dI v2.f_A, dI v2.f_B]] : List (List D))), True ∧ (cq Try.prog (True ∧ ((tN 5) ∧ True)) 36 [.sl false (x0.map row_T_api_Const), .agg [dI v2.f_Tag, .str v2.f_S, dI v2.f_N, dI v2.f_A, dI v2.f_B]] (dI v3))]) (by kernel_rfl) ⟨⟨trivial, getR_map row_T_api_Const e2⟩, ⟨trivial, ⟨Nat.zero_le _, Nat.le_of_ble_eq_true rfl, rfl⟩⟩, ⟨trivial, cqi (⟨trivial, ⟨tNi 5, trivial⟩⟩) (w36 e3)⟩, trivial⟩ ?_
    refine EvOk.cond (fun h4 => ?_) (fun h4 => ?_)
    · replace h := iteT h4 h
      refine At.gc [4, 6] [] (n := 26) (l := [(4, dI t0), (6, dI v3)]) (bl := []) (by kernel_rfl) ?_
      obtain ⟨v4, e4, h⟩ := bindE h
      refine At.adv [] [(8, { told := [(1, aI v4)], keep := some ([2, 3], []) })] 400 (ev := .ret) (σ' := mkS 26 [(2, dI v4), (3, dI v3)] []) (q := [True ∧ (IntKind.wrap .i64 (t0 + (1 : Int)) = v4)]) (by kernel_rfl) ⟨⟨trivial, someE e4⟩, trivial⟩ ?_
      refine EvOk.ret ?_
      obtain rfl := someE h
      exact Round.done neRet ⟨rfl, Den.Ends.mk (.inl rfl) (d := .tup [dI v4, dI v3]) (p := (True ∧ (True ∧ True)) ∧ (tN 2)) (by kernel_rfl) ⟨⟨trivial, ⟨trivial, trivial⟩⟩, tNi 2⟩ (by kernel_rfl)⟩
    · replace h := iteF h4 h
      refine At.gc [0, 10, 11, 12] [] (n := 26) (l := [(0, .sl false (x0.map row_T_api_Const)), (10, .sl false (x0.map row_T_api_Const)), (11, dI (x0.length : Int)), (12, dI t0)]) (bl := []) (by kernel_rfl) ?_
      obtain ⟨v5, e5, h⟩ := bindE h
      refine At.adv [] [(9, { told := [(0, aI v5)], keep := some ([0, 10, 11, 12], []) })] 400 (ev := .normal) (σ' := mkS 26 [(0, .sl false (x0.map row_T_api_Const)), (10, .sl false (x0.map row_T_api_Const)), (11, dI (x0.length : Int)), (12, dI v5)] []) (q := [True ∧ (IntKind.wrap .i64 (t0 + (1 : Int)) = v5)]) (by kernel_rfl) ⟨⟨trivial, someE e5⟩, trivial⟩ ?_
      refine EvOk.normal ?_
      obtain rfl := someE h
      exact Round.next (by kernel_rfl)
  · replace h := iteF h3 h
    refine At.gc [] [] (n := 26) (l := []) (bl := []) (by kernel_rfl) ?_
    refine At.adv [] [] 400 (ev := .exit 0) (σ' := mkS 26 [] []) (q := []) (by kernel_rfl) trivial ?_
    refine EvOk.exit ?_
    obtain rfl := someE h
    exact Round.done (neExit _) ⟨rfl, by kernel_rfl⟩
theorem we9 (x0 : List T_api_Const) (r : Int × Int) (h : m_pool_Check x0 = some r) (Γ : Ctx) : At Try.prog Γ b9 [] (Den.Ends Try.prog Try.f9 (.tup [dI r.1, dI r.2])) (mkS 26 [(0, .sl false (x0.map row_T_api_Const))] []) := by
  refine At.adv [] [(0, { keep := some ([0], []) }), (1, { told := [(1, { ans := .val (dI (x0.length : Int)) })], keep := some ([0, 9], []) })] 400 (ev := .cond (decide ((x0.length : Int) > 1000)) c9x22 c9x23 [.seq c9x1]) (σ' := mkS 26 [(0, .sl false (x0.map row_T_api_Const)), (9, .bool (decide ((x0.length : Int) > 1000)))] []) (q := [True ∧ (((x0.map row_T_api_Const).length : Int) = (x0.length : Int))]) (by kernel_rfl) ⟨⟨trivial, lenM _ _⟩, trivial⟩ ?_
  refine EvOk.cond (fun h0 => ?_) (fun h0 => ?_)
  · replace h := iteT h0 h
    refine At.gc [] [] (n := 26) (l := []) (bl := []) (by kernel_rfl) ?_
    refine At.adv [] [(2, { keep := some ([2, 3], []) })] 400 (ev := .ret) (σ' := mkS 26 [(2, dI 0), (3, dI 5)] []) (q := []) (by kernel_rfl) trivial ?_
    refine EvOk.ret ?_
    obtain rfl := someE h
    exact Den.Ends.mk (.inl rfl) (d := .tup [dI 0, dI 5]) (p := (True ∧ (True ∧ True)) ∧ (tN 2)) (by kernel_rfl) ⟨⟨trivial, ⟨trivial, trivial⟩⟩, tNi 2⟩ (by kernel_rfl)
  · replace h := iteF h0 h
    refine At.gc [0] [] (n := 26) (l := [(0, .sl false (x0.map row_T_api_Const))]) (bl := []) (by kernel_rfl) ?_
    refine At.adv [] [(3, { told := [(1, { ans := .val (dI (x0.length : Int)) })], keep := some ([0, 10, 11, 12], []) })] 400 (ev := .loop c9x5 [.blk 0, .seq c9x19]) (σ' := mkS 26 [(0, .sl false (x0.map row_T_api_Const)), (10, .sl false (x0.map row_T_api_Const)), (11, dI (x0.length : Int)), (12, dI 0)] []) (q := [True ∧ (((x0.map row_T_api_Const).length : Int) = (x0.length : Int))]) (by kernel_rfl) ⟨⟨trivial, lenM _ _⟩, trivial⟩ ?_
    refine EvOk.loop ?_
    obtain ⟨q1, e6, h⟩ := bindE h
    refine At.loop (l9x1 x0) (st9x1 x0) J9x1 0 e6 (by kernel_rfl) (fun t x hx => (wl9x1 x0) t x hx Γ) ?_
    intro e σ' hJ
    rcases q1 with q0 | y0
    · obtain ⟨rfl, rfl⟩ := hJ
      refine At.exitK (K' := [.seq c9x19]) (by kernel_rfl) ?_
      refine At.advN [] [(10, { keep := some ([2, 3], []) })] 400 (ev := .ret) (σ' := mkS 26 [(2, dI 0), (3, dI 0)] []) (q := []) (by kernel_rfl) trivial ?_
      refine EvOk.ret ?_
      obtain rfl := someE h
      exact Den.Ends.mk (.inl rfl) (d := .tup [dI 0, dI 0]) (p := (True ∧ (True ∧ True)) ∧ (tN 2)) (by kernel_rfl) ⟨⟨trivial, ⟨trivial, trivial⟩⟩, tNi 2⟩ (by kernel_rfl)
    · obtain rfl := someE h
      obtain ⟨rfl, hE⟩ := hJ
      exact At.retK hE
theorem w9 {x0 : List T_api_Const} {r : Int × Int} (h : m_pool_Check x0 = some r) : CallSpec Try.prog 9 [.sl false (x0.map row_T_api_Const)] (.tup [.int .i64 r.1, .int .i64 r.2]) :=
  CallSpec.at2 b9 (n := 26) (l := [(0, .sl false (x0.map row_T_api_Const))]) (by kernel_rfl) (by kernel_rfl) (by kernel_rfl) (by kernel_rfl) (by kernel_rfl) (Nat.le_of_ble_eq_true (by kernel_rfl)) (fun Γ => we9 x0 r h Γ)

/-! ### slices.Index   armature api.Const armature api.Const  -/
noncomputable def b45 : Code := Try.f45.body.getD .skip
noncomputable def c45x0 : Code := sub1 b45
noncomputable def c45x1 : Code := sub0 c45x0
noncomputable def c45x2 : Code := sub1 c45x1
noncomputable def c45x3 : Code := sub0 c45x2
noncomputable def c45x4 : Code := sub0 c45x3
noncomputable def c45x5 : Code := sub1 c45x4
noncomputable def c45x6 : Code := sub1 c45x5
noncomputable def c45x7 : Code := sub0 c45x6
noncomputable def c45x8 : Code := sub0 c45x7
noncomputable def c45x9 : Code := sub1 c45x8
noncomputable def c45x10 : Code := sub1 c45x9
noncomputable def c45x11 : Code := sub0 c45x10
noncomputable def c45x12 : Code := sub1 c45x10
noncomputable def c45x13 : Code := sub1 c45x6
noncomputable def c45x14 : Code := sub0 c45x5
noncomputable def c45x15 : Code := sub0 c45x14
noncomputable def c45x16 : Code := sub1 c45x14
noncomputable def c45x17 : Code := sub1 c45x0
def l45x1 (x0 : List T_api_Const) (x1 : T_api_Const) (t0 : Int) : Option (Ctl (Int) (Unit ⊕ Int)) :=
  if (decide (t0 < (x0.length : Int))) = true then
    ((getR x0 t0).bind fun v1 =>
    if (eqb_T_api_Const x1 v1) = true then
      (some (.done (.inr t0))) else
    ((some (IntKind.wrap .i64 (t0 + (1 : Int)))).bind fun v2 =>
      some (.next v2))) else
  (some (.done (.inl (()))))
def m_slices_Index_armature_api_Const_armature_api_Const (x0 : List T_api_Const) (x1 : T_api_Const) : Option (Int) :=
  (loopM (l45x1 x0 x1) rounds 0).bind fun q1 =>
  match q1 with
  | .inl q0 => (some (-1))
  | .inr y0 => (some y0)
def st45x1 (x0 : List T_api_Const) (x1 : T_api_Const) : Int → S :=
  fun t0 => mkS 19 [(0, .sl false (x0.map row_T_api_Const)), (3, .ptr (row_T_api_Const x1)), (7, .int .i64 (x0.length : Int)), (8, .int .i64 t0)] []
noncomputable def J45x1  : (Unit ⊕ Int) → Exit → S → Prop :=
  JSum (JExit 0 (fun q0 : Unit => mkS 19 [] [])) (JRet Try.prog Try.f45 (fun y : Int => .int .i64 y))
theorem wl45x1 (x0 : List T_api_Const) (x1 : T_api_Const) (t0 : Int) (r : Ctl (Int) (Unit ⊕ Int)) (h : (l45x1 x0 x1) t0 = some r) (Γ : Ctx) : At Try.prog Γ c45x4 [] (Round (st45x1 x0 x1) J45x1 r) ((st45x1 x0 x1) t0) := by
  refine At.adv [] [(2, { keep := some ([0, 3, 7, 8, 9], []) })] 400 (ev := .cond (decide (t0 < (x0.length : Int))) c45x15 c45x16 [.seq c45x6]) (σ' := mkS 19 [(0, .sl false (x0.map row_T_api_Const)), (3, .ptr (row_T_api_Const x1)), (7, dI (x0.length : Int)), (8, dI t0), (9, .bool (decide (t0 < (x0.length : Int))))] []) (q := []) (by kernel_rfl) trivial ?_
  refine EvOk.cond (fun h2 => ?_) (fun h2 => ?_)
  · replace h := iteT h2 h
    refine At.gc [0, 3, 7, 8] [] (n := 19) (l := [(0, .sl false (x0.map row_T_api_Const)), (3, .ptr (row_T_api_Const x1)), (7, dI (x0.length : Int)), (8, dI t0)]) (bl := []) (by kernel_rfl) ?_
    obtain ⟨v1, e1, h⟩ := bindE h
    refine At.adv [] [(3, { keep := some ([0, 3, 5, 7, 8], []) }), (4, { told := [(3, { ans := .row (row_T_api_Const v1) }), (5, { ans := .val (.bool (eqb_T_api_Const x1 v1)) })], keep := some ([0, 3, 5, 7, 8, 16], []), ord := some ([0, 1, 2, 3, 4, 5], [], [(3, [1, 2]), (4, [1, 2, 3]), (5, [0, 1, 2, 3, 4])]) })] 400 (ev := .cond (eqb_T_api_Const x1 v1) c45x11 c45x12 [.blk 1, .seq c45x13]) (σ' := mkS 19 [(0, .sl false (x0.map row_T_api_Const)), (3, .ptr (row_T_api_Const x1)), (5, dI t0), (7, dI (x0.length : Int)), (8, dI t0), (16, .bool (eqb_T_api_Const x1 v1))] []) (q := [True ∧ (getR (x0.map row_T_api_Const) t0 = some (row_T_api_Const v1)), True ∧ (Try.prog.eqGuardType Try.prog.depth 29 = false ∧ eqq_29 ∧ (eqb_T_api_Const x1 v1) = (eqb_T_api_Const x1 v1))]) (by kernel_rfl) ⟨⟨trivial, getR_map row_T_api_Const e1⟩, ⟨trivial, ⟨eqg_29, eqp_29, rfl⟩⟩, trivial⟩ ?_
    refine EvOk.cond (fun h3 => ?_) (fun h3 => ?_)
    · replace h := iteT h3 h
      refine At.gc [5] [] (n := 19) (l := [(5, dI t0)]) (bl := []) (by kernel_rfl) ?_
      refine At.adv [] [(5, { keep := some ([4], []) })] 400 (ev := .ret) (σ' := mkS 19 [(4, dI t0)] []) (q := []) (by kernel_rfl) trivial ?_
      refine EvOk.ret ?_
      obtain rfl := someE h
      exact Round.done neRet ⟨rfl, Den.Ends.mk (.inl rfl) (d := dI t0) (p := (True ∧ True) ∧ (tN 1)) (by kernel_rfl) ⟨⟨trivial, trivial⟩, tNi 1⟩ (by kernel_rfl)⟩
    · replace h := iteF h3 h
      refine At.gc [0, 3, 7, 8] [] (n := 19) (l := [(0, .sl false (x0.map row_T_api_Const)), (3, .ptr (row_T_api_Const x1)), (7, dI (x0.length : Int)), (8, dI t0)]) (bl := []) (by kernel_rfl) ?_
      obtain ⟨v2, e2, h⟩ := bindE h
      refine At.adv [] [(6, { told := [(0, aI v2)], keep := some ([0, 3, 7, 8], []) })] 400 (ev := .normal) (σ' := mkS 19 [(0, .sl false (x0.map row_T_api_Const)), (3, .ptr (row_T_api_Const x1)), (7, dI (x0.length : Int)), (8, dI v2)] []) (q := [True ∧ (IntKind.wrap .i64 (t0 + (1 : Int)) = v2)]) (by kernel_rfl) ⟨⟨trivial, someE e2⟩, trivial⟩ ?_
      refine EvOk.normal ?_
      obtain rfl := someE h
      exact Round.next (by kernel_rfl)
  · replace h := iteF h2 h
    refine At.gc [] [] (n := 19) (l := []) (bl := []) (by kernel_rfl) ?_
    refine At.adv [] [] 400 (ev := .exit 0) (σ' := mkS 19 [] []) (q := []) (by kernel_rfl) trivial ?_
    refine EvOk.exit ?_
    obtain rfl := someE h
    exact Round.done (neExit _) ⟨rfl, by kernel_rfl⟩
theorem we45 (x0 : List T_api_Const) (x1 : T_api_Const) (r : Int) (h : m_slices_Index_armature_api_Const_armature_api_Const x0 x1 = some r) (Γ : Ctx) : At Try.prog Γ b45 [] (Den.Ends Try.prog Try.f45 (dI r)) (mkS 19 [(0, .sl false (x0.map row_T_api_Const)), (1, .agg (row_T_api_Const x1))] []) := by
  refine At.adv [] [(0, { told := [(0, { ro := true })], keep := some ([0, 3], []) }), (1, { told := [(1, { ans := .val (dI (x0.length : Int)) })], keep := some ([0, 3, 7, 8], []) })] 400 (ev := .loop c45x4 [.blk 0, .seq c45x17]) (σ' := mkS 19 [(0, .sl false (x0.map row_T_api_Const)), (3, .ptr (row_T_api_Const x1)), (7, dI (x0.length : Int)), (8, dI 0)] []) (q := [True ∧ (((x0.map row_T_api_Const).length : Int) = (x0.length : Int))]) (by kernel_rfl) ⟨⟨trivial, lenM _ _⟩, trivial⟩ ?_
  refine EvOk.loop ?_
  obtain ⟨q1, e3, h⟩ := bindE h
  refine At.loop (l45x1 x0 x1) (st45x1 x0 x1) J45x1 0 e3 (by kernel_rfl) (fun t x hx => (wl45x1 x0 x1) t x hx Γ) ?_
  intro e σ' hJ
  rcases q1 with q0 | y0
  · obtain ⟨rfl, rfl⟩ := hJ
    refine At.exitK (K' := [.seq c45x17]) (by kernel_rfl) ?_
    refine At.advN [] [(7, { keep := some ([4], []) })] 400 (ev := .ret) (σ' := mkS 19 [(4, dI (-1))] []) (q := []) (by kernel_rfl) trivial ?_
    refine EvOk.ret ?_
    obtain rfl := someE h
    exact Den.Ends.mk (.inl rfl) (d := dI (-1)) (p := (True ∧ True) ∧ (tN 1)) (by kernel_rfl) ⟨⟨trivial, trivial⟩, tNi 1⟩ (by kernel_rfl)
  · obtain rfl := someE h
    obtain ⟨rfl, hE⟩ := hJ
    exact At.retK hE
theorem w45 {x0 : List T_api_Const} {x1 : T_api_Const} {r : Int} (h : m_slices_Index_armature_api_Const_armature_api_Const x0 x1 = some r) : CallSpec Try.prog 45 [.sl false (x0.map row_T_api_Const), .agg (row_T_api_Const x1)] (.int .i64 r) :=
  CallSpec.at2 b45 (n := 19) (l := [(0, .sl false (x0.map row_T_api_Const)), (1, .agg (row_T_api_Const x1))]) (by kernel_rfl) (by kernel_rfl) (by kernel_rfl) (by kernel_rfl) (by kernel_rfl) (Nat.le_of_ble_eq_true (by kernel_rfl)) (fun Γ => we45 x0 x1 r h Γ)

/-! ### armature pool.Add -/
noncomputable def b29 : Code := Try.f29.body.getD .skip
noncomputable def c29x0 : Code := sub1 b29
noncomputable def c29x1 : Code := sub1 c29x0
noncomputable def c29x2 : Code := sub0 c29x1
noncomputable def c29x3 : Code := sub1 c29x2
noncomputable def c29x4 : Code := sub0 c29x3
noncomputable def c29x5 : Code := sub1 c29x3
noncomputable def c29x6 : Code := sub1 c29x1
noncomputable def c29x7 : Code := sub0 c29x0
noncomputable def c29x8 : Code := sub1 c29x7
noncomputable def c29x9 : Code := sub1 c29x8
noncomputable def c29x10 : Code := sub0 c29x9
noncomputable def c29x11 : Code := sub1 c29x9
def m_pool_Add (x0 : List T_api_Const) (x1 : T_api_Const) : Option ((List T_api_Const) × Int × Int) :=
  (m_slices_Index_armature_api_Const_armature_api_Const x0 x1).bind fun v0 =>
  if (decide (v0 ≥ 0)) = true then
    ((some (IntKind.wrap .i64 (v0 + (1 : Int)))).bind fun v1 =>
    some (x0, v1, 0)) else
  (if (decide ((x0.length : Int) ≥ 1000)) = true then
      (some (x0, 0, 5)) else
    ((sub x0 0 (x0.length : Int)).bind fun v2 =>
      (some (IntKind.wrap .i64 ((x0.length : Int) + (1 : Int)))).bind fun v3 =>
      (freshK v2 [x1]).bind fun v4 =>
      (growK 48 (v2 ++ [x1]).length).bind fun v5 =>
      some ((v2 ++ [x1]), v3, 0)))
theorem we29 (x0 : List T_api_Const) (x1 : T_api_Const) (r : (List T_api_Const) × Int × Int) (h : m_pool_Add x0 x1 = some r) (Γ : Ctx) : At Try.prog Γ b29 [] (Den.Ends Try.prog Try.f29 (.tup [.sl false (r.1.map row_T_api_Const), dI r.2.1, dI r.2.2])) (mkS 32 [(0, .sl false (x0.map row_T_api_Const)), (1, .agg (row_T_api_Const x1))] []) := by
  obtain ⟨v0, e0, h⟩ := bindE h
  refine At.adv [] [(0, { told := [(0, { ro := true })], keep := some ([0, 3], []) }), (1, { told := [(2, aI v0)], keep := some ([0, 3, 7], []) }), (2, { keep := some ([0, 3, 7, 12], []) })] 400 (ev := .cond (decide (v0 ≥ 0)) c29x10 c29x11 [.seq c29x1]) (σ' := mkS 32 [(0, .sl false (x0.map row_T_api_Const)), (3, .ptr (row_T_api_Const x1)), (7, dI v0), (12, .bool (decide (v0 ≥ 0)))] []) (q := [True ∧ (cq Try.prog (True ∧ ((tN 5) ∧ True)) 45 [.sl false (x0.map row_T_api_Const), .agg [dI x1.f_Tag, .str x1.f_S, dI x1.f_N, dI x1.f_A, dI x1.f_B]] (dI v0))]) (by kernel_rfl) ⟨⟨trivial, cqi (⟨trivial, ⟨tNi 5, trivial⟩⟩) (w45 e0)⟩, trivial⟩ ?_
  refine EvOk.cond (fun h0 => ?_) (fun h0 => ?_)
  · replace h := iteT h0 h
    refine At.gc [0, 7] [] (n := 32) (l := [(0, .sl false (x0.map row_T_api_Const)), (7, dI v0)]) (bl := []) (by kernel_rfl) ?_
    obtain ⟨v1, e1, h⟩ := bindE h
    refine At.adv [] [(3, { told := [(2, aI v1)], keep := some ([4, 5, 6], []) })] 400 (ev := .ret) (σ' := mkS 32 [(4, .sl false (x0.map row_T_api_Const)), (5, dI v1), (6, dI 0)] []) (q := [True ∧ (IntKind.wrap .i64 (v0 + (1 : Int)) = v1)]) (by kernel_rfl) ⟨⟨trivial, someE e1⟩, trivial⟩ ?_
    refine EvOk.ret ?_
    obtain rfl := someE h
    exact Den.Ends.mk (.inl rfl) (d := .tup [.sl false (x0.map row_T_api_Const), dI v1, dI 0]) (p := (True ∧ (True ∧ (True ∧ True))) ∧ (tN 3)) (by kernel_rfl) ⟨⟨trivial, ⟨trivial, ⟨trivial, trivial⟩⟩⟩, tNi 3⟩ (by kernel_rfl)
  · replace h := iteF h0 h
    refine At.gc [0, 3] [] (n := 32) (l := [(0, .sl false (x0.map row_T_api_Const)), (3, .ptr (row_T_api_Const x1))]) (bl := []) (by kernel_rfl) ?_
    refine At.adv [] [(4, { told := [(1, { ans := .val (dI (x0.length : Int)) })], keep := some ([0, 3, 18], []) })] 400 (ev := .cond (decide ((x0.length : Int) ≥ 1000)) c29x4 c29x5 [.seq c29x6]) (σ' := mkS 32 [(0, .sl false (x0.map row_T_api_Const)), (3, .ptr (row_T_api_Const x1)), (18, .bool (decide ((x0.length : Int) ≥ 1000)))] []) (q := [True ∧ (((x0.map row_T_api_Const).length : Int) = (x0.length : Int))]) (by kernel_rfl) ⟨⟨trivial, lenM _ _⟩, trivial⟩ ?_
    refine EvOk.cond (fun h1 => ?_) (fun h1 => ?_)
    · replace h := iteT h1 h
      refine At.gc [0] [] (n := 32) (l := [(0, .sl false (x0.map row_T_api_Const))]) (bl := []) (by kernel_rfl) ?_
      refine At.adv [] [(5, { keep := some ([4, 5, 6], []) })] 400 (ev := .ret) (σ' := mkS 32 [(4, .sl false (x0.map row_T_api_Const)), (5, dI 0), (6, dI 5)] []) (q := []) (by kernel_rfl) trivial ?_
      refine EvOk.ret ?_
      obtain rfl := someE h
      exact Den.Ends.mk (.inl rfl) (d := .tup [.sl false (x0.map row_T_api_Const), dI 0, dI 5]) (p := (True ∧ (True ∧ (True ∧ True))) ∧ (tN 3)) (by kernel_rfl) ⟨⟨trivial, ⟨trivial, ⟨trivial, trivial⟩⟩⟩, tNi 3⟩ (by kernel_rfl)
    · replace h := iteF h1 h
      refine At.gc [0, 3] [] (n := 32) (l := [(0, .sl false (x0.map row_T_api_Const)), (3, .ptr (row_T_api_Const x1))]) (bl := []) (by kernel_rfl) ?_
      obtain ⟨v2, e2, h⟩ := bindE h
      obtain ⟨v3, e3, h⟩ := bindE h
      obtain ⟨v4, e4, h⟩ := bindE h
      obtain ⟨v5, e5, h⟩ := bindE h
      refine At.adv [] [(6, { told := [(2, { ans := .val (dI (x0.length : Int)) }), (4, { ans := .val (dI (x0.length : Int)) }), (5, { ans := .rows (v2.map row_T_api_Const) }), (10, { ans := .val (dI (x0.length : Int)) }), (11, aI v3), (7, { ro := true }), (8, { rows := some ((v2 ++ [x1]).map row_T_api_Const) })], keep := some ([4, 5, 6], [(28, 28)]), ord := some ([0, 1, 2, 3, 4, 5, 6, 9, 10, 11, 7, 8, 12, 13, 14], [8, 1009, 1010, 1011], [(2, [1]), (4, [3]), (5, [0, 1, 2, 3, 4]), (7, [6]), (8, [0, 1, 2, 3, 4, 5, 6, 7]), (10, [9]), (11, [9, 10]), (12, [0, 1, 2, 3, 4, 5, 6, 7, 8]), (13, [0, 1, 2, 3, 4, 5, 6, 7, 8, 9, 10, 11, 12]), (14, [0, 1, 2, 3, 4, 5, 6, 7, 8, 9, 10, 11, 12, 13])]) })] 400 (ev := .ret) (σ' := mkS 32 [(4, .lsl 28 0 (((v2 ++ [x1]).map row_T_api_Const).length)), (5, dI v3), (6, dI 0)] [(28, { sz := 5, rows := ((v2 ++ [x1]).map row_T_api_Const), frz := 0, pure := true })]) (q := [True ∧ (((x0.map row_T_api_Const).length : Int) = (x0.length : Int)), True ∧ (((x0.map row_T_api_Const).length : Int) = (x0.length : Int)), True ∧ ((∀ x ∈ (x0.map row_T_api_Const), x.length = 5) ∧ (x0.length : Int) = (x0.length : Int) ∧ sub (x0.map row_T_api_Const) 0 (x0.length : Int) = some (v2.map row_T_api_Const)), True ∧ (((x0.map row_T_api_Const).length : Int) = (x0.length : Int)), True ∧ (IntKind.wrap .i64 ((x0.length : Int) + (1 : Int)) = v3), True ∧ ((tN 5) ∧ True), True ∧ (True ∧ ((v2.map row_T_api_Const) = [] ∨ ([x1].map row_T_api_Const) ≠ []) ∧ (∀ r ∈ (v2.map row_T_api_Const), r.length = 5) ∧ (∀ r ∈ ([x1].map row_T_api_Const), r.length = 5) ∧ (v2.map row_T_api_Const) ++ ([x1].map row_T_api_Const) = ((v2 ++ [x1]).map row_T_api_Const) ∧ ((v2 ++ [x1]).map row_T_api_Const).length ≤ 9223372036854775807 ∧ ((v2 ++ [x1]).map row_T_api_Const).length * 48 ≤ 140737488355328)]) (by kernel_rfl) ⟨⟨trivial, lenM _ _⟩, ⟨trivial, lenM _ _⟩, ⟨trivial, ⟨szM (f := row_T_api_Const) (n := 5) (fun _ => rfl) _, rfl, subM row_T_api_Const e2⟩⟩, ⟨trivial, lenM _ _⟩, ⟨trivial, someE e3⟩, ⟨trivial, ⟨tNi 5, trivial⟩⟩, ⟨trivial, ⟨trivial, freshM row_T_api_Const e4, szM (f := row_T_api_Const) (n := 5) (fun _ => rfl) _, szM (f := row_T_api_Const) (n := 5) (fun _ => rfl) _, appM row_T_api_Const _ _, (growK_spec e5 (lenMN _ _)).1, (growK_spec e5 (lenMN _ _)).2⟩⟩, trivial⟩ ?_
      refine EvOk.ret ?_
      obtain rfl := someE h
      exact Den.Ends.mk (.inl rfl) (d := .tup [.sl false ((((v2 ++ [x1]).map row_T_api_Const).drop 0).take ((v2 ++ [x1]).map row_T_api_Const).length), dI v3, dI 0]) (p := (True ∧ (True ∧ (True ∧ True))) ∧ ((0 + ((v2 ++ [x1]).map row_T_api_Const).length ≤ ((v2 ++ [x1]).map row_T_api_Const).length) ∧ (True ∧ (True ∧ True)))) (by kernel_rfl) ⟨⟨trivial, ⟨trivial, ⟨trivial, trivial⟩⟩⟩, ⟨roomAll _, ⟨trivial, ⟨trivial, trivial⟩⟩⟩⟩ (by simp only [takeAll] <;> kernel_rfl)
theorem w29 {x0 : List T_api_Const} {x1 : T_api_Const} {r : (List T_api_Const) × Int × Int} (h : m_pool_Add x0 x1 = some r) : CallSpec Try.prog 29 [.sl false (x0.map row_T_api_Const), .agg (row_T_api_Const x1)] (.tup [.sl false (r.1.map row_T_api_Const), .int .i64 r.2.1, .int .i64 r.2.2]) :=
  CallSpec.at2 b29 (n := 32) (l := [(0, .sl false (x0.map row_T_api_Const)), (1, .agg (row_T_api_Const x1))]) (by kernel_rfl) (by kernel_rfl) (by kernel_rfl) (by kernel_rfl) (by kernel_rfl) (Nat.le_of_ble_eq_true (by kernel_rfl)) (fun Γ => we29 x0 x1 r h Γ)

/-! ###   armature pool.builder .add -/
noncomputable def b44 : Code := Try.f44.body.getD .skip
noncomputable def c44x0 : Code := sub1 b44
noncomputable def c44x1 : Code := sub0 c44x0
noncomputable def c44x2 : Code := sub1 c44x1
noncomputable def c44x3 : Code := sub0 c44x2
noncomputable def c44x4 : Code := sub1 c44x2
noncomputable def c44x5 : Code := sub1 c44x0
def m_armature_pool_builder_add (x0 : T_pool_builder) (x1 : T_api_Const) : Option (T_pool_builder × Int) :=
  if (x0.f_err != 0) = true then
    (some (x0, 0)) else
  ((m_pool_Add x0.f_pool x1).bind fun v0 =>
    some (({ f_pool := v0.1, f_err := v0.2.2 } : T_pool_builder), v0.2.1))
theorem we44 (x0 : T_pool_builder) (x1 : T_api_Const) (r : T_pool_builder × Int) (h : m_armature_pool_builder_add x0 x1 = some r) (Γ : Ctx) : At Try.prog Γ b44 [] (EndsO Try.prog Try.f44 1 [true] (dI r.2) [{ sz := 2, rows := [row_T_pool_builder r.1], frz := 0, pure := false, pin := some 0 }]) (mkS 28 [(0, .lptr 0 0 0), (1, .agg (row_T_api_Const x1))] [(0, { sz := 2, rows := [row_T_pool_builder x0], frz := 0, pure := false, pin := some 0 })]) := by
  refine At.adv [] [(0, { told := [(0, { ro := true })], keep := some ([0, 3], [(0, 0)]) }), (1, { keep := some ([0, 3, 10], [(0, 0)]) })] 400 (ev := .cond (x0.f_err != 0) c44x3 c44x4 [.seq c44x5]) (σ' := mkS 28 [(0, .lptr 0 0 0), (3, .ptr (row_T_api_Const x1)), (10, .bool (x0.f_err != 0))] [(0, { sz := 2, rows := [row_T_pool_builder x0], frz := 0, pure := false, pin := some 0 })]) (q := []) (by kernel_rfl) trivial ?_
  refine EvOk.cond (fun h0 => ?_) (fun h0 => ?_)
  · replace h := iteT h0 h
    refine At.gc [] [(0, 0)] (n := 28) (l := []) (bl := [(0, { sz := 2, rows := [row_T_pool_builder x0], frz := 0, pure := false, pin := some 0 })]) (by kernel_rfl) ?_
    refine At.adv [] [(2, { keep := some ([4], [(0, 0)]) })] 400 (ev := .ret) (σ' := mkS 28 [(4, dI 0)] [(0, { sz := 2, rows := [row_T_pool_builder x0], frz := 0, pure := false, pin := some 0 })]) (q := []) (by kernel_rfl) trivial ?_
    refine EvOk.ret ?_
    obtain rfl := someE h
    exact EndsO.mk (.inl rfl) (by kernel_rfl) (d := dI 0) (bs1 := [{ sz := 2, rows := [row_T_pool_builder x0], frz := 0, pure := false, pin := some 0 }]) (p := (True ∧ True) ∧ (True ∧ True)) (by kernel_rfl) ⟨⟨trivial, trivial⟩, ⟨trivial, trivial⟩⟩ (by kernel_rfl) (by kernel_rfl)
  · replace h := iteF h0 h
    refine At.gc [0, 3] [(0, 0)] (n := 28) (l := [(0, .lptr 0 0 0), (3, .ptr (row_T_api_Const x1))]) (bl := [(0, { sz := 2, rows := [row_T_pool_builder x0], frz := 0, pure := false, pin := some 0 })]) (by kernel_rfl) ?_
    obtain ⟨v0, e0, h⟩ := bindE h
    refine At.adv [] [(3, { keep := some ([0, 3], [(0, 0)]) }), (4, { told := [(7, { ans := .val (.tup [.sl false (v0.1.map row_T_api_Const), dI v0.2.1, dI v0.2.2]) })], keep := some ([5], [(0, 0)]), ord := some ([0, 1, 2, 3, 4, 5, 6, 7, 8, 9, 10, 11, 12, 13, 14, 15, 16, 17, 18], [14, 18, 3001, 4014, 1010, 1011], [(3, [2]), (4, [2, 3]), (5, [2, 3, 4]), (7, [2, 3, 4, 5, 6]), (8, [2, 3, 4, 5, 6, 7]), (9, [2, 3, 4, 5, 6, 7, 8]), (10, [2, 3, 4, 5, 6, 7, 8]), (11, [2, 3, 4, 5, 6, 7, 8]), (12, [0, 2, 3, 4, 5, 6, 7, 8, 9]), (13, [0, 2, 3, 4, 5, 6, 7, 8, 9, 12]), (14, [0, 2, 3, 4, 5, 6, 7, 8, 9, 12, 13]), (15, [0, 2, 3, 4, 5, 6, 7, 8, 9, 10, 12, 13, 14]), (16, [0, 1, 2, 3, 4, 5, 6, 7, 8, 9, 10, 11, 12, 13, 14, 15]), (17, [0, 1, 2, 3, 4, 5, 6, 7, 8, 9, 10, 11, 12, 13, 14, 15, 16]), (18, [0, 1, 2, 3, 4, 5, 6, 7, 8, 9, 10, 11, 12, 13, 14, 15, 16, 17])]) }), (5, { keep := some ([4], [(0, 0)]) })] 400 (ev := .ret) (σ' := mkS 28 [(4, dI v0.2.1)] [(0, { sz := 2, rows := [[.sl false (v0.1.map row_T_api_Const), dI v0.2.2]], frz := 0, pure := false, pin := some 0 })]) (q := [True ∧ (cq Try.prog (True ∧ ((tN 5) ∧ True)) 29 [.sl false (x0.f_pool.map row_T_api_Const), .agg [dI x1.f_Tag, .str x1.f_S, dI x1.f_N, dI x1.f_A, dI x1.f_B]] (.tup [.sl false (v0.1.map row_T_api_Const), dI v0.2.1, dI v0.2.2])), True ∧ (0 ≤ 0 ∧ 0 + ([.sl false (v0.1.map row_T_api_Const)] : List D).length ≤ ([.sl false (x0.f_pool.map row_T_api_Const), dI x0.f_err] : List D).length ∧ ([[.sl false (v0.1.map row_T_api_Const), dI x0.f_err]] : List (List D)) = ([[.sl false (v0.1.map row_T_api_Const), dI x0.f_err]] : List (List D))), True ∧ (0 ≤ 0 ∧ 1 + ([dI v0.2.2] : List D).length ≤ ([.sl false (v0.1.map row_T_api_Const), dI x0.f_err] : List D).length ∧ ([[.sl false (v0.1.map row_T_api_Const), dI v0.2.2]] : List (List D)) = ([[.sl false (v0.1.map row_T_api_Const), dI v0.2.2]] : List (List D)))]) (by kernel_rfl) ⟨⟨trivial, cqi (⟨trivial, ⟨tNi 5, trivial⟩⟩) (w29 e0)⟩, ⟨trivial, ⟨Nat.zero_le _, Nat.le_of_ble_eq_true rfl, rfl⟩⟩, ⟨trivial, ⟨Nat.zero_le _, Nat.le_of_ble_eq_true rfl, rfl⟩⟩, trivial⟩ ?_
    refine EvOk.ret ?_
    obtain rfl := someE h
    exact EndsO.mk (.inl rfl) (by kernel_rfl) (d := dI v0.2.1) (bs1 := [{ sz := 2, rows := [[.sl false (v0.1.map row_T_api_Const), dI v0.2.2]], frz := 0, pure := false, pin := some 0 }]) (p := (True ∧ True) ∧ (True ∧ True)) (by kernel_rfl) ⟨⟨trivial, trivial⟩, ⟨trivial, trivial⟩⟩ (by kernel_rfl) (by kernel_rfl)
theorem w44 {x0 : T_pool_builder} {x1 : T_api_Const} {r : T_pool_builder × Int} (h : m_armature_pool_builder_add x0 x1 = some r) : CallSpecO Try.prog 44 [.lptr 0 0 0, .agg (row_T_api_Const x1)] [{ sz := 2, rows := [row_T_pool_builder x0], frz := 0, pure := false, pin := some 0 }] (.int .i64 r.2) [{ sz := 2, rows := [row_T_pool_builder r.1], frz := 0, pure := false, pin := some 0 }] :=
  CallSpecO.at2 b44 1 [true] (n := 28) (l := [(0, .lptr 0 0 0), (1, .agg (row_T_api_Const x1))]) (bl := [(0, { sz := 2, rows := [row_T_pool_builder x0], frz := 0, pure := false, pin := some 0 })]) (by kernel_rfl) (by kernel_rfl) (by kernel_rfl) (by kernel_rfl) (by kernel_rfl) (by kernel_rfl) (Nat.le_of_ble_eq_true (by kernel_rfl)) (fun Γ => we44 x0 x1 r h Γ)

/-! ###   armature pool.builder .result -/
noncomputable def b43 : Code := Try.f43.body.getD .skip
noncomputable def c43x0 : Code := sub1 b43
noncomputable def c43x1 : Code := sub0 c43x0
noncomputable def c43x2 : Code := sub1 c43x1
noncomputable def c43x3 : Code := sub0 c43x2
noncomputable def c43x4 : Code := sub1 c43x2
noncomputable def c43x5 : Code := sub1 c43x0
def m_armature_pool_builder_result (x0 : T_pool_builder) (x1 : List T_api_Const) (x2 : Int) : Option (T_pool_builder × (List T_api_Const) × Int × Int) :=
  if (x0.f_err != 0) = true then
    (some (x0, x1, 0, x0.f_err)) else
  (some (x0, x0.f_pool, x2, 0))
theorem we43 (x0 : T_pool_builder) (x1 : List T_api_Const) (x2 : Int) (r : T_pool_builder × (List T_api_Const) × Int × Int) (h : m_armature_pool_builder_result x0 x1 x2 = some r) (Γ : Ctx) : At Try.prog Γ b43 [] (EndsO Try.prog Try.f43 1 [true] (.tup [.sl false (r.2.1.map row_T_api_Const), dI r.2.2.1, dI r.2.2.2]) [{ sz := 2, rows := [row_T_pool_builder r.1], frz := 0, pure := false, pin := some 0 }]) (mkS 24 [(0, .lptr 0 0 0), (1, .sl false (x1.map row_T_api_Const)), (2, dI x2)] [(0, { sz := 2, rows := [row_T_pool_builder x0], frz := 0, pure := false, pin := some 0 })]) := by
  refine At.adv [] [(0, { keep := some ([0, 1, 2], [(0, 0)]) }), (1, { keep := some ([0, 1, 2, 13], [(0, 0)]) })] 400 (ev := .cond (x0.f_err != 0) c43x3 c43x4 [.seq c43x5]) (σ' := mkS 24 [(0, .lptr 0 0 0), (1, .sl false (x1.map row_T_api_Const)), (2, dI x2), (13, .bool (x0.f_err != 0))] [(0, { sz := 2, rows := [row_T_pool_builder x0], frz := 0, pure := false, pin := some 0 })]) (q := []) (by kernel_rfl) trivial ?_
  refine EvOk.cond (fun h0 => ?_) (fun h0 => ?_)
  · replace h := iteT h0 h
    refine At.gc [0, 1] [(0, 0)] (n := 24) (l := [(0, .lptr 0 0 0), (1, .sl false (x1.map row_T_api_Const))]) (bl := [(0, { sz := 2, rows := [row_T_pool_builder x0], frz := 0, pure := false, pin := some 0 })]) (by kernel_rfl) ?_
    refine At.adv [] [(2, { keep := some ([6, 7, 8], [(0, 0)]), ord := some ([0, 1, 2, 3, 4, 5, 6, 7], [], [(2, [1]), (3, [1, 2]), (4, [1, 2, 3]), (5, [0]), (6, [0, 5]), (7, [0, 1, 2, 3, 4, 5, 6])]) })] 400 (ev := .ret) (σ' := mkS 24 [(6, .sl false (x1.map row_T_api_Const)), (7, dI 0), (8, dI x0.f_err)] [(0, { sz := 2, rows := [row_T_pool_builder x0], frz := 0, pure := false, pin := some 0 })]) (q := []) (by kernel_rfl) trivial ?_
    refine EvOk.ret ?_
    obtain rfl := someE h
    exact EndsO.mk (.inl rfl) (by kernel_rfl) (d := .tup [.sl false (x1.map row_T_api_Const), dI 0, dI x0.f_err]) (bs1 := [{ sz := 2, rows := [row_T_pool_builder x0], frz := 0, pure := false, pin := some 0 }]) (p := (True ∧ (True ∧ (True ∧ True))) ∧ (True ∧ (True ∧ (True ∧ True)))) (by kernel_rfl) ⟨⟨trivial, ⟨trivial, ⟨trivial, trivial⟩⟩⟩, ⟨trivial, ⟨trivial, ⟨trivial, trivial⟩⟩⟩⟩ (by kernel_rfl) (by kernel_rfl)
  · replace h := iteF h0 h
    refine At.gc [0, 2] [(0, 0)] (n := 24) (l := [(0, .lptr 0 0 0), (2, dI x2)]) (bl := [(0, { sz := 2, rows := [row_T_pool_builder x0], frz := 0, pure := false, pin := some 0 })]) (by kernel_rfl) ?_
    refine At.adv [] [(3, { keep := some ([6, 7, 8], [(0, 0)]) })] 400 (ev := .ret) (σ' := mkS 24 [(6, .sl false (x0.f_pool.map row_T_api_Const)), (7, dI x2), (8, dI 0)] [(0, { sz := 2, rows := [row_T_pool_builder x0], frz := 0, pure := false, pin := some 0 })]) (q := []) (by kernel_rfl) trivial ?_
    refine EvOk.ret ?_
    obtain rfl := someE h
    exact EndsO.mk (.inl rfl) (by kernel_rfl) (d := .tup [.sl false (x0.f_pool.map row_T_api_Const), dI x2, dI 0]) (bs1 := [{ sz := 2, rows := [row_T_pool_builder x0], frz := 0, pure := false, pin := some 0 }]) (p := (True ∧ (True ∧ (True ∧ True))) ∧ (True ∧ (True ∧ (True ∧ True)))) (by kernel_rfl) ⟨⟨trivial, ⟨trivial, ⟨trivial, trivial⟩⟩⟩, ⟨trivial, ⟨trivial, ⟨trivial, trivial⟩⟩⟩⟩ (by kernel_rfl) (by kernel_rfl)
theorem w43 {x0 : T_pool_builder} {x1 : List T_api_Const} {x2 : Int} {r : T_pool_builder × (List T_api_Const) × Int × Int} (h : m_armature_pool_builder_result x0 x1 x2 = some r) : CallSpecO Try.prog 43 [.lptr 0 0 0, .sl false (x1.map row_T_api_Const), .int .i64 x2] [{ sz := 2, rows := [row_T_pool_builder x0], frz := 0, pure := false, pin := some 0 }] (.tup [.sl false (r.2.1.map row_T_api_Const), .int .i64 r.2.2.1, .int .i64 r.2.2.2]) [{ sz := 2, rows := [row_T_pool_builder r.1], frz := 0, pure := false, pin := some 0 }] :=
  CallSpecO.at2 b43 1 [true] (n := 24) (l := [(0, .lptr 0 0 0), (1, .sl false (x1.map row_T_api_Const)), (2, .int .i64 x2)]) (bl := [(0, { sz := 2, rows := [row_T_pool_builder x0], frz := 0, pure := false, pin := some 0 })]) (by kernel_rfl) (by kernel_rfl) (by kernel_rfl) (by kernel_rfl) (by kernel_rfl) (by kernel_rfl) (Nat.le_of_ble_eq_true (by kernel_rfl)) (fun Γ => we43 x0 x1 x2 r h Γ)

/-! ### armature pool.AddClass -/
noncomputable def b24 : Code := Try.f24.body.getD .skip
def m_pool_AddClass (x0 : List T_api_Const) (x1 : List UInt8) : Option ((List T_api_Const) × Int × Int) :=
  (m_armature_pool_builder_add ({ f_pool := x0, f_err := 0 } : T_pool_builder) ({ f_Tag := 1, f_S := x1, f_N := 0, f_A := 0, f_B := 0 } : T_api_Const)).bind fun v0 =>
  (m_armature_pool_builder_add v0.1 ({ f_Tag := 7, f_S := [], f_N := 0, f_A := v0.2, f_B := 0 } : T_api_Const)).bind fun v1 =>
  (m_armature_pool_builder_result v1.1 x0 v1.2).bind fun v2 =>
  some (v2.2.1, v2.2.2.1, v2.2.2.2)
theorem we24 (x0 : List T_api_Const) (x1 : List UInt8) (r : (List T_api_Const) × Int × Int) (h : m_pool_AddClass x0 x1 = some r) (Γ : Ctx) : At Try.prog Γ b24 [] (Den.Ends Try.prog Try.f24 (.tup [.sl false (r.1.map row_T_api_Const), dI r.2.1, dI r.2.2])) (mkS 24 [(0, .sl false (x0.map row_T_api_Const)), (1, .str x1)] []) := by
  obtain ⟨v0, e0, h⟩ := bindE h
  obtain ⟨v1, e1, h⟩ := bindE h
  obtain ⟨v2, e2, h⟩ := bindE h
  refine At.adv [] [(0, { keep := some ([0, 1], []) }), (1, { keep := some ([0, 1, 7], [(10, 10)]) }), (2, { told := [(6, { ans := .val (dI v0.2), io := some { names := [10], bs := [{ sz := 2, rows := [[.sl false (({ f_pool := x0, f_err := 0 } : T_pool_builder).f_pool.map row_T_api_Const), dI ({ f_pool := x0, f_err := 0 } : T_pool_builder).f_err]], frz := 0, pure := false, pin := some 0 }], bs' := [{ sz := 2, rows := [row_T_pool_builder v0.1], frz := 0, pure := false, pin := some 0 }] } }), (8, { ans := .val (dI v1.2), io := some { names := [10], bs := [{ sz := 2, rows := [row_T_pool_builder v0.1], frz := 0, pure := false, pin := some 0 }], bs' := [{ sz := 2, rows := [row_T_pool_builder v1.1], frz := 0, pure := false, pin := some 0 }] } }), (9, { ans := .val (.tup [.sl false (v2.2.1.map row_T_api_Const), dI v2.2.2.1, dI v2.2.2.2]), io := some { names := [10], bs := [{ sz := 2, rows := [row_T_pool_builder v1.1], frz := 0, pure := false, pin := some 0 }], bs' := [{ sz := 2, rows := [row_T_pool_builder v2.1], frz := 0, pure := false, pin := some 0 }] } })], keep := some ([4, 5, 6], []) })] 400 (ev := .ret) (σ' := mkS 24 [(4, .sl false (v2.2.1.map row_T_api_Const)), (5, dI v2.2.2.1), (6, dI v2.2.2.2)] []) (q := [True ∧ (cqo Try.prog ((tN 5) ∧ True) 44 [.lptr 0 0 0, .agg [dI 1, .str x1, dI 0, dI 0, dI 0]] [{ sz := 2, rows := [[.sl false (({ f_pool := x0, f_err := 0 } : T_pool_builder).f_pool.map row_T_api_Const), dI ({ f_pool := x0, f_err := 0 } : T_pool_builder).f_err]], frz := 0, pure := false, pin := some 0 }] (dI v0.2) [{ sz := 2, rows := [row_T_pool_builder v0.1], frz := 0, pure := false, pin := some 0 }]), True ∧ (cqo Try.prog ((tN 5) ∧ True) 44 [.lptr 0 0 0, .agg [dI 7, .str [], dI 0, dI v0.2, dI 0]] [{ sz := 2, rows := [row_T_pool_builder v0.1], frz := 0, pure := false, pin := some 0 }] (dI v1.2) [{ sz := 2, rows := [row_T_pool_builder v1.1], frz := 0, pure := false, pin := some 0 }]), True ∧ (cqo Try.prog (True ∧ (True ∧ True)) 43 [.lptr 0 0 0, .sl false (x0.map row_T_api_Const), dI v1.2] [{ sz := 2, rows := [row_T_pool_builder v1.1], frz := 0, pure := false, pin := some 0 }] (.tup [.sl false (v2.2.1.map row_T_api_Const), dI v2.2.2.1, dI v2.2.2.2]) [{ sz := 2, rows := [row_T_pool_builder v2.1], frz := 0, pure := false, pin := some 0 }])]) (by kernel_rfl) ⟨⟨trivial, cqoi (⟨tNi 5, trivial⟩) (w44 e0)⟩, ⟨trivial, cqoi (⟨tNi 5, trivial⟩) (w44 e1)⟩, ⟨trivial, cqoi (⟨trivial, ⟨trivial, trivial⟩⟩) (w43 e2)⟩, trivial⟩ ?_
  refine EvOk.ret ?_
  obtain rfl := someE h
  exact Den.Ends.mk (.inl rfl) (d := .tup [.sl false (v2.2.1.map row_T_api_Const), dI v2.2.2.1, dI v2.2.2.2]) (p := (True ∧ (True ∧ (True ∧ True))) ∧ (tN 3)) (by kernel_rfl) ⟨⟨trivial, ⟨trivial, ⟨trivial, trivial⟩⟩⟩, tNi 3⟩ (by kernel_rfl)
theorem w24 {x0 : List T_api_Const} {x1 : List UInt8} {r : (List T_api_Const) × Int × Int} (h : m_pool_AddClass x0 x1 = some r) : CallSpec Try.prog 24 [.sl false (x0.map row_T_api_Const), .str x1] (.tup [.sl false (r.1.map row_T_api_Const), .int .i64 r.2.1, .int .i64 r.2.2]) :=
  CallSpec.at2 b24 (n := 24) (l := [(0, .sl false (x0.map row_T_api_Const)), (1, .str x1)]) (by kernel_rfl) (by kernel_rfl) (by kernel_rfl) (by kernel_rfl) (by kernel_rfl) (Nat.le_of_ble_eq_true (by kernel_rfl)) (fun Γ => we24 x0 x1 r h Γ)

/-! ### armature pool.AddMemberRef -/
noncomputable def b26 : Code := Try.f26.body.getD .skip
def m_pool_AddMemberRef (x0 : List T_api_Const) (x1 : Int) (x2 : T_api_Ref) : Option ((List T_api_Const) × Int × Int) :=
  (m_armature_pool_builder_add ({ f_pool := x0, f_err := 0 } : T_pool_builder) ({ f_Tag := 1, f_S := x2.f_Class, f_N := 0, f_A := 0, f_B := 0 } : T_api_Const)).bind fun v0 =>
  (m_armature_pool_builder_add v0.1 ({ f_Tag := 7, f_S := [], f_N := 0, f_A := v0.2, f_B := 0 } : T_api_Const)).bind fun v1 =>
  (m_armature_pool_builder_add v1.1 ({ f_Tag := 1, f_S := x2.f_Name, f_N := 0, f_A := 0, f_B := 0 } : T_api_Const)).bind fun v2 =>
  (m_armature_pool_builder_add v2.1 ({ f_Tag := 1, f_S := x2.f_Desc, f_N := 0, f_A := 0, f_B := 0 } : T_api_Const)).bind fun v3 =>
  (m_armature_pool_builder_add v3.1 ({ f_Tag := 12, f_S := [], f_N := 0, f_A := v2.2, f_B := v3.2 } : T_api_Const)).bind fun v4 =>
  (m_armature_pool_builder_add v4.1 ({ f_Tag := x1, f_S := [], f_N := 0, f_A := v1.2, f_B := v4.2 } : T_api_Const)).bind fun v5 =>
  (m_armature_pool_builder_result v5.1 x0 v5.2).bind fun v6 =>
  some (v6.2.1, v6.2.2.1, v6.2.2.2)
theorem we26 (x0 : List T_api_Const) (x1 : Int) (x2 : T_api_Ref) (r : (List T_api_Const) × Int × Int) (h : m_pool_AddMemberRef x0 x1 x2 = some r) (Γ : Ctx) : At Try.prog Γ b26 [] (Den.Ends Try.prog Try.f26 (.tup [.sl false (r.1.map row_T_api_Const), dI r.2.1, dI r.2.2])) (mkS 52 [(0, .sl false (x0.map row_T_api_Const)), (1, dI x1), (2, .agg (row_T_api_Ref x2))] []) := by
  obtain ⟨v0, e0, h⟩ := bindE h
  obtain ⟨v1, e1, h⟩ := bindE h
  obtain ⟨v2, e2, h⟩ := bindE h
  obtain ⟨v3, e3, h⟩ := bindE h
  obtain ⟨v4, e4, h⟩ := bindE h
  obtain ⟨v5, e5, h⟩ := bindE h
  obtain ⟨v6, e6, h⟩ := bindE h
  refine At.adv [] [(0, { told := [(0, { ro := true })], keep := some ([0, 1, 5], []) }), (1, { keep := some ([0, 1, 5, 9], [(16, 16)]) }), (2, { told := [(5, { ans := .val (dI v0.2), io := some { names := [16], bs := [{ sz := 2, rows := [[.sl false (({ f_pool := x0, f_err := 0 } : T_pool_builder).f_pool.map row_T_api_Const), dI ({ f_pool := x0, f_err := 0 } : T_pool_builder).f_err]], frz := 0, pure := false, pin := some 0 }], bs' := [{ sz := 2, rows := [row_T_pool_builder v0.1], frz := 0, pure := false, pin := some 0 }] } }), (7, { ans := .val (dI v1.2), io := some { names := [16], bs := [{ sz := 2, rows := [row_T_pool_builder v0.1], frz := 0, pure := false, pin := some 0 }], bs' := [{ sz := 2, rows := [row_T_pool_builder v1.1], frz := 0, pure := false, pin := some 0 }] } })], keep := some ([0, 1, 5, 9, 10], [(16, 16)]) }), (3, { told := [(4, { ans := .val (dI v2.2), io := some { names := [16], bs := [{ sz := 2, rows := [row_T_pool_builder v1.1], frz := 0, pure := false, pin := some 0 }], bs' := [{ sz := 2, rows := [row_T_pool_builder v2.1], frz := 0, pure := false, pin := some 0 }] } })], keep := some ([0, 1, 5, 9, 10, 11], [(16, 16)]) }), (4, { told := [(4, { ans := .val (dI v3.2), io := some { names := [16], bs := [{ sz := 2, rows := [row_T_pool_builder v2.1], frz := 0, pure := false, pin := some 0 }], bs' := [{ sz := 2, rows := [row_T_pool_builder v3.1], frz := 0, pure := false, pin := some 0 }] } })], keep := some ([0, 1, 9, 10, 11, 12], [(16, 16)]) }), (5, { told := [(4, { ans := .val (dI v4.2), io := some { names := [16], bs := [{ sz := 2, rows := [row_T_pool_builder v3.1], frz := 0, pure := false, pin := some 0 }], bs' := [{ sz := 2, rows := [row_T_pool_builder v4.1], frz := 0, pure := false, pin := some 0 }] } })], keep := some ([0, 1, 9, 10, 13], [(16, 16)]) }), (6, { told := [(7, { ans := .val (dI v5.2), io := some { names := [16], bs := [{ sz := 2, rows := [row_T_pool_builder v4.1], frz := 0, pure := false, pin := some 0 }], bs' := [{ sz := 2, rows := [row_T_pool_builder v5.1], frz := 0, pure := false, pin := some 0 }] } }), (8, { ans := .val (.tup [.sl false (v6.2.1.map row_T_api_Const), dI v6.2.2.1, dI v6.2.2.2]), io := some { names := [16], bs := [{ sz := 2, rows := [row_T_pool_builder v5.1], frz := 0, pure := false, pin := some 0 }], bs' := [{ sz := 2, rows := [row_T_pool_builder v6.1], frz := 0, pure := false, pin := some 0 }] } })], keep := some ([6, 7, 8], []) })] 400 (ev := .ret) (σ' := mkS 52 [(6, .sl false (v6.2.1.map row_T_api_Const)), (7, dI v6.2.2.1), (8, dI v6.2.2.2)] []) (q := [True ∧ (cqo Try.prog ((tN 5) ∧ True) 44 [.lptr 0 0 0, .agg [dI 1, .str x2.f_Class, dI 0, dI 0, dI 0]] [{ sz := 2, rows := [[.sl false (({ f_pool := x0, f_err := 0 } : T_pool_builder).f_pool.map row_T_api_Const), dI ({ f_pool := x0, f_err := 0 } : T_pool_builder).f_err]], frz := 0, pure := false, pin := some 0 }] (dI v0.2) [{ sz := 2, rows := [row_T_pool_builder v0.1], frz := 0, pure := false, pin := some 0 }]), True ∧ (cqo Try.prog ((tN 5) ∧ True) 44 [.lptr 0 0 0, .agg [dI 7, .str [], dI 0, dI v0.2, dI 0]] [{ sz := 2, rows := [row_T_pool_builder v0.1], frz := 0, pure := false, pin := some 0 }] (dI v1.2) [{ sz := 2, rows := [row_T_pool_builder v1.1], frz := 0, pure := false, pin := some 0 }]), True ∧ (cqo Try.prog ((tN 5) ∧ True) 44 [.lptr 0 0 0, .agg [dI 1, .str x2.f_Name, dI 0, dI 0, dI 0]] [{ sz := 2, rows := [row_T_pool_builder v1.1], frz := 0, pure := false, pin := some 0 }] (dI v2.2) [{ sz := 2, rows := [row_T_pool_builder v2.1], frz := 0, pure := false, pin := some 0 }]), True ∧ (cqo Try.prog ((tN 5) ∧ True) 44 [.lptr 0 0 0, .agg [dI 1, .str x2.f_Desc, dI 0, dI 0, dI 0]] [{ sz := 2, rows := [row_T_pool_builder v2.1], frz := 0, pure := false, pin := some 0 }] (dI v3.2) [{ sz := 2, rows := [row_T_pool_builder v3.1], frz := 0, pure := false, pin := some 0 }]), True ∧ (cqo Try.prog ((tN 5) ∧ True) 44 [.lptr 0 0 0, .agg [dI 12, .str [], dI 0, dI v2.2, dI v3.2]] [{ sz := 2, rows := [row_T_pool_builder v3.1], frz := 0, pure := false, pin := some 0 }] (dI v4.2) [{ sz := 2, rows := [row_T_pool_builder v4.1], frz := 0, pure := false, pin := some 0 }]), True ∧ (cqo Try.prog ((tN 5) ∧ True) 44 [.lptr 0 0 0, .agg [dI x1, .str [], dI 0, dI v1.2, dI v4.2]] [{ sz := 2, rows := [row_T_pool_builder v4.1], frz := 0, pure := false, pin := some 0 }] (dI v5.2) [{ sz := 2, rows := [row_T_pool_builder v5.1], frz := 0, pure := false, pin := some 0 }]), True ∧ (cqo Try.prog (True ∧ (True ∧ True)) 43 [.lptr 0 0 0, .sl false (x0.map row_T_api_Const), dI v5.2] [{ sz := 2, rows := [row_T_pool_builder v5.1], frz := 0, pure := false, pin := some 0 }] (.tup [.sl false (v6.2.1.map row_T_api_Const), dI v6.2.2.1, dI v6.2.2.2]) [{ sz := 2, rows := [row_T_pool_builder v6.1], frz := 0, pure := false, pin := some 0 }])]) (by kernel_rfl) ⟨⟨trivial, cqoi (⟨tNi 5, trivial⟩) (w44 e0)⟩, ⟨trivial, cqoi (⟨tNi 5, trivial⟩) (w44 e1)⟩, ⟨trivial, cqoi (⟨tNi 5, trivial⟩) (w44 e2)⟩, ⟨trivial, cqoi (⟨tNi 5, trivial⟩) (w44 e3)⟩, ⟨trivial, cqoi (⟨tNi 5, trivial⟩) (w44 e4)⟩, ⟨trivial, cqoi (⟨tNi 5, trivial⟩) (w44 e5)⟩, ⟨trivial, cqoi (⟨trivial, ⟨trivial, trivial⟩⟩) (w43 e6)⟩, trivial⟩ ?_
  refine EvOk.ret ?_
  obtain rfl := someE h
  exact Den.Ends.mk (.inl rfl) (d := .tup [.sl false (v6.2.1.map row_T_api_Const), dI v6.2.2.1, dI v6.2.2.2]) (p := (True ∧ (True ∧ (True ∧ True))) ∧ (tN 3)) (by kernel_rfl) ⟨⟨trivial, ⟨trivial, ⟨trivial, trivial⟩⟩⟩, tNi 3⟩ (by kernel_rfl)
theorem w26 {x0 : List T_api_Const} {x1 : Int} {x2 : T_api_Ref} {r : (List T_api_Const) × Int × Int} (h : m_pool_AddMemberRef x0 x1 x2 = some r) : CallSpec Try.prog 26 [.sl false (x0.map row_T_api_Const), .int .i64 x1, .agg (row_T_api_Ref x2)] (.tup [.sl false (r.1.map row_T_api_Const), .int .i64 r.2.1, .int .i64 r.2.2]) :=
  CallSpec.at2 b26 (n := 52) (l := [(0, .sl false (x0.map row_T_api_Const)), (1, .int .i64 x1), (2, .agg (row_T_api_Ref x2))]) (by kernel_rfl) (by kernel_rfl) (by kernel_rfl) (by kernel_rfl) (by kernel_rfl) (Nat.le_of_ble_eq_true (by kernel_rfl)) (fun Γ => we26 x0 x1 x2 r h Γ)

/-! ### armature pool.through -/
noncomputable def b40 : Code := Try.f40.body.getD .skip
noncomputable def c40x0 : Code := sub1 b40
noncomputable def c40x1 : Code := sub1 c40x0
noncomputable def c40x2 : Code := sub0 c40x1
noncomputable def c40x3 : Code := sub1 c40x2
noncomputable def c40x4 : Code := sub0 c40x3
noncomputable def c40x5 : Code := sub1 c40x3
noncomputable def c40x6 : Code := sub1 c40x1
def m_pool_through (x0 : List T_api_Const) (x1 : Int) (x2 : Int) : Option ((List UInt8) × Int) :=
  (m_pool_tagged x0 x1 x2).bind fun v0 =>
  if (v0.2 != 0) = true then
    (some ([], v0.2)) else
  ((m_pool_UTF8 x0 v0.1.f_A).bind fun v1 =>
    some (v1.1, v1.2))
theorem we40 (x0 : List T_api_Const) (x1 : Int) (x2 : Int) (r : (List UInt8) × Int) (h : m_pool_through x0 x1 x2 = some r) (Γ : Ctx) : At Try.prog Γ b40 [] (Den.Ends Try.prog Try.f40 (.tup [.str r.1, dI r.2])) (mkS 26 [(0, .sl false (x0.map row_T_api_Const)), (1, dI x1), (2, dI x2)] []) := by
  obtain ⟨v0, e0, h⟩ := bindE h
  refine At.adv [] [(0, { keep := some ([0, 1, 2], []) }), (1, { told := [(3, { ans := .val (.tup [.agg (row_T_api_Const v0.1), dI v0.2]) })], keep := some ([0, 8, 9], [(8, 8)]) }), (2, { keep := some ([0, 8, 9, 18], [(8, 8)]) })] 400 (ev := .cond (v0.2 != 0) c40x4 c40x5 [.seq c40x6]) (σ' := mkS 26 [(0, .sl false (x0.map row_T_api_Const)), (8, .lptr 8 0 0), (9, dI v0.2), (18, .bool (v0.2 != 0))] [(8, { sz := 5, rows := [row_T_api_Const v0.1], frz := 0, pure := false })]) (q := [True ∧ (cq Try.prog (tN 3) 38 [.sl false (x0.map row_T_api_Const), dI x1, dI x2] (.tup [.agg (row_T_api_Const v0.1), dI v0.2])), True ∧ (0 ≤ 0 ∧ 0 + ([dI v0.1.f_Tag, .str v0.1.f_S, dI v0.1.f_N, dI v0.1.f_A, dI v0.1.f_B] : List D).length ≤ ([dI 0, .str [], dI 0, dI 0, dI 0] : List D).length ∧ ([[dI v0.1.f_Tag, .str v0.1.f_S, dI v0.1.f_N, dI v0.1.f_A, dI v0.1.f_B]] : List (List D)) = ([[dI v0.1.f_Tag, .str v0.1.f_S, dI v0.1.f_N, dI v0.1.f_A, dI v0.1.f_B]] : List (List D)))]) (by kernel_rfl) ⟨⟨trivial, cqi (tNi 3) (w38 e0)⟩, ⟨trivial, ⟨Nat.zero_le _, Nat.le_of_ble_eq_true rfl, rfl⟩⟩, trivial⟩ ?_
  refine EvOk.cond (fun h0 => ?_) (fun h0 => ?_)
  · replace h := iteT h0 h
    refine At.gc [9] [] (n := 26) (l := [(9, dI v0.2)]) (bl := []) (by kernel_rfl) ?_
    refine At.adv [] [(3, { keep := some ([6, 7], []) })] 400 (ev := .ret) (σ' := mkS 26 [(6, .str []), (7, dI v0.2)] []) (q := []) (by kernel_rfl) trivial ?_
    refine EvOk.ret ?_
    obtain rfl := someE h
    exact Den.Ends.mk (.inl rfl) (d := .tup [.str [], dI v0.2]) (p := (True ∧ (True ∧ True)) ∧ (tN 2)) (by kernel_rfl) ⟨⟨trivial, ⟨trivial, trivial⟩⟩, tNi 2⟩ (by kernel_rfl)
  · replace h := iteF h0 h
    refine At.gc [0, 8] [(8, 8)] (n := 26) (l := [(0, .sl false (x0.map row_T_api_Const)), (8, .lptr 8 0 0)]) (bl := [(8, { sz := 5, rows := [row_T_api_Const v0.1], frz := 0, pure := false })]) (by kernel_rfl) ?_
    obtain ⟨v1, e1, h⟩ := bindE h
    refine At.adv [] [(4, { told := [(3, { ans := .val (.tup [.str v1.1, dI v1.2]) })], keep := some ([6, 7], []) })] 400 (ev := .ret) (σ' := mkS 26 [(6, .str v1.1), (7, dI v1.2)] []) (q := [True ∧ (cq Try.prog (tN 2) 14 [.sl false (x0.map row_T_api_Const), dI v0.1.f_A] (.tup [.str v1.1, dI v1.2]))]) (by kernel_rfl) ⟨⟨trivial, cqi (tNi 2) (w14 e1)⟩, trivial⟩ ?_
    refine EvOk.ret ?_
    obtain rfl := someE h
    exact Den.Ends.mk (.inl rfl) (d := .tup [.str v1.1, dI v1.2]) (p := (True ∧ (True ∧ True)) ∧ (tN 2)) (by kernel_rfl) ⟨⟨trivial, ⟨trivial, trivial⟩⟩, tNi 2⟩ (by kernel_rfl)
theorem w40 {x0 : List T_api_Const} {x1 : Int} {x2 : Int} {r : (List UInt8) × Int} (h : m_pool_through x0 x1 x2 = some r) : CallSpec Try.prog 40 [.sl false (x0.map row_T_api_Const), .int .i64 x1, .int .i64 x2] (.tup [.str r.1, .int .i64 r.2]) :=
  CallSpec.at2 b40 (n := 26) (l := [(0, .sl false (x0.map row_T_api_Const)), (1, .int .i64 x1), (2, .int .i64 x2)]) (by kernel_rfl) (by kernel_rfl) (by kernel_rfl) (by kernel_rfl) (by kernel_rfl) (Nat.le_of_ble_eq_true (by kernel_rfl)) (fun Γ => we40 x0 x1 x2 r h Γ)

/-! ### armature pool.ClassName -/
noncomputable def b16 : Code := Try.f16.body.getD .skip
def m_pool_ClassName (x0 : List T_api_Const) (x1 : Int) : Option ((List UInt8) × Int) :=
  (m_pool_through x0 x1 7).bind fun v0 =>
  some (v0.1, v0.2)
theorem we16 (x0 : List T_api_Const) (x1 : Int) (r : (List UInt8) × Int) (h : m_pool_ClassName x0 x1 = some r) (Γ : Ctx) : At Try.prog Γ b16 [] (Den.Ends Try.prog Try.f16 (.tup [.str r.1, dI r.2])) (mkS 11 [(0, .sl false (x0.map row_T_api_Const)), (1, dI x1)] []) := by
  obtain ⟨v0, e0, h⟩ := bindE h
  refine At.adv [] [(0, { keep := some ([0, 1], []) }), (1, { told := [(2, { ans := .val (.tup [.str v0.1, dI v0.2]) })], keep := some ([4, 5], []) })] 400 (ev := .ret) (σ' := mkS 11 [(4, .str v0.1), (5, dI v0.2)] []) (q := [True ∧ (cq Try.prog (tN 3) 40 [.sl false (x0.map row_T_api_Const), dI x1, dI 7] (.tup [.str v0.1, dI v0.2]))]) (by kernel_rfl) ⟨⟨trivial, cqi (tNi 3) (w40 e0)⟩, trivial⟩ ?_
  refine EvOk.ret ?_
  obtain rfl := someE h
  exact Den.Ends.mk (.inl rfl) (d := .tup [.str v0.1, dI v0.2]) (p := (True ∧ (True ∧ True)) ∧ (tN 2)) (by kernel_rfl) ⟨⟨trivial, ⟨trivial, trivial⟩⟩, tNi 2⟩ (by kernel_rfl)
theorem w16 {x0 : List T_api_Const} {x1 : Int} {r : (List UInt8) × Int} (h : m_pool_ClassName x0 x1 = some r) : CallSpec Try.prog 16 [.sl false (x0.map row_T_api_Const), .int .i64 x1] (.tup [.str r.1, .int .i64 r.2]) :=
  CallSpec.at2 b16 (n := 11) (l := [(0, .sl false (x0.map row_T_api_Const)), (1, .int .i64 x1)]) (by kernel_rfl) (by kernel_rfl) (by kernel_rfl) (by kernel_rfl) (by kernel_rfl) (Nat.le_of_ble_eq_true (by kernel_rfl)) (fun Γ => we16 x0 x1 r h Γ)

/-! ### armature pool.isMember -/
noncomputable def b41 : Code := Try.f41.body.getD .skip
noncomputable def c41x0 : Code := sub1 b41
noncomputable def c41x1 : Code := sub0 c41x0
noncomputable def c41x2 : Code := sub1 c41x0
def m_pool_isMember (x0 : Int) : Option (Bool) :=
  if (x0 == 9) = true then (some true) else
  (if (x0 == 10) = true then (some true) else
    (some (x0 == 11)))
theorem we41 (x0 : Int) (r : Bool) (h : m_pool_isMember x0 = some r) (Γ : Ctx) : At Try.prog Γ b41 [] (Den.Ends Try.prog Try.f41 (.bool r)) (mkS 13 [(0, dI x0)] []) := by
  refine At.adv [1] [(0, { keep := some ([0], []) })] 400 (ev := .stop c41x1 [.seq c41x2]) (σ' := mkS 13 [(0, dI x0)] []) (q := []) (by kernel_rfl) trivial ?_
  refine EvOk.stop (At.ops (l := iv 0 11) (by kernel_rfl) (by kernel_rfl) ?_)
  refine AtOps.run (iv 0 3) (iv 3 8) [] [] [0, 5] [] (n := 13) (sl := [(0, dI x0), (5, .bool (x0 == 9))]) (bl := []) (q := []) (by kernel_rfl) (by kernel_rfl) trivial ?_
  rcases Bool.eq_false_or_eq_true (x0 == 9) with h0 | h0
  · replace h := iteT h0 h
    refine AtOps.run (iv 3 8) (iv 11 0) [(5, aT)] [(3, false), (4, false)] [2] [] (n := 13) (sl := [(2, .bool true)]) (bl := []) (q := [((x0 == 9) == false) = false, ((x0 == 9) == false) = false, True ∧ ((x0 == 9) = true), True, True]) (by kernel_rfl) (by kernel_rfl) ⟨gB h0 rfl, gB h0 rfl, ⟨trivial, h0⟩, trivial, trivial, trivial⟩ ?_
    refine AtOps.done ?_
    refine At.advN [] [] 400 (ev := .ret) (σ' := mkS 13 [(2, .bool true)] []) (q := []) (by kernel_rfl) trivial ?_
    refine EvOk.ret ?_
    obtain rfl := someE h
    exact Den.Ends.mk (.inl rfl) (d := .bool true) (p := (True ∧ True) ∧ (tN 1)) (by kernel_rfl) ⟨⟨trivial, trivial⟩, tNi 1⟩ (by kernel_rfl)
  · replace h := iteF h0 h
    refine AtOps.run (iv 3 4) (iv 7 4) [(5, aF)] [(3, true), (4, true)] [0, 9] [] (n := 13) (sl := [(0, dI x0), (9, .bool (x0 == 10))]) (bl := []) (q := [((x0 == 9) == false) = true ∧ True, ((x0 == 9) == false) = true ∧ True, True ∧ ((x0 == 9) = false)]) (by kernel_rfl) (by kernel_rfl) ⟨⟨(gB h0 rfl), trivial⟩, ⟨(gB h0 rfl), trivial⟩, ⟨trivial, h0⟩, trivial⟩ ?_
    rcases Bool.eq_false_or_eq_true (x0 == 10) with h1 | h1
    · replace h := iteT h1 h
      refine AtOps.run (iv 7 4) (iv 11 0) [(9, aT)] [(7, false), (8, false)] [2] [] (n := 13) (sl := [(2, .bool true)]) (bl := []) (q := [((x0 == 10) == false) = false, ((x0 == 10) == false) = false, True ∧ ((x0 == 10) = true)]) (by kernel_rfl) (by kernel_rfl) ⟨gB h1 rfl, gB h1 rfl, ⟨trivial, h1⟩, trivial⟩ ?_
      refine AtOps.done ?_
      refine At.advN [] [] 400 (ev := .ret) (σ' := mkS 13 [(2, .bool true)] []) (q := []) (by kernel_rfl) trivial ?_
      refine EvOk.ret ?_
      obtain rfl := someE h
      exact Den.Ends.mk (.inl rfl) (d := .bool true) (p := (True ∧ True) ∧ (tN 1)) (by kernel_rfl) ⟨⟨trivial, trivial⟩, tNi 1⟩ (by kernel_rfl)
    · replace h := iteF h1 h
      refine AtOps.run (iv 7 4) (iv 11 0) [(9, aF)] [(7, true), (8, true)] [2] [] (n := 13) (sl := [(2, .bool (x0 == 11))]) (bl := []) (q := [((x0 == 10) == false) = true ∧ True, ((x0 == 10) == false) = true ∧ True, True ∧ ((x0 == 10) = false)]) (by kernel_rfl) (by kernel_rfl) ⟨⟨(gB h1 rfl), trivial⟩, ⟨(gB h1 rfl), trivial⟩, ⟨trivial, h1⟩, trivial⟩ ?_
      refine AtOps.done ?_
      refine At.advN [] [] 400 (ev := .ret) (σ' := mkS 13 [(2, .bool (x0 == 11))] []) (q := []) (by kernel_rfl) trivial ?_
      refine EvOk.ret ?_
      obtain rfl := someE h
      exact Den.Ends.mk (.inl rfl) (d := .bool (x0 == 11)) (p := (True ∧ True) ∧ (tN 1)) (by kernel_rfl) ⟨⟨trivial, trivial⟩, tNi 1⟩ (by kernel_rfl)
theorem w41 {x0 : Int} {r : Bool} (h : m_pool_isMember x0 = some r) : CallSpec Try.prog 41 [.int .i64 x0] (.bool r) :=
  CallSpec.at2 b41 (n := 13) (l := [(0, .int .i64 x0)]) (by kernel_rfl) (by kernel_rfl) (by kernel_rfl) (by kernel_rfl) (by kernel_rfl) (Nat.le_of_ble_eq_true (by kernel_rfl)) (fun Γ => we41 x0 r h Γ)

/-! ### armature pool.MemberRef -/
noncomputable def b22 : Code := Try.f22.body.getD .skip
noncomputable def c22x0 : Code := sub1 b22
noncomputable def c22x1 : Code := sub1 c22x0
noncomputable def c22x2 : Code := sub0 c22x1
noncomputable def c22x3 : Code := sub1 c22x2
noncomputable def c22x4 : Code := sub0 c22x3
noncomputable def c22x5 : Code := sub1 c22x1
noncomputable def c22x6 : Code := sub1 c22x3
noncomputable def c22x7 : Code := sub0 c22x5
noncomputable def c22x8 : Code := sub0 c22x7
noncomputable def c22x9 : Code := sub1 c22x7
noncomputable def c22x10 : Code := sub1 c22x5
noncomputable def c22x11 : Code := sub0 c22x2
noncomputable def c22x12 : Code := sub1 c22x10
noncomputable def c22x13 : Code := sub1 c22x12
noncomputable def c22x14 : Code := sub0 c22x13
noncomputable def c22x15 : Code := sub1 c22x14
noncomputable def c22x16 : Code := sub1 c22x15
noncomputable def c22x17 : Code := sub0 c22x16
noncomputable def c22x18 : Code := sub1 c22x16
noncomputable def c22x19 : Code := sub1 c22x13
noncomputable def c22x20 : Code := sub0 c22x12
noncomputable def c22x21 : Code := sub1 c22x20
noncomputable def c22x22 : Code := sub1 c22x21
noncomputable def c22x23 : Code := sub0 c22x22
noncomputable def c22x24 : Code := sub1 c22x22
noncomputable def c22x25 : Code := sub0 c22x9
noncomputable def c22x26 : Code := sub1 c22x9
def j22x2 (v0 : T_api_Const × Int) (x0 : List T_api_Const) (p0 : Int) : Option (T_api_Ref × Int) :=
  if (p0 != 0) = true then
    (some (({ f_Class := [], f_Name := [], f_Desc := [] } : T_api_Ref), p0)) else
  ((m_pool_ClassName x0 v0.1.f_A).bind fun v2 =>
    if (v2.2 != 0) = true then
      (some (({ f_Class := [], f_Name := [], f_Desc := [] } : T_api_Ref), v2.2)) else
    ((m_pool_NameAndType x0 v0.1.f_B).bind fun v3 =>
      if (v3.2.2 != 0) = true then
        (some (({ f_Class := [], f_Name := [], f_Desc := [] } : T_api_Ref), v3.2.2)) else
      (some (({ f_Class := v2.1, f_Name := v3.1, f_Desc := v3.2.1 } : T_api_Ref), 0))))
def j22x1 (v0 : T_api_Const × Int) (x0 : List T_api_Const) : Option (T_api_Ref × Int) :=
  (j22x2 v0 x0) 11
def m_pool_MemberRef (x0 : List T_api_Const) (x1 : Int) (x2 : Int) : Option (T_api_Ref × Int) :=
  (m_pool_At x0 x1).bind fun v0 =>
  if (v0.2 == 0) = true then ((m_pool_isMember x2).bind fun v1 =>
    if (!v1) = true then ((j22x1 v0 x0) ) else
    (if (v0.1.f_Tag != x2) = true then
        ((j22x1 v0 x0) ) else
      ((j22x2 v0 x0) v0.2))) else
  ((j22x2 v0 x0) v0.2)
theorem wj22x2 (v0 : T_api_Const × Int) (x0 : List T_api_Const) (p0 : Int) (r : T_api_Ref × Int) (h : (j22x2 v0 x0) p0 = some r) (Γ : Ctx) : EvOk Try.prog Γ (Den.Ends Try.prog Try.f22 (.tup [.agg (row_T_api_Ref r.1), dI r.2])) (mkS 62 [(0, .sl false (x0.map row_T_api_Const)), (6, .lptr 6 0 0), (8, .lptr 8 0 0), (9, dI p0)] [(6, { sz := 3, rows := [[.str [], .str [], .str []]], frz := 0, pure := false }), (8, { sz := 5, rows := [row_T_api_Const v0.1], frz := 0, pure := false })]) (.stop c22x8 [.seq c22x9, .seq c22x10]) := by
  refine EvOk.stop ?_
  refine At.adv [] [(4, { keep := some ([0, 6, 8, 9, 31], [(6, 6), (8, 8)]) })] 400 (ev := .cond (p0 != 0) c22x25 c22x26 [.seq c22x10]) (σ' := mkS 62 [(0, .sl false (x0.map row_T_api_Const)), (6, .lptr 6 0 0), (8, .lptr 8 0 0), (9, dI p0), (31, .bool (p0 != 0))] [(6, { sz := 3, rows := [[.str [], .str [], .str []]], frz := 0, pure := false }), (8, { sz := 5, rows := [row_T_api_Const v0.1], frz := 0, pure := false })]) (q := []) (by kernel_rfl) trivial ?_
  refine EvOk.cond (fun h3 => ?_) (fun h3 => ?_)
  · replace h := iteT h3 h
    refine At.gc [6, 9] [(6, 6)] (n := 62) (l := [(6, .lptr 6 0 0), (9, dI p0)]) (bl := [(6, { sz := 3, rows := [[.str [], .str [], .str []]], frz := 0, pure := false })]) (by kernel_rfl) ?_
    refine At.adv [] [(5, { keep := some ([6, 7], [(6, 6)]) })] 400 (ev := .ret) (σ' := mkS 62 [(6, .lptr 6 0 0), (7, dI p0)] [(6, { sz := 3, rows := [[.str [], .str [], .str []]], frz := 0, pure := false })]) (q := [True ∧ (0 ≤ 0 ∧ 0 + ([.str [], .str [], .str []] : List D).length ≤ ([.str [], .str [], .str []] : List D).length ∧ ([[.str [], .str [], .str []]] : List (List D)) = ([[.str [], .str [], .str []]] : List (List D)))]) (by kernel_rfl) ⟨⟨trivial, ⟨Nat.zero_le _, Nat.le_of_ble_eq_true rfl, rfl⟩⟩, trivial⟩ ?_
    refine EvOk.ret ?_
    obtain rfl := someE h
    exact Den.Ends.mk (.inl rfl) (d := .tup [.agg [.str [], .str [], .str []], dI p0]) (p := (True ∧ (True ∧ True)) ∧ ((tN 3) ∧ (True ∧ True))) (by kernel_rfl) ⟨⟨trivial, ⟨trivial, trivial⟩⟩, ⟨tNi 3, ⟨trivial, trivial⟩⟩⟩ (by kernel_rfl)
  · replace h := iteF h3 h
    refine At.gc [0, 6, 8] [(6, 6), (8, 8)] (n := 62) (l := [(0, .sl false (x0.map row_T_api_Const)), (6, .lptr 6 0 0), (8, .lptr 8 0 0)]) (bl := [(6, { sz := 3, rows := [[.str [], .str [], .str []]], frz := 0, pure := false }), (8, { sz := 5, rows := [row_T_api_Const v0.1], frz := 0, pure := false })]) (by kernel_rfl) ?_
    obtain ⟨v2, e2, h⟩ := bindE h
    refine At.adv [] [(6, { keep := some ([0, 6, 8, 10], [(6, 6), (8, 8), (10, 10)]) }), (7, { told := [(3, { ans := .val (.tup [.str v2.1, dI v2.2]) })], keep := some ([0, 6, 8, 9, 10], [(6, 6), (8, 8), (10, 10)]) }), (8, { keep := some ([0, 6, 8, 9, 10, 44], [(6, 6), (8, 8), (10, 10)]) })] 400 (ev := .cond (v2.2 != 0) c22x23 c22x24 [.seq c22x13]) (σ' := mkS 62 [(0, .sl false (x0.map row_T_api_Const)), (6, .lptr 6 0 0), (8, .lptr 8 0 0), (9, dI v2.2), (10, .lptr 10 0 0), (44, .bool (v2.2 != 0))] [(6, { sz := 3, rows := [[.str [], .str [], .str []]], frz := 0, pure := false }), (8, { sz := 5, rows := [row_T_api_Const v0.1], frz := 0, pure := false }), (10, { sz := 3, rows := [[.str v2.1, .str [], .str []]], frz := 0, pure := false })]) (q := [True ∧ (0 ≤ 0 ∧ 0 + ([.str [], .str [], .str []] : List D).length ≤ ([.str [], .str [], .str []] : List D).length ∧ ([[.str [], .str [], .str []]] : List (List D)) = ([[.str [], .str [], .str []]] : List (List D))), True ∧ (cq Try.prog (tN 2) 16 [.sl false (x0.map row_T_api_Const), dI v0.1.f_A] (.tup [.str v2.1, dI v2.2])), True ∧ (0 ≤ 0 ∧ 0 + ([.str v2.1] : List D).length ≤ ([.str [], .str [], .str []] : List D).length ∧ ([[.str v2.1, .str [], .str []]] : List (List D)) = ([[.str v2.1, .str [], .str []]] : List (List D)))]) (by kernel_rfl) ⟨⟨trivial, ⟨Nat.zero_le _, Nat.le_of_ble_eq_true rfl, rfl⟩⟩, ⟨trivial, cqi (tNi 2) (w16 e2)⟩, ⟨trivial, ⟨Nat.zero_le _, Nat.le_of_ble_eq_true rfl, rfl⟩⟩, trivial⟩ ?_
    refine EvOk.cond (fun h4 => ?_) (fun h4 => ?_)
    · replace h := iteT h4 h
      refine At.gc [6, 9] [(6, 6)] (n := 62) (l := [(6, .lptr 6 0 0), (9, dI v2.2)]) (bl := [(6, { sz := 3, rows := [[.str [], .str [], .str []]], frz := 0, pure := false })]) (by kernel_rfl) ?_
      refine At.adv [] [(9, { keep := some ([6, 7], [(6, 6)]) })] 400 (ev := .ret) (σ' := mkS 62 [(6, .lptr 6 0 0), (7, dI v2.2)] [(6, { sz := 3, rows := [[.str [], .str [], .str []]], frz := 0, pure := false })]) (q := [True ∧ (0 ≤ 0 ∧ 0 + ([.str [], .str [], .str []] : List D).length ≤ ([.str [], .str [], .str []] : List D).length ∧ ([[.str [], .str [], .str []]] : List (List D)) = ([[.str [], .str [], .str []]] : List (List D)))]) (by kernel_rfl) ⟨⟨trivial, ⟨Nat.zero_le _, Nat.le_of_ble_eq_true rfl, rfl⟩⟩, trivial⟩ ?_
      refine EvOk.ret ?_
      obtain rfl := someE h
      exact Den.Ends.mk (.inl rfl) (d := .tup [.agg [.str [], .str [], .str []], dI v2.2]) (p := (True ∧ (True ∧ True)) ∧ ((tN 3) ∧ (True ∧ True))) (by kernel_rfl) ⟨⟨trivial, ⟨trivial, trivial⟩⟩, ⟨tNi 3, ⟨trivial, trivial⟩⟩⟩ (by kernel_rfl)
    · replace h := iteF h4 h
      refine At.gc [0, 6, 8, 10] [(6, 6), (8, 8), (10, 10)] (n := 62) (l := [(0, .sl false (x0.map row_T_api_Const)), (6, .lptr 6 0 0), (8, .lptr 8 0 0), (10, .lptr 10 0 0)]) (bl := [(6, { sz := 3, rows := [[.str [], .str [], .str []]], frz := 0, pure := false }), (8, { sz := 5, rows := [row_T_api_Const v0.1], frz := 0, pure := false }), (10, { sz := 3, rows := [[.str v2.1, .str [], .str []]], frz := 0, pure := false })]) (by kernel_rfl) ?_
      obtain ⟨v3, e3, h⟩ := bindE h
      refine At.adv [] [(10, { told := [(3, { ans := .val (.tup [.str v3.1, .str v3.2.1, dI v3.2.2]) })], keep := some ([6, 9, 10], [(6, 6), (10, 10)]) }), (11, { keep := some ([6, 9, 10, 58], [(6, 6), (10, 10)]) })] 400 (ev := .cond (v3.2.2 != 0) c22x17 c22x18 [.seq c22x19]) (σ' := mkS 62 [(6, .lptr 6 0 0), (9, dI v3.2.2), (10, .lptr 10 0 0), (58, .bool (v3.2.2 != 0))] [(6, { sz := 3, rows := [[.str [], .str [], .str []]], frz := 0, pure := false }), (10, { sz := 3, rows := [[.str v2.1, .str v3.1, .str v3.2.1]], frz := 0, pure := false })]) (q := [True ∧ (cq Try.prog (tN 2) 20 [.sl false (x0.map row_T_api_Const), dI v0.1.f_B] (.tup [.str v3.1, .str v3.2.1, dI v3.2.2])), True ∧ (0 ≤ 0 ∧ 1 + ([.str v3.1] : List D).length ≤ ([.str v2.1, .str [], .str []] : List D).length ∧ ([[.str v2.1, .str v3.1, .str []]] : List (List D)) = ([[.str v2.1, .str v3.1, .str []]] : List (List D))), True ∧ (0 ≤ 0 ∧ 2 + ([.str v3.2.1] : List D).length ≤ ([.str v2.1, .str v3.1, .str []] : List D).length ∧ ([[.str v2.1, .str v3.1, .str v3.2.1]] : List (List D)) = ([[.str v2.1, .str v3.1, .str v3.2.1]] : List (List D)))]) (by kernel_rfl) ⟨⟨trivial, cqi (tNi 2) (w20 e3)⟩, ⟨trivial, ⟨Nat.zero_le _, Nat.le_of_ble_eq_true rfl, rfl⟩⟩, ⟨trivial, ⟨Nat.zero_le _, Nat.le_of_ble_eq_true rfl, rfl⟩⟩, trivial⟩ ?_
      refine EvOk.cond (fun h5 => ?_) (fun h5 => ?_)
      · replace h := iteT h5 h
        refine At.gc [6, 9] [(6, 6)] (n := 62) (l := [(6, .lptr 6 0 0), (9, dI v3.2.2)]) (bl := [(6, { sz := 3, rows := [[.str [], .str [], .str []]], frz := 0, pure := false })]) (by kernel_rfl) ?_
        refine At.adv [] [(12, { keep := some ([6, 7], [(6, 6)]) })] 400 (ev := .ret) (σ' := mkS 62 [(6, .lptr 6 0 0), (7, dI v3.2.2)] [(6, { sz := 3, rows := [[.str [], .str [], .str []]], frz := 0, pure := false })]) (q := [True ∧ (0 ≤ 0 ∧ 0 + ([.str [], .str [], .str []] : List D).length ≤ ([.str [], .str [], .str []] : List D).length ∧ ([[.str [], .str [], .str []]] : List (List D)) = ([[.str [], .str [], .str []]] : List (List D)))]) (by kernel_rfl) ⟨⟨trivial, ⟨Nat.zero_le _, Nat.le_of_ble_eq_true rfl, rfl⟩⟩, trivial⟩ ?_
        refine EvOk.ret ?_
        obtain rfl := someE h
        exact Den.Ends.mk (.inl rfl) (d := .tup [.agg [.str [], .str [], .str []], dI v3.2.2]) (p := (True ∧ (True ∧ True)) ∧ ((tN 3) ∧ (True ∧ True))) (by kernel_rfl) ⟨⟨trivial, ⟨trivial, trivial⟩⟩, ⟨tNi 3, ⟨trivial, trivial⟩⟩⟩ (by kernel_rfl)
      · replace h := iteF h5 h
        refine At.gc [6, 10] [(6, 6), (10, 10)] (n := 62) (l := [(6, .lptr 6 0 0), (10, .lptr 10 0 0)]) (bl := [(6, { sz := 3, rows := [[.str [], .str [], .str []]], frz := 0, pure := false }), (10, { sz := 3, rows := [[.str v2.1, .str v3.1, .str v3.2.1]], frz := 0, pure := false })]) (by kernel_rfl) ?_
        refine At.adv [] [(13, { keep := some ([6, 7], [(6, 6)]) })] 400 (ev := .ret) (σ' := mkS 62 [(6, .lptr 6 0 0), (7, dI 0)] [(6, { sz := 3, rows := [[.str v2.1, .str v3.1, .str v3.2.1]], frz := 0, pure := false })]) (q := [True ∧ (0 ≤ 0 ∧ 0 + ([.str v2.1, .str v3.1, .str v3.2.1] : List D).length ≤ ([.str [], .str [], .str []] : List D).length ∧ ([[.str v2.1, .str v3.1, .str v3.2.1]] : List (List D)) = ([[.str v2.1, .str v3.1, .str v3.2.1]] : List (List D)))]) (by kernel_rfl) ⟨⟨trivial, ⟨Nat.zero_le _, Nat.le_of_ble_eq_true rfl, rfl⟩⟩, trivial⟩ ?_
        refine EvOk.ret ?_
        obtain rfl := someE h
        exact Den.Ends.mk (.inl rfl) (d := .tup [.agg [.str v2.1, .str v3.1, .str v3.2.1], dI 0]) (p := (True ∧ (True ∧ True)) ∧ ((tN 3) ∧ (True ∧ True))) (by kernel_rfl) ⟨⟨trivial, ⟨trivial, trivial⟩⟩, ⟨tNi 3, ⟨trivial, trivial⟩⟩⟩ (by kernel_rfl)
theorem wj22x1 (v0 : T_api_Const × Int) (x0 : List T_api_Const) (r : T_api_Ref × Int) (h : (j22x1 v0 x0)  = some r) (Γ : Ctx) : EvOk Try.prog Γ (Den.Ends Try.prog Try.f22 (.tup [.agg (row_T_api_Ref r.1), dI r.2])) (mkS 62 [(0, .sl false (x0.map row_T_api_Const)), (6, .lptr 6 0 0), (8, .lptr 8 0 0)] [(6, { sz := 3, rows := [[.str [], .str [], .str []]], frz := 0, pure := false }), (8, { sz := 5, rows := [row_T_api_Const v0.1], frz := 0, pure := false })]) (.stop c22x4 [.seq c22x5]) := by
  refine EvOk.stop ?_
  refine At.adv [4] [(3, { keep := some ([0, 6, 8, 9], [(6, 6), (8, 8)]) })] 400 (ev := .stop c22x8 [.seq c22x9, .seq c22x10]) (σ' := mkS 62 [(0, .sl false (x0.map row_T_api_Const)), (6, .lptr 6 0 0), (8, .lptr 8 0 0), (9, dI 11)] [(6, { sz := 3, rows := [[.str [], .str [], .str []]], frz := 0, pure := false }), (8, { sz := 5, rows := [row_T_api_Const v0.1], frz := 0, pure := false })]) (q := []) (by kernel_rfl) trivial ?_
  exact (wj22x2 v0 x0) 11 r h Γ
theorem we22 (x0 : List T_api_Const) (x1 : Int) (x2 : Int) (r : T_api_Ref × Int) (h : m_pool_MemberRef x0 x1 x2 = some r) (Γ : Ctx) : At Try.prog Γ b22 [] (Den.Ends Try.prog Try.f22 (.tup [.agg (row_T_api_Ref r.1), dI r.2])) (mkS 62 [(0, .sl false (x0.map row_T_api_Const)), (1, dI x1), (2, dI x2)] []) := by
  obtain ⟨v0, e0, h⟩ := bindE h
  refine At.adv [2] [(0, { keep := some ([0, 1, 2, 6], [(6, 6)]) }), (1, { told := [(2, { ans := .val (.tup [.agg (row_T_api_Const v0.1), dI v0.2]) })], keep := some ([0, 2, 6, 8, 9], [(6, 6), (8, 8)]) })] 400 (ev := .stop c22x11 [.seq c22x3, .seq c22x5]) (σ' := mkS 62 [(0, .sl false (x0.map row_T_api_Const)), (2, dI x2), (6, .lptr 6 0 0), (8, .lptr 8 0 0), (9, dI v0.2)] [(6, { sz := 3, rows := [[.str [], .str [], .str []]], frz := 0, pure := false }), (8, { sz := 5, rows := [row_T_api_Const v0.1], frz := 0, pure := false })]) (q := [True ∧ (cq Try.prog (tN 2) 12 [.sl false (x0.map row_T_api_Const), dI x1] (.tup [.agg (row_T_api_Const v0.1), dI v0.2])), True ∧ (0 ≤ 0 ∧ 0 + ([dI v0.1.f_Tag, .str v0.1.f_S, dI v0.1.f_N, dI v0.1.f_A, dI v0.1.f_B] : List D).length ≤ ([dI 0, .str [], dI 0, dI 0, dI 0] : List D).length ∧ ([[dI v0.1.f_Tag, .str v0.1.f_S, dI v0.1.f_N, dI v0.1.f_A, dI v0.1.f_B]] : List (List D)) = ([[dI v0.1.f_Tag, .str v0.1.f_S, dI v0.1.f_N, dI v0.1.f_A, dI v0.1.f_B]] : List (List D)))]) (by kernel_rfl) ⟨⟨trivial, cqi (tNi 2) (w12 e0)⟩, ⟨trivial, ⟨Nat.zero_le _, Nat.le_of_ble_eq_true rfl, rfl⟩⟩, trivial⟩ ?_
  refine EvOk.stop (At.ops (l := iv 0 13) (by kernel_rfl) (by kernel_rfl) ?_)
  refine AtOps.run (iv 0 3) (iv 3 10) [] [] [0, 2, 6, 8, 9, 19] [(6, 6), (8, 8)] (n := 62) (sl := [(0, .sl false (x0.map row_T_api_Const)), (2, dI x2), (6, .lptr 6 0 0), (8, .lptr 8 0 0), (9, dI v0.2), (19, .bool (v0.2 == 0))]) (bl := [(6, { sz := 3, rows := [[.str [], .str [], .str []]], frz := 0, pure := false }), (8, { sz := 5, rows := [row_T_api_Const v0.1], frz := 0, pure := false })]) (q := []) (by kernel_rfl) (by kernel_rfl) trivial ?_
  rcases Bool.eq_false_or_eq_true (v0.2 == 0) with h0 | h0
  · replace h := iteT h0 h
    obtain ⟨v1, e1, h⟩ := bindE h
    refine AtOps.run (iv 3 4) (iv 7 6) [(4, aB v1)] [(3, true), (4, true), (5, true), (6, true)] [0, 2, 6, 8, 9, 19, 23] [(6, 6), (8, 8)] (n := 62) (sl := [(0, .sl false (x0.map row_T_api_Const)), (2, dI x2), (6, .lptr 6 0 0), (8, .lptr 8 0 0), (9, dI v0.2), (19, .bool (v0.2 == 0)), (23, .bool (!v1))]) (bl := [(6, { sz := 3, rows := [[.str [], .str [], .str []]], frz := 0, pure := false }), (8, { sz := 5, rows := [row_T_api_Const v0.1], frz := 0, pure := false })]) (q := [((v0.2 == 0) == true) = true ∧ True, ((v0.2 == 0) == true) = true ∧ (cq Try.prog (tN 1) 41 [dI x2] (.bool v1)), ((v0.2 == 0) == true) = true ∧ True, ((v0.2 == 0) == true) = true ∧ True]) (by kernel_rfl) (by kernel_rfl) ⟨⟨(gB h0 rfl), trivial⟩, ⟨(gB h0 rfl), cqi (tNi 1) (w41 e1)⟩, ⟨(gB h0 rfl), trivial⟩, ⟨(gB h0 rfl), trivial⟩, trivial⟩ ?_
    rcases Bool.eq_false_or_eq_true (!v1) with h1 | h1
    · replace h := iteT h1 h
      refine AtOps.run (iv 7 6) (iv 13 0) [(11, aT), (12, aT)] [(7, false), (8, false), (9, false), (10, false), (11, true)] [0, 6, 8, 9, 29] [(6, 6), (8, 8)] (n := 62) (sl := [(0, .sl false (x0.map row_T_api_Const)), (6, .lptr 6 0 0), (8, .lptr 8 0 0), (9, dI v0.2), (29, .bool true)]) (bl := [(6, { sz := 3, rows := [[.str [], .str [], .str []]], frz := 0, pure := false }), (8, { sz := 5, rows := [row_T_api_Const v0.1], frz := 0, pure := false })]) (q := [((!v1) == false) = false, ((!v1) == false) = false, ((!v1) == false) = false, ((!v1) == false) = false, ((v0.2 == 0) == true) = true ∧ ((!v1) = true), True ∧ ((v0.2 == 0) = true)]) (by kernel_rfl) (by kernel_rfl) ⟨gB h1 rfl, gB h1 rfl, gB h1 rfl, gB h1 rfl, ⟨(gB h0 rfl), h1⟩, ⟨trivial, h0⟩, trivial⟩ ?_
      refine AtOps.done ?_
      refine At.advN [] [] 400 (ev := .cond true c22x4 c22x6 [.seq c22x5]) (σ' := mkS 62 [(0, .sl false (x0.map row_T_api_Const)), (6, .lptr 6 0 0), (8, .lptr 8 0 0), (9, dI v0.2), (29, .bool true)] [(6, { sz := 3, rows := [[.str [], .str [], .str []]], frz := 0, pure := false }), (8, { sz := 5, rows := [row_T_api_Const v0.1], frz := 0, pure := false })]) (q := []) (by kernel_rfl) trivial ?_
      refine EvOk.cond (fun _ => ?_) (fun hb => Bool.noConfusion hb)
      refine At.gc [0, 6, 8] [(6, 6), (8, 8)] (n := 62) (l := [(0, .sl false (x0.map row_T_api_Const)), (6, .lptr 6 0 0), (8, .lptr 8 0 0)]) (bl := [(6, { sz := 3, rows := [[.str [], .str [], .str []]], frz := 0, pure := false }), (8, { sz := 5, rows := [row_T_api_Const v0.1], frz := 0, pure := false })]) (by kernel_rfl) ?_
      refine At.adv [3] [] 400 (ev := .stop c22x4 [.seq c22x5]) (σ' := mkS 62 [(0, .sl false (x0.map row_T_api_Const)), (6, .lptr 6 0 0), (8, .lptr 8 0 0)] [(6, { sz := 3, rows := [[.str [], .str [], .str []]], frz := 0, pure := false }), (8, { sz := 5, rows := [row_T_api_Const v0.1], frz := 0, pure := false })]) (q := []) (by kernel_rfl) trivial ?_
      exact (wj22x1 v0 x0)  r h Γ
    · replace h := iteF h1 h
      refine AtOps.run (iv 7 6) (iv 13 0) [(11, aF), (12, aT)] [(7, true), (8, true), (9, true), (10, true), (11, true)] [0, 6, 8, 9, 29] [(6, 6), (8, 8)] (n := 62) (sl := [(0, .sl false (x0.map row_T_api_Const)), (6, .lptr 6 0 0), (8, .lptr 8 0 0), (9, dI v0.2), (29, .bool (v0.1.f_Tag != x2))]) (bl := [(6, { sz := 3, rows := [[.str [], .str [], .str []]], frz := 0, pure := false }), (8, { sz := 5, rows := [row_T_api_Const v0.1], frz := 0, pure := false })]) (q := [((!v1) == false) = true ∧ True, ((!v1) == false) = true ∧ True, ((!v1) == false) = true ∧ True, ((!v1) == false) = true ∧ True, ((v0.2 == 0) == true) = true ∧ ((!v1) = false), True ∧ ((v0.2 == 0) = true)]) (by kernel_rfl) (by kernel_rfl) ⟨⟨(gB h1 rfl), trivial⟩, ⟨(gB h1 rfl), trivial⟩, ⟨(gB h1 rfl), trivial⟩, ⟨(gB h1 rfl), trivial⟩, ⟨(gB h0 rfl), h1⟩, ⟨trivial, h0⟩, trivial⟩ ?_
      refine AtOps.done ?_
      refine At.advN [] [] 400 (ev := .cond (v0.1.f_Tag != x2) c22x4 c22x6 [.seq c22x5]) (σ' := mkS 62 [(0, .sl false (x0.map row_T_api_Const)), (6, .lptr 6 0 0), (8, .lptr 8 0 0), (9, dI v0.2), (29, .bool (v0.1.f_Tag != x2))] [(6, { sz := 3, rows := [[.str [], .str [], .str []]], frz := 0, pure := false }), (8, { sz := 5, rows := [row_T_api_Const v0.1], frz := 0, pure := false })]) (q := []) (by kernel_rfl) trivial ?_
      refine EvOk.cond (fun h2 => ?_) (fun h2 => ?_)
      · replace h := iteT h2 h
        refine At.gc [0, 6, 8] [(6, 6), (8, 8)] (n := 62) (l := [(0, .sl false (x0.map row_T_api_Const)), (6, .lptr 6 0 0), (8, .lptr 8 0 0)]) (bl := [(6, { sz := 3, rows := [[.str [], .str [], .str []]], frz := 0, pure := false }), (8, { sz := 5, rows := [row_T_api_Const v0.1], frz := 0, pure := false })]) (by kernel_rfl) ?_
        refine At.adv [3] [] 400 (ev := .stop c22x4 [.seq c22x5]) (σ' := mkS 62 [(0, .sl false (x0.map row_T_api_Const)), (6, .lptr 6 0 0), (8, .lptr 8 0 0)] [(6, { sz := 3, rows := [[.str [], .str [], .str []]], frz := 0, pure := false }), (8, { sz := 5, rows := [row_T_api_Const v0.1], frz := 0, pure := false })]) (q := []) (by kernel_rfl) trivial ?_
        exact (wj22x1 v0 x0)  r h Γ
      · replace h := iteF h2 h
        refine At.gc [0, 6, 8, 9] [(6, 6), (8, 8)] (n := 62) (l := [(0, .sl false (x0.map row_T_api_Const)), (6, .lptr 6 0 0), (8, .lptr 8 0 0), (9, dI v0.2)]) (bl := [(6, { sz := 3, rows := [[.str [], .str [], .str []]], frz := 0, pure := false }), (8, { sz := 5, rows := [row_T_api_Const v0.1], frz := 0, pure := false })]) (by kernel_rfl) ?_
        refine At.adv [4] [] 400 (ev := .stop c22x8 [.seq c22x9, .seq c22x10]) (σ' := mkS 62 [(0, .sl false (x0.map row_T_api_Const)), (6, .lptr 6 0 0), (8, .lptr 8 0 0), (9, dI v0.2)] [(6, { sz := 3, rows := [[.str [], .str [], .str []]], frz := 0, pure := false }), (8, { sz := 5, rows := [row_T_api_Const v0.1], frz := 0, pure := false })]) (q := []) (by kernel_rfl) trivial ?_
        exact (wj22x2 v0 x0) v0.2 r h Γ
  · replace h := iteF h0 h
    refine AtOps.run (iv 3 10) (iv 13 0) [(12, aF)] [(3, false), (4, false), (5, false), (6, false), (11, false)] [0, 6, 8, 9, 29] [(6, 6), (8, 8)] (n := 62) (sl := [(0, .sl false (x0.map row_T_api_Const)), (6, .lptr 6 0 0), (8, .lptr 8 0 0), (9, dI v0.2), (29, .bool false)]) (bl := [(6, { sz := 3, rows := [[.str [], .str [], .str []]], frz := 0, pure := false }), (8, { sz := 5, rows := [row_T_api_Const v0.1], frz := 0, pure := false })]) (q := [((v0.2 == 0) == true) = false, ((v0.2 == 0) == true) = false, ((v0.2 == 0) == true) = false, ((v0.2 == 0) == true) = false, True, True, True, True, ((v0.2 == 0) == true) = false, True ∧ ((v0.2 == 0) = false)]) (by kernel_rfl) (by kernel_rfl) ⟨gB h0 rfl, gB h0 rfl, gB h0 rfl, gB h0 rfl, trivial, trivial, trivial, trivial, gB h0 rfl, ⟨trivial, h0⟩, trivial⟩ ?_
    refine AtOps.done ?_
    refine At.advN [] [] 400 (ev := .cond false c22x4 c22x6 [.seq c22x5]) (σ' := mkS 62 [(0, .sl false (x0.map row_T_api_Const)), (6, .lptr 6 0 0), (8, .lptr 8 0 0), (9, dI v0.2), (29, .bool false)] [(6, { sz := 3, rows := [[.str [], .str [], .str []]], frz := 0, pure := false }), (8, { sz := 5, rows := [row_T_api_Const v0.1], frz := 0, pure := false })]) (q := []) (by kernel_rfl) trivial ?_
    refine EvOk.cond (fun hb => Bool.noConfusion hb) (fun _ => ?_)
    refine At.gc [0, 6, 8, 9] [(6, 6), (8, 8)] (n := 62) (l := [(0, .sl false (x0.map row_T_api_Const)), (6, .lptr 6 0 0), (8, .lptr 8 0 0), (9, dI v0.2)]) (bl := [(6, { sz := 3, rows := [[.str [], .str [], .str []]], frz := 0, pure := false }), (8, { sz := 5, rows := [row_T_api_Const v0.1], frz := 0, pure := false })]) (by kernel_rfl) ?_
    refine At.adv [4] [] 400 (ev := .stop c22x8 [.seq c22x9, .seq c22x10]) (σ' := mkS 62 [(0, .sl false (x0.map row_T_api_Const)), (6, .lptr 6 0 0), (8, .lptr 8 0 0), (9, dI v0.2)] [(6, { sz := 3, rows := [[.str [], .str [], .str []]], frz := 0, pure := false }), (8, { sz := 5, rows := [row_T_api_Const v0.1], frz := 0, pure := false })]) (q := []) (by kernel_rfl) trivial ?_
    exact (wj22x2 v0 x0) v0.2 r h Γ
theorem w22 {x0 : List T_api_Const} {x1 : Int} {x2 : Int} {r : T_api_Ref × Int} (h : m_pool_MemberRef x0 x1 x2 = some r) : CallSpec Try.prog 22 [.sl false (x0.map row_T_api_Const), .int .i64 x1, .int .i64 x2] (.tup [.agg (row_T_api_Ref r.1), .int .i64 r.2]) :=
  CallSpec.at2 b22 (n := 62) (l := [(0, .sl false (x0.map row_T_api_Const)), (1, .int .i64 x1), (2, .int .i64 x2)]) (by kernel_rfl) (by kernel_rfl) (by kernel_rfl) (by kernel_rfl) (by kernel_rfl) (Nat.le_of_ble_eq_true (by kernel_rfl)) (fun Γ => we22 x0 x1 x2 r h Γ)

/-! ### armature armaturelaw05.awake -/
noncomputable def b10 : Code := Try.f10.body.getD .skip
noncomputable def c10x0 : Code := sub1 b10
noncomputable def c10x1 : Code := sub1 c10x0
noncomputable def c10x2 : Code := sub1 c10x1
noncomputable def c10x3 : Code := sub1 c10x2
noncomputable def c10x4 : Code := sub1 c10x3
noncomputable def c10x5 : Code := sub1 c10x4
noncomputable def c10x6 : Code := sub1 c10x5
noncomputable def c10x7 : Code := sub0 c10x6
noncomputable def c10x8 : Code := sub1 c10x6
def m_armaturelaw05_awake  : Option (Bool) :=
  (m_pool_AddClass ([] : List T_api_Const) [65]).bind fun v0 =>
  (m_pool_AddMemberRef v0.1 10 ({ f_Class := [65], f_Name := [102], f_Desc := [40, 41, 86] } : T_api_Ref)).bind fun v1 =>
  (m_pool_ClassName v1.1 2).bind fun v2 =>
  (m_pool_MemberRef v1.1 6 10).bind fun v3 =>
  (m_pool_Check v1.1).bind fun v4 =>
  (growK 48 (([] : List T_api_Const) ++ v0.1).length).bind fun v5 =>
  (growK 48 ((([] : List T_api_Const) ++ v0.1) ++ [({ f_Tag := 2, f_S := [], f_N := 0, f_A := 0, f_B := 0 } : T_api_Const)]).length).bind fun v6 =>
  (m_pool_Check ((([] : List T_api_Const) ++ v0.1) ++ [({ f_Tag := 2, f_S := [], f_N := 0, f_A := 0, f_B := 0 } : T_api_Const)])).bind fun v7 =>
  if ((v0.1.length : Int) == 2) = true then (if (v0.2.1 == 2) = true then (if (v0.2.2 == 0) = true then (if ((v1.1.length : Int) == 6) = true then (if (v1.2.1 == 6) = true then (if (v1.2.2 == 0) = true then (if (v2.1 == ([65] : List UInt8)) = true then (if (v2.2 == 0) = true then (if (v3.1.f_Name == ([102] : List UInt8)) = true then (if (v3.1.f_Desc == ([40, 41, 86] : List UInt8)) = true then (if (v3.2 == 0) = true then (if (v4.1 == 0) = true then (if (v4.2 == 0) = true then (if (v7.1 == 3) = true then (some (v7.2 == 11)) else
                            (some false)) else
                          (some false)) else
                        (some false)) else
                      (some false)) else
                    (some false)) else
                  (some false)) else
                (some false)) else
              (some false)) else
            (some false)) else
          (some false)) else
        (some false)) else
      (some false)) else
    (some false)) else
  (some false)
theorem we10  (r : Bool) (h : m_armaturelaw05_awake = some r) (Γ : Ctx) : At Try.prog Γ b10 [] (Den.Ends Try.prog Try.f10 (.bool r)) (mkS 114 [] []) := by
  obtain ⟨v0, e0, h⟩ := bindE h
  obtain ⟨v1, e1, h⟩ := bindE h
  obtain ⟨v2, e2, h⟩ := bindE h
  obtain ⟨v3, e3, h⟩ := bindE h
  obtain ⟨v4, e4, h⟩ := bindE h
  obtain ⟨v5, e5, h⟩ := bindE h
  obtain ⟨v6, e6, h⟩ := bindE h
  obtain ⟨v7, e7, h⟩ := bindE h
  refine At.adv [7] [(0, { keep := kN }), (1, { told := [(0, { ans := .val (.tup [.sl false (v0.1.map row_T_api_Const), dI v0.2.1, dI v0.2.2]) })], keep := some ([1, 2, 3], []) }), (2, { told := [(2, { ans := .val (.tup [.sl false (v1.1.map row_T_api_Const), dI v1.2.1, dI v1.2.2]) })], keep := some ([1, 2, 3, 4, 5, 6], []) }), (3, { told := [(1, { ans := .val (.tup [.str v2.1, dI v2.2]) })], keep := some ([1, 2, 3, 4, 5, 6, 7, 8], []) }), (4, { told := [(1, { ans := .val (.tup [.agg (row_T_api_Ref v3.1), dI v3.2]) })], keep := some ([1, 2, 3, 4, 5, 6, 7, 8, 9, 10], [(9, 9)]) }), (5, { told := [(1, { ans := .val (.tup [dI v4.1, dI v4.2]) })], keep := some ([1, 2, 3, 4, 5, 6, 7, 8, 9, 10, 11, 12], [(9, 9)]) }), (6, { told := [(2, { rows := some ((([] : List T_api_Const) ++ v0.1).map row_T_api_Const) }), (4, { ro := true }), (5, { rows := some (((([] : List T_api_Const) ++ v0.1) ++ [({ f_Tag := 2, f_S := [], f_N := 0, f_A := 0, f_B := 0 } : T_api_Const)]).map row_T_api_Const) }), (6, { ans := .val (.tup [dI v7.1, dI v7.2]), args := [.sl false (((([] : List T_api_Const) ++ v0.1) ++ [({ f_Tag := 2, f_S := [], f_N := 0, f_A := 0, f_B := 0 } : T_api_Const)]).map row_T_api_Const)] })], keep := some ([1, 2, 3, 4, 5, 6, 7, 8, 9, 10, 11, 12, 13, 14], [(9, 9)]) })] 400 (ev := .stop c10x7 [.seq c10x8]) (σ' := mkS 114 [(1, .sl false (v0.1.map row_T_api_Const)), (2, dI v0.2.1), (3, dI v0.2.2), (4, .sl false (v1.1.map row_T_api_Const)), (5, dI v1.2.1), (6, dI v1.2.2), (7, .str v2.1), (8, dI v2.2), (9, .lptr 9 0 0), (10, dI v3.2), (11, dI v4.1), (12, dI v4.2), (13, dI v7.1), (14, dI v7.2)] [(9, { sz := 3, rows := [row_T_api_Ref v3.1], frz := 0, pure := false })]) (q := [True ∧ (cq Try.prog (tN 2) 24 [.sl false (([] : List T_api_Const).map row_T_api_Const), .str [65]] (.tup [.sl false (v0.1.map row_T_api_Const), dI v0.2.1, dI v0.2.2])), True ∧ (cq Try.prog (True ∧ (True ∧ ((tN 3) ∧ True))) 26 [.sl false (v0.1.map row_T_api_Const), dI 10, .agg [.str [65], .str [102], .str [40, 41, 86]]] (.tup [.sl false (v1.1.map row_T_api_Const), dI v1.2.1, dI v1.2.2])), True ∧ (cq Try.prog (tN 2) 16 [.sl false (v1.1.map row_T_api_Const), dI 2] (.tup [.str v2.1, dI v2.2])), True ∧ (cq Try.prog (tN 3) 22 [.sl false (v1.1.map row_T_api_Const), dI 6, dI 10] (.tup [.agg (row_T_api_Ref v3.1), dI v3.2])), True ∧ (0 ≤ 0 ∧ 0 + ([.str v3.1.f_Class, .str v3.1.f_Name, .str v3.1.f_Desc] : List D).length ≤ ([.str [], .str [], .str []] : List D).length ∧ ([[.str v3.1.f_Class, .str v3.1.f_Name, .str v3.1.f_Desc]] : List (List D)) = ([[.str v3.1.f_Class, .str v3.1.f_Name, .str v3.1.f_Desc]] : List (List D))), True ∧ (cq Try.prog (tN 1) 9 [.sl false (v1.1.map row_T_api_Const)] (.tup [dI v4.1, dI v4.2])), True ∧ (tN 0), True ∧ (True ∧ (([] : List T_api_Const).map row_T_api_Const).length = (([] : List T_api_Const).map row_T_api_Const).length ∧ (∀ r ∈ (v0.1.map row_T_api_Const), r.length = 5) ∧ (([] : List T_api_Const).map row_T_api_Const) ++ (v0.1.map row_T_api_Const) = ((([] : List T_api_Const) ++ v0.1).map row_T_api_Const) ∧ ((([] : List T_api_Const) ++ v0.1).map row_T_api_Const).length ≤ 9223372036854775807 ∧ ((([] : List T_api_Const) ++ v0.1).map row_T_api_Const).length * 48 ≤ 140737488355328), True ∧ ((tN 5) ∧ True), True ∧ (True ∧ ((([] : List T_api_Const) ++ v0.1).map row_T_api_Const).length = ((([] : List T_api_Const) ++ v0.1).map row_T_api_Const).length ∧ (∀ r ∈ ([({ f_Tag := 2, f_S := [], f_N := 0, f_A := 0, f_B := 0 } : T_api_Const)].map row_T_api_Const), r.length = 5) ∧ ((([] : List T_api_Const) ++ v0.1).map row_T_api_Const) ++ ([({ f_Tag := 2, f_S := [], f_N := 0, f_A := 0, f_B := 0 } : T_api_Const)].map row_T_api_Const) = (((([] : List T_api_Const) ++ v0.1) ++ [({ f_Tag := 2, f_S := [], f_N := 0, f_A := 0, f_B := 0 } : T_api_Const)]).map row_T_api_Const) ∧ (((([] : List T_api_Const) ++ v0.1) ++ [({ f_Tag := 2, f_S := [], f_N := 0, f_A := 0, f_B := 0 } : T_api_Const)]).map row_T_api_Const).length ≤ 9223372036854775807 ∧ (((([] : List T_api_Const) ++ v0.1) ++ [({ f_Tag := 2, f_S := [], f_N := 0, f_A := 0, f_B := 0 } : T_api_Const)]).map row_T_api_Const).length * 48 ≤ 140737488355328), True ∧ (((0 + (((([] : List T_api_Const) ++ v0.1) ++ [({ f_Tag := 2, f_S := [], f_N := 0, f_A := 0, f_B := 0 } : T_api_Const)]).map row_T_api_Const).length ≤ (((([] : List T_api_Const) ++ v0.1) ++ [({ f_Tag := 2, f_S := [], f_N := 0, f_A := 0, f_B := 0 } : T_api_Const)]).map row_T_api_Const).length) ∧ True) ∧ ([.sl false (((((([] : List T_api_Const) ++ v0.1) ++ [({ f_Tag := 2, f_S := [], f_N := 0, f_A := 0, f_B := 0 } : T_api_Const)]).map row_T_api_Const).drop 0).take (((([] : List T_api_Const) ++ v0.1) ++ [({ f_Tag := 2, f_S := [], f_N := 0, f_A := 0, f_B := 0 } : T_api_Const)]).map row_T_api_Const).length)] : List D) = [.sl false (((([] : List T_api_Const) ++ v0.1) ++ [({ f_Tag := 2, f_S := [], f_N := 0, f_A := 0, f_B := 0 } : T_api_Const)]).map row_T_api_Const)] ∧ CallAny Try.prog 9 [.sl false (((([] : List T_api_Const) ++ v0.1) ++ [({ f_Tag := 2, f_S := [], f_N := 0, f_A := 0, f_B := 0 } : T_api_Const)]).map row_T_api_Const)] (.tup [dI v7.1, dI v7.2]))]) (by kernel_rfl) ⟨⟨trivial, cqi (tNi 2) (w24 e0)⟩, ⟨trivial, cqi (⟨trivial, ⟨trivial, ⟨tNi 3, trivial⟩⟩⟩) (w26 e1)⟩, ⟨trivial, cqi (tNi 2) (w16 e2)⟩, ⟨trivial, cqi (tNi 3) (w22 e3)⟩, ⟨trivial, ⟨Nat.zero_le _, Nat.le_of_ble_eq_true rfl, rfl⟩⟩, ⟨trivial, cqi (tNi 1) (w9 e4)⟩, ⟨trivial, tNi 0⟩, ⟨trivial, ⟨trivial, rfl, szM (f := row_T_api_Const) (n := 5) (fun _ => rfl) _, appM row_T_api_Const _ _, (growK_spec e5 (lenMN _ _)).1, (growK_spec e5 (lenMN _ _)).2⟩⟩, ⟨trivial, ⟨tNi 5, trivial⟩⟩, ⟨trivial, ⟨trivial, rfl, szM (f := row_T_api_Const) (n := 5) (fun _ => rfl) _, appM row_T_api_Const _ _, (growK_spec e6 (lenMN _ _)).1, (growK_spec e6 (lenMN _ _)).2⟩⟩, ⟨trivial, ⟨⟨roomAll _, trivial⟩, by simp only [takeAll] <;> kernel_rfl, .inl (w9 e7)⟩⟩, trivial⟩ ?_
  refine EvOk.stop (At.ops (l := iv 0 63) (by kernel_rfl) (by kernel_rfl) ?_)
  refine AtOps.run (iv 0 4) (iv 4 59) [(1, { ans := .val (dI (v0.1.length : Int)) })] [] [2, 3, 4, 5, 6, 7, 8, 9, 10, 11, 12, 13, 14, 55] [(9, 9)] (n := 114) (sl := [(2, dI v0.2.1), (3, dI v0.2.2), (4, .sl false (v1.1.map row_T_api_Const)), (5, dI v1.2.1), (6, dI v1.2.2), (7, .str v2.1), (8, dI v2.2), (9, .lptr 9 0 0), (10, dI v3.2), (11, dI v4.1), (12, dI v4.2), (13, dI v7.1), (14, dI v7.2), (55, .bool ((v0.1.length : Int) == 2))]) (bl := [(9, { sz := 3, rows := [row_T_api_Ref v3.1], frz := 0, pure := false })]) (q := [True ∧ (((v0.1.map row_T_api_Const).length : Int) = (v0.1.length : Int))]) (by kernel_rfl) (by kernel_rfl) ⟨⟨trivial, lenM _ _⟩, trivial⟩ ?_
  rcases Bool.eq_false_or_eq_true ((v0.1.length : Int) == 2) with h0 | h0
  · replace h := iteT h0 h
    refine AtOps.run (iv 4 4) (iv 8 55) [(6, aT)] [(4, true), (5, true)] [3, 4, 5, 6, 7, 8, 9, 10, 11, 12, 13, 14, 59] [(9, 9)] (n := 114) (sl := [(3, dI v0.2.2), (4, .sl false (v1.1.map row_T_api_Const)), (5, dI v1.2.1), (6, dI v1.2.2), (7, .str v2.1), (8, dI v2.2), (9, .lptr 9 0 0), (10, dI v3.2), (11, dI v4.1), (12, dI v4.2), (13, dI v7.1), (14, dI v7.2), (59, .bool (v0.2.1 == 2))]) (bl := [(9, { sz := 3, rows := [row_T_api_Ref v3.1], frz := 0, pure := false })]) (q := [(((v0.1.length : Int) == 2) == true) = true ∧ True, (((v0.1.length : Int) == 2) == true) = true ∧ True, True ∧ (((v0.1.length : Int) == 2) = true)]) (by kernel_rfl) (by kernel_rfl) ⟨⟨(gB h0 rfl), trivial⟩, ⟨(gB h0 rfl), trivial⟩, ⟨trivial, h0⟩, trivial⟩ ?_
    rcases Bool.eq_false_or_eq_true (v0.2.1 == 2) with h1 | h1
    · replace h := iteT h1 h
      refine AtOps.run (iv 8 4) (iv 12 51) [(10, aT)] [(8, true), (9, true)] [4, 5, 6, 7, 8, 9, 10, 11, 12, 13, 14, 63] [(9, 9)] (n := 114) (sl := [(4, .sl false (v1.1.map row_T_api_Const)), (5, dI v1.2.1), (6, dI v1.2.2), (7, .str v2.1), (8, dI v2.2), (9, .lptr 9 0 0), (10, dI v3.2), (11, dI v4.1), (12, dI v4.2), (13, dI v7.1), (14, dI v7.2), (63, .bool (v0.2.2 == 0))]) (bl := [(9, { sz := 3, rows := [row_T_api_Ref v3.1], frz := 0, pure := false })]) (q := [((v0.2.1 == 2) == true) = true ∧ True, ((v0.2.1 == 2) == true) = true ∧ True, True ∧ ((v0.2.1 == 2) = true)]) (by kernel_rfl) (by kernel_rfl) ⟨⟨(gB h1 rfl), trivial⟩, ⟨(gB h1 rfl), trivial⟩, ⟨trivial, h1⟩, trivial⟩ ?_
      rcases Bool.eq_false_or_eq_true (v0.2.2 == 0) with h2 | h2
      · replace h := iteT h2 h
        refine AtOps.run (iv 12 5) (iv 17 46) [(13, { ans := .val (dI (v1.1.length : Int)) }), (15, aT)] [(12, true), (13, true), (14, true)] [5, 6, 7, 8, 9, 10, 11, 12, 13, 14, 68] [(9, 9)] (n := 114) (sl := [(5, dI v1.2.1), (6, dI v1.2.2), (7, .str v2.1), (8, dI v2.2), (9, .lptr 9 0 0), (10, dI v3.2), (11, dI v4.1), (12, dI v4.2), (13, dI v7.1), (14, dI v7.2), (68, .bool ((v1.1.length : Int) == 6))]) (bl := [(9, { sz := 3, rows := [row_T_api_Ref v3.1], frz := 0, pure := false })]) (q := [((v0.2.2 == 0) == true) = true ∧ True, ((v0.2.2 == 0) == true) = true ∧ (((v1.1.map row_T_api_Const).length : Int) = (v1.1.length : Int)), ((v0.2.2 == 0) == true) = true ∧ True, True ∧ ((v0.2.2 == 0) = true)]) (by kernel_rfl) (by kernel_rfl) ⟨⟨(gB h2 rfl), trivial⟩, ⟨(gB h2 rfl), lenM _ _⟩, ⟨(gB h2 rfl), trivial⟩, ⟨trivial, h2⟩, trivial⟩ ?_
        rcases Bool.eq_false_or_eq_true ((v1.1.length : Int) == 6) with h3 | h3
        · replace h := iteT h3 h
          refine AtOps.run (iv 17 4) (iv 21 42) [(19, aT)] [(17, true), (18, true)] [6, 7, 8, 9, 10, 11, 12, 13, 14, 72] [(9, 9)] (n := 114) (sl := [(6, dI v1.2.2), (7, .str v2.1), (8, dI v2.2), (9, .lptr 9 0 0), (10, dI v3.2), (11, dI v4.1), (12, dI v4.2), (13, dI v7.1), (14, dI v7.2), (72, .bool (v1.2.1 == 6))]) (bl := [(9, { sz := 3, rows := [row_T_api_Ref v3.1], frz := 0, pure := false })]) (q := [(((v1.1.length : Int) == 6) == true) = true ∧ True, (((v1.1.length : Int) == 6) == true) = true ∧ True, True ∧ (((v1.1.length : Int) == 6) = true)]) (by kernel_rfl) (by kernel_rfl) ⟨⟨(gB h3 rfl), trivial⟩, ⟨(gB h3 rfl), trivial⟩, ⟨trivial, h3⟩, trivial⟩ ?_
          rcases Bool.eq_false_or_eq_true (v1.2.1 == 6) with h4 | h4
          · replace h := iteT h4 h
            refine AtOps.run (iv 21 4) (iv 25 38) [(23, aT)] [(21, true), (22, true)] [7, 8, 9, 10, 11, 12, 13, 14, 76] [(9, 9)] (n := 114) (sl := [(7, .str v2.1), (8, dI v2.2), (9, .lptr 9 0 0), (10, dI v3.2), (11, dI v4.1), (12, dI v4.2), (13, dI v7.1), (14, dI v7.2), (76, .bool (v1.2.2 == 0))]) (bl := [(9, { sz := 3, rows := [row_T_api_Ref v3.1], frz := 0, pure := false })]) (q := [((v1.2.1 == 6) == true) = true ∧ True, ((v1.2.1 == 6) == true) = true ∧ True, True ∧ ((v1.2.1 == 6) = true)]) (by kernel_rfl) (by kernel_rfl) ⟨⟨(gB h4 rfl), trivial⟩, ⟨(gB h4 rfl), trivial⟩, ⟨trivial, h4⟩, trivial⟩ ?_
            rcases Bool.eq_false_or_eq_true (v1.2.2 == 0) with h5 | h5
            · replace h := iteT h5 h
              refine AtOps.run (iv 25 4) (iv 29 34) [(27, aT)] [(25, true), (26, true)] [8, 9, 10, 11, 12, 13, 14, 80] [(9, 9)] (n := 114) (sl := [(8, dI v2.2), (9, .lptr 9 0 0), (10, dI v3.2), (11, dI v4.1), (12, dI v4.2), (13, dI v7.1), (14, dI v7.2), (80, .bool (v2.1 == ([65] : List UInt8)))]) (bl := [(9, { sz := 3, rows := [row_T_api_Ref v3.1], frz := 0, pure := false })]) (q := [((v1.2.2 == 0) == true) = true ∧ True, ((v1.2.2 == 0) == true) = true ∧ True, True ∧ ((v1.2.2 == 0) = true)]) (by kernel_rfl) (by kernel_rfl) ⟨⟨(gB h5 rfl), trivial⟩, ⟨(gB h5 rfl), trivial⟩, ⟨trivial, h5⟩, trivial⟩ ?_
              rcases Bool.eq_false_or_eq_true (v2.1 == ([65] : List UInt8)) with h6 | h6
              · replace h := iteT h6 h
                refine AtOps.run (iv 29 4) (iv 33 30) [(31, aT)] [(29, true), (30, true)] [9, 10, 11, 12, 13, 14, 84] [(9, 9)] (n := 114) (sl := [(9, .lptr 9 0 0), (10, dI v3.2), (11, dI v4.1), (12, dI v4.2), (13, dI v7.1), (14, dI v7.2), (84, .bool (v2.2 == 0))]) (bl := [(9, { sz := 3, rows := [row_T_api_Ref v3.1], frz := 0, pure := false })]) (q := [((v2.1 == ([65] : List UInt8)) == true) = true ∧ True, ((v2.1 == ([65] : List UInt8)) == true) = true ∧ True, True ∧ ((v2.1 == ([65] : List UInt8)) = true)]) (by kernel_rfl) (by kernel_rfl) ⟨⟨(gB h6 rfl), trivial⟩, ⟨(gB h6 rfl), trivial⟩, ⟨trivial, h6⟩, trivial⟩ ?_
                rcases Bool.eq_false_or_eq_true (v2.2 == 0) with h7 | h7
                · replace h := iteT h7 h
                  refine AtOps.run (iv 33 5) (iv 38 25) [(36, aT)] [(33, true), (34, true), (35, true)] [9, 10, 11, 12, 13, 14, 89] [(9, 9)] (n := 114) (sl := [(9, .lptr 9 0 0), (10, dI v3.2), (11, dI v4.1), (12, dI v4.2), (13, dI v7.1), (14, dI v7.2), (89, .bool (v3.1.f_Name == ([102] : List UInt8)))]) (bl := [(9, { sz := 3, rows := [row_T_api_Ref v3.1], frz := 0, pure := false })]) (q := [((v2.2 == 0) == true) = true ∧ True, ((v2.2 == 0) == true) = true ∧ True, ((v2.2 == 0) == true) = true ∧ True, True ∧ ((v2.2 == 0) = true)]) (by kernel_rfl) (by kernel_rfl) ⟨⟨(gB h7 rfl), trivial⟩, ⟨(gB h7 rfl), trivial⟩, ⟨(gB h7 rfl), trivial⟩, ⟨trivial, h7⟩, trivial⟩ ?_
                  rcases Bool.eq_false_or_eq_true (v3.1.f_Name == ([102] : List UInt8)) with h8 | h8
                  · replace h := iteT h8 h
                    refine AtOps.run (iv 38 5) (iv 43 20) [(41, aT)] [(38, true), (39, true), (40, true)] [10, 11, 12, 13, 14, 94] [] (n := 114) (sl := [(10, dI v3.2), (11, dI v4.1), (12, dI v4.2), (13, dI v7.1), (14, dI v7.2), (94, .bool (v3.1.f_Desc == ([40, 41, 86] : List UInt8)))]) (bl := []) (q := [((v3.1.f_Name == ([102] : List UInt8)) == true) = true ∧ True, ((v3.1.f_Name == ([102] : List UInt8)) == true) = true ∧ True, ((v3.1.f_Name == ([102] : List UInt8)) == true) = true ∧ True, True ∧ ((v3.1.f_Name == ([102] : List UInt8)) = true)]) (by kernel_rfl) (by kernel_rfl) ⟨⟨(gB h8 rfl), trivial⟩, ⟨(gB h8 rfl), trivial⟩, ⟨(gB h8 rfl), trivial⟩, ⟨trivial, h8⟩, trivial⟩ ?_
                    rcases Bool.eq_false_or_eq_true (v3.1.f_Desc == ([40, 41, 86] : List UInt8)) with h9 | h9
                    · replace h := iteT h9 h
                      refine AtOps.run (iv 43 4) (iv 47 16) [(45, aT)] [(43, true), (44, true)] [11, 12, 13, 14, 98] [] (n := 114) (sl := [(11, dI v4.1), (12, dI v4.2), (13, dI v7.1), (14, dI v7.2), (98, .bool (v3.2 == 0))]) (bl := []) (q := [((v3.1.f_Desc == ([40, 41, 86] : List UInt8)) == true) = true ∧ True, ((v3.1.f_Desc == ([40, 41, 86] : List UInt8)) == true) = true ∧ True, True ∧ ((v3.1.f_Desc == ([40, 41, 86] : List UInt8)) = true)]) (by kernel_rfl) (by kernel_rfl) ⟨⟨(gB h9 rfl), trivial⟩, ⟨(gB h9 rfl), trivial⟩, ⟨trivial, h9⟩, trivial⟩ ?_
                      rcases Bool.eq_false_or_eq_true (v3.2 == 0) with h10 | h10
                      · replace h := iteT h10 h
                        refine AtOps.run (iv 47 4) (iv 51 12) [(49, aT)] [(47, true), (48, true)] [12, 13, 14, 102] [] (n := 114) (sl := [(12, dI v4.2), (13, dI v7.1), (14, dI v7.2), (102, .bool (v4.1 == 0))]) (bl := []) (q := [((v3.2 == 0) == true) = true ∧ True, ((v3.2 == 0) == true) = true ∧ True, True ∧ ((v3.2 == 0) = true)]) (by kernel_rfl) (by kernel_rfl) ⟨⟨(gB h10 rfl), trivial⟩, ⟨(gB h10 rfl), trivial⟩, ⟨trivial, h10⟩, trivial⟩ ?_
                        rcases Bool.eq_false_or_eq_true (v4.1 == 0) with h11 | h11
                        · replace h := iteT h11 h
                          refine AtOps.run (iv 51 4) (iv 55 8) [(53, aT)] [(51, true), (52, true)] [13, 14, 106] [] (n := 114) (sl := [(13, dI v7.1), (14, dI v7.2), (106, .bool (v4.2 == 0))]) (bl := []) (q := [((v4.1 == 0) == true) = true ∧ True, ((v4.1 == 0) == true) = true ∧ True, True ∧ ((v4.1 == 0) = true)]) (by kernel_rfl) (by kernel_rfl) ⟨⟨(gB h11 rfl), trivial⟩, ⟨(gB h11 rfl), trivial⟩, ⟨trivial, h11⟩, trivial⟩ ?_
                          rcases Bool.eq_false_or_eq_true (v4.2 == 0) with h12 | h12
                          · replace h := iteT h12 h
                            refine AtOps.run (iv 55 4) (iv 59 4) [(57, aT)] [(55, true), (56, true)] [14, 110] [] (n := 114) (sl := [(14, dI v7.2), (110, .bool (v7.1 == 3))]) (bl := []) (q := [((v4.2 == 0) == true) = true ∧ True, ((v4.2 == 0) == true) = true ∧ True, True ∧ ((v4.2 == 0) = true)]) (by kernel_rfl) (by kernel_rfl) ⟨⟨(gB h12 rfl), trivial⟩, ⟨(gB h12 rfl), trivial⟩, ⟨trivial, h12⟩, trivial⟩ ?_
                            rcases Bool.eq_false_or_eq_true (v7.1 == 3) with h13 | h13
                            · replace h := iteT h13 h
                              refine AtOps.run (iv 59 4) (iv 63 0) [(61, aT)] [(59, true), (60, true)] [0] [] (n := 114) (sl := [(0, .bool (v7.2 == 11))]) (bl := []) (q := [((v7.1 == 3) == true) = true ∧ True, ((v7.1 == 3) == true) = true ∧ True, True ∧ ((v7.1 == 3) = true)]) (by kernel_rfl) (by kernel_rfl) ⟨⟨(gB h13 rfl), trivial⟩, ⟨(gB h13 rfl), trivial⟩, ⟨trivial, h13⟩, trivial⟩ ?_
                              refine AtOps.done ?_
                              refine At.advN [] [] 400 (ev := .ret) (σ' := mkS 114 [(0, .bool (v7.2 == 11))] []) (q := []) (by kernel_rfl) trivial ?_
                              refine EvOk.ret ?_
                              obtain rfl := someE h
                              exact Den.Ends.mk (.inl rfl) (d := .bool (v7.2 == 11)) (p := (True ∧ True) ∧ (tN 1)) (by kernel_rfl) ⟨⟨trivial, trivial⟩, tNi 1⟩ (by kernel_rfl)
                            · replace h := iteF h13 h
                              refine AtOps.run (iv 59 4) (iv 63 0) [(61, aF)] [(59, false), (60, false)] [0] [] (n := 114) (sl := [(0, .bool false)]) (bl := []) (q := [((v7.1 == 3) == true) = false, ((v7.1 == 3) == true) = false, True ∧ ((v7.1 == 3) = false)]) (by kernel_rfl) (by kernel_rfl) ⟨gB h13 rfl, gB h13 rfl, ⟨trivial, h13⟩, trivial⟩ ?_
                              refine AtOps.done ?_
                              refine At.advN [] [] 400 (ev := .ret) (σ' := mkS 114 [(0, .bool false)] []) (q := []) (by kernel_rfl) trivial ?_
                              refine EvOk.ret ?_
                              obtain rfl := someE h
                              exact Den.Ends.mk (.inl rfl) (d := .bool false) (p := (True ∧ True) ∧ (tN 1)) (by kernel_rfl) ⟨⟨trivial, trivial⟩, tNi 1⟩ (by kernel_rfl)
                          · replace h := iteF h12 h
                            refine AtOps.run (iv 55 8) (iv 63 0) [(57, aF)] [(55, false), (56, false)] [0] [] (n := 114) (sl := [(0, .bool false)]) (bl := []) (q := [((v4.2 == 0) == true) = false, ((v4.2 == 0) == true) = false, True ∧ ((v4.2 == 0) = false), True, True]) (by kernel_rfl) (by kernel_rfl) ⟨gB h12 rfl, gB h12 rfl, ⟨trivial, h12⟩, trivial, trivial, trivial⟩ ?_
                            refine AtOps.done ?_
                            refine At.advN [] [] 400 (ev := .ret) (σ' := mkS 114 [(0, .bool false)] []) (q := []) (by kernel_rfl) trivial ?_
                            refine EvOk.ret ?_
                            obtain rfl := someE h
                            exact Den.Ends.mk (.inl rfl) (d := .bool false) (p := (True ∧ True) ∧ (tN 1)) (by kernel_rfl) ⟨⟨trivial, trivial⟩, tNi 1⟩ (by kernel_rfl)
                        · replace h := iteF h11 h
                          refine AtOps.run (iv 51 12) (iv 63 0) [(53, aF)] [(51, false), (52, false)] [0] [] (n := 114) (sl := [(0, .bool false)]) (bl := []) (q := [((v4.1 == 0) == true) = false, ((v4.1 == 0) == true) = false, True ∧ ((v4.1 == 0) = false), True, True, True, True]) (by kernel_rfl) (by kernel_rfl) ⟨gB h11 rfl, gB h11 rfl, ⟨trivial, h11⟩, trivial, trivial, trivial, trivial, trivial⟩ ?_
                          refine AtOps.done ?_
                          refine At.advN [] [] 400 (ev := .ret) (σ' := mkS 114 [(0, .bool false)] []) (q := []) (by kernel_rfl) trivial ?_
                          refine EvOk.ret ?_
                          obtain rfl := someE h
                          exact Den.Ends.mk (.inl rfl) (d := .bool false) (p := (True ∧ True) ∧ (tN 1)) (by kernel_rfl) ⟨⟨trivial, trivial⟩, tNi 1⟩ (by kernel_rfl)
                      · replace h := iteF h10 h
                        refine AtOps.run (iv 47 16) (iv 63 0) [(49, aF)] [(47, false), (48, false)] [0] [] (n := 114) (sl := [(0, .bool false)]) (bl := []) (q := [((v3.2 == 0) == true) = false, ((v3.2 == 0) == true) = false, True ∧ ((v3.2 == 0) = false), True, True, True, True, True, True]) (by kernel_rfl) (by kernel_rfl) ⟨gB h10 rfl, gB h10 rfl, ⟨trivial, h10⟩, trivial, trivial, trivial, trivial, trivial, trivial, trivial⟩ ?_
                        refine AtOps.done ?_
                        refine At.advN [] [] 400 (ev := .ret) (σ' := mkS 114 [(0, .bool false)] []) (q := []) (by kernel_rfl) trivial ?_
                        refine EvOk.ret ?_
                        obtain rfl := someE h
                        exact Den.Ends.mk (.inl rfl) (d := .bool false) (p := (True ∧ True) ∧ (tN 1)) (by kernel_rfl) ⟨⟨trivial, trivial⟩, tNi 1⟩ (by kernel_rfl)
                    · replace h := iteF h9 h
                      refine AtOps.run (iv 43 20) (iv 63 0) [(45, aF)] [(43, false), (44, false)] [0] [] (n := 114) (sl := [(0, .bool false)]) (bl := []) (q := [((v3.1.f_Desc == ([40, 41, 86] : List UInt8)) == true) = false, ((v3.1.f_Desc == ([40, 41, 86] : List UInt8)) == true) = false, True ∧ ((v3.1.f_Desc == ([40, 41, 86] : List UInt8)) = false), True, True, True, True, True, True, True, True]) (by kernel_rfl) (by kernel_rfl) ⟨gB h9 rfl, gB h9 rfl, ⟨trivial, h9⟩, trivial, trivial, trivial, trivial, trivial, trivial, trivial, trivial, trivial⟩ ?_
                      refine AtOps.done ?_
                      refine At.advN [] [] 400 (ev := .ret) (σ' := mkS 114 [(0, .bool false)] []) (q := []) (by kernel_rfl) trivial ?_
                      refine EvOk.ret ?_
                      obtain rfl := someE h
                      exact Den.Ends.mk (.inl rfl) (d := .bool false) (p := (True ∧ True) ∧ (tN 1)) (by kernel_rfl) ⟨⟨trivial, trivial⟩, tNi 1⟩ (by kernel_rfl)
                  · replace h := iteF h8 h
                    refine AtOps.run (iv 38 25) (iv 63 0) [(41, aF)] [(38, false), (39, false), (40, false)] [0] [] (n := 114) (sl := [(0, .bool false)]) (bl := []) (q := [((v3.1.f_Name == ([102] : List UInt8)) == true) = false, ((v3.1.f_Name == ([102] : List UInt8)) == true) = false, ((v3.1.f_Name == ([102] : List UInt8)) == true) = false, True ∧ ((v3.1.f_Name == ([102] : List UInt8)) = false), True, True, True, True, True, True, True, True, True, True]) (by kernel_rfl) (by kernel_rfl) ⟨gB h8 rfl, gB h8 rfl, gB h8 rfl, ⟨trivial, h8⟩, trivial, trivial, trivial, trivial, trivial, trivial, trivial, trivial, trivial, trivial, trivial⟩ ?_
                    refine AtOps.done ?_
                    refine At.advN [] [] 400 (ev := .ret) (σ' := mkS 114 [(0, .bool false)] []) (q := []) (by kernel_rfl) trivial ?_
                    refine EvOk.ret ?_
                    obtain rfl := someE h
                    exact Den.Ends.mk (.inl rfl) (d := .bool false) (p := (True ∧ True) ∧ (tN 1)) (by kernel_rfl) ⟨⟨trivial, trivial⟩, tNi 1⟩ (by kernel_rfl)
                · replace h := iteF h7 h
                  refine AtOps.run (iv 33 30) (iv 63 0) [(36, aF)] [(33, false), (34, false), (35, false)] [0] [] (n := 114) (sl := [(0, .bool false)]) (bl := []) (q := [((v2.2 == 0) == true) = false, ((v2.2 == 0) == true) = false, ((v2.2 == 0) == true) = false, True ∧ ((v2.2 == 0) = false), True, True, True, True, True, True, True, True, True, True, True, True, True]) (by kernel_rfl) (by kernel_rfl) ⟨gB h7 rfl, gB h7 rfl, gB h7 rfl, ⟨trivial, h7⟩, trivial, trivial, trivial, trivial, trivial, trivial, trivial, trivial, trivial, trivial, trivial, trivial, trivial, trivial⟩ ?_
                  refine AtOps.done ?_
                  refine At.advN [] [] 400 (ev := .ret) (σ' := mkS 114 [(0, .bool false)] []) (q := []) (by kernel_rfl) trivial ?_
                  refine EvOk.ret ?_
                  obtain rfl := someE h
                  exact Den.Ends.mk (.inl rfl) (d := .bool false) (p := (True ∧ True) ∧ (tN 1)) (by kernel_rfl) ⟨⟨trivial, trivial⟩, tNi 1⟩ (by kernel_rfl)
              · replace h := iteF h6 h
                refine AtOps.run (iv 29 34) (iv 63 0) [(31, aF)] [(29, false), (30, false)] [0] [] (n := 114) (sl := [(0, .bool false)]) (bl := []) (q := [((v2.1 == ([65] : List UInt8)) == true) = false, ((v2.1 == ([65] : List UInt8)) == true) = false, True ∧ ((v2.1 == ([65] : List UInt8)) = false), True, True, True, True, True, True, True, True, True, True, True, True, True, True, True, True]) (by kernel_rfl) (by kernel_rfl) ⟨gB h6 rfl, gB h6 rfl, ⟨trivial, h6⟩, trivial, trivial, trivial, trivial, trivial, trivial, trivial, trivial, trivial, trivial, trivial, trivial, trivial, trivial, trivial, trivial, trivial⟩ ?_
                refine AtOps.done ?_
                refine At.advN [] [] 400 (ev := .ret) (σ' := mkS 114 [(0, .bool false)] []) (q := []) (by kernel_rfl) trivial ?_
                refine EvOk.ret ?_
                obtain rfl := someE h
                exact Den.Ends.mk (.inl rfl) (d := .bool false) (p := (True ∧ True) ∧ (tN 1)) (by kernel_rfl) ⟨⟨trivial, trivial⟩, tNi 1⟩ (by kernel_rfl)
            · replace h := iteF h5 h
              refine AtOps.run (iv 25 38) (iv 63 0) [(27, aF)] [(25, false), (26, false)] [0] [] (n := 114) (sl := [(0, .bool false)]) (bl := []) (q := [((v1.2.2 == 0) == true) = false, ((v1.2.2 == 0) == true) = false, True ∧ ((v1.2.2 == 0) = false), True, True, True, True, True, True, True, True, True, True, True, True, True, True, True, True, True, True]) (by kernel_rfl) (by kernel_rfl) ⟨gB h5 rfl, gB h5 rfl, ⟨trivial, h5⟩, trivial, trivial, trivial, trivial, trivial, trivial, trivial, trivial, trivial, trivial, trivial, trivial, trivial, trivial, trivial, trivial, trivial, trivial, trivial⟩ ?_
              refine AtOps.done ?_
              refine At.advN [] [] 400 (ev := .ret) (σ' := mkS 114 [(0, .bool false)] []) (q := []) (by kernel_rfl) trivial ?_
              refine EvOk.ret ?_
              obtain rfl := someE h
              exact Den.Ends.mk (.inl rfl) (d := .bool false) (p := (True ∧ True) ∧ (tN 1)) (by kernel_rfl) ⟨⟨trivial, trivial⟩, tNi 1⟩ (by kernel_rfl)
          · replace h := iteF h4 h
            refine AtOps.run (iv 21 42) (iv 63 0) [(23, aF)] [(21, false), (22, false)] [0] [] (n := 114) (sl := [(0, .bool false)]) (bl := []) (q := [((v1.2.1 == 6) == true) = false, ((v1.2.1 == 6) == true) = false, True ∧ ((v1.2.1 == 6) = false), True, True, True, True, True, True, True, True, True, True, True, True, True, True, True, True, True, True, True, True]) (by kernel_rfl) (by kernel_rfl) ⟨gB h4 rfl, gB h4 rfl, ⟨trivial, h4⟩, trivial, trivial, trivial, trivial, trivial, trivial, trivial, trivial, trivial, trivial, trivial, trivial, trivial, trivial, trivial, trivial, trivial, trivial, trivial, trivial, trivial⟩ ?_
            refine AtOps.done ?_
            refine At.advN [] [] 400 (ev := .ret) (σ' := mkS 114 [(0, .bool false)] []) (q := []) (by kernel_rfl) trivial ?_
            refine EvOk.ret ?_
            obtain rfl := someE h
            exact Den.Ends.mk (.inl rfl) (d := .bool false) (p := (True ∧ True) ∧ (tN 1)) (by kernel_rfl) ⟨⟨trivial, trivial⟩, tNi 1⟩ (by kernel_rfl)
        · replace h := iteF h3 h
          refine AtOps.run (iv 17 46) (iv 63 0) [(19, aF)] [(17, false), (18, false)] [0] [] (n := 114) (sl := [(0, .bool false)]) (bl := []) (q := [(((v1.1.length : Int) == 6) == true) = false, (((v1.1.length : Int) == 6) == true) = false, True ∧ (((v1.1.length : Int) == 6) = false), True, True, True, True, True, True, True, True, True, True, True, True, True, True, True, True, True, True, True, True, True, True]) (by kernel_rfl) (by kernel_rfl) ⟨gB h3 rfl, gB h3 rfl, ⟨trivial, h3⟩, trivial, trivial, trivial, trivial, trivial, trivial, trivial, trivial, trivial, trivial, trivial, trivial, trivial, trivial, trivial, trivial, trivial, trivial, trivial, trivial, trivial, trivial, trivial⟩ ?_
          refine AtOps.done ?_
          refine At.advN [] [] 400 (ev := .ret) (σ' := mkS 114 [(0, .bool false)] []) (q := []) (by kernel_rfl) trivial ?_
          refine EvOk.ret ?_
          obtain rfl := someE h
          exact Den.Ends.mk (.inl rfl) (d := .bool false) (p := (True ∧ True) ∧ (tN 1)) (by kernel_rfl) ⟨⟨trivial, trivial⟩, tNi 1⟩ (by kernel_rfl)
      · replace h := iteF h2 h
        refine AtOps.run (iv 12 51) (iv 63 0) [(15, aF)] [(12, false), (13, false), (14, false)] [0] [] (n := 114) (sl := [(0, .bool false)]) (bl := []) (q := [((v0.2.2 == 0) == true) = false, ((v0.2.2 == 0) == true) = false, ((v0.2.2 == 0) == true) = false, True ∧ ((v0.2.2 == 0) = false), True, True, True, True, True, True, True, True, True, True, True, True, True, True, True, True, True, True, True, True, True, True, True, True]) (by kernel_rfl) (by kernel_rfl) ⟨gB h2 rfl, gB h2 rfl, gB h2 rfl, ⟨trivial, h2⟩, trivial, trivial, trivial, trivial, trivial, trivial, trivial, trivial, trivial, trivial, trivial, trivial, trivial, trivial, trivial, trivial, trivial, trivial, trivial, trivial, trivial, trivial, trivial, trivial, trivial⟩ ?_
        refine AtOps.done ?_
        refine At.advN [] [] 400 (ev := .ret) (σ' := mkS 114 [(0, .bool false)] []) (q := []) (by kernel_rfl) trivial ?_
        refine EvOk.ret ?_
        obtain rfl := someE h
        exact Den.Ends.mk (.inl rfl) (d := .bool false) (p := (True ∧ True) ∧ (tN 1)) (by kernel_rfl) ⟨⟨trivial, trivial⟩, tNi 1⟩ (by kernel_rfl)
    · replace h := iteF h1 h
      refine AtOps.run (iv 8 55) (iv 63 0) [(10, aF)] [(8, false), (9, false)] [0] [] (n := 114) (sl := [(0, .bool false)]) (bl := []) (q := [((v0.2.1 == 2) == true) = false, ((v0.2.1 == 2) == true) = false, True ∧ ((v0.2.1 == 2) = false), True, True, True, True, True, True, True, True, True, True, True, True, True, True, True, True, True, True, True, True, True, True, True, True, True, True, True]) (by kernel_rfl) (by kernel_rfl) ⟨gB h1 rfl, gB h1 rfl, ⟨trivial, h1⟩, trivial, trivial, trivial, trivial, trivial, trivial, trivial, trivial, trivial, trivial, trivial, trivial, trivial, trivial, trivial, trivial, trivial, trivial, trivial, trivial, trivial, trivial, trivial, trivial, trivial, trivial, trivial, trivial⟩ ?_
      refine AtOps.done ?_
      refine At.advN [] [] 400 (ev := .ret) (σ' := mkS 114 [(0, .bool false)] []) (q := []) (by kernel_rfl) trivial ?_
      refine EvOk.ret ?_
      obtain rfl := someE h
      exact Den.Ends.mk (.inl rfl) (d := .bool false) (p := (True ∧ True) ∧ (tN 1)) (by kernel_rfl) ⟨⟨trivial, trivial⟩, tNi 1⟩ (by kernel_rfl)
  · replace h := iteF h0 h
    refine AtOps.run (iv 4 59) (iv 63 0) [(6, aF)] [(4, false), (5, false)] [0] [] (n := 114) (sl := [(0, .bool false)]) (bl := []) (q := [(((v0.1.length : Int) == 2) == true) = false, (((v0.1.length : Int) == 2) == true) = false, True ∧ (((v0.1.length : Int) == 2) = false), True, True, True, True, True, True, True, True, True, True, True, True, True, True, True, True, True, True, True, True, True, True, True, True, True, True, True, True, True]) (by kernel_rfl) (by kernel_rfl) ⟨gB h0 rfl, gB h0 rfl, ⟨trivial, h0⟩, trivial, trivial, trivial, trivial, trivial, trivial, trivial, trivial, trivial, trivial, trivial, trivial, trivial, trivial, trivial, trivial, trivial, trivial, trivial, trivial, trivial, trivial, trivial, trivial, trivial, trivial, trivial, trivial, trivial, trivial⟩ ?_
    refine AtOps.done ?_
    refine At.advN [] [] 400 (ev := .ret) (σ' := mkS 114 [(0, .bool false)] []) (q := []) (by kernel_rfl) trivial ?_
    refine EvOk.ret ?_
    obtain rfl := someE h
    exact Den.Ends.mk (.inl rfl) (d := .bool false) (p := (True ∧ True) ∧ (tN 1)) (by kernel_rfl) ⟨⟨trivial, trivial⟩, tNi 1⟩ (by kernel_rfl)
theorem w10  {r : Bool} (h : m_armaturelaw05_awake = some r) : CallSpec Try.prog 10 [] (.bool r) :=
  CallSpec.at2 b10 (n := 114) (l := []) (by kernel_rfl) (by kernel_rfl) (by kernel_rfl) (by kernel_rfl) (by kernel_rfl) (Nat.le_of_ble_eq_true (by kernel_rfl)) (fun Γ => we10  r h Γ)

/-! ### armature armatureref05.member -/
noncomputable def b42 : Code := Try.f42.body.getD .skip
noncomputable def c42x0 : Code := sub1 b42
noncomputable def c42x1 : Code := sub0 c42x0
noncomputable def c42x2 : Code := sub1 c42x0
def m_armatureref05_member (x0 : Int) : Option (Bool) :=
  if (x0 == 9) = true then (some true) else
  (if (x0 == 10) = true then (some true) else
    (some (x0 == 11)))
theorem we42 (x0 : Int) (r : Bool) (h : m_armatureref05_member x0 = some r) (Γ : Ctx) : At Try.prog Γ b42 [] (Den.Ends Try.prog Try.f42 (.bool r)) (mkS 13 [(0, dI x0)] []) := by
  refine At.adv [1] [(0, { keep := some ([0], []) })] 400 (ev := .stop c42x1 [.seq c42x2]) (σ' := mkS 13 [(0, dI x0)] []) (q := []) (by kernel_rfl) trivial ?_
  refine EvOk.stop (At.ops (l := iv 0 11) (by kernel_rfl) (by kernel_rfl) ?_)
  refine AtOps.run (iv 0 3) (iv 3 8) [] [] [0, 5] [] (n := 13) (sl := [(0, dI x0), (5, .bool (x0 == 9))]) (bl := []) (q := []) (by kernel_rfl) (by kernel_rfl) trivial ?_
  rcases Bool.eq_false_or_eq_true (x0 == 9) with h0 | h0
  · replace h := iteT h0 h
    refine AtOps.run (iv 3 8) (iv 11 0) [(5, aT)] [(3, false), (4, false)] [2] [] (n := 13) (sl := [(2, .bool true)]) (bl := []) (q := [((x0 == 9) == false) = false, ((x0 == 9) == false) = false, True ∧ ((x0 == 9) = true), True, True]) (by kernel_rfl) (by kernel_rfl) ⟨gB h0 rfl, gB h0 rfl, ⟨trivial, h0⟩, trivial, trivial, trivial⟩ ?_
    refine AtOps.done ?_
    refine At.advN [] [] 400 (ev := .ret) (σ' := mkS 13 [(2, .bool true)] []) (q := []) (by kernel_rfl) trivial ?_
    refine EvOk.ret ?_
    obtain rfl := someE h
    exact Den.Ends.mk (.inl rfl) (d := .bool true) (p := (True ∧ True) ∧ (tN 1)) (by kernel_rfl) ⟨⟨trivial, trivial⟩, tNi 1⟩ (by kernel_rfl)
  · replace h := iteF h0 h
    refine AtOps.run (iv 3 4) (iv 7 4) [(5, aF)] [(3, true), (4, true)] [0, 9] [] (n := 13) (sl := [(0, dI x0), (9, .bool (x0 == 10))]) (bl := []) (q := [((x0 == 9) == false) = true ∧ True, ((x0 == 9) == false) = true ∧ True, True ∧ ((x0 == 9) = false)]) (by kernel_rfl) (by kernel_rfl) ⟨⟨(gB h0 rfl), trivial⟩, ⟨(gB h0 rfl), trivial⟩, ⟨trivial, h0⟩, trivial⟩ ?_
    rcases Bool.eq_false_or_eq_true (x0 == 10) with h1 | h1
    · replace h := iteT h1 h
      refine AtOps.run (iv 7 4) (iv 11 0) [(9, aT)] [(7, false), (8, false)] [2] [] (n := 13) (sl := [(2, .bool true)]) (bl := []) (q := [((x0 == 10) == false) = false, ((x0 == 10) == false) = false, True ∧ ((x0 == 10) = true)]) (by kernel_rfl) (by kernel_rfl) ⟨gB h1 rfl, gB h1 rfl, ⟨trivial, h1⟩, trivial⟩ ?_
      refine AtOps.done ?_
      refine At.advN [] [] 400 (ev := .ret) (σ' := mkS 13 [(2, .bool true)] []) (q := []) (by kernel_rfl) trivial ?_
      refine EvOk.ret ?_
      obtain rfl := someE h
      exact Den.Ends.mk (.inl rfl) (d := .bool true) (p := (True ∧ True) ∧ (tN 1)) (by kernel_rfl) ⟨⟨trivial, trivial⟩, tNi 1⟩ (by kernel_rfl)
    · replace h := iteF h1 h
      refine AtOps.run (iv 7 4) (iv 11 0) [(9, aF)] [(7, true), (8, true)] [2] [] (n := 13) (sl := [(2, .bool (x0 == 11))]) (bl := []) (q := [((x0 == 10) == false) = true ∧ True, ((x0 == 10) == false) = true ∧ True, True ∧ ((x0 == 10) = false)]) (by kernel_rfl) (by kernel_rfl) ⟨⟨(gB h1 rfl), trivial⟩, ⟨(gB h1 rfl), trivial⟩, ⟨trivial, h1⟩, trivial⟩ ?_
      refine AtOps.done ?_
      refine At.advN [] [] 400 (ev := .ret) (σ' := mkS 13 [(2, .bool (x0 == 11))] []) (q := []) (by kernel_rfl) trivial ?_
      refine EvOk.ret ?_
      obtain rfl := someE h
      exact Den.Ends.mk (.inl rfl) (d := .bool (x0 == 11)) (p := (True ∧ True) ∧ (tN 1)) (by kernel_rfl) ⟨⟨trivial, trivial⟩, tNi 1⟩ (by kernel_rfl)
theorem w42 {x0 : Int} {r : Bool} (h : m_armatureref05_member x0 = some r) : CallSpec Try.prog 42 [.int .i64 x0] (.bool r) :=
  CallSpec.at2 b42 (n := 13) (l := [(0, .int .i64 x0)]) (by kernel_rfl) (by kernel_rfl) (by kernel_rfl) (by kernel_rfl) (by kernel_rfl) (Nat.le_of_ble_eq_true (by kernel_rfl)) (fun Γ => we42 x0 r h Γ)

/-! ### armature armatureref05.Known -/
noncomputable def b50 : Code := Try.f50.body.getD .skip
noncomputable def c50x0 : Code := sub1 b50
noncomputable def c50x1 : Code := sub0 c50x0
noncomputable def c50x2 : Code := sub1 c50x0
def m_armatureref05_Known (x0 : Int) : Option (Bool) :=
  if (x0 == 1) = true then (some true) else
  (if (x0 == 3) = true then (some true) else
    (if (x0 == 5) = true then (some true) else
      (if (x0 == 7) = true then (some true) else
        (if (x0 == 8) = true then (some true) else
          (if (x0 == 12) = true then (some true) else
            ((m_armatureref05_member x0).bind fun v0 =>
              some v0))))))
theorem we50 (x0 : Int) (r : Bool) (h : m_armatureref05_Known x0 = some r) (Γ : Ctx) : At Try.prog Γ b50 [] (Den.Ends Try.prog Try.f50 (.bool r)) (mkS 29 [(0, dI x0)] []) := by
  refine At.adv [1] [(0, { keep := some ([0], []) })] 400 (ev := .stop c50x1 [.seq c50x2]) (σ' := mkS 29 [(0, dI x0)] []) (q := []) (by kernel_rfl) trivial ?_
  refine EvOk.stop (At.ops (l := iv 0 27) (by kernel_rfl) (by kernel_rfl) ?_)
  refine AtOps.run (iv 0 3) (iv 3 24) [] [] [0, 5] [] (n := 29) (sl := [(0, dI x0), (5, .bool (x0 == 1))]) (bl := []) (q := []) (by kernel_rfl) (by kernel_rfl) trivial ?_
  rcases Bool.eq_false_or_eq_true (x0 == 1) with h0 | h0
  · replace h := iteT h0 h
    refine AtOps.run (iv 3 24) (iv 27 0) [(5, aT)] [(3, false), (4, false)] [2] [] (n := 29) (sl := [(2, .bool true)]) (bl := []) (q := [((x0 == 1) == false) = false, ((x0 == 1) == false) = false, True ∧ ((x0 == 1) = true), True, True, True, True, True, True, True, True, True, True]) (by kernel_rfl) (by kernel_rfl) ⟨gB h0 rfl, gB h0 rfl, ⟨trivial, h0⟩, trivial, trivial, trivial, trivial, trivial, trivial, trivial, trivial, trivial, trivial, trivial⟩ ?_
    refine AtOps.done ?_
    refine At.advN [] [] 400 (ev := .ret) (σ' := mkS 29 [(2, .bool true)] []) (q := []) (by kernel_rfl) trivial ?_
    refine EvOk.ret ?_
    obtain rfl := someE h
    exact Den.Ends.mk (.inl rfl) (d := .bool true) (p := (True ∧ True) ∧ (tN 1)) (by kernel_rfl) ⟨⟨trivial, trivial⟩, tNi 1⟩ (by kernel_rfl)
  · replace h := iteF h0 h
    refine AtOps.run (iv 3 4) (iv 7 20) [(5, aF)] [(3, true), (4, true)] [0, 9] [] (n := 29) (sl := [(0, dI x0), (9, .bool (x0 == 3))]) (bl := []) (q := [((x0 == 1) == false) = true ∧ True, ((x0 == 1) == false) = true ∧ True, True ∧ ((x0 == 1) = false)]) (by kernel_rfl) (by kernel_rfl) ⟨⟨(gB h0 rfl), trivial⟩, ⟨(gB h0 rfl), trivial⟩, ⟨trivial, h0⟩, trivial⟩ ?_
    rcases Bool.eq_false_or_eq_true (x0 == 3) with h1 | h1
    · replace h := iteT h1 h
      refine AtOps.run (iv 7 20) (iv 27 0) [(9, aT)] [(7, false), (8, false)] [2] [] (n := 29) (sl := [(2, .bool true)]) (bl := []) (q := [((x0 == 3) == false) = false, ((x0 == 3) == false) = false, True ∧ ((x0 == 3) = true), True, True, True, True, True, True, True, True]) (by kernel_rfl) (by kernel_rfl) ⟨gB h1 rfl, gB h1 rfl, ⟨trivial, h1⟩, trivial, trivial, trivial, trivial, trivial, trivial, trivial, trivial, trivial⟩ ?_
      refine AtOps.done ?_
      refine At.advN [] [] 400 (ev := .ret) (σ' := mkS 29 [(2, .bool true)] []) (q := []) (by kernel_rfl) trivial ?_
      refine EvOk.ret ?_
      obtain rfl := someE h
      exact Den.Ends.mk (.inl rfl) (d := .bool true) (p := (True ∧ True) ∧ (tN 1)) (by kernel_rfl) ⟨⟨trivial, trivial⟩, tNi 1⟩ (by kernel_rfl)
    · replace h := iteF h1 h
      refine AtOps.run (iv 7 4) (iv 11 16) [(9, aF)] [(7, true), (8, true)] [0, 13] [] (n := 29) (sl := [(0, dI x0), (13, .bool (x0 == 5))]) (bl := []) (q := [((x0 == 3) == false) = true ∧ True, ((x0 == 3) == false) = true ∧ True, True ∧ ((x0 == 3) = false)]) (by kernel_rfl) (by kernel_rfl) ⟨⟨(gB h1 rfl), trivial⟩, ⟨(gB h1 rfl), trivial⟩, ⟨trivial, h1⟩, trivial⟩ ?_
      rcases Bool.eq_false_or_eq_true (x0 == 5) with h2 | h2
      · replace h := iteT h2 h
        refine AtOps.run (iv 11 16) (iv 27 0) [(13, aT)] [(11, false), (12, false)] [2] [] (n := 29) (sl := [(2, .bool true)]) (bl := []) (q := [((x0 == 5) == false) = false, ((x0 == 5) == false) = false, True ∧ ((x0 == 5) = true), True, True, True, True, True, True]) (by kernel_rfl) (by kernel_rfl) ⟨gB h2 rfl, gB h2 rfl, ⟨trivial, h2⟩, trivial, trivial, trivial, trivial, trivial, trivial, trivial⟩ ?_
        refine AtOps.done ?_
        refine At.advN [] [] 400 (ev := .ret) (σ' := mkS 29 [(2, .bool true)] []) (q := []) (by kernel_rfl) trivial ?_
        refine EvOk.ret ?_
        obtain rfl := someE h
        exact Den.Ends.mk (.inl rfl) (d := .bool true) (p := (True ∧ True) ∧ (tN 1)) (by kernel_rfl) ⟨⟨trivial, trivial⟩, tNi 1⟩ (by kernel_rfl)
      · replace h := iteF h2 h
        refine AtOps.run (iv 11 4) (iv 15 12) [(13, aF)] [(11, true), (12, true)] [0, 17] [] (n := 29) (sl := [(0, dI x0), (17, .bool (x0 == 7))]) (bl := []) (q := [((x0 == 5) == false) = true ∧ True, ((x0 == 5) == false) = true ∧ True, True ∧ ((x0 == 5) = false)]) (by kernel_rfl) (by kernel_rfl) ⟨⟨(gB h2 rfl), trivial⟩, ⟨(gB h2 rfl), trivial⟩, ⟨trivial, h2⟩, trivial⟩ ?_
        rcases Bool.eq_false_or_eq_true (x0 == 7) with h3 | h3
        · replace h := iteT h3 h
          refine AtOps.run (iv 15 12) (iv 27 0) [(17, aT)] [(15, false), (16, false)] [2] [] (n := 29) (sl := [(2, .bool true)]) (bl := []) (q := [((x0 == 7) == false) = false, ((x0 == 7) == false) = false, True ∧ ((x0 == 7) = true), True, True, True, True]) (by kernel_rfl) (by kernel_rfl) ⟨gB h3 rfl, gB h3 rfl, ⟨trivial, h3⟩, trivial, trivial, trivial, trivial, trivial⟩ ?_
          refine AtOps.done ?_
          refine At.advN [] [] 400 (ev := .ret) (σ' := mkS 29 [(2, .bool true)] []) (q := []) (by kernel_rfl) trivial ?_
          refine EvOk.ret ?_
          obtain rfl := someE h
          exact Den.Ends.mk (.inl rfl) (d := .bool true) (p := (True ∧ True) ∧ (tN 1)) (by kernel_rfl) ⟨⟨trivial, trivial⟩, tNi 1⟩ (by kernel_rfl)
        · replace h := iteF h3 h
          refine AtOps.run (iv 15 4) (iv 19 8) [(17, aF)] [(15, true), (16, true)] [0, 21] [] (n := 29) (sl := [(0, dI x0), (21, .bool (x0 == 8))]) (bl := []) (q := [((x0 == 7) == false) = true ∧ True, ((x0 == 7) == false) = true ∧ True, True ∧ ((x0 == 7) = false)]) (by kernel_rfl) (by kernel_rfl) ⟨⟨(gB h3 rfl), trivial⟩, ⟨(gB h3 rfl), trivial⟩, ⟨trivial, h3⟩, trivial⟩ ?_
          rcases Bool.eq_false_or_eq_true (x0 == 8) with h4 | h4
          · replace h := iteT h4 h
            refine AtOps.run (iv 19 8) (iv 27 0) [(21, aT)] [(19, false), (20, false)] [2] [] (n := 29) (sl := [(2, .bool true)]) (bl := []) (q := [((x0 == 8) == false) = false, ((x0 == 8) == false) = false, True ∧ ((x0 == 8) = true), True, True]) (by kernel_rfl) (by kernel_rfl) ⟨gB h4 rfl, gB h4 rfl, ⟨trivial, h4⟩, trivial, trivial, trivial⟩ ?_
            refine AtOps.done ?_
            refine At.advN [] [] 400 (ev := .ret) (σ' := mkS 29 [(2, .bool true)] []) (q := []) (by kernel_rfl) trivial ?_
            refine EvOk.ret ?_
            obtain rfl := someE h
            exact Den.Ends.mk (.inl rfl) (d := .bool true) (p := (True ∧ True) ∧ (tN 1)) (by kernel_rfl) ⟨⟨trivial, trivial⟩, tNi 1⟩ (by kernel_rfl)
          · replace h := iteF h4 h
            refine AtOps.run (iv 19 4) (iv 23 4) [(21, aF)] [(19, true), (20, true)] [0, 25] [] (n := 29) (sl := [(0, dI x0), (25, .bool (x0 == 12))]) (bl := []) (q := [((x0 == 8) == false) = true ∧ True, ((x0 == 8) == false) = true ∧ True, True ∧ ((x0 == 8) = false)]) (by kernel_rfl) (by kernel_rfl) ⟨⟨(gB h4 rfl), trivial⟩, ⟨(gB h4 rfl), trivial⟩, ⟨trivial, h4⟩, trivial⟩ ?_
            rcases Bool.eq_false_or_eq_true (x0 == 12) with h5 | h5
            · replace h := iteT h5 h
              refine AtOps.run (iv 23 4) (iv 27 0) [(25, aT)] [(23, false), (24, false)] [2] [] (n := 29) (sl := [(2, .bool true)]) (bl := []) (q := [((x0 == 12) == false) = false, ((x0 == 12) == false) = false, True ∧ ((x0 == 12) = true)]) (by kernel_rfl) (by kernel_rfl) ⟨gB h5 rfl, gB h5 rfl, ⟨trivial, h5⟩, trivial⟩ ?_
              refine AtOps.done ?_
              refine At.advN [] [] 400 (ev := .ret) (σ' := mkS 29 [(2, .bool true)] []) (q := []) (by kernel_rfl) trivial ?_
              refine EvOk.ret ?_
              obtain rfl := someE h
              exact Den.Ends.mk (.inl rfl) (d := .bool true) (p := (True ∧ True) ∧ (tN 1)) (by kernel_rfl) ⟨⟨trivial, trivial⟩, tNi 1⟩ (by kernel_rfl)
            · replace h := iteF h5 h
              obtain ⟨v0, e0, h⟩ := bindE h
              refine AtOps.run (iv 23 4) (iv 27 0) [(24, aB v0), (25, aF)] [(23, true), (24, true)] [2] [] (n := 29) (sl := [(2, .bool v0)]) (bl := []) (q := [((x0 == 12) == false) = true ∧ True, ((x0 == 12) == false) = true ∧ (cq Try.prog (tN 1) 42 [dI x0] (.bool v0)), True ∧ ((x0 == 12) = false)]) (by kernel_rfl) (by kernel_rfl) ⟨⟨(gB h5 rfl), trivial⟩, ⟨(gB h5 rfl), cqi (tNi 1) (w42 e0)⟩, ⟨trivial, h5⟩, trivial⟩ ?_
              refine AtOps.done ?_
              refine At.advN [] [] 400 (ev := .ret) (σ' := mkS 29 [(2, .bool v0)] []) (q := []) (by kernel_rfl) trivial ?_
              refine EvOk.ret ?_
              obtain rfl := someE h
              exact Den.Ends.mk (.inl rfl) (d := .bool v0) (p := (True ∧ True) ∧ (tN 1)) (by kernel_rfl) ⟨⟨trivial, trivial⟩, tNi 1⟩ (by kernel_rfl)
theorem w50 {x0 : Int} {r : Bool} (h : m_armatureref05_Known x0 = some r) : CallSpec Try.prog 50 [.int .i64 x0] (.bool r) :=
  CallSpec.at2 b50 (n := 29) (l := [(0, .int .i64 x0)]) (by kernel_rfl) (by kernel_rfl) (by kernel_rfl) (by kernel_rfl) (by kernel_rfl) (Nat.le_of_ble_eq_true (by kernel_rfl)) (fun Γ => we50 x0 r h Γ)

/-! ### armature armatureref05.formed -/
noncomputable def b51 : Code := Try.f51.body.getD .skip
noncomputable def c51x0 : Code := sub1 b51
noncomputable def c51x1 : Code := sub1 c51x0
noncomputable def c51x2 : Code := sub0 c51x1
noncomputable def c51x3 : Code := sub1 c51x2
noncomputable def c51x4 : Code := sub0 c51x3
noncomputable def c51x5 : Code := sub1 c51x3
noncomputable def c51x6 : Code := sub1 c51x1
noncomputable def c51x7 : Code := sub0 c51x6
noncomputable def c51x8 : Code := sub1 c51x6
noncomputable def c51x9 : Code := sub0 c51x2
noncomputable def c51x10 : Code := sub0 c51x8
noncomputable def c51x11 : Code := sub1 c51x8
noncomputable def c51x12 : Code := sub0 c51x11
noncomputable def c51x13 : Code := sub1 c51x11
def j51x2 (x0 : T_api_Const) (p0 : Bool) : Option (Bool) :=
  if p0 = true then (some true) else
  (if (x0.f_Tag == 7) = true then (some (x0.f_B == 0)) else
    (if (x0.f_Tag == 8) = true then (some (x0.f_B == 0)) else
      (if (x0.f_A == 0) = true then (some (x0.f_B == 0)) else
        (some false))))
def j51x1 (x0 : T_api_Const) : Option (Bool) :=
  if (x0.f_Tag == 12) = true then ((j51x2 x0) true) else
  ((m_armatureref05_member x0.f_Tag).bind fun v0 =>
  (j51x2 x0) v0)
def m_armatureref05_formed (x0 : T_api_Const) : Option (Bool) :=
  if (x0.f_Tag != 1) = true then (if (!(x0.f_S == ([] : List UInt8))) = true then (some false) else
    (if (x0.f_Tag != 3) = true then (if (x0.f_Tag != 5) = true then (if (x0.f_N != 0) = true then
            (some false) else
          ((j51x1 x0) )) else
        ((j51x1 x0) )) else
      ((j51x1 x0) ))) else
  (if (x0.f_Tag != 3) = true then (if (x0.f_Tag != 5) = true then (if (x0.f_N != 0) = true then
          (some false) else
        ((j51x1 x0) )) else
      ((j51x1 x0) )) else
    ((j51x1 x0) ))
theorem wj51x2 (x0 : T_api_Const) (p0 : Bool) (r : Bool) (h : (j51x2 x0) p0 = some r) (Γ : Ctx) : EvOk Try.prog Γ (Den.Ends Try.prog Try.f51 (.bool r)) (mkS 57 [(1, .ptr (row_T_api_Const x0)), (3, dI x0.f_Tag), (4, .bool p0)] []) (.stop c51x10 [.seq c51x11]) := by
  refine EvOk.stop (At.ops (l := iv 0 10) (by kernel_rfl) (by kernel_rfl) ?_)
  refine AtOps.run (iv 0 2) (iv 2 8) [] [] [1, 3, 4, 35] [] (n := 57) (sl := [(1, .ptr (row_T_api_Const x0)), (3, dI x0.f_Tag), (4, .bool p0), (35, .bool p0)]) (bl := []) (q := []) (by kernel_rfl) (by kernel_rfl) trivial ?_
  rcases Bool.eq_false_or_eq_true p0 with h9 | h9
  · replace h := iteT h9 h
    refine AtOps.run (iv 2 8) (iv 10 0) [(4, aT)] [(2, false), (3, false)] [1, 4, 5] [] (n := 57) (sl := [(1, .ptr (row_T_api_Const x0)), (4, .bool p0), (5, .bool true)]) (bl := []) (q := [(p0 == false) = false, (p0 == false) = false, True ∧ (p0 = true), True, True]) (by kernel_rfl) (by kernel_rfl) ⟨gB h9 rfl, gB h9 rfl, ⟨trivial, h9⟩, trivial, trivial, trivial⟩ ?_
    refine AtOps.done ?_
    refine At.advN [6] [] 400 (ev := .stop c51x12 [.seq c51x13]) (σ' := mkS 57 [(1, .ptr (row_T_api_Const x0)), (4, .bool p0), (5, .bool true)] []) (q := []) (by kernel_rfl) trivial ?_
    refine EvOk.stop (At.ops (l := iv 0 15) (by kernel_rfl) (by kernel_rfl) ?_)
    refine AtOps.run (iv 0 15) (iv 15 0) [(12, aT)] [(9, false), (10, false), (11, false)] [2] [] (n := 57) (sl := [(2, .bool true)]) (bl := []) (q := [True, True, True, True ∧ True, True ∧ True, (p0 == false) = false, (p0 == false) = false, (p0 == false) = false, True ∧ (p0 = true)]) (by kernel_rfl) (by kernel_rfl) ⟨trivial, trivial, trivial, ⟨trivial, trivial⟩, ⟨trivial, trivial⟩, gB h9 rfl, gB h9 rfl, gB h9 rfl, ⟨trivial, h9⟩, trivial⟩ ?_
    refine AtOps.done ?_
    refine At.advN [] [] 400 (ev := .ret) (σ' := mkS 57 [(2, .bool true)] []) (q := []) (by kernel_rfl) trivial ?_
    refine EvOk.ret ?_
    obtain rfl := someE h
    exact Den.Ends.mk (.inl rfl) (d := .bool true) (p := (True ∧ True) ∧ (tN 1)) (by kernel_rfl) ⟨⟨trivial, trivial⟩, tNi 1⟩ (by kernel_rfl)
  · replace h := iteF h9 h
    refine AtOps.run (iv 2 4) (iv 6 4) [(4, aF)] [(2, true), (3, true)] [1, 3, 4, 39] [] (n := 57) (sl := [(1, .ptr (row_T_api_Const x0)), (3, dI x0.f_Tag), (4, .bool p0), (39, .bool (x0.f_Tag == 7))]) (bl := []) (q := [(p0 == false) = true ∧ True, (p0 == false) = true ∧ True, True ∧ (p0 = false)]) (by kernel_rfl) (by kernel_rfl) ⟨⟨(gB h9 rfl), trivial⟩, ⟨(gB h9 rfl), trivial⟩, ⟨trivial, h9⟩, trivial⟩ ?_
    rcases Bool.eq_false_or_eq_true (x0.f_Tag == 7) with h10 | h10
    · replace h := iteT h10 h
      refine AtOps.run (iv 6 4) (iv 10 0) [(8, aT)] [(6, false), (7, false)] [1, 4, 5] [] (n := 57) (sl := [(1, .ptr (row_T_api_Const x0)), (4, .bool p0), (5, .bool true)]) (bl := []) (q := [((x0.f_Tag == 7) == false) = false, ((x0.f_Tag == 7) == false) = false, True ∧ ((x0.f_Tag == 7) = true)]) (by kernel_rfl) (by kernel_rfl) ⟨gB h10 rfl, gB h10 rfl, ⟨trivial, h10⟩, trivial⟩ ?_
      refine AtOps.done ?_
      refine At.advN [6] [] 400 (ev := .stop c51x12 [.seq c51x13]) (σ' := mkS 57 [(1, .ptr (row_T_api_Const x0)), (4, .bool p0), (5, .bool true)] []) (q := []) (by kernel_rfl) trivial ?_
      refine EvOk.stop (At.ops (l := iv 0 15) (by kernel_rfl) (by kernel_rfl) ?_)
      refine AtOps.run (iv 0 15) (iv 15 0) [(12, aF)] [(9, true), (10, true), (11, true)] [2] [] (n := 57) (sl := [(2, .bool (x0.f_B == 0))]) (bl := []) (q := [True, True, True, True ∧ True, True ∧ True, (p0 == false) = true ∧ True, (p0 == false) = true ∧ True, (p0 == false) = true ∧ True, True ∧ (p0 = false)]) (by kernel_rfl) (by kernel_rfl) ⟨trivial, trivial, trivial, ⟨trivial, trivial⟩, ⟨trivial, trivial⟩, ⟨(gB h9 rfl), trivial⟩, ⟨(gB h9 rfl), trivial⟩, ⟨(gB h9 rfl), trivial⟩, ⟨trivial, h9⟩, trivial⟩ ?_
      refine AtOps.done ?_
      refine At.advN [] [] 400 (ev := .ret) (σ' := mkS 57 [(2, .bool (x0.f_B == 0))] []) (q := []) (by kernel_rfl) trivial ?_
      refine EvOk.ret ?_
      obtain rfl := someE h
      exact Den.Ends.mk (.inl rfl) (d := .bool (x0.f_B == 0)) (p := (True ∧ True) ∧ (tN 1)) (by kernel_rfl) ⟨⟨trivial, trivial⟩, tNi 1⟩ (by kernel_rfl)
    · replace h := iteF h10 h
      refine AtOps.run (iv 6 4) (iv 10 0) [(8, aF)] [(6, true), (7, true)] [1, 4, 5] [] (n := 57) (sl := [(1, .ptr (row_T_api_Const x0)), (4, .bool p0), (5, .bool (x0.f_Tag == 8))]) (bl := []) (q := [((x0.f_Tag == 7) == false) = true ∧ True, ((x0.f_Tag == 7) == false) = true ∧ True, True ∧ ((x0.f_Tag == 7) = false)]) (by kernel_rfl) (by kernel_rfl) ⟨⟨(gB h10 rfl), trivial⟩, ⟨(gB h10 rfl), trivial⟩, ⟨trivial, h10⟩, trivial⟩ ?_
      refine AtOps.done ?_
      refine At.advN [6] [] 400 (ev := .stop c51x12 [.seq c51x13]) (σ' := mkS 57 [(1, .ptr (row_T_api_Const x0)), (4, .bool p0), (5, .bool (x0.f_Tag == 8))] []) (q := []) (by kernel_rfl) trivial ?_
      refine EvOk.stop (At.ops (l := iv 0 15) (by kernel_rfl) (by kernel_rfl) ?_)
      refine AtOps.run (iv 0 2) (iv 2 13) [] [] [1, 4, 44] [] (n := 57) (sl := [(1, .ptr (row_T_api_Const x0)), (4, .bool p0), (44, .bool (x0.f_Tag == 8))]) (bl := []) (q := []) (by kernel_rfl) (by kernel_rfl) trivial ?_
      rcases Bool.eq_false_or_eq_true (x0.f_Tag == 8) with h11 | h11
      · replace h := iteT h11 h
        refine AtOps.run (iv 2 13) (iv 15 0) [(5, aT), (12, aF)] [(2, false), (3, false), (4, false), (9, true), (10, true), (11, true)] [2] [] (n := 57) (sl := [(2, .bool (x0.f_B == 0))]) (bl := []) (q := [((x0.f_Tag == 8) == false) = false, ((x0.f_Tag == 8) == false) = false, ((x0.f_Tag == 8) == false) = false, True ∧ ((x0.f_Tag == 8) = true), True ∧ True, True ∧ True, (p0 == false) = true ∧ True, (p0 == false) = true ∧ True, (p0 == false) = true ∧ True, True ∧ (p0 = false)]) (by kernel_rfl) (by kernel_rfl) ⟨gB h11 rfl, gB h11 rfl, gB h11 rfl, ⟨trivial, h11⟩, ⟨trivial, trivial⟩, ⟨trivial, trivial⟩, ⟨(gB h9 rfl), trivial⟩, ⟨(gB h9 rfl), trivial⟩, ⟨(gB h9 rfl), trivial⟩, ⟨trivial, h9⟩, trivial⟩ ?_
        refine AtOps.done ?_
        refine At.advN [] [] 400 (ev := .ret) (σ' := mkS 57 [(2, .bool (x0.f_B == 0))] []) (q := []) (by kernel_rfl) trivial ?_
        refine EvOk.ret ?_
        obtain rfl := someE h
        exact Den.Ends.mk (.inl rfl) (d := .bool (x0.f_B == 0)) (p := (True ∧ True) ∧ (tN 1)) (by kernel_rfl) ⟨⟨trivial, trivial⟩, tNi 1⟩ (by kernel_rfl)
      · replace h := iteF h11 h
        refine AtOps.run (iv 2 5) (iv 7 8) [(5, aF)] [(2, true), (3, true), (4, true)] [1, 4, 49] [] (n := 57) (sl := [(1, .ptr (row_T_api_Const x0)), (4, .bool p0), (49, .bool (x0.f_A == 0))]) (bl := []) (q := [((x0.f_Tag == 8) == false) = true ∧ True, ((x0.f_Tag == 8) == false) = true ∧ True, ((x0.f_Tag == 8) == false) = true ∧ True, True ∧ ((x0.f_Tag == 8) = false)]) (by kernel_rfl) (by kernel_rfl) ⟨⟨(gB h11 rfl), trivial⟩, ⟨(gB h11 rfl), trivial⟩, ⟨(gB h11 rfl), trivial⟩, ⟨trivial, h11⟩, trivial⟩ ?_
        rcases Bool.eq_false_or_eq_true (x0.f_A == 0) with h12 | h12
        · replace h := iteT h12 h
          refine AtOps.run (iv 7 8) (iv 15 0) [(12, aF), (13, aT)] [(7, true), (8, true), (9, true), (10, true), (11, true), (12, true)] [2] [] (n := 57) (sl := [(2, .bool (x0.f_B == 0))]) (bl := []) (q := [((x0.f_A == 0) == true) = true ∧ True, ((x0.f_A == 0) == true) = true ∧ True, (p0 == false) = true ∧ True, (p0 == false) = true ∧ True, (p0 == false) = true ∧ True, ((x0.f_A == 0) == true) = true ∧ (p0 = false), True ∧ ((x0.f_A == 0) = true)]) (by kernel_rfl) (by kernel_rfl) ⟨⟨(gB h12 rfl), trivial⟩, ⟨(gB h12 rfl), trivial⟩, ⟨(gB h9 rfl), trivial⟩, ⟨(gB h9 rfl), trivial⟩, ⟨(gB h9 rfl), trivial⟩, ⟨(gB h12 rfl), h9⟩, ⟨trivial, h12⟩, trivial⟩ ?_
          refine AtOps.done ?_
          refine At.advN [] [] 400 (ev := .ret) (σ' := mkS 57 [(2, .bool (x0.f_B == 0))] []) (q := []) (by kernel_rfl) trivial ?_
          refine EvOk.ret ?_
          obtain rfl := someE h
          exact Den.Ends.mk (.inl rfl) (d := .bool (x0.f_B == 0)) (p := (True ∧ True) ∧ (tN 1)) (by kernel_rfl) ⟨⟨trivial, trivial⟩, tNi 1⟩ (by kernel_rfl)
        · replace h := iteF h12 h
          refine AtOps.run (iv 7 8) (iv 15 0) [(13, aF)] [(7, false), (8, false), (12, false)] [2] [] (n := 57) (sl := [(2, .bool false)]) (bl := []) (q := [((x0.f_A == 0) == true) = false, ((x0.f_A == 0) == true) = false, True, True, True, ((x0.f_A == 0) == true) = false, True ∧ ((x0.f_A == 0) = false)]) (by kernel_rfl) (by kernel_rfl) ⟨gB h12 rfl, gB h12 rfl, trivial, trivial, trivial, gB h12 rfl, ⟨trivial, h12⟩, trivial⟩ ?_
          refine AtOps.done ?_
          refine At.advN [] [] 400 (ev := .ret) (σ' := mkS 57 [(2, .bool false)] []) (q := []) (by kernel_rfl) trivial ?_
          refine EvOk.ret ?_
          obtain rfl := someE h
          exact Den.Ends.mk (.inl rfl) (d := .bool false) (p := (True ∧ True) ∧ (tN 1)) (by kernel_rfl) ⟨⟨trivial, trivial⟩, tNi 1⟩ (by kernel_rfl)
theorem wj51x1 (x0 : T_api_Const) (r : Bool) (h : (j51x1 x0)  = some r) (Γ : Ctx) : EvOk Try.prog Γ (Den.Ends Try.prog Try.f51 (.bool r)) (mkS 57 [(1, .ptr (row_T_api_Const x0)), (3, dI x0.f_Tag)] []) (.stop c51x7 [.seq c51x8]) := by
  refine EvOk.stop ?_
  rcases Bool.eq_false_or_eq_true (x0.f_Tag == 12) with h8 | h8
  · replace h := iteT h8 h
    refine At.adv [5] [(4, { told := [(1, aB true)], keep := some ([1, 3, 4], []) })] 400 (ev := .stop c51x10 [.seq c51x11]) (σ' := mkS 57 [(1, .ptr (row_T_api_Const x0)), (3, dI x0.f_Tag), (4, .bool true)] []) (q := [True ∧ ((x0.f_Tag == 12) = true), True, True]) (by kernel_rfl) ⟨⟨trivial, h8⟩, trivial, trivial, trivial⟩ ?_
    exact (wj51x2 x0) true r h Γ
  · replace h := iteF h8 h
    obtain ⟨v0, e0, h⟩ := bindE h
    refine At.adv [5] [(4, { told := [(1, aB false), (4, aB v0)], keep := some ([1, 3, 4], []) })] 400 (ev := .stop c51x10 [.seq c51x11]) (σ' := mkS 57 [(1, .ptr (row_T_api_Const x0)), (3, dI x0.f_Tag), (4, .bool v0)] []) (q := [True ∧ ((x0.f_Tag == 12) = false), True ∧ True, True ∧ (cq Try.prog (tN 1) 42 [dI x0.f_Tag] (.bool v0))]) (by kernel_rfl) ⟨⟨trivial, h8⟩, ⟨trivial, trivial⟩, ⟨trivial, cqi (tNi 1) (w42 e0)⟩, trivial⟩ ?_
    exact (wj51x2 x0) v0 r h Γ
theorem we51 (x0 : T_api_Const) (r : Bool) (h : m_armatureref05_formed x0 = some r) (Γ : Ctx) : At Try.prog Γ b51 [] (Den.Ends Try.prog Try.f51 (.bool r)) (mkS 57 [(0, .agg (row_T_api_Const x0))] []) := by
  refine At.adv [2] [(0, { told := [(0, { ro := true })], keep := some ([1], []) }), (1, { keep := some ([1, 3], []) })] 400 (ev := .stop c51x9 [.seq c51x3, .seq c51x6]) (σ' := mkS 57 [(1, .ptr (row_T_api_Const x0)), (3, dI x0.f_Tag)] []) (q := []) (by kernel_rfl) trivial ?_
  refine EvOk.stop (At.ops (l := iv 0 20) (by kernel_rfl) (by kernel_rfl) ?_)
  refine AtOps.run (iv 0 3) (iv 3 17) [] [] [1, 3, 10] [] (n := 57) (sl := [(1, .ptr (row_T_api_Const x0)), (3, dI x0.f_Tag), (10, .bool (x0.f_Tag != 1))]) (bl := []) (q := []) (by kernel_rfl) (by kernel_rfl) trivial ?_
  rcases Bool.eq_false_or_eq_true (x0.f_Tag != 1) with h0 | h0
  · replace h := iteT h0 h
    refine AtOps.run (iv 3 5) (iv 8 12) [(6, aT)] [(3, true), (4, true), (5, true)] [1, 3, 15] [] (n := 57) (sl := [(1, .ptr (row_T_api_Const x0)), (3, dI x0.f_Tag), (15, .bool (!(x0.f_S == ([] : List UInt8))))]) (bl := []) (q := [((x0.f_Tag != 1) == true) = true ∧ True, ((x0.f_Tag != 1) == true) = true ∧ True, ((x0.f_Tag != 1) == true) = true ∧ True, True ∧ ((x0.f_Tag != 1) = true)]) (by kernel_rfl) (by kernel_rfl) ⟨⟨(gB h0 rfl), trivial⟩, ⟨(gB h0 rfl), trivial⟩, ⟨(gB h0 rfl), trivial⟩, ⟨trivial, h0⟩, trivial⟩ ?_
    rcases Bool.eq_false_or_eq_true (!(x0.f_S == ([] : List UInt8))) with h1 | h1
    · replace h := iteT h1 h
      refine AtOps.run (iv 8 12) (iv 20 0) [(19, aT)] [(8, false), (9, false), (10, false), (13, false), (14, false), (18, false)] [1, 3, 27] [] (n := 57) (sl := [(1, .ptr (row_T_api_Const x0)), (3, dI x0.f_Tag), (27, .bool true)]) (bl := []) (q := [((!(x0.f_S == ([] : List UInt8))) == false) = false, ((!(x0.f_S == ([] : List UInt8))) == false) = false, ((!(x0.f_S == ([] : List UInt8))) == false) = false, True, True, ((!(x0.f_S == ([] : List UInt8))) == false) = false, ((!(x0.f_S == ([] : List UInt8))) == false) = false, True, True, True, ((!(x0.f_S == ([] : List UInt8))) == false) = false, True ∧ ((!(x0.f_S == ([] : List UInt8))) = true)]) (by kernel_rfl) (by kernel_rfl) ⟨gB h1 rfl, gB h1 rfl, gB h1 rfl, trivial, trivial, gB h1 rfl, gB h1 rfl, trivial, trivial, trivial, gB h1 rfl, ⟨trivial, h1⟩, trivial⟩ ?_
      refine AtOps.done ?_
      refine At.advN [] [] 400 (ev := .cond true c51x4 c51x5 [.seq c51x6]) (σ' := mkS 57 [(1, .ptr (row_T_api_Const x0)), (3, dI x0.f_Tag), (27, .bool true)] []) (q := []) (by kernel_rfl) trivial ?_
      refine EvOk.cond (fun _ => ?_) (fun hb => Bool.noConfusion hb)
      refine At.gc [] [] (n := 57) (l := []) (bl := []) (by kernel_rfl) ?_
      refine At.adv [] [(3, { keep := some ([2], []) })] 400 (ev := .ret) (σ' := mkS 57 [(2, .bool false)] []) (q := []) (by kernel_rfl) trivial ?_
      refine EvOk.ret ?_
      obtain rfl := someE h
      exact Den.Ends.mk (.inl rfl) (d := .bool false) (p := (True ∧ True) ∧ (tN 1)) (by kernel_rfl) ⟨⟨trivial, trivial⟩, tNi 1⟩ (by kernel_rfl)
    · replace h := iteF h1 h
      refine AtOps.run (iv 8 3) (iv 11 9) [] [(8, true), (9, true), (10, true)] [1, 3, 15, 18] [] (n := 57) (sl := [(1, .ptr (row_T_api_Const x0)), (3, dI x0.f_Tag), (15, .bool (!(x0.f_S == ([] : List UInt8)))), (18, .bool (x0.f_Tag != 3))]) (bl := []) (q := [((!(x0.f_S == ([] : List UInt8))) == false) = true ∧ True, ((!(x0.f_S == ([] : List UInt8))) == false) = true ∧ True, ((!(x0.f_S == ([] : List UInt8))) == false) = true ∧ True]) (by kernel_rfl) (by kernel_rfl) ⟨⟨(gB h1 rfl), trivial⟩, ⟨(gB h1 rfl), trivial⟩, ⟨(gB h1 rfl), trivial⟩, trivial⟩ ?_
      rcases Bool.eq_false_or_eq_true (x0.f_Tag != 3) with h2 | h2
      · replace h := iteT h2 h
        refine AtOps.run (iv 11 4) (iv 15 5) [(13, aT)] [(11, true), (12, true), (13, true), (14, true)] [1, 3, 15, 22] [] (n := 57) (sl := [(1, .ptr (row_T_api_Const x0)), (3, dI x0.f_Tag), (15, .bool (!(x0.f_S == ([] : List UInt8)))), (22, .bool (x0.f_Tag != 5))]) (bl := []) (q := [((x0.f_Tag != 3) == true) = true ∧ True, ((x0.f_Tag != 3) == true) = true ∧ True, ((!(x0.f_S == ([] : List UInt8))) == false) = true ∧ ((x0.f_Tag != 3) = true), ((!(x0.f_S == ([] : List UInt8))) == false) = true ∧ True]) (by kernel_rfl) (by kernel_rfl) ⟨⟨(gB h2 rfl), trivial⟩, ⟨(gB h2 rfl), trivial⟩, ⟨(gB h1 rfl), h2⟩, ⟨(gB h1 rfl), trivial⟩, trivial⟩ ?_
        rcases Bool.eq_false_or_eq_true (x0.f_Tag != 5) with h3 | h3
        · replace h := iteT h3 h
          refine AtOps.run (iv 15 5) (iv 20 0) [(18, aT), (19, aF)] [(15, true), (16, true), (17, true), (18, true)] [1, 3, 27] [] (n := 57) (sl := [(1, .ptr (row_T_api_Const x0)), (3, dI x0.f_Tag), (27, .bool (x0.f_N != 0))]) (bl := []) (q := [((x0.f_Tag != 5) == true) = true ∧ True, ((x0.f_Tag != 5) == true) = true ∧ True, ((x0.f_Tag != 5) == true) = true ∧ True, ((!(x0.f_S == ([] : List UInt8))) == false) = true ∧ ((x0.f_Tag != 5) = true), True ∧ ((!(x0.f_S == ([] : List UInt8))) = false)]) (by kernel_rfl) (by kernel_rfl) ⟨⟨(gB h3 rfl), trivial⟩, ⟨(gB h3 rfl), trivial⟩, ⟨(gB h3 rfl), trivial⟩, ⟨(gB h1 rfl), h3⟩, ⟨trivial, h1⟩, trivial⟩ ?_
          refine AtOps.done ?_
          refine At.advN [] [] 400 (ev := .cond (x0.f_N != 0) c51x4 c51x5 [.seq c51x6]) (σ' := mkS 57 [(1, .ptr (row_T_api_Const x0)), (3, dI x0.f_Tag), (27, .bool (x0.f_N != 0))] []) (q := []) (by kernel_rfl) trivial ?_
          refine EvOk.cond (fun h4 => ?_) (fun h4 => ?_)
          · replace h := iteT h4 h
            refine At.gc [] [] (n := 57) (l := []) (bl := []) (by kernel_rfl) ?_
            refine At.adv [] [(3, { keep := some ([2], []) })] 400 (ev := .ret) (σ' := mkS 57 [(2, .bool false)] []) (q := []) (by kernel_rfl) trivial ?_
            refine EvOk.ret ?_
            obtain rfl := someE h
            exact Den.Ends.mk (.inl rfl) (d := .bool false) (p := (True ∧ True) ∧ (tN 1)) (by kernel_rfl) ⟨⟨trivial, trivial⟩, tNi 1⟩ (by kernel_rfl)
          · replace h := iteF h4 h
            refine At.gc [1, 3] [] (n := 57) (l := [(1, .ptr (row_T_api_Const x0)), (3, dI x0.f_Tag)]) (bl := []) (by kernel_rfl) ?_
            refine At.adv [4] [] 400 (ev := .stop c51x7 [.seq c51x8]) (σ' := mkS 57 [(1, .ptr (row_T_api_Const x0)), (3, dI x0.f_Tag)] []) (q := []) (by kernel_rfl) trivial ?_
            exact (wj51x1 x0)  r h Γ
        · replace h := iteF h3 h
          refine AtOps.run (iv 15 5) (iv 20 0) [(18, aF), (19, aF)] [(15, false), (16, false), (17, false), (18, true)] [1, 3, 27] [] (n := 57) (sl := [(1, .ptr (row_T_api_Const x0)), (3, dI x0.f_Tag), (27, .bool false)]) (bl := []) (q := [((x0.f_Tag != 5) == true) = false, ((x0.f_Tag != 5) == true) = false, ((x0.f_Tag != 5) == true) = false, ((!(x0.f_S == ([] : List UInt8))) == false) = true ∧ ((x0.f_Tag != 5) = false), True ∧ ((!(x0.f_S == ([] : List UInt8))) = false)]) (by kernel_rfl) (by kernel_rfl) ⟨gB h3 rfl, gB h3 rfl, gB h3 rfl, ⟨(gB h1 rfl), h3⟩, ⟨trivial, h1⟩, trivial⟩ ?_
          refine AtOps.done ?_
          refine At.advN [] [] 400 (ev := .cond false c51x4 c51x5 [.seq c51x6]) (σ' := mkS 57 [(1, .ptr (row_T_api_Const x0)), (3, dI x0.f_Tag), (27, .bool false)] []) (q := []) (by kernel_rfl) trivial ?_
          refine EvOk.cond (fun hb => Bool.noConfusion hb) (fun _ => ?_)
          refine At.gc [1, 3] [] (n := 57) (l := [(1, .ptr (row_T_api_Const x0)), (3, dI x0.f_Tag)]) (bl := []) (by kernel_rfl) ?_
          refine At.adv [4] [] 400 (ev := .stop c51x7 [.seq c51x8]) (σ' := mkS 57 [(1, .ptr (row_T_api_Const x0)), (3, dI x0.f_Tag)] []) (q := []) (by kernel_rfl) trivial ?_
          exact (wj51x1 x0)  r h Γ
      · replace h := iteF h2 h
        refine AtOps.run (iv 11 9) (iv 20 0) [(13, aF), (19, aF)] [(11, false), (12, false), (13, true), (14, true), (18, true)] [1, 3, 27] [] (n := 57) (sl := [(1, .ptr (row_T_api_Const x0)), (3, dI x0.f_Tag), (27, .bool false)]) (bl := []) (q := [((x0.f_Tag != 3) == true) = false, ((x0.f_Tag != 3) == true) = false, ((!(x0.f_S == ([] : List UInt8))) == false) = true ∧ ((x0.f_Tag != 3) = false), ((!(x0.f_S == ([] : List UInt8))) == false) = true ∧ True, True, True, True, ((!(x0.f_S == ([] : List UInt8))) == false) = true ∧ True, True ∧ ((!(x0.f_S == ([] : List UInt8))) = false)]) (by kernel_rfl) (by kernel_rfl) ⟨gB h2 rfl, gB h2 rfl, ⟨(gB h1 rfl), h2⟩, ⟨(gB h1 rfl), trivial⟩, trivial, trivial, trivial, ⟨(gB h1 rfl), trivial⟩, ⟨trivial, h1⟩, trivial⟩ ?_
        refine AtOps.done ?_
        refine At.advN [] [] 400 (ev := .cond false c51x4 c51x5 [.seq c51x6]) (σ' := mkS 57 [(1, .ptr (row_T_api_Const x0)), (3, dI x0.f_Tag), (27, .bool false)] []) (q := []) (by kernel_rfl) trivial ?_
        refine EvOk.cond (fun hb => Bool.noConfusion hb) (fun _ => ?_)
        refine At.gc [1, 3] [] (n := 57) (l := [(1, .ptr (row_T_api_Const x0)), (3, dI x0.f_Tag)]) (bl := []) (by kernel_rfl) ?_
        refine At.adv [4] [] 400 (ev := .stop c51x7 [.seq c51x8]) (σ' := mkS 57 [(1, .ptr (row_T_api_Const x0)), (3, dI x0.f_Tag)] []) (q := []) (by kernel_rfl) trivial ?_
        exact (wj51x1 x0)  r h Γ
  · replace h := iteF h0 h
    refine AtOps.run (iv 3 8) (iv 11 9) [(6, aF)] [(3, false), (4, false), (5, false)] [1, 3, 15, 18] [] (n := 57) (sl := [(1, .ptr (row_T_api_Const x0)), (3, dI x0.f_Tag), (15, .bool false), (18, .bool (x0.f_Tag != 3))]) (bl := []) (q := [((x0.f_Tag != 1) == true) = false, ((x0.f_Tag != 1) == true) = false, ((x0.f_Tag != 1) == true) = false, True ∧ ((x0.f_Tag != 1) = false), True ∧ True, True ∧ True, True ∧ True]) (by kernel_rfl) (by kernel_rfl) ⟨gB h0 rfl, gB h0 rfl, gB h0 rfl, ⟨trivial, h0⟩, ⟨trivial, trivial⟩, ⟨trivial, trivial⟩, ⟨trivial, trivial⟩, trivial⟩ ?_
    rcases Bool.eq_false_or_eq_true (x0.f_Tag != 3) with h5 | h5
    · replace h := iteT h5 h
      refine AtOps.run (iv 11 4) (iv 15 5) [(13, aT)] [(11, true), (12, true)] [1, 3, 15, 22] [] (n := 57) (sl := [(1, .ptr (row_T_api_Const x0)), (3, dI x0.f_Tag), (15, .bool false), (22, .bool (x0.f_Tag != 5))]) (bl := []) (q := [((x0.f_Tag != 3) == true) = true ∧ True, ((x0.f_Tag != 3) == true) = true ∧ True, True ∧ ((x0.f_Tag != 3) = true), True ∧ True]) (by kernel_rfl) (by kernel_rfl) ⟨⟨(gB h5 rfl), trivial⟩, ⟨(gB h5 rfl), trivial⟩, ⟨trivial, h5⟩, ⟨trivial, trivial⟩, trivial⟩ ?_
      rcases Bool.eq_false_or_eq_true (x0.f_Tag != 5) with h6 | h6
      · replace h := iteT h6 h
        refine AtOps.run (iv 15 5) (iv 20 0) [(18, aT)] [(15, true), (16, true), (17, true)] [1, 3, 27] [] (n := 57) (sl := [(1, .ptr (row_T_api_Const x0)), (3, dI x0.f_Tag), (27, .bool (x0.f_N != 0))]) (bl := []) (q := [((x0.f_Tag != 5) == true) = true ∧ True, ((x0.f_Tag != 5) == true) = true ∧ True, ((x0.f_Tag != 5) == true) = true ∧ True, True ∧ ((x0.f_Tag != 5) = true)]) (by kernel_rfl) (by kernel_rfl) ⟨⟨(gB h6 rfl), trivial⟩, ⟨(gB h6 rfl), trivial⟩, ⟨(gB h6 rfl), trivial⟩, ⟨trivial, h6⟩, trivial⟩ ?_
        refine AtOps.done ?_
        refine At.advN [] [] 400 (ev := .cond (x0.f_N != 0) c51x4 c51x5 [.seq c51x6]) (σ' := mkS 57 [(1, .ptr (row_T_api_Const x0)), (3, dI x0.f_Tag), (27, .bool (x0.f_N != 0))] []) (q := []) (by kernel_rfl) trivial ?_
        refine EvOk.cond (fun h7 => ?_) (fun h7 => ?_)
        · replace h := iteT h7 h
          refine At.gc [] [] (n := 57) (l := []) (bl := []) (by kernel_rfl) ?_
          refine At.adv [] [(3, { keep := some ([2], []) })] 400 (ev := .ret) (σ' := mkS 57 [(2, .bool false)] []) (q := []) (by kernel_rfl) trivial ?_
          refine EvOk.ret ?_
          obtain rfl := someE h
          exact Den.Ends.mk (.inl rfl) (d := .bool false) (p := (True ∧ True) ∧ (tN 1)) (by kernel_rfl) ⟨⟨trivial, trivial⟩, tNi 1⟩ (by kernel_rfl)
        · replace h := iteF h7 h
          refine At.gc [1, 3] [] (n := 57) (l := [(1, .ptr (row_T_api_Const x0)), (3, dI x0.f_Tag)]) (bl := []) (by kernel_rfl) ?_
          refine At.adv [4] [] 400 (ev := .stop c51x7 [.seq c51x8]) (σ' := mkS 57 [(1, .ptr (row_T_api_Const x0)), (3, dI x0.f_Tag)] []) (q := []) (by kernel_rfl) trivial ?_
          exact (wj51x1 x0)  r h Γ
      · replace h := iteF h6 h
        refine AtOps.run (iv 15 5) (iv 20 0) [(18, aF)] [(15, false), (16, false), (17, false)] [1, 3, 27] [] (n := 57) (sl := [(1, .ptr (row_T_api_Const x0)), (3, dI x0.f_Tag), (27, .bool false)]) (bl := []) (q := [((x0.f_Tag != 5) == true) = false, ((x0.f_Tag != 5) == true) = false, ((x0.f_Tag != 5) == true) = false, True ∧ ((x0.f_Tag != 5) = false)]) (by kernel_rfl) (by kernel_rfl) ⟨gB h6 rfl, gB h6 rfl, gB h6 rfl, ⟨trivial, h6⟩, trivial⟩ ?_
        refine AtOps.done ?_
        refine At.advN [] [] 400 (ev := .cond false c51x4 c51x5 [.seq c51x6]) (σ' := mkS 57 [(1, .ptr (row_T_api_Const x0)), (3, dI x0.f_Tag), (27, .bool false)] []) (q := []) (by kernel_rfl) trivial ?_
        refine EvOk.cond (fun hb => Bool.noConfusion hb) (fun _ => ?_)
        refine At.gc [1, 3] [] (n := 57) (l := [(1, .ptr (row_T_api_Const x0)), (3, dI x0.f_Tag)]) (bl := []) (by kernel_rfl) ?_
        refine At.adv [4] [] 400 (ev := .stop c51x7 [.seq c51x8]) (σ' := mkS 57 [(1, .ptr (row_T_api_Const x0)), (3, dI x0.f_Tag)] []) (q := []) (by kernel_rfl) trivial ?_
        exact (wj51x1 x0)  r h Γ
    · replace h := iteF h5 h
      refine AtOps.run (iv 11 9) (iv 20 0) [(13, aF)] [(11, false), (12, false)] [1, 3, 27] [] (n := 57) (sl := [(1, .ptr (row_T_api_Const x0)), (3, dI x0.f_Tag), (27, .bool false)]) (bl := []) (q := [((x0.f_Tag != 3) == true) = false, ((x0.f_Tag != 3) == true) = false, True ∧ ((x0.f_Tag != 3) = false), True ∧ True, True, True, True, True ∧ True]) (by kernel_rfl) (by kernel_rfl) ⟨gB h5 rfl, gB h5 rfl, ⟨trivial, h5⟩, ⟨trivial, trivial⟩, trivial, trivial, trivial, ⟨trivial, trivial⟩, trivial⟩ ?_
      refine AtOps.done ?_
      refine At.advN [] [] 400 (ev := .cond false c51x4 c51x5 [.seq c51x6]) (σ' := mkS 57 [(1, .ptr (row_T_api_Const x0)), (3, dI x0.f_Tag), (27, .bool false)] []) (q := []) (by kernel_rfl) trivial ?_
      refine EvOk.cond (fun hb => Bool.noConfusion hb) (fun _ => ?_)
      refine At.gc [1, 3] [] (n := 57) (l := [(1, .ptr (row_T_api_Const x0)), (3, dI x0.f_Tag)]) (bl := []) (by kernel_rfl) ?_
      refine At.adv [4] [] 400 (ev := .stop c51x7 [.seq c51x8]) (σ' := mkS 57 [(1, .ptr (row_T_api_Const x0)), (3, dI x0.f_Tag)] []) (q := []) (by kernel_rfl) trivial ?_
      exact (wj51x1 x0)  r h Γ
theorem w51 {x0 : T_api_Const} {r : Bool} (h : m_armatureref05_formed x0 = some r) : CallSpec Try.prog 51 [.agg (row_T_api_Const x0)] (.bool r) :=
  CallSpec.at2 b51 (n := 57) (l := [(0, .agg (row_T_api_Const x0))]) (by kernel_rfl) (by kernel_rfl) (by kernel_rfl) (by kernel_rfl) (by kernel_rfl) (Nat.le_of_ble_eq_true (by kernel_rfl)) (fun Γ => we51 x0 r h Γ)

/-! ### armature armatureref05.At -/
noncomputable def b13 : Code := Try.f13.body.getD .skip
noncomputable def c13x0 : Code := sub1 b13
noncomputable def c13x1 : Code := sub0 c13x0
noncomputable def c13x2 : Code := sub1 c13x1
noncomputable def c13x3 : Code := sub0 c13x2
noncomputable def c13x4 : Code := sub1 c13x2
noncomputable def c13x5 : Code := sub1 c13x0
def m_armatureref05_At (x0 : List T_api_Const) (x1 : Int) : Option (T_api_Const × Int) :=
  if (decide (x1 < 1)) = true then (some (({ f_Tag := 0, f_S := [], f_N := 0, f_A := 0, f_B := 0 } : T_api_Const), 2)) else
  (if (decide (x1 > (x0.length : Int))) = true then
    (some (({ f_Tag := 0, f_S := [], f_N := 0, f_A := 0, f_B := 0 } : T_api_Const), 2)) else
  ((some (IntKind.wrap .i64 (x1 - (1 : Int)))).bind fun v0 =>
    (getR x0 v0).bind fun v1 =>
    some (v1, 0)))
theorem we13 (x0 : List T_api_Const) (x1 : Int) (r : T_api_Const × Int) (h : m_armatureref05_At x0 x1 = some r) (Γ : Ctx) : At Try.prog Γ b13 [] (Den.Ends Try.prog Try.f13 (.tup [.agg (row_T_api_Const r.1), dI r.2])) (mkS 20 [(0, .sl false (x0.map row_T_api_Const)), (1, dI x1)] []) := by
  rcases Bool.eq_false_or_eq_true (decide (x1 < 1)) with h0 | h0
  · replace h := iteT h0 h
    refine At.adv [] [(0, { keep := some ([0, 1, 4], [(4, 4)]) }), (1, { told := [(1, aB true)], keep := some ([0, 1, 4, 13], [(4, 4)]) })] 400 (ev := .cond true c13x3 c13x4 [.seq c13x5]) (σ' := mkS 20 [(0, .sl false (x0.map row_T_api_Const)), (1, dI x1), (4, .lptr 4 0 0), (13, .bool true)] [(4, { sz := 5, rows := [[dI 0, .str [], dI 0, dI 0, dI 0]], frz := 0, pure := false })]) (q := [True ∧ ((decide (x1 < 1)) = true), True, True, True, True]) (by kernel_rfl) ⟨⟨trivial, h0⟩, trivial, trivial, trivial, trivial, trivial⟩ ?_
    refine EvOk.cond (fun _ => ?_) (fun hb => Bool.noConfusion hb)
    refine At.gc [4] [(4, 4)] (n := 20) (l := [(4, .lptr 4 0 0)]) (bl := [(4, { sz := 5, rows := [[dI 0, .str [], dI 0, dI 0, dI 0]], frz := 0, pure := false })]) (by kernel_rfl) ?_
    refine At.adv [] [(2, { keep := some ([4, 5], [(4, 4)]) })] 400 (ev := .ret) (σ' := mkS 20 [(4, .lptr 4 0 0), (5, dI 2)] [(4, { sz := 5, rows := [[dI 0, .str [], dI 0, dI 0, dI 0]], frz := 0, pure := false })]) (q := [True ∧ (0 ≤ 0 ∧ 0 + ([dI 0, .str [], dI 0, dI 0, dI 0] : List D).length ≤ ([dI 0, .str [], dI 0, dI 0, dI 0] : List D).length ∧ ([[dI 0, .str [], dI 0, dI 0, dI 0]] : List (List D)) = ([[dI 0, .str [], dI 0, dI 0, dI 0]] : List (List D)))]) (by kernel_rfl) ⟨⟨trivial, ⟨Nat.zero_le _, Nat.le_of_ble_eq_true rfl, rfl⟩⟩, trivial⟩ ?_
    refine EvOk.ret ?_
    obtain rfl := someE h
    exact Den.Ends.mk (.inl rfl) (d := .tup [.agg [dI 0, .str [], dI 0, dI 0, dI 0], dI 2]) (p := (True ∧ (True ∧ True)) ∧ ((tN 5) ∧ (True ∧ True))) (by kernel_rfl) ⟨⟨trivial, ⟨trivial, trivial⟩⟩, ⟨tNi 5, ⟨trivial, trivial⟩⟩⟩ (by kernel_rfl)
  · replace h := iteF h0 h
    refine At.adv [] [(0, { keep := some ([0, 1, 4], [(4, 4)]) }), (1, { told := [(1, aB false), (5, { ans := .val (dI (x0.length : Int)) })], keep := some ([0, 1, 4, 13], [(4, 4)]) })] 400 (ev := .cond (decide (x1 > (x0.length : Int))) c13x3 c13x4 [.seq c13x5]) (σ' := mkS 20 [(0, .sl false (x0.map row_T_api_Const)), (1, dI x1), (4, .lptr 4 0 0), (13, .bool (decide (x1 > (x0.length : Int))))] [(4, { sz := 5, rows := [[dI 0, .str [], dI 0, dI 0, dI 0]], frz := 0, pure := false })]) (q := [True ∧ ((decide (x1 < 1)) = false), True ∧ True, True ∧ True, True ∧ (((x0.map row_T_api_Const).length : Int) = (x0.length : Int)), True ∧ True]) (by kernel_rfl) ⟨⟨trivial, h0⟩, ⟨trivial, trivial⟩, ⟨trivial, trivial⟩, ⟨trivial, lenM _ _⟩, ⟨trivial, trivial⟩, trivial⟩ ?_
    refine EvOk.cond (fun h1 => ?_) (fun h1 => ?_)
    · replace h := iteT h1 h
      refine At.gc [4] [(4, 4)] (n := 20) (l := [(4, .lptr 4 0 0)]) (bl := [(4, { sz := 5, rows := [[dI 0, .str [], dI 0, dI 0, dI 0]], frz := 0, pure := false })]) (by kernel_rfl) ?_
      refine At.adv [] [(2, { keep := some ([4, 5], [(4, 4)]) })] 400 (ev := .ret) (σ' := mkS 20 [(4, .lptr 4 0 0), (5, dI 2)] [(4, { sz := 5, rows := [[dI 0, .str [], dI 0, dI 0, dI 0]], frz := 0, pure := false })]) (q := [True ∧ (0 ≤ 0 ∧ 0 + ([dI 0, .str [], dI 0, dI 0, dI 0] : List D).length ≤ ([dI 0, .str [], dI 0, dI 0, dI 0] : List D).length ∧ ([[dI 0, .str [], dI 0, dI 0, dI 0]] : List (List D)) = ([[dI 0, .str [], dI 0, dI 0, dI 0]] : List (List D)))]) (by kernel_rfl) ⟨⟨trivial, ⟨Nat.zero_le _, Nat.le_of_ble_eq_true rfl, rfl⟩⟩, trivial⟩ ?_
      refine EvOk.ret ?_
      obtain rfl := someE h
      exact Den.Ends.mk (.inl rfl) (d := .tup [.agg [dI 0, .str [], dI 0, dI 0, dI 0], dI 2]) (p := (True ∧ (True ∧ True)) ∧ ((tN 5) ∧ (True ∧ True))) (by kernel_rfl) ⟨⟨trivial, ⟨trivial, trivial⟩⟩, ⟨tNi 5, ⟨trivial, trivial⟩⟩⟩ (by kernel_rfl)
    · replace h := iteF h1 h
      refine At.gc [0, 1, 4] [(4, 4)] (n := 20) (l := [(0, .sl false (x0.map row_T_api_Const)), (1, dI x1), (4, .lptr 4 0 0)]) (bl := [(4, { sz := 5, rows := [[dI 0, .str [], dI 0, dI 0, dI 0]], frz := 0, pure := false })]) (by kernel_rfl) ?_
      obtain ⟨v0, e0, h⟩ := bindE h
      obtain ⟨v1, e1, h⟩ := bindE h
      refine At.adv [] [(3, { told := [(2, aI v0), (3, { ans := .row (row_T_api_Const v1) })], keep := some ([4, 5], [(4, 4)]) })] 400 (ev := .ret) (σ' := mkS 20 [(4, .lptr 4 0 0), (5, dI 0)] [(4, { sz := 5, rows := [row_T_api_Const v1], frz := 0, pure := false })]) (q := [True ∧ (IntKind.wrap .i64 (x1 - (1 : Int)) = v0), True ∧ (getR (x0.map row_T_api_Const) v0 = some (row_T_api_Const v1)), True ∧ (0 ≤ 0 ∧ 0 + ([dI v1.f_Tag, .str v1.f_S, dI v1.f_N, dI v1.f_A, dI v1.f_B] : List D).length ≤ ([dI 0, .str [], dI 0, dI 0, dI 0] : List D).length ∧ ([[dI v1.f_Tag, .str v1.f_S, dI v1.f_N, dI v1.f_A, dI v1.f_B]] : List (List D)) = ([[dI v1.f_Tag, .str v1.f_S, dI v1.f_N, dI v1.f_A, dI v1.f_B]] : List (List D)))]) (by kernel_rfl) ⟨⟨trivial, someE e0⟩, ⟨trivial, getR_map row_T_api_Const e1⟩, ⟨trivial, ⟨Nat.zero_le _, Nat.le_of_ble_eq_true rfl, rfl⟩⟩, trivial⟩ ?_
      refine EvOk.ret ?_
      obtain rfl := someE h
      exact Den.Ends.mk (.inl rfl) (d := .tup [.agg [dI v1.f_Tag, .str v1.f_S, dI v1.f_N, dI v1.f_A, dI v1.f_B], dI 0]) (p := (True ∧ (True ∧ True)) ∧ ((tN 5) ∧ (True ∧ True))) (by kernel_rfl) ⟨⟨trivial, ⟨trivial, trivial⟩⟩, ⟨tNi 5, ⟨trivial, trivial⟩⟩⟩ (by kernel_rfl)
theorem w13 {x0 : List T_api_Const} {x1 : Int} {r : T_api_Const × Int} (h : m_armatureref05_At x0 x1 = some r) : CallSpec Try.prog 13 [.sl false (x0.map row_T_api_Const), .int .i64 x1] (.tup [.agg (row_T_api_Const r.1), .int .i64 r.2]) :=
  CallSpec.at2 b13 (n := 20) (l := [(0, .sl false (x0.map row_T_api_Const)), (1, .int .i64 x1)]) (by kernel_rfl) (by kernel_rfl) (by kernel_rfl) (by kernel_rfl) (by kernel_rfl) (Nat.le_of_ble_eq_true (by kernel_rfl)) (fun Γ => we13 x0 x1 r h Γ)

/-! ### armature armatureref05.get -/
noncomputable def b39 : Code := Try.f39.body.getD .skip
noncomputable def c39x0 : Code := sub1 b39
noncomputable def c39x1 : Code := sub1 c39x0
noncomputable def c39x2 : Code := sub1 c39x1
noncomputable def c39x3 : Code := sub0 c39x2
noncomputable def c39x4 : Code := sub1 c39x3
noncomputable def c39x5 : Code := sub0 c39x4
noncomputable def c39x6 : Code := sub1 c39x4
noncomputable def c39x7 : Code := sub1 c39x2
noncomputable def c39x8 : Code := sub0 c39x1
noncomputable def c39x9 : Code := sub1 c39x8
noncomputable def c39x10 : Code := sub0 c39x9
noncomputable def c39x11 : Code := sub1 c39x9
def m_armatureref05_get (x0 : List T_api_Const) (x1 : Int) (x2 : Int) : Option (T_api_Const × Int) :=
  (m_armatureref05_At x0 x1).bind fun v0 =>
  if (v0.2 != 0) = true then
    (some (({ f_Tag := 0, f_S := [], f_N := 0, f_A := 0, f_B := 0 } : T_api_Const), v0.2)) else
  (if (v0.1.f_Tag != x2) = true then
      (some (({ f_Tag := 0, f_S := [], f_N := 0, f_A := 0, f_B := 0 } : T_api_Const), 11)) else
    (some (v0.1, 0)))
theorem we39 (x0 : List T_api_Const) (x1 : Int) (x2 : Int) (r : T_api_Const × Int) (h : m_armatureref05_get x0 x1 x2 = some r) (Γ : Ctx) : At Try.prog Γ b39 [] (Den.Ends Try.prog Try.f39 (.tup [.agg (row_T_api_Const r.1), dI r.2])) (mkS 26 [(0, .sl false (x0.map row_T_api_Const)), (1, dI x1), (2, dI x2)] []) := by
  obtain ⟨v0, e0, h⟩ := bindE h
  refine At.adv [] [(0, { keep := some ([0, 1, 2, 6], [(6, 6)]) }), (1, { told := [(2, { ans := .val (.tup [.agg (row_T_api_Const v0.1), dI v0.2]) })], keep := some ([2, 6, 8, 9], [(6, 6), (8, 8)]) }), (2, { keep := some ([2, 6, 8, 9, 17], [(6, 6), (8, 8)]) })] 400 (ev := .cond (v0.2 != 0) c39x10 c39x11 [.seq c39x2]) (σ' := mkS 26 [(2, dI x2), (6, .lptr 6 0 0), (8, .lptr 8 0 0), (9, dI v0.2), (17, .bool (v0.2 != 0))] [(6, { sz := 5, rows := [[dI 0, .str [], dI 0, dI 0, dI 0]], frz := 0, pure := false }), (8, { sz := 5, rows := [row_T_api_Const v0.1], frz := 0, pure := false })]) (q := [True ∧ (cq Try.prog (tN 2) 13 [.sl false (x0.map row_T_api_Const), dI x1] (.tup [.agg (row_T_api_Const v0.1), dI v0.2])), True ∧ (0 ≤ 0 ∧ 0 + ([dI v0.1.f_Tag, .str v0.1.f_S, dI v0.1.f_N, dI v0.1.f_A, dI v0.1.f_B] : List D).length ≤ ([dI 0, .str [], dI 0, dI 0, dI 0] : List D).length ∧ ([[dI v0.1.f_Tag, .str v0.1.f_S, dI v0.1.f_N, dI v0.1.f_A, dI v0.1.f_B]] : List (List D)) = ([[dI v0.1.f_Tag, .str v0.1.f_S, dI v0.1.f_N, dI v0.1.f_A, dI v0.1.f_B]] : List (List D)))]) (by kernel_rfl) ⟨⟨trivial, cqi (tNi 2) (w13 e0)⟩, ⟨trivial, ⟨Nat.zero_le _, Nat.le_of_ble_eq_true rfl, rfl⟩⟩, trivial⟩ ?_
  refine EvOk.cond (fun h0 => ?_) (fun h0 => ?_)
  · replace h := iteT h0 h
    refine At.gc [6, 9] [(6, 6)] (n := 26) (l := [(6, .lptr 6 0 0), (9, dI v0.2)]) (bl := [(6, { sz := 5, rows := [[dI 0, .str [], dI 0, dI 0, dI 0]], frz := 0, pure := false })]) (by kernel_rfl) ?_
    refine At.adv [] [(3, { keep := some ([6, 7], [(6, 6)]) })] 400 (ev := .ret) (σ' := mkS 26 [(6, .lptr 6 0 0), (7, dI v0.2)] [(6, { sz := 5, rows := [[dI 0, .str [], dI 0, dI 0, dI 0]], frz := 0, pure := false })]) (q := [True ∧ (0 ≤ 0 ∧ 0 + ([dI 0, .str [], dI 0, dI 0, dI 0] : List D).length ≤ ([dI 0, .str [], dI 0, dI 0, dI 0] : List D).length ∧ ([[dI 0, .str [], dI 0, dI 0, dI 0]] : List (List D)) = ([[dI 0, .str [], dI 0, dI 0, dI 0]] : List (List D)))]) (by kernel_rfl) ⟨⟨trivial, ⟨Nat.zero_le _, Nat.le_of_ble_eq_true rfl, rfl⟩⟩, trivial⟩ ?_
    refine EvOk.ret ?_
    obtain rfl := someE h
    exact Den.Ends.mk (.inl rfl) (d := .tup [.agg [dI 0, .str [], dI 0, dI 0, dI 0], dI v0.2]) (p := (True ∧ (True ∧ True)) ∧ ((tN 5) ∧ (True ∧ True))) (by kernel_rfl) ⟨⟨trivial, ⟨trivial, trivial⟩⟩, ⟨tNi 5, ⟨trivial, trivial⟩⟩⟩ (by kernel_rfl)
  · replace h := iteF h0 h
    refine At.gc [2, 6, 8] [(6, 6), (8, 8)] (n := 26) (l := [(2, dI x2), (6, .lptr 6 0 0), (8, .lptr 8 0 0)]) (bl := [(6, { sz := 5, rows := [[dI 0, .str [], dI 0, dI 0, dI 0]], frz := 0, pure := false }), (8, { sz := 5, rows := [row_T_api_Const v0.1], frz := 0, pure := false })]) (by kernel_rfl) ?_
    refine At.adv [] [(4, { keep := some ([6, 8, 23], [(6, 6), (8, 8)]) })] 400 (ev := .cond (v0.1.f_Tag != x2) c39x5 c39x6 [.seq c39x7]) (σ' := mkS 26 [(6, .lptr 6 0 0), (8, .lptr 8 0 0), (23, .bool (v0.1.f_Tag != x2))] [(6, { sz := 5, rows := [[dI 0, .str [], dI 0, dI 0, dI 0]], frz := 0, pure := false }), (8, { sz := 5, rows := [row_T_api_Const v0.1], frz := 0, pure := false })]) (q := []) (by kernel_rfl) trivial ?_
    refine EvOk.cond (fun h1 => ?_) (fun h1 => ?_)
    · replace h := iteT h1 h
      refine At.gc [6] [(6, 6)] (n := 26) (l := [(6, .lptr 6 0 0)]) (bl := [(6, { sz := 5, rows := [[dI 0, .str [], dI 0, dI 0, dI 0]], frz := 0, pure := false })]) (by kernel_rfl) ?_
      refine At.adv [] [(5, { keep := some ([6, 7], [(6, 6)]) })] 400 (ev := .ret) (σ' := mkS 26 [(6, .lptr 6 0 0), (7, dI 11)] [(6, { sz := 5, rows := [[dI 0, .str [], dI 0, dI 0, dI 0]], frz := 0, pure := false })]) (q := [True ∧ (0 ≤ 0 ∧ 0 + ([dI 0, .str [], dI 0, dI 0, dI 0] : List D).length ≤ ([dI 0, .str [], dI 0, dI 0, dI 0] : List D).length ∧ ([[dI 0, .str [], dI 0, dI 0, dI 0]] : List (List D)) = ([[dI 0, .str [], dI 0, dI 0, dI 0]] : List (List D)))]) (by kernel_rfl) ⟨⟨trivial, ⟨Nat.zero_le _, Nat.le_of_ble_eq_true rfl, rfl⟩⟩, trivial⟩ ?_
      refine EvOk.ret ?_
      obtain rfl := someE h
      exact Den.Ends.mk (.inl rfl) (d := .tup [.agg [dI 0, .str [], dI 0, dI 0, dI 0], dI 11]) (p := (True ∧ (True ∧ True)) ∧ ((tN 5) ∧ (True ∧ True))) (by kernel_rfl) ⟨⟨trivial, ⟨trivial, trivial⟩⟩, ⟨tNi 5, ⟨trivial, trivial⟩⟩⟩ (by kernel_rfl)
    · replace h := iteF h1 h
      refine At.gc [6, 8] [(6, 6), (8, 8)] (n := 26) (l := [(6, .lptr 6 0 0), (8, .lptr 8 0 0)]) (bl := [(6, { sz := 5, rows := [[dI 0, .str [], dI 0, dI 0, dI 0]], frz := 0, pure := false }), (8, { sz := 5, rows := [row_T_api_Const v0.1], frz := 0, pure := false })]) (by kernel_rfl) ?_
      refine At.adv [] [(6, { keep := some ([6, 7], [(6, 6)]) })] 400 (ev := .ret) (σ' := mkS 26 [(6, .lptr 6 0 0), (7, dI 0)] [(6, { sz := 5, rows := [row_T_api_Const v0.1], frz := 0, pure := false })]) (q := [True ∧ (0 ≤ 0 ∧ 0 + ([dI v0.1.f_Tag, .str v0.1.f_S, dI v0.1.f_N, dI v0.1.f_A, dI v0.1.f_B] : List D).length ≤ ([dI 0, .str [], dI 0, dI 0, dI 0] : List D).length ∧ ([[dI v0.1.f_Tag, .str v0.1.f_S, dI v0.1.f_N, dI v0.1.f_A, dI v0.1.f_B]] : List (List D)) = ([[dI v0.1.f_Tag, .str v0.1.f_S, dI v0.1.f_N, dI v0.1.f_A, dI v0.1.f_B]] : List (List D)))]) (by kernel_rfl) ⟨⟨trivial, ⟨Nat.zero_le _, Nat.le_of_ble_eq_true rfl, rfl⟩⟩, trivial⟩ ?_
      refine EvOk.ret ?_
      obtain rfl := someE h
      exact Den.Ends.mk (.inl rfl) (d := .tup [.agg [dI v0.1.f_Tag, .str v0.1.f_S, dI v0.1.f_N, dI v0.1.f_A, dI v0.1.f_B], dI 0]) (p := (True ∧ (True ∧ True)) ∧ ((tN 5) ∧ (True ∧ True))) (by kernel_rfl) ⟨⟨trivial, ⟨trivial, trivial⟩⟩, ⟨tNi 5, ⟨trivial, trivial⟩⟩⟩ (by kernel_rfl)
theorem w39 {x0 : List T_api_Const} {x1 : Int} {x2 : Int} {r : T_api_Const × Int} (h : m_armatureref05_get x0 x1 x2 = some r) : CallSpec Try.prog 39 [.sl false (x0.map row_T_api_Const), .int .i64 x1, .int .i64 x2] (.tup [.agg (row_T_api_Const r.1), .int .i64 r.2]) :=
  CallSpec.at2 b39 (n := 26) (l := [(0, .sl false (x0.map row_T_api_Const)), (1, .int .i64 x1), (2, .int .i64 x2)]) (by kernel_rfl) (by kernel_rfl) (by kernel_rfl) (by kernel_rfl) (by kernel_rfl) (Nat.le_of_ble_eq_true (by kernel_rfl)) (fun Γ => we39 x0 x1 x2 r h Γ)

/-! ### armature armatureref05.refers -/
noncomputable def b59 : Code := Try.f59.body.getD .skip
def m_armatureref05_refers (x0 : List T_api_Const) (x1 : Int) (x2 : Int) : Option (Int) :=
  (m_armatureref05_get x0 x1 x2).bind fun v0 =>
  some v0.2
theorem we59 (x0 : List T_api_Const) (x1 : Int) (x2 : Int) (r : Int) (h : m_armatureref05_refers x0 x1 x2 = some r) (Γ : Ctx) : At Try.prog Γ b59 [] (Den.Ends Try.prog Try.f59 (dI r)) (mkS 17 [(0, .sl false (x0.map row_T_api_Const)), (1, dI x1), (2, dI x2)] []) := by
  obtain ⟨v0, e0, h⟩ := bindE h
  refine At.adv [] [(0, { keep := some ([0, 1, 2], []) }), (1, { told := [(3, { ans := .val (.tup [.agg (row_T_api_Const v0.1), dI v0.2]) })], keep := some ([8], []) }), (2, { keep := some ([6], []) })] 400 (ev := .ret) (σ' := mkS 17 [(6, dI v0.2)] []) (q := [True ∧ (cq Try.prog (tN 3) 39 [.sl false (x0.map row_T_api_Const), dI x1, dI x2] (.tup [.agg (row_T_api_Const v0.1), dI v0.2])), True ∧ (0 ≤ 0 ∧ 0 + ([dI v0.1.f_Tag, .str v0.1.f_S, dI v0.1.f_N, dI v0.1.f_A, dI v0.1.f_B] : List D).length ≤ ([dI 0, .str [], dI 0, dI 0, dI 0] : List D).length ∧ ([[dI v0.1.f_Tag, .str v0.1.f_S, dI v0.1.f_N, dI v0.1.f_A, dI v0.1.f_B]] : List (List D)) = ([[dI v0.1.f_Tag, .str v0.1.f_S, dI v0.1.f_N, dI v0.1.f_A, dI v0.1.f_B]] : List (List D)))]) (by kernel_rfl) ⟨⟨trivial, cqi (tNi 3) (w39 e0)⟩, ⟨trivial, ⟨Nat.zero_le _, Nat.le_of_ble_eq_true rfl, rfl⟩⟩, trivial⟩ ?_
  refine EvOk.ret ?_
  obtain rfl := someE h
  exact Den.Ends.mk (.inl rfl) (d := dI v0.2) (p := (True ∧ True) ∧ (tN 1)) (by kernel_rfl) ⟨⟨trivial, trivial⟩, tNi 1⟩ (by kernel_rfl)
theorem w59 {x0 : List T_api_Const} {x1 : Int} {x2 : Int} {r : Int} (h : m_armatureref05_refers x0 x1 x2 = some r) : CallSpec Try.prog 59 [.sl false (x0.map row_T_api_Const), .int .i64 x1, .int .i64 x2] (.int .i64 r) :=
  CallSpec.at2 b59 (n := 17) (l := [(0, .sl false (x0.map row_T_api_Const)), (1, .int .i64 x1), (2, .int .i64 x2)]) (by kernel_rfl) (by kernel_rfl) (by kernel_rfl) (by kernel_rfl) (by kernel_rfl) (Nat.le_of_ble_eq_true (by kernel_rfl)) (fun Γ => we59 x0 x1 x2 r h Γ)

/-! ### armature armatureref05.both -/
noncomputable def b52 : Code := Try.f52.body.getD .skip
noncomputable def c52x0 : Code := sub1 b52
noncomputable def c52x1 : Code := sub1 c52x0
noncomputable def c52x2 : Code := sub1 c52x1
noncomputable def c52x3 : Code := sub0 c52x2
noncomputable def c52x4 : Code := sub0 c52x3
noncomputable def c52x5 : Code := sub1 c52x3
noncomputable def c52x6 : Code := sub1 c52x2
noncomputable def c52x7 : Code := sub0 c52x1
noncomputable def c52x8 : Code := sub1 c52x7
noncomputable def c52x9 : Code := sub0 c52x8
noncomputable def c52x10 : Code := sub1 c52x8
noncomputable def c52x11 : Code := sub0 c52x6
noncomputable def c52x12 : Code := sub1 c52x11
noncomputable def c52x13 : Code := sub0 c52x12
noncomputable def c52x14 : Code := sub1 c52x12
noncomputable def c52x15 : Code := sub1 c52x6
noncomputable def c52x16 : Code := sub0 c52x15
noncomputable def c52x17 : Code := sub1 c52x15
noncomputable def c52x18 : Code := sub1 c52x5
noncomputable def c52x19 : Code := sub0 c52x18
noncomputable def c52x20 : Code := sub1 c52x18
def j52x2 (p1 : Int) (x0 : List T_api_Const) (x1 : T_api_Const) : Option (Int) :=
  (m_armatureref05_refers x0 x1.f_B p1).bind fun v2 =>
  some v2
def j52x1 (x0 : List T_api_Const) (x1 : T_api_Const) (p0 : Int) (p1 : Int) : Option (Int) :=
  (m_armatureref05_refers x0 x1.f_A p0).bind fun v1 =>
  if (v1 != 0) = true then
    (some v1) else
  (if (x1.f_Tag == 7) = true then (some 0) else
    (if (x1.f_Tag == 8) = true then
      (some 0) else
    ((j52x2 p1 x0 x1) )))
def m_armatureref05_both (x0 : List T_api_Const) (x1 : T_api_Const) : Option (Int) :=
  (m_armatureref05_member x1.f_Tag).bind fun v0 =>
  if v0 = true then
    ((j52x1 x0 x1) 7 12) else
  ((j52x1 x0 x1) 1 1)
theorem wj52x2 (p1 : Int) (x0 : List T_api_Const) (x1 : T_api_Const) (r : Int) (h : (j52x2 p1 x0 x1)  = some r) (Γ : Ctx) : EvOk Try.prog Γ (Den.Ends Try.prog Try.f52 (dI r)) (mkS 32 [(0, .sl false (x0.map row_T_api_Const)), (3, .ptr (row_T_api_Const x1)), (6, dI p1)] []) (.stop c52x16 [.seq c52x17]) := by
  refine EvOk.stop ?_
  obtain ⟨v2, e2, h⟩ := bindE h
  refine At.adv [] [(9, { told := [(4, aI v2)], keep := some ([4], []) })] 400 (ev := .ret) (σ' := mkS 32 [(4, dI v2)] []) (q := [True ∧ (cq Try.prog (tN 3) 59 [.sl false (x0.map row_T_api_Const), dI x1.f_B, dI p1] (dI v2))]) (by kernel_rfl) ⟨⟨trivial, cqi (tNi 3) (w59 e2)⟩, trivial⟩ ?_
  refine EvOk.ret ?_
  obtain rfl := someE h
  exact Den.Ends.mk (.inl rfl) (d := dI v2) (p := (True ∧ True) ∧ (tN 1)) (by kernel_rfl) ⟨⟨trivial, trivial⟩, tNi 1⟩ (by kernel_rfl)
theorem wj52x1 (x0 : List T_api_Const) (x1 : T_api_Const) (p0 : Int) (p1 : Int) (r : Int) (h : (j52x1 x0 x1) p0 p1 = some r) (Γ : Ctx) : EvOk Try.prog Γ (Den.Ends Try.prog Try.f52 (dI r)) (mkS 32 [(0, .sl false (x0.map row_T_api_Const)), (3, .ptr (row_T_api_Const x1)), (5, dI p0), (6, dI p1)] []) (.stop c52x4 [.seq c52x5, .seq c52x6]) := by
  refine EvOk.stop ?_
  obtain ⟨v1, e1, h⟩ := bindE h
  refine At.adv [] [(4, { told := [(4, aI v1)], keep := some ([0, 3, 6, 7], []) }), (5, { keep := some ([0, 3, 6, 7, 17], []) })] 400 (ev := .cond (v1 != 0) c52x19 c52x20 [.seq c52x6]) (σ' := mkS 32 [(0, .sl false (x0.map row_T_api_Const)), (3, .ptr (row_T_api_Const x1)), (6, dI p1), (7, dI v1), (17, .bool (v1 != 0))] []) (q := [True ∧ (cq Try.prog (tN 3) 59 [.sl false (x0.map row_T_api_Const), dI x1.f_A, dI p0] (dI v1))]) (by kernel_rfl) ⟨⟨trivial, cqi (tNi 3) (w59 e1)⟩, trivial⟩ ?_
  refine EvOk.cond (fun h1 => ?_) (fun h1 => ?_)
  · replace h := iteT h1 h
    refine At.gc [7] [] (n := 32) (l := [(7, dI v1)]) (bl := []) (by kernel_rfl) ?_
    refine At.adv [] [(6, { keep := some ([4], []) })] 400 (ev := .ret) (σ' := mkS 32 [(4, dI v1)] []) (q := []) (by kernel_rfl) trivial ?_
    refine EvOk.ret ?_
    obtain rfl := someE h
    exact Den.Ends.mk (.inl rfl) (d := dI v1) (p := (True ∧ True) ∧ (tN 1)) (by kernel_rfl) ⟨⟨trivial, trivial⟩, tNi 1⟩ (by kernel_rfl)
  · replace h := iteF h1 h
    refine At.gc [0, 3, 6] [] (n := 32) (l := [(0, .sl false (x0.map row_T_api_Const)), (3, .ptr (row_T_api_Const x1)), (6, dI p1)]) (bl := []) (by kernel_rfl) ?_
    rcases Bool.eq_false_or_eq_true (x1.f_Tag == 7) with h2 | h2
    · replace h := iteT h2 h
      refine At.adv [] [(7, { told := [(2, aB true)], keep := some ([0, 3, 6, 26], []) })] 400 (ev := .cond true c52x13 c52x14 [.seq c52x15]) (σ' := mkS 32 [(0, .sl false (x0.map row_T_api_Const)), (3, .ptr (row_T_api_Const x1)), (6, dI p1), (26, .bool true)] []) (q := [True ∧ ((x1.f_Tag == 7) = true), True, True, True]) (by kernel_rfl) ⟨⟨trivial, h2⟩, trivial, trivial, trivial, trivial⟩ ?_
      refine EvOk.cond (fun _ => ?_) (fun hb => Bool.noConfusion hb)
      refine At.gc [] [] (n := 32) (l := []) (bl := []) (by kernel_rfl) ?_
      refine At.adv [] [(8, { keep := some ([4], []) })] 400 (ev := .ret) (σ' := mkS 32 [(4, dI 0)] []) (q := []) (by kernel_rfl) trivial ?_
      refine EvOk.ret ?_
      obtain rfl := someE h
      exact Den.Ends.mk (.inl rfl) (d := dI 0) (p := (True ∧ True) ∧ (tN 1)) (by kernel_rfl) ⟨⟨trivial, trivial⟩, tNi 1⟩ (by kernel_rfl)
    · replace h := iteF h2 h
      refine At.adv [] [(7, { told := [(2, aB false)], keep := some ([0, 3, 6, 26], []) })] 400 (ev := .cond (x1.f_Tag == 8) c52x13 c52x14 [.seq c52x15]) (σ' := mkS 32 [(0, .sl false (x0.map row_T_api_Const)), (3, .ptr (row_T_api_Const x1)), (6, dI p1), (26, .bool (x1.f_Tag == 8))] []) (q := [True ∧ ((x1.f_Tag == 7) = false), True ∧ True, True ∧ True, True ∧ True]) (by kernel_rfl) ⟨⟨trivial, h2⟩, ⟨trivial, trivial⟩, ⟨trivial, trivial⟩, ⟨trivial, trivial⟩, trivial⟩ ?_
      refine EvOk.cond (fun h3 => ?_) (fun h3 => ?_)
      · replace h := iteT h3 h
        refine At.gc [] [] (n := 32) (l := []) (bl := []) (by kernel_rfl) ?_
        refine At.adv [] [(8, { keep := some ([4], []) })] 400 (ev := .ret) (σ' := mkS 32 [(4, dI 0)] []) (q := []) (by kernel_rfl) trivial ?_
        refine EvOk.ret ?_
        obtain rfl := someE h
        exact Den.Ends.mk (.inl rfl) (d := dI 0) (p := (True ∧ True) ∧ (tN 1)) (by kernel_rfl) ⟨⟨trivial, trivial⟩, tNi 1⟩ (by kernel_rfl)
      · replace h := iteF h3 h
        refine At.gc [0, 3, 6] [] (n := 32) (l := [(0, .sl false (x0.map row_T_api_Const)), (3, .ptr (row_T_api_Const x1)), (6, dI p1)]) (bl := []) (by kernel_rfl) ?_
        refine At.adv [9] [] 400 (ev := .stop c52x16 [.seq c52x17]) (σ' := mkS 32 [(0, .sl false (x0.map row_T_api_Const)), (3, .ptr (row_T_api_Const x1)), (6, dI p1)] []) (q := []) (by kernel_rfl) trivial ?_
        exact (wj52x2 p1 x0 x1)  r h Γ
theorem we52 (x0 : List T_api_Const) (x1 : T_api_Const) (r : Int) (h : m_armatureref05_both x0 x1 = some r) (Γ : Ctx) : At Try.prog Γ b52 [] (Den.Ends Try.prog Try.f52 (dI r)) (mkS 32 [(0, .sl false (x0.map row_T_api_Const)), (1, .agg (row_T_api_Const x1))] []) := by
  obtain ⟨v0, e0, h⟩ := bindE h
  refine At.adv [] [(0, { told := [(0, { ro := true })], keep := some ([0, 3], []) }), (1, { keep := some ([0, 3, 5, 6], []) }), (2, { told := [(2, aB v0)], keep := some ([0, 3, 5, 6, 10], []) })] 400 (ev := .cond v0 c52x9 c52x10 [.seq c52x2]) (σ' := mkS 32 [(0, .sl false (x0.map row_T_api_Const)), (3, .ptr (row_T_api_Const x1)), (5, dI 1), (6, dI 1), (10, .bool v0)] []) (q := [True ∧ (cq Try.prog (tN 1) 42 [dI x1.f_Tag] (.bool v0))]) (by kernel_rfl) ⟨⟨trivial, cqi (tNi 1) (w42 e0)⟩, trivial⟩ ?_
  refine EvOk.cond (fun h0 => ?_) (fun h0 => ?_)
  · replace h := iteT h0 h
    refine At.gc [0, 3] [] (n := 32) (l := [(0, .sl false (x0.map row_T_api_Const)), (3, .ptr (row_T_api_Const x1))]) (bl := []) (by kernel_rfl) ?_
    refine At.adv [4] [(3, { keep := some ([0, 3, 5, 6], []) })] 400 (ev := .stop c52x4 [.seq c52x5, .seq c52x6]) (σ' := mkS 32 [(0, .sl false (x0.map row_T_api_Const)), (3, .ptr (row_T_api_Const x1)), (5, dI 7), (6, dI 12)] []) (q := []) (by kernel_rfl) trivial ?_
    exact (wj52x1 x0 x1) 7 12 r h Γ
  · replace h := iteF h0 h
    refine At.gc [0, 3, 5, 6] [] (n := 32) (l := [(0, .sl false (x0.map row_T_api_Const)), (3, .ptr (row_T_api_Const x1)), (5, dI 1), (6, dI 1)]) (bl := []) (by kernel_rfl) ?_
    refine At.adv [4] [] 400 (ev := .stop c52x4 [.seq c52x5, .seq c52x6]) (σ' := mkS 32 [(0, .sl false (x0.map row_T_api_Const)), (3, .ptr (row_T_api_Const x1)), (5, dI 1), (6, dI 1)] []) (q := []) (by kernel_rfl) trivial ?_
    exact (wj52x1 x0 x1) 1 1 r h Γ
theorem w52 {x0 : List T_api_Const} {x1 : T_api_Const} {r : Int} (h : m_armatureref05_both x0 x1 = some r) : CallSpec Try.prog 52 [.sl false (x0.map row_T_api_Const), .agg (row_T_api_Const x1)] (.int .i64 r) :=
  CallSpec.at2 b52 (n := 32) (l := [(0, .sl false (x0.map row_T_api_Const)), (1, .agg (row_T_api_Const x1))]) (by kernel_rfl) (by kernel_rfl) (by kernel_rfl) (by kernel_rfl) (by kernel_rfl) (Nat.le_of_ble_eq_true (by kernel_rfl)) (fun Γ => we52 x0 x1 r h Γ)

/-! ### armature armatureref05.UTF8 -/
noncomputable def b15 : Code := Try.f15.body.getD .skip
def m_armatureref05_UTF8 (x0 : List T_api_Const) (x1 : Int) : Option ((List UInt8) × Int) :=
  (m_armatureref05_get x0 x1 1).bind fun v0 =>
  some (v0.1.f_S, v0.2)
theorem we15 (x0 : List T_api_Const) (x1 : Int) (r : (List UInt8) × Int) (h : m_armatureref05_UTF8 x0 x1 = some r) (Γ : Ctx) : At Try.prog Γ b15 [] (Den.Ends Try.prog Try.f15 (.tup [.str r.1, dI r.2])) (mkS 17 [(0, .sl false (x0.map row_T_api_Const)), (1, dI x1)] []) := by
  obtain ⟨v0, e0, h⟩ := bindE h
  refine At.adv [] [(0, { keep := some ([0, 1], []) }), (1, { told := [(2, { ans := .val (.tup [.agg (row_T_api_Const v0.1), dI v0.2]) })], keep := some ([6, 7], [(6, 6)]) }), (2, { keep := some ([4, 5], []) })] 400 (ev := .ret) (σ' := mkS 17 [(4, .str v0.1.f_S), (5, dI v0.2)] []) (q := [True ∧ (cq Try.prog (tN 3) 39 [.sl false (x0.map row_T_api_Const), dI x1, dI 1] (.tup [.agg (row_T_api_Const v0.1), dI v0.2])), True ∧ (0 ≤ 0 ∧ 0 + ([dI v0.1.f_Tag, .str v0.1.f_S, dI v0.1.f_N, dI v0.1.f_A, dI v0.1.f_B] : List D).length ≤ ([dI 0, .str [], dI 0, dI 0, dI 0] : List D).length ∧ ([[dI v0.1.f_Tag, .str v0.1.f_S, dI v0.1.f_N, dI v0.1.f_A, dI v0.1.f_B]] : List (List D)) = ([[dI v0.1.f_Tag, .str v0.1.f_S, dI v0.1.f_N, dI v0.1.f_A, dI v0.1.f_B]] : List (List D)))]) (by kernel_rfl) ⟨⟨trivial, cqi (tNi 3) (w39 e0)⟩, ⟨trivial, ⟨Nat.zero_le _, Nat.le_of_ble_eq_true rfl, rfl⟩⟩, trivial⟩ ?_
  refine EvOk.ret ?_
  obtain rfl := someE h
  exact Den.Ends.mk (.inl rfl) (d := .tup [.str v0.1.f_S, dI v0.2]) (p := (True ∧ (True ∧ True)) ∧ (tN 2)) (by kernel_rfl) ⟨⟨trivial, ⟨trivial, trivial⟩⟩, tNi 2⟩ (by kernel_rfl)
theorem w15 {x0 : List T_api_Const} {x1 : Int} {r : (List UInt8) × Int} (h : m_armatureref05_UTF8 x0 x1 = some r) : CallSpec Try.prog 15 [.sl false (x0.map row_T_api_Const), .int .i64 x1] (.tup [.str r.1, .int .i64 r.2]) :=
  CallSpec.at2 b15 (n := 17) (l := [(0, .sl false (x0.map row_T_api_Const)), (1, .int .i64 x1)]) (by kernel_rfl) (by kernel_rfl) (by kernel_rfl) (by kernel_rfl) (by kernel_rfl) (Nat.le_of_ble_eq_true (by kernel_rfl)) (fun Γ => we15 x0 x1 r h Γ)

/-! ### armature armatureref03.letter -/
noncomputable def b77 : Code := Try.f77.body.getD .skip
noncomputable def c77x0 : Code := sub1 b77
noncomputable def c77x1 : Code := sub0 c77x0
noncomputable def c77x2 : Code := sub1 c77x0
def m_armatureref03_letter (x0 : Int) : Option (Bool) :=
  if (decide (x0 ≥ 97)) = true then (if (decide (x0 ≤ 122)) = true then (some true) else
    (if (decide (x0 ≥ 65)) = true then (if (decide (x0 ≤ 90)) = true then (some true) else
        (if (x0 == 95) = true then (some true) else
          (some (x0 == 36)))) else
      (if (x0 == 95) = true then (some true) else
        (some (x0 == 36))))) else
  (if (decide (x0 ≥ 65)) = true then (if (decide (x0 ≤ 90)) = true then (some true) else
      (if (x0 == 95) = true then (some true) else
        (some (x0 == 36)))) else
    (if (x0 == 95) = true then (some true) else
      (some (x0 == 36))))
theorem we77 (x0 : Int) (r : Bool) (h : m_armatureref03_letter x0 = some r) (Γ : Ctx) : At Try.prog Γ b77 [] (Den.Ends Try.prog Try.f77 (.bool r)) (mkS 25 [(0, d8 x0)] []) := by
  refine At.adv [1] [(0, { keep := some ([0], []) })] 400 (ev := .stop c77x1 [.seq c77x2]) (σ' := mkS 25 [(0, d8 x0)] []) (q := []) (by kernel_rfl) trivial ?_
  refine EvOk.stop (At.ops (l := iv 0 23) (by kernel_rfl) (by kernel_rfl) ?_)
  refine AtOps.run (iv 0 3) (iv 3 20) [] [] [0, 5] [] (n := 25) (sl := [(0, d8 x0), (5, .bool (decide (x0 ≥ 97)))]) (bl := []) (q := []) (by kernel_rfl) (by kernel_rfl) trivial ?_
  rcases Bool.eq_false_or_eq_true (decide (x0 ≥ 97)) with h0 | h0
  · replace h := iteT h0 h
    refine AtOps.run (iv 3 4) (iv 7 16) [(5, aT)] [(3, true), (4, true)] [0, 9] [] (n := 25) (sl := [(0, d8 x0), (9, .bool (decide (x0 ≤ 122)))]) (bl := []) (q := [((decide (x0 ≥ 97)) == true) = true ∧ True, ((decide (x0 ≥ 97)) == true) = true ∧ True, True ∧ ((decide (x0 ≥ 97)) = true)]) (by kernel_rfl) (by kernel_rfl) ⟨⟨(gB h0 rfl), trivial⟩, ⟨(gB h0 rfl), trivial⟩, ⟨trivial, h0⟩, trivial⟩ ?_
    rcases Bool.eq_false_or_eq_true (decide (x0 ≤ 122)) with h1 | h1
    · replace h := iteT h1 h
      refine AtOps.run (iv 7 16) (iv 23 0) [(13, aT)] [(7, false), (8, false), (9, false), (12, false)] [2] [] (n := 25) (sl := [(2, .bool true)]) (bl := []) (q := [((decide (x0 ≤ 122)) == false) = false, ((decide (x0 ≤ 122)) == false) = false, ((decide (x0 ≤ 122)) == false) = false, True, True, ((decide (x0 ≤ 122)) == false) = false, True ∧ ((decide (x0 ≤ 122)) = true), True, True, True, True]) (by kernel_rfl) (by kernel_rfl) ⟨gB h1 rfl, gB h1 rfl, gB h1 rfl, trivial, trivial, gB h1 rfl, ⟨trivial, h1⟩, trivial, trivial, trivial, trivial, trivial⟩ ?_
      refine AtOps.done ?_
      refine At.advN [] [] 400 (ev := .ret) (σ' := mkS 25 [(2, .bool true)] []) (q := []) (by kernel_rfl) trivial ?_
      refine EvOk.ret ?_
      obtain rfl := someE h
      exact Den.Ends.mk (.inl rfl) (d := .bool true) (p := (True ∧ True) ∧ (tN 1)) (by kernel_rfl) ⟨⟨trivial, trivial⟩, tNi 1⟩ (by kernel_rfl)
    · replace h := iteF h1 h
      refine AtOps.run (iv 7 3) (iv 10 13) [] [(7, true), (8, true), (9, true)] [0, 9, 12] [] (n := 25) (sl := [(0, d8 x0), (9, .bool (decide (x0 ≤ 122))), (12, .bool (decide (x0 ≥ 65)))]) (bl := []) (q := [((decide (x0 ≤ 122)) == false) = true ∧ True, ((decide (x0 ≤ 122)) == false) = true ∧ True, ((decide (x0 ≤ 122)) == false) = true ∧ True]) (by kernel_rfl) (by kernel_rfl) ⟨⟨(gB h1 rfl), trivial⟩, ⟨(gB h1 rfl), trivial⟩, ⟨(gB h1 rfl), trivial⟩, trivial⟩ ?_
      rcases Bool.eq_false_or_eq_true (decide (x0 ≥ 65)) with h2 | h2
      · replace h := iteT h2 h
        refine AtOps.run (iv 10 5) (iv 15 8) [(12, aT), (13, aF)] [(10, true), (11, true), (12, true)] [0, 17] [] (n := 25) (sl := [(0, d8 x0), (17, .bool (decide (x0 ≤ 90)))]) (bl := []) (q := [((decide (x0 ≥ 65)) == true) = true ∧ True, ((decide (x0 ≥ 65)) == true) = true ∧ True, ((decide (x0 ≤ 122)) == false) = true ∧ ((decide (x0 ≥ 65)) = true), True ∧ ((decide (x0 ≤ 122)) = false)]) (by kernel_rfl) (by kernel_rfl) ⟨⟨(gB h2 rfl), trivial⟩, ⟨(gB h2 rfl), trivial⟩, ⟨(gB h1 rfl), h2⟩, ⟨trivial, h1⟩, trivial⟩ ?_
        rcases Bool.eq_false_or_eq_true (decide (x0 ≤ 90)) with h3 | h3
        · replace h := iteT h3 h
          refine AtOps.run (iv 15 8) (iv 23 0) [(17, aT)] [(15, false), (16, false)] [2] [] (n := 25) (sl := [(2, .bool true)]) (bl := []) (q := [((decide (x0 ≤ 90)) == false) = false, ((decide (x0 ≤ 90)) == false) = false, True ∧ ((decide (x0 ≤ 90)) = true), True, True]) (by kernel_rfl) (by kernel_rfl) ⟨gB h3 rfl, gB h3 rfl, ⟨trivial, h3⟩, trivial, trivial, trivial⟩ ?_
          refine AtOps.done ?_
          refine At.advN [] [] 400 (ev := .ret) (σ' := mkS 25 [(2, .bool true)] []) (q := []) (by kernel_rfl) trivial ?_
          refine EvOk.ret ?_
          obtain rfl := someE h
          exact Den.Ends.mk (.inl rfl) (d := .bool true) (p := (True ∧ True) ∧ (tN 1)) (by kernel_rfl) ⟨⟨trivial, trivial⟩, tNi 1⟩ (by kernel_rfl)
        · replace h := iteF h3 h
          refine AtOps.run (iv 15 4) (iv 19 4) [(17, aF)] [(15, true), (16, true)] [0, 21] [] (n := 25) (sl := [(0, d8 x0), (21, .bool (x0 == 95))]) (bl := []) (q := [((decide (x0 ≤ 90)) == false) = true ∧ True, ((decide (x0 ≤ 90)) == false) = true ∧ True, True ∧ ((decide (x0 ≤ 90)) = false)]) (by kernel_rfl) (by kernel_rfl) ⟨⟨(gB h3 rfl), trivial⟩, ⟨(gB h3 rfl), trivial⟩, ⟨trivial, h3⟩, trivial⟩ ?_
          rcases Bool.eq_false_or_eq_true (x0 == 95) with h4 | h4
          · replace h := iteT h4 h
            refine AtOps.run (iv 19 4) (iv 23 0) [(21, aT)] [(19, false), (20, false)] [2] [] (n := 25) (sl := [(2, .bool true)]) (bl := []) (q := [((x0 == 95) == false) = false, ((x0 == 95) == false) = false, True ∧ ((x0 == 95) = true)]) (by kernel_rfl) (by kernel_rfl) ⟨gB h4 rfl, gB h4 rfl, ⟨trivial, h4⟩, trivial⟩ ?_
            refine AtOps.done ?_
            refine At.advN [] [] 400 (ev := .ret) (σ' := mkS 25 [(2, .bool true)] []) (q := []) (by kernel_rfl) trivial ?_
            refine EvOk.ret ?_
            obtain rfl := someE h
            exact Den.Ends.mk (.inl rfl) (d := .bool true) (p := (True ∧ True) ∧ (tN 1)) (by kernel_rfl) ⟨⟨trivial, trivial⟩, tNi 1⟩ (by kernel_rfl)
          · replace h := iteF h4 h
            refine AtOps.run (iv 19 4) (iv 23 0) [(21, aF)] [(19, true), (20, true)] [2] [] (n := 25) (sl := [(2, .bool (x0 == 36))]) (bl := []) (q := [((x0 == 95) == false) = true ∧ True, ((x0 == 95) == false) = true ∧ True, True ∧ ((x0 == 95) = false)]) (by kernel_rfl) (by kernel_rfl) ⟨⟨(gB h4 rfl), trivial⟩, ⟨(gB h4 rfl), trivial⟩, ⟨trivial, h4⟩, trivial⟩ ?_
            refine AtOps.done ?_
            refine At.advN [] [] 400 (ev := .ret) (σ' := mkS 25 [(2, .bool (x0 == 36))] []) (q := []) (by kernel_rfl) trivial ?_
            refine EvOk.ret ?_
            obtain rfl := someE h
            exact Den.Ends.mk (.inl rfl) (d := .bool (x0 == 36)) (p := (True ∧ True) ∧ (tN 1)) (by kernel_rfl) ⟨⟨trivial, trivial⟩, tNi 1⟩ (by kernel_rfl)
      · replace h := iteF h2 h
        refine AtOps.run (iv 10 9) (iv 19 4) [(12, aF), (13, aF)] [(10, false), (11, false), (12, true)] [0, 21] [] (n := 25) (sl := [(0, d8 x0), (21, .bool (x0 == 95))]) (bl := []) (q := [((decide (x0 ≥ 65)) == true) = false, ((decide (x0 ≥ 65)) == true) = false, ((decide (x0 ≤ 122)) == false) = true ∧ ((decide (x0 ≥ 65)) = false), True ∧ ((decide (x0 ≤ 122)) = false), True ∧ True, True ∧ True]) (by kernel_rfl) (by kernel_rfl) ⟨gB h2 rfl, gB h2 rfl, ⟨(gB h1 rfl), h2⟩, ⟨trivial, h1⟩, ⟨trivial, trivial⟩, ⟨trivial, trivial⟩, trivial⟩ ?_
        rcases Bool.eq_false_or_eq_true (x0 == 95) with h5 | h5
        · replace h := iteT h5 h
          refine AtOps.run (iv 19 4) (iv 23 0) [(21, aT)] [(19, false), (20, false)] [2] [] (n := 25) (sl := [(2, .bool true)]) (bl := []) (q := [((x0 == 95) == false) = false, ((x0 == 95) == false) = false, True ∧ ((x0 == 95) = true)]) (by kernel_rfl) (by kernel_rfl) ⟨gB h5 rfl, gB h5 rfl, ⟨trivial, h5⟩, trivial⟩ ?_
          refine AtOps.done ?_
          refine At.advN [] [] 400 (ev := .ret) (σ' := mkS 25 [(2, .bool true)] []) (q := []) (by kernel_rfl) trivial ?_
          refine EvOk.ret ?_
          obtain rfl := someE h
          exact Den.Ends.mk (.inl rfl) (d := .bool true) (p := (True ∧ True) ∧ (tN 1)) (by kernel_rfl) ⟨⟨trivial, trivial⟩, tNi 1⟩ (by kernel_rfl)
        · replace h := iteF h5 h
          refine AtOps.run (iv 19 4) (iv 23 0) [(21, aF)] [(19, true), (20, true)] [2] [] (n := 25) (sl := [(2, .bool (x0 == 36))]) (bl := []) (q := [((x0 == 95) == false) = true ∧ True, ((x0 == 95) == false) = true ∧ True, True ∧ ((x0 == 95) = false)]) (by kernel_rfl) (by kernel_rfl) ⟨⟨(gB h5 rfl), trivial⟩, ⟨(gB h5 rfl), trivial⟩, ⟨trivial, h5⟩, trivial⟩ ?_
          refine AtOps.done ?_
          refine At.advN [] [] 400 (ev := .ret) (σ' := mkS 25 [(2, .bool (x0 == 36))] []) (q := []) (by kernel_rfl) trivial ?_
          refine EvOk.ret ?_
          obtain rfl := someE h
          exact Den.Ends.mk (.inl rfl) (d := .bool (x0 == 36)) (p := (True ∧ True) ∧ (tN 1)) (by kernel_rfl) ⟨⟨trivial, trivial⟩, tNi 1⟩ (by kernel_rfl)
  · replace h := iteF h0 h
    refine AtOps.run (iv 3 7) (iv 10 13) [(5, aF)] [(3, false), (4, false)] [0, 9, 12] [] (n := 25) (sl := [(0, d8 x0), (9, .bool false), (12, .bool (decide (x0 ≥ 65)))]) (bl := []) (q := [((decide (x0 ≥ 97)) == true) = false, ((decide (x0 ≥ 97)) == true) = false, True ∧ ((decide (x0 ≥ 97)) = false), True ∧ True, True ∧ True, True ∧ True]) (by kernel_rfl) (by kernel_rfl) ⟨gB h0 rfl, gB h0 rfl, ⟨trivial, h0⟩, ⟨trivial, trivial⟩, ⟨trivial, trivial⟩, ⟨trivial, trivial⟩, trivial⟩ ?_
    rcases Bool.eq_false_or_eq_true (decide (x0 ≥ 65)) with h6 | h6
    · replace h := iteT h6 h
      refine AtOps.run (iv 10 5) (iv 15 8) [(12, aT)] [(10, true), (11, true)] [0, 17] [] (n := 25) (sl := [(0, d8 x0), (17, .bool (decide (x0 ≤ 90)))]) (bl := []) (q := [((decide (x0 ≥ 65)) == true) = true ∧ True, ((decide (x0 ≥ 65)) == true) = true ∧ True, True ∧ ((decide (x0 ≥ 65)) = true)]) (by kernel_rfl) (by kernel_rfl) ⟨⟨(gB h6 rfl), trivial⟩, ⟨(gB h6 rfl), trivial⟩, ⟨trivial, h6⟩, trivial⟩ ?_
      rcases Bool.eq_false_or_eq_true (decide (x0 ≤ 90)) with h7 | h7
      · replace h := iteT h7 h
        refine AtOps.run (iv 15 8) (iv 23 0) [(17, aT)] [(15, false), (16, false)] [2] [] (n := 25) (sl := [(2, .bool true)]) (bl := []) (q := [((decide (x0 ≤ 90)) == false) = false, ((decide (x0 ≤ 90)) == false) = false, True ∧ ((decide (x0 ≤ 90)) = true), True, True]) (by kernel_rfl) (by kernel_rfl) ⟨gB h7 rfl, gB h7 rfl, ⟨trivial, h7⟩, trivial, trivial, trivial⟩ ?_
        refine AtOps.done ?_
        refine At.advN [] [] 400 (ev := .ret) (σ' := mkS 25 [(2, .bool true)] []) (q := []) (by kernel_rfl) trivial ?_
        refine EvOk.ret ?_
        obtain rfl := someE h
        exact Den.Ends.mk (.inl rfl) (d := .bool true) (p := (True ∧ True) ∧ (tN 1)) (by kernel_rfl) ⟨⟨trivial, trivial⟩, tNi 1⟩ (by kernel_rfl)
      · replace h := iteF h7 h
        refine AtOps.run (iv 15 4) (iv 19 4) [(17, aF)] [(15, true), (16, true)] [0, 21] [] (n := 25) (sl := [(0, d8 x0), (21, .bool (x0 == 95))]) (bl := []) (q := [((decide (x0 ≤ 90)) == false) = true ∧ True, ((decide (x0 ≤ 90)) == false) = true ∧ True, True ∧ ((decide (x0 ≤ 90)) = false)]) (by kernel_rfl) (by kernel_rfl) ⟨⟨(gB h7 rfl), trivial⟩, ⟨(gB h7 rfl), trivial⟩, ⟨trivial, h7⟩, trivial⟩ ?_
        rcases Bool.eq_false_or_eq_true (x0 == 95) with h8 | h8
        · replace h := iteT h8 h
          refine AtOps.run (iv 19 4) (iv 23 0) [(21, aT)] [(19, false), (20, false)] [2] [] (n := 25) (sl := [(2, .bool true)]) (bl := []) (q := [((x0 == 95) == false) = false, ((x0 == 95) == false) = false, True ∧ ((x0 == 95) = true)]) (by kernel_rfl) (by kernel_rfl) ⟨gB h8 rfl, gB h8 rfl, ⟨trivial, h8⟩, trivial⟩ ?_
          refine AtOps.done ?_
          refine At.advN [] [] 400 (ev := .ret) (σ' := mkS 25 [(2, .bool true)] []) (q := []) (by kernel_rfl) trivial ?_
          refine EvOk.ret ?_
          obtain rfl := someE h
          exact Den.Ends.mk (.inl rfl) (d := .bool true) (p := (True ∧ True) ∧ (tN 1)) (by kernel_rfl) ⟨⟨trivial, trivial⟩, tNi 1⟩ (by kernel_rfl)
        · replace h := iteF h8 h
          refine AtOps.run (iv 19 4) (iv 23 0) [(21, aF)] [(19, true), (20, true)] [2] [] (n := 25) (sl := [(2, .bool (x0 == 36))]) (bl := []) (q := [((x0 == 95) == false) = true ∧ True, ((x0 == 95) == false) = true ∧ True, True ∧ ((x0 == 95) = false)]) (by kernel_rfl) (by kernel_rfl) ⟨⟨(gB h8 rfl), trivial⟩, ⟨(gB h8 rfl), trivial⟩, ⟨trivial, h8⟩, trivial⟩ ?_
          refine AtOps.done ?_
          refine At.advN [] [] 400 (ev := .ret) (σ' := mkS 25 [(2, .bool (x0 == 36))] []) (q := []) (by kernel_rfl) trivial ?_
          refine EvOk.ret ?_
          obtain rfl := someE h
          exact Den.Ends.mk (.inl rfl) (d := .bool (x0 == 36)) (p := (True ∧ True) ∧ (tN 1)) (by kernel_rfl) ⟨⟨trivial, trivial⟩, tNi 1⟩ (by kernel_rfl)
    · replace h := iteF h6 h
      refine AtOps.run (iv 10 9) (iv 19 4) [(12, aF)] [(10, false), (11, false)] [0, 21] [] (n := 25) (sl := [(0, d8 x0), (21, .bool (x0 == 95))]) (bl := []) (q := [((decide (x0 ≥ 65)) == true) = false, ((decide (x0 ≥ 65)) == true) = false, True ∧ ((decide (x0 ≥ 65)) = false), True ∧ True, True ∧ True]) (by kernel_rfl) (by kernel_rfl) ⟨gB h6 rfl, gB h6 rfl, ⟨trivial, h6⟩, ⟨trivial, trivial⟩, ⟨trivial, trivial⟩, trivial⟩ ?_
      rcases Bool.eq_false_or_eq_true (x0 == 95) with h9 | h9
      · replace h := iteT h9 h
        refine AtOps.run (iv 19 4) (iv 23 0) [(21, aT)] [(19, false), (20, false)] [2] [] (n := 25) (sl := [(2, .bool true)]) (bl := []) (q := [((x0 == 95) == false) = false, ((x0 == 95) == false) = false, True ∧ ((x0 == 95) = true)]) (by kernel_rfl) (by kernel_rfl) ⟨gB h9 rfl, gB h9 rfl, ⟨trivial, h9⟩, trivial⟩ ?_
        refine AtOps.done ?_
        refine At.advN [] [] 400 (ev := .ret) (σ' := mkS 25 [(2, .bool true)] []) (q := []) (by kernel_rfl) trivial ?_
        refine EvOk.ret ?_
        obtain rfl := someE h
        exact Den.Ends.mk (.inl rfl) (d := .bool true) (p := (True ∧ True) ∧ (tN 1)) (by kernel_rfl) ⟨⟨trivial, trivial⟩, tNi 1⟩ (by kernel_rfl)
      · replace h := iteF h9 h
        refine AtOps.run (iv 19 4) (iv 23 0) [(21, aF)] [(19, true), (20, true)] [2] [] (n := 25) (sl := [(2, .bool (x0 == 36))]) (bl := []) (q := [((x0 == 95) == false) = true ∧ True, ((x0 == 95) == false) = true ∧ True, True ∧ ((x0 == 95) = false)]) (by kernel_rfl) (by kernel_rfl) ⟨⟨(gB h9 rfl), trivial⟩, ⟨(gB h9 rfl), trivial⟩, ⟨trivial, h9⟩, trivial⟩ ?_
        refine AtOps.done ?_
        refine At.advN [] [] 400 (ev := .ret) (σ' := mkS 25 [(2, .bool (x0 == 36))] []) (q := []) (by kernel_rfl) trivial ?_
        refine EvOk.ret ?_
        obtain rfl := someE h
        exact Den.Ends.mk (.inl rfl) (d := .bool (x0 == 36)) (p := (True ∧ True) ∧ (tN 1)) (by kernel_rfl) ⟨⟨trivial, trivial⟩, tNi 1⟩ (by kernel_rfl)
theorem w77 {x0 : Int} {r : Bool} (h : m_armatureref03_letter x0 = some r) : CallSpec Try.prog 77 [.int .u8 x0] (.bool r) :=
  CallSpec.at2 b77 (n := 25) (l := [(0, .int .u8 x0)]) (by kernel_rfl) (by kernel_rfl) (by kernel_rfl) (by kernel_rfl) (by kernel_rfl) (Nat.le_of_ble_eq_true (by kernel_rfl)) (fun Γ => we77 x0 r h Γ)

/-! ### armature armatureref03.part -/
noncomputable def b70 : Code := Try.f70.body.getD .skip
noncomputable def c70x0 : Code := sub1 b70
noncomputable def c70x1 : Code := sub0 c70x0
noncomputable def c70x2 : Code := sub1 c70x1
noncomputable def c70x3 : Code := sub0 c70x2
noncomputable def c70x4 : Code := sub0 c70x3
noncomputable def c70x5 : Code := sub1 c70x4
noncomputable def c70x6 : Code := sub0 c70x5
noncomputable def c70x7 : Code := sub0 c70x6
noncomputable def c70x8 : Code := sub1 c70x7
noncomputable def c70x9 : Code := sub0 c70x8
noncomputable def c70x10 : Code := sub1 c70x8
noncomputable def c70x11 : Code := sub1 c70x5
noncomputable def c70x12 : Code := sub0 c70x7
noncomputable def c70x13 : Code := sub0 c70x4
noncomputable def c70x14 : Code := sub1 c70x13
noncomputable def c70x15 : Code := sub0 c70x14
noncomputable def c70x16 : Code := sub1 c70x14
noncomputable def c70x17 : Code := sub1 c70x0
def l70x1 (x0 : List UInt8) (t0 : Int) : Option (Ctl (Int) (Unit ⊕ Bool)) :=
  if (decide (t0 < (x0.length : Int))) = true then
    ((getS x0 t0).bind fun v2 =>
    (m_armatureref03_letter v2).bind fun v3 =>
    if (!v3) = true then (if (t0 == 0) = true then (some (.done (.inr false))) else
      ((getS x0 t0).bind fun v4 =>
        if (decide (v4 < 48)) = true then (some (.done (.inr false))) else
        ((getS x0 t0).bind fun v5 =>
          if (decide (v5 > 57)) = true then
            (some (.done (.inr false))) else
          ((some (IntKind.wrap .i64 (t0 + (1 : Int)))).bind fun v6 =>
            some (.next v6))))) else
    ((some (IntKind.wrap .i64 (t0 + (1 : Int)))).bind fun v7 =>
        some (.next v7))) else
  (some (.done (.inl (()))))
def m_armatureref03_part (x0 : List UInt8) : Option (Bool) :=
  (loopM (l70x1 x0) rounds 0).bind fun q1 =>
  match q1 with
  | .inl q0 => (some (decide ((x0.length : Int) > 0)))
  | .inr y0 => (some y0)
def st70x1 (x0 : List UInt8) : Int → S :=
  fun t0 => mkS 34 [(0, .str x0), (3, .int .i64 t0)] []
noncomputable def J70x1 (x0 : List UInt8) : (Unit ⊕ Bool) → Exit → S → Prop :=
  JSum (JExit 0 (fun q0 : Unit => mkS 34 [(0, .str x0)] [])) (JRet Try.prog Try.f70 (fun y : Bool => .bool y))
theorem wl70x1 (x0 : List UInt8) (t0 : Int) (r : Ctl (Int) (Unit ⊕ Bool)) (h : (l70x1 x0) t0 = some r) (Γ : Ctx) : At Try.prog Γ c70x4 [] (Round (st70x1 x0) (J70x1 x0) r) ((st70x1 x0) t0) := by
  refine At.adv [] [(2, { keep := some ([0, 3, 7], []) })] 400 (ev := .cond (decide (t0 < (x0.length : Int))) c70x15 c70x16 [.seq c70x5]) (σ' := mkS 34 [(0, .str x0), (3, dI t0), (7, .bool (decide (t0 < (x0.length : Int))))] []) (q := []) (by kernel_rfl) trivial ?_
  refine EvOk.cond (fun h2 => ?_) (fun h2 => ?_)
  · replace h := iteT h2 h
    refine At.gc [0, 3] [] (n := 34) (l := [(0, .str x0), (3, dI t0)]) (bl := []) (by kernel_rfl) ?_
    refine At.adv [4] [] 400 (ev := .stop c70x12 [.seq c70x8, .blk 1, .seq c70x11]) (σ' := mkS 34 [(0, .str x0), (3, dI t0)] []) (q := []) (by kernel_rfl) trivial ?_
    refine EvOk.stop (At.ops (l := iv 0 21) (by kernel_rfl) (by kernel_rfl) ?_)
    obtain ⟨v2, e2, h⟩ := bindE h
    obtain ⟨v3, e3, h⟩ := bindE h
    refine AtOps.run (iv 0 6) (iv 6 15) [(2, a8 v2), (3, aB v3)] [] [0, 3, 15] [] (n := 34) (sl := [(0, .str x0), (3, dI t0), (15, .bool (!v3))]) (bl := []) (q := [True ∧ (getS x0 t0 = some v2), True ∧ (cq Try.prog (tN 1) 77 [d8 v2] (.bool v3))]) (by kernel_rfl) (by kernel_rfl) ⟨⟨trivial, e2⟩, ⟨trivial, cqi (tNi 1) (w77 e3)⟩, trivial⟩ ?_
    rcases Bool.eq_false_or_eq_true (!v3) with h3 | h3
    · replace h := iteT h3 h
      refine AtOps.run (iv 6 3) (iv 9 12) [] [(6, true), (7, true), (8, true)] [0, 3, 15, 18] [] (n := 34) (sl := [(0, .str x0), (3, dI t0), (15, .bool (!v3)), (18, .bool (t0 == 0))]) (bl := []) (q := [((!v3) == true) = true ∧ True, ((!v3) == true) = true ∧ True, ((!v3) == true) = true ∧ True]) (by kernel_rfl) (by kernel_rfl) ⟨⟨(gB h3 rfl), trivial⟩, ⟨(gB h3 rfl), trivial⟩, ⟨(gB h3 rfl), trivial⟩, trivial⟩ ?_
      rcases Bool.eq_false_or_eq_true (t0 == 0) with h4 | h4
      · replace h := iteT h4 h
        refine AtOps.run (iv 9 12) (iv 21 0) [(13, aT), (20, aT)] [(9, false), (10, false), (11, false), (12, false), (13, true), (14, true), (19, true)] [0, 3, 30] [] (n := 34) (sl := [(0, .str x0), (3, dI t0), (30, .bool true)]) (bl := []) (q := [((t0 == 0) == false) = false, ((t0 == 0) == false) = false, ((t0 == 0) == false) = false, ((t0 == 0) == false) = false, ((!v3) == true) = true ∧ ((t0 == 0) = true), ((!v3) == true) = true ∧ True, True, True, True, True, ((!v3) == true) = true ∧ True, True ∧ ((!v3) = true)]) (by kernel_rfl) (by kernel_rfl) ⟨gB h4 rfl, gB h4 rfl, gB h4 rfl, gB h4 rfl, ⟨(gB h3 rfl), h4⟩, ⟨(gB h3 rfl), trivial⟩, trivial, trivial, trivial, trivial, ⟨(gB h3 rfl), trivial⟩, ⟨trivial, h3⟩, trivial⟩ ?_
        refine AtOps.done ?_
        refine At.advN [] [] 400 (ev := .cond true c70x9 c70x10 [.blk 1, .seq c70x11]) (σ' := mkS 34 [(0, .str x0), (3, dI t0), (30, .bool true)] []) (q := []) (by kernel_rfl) trivial ?_
        refine EvOk.cond (fun _ => ?_) (fun hb => Bool.noConfusion hb)
        refine At.gc [] [] (n := 34) (l := []) (bl := []) (by kernel_rfl) ?_
        refine At.adv [] [(5, { keep := some ([2], []) })] 400 (ev := .ret) (σ' := mkS 34 [(2, .bool false)] []) (q := []) (by kernel_rfl) trivial ?_
        refine EvOk.ret ?_
        obtain rfl := someE h
        exact Round.done neRet ⟨rfl, Den.Ends.mk (.inl rfl) (d := .bool false) (p := (True ∧ True) ∧ (tN 1)) (by kernel_rfl) ⟨⟨trivial, trivial⟩, tNi 1⟩ (by kernel_rfl)⟩
      · replace h := iteF h4 h
        obtain ⟨v4, e4, h⟩ := bindE h
        refine AtOps.run (iv 9 6) (iv 15 6) [(11, a8 v4), (13, aF)] [(9, true), (10, true), (11, true), (12, true), (13, true), (14, true)] [0, 3, 15, 24] [] (n := 34) (sl := [(0, .str x0), (3, dI t0), (15, .bool (!v3)), (24, .bool (decide (v4 < 48)))]) (bl := []) (q := [((t0 == 0) == false) = true ∧ True, ((t0 == 0) == false) = true ∧ True, ((t0 == 0) == false) = true ∧ (getS x0 t0 = some v4), ((t0 == 0) == false) = true ∧ True, ((!v3) == true) = true ∧ ((t0 == 0) = false), ((!v3) == true) = true ∧ True]) (by kernel_rfl) (by kernel_rfl) ⟨⟨(gB h4 rfl), trivial⟩, ⟨(gB h4 rfl), trivial⟩, ⟨(gB h4 rfl), e4⟩, ⟨(gB h4 rfl), trivial⟩, ⟨(gB h3 rfl), h4⟩, ⟨(gB h3 rfl), trivial⟩, trivial⟩ ?_
        rcases Bool.eq_false_or_eq_true (decide (v4 < 48)) with h5 | h5
        · replace h := iteT h5 h
          refine AtOps.run (iv 15 6) (iv 21 0) [(19, aT), (20, aT)] [(15, false), (16, false), (17, false), (18, false), (19, true)] [0, 3, 30] [] (n := 34) (sl := [(0, .str x0), (3, dI t0), (30, .bool true)]) (bl := []) (q := [((decide (v4 < 48)) == false) = false, ((decide (v4 < 48)) == false) = false, ((decide (v4 < 48)) == false) = false, ((decide (v4 < 48)) == false) = false, ((!v3) == true) = true ∧ ((decide (v4 < 48)) = true), True ∧ ((!v3) = true)]) (by kernel_rfl) (by kernel_rfl) ⟨gB h5 rfl, gB h5 rfl, gB h5 rfl, gB h5 rfl, ⟨(gB h3 rfl), h5⟩, ⟨trivial, h3⟩, trivial⟩ ?_
          refine AtOps.done ?_
          refine At.advN [] [] 400 (ev := .cond true c70x9 c70x10 [.blk 1, .seq c70x11]) (σ' := mkS 34 [(0, .str x0), (3, dI t0), (30, .bool true)] []) (q := []) (by kernel_rfl) trivial ?_
          refine EvOk.cond (fun _ => ?_) (fun hb => Bool.noConfusion hb)
          refine At.gc [] [] (n := 34) (l := []) (bl := []) (by kernel_rfl) ?_
          refine At.adv [] [(5, { keep := some ([2], []) })] 400 (ev := .ret) (σ' := mkS 34 [(2, .bool false)] []) (q := []) (by kernel_rfl) trivial ?_
          refine EvOk.ret ?_
          obtain rfl := someE h
          exact Round.done neRet ⟨rfl, Den.Ends.mk (.inl rfl) (d := .bool false) (p := (True ∧ True) ∧ (tN 1)) (by kernel_rfl) ⟨⟨trivial, trivial⟩, tNi 1⟩ (by kernel_rfl)⟩
        · replace h := iteF h5 h
          obtain ⟨v5, e5, h⟩ := bindE h
          refine AtOps.run (iv 15 6) (iv 21 0) [(17, a8 v5), (19, aF), (20, aT)] [(15, true), (16, true), (17, true), (18, true), (19, true)] [0, 3, 30] [] (n := 34) (sl := [(0, .str x0), (3, dI t0), (30, .bool (decide (v5 > 57)))]) (bl := []) (q := [((decide (v4 < 48)) == false) = true ∧ True, ((decide (v4 < 48)) == false) = true ∧ True, ((decide (v4 < 48)) == false) = true ∧ (getS x0 t0 = some v5), ((decide (v4 < 48)) == false) = true ∧ True, ((!v3) == true) = true ∧ ((decide (v4 < 48)) = false), True ∧ ((!v3) = true)]) (by kernel_rfl) (by kernel_rfl) ⟨⟨(gB h5 rfl), trivial⟩, ⟨(gB h5 rfl), trivial⟩, ⟨(gB h5 rfl), e5⟩, ⟨(gB h5 rfl), trivial⟩, ⟨(gB h3 rfl), h5⟩, ⟨trivial, h3⟩, trivial⟩ ?_
          refine AtOps.done ?_
          refine At.advN [] [] 400 (ev := .cond (decide (v5 > 57)) c70x9 c70x10 [.blk 1, .seq c70x11]) (σ' := mkS 34 [(0, .str x0), (3, dI t0), (30, .bool (decide (v5 > 57)))] []) (q := []) (by kernel_rfl) trivial ?_
          refine EvOk.cond (fun h6 => ?_) (fun h6 => ?_)
          · replace h := iteT h6 h
            refine At.gc [] [] (n := 34) (l := []) (bl := []) (by kernel_rfl) ?_
            refine At.adv [] [(5, { keep := some ([2], []) })] 400 (ev := .ret) (σ' := mkS 34 [(2, .bool false)] []) (q := []) (by kernel_rfl) trivial ?_
            refine EvOk.ret ?_
            obtain rfl := someE h
            exact Round.done neRet ⟨rfl, Den.Ends.mk (.inl rfl) (d := .bool false) (p := (True ∧ True) ∧ (tN 1)) (by kernel_rfl) ⟨⟨trivial, trivial⟩, tNi 1⟩ (by kernel_rfl)⟩
          · replace h := iteF h6 h
            refine At.gc [0, 3] [] (n := 34) (l := [(0, .str x0), (3, dI t0)]) (bl := []) (by kernel_rfl) ?_
            obtain ⟨v6, e6, h⟩ := bindE h
            refine At.adv [] [(3, { told := [(1, aI v6)], keep := some ([0, 3], []) })] 400 (ev := .normal) (σ' := mkS 34 [(0, .str x0), (3, dI v6)] []) (q := [True ∧ (IntKind.wrap .i64 (t0 + (1 : Int)) = v6)]) (by kernel_rfl) ⟨⟨trivial, someE e6⟩, trivial⟩ ?_
            refine EvOk.normal ?_
            obtain rfl := someE h
            exact Round.next (by kernel_rfl)
    · replace h := iteF h3 h
      refine AtOps.run (iv 6 15) (iv 21 0) [(20, aF)] [(6, false), (7, false), (8, false), (13, false), (14, false), (19, false)] [0, 3, 30] [] (n := 34) (sl := [(0, .str x0), (3, dI t0), (30, .bool false)]) (bl := []) (q := [((!v3) == true) = false, ((!v3) == true) = false, ((!v3) == true) = false, True, True, True, True, ((!v3) == true) = false, ((!v3) == true) = false, True, True, True, True, ((!v3) == true) = false, True ∧ ((!v3) = false)]) (by kernel_rfl) (by kernel_rfl) ⟨gB h3 rfl, gB h3 rfl, gB h3 rfl, trivial, trivial, trivial, trivial, gB h3 rfl, gB h3 rfl, trivial, trivial, trivial, trivial, gB h3 rfl, ⟨trivial, h3⟩, trivial⟩ ?_
      refine AtOps.done ?_
      refine At.advN [] [] 400 (ev := .cond false c70x9 c70x10 [.blk 1, .seq c70x11]) (σ' := mkS 34 [(0, .str x0), (3, dI t0), (30, .bool false)] []) (q := []) (by kernel_rfl) trivial ?_
      refine EvOk.cond (fun hb => Bool.noConfusion hb) (fun _ => ?_)
      refine At.gc [0, 3] [] (n := 34) (l := [(0, .str x0), (3, dI t0)]) (bl := []) (by kernel_rfl) ?_
      obtain ⟨v7, e7, h⟩ := bindE h
      refine At.adv [] [(3, { told := [(1, aI v7)], keep := some ([0, 3], []) })] 400 (ev := .normal) (σ' := mkS 34 [(0, .str x0), (3, dI v7)] []) (q := [True ∧ (IntKind.wrap .i64 (t0 + (1 : Int)) = v7)]) (by kernel_rfl) ⟨⟨trivial, someE e7⟩, trivial⟩ ?_
      refine EvOk.normal ?_
      obtain rfl := someE h
      exact Round.next (by kernel_rfl)
  · replace h := iteF h2 h
    refine At.gc [0] [] (n := 34) (l := [(0, .str x0)]) (bl := []) (by kernel_rfl) ?_
    refine At.adv [] [] 400 (ev := .exit 0) (σ' := mkS 34 [(0, .str x0)] []) (q := []) (by kernel_rfl) trivial ?_
    refine EvOk.exit ?_
    obtain rfl := someE h
    exact Round.done (neExit _) ⟨rfl, by kernel_rfl⟩
theorem we70 (x0 : List UInt8) (r : Bool) (h : m_armatureref03_part x0 = some r) (Γ : Ctx) : At Try.prog Γ b70 [] (Den.Ends Try.prog Try.f70 (.bool r)) (mkS 34 [(0, .str x0)] []) := by
  refine At.adv [] [(0, { keep := some ([0], []) }), (1, { keep := some ([0, 3], []) })] 400 (ev := .loop c70x4 [.blk 0, .seq c70x17]) (σ' := mkS 34 [(0, .str x0), (3, dI 0)] []) (q := []) (by kernel_rfl) trivial ?_
  refine EvOk.loop ?_
  obtain ⟨q1, e8, h⟩ := bindE h
  refine At.loop (l70x1 x0) (st70x1 x0) (J70x1 x0) 0 e8 (by kernel_rfl) (fun t x hx => (wl70x1 x0) t x hx Γ) ?_
  intro e σ' hJ
  rcases q1 with q0 | y0
  · obtain ⟨rfl, rfl⟩ := hJ
    refine At.exitK (K' := [.seq c70x17]) (by kernel_rfl) ?_
    refine At.advN [] [(6, { keep := some ([2], []) })] 400 (ev := .ret) (σ' := mkS 34 [(2, .bool (decide ((x0.length : Int) > 0)))] []) (q := []) (by kernel_rfl) trivial ?_
    refine EvOk.ret ?_
    obtain rfl := someE h
    exact Den.Ends.mk (.inl rfl) (d := .bool (decide ((x0.length : Int) > 0))) (p := (True ∧ True) ∧ (tN 1)) (by kernel_rfl) ⟨⟨trivial, trivial⟩, tNi 1⟩ (by kernel_rfl)
  · obtain rfl := someE h
    obtain ⟨rfl, hE⟩ := hJ
    exact At.retK hE
theorem w70 {x0 : List UInt8} {r : Bool} (h : m_armatureref03_part x0 = some r) : CallSpec Try.prog 70 [.str x0] (.bool r) :=
  CallSpec.at2 b70 (n := 34) (l := [(0, .str x0)]) (by kernel_rfl) (by kernel_rfl) (by kernel_rfl) (by kernel_rfl) (by kernel_rfl) (Nat.le_of_ble_eq_true (by kernel_rfl)) (fun Γ => we70 x0 r h Γ)
end Go.Proofs
