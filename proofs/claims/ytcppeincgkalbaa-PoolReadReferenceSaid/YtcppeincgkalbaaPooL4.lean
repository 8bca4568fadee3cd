/-
  Models of functions of the program, and that the functions compute them. Printed by den2.py. No condition.
-/
import Derived.Test.YtcppeincgkalbaaPoo4
set_option linter.unusedVariables false
namespace Go.Proofs
open Go.Den
/-! ### armature armaturelaw05.PoolReadReference -/
noncomputable def b4 : Code := Try.f4.body.getD .skip
noncomputable def c4x0 : Code := sub1 b4
noncomputable def c4x1 : Code := sub1 c4x0
noncomputable def c4x2 : Code := sub1 c4x1
noncomputable def c4x3 : Code := sub1 c4x2
noncomputable def c4x4 : Code := sub1 c4x3
noncomputable def c4x5 : Code := sub1 c4x4
noncomputable def c4x6 : Code := sub1 c4x5
noncomputable def c4x7 : Code := sub1 c4x6
noncomputable def c4x8 : Code := sub1 c4x7
noncomputable def c4x9 : Code := sub1 c4x8
noncomputable def c4x10 : Code := sub1 c4x9
noncomputable def c4x11 : Code := sub1 c4x10
noncomputable def c4x12 : Code := sub1 c4x11
noncomputable def c4x13 : Code := sub1 c4x12
noncomputable def c4x14 : Code := sub0 c4x13
noncomputable def c4x15 : Code := sub1 c4x14
noncomputable def c4x16 : Code := sub0 c4x15
noncomputable def c4x17 : Code := sub1 c4x15
noncomputable def c4x18 : Code := sub1 c4x13
noncomputable def c4x19 : Code := sub0 c4x18
noncomputable def c4x20 : Code := sub1 c4x18
noncomputable def c4x21 : Code := sub0 c4x14
noncomputable def c4x22 : Code := sub0 c4x0
noncomputable def c4x23 : Code := sub1 c4x22
noncomputable def c4x24 : Code := sub0 c4x23
noncomputable def c4x25 : Code := sub1 c4x23
def j4x1 (v2 : T_api_Const × Int) (v3 : T_api_Const × Int) (v4 : (List UInt8) × Int) (v5 : (List UInt8) × Int) (v6 : (List UInt8) × Int) (v7 : (List UInt8) × Int) (v8 : (List UInt8) × Int) (v9 : (List UInt8) × Int) (v10 : (List UInt8) × (List UInt8) × Int) (v11 : (List UInt8) × (List UInt8) × Int) (v12 : T_api_Ref × Int) (v13 : T_api_Ref × Int) : Option (Bool) :=
  (m_armaturelaw05_awake).bind fun v14 =>
  if v14 = true then (if (v2.2 == v3.2) = true then (if (v4.2 == v5.2) = true then (if (v6.2 == v7.2) = true then (if (v8.2 == v9.2) = true then (if (v10.2.2 == v11.2.2) = true then (some (v12.2 == v13.2)) else
            (some false)) else
          (some false)) else
        (some false)) else
      (some false)) else
    (some false)) else
  (some false)
def m_armaturelaw05_PoolReadReference (x0 : List T_api_Const) (x1 : Int) (x2 : Int) : Option (Bool) :=
  (m_armaturelaw05_few x0).bind fun v0 =>
  if (!v0) = true then
    ((m_armaturelaw05_awake).bind fun v1 =>
    some v1) else
  ((m_pool_At x0 x1).bind fun v2 =>
    (m_armatureref05_At x0 x1).bind fun v3 =>
    (m_pool_UTF8 x0 x1).bind fun v4 =>
    (m_armatureref05_UTF8 x0 x1).bind fun v5 =>
    (m_pool_ClassName x0 x1).bind fun v6 =>
    (m_armatureref05_ClassName x0 x1).bind fun v7 =>
    (m_pool_StringValue x0 x1).bind fun v8 =>
    (m_armatureref05_StringValue x0 x1).bind fun v9 =>
    (m_pool_NameAndType x0 x1).bind fun v10 =>
    (m_armatureref05_NameAndType x0 x1).bind fun v11 =>
    (m_pool_MemberRef x0 x1 x2).bind fun v12 =>
    (m_armatureref05_MemberRef x0 x1 x2).bind fun v13 =>
    if (!(eqb_T_api_Const v2.1 v3.1)) = true then (some false) else
    (if (!(v4.1 == v5.1)) = true then (some false) else
      (if (!(v6.1 == v7.1)) = true then (some false) else
        (if (!(v8.1 == v9.1)) = true then (some false) else
          (if (!(v10.1 == v11.1)) = true then (some false) else
            (if (!(v10.2.1 == v11.2.1)) = true then (some false) else
              (if (!(eqb_T_api_Ref v12.1 v13.1)) = true then
                  (some false) else
                ((j4x1 v2 v3 v4 v5 v6 v7 v8 v9 v10 v11 v12 v13) ))))))))
theorem wj4x1 (v2 : T_api_Const × Int) (v3 : T_api_Const × Int) (v4 : (List UInt8) × Int) (v5 : (List UInt8) × Int) (v6 : (List UInt8) × Int) (v7 : (List UInt8) × Int) (v8 : (List UInt8) × Int) (v9 : (List UInt8) × Int) (v10 : (List UInt8) × (List UInt8) × Int) (v11 : (List UInt8) × (List UInt8) × Int) (v12 : T_api_Ref × Int) (v13 : T_api_Ref × Int) (r : Bool) (h : (j4x1 v2 v3 v4 v5 v6 v7 v8 v9 v10 v11 v12 v13)  = some r) (Γ : Ctx) : EvOk Try.prog Γ (Den.Ends Try.prog Try.f4 (.bool r)) (mkS 177 [(8, dI v2.2), (10, dI v3.2), (12, dI v4.2), (14, dI v5.2), (16, dI v6.2), (18, dI v7.2), (20, dI v8.2), (22, dI v9.2), (25, dI v10.2.2), (28, dI v11.2.2), (30, dI v12.2), (32, dI v13.2)] []) (.stop c4x19 [.seq c4x20]) := by
  refine EvOk.stop (At.ops (l := iv 0 32) (by kernel_rfl) (by kernel_rfl) ?_)
  obtain ⟨v14, e14, h⟩ := bindE h
  refine AtOps.run (iv 0 2) (iv 2 30) [(0, aB v14)] [] [8, 10, 12, 14, 16, 18, 20, 22, 25, 28, 30, 32, 147] [] (n := 177) (sl := [(8, dI v2.2), (10, dI v3.2), (12, dI v4.2), (14, dI v5.2), (16, dI v6.2), (18, dI v7.2), (20, dI v8.2), (22, dI v9.2), (25, dI v10.2.2), (28, dI v11.2.2), (30, dI v12.2), (32, dI v13.2), (147, .bool v14)]) (bl := []) (q := [True ∧ (cq Try.prog (tN 0) 10 [] (.bool v14))]) (by kernel_rfl) (by kernel_rfl) ⟨⟨trivial, cqi (tNi 0) (w10 e14)⟩, trivial⟩ ?_
  rcases Bool.eq_false_or_eq_true v14 with h8 | h8
  · replace h := iteT h8 h
    refine AtOps.run (iv 2 5) (iv 7 25) [(5, aT)] [(2, true), (3, true), (4, true)] [12, 14, 16, 18, 20, 22, 25, 28, 30, 32, 152] [] (n := 177) (sl := [(12, dI v4.2), (14, dI v5.2), (16, dI v6.2), (18, dI v7.2), (20, dI v8.2), (22, dI v9.2), (25, dI v10.2.2), (28, dI v11.2.2), (30, dI v12.2), (32, dI v13.2), (152, .bool (v2.2 == v3.2))]) (bl := []) (q := [(v14 == true) = true ∧ True, (v14 == true) = true ∧ True, (v14 == true) = true ∧ True, True ∧ (v14 = true)]) (by kernel_rfl) (by kernel_rfl) ⟨⟨(gB h8 rfl), trivial⟩, ⟨(gB h8 rfl), trivial⟩, ⟨(gB h8 rfl), trivial⟩, ⟨trivial, h8⟩, trivial⟩ ?_
    rcases Bool.eq_false_or_eq_true (v2.2 == v3.2) with h9 | h9
    · replace h := iteT h9 h
      refine AtOps.run (iv 7 5) (iv 12 20) [(10, aT)] [(7, true), (8, true), (9, true)] [16, 18, 20, 22, 25, 28, 30, 32, 157] [] (n := 177) (sl := [(16, dI v6.2), (18, dI v7.2), (20, dI v8.2), (22, dI v9.2), (25, dI v10.2.2), (28, dI v11.2.2), (30, dI v12.2), (32, dI v13.2), (157, .bool (v4.2 == v5.2))]) (bl := []) (q := [((v2.2 == v3.2) == true) = true ∧ True, ((v2.2 == v3.2) == true) = true ∧ True, ((v2.2 == v3.2) == true) = true ∧ True, True ∧ ((v2.2 == v3.2) = true)]) (by kernel_rfl) (by kernel_rfl) ⟨⟨(gB h9 rfl), trivial⟩, ⟨(gB h9 rfl), trivial⟩, ⟨(gB h9 rfl), trivial⟩, ⟨trivial, h9⟩, trivial⟩ ?_
      rcases Bool.eq_false_or_eq_true (v4.2 == v5.2) with h10 | h10
      · replace h := iteT h10 h
        refine AtOps.run (iv 12 5) (iv 17 15) [(15, aT)] [(12, true), (13, true), (14, true)] [20, 22, 25, 28, 30, 32, 162] [] (n := 177) (sl := [(20, dI v8.2), (22, dI v9.2), (25, dI v10.2.2), (28, dI v11.2.2), (30, dI v12.2), (32, dI v13.2), (162, .bool (v6.2 == v7.2))]) (bl := []) (q := [((v4.2 == v5.2) == true) = true ∧ True, ((v4.2 == v5.2) == true) = true ∧ True, ((v4.2 == v5.2) == true) = true ∧ True, True ∧ ((v4.2 == v5.2) = true)]) (by kernel_rfl) (by kernel_rfl) ⟨⟨(gB h10 rfl), trivial⟩, ⟨(gB h10 rfl), trivial⟩, ⟨(gB h10 rfl), trivial⟩, ⟨trivial, h10⟩, trivial⟩ ?_
        rcases Bool.eq_false_or_eq_true (v6.2 == v7.2) with h11 | h11
        · replace h := iteT h11 h
          refine AtOps.run (iv 17 5) (iv 22 10) [(20, aT)] [(17, true), (18, true), (19, true)] [25, 28, 30, 32, 167] [] (n := 177) (sl := [(25, dI v10.2.2), (28, dI v11.2.2), (30, dI v12.2), (32, dI v13.2), (167, .bool (v8.2 == v9.2))]) (bl := []) (q := [((v6.2 == v7.2) == true) = true ∧ True, ((v6.2 == v7.2) == true) = true ∧ True, ((v6.2 == v7.2) == true) = true ∧ True, True ∧ ((v6.2 == v7.2) = true)]) (by kernel_rfl) (by kernel_rfl) ⟨⟨(gB h11 rfl), trivial⟩, ⟨(gB h11 rfl), trivial⟩, ⟨(gB h11 rfl), trivial⟩, ⟨trivial, h11⟩, trivial⟩ ?_
          rcases Bool.eq_false_or_eq_true (v8.2 == v9.2) with h12 | h12
          · replace h := iteT h12 h
            refine AtOps.run (iv 22 5) (iv 27 5) [(25, aT)] [(22, true), (23, true), (24, true)] [30, 32, 172] [] (n := 177) (sl := [(30, dI v12.2), (32, dI v13.2), (172, .bool (v10.2.2 == v11.2.2))]) (bl := []) (q := [((v8.2 == v9.2) == true) = true ∧ True, ((v8.2 == v9.2) == true) = true ∧ True, ((v8.2 == v9.2) == true) = true ∧ True, True ∧ ((v8.2 == v9.2) = true)]) (by kernel_rfl) (by kernel_rfl) ⟨⟨(gB h12 rfl), trivial⟩, ⟨(gB h12 rfl), trivial⟩, ⟨(gB h12 rfl), trivial⟩, ⟨trivial, h12⟩, trivial⟩ ?_
            rcases Bool.eq_false_or_eq_true (v10.2.2 == v11.2.2) with h13 | h13
            · replace h := iteT h13 h
              refine AtOps.run (iv 27 5) (iv 32 0) [(30, aT)] [(27, true), (28, true), (29, true)] [6] [] (n := 177) (sl := [(6, .bool (v12.2 == v13.2))]) (bl := []) (q := [((v10.2.2 == v11.2.2) == true) = true ∧ True, ((v10.2.2 == v11.2.2) == true) = true ∧ True, ((v10.2.2 == v11.2.2) == true) = true ∧ True, True ∧ ((v10.2.2 == v11.2.2) = true)]) (by kernel_rfl) (by kernel_rfl) ⟨⟨(gB h13 rfl), trivial⟩, ⟨(gB h13 rfl), trivial⟩, ⟨(gB h13 rfl), trivial⟩, ⟨trivial, h13⟩, trivial⟩ ?_
              refine AtOps.done ?_
              refine At.advN [] [] 400 (ev := .ret) (σ' := mkS 177 [(6, .bool (v12.2 == v13.2))] []) (q := []) (by kernel_rfl) trivial ?_
              refine EvOk.ret ?_
              obtain rfl := someE h
              exact Den.Ends.mk (.inl rfl) (d := .bool (v12.2 == v13.2)) (p := (True ∧ True) ∧ (tN 1)) (by kernel_rfl) ⟨⟨trivial, trivial⟩, tNi 1⟩ (by kernel_rfl)
            · replace h := iteF h13 h
              refine AtOps.run (iv 27 5) (iv 32 0) [(30, aF)] [(27, false), (28, false), (29, false)] [6] [] (n := 177) (sl := [(6, .bool false)]) (bl := []) (q := [((v10.2.2 == v11.2.2) == true) = false, ((v10.2.2 == v11.2.2) == true) = false, ((v10.2.2 == v11.2.2) == true) = false, True ∧ ((v10.2.2 == v11.2.2) = false)]) (by kernel_rfl) (by kernel_rfl) ⟨gB h13 rfl, gB h13 rfl, gB h13 rfl, ⟨trivial, h13⟩, trivial⟩ ?_
              refine AtOps.done ?_
              refine At.advN [] [] 400 (ev := .ret) (σ' := mkS 177 [(6, .bool false)] []) (q := []) (by kernel_rfl) trivial ?_
              refine EvOk.ret ?_
              obtain rfl := someE h
              exact Den.Ends.mk (.inl rfl) (d := .bool false) (p := (True ∧ True) ∧ (tN 1)) (by kernel_rfl) ⟨⟨trivial, trivial⟩, tNi 1⟩ (by kernel_rfl)
          · replace h := iteF h12 h
            refine AtOps.run (iv 22 10) (iv 32 0) [(25, aF)] [(22, false), (23, false), (24, false)] [6] [] (n := 177) (sl := [(6, .bool false)]) (bl := []) (q := [((v8.2 == v9.2) == true) = false, ((v8.2 == v9.2) == true) = false, ((v8.2 == v9.2) == true) = false, True ∧ ((v8.2 == v9.2) = false), True, True, True]) (by kernel_rfl) (by kernel_rfl) ⟨gB h12 rfl, gB h12 rfl, gB h12 rfl, ⟨trivial, h12⟩, trivial, trivial, trivial, trivial⟩ ?_
            refine AtOps.done ?_
            refine At.advN [] [] 400 (ev := .ret) (σ' := mkS 177 [(6, .bool false)] []) (q := []) (by kernel_rfl) trivial ?_
            refine EvOk.ret ?_
            obtain rfl := someE h
            exact Den.Ends.mk (.inl rfl) (d := .bool false) (p := (True ∧ True) ∧ (tN 1)) (by kernel_rfl) ⟨⟨trivial, trivial⟩, tNi 1⟩ (by kernel_rfl)
        · replace h := iteF h11 h
          refine AtOps.run (iv 17 15) (iv 32 0) [(20, aF)] [(17, false), (18, false), (19, false)] [6] [] (n := 177) (sl := [(6, .bool false)]) (bl := []) (q := [((v6.2 == v7.2) == true) = false, ((v6.2 == v7.2) == true) = false, ((v6.2 == v7.2) == true) = false, True ∧ ((v6.2 == v7.2) = false), True, True, True, True, True, True]) (by kernel_rfl) (by kernel_rfl) ⟨gB h11 rfl, gB h11 rfl, gB h11 rfl, ⟨trivial, h11⟩, trivial, trivial, trivial, trivial, trivial, trivial, trivial⟩ ?_
          refine AtOps.done ?_
          refine At.advN [] [] 400 (ev := .ret) (σ' := mkS 177 [(6, .bool false)] []) (q := []) (by kernel_rfl) trivial ?_
          refine EvOk.ret ?_
          obtain rfl := someE h
          exact Den.Ends.mk (.inl rfl) (d := .bool false) (p := (True ∧ True) ∧ (tN 1)) (by kernel_rfl) ⟨⟨trivial, trivial⟩, tNi 1⟩ (by kernel_rfl)
      · replace h := iteF h10 h
        refine AtOps.run (iv 12 20) (iv 32 0) [(15, aF)] [(12, false), (13, false), (14, false)] [6] [] (n := 177) (sl := [(6, .bool false)]) (bl := []) (q := [((v4.2 == v5.2) == true) = false, ((v4.2 == v5.2) == true) = false, ((v4.2 == v5.2) == true) = false, True ∧ ((v4.2 == v5.2) = false), True, True, True, True, True, True, True, True, True]) (by kernel_rfl) (by kernel_rfl) ⟨gB h10 rfl, gB h10 rfl, gB h10 rfl, ⟨trivial, h10⟩, trivial, trivial, trivial, trivial, trivial, trivial, trivial, trivial, trivial, trivial⟩ ?_
        refine AtOps.done ?_
        refine At.advN [] [] 400 (ev := .ret) (σ' := mkS 177 [(6, .bool false)] []) (q := []) (by kernel_rfl) trivial ?_
        refine EvOk.ret ?_
        obtain rfl := someE h
        exact Den.Ends.mk (.inl rfl) (d := .bool false) (p := (True ∧ True) ∧ (tN 1)) (by kernel_rfl) ⟨⟨trivial, trivial⟩, tNi 1⟩ (by kernel_rfl)
    · replace h := iteF h9 h
      refine AtOps.run (iv 7 25) (iv 32 0) [(10, aF)] [(7, false), (8, false), (9, false)] [6] [] (n := 177) (sl := [(6, .bool false)]) (bl := []) (q := [((v2.2 == v3.2) == true) = false, ((v2.2 == v3.2) == true) = false, ((v2.2 == v3.2) == true) = false, True ∧ ((v2.2 == v3.2) = false), True, True, True, True, True, True, True, True, True, True, True, True]) (by kernel_rfl) (by kernel_rfl) ⟨gB h9 rfl, gB h9 rfl, gB h9 rfl, ⟨trivial, h9⟩, trivial, trivial, trivial, trivial, trivial, trivial, trivial, trivial, trivial, trivial, trivial, trivial, trivial⟩ ?_
      refine AtOps.done ?_
      refine At.advN [] [] 400 (ev := .ret) (σ' := mkS 177 [(6, .bool false)] []) (q := []) (by kernel_rfl) trivial ?_
      refine EvOk.ret ?_
      obtain rfl := someE h
      exact Den.Ends.mk (.inl rfl) (d := .bool false) (p := (True ∧ True) ∧ (tN 1)) (by kernel_rfl) ⟨⟨trivial, trivial⟩, tNi 1⟩ (by kernel_rfl)
  · replace h := iteF h8 h
    refine AtOps.run (iv 2 30) (iv 32 0) [(5, aF)] [(2, false), (3, false), (4, false)] [6] [] (n := 177) (sl := [(6, .bool false)]) (bl := []) (q := [(v14 == true) = false, (v14 == true) = false, (v14 == true) = false, True ∧ (v14 = false), True, True, True, True, True, True, True, True, True, True, True, True, True, True, True]) (by kernel_rfl) (by kernel_rfl) ⟨gB h8 rfl, gB h8 rfl, gB h8 rfl, ⟨trivial, h8⟩, trivial, trivial, trivial, trivial, trivial, trivial, trivial, trivial, trivial, trivial, trivial, trivial, trivial, trivial, trivial, trivial⟩ ?_
    refine AtOps.done ?_
    refine At.advN [] [] 400 (ev := .ret) (σ' := mkS 177 [(6, .bool false)] []) (q := []) (by kernel_rfl) trivial ?_
    refine EvOk.ret ?_
    obtain rfl := someE h
    exact Den.Ends.mk (.inl rfl) (d := .bool false) (p := (True ∧ True) ∧ (tN 1)) (by kernel_rfl) ⟨⟨trivial, trivial⟩, tNi 1⟩ (by kernel_rfl)
theorem we4 (x0 : List T_api_Const) (x1 : Int) (x2 : Int) (r : Bool) (h : m_armaturelaw05_PoolReadReference x0 x1 x2 = some r) (Γ : Ctx) : At Try.prog Γ b4 [] (Den.Ends Try.prog Try.f4 (.bool r)) (mkS 177 [(0, .sl false (x0.map row_T_api_Const)), (1, dI x1), (2, dI x2)] []) := by
  obtain ⟨v0, e0, h⟩ := bindE h
  refine At.adv [] [(0, { keep := some ([0, 1, 2], []) }), (1, { told := [(1, aB v0)], keep := some ([0, 1, 2, 35], []) })] 400 (ev := .cond (!v0) c4x24 c4x25 [.seq c4x1]) (σ' := mkS 177 [(0, .sl false (x0.map row_T_api_Const)), (1, dI x1), (2, dI x2), (35, .bool (!v0))] []) (q := [True ∧ (cq Try.prog (tN 1) 8 [.sl false (x0.map row_T_api_Const)] (.bool v0))]) (by kernel_rfl) ⟨⟨trivial, cqi (tNi 1) (w8 e0)⟩, trivial⟩ ?_
  refine EvOk.cond (fun h0 => ?_) (fun h0 => ?_)
  · replace h := iteT h0 h
    refine At.gc [] [] (n := 177) (l := []) (bl := []) (by kernel_rfl) ?_
    obtain ⟨v1, e1, h⟩ := bindE h
    refine At.adv [] [(2, { told := [(0, aB v1)], keep := some ([6], []) })] 400 (ev := .ret) (σ' := mkS 177 [(6, .bool v1)] []) (q := [True ∧ (cq Try.prog (tN 0) 10 [] (.bool v1))]) (by kernel_rfl) ⟨⟨trivial, cqi (tNi 0) (w10 e1)⟩, trivial⟩ ?_
    refine EvOk.ret ?_
    obtain rfl := someE h
    exact Den.Ends.mk (.inl rfl) (d := .bool v1) (p := (True ∧ True) ∧ (tN 1)) (by kernel_rfl) ⟨⟨trivial, trivial⟩, tNi 1⟩ (by kernel_rfl)
  · replace h := iteF h0 h
    refine At.gc [0, 1, 2] [] (n := 177) (l := [(0, .sl false (x0.map row_T_api_Const)), (1, dI x1), (2, dI x2)]) (bl := []) (by kernel_rfl) ?_
    obtain ⟨v2, e2, h⟩ := bindE h
    obtain ⟨v3, e3, h⟩ := bindE h
    obtain ⟨v4, e4, h⟩ := bindE h
    obtain ⟨v5, e5, h⟩ := bindE h
    obtain ⟨v6, e6, h⟩ := bindE h
    obtain ⟨v7, e7, h⟩ := bindE h
    obtain ⟨v8, e8, h⟩ := bindE h
    obtain ⟨v9, e9, h⟩ := bindE h
    obtain ⟨v10, e10, h⟩ := bindE h
    obtain ⟨v11, e11, h⟩ := bindE h
    obtain ⟨v12, e12, h⟩ := bindE h
    obtain ⟨v13, e13, h⟩ := bindE h
    refine At.adv [15] [(3, { told := [(2, { ans := .val (.tup [.agg (row_T_api_Const v2.1), dI v2.2]) })], keep := some ([0, 1, 2, 7, 8], [(7, 7)]) }), (4, { told := [(2, { ans := .val (.tup [.agg (row_T_api_Const v3.1), dI v3.2]) })], keep := some ([0, 1, 2, 7, 8, 9, 10], [(7, 7), (9, 9)]) }), (5, { told := [(2, { ans := .val (.tup [.str v4.1, dI v4.2]) })], keep := some ([0, 1, 2, 7, 8, 9, 10, 11, 12], [(7, 7), (9, 9)]) }), (6, { told := [(2, { ans := .val (.tup [.str v5.1, dI v5.2]) })], keep := some ([0, 1, 2, 7, 8, 9, 10, 11, 12, 13, 14], [(7, 7), (9, 9)]) }), (7, { told := [(2, { ans := .val (.tup [.str v6.1, dI v6.2]) })], keep := some ([0, 1, 2, 7, 8, 9, 10, 11, 12, 13, 14, 15, 16], [(7, 7), (9, 9)]) }), (8, { told := [(2, { ans := .val (.tup [.str v7.1, dI v7.2]) })], keep := some ([0, 1, 2, 7, 8, 9, 10, 11, 12, 13, 14, 15, 16, 17, 18], [(7, 7), (9, 9)]) }), (9, { told := [(2, { ans := .val (.tup [.str v8.1, dI v8.2]) })], keep := some ([0, 1, 2, 7, 8, 9, 10, 11, 12, 13, 14, 15, 16, 17, 18, 19, 20], [(7, 7), (9, 9)]) }), (10, { told := [(2, { ans := .val (.tup [.str v9.1, dI v9.2]) })], keep := some ([0, 1, 2, 7, 8, 9, 10, 11, 12, 13, 14, 15, 16, 17, 18, 19, 20, 21, 22], [(7, 7), (9, 9)]) }), (11, { told := [(2, { ans := .val (.tup [.str v10.1, .str v10.2.1, dI v10.2.2]) })], keep := some ([0, 1, 2, 7, 8, 9, 10, 11, 12, 13, 14, 15, 16, 17, 18, 19, 20, 21, 22, 23, 24, 25], [(7, 7), (9, 9)]) }), (12, { told := [(2, { ans := .val (.tup [.str v11.1, .str v11.2.1, dI v11.2.2]) })], keep := some ([0, 1, 2, 7, 8, 9, 10, 11, 12, 13, 14, 15, 16, 17, 18, 19, 20, 21, 22, 23, 24, 25, 26, 27, 28], [(7, 7), (9, 9)]) }), (13, { told := [(3, { ans := .val (.tup [.agg (row_T_api_Ref v12.1), dI v12.2]) })], keep := some ([0, 1, 2, 7, 8, 9, 10, 11, 12, 13, 14, 15, 16, 17, 18, 19, 20, 21, 22, 23, 24, 25, 26, 27, 28, 29, 30], [(7, 7), (9, 9), (29, 29)]) }), (14, { told := [(3, { ans := .val (.tup [.agg (row_T_api_Ref v13.1), dI v13.2]) })], keep := some ([7, 8, 9, 10, 11, 12, 13, 14, 15, 16, 17, 18, 19, 20, 21, 22, 23, 24, 25, 26, 27, 28, 29, 30, 31, 32], [(7, 7), (9, 9), (29, 29), (31, 31)]) })] 400 (ev := .stop c4x21 [.seq c4x15, .seq c4x18]) (σ' := mkS 177 [(7, .lptr 7 0 0), (8, dI v2.2), (9, .lptr 9 0 0), (10, dI v3.2), (11, .str v4.1), (12, dI v4.2), (13, .str v5.1), (14, dI v5.2), (15, .str v6.1), (16, dI v6.2), (17, .str v7.1), (18, dI v7.2), (19, .str v8.1), (20, dI v8.2), (21, .str v9.1), (22, dI v9.2), (23, .str v10.1), (24, .str v10.2.1), (25, dI v10.2.2), (26, .str v11.1), (27, .str v11.2.1), (28, dI v11.2.2), (29, .lptr 29 0 0), (30, dI v12.2), (31, .lptr 31 0 0), (32, dI v13.2)] [(7, { sz := 5, rows := [row_T_api_Const v2.1], frz := 0, pure := false }), (9, { sz := 5, rows := [row_T_api_Const v3.1], frz := 0, pure := false }), (29, { sz := 3, rows := [row_T_api_Ref v12.1], frz := 0, pure := false }), (31, { sz := 3, rows := [row_T_api_Ref v13.1], frz := 0, pure := false })]) (q := [True ∧ (cq Try.prog (tN 2) 12 [.sl false (x0.map row_T_api_Const), dI x1] (.tup [.agg (row_T_api_Const v2.1), dI v2.2])), True ∧ (0 ≤ 0 ∧ 0 + ([dI v2.1.f_Tag, .str v2.1.f_S, dI v2.1.f_N, dI v2.1.f_A, dI v2.1.f_B] : List D).length ≤ ([dI 0, .str [], dI 0, dI 0, dI 0] : List D).length ∧ ([[dI v2.1.f_Tag, .str v2.1.f_S, dI v2.1.f_N, dI v2.1.f_A, dI v2.1.f_B]] : List (List D)) = ([[dI v2.1.f_Tag, .str v2.1.f_S, dI v2.1.f_N, dI v2.1.f_A, dI v2.1.f_B]] : List (List D))), True ∧ (cq Try.prog (tN 2) 13 [.sl false (x0.map row_T_api_Const), dI x1] (.tup [.agg (row_T_api_Const v3.1), dI v3.2])), True ∧ (0 ≤ 0 ∧ 0 + ([dI v3.1.f_Tag, .str v3.1.f_S, dI v3.1.f_N, dI v3.1.f_A, dI v3.1.f_B] : List D).length ≤ ([dI 0, .str [], dI 0, dI 0, dI 0] : List D).length ∧ ([[dI v3.1.f_Tag, .str v3.1.f_S, dI v3.1.f_N, dI v3.1.f_A, dI v3.1.f_B]] : List (List D)) = ([[dI v3.1.f_Tag, .str v3.1.f_S, dI v3.1.f_N, dI v3.1.f_A, dI v3.1.f_B]] : List (List D))), True ∧ (cq Try.prog (tN 2) 14 [.sl false (x0.map row_T_api_Const), dI x1] (.tup [.str v4.1, dI v4.2])), True ∧ (cq Try.prog (tN 2) 15 [.sl false (x0.map row_T_api_Const), dI x1] (.tup [.str v5.1, dI v5.2])), True ∧ (cq Try.prog (tN 2) 16 [.sl false (x0.map row_T_api_Const), dI x1] (.tup [.str v6.1, dI v6.2])), True ∧ (cq Try.prog (tN 2) 17 [.sl false (x0.map row_T_api_Const), dI x1] (.tup [.str v7.1, dI v7.2])), True ∧ (cq Try.prog (tN 2) 18 [.sl false (x0.map row_T_api_Const), dI x1] (.tup [.str v8.1, dI v8.2])), True ∧ (cq Try.prog (tN 2) 19 [.sl false (x0.map row_T_api_Const), dI x1] (.tup [.str v9.1, dI v9.2])), True ∧ (cq Try.prog (tN 2) 20 [.sl false (x0.map row_T_api_Const), dI x1] (.tup [.str v10.1, .str v10.2.1, dI v10.2.2])), True ∧ (cq Try.prog (tN 2) 21 [.sl false (x0.map row_T_api_Const), dI x1] (.tup [.str v11.1, .str v11.2.1, dI v11.2.2])), True ∧ (cq Try.prog (tN 3) 22 [.sl false (x0.map row_T_api_Const), dI x1, dI x2] (.tup [.agg (row_T_api_Ref v12.1), dI v12.2])), True ∧ (0 ≤ 0 ∧ 0 + ([.str v12.1.f_Class, .str v12.1.f_Name, .str v12.1.f_Desc] : List D).length ≤ ([.str [], .str [], .str []] : List D).length ∧ ([[.str v12.1.f_Class, .str v12.1.f_Name, .str v12.1.f_Desc]] : List (List D)) = ([[.str v12.1.f_Class, .str v12.1.f_Name, .str v12.1.f_Desc]] : List (List D))), True ∧ (cq Try.prog (tN 3) 23 [.sl false (x0.map row_T_api_Const), dI x1, dI x2] (.tup [.agg (row_T_api_Ref v13.1), dI v13.2])), True ∧ (0 ≤ 0 ∧ 0 + ([.str v13.1.f_Class, .str v13.1.f_Name, .str v13.1.f_Desc] : List D).length ≤ ([.str [], .str [], .str []] : List D).length ∧ ([[.str v13.1.f_Class, .str v13.1.f_Name, .str v13.1.f_Desc]] : List (List D)) = ([[.str v13.1.f_Class, .str v13.1.f_Name, .str v13.1.f_Desc]] : List (List D)))]) (by kernel_rfl) ⟨⟨trivial, cqi (tNi 2) (w12 e2)⟩, ⟨trivial, ⟨Nat.zero_le _, Nat.le_of_ble_eq_true rfl, rfl⟩⟩, ⟨trivial, cqi (tNi 2) (w13 e3)⟩, ⟨trivial, ⟨Nat.zero_le _, Nat.le_of_ble_eq_true rfl, rfl⟩⟩, ⟨trivial, cqi (tNi 2) (w14 e4)⟩, ⟨trivial, cqi (tNi 2) (w15 e5)⟩, ⟨trivial, cqi (tNi 2) (w16 e6)⟩, ⟨trivial, cqi (tNi 2) (w17 e7)⟩, ⟨trivial, cqi (tNi 2) (w18 e8)⟩, ⟨trivial, cqi (tNi 2) (w19 e9)⟩, ⟨trivial, cqi (tNi 2) (w20 e10)⟩, ⟨trivial, cqi (tNi 2) (w21 e11)⟩, ⟨trivial, cqi (tNi 3) (w22 e12)⟩, ⟨trivial, ⟨Nat.zero_le _, Nat.le_of_ble_eq_true rfl, rfl⟩⟩, ⟨trivial, cqi (tNi 3) (w23 e13)⟩, ⟨trivial, ⟨Nat.zero_le _, Nat.le_of_ble_eq_true rfl, rfl⟩⟩, trivial⟩ ?_
    refine EvOk.stop (At.ops (l := iv 0 33) (by kernel_rfl) (by kernel_rfl) ?_)
    refine AtOps.run (iv 0 4) (iv 4 29) [(2, { ans := .val (.bool (!(eqb_T_api_Const v2.1 v3.1))) })] [] [8, 10, 11, 12, 13, 14, 15, 16, 17, 18, 19, 20, 21, 22, 23, 24, 25, 26, 27, 28, 29, 30, 31, 32, 116] [(29, 29), (31, 31)] (n := 177) (sl := [(8, dI v2.2), (10, dI v3.2), (11, .str v4.1), (12, dI v4.2), (13, .str v5.1), (14, dI v5.2), (15, .str v6.1), (16, dI v6.2), (17, .str v7.1), (18, dI v7.2), (19, .str v8.1), (20, dI v8.2), (21, .str v9.1), (22, dI v9.2), (23, .str v10.1), (24, .str v10.2.1), (25, dI v10.2.2), (26, .str v11.1), (27, .str v11.2.1), (28, dI v11.2.2), (29, .lptr 29 0 0), (30, dI v12.2), (31, .lptr 31 0 0), (32, dI v13.2), (116, .bool (!(eqb_T_api_Const v2.1 v3.1)))]) (bl := [(29, { sz := 3, rows := [row_T_api_Ref v12.1], frz := 0, pure := false }), (31, { sz := 3, rows := [row_T_api_Ref v13.1], frz := 0, pure := false })]) (q := [True ∧ (Try.prog.eqGuardType Try.prog.depth 29 = false ∧ eqq_29 ∧ (!(eqb_T_api_Const v2.1 v3.1)) = (!(eqb_T_api_Const v2.1 v3.1)))]) (by kernel_rfl) (by kernel_rfl) ⟨⟨trivial, ⟨eqg_29, eqp_29, rfl⟩⟩, trivial⟩ ?_
    rcases Bool.eq_false_or_eq_true (!(eqb_T_api_Const v2.1 v3.1)) with h1 | h1
    · replace h := iteT h1 h
      refine AtOps.run (iv 4 29) (iv 33 0) [(7, aT)] [(4, false), (5, false), (6, false)] [8, 10, 12, 14, 16, 18, 20, 22, 25, 28, 30, 32, 145] [] (n := 177) (sl := [(8, dI v2.2), (10, dI v3.2), (12, dI v4.2), (14, dI v5.2), (16, dI v6.2), (18, dI v7.2), (20, dI v8.2), (22, dI v9.2), (25, dI v10.2.2), (28, dI v11.2.2), (30, dI v12.2), (32, dI v13.2), (145, .bool true)]) (bl := []) (q := [((!(eqb_T_api_Const v2.1 v3.1)) == false) = false, ((!(eqb_T_api_Const v2.1 v3.1)) == false) = false, ((!(eqb_T_api_Const v2.1 v3.1)) == false) = false, True ∧ ((!(eqb_T_api_Const v2.1 v3.1)) = true), True, True, True, True, True, True, True, True, True, True, True, True, True, True, True]) (by kernel_rfl) (by kernel_rfl) ⟨gB h1 rfl, gB h1 rfl, gB h1 rfl, ⟨trivial, h1⟩, trivial, trivial, trivial, trivial, trivial, trivial, trivial, trivial, trivial, trivial, trivial, trivial, trivial, trivial, trivial, trivial⟩ ?_
      refine AtOps.done ?_
      refine At.advN [] [] 400 (ev := .cond true c4x16 c4x17 [.seq c4x18]) (σ' := mkS 177 [(8, dI v2.2), (10, dI v3.2), (12, dI v4.2), (14, dI v5.2), (16, dI v6.2), (18, dI v7.2), (20, dI v8.2), (22, dI v9.2), (25, dI v10.2.2), (28, dI v11.2.2), (30, dI v12.2), (32, dI v13.2), (145, .bool true)] []) (q := []) (by kernel_rfl) trivial ?_
      refine EvOk.cond (fun _ => ?_) (fun hb => Bool.noConfusion hb)
      refine At.gc [] [] (n := 177) (l := []) (bl := []) (by kernel_rfl) ?_
      refine At.adv [] [(16, { keep := some ([6], []) })] 400 (ev := .ret) (σ' := mkS 177 [(6, .bool false)] []) (q := []) (by kernel_rfl) trivial ?_
      refine EvOk.ret ?_
      obtain rfl := someE h
      exact Den.Ends.mk (.inl rfl) (d := .bool false) (p := (True ∧ True) ∧ (tN 1)) (by kernel_rfl) ⟨⟨trivial, trivial⟩, tNi 1⟩ (by kernel_rfl)
    · replace h := iteF h1 h
      refine AtOps.run (iv 4 5) (iv 9 24) [(7, aF)] [(4, true), (5, true), (6, true)] [8, 10, 12, 14, 15, 16, 17, 18, 19, 20, 21, 22, 23, 24, 25, 26, 27, 28, 29, 30, 31, 32, 121] [(29, 29), (31, 31)] (n := 177) (sl := [(8, dI v2.2), (10, dI v3.2), (12, dI v4.2), (14, dI v5.2), (15, .str v6.1), (16, dI v6.2), (17, .str v7.1), (18, dI v7.2), (19, .str v8.1), (20, dI v8.2), (21, .str v9.1), (22, dI v9.2), (23, .str v10.1), (24, .str v10.2.1), (25, dI v10.2.2), (26, .str v11.1), (27, .str v11.2.1), (28, dI v11.2.2), (29, .lptr 29 0 0), (30, dI v12.2), (31, .lptr 31 0 0), (32, dI v13.2), (121, .bool (!(v4.1 == v5.1)))]) (bl := [(29, { sz := 3, rows := [row_T_api_Ref v12.1], frz := 0, pure := false }), (31, { sz := 3, rows := [row_T_api_Ref v13.1], frz := 0, pure := false })]) (q := [((!(eqb_T_api_Const v2.1 v3.1)) == false) = true ∧ True, ((!(eqb_T_api_Const v2.1 v3.1)) == false) = true ∧ True, ((!(eqb_T_api_Const v2.1 v3.1)) == false) = true ∧ True, True ∧ ((!(eqb_T_api_Const v2.1 v3.1)) = false)]) (by kernel_rfl) (by kernel_rfl) ⟨⟨(gB h1 rfl), trivial⟩, ⟨(gB h1 rfl), trivial⟩, ⟨(gB h1 rfl), trivial⟩, ⟨trivial, h1⟩, trivial⟩ ?_
      rcases Bool.eq_false_or_eq_true (!(v4.1 == v5.1)) with h2 | h2
      · replace h := iteT h2 h
        refine AtOps.run (iv 9 24) (iv 33 0) [(12, aT)] [(9, false), (10, false), (11, false)] [8, 10, 12, 14, 16, 18, 20, 22, 25, 28, 30, 32, 145] [] (n := 177) (sl := [(8, dI v2.2), (10, dI v3.2), (12, dI v4.2), (14, dI v5.2), (16, dI v6.2), (18, dI v7.2), (20, dI v8.2), (22, dI v9.2), (25, dI v10.2.2), (28, dI v11.2.2), (30, dI v12.2), (32, dI v13.2), (145, .bool true)]) (bl := []) (q := [((!(v4.1 == v5.1)) == false) = false, ((!(v4.1 == v5.1)) == false) = false, ((!(v4.1 == v5.1)) == false) = false, True ∧ ((!(v4.1 == v5.1)) = true), True, True, True, True, True, True, True, True, True, True, True, True]) (by kernel_rfl) (by kernel_rfl) ⟨gB h2 rfl, gB h2 rfl, gB h2 rfl, ⟨trivial, h2⟩, trivial, trivial, trivial, trivial, trivial, trivial, trivial, trivial, trivial, trivial, trivial, trivial, trivial⟩ ?_
        refine AtOps.done ?_
        refine At.advN [] [] 400 (ev := .cond true c4x16 c4x17 [.seq c4x18]) (σ' := mkS 177 [(8, dI v2.2), (10, dI v3.2), (12, dI v4.2), (14, dI v5.2), (16, dI v6.2), (18, dI v7.2), (20, dI v8.2), (22, dI v9.2), (25, dI v10.2.2), (28, dI v11.2.2), (30, dI v12.2), (32, dI v13.2), (145, .bool true)] []) (q := []) (by kernel_rfl) trivial ?_
        refine EvOk.cond (fun _ => ?_) (fun hb => Bool.noConfusion hb)
        refine At.gc [] [] (n := 177) (l := []) (bl := []) (by kernel_rfl) ?_
        refine At.adv [] [(16, { keep := some ([6], []) })] 400 (ev := .ret) (σ' := mkS 177 [(6, .bool false)] []) (q := []) (by kernel_rfl) trivial ?_
        refine EvOk.ret ?_
        obtain rfl := someE h
        exact Den.Ends.mk (.inl rfl) (d := .bool false) (p := (True ∧ True) ∧ (tN 1)) (by kernel_rfl) ⟨⟨trivial, trivial⟩, tNi 1⟩ (by kernel_rfl)
      · replace h := iteF h2 h
        refine AtOps.run (iv 9 5) (iv 14 19) [(12, aF)] [(9, true), (10, true), (11, true)] [8, 10, 12, 14, 16, 18, 19, 20, 21, 22, 23, 24, 25, 26, 27, 28, 29, 30, 31, 32, 126] [(29, 29), (31, 31)] (n := 177) (sl := [(8, dI v2.2), (10, dI v3.2), (12, dI v4.2), (14, dI v5.2), (16, dI v6.2), (18, dI v7.2), (19, .str v8.1), (20, dI v8.2), (21, .str v9.1), (22, dI v9.2), (23, .str v10.1), (24, .str v10.2.1), (25, dI v10.2.2), (26, .str v11.1), (27, .str v11.2.1), (28, dI v11.2.2), (29, .lptr 29 0 0), (30, dI v12.2), (31, .lptr 31 0 0), (32, dI v13.2), (126, .bool (!(v6.1 == v7.1)))]) (bl := [(29, { sz := 3, rows := [row_T_api_Ref v12.1], frz := 0, pure := false }), (31, { sz := 3, rows := [row_T_api_Ref v13.1], frz := 0, pure := false })]) (q := [((!(v4.1 == v5.1)) == false) = true ∧ True, ((!(v4.1 == v5.1)) == false) = true ∧ True, ((!(v4.1 == v5.1)) == false) = true ∧ True, True ∧ ((!(v4.1 == v5.1)) = false)]) (by kernel_rfl) (by kernel_rfl) ⟨⟨(gB h2 rfl), trivial⟩, ⟨(gB h2 rfl), trivial⟩, ⟨(gB h2 rfl), trivial⟩, ⟨trivial, h2⟩, trivial⟩ ?_
        rcases Bool.eq_false_or_eq_true (!(v6.1 == v7.1)) with h3 | h3
        · replace h := iteT h3 h
          refine AtOps.run (iv 14 19) (iv 33 0) [(17, aT)] [(14, false), (15, false), (16, false)] [8, 10, 12, 14, 16, 18, 20, 22, 25, 28, 30, 32, 145] [] (n := 177) (sl := [(8, dI v2.2), (10, dI v3.2), (12, dI v4.2), (14, dI v5.2), (16, dI v6.2), (18, dI v7.2), (20, dI v8.2), (22, dI v9.2), (25, dI v10.2.2), (28, dI v11.2.2), (30, dI v12.2), (32, dI v13.2), (145, .bool true)]) (bl := []) (q := [((!(v6.1 == v7.1)) == false) = false, ((!(v6.1 == v7.1)) == false) = false, ((!(v6.1 == v7.1)) == false) = false, True ∧ ((!(v6.1 == v7.1)) = true), True, True, True, True, True, True, True, True, True]) (by kernel_rfl) (by kernel_rfl) ⟨gB h3 rfl, gB h3 rfl, gB h3 rfl, ⟨trivial, h3⟩, trivial, trivial, trivial, trivial, trivial, trivial, trivial, trivial, trivial, trivial⟩ ?_
          refine AtOps.done ?_
          refine At.advN [] [] 400 (ev := .cond true c4x16 c4x17 [.seq c4x18]) (σ' := mkS 177 [(8, dI v2.2), (10, dI v3.2), (12, dI v4.2), (14, dI v5.2), (16, dI v6.2), (18, dI v7.2), (20, dI v8.2), (22, dI v9.2), (25, dI v10.2.2), (28, dI v11.2.2), (30, dI v12.2), (32, dI v13.2), (145, .bool true)] []) (q := []) (by kernel_rfl) trivial ?_
          refine EvOk.cond (fun _ => ?_) (fun hb => Bool.noConfusion hb)
          refine At.gc [] [] (n := 177) (l := []) (bl := []) (by kernel_rfl) ?_
          refine At.adv [] [(16, { keep := some ([6], []) })] 400 (ev := .ret) (σ' := mkS 177 [(6, .bool false)] []) (q := []) (by kernel_rfl) trivial ?_
          refine EvOk.ret ?_
          obtain rfl := someE h
          exact Den.Ends.mk (.inl rfl) (d := .bool false) (p := (True ∧ True) ∧ (tN 1)) (by kernel_rfl) ⟨⟨trivial, trivial⟩, tNi 1⟩ (by kernel_rfl)
        · replace h := iteF h3 h
          refine AtOps.run (iv 14 5) (iv 19 14) [(17, aF)] [(14, true), (15, true), (16, true)] [8, 10, 12, 14, 16, 18, 20, 22, 23, 24, 25, 26, 27, 28, 29, 30, 31, 32, 131] [(29, 29), (31, 31)] (n := 177) (sl := [(8, dI v2.2), (10, dI v3.2), (12, dI v4.2), (14, dI v5.2), (16, dI v6.2), (18, dI v7.2), (20, dI v8.2), (22, dI v9.2), (23, .str v10.1), (24, .str v10.2.1), (25, dI v10.2.2), (26, .str v11.1), (27, .str v11.2.1), (28, dI v11.2.2), (29, .lptr 29 0 0), (30, dI v12.2), (31, .lptr 31 0 0), (32, dI v13.2), (131, .bool (!(v8.1 == v9.1)))]) (bl := [(29, { sz := 3, rows := [row_T_api_Ref v12.1], frz := 0, pure := false }), (31, { sz := 3, rows := [row_T_api_Ref v13.1], frz := 0, pure := false })]) (q := [((!(v6.1 == v7.1)) == false) = true ∧ True, ((!(v6.1 == v7.1)) == false) = true ∧ True, ((!(v6.1 == v7.1)) == false) = true ∧ True, True ∧ ((!(v6.1 == v7.1)) = false)]) (by kernel_rfl) (by kernel_rfl) ⟨⟨(gB h3 rfl), trivial⟩, ⟨(gB h3 rfl), trivial⟩, ⟨(gB h3 rfl), trivial⟩, ⟨trivial, h3⟩, trivial⟩ ?_
          rcases Bool.eq_false_or_eq_true (!(v8.1 == v9.1)) with h4 | h4
          · replace h := iteT h4 h
            refine AtOps.run (iv 19 14) (iv 33 0) [(22, aT)] [(19, false), (20, false), (21, false)] [8, 10, 12, 14, 16, 18, 20, 22, 25, 28, 30, 32, 145] [] (n := 177) (sl := [(8, dI v2.2), (10, dI v3.2), (12, dI v4.2), (14, dI v5.2), (16, dI v6.2), (18, dI v7.2), (20, dI v8.2), (22, dI v9.2), (25, dI v10.2.2), (28, dI v11.2.2), (30, dI v12.2), (32, dI v13.2), (145, .bool true)]) (bl := []) (q := [((!(v8.1 == v9.1)) == false) = false, ((!(v8.1 == v9.1)) == false) = false, ((!(v8.1 == v9.1)) == false) = false, True ∧ ((!(v8.1 == v9.1)) = true), True, True, True, True, True, True]) (by kernel_rfl) (by kernel_rfl) ⟨gB h4 rfl, gB h4 rfl, gB h4 rfl, ⟨trivial, h4⟩, trivial, trivial, trivial, trivial, trivial, trivial, trivial⟩ ?_
            refine AtOps.done ?_
            refine At.advN [] [] 400 (ev := .cond true c4x16 c4x17 [.seq c4x18]) (σ' := mkS 177 [(8, dI v2.2), (10, dI v3.2), (12, dI v4.2), (14, dI v5.2), (16, dI v6.2), (18, dI v7.2), (20, dI v8.2), (22, dI v9.2), (25, dI v10.2.2), (28, dI v11.2.2), (30, dI v12.2), (32, dI v13.2), (145, .bool true)] []) (q := []) (by kernel_rfl) trivial ?_
            refine EvOk.cond (fun _ => ?_) (fun hb => Bool.noConfusion hb)
            refine At.gc [] [] (n := 177) (l := []) (bl := []) (by kernel_rfl) ?_
            refine At.adv [] [(16, { keep := some ([6], []) })] 400 (ev := .ret) (σ' := mkS 177 [(6, .bool false)] []) (q := []) (by kernel_rfl) trivial ?_
            refine EvOk.ret ?_
            obtain rfl := someE h
            exact Den.Ends.mk (.inl rfl) (d := .bool false) (p := (True ∧ True) ∧ (tN 1)) (by kernel_rfl) ⟨⟨trivial, trivial⟩, tNi 1⟩ (by kernel_rfl)
          · replace h := iteF h4 h
            refine AtOps.run (iv 19 5) (iv 24 9) [(22, aF)] [(19, true), (20, true), (21, true)] [8, 10, 12, 14, 16, 18, 20, 22, 24, 25, 27, 28, 29, 30, 31, 32, 136] [(29, 29), (31, 31)] (n := 177) (sl := [(8, dI v2.2), (10, dI v3.2), (12, dI v4.2), (14, dI v5.2), (16, dI v6.2), (18, dI v7.2), (20, dI v8.2), (22, dI v9.2), (24, .str v10.2.1), (25, dI v10.2.2), (27, .str v11.2.1), (28, dI v11.2.2), (29, .lptr 29 0 0), (30, dI v12.2), (31, .lptr 31 0 0), (32, dI v13.2), (136, .bool (!(v10.1 == v11.1)))]) (bl := [(29, { sz := 3, rows := [row_T_api_Ref v12.1], frz := 0, pure := false }), (31, { sz := 3, rows := [row_T_api_Ref v13.1], frz := 0, pure := false })]) (q := [((!(v8.1 == v9.1)) == false) = true ∧ True, ((!(v8.1 == v9.1)) == false) = true ∧ True, ((!(v8.1 == v9.1)) == false) = true ∧ True, True ∧ ((!(v8.1 == v9.1)) = false)]) (by kernel_rfl) (by kernel_rfl) ⟨⟨(gB h4 rfl), trivial⟩, ⟨(gB h4 rfl), trivial⟩, ⟨(gB h4 rfl), trivial⟩, ⟨trivial, h4⟩, trivial⟩ ?_
            rcases Bool.eq_false_or_eq_true (!(v10.1 == v11.1)) with h5 | h5
            · replace h := iteT h5 h
              refine AtOps.run (iv 24 9) (iv 33 0) [(27, aT)] [(24, false), (25, false), (26, false)] [8, 10, 12, 14, 16, 18, 20, 22, 25, 28, 30, 32, 145] [] (n := 177) (sl := [(8, dI v2.2), (10, dI v3.2), (12, dI v4.2), (14, dI v5.2), (16, dI v6.2), (18, dI v7.2), (20, dI v8.2), (22, dI v9.2), (25, dI v10.2.2), (28, dI v11.2.2), (30, dI v12.2), (32, dI v13.2), (145, .bool true)]) (bl := []) (q := [((!(v10.1 == v11.1)) == false) = false, ((!(v10.1 == v11.1)) == false) = false, ((!(v10.1 == v11.1)) == false) = false, True ∧ ((!(v10.1 == v11.1)) = true), True, True, True]) (by kernel_rfl) (by kernel_rfl) ⟨gB h5 rfl, gB h5 rfl, gB h5 rfl, ⟨trivial, h5⟩, trivial, trivial, trivial, trivial⟩ ?_
              refine AtOps.done ?_
              refine At.advN [] [] 400 (ev := .cond true c4x16 c4x17 [.seq c4x18]) (σ' := mkS 177 [(8, dI v2.2), (10, dI v3.2), (12, dI v4.2), (14, dI v5.2), (16, dI v6.2), (18, dI v7.2), (20, dI v8.2), (22, dI v9.2), (25, dI v10.2.2), (28, dI v11.2.2), (30, dI v12.2), (32, dI v13.2), (145, .bool true)] []) (q := []) (by kernel_rfl) trivial ?_
              refine EvOk.cond (fun _ => ?_) (fun hb => Bool.noConfusion hb)
              refine At.gc [] [] (n := 177) (l := []) (bl := []) (by kernel_rfl) ?_
              refine At.adv [] [(16, { keep := some ([6], []) })] 400 (ev := .ret) (σ' := mkS 177 [(6, .bool false)] []) (q := []) (by kernel_rfl) trivial ?_
              refine EvOk.ret ?_
              obtain rfl := someE h
              exact Den.Ends.mk (.inl rfl) (d := .bool false) (p := (True ∧ True) ∧ (tN 1)) (by kernel_rfl) ⟨⟨trivial, trivial⟩, tNi 1⟩ (by kernel_rfl)
            · replace h := iteF h5 h
              refine AtOps.run (iv 24 5) (iv 29 4) [(27, aF)] [(24, true), (25, true), (26, true)] [8, 10, 12, 14, 16, 18, 20, 22, 25, 28, 29, 30, 31, 32, 141] [(29, 29), (31, 31)] (n := 177) (sl := [(8, dI v2.2), (10, dI v3.2), (12, dI v4.2), (14, dI v5.2), (16, dI v6.2), (18, dI v7.2), (20, dI v8.2), (22, dI v9.2), (25, dI v10.2.2), (28, dI v11.2.2), (29, .lptr 29 0 0), (30, dI v12.2), (31, .lptr 31 0 0), (32, dI v13.2), (141, .bool (!(v10.2.1 == v11.2.1)))]) (bl := [(29, { sz := 3, rows := [row_T_api_Ref v12.1], frz := 0, pure := false }), (31, { sz := 3, rows := [row_T_api_Ref v13.1], frz := 0, pure := false })]) (q := [((!(v10.1 == v11.1)) == false) = true ∧ True, ((!(v10.1 == v11.1)) == false) = true ∧ True, ((!(v10.1 == v11.1)) == false) = true ∧ True, True ∧ ((!(v10.1 == v11.1)) = false)]) (by kernel_rfl) (by kernel_rfl) ⟨⟨(gB h5 rfl), trivial⟩, ⟨(gB h5 rfl), trivial⟩, ⟨(gB h5 rfl), trivial⟩, ⟨trivial, h5⟩, trivial⟩ ?_
              rcases Bool.eq_false_or_eq_true (!(v10.2.1 == v11.2.1)) with h6 | h6
              · replace h := iteT h6 h
                refine AtOps.run (iv 29 4) (iv 33 0) [(32, aT)] [(29, false), (30, false), (31, false)] [8, 10, 12, 14, 16, 18, 20, 22, 25, 28, 30, 32, 145] [] (n := 177) (sl := [(8, dI v2.2), (10, dI v3.2), (12, dI v4.2), (14, dI v5.2), (16, dI v6.2), (18, dI v7.2), (20, dI v8.2), (22, dI v9.2), (25, dI v10.2.2), (28, dI v11.2.2), (30, dI v12.2), (32, dI v13.2), (145, .bool true)]) (bl := []) (q := [((!(v10.2.1 == v11.2.1)) == false) = false, ((!(v10.2.1 == v11.2.1)) == false) = false, ((!(v10.2.1 == v11.2.1)) == false) = false, True ∧ ((!(v10.2.1 == v11.2.1)) = true)]) (by kernel_rfl) (by kernel_rfl) ⟨gB h6 rfl, gB h6 rfl, gB h6 rfl, ⟨trivial, h6⟩, trivial⟩ ?_
                refine AtOps.done ?_
                refine At.advN [] [] 400 (ev := .cond true c4x16 c4x17 [.seq c4x18]) (σ' := mkS 177 [(8, dI v2.2), (10, dI v3.2), (12, dI v4.2), (14, dI v5.2), (16, dI v6.2), (18, dI v7.2), (20, dI v8.2), (22, dI v9.2), (25, dI v10.2.2), (28, dI v11.2.2), (30, dI v12.2), (32, dI v13.2), (145, .bool true)] []) (q := []) (by kernel_rfl) trivial ?_
                refine EvOk.cond (fun _ => ?_) (fun hb => Bool.noConfusion hb)
                refine At.gc [] [] (n := 177) (l := []) (bl := []) (by kernel_rfl) ?_
                refine At.adv [] [(16, { keep := some ([6], []) })] 400 (ev := .ret) (σ' := mkS 177 [(6, .bool false)] []) (q := []) (by kernel_rfl) trivial ?_
                refine EvOk.ret ?_
                obtain rfl := someE h
                exact Den.Ends.mk (.inl rfl) (d := .bool false) (p := (True ∧ True) ∧ (tN 1)) (by kernel_rfl) ⟨⟨trivial, trivial⟩, tNi 1⟩ (by kernel_rfl)
              · replace h := iteF h6 h
                refine AtOps.run (iv 29 4) (iv 33 0) [(31, { ans := .val (.bool (!(eqb_T_api_Ref v12.1 v13.1))) }), (32, aF)] [(29, true), (30, true), (31, true)] [8, 10, 12, 14, 16, 18, 20, 22, 25, 28, 30, 32, 145] [] (n := 177) (sl := [(8, dI v2.2), (10, dI v3.2), (12, dI v4.2), (14, dI v5.2), (16, dI v6.2), (18, dI v7.2), (20, dI v8.2), (22, dI v9.2), (25, dI v10.2.2), (28, dI v11.2.2), (30, dI v12.2), (32, dI v13.2), (145, .bool (!(eqb_T_api_Ref v12.1 v13.1)))]) (bl := []) (q := [((!(v10.2.1 == v11.2.1)) == false) = true ∧ True, ((!(v10.2.1 == v11.2.1)) == false) = true ∧ True, ((!(v10.2.1 == v11.2.1)) == false) = true ∧ (Try.prog.eqGuardType Try.prog.depth 37 = false ∧ eqq_37 ∧ (!(eqb_T_api_Ref v12.1 v13.1)) = (!(eqb_T_api_Ref v12.1 v13.1))), True ∧ ((!(v10.2.1 == v11.2.1)) = false)]) (by kernel_rfl) (by kernel_rfl) ⟨⟨(gB h6 rfl), trivial⟩, ⟨(gB h6 rfl), trivial⟩, ⟨(gB h6 rfl), ⟨eqg_37, eqp_37, rfl⟩⟩, ⟨trivial, h6⟩, trivial⟩ ?_
                refine AtOps.done ?_
                refine At.advN [] [] 400 (ev := .cond (!(eqb_T_api_Ref v12.1 v13.1)) c4x16 c4x17 [.seq c4x18]) (σ' := mkS 177 [(8, dI v2.2), (10, dI v3.2), (12, dI v4.2), (14, dI v5.2), (16, dI v6.2), (18, dI v7.2), (20, dI v8.2), (22, dI v9.2), (25, dI v10.2.2), (28, dI v11.2.2), (30, dI v12.2), (32, dI v13.2), (145, .bool (!(eqb_T_api_Ref v12.1 v13.1)))] []) (q := []) (by kernel_rfl) trivial ?_
                refine EvOk.cond (fun h7 => ?_) (fun h7 => ?_)
                · replace h := iteT h7 h
                  refine At.gc [] [] (n := 177) (l := []) (bl := []) (by kernel_rfl) ?_
                  refine At.adv [] [(16, { keep := some ([6], []) })] 400 (ev := .ret) (σ' := mkS 177 [(6, .bool false)] []) (q := []) (by kernel_rfl) trivial ?_
                  refine EvOk.ret ?_
                  obtain rfl := someE h
                  exact Den.Ends.mk (.inl rfl) (d := .bool false) (p := (True ∧ True) ∧ (tN 1)) (by kernel_rfl) ⟨⟨trivial, trivial⟩, tNi 1⟩ (by kernel_rfl)
                · replace h := iteF h7 h
                  refine At.gc [8, 10, 12, 14, 16, 18, 20, 22, 25, 28, 30, 32] [] (n := 177) (l := [(8, dI v2.2), (10, dI v3.2), (12, dI v4.2), (14, dI v5.2), (16, dI v6.2), (18, dI v7.2), (20, dI v8.2), (22, dI v9.2), (25, dI v10.2.2), (28, dI v11.2.2), (30, dI v12.2), (32, dI v13.2)]) (bl := []) (by kernel_rfl) ?_
                  refine At.adv [17] [] 400 (ev := .stop c4x19 [.seq c4x20]) (σ' := mkS 177 [(8, dI v2.2), (10, dI v3.2), (12, dI v4.2), (14, dI v5.2), (16, dI v6.2), (18, dI v7.2), (20, dI v8.2), (22, dI v9.2), (25, dI v10.2.2), (28, dI v11.2.2), (30, dI v12.2), (32, dI v13.2)] []) (q := []) (by kernel_rfl) trivial ?_
                  exact (wj4x1 v2 v3 v4 v5 v6 v7 v8 v9 v10 v11 v12 v13)  r h Γ
theorem w4 {x0 : List T_api_Const} {x1 : Int} {x2 : Int} {r : Bool} (h : m_armaturelaw05_PoolReadReference x0 x1 x2 = some r) : CallSpec Try.prog 4 [.sl false (x0.map row_T_api_Const), .int .i64 x1, .int .i64 x2] (.bool r) :=
  CallSpec.at2 b4 (n := 177) (l := [(0, .sl false (x0.map row_T_api_Const)), (1, .int .i64 x1), (2, .int .i64 x2)]) (by kernel_rfl) (by kernel_rfl) (by kernel_rfl) (by kernel_rfl) (by kernel_rfl) (Nat.le_of_ble_eq_true (by kernel_rfl)) (fun Γ => we4 x0 x1 x2 r h Γ)
end Go.Proofs
