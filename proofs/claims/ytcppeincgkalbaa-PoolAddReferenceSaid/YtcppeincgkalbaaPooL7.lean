/-
  Models of functions of the program, and that the functions compute them. Printed by den2.py. No condition.
-/
import Derived.Test.YtcppeincgkalbaaPoo4
set_option linter.unusedVariables false
namespace Go.Proofs
open Go.Den
/-! ### armature armaturelaw05.PoolAddReference -/
noncomputable def b7 : Code := Try.f7.body.getD .skip
noncomputable def c7x0 : Code := sub1 b7
noncomputable def c7x1 : Code := sub1 c7x0
noncomputable def c7x2 : Code := sub1 c7x1
noncomputable def c7x3 : Code := sub1 c7x2
noncomputable def c7x4 : Code := sub1 c7x3
noncomputable def c7x5 : Code := sub1 c7x4
noncomputable def c7x6 : Code := sub1 c7x5
noncomputable def c7x7 : Code := sub1 c7x6
noncomputable def c7x8 : Code := sub1 c7x7
noncomputable def c7x9 : Code := sub1 c7x8
noncomputable def c7x10 : Code := sub1 c7x9
noncomputable def c7x11 : Code := sub1 c7x10
noncomputable def c7x12 : Code := sub1 c7x11
noncomputable def c7x13 : Code := sub0 c7x12
noncomputable def c7x14 : Code := sub1 c7x13
noncomputable def c7x15 : Code := sub0 c7x14
noncomputable def c7x16 : Code := sub1 c7x14
noncomputable def c7x17 : Code := sub1 c7x12
noncomputable def c7x18 : Code := sub0 c7x17
noncomputable def c7x19 : Code := sub1 c7x17
noncomputable def c7x20 : Code := sub0 c7x13
noncomputable def c7x21 : Code := sub0 c7x0
noncomputable def c7x22 : Code := sub1 c7x21
noncomputable def c7x23 : Code := sub0 c7x22
noncomputable def c7x24 : Code := sub1 c7x22
def j7x1 (v3 : (List T_api_Const) × Int × Int) (v4 : (List T_api_Const) × Int × Int) (v5 : (List T_api_Const) × Int × Int) (v6 : (List T_api_Const) × Int × Int) (v7 : (List T_api_Const) × Int × Int) (v8 : (List T_api_Const) × Int × Int) (v9 : (List T_api_Const) × Int × Int) (v10 : (List T_api_Const) × Int × Int) (v11 : (List T_api_Const) × Int × Int) (v12 : (List T_api_Const) × Int × Int) : Option (Bool) :=
  (m_armaturelaw05_awake).bind fun v19 =>
  if v19 = true then (if (v3.2.1 == v4.2.1) = true then (if (v5.2.1 == v6.2.1) = true then (if (v7.2.1 == v8.2.1) = true then (if (v9.2.1 == v10.2.1) = true then (if (v11.2.1 == v12.2.1) = true then (if (v3.2.2 == v4.2.2) = true then (if (v5.2.2 == v6.2.2) = true then (if (v7.2.2 == v8.2.2) = true then (if (v9.2.2 == v10.2.2) = true then (some (v11.2.2 == v12.2.2)) else
                    (some false)) else
                  (some false)) else
                (some false)) else
              (some false)) else
            (some false)) else
          (some false)) else
        (some false)) else
      (some false)) else
    (some false)) else
  (some false)
def m_armaturelaw05_PoolAddReference (x0 : List T_api_Const) (x1 : T_api_Const) (x2 : List UInt8) (x3 : Int) (x4 : T_api_Ref) : Option (Bool) :=
  (m_armaturelaw05_few x0).bind fun v0 =>
  if (!v0) = true then
    ((m_armaturelaw05_awake).bind fun v1 =>
    some v1) else
  ((growK 48 (([] : List T_api_Const) ++ x0).length).bind fun v2 =>
    (m_pool_Add (([] : List T_api_Const) ++ x0) x1).bind fun v3 =>
    (m_armatureref05_Add x0 x1).bind fun v4 =>
    (m_pool_AddUTF8 (([] : List T_api_Const) ++ x0) x2).bind fun v5 =>
    (m_armatureref05_AddUTF8 x0 x2).bind fun v6 =>
    (m_pool_AddClass (([] : List T_api_Const) ++ x0) x2).bind fun v7 =>
    (m_armatureref05_AddClass x0 x2).bind fun v8 =>
    (m_pool_AddString (([] : List T_api_Const) ++ x0) x2).bind fun v9 =>
    (m_armatureref05_AddString x0 x2).bind fun v10 =>
    (m_pool_AddMemberRef (([] : List T_api_Const) ++ x0) x3 x4).bind fun v11 =>
    (m_armatureref05_AddMemberRef x0 x3 x4).bind fun v12 =>
    (m_armatureref05_Same v3.1 v4.1).bind fun v13 =>
    if (!v13) = true then (some false) else
    ((m_armatureref05_Same v5.1 v6.1).bind fun v14 =>
      if (!v14) = true then (some false) else
      ((m_armatureref05_Same v7.1 v8.1).bind fun v15 =>
        if (!v15) = true then (some false) else
        ((m_armatureref05_Same v9.1 v10.1).bind fun v16 =>
          if (!v16) = true then (some false) else
          ((m_armatureref05_Same v11.1 v12.1).bind fun v17 =>
            if (!v17) = true then (some false) else
            ((m_armatureref05_Same (([] : List T_api_Const) ++ x0) x0).bind fun v18 =>
              if (!v18) = true then
                (some false) else
              ((j7x1 v3 v4 v5 v6 v7 v8 v9 v10 v11 v12) )))))))
theorem wj7x1 (v3 : (List T_api_Const) × Int × Int) (v4 : (List T_api_Const) × Int × Int) (v5 : (List T_api_Const) × Int × Int) (v6 : (List T_api_Const) × Int × Int) (v7 : (List T_api_Const) × Int × Int) (v8 : (List T_api_Const) × Int × Int) (v9 : (List T_api_Const) × Int × Int) (v10 : (List T_api_Const) × Int × Int) (v11 : (List T_api_Const) × Int × Int) (v12 : (List T_api_Const) × Int × Int) (r : Bool) (h : (j7x1 v3 v4 v5 v6 v7 v8 v9 v10 v11 v12)  = some r) (Γ : Ctx) : EvOk Try.prog Γ (Den.Ends Try.prog Try.f7 (.bool r)) (mkS 206 [(13, dI v3.2.1), (14, dI v3.2.2), (16, dI v4.2.1), (17, dI v4.2.2), (19, dI v5.2.1), (20, dI v5.2.2), (22, dI v6.2.1), (23, dI v6.2.2), (25, dI v7.2.1), (26, dI v7.2.2), (28, dI v8.2.1), (29, dI v8.2.2), (31, dI v9.2.1), (32, dI v9.2.2), (34, dI v10.2.1), (35, dI v10.2.2), (37, dI v11.2.1), (38, dI v11.2.2), (40, dI v12.2.1), (41, dI v12.2.2)] []) (.stop c7x18 [.seq c7x19]) := by
  refine EvOk.stop (At.ops (l := iv 0 52) (by kernel_rfl) (by kernel_rfl) ?_)
  obtain ⟨v19, e19, h⟩ := bindE h
  refine AtOps.run (iv 0 2) (iv 2 50) [(0, aB v19)] [] [13, 14, 16, 17, 19, 20, 22, 23, 25, 26, 28, 29, 31, 32, 34, 35, 37, 38, 40, 41, 156] [] (n := 206) (sl := [(13, dI v3.2.1), (14, dI v3.2.2), (16, dI v4.2.1), (17, dI v4.2.2), (19, dI v5.2.1), (20, dI v5.2.2), (22, dI v6.2.1), (23, dI v6.2.2), (25, dI v7.2.1), (26, dI v7.2.2), (28, dI v8.2.1), (29, dI v8.2.2), (31, dI v9.2.1), (32, dI v9.2.2), (34, dI v10.2.1), (35, dI v10.2.2), (37, dI v11.2.1), (38, dI v11.2.2), (40, dI v12.2.1), (41, dI v12.2.2), (156, .bool v19)]) (bl := []) (q := [True ∧ (cq Try.prog (tN 0) 10 [] (.bool v19))]) (by kernel_rfl) (by kernel_rfl) ⟨⟨trivial, cqi (tNi 0) (w10 e19)⟩, trivial⟩ ?_
  rcases Bool.eq_false_or_eq_true v19 with h7 | h7
  · replace h := iteT h7 h
    refine AtOps.run (iv 2 5) (iv 7 45) [(5, aT)] [(2, true), (3, true), (4, true)] [14, 17, 19, 20, 22, 23, 25, 26, 28, 29, 31, 32, 34, 35, 37, 38, 40, 41, 161] [] (n := 206) (sl := [(14, dI v3.2.2), (17, dI v4.2.2), (19, dI v5.2.1), (20, dI v5.2.2), (22, dI v6.2.1), (23, dI v6.2.2), (25, dI v7.2.1), (26, dI v7.2.2), (28, dI v8.2.1), (29, dI v8.2.2), (31, dI v9.2.1), (32, dI v9.2.2), (34, dI v10.2.1), (35, dI v10.2.2), (37, dI v11.2.1), (38, dI v11.2.2), (40, dI v12.2.1), (41, dI v12.2.2), (161, .bool (v3.2.1 == v4.2.1))]) (bl := []) (q := [(v19 == true) = true ∧ True, (v19 == true) = true ∧ True, (v19 == true) = true ∧ True, True ∧ (v19 = true)]) (by kernel_rfl) (by kernel_rfl) ⟨⟨(gB h7 rfl), trivial⟩, ⟨(gB h7 rfl), trivial⟩, ⟨(gB h7 rfl), trivial⟩, ⟨trivial, h7⟩, trivial⟩ ?_
    rcases Bool.eq_false_or_eq_true (v3.2.1 == v4.2.1) with h8 | h8
    · replace h := iteT h8 h
      refine AtOps.run (iv 7 5) (iv 12 40) [(10, aT)] [(7, true), (8, true), (9, true)] [14, 17, 20, 23, 25, 26, 28, 29, 31, 32, 34, 35, 37, 38, 40, 41, 166] [] (n := 206) (sl := [(14, dI v3.2.2), (17, dI v4.2.2), (20, dI v5.2.2), (23, dI v6.2.2), (25, dI v7.2.1), (26, dI v7.2.2), (28, dI v8.2.1), (29, dI v8.2.2), (31, dI v9.2.1), (32, dI v9.2.2), (34, dI v10.2.1), (35, dI v10.2.2), (37, dI v11.2.1), (38, dI v11.2.2), (40, dI v12.2.1), (41, dI v12.2.2), (166, .bool (v5.2.1 == v6.2.1))]) (bl := []) (q := [((v3.2.1 == v4.2.1) == true) = true ∧ True, ((v3.2.1 == v4.2.1) == true) = true ∧ True, ((v3.2.1 == v4.2.1) == true) = true ∧ True, True ∧ ((v3.2.1 == v4.2.1) = true)]) (by kernel_rfl) (by kernel_rfl) ⟨⟨(gB h8 rfl), trivial⟩, ⟨(gB h8 rfl), trivial⟩, ⟨(gB h8 rfl), trivial⟩, ⟨trivial, h8⟩, trivial⟩ ?_
      rcases Bool.eq_false_or_eq_true (v5.2.1 == v6.2.1) with h9 | h9
      · replace h := iteT h9 h
        refine AtOps.run (iv 12 5) (iv 17 35) [(15, aT)] [(12, true), (13, true), (14, true)] [14, 17, 20, 23, 26, 29, 31, 32, 34, 35, 37, 38, 40, 41, 171] [] (n := 206) (sl := [(14, dI v3.2.2), (17, dI v4.2.2), (20, dI v5.2.2), (23, dI v6.2.2), (26, dI v7.2.2), (29, dI v8.2.2), (31, dI v9.2.1), (32, dI v9.2.2), (34, dI v10.2.1), (35, dI v10.2.2), (37, dI v11.2.1), (38, dI v11.2.2), (40, dI v12.2.1), (41, dI v12.2.2), (171, .bool (v7.2.1 == v8.2.1))]) (bl := []) (q := [((v5.2.1 == v6.2.1) == true) = true ∧ True, ((v5.2.1 == v6.2.1) == true) = true ∧ True, ((v5.2.1 == v6.2.1) == true) = true ∧ True, True ∧ ((v5.2.1 == v6.2.1) = true)]) (by kernel_rfl) (by kernel_rfl) ⟨⟨(gB h9 rfl), trivial⟩, ⟨(gB h9 rfl), trivial⟩, ⟨(gB h9 rfl), trivial⟩, ⟨trivial, h9⟩, trivial⟩ ?_
        rcases Bool.eq_false_or_eq_true (v7.2.1 == v8.2.1) with h10 | h10
        · replace h := iteT h10 h
          refine AtOps.run (iv 17 5) (iv 22 30) [(20, aT)] [(17, true), (18, true), (19, true)] [14, 17, 20, 23, 26, 29, 32, 35, 37, 38, 40, 41, 176] [] (n := 206) (sl := [(14, dI v3.2.2), (17, dI v4.2.2), (20, dI v5.2.2), (23, dI v6.2.2), (26, dI v7.2.2), (29, dI v8.2.2), (32, dI v9.2.2), (35, dI v10.2.2), (37, dI v11.2.1), (38, dI v11.2.2), (40, dI v12.2.1), (41, dI v12.2.2), (176, .bool (v9.2.1 == v10.2.1))]) (bl := []) (q := [((v7.2.1 == v8.2.1) == true) = true ∧ True, ((v7.2.1 == v8.2.1) == true) = true ∧ True, ((v7.2.1 == v8.2.1) == true) = true ∧ True, True ∧ ((v7.2.1 == v8.2.1) = true)]) (by kernel_rfl) (by kernel_rfl) ⟨⟨(gB h10 rfl), trivial⟩, ⟨(gB h10 rfl), trivial⟩, ⟨(gB h10 rfl), trivial⟩, ⟨trivial, h10⟩, trivial⟩ ?_
          rcases Bool.eq_false_or_eq_true (v9.2.1 == v10.2.1) with h11 | h11
          · replace h := iteT h11 h
            refine AtOps.run (iv 22 5) (iv 27 25) [(25, aT)] [(22, true), (23, true), (24, true)] [14, 17, 20, 23, 26, 29, 32, 35, 38, 41, 181] [] (n := 206) (sl := [(14, dI v3.2.2), (17, dI v4.2.2), (20, dI v5.2.2), (23, dI v6.2.2), (26, dI v7.2.2), (29, dI v8.2.2), (32, dI v9.2.2), (35, dI v10.2.2), (38, dI v11.2.2), (41, dI v12.2.2), (181, .bool (v11.2.1 == v12.2.1))]) (bl := []) (q := [((v9.2.1 == v10.2.1) == true) = true ∧ True, ((v9.2.1 == v10.2.1) == true) = true ∧ True, ((v9.2.1 == v10.2.1) == true) = true ∧ True, True ∧ ((v9.2.1 == v10.2.1) = true)]) (by kernel_rfl) (by kernel_rfl) ⟨⟨(gB h11 rfl), trivial⟩, ⟨(gB h11 rfl), trivial⟩, ⟨(gB h11 rfl), trivial⟩, ⟨trivial, h11⟩, trivial⟩ ?_
            rcases Bool.eq_false_or_eq_true (v11.2.1 == v12.2.1) with h12 | h12
            · replace h := iteT h12 h
              refine AtOps.run (iv 27 5) (iv 32 20) [(30, aT)] [(27, true), (28, true), (29, true)] [20, 23, 26, 29, 32, 35, 38, 41, 186] [] (n := 206) (sl := [(20, dI v5.2.2), (23, dI v6.2.2), (26, dI v7.2.2), (29, dI v8.2.2), (32, dI v9.2.2), (35, dI v10.2.2), (38, dI v11.2.2), (41, dI v12.2.2), (186, .bool (v3.2.2 == v4.2.2))]) (bl := []) (q := [((v11.2.1 == v12.2.1) == true) = true ∧ True, ((v11.2.1 == v12.2.1) == true) = true ∧ True, ((v11.2.1 == v12.2.1) == true) = true ∧ True, True ∧ ((v11.2.1 == v12.2.1) = true)]) (by kernel_rfl) (by kernel_rfl) ⟨⟨(gB h12 rfl), trivial⟩, ⟨(gB h12 rfl), trivial⟩, ⟨(gB h12 rfl), trivial⟩, ⟨trivial, h12⟩, trivial⟩ ?_
              rcases Bool.eq_false_or_eq_true (v3.2.2 == v4.2.2) with h13 | h13
              · replace h := iteT h13 h
                refine AtOps.run (iv 32 5) (iv 37 15) [(35, aT)] [(32, true), (33, true), (34, true)] [26, 29, 32, 35, 38, 41, 191] [] (n := 206) (sl := [(26, dI v7.2.2), (29, dI v8.2.2), (32, dI v9.2.2), (35, dI v10.2.2), (38, dI v11.2.2), (41, dI v12.2.2), (191, .bool (v5.2.2 == v6.2.2))]) (bl := []) (q := [((v3.2.2 == v4.2.2) == true) = true ∧ True, ((v3.2.2 == v4.2.2) == true) = true ∧ True, ((v3.2.2 == v4.2.2) == true) = true ∧ True, True ∧ ((v3.2.2 == v4.2.2) = true)]) (by kernel_rfl) (by kernel_rfl) ⟨⟨(gB h13 rfl), trivial⟩, ⟨(gB h13 rfl), trivial⟩, ⟨(gB h13 rfl), trivial⟩, ⟨trivial, h13⟩, trivial⟩ ?_
                rcases Bool.eq_false_or_eq_true (v5.2.2 == v6.2.2) with h14 | h14
                · replace h := iteT h14 h
                  refine AtOps.run (iv 37 5) (iv 42 10) [(40, aT)] [(37, true), (38, true), (39, true)] [32, 35, 38, 41, 196] [] (n := 206) (sl := [(32, dI v9.2.2), (35, dI v10.2.2), (38, dI v11.2.2), (41, dI v12.2.2), (196, .bool (v7.2.2 == v8.2.2))]) (bl := []) (q := [((v5.2.2 == v6.2.2) == true) = true ∧ True, ((v5.2.2 == v6.2.2) == true) = true ∧ True, ((v5.2.2 == v6.2.2) == true) = true ∧ True, True ∧ ((v5.2.2 == v6.2.2) = true)]) (by kernel_rfl) (by kernel_rfl) ⟨⟨(gB h14 rfl), trivial⟩, ⟨(gB h14 rfl), trivial⟩, ⟨(gB h14 rfl), trivial⟩, ⟨trivial, h14⟩, trivial⟩ ?_
                  rcases Bool.eq_false_or_eq_true (v7.2.2 == v8.2.2) with h15 | h15
                  · replace h := iteT h15 h
                    refine AtOps.run (iv 42 5) (iv 47 5) [(45, aT)] [(42, true), (43, true), (44, true)] [38, 41, 201] [] (n := 206) (sl := [(38, dI v11.2.2), (41, dI v12.2.2), (201, .bool (v9.2.2 == v10.2.2))]) (bl := []) (q := [((v7.2.2 == v8.2.2) == true) = true ∧ True, ((v7.2.2 == v8.2.2) == true) = true ∧ True, ((v7.2.2 == v8.2.2) == true) = true ∧ True, True ∧ ((v7.2.2 == v8.2.2) = true)]) (by kernel_rfl) (by kernel_rfl) ⟨⟨(gB h15 rfl), trivial⟩, ⟨(gB h15 rfl), trivial⟩, ⟨(gB h15 rfl), trivial⟩, ⟨trivial, h15⟩, trivial⟩ ?_
                    rcases Bool.eq_false_or_eq_true (v9.2.2 == v10.2.2) with h16 | h16
                    · replace h := iteT h16 h
                      refine AtOps.run (iv 47 5) (iv 52 0) [(50, aT)] [(47, true), (48, true), (49, true)] [10] [] (n := 206) (sl := [(10, .bool (v11.2.2 == v12.2.2))]) (bl := []) (q := [((v9.2.2 == v10.2.2) == true) = true ∧ True, ((v9.2.2 == v10.2.2) == true) = true ∧ True, ((v9.2.2 == v10.2.2) == true) = true ∧ True, True ∧ ((v9.2.2 == v10.2.2) = true)]) (by kernel_rfl) (by kernel_rfl) ⟨⟨(gB h16 rfl), trivial⟩, ⟨(gB h16 rfl), trivial⟩, ⟨(gB h16 rfl), trivial⟩, ⟨trivial, h16⟩, trivial⟩ ?_
                      refine AtOps.done ?_
                      refine At.advN [] [] 400 (ev := .ret) (σ' := mkS 206 [(10, .bool (v11.2.2 == v12.2.2))] []) (q := []) (by kernel_rfl) trivial ?_
                      refine EvOk.ret ?_
                      obtain rfl := someE h
                      exact Den.Ends.mk (.inl rfl) (d := .bool (v11.2.2 == v12.2.2)) (p := (True ∧ True) ∧ (tN 1)) (by kernel_rfl) ⟨⟨trivial, trivial⟩, tNi 1⟩ (by kernel_rfl)
                    · replace h := iteF h16 h
                      refine AtOps.run (iv 47 5) (iv 52 0) [(50, aF)] [(47, false), (48, false), (49, false)] [10] [] (n := 206) (sl := [(10, .bool false)]) (bl := []) (q := [((v9.2.2 == v10.2.2) == true) = false, ((v9.2.2 == v10.2.2) == true) = false, ((v9.2.2 == v10.2.2) == true) = false, True ∧ ((v9.2.2 == v10.2.2) = false)]) (by kernel_rfl) (by kernel_rfl) ⟨gB h16 rfl, gB h16 rfl, gB h16 rfl, ⟨trivial, h16⟩, trivial⟩ ?_
                      refine AtOps.done ?_
                      refine At.advN [] [] 400 (ev := .ret) (σ' := mkS 206 [(10, .bool false)] []) (q := []) (by kernel_rfl) trivial ?_
                      refine EvOk.ret ?_
                      obtain rfl := someE h
                      exact Den.Ends.mk (.inl rfl) (d := .bool false) (p := (True ∧ True) ∧ (tN 1)) (by kernel_rfl) ⟨⟨trivial, trivial⟩, tNi 1⟩ (by kernel_rfl)
                  · replace h := iteF h15 h
                    refine AtOps.run (iv 42 10) (iv 52 0) [(45, aF)] [(42, false), (43, false), (44, false)] [10] [] (n := 206) (sl := [(10, .bool false)]) (bl := []) (q := [((v7.2.2 == v8.2.2) == true) = false, ((v7.2.2 == v8.2.2) == true) = false, ((v7.2.2 == v8.2.2) == true) = false, True ∧ ((v7.2.2 == v8.2.2) = false), True, True, True]) (by kernel_rfl) (by kernel_rfl) ⟨gB h15 rfl, gB h15 rfl, gB h15 rfl, ⟨trivial, h15⟩, trivial, trivial, trivial, trivial⟩ ?_
                    refine AtOps.done ?_
                    refine At.advN [] [] 400 (ev := .ret) (σ' := mkS 206 [(10, .bool false)] []) (q := []) (by kernel_rfl) trivial ?_
                    refine EvOk.ret ?_
                    obtain rfl := someE h
                    exact Den.Ends.mk (.inl rfl) (d := .bool false) (p := (True ∧ True) ∧ (tN 1)) (by kernel_rfl) ⟨⟨trivial, trivial⟩, tNi 1⟩ (by kernel_rfl)
                · replace h := iteF h14 h
                  refine AtOps.run (iv 37 15) (iv 52 0) [(40, aF)] [(37, false), (38, false), (39, false)] [10] [] (n := 206) (sl := [(10, .bool false)]) (bl := []) (q := [((v5.2.2 == v6.2.2) == true) = false, ((v5.2.2 == v6.2.2) == true) = false, ((v5.2.2 == v6.2.2) == true) = false, True ∧ ((v5.2.2 == v6.2.2) = false), True, True, True, True, True, True]) (by kernel_rfl) (by kernel_rfl) ⟨gB h14 rfl, gB h14 rfl, gB h14 rfl, ⟨trivial, h14⟩, trivial, trivial, trivial, trivial, trivial, trivial, trivial⟩ ?_
                  refine AtOps.done ?_
                  refine At.advN [] [] 400 (ev := .ret) (σ' := mkS 206 [(10, .bool false)] []) (q := []) (by kernel_rfl) trivial ?_
                  refine EvOk.ret ?_
                  obtain rfl := someE h
                  exact Den.Ends.mk (.inl rfl) (d := .bool false) (p := (True ∧ True) ∧ (tN 1)) (by kernel_rfl) ⟨⟨trivial, trivial⟩, tNi 1⟩ (by kernel_rfl)
              · replace h := iteF h13 h
                refine AtOps.run (iv 32 20) (iv 52 0) [(35, aF)] [(32, false), (33, false), (34, false)] [10] [] (n := 206) (sl := [(10, .bool false)]) (bl := []) (q := [((v3.2.2 == v4.2.2) == true) = false, ((v3.2.2 == v4.2.2) == true) = false, ((v3.2.2 == v4.2.2) == true) = false, True ∧ ((v3.2.2 == v4.2.2) = false), True, True, True, True, True, True, True, True, True]) (by kernel_rfl) (by kernel_rfl) ⟨gB h13 rfl, gB h13 rfl, gB h13 rfl, ⟨trivial, h13⟩, trivial, trivial, trivial, trivial, trivial, trivial, trivial, trivial, trivial, trivial⟩ ?_
                refine AtOps.done ?_
                refine At.advN [] [] 400 (ev := .ret) (σ' := mkS 206 [(10, .bool false)] []) (q := []) (by kernel_rfl) trivial ?_
                refine EvOk.ret ?_
                obtain rfl := someE h
                exact Den.Ends.mk (.inl rfl) (d := .bool false) (p := (True ∧ True) ∧ (tN 1)) (by kernel_rfl) ⟨⟨trivial, trivial⟩, tNi 1⟩ (by kernel_rfl)
            · replace h := iteF h12 h
              refine AtOps.run (iv 27 25) (iv 52 0) [(30, aF)] [(27, false), (28, false), (29, false)] [10] [] (n := 206) (sl := [(10, .bool false)]) (bl := []) (q := [((v11.2.1 == v12.2.1) == true) = false, ((v11.2.1 == v12.2.1) == true) = false, ((v11.2.1 == v12.2.1) == true) = false, True ∧ ((v11.2.1 == v12.2.1) = false), True, True, True, True, True, True, True, True, True, True, True, True]) (by kernel_rfl) (by kernel_rfl) ⟨gB h12 rfl, gB h12 rfl, gB h12 rfl, ⟨trivial, h12⟩, trivial, trivial, trivial, trivial, trivial, trivial, trivial, trivial, trivial, trivial, trivial, trivial, trivial⟩ ?_
              refine AtOps.done ?_
              refine At.advN [] [] 400 (ev := .ret) (σ' := mkS 206 [(10, .bool false)] []) (q := []) (by kernel_rfl) trivial ?_
              refine EvOk.ret ?_
              obtain rfl := someE h
              exact Den.Ends.mk (.inl rfl) (d := .bool false) (p := (True ∧ True) ∧ (tN 1)) (by kernel_rfl) ⟨⟨trivial, trivial⟩, tNi 1⟩ (by kernel_rfl)
          · replace h := iteF h11 h
            refine AtOps.run (iv 22 30) (iv 52 0) [(25, aF)] [(22, false), (23, false), (24, false)] [10] [] (n := 206) (sl := [(10, .bool false)]) (bl := []) (q := [((v9.2.1 == v10.2.1) == true) = false, ((v9.2.1 == v10.2.1) == true) = false, ((v9.2.1 == v10.2.1) == true) = false, True ∧ ((v9.2.1 == v10.2.1) = false), True, True, True, True, True, True, True, True, True, True, True, True, True, True, True]) (by kernel_rfl) (by kernel_rfl) ⟨gB h11 rfl, gB h11 rfl, gB h11 rfl, ⟨trivial, h11⟩, trivial, trivial, trivial, trivial, trivial, trivial, trivial, trivial, trivial, trivial, trivial, trivial, trivial, trivial, trivial, trivial⟩ ?_
            refine AtOps.done ?_
            refine At.advN [] [] 400 (ev := .ret) (σ' := mkS 206 [(10, .bool false)] []) (q := []) (by kernel_rfl) trivial ?_
            refine EvOk.ret ?_
            obtain rfl := someE h
            exact Den.Ends.mk (.inl rfl) (d := .bool false) (p := (True ∧ True) ∧ (tN 1)) (by kernel_rfl) ⟨⟨trivial, trivial⟩, tNi 1⟩ (by kernel_rfl)
        · replace h := iteF h10 h
          refine AtOps.run (iv 17 35) (iv 52 0) [(20, aF)] [(17, false), (18, false), (19, false)] [10] [] (n := 206) (sl := [(10, .bool false)]) (bl := []) (q := [((v7.2.1 == v8.2.1) == true) = false, ((v7.2.1 == v8.2.1) == true) = false, ((v7.2.1 == v8.2.1) == true) = false, True ∧ ((v7.2.1 == v8.2.1) = false), True, True, True, True, True, True, True, True, True, True, True, True, True, True, True, True, True, True]) (by kernel_rfl) (by kernel_rfl) ⟨gB h10 rfl, gB h10 rfl, gB h10 rfl, ⟨trivial, h10⟩, trivial, trivial, trivial, trivial, trivial, trivial, trivial, trivial, trivial, trivial, trivial, trivial, trivial, trivial, trivial, trivial, trivial, trivial, trivial⟩ ?_
          refine AtOps.done ?_
          refine At.advN [] [] 400 (ev := .ret) (σ' := mkS 206 [(10, .bool false)] []) (q := []) (by kernel_rfl) trivial ?_
          refine EvOk.ret ?_
          obtain rfl := someE h
          exact Den.Ends.mk (.inl rfl) (d := .bool false) (p := (True ∧ True) ∧ (tN 1)) (by kernel_rfl) ⟨⟨trivial, trivial⟩, tNi 1⟩ (by kernel_rfl)
      · replace h := iteF h9 h
        refine AtOps.run (iv 12 40) (iv 52 0) [(15, aF)] [(12, false), (13, false), (14, false)] [10] [] (n := 206) (sl := [(10, .bool false)]) (bl := []) (q := [((v5.2.1 == v6.2.1) == true) = false, ((v5.2.1 == v6.2.1) == true) = false, ((v5.2.1 == v6.2.1) == true) = false, True ∧ ((v5.2.1 == v6.2.1) = false), True, True, True, True, True, True, True, True, True, True, True, True, True, True, True, True, True, True, True, True, True]) (by kernel_rfl) (by kernel_rfl) ⟨gB h9 rfl, gB h9 rfl, gB h9 rfl, ⟨trivial, h9⟩, trivial, trivial, trivial, trivial, trivial, trivial, trivial, trivial, trivial, trivial, trivial, trivial, trivial, trivial, trivial, trivial, trivial, trivial, trivial, trivial, trivial, trivial⟩ ?_
        refine AtOps.done ?_
        refine At.advN [] [] 400 (ev := .ret) (σ' := mkS 206 [(10, .bool false)] []) (q := []) (by kernel_rfl) trivial ?_
        refine EvOk.ret ?_
        obtain rfl := someE h
        exact Den.Ends.mk (.inl rfl) (d := .bool false) (p := (True ∧ True) ∧ (tN 1)) (by kernel_rfl) ⟨⟨trivial, trivial⟩, tNi 1⟩ (by kernel_rfl)
    · replace h := iteF h8 h
      refine AtOps.run (iv 7 45) (iv 52 0) [(10, aF)] [(7, false), (8, false), (9, false)] [10] [] (n := 206) (sl := [(10, .bool false)]) (bl := []) (q := [((v3.2.1 == v4.2.1) == true) = false, ((v3.2.1 == v4.2.1) == true) = false, ((v3.2.1 == v4.2.1) == true) = false, True ∧ ((v3.2.1 == v4.2.1) = false), True, True, True, True, True, True, True, True, True, True, True, True, True, True, True, True, True, True, True, True, True, True, True, True]) (by kernel_rfl) (by kernel_rfl) ⟨gB h8 rfl, gB h8 rfl, gB h8 rfl, ⟨trivial, h8⟩, trivial, trivial, trivial, trivial, trivial, trivial, trivial, trivial, trivial, trivial, trivial, trivial, trivial, trivial, trivial, trivial, trivial, trivial, trivial, trivial, trivial, trivial, trivial, trivial, trivial⟩ ?_
      refine AtOps.done ?_
      refine At.advN [] [] 400 (ev := .ret) (σ' := mkS 206 [(10, .bool false)] []) (q := []) (by kernel_rfl) trivial ?_
      refine EvOk.ret ?_
      obtain rfl := someE h
      exact Den.Ends.mk (.inl rfl) (d := .bool false) (p := (True ∧ True) ∧ (tN 1)) (by kernel_rfl) ⟨⟨trivial, trivial⟩, tNi 1⟩ (by kernel_rfl)
  · replace h := iteF h7 h
    refine AtOps.run (iv 2 50) (iv 52 0) [(5, aF)] [(2, false), (3, false), (4, false)] [10] [] (n := 206) (sl := [(10, .bool false)]) (bl := []) (q := [(v19 == true) = false, (v19 == true) = false, (v19 == true) = false, True ∧ (v19 = false), True, True, True, True, True, True, True, True, True, True, True, True, True, True, True, True, True, True, True, True, True, True, True, True, True, True, True]) (by kernel_rfl) (by kernel_rfl) ⟨gB h7 rfl, gB h7 rfl, gB h7 rfl, ⟨trivial, h7⟩, trivial, trivial, trivial, trivial, trivial, trivial, trivial, trivial, trivial, trivial, trivial, trivial, trivial, trivial, trivial, trivial, trivial, trivial, trivial, trivial, trivial, trivial, trivial, trivial, trivial, trivial, trivial, trivial⟩ ?_
    refine AtOps.done ?_
    refine At.advN [] [] 400 (ev := .ret) (σ' := mkS 206 [(10, .bool false)] []) (q := []) (by kernel_rfl) trivial ?_
    refine EvOk.ret ?_
    obtain rfl := someE h
    exact Den.Ends.mk (.inl rfl) (d := .bool false) (p := (True ∧ True) ∧ (tN 1)) (by kernel_rfl) ⟨⟨trivial, trivial⟩, tNi 1⟩ (by kernel_rfl)
theorem we7 (x0 : List T_api_Const) (x1 : T_api_Const) (x2 : List UInt8) (x3 : Int) (x4 : T_api_Ref) (r : Bool) (h : m_armaturelaw05_PoolAddReference x0 x1 x2 x3 x4 = some r) (Γ : Ctx) : At Try.prog Γ b7 [] (Den.Ends Try.prog Try.f7 (.bool r)) (mkS 206 [(0, .sl false (x0.map row_T_api_Const)), (1, .agg (row_T_api_Const x1)), (2, .str x2), (3, dI x3), (4, .agg (row_T_api_Ref x4))] []) := by
  obtain ⟨v0, e0, h⟩ := bindE h
  refine At.adv [] [(0, { told := [(0, { ro := true }), (1, { ro := true })], keep := some ([0, 2, 3, 6, 9], []) }), (1, { told := [(1, aB v0)], keep := some ([0, 2, 3, 6, 9, 44], []) })] 400 (ev := .cond (!v0) c7x23 c7x24 [.seq c7x1]) (σ' := mkS 206 [(0, .sl false (x0.map row_T_api_Const)), (2, .str x2), (3, dI x3), (6, .ptr (row_T_api_Const x1)), (9, .ptr (row_T_api_Ref x4)), (44, .bool (!v0))] []) (q := [True ∧ (cq Try.prog (tN 1) 8 [.sl false (x0.map row_T_api_Const)] (.bool v0))]) (by kernel_rfl) ⟨⟨trivial, cqi (tNi 1) (w8 e0)⟩, trivial⟩ ?_
  refine EvOk.cond (fun h0 => ?_) (fun h0 => ?_)
  · replace h := iteT h0 h
    refine At.gc [] [] (n := 206) (l := []) (bl := []) (by kernel_rfl) ?_
    obtain ⟨v1, e1, h⟩ := bindE h
    refine At.adv [] [(2, { told := [(0, aB v1)], keep := some ([10], []) })] 400 (ev := .ret) (σ' := mkS 206 [(10, .bool v1)] []) (q := [True ∧ (cq Try.prog (tN 0) 10 [] (.bool v1))]) (by kernel_rfl) ⟨⟨trivial, cqi (tNi 0) (w10 e1)⟩, trivial⟩ ?_
    refine EvOk.ret ?_
    obtain rfl := someE h
    exact Den.Ends.mk (.inl rfl) (d := .bool v1) (p := (True ∧ True) ∧ (tN 1)) (by kernel_rfl) ⟨⟨trivial, trivial⟩, tNi 1⟩ (by kernel_rfl)
  · replace h := iteF h0 h
    refine At.gc [0, 2, 3, 6, 9] [] (n := 206) (l := [(0, .sl false (x0.map row_T_api_Const)), (2, .str x2), (3, dI x3), (6, .ptr (row_T_api_Const x1)), (9, .ptr (row_T_api_Ref x4))]) (bl := []) (by kernel_rfl) ?_
    obtain ⟨v2, e2, h⟩ := bindE h
    obtain ⟨v3, e3, h⟩ := bindE h
    obtain ⟨v4, e4, h⟩ := bindE h
    obtain ⟨v5, e5, h⟩ := bindE h
    obtain ⟨v6, e6, h⟩ := bindE h
    obtain ⟨v7, e7, h⟩ := bindE h
    obtain ⟨v8, e8, h⟩ := bindE h
    obtain ⟨v9, e9, h⟩ := bindE h
    obtain ⟨v10, e10, h⟩ := bindE h
    obtain ⟨v11, e11, h⟩ := bindE h
    obtain ⟨v12, e12, h⟩ := bindE h
    refine At.adv [14] [(3, { told := [(2, { rows := some ((([] : List T_api_Const) ++ x0).map row_T_api_Const) })], keep := some ([0, 2, 3, 6, 9, 11], [(46, 46)]) }), (4, { told := [(2, { ans := .val (.tup [.sl false (v3.1.map row_T_api_Const), dI v3.2.1, dI v3.2.2]), args := [.sl false ((([] : List T_api_Const) ++ x0).map row_T_api_Const), .agg [dI x1.f_Tag, .str x1.f_S, dI x1.f_N, dI x1.f_A, dI x1.f_B]] })], keep := some ([0, 2, 3, 6, 9, 11, 12, 13, 14], [(46, 46)]) }), (5, { told := [(2, { ans := .val (.tup [.sl false (v4.1.map row_T_api_Const), dI v4.2.1, dI v4.2.2]) })], keep := some ([0, 2, 3, 9, 11, 12, 13, 14, 15, 16, 17], [(46, 46)]) }), (6, { told := [(2, { ans := .val (.tup [.sl false (v5.1.map row_T_api_Const), dI v5.2.1, dI v5.2.2]), args := [.sl false ((([] : List T_api_Const) ++ x0).map row_T_api_Const), .str x2] })], keep := some ([0, 2, 3, 9, 11, 12, 13, 14, 15, 16, 17, 18, 19, 20], [(46, 46)]) }), (7, { told := [(2, { ans := .val (.tup [.sl false (v6.1.map row_T_api_Const), dI v6.2.1, dI v6.2.2]) })], keep := some ([0, 2, 3, 9, 11, 12, 13, 14, 15, 16, 17, 18, 19, 20, 21, 22, 23], [(46, 46)]) }), (8, { told := [(2, { ans := .val (.tup [.sl false (v7.1.map row_T_api_Const), dI v7.2.1, dI v7.2.2]), args := [.sl false ((([] : List T_api_Const) ++ x0).map row_T_api_Const), .str x2] })], keep := some ([0, 2, 3, 9, 11, 12, 13, 14, 15, 16, 17, 18, 19, 20, 21, 22, 23, 24, 25, 26], [(46, 46)]) }), (9, { told := [(2, { ans := .val (.tup [.sl false (v8.1.map row_T_api_Const), dI v8.2.1, dI v8.2.2]) })], keep := some ([0, 2, 3, 9, 11, 12, 13, 14, 15, 16, 17, 18, 19, 20, 21, 22, 23, 24, 25, 26, 27, 28, 29], [(46, 46)]) }), (10, { told := [(2, { ans := .val (.tup [.sl false (v9.1.map row_T_api_Const), dI v9.2.1, dI v9.2.2]), args := [.sl false ((([] : List T_api_Const) ++ x0).map row_T_api_Const), .str x2] })], keep := some ([0, 2, 3, 9, 11, 12, 13, 14, 15, 16, 17, 18, 19, 20, 21, 22, 23, 24, 25, 26, 27, 28, 29, 30, 31, 32], [(46, 46)]) }), (11, { told := [(2, { ans := .val (.tup [.sl false (v10.1.map row_T_api_Const), dI v10.2.1, dI v10.2.2]) })], keep := some ([0, 3, 9, 11, 12, 13, 14, 15, 16, 17, 18, 19, 20, 21, 22, 23, 24, 25, 26, 27, 28, 29, 30, 31, 32, 33, 34, 35], [(46, 46)]) }), (12, { told := [(3, { ans := .val (.tup [.sl false (v11.1.map row_T_api_Const), dI v11.2.1, dI v11.2.2]), args := [.sl false ((([] : List T_api_Const) ++ x0).map row_T_api_Const), dI x3, .agg [.str x4.f_Class, .str x4.f_Name, .str x4.f_Desc]] })], keep := some ([0, 3, 9, 11, 12, 13, 14, 15, 16, 17, 18, 19, 20, 21, 22, 23, 24, 25, 26, 27, 28, 29, 30, 31, 32, 33, 34, 35, 36, 37, 38], [(46, 46)]) }), (13, { told := [(3, { ans := .val (.tup [.sl false (v12.1.map row_T_api_Const), dI v12.2.1, dI v12.2.2]) })], keep := some ([0, 11, 12, 13, 14, 15, 16, 17, 18, 19, 20, 21, 22, 23, 24, 25, 26, 27, 28, 29, 30, 31, 32, 33, 34, 35, 36, 37, 38, 39, 40, 41], [(46, 46)]) })] 400 (ev := .stop c7x20 [.seq c7x14, .seq c7x17]) (σ' := mkS 206 [(0, .sl false (x0.map row_T_api_Const)), (11, .lsl 46 0 (((([] : List T_api_Const) ++ x0).map row_T_api_Const).length)), (12, .sl false (v3.1.map row_T_api_Const)), (13, dI v3.2.1), (14, dI v3.2.2), (15, .sl false (v4.1.map row_T_api_Const)), (16, dI v4.2.1), (17, dI v4.2.2), (18, .sl false (v5.1.map row_T_api_Const)), (19, dI v5.2.1), (20, dI v5.2.2), (21, .sl false (v6.1.map row_T_api_Const)), (22, dI v6.2.1), (23, dI v6.2.2), (24, .sl false (v7.1.map row_T_api_Const)), (25, dI v7.2.1), (26, dI v7.2.2), (27, .sl false (v8.1.map row_T_api_Const)), (28, dI v8.2.1), (29, dI v8.2.2), (30, .sl false (v9.1.map row_T_api_Const)), (31, dI v9.2.1), (32, dI v9.2.2), (33, .sl false (v10.1.map row_T_api_Const)), (34, dI v10.2.1), (35, dI v10.2.2), (36, .sl false (v11.1.map row_T_api_Const)), (37, dI v11.2.1), (38, dI v11.2.2), (39, .sl false (v12.1.map row_T_api_Const)), (40, dI v12.2.1), (41, dI v12.2.2)] [(46, { sz := 5, rows := ((([] : List T_api_Const) ++ x0).map row_T_api_Const), frz := ((([] : List T_api_Const) ++ x0).map row_T_api_Const).length, pure := true })]) (q := [True ∧ (tN 0), True ∧ (True ∧ (([] : List T_api_Const).map row_T_api_Const).length = (([] : List T_api_Const).map row_T_api_Const).length ∧ (∀ r ∈ (x0.map row_T_api_Const), r.length = 5) ∧ (([] : List T_api_Const).map row_T_api_Const) ++ (x0.map row_T_api_Const) = ((([] : List T_api_Const) ++ x0).map row_T_api_Const) ∧ ((([] : List T_api_Const) ++ x0).map row_T_api_Const).length ≤ 9223372036854775807 ∧ ((([] : List T_api_Const) ++ x0).map row_T_api_Const).length * 48 ≤ 140737488355328), True ∧ (((0 + ((([] : List T_api_Const) ++ x0).map row_T_api_Const).length ≤ ((([] : List T_api_Const) ++ x0).map row_T_api_Const).length) ∧ ((tN 5) ∧ True)) ∧ ([.sl false ((((([] : List T_api_Const) ++ x0).map row_T_api_Const).drop 0).take ((([] : List T_api_Const) ++ x0).map row_T_api_Const).length), .agg [dI x1.f_Tag, .str x1.f_S, dI x1.f_N, dI x1.f_A, dI x1.f_B]] : List D) = [.sl false ((([] : List T_api_Const) ++ x0).map row_T_api_Const), .agg [dI x1.f_Tag, .str x1.f_S, dI x1.f_N, dI x1.f_A, dI x1.f_B]] ∧ CallAny Try.prog 29 [.sl false ((([] : List T_api_Const) ++ x0).map row_T_api_Const), .agg [dI x1.f_Tag, .str x1.f_S, dI x1.f_N, dI x1.f_A, dI x1.f_B]] (.tup [.sl false (v3.1.map row_T_api_Const), dI v3.2.1, dI v3.2.2])), True ∧ (cq Try.prog (True ∧ ((tN 5) ∧ True)) 30 [.sl false (x0.map row_T_api_Const), .agg [dI x1.f_Tag, .str x1.f_S, dI x1.f_N, dI x1.f_A, dI x1.f_B]] (.tup [.sl false (v4.1.map row_T_api_Const), dI v4.2.1, dI v4.2.2])), True ∧ (((0 + ((([] : List T_api_Const) ++ x0).map row_T_api_Const).length ≤ ((([] : List T_api_Const) ++ x0).map row_T_api_Const).length) ∧ (True ∧ True)) ∧ ([.sl false ((((([] : List T_api_Const) ++ x0).map row_T_api_Const).drop 0).take ((([] : List T_api_Const) ++ x0).map row_T_api_Const).length), .str x2] : List D) = [.sl false ((([] : List T_api_Const) ++ x0).map row_T_api_Const), .str x2] ∧ CallAny Try.prog 31 [.sl false ((([] : List T_api_Const) ++ x0).map row_T_api_Const), .str x2] (.tup [.sl false (v5.1.map row_T_api_Const), dI v5.2.1, dI v5.2.2])), True ∧ (cq Try.prog (tN 2) 32 [.sl false (x0.map row_T_api_Const), .str x2] (.tup [.sl false (v6.1.map row_T_api_Const), dI v6.2.1, dI v6.2.2])), True ∧ (((0 + ((([] : List T_api_Const) ++ x0).map row_T_api_Const).length ≤ ((([] : List T_api_Const) ++ x0).map row_T_api_Const).length) ∧ (True ∧ True)) ∧ ([.sl false ((((([] : List T_api_Const) ++ x0).map row_T_api_Const).drop 0).take ((([] : List T_api_Const) ++ x0).map row_T_api_Const).length), .str x2] : List D) = [.sl false ((([] : List T_api_Const) ++ x0).map row_T_api_Const), .str x2] ∧ CallAny Try.prog 24 [.sl false ((([] : List T_api_Const) ++ x0).map row_T_api_Const), .str x2] (.tup [.sl false (v7.1.map row_T_api_Const), dI v7.2.1, dI v7.2.2])), True ∧ (cq Try.prog (tN 2) 33 [.sl false (x0.map row_T_api_Const), .str x2] (.tup [.sl false (v8.1.map row_T_api_Const), dI v8.2.1, dI v8.2.2])), True ∧ (((0 + ((([] : List T_api_Const) ++ x0).map row_T_api_Const).length ≤ ((([] : List T_api_Const) ++ x0).map row_T_api_Const).length) ∧ (True ∧ True)) ∧ ([.sl false ((((([] : List T_api_Const) ++ x0).map row_T_api_Const).drop 0).take ((([] : List T_api_Const) ++ x0).map row_T_api_Const).length), .str x2] : List D) = [.sl false ((([] : List T_api_Const) ++ x0).map row_T_api_Const), .str x2] ∧ CallAny Try.prog 25 [.sl false ((([] : List T_api_Const) ++ x0).map row_T_api_Const), .str x2] (.tup [.sl false (v9.1.map row_T_api_Const), dI v9.2.1, dI v9.2.2])), True ∧ (cq Try.prog (tN 2) 34 [.sl false (x0.map row_T_api_Const), .str x2] (.tup [.sl false (v10.1.map row_T_api_Const), dI v10.2.1, dI v10.2.2])), True ∧ (((0 + ((([] : List T_api_Const) ++ x0).map row_T_api_Const).length ≤ ((([] : List T_api_Const) ++ x0).map row_T_api_Const).length) ∧ (True ∧ ((tN 3) ∧ True))) ∧ ([.sl false ((((([] : List T_api_Const) ++ x0).map row_T_api_Const).drop 0).take ((([] : List T_api_Const) ++ x0).map row_T_api_Const).length), dI x3, .agg [.str x4.f_Class, .str x4.f_Name, .str x4.f_Desc]] : List D) = [.sl false ((([] : List T_api_Const) ++ x0).map row_T_api_Const), dI x3, .agg [.str x4.f_Class, .str x4.f_Name, .str x4.f_Desc]] ∧ CallAny Try.prog 26 [.sl false ((([] : List T_api_Const) ++ x0).map row_T_api_Const), dI x3, .agg [.str x4.f_Class, .str x4.f_Name, .str x4.f_Desc]] (.tup [.sl false (v11.1.map row_T_api_Const), dI v11.2.1, dI v11.2.2])), True ∧ (cq Try.prog (True ∧ (True ∧ ((tN 3) ∧ True))) 35 [.sl false (x0.map row_T_api_Const), dI x3, .agg [.str x4.f_Class, .str x4.f_Name, .str x4.f_Desc]] (.tup [.sl false (v12.1.map row_T_api_Const), dI v12.2.1, dI v12.2.2]))]) (by kernel_rfl) ⟨⟨trivial, tNi 0⟩, ⟨trivial, ⟨trivial, rfl, szM (f := row_T_api_Const) (n := 5) (fun _ => rfl) _, appM row_T_api_Const _ _, (growK_spec e2 (lenMN _ _)).1, (growK_spec e2 (lenMN _ _)).2⟩⟩, ⟨trivial, ⟨⟨roomAll _, ⟨tNi 5, trivial⟩⟩, by simp only [takeAll] <;> kernel_rfl, .inl (w29 e3)⟩⟩, ⟨trivial, cqi (⟨trivial, ⟨tNi 5, trivial⟩⟩) (w30 e4)⟩, ⟨trivial, ⟨⟨roomAll _, ⟨trivial, trivial⟩⟩, by simp only [takeAll] <;> kernel_rfl, .inl (w31 e5)⟩⟩, ⟨trivial, cqi (tNi 2) (w32 e6)⟩, ⟨trivial, ⟨⟨roomAll _, ⟨trivial, trivial⟩⟩, by simp only [takeAll] <;> kernel_rfl, .inl (w24 e7)⟩⟩, ⟨trivial, cqi (tNi 2) (w33 e8)⟩, ⟨trivial, ⟨⟨roomAll _, ⟨trivial, trivial⟩⟩, by simp only [takeAll] <;> kernel_rfl, .inl (w25 e9)⟩⟩, ⟨trivial, cqi (tNi 2) (w34 e10)⟩, ⟨trivial, ⟨⟨roomAll _, ⟨trivial, ⟨tNi 3, trivial⟩⟩⟩, by simp only [takeAll] <;> kernel_rfl, .inl (w26 e11)⟩⟩, ⟨trivial, cqi (⟨trivial, ⟨trivial, ⟨tNi 3, trivial⟩⟩⟩) (w35 e12)⟩, trivial⟩ ?_
    refine EvOk.stop (At.ops (l := iv 0 34) (by kernel_rfl) (by kernel_rfl) ?_)
    obtain ⟨v13, e13, h⟩ := bindE h
    refine AtOps.run (iv 0 5) (iv 5 29) [(2, aB v13)] [] [0, 11, 13, 14, 16, 17, 18, 19, 20, 21, 22, 23, 24, 25, 26, 27, 28, 29, 30, 31, 32, 33, 34, 35, 36, 37, 38, 39, 40, 41, 125] [(46, 46)] (n := 206) (sl := [(0, .sl false (x0.map row_T_api_Const)), (11, .lsl 46 0 (((([] : List T_api_Const) ++ x0).map row_T_api_Const).length)), (13, dI v3.2.1), (14, dI v3.2.2), (16, dI v4.2.1), (17, dI v4.2.2), (18, .sl false (v5.1.map row_T_api_Const)), (19, dI v5.2.1), (20, dI v5.2.2), (21, .sl false (v6.1.map row_T_api_Const)), (22, dI v6.2.1), (23, dI v6.2.2), (24, .sl false (v7.1.map row_T_api_Const)), (25, dI v7.2.1), (26, dI v7.2.2), (27, .sl false (v8.1.map row_T_api_Const)), (28, dI v8.2.1), (29, dI v8.2.2), (30, .sl false (v9.1.map row_T_api_Const)), (31, dI v9.2.1), (32, dI v9.2.2), (33, .sl false (v10.1.map row_T_api_Const)), (34, dI v10.2.1), (35, dI v10.2.2), (36, .sl false (v11.1.map row_T_api_Const)), (37, dI v11.2.1), (38, dI v11.2.2), (39, .sl false (v12.1.map row_T_api_Const)), (40, dI v12.2.1), (41, dI v12.2.2), (125, .bool (!v13))]) (bl := [(46, { sz := 5, rows := ((([] : List T_api_Const) ++ x0).map row_T_api_Const), frz := ((([] : List T_api_Const) ++ x0).map row_T_api_Const).length, pure := true })]) (q := [True ∧ (cq Try.prog (tN 2) 27 [.sl false (v3.1.map row_T_api_Const), .sl false (v4.1.map row_T_api_Const)] (.bool v13))]) (by kernel_rfl) (by kernel_rfl) ⟨⟨trivial, cqi (tNi 2) (w27 e13)⟩, trivial⟩ ?_
    rcases Bool.eq_false_or_eq_true (!v13) with h1 | h1
    · replace h := iteT h1 h
      refine AtOps.run (iv 5 29) (iv 34 0) [(9, aT)] [(5, false), (6, false), (7, false), (8, false)] [13, 14, 16, 17, 19, 20, 22, 23, 25, 26, 28, 29, 31, 32, 34, 35, 37, 38, 40, 41, 154] [] (n := 206) (sl := [(13, dI v3.2.1), (14, dI v3.2.2), (16, dI v4.2.1), (17, dI v4.2.2), (19, dI v5.2.1), (20, dI v5.2.2), (22, dI v6.2.1), (23, dI v6.2.2), (25, dI v7.2.1), (26, dI v7.2.2), (28, dI v8.2.1), (29, dI v8.2.2), (31, dI v9.2.1), (32, dI v9.2.2), (34, dI v10.2.1), (35, dI v10.2.2), (37, dI v11.2.1), (38, dI v11.2.2), (40, dI v12.2.1), (41, dI v12.2.2), (154, .bool true)]) (bl := []) (q := [((!v13) == false) = false, ((!v13) == false) = false, ((!v13) == false) = false, ((!v13) == false) = false, True ∧ ((!v13) = true), True, True, True, True, True, True, True, True, True, True, True, True, True, True, True, True]) (by kernel_rfl) (by kernel_rfl) ⟨gB h1 rfl, gB h1 rfl, gB h1 rfl, gB h1 rfl, ⟨trivial, h1⟩, trivial, trivial, trivial, trivial, trivial, trivial, trivial, trivial, trivial, trivial, trivial, trivial, trivial, trivial, trivial, trivial, trivial⟩ ?_
      refine AtOps.done ?_
      refine At.advN [] [] 400 (ev := .cond true c7x15 c7x16 [.seq c7x17]) (σ' := mkS 206 [(13, dI v3.2.1), (14, dI v3.2.2), (16, dI v4.2.1), (17, dI v4.2.2), (19, dI v5.2.1), (20, dI v5.2.2), (22, dI v6.2.1), (23, dI v6.2.2), (25, dI v7.2.1), (26, dI v7.2.2), (28, dI v8.2.1), (29, dI v8.2.2), (31, dI v9.2.1), (32, dI v9.2.2), (34, dI v10.2.1), (35, dI v10.2.2), (37, dI v11.2.1), (38, dI v11.2.2), (40, dI v12.2.1), (41, dI v12.2.2), (154, .bool true)] []) (q := []) (by kernel_rfl) trivial ?_
      refine EvOk.cond (fun _ => ?_) (fun hb => Bool.noConfusion hb)
      refine At.gc [] [] (n := 206) (l := []) (bl := []) (by kernel_rfl) ?_
      refine At.adv [] [(15, { keep := some ([10], []) })] 400 (ev := .ret) (σ' := mkS 206 [(10, .bool false)] []) (q := []) (by kernel_rfl) trivial ?_
      refine EvOk.ret ?_
      obtain rfl := someE h
      exact Den.Ends.mk (.inl rfl) (d := .bool false) (p := (True ∧ True) ∧ (tN 1)) (by kernel_rfl) ⟨⟨trivial, trivial⟩, tNi 1⟩ (by kernel_rfl)
    · replace h := iteF h1 h
      obtain ⟨v14, e14, h⟩ := bindE h
      refine AtOps.run (iv 5 6) (iv 11 23) [(7, aB v14), (9, aF)] [(5, true), (6, true), (7, true), (8, true)] [0, 11, 13, 14, 16, 17, 19, 20, 22, 23, 24, 25, 26, 27, 28, 29, 30, 31, 32, 33, 34, 35, 36, 37, 38, 39, 40, 41, 131] [(46, 46)] (n := 206) (sl := [(0, .sl false (x0.map row_T_api_Const)), (11, .lsl 46 0 (((([] : List T_api_Const) ++ x0).map row_T_api_Const).length)), (13, dI v3.2.1), (14, dI v3.2.2), (16, dI v4.2.1), (17, dI v4.2.2), (19, dI v5.2.1), (20, dI v5.2.2), (22, dI v6.2.1), (23, dI v6.2.2), (24, .sl false (v7.1.map row_T_api_Const)), (25, dI v7.2.1), (26, dI v7.2.2), (27, .sl false (v8.1.map row_T_api_Const)), (28, dI v8.2.1), (29, dI v8.2.2), (30, .sl false (v9.1.map row_T_api_Const)), (31, dI v9.2.1), (32, dI v9.2.2), (33, .sl false (v10.1.map row_T_api_Const)), (34, dI v10.2.1), (35, dI v10.2.2), (36, .sl false (v11.1.map row_T_api_Const)), (37, dI v11.2.1), (38, dI v11.2.2), (39, .sl false (v12.1.map row_T_api_Const)), (40, dI v12.2.1), (41, dI v12.2.2), (131, .bool (!v14))]) (bl := [(46, { sz := 5, rows := ((([] : List T_api_Const) ++ x0).map row_T_api_Const), frz := ((([] : List T_api_Const) ++ x0).map row_T_api_Const).length, pure := true })]) (q := [((!v13) == false) = true ∧ True, ((!v13) == false) = true ∧ True, ((!v13) == false) = true ∧ (cq Try.prog (tN 2) 27 [.sl false (v5.1.map row_T_api_Const), .sl false (v6.1.map row_T_api_Const)] (.bool v14)), ((!v13) == false) = true ∧ True, True ∧ ((!v13) = false)]) (by kernel_rfl) (by kernel_rfl) ⟨⟨(gB h1 rfl), trivial⟩, ⟨(gB h1 rfl), trivial⟩, ⟨(gB h1 rfl), cqi (tNi 2) (w27 e14)⟩, ⟨(gB h1 rfl), trivial⟩, ⟨trivial, h1⟩, trivial⟩ ?_
      rcases Bool.eq_false_or_eq_true (!v14) with h2 | h2
      · replace h := iteT h2 h
        refine AtOps.run (iv 11 23) (iv 34 0) [(15, aT)] [(11, false), (12, false), (13, false), (14, false)] [13, 14, 16, 17, 19, 20, 22, 23, 25, 26, 28, 29, 31, 32, 34, 35, 37, 38, 40, 41, 154] [] (n := 206) (sl := [(13, dI v3.2.1), (14, dI v3.2.2), (16, dI v4.2.1), (17, dI v4.2.2), (19, dI v5.2.1), (20, dI v5.2.2), (22, dI v6.2.1), (23, dI v6.2.2), (25, dI v7.2.1), (26, dI v7.2.2), (28, dI v8.2.1), (29, dI v8.2.2), (31, dI v9.2.1), (32, dI v9.2.2), (34, dI v10.2.1), (35, dI v10.2.2), (37, dI v11.2.1), (38, dI v11.2.2), (40, dI v12.2.1), (41, dI v12.2.2), (154, .bool true)]) (bl := []) (q := [((!v14) == false) = false, ((!v14) == false) = false, ((!v14) == false) = false, ((!v14) == false) = false, True ∧ ((!v14) = true), True, True, True, True, True, True, True, True, True, True, True, True]) (by kernel_rfl) (by kernel_rfl) ⟨gB h2 rfl, gB h2 rfl, gB h2 rfl, gB h2 rfl, ⟨trivial, h2⟩, trivial, trivial, trivial, trivial, trivial, trivial, trivial, trivial, trivial, trivial, trivial, trivial, trivial⟩ ?_
        refine AtOps.done ?_
        refine At.advN [] [] 400 (ev := .cond true c7x15 c7x16 [.seq c7x17]) (σ' := mkS 206 [(13, dI v3.2.1), (14, dI v3.2.2), (16, dI v4.2.1), (17, dI v4.2.2), (19, dI v5.2.1), (20, dI v5.2.2), (22, dI v6.2.1), (23, dI v6.2.2), (25, dI v7.2.1), (26, dI v7.2.2), (28, dI v8.2.1), (29, dI v8.2.2), (31, dI v9.2.1), (32, dI v9.2.2), (34, dI v10.2.1), (35, dI v10.2.2), (37, dI v11.2.1), (38, dI v11.2.2), (40, dI v12.2.1), (41, dI v12.2.2), (154, .bool true)] []) (q := []) (by kernel_rfl) trivial ?_
        refine EvOk.cond (fun _ => ?_) (fun hb => Bool.noConfusion hb)
        refine At.gc [] [] (n := 206) (l := []) (bl := []) (by kernel_rfl) ?_
        refine At.adv [] [(15, { keep := some ([10], []) })] 400 (ev := .ret) (σ' := mkS 206 [(10, .bool false)] []) (q := []) (by kernel_rfl) trivial ?_
        refine EvOk.ret ?_
        obtain rfl := someE h
        exact Den.Ends.mk (.inl rfl) (d := .bool false) (p := (True ∧ True) ∧ (tN 1)) (by kernel_rfl) ⟨⟨trivial, trivial⟩, tNi 1⟩ (by kernel_rfl)
      · replace h := iteF h2 h
        obtain ⟨v15, e15, h⟩ := bindE h
        refine AtOps.run (iv 11 6) (iv 17 17) [(13, aB v15), (15, aF)] [(11, true), (12, true), (13, true), (14, true)] [0, 11, 13, 14, 16, 17, 19, 20, 22, 23, 25, 26, 28, 29, 30, 31, 32, 33, 34, 35, 36, 37, 38, 39, 40, 41, 137] [(46, 46)] (n := 206) (sl := [(0, .sl false (x0.map row_T_api_Const)), (11, .lsl 46 0 (((([] : List T_api_Const) ++ x0).map row_T_api_Const).length)), (13, dI v3.2.1), (14, dI v3.2.2), (16, dI v4.2.1), (17, dI v4.2.2), (19, dI v5.2.1), (20, dI v5.2.2), (22, dI v6.2.1), (23, dI v6.2.2), (25, dI v7.2.1), (26, dI v7.2.2), (28, dI v8.2.1), (29, dI v8.2.2), (30, .sl false (v9.1.map row_T_api_Const)), (31, dI v9.2.1), (32, dI v9.2.2), (33, .sl false (v10.1.map row_T_api_Const)), (34, dI v10.2.1), (35, dI v10.2.2), (36, .sl false (v11.1.map row_T_api_Const)), (37, dI v11.2.1), (38, dI v11.2.2), (39, .sl false (v12.1.map row_T_api_Const)), (40, dI v12.2.1), (41, dI v12.2.2), (137, .bool (!v15))]) (bl := [(46, { sz := 5, rows := ((([] : List T_api_Const) ++ x0).map row_T_api_Const), frz := ((([] : List T_api_Const) ++ x0).map row_T_api_Const).length, pure := true })]) (q := [((!v14) == false) = true ∧ True, ((!v14) == false) = true ∧ True, ((!v14) == false) = true ∧ (cq Try.prog (tN 2) 27 [.sl false (v7.1.map row_T_api_Const), .sl false (v8.1.map row_T_api_Const)] (.bool v15)), ((!v14) == false) = true ∧ True, True ∧ ((!v14) = false)]) (by kernel_rfl) (by kernel_rfl) ⟨⟨(gB h2 rfl), trivial⟩, ⟨(gB h2 rfl), trivial⟩, ⟨(gB h2 rfl), cqi (tNi 2) (w27 e15)⟩, ⟨(gB h2 rfl), trivial⟩, ⟨trivial, h2⟩, trivial⟩ ?_
        rcases Bool.eq_false_or_eq_true (!v15) with h3 | h3
        · replace h := iteT h3 h
          refine AtOps.run (iv 17 17) (iv 34 0) [(21, aT)] [(17, false), (18, false), (19, false), (20, false)] [13, 14, 16, 17, 19, 20, 22, 23, 25, 26, 28, 29, 31, 32, 34, 35, 37, 38, 40, 41, 154] [] (n := 206) (sl := [(13, dI v3.2.1), (14, dI v3.2.2), (16, dI v4.2.1), (17, dI v4.2.2), (19, dI v5.2.1), (20, dI v5.2.2), (22, dI v6.2.1), (23, dI v6.2.2), (25, dI v7.2.1), (26, dI v7.2.2), (28, dI v8.2.1), (29, dI v8.2.2), (31, dI v9.2.1), (32, dI v9.2.2), (34, dI v10.2.1), (35, dI v10.2.2), (37, dI v11.2.1), (38, dI v11.2.2), (40, dI v12.2.1), (41, dI v12.2.2), (154, .bool true)]) (bl := []) (q := [((!v15) == false) = false, ((!v15) == false) = false, ((!v15) == false) = false, ((!v15) == false) = false, True ∧ ((!v15) = true), True, True, True, True, True, True, True, True]) (by kernel_rfl) (by kernel_rfl) ⟨gB h3 rfl, gB h3 rfl, gB h3 rfl, gB h3 rfl, ⟨trivial, h3⟩, trivial, trivial, trivial, trivial, trivial, trivial, trivial, trivial, trivial⟩ ?_
          refine AtOps.done ?_
          refine At.advN [] [] 400 (ev := .cond true c7x15 c7x16 [.seq c7x17]) (σ' := mkS 206 [(13, dI v3.2.1), (14, dI v3.2.2), (16, dI v4.2.1), (17, dI v4.2.2), (19, dI v5.2.1), (20, dI v5.2.2), (22, dI v6.2.1), (23, dI v6.2.2), (25, dI v7.2.1), (26, dI v7.2.2), (28, dI v8.2.1), (29, dI v8.2.2), (31, dI v9.2.1), (32, dI v9.2.2), (34, dI v10.2.1), (35, dI v10.2.2), (37, dI v11.2.1), (38, dI v11.2.2), (40, dI v12.2.1), (41, dI v12.2.2), (154, .bool true)] []) (q := []) (by kernel_rfl) trivial ?_
          refine EvOk.cond (fun _ => ?_) (fun hb => Bool.noConfusion hb)
          refine At.gc [] [] (n := 206) (l := []) (bl := []) (by kernel_rfl) ?_
          refine At.adv [] [(15, { keep := some ([10], []) })] 400 (ev := .ret) (σ' := mkS 206 [(10, .bool false)] []) (q := []) (by kernel_rfl) trivial ?_
          refine EvOk.ret ?_
          obtain rfl := someE h
          exact Den.Ends.mk (.inl rfl) (d := .bool false) (p := (True ∧ True) ∧ (tN 1)) (by kernel_rfl) ⟨⟨trivial, trivial⟩, tNi 1⟩ (by kernel_rfl)
        · replace h := iteF h3 h
          obtain ⟨v16, e16, h⟩ := bindE h
          refine AtOps.run (iv 17 6) (iv 23 11) [(19, aB v16), (21, aF)] [(17, true), (18, true), (19, true), (20, true)] [0, 11, 13, 14, 16, 17, 19, 20, 22, 23, 25, 26, 28, 29, 31, 32, 34, 35, 36, 37, 38, 39, 40, 41, 143] [(46, 46)] (n := 206) (sl := [(0, .sl false (x0.map row_T_api_Const)), (11, .lsl 46 0 (((([] : List T_api_Const) ++ x0).map row_T_api_Const).length)), (13, dI v3.2.1), (14, dI v3.2.2), (16, dI v4.2.1), (17, dI v4.2.2), (19, dI v5.2.1), (20, dI v5.2.2), (22, dI v6.2.1), (23, dI v6.2.2), (25, dI v7.2.1), (26, dI v7.2.2), (28, dI v8.2.1), (29, dI v8.2.2), (31, dI v9.2.1), (32, dI v9.2.2), (34, dI v10.2.1), (35, dI v10.2.2), (36, .sl false (v11.1.map row_T_api_Const)), (37, dI v11.2.1), (38, dI v11.2.2), (39, .sl false (v12.1.map row_T_api_Const)), (40, dI v12.2.1), (41, dI v12.2.2), (143, .bool (!v16))]) (bl := [(46, { sz := 5, rows := ((([] : List T_api_Const) ++ x0).map row_T_api_Const), frz := ((([] : List T_api_Const) ++ x0).map row_T_api_Const).length, pure := true })]) (q := [((!v15) == false) = true ∧ True, ((!v15) == false) = true ∧ True, ((!v15) == false) = true ∧ (cq Try.prog (tN 2) 27 [.sl false (v9.1.map row_T_api_Const), .sl false (v10.1.map row_T_api_Const)] (.bool v16)), ((!v15) == false) = true ∧ True, True ∧ ((!v15) = false)]) (by kernel_rfl) (by kernel_rfl) ⟨⟨(gB h3 rfl), trivial⟩, ⟨(gB h3 rfl), trivial⟩, ⟨(gB h3 rfl), cqi (tNi 2) (w27 e16)⟩, ⟨(gB h3 rfl), trivial⟩, ⟨trivial, h3⟩, trivial⟩ ?_
          rcases Bool.eq_false_or_eq_true (!v16) with h4 | h4
          · replace h := iteT h4 h
            refine AtOps.run (iv 23 11) (iv 34 0) [(27, aT)] [(23, false), (24, false), (25, false), (26, false)] [13, 14, 16, 17, 19, 20, 22, 23, 25, 26, 28, 29, 31, 32, 34, 35, 37, 38, 40, 41, 154] [] (n := 206) (sl := [(13, dI v3.2.1), (14, dI v3.2.2), (16, dI v4.2.1), (17, dI v4.2.2), (19, dI v5.2.1), (20, dI v5.2.2), (22, dI v6.2.1), (23, dI v6.2.2), (25, dI v7.2.1), (26, dI v7.2.2), (28, dI v8.2.1), (29, dI v8.2.2), (31, dI v9.2.1), (32, dI v9.2.2), (34, dI v10.2.1), (35, dI v10.2.2), (37, dI v11.2.1), (38, dI v11.2.2), (40, dI v12.2.1), (41, dI v12.2.2), (154, .bool true)]) (bl := []) (q := [((!v16) == false) = false, ((!v16) == false) = false, ((!v16) == false) = false, ((!v16) == false) = false, True ∧ ((!v16) = true), True, True, True, True]) (by kernel_rfl) (by kernel_rfl) ⟨gB h4 rfl, gB h4 rfl, gB h4 rfl, gB h4 rfl, ⟨trivial, h4⟩, trivial, trivial, trivial, trivial, trivial⟩ ?_
            refine AtOps.done ?_
            refine At.advN [] [] 400 (ev := .cond true c7x15 c7x16 [.seq c7x17]) (σ' := mkS 206 [(13, dI v3.2.1), (14, dI v3.2.2), (16, dI v4.2.1), (17, dI v4.2.2), (19, dI v5.2.1), (20, dI v5.2.2), (22, dI v6.2.1), (23, dI v6.2.2), (25, dI v7.2.1), (26, dI v7.2.2), (28, dI v8.2.1), (29, dI v8.2.2), (31, dI v9.2.1), (32, dI v9.2.2), (34, dI v10.2.1), (35, dI v10.2.2), (37, dI v11.2.1), (38, dI v11.2.2), (40, dI v12.2.1), (41, dI v12.2.2), (154, .bool true)] []) (q := []) (by kernel_rfl) trivial ?_
            refine EvOk.cond (fun _ => ?_) (fun hb => Bool.noConfusion hb)
            refine At.gc [] [] (n := 206) (l := []) (bl := []) (by kernel_rfl) ?_
            refine At.adv [] [(15, { keep := some ([10], []) })] 400 (ev := .ret) (σ' := mkS 206 [(10, .bool false)] []) (q := []) (by kernel_rfl) trivial ?_
            refine EvOk.ret ?_
            obtain rfl := someE h
            exact Den.Ends.mk (.inl rfl) (d := .bool false) (p := (True ∧ True) ∧ (tN 1)) (by kernel_rfl) ⟨⟨trivial, trivial⟩, tNi 1⟩ (by kernel_rfl)
          · replace h := iteF h4 h
            obtain ⟨v17, e17, h⟩ := bindE h
            refine AtOps.run (iv 23 6) (iv 29 5) [(25, aB v17), (27, aF)] [(23, true), (24, true), (25, true), (26, true)] [0, 11, 13, 14, 16, 17, 19, 20, 22, 23, 25, 26, 28, 29, 31, 32, 34, 35, 37, 38, 40, 41, 149] [(46, 46)] (n := 206) (sl := [(0, .sl false (x0.map row_T_api_Const)), (11, .lsl 46 0 (((([] : List T_api_Const) ++ x0).map row_T_api_Const).length)), (13, dI v3.2.1), (14, dI v3.2.2), (16, dI v4.2.1), (17, dI v4.2.2), (19, dI v5.2.1), (20, dI v5.2.2), (22, dI v6.2.1), (23, dI v6.2.2), (25, dI v7.2.1), (26, dI v7.2.2), (28, dI v8.2.1), (29, dI v8.2.2), (31, dI v9.2.1), (32, dI v9.2.2), (34, dI v10.2.1), (35, dI v10.2.2), (37, dI v11.2.1), (38, dI v11.2.2), (40, dI v12.2.1), (41, dI v12.2.2), (149, .bool (!v17))]) (bl := [(46, { sz := 5, rows := ((([] : List T_api_Const) ++ x0).map row_T_api_Const), frz := ((([] : List T_api_Const) ++ x0).map row_T_api_Const).length, pure := true })]) (q := [((!v16) == false) = true ∧ True, ((!v16) == false) = true ∧ True, ((!v16) == false) = true ∧ (cq Try.prog (tN 2) 27 [.sl false (v11.1.map row_T_api_Const), .sl false (v12.1.map row_T_api_Const)] (.bool v17)), ((!v16) == false) = true ∧ True, True ∧ ((!v16) = false)]) (by kernel_rfl) (by kernel_rfl) ⟨⟨(gB h4 rfl), trivial⟩, ⟨(gB h4 rfl), trivial⟩, ⟨(gB h4 rfl), cqi (tNi 2) (w27 e17)⟩, ⟨(gB h4 rfl), trivial⟩, ⟨trivial, h4⟩, trivial⟩ ?_
            rcases Bool.eq_false_or_eq_true (!v17) with h5 | h5
            · replace h := iteT h5 h
              refine AtOps.run (iv 29 5) (iv 34 0) [(33, aT)] [(29, false), (30, false), (31, false), (32, false)] [13, 14, 16, 17, 19, 20, 22, 23, 25, 26, 28, 29, 31, 32, 34, 35, 37, 38, 40, 41, 154] [] (n := 206) (sl := [(13, dI v3.2.1), (14, dI v3.2.2), (16, dI v4.2.1), (17, dI v4.2.2), (19, dI v5.2.1), (20, dI v5.2.2), (22, dI v6.2.1), (23, dI v6.2.2), (25, dI v7.2.1), (26, dI v7.2.2), (28, dI v8.2.1), (29, dI v8.2.2), (31, dI v9.2.1), (32, dI v9.2.2), (34, dI v10.2.1), (35, dI v10.2.2), (37, dI v11.2.1), (38, dI v11.2.2), (40, dI v12.2.1), (41, dI v12.2.2), (154, .bool true)]) (bl := []) (q := [((!v17) == false) = false, ((!v17) == false) = false, ((!v17) == false) = false, ((!v17) == false) = false, True ∧ ((!v17) = true)]) (by kernel_rfl) (by kernel_rfl) ⟨gB h5 rfl, gB h5 rfl, gB h5 rfl, gB h5 rfl, ⟨trivial, h5⟩, trivial⟩ ?_
              refine AtOps.done ?_
              refine At.advN [] [] 400 (ev := .cond true c7x15 c7x16 [.seq c7x17]) (σ' := mkS 206 [(13, dI v3.2.1), (14, dI v3.2.2), (16, dI v4.2.1), (17, dI v4.2.2), (19, dI v5.2.1), (20, dI v5.2.2), (22, dI v6.2.1), (23, dI v6.2.2), (25, dI v7.2.1), (26, dI v7.2.2), (28, dI v8.2.1), (29, dI v8.2.2), (31, dI v9.2.1), (32, dI v9.2.2), (34, dI v10.2.1), (35, dI v10.2.2), (37, dI v11.2.1), (38, dI v11.2.2), (40, dI v12.2.1), (41, dI v12.2.2), (154, .bool true)] []) (q := []) (by kernel_rfl) trivial ?_
              refine EvOk.cond (fun _ => ?_) (fun hb => Bool.noConfusion hb)
              refine At.gc [] [] (n := 206) (l := []) (bl := []) (by kernel_rfl) ?_
              refine At.adv [] [(15, { keep := some ([10], []) })] 400 (ev := .ret) (σ' := mkS 206 [(10, .bool false)] []) (q := []) (by kernel_rfl) trivial ?_
              refine EvOk.ret ?_
              obtain rfl := someE h
              exact Den.Ends.mk (.inl rfl) (d := .bool false) (p := (True ∧ True) ∧ (tN 1)) (by kernel_rfl) ⟨⟨trivial, trivial⟩, tNi 1⟩ (by kernel_rfl)
            · replace h := iteF h5 h
              obtain ⟨v18, e18, h⟩ := bindE h
              refine AtOps.run (iv 29 5) (iv 34 0) [(31, { ans := .val (.bool v18), args := [.sl false ((([] : List T_api_Const) ++ x0).map row_T_api_Const), .sl false (x0.map row_T_api_Const)] }), (33, aF)] [(29, true), (30, true), (31, true), (32, true)] [13, 14, 16, 17, 19, 20, 22, 23, 25, 26, 28, 29, 31, 32, 34, 35, 37, 38, 40, 41, 154] [] (n := 206) (sl := [(13, dI v3.2.1), (14, dI v3.2.2), (16, dI v4.2.1), (17, dI v4.2.2), (19, dI v5.2.1), (20, dI v5.2.2), (22, dI v6.2.1), (23, dI v6.2.2), (25, dI v7.2.1), (26, dI v7.2.2), (28, dI v8.2.1), (29, dI v8.2.2), (31, dI v9.2.1), (32, dI v9.2.2), (34, dI v10.2.1), (35, dI v10.2.2), (37, dI v11.2.1), (38, dI v11.2.2), (40, dI v12.2.1), (41, dI v12.2.2), (154, .bool (!v18))]) (bl := []) (q := [((!v17) == false) = true ∧ True, ((!v17) == false) = true ∧ True, ((!v17) == false) = true ∧ (((0 + ((([] : List T_api_Const) ++ x0).map row_T_api_Const).length ≤ ((([] : List T_api_Const) ++ x0).map row_T_api_Const).length) ∧ (True ∧ True)) ∧ ([.sl false ((((([] : List T_api_Const) ++ x0).map row_T_api_Const).drop 0).take ((([] : List T_api_Const) ++ x0).map row_T_api_Const).length), .sl false (x0.map row_T_api_Const)] : List D) = [.sl false ((([] : List T_api_Const) ++ x0).map row_T_api_Const), .sl false (x0.map row_T_api_Const)] ∧ CallAny Try.prog 27 [.sl false ((([] : List T_api_Const) ++ x0).map row_T_api_Const), .sl false (x0.map row_T_api_Const)] (.bool v18)), ((!v17) == false) = true ∧ True, True ∧ ((!v17) = false)]) (by kernel_rfl) (by kernel_rfl) ⟨⟨(gB h5 rfl), trivial⟩, ⟨(gB h5 rfl), trivial⟩, ⟨(gB h5 rfl), ⟨⟨roomAll _, ⟨trivial, trivial⟩⟩, by simp only [takeAll] <;> kernel_rfl, .inl (w27 e18)⟩⟩, ⟨(gB h5 rfl), trivial⟩, ⟨trivial, h5⟩, trivial⟩ ?_
              refine AtOps.done ?_
              refine At.advN [] [] 400 (ev := .cond (!v18) c7x15 c7x16 [.seq c7x17]) (σ' := mkS 206 [(13, dI v3.2.1), (14, dI v3.2.2), (16, dI v4.2.1), (17, dI v4.2.2), (19, dI v5.2.1), (20, dI v5.2.2), (22, dI v6.2.1), (23, dI v6.2.2), (25, dI v7.2.1), (26, dI v7.2.2), (28, dI v8.2.1), (29, dI v8.2.2), (31, dI v9.2.1), (32, dI v9.2.2), (34, dI v10.2.1), (35, dI v10.2.2), (37, dI v11.2.1), (38, dI v11.2.2), (40, dI v12.2.1), (41, dI v12.2.2), (154, .bool (!v18))] []) (q := []) (by kernel_rfl) trivial ?_
              refine EvOk.cond (fun h6 => ?_) (fun h6 => ?_)
              · replace h := iteT h6 h
                refine At.gc [] [] (n := 206) (l := []) (bl := []) (by kernel_rfl) ?_
                refine At.adv [] [(15, { keep := some ([10], []) })] 400 (ev := .ret) (σ' := mkS 206 [(10, .bool false)] []) (q := []) (by kernel_rfl) trivial ?_
                refine EvOk.ret ?_
                obtain rfl := someE h
                exact Den.Ends.mk (.inl rfl) (d := .bool false) (p := (True ∧ True) ∧ (tN 1)) (by kernel_rfl) ⟨⟨trivial, trivial⟩, tNi 1⟩ (by kernel_rfl)
              · replace h := iteF h6 h
                refine At.gc [13, 14, 16, 17, 19, 20, 22, 23, 25, 26, 28, 29, 31, 32, 34, 35, 37, 38, 40, 41] [] (n := 206) (l := [(13, dI v3.2.1), (14, dI v3.2.2), (16, dI v4.2.1), (17, dI v4.2.2), (19, dI v5.2.1), (20, dI v5.2.2), (22, dI v6.2.1), (23, dI v6.2.2), (25, dI v7.2.1), (26, dI v7.2.2), (28, dI v8.2.1), (29, dI v8.2.2), (31, dI v9.2.1), (32, dI v9.2.2), (34, dI v10.2.1), (35, dI v10.2.2), (37, dI v11.2.1), (38, dI v11.2.2), (40, dI v12.2.1), (41, dI v12.2.2)]) (bl := []) (by kernel_rfl) ?_
                refine At.adv [16] [] 400 (ev := .stop c7x18 [.seq c7x19]) (σ' := mkS 206 [(13, dI v3.2.1), (14, dI v3.2.2), (16, dI v4.2.1), (17, dI v4.2.2), (19, dI v5.2.1), (20, dI v5.2.2), (22, dI v6.2.1), (23, dI v6.2.2), (25, dI v7.2.1), (26, dI v7.2.2), (28, dI v8.2.1), (29, dI v8.2.2), (31, dI v9.2.1), (32, dI v9.2.2), (34, dI v10.2.1), (35, dI v10.2.2), (37, dI v11.2.1), (38, dI v11.2.2), (40, dI v12.2.1), (41, dI v12.2.2)] []) (q := []) (by kernel_rfl) trivial ?_
                exact (wj7x1 v3 v4 v5 v6 v7 v8 v9 v10 v11 v12)  r h Γ
theorem w7 {x0 : List T_api_Const} {x1 : T_api_Const} {x2 : List UInt8} {x3 : Int} {x4 : T_api_Ref} {r : Bool} (h : m_armaturelaw05_PoolAddReference x0 x1 x2 x3 x4 = some r) : CallSpec Try.prog 7 [.sl false (x0.map row_T_api_Const), .agg (row_T_api_Const x1), .str x2, .int .i64 x3, .agg (row_T_api_Ref x4)] (.bool r) :=
  CallSpec.at2 b7 (n := 206) (l := [(0, .sl false (x0.map row_T_api_Const)), (1, .agg (row_T_api_Const x1)), (2, .str x2), (3, .int .i64 x3), (4, .agg (row_T_api_Ref x4))]) (by kernel_rfl) (by kernel_rfl) (by kernel_rfl) (by kernel_rfl) (by kernel_rfl) (Nat.le_of_ble_eq_true (by kernel_rfl)) (fun Γ => we7 x0 x1 x2 x3 x4 r h Γ)
end Go.Proofs
