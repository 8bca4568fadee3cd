/-
  Models of functions of the program, and that the functions compute them. Printed by den2.py. No condition.
-/
import Derived.Test.YtcppeincgkalbaaPoo4
set_option linter.unusedVariables false
namespace Go.Proofs
open Go.Den
/-! ### armature armaturelaw05.PoolAddThenRead -/
noncomputable def b5 : Code := Try.f5.body.getD .skip
noncomputable def c5x0 : Code := sub1 b5
noncomputable def c5x1 : Code := sub1 c5x0
noncomputable def c5x2 : Code := sub1 c5x1
noncomputable def c5x3 : Code := sub1 c5x2
noncomputable def c5x4 : Code := sub1 c5x3
noncomputable def c5x5 : Code := sub0 c5x4
noncomputable def c5x6 : Code := sub1 c5x5
noncomputable def c5x7 : Code := sub0 c5x6
noncomputable def c5x8 : Code := sub0 c5x7
noncomputable def c5x9 : Code := sub1 c5x7
noncomputable def c5x10 : Code := sub1 c5x4
noncomputable def c5x11 : Code := sub1 c5x6
noncomputable def c5x12 : Code := sub0 c5x10
noncomputable def c5x13 : Code := sub1 c5x10
noncomputable def c5x14 : Code := sub0 c5x5
noncomputable def c5x15 : Code := sub0 c5x0
noncomputable def c5x16 : Code := sub1 c5x15
noncomputable def c5x17 : Code := sub0 c5x16
noncomputable def c5x18 : Code := sub1 c5x16
noncomputable def c5x19 : Code := sub1 c5x13
noncomputable def c5x20 : Code := sub1 c5x19
noncomputable def c5x21 : Code := sub1 c5x20
noncomputable def c5x22 : Code := sub1 c5x21
noncomputable def c5x23 : Code := sub0 c5x22
noncomputable def c5x24 : Code := sub1 c5x23
noncomputable def c5x25 : Code := sub0 c5x24
noncomputable def c5x26 : Code := sub1 c5x24
noncomputable def c5x27 : Code := sub1 c5x22
noncomputable def c5x28 : Code := sub0 c5x27
noncomputable def c5x29 : Code := sub1 c5x27
noncomputable def c5x30 : Code := sub0 c5x23
def j5x3 (x0 : List T_api_Const) : Option (Bool) :=
  (m_armaturelaw05_awake).bind fun v15 =>
  if v15 = true then (some (decide ((x0.length : Int) > 991))) else
  (some false)
def j5x2 (v4 : (List T_api_Const) × Int × Int) (x0 : List T_api_Const) : Option (Bool) :=
  (m_armaturelaw05_awake).bind fun v11 =>
  if v11 = true then (if (decide ((v4.1.length : Int) ≥ (x0.length : Int))) = true then ((some (IntKind.wrap .i64 ((x0.length : Int) + (9 : Int)))).bind fun v12 =>
      if (decide ((v4.1.length : Int) ≤ v12)) = true then ((sub v4.1 0 (x0.length : Int)).bind fun v13 =>
        (m_armatureref05_Same v13 x0).bind fun v14 =>
        some v14) else
      (some false)) else
    (some false)) else
  (some false)
def j5x1 (v2 : (List T_api_Const) × Int × Int) (v3 : (List T_api_Const) × Int × Int) (v4 : (List T_api_Const) × Int × Int) (x0 : List T_api_Const) (x1 : List UInt8) (x2 : T_api_Ref) : Option (Bool) :=
  (m_pool_ClassName v4.1 v2.2.1).bind fun v5 =>
  (m_pool_StringValue v4.1 v3.2.1).bind fun v6 =>
  (m_pool_MemberRef v4.1 v4.2.1 9).bind fun v7 =>
  (m_pool_MemberRef v4.1 v4.2.1 10).bind fun v8 =>
  (m_pool_AddMemberRef v4.1 9 x2).bind fun v9 =>
  if (!(v5.1 == x1)) = true then (some false) else
  (if (!(v6.1 == x1)) = true then (some false) else
    (if (!(eqb_T_api_Ref v7.1 x2)) = true then (some false) else
      (if (v5.2 != 0) = true then (some false) else
        (if (v6.2 != 0) = true then (some false) else
          (if (v7.2 != 0) = true then (some false) else
            (if (v8.2 != 11) = true then (some false) else
              (if (v9.2.1 != v4.2.1) = true then (some false) else
                (if (v9.2.2 != 0) = true then (some false) else
                  ((m_armatureref05_Same v9.1 v4.1).bind fun v10 =>
                    if (!v10) = true then
                      (some false) else
                    ((j5x2 v4 x0) ))))))))))
def m_armaturelaw05_PoolAddThenRead (x0 : List T_api_Const) (x1 : List UInt8) (x2 : T_api_Ref) : Option (Bool) :=
  (m_armaturelaw05_few x0).bind fun v0 =>
  if (!v0) = true then
    ((m_armaturelaw05_awake).bind fun v1 =>
    some v1) else
  ((m_pool_AddClass x0 x1).bind fun v2 =>
    (m_pool_AddString v2.1 x1).bind fun v3 =>
    (m_pool_AddMemberRef v3.1 9 x2).bind fun v4 =>
    if (v2.2.2 != 0) = true then ((j5x3 x0) ) else
    (if (v3.2.2 != 0) = true then ((j5x3 x0) ) else
      (if (v4.2.2 != 0) = true then
          ((j5x3 x0) ) else
        ((j5x1 v2 v3 v4 x0 x1 x2) ))))
theorem wj5x3 (x0 : List T_api_Const) (r : Bool) (h : (j5x3 x0)  = some r) (Γ : Ctx) : EvOk Try.prog Γ (Den.Ends Try.prog Try.f5 (.bool r)) (mkS 165 [(0, .sl false (x0.map row_T_api_Const))] []) (.stop c5x8 [.seq c5x9, .seq c5x10]) := by
  refine EvOk.stop ?_
  obtain ⟨v15, e15, h⟩ := bindE h
  rcases Bool.eq_false_or_eq_true v15 with h17 | h17
  · replace h := iteT h17 h
    refine At.adv [] [(7, { told := [(0, aB v15), (3, { ans := .val (dI (x0.length : Int)) }), (5, aT)], gs := [(2, true), (3, true), (4, true)], keep := some ([6], []) })] 400 (ev := .ret) (σ' := mkS 165 [(6, .bool (decide ((x0.length : Int) > 991)))] []) (q := [True ∧ (cq Try.prog (tN 0) 10 [] (.bool v15)), (v15 == true) = true ∧ True, (v15 == true) = true ∧ (((x0.map row_T_api_Const).length : Int) = (x0.length : Int)), (v15 == true) = true ∧ True, True ∧ (v15 = true)]) (by kernel_rfl) ⟨⟨trivial, cqi (tNi 0) (w10 e15)⟩, ⟨(gB h17 rfl), trivial⟩, ⟨(gB h17 rfl), lenM _ _⟩, ⟨(gB h17 rfl), trivial⟩, ⟨trivial, h17⟩, trivial⟩ ?_
    refine EvOk.ret ?_
    obtain rfl := someE h
    exact Den.Ends.mk (.inl rfl) (d := .bool (decide ((x0.length : Int) > 991))) (p := (True ∧ True) ∧ (tN 1)) (by kernel_rfl) ⟨⟨trivial, trivial⟩, tNi 1⟩ (by kernel_rfl)
  · replace h := iteF h17 h
    refine At.adv [] [(7, { told := [(0, aB v15), (5, aF)], gs := [(2, false), (3, false), (4, false)], keep := some ([6], []) })] 400 (ev := .ret) (σ' := mkS 165 [(6, .bool false)] []) (q := [True ∧ (cq Try.prog (tN 0) 10 [] (.bool v15)), (v15 == true) = false, (v15 == true) = false, (v15 == true) = false, True ∧ (v15 = false)]) (by kernel_rfl) ⟨⟨trivial, cqi (tNi 0) (w10 e15)⟩, gB h17 rfl, gB h17 rfl, gB h17 rfl, ⟨trivial, h17⟩, trivial⟩ ?_
    refine EvOk.ret ?_
    obtain rfl := someE h
    exact Den.Ends.mk (.inl rfl) (d := .bool false) (p := (True ∧ True) ∧ (tN 1)) (by kernel_rfl) ⟨⟨trivial, trivial⟩, tNi 1⟩ (by kernel_rfl)
theorem wj5x2 (v4 : (List T_api_Const) × Int × Int) (x0 : List T_api_Const) (r : Bool) (h : (j5x2 v4 x0)  = some r) (Γ : Ctx) : EvOk Try.prog Γ (Den.Ends Try.prog Try.f5 (.bool r)) (mkS 165 [(0, .sl false (x0.map row_T_api_Const)), (7, .sl false (v4.1.map row_T_api_Const))] []) (.stop c5x28 [.seq c5x29]) := by
  refine EvOk.stop (At.ops (l := iv 0 25) (by kernel_rfl) (by kernel_rfl) ?_)
  obtain ⟨v11, e11, h⟩ := bindE h
  refine AtOps.run (iv 0 2) (iv 2 23) [(0, aB v11)] [] [0, 7, 142] [] (n := 165) (sl := [(0, .sl false (x0.map row_T_api_Const)), (7, .sl false (v4.1.map row_T_api_Const)), (142, .bool v11)]) (bl := []) (q := [True ∧ (cq Try.prog (tN 0) 10 [] (.bool v11))]) (by kernel_rfl) (by kernel_rfl) ⟨⟨trivial, cqi (tNi 0) (w10 e11)⟩, trivial⟩ ?_
  rcases Bool.eq_false_or_eq_true v11 with h14 | h14
  · replace h := iteT h14 h
    refine AtOps.run (iv 2 7) (iv 9 16) [(3, { ans := .val (dI (v4.1.length : Int)) }), (5, { ans := .val (dI (x0.length : Int)) }), (7, aT)] [(2, true), (3, true), (4, true), (5, true), (6, true)] [0, 7, 149] [] (n := 165) (sl := [(0, .sl false (x0.map row_T_api_Const)), (7, .sl false (v4.1.map row_T_api_Const)), (149, .bool (decide ((v4.1.length : Int) ≥ (x0.length : Int))))]) (bl := []) (q := [(v11 == true) = true ∧ True, (v11 == true) = true ∧ (((v4.1.map row_T_api_Const).length : Int) = (v4.1.length : Int)), (v11 == true) = true ∧ True, (v11 == true) = true ∧ (((x0.map row_T_api_Const).length : Int) = (x0.length : Int)), (v11 == true) = true ∧ True, True ∧ (v11 = true)]) (by kernel_rfl) (by kernel_rfl) ⟨⟨(gB h14 rfl), trivial⟩, ⟨(gB h14 rfl), lenM _ _⟩, ⟨(gB h14 rfl), trivial⟩, ⟨(gB h14 rfl), lenM _ _⟩, ⟨(gB h14 rfl), trivial⟩, ⟨trivial, h14⟩, trivial⟩ ?_
    rcases Bool.eq_false_or_eq_true (decide ((v4.1.length : Int) ≥ (x0.length : Int))) with h15 | h15
    · replace h := iteT h15 h
      obtain ⟨v12, e12, h⟩ := bindE h
      refine AtOps.run (iv 9 8) (iv 17 8) [(10, { ans := .val (dI (v4.1.length : Int)) }), (12, { ans := .val (dI (x0.length : Int)) }), (13, aI v12), (15, aT)] [(9, true), (10, true), (11, true), (12, true), (13, true), (14, true)] [0, 7, 157] [] (n := 165) (sl := [(0, .sl false (x0.map row_T_api_Const)), (7, .sl false (v4.1.map row_T_api_Const)), (157, .bool (decide ((v4.1.length : Int) ≤ v12)))]) (bl := []) (q := [((decide ((v4.1.length : Int) ≥ (x0.length : Int))) == true) = true ∧ True, ((decide ((v4.1.length : Int) ≥ (x0.length : Int))) == true) = true ∧ (((v4.1.map row_T_api_Const).length : Int) = (v4.1.length : Int)), ((decide ((v4.1.length : Int) ≥ (x0.length : Int))) == true) = true ∧ True, ((decide ((v4.1.length : Int) ≥ (x0.length : Int))) == true) = true ∧ (((x0.map row_T_api_Const).length : Int) = (x0.length : Int)), ((decide ((v4.1.length : Int) ≥ (x0.length : Int))) == true) = true ∧ (IntKind.wrap .i64 ((x0.length : Int) + (9 : Int)) = v12), ((decide ((v4.1.length : Int) ≥ (x0.length : Int))) == true) = true ∧ True, True ∧ ((decide ((v4.1.length : Int) ≥ (x0.length : Int))) = true)]) (by kernel_rfl) (by kernel_rfl) ⟨⟨(gB h15 rfl), trivial⟩, ⟨(gB h15 rfl), lenM _ _⟩, ⟨(gB h15 rfl), trivial⟩, ⟨(gB h15 rfl), lenM _ _⟩, ⟨(gB h15 rfl), someE e12⟩, ⟨(gB h15 rfl), trivial⟩, ⟨trivial, h15⟩, trivial⟩ ?_
      rcases Bool.eq_false_or_eq_true (decide ((v4.1.length : Int) ≤ v12)) with h16 | h16
      · replace h := iteT h16 h
        obtain ⟨v13, e13, h⟩ := bindE h
        obtain ⟨v14, e14, h⟩ := bindE h
        refine AtOps.run (iv 17 8) (iv 25 0) [(19, { ans := .val (dI (x0.length : Int)) }), (20, { ans := .rows (v13.map row_T_api_Const) }), (22, aB v14), (23, aT)] [(17, true), (18, true), (19, true), (20, true), (21, true), (22, true)] [6] [] (n := 165) (sl := [(6, .bool v14)]) (bl := []) (q := [((decide ((v4.1.length : Int) ≤ v12)) == true) = true ∧ True, ((decide ((v4.1.length : Int) ≤ v12)) == true) = true ∧ True, ((decide ((v4.1.length : Int) ≤ v12)) == true) = true ∧ (((x0.map row_T_api_Const).length : Int) = (x0.length : Int)), ((decide ((v4.1.length : Int) ≤ v12)) == true) = true ∧ ((∀ x ∈ (v4.1.map row_T_api_Const), x.length = 5) ∧ sub (v4.1.map row_T_api_Const) 0 (x0.length : Int) = some (v13.map row_T_api_Const)), ((decide ((v4.1.length : Int) ≤ v12)) == true) = true ∧ True, ((decide ((v4.1.length : Int) ≤ v12)) == true) = true ∧ (cq Try.prog (tN 2) 27 [.sl false (v13.map row_T_api_Const), .sl false (x0.map row_T_api_Const)] (.bool v14)), True ∧ ((decide ((v4.1.length : Int) ≤ v12)) = true)]) (by kernel_rfl) (by kernel_rfl) ⟨⟨(gB h16 rfl), trivial⟩, ⟨(gB h16 rfl), trivial⟩, ⟨(gB h16 rfl), lenM _ _⟩, ⟨(gB h16 rfl), ⟨szM (f := row_T_api_Const) (n := 5) (fun _ => rfl) _, subM row_T_api_Const e13⟩⟩, ⟨(gB h16 rfl), trivial⟩, ⟨(gB h16 rfl), cqi (tNi 2) (w27 e14)⟩, ⟨trivial, h16⟩, trivial⟩ ?_
        refine AtOps.done ?_
        refine At.advN [] [] 400 (ev := .ret) (σ' := mkS 165 [(6, .bool v14)] []) (q := []) (by kernel_rfl) trivial ?_
        refine EvOk.ret ?_
        obtain rfl := someE h
        exact Den.Ends.mk (.inl rfl) (d := .bool v14) (p := (True ∧ True) ∧ (tN 1)) (by kernel_rfl) ⟨⟨trivial, trivial⟩, tNi 1⟩ (by kernel_rfl)
      · replace h := iteF h16 h
        refine AtOps.run (iv 17 8) (iv 25 0) [(23, aF)] [(17, false), (18, false), (19, false), (20, false), (21, false), (22, false)] [6] [] (n := 165) (sl := [(6, .bool false)]) (bl := []) (q := [((decide ((v4.1.length : Int) ≤ v12)) == true) = false, ((decide ((v4.1.length : Int) ≤ v12)) == true) = false, ((decide ((v4.1.length : Int) ≤ v12)) == true) = false, ((decide ((v4.1.length : Int) ≤ v12)) == true) = false, ((decide ((v4.1.length : Int) ≤ v12)) == true) = false, ((decide ((v4.1.length : Int) ≤ v12)) == true) = false, True ∧ ((decide ((v4.1.length : Int) ≤ v12)) = false)]) (by kernel_rfl) (by kernel_rfl) ⟨gB h16 rfl, gB h16 rfl, gB h16 rfl, gB h16 rfl, gB h16 rfl, gB h16 rfl, ⟨trivial, h16⟩, trivial⟩ ?_
        refine AtOps.done ?_
        refine At.advN [] [] 400 (ev := .ret) (σ' := mkS 165 [(6, .bool false)] []) (q := []) (by kernel_rfl) trivial ?_
        refine EvOk.ret ?_
        obtain rfl := someE h
        exact Den.Ends.mk (.inl rfl) (d := .bool false) (p := (True ∧ True) ∧ (tN 1)) (by kernel_rfl) ⟨⟨trivial, trivial⟩, tNi 1⟩ (by kernel_rfl)
    · replace h := iteF h15 h
      refine AtOps.run (iv 9 16) (iv 25 0) [(15, aF)] [(9, false), (10, false), (11, false), (12, false), (13, false), (14, false)] [6] [] (n := 165) (sl := [(6, .bool false)]) (bl := []) (q := [((decide ((v4.1.length : Int) ≥ (x0.length : Int))) == true) = false, ((decide ((v4.1.length : Int) ≥ (x0.length : Int))) == true) = false, ((decide ((v4.1.length : Int) ≥ (x0.length : Int))) == true) = false, ((decide ((v4.1.length : Int) ≥ (x0.length : Int))) == true) = false, ((decide ((v4.1.length : Int) ≥ (x0.length : Int))) == true) = false, ((decide ((v4.1.length : Int) ≥ (x0.length : Int))) == true) = false, True ∧ ((decide ((v4.1.length : Int) ≥ (x0.length : Int))) = false), True, True, True, True, True, True]) (by kernel_rfl) (by kernel_rfl) ⟨gB h15 rfl, gB h15 rfl, gB h15 rfl, gB h15 rfl, gB h15 rfl, gB h15 rfl, ⟨trivial, h15⟩, trivial, trivial, trivial, trivial, trivial, trivial, trivial⟩ ?_
      refine AtOps.done ?_
      refine At.advN [] [] 400 (ev := .ret) (σ' := mkS 165 [(6, .bool false)] []) (q := []) (by kernel_rfl) trivial ?_
      refine EvOk.ret ?_
      obtain rfl := someE h
      exact Den.Ends.mk (.inl rfl) (d := .bool false) (p := (True ∧ True) ∧ (tN 1)) (by kernel_rfl) ⟨⟨trivial, trivial⟩, tNi 1⟩ (by kernel_rfl)
  · replace h := iteF h14 h
    refine AtOps.run (iv 2 23) (iv 25 0) [(7, aF)] [(2, false), (3, false), (4, false), (5, false), (6, false)] [6] [] (n := 165) (sl := [(6, .bool false)]) (bl := []) (q := [(v11 == true) = false, (v11 == true) = false, (v11 == true) = false, (v11 == true) = false, (v11 == true) = false, True ∧ (v11 = false), True, True, True, True, True, True, True, True, True, True, True, True]) (by kernel_rfl) (by kernel_rfl) ⟨gB h14 rfl, gB h14 rfl, gB h14 rfl, gB h14 rfl, gB h14 rfl, ⟨trivial, h14⟩, trivial, trivial, trivial, trivial, trivial, trivial, trivial, trivial, trivial, trivial, trivial, trivial, trivial⟩ ?_
    refine AtOps.done ?_
    refine At.advN [] [] 400 (ev := .ret) (σ' := mkS 165 [(6, .bool false)] []) (q := []) (by kernel_rfl) trivial ?_
    refine EvOk.ret ?_
    obtain rfl := someE h
    exact Den.Ends.mk (.inl rfl) (d := .bool false) (p := (True ∧ True) ∧ (tN 1)) (by kernel_rfl) ⟨⟨trivial, trivial⟩, tNi 1⟩ (by kernel_rfl)
theorem wj5x1 (v2 : (List T_api_Const) × Int × Int) (v3 : (List T_api_Const) × Int × Int) (v4 : (List T_api_Const) × Int × Int) (x0 : List T_api_Const) (x1 : List UInt8) (x2 : T_api_Ref) (r : Bool) (h : (j5x1 v2 v3 v4 x0 x1 x2)  = some r) (Γ : Ctx) : EvOk Try.prog Γ (Den.Ends Try.prog Try.f5 (.bool r)) (mkS 165 [(0, .sl false (x0.map row_T_api_Const)), (1, .str x1), (5, .ptr (row_T_api_Ref x2)), (7, .sl false (v4.1.map row_T_api_Const)), (8, dI v2.2.1), (10, dI v3.2.1), (12, dI v4.2.1)] []) (.stop c5x12 [.seq c5x13]) := by
  refine EvOk.stop ?_
  obtain ⟨v5, e5, h⟩ := bindE h
  obtain ⟨v6, e6, h⟩ := bindE h
  obtain ⟨v7, e7, h⟩ := bindE h
  obtain ⟨v8, e8, h⟩ := bindE h
  obtain ⟨v9, e9, h⟩ := bindE h
  refine At.adv [13] [(8, { told := [(2, { ans := .val (.tup [.str v5.1, dI v5.2]) })], keep := some ([0, 1, 5, 7, 10, 12, 14, 15], []) }), (9, { told := [(2, { ans := .val (.tup [.str v6.1, dI v6.2]) })], keep := some ([0, 1, 5, 7, 12, 14, 15, 16, 17], []) }), (10, { told := [(2, { ans := .val (.tup [.agg (row_T_api_Ref v7.1), dI v7.2]) })], keep := some ([0, 1, 5, 7, 12, 14, 15, 16, 17, 18, 19], [(18, 18)]) }), (11, { told := [(2, { ans := .val (.tup [.agg (row_T_api_Ref v8.1), dI v8.2]) })], keep := some ([0, 1, 5, 7, 12, 14, 15, 16, 17, 18, 19, 21], [(18, 18)]) }), (12, { told := [(2, { ans := .val (.tup [.sl false (v9.1.map row_T_api_Const), dI v9.2.1, dI v9.2.2]) })], keep := some ([0, 1, 5, 7, 12, 14, 15, 16, 17, 18, 19, 21, 22, 23, 24], [(18, 18)]) })] 400 (ev := .stop c5x30 [.seq c5x24, .seq c5x27]) (σ' := mkS 165 [(0, .sl false (x0.map row_T_api_Const)), (1, .str x1), (5, .ptr (row_T_api_Ref x2)), (7, .sl false (v4.1.map row_T_api_Const)), (12, dI v4.2.1), (14, .str v5.1), (15, dI v5.2), (16, .str v6.1), (17, dI v6.2), (18, .lptr 18 0 0), (19, dI v7.2), (21, dI v8.2), (22, .sl false (v9.1.map row_T_api_Const)), (23, dI v9.2.1), (24, dI v9.2.2)] [(18, { sz := 3, rows := [row_T_api_Ref v7.1], frz := 0, pure := false })]) (q := [True ∧ (cq Try.prog (tN 2) 16 [.sl false (v4.1.map row_T_api_Const), dI v2.2.1] (.tup [.str v5.1, dI v5.2])), True ∧ (cq Try.prog (tN 2) 18 [.sl false (v4.1.map row_T_api_Const), dI v3.2.1] (.tup [.str v6.1, dI v6.2])), True ∧ (cq Try.prog (tN 3) 22 [.sl false (v4.1.map row_T_api_Const), dI v4.2.1, dI 9] (.tup [.agg (row_T_api_Ref v7.1), dI v7.2])), True ∧ (0 ≤ 0 ∧ 0 + ([.str v7.1.f_Class, .str v7.1.f_Name, .str v7.1.f_Desc] : List D).length ≤ ([.str [], .str [], .str []] : List D).length ∧ ([[.str v7.1.f_Class, .str v7.1.f_Name, .str v7.1.f_Desc]] : List (List D)) = ([[.str v7.1.f_Class, .str v7.1.f_Name, .str v7.1.f_Desc]] : List (List D))), True ∧ (cq Try.prog (tN 3) 22 [.sl false (v4.1.map row_T_api_Const), dI v4.2.1, dI 10] (.tup [.agg (row_T_api_Ref v8.1), dI v8.2])), True ∧ (0 ≤ 0 ∧ 0 + ([.str v8.1.f_Class, .str v8.1.f_Name, .str v8.1.f_Desc] : List D).length ≤ ([.str [], .str [], .str []] : List D).length ∧ ([[.str v8.1.f_Class, .str v8.1.f_Name, .str v8.1.f_Desc]] : List (List D)) = ([[.str v8.1.f_Class, .str v8.1.f_Name, .str v8.1.f_Desc]] : List (List D))), True ∧ (cq Try.prog (True ∧ (True ∧ ((tN 3) ∧ True))) 26 [.sl false (v4.1.map row_T_api_Const), dI 9, .agg [.str x2.f_Class, .str x2.f_Name, .str x2.f_Desc]] (.tup [.sl false (v9.1.map row_T_api_Const), dI v9.2.1, dI v9.2.2]))]) (by kernel_rfl) ⟨⟨trivial, cqi (tNi 2) (w16 e5)⟩, ⟨trivial, cqi (tNi 2) (w18 e6)⟩, ⟨trivial, cqi (tNi 3) (w22 e7)⟩, ⟨trivial, ⟨Nat.zero_le _, Nat.le_of_ble_eq_true rfl, rfl⟩⟩, ⟨trivial, cqi (tNi 3) (w22 e8)⟩, ⟨trivial, ⟨Nat.zero_le _, Nat.le_of_ble_eq_true rfl, rfl⟩⟩, ⟨trivial, cqi (⟨trivial, ⟨trivial, ⟨tNi 3, trivial⟩⟩⟩) (w26 e9)⟩, trivial⟩ ?_
  refine EvOk.stop (At.ops (l := iv 0 44) (by kernel_rfl) (by kernel_rfl) ?_)
  refine AtOps.run (iv 0 4) (iv 4 40) [] [] [0, 1, 5, 7, 12, 15, 16, 17, 18, 19, 21, 22, 23, 24, 100] [(18, 18)] (n := 165) (sl := [(0, .sl false (x0.map row_T_api_Const)), (1, .str x1), (5, .ptr (row_T_api_Ref x2)), (7, .sl false (v4.1.map row_T_api_Const)), (12, dI v4.2.1), (15, dI v5.2), (16, .str v6.1), (17, dI v6.2), (18, .lptr 18 0 0), (19, dI v7.2), (21, dI v8.2), (22, .sl false (v9.1.map row_T_api_Const)), (23, dI v9.2.1), (24, dI v9.2.2), (100, .bool (!(v5.1 == x1)))]) (bl := [(18, { sz := 3, rows := [row_T_api_Ref v7.1], frz := 0, pure := false })]) (q := []) (by kernel_rfl) (by kernel_rfl) trivial ?_
  rcases Bool.eq_false_or_eq_true (!(v5.1 == x1)) with h4 | h4
  · replace h := iteT h4 h
    refine AtOps.run (iv 4 40) (iv 44 0) [(7, aT)] [(4, false), (5, false), (6, false)] [0, 7, 140] [] (n := 165) (sl := [(0, .sl false (x0.map row_T_api_Const)), (7, .sl false (v4.1.map row_T_api_Const)), (140, .bool true)]) (bl := []) (q := [((!(v5.1 == x1)) == false) = false, ((!(v5.1 == x1)) == false) = false, ((!(v5.1 == x1)) == false) = false, True ∧ ((!(v5.1 == x1)) = true), True, True, True, True, True, True, True, True, True, True, True, True, True, True, True, True, True, True, True, True]) (by kernel_rfl) (by kernel_rfl) ⟨gB h4 rfl, gB h4 rfl, gB h4 rfl, ⟨trivial, h4⟩, trivial, trivial, trivial, trivial, trivial, trivial, trivial, trivial, trivial, trivial, trivial, trivial, trivial, trivial, trivial, trivial, trivial, trivial, trivial, trivial, trivial⟩ ?_
    refine AtOps.done ?_
    refine At.advN [] [] 400 (ev := .cond true c5x25 c5x26 [.seq c5x27]) (σ' := mkS 165 [(0, .sl false (x0.map row_T_api_Const)), (7, .sl false (v4.1.map row_T_api_Const)), (140, .bool true)] []) (q := []) (by kernel_rfl) trivial ?_
    refine EvOk.cond (fun _ => ?_) (fun hb => Bool.noConfusion hb)
    refine At.gc [] [] (n := 165) (l := []) (bl := []) (by kernel_rfl) ?_
    refine At.adv [] [(14, { keep := some ([6], []) })] 400 (ev := .ret) (σ' := mkS 165 [(6, .bool false)] []) (q := []) (by kernel_rfl) trivial ?_
    refine EvOk.ret ?_
    obtain rfl := someE h
    exact Den.Ends.mk (.inl rfl) (d := .bool false) (p := (True ∧ True) ∧ (tN 1)) (by kernel_rfl) ⟨⟨trivial, trivial⟩, tNi 1⟩ (by kernel_rfl)
  · replace h := iteF h4 h
    refine AtOps.run (iv 4 5) (iv 9 35) [(7, aF)] [(4, true), (5, true), (6, true)] [0, 5, 7, 12, 15, 17, 18, 19, 21, 22, 23, 24, 105] [(18, 18)] (n := 165) (sl := [(0, .sl false (x0.map row_T_api_Const)), (5, .ptr (row_T_api_Ref x2)), (7, .sl false (v4.1.map row_T_api_Const)), (12, dI v4.2.1), (15, dI v5.2), (17, dI v6.2), (18, .lptr 18 0 0), (19, dI v7.2), (21, dI v8.2), (22, .sl false (v9.1.map row_T_api_Const)), (23, dI v9.2.1), (24, dI v9.2.2), (105, .bool (!(v6.1 == x1)))]) (bl := [(18, { sz := 3, rows := [row_T_api_Ref v7.1], frz := 0, pure := false })]) (q := [((!(v5.1 == x1)) == false) = true ∧ True, ((!(v5.1 == x1)) == false) = true ∧ True, ((!(v5.1 == x1)) == false) = true ∧ True, True ∧ ((!(v5.1 == x1)) = false)]) (by kernel_rfl) (by kernel_rfl) ⟨⟨(gB h4 rfl), trivial⟩, ⟨(gB h4 rfl), trivial⟩, ⟨(gB h4 rfl), trivial⟩, ⟨trivial, h4⟩, trivial⟩ ?_
    rcases Bool.eq_false_or_eq_true (!(v6.1 == x1)) with h5 | h5
    · replace h := iteT h5 h
      refine AtOps.run (iv 9 35) (iv 44 0) [(12, aT)] [(9, false), (10, false), (11, false)] [0, 7, 140] [] (n := 165) (sl := [(0, .sl false (x0.map row_T_api_Const)), (7, .sl false (v4.1.map row_T_api_Const)), (140, .bool true)]) (bl := []) (q := [((!(v6.1 == x1)) == false) = false, ((!(v6.1 == x1)) == false) = false, ((!(v6.1 == x1)) == false) = false, True ∧ ((!(v6.1 == x1)) = true), True, True, True, True, True, True, True, True, True, True, True, True, True, True, True, True, True]) (by kernel_rfl) (by kernel_rfl) ⟨gB h5 rfl, gB h5 rfl, gB h5 rfl, ⟨trivial, h5⟩, trivial, trivial, trivial, trivial, trivial, trivial, trivial, trivial, trivial, trivial, trivial, trivial, trivial, trivial, trivial, trivial, trivial, trivial⟩ ?_
      refine AtOps.done ?_
      refine At.advN [] [] 400 (ev := .cond true c5x25 c5x26 [.seq c5x27]) (σ' := mkS 165 [(0, .sl false (x0.map row_T_api_Const)), (7, .sl false (v4.1.map row_T_api_Const)), (140, .bool true)] []) (q := []) (by kernel_rfl) trivial ?_
      refine EvOk.cond (fun _ => ?_) (fun hb => Bool.noConfusion hb)
      refine At.gc [] [] (n := 165) (l := []) (bl := []) (by kernel_rfl) ?_
      refine At.adv [] [(14, { keep := some ([6], []) })] 400 (ev := .ret) (σ' := mkS 165 [(6, .bool false)] []) (q := []) (by kernel_rfl) trivial ?_
      refine EvOk.ret ?_
      obtain rfl := someE h
      exact Den.Ends.mk (.inl rfl) (d := .bool false) (p := (True ∧ True) ∧ (tN 1)) (by kernel_rfl) ⟨⟨trivial, trivial⟩, tNi 1⟩ (by kernel_rfl)
    · replace h := iteF h5 h
      refine AtOps.run (iv 9 5) (iv 14 30) [(11, { ans := .val (.bool (!(eqb_T_api_Ref v7.1 x2))) }), (12, aF)] [(9, true), (10, true), (11, true)] [0, 7, 12, 15, 17, 19, 21, 22, 23, 24, 110] [] (n := 165) (sl := [(0, .sl false (x0.map row_T_api_Const)), (7, .sl false (v4.1.map row_T_api_Const)), (12, dI v4.2.1), (15, dI v5.2), (17, dI v6.2), (19, dI v7.2), (21, dI v8.2), (22, .sl false (v9.1.map row_T_api_Const)), (23, dI v9.2.1), (24, dI v9.2.2), (110, .bool (!(eqb_T_api_Ref v7.1 x2)))]) (bl := []) (q := [((!(v6.1 == x1)) == false) = true ∧ True, ((!(v6.1 == x1)) == false) = true ∧ True, ((!(v6.1 == x1)) == false) = true ∧ (Try.prog.eqGuardType Try.prog.depth 37 = false ∧ eqq_37 ∧ (!(eqb_T_api_Ref v7.1 x2)) = (!(eqb_T_api_Ref v7.1 x2))), True ∧ ((!(v6.1 == x1)) = false)]) (by kernel_rfl) (by kernel_rfl) ⟨⟨(gB h5 rfl), trivial⟩, ⟨(gB h5 rfl), trivial⟩, ⟨(gB h5 rfl), ⟨eqg_37, eqp_37, rfl⟩⟩, ⟨trivial, h5⟩, trivial⟩ ?_
      rcases Bool.eq_false_or_eq_true (!(eqb_T_api_Ref v7.1 x2)) with h6 | h6
      · replace h := iteT h6 h
        refine AtOps.run (iv 14 30) (iv 44 0) [(16, aT)] [(14, false), (15, false)] [0, 7, 140] [] (n := 165) (sl := [(0, .sl false (x0.map row_T_api_Const)), (7, .sl false (v4.1.map row_T_api_Const)), (140, .bool true)]) (bl := []) (q := [((!(eqb_T_api_Ref v7.1 x2)) == false) = false, ((!(eqb_T_api_Ref v7.1 x2)) == false) = false, True ∧ ((!(eqb_T_api_Ref v7.1 x2)) = true), True, True, True, True, True, True, True, True, True, True, True, True, True, True, True]) (by kernel_rfl) (by kernel_rfl) ⟨gB h6 rfl, gB h6 rfl, ⟨trivial, h6⟩, trivial, trivial, trivial, trivial, trivial, trivial, trivial, trivial, trivial, trivial, trivial, trivial, trivial, trivial, trivial, trivial⟩ ?_
        refine AtOps.done ?_
        refine At.advN [] [] 400 (ev := .cond true c5x25 c5x26 [.seq c5x27]) (σ' := mkS 165 [(0, .sl false (x0.map row_T_api_Const)), (7, .sl false (v4.1.map row_T_api_Const)), (140, .bool true)] []) (q := []) (by kernel_rfl) trivial ?_
        refine EvOk.cond (fun _ => ?_) (fun hb => Bool.noConfusion hb)
        refine At.gc [] [] (n := 165) (l := []) (bl := []) (by kernel_rfl) ?_
        refine At.adv [] [(14, { keep := some ([6], []) })] 400 (ev := .ret) (σ' := mkS 165 [(6, .bool false)] []) (q := []) (by kernel_rfl) trivial ?_
        refine EvOk.ret ?_
        obtain rfl := someE h
        exact Den.Ends.mk (.inl rfl) (d := .bool false) (p := (True ∧ True) ∧ (tN 1)) (by kernel_rfl) ⟨⟨trivial, trivial⟩, tNi 1⟩ (by kernel_rfl)
      · replace h := iteF h6 h
        refine AtOps.run (iv 14 4) (iv 18 26) [(16, aF)] [(14, true), (15, true)] [0, 7, 12, 17, 19, 21, 22, 23, 24, 114] [] (n := 165) (sl := [(0, .sl false (x0.map row_T_api_Const)), (7, .sl false (v4.1.map row_T_api_Const)), (12, dI v4.2.1), (17, dI v6.2), (19, dI v7.2), (21, dI v8.2), (22, .sl false (v9.1.map row_T_api_Const)), (23, dI v9.2.1), (24, dI v9.2.2), (114, .bool (v5.2 != 0))]) (bl := []) (q := [((!(eqb_T_api_Ref v7.1 x2)) == false) = true ∧ True, ((!(eqb_T_api_Ref v7.1 x2)) == false) = true ∧ True, True ∧ ((!(eqb_T_api_Ref v7.1 x2)) = false)]) (by kernel_rfl) (by kernel_rfl) ⟨⟨(gB h6 rfl), trivial⟩, ⟨(gB h6 rfl), trivial⟩, ⟨trivial, h6⟩, trivial⟩ ?_
        rcases Bool.eq_false_or_eq_true (v5.2 != 0) with h7 | h7
        · replace h := iteT h7 h
          refine AtOps.run (iv 18 26) (iv 44 0) [(20, aT)] [(18, false), (19, false)] [0, 7, 140] [] (n := 165) (sl := [(0, .sl false (x0.map row_T_api_Const)), (7, .sl false (v4.1.map row_T_api_Const)), (140, .bool true)]) (bl := []) (q := [((v5.2 != 0) == false) = false, ((v5.2 != 0) == false) = false, True ∧ ((v5.2 != 0) = true), True, True, True, True, True, True, True, True, True, True, True, True, True]) (by kernel_rfl) (by kernel_rfl) ⟨gB h7 rfl, gB h7 rfl, ⟨trivial, h7⟩, trivial, trivial, trivial, trivial, trivial, trivial, trivial, trivial, trivial, trivial, trivial, trivial, trivial, trivial⟩ ?_
          refine AtOps.done ?_
          refine At.advN [] [] 400 (ev := .cond true c5x25 c5x26 [.seq c5x27]) (σ' := mkS 165 [(0, .sl false (x0.map row_T_api_Const)), (7, .sl false (v4.1.map row_T_api_Const)), (140, .bool true)] []) (q := []) (by kernel_rfl) trivial ?_
          refine EvOk.cond (fun _ => ?_) (fun hb => Bool.noConfusion hb)
          refine At.gc [] [] (n := 165) (l := []) (bl := []) (by kernel_rfl) ?_
          refine At.adv [] [(14, { keep := some ([6], []) })] 400 (ev := .ret) (σ' := mkS 165 [(6, .bool false)] []) (q := []) (by kernel_rfl) trivial ?_
          refine EvOk.ret ?_
          obtain rfl := someE h
          exact Den.Ends.mk (.inl rfl) (d := .bool false) (p := (True ∧ True) ∧ (tN 1)) (by kernel_rfl) ⟨⟨trivial, trivial⟩, tNi 1⟩ (by kernel_rfl)
        · replace h := iteF h7 h
          refine AtOps.run (iv 18 4) (iv 22 22) [(20, aF)] [(18, true), (19, true)] [0, 7, 12, 19, 21, 22, 23, 24, 118] [] (n := 165) (sl := [(0, .sl false (x0.map row_T_api_Const)), (7, .sl false (v4.1.map row_T_api_Const)), (12, dI v4.2.1), (19, dI v7.2), (21, dI v8.2), (22, .sl false (v9.1.map row_T_api_Const)), (23, dI v9.2.1), (24, dI v9.2.2), (118, .bool (v6.2 != 0))]) (bl := []) (q := [((v5.2 != 0) == false) = true ∧ True, ((v5.2 != 0) == false) = true ∧ True, True ∧ ((v5.2 != 0) = false)]) (by kernel_rfl) (by kernel_rfl) ⟨⟨(gB h7 rfl), trivial⟩, ⟨(gB h7 rfl), trivial⟩, ⟨trivial, h7⟩, trivial⟩ ?_
          rcases Bool.eq_false_or_eq_true (v6.2 != 0) with h8 | h8
          · replace h := iteT h8 h
            refine AtOps.run (iv 22 22) (iv 44 0) [(24, aT)] [(22, false), (23, false)] [0, 7, 140] [] (n := 165) (sl := [(0, .sl false (x0.map row_T_api_Const)), (7, .sl false (v4.1.map row_T_api_Const)), (140, .bool true)]) (bl := []) (q := [((v6.2 != 0) == false) = false, ((v6.2 != 0) == false) = false, True ∧ ((v6.2 != 0) = true), True, True, True, True, True, True, True, True, True, True, True]) (by kernel_rfl) (by kernel_rfl) ⟨gB h8 rfl, gB h8 rfl, ⟨trivial, h8⟩, trivial, trivial, trivial, trivial, trivial, trivial, trivial, trivial, trivial, trivial, trivial, trivial⟩ ?_
            refine AtOps.done ?_
            refine At.advN [] [] 400 (ev := .cond true c5x25 c5x26 [.seq c5x27]) (σ' := mkS 165 [(0, .sl false (x0.map row_T_api_Const)), (7, .sl false (v4.1.map row_T_api_Const)), (140, .bool true)] []) (q := []) (by kernel_rfl) trivial ?_
            refine EvOk.cond (fun _ => ?_) (fun hb => Bool.noConfusion hb)
            refine At.gc [] [] (n := 165) (l := []) (bl := []) (by kernel_rfl) ?_
            refine At.adv [] [(14, { keep := some ([6], []) })] 400 (ev := .ret) (σ' := mkS 165 [(6, .bool false)] []) (q := []) (by kernel_rfl) trivial ?_
            refine EvOk.ret ?_
            obtain rfl := someE h
            exact Den.Ends.mk (.inl rfl) (d := .bool false) (p := (True ∧ True) ∧ (tN 1)) (by kernel_rfl) ⟨⟨trivial, trivial⟩, tNi 1⟩ (by kernel_rfl)
          · replace h := iteF h8 h
            refine AtOps.run (iv 22 4) (iv 26 18) [(24, aF)] [(22, true), (23, true)] [0, 7, 12, 21, 22, 23, 24, 122] [] (n := 165) (sl := [(0, .sl false (x0.map row_T_api_Const)), (7, .sl false (v4.1.map row_T_api_Const)), (12, dI v4.2.1), (21, dI v8.2), (22, .sl false (v9.1.map row_T_api_Const)), (23, dI v9.2.1), (24, dI v9.2.2), (122, .bool (v7.2 != 0))]) (bl := []) (q := [((v6.2 != 0) == false) = true ∧ True, ((v6.2 != 0) == false) = true ∧ True, True ∧ ((v6.2 != 0) = false)]) (by kernel_rfl) (by kernel_rfl) ⟨⟨(gB h8 rfl), trivial⟩, ⟨(gB h8 rfl), trivial⟩, ⟨trivial, h8⟩, trivial⟩ ?_
            rcases Bool.eq_false_or_eq_true (v7.2 != 0) with h9 | h9
            · replace h := iteT h9 h
              refine AtOps.run (iv 26 18) (iv 44 0) [(28, aT)] [(26, false), (27, false)] [0, 7, 140] [] (n := 165) (sl := [(0, .sl false (x0.map row_T_api_Const)), (7, .sl false (v4.1.map row_T_api_Const)), (140, .bool true)]) (bl := []) (q := [((v7.2 != 0) == false) = false, ((v7.2 != 0) == false) = false, True ∧ ((v7.2 != 0) = true), True, True, True, True, True, True, True, True, True]) (by kernel_rfl) (by kernel_rfl) ⟨gB h9 rfl, gB h9 rfl, ⟨trivial, h9⟩, trivial, trivial, trivial, trivial, trivial, trivial, trivial, trivial, trivial, trivial⟩ ?_
              refine AtOps.done ?_
              refine At.advN [] [] 400 (ev := .cond true c5x25 c5x26 [.seq c5x27]) (σ' := mkS 165 [(0, .sl false (x0.map row_T_api_Const)), (7, .sl false (v4.1.map row_T_api_Const)), (140, .bool true)] []) (q := []) (by kernel_rfl) trivial ?_
              refine EvOk.cond (fun _ => ?_) (fun hb => Bool.noConfusion hb)
              refine At.gc [] [] (n := 165) (l := []) (bl := []) (by kernel_rfl) ?_
              refine At.adv [] [(14, { keep := some ([6], []) })] 400 (ev := .ret) (σ' := mkS 165 [(6, .bool false)] []) (q := []) (by kernel_rfl) trivial ?_
              refine EvOk.ret ?_
              obtain rfl := someE h
              exact Den.Ends.mk (.inl rfl) (d := .bool false) (p := (True ∧ True) ∧ (tN 1)) (by kernel_rfl) ⟨⟨trivial, trivial⟩, tNi 1⟩ (by kernel_rfl)
            · replace h := iteF h9 h
              refine AtOps.run (iv 26 4) (iv 30 14) [(28, aF)] [(26, true), (27, true)] [0, 7, 12, 22, 23, 24, 126] [] (n := 165) (sl := [(0, .sl false (x0.map row_T_api_Const)), (7, .sl false (v4.1.map row_T_api_Const)), (12, dI v4.2.1), (22, .sl false (v9.1.map row_T_api_Const)), (23, dI v9.2.1), (24, dI v9.2.2), (126, .bool (v8.2 != 11))]) (bl := []) (q := [((v7.2 != 0) == false) = true ∧ True, ((v7.2 != 0) == false) = true ∧ True, True ∧ ((v7.2 != 0) = false)]) (by kernel_rfl) (by kernel_rfl) ⟨⟨(gB h9 rfl), trivial⟩, ⟨(gB h9 rfl), trivial⟩, ⟨trivial, h9⟩, trivial⟩ ?_
              rcases Bool.eq_false_or_eq_true (v8.2 != 11) with h10 | h10
              · replace h := iteT h10 h
                refine AtOps.run (iv 30 14) (iv 44 0) [(33, aT)] [(30, false), (31, false), (32, false)] [0, 7, 140] [] (n := 165) (sl := [(0, .sl false (x0.map row_T_api_Const)), (7, .sl false (v4.1.map row_T_api_Const)), (140, .bool true)]) (bl := []) (q := [((v8.2 != 11) == false) = false, ((v8.2 != 11) == false) = false, ((v8.2 != 11) == false) = false, True ∧ ((v8.2 != 11) = true), True, True, True, True, True, True]) (by kernel_rfl) (by kernel_rfl) ⟨gB h10 rfl, gB h10 rfl, gB h10 rfl, ⟨trivial, h10⟩, trivial, trivial, trivial, trivial, trivial, trivial, trivial⟩ ?_
                refine AtOps.done ?_
                refine At.advN [] [] 400 (ev := .cond true c5x25 c5x26 [.seq c5x27]) (σ' := mkS 165 [(0, .sl false (x0.map row_T_api_Const)), (7, .sl false (v4.1.map row_T_api_Const)), (140, .bool true)] []) (q := []) (by kernel_rfl) trivial ?_
                refine EvOk.cond (fun _ => ?_) (fun hb => Bool.noConfusion hb)
                refine At.gc [] [] (n := 165) (l := []) (bl := []) (by kernel_rfl) ?_
                refine At.adv [] [(14, { keep := some ([6], []) })] 400 (ev := .ret) (σ' := mkS 165 [(6, .bool false)] []) (q := []) (by kernel_rfl) trivial ?_
                refine EvOk.ret ?_
                obtain rfl := someE h
                exact Den.Ends.mk (.inl rfl) (d := .bool false) (p := (True ∧ True) ∧ (tN 1)) (by kernel_rfl) ⟨⟨trivial, trivial⟩, tNi 1⟩ (by kernel_rfl)
              · replace h := iteF h10 h
                refine AtOps.run (iv 30 5) (iv 35 9) [(33, aF)] [(30, true), (31, true), (32, true)] [0, 7, 22, 24, 131] [] (n := 165) (sl := [(0, .sl false (x0.map row_T_api_Const)), (7, .sl false (v4.1.map row_T_api_Const)), (22, .sl false (v9.1.map row_T_api_Const)), (24, dI v9.2.2), (131, .bool (v9.2.1 != v4.2.1))]) (bl := []) (q := [((v8.2 != 11) == false) = true ∧ True, ((v8.2 != 11) == false) = true ∧ True, ((v8.2 != 11) == false) = true ∧ True, True ∧ ((v8.2 != 11) = false)]) (by kernel_rfl) (by kernel_rfl) ⟨⟨(gB h10 rfl), trivial⟩, ⟨(gB h10 rfl), trivial⟩, ⟨(gB h10 rfl), trivial⟩, ⟨trivial, h10⟩, trivial⟩ ?_
                rcases Bool.eq_false_or_eq_true (v9.2.1 != v4.2.1) with h11 | h11
                · replace h := iteT h11 h
                  refine AtOps.run (iv 35 9) (iv 44 0) [(37, aT)] [(35, false), (36, false)] [0, 7, 140] [] (n := 165) (sl := [(0, .sl false (x0.map row_T_api_Const)), (7, .sl false (v4.1.map row_T_api_Const)), (140, .bool true)]) (bl := []) (q := [((v9.2.1 != v4.2.1) == false) = false, ((v9.2.1 != v4.2.1) == false) = false, True ∧ ((v9.2.1 != v4.2.1) = true), True, True, True, True]) (by kernel_rfl) (by kernel_rfl) ⟨gB h11 rfl, gB h11 rfl, ⟨trivial, h11⟩, trivial, trivial, trivial, trivial, trivial⟩ ?_
                  refine AtOps.done ?_
                  refine At.advN [] [] 400 (ev := .cond true c5x25 c5x26 [.seq c5x27]) (σ' := mkS 165 [(0, .sl false (x0.map row_T_api_Const)), (7, .sl false (v4.1.map row_T_api_Const)), (140, .bool true)] []) (q := []) (by kernel_rfl) trivial ?_
                  refine EvOk.cond (fun _ => ?_) (fun hb => Bool.noConfusion hb)
                  refine At.gc [] [] (n := 165) (l := []) (bl := []) (by kernel_rfl) ?_
                  refine At.adv [] [(14, { keep := some ([6], []) })] 400 (ev := .ret) (σ' := mkS 165 [(6, .bool false)] []) (q := []) (by kernel_rfl) trivial ?_
                  refine EvOk.ret ?_
                  obtain rfl := someE h
                  exact Den.Ends.mk (.inl rfl) (d := .bool false) (p := (True ∧ True) ∧ (tN 1)) (by kernel_rfl) ⟨⟨trivial, trivial⟩, tNi 1⟩ (by kernel_rfl)
                · replace h := iteF h11 h
                  refine AtOps.run (iv 35 4) (iv 39 5) [(37, aF)] [(35, true), (36, true)] [0, 7, 22, 135] [] (n := 165) (sl := [(0, .sl false (x0.map row_T_api_Const)), (7, .sl false (v4.1.map row_T_api_Const)), (22, .sl false (v9.1.map row_T_api_Const)), (135, .bool (v9.2.2 != 0))]) (bl := []) (q := [((v9.2.1 != v4.2.1) == false) = true ∧ True, ((v9.2.1 != v4.2.1) == false) = true ∧ True, True ∧ ((v9.2.1 != v4.2.1) = false)]) (by kernel_rfl) (by kernel_rfl) ⟨⟨(gB h11 rfl), trivial⟩, ⟨(gB h11 rfl), trivial⟩, ⟨trivial, h11⟩, trivial⟩ ?_
                  rcases Bool.eq_false_or_eq_true (v9.2.2 != 0) with h12 | h12
                  · replace h := iteT h12 h
                    refine AtOps.run (iv 39 5) (iv 44 0) [(43, aT)] [(39, false), (40, false), (41, false), (42, false)] [0, 7, 140] [] (n := 165) (sl := [(0, .sl false (x0.map row_T_api_Const)), (7, .sl false (v4.1.map row_T_api_Const)), (140, .bool true)]) (bl := []) (q := [((v9.2.2 != 0) == false) = false, ((v9.2.2 != 0) == false) = false, ((v9.2.2 != 0) == false) = false, ((v9.2.2 != 0) == false) = false, True ∧ ((v9.2.2 != 0) = true)]) (by kernel_rfl) (by kernel_rfl) ⟨gB h12 rfl, gB h12 rfl, gB h12 rfl, gB h12 rfl, ⟨trivial, h12⟩, trivial⟩ ?_
                    refine AtOps.done ?_
                    refine At.advN [] [] 400 (ev := .cond true c5x25 c5x26 [.seq c5x27]) (σ' := mkS 165 [(0, .sl false (x0.map row_T_api_Const)), (7, .sl false (v4.1.map row_T_api_Const)), (140, .bool true)] []) (q := []) (by kernel_rfl) trivial ?_
                    refine EvOk.cond (fun _ => ?_) (fun hb => Bool.noConfusion hb)
                    refine At.gc [] [] (n := 165) (l := []) (bl := []) (by kernel_rfl) ?_
                    refine At.adv [] [(14, { keep := some ([6], []) })] 400 (ev := .ret) (σ' := mkS 165 [(6, .bool false)] []) (q := []) (by kernel_rfl) trivial ?_
                    refine EvOk.ret ?_
                    obtain rfl := someE h
                    exact Den.Ends.mk (.inl rfl) (d := .bool false) (p := (True ∧ True) ∧ (tN 1)) (by kernel_rfl) ⟨⟨trivial, trivial⟩, tNi 1⟩ (by kernel_rfl)
                  · replace h := iteF h12 h
                    obtain ⟨v10, e10, h⟩ := bindE h
                    refine AtOps.run (iv 39 5) (iv 44 0) [(41, aB v10), (43, aF)] [(39, true), (40, true), (41, true), (42, true)] [0, 7, 140] [] (n := 165) (sl := [(0, .sl false (x0.map row_T_api_Const)), (7, .sl false (v4.1.map row_T_api_Const)), (140, .bool (!v10))]) (bl := []) (q := [((v9.2.2 != 0) == false) = true ∧ True, ((v9.2.2 != 0) == false) = true ∧ True, ((v9.2.2 != 0) == false) = true ∧ (cq Try.prog (tN 2) 27 [.sl false (v9.1.map row_T_api_Const), .sl false (v4.1.map row_T_api_Const)] (.bool v10)), ((v9.2.2 != 0) == false) = true ∧ True, True ∧ ((v9.2.2 != 0) = false)]) (by kernel_rfl) (by kernel_rfl) ⟨⟨(gB h12 rfl), trivial⟩, ⟨(gB h12 rfl), trivial⟩, ⟨(gB h12 rfl), cqi (tNi 2) (w27 e10)⟩, ⟨(gB h12 rfl), trivial⟩, ⟨trivial, h12⟩, trivial⟩ ?_
                    refine AtOps.done ?_
                    refine At.advN [] [] 400 (ev := .cond (!v10) c5x25 c5x26 [.seq c5x27]) (σ' := mkS 165 [(0, .sl false (x0.map row_T_api_Const)), (7, .sl false (v4.1.map row_T_api_Const)), (140, .bool (!v10))] []) (q := []) (by kernel_rfl) trivial ?_
                    refine EvOk.cond (fun h13 => ?_) (fun h13 => ?_)
                    · replace h := iteT h13 h
                      refine At.gc [] [] (n := 165) (l := []) (bl := []) (by kernel_rfl) ?_
                      refine At.adv [] [(14, { keep := some ([6], []) })] 400 (ev := .ret) (σ' := mkS 165 [(6, .bool false)] []) (q := []) (by kernel_rfl) trivial ?_
                      refine EvOk.ret ?_
                      obtain rfl := someE h
                      exact Den.Ends.mk (.inl rfl) (d := .bool false) (p := (True ∧ True) ∧ (tN 1)) (by kernel_rfl) ⟨⟨trivial, trivial⟩, tNi 1⟩ (by kernel_rfl)
                    · replace h := iteF h13 h
                      refine At.gc [0, 7] [] (n := 165) (l := [(0, .sl false (x0.map row_T_api_Const)), (7, .sl false (v4.1.map row_T_api_Const))]) (bl := []) (by kernel_rfl) ?_
                      refine At.adv [15] [] 400 (ev := .stop c5x28 [.seq c5x29]) (σ' := mkS 165 [(0, .sl false (x0.map row_T_api_Const)), (7, .sl false (v4.1.map row_T_api_Const))] []) (q := []) (by kernel_rfl) trivial ?_
                      exact (wj5x2 v4 x0)  r h Γ
theorem we5 (x0 : List T_api_Const) (x1 : List UInt8) (x2 : T_api_Ref) (r : Bool) (h : m_armaturelaw05_PoolAddThenRead x0 x1 x2 = some r) (Γ : Ctx) : At Try.prog Γ b5 [] (Den.Ends Try.prog Try.f5 (.bool r)) (mkS 165 [(0, .sl false (x0.map row_T_api_Const)), (1, .str x1), (2, .agg (row_T_api_Ref x2))] []) := by
  obtain ⟨v0, e0, h⟩ := bindE h
  refine At.adv [] [(0, { told := [(0, { ro := true })], keep := some ([0, 1, 5], []) }), (1, { told := [(1, aB v0)], keep := some ([0, 1, 5, 27], []) })] 400 (ev := .cond (!v0) c5x17 c5x18 [.seq c5x1]) (σ' := mkS 165 [(0, .sl false (x0.map row_T_api_Const)), (1, .str x1), (5, .ptr (row_T_api_Ref x2)), (27, .bool (!v0))] []) (q := [True ∧ (cq Try.prog (tN 1) 8 [.sl false (x0.map row_T_api_Const)] (.bool v0))]) (by kernel_rfl) ⟨⟨trivial, cqi (tNi 1) (w8 e0)⟩, trivial⟩ ?_
  refine EvOk.cond (fun h0 => ?_) (fun h0 => ?_)
  · replace h := iteT h0 h
    refine At.gc [] [] (n := 165) (l := []) (bl := []) (by kernel_rfl) ?_
    obtain ⟨v1, e1, h⟩ := bindE h
    refine At.adv [] [(2, { told := [(0, aB v1)], keep := some ([6], []) })] 400 (ev := .ret) (σ' := mkS 165 [(6, .bool v1)] []) (q := [True ∧ (cq Try.prog (tN 0) 10 [] (.bool v1))]) (by kernel_rfl) ⟨⟨trivial, cqi (tNi 0) (w10 e1)⟩, trivial⟩ ?_
    refine EvOk.ret ?_
    obtain rfl := someE h
    exact Den.Ends.mk (.inl rfl) (d := .bool v1) (p := (True ∧ True) ∧ (tN 1)) (by kernel_rfl) ⟨⟨trivial, trivial⟩, tNi 1⟩ (by kernel_rfl)
  · replace h := iteF h0 h
    refine At.gc [0, 1, 5] [] (n := 165) (l := [(0, .sl false (x0.map row_T_api_Const)), (1, .str x1), (5, .ptr (row_T_api_Ref x2))]) (bl := []) (by kernel_rfl) ?_
    obtain ⟨v2, e2, h⟩ := bindE h
    obtain ⟨v3, e3, h⟩ := bindE h
    obtain ⟨v4, e4, h⟩ := bindE h
    refine At.adv [6] [(3, { told := [(2, { ans := .val (.tup [.sl false (v2.1.map row_T_api_Const), dI v2.2.1, dI v2.2.2]) })], keep := some ([0, 1, 5, 7, 8, 9], []) }), (4, { told := [(2, { ans := .val (.tup [.sl false (v3.1.map row_T_api_Const), dI v3.2.1, dI v3.2.2]) })], keep := some ([0, 1, 5, 7, 8, 9, 10, 11], []) }), (5, { told := [(2, { ans := .val (.tup [.sl false (v4.1.map row_T_api_Const), dI v4.2.1, dI v4.2.2]) })], keep := some ([0, 1, 5, 7, 8, 9, 10, 11, 12, 13], []) })] 400 (ev := .stop c5x14 [.seq c5x6, .seq c5x10]) (σ' := mkS 165 [(0, .sl false (x0.map row_T_api_Const)), (1, .str x1), (5, .ptr (row_T_api_Ref x2)), (7, .sl false (v4.1.map row_T_api_Const)), (8, dI v2.2.1), (9, dI v2.2.2), (10, dI v3.2.1), (11, dI v3.2.2), (12, dI v4.2.1), (13, dI v4.2.2)] []) (q := [True ∧ (cq Try.prog (tN 2) 24 [.sl false (x0.map row_T_api_Const), .str x1] (.tup [.sl false (v2.1.map row_T_api_Const), dI v2.2.1, dI v2.2.2])), True ∧ (cq Try.prog (tN 2) 25 [.sl false (v2.1.map row_T_api_Const), .str x1] (.tup [.sl false (v3.1.map row_T_api_Const), dI v3.2.1, dI v3.2.2])), True ∧ (cq Try.prog (True ∧ (True ∧ ((tN 3) ∧ True))) 26 [.sl false (v3.1.map row_T_api_Const), dI 9, .agg [.str x2.f_Class, .str x2.f_Name, .str x2.f_Desc]] (.tup [.sl false (v4.1.map row_T_api_Const), dI v4.2.1, dI v4.2.2]))]) (by kernel_rfl) ⟨⟨trivial, cqi (tNi 2) (w24 e2)⟩, ⟨trivial, cqi (tNi 2) (w25 e3)⟩, ⟨trivial, cqi (⟨trivial, ⟨trivial, ⟨tNi 3, trivial⟩⟩⟩) (w26 e4)⟩, trivial⟩ ?_
    refine EvOk.stop (At.ops (l := iv 0 10) (by kernel_rfl) (by kernel_rfl) ?_)
    refine AtOps.run (iv 0 3) (iv 3 7) [] [] [0, 1, 5, 7, 8, 10, 11, 12, 13, 52] [] (n := 165) (sl := [(0, .sl false (x0.map row_T_api_Const)), (1, .str x1), (5, .ptr (row_T_api_Ref x2)), (7, .sl false (v4.1.map row_T_api_Const)), (8, dI v2.2.1), (10, dI v3.2.1), (11, dI v3.2.2), (12, dI v4.2.1), (13, dI v4.2.2), (52, .bool (v2.2.2 != 0))]) (bl := []) (q := []) (by kernel_rfl) (by kernel_rfl) trivial ?_
    rcases Bool.eq_false_or_eq_true (v2.2.2 != 0) with h1 | h1
    · replace h := iteT h1 h
      refine AtOps.run (iv 3 7) (iv 10 0) [(5, aT)] [(3, false), (4, false)] [0, 1, 5, 7, 8, 10, 12, 59] [] (n := 165) (sl := [(0, .sl false (x0.map row_T_api_Const)), (1, .str x1), (5, .ptr (row_T_api_Ref x2)), (7, .sl false (v4.1.map row_T_api_Const)), (8, dI v2.2.1), (10, dI v3.2.1), (12, dI v4.2.1), (59, .bool true)]) (bl := []) (q := [((v2.2.2 != 0) == false) = false, ((v2.2.2 != 0) == false) = false, True ∧ ((v2.2.2 != 0) = true), True, True]) (by kernel_rfl) (by kernel_rfl) ⟨gB h1 rfl, gB h1 rfl, ⟨trivial, h1⟩, trivial, trivial, trivial⟩ ?_
      refine AtOps.done ?_
      refine At.advN [] [] 400 (ev := .cond true c5x7 c5x11 [.seq c5x10]) (σ' := mkS 165 [(0, .sl false (x0.map row_T_api_Const)), (1, .str x1), (5, .ptr (row_T_api_Ref x2)), (7, .sl false (v4.1.map row_T_api_Const)), (8, dI v2.2.1), (10, dI v3.2.1), (12, dI v4.2.1), (59, .bool true)] []) (q := []) (by kernel_rfl) trivial ?_
      refine EvOk.cond (fun _ => ?_) (fun hb => Bool.noConfusion hb)
      refine At.gc [0] [] (n := 165) (l := [(0, .sl false (x0.map row_T_api_Const))]) (bl := []) (by kernel_rfl) ?_
      refine At.adv [7] [] 400 (ev := .stop c5x8 [.seq c5x9, .seq c5x10]) (σ' := mkS 165 [(0, .sl false (x0.map row_T_api_Const))] []) (q := []) (by kernel_rfl) trivial ?_
      exact (wj5x3 x0)  r h Γ
    · replace h := iteF h1 h
      refine AtOps.run (iv 3 4) (iv 7 3) [(5, aF)] [(3, true), (4, true)] [0, 1, 5, 7, 8, 10, 12, 13, 56] [] (n := 165) (sl := [(0, .sl false (x0.map row_T_api_Const)), (1, .str x1), (5, .ptr (row_T_api_Ref x2)), (7, .sl false (v4.1.map row_T_api_Const)), (8, dI v2.2.1), (10, dI v3.2.1), (12, dI v4.2.1), (13, dI v4.2.2), (56, .bool (v3.2.2 != 0))]) (bl := []) (q := [((v2.2.2 != 0) == false) = true ∧ True, ((v2.2.2 != 0) == false) = true ∧ True, True ∧ ((v2.2.2 != 0) = false)]) (by kernel_rfl) (by kernel_rfl) ⟨⟨(gB h1 rfl), trivial⟩, ⟨(gB h1 rfl), trivial⟩, ⟨trivial, h1⟩, trivial⟩ ?_
      rcases Bool.eq_false_or_eq_true (v3.2.2 != 0) with h2 | h2
      · replace h := iteT h2 h
        refine AtOps.run (iv 7 3) (iv 10 0) [(9, aT)] [(7, false), (8, false)] [0, 1, 5, 7, 8, 10, 12, 59] [] (n := 165) (sl := [(0, .sl false (x0.map row_T_api_Const)), (1, .str x1), (5, .ptr (row_T_api_Ref x2)), (7, .sl false (v4.1.map row_T_api_Const)), (8, dI v2.2.1), (10, dI v3.2.1), (12, dI v4.2.1), (59, .bool true)]) (bl := []) (q := [((v3.2.2 != 0) == false) = false, ((v3.2.2 != 0) == false) = false, True ∧ ((v3.2.2 != 0) = true)]) (by kernel_rfl) (by kernel_rfl) ⟨gB h2 rfl, gB h2 rfl, ⟨trivial, h2⟩, trivial⟩ ?_
        refine AtOps.done ?_
        refine At.advN [] [] 400 (ev := .cond true c5x7 c5x11 [.seq c5x10]) (σ' := mkS 165 [(0, .sl false (x0.map row_T_api_Const)), (1, .str x1), (5, .ptr (row_T_api_Ref x2)), (7, .sl false (v4.1.map row_T_api_Const)), (8, dI v2.2.1), (10, dI v3.2.1), (12, dI v4.2.1), (59, .bool true)] []) (q := []) (by kernel_rfl) trivial ?_
        refine EvOk.cond (fun _ => ?_) (fun hb => Bool.noConfusion hb)
        refine At.gc [0] [] (n := 165) (l := [(0, .sl false (x0.map row_T_api_Const))]) (bl := []) (by kernel_rfl) ?_
        refine At.adv [7] [] 400 (ev := .stop c5x8 [.seq c5x9, .seq c5x10]) (σ' := mkS 165 [(0, .sl false (x0.map row_T_api_Const))] []) (q := []) (by kernel_rfl) trivial ?_
        exact (wj5x3 x0)  r h Γ
      · replace h := iteF h2 h
        refine AtOps.run (iv 7 3) (iv 10 0) [(9, aF)] [(7, true), (8, true)] [0, 1, 5, 7, 8, 10, 12, 59] [] (n := 165) (sl := [(0, .sl false (x0.map row_T_api_Const)), (1, .str x1), (5, .ptr (row_T_api_Ref x2)), (7, .sl false (v4.1.map row_T_api_Const)), (8, dI v2.2.1), (10, dI v3.2.1), (12, dI v4.2.1), (59, .bool (v4.2.2 != 0))]) (bl := []) (q := [((v3.2.2 != 0) == false) = true ∧ True, ((v3.2.2 != 0) == false) = true ∧ True, True ∧ ((v3.2.2 != 0) = false)]) (by kernel_rfl) (by kernel_rfl) ⟨⟨(gB h2 rfl), trivial⟩, ⟨(gB h2 rfl), trivial⟩, ⟨trivial, h2⟩, trivial⟩ ?_
        refine AtOps.done ?_
        refine At.advN [] [] 400 (ev := .cond (v4.2.2 != 0) c5x7 c5x11 [.seq c5x10]) (σ' := mkS 165 [(0, .sl false (x0.map row_T_api_Const)), (1, .str x1), (5, .ptr (row_T_api_Ref x2)), (7, .sl false (v4.1.map row_T_api_Const)), (8, dI v2.2.1), (10, dI v3.2.1), (12, dI v4.2.1), (59, .bool (v4.2.2 != 0))] []) (q := []) (by kernel_rfl) trivial ?_
        refine EvOk.cond (fun h3 => ?_) (fun h3 => ?_)
        · replace h := iteT h3 h
          refine At.gc [0] [] (n := 165) (l := [(0, .sl false (x0.map row_T_api_Const))]) (bl := []) (by kernel_rfl) ?_
          refine At.adv [7] [] 400 (ev := .stop c5x8 [.seq c5x9, .seq c5x10]) (σ' := mkS 165 [(0, .sl false (x0.map row_T_api_Const))] []) (q := []) (by kernel_rfl) trivial ?_
          exact (wj5x3 x0)  r h Γ
        · replace h := iteF h3 h
          refine At.gc [0, 1, 5, 7, 8, 10, 12] [] (n := 165) (l := [(0, .sl false (x0.map row_T_api_Const)), (1, .str x1), (5, .ptr (row_T_api_Ref x2)), (7, .sl false (v4.1.map row_T_api_Const)), (8, dI v2.2.1), (10, dI v3.2.1), (12, dI v4.2.1)]) (bl := []) (by kernel_rfl) ?_
          refine At.adv [8] [] 400 (ev := .stop c5x12 [.seq c5x13]) (σ' := mkS 165 [(0, .sl false (x0.map row_T_api_Const)), (1, .str x1), (5, .ptr (row_T_api_Ref x2)), (7, .sl false (v4.1.map row_T_api_Const)), (8, dI v2.2.1), (10, dI v3.2.1), (12, dI v4.2.1)] []) (q := []) (by kernel_rfl) trivial ?_
          exact (wj5x1 v2 v3 v4 x0 x1 x2)  r h Γ
theorem w5 {x0 : List T_api_Const} {x1 : List UInt8} {x2 : T_api_Ref} {r : Bool} (h : m_armaturelaw05_PoolAddThenRead x0 x1 x2 = some r) : CallSpec Try.prog 5 [.sl false (x0.map row_T_api_Const), .str x1, .agg (row_T_api_Ref x2)] (.bool r) :=
  CallSpec.at2 b5 (n := 165) (l := [(0, .sl false (x0.map row_T_api_Const)), (1, .str x1), (2, .agg (row_T_api_Ref x2))]) (by kernel_rfl) (by kernel_rfl) (by kernel_rfl) (by kernel_rfl) (by kernel_rfl) (Nat.le_of_ble_eq_true (by kernel_rfl)) (fun Γ => we5 x0 x1 x2 r h Γ)
end Go.Proofs
