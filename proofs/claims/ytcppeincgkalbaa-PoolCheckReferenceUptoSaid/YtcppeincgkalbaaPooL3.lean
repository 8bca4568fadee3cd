/-
  Models of functions of the program, and that the functions compute them. Printed by den2.py. No condition.
-/
import Derived.Test.YtcppeincgkalbaaPoo4
set_option linter.unusedVariables false
namespace Go.Proofs
open Go.Den
/-! ### armature armaturelaw05.PoolCheckReference -/
noncomputable def b3 : Code := Try.f3.body.getD .skip
noncomputable def c3x0 : Code := sub1 b3
noncomputable def c3x1 : Code := sub1 c3x0
noncomputable def c3x2 : Code := sub1 c3x1
noncomputable def c3x3 : Code := sub1 c3x2
noncomputable def c3x4 : Code := sub0 c3x3
noncomputable def c3x5 : Code := sub1 c3x3
noncomputable def c3x6 : Code := sub0 c3x0
noncomputable def c3x7 : Code := sub1 c3x6
noncomputable def c3x8 : Code := sub0 c3x7
noncomputable def c3x9 : Code := sub1 c3x7
def m_armaturelaw05_PoolCheckReference (x0 : List T_api_Const) : Option (Bool) :=
  (m_armaturelaw05_few x0).bind fun v0 =>
  if (!v0) = true then
    ((m_pool_Check x0).bind fun v1 =>
    (m_armaturelaw05_awake).bind fun v2 =>
    if v2 = true then (some (v1.2 == 5)) else
    (some false)) else
  ((m_pool_Check x0).bind fun v3 =>
    (m_armatureref05_Check x0).bind fun v4 =>
    (m_armaturelaw05_awake).bind fun v5 =>
    if v5 = true then (if (v3.1 == v4.1) = true then (some (v3.2 == v4.2)) else
      (some false)) else
    (some false))
theorem we3 (x0 : List T_api_Const) (r : Bool) (h : m_armaturelaw05_PoolCheckReference x0 = some r) (Γ : Ctx) : At Try.prog Γ b3 [] (Den.Ends Try.prog Try.f3 (.bool r)) (mkS 43 [(0, .sl false (x0.map row_T_api_Const))] []) := by
  obtain ⟨v0, e0, h⟩ := bindE h
  refine At.adv [] [(0, { keep := some ([0], []) }), (1, { told := [(1, aB v0)], keep := some ([0, 11], []) })] 400 (ev := .cond (!v0) c3x8 c3x9 [.seq c3x1]) (σ' := mkS 43 [(0, .sl false (x0.map row_T_api_Const)), (11, .bool (!v0))] []) (q := [True ∧ (cq Try.prog (tN 1) 8 [.sl false (x0.map row_T_api_Const)] (.bool v0))]) (by kernel_rfl) ⟨⟨trivial, cqi (tNi 1) (w8 e0)⟩, trivial⟩ ?_
  refine EvOk.cond (fun h0 => ?_) (fun h0 => ?_)
  · replace h := iteT h0 h
    refine At.gc [0] [] (n := 43) (l := [(0, .sl false (x0.map row_T_api_Const))]) (bl := []) (by kernel_rfl) ?_
    obtain ⟨v1, e1, h⟩ := bindE h
    obtain ⟨v2, e2, h⟩ := bindE h
    rcases Bool.eq_false_or_eq_true v2 with h1 | h1
    · replace h := iteT h1 h
      refine At.adv [] [(2, { told := [(1, { ans := .val (.tup [dI v1.1, dI v1.2]) })], keep := some ([4], []) }), (3, { told := [(0, aB v2), (4, aT)], gs := [(2, true), (3, true)], keep := some ([2], []) })] 400 (ev := .ret) (σ' := mkS 43 [(2, .bool (v1.2 == 5))] []) (q := [True ∧ (cq Try.prog (tN 1) 9 [.sl false (x0.map row_T_api_Const)] (.tup [dI v1.1, dI v1.2])), True ∧ (cq Try.prog (tN 0) 10 [] (.bool v2)), (v2 == true) = true ∧ True, (v2 == true) = true ∧ True, True ∧ (v2 = true)]) (by kernel_rfl) ⟨⟨trivial, cqi (tNi 1) (w9 e1)⟩, ⟨trivial, cqi (tNi 0) (w10 e2)⟩, ⟨(gB h1 rfl), trivial⟩, ⟨(gB h1 rfl), trivial⟩, ⟨trivial, h1⟩, trivial⟩ ?_
      refine EvOk.ret ?_
      obtain rfl := someE h
      exact Den.Ends.mk (.inl rfl) (d := .bool (v1.2 == 5)) (p := (True ∧ True) ∧ (tN 1)) (by kernel_rfl) ⟨⟨trivial, trivial⟩, tNi 1⟩ (by kernel_rfl)
    · replace h := iteF h1 h
      refine At.adv [] [(2, { told := [(1, { ans := .val (.tup [dI v1.1, dI v1.2]) })], keep := some ([4], []) }), (3, { told := [(0, aB v2), (4, aF)], gs := [(2, false), (3, false)], keep := some ([2], []) })] 400 (ev := .ret) (σ' := mkS 43 [(2, .bool false)] []) (q := [True ∧ (cq Try.prog (tN 1) 9 [.sl false (x0.map row_T_api_Const)] (.tup [dI v1.1, dI v1.2])), True ∧ (cq Try.prog (tN 0) 10 [] (.bool v2)), (v2 == true) = false, (v2 == true) = false, True ∧ (v2 = false)]) (by kernel_rfl) ⟨⟨trivial, cqi (tNi 1) (w9 e1)⟩, ⟨trivial, cqi (tNi 0) (w10 e2)⟩, gB h1 rfl, gB h1 rfl, ⟨trivial, h1⟩, trivial⟩ ?_
      refine EvOk.ret ?_
      obtain rfl := someE h
      exact Den.Ends.mk (.inl rfl) (d := .bool false) (p := (True ∧ True) ∧ (tN 1)) (by kernel_rfl) ⟨⟨trivial, trivial⟩, tNi 1⟩ (by kernel_rfl)
  · replace h := iteF h0 h
    refine At.gc [0] [] (n := 43) (l := [(0, .sl false (x0.map row_T_api_Const))]) (bl := []) (by kernel_rfl) ?_
    obtain ⟨v3, e3, h⟩ := bindE h
    obtain ⟨v4, e4, h⟩ := bindE h
    refine At.adv [6] [(4, { told := [(1, { ans := .val (.tup [dI v3.1, dI v3.2]) })], keep := some ([0, 5, 6], []) }), (5, { told := [(1, { ans := .val (.tup [dI v4.1, dI v4.2]) })], keep := some ([5, 6, 7, 8], []) })] 400 (ev := .stop c3x4 [.seq c3x5]) (σ' := mkS 43 [(5, dI v3.1), (6, dI v3.2), (7, dI v4.1), (8, dI v4.2)] []) (q := [True ∧ (cq Try.prog (tN 1) 9 [.sl false (x0.map row_T_api_Const)] (.tup [dI v3.1, dI v3.2])), True ∧ (cq Try.prog (tN 1) 11 [.sl false (x0.map row_T_api_Const)] (.tup [dI v4.1, dI v4.2]))]) (by kernel_rfl) ⟨⟨trivial, cqi (tNi 1) (w9 e3)⟩, ⟨trivial, cqi (tNi 1) (w11 e4)⟩, trivial⟩ ?_
    refine EvOk.stop (At.ops (l := iv 0 12) (by kernel_rfl) (by kernel_rfl) ?_)
    obtain ⟨v5, e5, h⟩ := bindE h
    refine AtOps.run (iv 0 2) (iv 2 10) [(0, aB v5)] [] [5, 6, 7, 8, 33] [] (n := 43) (sl := [(5, dI v3.1), (6, dI v3.2), (7, dI v4.1), (8, dI v4.2), (33, .bool v5)]) (bl := []) (q := [True ∧ (cq Try.prog (tN 0) 10 [] (.bool v5))]) (by kernel_rfl) (by kernel_rfl) ⟨⟨trivial, cqi (tNi 0) (w10 e5)⟩, trivial⟩ ?_
    rcases Bool.eq_false_or_eq_true v5 with h2 | h2
    · replace h := iteT h2 h
      refine AtOps.run (iv 2 5) (iv 7 5) [(5, aT)] [(2, true), (3, true), (4, true)] [6, 8, 38] [] (n := 43) (sl := [(6, dI v3.2), (8, dI v4.2), (38, .bool (v3.1 == v4.1))]) (bl := []) (q := [(v5 == true) = true ∧ True, (v5 == true) = true ∧ True, (v5 == true) = true ∧ True, True ∧ (v5 = true)]) (by kernel_rfl) (by kernel_rfl) ⟨⟨(gB h2 rfl), trivial⟩, ⟨(gB h2 rfl), trivial⟩, ⟨(gB h2 rfl), trivial⟩, ⟨trivial, h2⟩, trivial⟩ ?_
      rcases Bool.eq_false_or_eq_true (v3.1 == v4.1) with h3 | h3
      · replace h := iteT h3 h
        refine AtOps.run (iv 7 5) (iv 12 0) [(10, aT)] [(7, true), (8, true), (9, true)] [2] [] (n := 43) (sl := [(2, .bool (v3.2 == v4.2))]) (bl := []) (q := [((v3.1 == v4.1) == true) = true ∧ True, ((v3.1 == v4.1) == true) = true ∧ True, ((v3.1 == v4.1) == true) = true ∧ True, True ∧ ((v3.1 == v4.1) = true)]) (by kernel_rfl) (by kernel_rfl) ⟨⟨(gB h3 rfl), trivial⟩, ⟨(gB h3 rfl), trivial⟩, ⟨(gB h3 rfl), trivial⟩, ⟨trivial, h3⟩, trivial⟩ ?_
        refine AtOps.done ?_
        refine At.advN [] [] 400 (ev := .ret) (σ' := mkS 43 [(2, .bool (v3.2 == v4.2))] []) (q := []) (by kernel_rfl) trivial ?_
        refine EvOk.ret ?_
        obtain rfl := someE h
        exact Den.Ends.mk (.inl rfl) (d := .bool (v3.2 == v4.2)) (p := (True ∧ True) ∧ (tN 1)) (by kernel_rfl) ⟨⟨trivial, trivial⟩, tNi 1⟩ (by kernel_rfl)
      · replace h := iteF h3 h
        refine AtOps.run (iv 7 5) (iv 12 0) [(10, aF)] [(7, false), (8, false), (9, false)] [2] [] (n := 43) (sl := [(2, .bool false)]) (bl := []) (q := [((v3.1 == v4.1) == true) = false, ((v3.1 == v4.1) == true) = false, ((v3.1 == v4.1) == true) = false, True ∧ ((v3.1 == v4.1) = false)]) (by kernel_rfl) (by kernel_rfl) ⟨gB h3 rfl, gB h3 rfl, gB h3 rfl, ⟨trivial, h3⟩, trivial⟩ ?_
        refine AtOps.done ?_
        refine At.advN [] [] 400 (ev := .ret) (σ' := mkS 43 [(2, .bool false)] []) (q := []) (by kernel_rfl) trivial ?_
        refine EvOk.ret ?_
        obtain rfl := someE h
        exact Den.Ends.mk (.inl rfl) (d := .bool false) (p := (True ∧ True) ∧ (tN 1)) (by kernel_rfl) ⟨⟨trivial, trivial⟩, tNi 1⟩ (by kernel_rfl)
    · replace h := iteF h2 h
      refine AtOps.run (iv 2 10) (iv 12 0) [(5, aF)] [(2, false), (3, false), (4, false)] [2] [] (n := 43) (sl := [(2, .bool false)]) (bl := []) (q := [(v5 == true) = false, (v5 == true) = false, (v5 == true) = false, True ∧ (v5 = false), True, True, True]) (by kernel_rfl) (by kernel_rfl) ⟨gB h2 rfl, gB h2 rfl, gB h2 rfl, ⟨trivial, h2⟩, trivial, trivial, trivial, trivial⟩ ?_
      refine AtOps.done ?_
      refine At.advN [] [] 400 (ev := .ret) (σ' := mkS 43 [(2, .bool false)] []) (q := []) (by kernel_rfl) trivial ?_
      refine EvOk.ret ?_
      obtain rfl := someE h
      exact Den.Ends.mk (.inl rfl) (d := .bool false) (p := (True ∧ True) ∧ (tN 1)) (by kernel_rfl) ⟨⟨trivial, trivial⟩, tNi 1⟩ (by kernel_rfl)
theorem w3 {x0 : List T_api_Const} {r : Bool} (h : m_armaturelaw05_PoolCheckReference x0 = some r) : CallSpec Try.prog 3 [.sl false (x0.map row_T_api_Const)] (.bool r) :=
  CallSpec.at2 b3 (n := 43) (l := [(0, .sl false (x0.map row_T_api_Const))]) (by kernel_rfl) (by kernel_rfl) (by kernel_rfl) (by kernel_rfl) (by kernel_rfl) (Nat.le_of_ble_eq_true (by kernel_rfl)) (fun Γ => we3 x0 r h Γ)
end Go.Proofs
