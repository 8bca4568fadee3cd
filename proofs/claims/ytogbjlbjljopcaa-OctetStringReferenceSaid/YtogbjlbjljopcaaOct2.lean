/-
  Models of functions of the program, part 2, and that the functions compute them. Printed by den2.py. No condition.
-/
import Derived.Test.YtogbjlbjljopcaaOct1
set_option linter.unusedVariables false
namespace Go.Proofs
open Go.Den
/-! ### armature armaturelaw02.OctetOrderPreserved -/
noncomputable def b6 : Code := Try.f6.body.getD .skip
noncomputable def c6x0 : Code := sub1 b6
noncomputable def c6x1 : Code := sub1 c6x0
noncomputable def c6x2 : Code := sub1 c6x1
noncomputable def c6x3 : Code := sub0 c6x2
noncomputable def c6x4 : Code := sub1 c6x3
noncomputable def c6x5 : Code := sub0 c6x4
noncomputable def c6x6 : Code := sub1 c6x4
noncomputable def c6x7 : Code := sub1 c6x2
def m_armaturelaw02_OctetOrderPreserved (x0 : Int) (x1 : Int) (x2 : Int) : Option (Bool) :=
  (m_octet_Put x0 x2).bind fun v0 =>
  (m_octet_Put x1 x2).bind fun v1 =>
  if (v0.2 != 0) = true then ((m_armaturelaw02_awake).bind fun v2 =>
    some v2) else
  (if (v1.2 != 0) = true then ((m_armaturelaw02_awake).bind fun v3 =>
    some v3) else
  (if (decide (x0 < 0)) = true then ((m_armaturelaw02_awake).bind fun v4 =>
    some v4) else
  (if (decide (x1 < 0)) = true then
    ((m_armaturelaw02_awake).bind fun v5 =>
    some v5) else
  ((m_armaturelaw02_awake).bind fun v6 =>
    if v6 = true then (if ((Op.bytesLess v0.1 v1.1) == (decide (x0 < x1))) = true then (some ((v0.1 == v1.1) == (x0 == x1))) else
    (some false)) else
    (some false)))))
theorem we6 (x0 : Int) (x1 : Int) (x2 : Int) (r : Bool) (h : m_armaturelaw02_OctetOrderPreserved x0 x1 x2 = some r) (Γ : Ctx) : At Try.prog Γ b6 [] (Den.Ends Try.prog Try.f6 (.bool r)) (mkS 57 [(0, .int .i64 x0), (1, .int .i64 x1), (2, .int .i64 x2)] []) := by
  obtain ⟨v0, e0, h⟩ := bindE h
  obtain ⟨v1, e1, h⟩ := bindE h
  rcases Bool.eq_false_or_eq_true (v0.2 != 0) with h0 | h0
  · replace h := iteT h0 h
    refine At.adv [] [(0, { told := [], gs := [], keep := some ([0, 1, 2], []) }), (1, { told := [(2, { ans := .val (.tup [.str v0.1, .int .i64 v0.2]), args := [.int .i64 x0, .int .i64 x2] })], gs := [], keep := some ([0, 1, 2, 7, 8], []) }), (2, { told := [(2, { ans := .val (.tup [.str v1.1, .int .i64 v1.2]), args := [.int .i64 x1, .int .i64 x2] })], gs := [], keep := some ([0, 1, 7, 8, 9, 10], []) }), (3, { told := [(5, { ans := .yes })], gs := [(3, false), (4, false)], keep := some ([0, 1, 7, 9, 36], []) })] 400 (ev := .cond true c6x5 c6x6 [.seq c6x7]) (σ' := mkS 57 [(0, .int .i64 x0), (1, .int .i64 x1), (7, .str v0.1), (9, .str v1.1), (36, .bool true)] []) (q := [True ∧ ((True ∧ (True ∧ True)) ∧ ([.int .i64 x0, .int .i64 x2] : List D) = [.int .i64 x0, .int .i64 x2] ∧ CallSpec Try.prog 9 [.int .i64 x0, .int .i64 x2] (.tup [.str v0.1, .int .i64 v0.2])), True ∧ ((True ∧ (True ∧ True)) ∧ ([.int .i64 x1, .int .i64 x2] : List D) = [.int .i64 x1, .int .i64 x2] ∧ CallSpec Try.prog 9 [.int .i64 x1, .int .i64 x2] (.tup [.str v1.1, .int .i64 v1.2])), ((v0.2 != 0) == false) = false, ((v0.2 != 0) == false) = false, True ∧ ((v0.2 != 0) = true), True, True, True, True]) (by kernel_rfl) ⟨⟨trivial, ⟨⟨trivial, ⟨trivial, trivial⟩⟩, rfl, w9 e0⟩⟩, ⟨trivial, ⟨⟨trivial, ⟨trivial, trivial⟩⟩, rfl, w9 e1⟩⟩, gB h0 rfl, gB h0 rfl, ⟨trivial, h0⟩, trivial, trivial, trivial, trivial, trivial⟩ ?_
    refine EvOk.cond (fun _ => ?_) (fun hb => Bool.noConfusion hb)
    refine At.gc [] [] (n := 57) (l := []) (bl := []) (by kernel_rfl) ?_
    obtain ⟨v2, e2, h⟩ := bindE h
    refine At.adv [] [(4, { told := [(0, { ans := .val (.bool v2), args := [] })], gs := [], keep := some ([6], []) })] 400 (ev := .ret) (σ' := mkS 57 [(6, .bool v2)] []) (q := [True ∧ (True ∧ ([] : List D) = [] ∧ CallSpec Try.prog 11 [] (.bool v2))]) (by kernel_rfl) ⟨⟨trivial, ⟨trivial, rfl, w11 e2⟩⟩, trivial⟩ ?_
    refine EvOk.ret ?_
    obtain rfl := someE h
    exact Den.Ends.mk (.inl rfl) (d := .bool v2) (p := (True ∧ True) ∧ (True ∧ True)) (by kernel_rfl) ⟨⟨trivial, trivial⟩, ⟨trivial, trivial⟩⟩ (by kernel_rfl)
  · replace h := iteF h0 h
    rcases Bool.eq_false_or_eq_true (v1.2 != 0) with h1 | h1
    · replace h := iteT h1 h
      refine At.adv [] [(0, { told := [], gs := [], keep := some ([0, 1, 2], []) }), (1, { told := [(2, { ans := .val (.tup [.str v0.1, .int .i64 v0.2]), args := [.int .i64 x0, .int .i64 x2] })], gs := [], keep := some ([0, 1, 2, 7, 8], []) }), (2, { told := [(2, { ans := .val (.tup [.str v1.1, .int .i64 v1.2]), args := [.int .i64 x1, .int .i64 x2] })], gs := [], keep := some ([0, 1, 7, 8, 9, 10], []) }), (3, { told := [(5, { ans := .no }), (9, { ans := .yes })], gs := [(3, true), (4, true), (7, false), (8, false)], keep := some ([0, 1, 7, 9, 36], []) })] 400 (ev := .cond true c6x5 c6x6 [.seq c6x7]) (σ' := mkS 57 [(0, .int .i64 x0), (1, .int .i64 x1), (7, .str v0.1), (9, .str v1.1), (36, .bool true)] []) (q := [True ∧ ((True ∧ (True ∧ True)) ∧ ([.int .i64 x0, .int .i64 x2] : List D) = [.int .i64 x0, .int .i64 x2] ∧ CallSpec Try.prog 9 [.int .i64 x0, .int .i64 x2] (.tup [.str v0.1, .int .i64 v0.2])), True ∧ ((True ∧ (True ∧ True)) ∧ ([.int .i64 x1, .int .i64 x2] : List D) = [.int .i64 x1, .int .i64 x2] ∧ CallSpec Try.prog 9 [.int .i64 x1, .int .i64 x2] (.tup [.str v1.1, .int .i64 v1.2])), ((v0.2 != 0) == false) = true ∧ True, ((v0.2 != 0) == false) = true ∧ True, True ∧ ((v0.2 != 0) = false), ((v1.2 != 0) == false) = false, ((v1.2 != 0) == false) = false, True ∧ ((v1.2 != 0) = true), True, True]) (by kernel_rfl) ⟨⟨trivial, ⟨⟨trivial, ⟨trivial, trivial⟩⟩, rfl, w9 e0⟩⟩, ⟨trivial, ⟨⟨trivial, ⟨trivial, trivial⟩⟩, rfl, w9 e1⟩⟩, ⟨(gB h0 rfl), trivial⟩, ⟨(gB h0 rfl), trivial⟩, ⟨trivial, h0⟩, gB h1 rfl, gB h1 rfl, ⟨trivial, h1⟩, trivial, trivial, trivial⟩ ?_
      refine EvOk.cond (fun _ => ?_) (fun hb => Bool.noConfusion hb)
      refine At.gc [] [] (n := 57) (l := []) (bl := []) (by kernel_rfl) ?_
      obtain ⟨v3, e3, h⟩ := bindE h
      refine At.adv [] [(4, { told := [(0, { ans := .val (.bool v3), args := [] })], gs := [], keep := some ([6], []) })] 400 (ev := .ret) (σ' := mkS 57 [(6, .bool v3)] []) (q := [True ∧ (True ∧ ([] : List D) = [] ∧ CallSpec Try.prog 11 [] (.bool v3))]) (by kernel_rfl) ⟨⟨trivial, ⟨trivial, rfl, w11 e3⟩⟩, trivial⟩ ?_
      refine EvOk.ret ?_
      obtain rfl := someE h
      exact Den.Ends.mk (.inl rfl) (d := .bool v3) (p := (True ∧ True) ∧ (True ∧ True)) (by kernel_rfl) ⟨⟨trivial, trivial⟩, ⟨trivial, trivial⟩⟩ (by kernel_rfl)
    · replace h := iteF h1 h
      rcases Bool.eq_false_or_eq_true (decide (x0 < 0)) with h2 | h2
      · replace h := iteT h2 h
        refine At.adv [] [(0, { told := [], gs := [], keep := some ([0, 1, 2], []) }), (1, { told := [(2, { ans := .val (.tup [.str v0.1, .int .i64 v0.2]), args := [.int .i64 x0, .int .i64 x2] })], gs := [], keep := some ([0, 1, 2, 7, 8], []) }), (2, { told := [(2, { ans := .val (.tup [.str v1.1, .int .i64 v1.2]), args := [.int .i64 x1, .int .i64 x2] })], gs := [], keep := some ([0, 1, 7, 8, 9, 10], []) }), (3, { told := [(5, { ans := .no }), (9, { ans := .no }), (13, { ans := .yes })], gs := [(3, true), (4, true), (7, true), (8, true), (11, false), (12, false)], keep := some ([0, 1, 7, 9, 36], []) })] 400 (ev := .cond true c6x5 c6x6 [.seq c6x7]) (σ' := mkS 57 [(0, .int .i64 x0), (1, .int .i64 x1), (7, .str v0.1), (9, .str v1.1), (36, .bool true)] []) (q := [True ∧ ((True ∧ (True ∧ True)) ∧ ([.int .i64 x0, .int .i64 x2] : List D) = [.int .i64 x0, .int .i64 x2] ∧ CallSpec Try.prog 9 [.int .i64 x0, .int .i64 x2] (.tup [.str v0.1, .int .i64 v0.2])), True ∧ ((True ∧ (True ∧ True)) ∧ ([.int .i64 x1, .int .i64 x2] : List D) = [.int .i64 x1, .int .i64 x2] ∧ CallSpec Try.prog 9 [.int .i64 x1, .int .i64 x2] (.tup [.str v1.1, .int .i64 v1.2])), ((v0.2 != 0) == false) = true ∧ True, ((v0.2 != 0) == false) = true ∧ True, True ∧ ((v0.2 != 0) = false), ((v1.2 != 0) == false) = true ∧ True, ((v1.2 != 0) == false) = true ∧ True, True ∧ ((v1.2 != 0) = false), ((decide (x0 < 0)) == false) = false, ((decide (x0 < 0)) == false) = false, True ∧ ((decide (x0 < 0)) = true)]) (by kernel_rfl) ⟨⟨trivial, ⟨⟨trivial, ⟨trivial, trivial⟩⟩, rfl, w9 e0⟩⟩, ⟨trivial, ⟨⟨trivial, ⟨trivial, trivial⟩⟩, rfl, w9 e1⟩⟩, ⟨(gB h0 rfl), trivial⟩, ⟨(gB h0 rfl), trivial⟩, ⟨trivial, h0⟩, ⟨(gB h1 rfl), trivial⟩, ⟨(gB h1 rfl), trivial⟩, ⟨trivial, h1⟩, gB h2 rfl, gB h2 rfl, ⟨trivial, h2⟩, trivial⟩ ?_
        refine EvOk.cond (fun _ => ?_) (fun hb => Bool.noConfusion hb)
        refine At.gc [] [] (n := 57) (l := []) (bl := []) (by kernel_rfl) ?_
        obtain ⟨v4, e4, h⟩ := bindE h
        refine At.adv [] [(4, { told := [(0, { ans := .val (.bool v4), args := [] })], gs := [], keep := some ([6], []) })] 400 (ev := .ret) (σ' := mkS 57 [(6, .bool v4)] []) (q := [True ∧ (True ∧ ([] : List D) = [] ∧ CallSpec Try.prog 11 [] (.bool v4))]) (by kernel_rfl) ⟨⟨trivial, ⟨trivial, rfl, w11 e4⟩⟩, trivial⟩ ?_
        refine EvOk.ret ?_
        obtain rfl := someE h
        exact Den.Ends.mk (.inl rfl) (d := .bool v4) (p := (True ∧ True) ∧ (True ∧ True)) (by kernel_rfl) ⟨⟨trivial, trivial⟩, ⟨trivial, trivial⟩⟩ (by kernel_rfl)
      · replace h := iteF h2 h
        refine At.adv [] [(0, { told := [], gs := [], keep := some ([0, 1, 2], []) }), (1, { told := [(2, { ans := .val (.tup [.str v0.1, .int .i64 v0.2]), args := [.int .i64 x0, .int .i64 x2] })], gs := [], keep := some ([0, 1, 2, 7, 8], []) }), (2, { told := [(2, { ans := .val (.tup [.str v1.1, .int .i64 v1.2]), args := [.int .i64 x1, .int .i64 x2] })], gs := [], keep := some ([0, 1, 7, 8, 9, 10], []) }), (3, { told := [(5, { ans := .no }), (9, { ans := .no }), (13, { ans := .no })], gs := [(3, true), (4, true), (7, true), (8, true), (11, true), (12, true)], keep := some ([0, 1, 7, 9, 36], []) })] 400 (ev := .cond (decide (x1 < 0)) c6x5 c6x6 [.seq c6x7]) (σ' := mkS 57 [(0, .int .i64 x0), (1, .int .i64 x1), (7, .str v0.1), (9, .str v1.1), (36, .bool (decide (x1 < 0)))] []) (q := [True ∧ ((True ∧ (True ∧ True)) ∧ ([.int .i64 x0, .int .i64 x2] : List D) = [.int .i64 x0, .int .i64 x2] ∧ CallSpec Try.prog 9 [.int .i64 x0, .int .i64 x2] (.tup [.str v0.1, .int .i64 v0.2])), True ∧ ((True ∧ (True ∧ True)) ∧ ([.int .i64 x1, .int .i64 x2] : List D) = [.int .i64 x1, .int .i64 x2] ∧ CallSpec Try.prog 9 [.int .i64 x1, .int .i64 x2] (.tup [.str v1.1, .int .i64 v1.2])), ((v0.2 != 0) == false) = true ∧ True, ((v0.2 != 0) == false) = true ∧ True, True ∧ ((v0.2 != 0) = false), ((v1.2 != 0) == false) = true ∧ True, ((v1.2 != 0) == false) = true ∧ True, True ∧ ((v1.2 != 0) = false), ((decide (x0 < 0)) == false) = true ∧ True, ((decide (x0 < 0)) == false) = true ∧ True, True ∧ ((decide (x0 < 0)) = false)]) (by kernel_rfl) ⟨⟨trivial, ⟨⟨trivial, ⟨trivial, trivial⟩⟩, rfl, w9 e0⟩⟩, ⟨trivial, ⟨⟨trivial, ⟨trivial, trivial⟩⟩, rfl, w9 e1⟩⟩, ⟨(gB h0 rfl), trivial⟩, ⟨(gB h0 rfl), trivial⟩, ⟨trivial, h0⟩, ⟨(gB h1 rfl), trivial⟩, ⟨(gB h1 rfl), trivial⟩, ⟨trivial, h1⟩, ⟨(gB h2 rfl), trivial⟩, ⟨(gB h2 rfl), trivial⟩, ⟨trivial, h2⟩, trivial⟩ ?_
        refine EvOk.cond (fun h3 => ?_) (fun h3 => ?_)
        · replace h := iteT h3 h
          refine At.gc [] [] (n := 57) (l := []) (bl := []) (by kernel_rfl) ?_
          obtain ⟨v5, e5, h⟩ := bindE h
          refine At.adv [] [(4, { told := [(0, { ans := .val (.bool v5), args := [] })], gs := [], keep := some ([6], []) })] 400 (ev := .ret) (σ' := mkS 57 [(6, .bool v5)] []) (q := [True ∧ (True ∧ ([] : List D) = [] ∧ CallSpec Try.prog 11 [] (.bool v5))]) (by kernel_rfl) ⟨⟨trivial, ⟨trivial, rfl, w11 e5⟩⟩, trivial⟩ ?_
          refine EvOk.ret ?_
          obtain rfl := someE h
          exact Den.Ends.mk (.inl rfl) (d := .bool v5) (p := (True ∧ True) ∧ (True ∧ True)) (by kernel_rfl) ⟨⟨trivial, trivial⟩, ⟨trivial, trivial⟩⟩ (by kernel_rfl)
        · replace h := iteF h3 h
          refine At.gc [0, 1, 7, 9] [] (n := 57) (l := [(0, .int .i64 x0), (1, .int .i64 x1), (7, .str v0.1), (9, .str v1.1)]) (bl := []) (by kernel_rfl) ?_
          obtain ⟨v6, e6, h⟩ := bindE h
          rcases Bool.eq_false_or_eq_true v6 with h4 | h4
          · replace h := iteT h4 h
            rcases Bool.eq_false_or_eq_true ((Op.bytesLess v0.1 v1.1) == (decide (x0 < x1))) with h5 | h5
            · replace h := iteT h5 h
              refine At.adv [] [(5, { told := [(0, { ans := .val (.bool v6), args := [] }), (9, { ans := .yes }), (18, { ans := .yes })], gs := [(2, true), (3, true), (4, true), (5, true), (6, true), (7, true), (8, true), (11, true), (12, true), (13, true), (14, true), (15, true), (16, true), (17, true)], keep := some ([6], []) })] 400 (ev := .ret) (σ' := mkS 57 [(6, .bool ((v0.1 == v1.1) == (x0 == x1)))] []) (q := [True ∧ (True ∧ ([] : List D) = [] ∧ CallSpec Try.prog 11 [] (.bool v6)), (v6 == true) = true ∧ True, (v6 == true) = true ∧ True, (v6 == true) = true ∧ True, (v6 == true) = true ∧ True, (v6 == true) = true ∧ True, (v6 == true) = true ∧ True, (v6 == true) = true ∧ True, True ∧ (v6 = true), (((Op.bytesLess v0.1 v1.1) == (decide (x0 < x1))) == true) = true ∧ True, (((Op.bytesLess v0.1 v1.1) == (decide (x0 < x1))) == true) = true ∧ True, (((Op.bytesLess v0.1 v1.1) == (decide (x0 < x1))) == true) = true ∧ True, (((Op.bytesLess v0.1 v1.1) == (decide (x0 < x1))) == true) = true ∧ True, (((Op.bytesLess v0.1 v1.1) == (decide (x0 < x1))) == true) = true ∧ True, (((Op.bytesLess v0.1 v1.1) == (decide (x0 < x1))) == true) = true ∧ True, (((Op.bytesLess v0.1 v1.1) == (decide (x0 < x1))) == true) = true ∧ True, True ∧ (((Op.bytesLess v0.1 v1.1) == (decide (x0 < x1))) = true)]) (by kernel_rfl) ⟨⟨trivial, ⟨trivial, rfl, w11 e6⟩⟩, ⟨(gB h4 rfl), trivial⟩, ⟨(gB h4 rfl), trivial⟩, ⟨(gB h4 rfl), trivial⟩, ⟨(gB h4 rfl), trivial⟩, ⟨(gB h4 rfl), trivial⟩, ⟨(gB h4 rfl), trivial⟩, ⟨(gB h4 rfl), trivial⟩, ⟨trivial, h4⟩, ⟨(gB h5 rfl), trivial⟩, ⟨(gB h5 rfl), trivial⟩, ⟨(gB h5 rfl), trivial⟩, ⟨(gB h5 rfl), trivial⟩, ⟨(gB h5 rfl), trivial⟩, ⟨(gB h5 rfl), trivial⟩, ⟨(gB h5 rfl), trivial⟩, ⟨trivial, h5⟩, trivial⟩ ?_
              refine EvOk.ret ?_
              obtain rfl := someE h
              exact Den.Ends.mk (.inl rfl) (d := .bool ((v0.1 == v1.1) == (x0 == x1))) (p := (True ∧ True) ∧ (True ∧ True)) (by kernel_rfl) ⟨⟨trivial, trivial⟩, ⟨trivial, trivial⟩⟩ (by kernel_rfl)
            · replace h := iteF h5 h
              refine At.adv [] [(5, { told := [(0, { ans := .val (.bool v6), args := [] }), (9, { ans := .yes }), (18, { ans := .no })], gs := [(2, true), (3, true), (4, true), (5, true), (6, true), (7, true), (8, true), (11, false), (12, false), (13, false), (14, false), (15, false), (16, false), (17, false)], keep := some ([6], []) })] 400 (ev := .ret) (σ' := mkS 57 [(6, .bool false)] []) (q := [True ∧ (True ∧ ([] : List D) = [] ∧ CallSpec Try.prog 11 [] (.bool v6)), (v6 == true) = true ∧ True, (v6 == true) = true ∧ True, (v6 == true) = true ∧ True, (v6 == true) = true ∧ True, (v6 == true) = true ∧ True, (v6 == true) = true ∧ True, (v6 == true) = true ∧ True, True ∧ (v6 = true), (((Op.bytesLess v0.1 v1.1) == (decide (x0 < x1))) == true) = false, (((Op.bytesLess v0.1 v1.1) == (decide (x0 < x1))) == true) = false, (((Op.bytesLess v0.1 v1.1) == (decide (x0 < x1))) == true) = false, (((Op.bytesLess v0.1 v1.1) == (decide (x0 < x1))) == true) = false, (((Op.bytesLess v0.1 v1.1) == (decide (x0 < x1))) == true) = false, (((Op.bytesLess v0.1 v1.1) == (decide (x0 < x1))) == true) = false, (((Op.bytesLess v0.1 v1.1) == (decide (x0 < x1))) == true) = false, True ∧ (((Op.bytesLess v0.1 v1.1) == (decide (x0 < x1))) = false)]) (by kernel_rfl) ⟨⟨trivial, ⟨trivial, rfl, w11 e6⟩⟩, ⟨(gB h4 rfl), trivial⟩, ⟨(gB h4 rfl), trivial⟩, ⟨(gB h4 rfl), trivial⟩, ⟨(gB h4 rfl), trivial⟩, ⟨(gB h4 rfl), trivial⟩, ⟨(gB h4 rfl), trivial⟩, ⟨(gB h4 rfl), trivial⟩, ⟨trivial, h4⟩, gB h5 rfl, gB h5 rfl, gB h5 rfl, gB h5 rfl, gB h5 rfl, gB h5 rfl, gB h5 rfl, ⟨trivial, h5⟩, trivial⟩ ?_
              refine EvOk.ret ?_
              obtain rfl := someE h
              exact Den.Ends.mk (.inl rfl) (d := .bool false) (p := (True ∧ True) ∧ (True ∧ True)) (by kernel_rfl) ⟨⟨trivial, trivial⟩, ⟨trivial, trivial⟩⟩ (by kernel_rfl)
          · replace h := iteF h4 h
            refine At.adv [] [(5, { told := [(0, { ans := .val (.bool v6), args := [] }), (9, { ans := .no })], gs := [(2, false), (3, false), (4, false), (5, false), (6, false), (7, false), (8, false)], keep := some ([6], []) })] 400 (ev := .ret) (σ' := mkS 57 [(6, .bool false)] []) (q := [True ∧ (True ∧ ([] : List D) = [] ∧ CallSpec Try.prog 11 [] (.bool v6)), (v6 == true) = false, (v6 == true) = false, (v6 == true) = false, (v6 == true) = false, (v6 == true) = false, (v6 == true) = false, (v6 == true) = false, True ∧ (v6 = false), True, True, True, True, True, True, True]) (by kernel_rfl) ⟨⟨trivial, ⟨trivial, rfl, w11 e6⟩⟩, gB h4 rfl, gB h4 rfl, gB h4 rfl, gB h4 rfl, gB h4 rfl, gB h4 rfl, gB h4 rfl, ⟨trivial, h4⟩, trivial, trivial, trivial, trivial, trivial, trivial, trivial, trivial⟩ ?_
            refine EvOk.ret ?_
            obtain rfl := someE h
            exact Den.Ends.mk (.inl rfl) (d := .bool false) (p := (True ∧ True) ∧ (True ∧ True)) (by kernel_rfl) ⟨⟨trivial, trivial⟩, ⟨trivial, trivial⟩⟩ (by kernel_rfl)
theorem w6 {x0 : Int} {x1 : Int} {x2 : Int} {r : Bool} (h : m_armaturelaw02_OctetOrderPreserved x0 x1 x2 = some r) : CallSpec Try.prog 6 [.int .i64 x0, .int .i64 x1, .int .i64 x2] (.bool r) :=
  CallSpec.at2 b6 (n := 57) (l := [(0, .int .i64 x0), (1, .int .i64 x1), (2, .int .i64 x2)]) (by kernel_rfl) (by kernel_rfl) (by kernel_rfl) (by kernel_rfl) (by kernel_rfl) (Nat.le_of_ble_eq_true (by kernel_rfl)) (fun Γ => we6 x0 x1 x2 r h Γ)

/-! ### armature octet.PutString -/
noncomputable def b16 : Code := Try.f16.body.getD .skip
noncomputable def c16x0 : Code := sub1 b16
noncomputable def c16x1 : Code := sub1 c16x0
noncomputable def c16x2 : Code := sub0 c16x1
noncomputable def c16x3 : Code := sub1 c16x2
noncomputable def c16x4 : Code := sub0 c16x3
noncomputable def c16x5 : Code := sub1 c16x3
noncomputable def c16x6 : Code := sub1 c16x1
def m_octet_PutString (x0 : List UInt8) : Option ((List UInt8) × Int) :=
  (m_octet_Put (x0.length : Int) 2).bind fun v0 =>
  if (v0.2 != 0) = true then
    (some ([], v0.2)) else
  ((catK v0.1 x0).bind fun v1 =>
    some (v1, 0))
theorem we16 (x0 : List UInt8) (r : (List UInt8) × Int) (h : m_octet_PutString x0 = some r) (Γ : Ctx) : At Try.prog Γ b16 [] (Den.Ends Try.prog Try.f16 (.tup [.str r.1, .int .i64 r.2])) (mkS 18 [(0, .str x0)] []) := by
  obtain ⟨v0, e0, h⟩ := bindE h
  refine At.adv [] [(0, { told := [], gs := [], keep := some ([0], []) }), (1, { told := [(2, { ans := .val (.tup [.str v0.1, .int .i64 v0.2]), args := [.int .i64 (x0.length : Int), .int .i64 2] })], gs := [], keep := some ([0, 4, 5], []) }), (2, { told := [], gs := [], keep := some ([0, 4, 5, 13], []) })] 400 (ev := .cond (v0.2 != 0) c16x4 c16x5 [.seq c16x6]) (σ' := mkS 18 [(0, .str x0), (4, .str v0.1), (5, .int .i64 v0.2), (13, .bool (v0.2 != 0))] []) (q := [True ∧ ((True ∧ (True ∧ True)) ∧ ([.int .i64 (x0.length : Int), .int .i64 2] : List D) = [.int .i64 (x0.length : Int), .int .i64 2] ∧ CallSpec Try.prog 9 [.int .i64 (x0.length : Int), .int .i64 2] (.tup [.str v0.1, .int .i64 v0.2]))]) (by kernel_rfl) ⟨⟨trivial, ⟨⟨trivial, ⟨trivial, trivial⟩⟩, rfl, w9 e0⟩⟩, trivial⟩ ?_
  refine EvOk.cond (fun h0 => ?_) (fun h0 => ?_)
  · replace h := iteT h0 h
    refine At.gc [5] [] (n := 18) (l := [(5, .int .i64 v0.2)]) (bl := []) (by kernel_rfl) ?_
    refine At.adv [] [(3, { told := [], gs := [], keep := some ([2, 3], []) })] 400 (ev := .ret) (σ' := mkS 18 [(2, .str []), (3, .int .i64 v0.2)] []) (q := []) (by kernel_rfl) trivial ?_
    refine EvOk.ret ?_
    obtain rfl := someE h
    exact Den.Ends.mk (.inl rfl) (d := .tup [.str [], .int .i64 v0.2]) (p := (True ∧ (True ∧ True)) ∧ (True ∧ (True ∧ True))) (by kernel_rfl) ⟨⟨trivial, ⟨trivial, trivial⟩⟩, ⟨trivial, ⟨trivial, trivial⟩⟩⟩ (by kernel_rfl)
  · replace h := iteF h0 h
    refine At.gc [0, 4] [] (n := 18) (l := [(0, .str x0), (4, .str v0.1)]) (bl := []) (by kernel_rfl) ?_
    obtain ⟨v1, e1, h⟩ := bindE h
    refine At.adv [] [(4, { told := [(2, { ans := .val (.str v1) })], gs := [], keep := some ([2, 3], []) })] 400 (ev := .ret) (σ' := mkS 18 [(2, .str v1), (3, .int .i64 0)] []) (q := [True ∧ (v0.1.length + x0.length ≤ 9223372036854775807 ∧ v0.1 ++ x0 = v1)]) (by kernel_rfl) ⟨⟨trivial, catK_spec e1⟩, trivial⟩ ?_
    refine EvOk.ret ?_
    obtain rfl := someE h
    exact Den.Ends.mk (.inl rfl) (d := .tup [.str v1, .int .i64 0]) (p := (True ∧ (True ∧ True)) ∧ (True ∧ (True ∧ True))) (by kernel_rfl) ⟨⟨trivial, ⟨trivial, trivial⟩⟩, ⟨trivial, ⟨trivial, trivial⟩⟩⟩ (by kernel_rfl)
theorem w16 {x0 : List UInt8} {r : (List UInt8) × Int} (h : m_octet_PutString x0 = some r) : CallSpec Try.prog 16 [.str x0] (.tup [.str r.1, .int .i64 r.2]) :=
  CallSpec.at2 b16 (n := 18) (l := [(0, .str x0)]) (by kernel_rfl) (by kernel_rfl) (by kernel_rfl) (by kernel_rfl) (by kernel_rfl) (Nat.le_of_ble_eq_true (by kernel_rfl)) (fun Γ => we16 x0 r h Γ)

/-! ### armature armatureref02.PutString -/
noncomputable def b17 : Code := Try.f17.body.getD .skip
noncomputable def c17x0 : Code := sub1 b17
noncomputable def c17x1 : Code := sub1 c17x0
noncomputable def c17x2 : Code := sub0 c17x1
noncomputable def c17x3 : Code := sub1 c17x2
noncomputable def c17x4 : Code := sub0 c17x3
noncomputable def c17x5 : Code := sub1 c17x3
noncomputable def c17x6 : Code := sub1 c17x1
def m_armatureref02_PutString (x0 : List UInt8) : Option ((List UInt8) × Int) :=
  (m_armatureref02_Put (x0.length : Int) 2).bind fun v0 =>
  if (v0.2 != 0) = true then
    (some ([], v0.2)) else
  ((catK v0.1 x0).bind fun v1 =>
    some (v1, 0))
theorem we17 (x0 : List UInt8) (r : (List UInt8) × Int) (h : m_armatureref02_PutString x0 = some r) (Γ : Ctx) : At Try.prog Γ b17 [] (Den.Ends Try.prog Try.f17 (.tup [.str r.1, .int .i64 r.2])) (mkS 18 [(0, .str x0)] []) := by
  obtain ⟨v0, e0, h⟩ := bindE h
  refine At.adv [] [(0, { told := [], gs := [], keep := some ([0], []) }), (1, { told := [(2, { ans := .val (.tup [.str v0.1, .int .i64 v0.2]), args := [.int .i64 (x0.length : Int), .int .i64 2] })], gs := [], keep := some ([0, 4, 5], []) }), (2, { told := [], gs := [], keep := some ([0, 4, 5, 13], []) })] 400 (ev := .cond (v0.2 != 0) c17x4 c17x5 [.seq c17x6]) (σ' := mkS 18 [(0, .str x0), (4, .str v0.1), (5, .int .i64 v0.2), (13, .bool (v0.2 != 0))] []) (q := [True ∧ ((True ∧ (True ∧ True)) ∧ ([.int .i64 (x0.length : Int), .int .i64 2] : List D) = [.int .i64 (x0.length : Int), .int .i64 2] ∧ CallSpec Try.prog 10 [.int .i64 (x0.length : Int), .int .i64 2] (.tup [.str v0.1, .int .i64 v0.2]))]) (by kernel_rfl) ⟨⟨trivial, ⟨⟨trivial, ⟨trivial, trivial⟩⟩, rfl, w10 e0⟩⟩, trivial⟩ ?_
  refine EvOk.cond (fun h0 => ?_) (fun h0 => ?_)
  · replace h := iteT h0 h
    refine At.gc [5] [] (n := 18) (l := [(5, .int .i64 v0.2)]) (bl := []) (by kernel_rfl) ?_
    refine At.adv [] [(3, { told := [], gs := [], keep := some ([2, 3], []) })] 400 (ev := .ret) (σ' := mkS 18 [(2, .str []), (3, .int .i64 v0.2)] []) (q := []) (by kernel_rfl) trivial ?_
    refine EvOk.ret ?_
    obtain rfl := someE h
    exact Den.Ends.mk (.inl rfl) (d := .tup [.str [], .int .i64 v0.2]) (p := (True ∧ (True ∧ True)) ∧ (True ∧ (True ∧ True))) (by kernel_rfl) ⟨⟨trivial, ⟨trivial, trivial⟩⟩, ⟨trivial, ⟨trivial, trivial⟩⟩⟩ (by kernel_rfl)
  · replace h := iteF h0 h
    refine At.gc [0, 4] [] (n := 18) (l := [(0, .str x0), (4, .str v0.1)]) (bl := []) (by kernel_rfl) ?_
    obtain ⟨v1, e1, h⟩ := bindE h
    refine At.adv [] [(4, { told := [(2, { ans := .val (.str v1) })], gs := [], keep := some ([2, 3], []) })] 400 (ev := .ret) (σ' := mkS 18 [(2, .str v1), (3, .int .i64 0)] []) (q := [True ∧ (v0.1.length + x0.length ≤ 9223372036854775807 ∧ v0.1 ++ x0 = v1)]) (by kernel_rfl) ⟨⟨trivial, catK_spec e1⟩, trivial⟩ ?_
    refine EvOk.ret ?_
    obtain rfl := someE h
    exact Den.Ends.mk (.inl rfl) (d := .tup [.str v1, .int .i64 0]) (p := (True ∧ (True ∧ True)) ∧ (True ∧ (True ∧ True))) (by kernel_rfl) ⟨⟨trivial, ⟨trivial, trivial⟩⟩, ⟨trivial, ⟨trivial, trivial⟩⟩⟩ (by kernel_rfl)
theorem w17 {x0 : List UInt8} {r : (List UInt8) × Int} (h : m_armatureref02_PutString x0 = some r) : CallSpec Try.prog 17 [.str x0] (.tup [.str r.1, .int .i64 r.2]) :=
  CallSpec.at2 b17 (n := 18) (l := [(0, .str x0)]) (by kernel_rfl) (by kernel_rfl) (by kernel_rfl) (by kernel_rfl) (by kernel_rfl) (Nat.le_of_ble_eq_true (by kernel_rfl)) (fun Γ => we17 x0 r h Γ)

/-! ### armature armatureref02.GetString -/
noncomputable def b19 : Code := Try.f19.body.getD .skip
noncomputable def c19x0 : Code := sub1 b19
noncomputable def c19x1 : Code := sub1 c19x0
noncomputable def c19x2 : Code := sub1 c19x1
noncomputable def c19x3 : Code := sub0 c19x2
noncomputable def c19x4 : Code := sub1 c19x3
noncomputable def c19x5 : Code := sub0 c19x4
noncomputable def c19x6 : Code := sub1 c19x4
noncomputable def c19x7 : Code := sub1 c19x2
noncomputable def c19x8 : Code := sub0 c19x1
noncomputable def c19x9 : Code := sub1 c19x8
noncomputable def c19x10 : Code := sub0 c19x9
noncomputable def c19x11 : Code := sub1 c19x9
def m_armatureref02_GetString (x0 : List UInt8) (x1 : Int) : Option ((List UInt8) × Int × Int) :=
  (m_armatureref02_Unsigned x0 x1 2).bind fun v0 =>
  if (v0.2 != 0) = true then
    (some ([], 0, v0.2)) else
  ((some (IntKind.wrap .i64 ((x0.length : Int) - x1))).bind fun v1 =>
    (some (IntKind.wrap .i64 (v1 - (2 : Int)))).bind fun v2 =>
    if (decide (v2 < v0.1)) = true then
      (some ([], 0, 3)) else
    ((some (IntKind.wrap .i64 (x1 + (2 : Int)))).bind fun v3 =>
      (some (IntKind.wrap .i64 (x1 + (2 : Int)))).bind fun v4 =>
      (some (IntKind.wrap .i64 (v4 + v0.1))).bind fun v5 =>
      (sub x0 v3 v5).bind fun v6 =>
      (some (IntKind.wrap .i64 (x1 + (2 : Int)))).bind fun v7 =>
      (some (IntKind.wrap .i64 (v7 + v0.1))).bind fun v8 =>
      some (v6, v8, 0)))
theorem we19 (x0 : List UInt8) (x1 : Int) (r : (List UInt8) × Int × Int) (h : m_armatureref02_GetString x0 x1 = some r) (Γ : Ctx) : At Try.prog Γ b19 [] (Den.Ends Try.prog Try.f19 (.tup [.str r.1, .int .i64 r.2.1, .int .i64 r.2.2])) (mkS 37 [(0, .str x0), (1, .int .i64 x1)] []) := by
  obtain ⟨v0, e0, h⟩ := bindE h
  refine At.adv [] [(0, { told := [], gs := [], keep := some ([0, 1], []) }), (1, { told := [(2, { ans := .val (.tup [.int .i64 v0.1, .int .i64 v0.2]), args := [.str x0, .int .i64 x1, .int .i64 2] })], gs := [], keep := some ([0, 1, 7, 8], []) }), (2, { told := [], gs := [], keep := some ([0, 1, 7, 8, 16], []) })] 400 (ev := .cond (v0.2 != 0) c19x10 c19x11 [.seq c19x2]) (σ' := mkS 37 [(0, .str x0), (1, .int .i64 x1), (7, .int .i64 v0.1), (8, .int .i64 v0.2), (16, .bool (v0.2 != 0))] []) (q := [True ∧ ((True ∧ (True ∧ (True ∧ True))) ∧ ([.str x0, .int .i64 x1, .int .i64 2] : List D) = [.str x0, .int .i64 x1, .int .i64 2] ∧ CallSpec Try.prog 13 [.str x0, .int .i64 x1, .int .i64 2] (.tup [.int .i64 v0.1, .int .i64 v0.2]))]) (by kernel_rfl) ⟨⟨trivial, ⟨⟨trivial, ⟨trivial, ⟨trivial, trivial⟩⟩⟩, rfl, w13 e0⟩⟩, trivial⟩ ?_
  refine EvOk.cond (fun h0 => ?_) (fun h0 => ?_)
  · replace h := iteT h0 h
    refine At.gc [8] [] (n := 37) (l := [(8, .int .i64 v0.2)]) (bl := []) (by kernel_rfl) ?_
    refine At.adv [] [(3, { told := [], gs := [], keep := some ([4, 5, 6], []) })] 400 (ev := .ret) (σ' := mkS 37 [(4, .str []), (5, .int .i64 0), (6, .int .i64 v0.2)] []) (q := []) (by kernel_rfl) trivial ?_
    refine EvOk.ret ?_
    obtain rfl := someE h
    exact Den.Ends.mk (.inl rfl) (d := .tup [.str [], .int .i64 0, .int .i64 v0.2]) (p := (True ∧ (True ∧ (True ∧ True))) ∧ (True ∧ (True ∧ (True ∧ True)))) (by kernel_rfl) ⟨⟨trivial, ⟨trivial, ⟨trivial, trivial⟩⟩⟩, ⟨trivial, ⟨trivial, ⟨trivial, trivial⟩⟩⟩⟩ (by kernel_rfl)
  · replace h := iteF h0 h
    refine At.gc [0, 1, 7] [] (n := 37) (l := [(0, .str x0), (1, .int .i64 x1), (7, .int .i64 v0.1)]) (bl := []) (by kernel_rfl) ?_
    obtain ⟨v1, e1, h⟩ := bindE h
    obtain ⟨v2, e2, h⟩ := bindE h
    refine At.adv [] [(4, { told := [(3, { ans := .val (.int .i64 v1) }), (4, { ans := .val (.int .i64 v2) })], gs := [], keep := some ([0, 1, 7, 24], []) })] 400 (ev := .cond (decide (v2 < v0.1)) c19x5 c19x6 [.seq c19x7]) (σ' := mkS 37 [(0, .str x0), (1, .int .i64 x1), (7, .int .i64 v0.1), (24, .bool (decide (v2 < v0.1)))] []) (q := [True ∧ (IntKind.wrap .i64 ((x0.length : Int) - x1) = v1), True ∧ (IntKind.wrap .i64 (v1 - (2 : Int)) = v2)]) (by kernel_rfl) ⟨⟨trivial, someE e1⟩, ⟨trivial, someE e2⟩, trivial⟩ ?_
    refine EvOk.cond (fun h1 => ?_) (fun h1 => ?_)
    · replace h := iteT h1 h
      refine At.gc [] [] (n := 37) (l := []) (bl := []) (by kernel_rfl) ?_
      refine At.adv [] [(5, { told := [], gs := [], keep := some ([4, 5, 6], []) })] 400 (ev := .ret) (σ' := mkS 37 [(4, .str []), (5, .int .i64 0), (6, .int .i64 3)] []) (q := []) (by kernel_rfl) trivial ?_
      refine EvOk.ret ?_
      obtain rfl := someE h
      exact Den.Ends.mk (.inl rfl) (d := .tup [.str [], .int .i64 0, .int .i64 3]) (p := (True ∧ (True ∧ (True ∧ True))) ∧ (True ∧ (True ∧ (True ∧ True)))) (by kernel_rfl) ⟨⟨trivial, ⟨trivial, ⟨trivial, trivial⟩⟩⟩, ⟨trivial, ⟨trivial, ⟨trivial, trivial⟩⟩⟩⟩ (by kernel_rfl)
    · replace h := iteF h1 h
      refine At.gc [0, 1, 7] [] (n := 37) (l := [(0, .str x0), (1, .int .i64 x1), (7, .int .i64 v0.1)]) (bl := []) (by kernel_rfl) ?_
      obtain ⟨v3, e3, h⟩ := bindE h
      obtain ⟨v4, e4, h⟩ := bindE h
      obtain ⟨v5, e5, h⟩ := bindE h
      obtain ⟨v6, e6, h⟩ := bindE h
      obtain ⟨v7, e7, h⟩ := bindE h
      obtain ⟨v8, e8, h⟩ := bindE h
      refine At.adv [] [(6, { told := [(2, { ans := .val (.int .i64 v3) }), (4, { ans := .val (.int .i64 v4) }), (6, { ans := .val (.int .i64 v5) }), (7, { ans := .val (.str v6) }), (9, { ans := .val (.int .i64 v7) }), (11, { ans := .val (.int .i64 v8) })], gs := [], keep := some ([4, 5, 6], []) })] 400 (ev := .ret) (σ' := mkS 37 [(4, .str v6), (5, .int .i64 v8), (6, .int .i64 0)] []) (q := [True ∧ (IntKind.wrap .i64 (x1 + (2 : Int)) = v3), True ∧ (IntKind.wrap .i64 (x1 + (2 : Int)) = v4), True ∧ (IntKind.wrap .i64 (v4 + v0.1) = v5), True ∧ (sub x0 v3 v5 = some v6), True ∧ (IntKind.wrap .i64 (x1 + (2 : Int)) = v7), True ∧ (IntKind.wrap .i64 (v7 + v0.1) = v8)]) (by kernel_rfl) ⟨⟨trivial, someE e3⟩, ⟨trivial, someE e4⟩, ⟨trivial, someE e5⟩, ⟨trivial, e6⟩, ⟨trivial, someE e7⟩, ⟨trivial, someE e8⟩, trivial⟩ ?_
      refine EvOk.ret ?_
      obtain rfl := someE h
      exact Den.Ends.mk (.inl rfl) (d := .tup [.str v6, .int .i64 v8, .int .i64 0]) (p := (True ∧ (True ∧ (True ∧ True))) ∧ (True ∧ (True ∧ (True ∧ True)))) (by kernel_rfl) ⟨⟨trivial, ⟨trivial, ⟨trivial, trivial⟩⟩⟩, ⟨trivial, ⟨trivial, ⟨trivial, trivial⟩⟩⟩⟩ (by kernel_rfl)
theorem w19 {x0 : List UInt8} {x1 : Int} {r : (List UInt8) × Int × Int} (h : m_armatureref02_GetString x0 x1 = some r) : CallSpec Try.prog 19 [.str x0, .int .i64 x1] (.tup [.str r.1, .int .i64 r.2.1, .int .i64 r.2.2]) :=
  CallSpec.at2 b19 (n := 37) (l := [(0, .str x0), (1, .int .i64 x1)]) (by kernel_rfl) (by kernel_rfl) (by kernel_rfl) (by kernel_rfl) (by kernel_rfl) (Nat.le_of_ble_eq_true (by kernel_rfl)) (fun Γ => we19 x0 x1 r h Γ)

/-! ### armature armaturelaw02.OctetStringReference -/
noncomputable def b7 : Code := Try.f7.body.getD .skip
def m_armaturelaw02_OctetStringReference (x0 : List UInt8) (x1 : Int) : Option (Bool) :=
  (m_octet_PutString x0).bind fun v0 =>
  (m_armatureref02_PutString x0).bind fun v1 =>
  (m_octet_GetString x0 x1).bind fun v2 =>
  (m_armatureref02_GetString x0 x1).bind fun v3 =>
  (m_armaturelaw02_awake).bind fun v4 =>
  if v4 = true then (if (v0.1 == v1.1) = true then (if (v0.2 == v1.2) = true then (if (v2.1 == v3.1) = true then (if (v2.2.1 == v3.2.1) = true then (some (v2.2.2 == v3.2.2)) else
  (some false)) else
  (some false)) else
  (some false)) else
  (some false)) else
  (some false)
theorem we7 (x0 : List UInt8) (x1 : Int) (r : Bool) (h : m_armaturelaw02_OctetStringReference x0 x1 = some r) (Γ : Ctx) : At Try.prog Γ b7 [] (Den.Ends Try.prog Try.f7 (.bool r)) (mkS 65 [(0, .str x0), (1, .int .i64 x1)] []) := by
  obtain ⟨v0, e0, h⟩ := bindE h
  obtain ⟨v1, e1, h⟩ := bindE h
  obtain ⟨v2, e2, h⟩ := bindE h
  obtain ⟨v3, e3, h⟩ := bindE h
  obtain ⟨v4, e4, h⟩ := bindE h
  rcases Bool.eq_false_or_eq_true v4 with h0 | h0
  · replace h := iteT h0 h
    rcases Bool.eq_false_or_eq_true (v0.1 == v1.1) with h1 | h1
    · replace h := iteT h1 h
      rcases Bool.eq_false_or_eq_true (v0.2 == v1.2) with h2 | h2
      · replace h := iteT h2 h
        rcases Bool.eq_false_or_eq_true (v2.1 == v3.1) with h3 | h3
        · replace h := iteT h3 h
          rcases Bool.eq_false_or_eq_true (v2.2.1 == v3.2.1) with h4 | h4
          · replace h := iteT h4 h
            refine At.adv [] [(0, { told := [], gs := [], keep := some ([0, 1], []) }), (1, { told := [(1, { ans := .val (.tup [.str v0.1, .int .i64 v0.2]), args := [.str x0] })], gs := [], keep := some ([0, 1, 5, 6], []) }), (2, { told := [(1, { ans := .val (.tup [.str v1.1, .int .i64 v1.2]), args := [.str x0] })], gs := [], keep := some ([0, 1, 5, 6, 7, 8], []) }), (3, { told := [(2, { ans := .val (.tup [.str v2.1, .int .i64 v2.2.1, .int .i64 v2.2.2]), args := [.str x0, .int .i64 x1] })], gs := [], keep := some ([0, 1, 5, 6, 7, 8, 9, 10, 11], []) }), (4, { told := [(2, { ans := .val (.tup [.str v3.1, .int .i64 v3.2.1, .int .i64 v3.2.2]), args := [.str x0, .int .i64 x1] })], gs := [], keep := some ([5, 6, 7, 8, 9, 10, 11, 12, 13, 14], []) }), (5, { told := [(0, { ans := .val (.bool v4), args := [] }), (5, { ans := .yes }), (10, { ans := .yes }), (15, { ans := .yes }), (20, { ans := .yes }), (25, { ans := .yes })], gs := [(2, true), (3, true), (4, true), (7, true), (8, true), (9, true), (12, true), (13, true), (14, true), (17, true), (18, true), (19, true), (22, true), (23, true), (24, true)], keep := some ([4], []) })] 400 (ev := .ret) (σ' := mkS 65 [(4, .bool (v2.2.2 == v3.2.2))] []) (q := [True ∧ ((True ∧ True) ∧ ([.str x0] : List D) = [.str x0] ∧ CallSpec Try.prog 16 [.str x0] (.tup [.str v0.1, .int .i64 v0.2])), True ∧ ((True ∧ True) ∧ ([.str x0] : List D) = [.str x0] ∧ CallSpec Try.prog 17 [.str x0] (.tup [.str v1.1, .int .i64 v1.2])), True ∧ ((True ∧ (True ∧ True)) ∧ ([.str x0, .int .i64 x1] : List D) = [.str x0, .int .i64 x1] ∧ CallSpec Try.prog 18 [.str x0, .int .i64 x1] (.tup [.str v2.1, .int .i64 v2.2.1, .int .i64 v2.2.2])), True ∧ ((True ∧ (True ∧ True)) ∧ ([.str x0, .int .i64 x1] : List D) = [.str x0, .int .i64 x1] ∧ CallSpec Try.prog 19 [.str x0, .int .i64 x1] (.tup [.str v3.1, .int .i64 v3.2.1, .int .i64 v3.2.2])), True ∧ (True ∧ ([] : List D) = [] ∧ CallSpec Try.prog 11 [] (.bool v4)), (v4 == true) = true ∧ True, (v4 == true) = true ∧ True, (v4 == true) = true ∧ True, True ∧ (v4 = true), ((v0.1 == v1.1) == true) = true ∧ True, ((v0.1 == v1.1) == true) = true ∧ True, ((v0.1 == v1.1) == true) = true ∧ True, True ∧ ((v0.1 == v1.1) = true), ((v0.2 == v1.2) == true) = true ∧ True, ((v0.2 == v1.2) == true) = true ∧ True, ((v0.2 == v1.2) == true) = true ∧ True, True ∧ ((v0.2 == v1.2) = true), ((v2.1 == v3.1) == true) = true ∧ True, ((v2.1 == v3.1) == true) = true ∧ True, ((v2.1 == v3.1) == true) = true ∧ True, True ∧ ((v2.1 == v3.1) = true), ((v2.2.1 == v3.2.1) == true) = true ∧ True, ((v2.2.1 == v3.2.1) == true) = true ∧ True, ((v2.2.1 == v3.2.1) == true) = true ∧ True, True ∧ ((v2.2.1 == v3.2.1) = true)]) (by kernel_rfl) ⟨⟨trivial, ⟨⟨trivial, trivial⟩, rfl, w16 e0⟩⟩, ⟨trivial, ⟨⟨trivial, trivial⟩, rfl, w17 e1⟩⟩, ⟨trivial, ⟨⟨trivial, ⟨trivial, trivial⟩⟩, rfl, w18 e2⟩⟩, ⟨trivial, ⟨⟨trivial, ⟨trivial, trivial⟩⟩, rfl, w19 e3⟩⟩, ⟨trivial, ⟨trivial, rfl, w11 e4⟩⟩, ⟨(gB h0 rfl), trivial⟩, ⟨(gB h0 rfl), trivial⟩, ⟨(gB h0 rfl), trivial⟩, ⟨trivial, h0⟩, ⟨(gB h1 rfl), trivial⟩, ⟨(gB h1 rfl), trivial⟩, ⟨(gB h1 rfl), trivial⟩, ⟨trivial, h1⟩, ⟨(gB h2 rfl), trivial⟩, ⟨(gB h2 rfl), trivial⟩, ⟨(gB h2 rfl), trivial⟩, ⟨trivial, h2⟩, ⟨(gB h3 rfl), trivial⟩, ⟨(gB h3 rfl), trivial⟩, ⟨(gB h3 rfl), trivial⟩, ⟨trivial, h3⟩, ⟨(gB h4 rfl), trivial⟩, ⟨(gB h4 rfl), trivial⟩, ⟨(gB h4 rfl), trivial⟩, ⟨trivial, h4⟩, trivial⟩ ?_
            refine EvOk.ret ?_
            obtain rfl := someE h
            exact Den.Ends.mk (.inl rfl) (d := .bool (v2.2.2 == v3.2.2)) (p := (True ∧ True) ∧ (True ∧ True)) (by kernel_rfl) ⟨⟨trivial, trivial⟩, ⟨trivial, trivial⟩⟩ (by kernel_rfl)
          · replace h := iteF h4 h
            refine At.adv [] [(0, { told := [], gs := [], keep := some ([0, 1], []) }), (1, { told := [(1, { ans := .val (.tup [.str v0.1, .int .i64 v0.2]), args := [.str x0] })], gs := [], keep := some ([0, 1, 5, 6], []) }), (2, { told := [(1, { ans := .val (.tup [.str v1.1, .int .i64 v1.2]), args := [.str x0] })], gs := [], keep := some ([0, 1, 5, 6, 7, 8], []) }), (3, { told := [(2, { ans := .val (.tup [.str v2.1, .int .i64 v2.2.1, .int .i64 v2.2.2]), args := [.str x0, .int .i64 x1] })], gs := [], keep := some ([0, 1, 5, 6, 7, 8, 9, 10, 11], []) }), (4, { told := [(2, { ans := .val (.tup [.str v3.1, .int .i64 v3.2.1, .int .i64 v3.2.2]), args := [.str x0, .int .i64 x1] })], gs := [], keep := some ([5, 6, 7, 8, 9, 10, 11, 12, 13, 14], []) }), (5, { told := [(0, { ans := .val (.bool v4), args := [] }), (5, { ans := .yes }), (10, { ans := .yes }), (15, { ans := .yes }), (20, { ans := .yes }), (25, { ans := .no })], gs := [(2, true), (3, true), (4, true), (7, true), (8, true), (9, true), (12, true), (13, true), (14, true), (17, true), (18, true), (19, true), (22, false), (23, false), (24, false)], keep := some ([4], []) })] 400 (ev := .ret) (σ' := mkS 65 [(4, .bool false)] []) (q := [True ∧ ((True ∧ True) ∧ ([.str x0] : List D) = [.str x0] ∧ CallSpec Try.prog 16 [.str x0] (.tup [.str v0.1, .int .i64 v0.2])), True ∧ ((True ∧ True) ∧ ([.str x0] : List D) = [.str x0] ∧ CallSpec Try.prog 17 [.str x0] (.tup [.str v1.1, .int .i64 v1.2])), True ∧ ((True ∧ (True ∧ True)) ∧ ([.str x0, .int .i64 x1] : List D) = [.str x0, .int .i64 x1] ∧ CallSpec Try.prog 18 [.str x0, .int .i64 x1] (.tup [.str v2.1, .int .i64 v2.2.1, .int .i64 v2.2.2])), True ∧ ((True ∧ (True ∧ True)) ∧ ([.str x0, .int .i64 x1] : List D) = [.str x0, .int .i64 x1] ∧ CallSpec Try.prog 19 [.str x0, .int .i64 x1] (.tup [.str v3.1, .int .i64 v3.2.1, .int .i64 v3.2.2])), True ∧ (True ∧ ([] : List D) = [] ∧ CallSpec Try.prog 11 [] (.bool v4)), (v4 == true) = true ∧ True, (v4 == true) = true ∧ True, (v4 == true) = true ∧ True, True ∧ (v4 = true), ((v0.1 == v1.1) == true) = true ∧ True, ((v0.1 == v1.1) == true) = true ∧ True, ((v0.1 == v1.1) == true) = true ∧ True, True ∧ ((v0.1 == v1.1) = true), ((v0.2 == v1.2) == true) = true ∧ True, ((v0.2 == v1.2) == true) = true ∧ True, ((v0.2 == v1.2) == true) = true ∧ True, True ∧ ((v0.2 == v1.2) = true), ((v2.1 == v3.1) == true) = true ∧ True, ((v2.1 == v3.1) == true) = true ∧ True, ((v2.1 == v3.1) == true) = true ∧ True, True ∧ ((v2.1 == v3.1) = true), ((v2.2.1 == v3.2.1) == true) = false, ((v2.2.1 == v3.2.1) == true) = false, ((v2.2.1 == v3.2.1) == true) = false, True ∧ ((v2.2.1 == v3.2.1) = false)]) (by kernel_rfl) ⟨⟨trivial, ⟨⟨trivial, trivial⟩, rfl, w16 e0⟩⟩, ⟨trivial, ⟨⟨trivial, trivial⟩, rfl, w17 e1⟩⟩, ⟨trivial, ⟨⟨trivial, ⟨trivial, trivial⟩⟩, rfl, w18 e2⟩⟩, ⟨trivial, ⟨⟨trivial, ⟨trivial, trivial⟩⟩, rfl, w19 e3⟩⟩, ⟨trivial, ⟨trivial, rfl, w11 e4⟩⟩, ⟨(gB h0 rfl), trivial⟩, ⟨(gB h0 rfl), trivial⟩, ⟨(gB h0 rfl), trivial⟩, ⟨trivial, h0⟩, ⟨(gB h1 rfl), trivial⟩, ⟨(gB h1 rfl), trivial⟩, ⟨(gB h1 rfl), trivial⟩, ⟨trivial, h1⟩, ⟨(gB h2 rfl), trivial⟩, ⟨(gB h2 rfl), trivial⟩, ⟨(gB h2 rfl), trivial⟩, ⟨trivial, h2⟩, ⟨(gB h3 rfl), trivial⟩, ⟨(gB h3 rfl), trivial⟩, ⟨(gB h3 rfl), trivial⟩, ⟨trivial, h3⟩, gB h4 rfl, gB h4 rfl, gB h4 rfl, ⟨trivial, h4⟩, trivial⟩ ?_
            refine EvOk.ret ?_
            obtain rfl := someE h
            exact Den.Ends.mk (.inl rfl) (d := .bool false) (p := (True ∧ True) ∧ (True ∧ True)) (by kernel_rfl) ⟨⟨trivial, trivial⟩, ⟨trivial, trivial⟩⟩ (by kernel_rfl)
        · replace h := iteF h3 h
          refine At.adv [] [(0, { told := [], gs := [], keep := some ([0, 1], []) }), (1, { told := [(1, { ans := .val (.tup [.str v0.1, .int .i64 v0.2]), args := [.str x0] })], gs := [], keep := some ([0, 1, 5, 6], []) }), (2, { told := [(1, { ans := .val (.tup [.str v1.1, .int .i64 v1.2]), args := [.str x0] })], gs := [], keep := some ([0, 1, 5, 6, 7, 8], []) }), (3, { told := [(2, { ans := .val (.tup [.str v2.1, .int .i64 v2.2.1, .int .i64 v2.2.2]), args := [.str x0, .int .i64 x1] })], gs := [], keep := some ([0, 1, 5, 6, 7, 8, 9, 10, 11], []) }), (4, { told := [(2, { ans := .val (.tup [.str v3.1, .int .i64 v3.2.1, .int .i64 v3.2.2]), args := [.str x0, .int .i64 x1] })], gs := [], keep := some ([5, 6, 7, 8, 9, 10, 11, 12, 13, 14], []) }), (5, { told := [(0, { ans := .val (.bool v4), args := [] }), (5, { ans := .yes }), (10, { ans := .yes }), (15, { ans := .yes }), (20, { ans := .no })], gs := [(2, true), (3, true), (4, true), (7, true), (8, true), (9, true), (12, true), (13, true), (14, true), (17, false), (18, false), (19, false)], keep := some ([4], []) })] 400 (ev := .ret) (σ' := mkS 65 [(4, .bool false)] []) (q := [True ∧ ((True ∧ True) ∧ ([.str x0] : List D) = [.str x0] ∧ CallSpec Try.prog 16 [.str x0] (.tup [.str v0.1, .int .i64 v0.2])), True ∧ ((True ∧ True) ∧ ([.str x0] : List D) = [.str x0] ∧ CallSpec Try.prog 17 [.str x0] (.tup [.str v1.1, .int .i64 v1.2])), True ∧ ((True ∧ (True ∧ True)) ∧ ([.str x0, .int .i64 x1] : List D) = [.str x0, .int .i64 x1] ∧ CallSpec Try.prog 18 [.str x0, .int .i64 x1] (.tup [.str v2.1, .int .i64 v2.2.1, .int .i64 v2.2.2])), True ∧ ((True ∧ (True ∧ True)) ∧ ([.str x0, .int .i64 x1] : List D) = [.str x0, .int .i64 x1] ∧ CallSpec Try.prog 19 [.str x0, .int .i64 x1] (.tup [.str v3.1, .int .i64 v3.2.1, .int .i64 v3.2.2])), True ∧ (True ∧ ([] : List D) = [] ∧ CallSpec Try.prog 11 [] (.bool v4)), (v4 == true) = true ∧ True, (v4 == true) = true ∧ True, (v4 == true) = true ∧ True, True ∧ (v4 = true), ((v0.1 == v1.1) == true) = true ∧ True, ((v0.1 == v1.1) == true) = true ∧ True, ((v0.1 == v1.1) == true) = true ∧ True, True ∧ ((v0.1 == v1.1) = true), ((v0.2 == v1.2) == true) = true ∧ True, ((v0.2 == v1.2) == true) = true ∧ True, ((v0.2 == v1.2) == true) = true ∧ True, True ∧ ((v0.2 == v1.2) = true), ((v2.1 == v3.1) == true) = false, ((v2.1 == v3.1) == true) = false, ((v2.1 == v3.1) == true) = false, True ∧ ((v2.1 == v3.1) = false), True, True, True]) (by kernel_rfl) ⟨⟨trivial, ⟨⟨trivial, trivial⟩, rfl, w16 e0⟩⟩, ⟨trivial, ⟨⟨trivial, trivial⟩, rfl, w17 e1⟩⟩, ⟨trivial, ⟨⟨trivial, ⟨trivial, trivial⟩⟩, rfl, w18 e2⟩⟩, ⟨trivial, ⟨⟨trivial, ⟨trivial, trivial⟩⟩, rfl, w19 e3⟩⟩, ⟨trivial, ⟨trivial, rfl, w11 e4⟩⟩, ⟨(gB h0 rfl), trivial⟩, ⟨(gB h0 rfl), trivial⟩, ⟨(gB h0 rfl), trivial⟩, ⟨trivial, h0⟩, ⟨(gB h1 rfl), trivial⟩, ⟨(gB h1 rfl), trivial⟩, ⟨(gB h1 rfl), trivial⟩, ⟨trivial, h1⟩, ⟨(gB h2 rfl), trivial⟩, ⟨(gB h2 rfl), trivial⟩, ⟨(gB h2 rfl), trivial⟩, ⟨trivial, h2⟩, gB h3 rfl, gB h3 rfl, gB h3 rfl, ⟨trivial, h3⟩, trivial, trivial, trivial, trivial⟩ ?_
          refine EvOk.ret ?_
          obtain rfl := someE h
          exact Den.Ends.mk (.inl rfl) (d := .bool false) (p := (True ∧ True) ∧ (True ∧ True)) (by kernel_rfl) ⟨⟨trivial, trivial⟩, ⟨trivial, trivial⟩⟩ (by kernel_rfl)
      · replace h := iteF h2 h
        refine At.adv [] [(0, { told := [], gs := [], keep := some ([0, 1], []) }), (1, { told := [(1, { ans := .val (.tup [.str v0.1, .int .i64 v0.2]), args := [.str x0] })], gs := [], keep := some ([0, 1, 5, 6], []) }), (2, { told := [(1, { ans := .val (.tup [.str v1.1, .int .i64 v1.2]), args := [.str x0] })], gs := [], keep := some ([0, 1, 5, 6, 7, 8], []) }), (3, { told := [(2, { ans := .val (.tup [.str v2.1, .int .i64 v2.2.1, .int .i64 v2.2.2]), args := [.str x0, .int .i64 x1] })], gs := [], keep := some ([0, 1, 5, 6, 7, 8, 9, 10, 11], []) }), (4, { told := [(2, { ans := .val (.tup [.str v3.1, .int .i64 v3.2.1, .int .i64 v3.2.2]), args := [.str x0, .int .i64 x1] })], gs := [], keep := some ([5, 6, 7, 8, 9, 10, 11, 12, 13, 14], []) }), (5, { told := [(0, { ans := .val (.bool v4), args := [] }), (5, { ans := .yes }), (10, { ans := .yes }), (15, { ans := .no })], gs := [(2, true), (3, true), (4, true), (7, true), (8, true), (9, true), (12, false), (13, false), (14, false)], keep := some ([4], []) })] 400 (ev := .ret) (σ' := mkS 65 [(4, .bool false)] []) (q := [True ∧ ((True ∧ True) ∧ ([.str x0] : List D) = [.str x0] ∧ CallSpec Try.prog 16 [.str x0] (.tup [.str v0.1, .int .i64 v0.2])), True ∧ ((True ∧ True) ∧ ([.str x0] : List D) = [.str x0] ∧ CallSpec Try.prog 17 [.str x0] (.tup [.str v1.1, .int .i64 v1.2])), True ∧ ((True ∧ (True ∧ True)) ∧ ([.str x0, .int .i64 x1] : List D) = [.str x0, .int .i64 x1] ∧ CallSpec Try.prog 18 [.str x0, .int .i64 x1] (.tup [.str v2.1, .int .i64 v2.2.1, .int .i64 v2.2.2])), True ∧ ((True ∧ (True ∧ True)) ∧ ([.str x0, .int .i64 x1] : List D) = [.str x0, .int .i64 x1] ∧ CallSpec Try.prog 19 [.str x0, .int .i64 x1] (.tup [.str v3.1, .int .i64 v3.2.1, .int .i64 v3.2.2])), True ∧ (True ∧ ([] : List D) = [] ∧ CallSpec Try.prog 11 [] (.bool v4)), (v4 == true) = true ∧ True, (v4 == true) = true ∧ True, (v4 == true) = true ∧ True, True ∧ (v4 = true), ((v0.1 == v1.1) == true) = true ∧ True, ((v0.1 == v1.1) == true) = true ∧ True, ((v0.1 == v1.1) == true) = true ∧ True, True ∧ ((v0.1 == v1.1) = true), ((v0.2 == v1.2) == true) = false, ((v0.2 == v1.2) == true) = false, ((v0.2 == v1.2) == true) = false, True ∧ ((v0.2 == v1.2) = false), True, True, True, True, True, True]) (by kernel_rfl) ⟨⟨trivial, ⟨⟨trivial, trivial⟩, rfl, w16 e0⟩⟩, ⟨trivial, ⟨⟨trivial, trivial⟩, rfl, w17 e1⟩⟩, ⟨trivial, ⟨⟨trivial, ⟨trivial, trivial⟩⟩, rfl, w18 e2⟩⟩, ⟨trivial, ⟨⟨trivial, ⟨trivial, trivial⟩⟩, rfl, w19 e3⟩⟩, ⟨trivial, ⟨trivial, rfl, w11 e4⟩⟩, ⟨(gB h0 rfl), trivial⟩, ⟨(gB h0 rfl), trivial⟩, ⟨(gB h0 rfl), trivial⟩, ⟨trivial, h0⟩, ⟨(gB h1 rfl), trivial⟩, ⟨(gB h1 rfl), trivial⟩, ⟨(gB h1 rfl), trivial⟩, ⟨trivial, h1⟩, gB h2 rfl, gB h2 rfl, gB h2 rfl, ⟨trivial, h2⟩, trivial, trivial, trivial, trivial, trivial, trivial, trivial⟩ ?_
        refine EvOk.ret ?_
        obtain rfl := someE h
        exact Den.Ends.mk (.inl rfl) (d := .bool false) (p := (True ∧ True) ∧ (True ∧ True)) (by kernel_rfl) ⟨⟨trivial, trivial⟩, ⟨trivial, trivial⟩⟩ (by kernel_rfl)
    · replace h := iteF h1 h
      refine At.adv [] [(0, { told := [], gs := [], keep := some ([0, 1], []) }), (1, { told := [(1, { ans := .val (.tup [.str v0.1, .int .i64 v0.2]), args := [.str x0] })], gs := [], keep := some ([0, 1, 5, 6], []) }), (2, { told := [(1, { ans := .val (.tup [.str v1.1, .int .i64 v1.2]), args := [.str x0] })], gs := [], keep := some ([0, 1, 5, 6, 7, 8], []) }), (3, { told := [(2, { ans := .val (.tup [.str v2.1, .int .i64 v2.2.1, .int .i64 v2.2.2]), args := [.str x0, .int .i64 x1] })], gs := [], keep := some ([0, 1, 5, 6, 7, 8, 9, 10, 11], []) }), (4, { told := [(2, { ans := .val (.tup [.str v3.1, .int .i64 v3.2.1, .int .i64 v3.2.2]), args := [.str x0, .int .i64 x1] })], gs := [], keep := some ([5, 6, 7, 8, 9, 10, 11, 12, 13, 14], []) }), (5, { told := [(0, { ans := .val (.bool v4), args := [] }), (5, { ans := .yes }), (10, { ans := .no })], gs := [(2, true), (3, true), (4, true), (7, false), (8, false), (9, false)], keep := some ([4], []) })] 400 (ev := .ret) (σ' := mkS 65 [(4, .bool false)] []) (q := [True ∧ ((True ∧ True) ∧ ([.str x0] : List D) = [.str x0] ∧ CallSpec Try.prog 16 [.str x0] (.tup [.str v0.1, .int .i64 v0.2])), True ∧ ((True ∧ True) ∧ ([.str x0] : List D) = [.str x0] ∧ CallSpec Try.prog 17 [.str x0] (.tup [.str v1.1, .int .i64 v1.2])), True ∧ ((True ∧ (True ∧ True)) ∧ ([.str x0, .int .i64 x1] : List D) = [.str x0, .int .i64 x1] ∧ CallSpec Try.prog 18 [.str x0, .int .i64 x1] (.tup [.str v2.1, .int .i64 v2.2.1, .int .i64 v2.2.2])), True ∧ ((True ∧ (True ∧ True)) ∧ ([.str x0, .int .i64 x1] : List D) = [.str x0, .int .i64 x1] ∧ CallSpec Try.prog 19 [.str x0, .int .i64 x1] (.tup [.str v3.1, .int .i64 v3.2.1, .int .i64 v3.2.2])), True ∧ (True ∧ ([] : List D) = [] ∧ CallSpec Try.prog 11 [] (.bool v4)), (v4 == true) = true ∧ True, (v4 == true) = true ∧ True, (v4 == true) = true ∧ True, True ∧ (v4 = true), ((v0.1 == v1.1) == true) = false, ((v0.1 == v1.1) == true) = false, ((v0.1 == v1.1) == true) = false, True ∧ ((v0.1 == v1.1) = false), True, True, True, True, True, True, True, True, True]) (by kernel_rfl) ⟨⟨trivial, ⟨⟨trivial, trivial⟩, rfl, w16 e0⟩⟩, ⟨trivial, ⟨⟨trivial, trivial⟩, rfl, w17 e1⟩⟩, ⟨trivial, ⟨⟨trivial, ⟨trivial, trivial⟩⟩, rfl, w18 e2⟩⟩, ⟨trivial, ⟨⟨trivial, ⟨trivial, trivial⟩⟩, rfl, w19 e3⟩⟩, ⟨trivial, ⟨trivial, rfl, w11 e4⟩⟩, ⟨(gB h0 rfl), trivial⟩, ⟨(gB h0 rfl), trivial⟩, ⟨(gB h0 rfl), trivial⟩, ⟨trivial, h0⟩, gB h1 rfl, gB h1 rfl, gB h1 rfl, ⟨trivial, h1⟩, trivial, trivial, trivial, trivial, trivial, trivial, trivial, trivial, trivial, trivial⟩ ?_
      refine EvOk.ret ?_
      obtain rfl := someE h
      exact Den.Ends.mk (.inl rfl) (d := .bool false) (p := (True ∧ True) ∧ (True ∧ True)) (by kernel_rfl) ⟨⟨trivial, trivial⟩, ⟨trivial, trivial⟩⟩ (by kernel_rfl)
  · replace h := iteF h0 h
    refine At.adv [] [(0, { told := [], gs := [], keep := some ([0, 1], []) }), (1, { told := [(1, { ans := .val (.tup [.str v0.1, .int .i64 v0.2]), args := [.str x0] })], gs := [], keep := some ([0, 1, 5, 6], []) }), (2, { told := [(1, { ans := .val (.tup [.str v1.1, .int .i64 v1.2]), args := [.str x0] })], gs := [], keep := some ([0, 1, 5, 6, 7, 8], []) }), (3, { told := [(2, { ans := .val (.tup [.str v2.1, .int .i64 v2.2.1, .int .i64 v2.2.2]), args := [.str x0, .int .i64 x1] })], gs := [], keep := some ([0, 1, 5, 6, 7, 8, 9, 10, 11], []) }), (4, { told := [(2, { ans := .val (.tup [.str v3.1, .int .i64 v3.2.1, .int .i64 v3.2.2]), args := [.str x0, .int .i64 x1] })], gs := [], keep := some ([5, 6, 7, 8, 9, 10, 11, 12, 13, 14], []) }), (5, { told := [(0, { ans := .val (.bool v4), args := [] }), (5, { ans := .no })], gs := [(2, false), (3, false), (4, false)], keep := some ([4], []) })] 400 (ev := .ret) (σ' := mkS 65 [(4, .bool false)] []) (q := [True ∧ ((True ∧ True) ∧ ([.str x0] : List D) = [.str x0] ∧ CallSpec Try.prog 16 [.str x0] (.tup [.str v0.1, .int .i64 v0.2])), True ∧ ((True ∧ True) ∧ ([.str x0] : List D) = [.str x0] ∧ CallSpec Try.prog 17 [.str x0] (.tup [.str v1.1, .int .i64 v1.2])), True ∧ ((True ∧ (True ∧ True)) ∧ ([.str x0, .int .i64 x1] : List D) = [.str x0, .int .i64 x1] ∧ CallSpec Try.prog 18 [.str x0, .int .i64 x1] (.tup [.str v2.1, .int .i64 v2.2.1, .int .i64 v2.2.2])), True ∧ ((True ∧ (True ∧ True)) ∧ ([.str x0, .int .i64 x1] : List D) = [.str x0, .int .i64 x1] ∧ CallSpec Try.prog 19 [.str x0, .int .i64 x1] (.tup [.str v3.1, .int .i64 v3.2.1, .int .i64 v3.2.2])), True ∧ (True ∧ ([] : List D) = [] ∧ CallSpec Try.prog 11 [] (.bool v4)), (v4 == true) = false, (v4 == true) = false, (v4 == true) = false, True ∧ (v4 = false), True, True, True, True, True, True, True, True, True, True, True, True]) (by kernel_rfl) ⟨⟨trivial, ⟨⟨trivial, trivial⟩, rfl, w16 e0⟩⟩, ⟨trivial, ⟨⟨trivial, trivial⟩, rfl, w17 e1⟩⟩, ⟨trivial, ⟨⟨trivial, ⟨trivial, trivial⟩⟩, rfl, w18 e2⟩⟩, ⟨trivial, ⟨⟨trivial, ⟨trivial, trivial⟩⟩, rfl, w19 e3⟩⟩, ⟨trivial, ⟨trivial, rfl, w11 e4⟩⟩, gB h0 rfl, gB h0 rfl, gB h0 rfl, ⟨trivial, h0⟩, trivial, trivial, trivial, trivial, trivial, trivial, trivial, trivial, trivial, trivial, trivial, trivial, trivial⟩ ?_
    refine EvOk.ret ?_
    obtain rfl := someE h
    exact Den.Ends.mk (.inl rfl) (d := .bool false) (p := (True ∧ True) ∧ (True ∧ True)) (by kernel_rfl) ⟨⟨trivial, trivial⟩, ⟨trivial, trivial⟩⟩ (by kernel_rfl)
theorem w7 {x0 : List UInt8} {x1 : Int} {r : Bool} (h : m_armaturelaw02_OctetStringReference x0 x1 = some r) : CallSpec Try.prog 7 [.str x0, .int .i64 x1] (.bool r) :=
  CallSpec.at2 b7 (n := 65) (l := [(0, .str x0), (1, .int .i64 x1)]) (by kernel_rfl) (by kernel_rfl) (by kernel_rfl) (by kernel_rfl) (by kernel_rfl) (Nat.le_of_ble_eq_true (by kernel_rfl)) (fun Γ => we7 x0 x1 r h Γ)

/-! ### armature armaturelaw02.OctetStringRoundTrip -/
noncomputable def b8 : Code := Try.f8.body.getD .skip
noncomputable def c8x0 : Code := sub1 b8
noncomputable def c8x1 : Code := sub1 c8x0
noncomputable def c8x2 : Code := sub1 c8x1
noncomputable def c8x3 : Code := sub1 c8x2
noncomputable def c8x4 : Code := sub0 c8x3
noncomputable def c8x5 : Code := sub1 c8x4
noncomputable def c8x6 : Code := sub0 c8x5
noncomputable def c8x7 : Code := sub1 c8x5
noncomputable def c8x8 : Code := sub1 c8x3
noncomputable def c8x9 : Code := sub0 c8x8
noncomputable def c8x10 : Code := sub0 c8x9
noncomputable def c8x11 : Code := sub1 c8x9
noncomputable def c8x12 : Code := sub1 c8x8
noncomputable def c8x13 : Code := sub0 c8x1
noncomputable def c8x14 : Code := sub1 c8x13
noncomputable def c8x15 : Code := sub0 c8x14
noncomputable def c8x16 : Code := sub1 c8x14
noncomputable def c8x17 : Code := sub0 c8x11
noncomputable def c8x18 : Code := sub1 c8x11
noncomputable def c8x19 : Code := sub0 c8x12
noncomputable def c8x20 : Code := sub1 c8x12
def j8x2 (v0 : (List UInt8) × Int) (x3 : Int) : Option (Bool) :=
  (sub v0.1 0 x3).bind fun v8 =>
  (m_octet_GetString v8 0).bind fun v9 =>
  (m_armaturelaw02_awake).bind fun v10 =>
  if v10 = true then (some (v9.2.2 == 3)) else
  (some false)
def j8x1 (v0 : (List UInt8) × Int) (x3 : Int) : Option (Bool) :=
  if (decide (x3 < 0)) = true then ((m_armaturelaw02_awake).bind fun v6 =>
    some v6) else
  (if (decide (x3 ≥ (v0.1.length : Int))) = true then
    ((m_armaturelaw02_awake).bind fun v7 =>
    some v7) else
  ((j8x2 v0 x3) ))
def m_armaturelaw02_OctetStringRoundTrip (x0 : List UInt8) (x1 : List UInt8) (x2 : List UInt8) (x3 : Int) : Option (Bool) :=
  (m_octet_PutString x0).bind fun v0 =>
  if (v0.2 != 0) = true then
    ((m_armaturelaw02_awake).bind fun v1 =>
    if v1 = true then (if (v0.2 == 8) = true then (some (decide ((x0.length : Int) > 65535))) else
    (some false)) else
    (some false)) else
  ((catK x1 v0.1).bind fun v2 =>
    (catK v2 x2).bind fun v3 =>
    (m_octet_GetString v3 (x1.length : Int)).bind fun v4 =>
    if (!(v4.1 == x0)) = true then (some false) else
    ((some (IntKind.wrap .i64 ((x1.length : Int) + (v0.1.length : Int)))).bind fun v5 =>
    if (v4.2.1 != v5) = true then (some false) else
    (if (v4.2.2 != 0) = true then
      (some false) else
    ((j8x1 v0 x3) ))))
theorem wj8x2 (v0 : (List UInt8) × Int) (x3 : Int) (r : Bool) (h : (j8x2 v0 x3)  = some r) (Γ : Ctx) : EvOk Try.prog Γ (Den.Ends Try.prog Try.f8 (.bool r)) (mkS 84 [(3, .int .i64 x3), (9, .str v0.1)] []) (.stop c8x19 [.seq c8x20]) := by
  refine EvOk.stop ?_
  obtain ⟨v8, e8, h⟩ := bindE h
  obtain ⟨v9, e9, h⟩ := bindE h
  obtain ⟨v10, e10, h⟩ := bindE h
  rcases Bool.eq_false_or_eq_true v10 with h8 | h8
  · replace h := iteT h8 h
    refine At.adv [] [(9, { told := [(2, { ans := .val (.str v8) }), (3, { ans := .val (.tup [.str v9.1, .int .i64 v9.2.1, .int .i64 v9.2.2]), args := [.str v8, .int .i64 0] })], gs := [], keep := some ([16], []) }), (10, { told := [(0, { ans := .val (.bool v10), args := [] }), (4, { ans := .yes })], gs := [(2, true), (3, true)], keep := some ([8], []) })] 400 (ev := .ret) (σ' := mkS 84 [(8, .bool (v9.2.2 == 3))] []) (q := [True ∧ (sub v0.1 0 x3 = some v8), True ∧ ((True ∧ (True ∧ True)) ∧ ([.str v8, .int .i64 0] : List D) = [.str v8, .int .i64 0] ∧ CallSpec Try.prog 18 [.str v8, .int .i64 0] (.tup [.str v9.1, .int .i64 v9.2.1, .int .i64 v9.2.2])), True ∧ (True ∧ ([] : List D) = [] ∧ CallSpec Try.prog 11 [] (.bool v10)), (v10 == true) = true ∧ True, (v10 == true) = true ∧ True, True ∧ (v10 = true)]) (by kernel_rfl) ⟨⟨trivial, e8⟩, ⟨trivial, ⟨⟨trivial, ⟨trivial, trivial⟩⟩, rfl, w18 e9⟩⟩, ⟨trivial, ⟨trivial, rfl, w11 e10⟩⟩, ⟨(gB h8 rfl), trivial⟩, ⟨(gB h8 rfl), trivial⟩, ⟨trivial, h8⟩, trivial⟩ ?_
    refine EvOk.ret ?_
    obtain rfl := someE h
    exact Den.Ends.mk (.inl rfl) (d := .bool (v9.2.2 == 3)) (p := (True ∧ True) ∧ (True ∧ True)) (by kernel_rfl) ⟨⟨trivial, trivial⟩, ⟨trivial, trivial⟩⟩ (by kernel_rfl)
  · replace h := iteF h8 h
    refine At.adv [] [(9, { told := [(2, { ans := .val (.str v8) }), (3, { ans := .val (.tup [.str v9.1, .int .i64 v9.2.1, .int .i64 v9.2.2]), args := [.str v8, .int .i64 0] })], gs := [], keep := some ([16], []) }), (10, { told := [(0, { ans := .val (.bool v10), args := [] }), (4, { ans := .no })], gs := [(2, false), (3, false)], keep := some ([8], []) })] 400 (ev := .ret) (σ' := mkS 84 [(8, .bool false)] []) (q := [True ∧ (sub v0.1 0 x3 = some v8), True ∧ ((True ∧ (True ∧ True)) ∧ ([.str v8, .int .i64 0] : List D) = [.str v8, .int .i64 0] ∧ CallSpec Try.prog 18 [.str v8, .int .i64 0] (.tup [.str v9.1, .int .i64 v9.2.1, .int .i64 v9.2.2])), True ∧ (True ∧ ([] : List D) = [] ∧ CallSpec Try.prog 11 [] (.bool v10)), (v10 == true) = false, (v10 == true) = false, True ∧ (v10 = false)]) (by kernel_rfl) ⟨⟨trivial, e8⟩, ⟨trivial, ⟨⟨trivial, ⟨trivial, trivial⟩⟩, rfl, w18 e9⟩⟩, ⟨trivial, ⟨trivial, rfl, w11 e10⟩⟩, gB h8 rfl, gB h8 rfl, ⟨trivial, h8⟩, trivial⟩ ?_
    refine EvOk.ret ?_
    obtain rfl := someE h
    exact Den.Ends.mk (.inl rfl) (d := .bool false) (p := (True ∧ True) ∧ (True ∧ True)) (by kernel_rfl) ⟨⟨trivial, trivial⟩, ⟨trivial, trivial⟩⟩ (by kernel_rfl)
theorem wj8x1 (v0 : (List UInt8) × Int) (x3 : Int) (r : Bool) (h : (j8x1 v0 x3)  = some r) (Γ : Ctx) : EvOk Try.prog Γ (Den.Ends Try.prog Try.f8 (.bool r)) (mkS 84 [(3, .int .i64 x3), (9, .str v0.1)] []) (.stop c8x10 [.seq c8x11, .seq c8x12]) := by
  refine EvOk.stop ?_
  rcases Bool.eq_false_or_eq_true (decide (x3 < 0)) with h6 | h6
  · replace h := iteT h6 h
    refine At.adv [] [(7, { told := [(7, { ans := .yes })], gs := [(3, false), (4, false), (5, false), (6, false)], keep := some ([3, 9, 69], []) })] 400 (ev := .cond true c8x17 c8x18 [.seq c8x12]) (σ' := mkS 84 [(3, .int .i64 x3), (9, .str v0.1), (69, .bool true)] []) (q := [((decide (x3 < 0)) == false) = false, ((decide (x3 < 0)) == false) = false, ((decide (x3 < 0)) == false) = false, ((decide (x3 < 0)) == false) = false, True ∧ ((decide (x3 < 0)) = true)]) (by kernel_rfl) ⟨gB h6 rfl, gB h6 rfl, gB h6 rfl, gB h6 rfl, ⟨trivial, h6⟩, trivial⟩ ?_
    refine EvOk.cond (fun _ => ?_) (fun hb => Bool.noConfusion hb)
    refine At.gc [] [] (n := 84) (l := []) (bl := []) (by kernel_rfl) ?_
    obtain ⟨v6, e6, h⟩ := bindE h
    refine At.adv [] [(8, { told := [(0, { ans := .val (.bool v6), args := [] })], gs := [], keep := some ([8], []) })] 400 (ev := .ret) (σ' := mkS 84 [(8, .bool v6)] []) (q := [True ∧ (True ∧ ([] : List D) = [] ∧ CallSpec Try.prog 11 [] (.bool v6))]) (by kernel_rfl) ⟨⟨trivial, ⟨trivial, rfl, w11 e6⟩⟩, trivial⟩ ?_
    refine EvOk.ret ?_
    obtain rfl := someE h
    exact Den.Ends.mk (.inl rfl) (d := .bool v6) (p := (True ∧ True) ∧ (True ∧ True)) (by kernel_rfl) ⟨⟨trivial, trivial⟩, ⟨trivial, trivial⟩⟩ (by kernel_rfl)
  · replace h := iteF h6 h
    refine At.adv [] [(7, { told := [(7, { ans := .no })], gs := [(3, true), (4, true), (5, true), (6, true)], keep := some ([3, 9, 69], []) })] 400 (ev := .cond (decide (x3 ≥ (v0.1.length : Int))) c8x17 c8x18 [.seq c8x12]) (σ' := mkS 84 [(3, .int .i64 x3), (9, .str v0.1), (69, .bool (decide (x3 ≥ (v0.1.length : Int))))] []) (q := [((decide (x3 < 0)) == false) = true ∧ True, ((decide (x3 < 0)) == false) = true ∧ True, ((decide (x3 < 0)) == false) = true ∧ True, ((decide (x3 < 0)) == false) = true ∧ True, True ∧ ((decide (x3 < 0)) = false)]) (by kernel_rfl) ⟨⟨(gB h6 rfl), trivial⟩, ⟨(gB h6 rfl), trivial⟩, ⟨(gB h6 rfl), trivial⟩, ⟨(gB h6 rfl), trivial⟩, ⟨trivial, h6⟩, trivial⟩ ?_
    refine EvOk.cond (fun h7 => ?_) (fun h7 => ?_)
    · replace h := iteT h7 h
      refine At.gc [] [] (n := 84) (l := []) (bl := []) (by kernel_rfl) ?_
      obtain ⟨v7, e7, h⟩ := bindE h
      refine At.adv [] [(8, { told := [(0, { ans := .val (.bool v7), args := [] })], gs := [], keep := some ([8], []) })] 400 (ev := .ret) (σ' := mkS 84 [(8, .bool v7)] []) (q := [True ∧ (True ∧ ([] : List D) = [] ∧ CallSpec Try.prog 11 [] (.bool v7))]) (by kernel_rfl) ⟨⟨trivial, ⟨trivial, rfl, w11 e7⟩⟩, trivial⟩ ?_
      refine EvOk.ret ?_
      obtain rfl := someE h
      exact Den.Ends.mk (.inl rfl) (d := .bool v7) (p := (True ∧ True) ∧ (True ∧ True)) (by kernel_rfl) ⟨⟨trivial, trivial⟩, ⟨trivial, trivial⟩⟩ (by kernel_rfl)
    · replace h := iteF h7 h
      refine At.gc [3, 9] [] (n := 84) (l := [(3, .int .i64 x3), (9, .str v0.1)]) (bl := []) (by kernel_rfl) ?_
      refine At.adv [9] [] 400 (ev := .stop c8x19 [.seq c8x20]) (σ' := mkS 84 [(3, .int .i64 x3), (9, .str v0.1)] []) (q := []) (by kernel_rfl) trivial ?_
      exact (wj8x2 v0 x3)  r h Γ
theorem we8 (x0 : List UInt8) (x1 : List UInt8) (x2 : List UInt8) (x3 : Int) (r : Bool) (h : m_armaturelaw02_OctetStringRoundTrip x0 x1 x2 x3 = some r) (Γ : Ctx) : At Try.prog Γ b8 [] (Den.Ends Try.prog Try.f8 (.bool r)) (mkS 84 [(0, .str x0), (1, .str x1), (2, .str x2), (3, .int .i64 x3)] []) := by
  obtain ⟨v0, e0, h⟩ := bindE h
  refine At.adv [] [(0, { told := [], gs := [], keep := some ([0, 1, 2, 3], []) }), (1, { told := [(1, { ans := .val (.tup [.str v0.1, .int .i64 v0.2]), args := [.str x0] })], gs := [], keep := some ([0, 1, 2, 3, 9, 10], []) }), (2, { told := [], gs := [], keep := some ([0, 1, 2, 3, 9, 10, 23], []) })] 400 (ev := .cond (v0.2 != 0) c8x15 c8x16 [.seq c8x2]) (σ' := mkS 84 [(0, .str x0), (1, .str x1), (2, .str x2), (3, .int .i64 x3), (9, .str v0.1), (10, .int .i64 v0.2), (23, .bool (v0.2 != 0))] []) (q := [True ∧ ((True ∧ True) ∧ ([.str x0] : List D) = [.str x0] ∧ CallSpec Try.prog 16 [.str x0] (.tup [.str v0.1, .int .i64 v0.2]))]) (by kernel_rfl) ⟨⟨trivial, ⟨⟨trivial, trivial⟩, rfl, w16 e0⟩⟩, trivial⟩ ?_
  refine EvOk.cond (fun h0 => ?_) (fun h0 => ?_)
  · replace h := iteT h0 h
    refine At.gc [0, 10] [] (n := 84) (l := [(0, .str x0), (10, .int .i64 v0.2)]) (bl := []) (by kernel_rfl) ?_
    obtain ⟨v1, e1, h⟩ := bindE h
    rcases Bool.eq_false_or_eq_true v1 with h1 | h1
    · replace h := iteT h1 h
      rcases Bool.eq_false_or_eq_true (v0.2 == 8) with h2 | h2
      · replace h := iteT h2 h
        refine At.adv [] [(3, { told := [(0, { ans := .val (.bool v1), args := [] }), (4, { ans := .yes }), (9, { ans := .yes })], gs := [(2, true), (3, true), (6, true), (7, true), (8, true)], keep := some ([8], []) })] 400 (ev := .ret) (σ' := mkS 84 [(8, .bool (decide ((x0.length : Int) > 65535)))] []) (q := [True ∧ (True ∧ ([] : List D) = [] ∧ CallSpec Try.prog 11 [] (.bool v1)), (v1 == true) = true ∧ True, (v1 == true) = true ∧ True, True ∧ (v1 = true), ((v0.2 == 8) == true) = true ∧ True, ((v0.2 == 8) == true) = true ∧ True, ((v0.2 == 8) == true) = true ∧ True, True ∧ ((v0.2 == 8) = true)]) (by kernel_rfl) ⟨⟨trivial, ⟨trivial, rfl, w11 e1⟩⟩, ⟨(gB h1 rfl), trivial⟩, ⟨(gB h1 rfl), trivial⟩, ⟨trivial, h1⟩, ⟨(gB h2 rfl), trivial⟩, ⟨(gB h2 rfl), trivial⟩, ⟨(gB h2 rfl), trivial⟩, ⟨trivial, h2⟩, trivial⟩ ?_
        refine EvOk.ret ?_
        obtain rfl := someE h
        exact Den.Ends.mk (.inl rfl) (d := .bool (decide ((x0.length : Int) > 65535))) (p := (True ∧ True) ∧ (True ∧ True)) (by kernel_rfl) ⟨⟨trivial, trivial⟩, ⟨trivial, trivial⟩⟩ (by kernel_rfl)
      · replace h := iteF h2 h
        refine At.adv [] [(3, { told := [(0, { ans := .val (.bool v1), args := [] }), (4, { ans := .yes }), (9, { ans := .no })], gs := [(2, true), (3, true), (6, false), (7, false), (8, false)], keep := some ([8], []) })] 400 (ev := .ret) (σ' := mkS 84 [(8, .bool false)] []) (q := [True ∧ (True ∧ ([] : List D) = [] ∧ CallSpec Try.prog 11 [] (.bool v1)), (v1 == true) = true ∧ True, (v1 == true) = true ∧ True, True ∧ (v1 = true), ((v0.2 == 8) == true) = false, ((v0.2 == 8) == true) = false, ((v0.2 == 8) == true) = false, True ∧ ((v0.2 == 8) = false)]) (by kernel_rfl) ⟨⟨trivial, ⟨trivial, rfl, w11 e1⟩⟩, ⟨(gB h1 rfl), trivial⟩, ⟨(gB h1 rfl), trivial⟩, ⟨trivial, h1⟩, gB h2 rfl, gB h2 rfl, gB h2 rfl, ⟨trivial, h2⟩, trivial⟩ ?_
        refine EvOk.ret ?_
        obtain rfl := someE h
        exact Den.Ends.mk (.inl rfl) (d := .bool false) (p := (True ∧ True) ∧ (True ∧ True)) (by kernel_rfl) ⟨⟨trivial, trivial⟩, ⟨trivial, trivial⟩⟩ (by kernel_rfl)
    · replace h := iteF h1 h
      refine At.adv [] [(3, { told := [(0, { ans := .val (.bool v1), args := [] }), (4, { ans := .no })], gs := [(2, false), (3, false)], keep := some ([8], []) })] 400 (ev := .ret) (σ' := mkS 84 [(8, .bool false)] []) (q := [True ∧ (True ∧ ([] : List D) = [] ∧ CallSpec Try.prog 11 [] (.bool v1)), (v1 == true) = false, (v1 == true) = false, True ∧ (v1 = false), True, True, True]) (by kernel_rfl) ⟨⟨trivial, ⟨trivial, rfl, w11 e1⟩⟩, gB h1 rfl, gB h1 rfl, ⟨trivial, h1⟩, trivial, trivial, trivial, trivial⟩ ?_
      refine EvOk.ret ?_
      obtain rfl := someE h
      exact Den.Ends.mk (.inl rfl) (d := .bool false) (p := (True ∧ True) ∧ (True ∧ True)) (by kernel_rfl) ⟨⟨trivial, trivial⟩, ⟨trivial, trivial⟩⟩ (by kernel_rfl)
  · replace h := iteF h0 h
    refine At.gc [0, 1, 2, 3, 9] [] (n := 84) (l := [(0, .str x0), (1, .str x1), (2, .str x2), (3, .int .i64 x3), (9, .str v0.1)]) (bl := []) (by kernel_rfl) ?_
    obtain ⟨v2, e2, h⟩ := bindE h
    obtain ⟨v3, e3, h⟩ := bindE h
    obtain ⟨v4, e4, h⟩ := bindE h
    rcases Bool.eq_false_or_eq_true (!(v4.1 == x0)) with h3 | h3
    · replace h := iteT h3 h
      refine At.adv [] [(4, { told := [(2, { ans := .val (.str v2) }), (4, { ans := .val (.str v3) }), (7, { ans := .val (.tup [.str v4.1, .int .i64 v4.2.1, .int .i64 v4.2.2]), args := [.str v3, .int .i64 (x1.length : Int)] })], gs := [], keep := some ([0, 1, 3, 9, 11, 12, 13], []) }), (5, { told := [(11, { ans := .yes })], gs := [(4, false), (5, false), (6, false), (7, false), (8, false), (9, false), (10, false)], keep := some ([3, 9, 61], []) })] 400 (ev := .cond true c8x6 c8x7 [.seq c8x8]) (σ' := mkS 84 [(3, .int .i64 x3), (9, .str v0.1), (61, .bool true)] []) (q := [True ∧ (x1.length + v0.1.length ≤ 9223372036854775807 ∧ x1 ++ v0.1 = v2), True ∧ (v2.length + x2.length ≤ 9223372036854775807 ∧ v2 ++ x2 = v3), True ∧ ((True ∧ (True ∧ True)) ∧ ([.str v3, .int .i64 (x1.length : Int)] : List D) = [.str v3, .int .i64 (x1.length : Int)] ∧ CallSpec Try.prog 18 [.str v3, .int .i64 (x1.length : Int)] (.tup [.str v4.1, .int .i64 v4.2.1, .int .i64 v4.2.2])), ((!(v4.1 == x0)) == false) = false, ((!(v4.1 == x0)) == false) = false, ((!(v4.1 == x0)) == false) = false, ((!(v4.1 == x0)) == false) = false, ((!(v4.1 == x0)) == false) = false, ((!(v4.1 == x0)) == false) = false, ((!(v4.1 == x0)) == false) = false, True ∧ ((!(v4.1 == x0)) = true), True, True]) (by kernel_rfl) ⟨⟨trivial, catK_spec e2⟩, ⟨trivial, catK_spec e3⟩, ⟨trivial, ⟨⟨trivial, ⟨trivial, trivial⟩⟩, rfl, w18 e4⟩⟩, gB h3 rfl, gB h3 rfl, gB h3 rfl, gB h3 rfl, gB h3 rfl, gB h3 rfl, gB h3 rfl, ⟨trivial, h3⟩, trivial, trivial, trivial⟩ ?_
      refine EvOk.cond (fun _ => ?_) (fun hb => Bool.noConfusion hb)
      refine At.gc [] [] (n := 84) (l := []) (bl := []) (by kernel_rfl) ?_
      refine At.adv [] [(6, { told := [], gs := [], keep := some ([8], []) })] 400 (ev := .ret) (σ' := mkS 84 [(8, .bool false)] []) (q := []) (by kernel_rfl) trivial ?_
      refine EvOk.ret ?_
      obtain rfl := someE h
      exact Den.Ends.mk (.inl rfl) (d := .bool false) (p := (True ∧ True) ∧ (True ∧ True)) (by kernel_rfl) ⟨⟨trivial, trivial⟩, ⟨trivial, trivial⟩⟩ (by kernel_rfl)
    · replace h := iteF h3 h
      obtain ⟨v5, e5, h⟩ := bindE h
      rcases Bool.eq_false_or_eq_true (v4.2.1 != v5) with h4 | h4
      · replace h := iteT h4 h
        refine At.adv [] [(4, { told := [(2, { ans := .val (.str v2) }), (4, { ans := .val (.str v3) }), (7, { ans := .val (.tup [.str v4.1, .int .i64 v4.2.1, .int .i64 v4.2.2]), args := [.str v3, .int .i64 (x1.length : Int)] })], gs := [], keep := some ([0, 1, 3, 9, 11, 12, 13], []) }), (5, { told := [(9, { ans := .val (.int .i64 v5) }), (11, { ans := .no }), (15, { ans := .yes })], gs := [(4, true), (5, true), (6, true), (7, true), (8, true), (9, true), (10, true), (13, false), (14, false)], keep := some ([3, 9, 61], []) })] 400 (ev := .cond true c8x6 c8x7 [.seq c8x8]) (σ' := mkS 84 [(3, .int .i64 x3), (9, .str v0.1), (61, .bool true)] []) (q := [True ∧ (x1.length + v0.1.length ≤ 9223372036854775807 ∧ x1 ++ v0.1 = v2), True ∧ (v2.length + x2.length ≤ 9223372036854775807 ∧ v2 ++ x2 = v3), True ∧ ((True ∧ (True ∧ True)) ∧ ([.str v3, .int .i64 (x1.length : Int)] : List D) = [.str v3, .int .i64 (x1.length : Int)] ∧ CallSpec Try.prog 18 [.str v3, .int .i64 (x1.length : Int)] (.tup [.str v4.1, .int .i64 v4.2.1, .int .i64 v4.2.2])), ((!(v4.1 == x0)) == false) = true ∧ True, ((!(v4.1 == x0)) == false) = true ∧ True, ((!(v4.1 == x0)) == false) = true ∧ True, ((!(v4.1 == x0)) == false) = true ∧ True, ((!(v4.1 == x0)) == false) = true ∧ True, ((!(v4.1 == x0)) == false) = true ∧ (IntKind.wrap .i64 ((x1.length : Int) + (v0.1.length : Int)) = v5), ((!(v4.1 == x0)) == false) = true ∧ True, True ∧ ((!(v4.1 == x0)) = false), ((v4.2.1 != v5) == false) = false, ((v4.2.1 != v5) == false) = false, True ∧ ((v4.2.1 != v5) = true)]) (by kernel_rfl) ⟨⟨trivial, catK_spec e2⟩, ⟨trivial, catK_spec e3⟩, ⟨trivial, ⟨⟨trivial, ⟨trivial, trivial⟩⟩, rfl, w18 e4⟩⟩, ⟨(gB h3 rfl), trivial⟩, ⟨(gB h3 rfl), trivial⟩, ⟨(gB h3 rfl), trivial⟩, ⟨(gB h3 rfl), trivial⟩, ⟨(gB h3 rfl), trivial⟩, ⟨(gB h3 rfl), someE e5⟩, ⟨(gB h3 rfl), trivial⟩, ⟨trivial, h3⟩, gB h4 rfl, gB h4 rfl, ⟨trivial, h4⟩, trivial⟩ ?_
        refine EvOk.cond (fun _ => ?_) (fun hb => Bool.noConfusion hb)
        refine At.gc [] [] (n := 84) (l := []) (bl := []) (by kernel_rfl) ?_
        refine At.adv [] [(6, { told := [], gs := [], keep := some ([8], []) })] 400 (ev := .ret) (σ' := mkS 84 [(8, .bool false)] []) (q := []) (by kernel_rfl) trivial ?_
        refine EvOk.ret ?_
        obtain rfl := someE h
        exact Den.Ends.mk (.inl rfl) (d := .bool false) (p := (True ∧ True) ∧ (True ∧ True)) (by kernel_rfl) ⟨⟨trivial, trivial⟩, ⟨trivial, trivial⟩⟩ (by kernel_rfl)
      · replace h := iteF h4 h
        refine At.adv [] [(4, { told := [(2, { ans := .val (.str v2) }), (4, { ans := .val (.str v3) }), (7, { ans := .val (.tup [.str v4.1, .int .i64 v4.2.1, .int .i64 v4.2.2]), args := [.str v3, .int .i64 (x1.length : Int)] })], gs := [], keep := some ([0, 1, 3, 9, 11, 12, 13], []) }), (5, { told := [(9, { ans := .val (.int .i64 v5) }), (11, { ans := .no }), (15, { ans := .no })], gs := [(4, true), (5, true), (6, true), (7, true), (8, true), (9, true), (10, true), (13, true), (14, true)], keep := some ([3, 9, 61], []) })] 400 (ev := .cond (v4.2.2 != 0) c8x6 c8x7 [.seq c8x8]) (σ' := mkS 84 [(3, .int .i64 x3), (9, .str v0.1), (61, .bool (v4.2.2 != 0))] []) (q := [True ∧ (x1.length + v0.1.length ≤ 9223372036854775807 ∧ x1 ++ v0.1 = v2), True ∧ (v2.length + x2.length ≤ 9223372036854775807 ∧ v2 ++ x2 = v3), True ∧ ((True ∧ (True ∧ True)) ∧ ([.str v3, .int .i64 (x1.length : Int)] : List D) = [.str v3, .int .i64 (x1.length : Int)] ∧ CallSpec Try.prog 18 [.str v3, .int .i64 (x1.length : Int)] (.tup [.str v4.1, .int .i64 v4.2.1, .int .i64 v4.2.2])), ((!(v4.1 == x0)) == false) = true ∧ True, ((!(v4.1 == x0)) == false) = true ∧ True, ((!(v4.1 == x0)) == false) = true ∧ True, ((!(v4.1 == x0)) == false) = true ∧ True, ((!(v4.1 == x0)) == false) = true ∧ True, ((!(v4.1 == x0)) == false) = true ∧ (IntKind.wrap .i64 ((x1.length : Int) + (v0.1.length : Int)) = v5), ((!(v4.1 == x0)) == false) = true ∧ True, True ∧ ((!(v4.1 == x0)) = false), ((v4.2.1 != v5) == false) = true ∧ True, ((v4.2.1 != v5) == false) = true ∧ True, True ∧ ((v4.2.1 != v5) = false)]) (by kernel_rfl) ⟨⟨trivial, catK_spec e2⟩, ⟨trivial, catK_spec e3⟩, ⟨trivial, ⟨⟨trivial, ⟨trivial, trivial⟩⟩, rfl, w18 e4⟩⟩, ⟨(gB h3 rfl), trivial⟩, ⟨(gB h3 rfl), trivial⟩, ⟨(gB h3 rfl), trivial⟩, ⟨(gB h3 rfl), trivial⟩, ⟨(gB h3 rfl), trivial⟩, ⟨(gB h3 rfl), someE e5⟩, ⟨(gB h3 rfl), trivial⟩, ⟨trivial, h3⟩, ⟨(gB h4 rfl), trivial⟩, ⟨(gB h4 rfl), trivial⟩, ⟨trivial, h4⟩, trivial⟩ ?_
        refine EvOk.cond (fun h5 => ?_) (fun h5 => ?_)
        · replace h := iteT h5 h
          refine At.gc [] [] (n := 84) (l := []) (bl := []) (by kernel_rfl) ?_
          refine At.adv [] [(6, { told := [], gs := [], keep := some ([8], []) })] 400 (ev := .ret) (σ' := mkS 84 [(8, .bool false)] []) (q := []) (by kernel_rfl) trivial ?_
          refine EvOk.ret ?_
          obtain rfl := someE h
          exact Den.Ends.mk (.inl rfl) (d := .bool false) (p := (True ∧ True) ∧ (True ∧ True)) (by kernel_rfl) ⟨⟨trivial, trivial⟩, ⟨trivial, trivial⟩⟩ (by kernel_rfl)
        · replace h := iteF h5 h
          refine At.gc [3, 9] [] (n := 84) (l := [(3, .int .i64 x3), (9, .str v0.1)]) (bl := []) (by kernel_rfl) ?_
          refine At.adv [7] [] 400 (ev := .stop c8x10 [.seq c8x11, .seq c8x12]) (σ' := mkS 84 [(3, .int .i64 x3), (9, .str v0.1)] []) (q := []) (by kernel_rfl) trivial ?_
          exact (wj8x1 v0 x3)  r h Γ
theorem w8 {x0 : List UInt8} {x1 : List UInt8} {x2 : List UInt8} {x3 : Int} {r : Bool} (h : m_armaturelaw02_OctetStringRoundTrip x0 x1 x2 x3 = some r) : CallSpec Try.prog 8 [.str x0, .str x1, .str x2, .int .i64 x3] (.bool r) :=
  CallSpec.at2 b8 (n := 84) (l := [(0, .str x0), (1, .str x1), (2, .str x2), (3, .int .i64 x3)]) (by kernel_rfl) (by kernel_rfl) (by kernel_rfl) (by kernel_rfl) (by kernel_rfl) (Nat.le_of_ble_eq_true (by kernel_rfl)) (fun Γ => we8 x0 x1 x2 x3 r h Γ)
end Go.Proofs
