/-
  Models of functions of the program, and that the functions compute them. Printed by den2.py. No condition.
-/
import Derived.Test.YtbkfbbghkbmkaaaDes3
set_option linter.unusedVariables false
namespace Go.Proofs
open Go.Den
/-! ### armature armaturelaw04.DescClassNames -/
noncomputable def b7 : Code := Try.f7.body.getD .skip
noncomputable def c7x0 : Code := sub1 b7
noncomputable def c7x1 : Code := sub0 c7x0
noncomputable def c7x2 : Code := sub1 c7x1
noncomputable def c7x3 : Code := sub0 c7x2
noncomputable def c7x4 : Code := sub1 c7x2
noncomputable def c7x5 : Code := sub1 c7x0
def m_armaturelaw04_DescClassNames (x0 : List T_api_Type) : Option (Bool) :=
  if (decide ((x0.length : Int) > 60)) = true then
    ((m_armaturelaw04_works).bind fun v0 =>
    some v0) else
  ((m_desc_ClassNames x0).bind fun v1 =>
    (m_armatureref04_ClassNames x0).bind fun v2 =>
    (m_slices_Equal_string_string v1 v2).bind fun v3 =>
    if v3 = true then ((m_armaturelaw04_works).bind fun v4 =>
    some v4) else
    (some false))
theorem we7 (x0 : List T_api_Type) (r : Bool) (h : m_armaturelaw04_DescClassNames x0 = some r) (Γ : Ctx) : At Try.prog Γ b7 [] (Den.Ends Try.prog Try.f7 (.bool r)) (mkS 15 [(0, .sl false (x0.map row_T_api_Type))] []) := by
  refine At.adv [] [(0, { told := [], gs := [], keep := some ([0], []) }), (1, { told := [(1, { ans := .val (.int .i64 (x0.length : Int)) })], gs := [], keep := some ([0, 5], []) })] 400 (ev := .cond (decide ((x0.length : Int) > 60)) c7x3 c7x4 [.seq c7x5]) (σ' := mkS 15 [(0, .sl false (x0.map row_T_api_Type)), (5, .bool (decide ((x0.length : Int) > 60)))] []) (q := [True ∧ (((x0.map row_T_api_Type).length : Int) = (x0.length : Int))]) (by kernel_rfl) ⟨⟨trivial, lenM _ _⟩, trivial⟩ ?_
  refine EvOk.cond (fun h0 => ?_) (fun h0 => ?_)
  · replace h := iteT h0 h
    refine At.gc [] [] (n := 15) (l := []) (bl := []) (by kernel_rfl) ?_
    obtain ⟨v0, e0, h⟩ := bindE h
    refine At.adv [] [(2, { told := [(0, { ans := .val (.bool v0), args := [] })], gs := [], keep := some ([2], []) })] 400 (ev := .ret) (σ' := mkS 15 [(2, .bool v0)] []) (q := [True ∧ (True ∧ ([] : List D) = [] ∧ CallAny Try.prog 10 [] (.bool v0))]) (by kernel_rfl) ⟨⟨trivial, ⟨trivial, rfl, .inl (w10 e0)⟩⟩, trivial⟩ ?_
    refine EvOk.ret ?_
    obtain rfl := someE h
    exact Den.Ends.mk (.inl rfl) (d := .bool v0) (p := (True ∧ True) ∧ (True ∧ True)) (by kernel_rfl) ⟨⟨trivial, trivial⟩, ⟨trivial, trivial⟩⟩ (by kernel_rfl)
  · replace h := iteF h0 h
    refine At.gc [0] [] (n := 15) (l := [(0, .sl false (x0.map row_T_api_Type))]) (bl := []) (by kernel_rfl) ?_
    obtain ⟨v1, e1, h⟩ := bindE h
    obtain ⟨v2, e2, h⟩ := bindE h
    obtain ⟨v3, e3, h⟩ := bindE h
    rcases Bool.eq_false_or_eq_true v3 with h1 | h1
    · replace h := iteT h1 h
      obtain ⟨v4, e4, h⟩ := bindE h
      refine At.adv [] [(3, { told := [(1, { ans := .val (.sl false (v1.map rStr)), args := [.sl false (x0.map row_T_api_Type)] }), (3, { ans := .val (.sl false (v2.map rStr)), args := [.sl false (x0.map row_T_api_Type)] }), (4, { ans := .val (.bool v3), args := [.sl false (v1.map rStr), .sl false (v2.map rStr)] }), (6, { ans := .val (.bool v4), args := [] }), (7, { ans := .yes })], gs := [(6, true)], keep := some ([2], []) })] 400 (ev := .ret) (σ' := mkS 15 [(2, .bool v4)] []) (q := [True ∧ ((True ∧ True) ∧ ([.sl false (x0.map row_T_api_Type)] : List D) = [.sl false (x0.map row_T_api_Type)] ∧ CallAny Try.prog 23 [.sl false (x0.map row_T_api_Type)] (.sl false (v1.map rStr))), True ∧ ((True ∧ True) ∧ ([.sl false (x0.map row_T_api_Type)] : List D) = [.sl false (x0.map row_T_api_Type)] ∧ CallAny Try.prog 24 [.sl false (x0.map row_T_api_Type)] (.sl false (v2.map rStr))), True ∧ ((True ∧ (True ∧ True)) ∧ ([.sl false (v1.map rStr), .sl false (v2.map rStr)] : List D) = [.sl false (v1.map rStr), .sl false (v2.map rStr)] ∧ CallAny Try.prog 22 [.sl false (v1.map rStr), .sl false (v2.map rStr)] (.bool v3)), (v3 == true) = true ∧ (True ∧ ([] : List D) = [] ∧ CallAny Try.prog 10 [] (.bool v4)), True ∧ (v3 = true)]) (by kernel_rfl) ⟨⟨trivial, ⟨⟨trivial, trivial⟩, rfl, .inl (w23 e1)⟩⟩, ⟨trivial, ⟨⟨trivial, trivial⟩, rfl, .inl (w24 e2)⟩⟩, ⟨trivial, ⟨⟨trivial, ⟨trivial, trivial⟩⟩, rfl, .inl (w22 e3)⟩⟩, ⟨(gB h1 rfl), ⟨trivial, rfl, .inl (w10 e4)⟩⟩, ⟨trivial, h1⟩, trivial⟩ ?_
      refine EvOk.ret ?_
      obtain rfl := someE h
      exact Den.Ends.mk (.inl rfl) (d := .bool v4) (p := (True ∧ True) ∧ (True ∧ True)) (by kernel_rfl) ⟨⟨trivial, trivial⟩, ⟨trivial, trivial⟩⟩ (by kernel_rfl)
    · replace h := iteF h1 h
      refine At.adv [] [(3, { told := [(1, { ans := .val (.sl false (v1.map rStr)), args := [.sl false (x0.map row_T_api_Type)] }), (3, { ans := .val (.sl false (v2.map rStr)), args := [.sl false (x0.map row_T_api_Type)] }), (4, { ans := .val (.bool v3), args := [.sl false (v1.map rStr), .sl false (v2.map rStr)] }), (7, { ans := .no })], gs := [(6, false)], keep := some ([2], []) })] 400 (ev := .ret) (σ' := mkS 15 [(2, .bool false)] []) (q := [True ∧ ((True ∧ True) ∧ ([.sl false (x0.map row_T_api_Type)] : List D) = [.sl false (x0.map row_T_api_Type)] ∧ CallAny Try.prog 23 [.sl false (x0.map row_T_api_Type)] (.sl false (v1.map rStr))), True ∧ ((True ∧ True) ∧ ([.sl false (x0.map row_T_api_Type)] : List D) = [.sl false (x0.map row_T_api_Type)] ∧ CallAny Try.prog 24 [.sl false (x0.map row_T_api_Type)] (.sl false (v2.map rStr))), True ∧ ((True ∧ (True ∧ True)) ∧ ([.sl false (v1.map rStr), .sl false (v2.map rStr)] : List D) = [.sl false (v1.map rStr), .sl false (v2.map rStr)] ∧ CallAny Try.prog 22 [.sl false (v1.map rStr), .sl false (v2.map rStr)] (.bool v3)), (v3 == true) = false, True ∧ (v3 = false)]) (by kernel_rfl) ⟨⟨trivial, ⟨⟨trivial, trivial⟩, rfl, .inl (w23 e1)⟩⟩, ⟨trivial, ⟨⟨trivial, trivial⟩, rfl, .inl (w24 e2)⟩⟩, ⟨trivial, ⟨⟨trivial, ⟨trivial, trivial⟩⟩, rfl, .inl (w22 e3)⟩⟩, gB h1 rfl, ⟨trivial, h1⟩, trivial⟩ ?_
      refine EvOk.ret ?_
      obtain rfl := someE h
      exact Den.Ends.mk (.inl rfl) (d := .bool false) (p := (True ∧ True) ∧ (True ∧ True)) (by kernel_rfl) ⟨⟨trivial, trivial⟩, ⟨trivial, trivial⟩⟩ (by kernel_rfl)
theorem w7 {x0 : List T_api_Type} {r : Bool} (h : m_armaturelaw04_DescClassNames x0 = some r) : CallSpec Try.prog 7 [.sl false (x0.map row_T_api_Type)] (.bool r) :=
  CallSpec.at2 b7 (n := 15) (l := [(0, .sl false (x0.map row_T_api_Type))]) (by kernel_rfl) (by kernel_rfl) (by kernel_rfl) (by kernel_rfl) (by kernel_rfl) (Nat.le_of_ble_eq_true (by kernel_rfl)) (fun Γ => we7 x0 r h Γ)
end Go.Proofs
