/-
  The model of the law DescReference answers true. No condition.
-/
import Derived.Test.YtbkfbbghkbmkaaaDesL9
import Derived.Test.YtbkfbbghkbmkaaaDesLaw4
namespace Go.Proofs
open Go.Den

theorem law_DescReference (t : T_api_Type) : m_armaturelaw04_DescReference t = some true := by
  unfold m_armaturelaw04_DescReference
  rw [works4]
  by_cases h : (t.f_Name.length : Int) > 500
  · rw [if_pos (decide_eq_true h)]; rfl
  · have hl : (t.f_Name.length : Int) ≤ 140737488355328 := by omega
    obtain ⟨k, k1, k2⟩ := kind_same t hl
    rw [if_neg (by simpa using h), format_desc t hl, format_ref t hl, el_desc t hl, el_ref t hl, ar_desc t hl, ar_ref t hl, fcc_desc t hl, fcc_ref t hl, valid_desc t hl, valid_ref t hl, k1, k2]
    simp only [Option.bind_some, eqb_refl, beq_self_eq_true, if_true]

end Go.Proofs
