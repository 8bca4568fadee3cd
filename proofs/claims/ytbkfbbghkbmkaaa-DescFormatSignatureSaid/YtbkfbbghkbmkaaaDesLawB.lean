/-
  The model of the law DescFormatSignature answers true. No condition.
-/
import Derived.Test.YtbkfbbghkbmkaaaDesL5
import Derived.Test.YtbkfbbghkbmkaaaDesLaw4
namespace Go.Proofs
open Go.Den

theorem law_DescFormatSignature (g : T_api_Sig) (hl : ∀ t ∈ g.f_Params, (t.f_Name.length : Int) ≤ 140737488355328) (hr : (g.f_Result.f_Name.length : Int) ≤ 140737488355328) : m_armaturelaw04_DescFormatSignature g = some true := by
  unfold m_armaturelaw04_DescFormatSignature
  rw [works4]
  by_cases h : (g.f_Params.length : Int) > 40
  · rw [if_pos (decide_eq_true h)]; rfl
  · rw [if_neg (by simpa using h), fsig_desc g hl hr, fsig_ref g hl hr]
    simp only [Option.bind_some, beq_self_eq_true, if_true]

end Go.Proofs
