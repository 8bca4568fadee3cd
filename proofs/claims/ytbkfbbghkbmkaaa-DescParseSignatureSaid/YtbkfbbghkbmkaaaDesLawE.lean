/-
  The model of the law DescParseSignature answers true. No condition.
-/
import Derived.Test.YtbkfbbghkbmkaaaDesL4
import Derived.Test.YtbkfbbghkbmkaaaDesLaw5
namespace Go.Proofs
open Go.Den

theorem law_DescParseSignature (s : List UInt8) : m_armaturelaw04_DescParseSignature s = some true := by
  unfold m_armaturelaw04_DescParseSignature
  rw [works4]
  by_cases h : (s.length : Int) > 3000
  · rw [if_pos (decide_eq_true h)]; rfl
  · obtain ⟨v, h1, h2, -, h3⟩ := sig_same s (by omega)
    rw [if_neg (by simpa using h), h1, h2]
    simp only [Option.bind_some]
    rw [show ({ f_Params := v.1.f_Params, f_Result := ({ f_Dim := v.1.f_Result.f_Dim, f_Base := v.1.f_Result.f_Base, f_Name := v.1.f_Result.f_Name } : T_api_Type) } : T_api_Sig) = v.1 from rfl, same_refl v.1 h3]
    simp only [Option.bind_some, beq_self_eq_true, if_true]

end Go.Proofs
