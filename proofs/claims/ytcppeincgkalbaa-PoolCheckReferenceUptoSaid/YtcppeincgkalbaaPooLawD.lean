/-
  The model of the law PoolCheckReference answers true for pools whose texts are at most 1048576 bytes long. No other condition.
-/
import Derived.Test.YtcppeincgkalbaaPooL3
import Derived.Test.YtcppeincgkalbaaPooLaw6
namespace Go.Proofs
open Go.Den

theorem law_PoolCheckReference (p : List T_api_Const) (hp : ∀ c ∈ p, c.f_S.length ≤ 1048576) : m_armaturelaw05_PoolCheckReference p = some true := by
  unfold m_armaturelaw05_PoolCheckReference
  rw [few5, awake5]
  by_cases h : (p.length : Int) ≤ 1100
  · obtain ⟨v, h1, h2⟩ := Check_same p ⟨by omega, hp⟩
    rw [decide_eq_true h, h1, h2]
    simp
  · have h1 : m_pool_Check p = some (0, 5) := by
      unfold m_pool_Check
      rw [if_pos (decide_eq_true (by omega))]
    rw [decide_eq_false h, h1]
    rfl

end Go.Proofs
