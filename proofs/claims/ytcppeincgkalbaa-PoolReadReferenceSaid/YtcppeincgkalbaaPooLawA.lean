/-
  The model of the law PoolReadReference answers true. No condition.
-/
import Derived.Test.YtcppeincgkalbaaPooL4
import Derived.Test.YtcppeincgkalbaaPooLaw
namespace Go.Proofs
open Go.Den

theorem law_PoolReadReference (p : List T_api_Const) (i tag : Int) : m_armaturelaw05_PoolReadReference p i tag = some true := by
  unfold m_armaturelaw05_PoolReadReference j4x1
  rw [few5, awake5]
  by_cases h : (p.length : Int) ≤ 1100
  · have hl : p.length ≤ 1000000 := by omega
    rw [decide_eq_true h, at_pool p i hl, at_ref p i hl, utf_pool p i hl, utf_ref p i hl, cls_pool p i hl, cls_ref p i hl, str_pool p i hl, str_ref p i hl, nat_pool p i hl, nat_ref p i hl, ref_pool p i tag hl, ref_ref p i tag hl]
    simp only [Option.bind_some, eqC_refl, eqR_refl, beq_self_eq_true, Bool.not_true, Bool.false_eq_true, if_false, if_true]
  · rw [decide_eq_false h]; rfl

end Go.Proofs
