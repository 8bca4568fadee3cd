/-
  The model of the law PoolAddReference answers true. No condition.
-/
import Derived.Test.YtcppeincgkalbaaPooL7
import Derived.Test.YtcppeincgkalbaaPooLaw2
namespace Go.Proofs
open Go.Den

theorem law_PoolAddReference (p : List T_api_Const) (c : T_api_Const) (s : List UInt8) (tag : Int) (r : T_api_Ref) : m_armaturelaw05_PoolAddReference p c s tag r = some true := by
  unfold m_armaturelaw05_PoolAddReference j7x1
  rw [few5, awake5]
  by_cases h : (p.length : Int) ≤ 1100
  · have hl : p.length ≤ 1100 := by omega
    obtain ⟨v, m1, m2, m3⟩ := mref_same p tag r (by omega)
    have n1 := addF_len p c
    have n2 := addF_len p (uC s)
    have n3 := namedF_len p 7 s
    have n4 := namedF_len p 8 s
    simp only [List.nil_append]
    rw [decide_eq_true h, growP 48 (by omega) (by omega), add_pool p c (by omega), add_ref p c (by omega), utf_add_pool p s (by omega), utf_add_ref p s (by omega), class_pool p s (by omega), class_ref p s (by omega), string_pool p s (by omega), string_ref p s (by omega), m1, m2]
    simp only [Option.bind_some, Bool.not_true, Bool.false_eq_true, if_false]
    rw [same5 _ (by omega)]
    simp only [Option.bind_some, Bool.not_true, Bool.false_eq_true, if_false]
    rw [same5 _ (by omega)]
    simp only [Option.bind_some, Bool.not_true, Bool.false_eq_true, if_false]
    rw [same5 _ (by omega)]
    simp only [Option.bind_some, Bool.not_true, Bool.false_eq_true, if_false]
    rw [same5 _ (by omega)]
    simp only [Option.bind_some, Bool.not_true, Bool.false_eq_true, if_false]
    rw [same5 _ (by omega)]
    simp only [Option.bind_some, Bool.not_true, Bool.false_eq_true, if_false]
    rw [same5 _ (by omega)]
    simp only [Option.bind_some, Bool.not_true, Bool.false_eq_true, if_false, beq_self_eq_true, if_true]
  · rw [decide_eq_false h]; rfl

end Go.Proofs
