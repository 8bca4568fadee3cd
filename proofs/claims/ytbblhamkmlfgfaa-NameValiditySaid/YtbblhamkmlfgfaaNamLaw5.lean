/-
  The law of validity, on its model.
-/
import Derived.Test.YtbblhamkmlfgfaaNamLaw4
namespace Go.Proofs
open Go.Den

theorem law_NameValidity (a b : List UInt8) : m_armaturelaw03_NameValidity a b = some true := by
  unfold m_armaturelaw03_NameValidity
  by_cases ha : (a.length : Int) > 2000
  · rw [if_pos (decide_eq_true ha)]; simp [awake3, j3x2]
  rw [if_neg (by simpa using ha)]
  by_cases hb : (b.length : Int) > 2000
  · rw [if_pos (decide_eq_true hb)]; simp [awake3, j3x2]
  rw [if_neg (by simpa using hb)]
  have hl : (a.length : Int) ≤ 140737488355328 := by omega
  obtain ⟨m, m1, m2⟩ := member_same a hl
  obtain ⟨p, p1, p2⟩ := package_same a hl
  obtain ⟨s, s1, s2⟩ := simple_same a hl
  obtain ⟨j, j1⟩ := join_some a b (by omega)
  have j2 := (join_same a b).symm.trans j1
  simp [j3x1, awake3, isClass a hl, ref_class a hl, m1, m2, p1, p2, s1, s2, j1, j2, hasP_name, hasP_ref]
end Go.Proofs
