/-
  Both checks of a constant answer the same. No condition.
-/
import Derived.Test.YtcppeincgkalbaaPooLaw4
namespace Go.Proofs
open Go.Den

theorem both_ref (p : List T_api_Const) (c : T_api_Const) (x y : Int) (hl : p.length ≤ 1000000) : j52x1 p c x y = some (if (getF p c.f_A x).2 ≠ 0 then (getF p c.f_A x).2 else if c.f_Tag = 7 ∨ c.f_Tag = 8 then 0 else (getF p c.f_B y).2) := by
  unfold j52x1 j52x2 m_armatureref05_refers
  rw [get_ref p _ _ hl, get_ref p _ _ hl]
  simp only [Option.bind_some]
  by_cases h : (getF p c.f_A x).2 = 0 <;> by_cases h7 : c.f_Tag = 7 <;> by_cases h8 : c.f_Tag = 8 <;> simp [h, h7, h8]

/-- What both do with the links and the texts. -/
theorem tail_pool (p : List T_api_Const) (c : T_api_Const) (a b : Int) (f : Bool) (hl : p.length ≤ 1000000) (e : Int) (ht : m_pool_texts p c = some e) : j36x1 (a, b, f) p c = some (if a ≠ 0 ∧ (getF p c.f_A a).2 ≠ 0 then (getF p c.f_A a).2 else if b ≠ 0 ∧ (getF p c.f_B b).2 ≠ 0 then (getF p c.f_B b).2 else e) := by
  unfold j36x1 j36x2 j36x3
  dsimp only
  rw [tag_pool p _ _ hl, tag_pool p _ _ hl, ht]
  simp only [Option.bind_some]
  by_cases ha : a = 0 <;> by_cases h1 : (getF p c.f_A a).2 = 0 <;> by_cases hb : b = 0 <;> by_cases h2 : (getF p c.f_B b).2 = 0 <;> simp [ha, h1, hb, h2]

/-- The fields that are not used. -/
def badU (c : T_api_Const) (a b : Int) : Bool := (c.f_Tag != 1 && c.f_S != []) || ((c.f_Tag != 3 && c.f_Tag != 5) && c.f_N != 0) || (a == 0 && c.f_A != 0) || (b == 0 && c.f_B != 0)
theorem unused_pool (c : T_api_Const) (a b : Int) : m_pool_unused c a b = some (badU c a b) := by
  unfold m_pool_unused badU bne
  cases h3 : (c.f_Tag == 3) <;> cases h1 : (c.f_Tag == 1) <;> cases h5 : (c.f_Tag == 5) <;> cases hS : (c.f_S == []) <;> cases hN : (c.f_N == 0) <;> cases ha : (a == 0) <;> cases hA : (c.f_A == 0) <;> cases hb : (b == 0) <;> cases hB : (c.f_B == 0) <;> rfl

theorem formed_ref (c : T_api_Const) : m_armatureref05_formed c = some (!((c.f_Tag != 1 && c.f_S != []) || ((c.f_Tag != 3 && c.f_Tag != 5) && c.f_N != 0)) && (if c.f_Tag == 12 || memB c.f_Tag then true else if c.f_Tag == 7 || c.f_Tag == 8 then c.f_B == 0 else c.f_A == 0 && c.f_B == 0)) := by
  unfold m_armatureref05_formed j51x1 j51x2 bne
  rw [mem_ref]
  cases h12 : (c.f_Tag == 12) <;> cases hm : memB c.f_Tag <;> cases h7 : (c.f_Tag == 7) <;> cases h8 : (c.f_Tag == 8) <;> cases h3 : (c.f_Tag == 3) <;> cases h1 : (c.f_Tag == 1) <;> cases h5 : (c.f_Tag == 5) <;> cases hS : (c.f_S == []) <;> cases hN : (c.f_N == 0) <;> cases hA : (c.f_A == 0) <;> cases hB : (c.f_B == 0) <;> rfl

end Go.Proofs
