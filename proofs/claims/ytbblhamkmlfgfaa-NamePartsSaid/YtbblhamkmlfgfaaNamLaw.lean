/-
  What the models of name's functions come to: prefixes.
-/
import Derived.Test.YtbblhamkmlfgfaaNam2
namespace Go.Proofs
open Go.Den

theorem awake3 : m_armaturelaw03_awake = some true := by kernel_rfl
theorem wrap64 (n : Int) : IntKind.wrap .i64 n = (n + 9223372036854775808) % 18446744073709551616 - 9223372036854775808 := by
  show (if (true && decide (n % 18446744073709551616 ≥ 9223372036854775808)) = true then n % 18446744073709551616 - 18446744073709551616 else n % 18446744073709551616) = _
  rw [Bool.true_and]
  by_cases h : n % 18446744073709551616 ≥ 9223372036854775808
  · rw [if_pos (decide_eq_true h)]; omega
  · rw [if_neg (by simpa using h)]; omega

theorem wf_u8 {n : Int} (h : (Lit.int .u8 n).wf = true) : 0 ≤ n ∧ n ≤ 255 := by
  have h' : IntKind.min .u8 ≤ n ∧ n ≤ IntKind.max .u8 := by simpa [Lit.wf] using h
  exact h'

def hasP (a b : List UInt8) : Bool := b.isPrefixOf a
theorem sub_take {α : Type} (l : List α) (n : Nat) (h : n ≤ l.length) : sub l 0 (n : Int) = some (l.take n) := by
  unfold sub
  rw [if_pos ⟨by omega, by omega, by omega⟩]; simp
theorem prefix_take : ∀ (a b : List UInt8), b.length ≤ a.length → (a.take b.length == b) = b.isPrefixOf a
  | a, [], _ => by simp
  | [], c :: b, h => by simp at h
  | x :: a, c :: b, h => by
    have := prefix_take a b (by simpa using h)
    simp only [List.length_cons, List.take_succ_cons, List.isPrefixOf_cons_cons, ← this]
    rw [Bool.eq_iff_iff]; simp
    exact fun _ => ⟨fun h => h.symm, fun h => h.symm⟩
theorem prefix_short : ∀ (a b : List UInt8), ¬ b.length ≤ a.length → b.isPrefixOf a = false
  | a, [], h => by simp at h
  | [], c :: b, _ => rfl
  | x :: a, c :: b, h => by
    simp only [List.isPrefixOf_cons_cons, prefix_short a b (by simpa using h), Bool.and_false]
theorem hasP_lite (a b : List UInt8) : m_internal_stringslite_HasPrefix a b = some (hasP a b) := by
  unfold m_internal_stringslite_HasPrefix hasP
  by_cases h : b.length ≤ a.length
  · rw [if_pos (decide_eq_true (by omega)), sub_take a b.length h, Option.bind_some, prefix_take a b h]
  · rw [if_neg (by simp; omega), prefix_short a b h]
theorem hasP_name (a b : List UInt8) : m_name_HasPrefix a b = some (hasP a b) := by
  simp [m_name_HasPrefix, m_strings_HasPrefix, hasP_lite]
theorem hasP_ref (a b : List UInt8) : m_armatureref03_HasPrefix a b = some (hasP a b) := by
  unfold m_armatureref03_HasPrefix hasP
  by_cases h : b.length ≤ a.length
  · rw [if_pos (decide_eq_true (by omega)), sub_take a b.length h, Option.bind_some, prefix_take a b h]
  · rw [if_neg (by simp; omega), prefix_short a b h]
theorem catK_ok {a b : List UInt8} (h : a.length + b.length ≤ 9223372036854775807) : catK a b = some (a ++ b) := by
  unfold catK; rw [if_pos h]

theorem hasP_append (a b : List UInt8) : hasP (a ++ b) a = true := by
  unfold hasP; rw [List.isPrefixOf_iff_prefix]; exact List.prefix_append a b
theorem hasP_take (a : List UInt8) (n : Nat) : hasP a (a.take n) = true := by
  unfold hasP; rw [List.isPrefixOf_iff_prefix]; exact List.take_prefix n a
theorem hasP_back (a b : List UInt8) : hasP a (a ++ b) = (b == []) := by
  rw [Bool.eq_iff_iff]
  unfold hasP
  rw [List.isPrefixOf_iff_prefix, beq_iff_eq]
  refine ⟨fun h => ?_, fun h => by subst h; simp⟩
  have := h.length_le
  rw [List.length_append] at this
  exact List.eq_nil_of_length_eq_zero (by omega)

theorem law_NamePrefix (a b : List UInt8) (k : Int) (h0 : 0 ≤ k) (h1 : k < 9223372036854775808) : m_armaturelaw03_NamePrefix a b k = some true := by
  unfold m_armaturelaw03_NamePrefix
  by_cases ha : (a.length : Int) > 300
  · rw [if_pos (decide_eq_true ha), j4x2, awake3]; rfl
  rw [if_neg (by simpa using ha)]
  by_cases hb : (b.length : Int) > 300
  · rw [if_pos (decide_eq_true hb), j4x2, awake3]; rfl
  rw [if_neg (by simpa using hb)]
  have e1 : IntKind.wrap .i64 k = k := by rw [wrap64]; omega
  have e2 : IntKind.wrap .i64 ((a.length : Int) + 1) = (a.length : Int) + 1 := by rw [wrap64]; omega
  have e3 : modK k ((a.length : Int) + 1) = some (k.tmod ((a.length : Int) + 1)) := by
    unfold modK; rw [if_pos (by omega)]
  have e4 : 0 ≤ k.tmod ((a.length : Int) + 1) ∧ k.tmod ((a.length : Int) + 1) < (a.length : Int) + 1 := by
    rw [Int.tmod_eq_emod_of_nonneg h0]
    exact ⟨Int.emod_nonneg _ (by omega), Int.emod_lt_of_pos _ (by omega)⟩
  obtain ⟨n, hn⟩ : ∃ n : Nat, k.tmod ((a.length : Int) + 1) = n := ⟨(k.tmod ((a.length : Int) + 1)).toNat, by omega⟩
  have e5 : sub a 0 (k.tmod ((a.length : Int) + 1)) = some (a.take n) := by
    rw [hn]; exact sub_take a n (by omega)
  have e6 : catK a b = some (a ++ b) := catK_ok (by omega)
  have e7 : hasP a [] = true := by unfold hasP; rfl
  have e8 : m_strings_HasPrefix a b = some (hasP a b) := by simp [m_strings_HasPrefix, hasP_lite]
  unfold j4x1
  simp only [e1, e2, e3, e5, e6, e8, Option.bind_some, awake3, if_true, hasP_name, hasP_append, hasP_take, e7, hasP_back, beq_self_eq_true]
end Go.Proofs
