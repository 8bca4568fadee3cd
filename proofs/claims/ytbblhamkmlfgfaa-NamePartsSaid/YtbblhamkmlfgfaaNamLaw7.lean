/-
  The law of parts, on its model.
-/
import Derived.Test.YtbblhamkmlfgfaaNamLaw6
namespace Go.Proofs
open Go.Den

theorem okC_bad : ∀ (p r : List UInt8) (c : UInt8) (b : Bool), c ≠ 47 → letterB c = false → digitB c = false → okC b (p ++ c :: r) = false
  | [], r, c, b, h1, h2, h3 => by simp [okC, h1, h2, h3]
  | x :: p, r, c, b, h1, h2, h3 => by
    simp only [List.cons_append, okC, okC_bad p r c _ h1 h2 h3]
    simp
theorem isClass_bad (p r : List UInt8) (c : UInt8) (h1 : c ≠ 47) (h2 : letterB c = false) (h3 : digitB c = false) (hl : ((p ++ c :: r).length : Int) ≤ 140737488355328) : m_name_IsClassName (p ++ c :: r) = some false := by
  rw [isClass _ hl, okC_bad p r c true h1 h2 h3, Bool.and_false]

theorem contains3 : ∀ n : Fin 256, m_strings_Contains [47, 95, 36] (bytesOf [((n.val : Nat) : Int)]) = some (n.val == 47 || n.val == 95 || n.val == 36) := by decide +kernel

theorem bad_facts (c : UInt8) (h : ¬ (c.toNat = 47 ∨ c.toNat = 95 ∨ c.toNat = 36 ∨ (48 ≤ c.toNat ∧ c.toNat ≤ 57) ∨ (97 ≤ c.toNat ∧ c.toNat ≤ 122) ∨ (65 ≤ c.toNat ∧ c.toNat ≤ 90))) : c ≠ 47 ∧ letterB c = false ∧ digitB c = false := by
  refine ⟨fun e => h (.inl (by rw [e]; rfl)), ?_, ?_⟩
  · simp only [letterB, letterN, Bool.or_eq_false_iff, Bool.and_eq_false_iff, decide_eq_false_iff_not, beq_eq_false_iff_ne]
    omega
  · simp only [digitB, digitN, Bool.and_eq_false_iff, decide_eq_false_iff_not]
    omega

theorem parts_bad (s t : List UInt8) (c : UInt8) (hs : s.length ≤ 200) (ht : t.length ≤ 200) (h1 : c ≠ 47) (h2 : letterB c = false) (h3 : digitB c = false) : j6x4 s t (c.toNat : Int) = some true := by
  have hb : bytesOf [(c.toNat : Int)] = [c] := by
    unfold bytesOf
    simp only [List.map_cons, List.map_nil, Int.toNat_natCast]
    rw [UInt8.ofNat_toNat]
  have e1 : catK s [c] = some (s ++ [c]) := catK_ok (by simp; omega)
  have e2 : catK (s ++ [c]) t = some (s ++ c :: t) := by
    rw [catK_ok (by simp; omega)]; simp
  have hl : ((s ++ c :: t).length : Int) ≤ 140737488355328 := by simp; omega
  have e3 := isClass_bad s t c h1 h2 h3 hl
  unfold j6x4
  rw [awake3, Option.bind_some, if_pos rfl, hb, e1, Option.bind_some, e2, Option.bind_some, e3, Option.bind_some, if_pos (by rfl), Option.bind_some, e2, Option.bind_some]
  unfold m_name_IsMemberName
  have hm : c ∈ s ++ c :: t := by simp
  by_cases k1 : s ++ c :: t = [60, 105, 110, 105, 116, 62]
  · rw [if_pos (by simpa using k1), Option.bind_some, if_neg (by decide)]
    rw [k1] at hm
    simp only [List.mem_cons, List.not_mem_nil, or_false] at hm
    rcases hm with rfl | rfl | rfl | rfl | rfl | rfl <;> first | rfl | (exfalso; revert h2; decide)
  · rw [if_neg (by simpa using k1)]
    by_cases k2 : s ++ c :: t = [60, 99, 108, 105, 110, 105, 116, 62]
    · rw [if_pos (by simpa using k2), Option.bind_some, if_neg (by decide)]
      rw [k2] at hm
      simp only [List.mem_cons, List.not_mem_nil, or_false] at hm
      rcases hm with rfl | rfl | rfl | rfl | rfl | rfl | rfl | rfl <;> first | rfl | (exfalso; revert h2; decide)
    · rw [if_neg (by simpa using k2)]
      unfold j10x1
      rw [e3, Option.bind_some, if_neg (by decide), Option.bind_some, if_pos (by rfl)]

theorem parts_3 (s t : List UInt8) (c : UInt8) (hs : s.length ≤ 200) (ht : t.length ≤ 200) : j6x3 s t (c.toNat : Int) = some true := by
  have e0 : m_strings_Contains [47, 95, 36] (bytesOf [(c.toNat : Int)]) = some (c.toNat == 47 || c.toNat == 95 || c.toNat == 36) := contains3 ⟨c.toNat, c.toNat_lt⟩
  have e5 : j6x5 = some true := by unfold j6x5; rw [awake3]; rfl
  by_cases hg : c.toNat = 47 ∨ c.toNat = 95 ∨ c.toNat = 36 ∨ (48 ≤ c.toNat ∧ c.toNat ≤ 57) ∨ (97 ≤ c.toNat ∧ c.toNat ≤ 122) ∨ (65 ≤ c.toNat ∧ c.toNat ≤ 90)
  · unfold j6x3
    rw [e0, Option.bind_some]
    repeat' split
    all_goals first
      | exact e5
      | (exfalso
         simp only [Bool.or_eq_true, beq_iff_eq, decide_eq_true_eq] at *
         omega)
  · obtain ⟨h1, h2, h3⟩ := bad_facts c hg
    have e4 := parts_bad s t c hs ht h1 h2 h3
    unfold j6x3
    rw [e0, Option.bind_some]
    repeat' split
    all_goals first
      | exact e5
      | exact e4

theorem law_NameParts (s t : List UInt8) (k : Int) (h0 : 0 ≤ k) (h1 : k ≤ 255) : m_armaturelaw03_NameParts s t k = some true := by
  obtain ⟨c, rfl⟩ : ∃ c : UInt8, k = (c.toNat : Int) := ⟨UInt8.ofNat k.toNat, by rw [UInt8.toNat_ofNat']; omega⟩
  have e6 : j6x6 = some true := by unfold j6x6; rw [awake3]; rfl
  unfold m_armaturelaw03_NameParts
  by_cases ha : (s.length : Int) > 200
  · rw [if_pos (decide_eq_true ha), e6]
  rw [if_neg (by simpa using ha)]
  by_cases hb : (t.length : Int) > 200
  · rw [if_pos (decide_eq_true hb), e6]
  rw [if_neg (by simpa using hb)]
  have e3 := parts_3 s t c (by omega) (by omega)
  -- the strings
  have a1 : catK s [47] = some (s ++ [47]) := catK_ok (by simp; omega)
  have a2 : catK (s ++ [47]) t = some (s ++ 47 :: t) := by rw [catK_ok (by simp; omega)]; simp
  have b1 : catK s [47, 47] = some (s ++ [47, 47]) := catK_ok (by simp; omega)
  have b2 : catK (s ++ [47, 47]) t = some (s ++ 47 :: 47 :: t) := by rw [catK_ok (by simp; omega)]; simp
  have c1 : catK s [32] = some (s ++ [32]) := catK_ok (by simp; omega)
  have c2 : catK (s ++ [32]) t = some (s ++ 32 :: t) := by rw [catK_ok (by simp; omega)]; simp
  have b3 : m_name_IsClassName (s ++ 47 :: 47 :: t) = some false := by
    rw [isClass _ (by simp; omega), okC_split]
    simp [okC]
  have c3 : m_name_IsClassName (s ++ 32 :: t) = some false := isClass_bad s t 32 (by decide) (by decide) (by decide) (by simp; omega)
  have hrest : ∀ b, (b = true → okC true s = true ∧ okC true t = true) → j6x2 s t (c.toNat : Int) b = some true := fun b hb2 => by
    unfold j6x2
    cases b with
    | true =>
      obtain ⟨o1, o2⟩ := hb2 rfl
      have a3 : m_name_IsClassName (s ++ 47 :: t) = some (decide (s.length + t.length + 1 ≤ 64)) := by
        rw [isClass _ (by simp; omega), okC_split, o1, o2]
        have : (s ++ 47 :: t).length = s.length + t.length + 1 := by simp; omega
        rw [this]; simp
      have w1 : IntKind.wrap .i64 ((s.length : Int) + (t.length : Int)) = (s.length : Int) + (t.length : Int) := by rw [wrap64]; omega
      have w2 : IntKind.wrap .i64 ((s.length : Int) + (t.length : Int) + 1) = (s.length : Int) + (t.length : Int) + 1 := by rw [wrap64]; omega
      have w3 : decide (s.length + t.length + 1 ≤ 64) = decide ((s.length : Int) + (t.length : Int) + 1 ≤ 64) := decide_eq_decide.2 (by omega)
      simp only [a1, a2, a3, b1, b2, b3, c1, c2, c3, w1, w2, w3, e3, Option.bind_some, if_true, beq_self_eq_true, Bool.not_true, Bool.false_eq_true, if_false]
    | false => simp only [b1, b2, b3, c1, c2, c3, e3, Option.bind_some, Bool.false_eq_true, if_false]
  unfold j6x1
  rw [isClass s (by omega), Option.bind_some]
  by_cases ho : (decide (s.length ≤ 64) && okC true s) = true
  · rw [if_pos ho, isClass t (by omega), Option.bind_some]
    simp only [Bool.and_eq_true] at ho
    exact hrest _ fun hb3 => by simp only [Bool.and_eq_true] at hb3; exact ⟨ho.2, hb3.2⟩
  · rw [if_neg ho]
    exact hrest false fun hb3 => by cases hb3
end Go.Proofs
