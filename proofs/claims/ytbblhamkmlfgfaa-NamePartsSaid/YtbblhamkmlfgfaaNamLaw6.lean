/-
  The law of joins, on its model.
-/
import Derived.Test.YtbblhamkmlfgfaaNamLaw4
namespace Go.Proofs
open Go.Den

theorem okC_split : ∀ (p l : List UInt8) (b : Bool), okC b (p ++ 47 :: l) = (okC b p && okC true l)
  | [], l, b => by simp [okC]
  | c :: p, l, b => by
    simp only [List.cons_append, okC, okC_split p l]
    by_cases hc : c = 47
    · simp [hc, Bool.and_assoc]
    · by_cases h1 : letterB c = true
      · simp [hc, h1]
      · by_cases h2 : digitB c = true <;> simp [hc, h1, h2, Bool.and_assoc]

theorem contains_slash (l : List UInt8) (h : (47 : UInt8) ∉ l) : m_strings_Contains l [47] = some false := by
  have hne : ¬ (([47] : List UInt8) = l) := fun e => h (by rw [← e]; simp)
  have hi : Lib.indexByte l 47 < 0 := (indexByte_none l 47).2 h
  have h1 : getS [47] 0 = some 47 := by decide
  have h2 : m_internal_stringslite_IndexByte l 47 = some (Lib.indexByte l 47) := rfl
  have h3 : ¬ (Lib.indexByte l 47 ≥ 0) := by omega
  unfold m_strings_Contains m_strings_Index m_internal_stringslite_Index j32x1
  rw [if_neg (by decide), if_neg (by simpa using hne), if_pos (by decide), h1, Option.bind_some, h2, Option.bind_some, Option.bind_some, Option.bind_some, decide_eq_false h3]

theorem member_of (l : List UInt8) (hl : l.length ≤ 64) (hok : okC true l = true) (h : (47 : UInt8) ∉ l) : m_name_IsMemberName l = some true ∧ ∃ v : Int, getS l 0 = some v ∧ (v != 60) = true := by
  match l, hok with
  | c :: r, hok =>
    have hc : c ≠ 47 := fun e => h (by simp [e])
    have hL : letterB c = true := by
      by_cases h1 : letterB c = true
      · exact h1
      · by_cases h2 : digitB c = true <;> simp [okC, hc, h1, h2] at hok
    have h60 : c ≠ 60 := fun e => by rw [e] at hL; revert hL; decide
    have hv : ((c.toNat : Int) != 60) = true := by
      simp only [bne_iff_ne, ne_eq]
      exact fun e => h60 (UInt8.toNat_inj.1 (by show c.toNat = 60; omega))
    refine ⟨?_, (c.toNat : Int), rfl, hv⟩
    have hlen : ((c :: r).length : Int) ≤ 140737488355328 := by omega
    unfold m_name_IsMemberName
    rw [if_neg (by simp [h60]), if_neg (by simp [h60])]
    unfold j10x1
    have hidx : m_strings_IndexByte (c :: r) 47 = some (Lib.indexByte (c :: r) 47) := rfl
    have hneg : Lib.indexByte (c :: r) 47 < 0 := (indexByte_none _ 47).2 h
    rw [isClass _ hlen, hok, decide_eq_true hl, Option.bind_some, hidx, if_pos (by rfl), Option.bind_some, decide_eq_true hneg]

theorem law_NameJoin (s : List UInt8) : m_armaturelaw03_NameJoin s = some true := by
  unfold m_armaturelaw03_NameJoin
  by_cases ha : (s.length : Int) > 2000
  · rw [if_pos (decide_eq_true ha), awake3]; rfl
  rw [if_neg (by simpa using ha)]
  have hl : (s.length : Int) ≤ 140737488355328 := by omega
  obtain ⟨r, hr, h⟩ := slash_some s hl
  rcases h with ⟨rfl, hno⟩ | ⟨h0, h1, hc, hno⟩
  · -- no slash
    have hnm : (47 : UInt8) ∉ s := fun hm => by obtain ⟨k, hk⟩ := List.getElem?_of_mem hm; exact hno k hk
    have e1 : m_name_Package s = some [] := by
      have : sub s 0 0 = some [] := sub_take s 0 (by omega)
      simp [m_name_Package, split_same, hr, this]
    have e2 : m_name_SimpleName s = some s := by
      have e : IntKind.wrap .i64 (-1 + 1) = 0 := by rw [wrap64]; rfl
      have hs : sub s 0 (s.length : Int) = some s := by rw [sub_take s s.length (by omega)]; simp
      simp only [m_name_SimpleName, split_same, hr, Option.bind_some, e, hs]
    have e3 : m_name_Join [] s = some s := rfl
    rw [e1, Option.bind_some, e2, Option.bind_some, contains_slash s hnm, Option.bind_some, if_neg (by decide), e3, Option.bind_some, if_neg (by simp)]
    unfold j5x1
    rw [awake3, Option.bind_some, if_pos rfl, isClass s hl, Option.bind_some]
    by_cases hok : (decide (s.length ≤ 64) && okC true s) = true
    · have hk : s.length ≤ 64 ∧ okC true s = true := by simpa using hok
      obtain ⟨m1, v, m2, m3⟩ := member_of s hk.1 hk.2 hnm
      rw [hok, if_neg (by decide), e3, Option.bind_some, if_pos (by simp), if_pos (by simp), m1, Option.bind_some, if_pos rfl, m2, Option.bind_some, m3]
    · have hf : (decide (s.length ≤ 64) && okC true s) = false := by simpa using hok
      rw [hf, if_pos (by rfl)]
  · obtain ⟨n, rfl⟩ := Int.eq_ofNat_of_zero_le h0
    have hc' : s[n]? = some 47 := by simpa using hc
    have hsplit : s = s.take n ++ 47 :: s.drop (n + 1) := by
      rw [← drop_get hc', List.take_append_drop]
    have hnm : (47 : UInt8) ∉ s.drop (n + 1) := fun hm => by
      obtain ⟨k, hk⟩ := List.getElem?_of_mem hm
      rw [List.getElem?_drop] at hk
      exact hno (n + 1 + k) (by omega) hk
    have e1 : m_name_Package s = some (s.take n) := by
      have hs : sub s 0 (n : Int) = some (s.take n) := sub_take s n (by omega)
      have hm : (if (n : Int) > 0 then (n : Int) else 0) = n := by split <;> omega
      unfold m_name_Package
      rw [split_same, hr, Option.bind_some, hm, Option.bind_some, hs, Option.bind_some]
    have e2 : m_name_SimpleName s = some (s.drop (n + 1)) := by
      have e : IntKind.wrap .i64 ((n : Int) + 1) = (n : Int) + 1 := by rw [wrap64]; omega
      have hs : sub s ((n : Int) + 1) (s.length : Int) = some (s.drop (n + 1)) := by
        unfold sub; rw [if_pos (by omega), show ((n : Int) + 1).toNat = n + 1 by omega, List.take_of_length_le (by simp)]
      simp only [m_name_SimpleName, split_same, hr, Option.bind_some, e, hs]
    obtain ⟨p, hp⟩ : ∃ p, p = s.take n := ⟨_, rfl⟩
    obtain ⟨l, hld⟩ : ∃ l, l = s.drop (n + 1) := ⟨_, rfl⟩
    rw [← hp] at e1 hsplit
    rw [← hld] at e2 hsplit hnm
    rw [e1, Option.bind_some, e2, Option.bind_some, contains_slash l hnm, Option.bind_some, if_neg (by decide)]
    have hlen : s.length = p.length + 1 + l.length := by rw [hsplit]; simp; omega
    by_cases hpe : p = []
    · have e3 : m_name_Join p l = some l := by rw [hpe]; rfl
      have hne : ¬ (l = s) := fun e => by rw [e] at hlen; omega
      have e4 : catK [47] l = some s := by
        rw [catK_ok (by simp; omega), hsplit, hpe]; rfl
      rw [e3, Option.bind_some, if_pos (by simp [hne]), e4, Option.bind_some, if_neg (by simp)]
      unfold j5x1
      have hf : okC true s = false := by rw [hsplit, hpe]; simp [okC]
      rw [awake3, Option.bind_some, if_pos rfl, isClass s hl, Option.bind_some, hf, Bool.and_false, if_pos (by rfl)]
    · have e3 : m_name_Join p l = some s := by
        unfold m_name_Join
        rw [if_neg (by simpa using hpe), catK_ok (by simp; omega), Option.bind_some, catK_ok (by simp; omega), Option.bind_some]
        congr 1; rw [hsplit]; simp
      rw [e3, Option.bind_some, if_neg (by simp)]
      unfold j5x1
      rw [awake3, Option.bind_some, if_pos rfl, isClass s hl, Option.bind_some]
      by_cases hok : (decide (s.length ≤ 64) && okC true s) = true
      · have hk : s.length ≤ 64 ∧ okC true s = true := by simpa using hok
        have hk2 := hk.2
        rw [hsplit, okC_split] at hk2
        have hk3 : okC true p = true ∧ okC true l = true := by simpa using hk2
        obtain ⟨m1, v, m2, m3⟩ := member_of l (by omega) hk3.2 hnm
        have hcp : m_name_IsClassName p = some true := by
          rw [isClass p (by omega), hk3.1, decide_eq_true (by omega)]; rfl
        rw [hok, if_neg (by decide), e3, Option.bind_some, if_pos (by simp), if_neg (by simpa using hpe), hcp, Option.bind_some, if_pos rfl, m1, Option.bind_some, if_pos rfl, m2, Option.bind_some, m3]
      · have hf : (decide (s.length ≤ 64) && okC true s) = false := by simpa using hok
        rw [hf, if_pos (by rfl)]
end Go.Proofs
