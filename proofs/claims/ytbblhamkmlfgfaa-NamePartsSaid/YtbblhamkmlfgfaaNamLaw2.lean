/-
  What the models of name's functions come to: slashes, packages, simple names, joins.
-/
import Derived.Test.YtbblhamkmlfgfaaNamLaw
namespace Go.Proofs
open Go.Den

theorem getS_u8 {s : List UInt8} {i v : Int} (h : getS s i = some v) : ∃ c : UInt8, s[i.toNat]? = some c ∧ v = (c.toNat : Int) ∧ 0 ≤ i ∧ i < s.length := by
  unfold getS at h
  split at h
  · rename_i h0
    cases hc : s[i.toNat]? with
    | none => rw [hc] at h; cases h
    | some c =>
      rw [hc] at h
      simp at h
      have : i.toNat < s.length := (List.getElem?_eq_some_iff.1 hc).1
      exact ⟨c, rfl, h.symm, h0, by omega⟩
  · cases h
theorem getS_ok {s : List UInt8} {i : Int} (h0 : 0 ≤ i) (h1 : i < s.length) : ∃ c : UInt8, s[i.toNat]? = some c ∧ getS s i = some (c.toNat : Int) := by
  have hlt : i.toNat < s.length := by omega
  refine ⟨s[i.toNat], List.getElem?_eq_getElem hlt, ?_⟩
  unfold getS; rw [if_pos h0, List.getElem?_eq_getElem hlt]; rfl

/-- The two loops that look for the last slash are one. -/
theorem slash_same (s : List UInt8) : m_armatureref03_slash s = m_internal_bytealg_LastIndexByteString s 47 := by
  have h : l26x1 s = l34x1 s 47 := by
    funext t; unfold l26x1 l34x1; rfl
  unfold m_armatureref03_slash m_internal_bytealg_LastIndexByteString
  rw [h]
theorem split_same (s : List UInt8) : m_name_split s = m_armatureref03_slash s := by
  rw [slash_same]; simp [m_name_split, m_strings_LastIndexByte]

/-- The last slash: -1, or a place. -/
theorem slash_some (s : List UInt8) (hl : (s.length : Int) ≤ 140737488355328) : ∃ r : Int, m_armatureref03_slash s = some r ∧ ((r = -1 ∧ ∀ j : Nat, s[j]? ≠ some 47) ∨ (0 ≤ r ∧ r < s.length ∧ s[r.toNat]? = some 47 ∧ ∀ j : Nat, r < j → s[j]? ≠ some 47)) := by
  have e0 : IntKind.wrap .i64 ((s.length : Int) - 1) = (s.length : Int) - 1 := by rw [wrap64]; omega
  obtain ⟨q, hq, hp⟩ := loopM_ind (f := l26x1 s) (fun t : Int => -1 ≤ t ∧ t < s.length ∧ ∀ j : Nat, t < j → s[j]? ≠ some 47) (fun t => (t + 1).toNat)
    (fun q => match q with
      | .inl _ => ∀ j : Nat, s[j]? ≠ some 47
      | .inr r => 0 ≤ r ∧ r < s.length ∧ s[r.toNat]? = some 47 ∧ ∀ j : Nat, r < j → s[j]? ≠ some 47)
    (fun t ht => by
      obtain ⟨h0, h1, h2⟩ := ht
      unfold l26x1
      by_cases h : 0 ≤ t
      · obtain ⟨c, hc, hg⟩ := getS_ok h h1
        have e1 : IntKind.wrap .i64 (t - 1) = t - 1 := by rw [wrap64]; omega
        by_cases h47 : c = 47
        · subst h47
          refine ⟨.done (.inr t), ?_, h, h1, hc, h2⟩
          simp [h, hg]
        · have hne : ¬ ((c.toNat : Int) = 47) := fun e => h47 (UInt8.toNat_inj.1 (by show c.toNat = 47; omega))
          refine ⟨.next (t - 1), ?_, ⟨by omega, by omega, fun j hj => ?_⟩, by omega⟩
          · simp [h, hg, hne, e1]
          · by_cases hjt : (j : Int) = t
            · rw [show j = t.toNat by omega, hc]; simpa using h47
            · exact h2 j (by omega)
      · refine ⟨.done (.inl ()), by simp [h], fun j => h2 j (by omega)⟩)
    rounds ((s.length : Int) - 1) ⟨by omega, by omega, fun j hj => by rw [List.getElem?_eq_none (by omega)]; simp⟩ (by unfold rounds; omega)
  unfold m_armatureref03_slash
  rw [e0]
  cases q with
  | inl u => exact ⟨-1, by simp [hq], .inl ⟨rfl, hp⟩⟩
  | inr r => exact ⟨r, by simp [hq], .inr hp⟩

theorem package_same (s : List UInt8) (hl : (s.length : Int) ≤ 140737488355328) : ∃ p, m_name_Package s = some p ∧ m_armatureref03_Package s = some p := by
  obtain ⟨r, hr, h⟩ := slash_some s hl
  rcases h with ⟨rfl, -⟩ | ⟨h0, h1, -, -⟩
  · refine ⟨[], ?_, by simp [m_armatureref03_Package, hr]⟩
    have : sub s 0 0 = some [] := sub_take s 0 (by omega)
    simp [m_name_Package, split_same, hr, this]
  · obtain ⟨n, rfl⟩ := Int.eq_ofNat_of_zero_le h0
    have hs : sub s 0 (n : Int) = some (s.take n) := sub_take s n (by omega)
    have hm : (if (n : Int) > 0 then (n : Int) else 0) = n := by split <;> omega
    have hn : ¬ (n : Int) < 0 := by omega
    refine ⟨s.take n, ?_, ?_⟩
    · unfold m_name_Package
      rw [split_same, hr, Option.bind_some, hm, Option.bind_some, hs, Option.bind_some]
    · unfold m_armatureref03_Package
      rw [hr, Option.bind_some, if_neg (by simp), hs, Option.bind_some]
theorem simple_same (s : List UInt8) (hl : (s.length : Int) ≤ 140737488355328) : ∃ p, m_name_SimpleName s = some p ∧ m_armatureref03_SimpleName s = some p := by
  obtain ⟨r, hr, h⟩ := slash_some s hl
  have h0 : -1 ≤ r ∧ r < s.length ∨ r = -1 := by rcases h with ⟨rfl, -⟩ | ⟨h0, h1, -, -⟩ <;> omega
  have e : IntKind.wrap .i64 (r + 1) = r + 1 := by rw [wrap64]; omega
  have hs : sub s (r + 1) (s.length : Int) = some ((s.drop (r + 1).toNat).take ((s.length : Int).toNat - (r + 1).toNat)) := by
    unfold sub; rw [if_pos (by omega)]
  exact ⟨(s.drop (r + 1).toNat).take ((s.length : Int).toNat - (r + 1).toNat), by simp only [m_name_SimpleName, split_same, hr, Option.bind_some, e, hs], by simp only [m_armatureref03_SimpleName, hr, Option.bind_some, e, hs]⟩
theorem join_same (a b : List UInt8) : m_name_Join a b = m_armatureref03_Join a b := rfl
theorem join_some (a b : List UInt8) (h : a.length + b.length ≤ 1000000) : ∃ p, m_name_Join a b = some p := by
  unfold m_name_Join
  split
  · exact ⟨_, rfl⟩
  · exact ⟨a ++ [47] ++ b, by rw [catK_ok (by simp; omega), Option.bind_some, catK_ok (by simp; omega), Option.bind_some]⟩
end Go.Proofs
