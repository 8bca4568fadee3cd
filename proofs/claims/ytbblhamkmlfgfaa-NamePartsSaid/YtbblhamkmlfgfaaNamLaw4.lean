/-
  What the models of name's laws come to: validity.
-/
import Derived.Test.YtbblhamkmlfgfaaNamLaw3
namespace Go.Proofs
open Go.Den

theorem ref_class (s : List UInt8) (hl : (s.length : Int) ≤ 140737488355328) : m_armatureref03_IsClassName s = some (decide (s.length ≤ 64) && okC true s) := by
  unfold m_armatureref03_IsClassName
  by_cases h64 : (s.length : Int) > 64
  · rw [if_pos (decide_eq_true h64)]
    have : decide (s.length ≤ 64) = false := decide_eq_false (by omega)
    rw [this]; rfl
  rw [if_neg (by simpa using h64)]
  have h64' : decide (s.length ≤ 64) = true := decide_eq_true (by omega)
  rw [h64', Bool.true_and]
  obtain ⟨q, hq, hp⟩ := loopM_ind (f := l9x1 s) (fun t : Int × Int => 0 ≤ t.1 ∧ t.1 ≤ t.2 ∧ t.2 ≤ s.length ∧ (∀ j : Nat, t.1 ≤ j → (j : Int) < t.2 → s[j]? ≠ some 47) ∧ okC true s = okC true (s.drop t.1.toNat)) (fun t => ((s.length : Int) - t.2).toNat)
    (fun q => match q with
      | .inl a => 0 ≤ a ∧ a ≤ (s.length : Int) ∧ (∀ j : Nat, a ≤ j → s[j]? ≠ some 47) ∧ okC true s = okC true (s.drop a.toNat)
      | .inr r => okC true s = r)
    (fun t ht => by
      obtain ⟨a, i⟩ := t
      obtain ⟨h0, h1, h2, h3, h4⟩ := ht
      dsimp only at h0 h1 h2 h3 h4
      unfold l9x1
      by_cases h : i < s.length
      · obtain ⟨c, hc, hg⟩ := getS_ok (by omega) h
        have e1 : IntKind.wrap .i64 (i + 1) = i + 1 := by rw [wrap64]; omega
        by_cases hs : c = 47
        · subst hs
          have hsub : sub s a i = some ((s.drop a.toNat).take (i.toNat - a.toNat)) := by
            unfold sub; rw [if_pos (by omega)]
          obtain ⟨p, hpd⟩ : ∃ p, p = (s.drop a.toNat).take (i.toNat - a.toNat) := ⟨_, rfl⟩
          have hpl : (p.length : Int) ≤ 140737488355328 := by rw [hpd]; simp; omega
          have hsplit : s.drop a.toNat = p ++ 47 :: s.drop (i + 1).toNat := by
            have e2 : (s.drop a.toNat).drop (i.toNat - a.toNat) = 47 :: s.drop (i + 1).toNat := by
              rw [List.drop_drop, show a.toNat + (i.toNat - a.toNat) = i.toNat by omega, drop_get hc]
              congr 2; omega
            rw [← e2, hpd, List.take_append_drop]
          have hno : (47 : UInt8) ∉ p := fun hm => by
            obtain ⟨k, hk⟩ := List.getElem?_of_mem hm
            rw [hpd, List.getElem?_take] at hk
            split at hk
            · rw [List.getElem?_drop] at hk
              exact h3 (a.toNat + k) (by omega) (by omega) hk
            · cases hk
          have hpart := okC_part p (s.drop (i + 1).toNat) true hno
          rw [hsplit, hpart] at h4
          cases hok : okP true p with
          | false =>
            refine ⟨.done (.inr false), ?_, ?_⟩
            · simp [h, hg, hsub, ← hpd, part_eq p hpl, hok]
            · show okC true s = false
              rw [h4, hok]; rfl
          | true =>
            refine ⟨.next (i + 1, i + 1), ?_, ⟨by dsimp only; omega, by dsimp only; omega, by dsimp only; omega, fun j hj hj2 => ?_, ?_⟩, by dsimp only; omega⟩
            · simp [h, hg, hsub, ← hpd, part_eq p hpl, hok, e1]
            · dsimp only at hj hj2; omega
            · dsimp only; rw [h4, hok, Bool.true_and]
        · have hn : ¬ ((c.toNat : Int) = 47) := fun e => hs (UInt8.toNat_inj.1 (by show c.toNat = 47; omega))
          refine ⟨.next (a, i + 1), by simp [h, hg, hn, e1], ⟨by dsimp only; omega, by dsimp only; omega, by dsimp only; omega, fun j hj hj2 => ?_, h4⟩, by dsimp only; omega⟩
          dsimp only at hj hj2
          by_cases hji : (j : Int) = i
          · rw [show j = i.toNat by omega, hc]; simpa using hs
          · exact h3 j hj (by omega)
      · refine ⟨.done (.inl a), by simp [h], h0, by omega, fun j hj => ?_, h4⟩
        by_cases hji : (j : Int) < i
        · exact h3 j hj hji
        · rw [List.getElem?_eq_none (by omega)]; simp)
    rounds (0, 0) ⟨by dsimp only; omega, by dsimp only; omega, by dsimp only; omega, fun j hj hj2 => by dsimp only at hj hj2; omega, by simp⟩ (by unfold rounds; dsimp only; omega)
  cases q with
  | inl a =>
    obtain ⟨k0, k1, k2, k3⟩ := hp
    have hsub : sub s a (s.length : Int) = some (s.drop a.toNat) := by
      unfold sub; rw [if_pos (by omega)]
      congr 1
      rw [List.take_of_length_le (by simp)]
    have hno : (47 : UInt8) ∉ s.drop a.toNat := fun hm => by
      obtain ⟨k, hk⟩ := List.getElem?_of_mem hm
      rw [List.getElem?_drop] at hk
      exact k2 (a.toNat + k) (by omega) hk
    have hpl : ((s.drop a.toNat).length : Int) ≤ 140737488355328 := by simp; omega
    simp only [hq, Option.bind_some, hsub, part_eq _ hpl]
    rw [k3, okC_last _ true hno]
  | inr r => simp only [hq, Option.bind_some]; exact congrArg some hp.symm

theorem indexByte_none : ∀ (l : List UInt8) (c : UInt8), (Lib.indexByte l c < 0) ↔ c ∉ l
  | [], c => by simp [Lib.indexByte]
  | b :: l, c => by
    have ih := indexByte_none l c
    have hge := Lib.indexByte_ge l c
    unfold Lib.indexByte
    by_cases hb : b = c
    · subst hb; simp
    · have hb' : (b == c) = false := by simpa using hb
      have hne : ¬ c = b := fun e => hb e.symm
      rw [hb']
      simp only [Bool.false_eq_true, if_false, List.mem_cons, hne, false_or]
      rw [← ih]
      by_cases h1 : Lib.indexByte l c = -1
      · rw [h1]; simp
      · rw [if_neg (by simpa using h1)]; omega
theorem okP_slash : ∀ (l : List UInt8) (b : Bool), (47 : UInt8) ∈ l → okP b l = false
  | c :: l, b, h => by
    unfold okP
    by_cases hc : c = 47
    · subst hc; rw [if_neg (by decide), if_neg (by decide)]
    · have hm : (47 : UInt8) ∈ l := by
        rcases List.mem_cons.1 h with h | h
        · exact absurd h.symm hc
        · exact h
      rw [okP_slash l false hm]
      simp

theorem member_same (s : List UInt8) (hl : (s.length : Int) ≤ 140737488355328) : ∃ b, m_name_IsMemberName s = some b ∧ m_armatureref03_IsMemberName s = some b := by
  unfold m_name_IsMemberName m_armatureref03_IsMemberName
  by_cases h1 : s = [60, 105, 110, 105, 116, 62]
  · exact ⟨true, by rw [if_pos (by simpa using h1)], by rw [if_pos (by simpa using h1)]⟩
  rw [if_neg (c := (s == [60, 105, 110, 105, 116, 62]) = true) (by simpa using h1)]
  by_cases h2 : s = [60, 99, 108, 105, 110, 105, 116, 62]
  · exact ⟨true, by rw [if_pos (by simpa using h2)], by rw [if_neg (by simpa using h1), if_pos (by simpa using h2)]⟩
  rw [if_neg (c := (s == [60, 99, 108, 105, 110, 105, 116, 62]) = true) (by simpa using h2)]
  have hidx : m_strings_IndexByte s 47 = some (Lib.indexByte s 47) := rfl
  have hpart := part_eq s hl
  unfold j10x1
  rw [isClass s hl, Option.bind_some, hidx]
  by_cases h64 : s.length ≤ 64
  · have h64' : ((s.length : Int) ≤ 64) := by omega
    by_cases hm : (47 : UInt8) ∈ s
    · have hneg : ¬ Lib.indexByte s 47 < 0 := fun h => (indexByte_none s 47).1 h hm
      refine ⟨false, ?_, ?_⟩
      · by_cases hok : (decide (s.length ≤ 64) && okC true s) = true
        · rw [if_pos hok, Option.bind_some]; exact congrArg some (decide_eq_false hneg)
        · rw [if_neg hok]
      · simp [h1, h2, h64', hpart, okP_slash s true hm]
    · have hneg : Lib.indexByte s 47 < 0 := (indexByte_none s 47).2 hm
      refine ⟨okP true s, ?_, by simp [h1, h2, h64', hpart]⟩
      rw [okC_last s true hm, decide_eq_true h64, Bool.true_and]
      cases okP true s with
      | true => rw [if_pos rfl, Option.bind_some]; exact congrArg some (decide_eq_true hneg)
      | false => rfl
  · have h64' : ¬ ((s.length : Int) ≤ 64) := by omega
    refine ⟨false, ?_, by simp [h1, h2, h64']⟩
    rw [decide_eq_false h64]; rfl
end Go.Proofs
