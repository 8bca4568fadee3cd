/-
  The model of the law DescCanonical answers true. No condition.
-/
import Derived.Test.YtbkfbbghkbmkaaaDesL6
import Derived.Test.YtbkfbbghkbmkaaaDesLaw5
namespace Go.Proofs
open Go.Den

theorem can_3 : j6x3 = some true := by unfold j6x3; rw [works4]; rfl
theorem can_parse (s : List UInt8) (h : (parseF s).2 = 0) : validB (parseF s).1 = true ∧ fmt (parseF s).1 = s := by
  unfold parseF at h ⊢
  cases hr : rd s with
  | none => rw [hr] at h; exact absurd h (by decide)
  | some x =>
    obtain ⟨t, r⟩ := x
    obtain ⟨g1, g2, -, -⟩ := rd_spec hr
    cases r with
    | nil => rw [List.append_nil] at g2; exact ⟨g1, g2.symm⟩
    | cons c r => rw [hr] at h; dsimp only at h; exact absurd h (by decide)
theorem can_2 (s : List UInt8) (hl : s.length ≤ 3000) : j6x2 s = some true := by
  unfold j6x2
  rw [pcc_desc s (by omega), can_3]
  simp only [Option.bind_some]
  by_cases h : (pccF s).2 = 0
  · rw [if_pos (by simpa using h)]
    rw [show ({ f_Dim := (pccF s).1.f_Dim, f_Base := (pccF s).1.f_Base, f_Name := (pccF s).1.f_Name } : T_api_Type) = (pccF s).1 from rfl]
    have key : (((pccF s).1.f_Name.length : Int) ≤ 140737488355328) ∧ fccF (pccF s).1 = (s, 0) := by
      unfold pccF at h ⊢
      cases hc : clsB s with
      | true =>
        simp only [if_true]
        refine ⟨by omega, ?_⟩
        have hv : validB { f_Dim := 0, f_Base := 76, f_Name := s } = true := by simp [validB, hc]
        unfold fccF
        rw [if_pos hv, if_neg (by simp), if_pos rfl]
      | false =>
        rw [hc] at h
        simp only [Bool.false_eq_true, if_false] at h ⊢
        split at h
        · rename_i r
          obtain ⟨k1, k2⟩ := can_parse _ h
          have hd : (parseF (91 :: r)).1.f_Dim > 0 := by
            have h0 := (valid_facts k1).1
            rcases Nat.eq_zero_or_pos (parseF (91 :: r)).1.f_Dim.toNat with hz | hz
            · have k3 := k2
              unfold fmt at k3
              rw [hz] at k3
              simp only [List.replicate_zero, List.nil_append] at k3
              injection k3 with k4 _
              rcases (valid_facts k1).2.2.1 with ⟨hb, -⟩ | ⟨hb, -⟩ | ⟨hb, -⟩ | ⟨hb, -⟩ <;> rw [hb] at k4 <;> exact absurd k4 (by decide)
            · omega
          refine ⟨by have := (valid_facts k1).2.2.2; omega, ?_⟩
          unfold fccF
          rw [if_pos k1, if_pos hd, k2]
        · exact absurd h (by decide)
    rw [fcc_desc _ key.1, key.2]
    simp only [Option.bind_some]
    rw [if_neg (by simp), if_neg (by decide)]
  · rw [if_neg (by simpa using h)]
theorem can_1 (s : List UInt8) (hl : s.length ≤ 3000) : j6x1 s = some true := by
  unfold j6x1
  obtain ⟨v, h1, -, h2, -⟩ := sig_same s (by omega)
  rw [h1, can_2 s hl]
  simp only [Option.bind_some]
  by_cases h : v.2 = 0
  · obtain ⟨k1, k2, k3⟩ := h2 h
    rw [if_pos (by simpa using h)]
    rw [show ({ f_Params := v.1.f_Params, f_Result := ({ f_Dim := v.1.f_Result.f_Dim, f_Base := v.1.f_Result.f_Base, f_Name := v.1.f_Result.f_Name } : T_api_Type) } : T_api_Sig) = v.1 from rfl, fsig_desc v.1 k2 k3, k1]
    simp only [Option.bind_some]
    rw [if_neg (by simp), if_neg (by decide)]
  · rw [if_neg (by simpa using h)]

theorem law_DescCanonical (s : List UInt8) : m_armaturelaw04_DescCanonical s = some true := by
  unfold m_armaturelaw04_DescCanonical
  rw [works4]
  by_cases h : (s.length : Int) > 3000
  · rw [if_pos (decide_eq_true h)]; rfl
  · rw [if_neg (by simpa using h), parse_desc s (by omega), can_1 s (by omega)]
    simp only [Option.bind_some]
    by_cases h0 : (parseF s).2 = 0
    · obtain ⟨k1, k2⟩ := can_parse s h0
      rw [if_pos (by simpa using h0)]
      rw [show ({ f_Dim := (parseF s).1.f_Dim, f_Base := (parseF s).1.f_Base, f_Name := (parseF s).1.f_Name } : T_api_Type) = (parseF s).1 from rfl, format_desc _ (by have := (valid_facts k1).2.2.2; omega), if_pos k1, k2]
      simp only [Option.bind_some]
      rw [if_neg (by simp), if_neg (by decide)]
    · rw [if_neg (by simpa using h0)]

end Go.Proofs
