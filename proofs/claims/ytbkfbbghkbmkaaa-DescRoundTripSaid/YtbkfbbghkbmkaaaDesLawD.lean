/-
  The model of the law DescRoundTrip answers true. No condition.
-/
import Derived.Test.YtbkfbbghkbmkaaaDesL8
import Derived.Test.YtbkfbbghkbmkaaaDesLaw4
namespace Go.Proofs
open Go.Den

theorem parse_fmt {t : T_api_Type} (h : validB t = true) : parseF (fmt t) = (t, 0) := by
  have := rd_fmt h []
  rw [List.append_nil] at this
  unfold parseF
  rw [this]
theorem cls_name {t : T_api_Type} (h : validB t = true) (hb : t.f_Base = 76) : clsB t.f_Name = true := by
  rcases (valid_facts h).2.2.1 with ⟨h1, -⟩ | ⟨h1, -⟩ | ⟨h1, -⟩ | ⟨-, h2⟩
  · rw [hb] at h1; cases h1
  · rw [hb] at h1; cases h1
  · rw [hb] at h1; cases h1
  · exact h2
theorem cls_91 (r : List UInt8) : clsB (91 :: r) = false := by
  have := okC_bad [] r 91 true (by decide) (by decide) (by decide)
  unfold clsB
  rw [show okC true (91 :: r) = false from this, Bool.and_false]
theorem fmt_91 {t : T_api_Type} (h : t.f_Dim > 0) : ∃ r, fmt t = 91 :: r := by
  unfold fmt
  rw [show t.f_Dim.toNat = (t.f_Dim.toNat - 1) + 1 by omega, List.replicate_succ, List.cons_append]
  exact ⟨_, rfl⟩

theorem trip_3 : j8x3 = some true := by unfold j8x3; rw [works4]; rfl
theorem trip_2 (t : T_api_Type) (hv : validB t = true) : j8x2 t = some true := by
  have hl : (t.f_Name.length : Int) ≤ 140737488355328 := by have := (valid_facts hv).2.2.2; omega
  obtain ⟨h0, h8, hb, -⟩ := valid_facts hv
  unfold j8x2
  rw [ar_desc t hl, trip_3]
  unfold arF
  rw [if_pos hv]
  by_cases h86 : t.f_Base = 86
  · rw [if_pos h86]; rfl
  · rw [if_neg h86]
    by_cases hd : t.f_Dim = 8
    · rw [if_pos hd]; rfl
    · rw [if_neg hd]
      have hv2 : validB { t with f_Dim := t.f_Dim + 1 } = true := by
        unfold validB at hv ⊢
        simp only [Bool.and_eq_true, Bool.or_eq_true, decide_eq_true_eq, beq_iff_eq] at hv ⊢
        obtain ⟨-, h3⟩ := hv
        refine ⟨⟨by omega, by omega⟩, ?_⟩
        rcases h3 with (h3 | ⟨⟨h3, -⟩, -⟩) | h3
        · exact .inl (.inl h3)
        · exact absurd h3 h86
        · exact .inr h3
      simp only [Option.bind_some, beq_self_eq_true, if_true]
      rw [el_desc _ (by exact hl)]
      unfold elF
      rw [if_pos hv2, if_neg (by show ¬ t.f_Dim + 1 = 0; omega)]
      simp only [Option.bind_some]
      rw [show ({ f_Dim := t.f_Dim + 1 - 1, f_Base := t.f_Base, f_Name := t.f_Name } : T_api_Type) = t by rw [show t.f_Dim + 1 - 1 = t.f_Dim by omega], eqb_refl]
      rfl

theorem trip_1 (t : T_api_Type) (hv : validB t = true) : j8x1 t = some true := by
  have hl : (t.f_Name.length : Int) ≤ 140737488355328 := by have := (valid_facts hv).2.2.2; omega
  obtain ⟨h0, h8, hb, -⟩ := valid_facts hv
  have hfl := (fmt_len hv).1
  unfold j8x1
  rw [fcc_desc t hl, trip_2 t hv]
  unfold fccF
  rw [if_pos hv]
  by_cases hd : t.f_Dim > 0
  · rw [if_pos hd]
    simp only [Option.bind_some, beq_self_eq_true, if_true]
    rw [pcc_desc _ (by omega)]
    obtain ⟨r, hr⟩ := fmt_91 hd
    have hp := parse_fmt hv
    unfold pccF
    rw [hr] at hp ⊢
    rw [cls_91, if_neg (by simp)]
    rw [hp]
    simp only [Option.bind_some]
    rw [show ({ f_Dim := t.f_Dim, f_Base := t.f_Base, f_Name := t.f_Name } : T_api_Type) = t from rfl, eqb_refl]
    rfl
  · rw [if_neg hd]
    by_cases h76 : t.f_Base = 76
    · rw [if_pos h76]
      simp only [Option.bind_some, beq_self_eq_true, if_true]
      rw [pcc_desc _ hl]
      unfold pccF
      rw [if_pos (cls_name hv h76)]
      simp only [Option.bind_some]
      rw [show ({ f_Dim := 0, f_Base := 76, f_Name := t.f_Name } : T_api_Type) = t by
        obtain ⟨d, b, n⟩ := t
        dsimp only at h0 hd h76
        rw [show d = 0 by omega, h76], eqb_refl]
      rfl
    · rw [if_neg h76]; rfl

theorem law_DescRoundTrip (t : T_api_Type) : m_armaturelaw04_DescRoundTrip t = some true := by
  unfold m_armaturelaw04_DescRoundTrip
  rw [works4]
  by_cases h : (t.f_Name.length : Int) > 500
  · rw [if_pos (decide_eq_true h)]; rfl
  · have hl : (t.f_Name.length : Int) ≤ 140737488355328 := by omega
    rw [if_neg (by simpa using h), format_desc t hl, valid_desc t hl]
    cases hv : validB t with
    | false => rfl
    | true =>
      have hfl := (fmt_len hv).1
      simp only [if_true, Option.bind_some]
      rw [if_neg (by decide), parse_desc _ (by omega), parse_fmt hv]
      simp only [Option.bind_some]
      rw [show ({ f_Dim := t.f_Dim, f_Base := t.f_Base, f_Name := t.f_Name } : T_api_Type) = t from rfl, eqb_refl, if_neg (by decide), if_neg (by decide), if_neg (by decide)]
      exact trip_1 t hv

end Go.Proofs
