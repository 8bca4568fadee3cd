/-
  Both checks of a constant and of a pool answer the same. No condition.
-/
import Derived.Test.YtcppeincgkalbaaPooLaw5
import Derived.Test.YtcppeincgkalbaaPooLaw2
namespace Go.Proofs
open Go.Den

/-- Links, then texts. -/
def tailF (p : List T_api_Const) (c : T_api_Const) (a b e : Int) : Int := if a ≠ 0 ∧ (getF p c.f_A a).2 ≠ 0 then (getF p c.f_A a).2 else if b ≠ 0 ∧ (getF p c.f_B b).2 ≠ 0 then (getF p c.f_B b).2 else e

theorem chk_gen (p : List T_api_Const) (c : T_api_Const) (a b e : Int) (hl : p.length ≤ 1000000) (hk : m_pool_links c.f_Tag = some (a, b, true)) (hK : m_armatureref05_Known c.f_Tag = some true) (hf : m_armatureref05_formed c = some (!badU c a b))
    (ht : m_pool_texts p c = some e) (hr : j37x1 p c = some (tailF p c a b e)) : ∃ v, m_pool_check p c = some v ∧ m_armatureref05_checkConst p c = some v ∧ 0 ≤ v ∨ (m_pool_check p c = some v ∧ m_armatureref05_checkConst p c = some v) := by
  unfold m_pool_check m_armatureref05_checkConst
  rw [hk, hK]
  simp only [Option.bind_some, Bool.not_true, Bool.false_eq_true, if_false]
  rw [unused_pool, hf, tail_pool p c a b true hl e ht, hr]
  simp only [Option.bind_some, wrap32_ne]
  unfold tailF
  cases badU c a b with
  | true => exact ⟨4, .inr ⟨rfl, rfl⟩⟩
  | false =>
    cases (c.f_Tag == 1) <;> cases decide ((c.f_S.length : Int) > 1024) <;> cases (c.f_Tag == 3) <;> cases decide (c.f_N < -2147483648) <;> cases decide (c.f_N > 2147483647) <;> exact ⟨_, .inr ⟨rfl, rfl⟩⟩

theorem chk_gen' {p : List T_api_Const} {c : T_api_Const} (a b e : Int) (hl : p.length ≤ 1000000) (hk : m_pool_links c.f_Tag = some (a, b, true)) (hK : m_armatureref05_Known c.f_Tag = some true) (hf : m_armatureref05_formed c = some (!badU c a b))
    (ht : m_pool_texts p c = some e) (hr : j37x1 p c = some (tailF p c a b e)) : ∃ v, m_pool_check p c = some v ∧ m_armatureref05_checkConst p c = some v := by
  obtain ⟨v, h | h⟩ := chk_gen p c a b e hl hk hK hf ht hr
  · exact ⟨v, h.1, h.2.1⟩
  · exact ⟨v, h⟩

theorem check_same (p : List T_api_Const) (c : T_api_Const) (hp : shortP p) : ∃ v, m_pool_check p c = some v ∧ m_armatureref05_checkConst p c = some v := by
  have hl : p.length ≤ 1000000 := by have := hp.1; omega
  have hshort := fun i => utf_short hp i
  have mem0 : ∀ {t : Int}, memB t = false → c.f_Tag = t → m_armatureref05_member c.f_Tag = some false := fun h e => by rw [mem_ref, e, h]
  have mem1 : ∀ {t : Int}, memB t = true → c.f_Tag = t → m_armatureref05_member c.f_Tag = some true := fun h e => by rw [mem_ref, e, h]
  by_cases t1 : c.f_Tag = 1
  · refine chk_gen' 0 0 0 hl (by rw [t1]; rfl) (by rw [t1]; rfl) (by rw [formed_ref]; simp only [badU, t1, memB]; (unfold bne; cases c.f_A == 0 <;> cases c.f_B == 0 <;> cases c.f_N == 0 <;> cases c.f_S == ([] : List UInt8) <;> rfl)) (by unfold m_pool_texts j49x1; rw [t1]; rfl) (by unfold j37x1 tailF; rw [t1]; rfl)
  by_cases t3 : c.f_Tag = 3
  · refine chk_gen' 0 0 0 hl (by rw [t3]; rfl) (by rw [t3]; rfl) (by rw [formed_ref]; simp only [badU, t3, memB]; (unfold bne; cases c.f_A == 0 <;> cases c.f_B == 0 <;> cases c.f_N == 0 <;> cases c.f_S == ([] : List UInt8) <;> rfl)) (by unfold m_pool_texts j49x1; rw [t3]; rfl) (by unfold j37x1 tailF; rw [t3]; rfl)
  by_cases t5 : c.f_Tag = 5
  · refine chk_gen' 0 0 0 hl (by rw [t5]; rfl) (by rw [t5]; rfl) (by rw [formed_ref]; simp only [badU, t5, memB]; (unfold bne; cases c.f_A == 0 <;> cases c.f_B == 0 <;> cases c.f_N == 0 <;> cases c.f_S == ([] : List UInt8) <;> rfl)) (by unfold m_pool_texts j49x1; rw [t5]; rfl) (by unfold j37x1 tailF; rw [t5]; rfl)
  by_cases t7 : c.f_Tag = 7
  · have hpl := hshort c.f_A
    refine chk_gen' 1 0 (if (pccF (utfF p c.f_A).1).2 ≠ 0 then 13 else 0) hl (by rw [t7]; rfl) (by rw [t7]; rfl) (by rw [formed_ref]; simp only [badU, t7, memB]; (unfold bne; cases c.f_A == 0 <;> cases c.f_B == 0 <;> cases c.f_N == 0 <;> cases c.f_S == ([] : List UInt8) <;> rfl)) ?_ ?_
    · unfold m_pool_texts
      rw [if_pos (by simpa using t7), utf_pool p _ hl]
      simp only [Option.bind_some]
      rw [pcc_desc _ (by omega)]
      simp only [Option.bind_some]
      by_cases h : (pccF (utfF p c.f_A).1).2 = 0 <;> simp [h]
    · unfold j37x1 j37x2 m_armatureref05_both
      rw [mem0 (by decide) t7]
      simp only [Option.bind_some, Bool.false_eq_true, if_false]
      rw [both_ref p c 1 1 hl]
      unfold m_armatureref05_contents j53x1 j53x2
      rw [mem0 (by decide) t7, utf_ref p _ hl]
      simp only [Option.bind_some]
      rw [pcc_ref _ (by omega)]
      simp only [Option.bind_some]
      unfold tailF
      by_cases h1 : (getF p c.f_A 1).2 = 0 <;> by_cases h : (pccF (utfF p c.f_A).1).2 = 0 <;> simp [h1, h, t7]
  by_cases t8 : c.f_Tag = 8
  · refine chk_gen' 1 0 0 hl (by rw [t8]; rfl) (by rw [t8]; rfl) (by rw [formed_ref]; simp only [badU, t8, memB]; (unfold bne; cases c.f_A == 0 <;> cases c.f_B == 0 <;> cases c.f_N == 0 <;> cases c.f_S == ([] : List UInt8) <;> rfl)) (by unfold m_pool_texts j49x1; rw [t8]; rfl) ?_
    unfold j37x1 j37x2 m_armatureref05_both
    rw [mem0 (by decide) t8]
    simp only [Option.bind_some, Bool.false_eq_true, if_false]
    rw [both_ref p c 1 1 hl]
    unfold m_armatureref05_contents j53x1 j53x2
    rw [mem0 (by decide) t8]
    simp only [Option.bind_some]
    unfold tailF
    by_cases h1 : (getF p c.f_A 1).2 = 0 <;> simp [h1, t8]
  by_cases t12 : c.f_Tag = 12
  · have hpl := hshort c.f_A
    have hpl2 := hshort c.f_B
    obtain ⟨nb, n1, n2⟩ := member_same (utfF p c.f_A).1 (by omega)
    obtain ⟨v, s1, s2⟩ := descr_same (utfF p c.f_B).1 hpl2
    refine chk_gen' 1 1 (if nb = false then 12 else if ((v.2 != 0) && (((parseF (utfF p c.f_B).1).2 != 0) || ((parseF (utfF p c.f_B).1).1.f_Base == 86))) = true then 13 else 0) hl (by rw [t12]; rfl) (by rw [t12]; rfl) (by rw [formed_ref]; simp only [badU, t12, memB]; (unfold bne; cases c.f_A == 0 <;> cases c.f_B == 0 <;> cases c.f_N == 0 <;> cases c.f_S == ([] : List UInt8) <;> rfl)) ?_ ?_
    · unfold m_pool_texts
      rw [if_neg (by simp [t12]), if_pos (by simpa using t12), utf_pool p _ hl]
      simp only [Option.bind_some]
      rw [utf_pool p _ hl]
      simp only [Option.bind_some]
      rw [n1]
      simp only [Option.bind_some]
      rw [parse_desc _ (by omega), s1]
      simp only [Option.bind_some]
      cases nb <;> cases (v.2 != 0) <;> cases ((parseF (utfF p c.f_B).1).2 != 0) <;> cases ((parseF (utfF p c.f_B).1).1.f_Base == 86) <;> rfl
    · unfold j37x1 j37x2 m_armatureref05_both
      rw [mem0 (by decide) t12]
      simp only [Option.bind_some, Bool.false_eq_true, if_false]
      rw [both_ref p c 1 1 hl]
      unfold m_armatureref05_contents j53x1 j53x2
      rw [mem0 (by decide) t12, utf_ref p _ hl]
      simp only [Option.bind_some]
      rw [utf_ref p _ hl]
      simp only [Option.bind_some]
      rw [n2]
      simp only [Option.bind_some]
      rw [s2]
      simp only [Option.bind_some]
      unfold tailF
      generalize ((v.2 != 0) && (((parseF (utfF p c.f_B).1).2 != 0) || ((parseF (utfF p c.f_B).1).1.f_Base == 86))) = z
      by_cases h1 : (getF p c.f_A 1).2 = 0 <;> by_cases h2 : (getF p c.f_B 1).2 = 0 <;> cases nb <;> cases z <;> simp [h1, h2, t12]
  have memC : memB c.f_Tag = true → ∃ v, m_pool_check p c = some v ∧ m_armatureref05_checkConst p c = some v := fun hm => by
    obtain ⟨e, e1, e2⟩ := named_same p c hp hm
    have hcases : c.f_Tag = 9 ∨ c.f_Tag = 10 ∨ c.f_Tag = 11 := by simpa [memB, or_assoc] using hm
    refine chk_gen' 7 12 e hl ?_ ?_ ?_ ?_ ?_
    · rcases hcases with h | h | h <;> rw [h] <;> rfl
    · rcases hcases with h | h | h <;> rw [h] <;> rfl
    · rw [formed_ref, hm]
      simp [badU]
      try rfl
    · unfold m_pool_texts j49x1 j49x2
      rw [e1]
      rcases hcases with h | h | h <;> rw [h] <;> rfl
    · unfold j37x1 j37x2 m_armatureref05_both
      rw [mem_ref, hm]
      simp only [Option.bind_some, if_true]
      rw [both_ref p c 7 12 hl]
      unfold m_armatureref05_contents j53x1
      rw [e2]
      unfold tailF
      by_cases h1 : (getF p c.f_A 7).2 = 0 <;> by_cases h2 : (getF p c.f_B 12).2 = 0 <;> simp [h1, h2, t1, t3, t5, t7, t8, t12]
  cases hm : memB c.f_Tag with
  | true => exact memC hm
  | false =>
    have h9 : c.f_Tag ≠ 9 ∧ c.f_Tag ≠ 10 ∧ c.f_Tag ≠ 11 := by
      simp only [memB, Bool.or_eq_false_iff, beq_eq_false_iff_ne] at hm
      exact ⟨hm.1.1, hm.1.2, hm.2⟩
    refine ⟨11, ?_, ?_⟩
    · unfold m_pool_check m_pool_links j47x1 j47x2 j47x3 j47x4 j47x5
      simp [t1, t3, t5, t7, t8, t12, h9.1, h9.2.1, h9.2.2]
    · unfold m_armatureref05_checkConst m_armatureref05_Known
      rw [mem_ref, hm]
      simp [t1, t3, t5, t7, t8, t12]

theorem Check_same (p : List T_api_Const) (hp : shortP p) : ∃ v, m_pool_Check p = some v ∧ m_armatureref05_Check p = some v := by
  have hl := hp.1
  unfold m_pool_Check m_armatureref05_Check
  by_cases h : (p.length : Int) > 1000
  · rw [if_pos (decide_eq_true h), if_pos (decide_eq_true h)]
    exact ⟨_, rfl, rfl⟩
  · rw [if_neg (by simpa using h), if_neg (by simpa using h)]
    have hloop : ∃ r, loopM (l9x1 p) rounds 0 = some r ∧ loopM (l11x1 p) rounds 0 = some r := by
      obtain ⟨r, r', h1, h2, rfl⟩ := loopM_two (f := l9x1 p) (f' := l11x1 p) (fun q q' : Int => q = q' ∧ ∃ k : Nat, k ≤ p.length ∧ q = (k : Int)) (fun q => p.length - q.toNat) (fun r r' => r = r') (fun q q' hq => by
        obtain ⟨rfl, k, hk, rfl⟩ := hq
        unfold l9x1 l11x1
        by_cases hlt : k < p.length
        · have hg : p[k]? = some p[k] := List.getElem?_eq_getElem hlt
          generalize p[k] = c at hg
          rw [if_pos (decide_eq_true (by omega)), if_pos (decide_eq_true (by omega)), getRP hg]
          simp only [Option.bind_some]
          obtain ⟨e, e1, e2⟩ := check_same p c hp
          rw [e1, e2, wrapP (by omega) (by omega)]
          simp only [Option.bind_some]
          by_cases he : e = 0
          · rw [if_neg (by simpa using he)]
            exact ⟨_, _, rfl, rfl, ⟨rfl, k + 1, by omega, by simp⟩, by omega⟩
          · rw [if_pos (by simpa using he)]
            exact ⟨_, _, rfl, rfl, rfl⟩
        · rw [if_neg (by simp; omega), if_neg (by simp; omega)]
          exact ⟨_, _, rfl, rfl, rfl⟩) rounds 0 0 ⟨rfl, 0, by omega, rfl⟩ (by show p.length - (0 : Int).toNat < 18446744073709551616; omega)
      exact ⟨r, h1, h2⟩
    obtain ⟨r, h1, h2⟩ := hloop
    rw [h1, h2]
    simp only [Option.bind_some]
    cases r with
    | inl u => exact ⟨_, rfl, rfl⟩
    | inr y => exact ⟨_, rfl, rfl⟩

end Go.Proofs
