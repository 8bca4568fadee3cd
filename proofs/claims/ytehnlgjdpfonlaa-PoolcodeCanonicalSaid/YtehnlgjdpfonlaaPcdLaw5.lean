/-
  The law PoolcodeRoundTrip: what is encoded is read back, and no part of it is. Numbers in their ranges.
-/
import Derived.Test.YtehnlgjdpfonlaaPcdLaw4
namespace Go.Proofs
open Go.Den

theorem code_end (u : List UInt8) (b : List UInt8) {n : Int} (hn : 0 ≤ n) (h : (b.length : Int) < n) : code (u ++ b) (u.length : Int) n = 3 := by rw [code_at _ _ hn, if_pos h]

theorem trunc_one {c : T_api_Const} (h : Cod c) (u : List UInt8) {m : Nat} (hm : m < (oneS c).length) (hl : big (u ++ (oneS c).take m)) : tkE (u ++ (oneS c).take m) (u.length : Int) = 3 := by
  rw [one_pay h] at hm hl ⊢
  cases m with
  | zero =>
    rw [List.take_zero] at hl ⊢
    unfold tkE
    rw [if_pos (by rw [code_end u [] (by decide) (by simp)]; decide)]
  | succ j =>
    have e0 : (bytesOf (by1 c.f_Tag) ++ payS c).take (j + 1) = bytesOf (by1 c.f_Tag) ++ (payS c).take j := rfl
    have hj : j < (payS c).length := by rw [List.length_append, l1] at hm; omega
    rw [e0, ← List.append_assoc] at hl ⊢
    obtain ⟨k1, k2⟩ := tag_at (cod_tag h) hl
    have e1 : (u.length : Int) + 1 = ((u ++ bytesOf (by1 c.f_Tag)).length : Int) := by simp [l1]
    generalize hu : u ++ bytesOf (by1 c.f_Tag) = u' at hl k1 k2 e1
    unfold tkE
    rw [k1, k2, if_neg (by simp), e1]
    have hq : ((payS c).take j).length = j := by rw [List.length_take]; omega
    obtain ⟨t, S, N, A, B⟩ := c
    dsimp only at *
    cases h with
    | utf h hs hn ha hb =>
      dsimp only at *
      subst h hn ha hb
      have hp : payS ⟨1, S, 0, 0, 0⟩ = bytesOf (by2 (S.length : Int)) ++ S := by simp [payS]
      rw [if_pos rfl, if_neg]
      intro hg
      by_cases h2 : j < 2
      · have := hg.1
        rw [code_end _ _ (by decide) (by rw [hq]; omega)] at this
        cases this
      · have e3 : (payS ⟨1, S, 0, 0, 0⟩).take j = bytesOf (by2 (S.length : Int)) ++ S.take (j - 2) := by
          rw [hp, List.take_append, l2, List.take_of_length_le (by rw [l2]; omega)]
        rw [e3, ← List.append_assoc] at hg hl
        have v := rd2 (u := u') (x := (S.length : Int)) (by omega) hl
        have e4 : (u'.length : Int) + 2 = ((u' ++ bytesOf (by2 (S.length : Int))).length : Int) := by simp [l2]
        have := hg.2
        rw [v, e4, code_end _ _ (by omega) (by rw [List.length_take]; rw [hp, List.length_append, l2] at hj; omega)] at this
        cases this
    | int h hs hn ha hb =>
      dsimp only at *
      subst h hs ha hb
      have hp : payS ⟨3, [], N, 0, 0⟩ = bytesOf (by4 N) := by simp [payS]
      rw [hp, l4] at hj
      rw [if_neg (by decide), if_pos rfl, if_neg]
      rw [code_end _ _ (by decide) (by rw [hq]; omega)]
      decide
    | long h hs hn ha hb =>
      dsimp only at *
      subst h hs ha hb
      have hp : payS ⟨5, [], N, 0, 0⟩ = bytesOf (by8 N) := by simp [payS]
      rw [hp, l8] at hj
      rw [if_neg (by decide), if_neg (by decide), if_pos rfl, if_neg]
      rw [code_end _ _ (by decide) (by rw [hq]; omega)]
      decide
    | one h hs hn ha hb =>
      dsimp only at *
      subst hs hn hb
      have hp : payS ⟨t, [], 0, A, 0⟩ = bytesOf (by2 A) := by unfold payS; dsimp only; rw [if_neg (by omega), if_neg (by omega), if_neg (by omega), if_pos h]
      rw [hp, l2] at hj
      rw [if_neg (by omega), if_neg (by omega), if_neg (by omega), if_pos h, if_neg]
      rw [code_end _ _ (by decide) (by rw [hq]; omega)]
      decide
    | two h hs hn ha hb =>
      dsimp only at *
      subst hs hn
      have hp : payS ⟨t, [], 0, A, B⟩ = bytesOf (by2 A) ++ bytesOf (by2 B) := by unfold payS; dsimp only; rw [if_neg (by omega), if_neg (by omega), if_neg (by omega), if_neg (by omega)]
      rw [hp, List.length_append, l2, l2] at hj
      rw [if_neg (by omega), if_neg (by omega), if_neg (by omega), if_neg (by omega), if_pos h]
      by_cases h2 : j < 2
      · rw [if_neg]
        rw [code_end _ _ (by decide) (by rw [hq]; omega)]
        decide
      · have e3 : (payS ⟨t, [], 0, A, B⟩).take j = bytesOf (by2 A) ++ (bytesOf (by2 B)).take (j - 2) := by
          rw [hp, List.take_append, l2, List.take_of_length_le (by rw [l2]; omega)]
        rw [e3, ← List.append_assoc]
        have c1 : code (u' ++ bytesOf (by2 A) ++ (bytesOf (by2 B)).take (j - 2)) (u'.length : Int) 2 = 0 := by rw [List.append_assoc, code_at _ _ (by decide), if_neg (by simp [l2]; omega)]
        have e4 : (u'.length : Int) + 2 = ((u' ++ bytesOf (by2 A)).length : Int) := by simp [l2]
        rw [if_pos c1, if_neg]
        rw [e4, code_end _ _ (by decide) (by rw [List.length_take, l2]; omega)]
        decide

theorem trunc_all : ∀ (l : List T_api_Const), (∀ c ∈ l, Cod c) → ∀ (u : List UInt8) (m : Nat), m < (allS l).length → big (u ++ (allS l).take m) → pE (u ++ (allS l).take m) l.length (u.length : Int) = 3
  | [], _, u, m, hm, _ => by simp [allS] at hm
  | c :: l, h, u, m, hm, hl => by
    have e0 : allS (c :: l) = oneS c ++ allS l := rfl
    rw [e0] at hm hl ⊢
    rw [List.length_cons]
    unfold pE
    by_cases h1 : m < (oneS c).length
    · rw [List.take_append, show m - (oneS c).length = 0 by omega, List.take_zero, List.append_nil] at hl ⊢
      rw [if_neg]
      · exact trunc_one (h c (by simp)) u h1 hl
      · rw [trunc_one (h c (by simp)) u h1 hl]; decide
    · have e1 : (oneS c ++ allS l).take m = oneS c ++ (allS l).take (m - (oneS c).length) := by rw [List.take_append, List.take_of_length_le (by omega)]
      rw [e1, ← List.append_assoc] at hl ⊢
      obtain ⟨k1, -, k3⟩ := one_at (h c (by simp)) u ((allS l).take (m - (oneS c).length)) hl
      rw [k1, if_pos rfl, k3]
      have e3 : ((u ++ oneS c).length : Int) = (u.length : Int) + ((oneS c).length : Int) := by simp
      rw [← e3]
      exact trunc_all l (fun x hx => h x (by simp [hx])) (u ++ oneS c) _ (by rw [List.length_append] at hm; omega) hl

theorem Same_two (p : List T_api_Const) (hp : p.length ≤ 1000000) : m_armatureref06_Same p p = some true := same_refl p hp

/-- What is known of the numbers of a pool. -/
def ranged (p : List T_api_Const) : Prop := ∀ c ∈ p, -9223372036854775808 ≤ c.f_N ∧ c.f_N ≤ 9223372036854775807

theorem cods {p : List T_api_Const} (hp : smallP p) (hr : ranged p) {v : Int × Int} (h : m_pool_Check p = some v) (h0 : v.2 = 0) : p.length ≤ 1000 ∧ ∀ c ∈ p, Cod c := by
  obtain ⟨hl, hs⟩ := Check_sound hp.short h h0
  exact ⟨hl, fun c hc => by obtain ⟨a, b, hf⟩ := hs c hc; exact cod_of hf hl (hr c hc)⟩

theorem enc_len {p : List T_api_Const} (hp : smallP p) : (encS p).length ≤ 6048002 ∧ 2 ≤ (encS p).length := by
  unfold encS
  have h1 := head_len p hp.1
  have h2 := take_len hp p.length
  rw [List.take_length] at h2
  rw [List.length_append, h1]; omega

theorem dec_enc {p : List T_api_Const} (hp : smallP p) (hr : ranged p) {v : Int × Int} (h : m_pool_Check p = some v) (h0 : v.2 = 0) (u w : List UInt8) (hu : u.length ≤ 1000000) (hw : w.length ≤ 1000000) :
    decF (u ++ encS p ++ w) (u.length : Int) = some (p, (u.length : Int) + ((encS p).length : Int), 0) := by
  obtain ⟨hl, hc⟩ := cods hp hr h h0
  have hlen := enc_len hp
  have hbig : big (u ++ encS p ++ w) := by unfold big; simp only [List.length_append]; omega
  have h2 := pS2 (x := (p.length : Int)) (by omega)
  have e0 : u ++ encS p ++ w = u ++ bytesOf (by2 (p.length : Int)) ++ (allS p ++ w) := by unfold encS; rw [h2]; simp [List.append_assoc]
  have e1 : u ++ encS p ++ w = (u ++ bytesOf (by2 (p.length : Int))) ++ allS p ++ w := by rw [e0]; simp [List.append_assoc]
  have c1 : code (u ++ encS p ++ w) (u.length : Int) 2 = 0 := by rw [e0, List.append_assoc, code_at _ _ (by decide), if_neg (by simp [l2]; omega)]
  have v1 : uV (u ++ encS p ++ w) (u.length : Int) 2 = (p.length : Int) := by rw [e0] at hbig ⊢; exact rd2 (by omega) hbig
  have hcnt : cnt (u ++ encS p ++ w) (u.length : Int) = p.length := by unfold cnt; rw [v1]; omega
  have hA := all_at p hc (u ++ bytesOf (by2 (p.length : Int))) w (by rw [← e1]; exact hbig)
  have e2 : ((u ++ bytesOf (by2 (p.length : Int))).length : Int) = (u.length : Int) + 2 := by simp [l2]
  rw [← e1, e2] at hA
  obtain ⟨q1, q2, q3⟩ := hA
  unfold decF
  rw [if_neg (by simp only [List.length_append]; omega), c1, if_neg (by simp), hcnt, q1, if_neg (by simp), q2, q3, h]
  simp only [Option.map_some]
  rw [if_neg (by simpa using h0)]
  have e3 : ((encS p).length : Int) = 2 + ((allS p).length : Int) := by unfold encS; rw [List.length_append, head_len p hp.1]; omega
  rw [e3]
  congr 3; omega

theorem dec_cut {p : List T_api_Const} (hp : smallP p) (hr : ranged p) {v : Int × Int} (h : m_pool_Check p = some v) (h0 : v.2 = 0) {m : Nat} (hm : m < (encS p).length) :
    decF ((encS p).take m) 0 = some ([], 0, 3) := by
  obtain ⟨hl, hc⟩ := cods hp hr h h0
  have hlen := enc_len hp
  have h2 := pS2 (x := (p.length : Int)) (by omega)
  have hbig : big ((encS p).take m) := by unfold big; rw [List.length_take]; omega
  unfold decF
  rw [if_neg (by omega)]
  by_cases h1 : m < 2
  · have c1 : code ((encS p).take m) 0 2 = 3 := by
      have := code_end [] ((encS p).take m) (n := 2) (by decide) (by rw [List.length_take]; omega)
      simpa using this
    rw [c1, if_pos (by decide)]
  · have e0 : (encS p).take m = [] ++ bytesOf (by2 (p.length : Int)) ++ (allS p).take (m - 2) := by
      unfold encS; rw [h2, List.take_append, l2, List.take_of_length_le (by rw [l2]; omega)]; simp
    have hm2 : m - 2 < (allS p).length := by unfold encS at hm; rw [List.length_append, head_len p hp.1] at hm; omega
    rw [e0] at hbig ⊢
    have c1 : code ([] ++ bytesOf (by2 (p.length : Int)) ++ (allS p).take (m - 2)) 0 2 = 0 := by
      have := code_at [] (bytesOf (by2 (p.length : Int)) ++ (allS p).take (m - 2)) (n := 2) (by decide)
      rw [if_neg (by simp [l2]; omega)] at this
      simpa [List.append_assoc] using this
    have v1 : uV ([] ++ bytesOf (by2 (p.length : Int)) ++ (allS p).take (m - 2)) 0 2 = (p.length : Int) := rd2 (u := []) (by omega) hbig
    have hcnt : cnt ([] ++ bytesOf (by2 (p.length : Int)) ++ (allS p).take (m - 2)) 0 = p.length := by unfold cnt; rw [v1]; omega
    have ht := trunc_all p hc ([] ++ bytesOf (by2 (p.length : Int))) (m - 2) hm2 hbig
    have e2 : (([] ++ bytesOf (by2 (p.length : Int)) : List UInt8).length : Int) = 0 + 2 := rfl
    rw [e2] at ht
    rw [c1, if_neg (by simp), hcnt, ht, if_pos (by decide)]

theorem law_PoolcodeRoundTrip (p : List T_api_Const) (hr : ranged p) (u w : List UInt8) (k : Int) (hk : 0 ≤ k ∧ k ≤ 65535) : m_armaturelaw06_PoolcodeRoundTrip p u w k = some true := by
  obtain ⟨b, hb, hs⟩ := few6 p
  unfold m_armaturelaw06_PoolcodeRoundTrip
  rw [hb]
  have h3 : j5x3 = some true := by unfold j5x3; rw [awake6]; rfl
  rw [h3]
  cases b with
  | false => rfl
  | true =>
    have hp := hs rfl
    simp only [Option.bind_some, Bool.not_true, Bool.false_eq_true, if_false]
    by_cases h1 : (u.length : Int) > 1000
    · rw [if_pos (decide_eq_true h1)]
    rw [if_neg (by simpa using h1)]
    by_cases h2 : (w.length : Int) > 1000
    · rw [if_pos (decide_eq_true h2)]
    rw [if_neg (by simpa using h2)]
    obtain ⟨v, hv, -⟩ := Check_same p hp.short
    have henc : m_poolcode_Encode p = some (if v.2 ≠ 0 then ([], v.2) else (encS p, 0)) := by rw [enc_pool hp]; unfold encF; rw [hv]; rfl
    have hlen := enc_len hp
    unfold j5x1
    rw [henc]
    simp only [Option.bind_some]
    by_cases h0 : v.2 = 0
    · rw [if_neg (c := v.2 ≠ 0) (fun x => x h0)]
      dsimp only
      rw [if_neg (by simp), cat_ok (by omega)]
      simp only [Option.bind_some]
      rw [cat_ok (by rw [List.length_append]; omega)]
      simp only [Option.bind_some]
      have hbig : big (u ++ encS p ++ w) := by unfold big; simp only [List.length_append]; omega
      rw [dec_pool hbig, dec_enc hp hr hv h0 u w (by omega) (by omega)]
      simp only [Option.bind_some]
      have hw6 : IntKind.wrap .i64 ((u.length : Int) + ((encS p).length : Int)) = (u.length : Int) + ((encS p).length : Int) := wrapS (by omega) (by omega)
      rw [if_neg (by simp), hw6, if_neg (by simp), same_refl p (by have := hp.1; omega)]
      simp only [Option.bind_some, Bool.not_true, Bool.false_eq_true, if_false]
      rw [if_neg (by simp; omega)]
      unfold j5x2
      have hwk : IntKind.wrap .i64 k = k := wrapS (by omega) (by omega)
      have hmod : modK k ((encS p).length : Int) = some (k % ((encS p).length : Int)) := by
        unfold modK
        rw [if_pos (by omega), Int.tmod_eq_emod_of_nonneg hk.1]
      have hm0 := Int.emod_nonneg k (b := ((encS p).length : Int)) (by omega)
      have hm1 := Int.emod_lt_of_pos k (b := ((encS p).length : Int)) (by omega)
      generalize hmm : k % ((encS p).length : Int) = m at *
      have hsub : sub (encS p) 0 m = some ((encS p).take m.toNat) := by
        unfold sub
        rw [if_pos (by omega)]; simp
      simp only [Option.bind_some, hwk]
      rw [hmod]
      simp only [Option.bind_some]
      rw [hsub]
      simp only [Option.bind_some]
      rw [dec_pool (by unfold big; rw [List.length_take]; omega), dec_cut hp hr hv h0 (by omega), awake6]
      rfl
    · rw [if_pos h0]
      dsimp only
      rw [if_pos (by simpa using h0), awake6]
      rfl
end Go.Proofs
