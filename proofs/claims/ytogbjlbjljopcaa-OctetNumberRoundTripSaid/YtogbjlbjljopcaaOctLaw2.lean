/-
  What the models of octet's laws come to: the round trips and the order.
-/
import Derived.Test.YtogbjlbjljopcaaOctLaw
namespace Go.Proofs
open Go.Den

theorem u8of (y : Int) : ((UInt8.ofNat (y % 256).toNat).toNat : Int) = y % 256 := by
  rw [UInt8.toNat_ofNat']; omega

theorem code_mid (a b c : List UInt8) {n : Int} (hn : n ≤ (b.length : Int)) : code (a ++ b ++ c) (a.length : Int) n = 0 := by
  unfold code
  have h : ((a ++ b ++ c).length : Int) = (a.length : Int) + (b.length : Int) + (c.length : Int) := by simp; omega
  rw [if_neg (by omega), if_neg (by omega), if_neg (by omega)]
theorem take_mid (a b c : List UInt8) : ((a ++ b ++ c).drop (a.length : Int).toNat).take b.length = b := by
  simp [List.append_assoc, List.drop_left', List.take_left']
theorem cat_mid (a b c : List UInt8) (h : (a ++ b ++ c).length ≤ 9223372036854775807) : catK a b = some (a ++ b) ∧ catK (a ++ b) c = some (a ++ b ++ c) := by
  unfold catK
  simp only [List.length_append] at h ⊢
  exact ⟨if_pos (by omega), if_pos (by omega)⟩
theorem get_mid (a b c : List UInt8) {n : Int} (hn : (b.length : Int) = n) : ∀ i : Nat, (i : Int) < n → (a ++ b ++ c)[((a.length : Int) + i).toNat]? = b[i]? := fun i hi => by
  rw [show ((a.length : Int) + i).toNat = a.length + i by omega, List.append_assoc, List.getElem?_append_right (by omega), List.getElem?_append_left (by omega)]
  congr 1 <;> omega

theorem bytes1 (x : Int) : ∃ c0, bytesOf (by1 x) = [c0] ∧ raw1 c0 = x % 256 ∧ (c0.toNat : Int) = x / 1 % 256 := by
  refine ⟨_, rfl, ?_, ?_⟩
  · unfold raw1; simp only [u8of]
  · simp only [u8of]; omega
theorem trip1 (x : Int) (a c : List UInt8) (h0 : -128 ≤ x) (h1 : x ≤ 255) (hl : ((a ++ bytesOf (by1 x) ++ c).length : Int) ≤ 1125899906842624) :
    m_octet_Unsigned (a ++ bytesOf (by1 x) ++ c) (a.length : Int) 1 = some (x % 256, 0) ∧ ∃ v, m_octet_Signed (a ++ bytesOf (by1 x) ++ c) (a.length : Int) 1 = some (v, 0) ∧ (x < 0 → v = x) := by
  obtain ⟨c0, hb, hr, hc⟩ := bytes1 x
  rw [hb] at hl ⊢
  have h2 := code_mid a [c0] c (n := 1) (by simp)
  have h3 : ((a ++ [c0] ++ c).drop (a.length : Int).toNat).take 1 = [c0] := take_mid a [c0] c
  have h4 := uns1 hl h2 h3 (by omega) (get_mid a [c0] c (by simp))
  have h5 := osig1 hl h2 h3
  refine ⟨?_, _, h5, fun hx => ?_⟩
  · rw [h4.1]; rw [hr]
  · unfold sgn1; rw [hr, hc]; split <;> omega

theorem bytes2 (x : Int) : ∃ c0 c1, bytesOf (by2 x) = [c0, c1] ∧ raw2 c0 c1 = x % 65536 ∧ (c0.toNat : Int) = x / 256 % 256 := by
  refine ⟨_, _, rfl, ?_, ?_⟩
  · unfold raw2; simp only [u8of]; omega
  · simp only [u8of]
theorem trip2 (x : Int) (a c : List UInt8) (h0 : -32768 ≤ x) (h1 : x ≤ 65535) (hl : ((a ++ bytesOf (by2 x) ++ c).length : Int) ≤ 1125899906842624) :
    m_octet_Unsigned (a ++ bytesOf (by2 x) ++ c) (a.length : Int) 2 = some (x % 65536, 0) ∧ ∃ v, m_octet_Signed (a ++ bytesOf (by2 x) ++ c) (a.length : Int) 2 = some (v, 0) ∧ (x < 0 → v = x) := by
  obtain ⟨c0, c1, hb, hr, hc⟩ := bytes2 x
  rw [hb] at hl ⊢
  have h2 := code_mid a [c0, c1] c (n := 2) (by simp)
  have h3 : ((a ++ [c0, c1] ++ c).drop (a.length : Int).toNat).take 2 = [c0, c1] := take_mid a [c0, c1] c
  have h4 := uns2 hl h2 h3 (by omega) (get_mid a [c0, c1] c (by simp))
  have h5 := osig2 hl h2 h3
  refine ⟨?_, _, h5, fun hx => ?_⟩
  · rw [h4.1]; rw [hr]
  · unfold sgn2; rw [hr, hc]; split <;> omega

theorem bytes4 (x : Int) : ∃ c0 c1 c2 c3, bytesOf (by4 x) = [c0, c1, c2, c3] ∧ raw4 c0 c1 c2 c3 = x % 4294967296 ∧ (c0.toNat : Int) = x / 16777216 % 256 := by
  refine ⟨_, _, _, _, rfl, ?_, ?_⟩
  · unfold raw4; simp only [u8of]; omega
  · simp only [u8of]; omega
theorem trip4 (x : Int) (a c : List UInt8) (h0 : -2147483648 ≤ x) (h1 : x ≤ 4294967295) (hl : ((a ++ bytesOf (by4 x) ++ c).length : Int) ≤ 1125899906842624) :
    m_octet_Unsigned (a ++ bytesOf (by4 x) ++ c) (a.length : Int) 4 = some (x % 4294967296, 0) ∧ ∃ v, m_octet_Signed (a ++ bytesOf (by4 x) ++ c) (a.length : Int) 4 = some (v, 0) ∧ (x < 0 → v = x) := by
  obtain ⟨c0, c1, c2, c3, hb, hr, hc⟩ := bytes4 x
  rw [hb] at hl ⊢
  have h2 := code_mid a [c0, c1, c2, c3] c (n := 4) (by simp)
  have h3 : ((a ++ [c0, c1, c2, c3] ++ c).drop (a.length : Int).toNat).take 4 = [c0, c1, c2, c3] := take_mid a [c0, c1, c2, c3] c
  have h4 := uns4 hl h2 h3 (by omega) (get_mid a [c0, c1, c2, c3] c (by simp))
  have h5 := osig4 hl h2 h3
  refine ⟨?_, _, h5, fun hx => ?_⟩
  · rw [h4.1]; rw [hr]
  · unfold sgn4; rw [hr, hc]; split <;> omega

theorem bytes8 (x : Int) : ∃ c0 c1 c2 c3 c4 c5 c6 c7, bytesOf (by8 x) = [c0, c1, c2, c3, c4, c5, c6, c7] ∧ raw8 c0 c1 c2 c3 c4 c5 c6 c7 = x % 18446744073709551616 ∧ (c0.toNat : Int) = x / 72057594037927936 % 256 := by
  refine ⟨_, _, _, _, _, _, _, _, rfl, ?_, ?_⟩
  · unfold raw8; simp only [u8of]; omega
  · simp only [u8of]; omega
theorem trip8 (x : Int) (a c : List UInt8) (h0 : -9223372036854775808 ≤ x) (h1 : x ≤ 9223372036854775807) (hl : ((a ++ bytesOf (by8 x) ++ c).length : Int) ≤ 1125899906842624) :
    m_octet_Unsigned (a ++ bytesOf (by8 x) ++ c) (a.length : Int) 8 = some (x, 0) ∧ ∃ v, m_octet_Signed (a ++ bytesOf (by8 x) ++ c) (a.length : Int) 8 = some (v, 0) ∧ (x < 0 → v = x) := by
  obtain ⟨c0, c1, c2, c3, c4, c5, c6, c7, hb, hr, hc⟩ := bytes8 x
  rw [hb] at hl ⊢
  have h2 := code_mid a [c0, c1, c2, c3, c4, c5, c6, c7] c (n := 8) (by simp)
  have h3 : ((a ++ [c0, c1, c2, c3, c4, c5, c6, c7] ++ c).drop (a.length : Int).toNat).take 8 = [c0, c1, c2, c3, c4, c5, c6, c7] := take_mid a [c0, c1, c2, c3, c4, c5, c6, c7] c
  have h4 := uns8 hl h2 h3 (by omega) (get_mid a [c0, c1, c2, c3, c4, c5, c6, c7] c (by simp))
  have h5 := osig8 hl h2 h3
  refine ⟨?_, _, h5, fun hx => ?_⟩
  · rw [h4.1]; unfold sgn8; rw [hr, hc]; congr 1; refine congrArg (fun z : Int => (z, (0 : Int))) ?_; split <;> omega
  · unfold sgn8; rw [hr, hc]; split <;> omega

theorem put_zero {x n : Int} {s : List UInt8} (hx : -9223372036854775808 ≤ x ∧ x ≤ 9223372036854775807) (h : m_octet_Put x n = some (s, 0)) :
    (n = 1 ∧ s = bytesOf (by1 x) ∧ -128 ≤ x ∧ x ≤ 255) ∨ (n = 2 ∧ s = bytesOf (by2 x) ∧ -32768 ≤ x ∧ x ≤ 65535) ∨ (n = 4 ∧ s = bytesOf (by4 x) ∧ -2147483648 ≤ x ∧ x ≤ 4294967295) ∨ (n = 8 ∧ s = bytesOf (by8 x)) := by
  rcases four (n := n) with hn | ⟨h1, h2, h4, h8⟩
  · rcases hn with rfl | rfl | rfl | rfl
    · rw [Put1] at h
      split at h
      · cases h
      · cases h; exact .inl ⟨rfl, rfl, by omega, by omega⟩
    · rw [Put2] at h
      split at h
      · cases h
      · cases h; exact .inr (.inl ⟨rfl, rfl, by omega, by omega⟩)
    · rw [Put4] at h
      split at h
      · cases h
      · cases h; exact .inr (.inr (.inl ⟨rfl, rfl, by omega, by omega⟩))
    · rw [Put8] at h; cases h; exact .inr (.inr (.inr ⟨rfl, rfl⟩))
  · rw [PutN x h1 h2 h4 h8] at h; cases h
theorem put_err {x n e : Int} {s : List UInt8} (h : m_octet_Put x n = some (s, e)) (he : e ≠ 0) : s = [] ∧ (e = 1 ∨ e = 8) := by
  rcases four (n := n) with hn | ⟨h1, h2, h4, h8⟩
  · rcases hn with rfl | rfl | rfl | rfl
    · rw [Put1] at h
      split at h <;> cases h
      · exact ⟨rfl, .inr rfl⟩
      · exact absurd rfl he
    · rw [Put2] at h
      split at h <;> cases h
      · exact ⟨rfl, .inr rfl⟩
      · exact absurd rfl he
    · rw [Put4] at h
      split at h <;> cases h
      · exact ⟨rfl, .inr rfl⟩
      · exact absurd rfl he
    · rw [Put8] at h; cases h; exact absurd rfl he
  · rw [PutN x h1 h2 h4 h8] at h; cases h; exact ⟨rfl, .inl rfl⟩

theorem trip_end (x n : Int) (s a c : List UInt8) (hp : m_octet_Put x n = some (s, 0)) (u v : Int) (hs : (s.length : Int) = n)
    (hl : (a ++ s ++ c).length ≤ 9223372036854775807)
    (hu : m_octet_Unsigned (a ++ s ++ c) (a.length : Int) n = some (u, 0)) (hv : m_octet_Signed (a ++ s ++ c) (a.length : Int) n = some (v, 0))
    (hpu : m_octet_Put u n = some (s, 0)) (h1 : n < 8 → 0 ≤ u) (h2 : x < 0 → v = x ∧ (n = 8 ∨ u > 127)) (h3 : 0 ≤ x → u = x) :
    m_armaturelaw02_OctetNumberRoundTrip x n a c = some true := by
  obtain ⟨k1, k2⟩ := cat_mid a s c hl
  have hj : j5x1 (s, 0) (u, 0) (v, 0) x n = some true := by
    unfold j5x1
    by_cases hx : x < 0
    · obtain ⟨hvx, h4⟩ := h2 hx
      have hx' : ¬ (0 ≤ x) := by omega
      rcases h4 with rfl | h4
      · simp [hpu, awake, hx, hx', hvx]
      · by_cases h8 : n = 8
        · subst h8; simp [hpu, awake, hx, hx', hvx]
        · simp [hpu, awake, hx, hx', hvx, h8]; omega
    · have hu' := h3 (by omega)
      have hx' : 0 ≤ x := by omega
      subst hu'; simp [hpu, awake, hx']
  unfold m_armaturelaw02_OctetNumberRoundTrip
  by_cases h8 : n < 8
  · have h0 : ¬ u < 0 := by have := h1 h8; omega
    simp [-List.append_assoc, hp, k1, k2, hu, hv, hs, h8, h0, hj]
  · simp [-List.append_assoc, hp, k1, k2, hu, hv, hs, h8, hj]

theorem law3 (x n : Int) (a c : List UInt8) (hx : -9223372036854775808 ≤ x ∧ x ≤ 9223372036854775807) (ha : (a.length : Int) ≤ 140737488355328) (hc : (c.length : Int) ≤ 140737488355328) : m_armaturelaw02_OctetNumberRoundTrip x n a c = some true := by
  obtain ⟨s, e, hp, hs8⟩ := put_some x n
  by_cases he : e = 0
  · subst he
    have hl : ((a ++ s ++ c).length : Int) ≤ 1125899906842624 := by simp; omega
    rcases put_zero hx hp with ⟨rfl, rfl, h0, h1⟩ | ⟨rfl, rfl, h0, h1⟩ | ⟨rfl, rfl, h0, h1⟩ | ⟨rfl, rfl⟩
    · obtain ⟨hu, v, hv, hvx⟩ := trip1 x a c (by omega) (by omega) hl
      refine trip_end x 1 _ a c hp _ v (by simp [bytesOf, by1]) (by omega) hu hv ?_ (fun _ => by omega) (fun h => ⟨hvx h, .inr (by omega)⟩) (fun h => by omega)
      rw [Put1, if_neg (by omega)]
      refine congrArg (fun l => some (bytesOf l, (0 : Int))) ?_
      unfold by1; simp only [List.cons.injEq, and_true]; omega
    · obtain ⟨hu, v, hv, hvx⟩ := trip2 x a c (by omega) (by omega) hl
      refine trip_end x 2 _ a c hp _ v (by simp [bytesOf, by2]) (by omega) hu hv ?_ (fun _ => by omega) (fun h => ⟨hvx h, .inr (by omega)⟩) (fun h => by omega)
      rw [Put2, if_neg (by omega)]
      refine congrArg (fun l => some (bytesOf l, (0 : Int))) ?_
      unfold by2; simp only [List.cons.injEq, and_true]; omega
    · obtain ⟨hu, v, hv, hvx⟩ := trip4 x a c (by omega) (by omega) hl
      refine trip_end x 4 _ a c hp _ v (by simp [bytesOf, by4]) (by omega) hu hv ?_ (fun _ => by omega) (fun h => ⟨hvx h, .inr (by omega)⟩) (fun h => by omega)
      rw [Put4, if_neg (by omega)]
      refine congrArg (fun l => some (bytesOf l, (0 : Int))) ?_
      unfold by4; simp only [List.cons.injEq, and_true]; omega
    · obtain ⟨hu, v, hv, hvx⟩ := trip8 x a c (by omega) (by omega) hl
      exact trip_end x 8 _ a c hp _ v (by simp [bytesOf, by8]) (by omega) hu hv hp (fun h => by omega) (fun h => ⟨hvx h, .inl rfl⟩) (fun h => rfl)
  · obtain ⟨rfl, h⟩ := put_err hp he
    rcases h with rfl | rfl <;> simp [m_armaturelaw02_OctetNumberRoundTrip, hp, awake]
end Go.Proofs
