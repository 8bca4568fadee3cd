/-
  What the models of octet's laws come to: the order of the bytes, strings.
-/
import Derived.Test.YtogbjlbjljopcaaOctLaw2
namespace Go.Proofs
open Go.Den

/-! ### Order -/
def val : List UInt8 → Nat
  | [] => 0
  | c :: l => c.toNat * 256 ^ l.length + val l
theorem val_lt : ∀ l : List UInt8, val l < 256 ^ l.length
  | [] => by decide
  | c :: l => by
    have h := val_lt l
    have hc := c.toNat_lt
    simp only [val, List.length_cons, Nat.pow_succ]
    have : (c.toNat + 1) * 256 ^ l.length ≤ 256 * 256 ^ l.length := Nat.mul_le_mul_right _ (by omega)
    rw [Nat.add_mul] at this
    omega
theorem less_val : ∀ l m : List UInt8, l.length = m.length → (Op.bytesLess l m = decide (val l < val m)) ∧ (l = m ↔ val l = val m)
  | [], [], _ => by simp [Op.bytesLess, val]
  | [], _ :: _, h => by simp at h
  | _ :: _, [], h => by simp at h
  | c :: l, d :: m, h => by
    have hl : l.length = m.length := by simpa using h
    obtain ⟨h1, h2⟩ := less_val l m hl
    have k1 := val_lt l
    have k2 := val_lt m
    rw [← hl] at k2
    simp only [val, Op.bytesLess, ← hl]
    generalize hB : 256 ^ l.length = B at k1 k2 ⊢
    rcases Nat.lt_trichotomy c.toNat d.toNat with hc | hc | hc
    · have hlt : c < d := UInt8.lt_iff_toNat_lt.2 hc
      have : (c.toNat + 1) * B ≤ d.toNat * B := Nat.mul_le_mul_right _ hc
      rw [Nat.add_mul] at this
      have hne : c ≠ d := fun e => by subst e; omega
      refine ⟨?_, ?_⟩
      · rw [decide_eq_true hlt, Bool.true_or]; exact (decide_eq_true (by omega)).symm
      · simp only [List.cons.injEq, hne, false_and, false_iff]; omega
    · have he : c = d := UInt8.toNat_inj.1 hc
      subst he
      refine ⟨?_, ?_⟩
      · rw [h1]; simp
      · simp [h2]
    · have hlt : ¬ c < d := fun h' => by have := UInt8.lt_iff_toNat_lt.1 h'; omega
      have : (d.toNat + 1) * B ≤ c.toNat * B := Nat.mul_le_mul_right _ hc
      rw [Nat.add_mul] at this
      have hne : c ≠ d := fun e => by subst e; omega
      refine ⟨?_, ?_⟩
      · rw [decide_eq_false hlt, show (c == d) = false from by simpa using hne, Bool.false_or, Bool.false_and]
        exact (decide_eq_false (by omega)).symm
      · simp only [List.cons.injEq, hne, false_and, false_iff]; omega
theorem val1 (x : Int) (h0 : 0 ≤ x) (h1 : x < 256) : (val (bytesOf (by1 x)) : Int) = x := by
  obtain ⟨c0, hb, hr, -⟩ := bytes1 x
  rw [hb]
  unfold raw1 at hr
  simp only [val, List.length_cons, List.length_nil]
  omega
theorem val2 (x : Int) (h0 : 0 ≤ x) (h1 : x < 65536) : (val (bytesOf (by2 x)) : Int) = x := by
  obtain ⟨c0, c1, hb, hr, -⟩ := bytes2 x
  rw [hb]
  unfold raw2 at hr
  simp only [val, List.length_cons, List.length_nil]
  omega
theorem val4 (x : Int) (h0 : 0 ≤ x) (h1 : x < 4294967296) : (val (bytesOf (by4 x)) : Int) = x := by
  obtain ⟨c0, c1, c2, c3, hb, hr, -⟩ := bytes4 x
  rw [hb]
  unfold raw4 at hr
  simp only [val, List.length_cons, List.length_nil]
  omega
theorem val8 (x : Int) (h0 : 0 ≤ x) (h1 : x < 18446744073709551616) : (val (bytesOf (by8 x)) : Int) = x := by
  obtain ⟨c0, c1, c2, c3, c4, c5, c6, c7, hb, hr, -⟩ := bytes8 x
  rw [hb]
  unfold raw8 at hr
  simp only [val, List.length_cons, List.length_nil]
  omega

theorem order_end (x y n : Int) (s t : List UInt8) (hx : m_octet_Put x n = some (s, 0)) (hy : m_octet_Put y n = some (t, 0)) (hl : s.length = t.length)
    (h : 0 ≤ x → 0 ≤ y → (val s : Int) = x ∧ (val t : Int) = y) : m_armaturelaw02_OctetOrderPreserved x y n = some true := by
  unfold m_armaturelaw02_OctetOrderPreserved
  by_cases h0 : x < 0
  · simp [hx, hy, h0, awake]
  by_cases h1 : y < 0
  · simp [hx, hy, h0, h1, awake]
  obtain ⟨e1, e2⟩ := h (by omega) (by omega)
  obtain ⟨k1, k2⟩ := less_val s t hl
  have a1 : Op.bytesLess s t = decide (x < y) := by
    rw [k1]; exact decide_eq_decide.2 (by omega)
  have a2 : (s == t) = (x == y) := by
    rw [Bool.eq_iff_iff]; simp only [beq_iff_eq]; rw [k2]; omega
  simp [hx, hy, h0, h1, awake, a1, a2]

theorem law4 (x y n : Int) (hx : -9223372036854775808 ≤ x ∧ x ≤ 9223372036854775807) (hy : -9223372036854775808 ≤ y ∧ y ≤ 9223372036854775807) : m_armaturelaw02_OctetOrderPreserved x y n = some true := by
  obtain ⟨s, e, hp, -⟩ := put_some x n
  obtain ⟨t, e', hq, -⟩ := put_some y n
  by_cases he : e = 0
  · subst he
    by_cases he' : e' = 0
    · subst he'
      rcases put_zero hx hp with ⟨rfl, rfl, h0, h1⟩ | ⟨rfl, rfl, h0, h1⟩ | ⟨rfl, rfl, h0, h1⟩ | ⟨rfl, rfl⟩ <;>
      rcases put_zero hy hq with ⟨h', rfl, k0, k1⟩ | ⟨h', rfl, k0, k1⟩ | ⟨h', rfl, k0, k1⟩ | ⟨h', rfl⟩ <;> first
        | (exact absurd h' (by decide))
        | skip
      · exact order_end x y 1 _ _ hp hq rfl (fun a b => ⟨val1 x a (by omega), val1 y b (by omega)⟩)
      · exact order_end x y 2 _ _ hp hq rfl (fun a b => ⟨val2 x a (by omega), val2 y b (by omega)⟩)
      · exact order_end x y 4 _ _ hp hq rfl (fun a b => ⟨val4 x a (by omega), val4 y b (by omega)⟩)
      · exact order_end x y 8 _ _ hp hq rfl (fun a b => ⟨val8 x a (by omega), val8 y b (by omega)⟩)
    · simp [m_armaturelaw02_OctetOrderPreserved, hp, hq, he', awake]
  · simp [m_armaturelaw02_OctetOrderPreserved, hp, hq, he, awake]

/-! ### Strings -/
theorem uns_range {s : List UInt8} {a : Int} (hl : (s.length : Int) ≤ 1125899906842624) {u : Int × Int} (h : m_octet_Unsigned s a 2 = some u) : (u.2 ≠ 0 ∧ u = (0, code s a 2)) ∨ (u.2 = 0 ∧ code s a 2 = 0 ∧ 0 ≤ u.1 ∧ u.1 < 65536) := by
  have hn : wid 2 := by unfold wid; decide
  by_cases hc : code s a 2 = 0
  · obtain ⟨g0, g1, -⟩ := window_good hl (by decide) hc
    obtain ⟨w, hw, hwl, hg⟩ := window_get g0 (by decide) g1
    obtain ⟨c0, c1, rfl⟩ := len2 hwl
    have := (uns2 hl hc hw g0 hg).1
    rw [this] at h; cases h
    exact .inr ⟨rfl, hc, (raw2lt c0 c1).1, (raw2lt c0 c1).2⟩
  · obtain ⟨h1, -⟩ := get_bad hl hn hc
    rw [h1] at h; cases h
    exact .inl ⟨hc, rfl⟩

theorem string_same {s : List UInt8} (a : Int) (hl : (s.length : Int) ≤ 1125899906842624) : ∃ r, m_octet_GetString s a = some r ∧ m_armatureref02_GetString s a = some r := by
  obtain ⟨u, v, h1, h2, -, -⟩ := get_same (s := s) a 2 hl
  rcases uns_range hl h1 with ⟨k1, k2⟩ | ⟨k1, k2, k3, k4⟩
  · exact ⟨([], 0, u.2), by simp [m_octet_GetString, h1, k1], by simp [m_armatureref02_GetString, h2, k1]⟩
  · obtain ⟨g0, g1, -⟩ := window_good hl (by decide) k2
    have e1 : IntKind.wrap .i64 (a + 2) = a + 2 := by rw [wrapI64]; omega
    have e2 : IntKind.wrap .i64 (a + 2 + u.1) = a + 2 + u.1 := by rw [wrapI64]; omega
    have e3 : IntKind.wrap .i64 ((s.length : Int) - a) = (s.length : Int) - a := by rw [wrapI64]; omega
    have e4 : IntKind.wrap .i64 ((s.length : Int) - a - 2) = (s.length : Int) - a - 2 := by rw [wrapI64]; omega
    by_cases hc : code s (a + 2) u.1 = 0
    · obtain ⟨q0, q1, q2⟩ := window_good hl k3 hc
      have q3 : ¬ ((s.length : Int) - a - 2 < u.1) := by omega
      have q4 : sub s (a + 2) (a + 2 + u.1) = some ((s.drop (a + 2).toNat).take u.1.toNat) := by
        unfold sub
        rw [if_pos (by omega)]
        congr 2; omega
      exact ⟨_, by simp [m_octet_GetString, h1, k1, e1, q2, e2]; rfl, by simp [m_armatureref02_GetString, h2, k1, e1, e2, e3, e4, q3, q4]⟩
    · have q3 : (s.length : Int) - a - 2 < u.1 := by
        unfold code at hc
        by_cases z1 : a + 2 < 0
        · omega
        by_cases z2 : a + 2 > (s.length : Int)
        · omega
        by_cases z3 : (s.length : Int) - (a + 2) < u.1
        · omega
        · simp [z1, z2, z3] at hc
      have q5 : code s (a + 2) u.1 = 3 := by
        unfold code
        rw [if_neg (by omega), if_neg (by omega), if_pos (by omega)]
      exact ⟨([], 0, 3), by simp [m_octet_GetString, h1, k1, e1, window_bad hl hc, q5], by simp [m_armatureref02_GetString, h2, k1, e3, e4, q3]⟩

theorem putstring_same (s : List UInt8) : m_octet_PutString s = m_armatureref02_PutString s := by
  unfold m_octet_PutString m_armatureref02_PutString
  rw [put_same]
theorem putstring (s : List UInt8) (hl : (s.length : Int) ≤ 140737488355328) : m_octet_PutString s = if (s.length : Int) > 65535 then some ([], 8) else some (bytesOf (by2 (s.length : Int)) ++ s, 0) := by
  unfold m_octet_PutString
  rw [Put2]
  by_cases h : (s.length : Int) > 65535
  · rw [if_pos h, if_pos (.inr (by omega))]; simp
  · rw [if_neg h, if_neg (by omega)]
    have hb : (bytesOf (by2 (s.length : Int))).length = 2 := rfl
    have hc : catK (bytesOf (by2 (s.length : Int))) s = some (bytesOf (by2 (s.length : Int)) ++ s) := by
      unfold catK; rw [if_pos (by rw [hb]; omega)]
    simp [hc]

theorem law5 (s : List UInt8) (a : Int) (hl : (s.length : Int) ≤ 140737488355328) : m_armaturelaw02_OctetStringReference s a = some true := by
  obtain ⟨r, h1, h2⟩ := string_same (s := s) a (by omega)
  have h3 := putstring s hl
  have h4 := (putstring_same s).symm.trans h3
  by_cases h : (s.length : Int) > 65535
  · rw [if_pos h] at h3 h4
    simp [m_armaturelaw02_OctetStringReference, h1, h2, h3, h4, awake]
  · rw [if_neg h] at h3 h4
    simp [m_armaturelaw02_OctetStringReference, h1, h2, h3, h4, awake]

theorem law6 (s a c : List UInt8) (k : Int) (hs : (s.length : Int) ≤ 140737488355328) (ha : (a.length : Int) ≤ 140737488355328) (hc : (c.length : Int) ≤ 140737488355328) : m_armaturelaw02_OctetStringRoundTrip s a c k = some true := by
  have h3 := putstring s hs
  by_cases h : (s.length : Int) > 65535
  · rw [if_pos h] at h3
    simp [m_armaturelaw02_OctetStringRoundTrip, h3, awake]; omega
  · rw [if_neg h] at h3
    obtain ⟨c0, c1, hb, hr, -⟩ := bytes2 (s.length : Int)
    have hr' : raw2 c0 c1 = (s.length : Int) := by rw [hr]; omega
    rw [hb] at h3
    have hL : ((a ++ ([c0, c1] ++ s) ++ c).length : Int) = (a.length : Int) + 2 + (s.length : Int) + (c.length : Int) := by simp; omega
    have hl : ((a ++ ([c0, c1] ++ s) ++ c).length : Int) ≤ 1125899906842624 := by omega
    obtain ⟨k1, k2⟩ := cat_mid a ([c0, c1] ++ s) c (by omega)
    generalize hw : a ++ ([c0, c1] ++ s) ++ c = w at hL hl k2
    -- the length
    have d2 : code w (a.length : Int) 2 = 0 := by rw [← hw]; exact code_mid a _ c (by simp; omega)
    have d3 : (w.drop (a.length : Int).toNat).take 2 = [c0, c1] := by rw [← hw]; simp
    have d4 := bits2 hl d2 d3
    have hrl := raw2lt c0 c1
    have d5 : m_octet_Unsigned w (a.length : Int) 2 = some ((s.length : Int), 0) := by
      simp only [m_octet_Unsigned, d4, Option.bind_some, hr', wrapI64]
      exact congrArg (fun z : Int => some (z, (0 : Int))) (by omega)
    -- the string
    have e1 : IntKind.wrap .i64 ((a.length : Int) + 2) = (a.length : Int) + 2 := by rw [wrapI64]; omega
    have e2 : IntKind.wrap .i64 ((a.length : Int) + 2 + (s.length : Int)) = (a.length : Int) + 2 + (s.length : Int) := by rw [wrapI64]; omega
    have d6 : code w ((a.length : Int) + 2) (s.length : Int) = 0 := by
      unfold code; rw [if_neg (by omega), if_neg (by omega), if_neg (by omega)]
    obtain ⟨-, -, d7⟩ := window_good hl (by omega) d6
    have d8 : (w.drop ((a.length : Int) + 2).toNat).take (s.length : Int).toNat = s := by
      have hw2 : (a ++ [c0, c1]) ++ s ++ c = w := by rw [← hw]; simp
      have h9 := take_mid (a ++ [c0, c1]) s c
      rw [hw2] at h9
      rw [show ((a.length : Int) + 2) = ((a ++ [c0, c1]).length : Int) by simp, show (s.length : Int).toNat = s.length by omega]
      exact h9
    rw [d8] at d7
    have d9 : m_octet_GetString w (a.length : Int) = some (s, (a.length : Int) + 2 + (s.length : Int), 0) := by
      simp [m_octet_GetString, d5, e1, e2, d7]
    have hlen : ((([c0, c1] ++ s).length : Nat) : Int) = 2 + (s.length : Int) := by simp; omega
    have e3 : IntKind.wrap .i64 ((a.length : Int) + (([c0, c1] ++ s).length : Int)) = (a.length : Int) + 2 + (s.length : Int) := by rw [hlen, wrapI64]; omega
    -- what is cut short
    have hj : j8x1 ([c0, c1] ++ s, 0) k = some true := by
      unfold j8x1
      by_cases z1 : k < 0
      · simp [z1, awake]
      by_cases z2 : k ≥ (([c0, c1] ++ s).length : Int)
      · simp only [z1, z2, decide_false, decide_true, Bool.false_eq_true, if_false, if_true, awake, Option.bind_some]
      simp only [z1, z2, decide_false, Bool.false_eq_true, if_false]
      unfold j8x2
      have hk : k < 2 + (s.length : Int) := by omega
      have hsub : sub ([c0, c1] ++ s) 0 k = some (([c0, c1] ++ s).take k.toNat) := by
        unfold sub
        rw [if_pos (by omega)]; simp
      obtain ⟨p, hp⟩ : ∃ p, p = ([c0, c1] ++ s).take k.toNat := ⟨_, rfl⟩
      have hpl : (p.length : Int) = k := by rw [hp]; simp; omega
      have hget : ∃ r, m_octet_GetString p 0 = some r ∧ r.2.2 = 3 := by
        by_cases z3 : k < 2
        · have hc3 : code p 0 2 = 3 := by
            unfold code; rw [if_neg (by omega), if_neg (by omega), if_pos (by omega)]
          obtain ⟨y1, -⟩ := get_bad (s := p) (a := 0) (n := 2) (by omega) (by unfold wid; decide) (by rw [hc3]; decide)
          exact ⟨([], 0, 3), by simp [m_octet_GetString, y1, hc3], rfl⟩
        · have y2 : code p 0 2 = 0 := by
            unfold code; rw [if_neg (by omega), if_neg (by omega), if_neg (by omega)]
          have y3 : (p.drop (0 : Int).toNat).take 2 = [c0, c1] := by
            rw [hp]
            obtain ⟨m, hm⟩ : ∃ m : Nat, k.toNat = m + 2 := ⟨k.toNat - 2, by omega⟩
            rw [hm]; simp
          have y4 := bits2 (by omega) y2 y3
          have y5 : m_octet_Unsigned p 0 2 = some ((s.length : Int), 0) := by
            simp only [m_octet_Unsigned, y4, Option.bind_some, hr', wrapI64]
            exact congrArg (fun z : Int => some (z, (0 : Int))) (by omega)
          have y6 : code p 2 (s.length : Int) = 3 := by
            unfold code; rw [if_neg (by omega), if_neg (by omega), if_pos (by omega)]
          have y7 := window_bad (s := p) (a := 2) (n := (s.length : Int)) (by omega) (by rw [y6]; decide)
          have y8 : IntKind.wrap .i64 2 = 2 := by rw [wrapI64]; rfl
          exact ⟨([], 0, 3), by simp [m_octet_GetString, y5, y8, y7, y6], rfl⟩
      obtain ⟨r, hr1, hr2⟩ := hget
      simp only [hsub, ← hp, Option.bind_some, hr1, awake, if_true, hr2]
      rfl
    unfold m_armaturelaw02_OctetStringRoundTrip
    simp only [h3, Option.bind_some, k1, k2, d9, e3, hj, bne_self_eq_false, Bool.false_eq_true, if_false, beq_self_eq_true, Bool.not_true]
end Go.Proofs
