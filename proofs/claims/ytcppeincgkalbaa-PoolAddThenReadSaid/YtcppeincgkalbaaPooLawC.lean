/-
  The model of the law PoolAddThenRead answers true. No condition.
-/
import Derived.Test.YtcppeincgkalbaaPooL5
import Derived.Test.YtcppeincgkalbaaPooLaw3
namespace Go.Proofs
open Go.Den

theorem atr_3 (p : List T_api_Const) (h : 992 ≤ p.length) : j5x3 p = some true := by
  unfold j5x3
  rw [awake5]
  simp only [Option.bind_some, if_true]
  rw [decide_eq_true (by omega)]

theorem same_pre (p r : List T_api_Const) : sub (p ++ r) 0 (p.length : Int) = some p := by
  unfold sub
  rw [if_pos (by simp; omega)]
  simp

theorem law_PoolAddThenRead (p : List T_api_Const) (s : List UInt8) (r : T_api_Ref) : m_armaturelaw05_PoolAddThenRead p s r = some true := by
  unfold m_armaturelaw05_PoolAddThenRead
  rw [few5]
  by_cases h : (p.length : Int) ≤ 1100
  · rw [decide_eq_true h]
    have hl : p.length ≤ 1100 := by omega
    have n3 := namedF_len p 7 s
    simp only [Option.bind_some, Bool.not_true, Bool.false_eq_true, if_false]
    rw [class_pool p s (by omega)]
    simp only [Option.bind_some]
    obtain ⟨c1, c2⟩ := named_rich p 7 s
    generalize hv2 : namedF p 7 s = v2 at *
    have n4 := namedF_len v2.1 8 s
    rw [string_pool v2.1 s (by omega)]
    simp only [Option.bind_some]
    obtain ⟨d1, d2⟩ := named_rich v2.1 8 s
    generalize hv3 : namedF v2.1 8 s = v3 at *
    obtain ⟨v4, m1, m2, m3⟩ := mref_rich v3.1 9 r (by omega)
    rw [m1]
    simp only [Option.bind_some]
    by_cases e2 : v2.2.2 = 0
    · rw [if_neg (by simpa using e2)]
      obtain ⟨q1, i1, a1, a2⟩ := c2 e2
      obtain ⟨q2, i2, x2⟩ := v2
      dsimp only at e2 a2 n3 n4 hv3 m1 d1 d2 ⊢
      subst e2
      obtain ⟨A1, P1, L1, -⟩ := add_ok a1
      obtain ⟨A2, P2, L2, -⟩ := add_ok a2
      by_cases e3 : v3.2.2 = 0
      · rw [if_neg (by simpa using e3)]
        obtain ⟨q3, i3, b1, b2⟩ := d2 e3
        obtain ⟨q4, i4, x4⟩ := v3
        dsimp only at e3 b2 m1 m2 m3 ⊢
        subst e3
        obtain ⟨B1, P3, L3, U3⟩ := add_ok b1
        obtain rfl : q3 = q2 := U3 i1 (A1.ext P2)
        obtain ⟨B2, P4, L4, -⟩ := add_ok b2
        by_cases e4 : v4.2.2 = 0
        · rw [if_neg (by simpa using e4)]
          obtain ⟨t1, k1, t2, k2, t3, k3, t4, k4, t5, k5, f1, f2, f3, f4, f5, f6⟩ := m3 e4
          obtain ⟨t6, k6, x6⟩ := v4
          dsimp only at e4 f6 ⊢
          subst e4
          obtain ⟨F1, Q1, M1, -⟩ := add_ok f1
          obtain ⟨F2, Q2, M2, -⟩ := add_ok f2
          obtain ⟨F3, Q3, M3, -⟩ := add_ok f3
          obtain ⟨F4, Q4, M4, -⟩ := add_ok f4
          obtain ⟨F5, Q5, M5, -⟩ := add_ok f5
          obtain ⟨F6, Q6, M6, -⟩ := add_ok f6
          -- all of it stands in the last pool
          have z5 : t5 <+: t6 := Q6
          have z4 : t4 <+: t6 := Q5.trans z5
          have z3 : t3 <+: t6 := Q4.trans z4
          have z2 : t2 <+: t6 := Q3.trans z3
          have z1 : t1 <+: t6 := Q2.trans z2
          have z0 : q4 <+: t6 := Q1.trans z1
          have zq : q3 <+: t6 := P4.trans z0
          have zp : p <+: t6 := (P1.trans P2).trans zq
          have hlen : t6.length ≤ p.length + 9 := by omega
          have G1 : At1 t6 (uC s) i1 := (A1.ext P2).ext zq
          have G2 : At1 t6 (kC 7 i1 0) i2 := A2.ext zq
          have G3 : At1 t6 (uC s) i3 := B1.ext zq
          have G4 : At1 t6 (kC 8 i3 0) i4 := B2.ext z0
          have H1 := F1.ext z1
          have H2 := F2.ext z2
          have H3 := F3.ext z3
          have H4 := F4.ext z4
          have H5 := F5.ext z5
          have H6 := F6
          have hr9 : refF t6 k6 9 = (r, 0) := by
            unfold refF
            rw [H6.at]
            dsimp only
            rw [if_pos rfl, if_pos ⟨by decide, rfl⟩, show (kC 9 k2 k5).f_A = k2 from rfl, show (kC 9 k2 k5).f_B = k5 from rfl, thr_at H1 H2, nat_at H3 H4 H5]
            rfl
          have hr10 : refF t6 k6 10 = (ZR, 11) := by
            unfold refF
            rw [H6.at]
            dsimp only
            rw [if_pos rfl, if_neg (fun h => absurd h.2 (by show ¬ (9 : Int) = 10; decide))]
          unfold j5x1 j5x2
          dsimp only
          rw [cls_pool t6 i2 (by omega), str_pool t6 i4 (by omega), ref_pool t6 k6 9 (by omega), ref_pool t6 k6 10 (by omega), mref_again t6 9 r (by omega) H1 H2 H3 H4 H5 H6, hr9, hr10, thr_at G1 G2, thr_at G3 G4, awake5]
          simp only [Option.bind_some, beq_self_eq_true, Bool.not_true, Bool.false_eq_true, if_false, eqR_refl, bne_self_eq_false, if_true]
          rw [same5 t6 (by omega)]
          simp only [Option.bind_some, Bool.not_true, Bool.false_eq_true, if_false]
          obtain ⟨w, rfl⟩ := zp
          have hw : w.length ≤ 9 := by rw [List.length_append] at hlen; omega
          rw [wrapP (by omega) (by omega)]
          try simp only [Option.bind_some]
          rw [if_pos (decide_eq_true (by simp; omega)), if_pos (decide_eq_true (by simp; omega)), same_pre]
          simp only [Option.bind_some]
          rw [same5 p (by omega)]
          rfl
        · have := m2 e4
          rw [if_pos (bne_iff_ne.2 e4)]
          exact atr_3 p (by omega)
      · have := d1 e3
        rw [if_pos (bne_iff_ne.2 e3)]
        exact atr_3 p (by omega)
    · have := c1 e2
      rw [if_pos (bne_iff_ne.2 e2)]
      exact atr_3 p (by omega)
  · rw [decide_eq_false h, awake5]; rfl

end Go.Proofs
