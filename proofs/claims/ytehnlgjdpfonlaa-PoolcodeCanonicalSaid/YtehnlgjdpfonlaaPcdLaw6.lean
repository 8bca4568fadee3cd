/-
  The law PoolcodeCanonical: what was read is written again as it stood. No condition but on the sizes that the statement gives.
-/
import Derived.Test.YtehnlgjdpfonlaaPcdLaw5
namespace Go.Proofs
open Go.Den

/-- So many bytes from a place on. -/
def seg (s : List UInt8) (a n : Int) : List UInt8 := (s.drop a.toNat).take n.toNat
theorem seg_len {s : List UInt8} {a n : Int} (h0 : 0 ≤ a) (hn : 0 ≤ n) (h : a + n ≤ (s.length : Int)) : ((seg s a n).length : Int) = n := by unfold seg; rw [List.length_take, List.length_drop]; omega
theorem seg_app {s : List UInt8} {a n m : Int} (h0 : 0 ≤ a) (hn : 0 ≤ n) (hm : 0 ≤ m) : seg s a n ++ seg s (a + n) m = seg s a (n + m) := by
  unfold seg
  rw [show (a + n).toNat = a.toNat + n.toNat by omega, show (n + m).toNat = n.toNat + m.toNat by omega, ← List.drop_drop, List.take_add]

theorem ub (b : UInt8) (x : Int) (h : x % 256 = (b.toNat : Int)) : UInt8.ofNat (x % 256).toNat = b := by rw [h]; simp
theorem back1 {s : List UInt8} {a : Int} (hl : big s) (hc : code s a 1 = 0) : bytesOf (by1 (uV s a 1)) = seg s a 1 ∧ 0 ≤ uV s a 1 ∧ uV s a 1 ≤ 255 := by
  obtain ⟨g0, g1⟩ := code_ok (by decide) hc
  obtain ⟨w, hw, hwl, hg⟩ := window_get g0 (by decide) g1
  obtain ⟨c0, rfl⟩ := len1 hwl
  have hu := (uns1 hl hc hw g0 hg).1
  have hv : uV s a 1 = raw1 c0 := by unfold uV; rw [hu]; rfl
  have hr := raw1lt c0
  rw [hv]
  refine ⟨?_, by omega, by omega⟩
  unfold seg
  rw [hw]
  show [UInt8.ofNat (raw1 c0 % 256).toNat] = [c0]
  rw [ub c0]
  unfold raw1; have := u8lt c0; omega
theorem back2 {s : List UInt8} {a : Int} (hl : big s) (hc : code s a 2 = 0) : bytesOf (by2 (uV s a 2)) = seg s a 2 := by
  obtain ⟨g0, g1⟩ := code_ok (by decide) hc
  obtain ⟨w, hw, hwl, hg⟩ := window_get g0 (by decide) g1
  obtain ⟨c0, c1, rfl⟩ := len2 hwl
  have hu := (uns2 hl hc hw g0 hg).1
  have hv : uV s a 2 = raw2 c0 c1 := by unfold uV; rw [hu]; rfl
  rw [hv]
  unfold seg
  rw [hw]
  show [UInt8.ofNat (raw2 c0 c1 / 256 % 256).toNat, UInt8.ofNat (raw2 c0 c1 % 256).toNat] = [c0, c1]
  have := u8lt c0; have := u8lt c1
  rw [ub c0 _ (by unfold raw2; omega), ub c1 _ (by unfold raw2; omega)]
theorem back4 {s : List UInt8} {a : Int} (hl : big s) (hc : code s a 4 = 0) : bytesOf (by4 (sV s a 4)) = seg s a 4 ∧ -2147483648 ≤ sV s a 4 ∧ sV s a 4 ≤ 2147483647 := by
  obtain ⟨g0, g1⟩ := code_ok (by decide) hc
  obtain ⟨w, hw, hwl, hg⟩ := window_get g0 (by decide) g1
  obtain ⟨c0, c1, c2, c3, rfl⟩ := len4 hwl
  have hv : sV s a 4 = sgn4 c0 c1 c2 c3 := by unfold sV; rw [osig4 hl hc hw]; rfl
  have b0 := u8lt c0; have b1 := u8lt c1; have b2 := u8lt c2; have b3 := u8lt c3
  rw [hv]
  refine ⟨?_, by unfold sgn4 raw4; split <;> omega, by unfold sgn4 raw4; split <;> omega⟩
  unfold seg
  rw [hw]
  show [UInt8.ofNat (sgn4 c0 c1 c2 c3 / 256 / 256 / 256 % 256).toNat, UInt8.ofNat (sgn4 c0 c1 c2 c3 / 256 / 256 % 256).toNat, UInt8.ofNat (sgn4 c0 c1 c2 c3 / 256 % 256).toNat, UInt8.ofNat (sgn4 c0 c1 c2 c3 % 256).toNat] = [c0, c1, c2, c3]
  have e : ∃ q : Int, sgn4 c0 c1 c2 c3 = ((((c0.toNat : Int) * 256 + (c1.toNat : Int)) * 256 + (c2.toNat : Int)) * 256 + (c3.toNat : Int)) + q * 4294967296 := by
    unfold sgn4 raw4
    split
    · exact ⟨-1, by omega⟩
    · exact ⟨0, by omega⟩
  obtain ⟨q, e⟩ := e
  rw [e, ub c0 _ (by omega), ub c1 _ (by omega), ub c2 _ (by omega), ub c3 _ (by omega)]
theorem back8 {s : List UInt8} {a : Int} (hl : big s) (hc : code s a 8 = 0) : bytesOf (by8 (sV s a 8)) = seg s a 8 ∧ -9223372036854775808 ≤ sV s a 8 ∧ sV s a 8 ≤ 9223372036854775807 := by
  obtain ⟨g0, g1⟩ := code_ok (by decide) hc
  obtain ⟨w, hw, hwl, hg⟩ := window_get g0 (by decide) g1
  obtain ⟨c0, c1, c2, c3, c4, c5, c6, c7, rfl⟩ := len8 hwl
  have hv : sV s a 8 = sgn8 c0 c1 c2 c3 c4 c5 c6 c7 := by unfold sV; rw [osig8 hl hc hw]; rfl
  have b0 := u8lt c0; have b1 := u8lt c1; have b2 := u8lt c2; have b3 := u8lt c3
  have b4 := u8lt c4; have b5 := u8lt c5; have b6 := u8lt c6; have b7 := u8lt c7
  rw [hv]
  refine ⟨?_, by unfold sgn8 raw8; split <;> omega, by unfold sgn8 raw8; split <;> omega⟩
  unfold seg
  rw [hw]
  have e : ∃ q : Int, sgn8 c0 c1 c2 c3 c4 c5 c6 c7 = ((((((((c0.toNat : Int) * 256 + (c1.toNat : Int)) * 256 + (c2.toNat : Int)) * 256 + (c3.toNat : Int)) * 256 + (c4.toNat : Int)) * 256 + (c5.toNat : Int)) * 256 + (c6.toNat : Int)) * 256 + (c7.toNat : Int)) + q * 18446744073709551616 := by
    unfold sgn8 raw8
    split
    · exact ⟨-1, by omega⟩
    · exact ⟨0, by omega⟩
  obtain ⟨q, e⟩ := e
  rw [e]
  unfold by8 bytesOf
  simp only [List.map_cons, List.map_nil]
  rw [ub c0 _ (by omega), ub c1 _ (by omega), ub c2 _ (by omega), ub c3 _ (by omega), ub c4 _ (by omega), ub c5 _ (by omega), ub c6 _ (by omega), ub c7 _ (by omega)]

/-- What is read as a constant is that constant's encoding. -/
theorem back_one {s : List UInt8} {a : Int} (hl : big s) (h : tkE s a = 0) : 0 ≤ a ∧ a < tkN s a ∧ tkN s a ≤ (s.length : Int) ∧ oneS (tkC s a) = seg s a (tkN s a - a) := by
  unfold tkE at h
  by_cases h0 : code s a 1 = 0
  · rw [if_neg (by simpa using h0)] at h
    obtain ⟨g0, g1⟩ := code_ok (by decide) h0
    obtain ⟨t0, t1, t2⟩ := back1 hl h0
    change bytesOf (by1 (tg s a)) = _ at t0
    change 0 ≤ tg s a at t1
    change tg s a ≤ 255 at t2
    unfold tkC tkN
    generalize tg s a = t at *
    by_cases n1 : t = 1
    · rw [if_pos n1] at h
      rw [if_pos n1, if_pos n1]
      have hg : gOk s (a + 1) := by
        by_cases hg : gOk s (a + 1)
        · exact hg
        · rw [if_neg hg] at h; cases h
      obtain ⟨r0, r1⟩ := uV_range hl hg.1
      obtain ⟨q0, q1⟩ := code_ok (by decide) hg.1
      obtain ⟨q2, q3⟩ := code_ok r0 hg.2
      refine ⟨g0, by omega, by omega, ?_⟩
      have hS : ((gS s (a + 1)).length : Int) = uV s (a + 1) 2 := seg_len q2 r0 q3
      unfold oneS
      dsimp only
      rw [pS1 ⟨t1, t2⟩, if_pos n1]
      unfold strS
      rw [hS, if_neg (by omega), t0, back2 hl hg.1]
      show seg s a 1 ++ (seg s (a + 1) 2 ++ seg s (a + 1 + 2) (uV s (a + 1) 2)) = _
      rw [seg_app q0 (by decide) r0, seg_app g0 (by decide) (by omega)]
      congr 1; omega
    rw [if_neg n1] at h
    rw [if_neg n1, if_neg n1]
    by_cases n3 : t = 3
    · rw [if_pos n3] at h
      rw [if_pos n3, if_pos n3]
      have hc : code s (a + 1) 4 = 0 := by
        by_cases hc : code s (a + 1) 4 = 0
        · exact hc
        · rw [if_neg hc] at h; cases h
      obtain ⟨q0, q1⟩ := code_ok (by decide) hc
      obtain ⟨e1, e2, e3⟩ := back4 hl hc
      refine ⟨g0, by omega, by omega, ?_⟩
      unfold oneS
      dsimp only
      rw [pS1 ⟨t1, t2⟩, if_neg n1, if_pos n3, pS4 ⟨e2, e3⟩, t0, e1, seg_app g0 (by decide) (by decide)]
      congr 1; omega
    rw [if_neg n3] at h
    rw [if_neg n3, if_neg n3]
    by_cases n5 : t = 5
    · rw [if_pos n5] at h
      rw [if_pos n5, if_pos n5]
      have hc : code s (a + 1) 8 = 0 := by
        by_cases hc : code s (a + 1) 8 = 0
        · exact hc
        · rw [if_neg hc] at h; cases h
      obtain ⟨q0, q1⟩ := code_ok (by decide) hc
      obtain ⟨e1, -, -⟩ := back8 hl hc
      refine ⟨g0, by omega, by omega, ?_⟩
      unfold oneS
      dsimp only
      rw [pS1 ⟨t1, t2⟩, if_neg n1, if_neg n3, if_pos n5, pS8, t0, e1, seg_app g0 (by decide) (by decide)]
      congr 1; omega
    rw [if_neg n5] at h
    rw [if_neg n5, if_neg n5]
    by_cases n7 : t = 7 ∨ t = 8
    · rw [if_pos n7] at h
      rw [if_pos n7, if_pos n7]
      have hc : code s (a + 1) 2 = 0 := by
        by_cases hc : code s (a + 1) 2 = 0
        · exact hc
        · rw [if_neg hc] at h; cases h
      obtain ⟨q0, q1⟩ := code_ok (by decide) hc
      obtain ⟨r0, r1⟩ := uV_range hl hc
      refine ⟨g0, by omega, by omega, ?_⟩
      unfold oneS
      dsimp only
      rw [pS1 ⟨t1, t2⟩, if_neg n1, if_neg n3, if_neg n5, if_pos n7, pS2 ⟨r0, by omega⟩, t0, back2 hl hc, seg_app g0 (by decide) (by decide)]
      congr 1; omega
    rw [if_neg n7] at h
    rw [if_neg n7, if_neg n7]
    by_cases n9 : t = 9 ∨ t = 10 ∨ t = 11 ∨ t = 12
    · rw [if_pos n9] at h
      have hc : code s (a + 1) 2 = 0 := by
        by_cases hc : code s (a + 1) 2 = 0
        · exact hc
        · rw [if_neg hc] at h; cases h
      rw [if_pos hc] at h
      have hd : code s (a + 1 + 2) 2 = 0 := by
        by_cases hd : code s (a + 1 + 2) 2 = 0
        · exact hd
        · rw [if_neg hd] at h; cases h
      obtain ⟨q0, q1⟩ := code_ok (by decide) hc
      obtain ⟨q2, q3⟩ := code_ok (by decide) hd
      obtain ⟨r0, r1⟩ := uV_range hl hc
      obtain ⟨r2, r3⟩ := uV_range hl hd
      refine ⟨g0, by omega, by omega, ?_⟩
      unfold oneS
      dsimp only
      rw [pS1 ⟨t1, t2⟩, if_neg n1, if_neg n3, if_neg n5, if_neg n7, pS2 ⟨r0, by omega⟩, pS2 ⟨r2, by omega⟩, t0, back2 hl hc, back2 hl hd, seg_app q0 (by decide) (by decide), seg_app g0 (by decide) (by decide)]
      congr 1; omega
    · rw [if_neg n9] at h; cases h
  · rw [if_pos h0] at h; cases h

theorem back_all {s : List UInt8} (hl : big s) : ∀ (k : Nat) (a : Int), 0 ≤ a → a ≤ (s.length : Int) → pE s k a = 0 → a ≤ pA s k a ∧ pA s k a ≤ (s.length : Int) ∧ allS (pL s k a) = seg s a (pA s k a - a)
  | 0, a, h0, h1, _ => by
    refine ⟨Int.le_refl _, h1, ?_⟩
    show [] = seg s a (a - a)
    unfold seg; simp
  | k + 1, a, h0, h1, h => by
    unfold pE at h
    by_cases ht : tkE s a = 0
    · rw [if_pos ht] at h
      obtain ⟨q0, q1, q2, q3⟩ := back_one hl ht
      obtain ⟨r0, r1, r2⟩ := back_all hl k (tkN s a) (by omega) q2 h
      unfold pA pL
      refine ⟨by omega, r1, ?_⟩
      have e0 : allS (tkC s a :: pL s k (tkN s a)) = oneS (tkC s a) ++ allS (pL s k (tkN s a)) := rfl
      rw [e0, q3, r2]
      have := seg_app (s := s) (a := a) (n := tkN s a - a) (m := pA s k (tkN s a) - tkN s a) q0 (by omega) (by omega)
      rw [show a + (tkN s a - a) = tkN s a by omega] at this
      rw [this]
      congr 1; omega
    · rw [if_neg ht] at h; exact absurd h ht

theorem tk_small {s : List UInt8} (a : Int) : tkE s a = 0 → ((tkC s a).f_Tag ≠ 1 → (tkC s a).f_S = []) := by
  intro _ h
  unfold tkC at h ⊢
  by_cases n1 : tg s a = 1
  · rw [if_pos n1] at h; exact absurd n1 h
  · rw [if_neg n1]
    repeat' split
    all_goals rfl

theorem law_PoolcodeCanonical (s : List UInt8) (a : Int) : m_armaturelaw06_PoolcodeCanonical s a = some true := by
  unfold m_armaturelaw06_PoolcodeCanonical
  rw [awake6]
  by_cases h : (s.length : Int) > 5000
  · rw [if_pos (decide_eq_true h)]; rfl
  rw [if_neg (by simpa using h)]
  have hl : big s := by unfold big; omega
  obtain ⟨-, r, hr⟩ := dec_ref (s := s) (by omega) a
  rw [dec_pool hl, hr]
  simp only [Option.bind_some]
  by_cases he : r.2.2 = 0
  · rw [if_neg (by simpa using he)]
    -- it was read
    unfold decF at hr
    by_cases k1 : a < 0 ∨ a > (s.length : Int)
    · rw [if_pos k1] at hr; cases hr; cases he
    rw [if_neg k1] at hr
    by_cases k2 : code s a 2 = 0
    · rw [if_neg (c := code s a 2 ≠ 0) (fun x => x k2)] at hr
      by_cases k3 : pE s (cnt s a) (a + 2) = 0
      · rw [if_neg (c := pE s (cnt s a) (a + 2) ≠ 0) (fun x => x k3)] at hr
        obtain ⟨q1, q2⟩ := pL_short (s := s) (cnt s a) (a + 2)
        obtain ⟨r0, r1⟩ := uV_range hl k2
        have hsh : shortP (pL s (cnt s a) (a + 2)) := ⟨by rw [q1]; unfold cnt; omega, fun c hc => by have := q2 c hc; omega⟩
        obtain ⟨v, v1, v2⟩ := Check_same _ hsh
        rw [v1] at hr
        simp only [Option.map_some, Option.some.injEq] at hr
        by_cases k4 : v.2 = 0
        · rw [if_neg (c := v.2 ≠ 0) (fun x => x k4)] at hr
          subst hr
          obtain ⟨g0, g1⟩ := code_ok (by decide) k2
          obtain ⟨b0, b1, b2⟩ := back_all hl (cnt s a) (a + 2) (by omega) (by omega) k3
          obtain ⟨l0, l1'⟩ := Check_sound hsh v1 k4
          have hp : smallP (pL s (cnt s a) (a + 2)) := ⟨by omega, fun c hc => by
            obtain ⟨x, y, hf⟩ := l1' c hc
            by_cases n1 : c.f_Tag = 1
            · have := hf.short n1; omega
            · have hu := hf.used
              unfold badU at hu
              simp only [Bool.or_eq_false_iff, Bool.and_eq_false_iff, bne_eq_false_iff_eq] at hu
              rw [hu.1.1.1.resolve_left n1]; simp⟩
          have hcn : ((pL s (cnt s a) (a + 2)).length : Int) = uV s a 2 := by rw [q1]; unfold cnt; omega
          have henc : encS (pL s (cnt s a) (a + 2)) = seg s a (pA s (cnt s a) (a + 2) - a) := by
            unfold encS
            rw [hcn, pS2 ⟨r0, by omega⟩, back2 hl k2, b2, seg_app g0 (by decide) (by omega)]
            congr 1; omega
          dsimp only
          rw [if_neg (by simpa using fun x : a < 0 => k1 (.inl x)), if_neg (by simp; omega), if_neg (by simp; omega)]
          unfold j6x1
          dsimp only
          have hE : m_poolcode_Encode (pL s (cnt s a) (a + 2)) = some (encS (pL s (cnt s a) (a + 2)), 0) := by
            rw [enc_pool hp]; unfold encF; rw [v1]
            simp only [Option.map_some]
            rw [if_neg (c := v.2 ≠ 0) (fun x => x k4)]
          have hsub : sub s a (pA s (cnt s a) (a + 2)) = some (seg s a (pA s (cnt s a) (a + 2) - a)) := by
            unfold sub seg
            rw [if_pos (by omega)]
            congr 2; omega
          rw [hE, v2]
          simp only [Option.bind_some]
          rw [awake6]
          simp only [Option.bind_some]
          rw [if_pos trivial, if_pos (by simp), hsub]
          simp only [Option.bind_some]
          rw [henc, if_pos (by simp), k4]
          rfl
        · rw [if_pos (c := v.2 ≠ 0) k4] at hr
          subst hr
          exact absurd he k4
      · rw [if_pos (c := pE s (cnt s a) (a + 2) ≠ 0) k3] at hr
        cases hr
        exact absurd he k3
    · rw [if_pos (c := code s a 2 ≠ 0) k2] at hr
      cases hr; cases he
  · rw [if_pos (by simpa using he)]
    have : r.1 = [] ∧ r.2.1 = 0 := by
      unfold decF at hr
      split at hr
      · cases hr; exact ⟨rfl, rfl⟩
      · split at hr
        · cases hr; exact ⟨rfl, rfl⟩
        · split at hr
          · cases hr; exact ⟨rfl, rfl⟩
          · cases hv : m_pool_Check (pL s (cnt s a) (a + 2)) with
            | none => rw [hv] at hr; cases hr
            | some v =>
              rw [hv] at hr
              simp only [Option.map_some, Option.some.injEq] at hr
              split at hr
              · subst hr; exact ⟨rfl, rfl⟩
              · subst hr; exact absurd rfl he
    rw [this.1, this.2]
    rfl
end Go.Proofs
