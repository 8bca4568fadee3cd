/-
  The loops of poolcode.Decode and its reference, and the law PoolcodeDecode. No condition but on the sizes that a statement gives.
-/
import Derived.Test.YtehnlgjdpfonlaaPcdLaw2
namespace Go.Proofs
open Go.Den

/-- So many constants one behind another: the first error, the constants, the place behind them. -/
def pE (s : List UInt8) : Nat → Int → Int
  | 0, _ => 0
  | k + 1, a => if tkE s a = 0 then pE s k (tkN s a) else tkE s a
def pL (s : List UInt8) : Nat → Int → List T_api_Const
  | 0, _ => []
  | k + 1, a => tkC s a :: pL s k (tkN s a)
def pA (s : List UInt8) : Nat → Int → Int
  | 0, a => a
  | k + 1, a => pA s k (tkN s a)

theorem grow48 {n : Nat} (h : n ≤ 100000) : growK 48 n = some () := by unfold growK; rw [if_pos (by omega)]

theorem loop_ref {s : List UInt8} (hl : big s) (v : Int × Int × Int) : ∀ (k : Nat) (a : Int) (out : List T_api_Const) (fuel : Nat) (i : Int), k < fuel → i + k = v.1 → 0 ≤ i → v.1 ≤ 70000 → out.length + k ≤ 70000 →
    loopM (l12x1 v s) fuel (a, i, out) = some (if pE s k a = 0 then .inl (out ++ pL s k a, pA s k a) else .inr ([], 0, pE s k a))
  | 0, a, out, fuel + 1, i, _, h1, h2, h3, _ => by
    unfold loopM l12x1
    dsimp only
    rw [if_neg (by simp; omega)]
    simp [pE, pL, pA]
  | k + 1, a, out, fuel + 1, i, h0, h1, h2, h3, h4 => by
    obtain ⟨c, nx, e1, e2⟩ := tk_ref s a hl
    have hw : IntKind.wrap .i64 (i + 1) = i + 1 := wrapS (by omega) (by omega)
    have hs : l12x1 v s (a, i, out) = some (if tkE s a = 0 then .next (tkN s a, i + 1, out ++ [tkC s a]) else .done (.inr ([], 0, tkE s a))) := by
      unfold l12x1
      dsimp only
      rw [if_pos (decide_eq_true (by omega)), e1]
      simp only [Option.bind_some]
      by_cases h : tkE s a = 0
      · obtain ⟨rfl, rfl⟩ := e2 h
        rw [if_neg (by simp [h]), grow48 (by simp; omega), if_pos h]
        simp only [Option.bind_some, hw]
      · rw [if_pos (by simp [h]), if_neg h]
    unfold loopM
    rw [hs]
    unfold pE pL pA
    by_cases h : tkE s a = 0
    · rw [if_pos h, if_pos h]
      dsimp only
      rw [loop_ref hl v k (tkN s a) (out ++ [tkC s a]) fuel (i + 1) (by omega) (by omega) (by omega) h3 (by simp; omega)]
      simp
    · rw [if_neg h, if_neg h, if_neg h]

theorem loop_pool {s : List UInt8} (hl : big s) : ∀ (k : Nat) (a : Int) (out : List T_api_Const) (fuel : Nat), k + 1 < fuel → out.length + k ≤ 70000 →
    ∃ a' p', loopM l11x1 fuel ((k : Int), s, a, 0, out) = some (s, a', pE s k a, p') ∧ (pE s k a = 0 → a' = pA s k a ∧ p' = out ++ pL s k a)
  | 0, a, out, fuel + 1, _, _ => ⟨a, out, by
      unfold loopM l11x1
      dsimp only
      rw [if_neg (by simp)]
      rfl, fun _ => ⟨rfl, by simp [pL]⟩⟩
  | k + 1, a, out, fuel + 1, h0, h4 => by
    obtain ⟨c, a', e1, e2⟩ := const_pool s a hl
    have hw : IntKind.wrap .i64 (((k + 1 : Nat) : Int) - 1) = (k : Int) := by rw [wrapS (by omega) (by omega)]; omega
    have hs : l11x1 (((k + 1 : Nat) : Int), s, a, 0, out) = some (.next ((k : Int), s, a', tkE s a, out ++ [c])) := by
      unfold l11x1 j11x2
      dsimp only
      rw [if_pos (decide_eq_true (by omega)), if_pos (by simp)]
      rw [show ({ f_s := s, f_at := a, f_err := 0 } : T_poolcode_reader) = rdr s a 0 from rfl, e1]
      simp only [Option.bind_some]
      rw [grow48 (by simp; omega)]
      simp only [Option.bind_some, hw]
      rfl
    unfold loopM
    rw [hs]
    dsimp only
    unfold pE pL pA
    by_cases h : tkE s a = 0
    · obtain ⟨rfl, rfl⟩ := e2 h
      rw [h, if_pos rfl]
      obtain ⟨a2, p2, k1, k2⟩ := loop_pool hl k (tkN s a) (out ++ [tkC s a]) fuel (by omega) (by simp; omega)
      exact ⟨a2, p2, k1, fun h => ⟨(k2 h).1, by rw [(k2 h).2]; simp⟩⟩
    · rw [if_neg h]
      refine ⟨a', out ++ [c], ?_, fun h' => absurd h' h⟩
      obtain ⟨f, rfl⟩ : ∃ f, fuel = f + 1 := ⟨fuel - 1, by omega⟩
      unfold loopM l11x1
      dsimp only
      by_cases hk : (k : Int) > 0
      · rw [if_pos (decide_eq_true hk), if_neg (by simpa using h)]
      · rw [if_neg (by simpa using hk)]

/-- The number of constants that a text announces. -/
def cnt (s : List UInt8) (a : Int) : Nat := (uV s a 2).toNat
def decF (s : List UInt8) (a : Int) : Option (List T_api_Const × Int × Int) :=
  if a < 0 ∨ a > (s.length : Int) then some ([], 0, 2)
  else if code s a 2 ≠ 0 then some ([], 0, 3)
  else if pE s (cnt s a) (a + 2) ≠ 0 then some ([], 0, pE s (cnt s a) (a + 2))
  else (m_pool_Check (pL s (cnt s a) (a + 2))).map fun v => if v.2 ≠ 0 then ([], 0, v.2) else (pL s (cnt s a) (a + 2), pA s (cnt s a) (a + 2), 0)

theorem dec_pool {s : List UInt8} (hl : big s) (a : Int) : m_poolcode_Decode s a = decF s a := by
  unfold m_poolcode_Decode decF j11x1
  by_cases h1 : a < 0
  · rw [if_pos (decide_eq_true h1), if_pos (.inl h1)]
  rw [if_neg (by simpa using h1)]
  by_cases h2 : a > (s.length : Int)
  · rw [if_pos (decide_eq_true h2), if_pos (.inr h2)]
  rw [if_neg (by simpa using h2), if_neg (by omega)]
  rw [show ({ f_s := s, f_at := a, f_err := 0 } : T_poolcode_reader) = rdr s a 0 from rfl, rd_uns hl wd2]
  by_cases hc : code s a 2 = 0
  · rw [if_pos hc, if_neg (c := code s a 2 ≠ 0) (fun h => h hc)]
    simp only [Option.bind_some, rdr]
    obtain ⟨r0, r1⟩ := uV_range hl hc
    obtain ⟨a', p', k1, k2⟩ := loop_pool hl (cnt s a) (a + 2) [] rounds (by unfold cnt rounds; omega) (by unfold cnt; simp; omega)
    rw [show ((cnt s a : Nat) : Int) = uV s a 2 by unfold cnt; omega] at k1
    rw [k1]
    simp only [Option.bind_some]
    by_cases hp : pE s (cnt s a) (a + 2) = 0
    · obtain ⟨rfl, rfl⟩ := k2 hp
      rw [hp, if_neg (by simp), if_neg (by simp), List.nil_append]
      cases m_pool_Check (pL s (cnt s a) (a + 2)) with
      | none => rfl
      | some v =>
        simp only [Option.bind_some, Option.map_some]
        by_cases hv : v.2 = 0
        · rw [if_neg (by simp [hv]), if_neg (by simp [hv])]
        · rw [if_pos (by simp [hv]), if_pos hv]
    · rw [if_pos (by simpa using hp), if_pos hp]
  · rw [if_neg hc, if_pos hc]
    simp only [Option.bind_some, rdr]
    have : loopM l11x1 rounds ((0 : Int), s, a, 3, []) = some (s, a, 3, []) := by
      unfold rounds
      rw [show (18446744073709551616 : Nat) = 18446744073709551615 + 1 from rfl]
      unfold loopM l11x1
      dsimp only
      rw [if_neg (by simp)]
    rw [this]
    rfl

theorem tkC_short {s : List UInt8} (a : Int) : (tkC s a).f_S.length ≤ s.length := by
  unfold tkC
  split
  · show (gS s (a + 1)).length ≤ _
    unfold gS; simp; omega
  · repeat' split
    all_goals simp
theorem pL_short {s : List UInt8} : ∀ (k : Nat) (a : Int), (pL s k a).length = k ∧ ∀ c ∈ pL s k a, c.f_S.length ≤ s.length
  | 0, _ => ⟨rfl, fun c hc => by cases hc⟩
  | k + 1, a => by
    obtain ⟨h1, h2⟩ := pL_short (s := s) k (tkN s a)
    unfold pL
    refine ⟨by simp [h1], fun c hc => ?_⟩
    rcases List.mem_cons.1 hc with rfl | hc
    · exact tkC_short a
    · exact h2 c hc

theorem dec_ref {s : List UInt8} (hs : s.length ≤ 1048576) (a : Int) : m_armatureref06_Decode s a = decF s a ∧ ∃ r, decF s a = some r := by
  have hl : big s := by unfold big; omega
  unfold m_armatureref06_Decode decF j12x1
  by_cases h1 : a < 0
  · rw [if_pos (decide_eq_true h1), if_pos (.inl h1)]; exact ⟨rfl, _, rfl⟩
  rw [if_neg (by simpa using h1)]
  by_cases h2 : a > (s.length : Int)
  · rw [if_pos (decide_eq_true h2), if_pos (.inr h2)]; exact ⟨rfl, _, rfl⟩
  rw [if_neg (by simpa using h2), if_neg (by omega), num_ref hl wd2]
  by_cases hc : code s a 2 = 0
  · rw [if_pos hc, if_neg (c := code s a 2 ≠ 0) (fun h => h hc)]
    simp only [Option.bind_some, Bool.false_eq_true, if_false, bne_self_eq_false]
    obtain ⟨r0, r1⟩ := uV_range hl hc
    rw [loop_ref hl (uV s a 2, a + 2, 0) (cnt s a) (a + 2) [] rounds 0 (by unfold cnt rounds; omega) (by unfold cnt; dsimp only; omega) (by omega) (by dsimp only; omega) (by unfold cnt; simp; omega)]
    simp only [Option.bind_some]
    by_cases hp : pE s (cnt s a) (a + 2) = 0
    · obtain ⟨q1, q2⟩ := pL_short (s := s) (cnt s a) (a + 2)
      obtain ⟨v, v1, v2⟩ := Check_same (pL s (cnt s a) (a + 2)) ⟨by rw [q1]; unfold cnt; omega, fun c hc => by have := q2 c hc; omega⟩
      rw [if_pos hp, if_neg (by simpa using hp), List.nil_append]
      dsimp only
      rw [v1, v2]
      simp only [Option.bind_some, Option.map_some]
      refine ⟨?_, _, rfl⟩
      by_cases hv : v.2 = 0
      · rw [if_neg (by simp [hv]), if_neg (by simp [hv])]
      · rw [if_pos (by simp [hv]), if_pos hv]
    · rw [if_neg hp, if_pos hp]
      exact ⟨rfl, _, rfl⟩
  · rw [if_neg hc, if_pos hc]
    exact ⟨rfl, _, rfl⟩

theorem same_refl (p : List T_api_Const) (hp : p.length ≤ 1000000) : m_armatureref06_Same p p = some true := by
  have : ∃ r, loopM (l13x1 p p) rounds 0 = some r ∧ r = .inl () := by
    refine loopM_ind (fun t : Int => ∃ i : Nat, i ≤ p.length ∧ t = i) (fun t : Int => (p.length - t).toNat) _ ?_ rounds 0 ⟨0, by omega, rfl⟩ (by unfold rounds; omega)
    rintro t ⟨i, hi, rfl⟩
    unfold l13x1 j13x1
    by_cases h : i < p.length
    · have hw : IntKind.wrap .i64 ((i : Int) + 1) = ((i + 1 : Nat) : Int) := by rw [wrapS (by omega) (by omega)]; omega
      rw [if_pos (decide_eq_true (by omega)), if_pos (decide_eq_true (by omega)), getR_some h]
      simp only [Option.bind_some, eqC_refl, Bool.not_true, Bool.false_eq_true, if_false, hw]
      exact ⟨_, rfl, ⟨i + 1, by omega, rfl⟩, by omega⟩
    · rw [if_neg (by simp; omega)]
      exact ⟨_, rfl, rfl⟩
  obtain ⟨r, hr, rfl⟩ := this
  unfold m_armatureref06_Same
  rw [hr]
  simp

theorem decF_len {s : List UInt8} (hl : big s) {a : Int} {r : List T_api_Const × Int × Int} (h : decF s a = some r) : r.1.length ≤ 65536 := by
  unfold decF at h
  split at h
  · cases h; simp
  · split at h
    · cases h; simp
    · split at h
      · cases h; simp
      · cases hv : m_pool_Check (pL s (cnt s a) (a + 2)) with
        | none => rw [hv] at h; cases h
        | some v =>
          rw [hv] at h
          simp only [Option.map_some, Option.some.injEq] at h
          split at h
          · subst h; simp
          · subst h
            rename_i hc _ _
            have := uV_range hl (by simpa using hc)
            show (pL s (cnt s a) (a + 2)).length ≤ _
            rw [(pL_short (s := s) _ _).1]; unfold cnt; omega

theorem law_PoolcodeDecode (s : List UInt8) (a : Int) : m_armaturelaw06_PoolcodeDecode s a = some true := by
  unfold m_armaturelaw06_PoolcodeDecode
  rw [awake6]
  by_cases h : (s.length : Int) > 5000
  · rw [if_pos (decide_eq_true h)]; rfl
  · rw [if_neg (by simpa using h)]
    obtain ⟨e1, r, e2⟩ := dec_ref (s := s) (by omega) a
    have hl : big s := by unfold big; omega
    rw [e1, dec_pool hl, e2]
    simp only [Option.bind_some, if_true]
    rw [same_refl _ (by have := decF_len hl e2; omega)]
    simp
end Go.Proofs
