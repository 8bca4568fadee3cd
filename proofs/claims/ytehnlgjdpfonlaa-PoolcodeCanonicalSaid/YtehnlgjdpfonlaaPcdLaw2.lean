/-
  What poolcode.Decode and its reference compute, and the law PoolcodeDecode. No condition but on the sizes that a statement gives.
-/
import Derived.Test.YtehnlgjdpfonlaaPcdLaw1
namespace Go.Proofs
open Go.Den

theorem get_ok {s : List UInt8} {a n : Int} (hl : (s.length : Int) ≤ 1125899906842624) (hn : wid n) (hc : code s a n = 0) :
    ∃ u v, m_octet_Unsigned s a n = some (u, 0) ∧ m_armatureref02_Unsigned s a n = some (u, 0) ∧ m_octet_Signed s a n = some (v, 0) ∧ m_armatureref02_Signed s a n = some (v, 0) := by
  obtain ⟨g0, g1, -⟩ := window_good hl (by have := wid_pos hn; omega) hc
  obtain ⟨w, hw, hwl, hg⟩ := window_get g0 (by have := wid_pos hn; omega) g1
  rcases hn with rfl | rfl | rfl | rfl
  · obtain ⟨c0, rfl⟩ := len1 hwl
    have := uns1 hl hc hw g0 hg
    exact ⟨_, _, this.1, this.2, osig1 hl hc hw, rsig1 hl hc g0 hg⟩
  · obtain ⟨c0, c1, rfl⟩ := len2 hwl
    have := uns2 hl hc hw g0 hg
    exact ⟨_, _, this.1, this.2, osig2 hl hc hw, rsig2 hl hc g0 hg⟩
  · obtain ⟨c0, c1, c2, c3, rfl⟩ := len4 hwl
    have := uns4 hl hc hw g0 hg
    exact ⟨_, _, this.1, this.2, osig4 hl hc hw, rsig4 hl hc g0 hg⟩
  · obtain ⟨c0, c1, c2, c3, c4, c5, c6, c7, rfl⟩ := len8 hwl
    have := uns8 hl hc hw g0 hg
    exact ⟨_, _, this.1, this.2, osig8 hl hc hw, rsig8 hl hc g0 hg⟩

def big (s : List UInt8) : Prop := (s.length : Int) ≤ 1125899906842624
def uV (s : List UInt8) (a n : Int) : Int := ((m_octet_Unsigned s a n).getD (0, 0)).1
def sV (s : List UInt8) (a n : Int) : Int := ((m_octet_Signed s a n).getD (0, 0)).1

theorem uns_eq {s : List UInt8} {a n : Int} (hl : big s) (hn : wid n) : m_octet_Unsigned s a n = some (if code s a n = 0 then (uV s a n, 0) else (0, code s a n)) ∧ m_armatureref02_Unsigned s a n = some (if code s a n = 0 then (uV s a n, 0) else (0, code s a n)) ∧
    m_octet_Signed s a n = some (if code s a n = 0 then (sV s a n, 0) else (0, code s a n)) ∧ m_armatureref02_Signed s a n = some (if code s a n = 0 then (sV s a n, 0) else (0, code s a n)) := by
  by_cases hc : code s a n = 0
  · obtain ⟨u, v, h1, h2, h3, h4⟩ := get_ok hl hn hc
    unfold uV sV
    rw [h1, h2, h3, h4, if_pos hc, if_pos hc]
    exact ⟨rfl, rfl, rfl, rfl⟩
  · obtain ⟨h1, h2, h3, h4⟩ := get_bad hl hn hc
    rw [if_neg hc, if_neg hc]
    exact ⟨h1, h4, h2, h3⟩

theorem code_ok {s : List UInt8} {a n : Int} (hn : 0 ≤ n) (h : code s a n = 0) : 0 ≤ a ∧ a + n ≤ (s.length : Int) := by
  unfold code at h
  split at h
  · cases h
  · split at h
    · cases h
    · split at h
      · cases h
      · omega

theorem wrapS {x : Int} (h0 : -9223372036854775808 ≤ x) (h1 : x ≤ 9223372036854775807) : IntKind.wrap .i64 x = x := by rw [wrapI64]; omega

theorem num_ref {s : List UInt8} {a n : Int} (hl : big s) (hn : wid n) (g : Bool) :
    m_armatureref06_number s a n g = some (if code s a n = 0 then (if g = true then sV s a n else uV s a n, a + n, 0) else (0, 0, 3)) := by
  obtain ⟨-, h2, -, h4⟩ := uns_eq (a := a) hl hn
  unfold m_armatureref06_number j24x1
  rw [h2, h4]
  by_cases hc : code s a n = 0
  · obtain ⟨q0, q1⟩ := code_ok (by have := wid_pos hn; omega) hc
    have hw : IntKind.wrap .i64 (a + n) = a + n := wrapS (by have := wid_pos hn; omega) (by unfold big at hl; omega)
    rw [if_pos hc, if_pos hc, if_pos hc]
    cases g <;> simp [hw]
  · rw [if_neg hc, if_neg hc, if_neg hc]
    cases g <;> simp [hc]

def rdr (s : List UInt8) (a e : Int) : T_poolcode_reader := { f_s := s, f_at := a, f_err := e }

theorem rd_uns {s : List UInt8} {a n : Int} (hl : big s) (hn : wid n) : m_armature_poolcode_reader_unsigned (rdr s a 0) n = some (if code s a n = 0 then (rdr s (a + n) 0, uV s a n) else (rdr s a 3, 0)) := by
  obtain ⟨h1, -, -, -⟩ := uns_eq (a := a) hl hn
  unfold m_armature_poolcode_reader_unsigned rdr
  simp only [bne_self_eq_false, Bool.false_eq_true, if_false]
  rw [h1]
  by_cases hc : code s a n = 0
  · obtain ⟨q0, q1⟩ := code_ok (by have := wid_pos hn; omega) hc
    have hw : IntKind.wrap .i64 (a + n) = a + n := wrapS (by have := wid_pos hn; omega) (by unfold big at hl; omega)
    rw [if_pos hc, if_pos hc]
    simp [hw]
  · rw [if_neg hc, if_neg hc]
    simp [hc]
theorem rd_err {s : List UInt8} {a e n : Int} (he : e ≠ 0) : m_armature_poolcode_reader_unsigned (rdr s a e) n = some (rdr s a e, 0) := by
  unfold m_armature_poolcode_reader_unsigned rdr
  rw [if_pos (by simpa using he)]
theorem rd_sgn {s : List UInt8} {a n : Int} (hl : big s) (hn : wid n) : m_armature_poolcode_reader_signed (rdr s a 0) n = some (if code s a n = 0 then (rdr s (a + n) 0, sV s a n) else (rdr s a 3, 0)) := by
  obtain ⟨-, -, h3, -⟩ := uns_eq (a := a) hl hn
  unfold m_armature_poolcode_reader_signed
  rw [rd_uns hl hn]
  by_cases hc : code s a n = 0
  · rw [if_pos hc, if_pos hc]
    simp only [Option.bind_some, rdr]
    rw [h3, if_pos hc]
    simp
  · rw [if_neg hc, if_neg hc]
    simp only [Option.bind_some, rdr]
    rw [h3, if_neg hc]
    simp

/-- The string that stands at a place, with what is behind it. -/
def gOk (s : List UInt8) (a : Int) : Prop := code s a 2 = 0 ∧ code s (a + 2) (uV s a 2) = 0
instance (s : List UInt8) (a : Int) : Decidable (gOk s a) := by unfold gOk; infer_instance
def gS (s : List UInt8) (a : Int) : List UInt8 := (s.drop (a + 2).toNat).take (uV s a 2).toNat

theorem uV_range {s : List UInt8} {a : Int} (hl : big s) (hc : code s a 2 = 0) : 0 ≤ uV s a 2 ∧ uV s a 2 < 65536 := by
  obtain ⟨h1, -, -, -⟩ := uns_eq (a := a) (n := 2) hl (by unfold wid; omega)
  rw [if_pos hc] at h1
  rcases uns_range hl h1 with ⟨k, -⟩ | ⟨-, -, k3, k4⟩
  · exact absurd rfl k
  · exact ⟨k3, k4⟩

theorem getstr {s : List UInt8} {a : Int} (hl : big s) : ∃ r, m_octet_GetString s a = some r ∧ m_armatureref02_GetString s a = some r ∧ (gOk s a → r = (gS s a, a + 2 + uV s a 2, 0)) ∧ (¬ gOk s a → r.2.2 ≠ 0) := by
  obtain ⟨h1, h2, -, -⟩ := uns_eq (a := a) (n := 2) hl (by unfold wid; omega)
  by_cases hc : code s a 2 = 0
  · rw [if_pos hc] at h1 h2
    obtain ⟨k3, k4⟩ := uV_range hl hc
    obtain ⟨g0, g1⟩ := code_ok (by decide) hc
    have hl' := hl
    unfold big at hl'
    have e1 : IntKind.wrap .i64 (a + 2) = a + 2 := wrapS (by omega) (by omega)
    have e2 : IntKind.wrap .i64 (a + 2 + uV s a 2) = a + 2 + uV s a 2 := wrapS (by omega) (by omega)
    have e3 : IntKind.wrap .i64 ((s.length : Int) - a) = (s.length : Int) - a := wrapS (by omega) (by omega)
    have e4 : IntKind.wrap .i64 ((s.length : Int) - a - 2) = (s.length : Int) - a - 2 := wrapS (by omega) (by omega)
    by_cases hc2 : code s (a + 2) (uV s a 2) = 0
    · obtain ⟨q0, q1, q2⟩ := window_good hl k3 hc2
      have q3 : ¬ ((s.length : Int) - a - 2 < uV s a 2) := by omega
      have q4 : sub s (a + 2) (a + 2 + uV s a 2) = some (gS s a) := by
        unfold sub gS
        rw [if_pos (by omega)]
        congr 2; omega
      refine ⟨(gS s a, a + 2 + uV s a 2, 0), ?_, ?_, fun _ => rfl, fun h => absurd ⟨hc, hc2⟩ h⟩
      · have : (s.drop (a + 2).toNat).take (uV s a 2).toNat = gS s a := rfl
        simp [m_octet_GetString, h1, e1, q2, e2, this]
      · simp [m_armatureref02_GetString, h2, e1, e2, e3, e4, q3, q4]
    · have q3 : (s.length : Int) - a - 2 < uV s a 2 := by
        unfold code at hc2
        rw [if_neg (by omega), if_neg (by omega)] at hc2
        by_cases z3 : (s.length : Int) - (a + 2) < uV s a 2
        · omega
        · rw [if_neg z3] at hc2; exact absurd rfl hc2
      have q5 : code s (a + 2) (uV s a 2) = 3 := by
        unfold code
        rw [if_neg (by omega), if_neg (by omega), if_pos (by omega)]
      refine ⟨([], 0, 3), by simp [m_octet_GetString, h1, e1, window_bad hl hc2, q5], by simp [m_armatureref02_GetString, h2, e3, e4, q3], fun h => absurd h.2 hc2, fun _ => by decide⟩
  · rw [if_neg hc] at h1 h2
    refine ⟨([], 0, code s a 2), by simp [m_octet_GetString, h1, hc], by simp [m_armatureref02_GetString, h2, hc], fun h => absurd h.1 hc, fun _ => hc⟩

theorem rd_text {s : List UInt8} {a : Int} (hl : big s) : m_armature_poolcode_reader_text (rdr s a 0) = some (if gOk s a then (rdr s (a + 2 + uV s a 2) 0, gS s a) else (rdr s a 3, [])) := by
  obtain ⟨r, h1, -, h2, h3⟩ := getstr (a := a) hl
  unfold m_armature_poolcode_reader_text rdr
  simp only [bne_self_eq_false, Bool.false_eq_true, if_false]
  rw [h1]
  simp only [Option.bind_some]
  by_cases hg : gOk s a
  · rw [if_pos hg, h2 hg]; simp
  · rw [if_neg hg, if_pos (by simpa using h3 hg)]

/-! ### One constant -/

def tg (s : List UInt8) (a : Int) : Int := uV s a 1
def tkE (s : List UInt8) (a : Int) : Int :=
  if code s a 1 ≠ 0 then 3
  else if tg s a = 1 then (if gOk s (a + 1) then 0 else 3)
  else if tg s a = 3 then (if code s (a + 1) 4 = 0 then 0 else 3)
  else if tg s a = 5 then (if code s (a + 1) 8 = 0 then 0 else 3)
  else if tg s a = 7 ∨ tg s a = 8 then (if code s (a + 1) 2 = 0 then 0 else 3)
  else if tg s a = 9 ∨ tg s a = 10 ∨ tg s a = 11 ∨ tg s a = 12 then (if code s (a + 1) 2 = 0 then (if code s (a + 1 + 2) 2 = 0 then 0 else 3) else 3)
  else 11
def tkC (s : List UInt8) (a : Int) : T_api_Const :=
  if tg s a = 1 then { f_Tag := tg s a, f_S := gS s (a + 1), f_N := 0, f_A := 0, f_B := 0 }
  else if tg s a = 3 then { f_Tag := tg s a, f_S := [], f_N := sV s (a + 1) 4, f_A := 0, f_B := 0 }
  else if tg s a = 5 then { f_Tag := tg s a, f_S := [], f_N := sV s (a + 1) 8, f_A := 0, f_B := 0 }
  else if tg s a = 7 ∨ tg s a = 8 then { f_Tag := tg s a, f_S := [], f_N := 0, f_A := uV s (a + 1) 2, f_B := 0 }
  else { f_Tag := tg s a, f_S := [], f_N := 0, f_A := uV s (a + 1) 2, f_B := uV s (a + 1 + 2) 2 }
def tkN (s : List UInt8) (a : Int) : Int :=
  if tg s a = 1 then a + 1 + 2 + uV s (a + 1) 2
  else if tg s a = 3 then a + 1 + 4
  else if tg s a = 5 then a + 1 + 8
  else if tg s a = 7 ∨ tg s a = 8 then a + 1 + 2
  else a + 1 + 2 + 2

theorem wd1 : wid 1 := .inl rfl
theorem wd2 : wid 2 := .inr (.inl rfl)
theorem wd4 : wid 4 := .inr (.inr (.inl rfl))
theorem wd8 : wid 8 := .inr (.inr (.inr rfl))

theorem tk_ref (s : List UInt8) (a : Int) (hl : big s) : ∃ c nx, m_armatureref06_take s a = some (c, nx, tkE s a) ∧ (tkE s a = 0 → c = tkC s a ∧ nx = tkN s a) := by
  unfold m_armatureref06_take j25x1 j25x2 j25x3 j25x4 j25x5
  rw [num_ref hl wd1]
  unfold tkE
  by_cases h0 : code s a 1 = 0
  · rw [if_pos h0, if_neg (c := code s a 1 ≠ 0) (fun h => h h0)]
    simp only [Option.bind_some, Bool.false_eq_true, if_false, bne_self_eq_false]
    change ∃ c nx, (if (tg s a == 1) = true then _ else _) = _ ∧ _
    unfold tkC tkN
    rw [show uV s a 1 = tg s a from rfl]
    generalize tg s a = t
    obtain ⟨r, -, hr, hr1, hr2⟩ := getstr (a := a + 1) hl
    rw [hr, num_ref hl wd4, num_ref hl wd8, num_ref hl wd2]
    simp only [Option.bind_some, if_true, Bool.false_eq_true, if_false]
    by_cases t1 : t = 1
    · rw [if_pos (by simp [t1]), if_pos t1, if_pos t1, if_pos t1]
      by_cases hg : gOk s (a + 1)
      · rw [if_pos hg, hr1 hg]
        exact ⟨_, _, rfl, fun _ => ⟨rfl, rfl⟩⟩
      · rw [if_neg hg, if_pos (by simpa using hr2 hg)]
        exact ⟨_, _, rfl, fun h => by cases h⟩
    rw [if_neg (by simp [t1]), if_neg t1, if_neg t1, if_neg t1]
    by_cases t3 : t = 3
    · rw [if_pos (by simp [t3]), if_pos t3, if_pos t3, if_pos t3]
      split
      · exact ⟨_, _, rfl, fun _ => ⟨rfl, rfl⟩⟩
      · exact ⟨_, _, rfl, fun h => by cases h⟩
    rw [if_neg (by simp [t3]), if_neg t3, if_neg t3, if_neg t3]
    by_cases t5 : t = 5
    · rw [if_pos (by simp [t5]), if_pos t5, if_pos t5, if_pos t5]
      split
      · exact ⟨_, _, rfl, fun _ => ⟨rfl, rfl⟩⟩
      · exact ⟨_, _, rfl, fun h => by cases h⟩
    rw [if_neg (by simp [t5]), if_neg t5, if_neg t5, if_neg t5]
    by_cases t7 : t = 7
    · rw [if_pos (by simp [t7]), if_pos (c := t = 7 ∨ t = 8) (.inl t7), if_pos (c := t = 7 ∨ t = 8) (.inl t7), if_pos (c := t = 7 ∨ t = 8) (.inl t7)]
      split
      · exact ⟨_, _, rfl, fun _ => ⟨rfl, rfl⟩⟩
      · exact ⟨_, _, rfl, fun h => by cases h⟩
    rw [if_neg (by simp [t7])]
    by_cases t8 : t = 8
    · rw [if_pos (by simp [t8]), if_pos (c := t = 7 ∨ t = 8) (.inr t8), if_pos (c := t = 7 ∨ t = 8) (.inr t8), if_pos (c := t = 7 ∨ t = 8) (.inr t8)]
      split
      · exact ⟨_, _, rfl, fun _ => ⟨rfl, rfl⟩⟩
      · exact ⟨_, _, rfl, fun h => by cases h⟩
    rw [if_neg (by simp [t8]), if_neg (c := t = 7 ∨ t = 8) (by omega), if_neg (c := t = 7 ∨ t = 8) (by omega), if_neg (c := t = 7 ∨ t = 8) (by omega)]
    have hm : ∃ c nx, (if ((if code s (a + 1) 2 = 0 then ((uV s (a + 1) 2, a + 1 + 2, 0) : Int × Int × Int) else (0, 0, 3)).2.2 == 0) = true then
        (m_armatureref06_number s (if code s (a + 1) 2 = 0 then ((uV s (a + 1) 2, a + 1 + 2, 0) : Int × Int × Int) else (0, 0, 3)).2.1 2 false).bind fun v5 =>
          some (({ f_Tag := t, f_S := [], f_N := 0, f_A := (if code s (a + 1) 2 = 0 then ((uV s (a + 1) 2, a + 1 + 2, 0) : Int × Int × Int) else (0, 0, 3)).1, f_B := v5.1 } : T_api_Const), v5.2.1, v5.2.2)
        else some (({ f_Tag := t, f_S := [], f_N := 0, f_A := (if code s (a + 1) 2 = 0 then ((uV s (a + 1) 2, a + 1 + 2, 0) : Int × Int × Int) else (0, 0, 3)).1, f_B := 0 } : T_api_Const), (if code s (a + 1) 2 = 0 then ((uV s (a + 1) 2, a + 1 + 2, 0) : Int × Int × Int) else (0, 0, 3)).2.1, (if code s (a + 1) 2 = 0 then ((uV s (a + 1) 2, a + 1 + 2, 0) : Int × Int × Int) else (0, 0, 3)).2.2)) =
          some (c, nx, (if code s (a + 1) 2 = 0 then (if code s (a + 1 + 2) 2 = 0 then 0 else 3) else 3)) ∧ ((if code s (a + 1) 2 = 0 then (if code s (a + 1 + 2) 2 = 0 then (0 : Int) else 3) else 3) = 0 →
          c = { f_Tag := t, f_S := [], f_N := 0, f_A := uV s (a + 1) 2, f_B := uV s (a + 1 + 2) 2 } ∧ nx = a + 1 + 2 + 2) := by
      by_cases hA : code s (a + 1) 2 = 0
      · rw [if_pos hA, if_pos hA]
        simp only [beq_self_eq_true, if_true]
        rw [num_ref hl wd2]
        by_cases hB : code s (a + 1 + 2) 2 = 0
        · rw [if_pos hB, if_pos hB]
          exact ⟨_, _, rfl, fun _ => ⟨rfl, rfl⟩⟩
        · rw [if_neg hB, if_neg hB]
          exact ⟨_, _, rfl, fun h => by cases h⟩
      · rw [if_neg hA, if_neg hA]
        exact ⟨_, _, rfl, fun h => by cases h⟩
    by_cases t9 : t = 9
    · rw [if_pos (by simp [t9]), if_pos (c := t = 9 ∨ t = 10 ∨ t = 11 ∨ t = 12) (.inl t9)]; exact hm
    rw [if_neg (by simp [t9])]
    by_cases t10 : t = 10
    · rw [if_pos (by simp [t10]), if_pos (c := t = 9 ∨ t = 10 ∨ t = 11 ∨ t = 12) (.inr (.inl t10))]; exact hm
    rw [if_neg (by simp [t10])]
    by_cases t11 : t = 11
    · rw [if_pos (by simp [t11]), if_pos (c := t = 9 ∨ t = 10 ∨ t = 11 ∨ t = 12) (.inr (.inr (.inl t11)))]; exact hm
    rw [if_neg (by simp [t11])]
    by_cases t12 : t = 12
    · rw [if_pos (by simp [t12]), if_pos (c := t = 9 ∨ t = 10 ∨ t = 11 ∨ t = 12) (.inr (.inr (.inr t12)))]; exact hm
    rw [if_neg (by simp [t12]), if_neg (c := t = 9 ∨ t = 10 ∨ t = 11 ∨ t = 12) (by omega)]
    exact ⟨_, _, rfl, fun h => by cases h⟩
  · rw [if_neg h0, if_pos h0]
    exact ⟨_, _, rfl, fun h => by cases h⟩

theorem const_pool (s : List UInt8) (a : Int) (hl : big s) : ∃ c a', m_armature_poolcode_reader_constant (rdr s a 0) = some (rdr s a' (tkE s a), c) ∧ (tkE s a = 0 → c = tkC s a ∧ a' = tkN s a) := by
  unfold m_armature_poolcode_reader_constant j23x1 j23x2 j23x3 j23x4 j23x5 j23x6
  rw [rd_uns hl wd1]
  unfold tkE
  by_cases h0 : code s a 1 = 0
  · rw [if_pos h0, if_neg (c := code s a 1 ≠ 0) (fun h => h h0)]
    simp only [Option.bind_some]
    rw [if_neg (by simp [rdr]), show uV s a 1 = tg s a from rfl]
    unfold tkC tkN
    generalize tg s a = t
    rw [rd_text hl, rd_sgn hl wd4, rd_sgn hl wd8, rd_uns hl wd2]
    simp only [Option.bind_some]
    by_cases t1 : t = 1
    · rw [if_pos (by simp [t1]), if_pos t1, if_pos t1, if_pos t1]
      split
      · exact ⟨_, _, rfl, fun _ => ⟨rfl, rfl⟩⟩
      · exact ⟨_, _, rfl, fun h => by cases h⟩
    rw [if_neg (by simp [t1]), if_neg t1, if_neg t1, if_neg t1]
    by_cases t3 : t = 3
    · rw [if_pos (by simp [t3]), if_pos t3, if_pos t3, if_pos t3]
      split
      · exact ⟨_, _, rfl, fun _ => ⟨rfl, rfl⟩⟩
      · exact ⟨_, _, rfl, fun h => by cases h⟩
    rw [if_neg (by simp [t3]), if_neg t3, if_neg t3, if_neg t3]
    by_cases t5 : t = 5
    · rw [if_pos (by simp [t5]), if_pos t5, if_pos t5, if_pos t5]
      split
      · exact ⟨_, _, rfl, fun _ => ⟨rfl, rfl⟩⟩
      · exact ⟨_, _, rfl, fun h => by cases h⟩
    rw [if_neg (by simp [t5]), if_neg t5, if_neg t5, if_neg t5]
    by_cases t7 : t = 7
    · rw [if_pos (by simp [t7]), if_pos (c := t = 7 ∨ t = 8) (.inl t7), if_pos (c := t = 7 ∨ t = 8) (.inl t7), if_pos (c := t = 7 ∨ t = 8) (.inl t7)]
      split
      · exact ⟨_, _, rfl, fun _ => ⟨rfl, rfl⟩⟩
      · exact ⟨_, _, rfl, fun h => by cases h⟩
    rw [if_neg (by simp [t7])]
    by_cases t8 : t = 8
    · rw [if_pos (by simp [t8]), if_pos (c := t = 7 ∨ t = 8) (.inr t8), if_pos (c := t = 7 ∨ t = 8) (.inr t8), if_pos (c := t = 7 ∨ t = 8) (.inr t8)]
      split
      · exact ⟨_, _, rfl, fun _ => ⟨rfl, rfl⟩⟩
      · exact ⟨_, _, rfl, fun h => by cases h⟩
    rw [if_neg (by simp [t8]), if_neg (c := t = 7 ∨ t = 8) (by omega), if_neg (c := t = 7 ∨ t = 8) (by omega), if_neg (c := t = 7 ∨ t = 8) (by omega)]
    have hm : ∃ c a', ((m_armature_poolcode_reader_unsigned (if code s (a + 1) 2 = 0 then (rdr s (a + 1 + 2) 0, uV s (a + 1) 2) else (rdr s (a + 1) 3, 0)).1 2).bind fun v5 =>
          some (v5.1, ({ f_Tag := t, f_S := [], f_N := 0, f_A := (if code s (a + 1) 2 = 0 then (rdr s (a + 1 + 2) 0, uV s (a + 1) 2) else (rdr s (a + 1) 3, 0)).2, f_B := v5.2 } : T_api_Const))) =
          some (rdr s a' (if code s (a + 1) 2 = 0 then (if code s (a + 1 + 2) 2 = 0 then 0 else 3) else 3), c) ∧ ((if code s (a + 1) 2 = 0 then (if code s (a + 1 + 2) 2 = 0 then (0 : Int) else 3) else 3) = 0 →
          c = { f_Tag := t, f_S := [], f_N := 0, f_A := uV s (a + 1) 2, f_B := uV s (a + 1 + 2) 2 } ∧ a' = a + 1 + 2 + 2) := by
      by_cases hA : code s (a + 1) 2 = 0
      · rw [if_pos hA, if_pos hA]
        dsimp only
        rw [rd_uns hl wd2]
        by_cases hB : code s (a + 1 + 2) 2 = 0
        · rw [if_pos hB, if_pos hB]
          exact ⟨_, _, rfl, fun _ => ⟨rfl, rfl⟩⟩
        · rw [if_neg hB, if_neg hB]
          exact ⟨_, _, rfl, fun h => by cases h⟩
      · rw [if_neg hA, if_neg hA]
        dsimp only
        rw [rd_err (by decide)]
        exact ⟨_, _, rfl, fun h => by cases h⟩
    by_cases t9 : t = 9
    · rw [if_pos (by simp [t9]), if_pos (c := t = 9 ∨ t = 10 ∨ t = 11 ∨ t = 12) (.inl t9)]; exact hm
    rw [if_neg (by simp [t9])]
    by_cases t10 : t = 10
    · rw [if_pos (by simp [t10]), if_pos (c := t = 9 ∨ t = 10 ∨ t = 11 ∨ t = 12) (.inr (.inl t10))]; exact hm
    rw [if_neg (by simp [t10])]
    by_cases t11 : t = 11
    · rw [if_pos (by simp [t11]), if_pos (c := t = 9 ∨ t = 10 ∨ t = 11 ∨ t = 12) (.inr (.inr (.inl t11)))]; exact hm
    rw [if_neg (by simp [t11])]
    by_cases t12 : t = 12
    · rw [if_pos (by simp [t12]), if_pos (c := t = 9 ∨ t = 10 ∨ t = 11 ∨ t = 12) (.inr (.inr (.inr t12)))]; exact hm
    rw [if_neg (by simp [t12]), if_neg (c := t = 9 ∨ t = 10 ∨ t = 11 ∨ t = 12) (by omega)]
    exact ⟨_, _, rfl, fun h => by cases h⟩
  · rw [if_neg h0, if_pos h0]
    exact ⟨_, _, rfl, fun h => by cases h⟩
end Go.Proofs
