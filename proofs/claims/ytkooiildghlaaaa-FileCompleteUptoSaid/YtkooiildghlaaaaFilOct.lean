/-
  Laws about models that another chapter has too, in this chapter's function numbers. Printed by ren.py. No condition.
-/
import Derived.Test.YtkooiildghlaaaaFilNam
namespace Go.Proofs
open Go.Den
theorem wrapI64 (n : Int) : IntKind.wrap .i64 n = (n + 9223372036854775808) % 18446744073709551616 - 9223372036854775808 := by
  show (if (true && decide (n % 18446744073709551616 ≥ 9223372036854775808)) = true then n % 18446744073709551616 - 18446744073709551616 else n % 18446744073709551616) = _
  rw [Bool.true_and]
  by_cases h : n % 18446744073709551616 ≥ 9223372036854775808
  · rw [if_pos (decide_eq_true h)]; omega
  · rw [if_neg (by simpa using h)]; omega
theorem wrapU64 (n : Int) : IntKind.wrap .u64 n = n % 18446744073709551616 := by
  simp only [IntKind.wrap, IntKind.bits, IntKind.signed, Bool.false_and, Bool.false_eq_true, if_false]; rfl
theorem wrapU8 (n : Int) : IntKind.wrap .u8 n = n % 256 := by
  simp only [IntKind.wrap, IntKind.bits, IntKind.signed, Bool.false_and, Bool.false_eq_true, if_false]; rfl
theorem shr8 (k : IntKind) (hk : 8 ≤ k.bits) (a : Int) : shrK k a 8 = some (a / 256) := by
  unfold shrK
  rw [if_pos (by decide), show min ((8 : Int).toNat) k.bits = 8 by simp; omega]
  simp [Int.fdiv_eq_ediv_of_nonneg]
theorem and255 (x : Int) : andK .i64 x 255 = x % 256 := by
  unfold andK
  have h : (BitVec.ofInt 64 x &&& BitVec.ofInt 64 255).toNat = (x % 256).toNat := by
    rw [BitVec.toNat_and, BitVec.toNat_ofInt, BitVec.toNat_ofInt]
    have e : ((255 : Int) % ((2 ^ 64 : Nat) : Int)).toNat = 2 ^ 8 - 1 := by decide
    rw [e, Nat.and_two_pow_sub_one_eq_mod]
    omega
  show IntKind.wrap .i64 ((BitVec.ofInt 64 x &&& BitVec.ofInt 64 255).toNat : Int) = _
  rw [h, wrapI64]
  omega

theorem loopM_le {T R : Type} {f : T → Option (Ctl T R)} : ∀ {n m : Nat} {t : T} {r : R}, loopM f n t = some r → n ≤ m → loopM f m t = some r
  | 0, _, _, _, h, _ => by cases h
  | n + 1, 0, _, _, _, hm => by omega
  | n + 1, m + 1, t, r, h, hm => by
    unfold loopM at h ⊢
    cases hf : f t with
    | none => rw [hf] at h; cases h
    | some x =>
      rw [hf] at h
      cases x with
      | next s' => exact loopM_le h (by omega)
      | done r' => exact h
theorem loopR {T R : Type} {f : T → Option (Ctl T R)} (n : Nat) {t : T} {r : R} (h : loopM f n t = some r) (hn : n ≤ 1000 := by omega) : loopM f rounds t = some r := loopM_le h (by unfold rounds; omega)

theorem step9 (i v : Int) (l : List Int) (h0 : 0 ≤ i) (h1 : i < l.length) (h2 : i < 1000) : l48x1 (i, v, l) = some (.next (i - 1, v / 256, l.set i.toNat (v % 256))) := by
  have hi : i.toNat < l.length := by omega
  have hw : IntKind.wrap .i64 (i - 1) = i - 1 := by rw [wrapI64]; omega
  simp [l48x1, h0, idxK, h1, List.getElem?_eq_getElem hi, wrapU8, hw, shr8 .u64 (by decide)]
theorem step10 (i v : Int) (l : List Int) (h0 : 0 ≤ i) (h1 : i < l.length) (h2 : i < 1000) : l50x1 (v, i, l) = some (.next (v / 256, i - 1, l.set i.toNat (v % 256))) := by
  have hi : i.toNat < l.length := by omega
  have hw : IntKind.wrap .i64 (i - 1) = i - 1 := by rw [wrapI64]; omega
  simp [l50x1, h0, idxK, h1, List.getElem?_eq_getElem hi, wrapU8, hw, shr8 .i64 (by decide), and255]
theorem stop9 (v : Int) (l : List Int) : l48x1 (-1, v, l) = some (.done l) := by simp [l48x1]
theorem stop10 (v : Int) (l : List Int) : l50x1 (v, -1, l) = some (.done l) := by simp [l50x1]


theorem run9x1 (v : Int) : loopM l48x1 rounds (0, v, [0]) = some [v % 256] := loopR 2 (by simp [loopM, step9, stop9])
theorem run9x2 (v : Int) : loopM l48x1 rounds (1, v, [0, 0]) = some [v / 256 % 256, v % 256] := loopR 3 (by simp [loopM, step9, stop9])
theorem run9x4 (v : Int) : loopM l48x1 rounds (3, v, [0, 0, 0, 0]) = some [v / 256 / 256 / 256 % 256, v / 256 / 256 % 256, v / 256 % 256, v % 256] := loopR 5 (by simp [loopM, step9, stop9])
theorem run9x8 (v : Int) : loopM l48x1 rounds (7, v, [0, 0, 0, 0, 0, 0, 0, 0]) = some [v / 256 / 256 / 256 / 256 / 256 / 256 / 256 % 256, v / 256 / 256 / 256 / 256 / 256 / 256 % 256, v / 256 / 256 / 256 / 256 / 256 % 256, v / 256 / 256 / 256 / 256 % 256, v / 256 / 256 / 256 % 256, v / 256 / 256 % 256, v / 256 % 256, v % 256] := loopR 9 (by simp [loopM, step9, stop9])
theorem run10x1 (v : Int) : loopM l50x1 rounds (v, 0, [0]) = some [v % 256] := loopR 2 (by simp [loopM, step10, stop10])
theorem run10x2 (v : Int) : loopM l50x1 rounds (v, 1, [0, 0]) = some [v / 256 % 256, v % 256] := loopR 3 (by simp [loopM, step10, stop10])
theorem run10x4 (v : Int) : loopM l50x1 rounds (v, 3, [0, 0, 0, 0]) = some [v / 256 / 256 / 256 % 256, v / 256 / 256 % 256, v / 256 % 256, v % 256] := loopR 5 (by simp [loopM, step10, stop10])
theorem run10x8 (v : Int) : loopM l50x1 rounds (v, 7, [0, 0, 0, 0, 0, 0, 0, 0]) = some [v / 256 / 256 / 256 / 256 / 256 / 256 / 256 % 256, v / 256 / 256 / 256 / 256 / 256 / 256 % 256, v / 256 / 256 / 256 / 256 / 256 % 256, v / 256 / 256 / 256 / 256 % 256, v / 256 / 256 / 256 % 256, v / 256 / 256 % 256, v / 256 % 256, v % 256] := loopR 9 (by simp [loopM, step10, stop10])

/-- The bytes of a number, the high one first. -/
def by1 (v : Int) : List Int := [v % 256]
def by2 (v : Int) : List Int := [v / 256 % 256, v % 256]
def by4 (v : Int) : List Int := [v / 256 / 256 / 256 % 256, v / 256 / 256 % 256, v / 256 % 256, v % 256]
def by8 (v : Int) : List Int := [v / 256 / 256 / 256 / 256 / 256 / 256 / 256 % 256, v / 256 / 256 / 256 / 256 / 256 / 256 % 256, v / 256 / 256 / 256 / 256 / 256 % 256, v / 256 / 256 / 256 / 256 % 256, v / 256 / 256 / 256 % 256, v / 256 / 256 % 256, v / 256 % 256, v % 256]

theorem list1 {a a' : Int} (h : a = a') : [a] = [a'] := by rw [h]
theorem by1wrap (v : Int) : by1 (v % 18446744073709551616) = by1 v := by unfold by1; congr 1; omega
theorem by2wrap (v : Int) : by2 (v % 18446744073709551616) = by2 v := by unfold by2; congr 1 <;> first | omega | (congr 1; omega)
theorem by4wrap (v : Int) : by4 (v % 18446744073709551616) = by4 v := by unfold by4; simp only [List.cons.injEq, and_true]; omega
theorem by8wrap (v : Int) : by8 (v % 18446744073709551616) = by8 v := by unfold by8; simp only [List.cons.injEq, and_true]; omega

theorem width1 : m_octet_width 1 = some 8 := by decide
theorem width2 : m_octet_width 2 = some 16 := by decide
theorem width4 : m_octet_width 4 = some 32 := by decide
theorem width8 : m_octet_width 8 = some 64 := by decide
theorem widthN {n : Int} (h1 : n ≠ 1) (h2 : n ≠ 2) (h4 : n ≠ 4) (h8 : n ≠ 8) : m_octet_width n = some 0 := by simp [m_octet_width, j62x1, h1, h2, h4, h8]

theorem put9x1 (x : Int) : j48x1 x 1 = some (bytesOf (by1 x), 0) := by
  simp [j48x1, makeK, wrapI64, wrapU64, run9x1, by1]
theorem put9x2 (x : Int) : j48x1 x 2 = some (bytesOf (by2 x), 0) := by
  simp [j48x1, makeK, wrapI64, wrapU64, List.replicate, run9x2]; exact congrArg bytesOf (by unfold by2; simp only [List.cons.injEq, and_true, true_and]; omega)
theorem put9x4 (x : Int) : j48x1 x 4 = some (bytesOf (by4 x), 0) := by
  simp [j48x1, makeK, wrapI64, wrapU64, List.replicate, run9x4]; exact congrArg bytesOf (by unfold by4; simp only [List.cons.injEq, and_true, true_and]; omega)
theorem put9x8 (x : Int) : j48x1 x 8 = some (bytesOf (by8 x), 0) := by
  simp [j48x1, makeK, wrapI64, wrapU64, List.replicate, run9x8]; exact congrArg bytesOf (by unfold by8; simp only [List.cons.injEq, and_true, true_and]; omega)
theorem put10x1 (x : Int) : j50x1 x 1 = some (bytesOf (by1 x), 0) := by simp [j50x1, makeK, wrapI64, run10x1, by1]
theorem put10x2 (x : Int) : j50x1 x 2 = some (bytesOf (by2 x), 0) := by simp [j50x1, makeK, wrapI64, List.replicate, run10x2, by2]
theorem put10x4 (x : Int) : j50x1 x 4 = some (bytesOf (by4 x), 0) := by simp [j50x1, makeK, wrapI64, List.replicate, run10x4, by4]
theorem put10x8 (x : Int) : j50x1 x 8 = some (bytesOf (by8 x), 0) := by simp [j50x1, makeK, wrapI64, List.replicate, run10x8, by8]

theorem shl7 : shlK .i64 1 7 = some 128 := by kernel_rfl
theorem shl8 : shlK .i64 1 8 = some 256 := by kernel_rfl
theorem shl15 : shlK .i64 1 15 = some 32768 := by kernel_rfl
theorem shl16 : shlK .i64 1 16 = some 65536 := by kernel_rfl
theorem shl31 : shlK .i64 1 31 = some 2147483648 := by kernel_rfl
theorem shl32 : shlK .i64 1 32 = some 4294967296 := by kernel_rfl
theorem ePut1 (x : Int) : m_octet_Put x 1 = (if decide (x < -128) = true then some ([], 8) else if decide (x ≥ 256) = true then some ([], 8) else j48x1 x 1) := by kernel_rfl
theorem Put1 (x : Int) : m_octet_Put x 1 = if x < -128 ∨ 256 ≤ x then some ([], 8) else some (bytesOf (by1 x), 0) := by
  rw [ePut1]
  by_cases h1 : x < -128
  · rw [if_pos (decide_eq_true h1), if_pos (.inl h1)]
  · rw [if_neg (c := decide (x < -128) = true) (by simpa using h1)]
    by_cases h2 : 256 ≤ x
    · rw [if_pos (decide_eq_true h2), if_pos (.inr h2)]
    · rw [if_neg (c := decide (x ≥ 256) = true) (by simpa using h2), if_neg (by omega), put9x1]
theorem ePut2 (x : Int) : m_octet_Put x 2 = (if decide (x < -32768) = true then some ([], 8) else if decide (x ≥ 65536) = true then some ([], 8) else j48x1 x 2) := by kernel_rfl
theorem Put2 (x : Int) : m_octet_Put x 2 = if x < -32768 ∨ 65536 ≤ x then some ([], 8) else some (bytesOf (by2 x), 0) := by
  rw [ePut2]
  by_cases h1 : x < -32768
  · rw [if_pos (decide_eq_true h1), if_pos (.inl h1)]
  · rw [if_neg (c := decide (x < -32768) = true) (by simpa using h1)]
    by_cases h2 : 65536 ≤ x
    · rw [if_pos (decide_eq_true h2), if_pos (.inr h2)]
    · rw [if_neg (c := decide (x ≥ 65536) = true) (by simpa using h2), if_neg (by omega), put9x2]
theorem ePut4 (x : Int) : m_octet_Put x 4 = (if decide (x < -2147483648) = true then some ([], 8) else if decide (x ≥ 4294967296) = true then some ([], 8) else j48x1 x 4) := by kernel_rfl
theorem Put4 (x : Int) : m_octet_Put x 4 = if x < -2147483648 ∨ 4294967296 ≤ x then some ([], 8) else some (bytesOf (by4 x), 0) := by
  rw [ePut4]
  by_cases h1 : x < -2147483648
  · rw [if_pos (decide_eq_true h1), if_pos (.inl h1)]
  · rw [if_neg (c := decide (x < -2147483648) = true) (by simpa using h1)]
    by_cases h2 : 4294967296 ≤ x
    · rw [if_pos (decide_eq_true h2), if_pos (.inr h2)]
    · rw [if_neg (c := decide (x ≥ 4294967296) = true) (by simpa using h2), if_neg (by omega), put9x4]
theorem Put8 (x : Int) : m_octet_Put x 8 = some (bytesOf (by8 x), 0) := by
  simp [m_octet_Put, width8, put9x8]
theorem PutN (x : Int) {n : Int} (h1 : n ≠ 1) (h2 : n ≠ 2) (h4 : n ≠ 4) (h8 : n ≠ 8) : m_octet_Put x n = some ([], 1) := by
  simp [m_octet_Put, widthN h1 h2 h4 h8]
theorem RPut1 (x : Int) : m_armatureref02_Put x 1 = if x < -128 ∨ 256 ≤ x then some ([], 8) else some (bytesOf (by1 x), 0) := by
  simp [m_armatureref02_Put, m_armatureref02_sized, wrapI64, shl7, shl8, put10x1]
  by_cases h1 : x < -128 <;> by_cases h2 : 255 < x <;> simp [h1, h2] <;> omega
theorem RPut2 (x : Int) : m_armatureref02_Put x 2 = if x < -32768 ∨ 65536 ≤ x then some ([], 8) else some (bytesOf (by2 x), 0) := by
  simp [m_armatureref02_Put, m_armatureref02_sized, wrapI64, shl15, shl16, put10x2]
  by_cases h1 : x < -32768 <;> by_cases h2 : 65535 < x <;> simp [h1, h2] <;> omega
theorem RPut4 (x : Int) : m_armatureref02_Put x 4 = if x < -2147483648 ∨ 4294967296 ≤ x then some ([], 8) else some (bytesOf (by4 x), 0) := by
  simp [m_armatureref02_Put, m_armatureref02_sized, wrapI64, shl31, shl32, put10x4]
  by_cases h1 : x < -2147483648 <;> by_cases h2 : 4294967295 < x <;> simp [h1, h2] <;> omega
theorem RPut8 (x : Int) : m_armatureref02_Put x 8 = some (bytesOf (by8 x), 0) := by
  simp [m_armatureref02_Put, m_armatureref02_sized, put10x8]
theorem RPutN (x : Int) {n : Int} (h1 : n ≠ 1) (h2 : n ≠ 2) (h4 : n ≠ 4) (h8 : n ≠ 8) : m_armatureref02_Put x n = some ([], 1) := by
  simp [m_armatureref02_Put, m_armatureref02_sized, h1, h2, h4, h8]

theorem put_same (x n : Int) : m_octet_Put x n = m_armatureref02_Put x n := by
  by_cases h1 : n = 1
  · subst h1; rw [Put1, RPut1]
  by_cases h2 : n = 2
  · subst h2; rw [Put2, RPut2]
  by_cases h4 : n = 4
  · subst h4; rw [Put4, RPut4]
  by_cases h8 : n = 8
  · subst h8; rw [Put8, RPut8]
  rw [PutN x h1 h2 h4 h8, RPutN x h1 h2 h4 h8]
theorem put_some (x n : Int) : ∃ s e, m_octet_Put x n = some (s, e) ∧ s.length ≤ 8 := by
  by_cases h1 : n = 1
  · subst h1; rw [Put1]; split
    · exact ⟨_, _, rfl, by simp⟩
    · exact ⟨_, _, rfl, by simp [bytesOf, by1]⟩
  by_cases h2 : n = 2
  · subst h2; rw [Put2]; split
    · exact ⟨_, _, rfl, by simp⟩
    · exact ⟨_, _, rfl, by simp [bytesOf, by2]⟩
  by_cases h4 : n = 4
  · subst h4; rw [Put4]; split
    · exact ⟨_, _, rfl, by simp⟩
    · exact ⟨_, _, rfl, by simp [bytesOf, by4]⟩
  by_cases h8 : n = 8
  · subst h8; rw [Put8]; exact ⟨_, _, rfl, by simp [bytesOf, by8]⟩
  exact ⟨_, _, PutN x h1 h2 h4 h8, by simp⟩

/-! ### Reading -/

theorem shl8u (a : Int) (h0 : 0 ≤ a) (h1 : a < 72057594037927936) : shlK .u64 a 8 = some (a * 256) := by
  unfold shlK
  rw [if_pos (by decide)]
  show some (IntKind.wrap .u64 (a * 2 ^ 8)) = _
  rw [wrapU64]
  congr 1; omega
theorem or8u (a b : Int) (h0 : 0 ≤ a) (h1 : a < 72057594037927936) (h2 : 0 ≤ b) (h3 : b < 256) : orK .u64 (a * 256) b = a * 256 + b := by
  unfold orK
  obtain ⟨m, rfl⟩ := Int.eq_ofNat_of_zero_le h0
  obtain ⟨k, rfl⟩ := Int.eq_ofNat_of_zero_le h2
  show IntKind.wrap .u64 ((BitVec.ofInt 64 ((m : Int) * 256) ||| BitVec.ofInt 64 (k : Int)).toNat : Int) = _
  rw [BitVec.toNat_or, BitVec.toNat_ofInt, BitVec.toNat_ofInt]
  have e1 : (((m : Int) * 256) % ((2 ^ 64 : Nat) : Int)).toNat = m <<< 8 := by rw [Nat.shiftLeft_eq]; omega
  have e2 : ((k : Int) % ((2 ^ 64 : Nat) : Int)).toNat = k := by omega
  rw [e1, e2, ← Nat.shiftLeft_add_eq_or_of_lt (show k < 2 ^ 8 by omega), wrapU64, Nat.shiftLeft_eq]
  omega

theorem getS_get {s : List UInt8} {i : Int} {c : UInt8} (h0 : 0 ≤ i) (h : s[i.toNat]? = some c) : getS s i = some (c.toNat : Int) := by
  unfold getS; rw [if_pos h0, h]; rfl
theorem u8lt (c : UInt8) : (0 : Int) ≤ (c.toNat : Int) ∧ (c.toNat : Int) < 256 := by have := c.toNat_lt; omega

theorem step22 {w : List UInt8} {e a i : Int} {c : UInt8} (h0 : 0 ≤ i) (h9 : i < 100) (h : w[i.toNat]? = some c) (ha : 0 ≤ a) (hb : a < 72057594037927936) : l68x1 (w, e) (a, i) = some (.next (a * 256 + (c.toNat : Int), i + 1)) := by
  have hlt : i < (w.length : Int) := by
    rcases Nat.lt_or_ge i.toNat w.length with h' | h'
    · omega
    · rw [List.getElem?_eq_none h'] at h; cases h
  have e1 : IntKind.wrap .i64 (i + 1) = i + 1 := by rw [wrapI64]; omega
  have e2 : IntKind.wrap .u64 (c.toNat : Int) = (c.toNat : Int) := by rw [wrapU64]; have := u8lt c; omega
  simp [l68x1, hlt, shl8u a ha hb, getS_get h0 h, e1, e2, or8u a _ ha hb (u8lt c).1 (u8lt c).2]
theorem stop22 {w : List UInt8} {e a i : Int} (h : (w.length : Int) ≤ i) : l68x1 (w, e) (a, i) = some (.done a) := by
  have h' : ¬ i < (w.length : Int) := by omega
  simp [l68x1, h']
theorem step15 {s : List UInt8} {at_ n v i : Int} {c : UInt8} (hi : i < n) (h0 : 0 ≤ i) (h9 : i < 100) (ha : 0 ≤ at_) (hl : (s.length : Int) ≤ 1125899906842624) (h : s[(at_ + i).toNat]? = some c) (hv0 : -36028797018963968 ≤ v) (hv1 : v < 36028797018963968) :
    l69x1 s at_ n (v, i) = some (.next (v * 256 + (c.toNat : Int), i + 1)) := by
  have hlt : (at_ + i).toNat < s.length := by
    rcases Nat.lt_or_ge (at_ + i).toNat s.length with h' | h'
    · exact h'
    · rw [List.getElem?_eq_none h'] at h; cases h
  have hc := u8lt c
  have e1 : IntKind.wrap .i64 (i + 1) = i + 1 := by rw [wrapI64]; omega
  have e2 : IntKind.wrap .i64 (c.toNat : Int) = (c.toNat : Int) := by rw [wrapI64]; omega
  have e3 : IntKind.wrap .i64 (at_ + i) = at_ + i := by rw [wrapI64]; omega
  have e4 : IntKind.wrap .i64 (v * 256) = v * 256 := by rw [wrapI64]; omega
  have e5 : IntKind.wrap .i64 (v * 256 + (c.toNat : Int)) = v * 256 + (c.toNat : Int) := by rw [wrapI64]; omega
  simp [l69x1, hi, e1, e2, e3, e4, e5, getS_get (show 0 ≤ at_ + i by omega) h]
theorem stop15 {s : List UInt8} {at_ n v i : Int} (h : n ≤ i) : l69x1 s at_ n (v, i) = some (.done v) := by
  have h' : ¬ i < n := by omega
  simp [l69x1, h']

def wid (n : Int) : Prop := n = 1 ∨ n = 2 ∨ n = 4 ∨ n = 8
def code (s : List UInt8) (a n : Int) : Int := if a < 0 then 2 else if a > (s.length : Int) then 2 else if (s.length : Int) - a < n then 3 else 0

theorem window_bad {s : List UInt8} {a n : Int} (hl : (s.length : Int) ≤ 1125899906842624) (hc : code s a n ≠ 0) : m_octet_window s a n = some ([], code s a n) := by
  unfold code at *
  unfold m_octet_window j82x1
  by_cases h1 : a < 0
  · simp [h1]
  by_cases h2 : a > (s.length : Int)
  · simp [h1, h2]
  have e : IntKind.wrap .i64 ((s.length : Int) - a) = (s.length : Int) - a := by rw [wrapI64]; omega
  by_cases h3 : (s.length : Int) - a < n
  · simp [h1, h2, e, h3]
  · simp [h1, h2, h3] at hc
theorem window_good {s : List UInt8} {a n : Int} (hl : (s.length : Int) ≤ 1125899906842624) (hn : 0 ≤ n) (hc : code s a n = 0) : 0 ≤ a ∧ a + n ≤ (s.length : Int) ∧ m_octet_window s a n = some ((s.drop a.toNat).take n.toNat, 0) := by
  unfold code at *
  by_cases h1 : a < 0
  · simp [h1] at hc
  by_cases h2 : a > (s.length : Int)
  · simp [h1, h2] at hc
  by_cases h3 : (s.length : Int) - a < n
  · simp [h1, h2, h3] at hc
  refine ⟨by omega, by omega, ?_⟩
  have e : IntKind.wrap .i64 ((s.length : Int) - a) = (s.length : Int) - a := by rw [wrapI64]; omega
  have e2 : IntKind.wrap .i64 (a + n) = a + n := by rw [wrapI64]; omega
  have e3 : sub s a (a + n) = some ((s.drop a.toNat).take n.toNat) := by
    unfold sub
    rw [if_pos (by omega)]
    congr 2; omega
  simp [m_octet_window, j82x1, h1, h2, e, h3, e2, e3]
theorem there_spec {s : List UInt8} {a n : Int} (hl : (s.length : Int) ≤ 1125899906842624) (hn : wid n) : m_armatureref02_there s a n = some (code s a n) := by
  have hs : m_armatureref02_sized n = some true := by rcases hn with rfl | rfl | rfl | rfl <;> rfl
  unfold m_armatureref02_there j83x1 code
  by_cases h1 : a < 0
  · simp [hs, h1]
  by_cases h2 : a > (s.length : Int)
  · simp [hs, h1, h2]
  have e : IntKind.wrap .i64 ((s.length : Int) - a) = (s.length : Int) - a := by rw [wrapI64]; omega
  by_cases h3 : (s.length : Int) - a < n
  · simp [hs, h1, h2, e, h3]
  · simp [hs, h1, h2, e, h3]
theorem width_wid {n : Int} (hn : wid n) : m_octet_width n = some (8 * n) := by rcases hn with rfl | rfl | rfl | rfl <;> rfl
theorem wid_pos {n : Int} (hn : wid n) : 0 < n ∧ n ≤ 8 := by rcases hn with rfl | rfl | rfl | rfl <;> omega

theorem bits_bad {s : List UInt8} {a n : Int} (hl : (s.length : Int) ≤ 1125899906842624) (hn : wid n) (hc : code s a n ≠ 0) : m_octet_bits s a n = some (0, code s a n) := by
  have hp := wid_pos hn
  have hr : loopM (l68x1 ([], code s a n)) rounds (0, 0) = some 0 := loopR 1 (by simp [loopM, stop22])
  have hne : ¬ (8 * n = 0) := by omega
  simp [m_octet_bits, width_wid hn, window_bad hl hc, hr, hne]

/-- The bytes of a window. -/
theorem window_get {s : List UInt8} {a n : Int} (h0 : 0 ≤ a) (hn : 0 ≤ n) (h : a + n ≤ (s.length : Int)) : ∃ w : List UInt8, (s.drop a.toNat).take n.toNat = w ∧ (w.length : Int) = n ∧ ∀ i : Nat, (i : Int) < n → s[(a + i).toNat]? = w[i]? := by
  refine ⟨_, rfl, by simp; omega, fun i hi => ?_⟩
  rw [List.getElem?_take_of_lt (by omega), List.getElem?_drop]
  congr 1; omega

def raw1 (c0 : UInt8) : Int := (c0.toNat : Int)
def sgn1 (c0 : UInt8) : Int := if (c0.toNat : Int) > 127 then raw1 c0 - 256 else raw1 c0
theorem raw1lt (c0 : UInt8) : 0 ≤ raw1 c0 ∧ raw1 c0 < 256 := by
  unfold raw1; have hc0 := u8lt c0; omega
theorem bits1 {s : List UInt8} {a : Int} (hl : (s.length : Int) ≤ 1125899906842624) {c0 : UInt8} (hc : code s a 1 = 0) (hw : (s.drop a.toNat).take 1 = [c0]) : m_octet_bits s a 1 = some (raw1 c0, 0) := by
  obtain ⟨_, _, h3⟩ := window_good hl (by decide) hc
  have h3' : m_octet_window s a 1 = some ([c0], 0) := by rw [h3, ← hw]; rfl
  have hc0 := u8lt c0
  have hr : loopM (l68x1 ([c0], 0)) rounds (0, 0) = some (raw1 c0) := loopR 2 (by
    unfold raw1
    rw [loopM, step22 (c := c0) (by decide) (by decide) rfl (by omega) (by omega)]; simp only [Int.reduceAdd]
    rw [loopM, stop22 (by simp)]; dsimp only; exact congrArg some (by omega))
  simp [m_octet_bits, width1, h3', hr]
theorem rsig1 {s : List UInt8} {a : Int} (hl : (s.length : Int) ≤ 1125899906842624) {c0 : UInt8} (hc : code s a 1 = 0) (h0 : 0 ≤ a) (hg : ∀ i : Nat, (i : Int) < 1 → s[(a + i).toNat]? = ([c0] : List UInt8)[i]?) : m_armatureref02_Signed s a 1 = some (sgn1 c0, 0) := by
  have hc0 := u8lt c0
  have g0 : getS s a = some (c0.toNat : Int) := getS_get h0 (by have := hg 0 (by decide); simpa using this)
  have e0 : IntKind.wrap .i64 (c0.toNat : Int) = (c0.toNat : Int) := by rw [wrapI64]; omega
  have hj : ∀ v : Int, -128 ≤ v → v < 128 → j69x1 s a 1 v = some (v * 1 + (raw1 c0 - (c0.toNat : Int) * 1), 0) := fun v hv0 hv1 => by
    have hr : loopM (l69x1 s a 1) rounds (v, 1) = some (v * 1 + (raw1 c0 - (c0.toNat : Int) * 1)) := loopR 1 (by
      unfold raw1
      rw [loopM, stop15 (by decide)]; dsimp only; exact congrArg some (by omega))
    simp [j69x1, hr]
  have hsz : wid 1 := by unfold wid; decide
  unfold sgn1
  by_cases h : (c0.toNat : Int) > 127
  · have e1 : IntKind.wrap .i64 ((c0.toNat : Int) - 256) = (c0.toNat : Int) - 256 := by rw [wrapI64]; omega
    rw [if_pos h]
    simp only [m_armatureref02_Signed, there_spec hl hsz, hc, Option.bind_some, g0, e0, e1, bne_self_eq_false, Bool.false_eq_true, if_false, decide_eq_true h, if_true, hj _ (show -128 ≤ (c0.toNat : Int) - 256 by omega) (by omega)]
    exact congrArg (fun z : Int => some (z, (0 : Int))) (by omega)
  · rw [if_neg h]
    simp only [m_armatureref02_Signed, there_spec hl hsz, hc, Option.bind_some, g0, e0, bne_self_eq_false, Bool.false_eq_true, if_false, decide_eq_false h, hj _ (show -128 ≤ (c0.toNat : Int) by omega) (by omega)]
    exact congrArg (fun z : Int => some (z, (0 : Int))) (by omega)
theorem osig1 {s : List UInt8} {a : Int} (hl : (s.length : Int) ≤ 1125899906842624) {c0 : UInt8} (hc : code s a 1 = 0) (hw : (s.drop a.toNat).take 1 = [c0]) : m_octet_Signed s a 1 = some (sgn1 c0, 0) := by
  have hb := bits1 hl hc hw
  have hr := raw1lt c0
  have e1 : IntKind.wrap .i64 ((64 : Int) - 8) = 56 := by rw [wrapI64]; rfl
  have e2 : IntKind.wrap .u64 56 = 56 := by rw [wrapU64]; rfl
  have e3 : shlK .u64 (raw1 c0) 56 = some (raw1 c0 * 72057594037927936 % 18446744073709551616) := by
    unfold shlK; rw [if_pos (by decide), wrapU64]; rfl
  have e4 : ∀ x : Int, shrK .i64 x 56 = some (x / 72057594037927936) := fun x => by
    unfold shrK; rw [if_pos (by decide)]; show some (Int.fdiv x 72057594037927936) = _; rw [Int.fdiv_eq_ediv_of_nonneg _ (by decide)]
  have hs : (c0.toNat : Int) > 127 ↔ raw1 c0 ≥ 128 := by unfold raw1; have hc0 := u8lt c0; omega
  simp only [m_octet_Signed, hb, Option.bind_some, bne_self_eq_false, Bool.false_eq_true, if_false, width1, e1, e2, e3, e4]
  simp only [wrapI64]
  refine congrArg (fun z : Int => some (z, (0 : Int))) ?_
  unfold sgn1
  by_cases h : (c0.toNat : Int) > 127
  · rw [if_pos h]; have := hs.1 h; omega
  · rw [if_neg h]; have : ¬ raw1 c0 ≥ 128 := fun h' => h (hs.2 h'); omega
theorem uns1 {s : List UInt8} {a : Int} (hl : (s.length : Int) ≤ 1125899906842624) {c0 : UInt8} (hc : code s a 1 = 0) (hw : (s.drop a.toNat).take 1 = [c0]) (h0 : 0 ≤ a) (hg : ∀ i : Nat, (i : Int) < 1 → s[(a + i).toNat]? = ([c0] : List UInt8)[i]?) : m_octet_Unsigned s a 1 = some (raw1 c0, 0) ∧ m_armatureref02_Unsigned s a 1 = some (raw1 c0, 0) := by
  have hb := bits1 hl hc hw
  have hr := raw1lt c0
  have hs : (c0.toNat : Int) > 127 ↔ raw1 c0 ≥ 128 := by unfold raw1; have hc0 := u8lt c0; omega
  constructor
  · simp only [m_octet_Unsigned, hb, Option.bind_some, wrapI64]
    exact congrArg (fun z : Int => some (z, (0 : Int))) (by omega)
  · have e3 : shlK .i64 1 8 = some 256 := by unfold shlK; rw [if_pos (by decide), wrapI64]; rfl
    have e1 : IntKind.wrap .i64 ((8 : Int) * 1) = 8 := by rw [wrapI64]; rfl
    simp only [m_armatureref02_Unsigned, rsig1 hl hc h0 hg, Option.bind_some, beq_self_eq_true, if_true, j59x1, e1, e3, wrapI64]
    unfold sgn1
    by_cases h : (c0.toNat : Int) > 127
    · rw [if_pos h, if_pos (by decide), if_pos (decide_eq_true (by omega))]
      exact congrArg (fun z : Int => some (z, (0 : Int))) (by omega)
    · rw [if_neg h, if_pos (by decide), if_neg (by simp; omega)]

def raw2 (c0 c1 : UInt8) : Int := ((c0.toNat : Int) * 256 + (c1.toNat : Int))
def sgn2 (c0 c1 : UInt8) : Int := if (c0.toNat : Int) > 127 then raw2 c0 c1 - 65536 else raw2 c0 c1
theorem raw2lt (c0 c1 : UInt8) : 0 ≤ raw2 c0 c1 ∧ raw2 c0 c1 < 65536 := by
  unfold raw2; have hc0 := u8lt c0; have hc1 := u8lt c1; omega
theorem bits2 {s : List UInt8} {a : Int} (hl : (s.length : Int) ≤ 1125899906842624) {c0 c1 : UInt8} (hc : code s a 2 = 0) (hw : (s.drop a.toNat).take 2 = [c0, c1]) : m_octet_bits s a 2 = some (raw2 c0 c1, 0) := by
  obtain ⟨_, _, h3⟩ := window_good hl (by decide) hc
  have h3' : m_octet_window s a 2 = some ([c0, c1], 0) := by rw [h3, ← hw]; rfl
  have hc0 := u8lt c0; have hc1 := u8lt c1
  have hr : loopM (l68x1 ([c0, c1], 0)) rounds (0, 0) = some (raw2 c0 c1) := loopR 3 (by
    unfold raw2
    rw [loopM, step22 (c := c0) (by decide) (by decide) rfl (by omega) (by omega)]; simp only [Int.reduceAdd]
    rw [loopM, step22 (c := c1) (by decide) (by decide) rfl (by omega) (by omega)]; simp only [Int.reduceAdd]
    rw [loopM, stop22 (by simp)]; dsimp only; exact congrArg some (by omega))
  simp [m_octet_bits, width2, h3', hr]
theorem rsig2 {s : List UInt8} {a : Int} (hl : (s.length : Int) ≤ 1125899906842624) {c0 c1 : UInt8} (hc : code s a 2 = 0) (h0 : 0 ≤ a) (hg : ∀ i : Nat, (i : Int) < 2 → s[(a + i).toNat]? = ([c0, c1] : List UInt8)[i]?) : m_armatureref02_Signed s a 2 = some (sgn2 c0 c1, 0) := by
  have hc0 := u8lt c0; have hc1 := u8lt c1
  have g0 : getS s a = some (c0.toNat : Int) := getS_get h0 (by have := hg 0 (by decide); simpa using this)
  have e0 : IntKind.wrap .i64 (c0.toNat : Int) = (c0.toNat : Int) := by rw [wrapI64]; omega
  have hj : ∀ v : Int, -128 ≤ v → v < 128 → j69x1 s a 2 v = some (v * 256 + (raw2 c0 c1 - (c0.toNat : Int) * 256), 0) := fun v hv0 hv1 => by
    have hr : loopM (l69x1 s a 2) rounds (v, 1) = some (v * 256 + (raw2 c0 c1 - (c0.toNat : Int) * 256)) := loopR 2 (by
      unfold raw2
      rw [loopM, step15 (i := 1) (c := c1) (by decide) (by decide) (by decide) h0 hl (hg 1 (by decide)) (by omega) (by omega)]; simp only [Int.reduceAdd]
      rw [loopM, stop15 (by decide)]; dsimp only; exact congrArg some (by omega))
    simp [j69x1, hr]
  have hsz : wid 2 := by unfold wid; decide
  unfold sgn2
  by_cases h : (c0.toNat : Int) > 127
  · have e1 : IntKind.wrap .i64 ((c0.toNat : Int) - 256) = (c0.toNat : Int) - 256 := by rw [wrapI64]; omega
    rw [if_pos h]
    simp only [m_armatureref02_Signed, there_spec hl hsz, hc, Option.bind_some, g0, e0, e1, bne_self_eq_false, Bool.false_eq_true, if_false, decide_eq_true h, if_true, hj _ (show -128 ≤ (c0.toNat : Int) - 256 by omega) (by omega)]
    exact congrArg (fun z : Int => some (z, (0 : Int))) (by omega)
  · rw [if_neg h]
    simp only [m_armatureref02_Signed, there_spec hl hsz, hc, Option.bind_some, g0, e0, bne_self_eq_false, Bool.false_eq_true, if_false, decide_eq_false h, hj _ (show -128 ≤ (c0.toNat : Int) by omega) (by omega)]
    exact congrArg (fun z : Int => some (z, (0 : Int))) (by omega)
theorem osig2 {s : List UInt8} {a : Int} (hl : (s.length : Int) ≤ 1125899906842624) {c0 c1 : UInt8} (hc : code s a 2 = 0) (hw : (s.drop a.toNat).take 2 = [c0, c1]) : m_octet_Signed s a 2 = some (sgn2 c0 c1, 0) := by
  have hb := bits2 hl hc hw
  have hr := raw2lt c0 c1
  have e1 : IntKind.wrap .i64 ((64 : Int) - 16) = 48 := by rw [wrapI64]; rfl
  have e2 : IntKind.wrap .u64 48 = 48 := by rw [wrapU64]; rfl
  have e3 : shlK .u64 (raw2 c0 c1) 48 = some (raw2 c0 c1 * 281474976710656 % 18446744073709551616) := by
    unfold shlK; rw [if_pos (by decide), wrapU64]; rfl
  have e4 : ∀ x : Int, shrK .i64 x 48 = some (x / 281474976710656) := fun x => by
    unfold shrK; rw [if_pos (by decide)]; show some (Int.fdiv x 281474976710656) = _; rw [Int.fdiv_eq_ediv_of_nonneg _ (by decide)]
  have hs : (c0.toNat : Int) > 127 ↔ raw2 c0 c1 ≥ 32768 := by unfold raw2; have hc0 := u8lt c0; have hc1 := u8lt c1; omega
  simp only [m_octet_Signed, hb, Option.bind_some, bne_self_eq_false, Bool.false_eq_true, if_false, width2, e1, e2, e3, e4]
  simp only [wrapI64]
  refine congrArg (fun z : Int => some (z, (0 : Int))) ?_
  unfold sgn2
  by_cases h : (c0.toNat : Int) > 127
  · rw [if_pos h]; have := hs.1 h; omega
  · rw [if_neg h]; have : ¬ raw2 c0 c1 ≥ 32768 := fun h' => h (hs.2 h'); omega
theorem uns2 {s : List UInt8} {a : Int} (hl : (s.length : Int) ≤ 1125899906842624) {c0 c1 : UInt8} (hc : code s a 2 = 0) (hw : (s.drop a.toNat).take 2 = [c0, c1]) (h0 : 0 ≤ a) (hg : ∀ i : Nat, (i : Int) < 2 → s[(a + i).toNat]? = ([c0, c1] : List UInt8)[i]?) : m_octet_Unsigned s a 2 = some (raw2 c0 c1, 0) ∧ m_armatureref02_Unsigned s a 2 = some (raw2 c0 c1, 0) := by
  have hb := bits2 hl hc hw
  have hr := raw2lt c0 c1
  have hs : (c0.toNat : Int) > 127 ↔ raw2 c0 c1 ≥ 32768 := by unfold raw2; have hc0 := u8lt c0; have hc1 := u8lt c1; omega
  constructor
  · simp only [m_octet_Unsigned, hb, Option.bind_some, wrapI64]
    exact congrArg (fun z : Int => some (z, (0 : Int))) (by omega)
  · have e3 : shlK .i64 1 16 = some 65536 := by unfold shlK; rw [if_pos (by decide), wrapI64]; rfl
    have e1 : IntKind.wrap .i64 ((8 : Int) * 2) = 16 := by rw [wrapI64]; rfl
    simp only [m_armatureref02_Unsigned, rsig2 hl hc h0 hg, Option.bind_some, beq_self_eq_true, if_true, j59x1, e1, e3, wrapI64]
    unfold sgn2
    by_cases h : (c0.toNat : Int) > 127
    · rw [if_pos h, if_pos (by decide), if_pos (decide_eq_true (by omega))]
      exact congrArg (fun z : Int => some (z, (0 : Int))) (by omega)
    · rw [if_neg h, if_pos (by decide), if_neg (by simp; omega)]

def raw4 (c0 c1 c2 c3 : UInt8) : Int := ((((c0.toNat : Int) * 256 + (c1.toNat : Int)) * 256 + (c2.toNat : Int)) * 256 + (c3.toNat : Int))
def sgn4 (c0 c1 c2 c3 : UInt8) : Int := if (c0.toNat : Int) > 127 then raw4 c0 c1 c2 c3 - 4294967296 else raw4 c0 c1 c2 c3
theorem raw4lt (c0 c1 c2 c3 : UInt8) : 0 ≤ raw4 c0 c1 c2 c3 ∧ raw4 c0 c1 c2 c3 < 4294967296 := by
  unfold raw4; have hc0 := u8lt c0; have hc1 := u8lt c1; have hc2 := u8lt c2; have hc3 := u8lt c3; omega
theorem bits4 {s : List UInt8} {a : Int} (hl : (s.length : Int) ≤ 1125899906842624) {c0 c1 c2 c3 : UInt8} (hc : code s a 4 = 0) (hw : (s.drop a.toNat).take 4 = [c0, c1, c2, c3]) : m_octet_bits s a 4 = some (raw4 c0 c1 c2 c3, 0) := by
  obtain ⟨_, _, h3⟩ := window_good hl (by decide) hc
  have h3' : m_octet_window s a 4 = some ([c0, c1, c2, c3], 0) := by rw [h3, ← hw]; rfl
  have hc0 := u8lt c0; have hc1 := u8lt c1; have hc2 := u8lt c2; have hc3 := u8lt c3
  have hr : loopM (l68x1 ([c0, c1, c2, c3], 0)) rounds (0, 0) = some (raw4 c0 c1 c2 c3) := loopR 5 (by
    unfold raw4
    rw [loopM, step22 (c := c0) (by decide) (by decide) rfl (by omega) (by omega)]; simp only [Int.reduceAdd]
    rw [loopM, step22 (c := c1) (by decide) (by decide) rfl (by omega) (by omega)]; simp only [Int.reduceAdd]
    rw [loopM, step22 (c := c2) (by decide) (by decide) rfl (by omega) (by omega)]; simp only [Int.reduceAdd]
    rw [loopM, step22 (c := c3) (by decide) (by decide) rfl (by omega) (by omega)]; simp only [Int.reduceAdd]
    rw [loopM, stop22 (by simp)]; dsimp only; exact congrArg some (by omega))
  simp [m_octet_bits, width4, h3', hr]
theorem rsig4 {s : List UInt8} {a : Int} (hl : (s.length : Int) ≤ 1125899906842624) {c0 c1 c2 c3 : UInt8} (hc : code s a 4 = 0) (h0 : 0 ≤ a) (hg : ∀ i : Nat, (i : Int) < 4 → s[(a + i).toNat]? = ([c0, c1, c2, c3] : List UInt8)[i]?) : m_armatureref02_Signed s a 4 = some (sgn4 c0 c1 c2 c3, 0) := by
  have hc0 := u8lt c0; have hc1 := u8lt c1; have hc2 := u8lt c2; have hc3 := u8lt c3
  have g0 : getS s a = some (c0.toNat : Int) := getS_get h0 (by have := hg 0 (by decide); simpa using this)
  have e0 : IntKind.wrap .i64 (c0.toNat : Int) = (c0.toNat : Int) := by rw [wrapI64]; omega
  have hj : ∀ v : Int, -128 ≤ v → v < 128 → j69x1 s a 4 v = some (v * 16777216 + (raw4 c0 c1 c2 c3 - (c0.toNat : Int) * 16777216), 0) := fun v hv0 hv1 => by
    have hr : loopM (l69x1 s a 4) rounds (v, 1) = some (v * 16777216 + (raw4 c0 c1 c2 c3 - (c0.toNat : Int) * 16777216)) := loopR 4 (by
      unfold raw4
      rw [loopM, step15 (i := 1) (c := c1) (by decide) (by decide) (by decide) h0 hl (hg 1 (by decide)) (by omega) (by omega)]; simp only [Int.reduceAdd]
      rw [loopM, step15 (i := 2) (c := c2) (by decide) (by decide) (by decide) h0 hl (hg 2 (by decide)) (by omega) (by omega)]; simp only [Int.reduceAdd]
      rw [loopM, step15 (i := 3) (c := c3) (by decide) (by decide) (by decide) h0 hl (hg 3 (by decide)) (by omega) (by omega)]; simp only [Int.reduceAdd]
      rw [loopM, stop15 (by decide)]; dsimp only; exact congrArg some (by omega))
    simp [j69x1, hr]
  have hsz : wid 4 := by unfold wid; decide
  unfold sgn4
  by_cases h : (c0.toNat : Int) > 127
  · have e1 : IntKind.wrap .i64 ((c0.toNat : Int) - 256) = (c0.toNat : Int) - 256 := by rw [wrapI64]; omega
    rw [if_pos h]
    simp only [m_armatureref02_Signed, there_spec hl hsz, hc, Option.bind_some, g0, e0, e1, bne_self_eq_false, Bool.false_eq_true, if_false, decide_eq_true h, if_true, hj _ (show -128 ≤ (c0.toNat : Int) - 256 by omega) (by omega)]
    exact congrArg (fun z : Int => some (z, (0 : Int))) (by omega)
  · rw [if_neg h]
    simp only [m_armatureref02_Signed, there_spec hl hsz, hc, Option.bind_some, g0, e0, bne_self_eq_false, Bool.false_eq_true, if_false, decide_eq_false h, hj _ (show -128 ≤ (c0.toNat : Int) by omega) (by omega)]
    exact congrArg (fun z : Int => some (z, (0 : Int))) (by omega)
theorem osig4 {s : List UInt8} {a : Int} (hl : (s.length : Int) ≤ 1125899906842624) {c0 c1 c2 c3 : UInt8} (hc : code s a 4 = 0) (hw : (s.drop a.toNat).take 4 = [c0, c1, c2, c3]) : m_octet_Signed s a 4 = some (sgn4 c0 c1 c2 c3, 0) := by
  have hb := bits4 hl hc hw
  have hr := raw4lt c0 c1 c2 c3
  have e1 : IntKind.wrap .i64 ((64 : Int) - 32) = 32 := by rw [wrapI64]; rfl
  have e2 : IntKind.wrap .u64 32 = 32 := by rw [wrapU64]; rfl
  have e3 : shlK .u64 (raw4 c0 c1 c2 c3) 32 = some (raw4 c0 c1 c2 c3 * 4294967296 % 18446744073709551616) := by
    unfold shlK; rw [if_pos (by decide), wrapU64]; rfl
  have e4 : ∀ x : Int, shrK .i64 x 32 = some (x / 4294967296) := fun x => by
    unfold shrK; rw [if_pos (by decide)]; show some (Int.fdiv x 4294967296) = _; rw [Int.fdiv_eq_ediv_of_nonneg _ (by decide)]
  have hs : (c0.toNat : Int) > 127 ↔ raw4 c0 c1 c2 c3 ≥ 2147483648 := by unfold raw4; have hc0 := u8lt c0; have hc1 := u8lt c1; have hc2 := u8lt c2; have hc3 := u8lt c3; omega
  simp only [m_octet_Signed, hb, Option.bind_some, bne_self_eq_false, Bool.false_eq_true, if_false, width4, e1, e2, e3, e4]
  simp only [wrapI64]
  refine congrArg (fun z : Int => some (z, (0 : Int))) ?_
  unfold sgn4
  by_cases h : (c0.toNat : Int) > 127
  · rw [if_pos h]; have := hs.1 h; omega
  · rw [if_neg h]; have : ¬ raw4 c0 c1 c2 c3 ≥ 2147483648 := fun h' => h (hs.2 h'); omega
theorem uns4 {s : List UInt8} {a : Int} (hl : (s.length : Int) ≤ 1125899906842624) {c0 c1 c2 c3 : UInt8} (hc : code s a 4 = 0) (hw : (s.drop a.toNat).take 4 = [c0, c1, c2, c3]) (h0 : 0 ≤ a) (hg : ∀ i : Nat, (i : Int) < 4 → s[(a + i).toNat]? = ([c0, c1, c2, c3] : List UInt8)[i]?) : m_octet_Unsigned s a 4 = some (raw4 c0 c1 c2 c3, 0) ∧ m_armatureref02_Unsigned s a 4 = some (raw4 c0 c1 c2 c3, 0) := by
  have hb := bits4 hl hc hw
  have hr := raw4lt c0 c1 c2 c3
  have hs : (c0.toNat : Int) > 127 ↔ raw4 c0 c1 c2 c3 ≥ 2147483648 := by unfold raw4; have hc0 := u8lt c0; have hc1 := u8lt c1; have hc2 := u8lt c2; have hc3 := u8lt c3; omega
  constructor
  · simp only [m_octet_Unsigned, hb, Option.bind_some, wrapI64]
    exact congrArg (fun z : Int => some (z, (0 : Int))) (by omega)
  · have e3 : shlK .i64 1 32 = some 4294967296 := by unfold shlK; rw [if_pos (by decide), wrapI64]; rfl
    have e1 : IntKind.wrap .i64 ((8 : Int) * 4) = 32 := by rw [wrapI64]; rfl
    simp only [m_armatureref02_Unsigned, rsig4 hl hc h0 hg, Option.bind_some, beq_self_eq_true, if_true, j59x1, e1, e3, wrapI64]
    unfold sgn4
    by_cases h : (c0.toNat : Int) > 127
    · rw [if_pos h, if_pos (by decide), if_pos (decide_eq_true (by omega))]
      exact congrArg (fun z : Int => some (z, (0 : Int))) (by omega)
    · rw [if_neg h, if_pos (by decide), if_neg (by simp; omega)]

def raw8 (c0 c1 c2 c3 c4 c5 c6 c7 : UInt8) : Int := ((((((((c0.toNat : Int) * 256 + (c1.toNat : Int)) * 256 + (c2.toNat : Int)) * 256 + (c3.toNat : Int)) * 256 + (c4.toNat : Int)) * 256 + (c5.toNat : Int)) * 256 + (c6.toNat : Int)) * 256 + (c7.toNat : Int))
def sgn8 (c0 c1 c2 c3 c4 c5 c6 c7 : UInt8) : Int := if (c0.toNat : Int) > 127 then raw8 c0 c1 c2 c3 c4 c5 c6 c7 - 18446744073709551616 else raw8 c0 c1 c2 c3 c4 c5 c6 c7
theorem raw8lt (c0 c1 c2 c3 c4 c5 c6 c7 : UInt8) : 0 ≤ raw8 c0 c1 c2 c3 c4 c5 c6 c7 ∧ raw8 c0 c1 c2 c3 c4 c5 c6 c7 < 18446744073709551616 := by
  unfold raw8; have hc0 := u8lt c0; have hc1 := u8lt c1; have hc2 := u8lt c2; have hc3 := u8lt c3; have hc4 := u8lt c4; have hc5 := u8lt c5; have hc6 := u8lt c6; have hc7 := u8lt c7; omega
theorem bits8 {s : List UInt8} {a : Int} (hl : (s.length : Int) ≤ 1125899906842624) {c0 c1 c2 c3 c4 c5 c6 c7 : UInt8} (hc : code s a 8 = 0) (hw : (s.drop a.toNat).take 8 = [c0, c1, c2, c3, c4, c5, c6, c7]) : m_octet_bits s a 8 = some (raw8 c0 c1 c2 c3 c4 c5 c6 c7, 0) := by
  obtain ⟨_, _, h3⟩ := window_good hl (by decide) hc
  have h3' : m_octet_window s a 8 = some ([c0, c1, c2, c3, c4, c5, c6, c7], 0) := by rw [h3, ← hw]; rfl
  have hc0 := u8lt c0; have hc1 := u8lt c1; have hc2 := u8lt c2; have hc3 := u8lt c3; have hc4 := u8lt c4; have hc5 := u8lt c5; have hc6 := u8lt c6; have hc7 := u8lt c7
  have hr : loopM (l68x1 ([c0, c1, c2, c3, c4, c5, c6, c7], 0)) rounds (0, 0) = some (raw8 c0 c1 c2 c3 c4 c5 c6 c7) := loopR 9 (by
    unfold raw8
    rw [loopM, step22 (c := c0) (by decide) (by decide) rfl (by omega) (by omega)]; simp only [Int.reduceAdd]
    rw [loopM, step22 (c := c1) (by decide) (by decide) rfl (by omega) (by omega)]; simp only [Int.reduceAdd]
    rw [loopM, step22 (c := c2) (by decide) (by decide) rfl (by omega) (by omega)]; simp only [Int.reduceAdd]
    rw [loopM, step22 (c := c3) (by decide) (by decide) rfl (by omega) (by omega)]; simp only [Int.reduceAdd]
    rw [loopM, step22 (c := c4) (by decide) (by decide) rfl (by omega) (by omega)]; simp only [Int.reduceAdd]
    rw [loopM, step22 (c := c5) (by decide) (by decide) rfl (by omega) (by omega)]; simp only [Int.reduceAdd]
    rw [loopM, step22 (c := c6) (by decide) (by decide) rfl (by omega) (by omega)]; simp only [Int.reduceAdd]
    rw [loopM, step22 (c := c7) (by decide) (by decide) rfl (by omega) (by omega)]; simp only [Int.reduceAdd]
    rw [loopM, stop22 (by simp)]; dsimp only; exact congrArg some (by omega))
  simp [m_octet_bits, width8, h3', hr]
theorem rsig8 {s : List UInt8} {a : Int} (hl : (s.length : Int) ≤ 1125899906842624) {c0 c1 c2 c3 c4 c5 c6 c7 : UInt8} (hc : code s a 8 = 0) (h0 : 0 ≤ a) (hg : ∀ i : Nat, (i : Int) < 8 → s[(a + i).toNat]? = ([c0, c1, c2, c3, c4, c5, c6, c7] : List UInt8)[i]?) : m_armatureref02_Signed s a 8 = some (sgn8 c0 c1 c2 c3 c4 c5 c6 c7, 0) := by
  have hc0 := u8lt c0; have hc1 := u8lt c1; have hc2 := u8lt c2; have hc3 := u8lt c3; have hc4 := u8lt c4; have hc5 := u8lt c5; have hc6 := u8lt c6; have hc7 := u8lt c7
  have g0 : getS s a = some (c0.toNat : Int) := getS_get h0 (by have := hg 0 (by decide); simpa using this)
  have e0 : IntKind.wrap .i64 (c0.toNat : Int) = (c0.toNat : Int) := by rw [wrapI64]; omega
  have hj : ∀ v : Int, -128 ≤ v → v < 128 → j69x1 s a 8 v = some (v * 72057594037927936 + (raw8 c0 c1 c2 c3 c4 c5 c6 c7 - (c0.toNat : Int) * 72057594037927936), 0) := fun v hv0 hv1 => by
    have hr : loopM (l69x1 s a 8) rounds (v, 1) = some (v * 72057594037927936 + (raw8 c0 c1 c2 c3 c4 c5 c6 c7 - (c0.toNat : Int) * 72057594037927936)) := loopR 8 (by
      unfold raw8
      rw [loopM, step15 (i := 1) (c := c1) (by decide) (by decide) (by decide) h0 hl (hg 1 (by decide)) (by omega) (by omega)]; simp only [Int.reduceAdd]
      rw [loopM, step15 (i := 2) (c := c2) (by decide) (by decide) (by decide) h0 hl (hg 2 (by decide)) (by omega) (by omega)]; simp only [Int.reduceAdd]
      rw [loopM, step15 (i := 3) (c := c3) (by decide) (by decide) (by decide) h0 hl (hg 3 (by decide)) (by omega) (by omega)]; simp only [Int.reduceAdd]
      rw [loopM, step15 (i := 4) (c := c4) (by decide) (by decide) (by decide) h0 hl (hg 4 (by decide)) (by omega) (by omega)]; simp only [Int.reduceAdd]
      rw [loopM, step15 (i := 5) (c := c5) (by decide) (by decide) (by decide) h0 hl (hg 5 (by decide)) (by omega) (by omega)]; simp only [Int.reduceAdd]
      rw [loopM, step15 (i := 6) (c := c6) (by decide) (by decide) (by decide) h0 hl (hg 6 (by decide)) (by omega) (by omega)]; simp only [Int.reduceAdd]
      rw [loopM, step15 (i := 7) (c := c7) (by decide) (by decide) (by decide) h0 hl (hg 7 (by decide)) (by omega) (by omega)]; simp only [Int.reduceAdd]
      rw [loopM, stop15 (by decide)]; dsimp only; exact congrArg some (by omega))
    simp [j69x1, hr]
  have hsz : wid 8 := by unfold wid; decide
  unfold sgn8
  by_cases h : (c0.toNat : Int) > 127
  · have e1 : IntKind.wrap .i64 ((c0.toNat : Int) - 256) = (c0.toNat : Int) - 256 := by rw [wrapI64]; omega
    rw [if_pos h]
    simp only [m_armatureref02_Signed, there_spec hl hsz, hc, Option.bind_some, g0, e0, e1, bne_self_eq_false, Bool.false_eq_true, if_false, decide_eq_true h, if_true, hj _ (show -128 ≤ (c0.toNat : Int) - 256 by omega) (by omega)]
    exact congrArg (fun z : Int => some (z, (0 : Int))) (by omega)
  · rw [if_neg h]
    simp only [m_armatureref02_Signed, there_spec hl hsz, hc, Option.bind_some, g0, e0, bne_self_eq_false, Bool.false_eq_true, if_false, decide_eq_false h, hj _ (show -128 ≤ (c0.toNat : Int) by omega) (by omega)]
    exact congrArg (fun z : Int => some (z, (0 : Int))) (by omega)
theorem osig8 {s : List UInt8} {a : Int} (hl : (s.length : Int) ≤ 1125899906842624) {c0 c1 c2 c3 c4 c5 c6 c7 : UInt8} (hc : code s a 8 = 0) (hw : (s.drop a.toNat).take 8 = [c0, c1, c2, c3, c4, c5, c6, c7]) : m_octet_Signed s a 8 = some (sgn8 c0 c1 c2 c3 c4 c5 c6 c7, 0) := by
  have hb := bits8 hl hc hw
  have hr := raw8lt c0 c1 c2 c3 c4 c5 c6 c7
  have e1 : IntKind.wrap .i64 ((64 : Int) - 64) = 0 := by rw [wrapI64]; rfl
  have e2 : IntKind.wrap .u64 0 = 0 := by rw [wrapU64]; rfl
  have e3 : shlK .u64 (raw8 c0 c1 c2 c3 c4 c5 c6 c7) 0 = some (raw8 c0 c1 c2 c3 c4 c5 c6 c7 * 1 % 18446744073709551616) := by
    unfold shlK; rw [if_pos (by decide), wrapU64]; rfl
  have e4 : ∀ x : Int, shrK .i64 x 0 = some (x / 1) := fun x => by
    unfold shrK; rw [if_pos (by decide)]; show some (Int.fdiv x 1) = _; rw [Int.fdiv_eq_ediv_of_nonneg _ (by decide)]
  have hs : (c0.toNat : Int) > 127 ↔ raw8 c0 c1 c2 c3 c4 c5 c6 c7 ≥ 9223372036854775808 := by unfold raw8; have hc0 := u8lt c0; have hc1 := u8lt c1; have hc2 := u8lt c2; have hc3 := u8lt c3; have hc4 := u8lt c4; have hc5 := u8lt c5; have hc6 := u8lt c6; have hc7 := u8lt c7; omega
  simp only [m_octet_Signed, hb, Option.bind_some, bne_self_eq_false, Bool.false_eq_true, if_false, width8, e1, e2, e3, e4]
  simp only [wrapI64]
  refine congrArg (fun z : Int => some (z, (0 : Int))) ?_
  unfold sgn8
  by_cases h : (c0.toNat : Int) > 127
  · rw [if_pos h]; have := hs.1 h; omega
  · rw [if_neg h]; have : ¬ raw8 c0 c1 c2 c3 c4 c5 c6 c7 ≥ 9223372036854775808 := fun h' => h (hs.2 h'); omega
theorem uns8 {s : List UInt8} {a : Int} (hl : (s.length : Int) ≤ 1125899906842624) {c0 c1 c2 c3 c4 c5 c6 c7 : UInt8} (hc : code s a 8 = 0) (hw : (s.drop a.toNat).take 8 = [c0, c1, c2, c3, c4, c5, c6, c7]) (h0 : 0 ≤ a) (hg : ∀ i : Nat, (i : Int) < 8 → s[(a + i).toNat]? = ([c0, c1, c2, c3, c4, c5, c6, c7] : List UInt8)[i]?) : m_octet_Unsigned s a 8 = some (sgn8 c0 c1 c2 c3 c4 c5 c6 c7, 0) ∧ m_armatureref02_Unsigned s a 8 = some (sgn8 c0 c1 c2 c3 c4 c5 c6 c7, 0) := by
  have hb := bits8 hl hc hw
  have hr := raw8lt c0 c1 c2 c3 c4 c5 c6 c7
  have hs : (c0.toNat : Int) > 127 ↔ raw8 c0 c1 c2 c3 c4 c5 c6 c7 ≥ 9223372036854775808 := by unfold raw8; have hc0 := u8lt c0; have hc1 := u8lt c1; have hc2 := u8lt c2; have hc3 := u8lt c3; have hc4 := u8lt c4; have hc5 := u8lt c5; have hc6 := u8lt c6; have hc7 := u8lt c7; omega
  constructor
  · simp only [m_octet_Unsigned, hb, Option.bind_some, wrapI64]
    exact congrArg (fun z : Int => some (z, (0 : Int))) (by unfold sgn8; split <;> omega)
  · simp only [m_armatureref02_Unsigned, rsig8 hl hc h0 hg, Option.bind_some, beq_self_eq_true, if_true]
    rw [if_neg (by decide)]

/-! ### The laws -/

theorem four {n : Int} : wid n ∨ (n ≠ 1 ∧ n ≠ 2 ∧ n ≠ 4 ∧ n ≠ 8) := by unfold wid; omega

theorem get_bad {s : List UInt8} {a n : Int} (hl : (s.length : Int) ≤ 1125899906842624) (hn : wid n) (hc : code s a n ≠ 0) :
    m_octet_Unsigned s a n = some (0, code s a n) ∧ m_octet_Signed s a n = some (0, code s a n) ∧ m_armatureref02_Signed s a n = some (0, code s a n) ∧ m_armatureref02_Unsigned s a n = some (0, code s a n) := by
  have h1 := bits_bad hl hn hc
  have h2 := there_spec (s := s) (a := a) hl hn
  have h3 : m_armatureref02_Signed s a n = some (0, code s a n) := by simp [m_armatureref02_Signed, h2, hc]
  refine ⟨?_, ?_, h3, ?_⟩
  · simp only [m_octet_Unsigned, h1, Option.bind_some]; rfl
  · simp [m_octet_Signed, h1, hc]
  · simp [m_armatureref02_Unsigned, h3, hc]
theorem get_none {s : List UInt8} {a n : Int} (h1 : n ≠ 1) (h2 : n ≠ 2) (h4 : n ≠ 4) (h8 : n ≠ 8) :
    m_octet_Unsigned s a n = some (0, 1) ∧ m_octet_Signed s a n = some (0, 1) ∧ m_armatureref02_Signed s a n = some (0, 1) ∧ m_armatureref02_Unsigned s a n = some (0, 1) := by
  have e1 : m_octet_bits s a n = some (0, 1) := by simp [m_octet_bits, widthN h1 h2 h4 h8]
  have e2 : m_armatureref02_sized n = some false := by simp [m_armatureref02_sized, h1, h2, h4, h8]
  have e3 : m_armatureref02_Signed s a n = some (0, 1) := by simp [m_armatureref02_Signed, m_armatureref02_there, e2]
  refine ⟨?_, ?_, e3, ?_⟩
  · simp only [m_octet_Unsigned, e1, Option.bind_some]; rfl
  · simp [m_octet_Signed, e1]
  · simp [m_armatureref02_Unsigned, e3]

theorem len1 {w : List UInt8} (h : (w.length : Int) = 1) : ∃ a, w = [a] := by
  match w, h with
  | [a], _ => exact ⟨a, rfl⟩
  | [], h => simp at h
  | _ :: _ :: _, h => simp at h; omega
theorem len2 {w : List UInt8} (h : (w.length : Int) = 2) : ∃ a b, w = [a, b] := by
  match w, h with
  | [a, b], _ => exact ⟨a, b, rfl⟩
  | [], h | [_], h => simp at h
  | _ :: _ :: _ :: _, h => simp at h; omega
theorem len4 {w : List UInt8} (h : (w.length : Int) = 4) : ∃ a b c d, w = [a, b, c, d] := by
  match w, h with
  | [a, b, c, d], _ => exact ⟨a, b, c, d, rfl⟩
  | [], h | [_], h | [_, _], h | [_, _, _], h => simp at h
  | _ :: _ :: _ :: _ :: _ :: _, h => simp at h; omega
theorem len8 {w : List UInt8} (h : (w.length : Int) = 8) : ∃ a b c d e f g i, w = [a, b, c, d, e, f, g, i] := by
  match w, h with
  | [a, b, c, d, e, f, g, i], _ => exact ⟨a, b, c, d, e, f, g, i, rfl⟩
  | [], h | [_], h | [_, _], h | [_, _, _], h | [_, _, _, _], h | [_, _, _, _, _], h | [_, _, _, _, _, _], h | [_, _, _, _, _, _, _], h => simp at h
  | _ :: _ :: _ :: _ :: _ :: _ :: _ :: _ :: _ :: _, h => simp at h; omega

theorem get_same {s : List UInt8} (a n : Int) (hl : (s.length : Int) ≤ 1125899906842624) :
    ∃ u v, m_octet_Unsigned s a n = some u ∧ m_armatureref02_Unsigned s a n = some u ∧ m_octet_Signed s a n = some v ∧ m_armatureref02_Signed s a n = some v := by
  rcases four (n := n) with hn | ⟨h1, h2, h4, h8⟩
  · by_cases hc : code s a n = 0
    · obtain ⟨g0, g1, -⟩ := window_good hl (by have := wid_pos hn; omega) hc
      obtain ⟨w, hw, hwl, hg⟩ := window_get g0 (by have := wid_pos hn; omega) g1
      rcases hn with rfl | rfl | rfl | rfl
      · obtain ⟨c0, rfl⟩ := len1 hwl
        have := uns1 hl hc hw g0 hg
        exact ⟨_, _, this.1, this.2, osig1 hl hc hw, rsig1 hl hc g0 hg⟩
      · obtain ⟨c0, c1, rfl⟩ := len2 hwl
        have := uns2 hl hc hw g0 hg
        exact ⟨_, _, this.1, this.2, osig2 hl hc hw, rsig2 hl hc g0 hg⟩
      · obtain ⟨c0, c1, c2, c3, rfl⟩ := len4 hwl
        have := uns4 hl hc hw g0 hg
        exact ⟨_, _, this.1, this.2, osig4 hl hc hw, rsig4 hl hc g0 hg⟩
      · obtain ⟨c0, c1, c2, c3, c4, c5, c6, c7, rfl⟩ := len8 hwl
        have := uns8 hl hc hw g0 hg
        exact ⟨_, _, this.1, this.2, osig8 hl hc hw, rsig8 hl hc g0 hg⟩
    · obtain ⟨h1, h2, h3, h4⟩ := get_bad hl hn hc
      exact ⟨_, _, h1, h4, h2, h3⟩
  · obtain ⟨e1, e2, e3, e4⟩ := get_none (s := s) (a := a) h1 h2 h4 h8
    exact ⟨_, _, e1, e4, e2, e3⟩

theorem u8of (y : Int) : ((UInt8.ofNat (y % 256).toNat).toNat : Int) = y % 256 := by
  rw [UInt8.toNat_ofNat']; omega

theorem code_mid (a b c : List UInt8) {n : Int} (hn : n ≤ (b.length : Int)) : code (a ++ b ++ c) (a.length : Int) n = 0 := by
  unfold code
  have h : ((a ++ b ++ c).length : Int) = (a.length : Int) + (b.length : Int) + (c.length : Int) := by simp; omega
  rw [if_neg (by omega), if_neg (by omega), if_neg (by omega)]
theorem take_mid (a b c : List UInt8) : ((a ++ b ++ c).drop (a.length : Int).toNat).take b.length = b := by
  simp [List.append_assoc, List.drop_left', List.take_left']
theorem cat_mid (a b c : List UInt8) (h : (a ++ b ++ c).length ≤ 9223372036854775807) : catK a b = some (a ++ b) ∧ catK (a ++ b) c = some (a ++ b ++ c) := by
  unfold catK
  simp only [List.length_append] at h ⊢
  exact ⟨if_pos (by omega), if_pos (by omega)⟩
theorem get_mid (a b c : List UInt8) {n : Int} (hn : (b.length : Int) = n) : ∀ i : Nat, (i : Int) < n → (a ++ b ++ c)[((a.length : Int) + i).toNat]? = b[i]? := fun i hi => by
  rw [show ((a.length : Int) + i).toNat = a.length + i by omega, List.append_assoc, List.getElem?_append_right (by omega), List.getElem?_append_left (by omega)]
  congr 1 <;> omega

theorem bytes1 (x : Int) : ∃ c0, bytesOf (by1 x) = [c0] ∧ raw1 c0 = x % 256 ∧ (c0.toNat : Int) = x / 1 % 256 := by
  refine ⟨_, rfl, ?_, ?_⟩
  · unfold raw1; simp only [u8of]
  · simp only [u8of]; omega
theorem trip1 (x : Int) (a c : List UInt8) (h0 : -128 ≤ x) (h1 : x ≤ 255) (hl : ((a ++ bytesOf (by1 x) ++ c).length : Int) ≤ 1125899906842624) :
    m_octet_Unsigned (a ++ bytesOf (by1 x) ++ c) (a.length : Int) 1 = some (x % 256, 0) ∧ ∃ v, m_octet_Signed (a ++ bytesOf (by1 x) ++ c) (a.length : Int) 1 = some (v, 0) ∧ (x < 0 → v = x) := by
  obtain ⟨c0, hb, hr, hc⟩ := bytes1 x
  rw [hb] at hl ⊢
  have h2 := code_mid a [c0] c (n := 1) (by simp)
  have h3 : ((a ++ [c0] ++ c).drop (a.length : Int).toNat).take 1 = [c0] := take_mid a [c0] c
  have h4 := uns1 hl h2 h3 (by omega) (get_mid a [c0] c (by simp))
  have h5 := osig1 hl h2 h3
  refine ⟨?_, _, h5, fun hx => ?_⟩
  · rw [h4.1]; rw [hr]
  · unfold sgn1; rw [hr, hc]; split <;> omega

theorem bytes2 (x : Int) : ∃ c0 c1, bytesOf (by2 x) = [c0, c1] ∧ raw2 c0 c1 = x % 65536 ∧ (c0.toNat : Int) = x / 256 % 256 := by
  refine ⟨_, _, rfl, ?_, ?_⟩
  · unfold raw2; simp only [u8of]; omega
  · simp only [u8of]
theorem trip2 (x : Int) (a c : List UInt8) (h0 : -32768 ≤ x) (h1 : x ≤ 65535) (hl : ((a ++ bytesOf (by2 x) ++ c).length : Int) ≤ 1125899906842624) :
    m_octet_Unsigned (a ++ bytesOf (by2 x) ++ c) (a.length : Int) 2 = some (x % 65536, 0) ∧ ∃ v, m_octet_Signed (a ++ bytesOf (by2 x) ++ c) (a.length : Int) 2 = some (v, 0) ∧ (x < 0 → v = x) := by
  obtain ⟨c0, c1, hb, hr, hc⟩ := bytes2 x
  rw [hb] at hl ⊢
  have h2 := code_mid a [c0, c1] c (n := 2) (by simp)
  have h3 : ((a ++ [c0, c1] ++ c).drop (a.length : Int).toNat).take 2 = [c0, c1] := take_mid a [c0, c1] c
  have h4 := uns2 hl h2 h3 (by omega) (get_mid a [c0, c1] c (by simp))
  have h5 := osig2 hl h2 h3
  refine ⟨?_, _, h5, fun hx => ?_⟩
  · rw [h4.1]; rw [hr]
  · unfold sgn2; rw [hr, hc]; split <;> omega

theorem bytes4 (x : Int) : ∃ c0 c1 c2 c3, bytesOf (by4 x) = [c0, c1, c2, c3] ∧ raw4 c0 c1 c2 c3 = x % 4294967296 ∧ (c0.toNat : Int) = x / 16777216 % 256 := by
  refine ⟨_, _, _, _, rfl, ?_, ?_⟩
  · unfold raw4; simp only [u8of]; omega
  · simp only [u8of]; omega
theorem trip4 (x : Int) (a c : List UInt8) (h0 : -2147483648 ≤ x) (h1 : x ≤ 4294967295) (hl : ((a ++ bytesOf (by4 x) ++ c).length : Int) ≤ 1125899906842624) :
    m_octet_Unsigned (a ++ bytesOf (by4 x) ++ c) (a.length : Int) 4 = some (x % 4294967296, 0) ∧ ∃ v, m_octet_Signed (a ++ bytesOf (by4 x) ++ c) (a.length : Int) 4 = some (v, 0) ∧ (x < 0 → v = x) := by
  obtain ⟨c0, c1, c2, c3, hb, hr, hc⟩ := bytes4 x
  rw [hb] at hl ⊢
  have h2 := code_mid a [c0, c1, c2, c3] c (n := 4) (by simp)
  have h3 : ((a ++ [c0, c1, c2, c3] ++ c).drop (a.length : Int).toNat).take 4 = [c0, c1, c2, c3] := take_mid a [c0, c1, c2, c3] c
  have h4 := uns4 hl h2 h3 (by omega) (get_mid a [c0, c1, c2, c3] c (by simp))
  have h5 := osig4 hl h2 h3
  refine ⟨?_, _, h5, fun hx => ?_⟩
  · rw [h4.1]; rw [hr]
  · unfold sgn4; rw [hr, hc]; split <;> omega

theorem bytes8 (x : Int) : ∃ c0 c1 c2 c3 c4 c5 c6 c7, bytesOf (by8 x) = [c0, c1, c2, c3, c4, c5, c6, c7] ∧ raw8 c0 c1 c2 c3 c4 c5 c6 c7 = x % 18446744073709551616 ∧ (c0.toNat : Int) = x / 72057594037927936 % 256 := by
  refine ⟨_, _, _, _, _, _, _, _, rfl, ?_, ?_⟩
  · unfold raw8; simp only [u8of]; omega
  · simp only [u8of]; omega
theorem trip8 (x : Int) (a c : List UInt8) (h0 : -9223372036854775808 ≤ x) (h1 : x ≤ 9223372036854775807) (hl : ((a ++ bytesOf (by8 x) ++ c).length : Int) ≤ 1125899906842624) :
    m_octet_Unsigned (a ++ bytesOf (by8 x) ++ c) (a.length : Int) 8 = some (x, 0) ∧ ∃ v, m_octet_Signed (a ++ bytesOf (by8 x) ++ c) (a.length : Int) 8 = some (v, 0) ∧ (x < 0 → v = x) := by
  obtain ⟨c0, c1, c2, c3, c4, c5, c6, c7, hb, hr, hc⟩ := bytes8 x
  rw [hb] at hl ⊢
  have h2 := code_mid a [c0, c1, c2, c3, c4, c5, c6, c7] c (n := 8) (by simp)
  have h3 : ((a ++ [c0, c1, c2, c3, c4, c5, c6, c7] ++ c).drop (a.length : Int).toNat).take 8 = [c0, c1, c2, c3, c4, c5, c6, c7] := take_mid a [c0, c1, c2, c3, c4, c5, c6, c7] c
  have h4 := uns8 hl h2 h3 (by omega) (get_mid a [c0, c1, c2, c3, c4, c5, c6, c7] c (by simp))
  have h5 := osig8 hl h2 h3
  refine ⟨?_, _, h5, fun hx => ?_⟩
  · rw [h4.1]; unfold sgn8; rw [hr, hc]; congr 1; refine congrArg (fun z : Int => (z, (0 : Int))) ?_; split <;> omega
  · unfold sgn8; rw [hr, hc]; split <;> omega

theorem put_zero {x n : Int} {s : List UInt8} (hx : -9223372036854775808 ≤ x ∧ x ≤ 9223372036854775807) (h : m_octet_Put x n = some (s, 0)) :
    (n = 1 ∧ s = bytesOf (by1 x) ∧ -128 ≤ x ∧ x ≤ 255) ∨ (n = 2 ∧ s = bytesOf (by2 x) ∧ -32768 ≤ x ∧ x ≤ 65535) ∨ (n = 4 ∧ s = bytesOf (by4 x) ∧ -2147483648 ≤ x ∧ x ≤ 4294967295) ∨ (n = 8 ∧ s = bytesOf (by8 x)) := by
  rcases four (n := n) with hn | ⟨h1, h2, h4, h8⟩
  · rcases hn with rfl | rfl | rfl | rfl
    · rw [Put1] at h
      split at h
      · cases h
      · cases h; exact .inl ⟨rfl, rfl, by omega, by omega⟩
    · rw [Put2] at h
      split at h
      · cases h
      · cases h; exact .inr (.inl ⟨rfl, rfl, by omega, by omega⟩)
    · rw [Put4] at h
      split at h
      · cases h
      · cases h; exact .inr (.inr (.inl ⟨rfl, rfl, by omega, by omega⟩))
    · rw [Put8] at h; cases h; exact .inr (.inr (.inr ⟨rfl, rfl⟩))
  · rw [PutN x h1 h2 h4 h8] at h; cases h
theorem put_err {x n e : Int} {s : List UInt8} (h : m_octet_Put x n = some (s, e)) (he : e ≠ 0) : s = [] ∧ (e = 1 ∨ e = 8) := by
  rcases four (n := n) with hn | ⟨h1, h2, h4, h8⟩
  · rcases hn with rfl | rfl | rfl | rfl
    · rw [Put1] at h
      split at h <;> cases h
      · exact ⟨rfl, .inr rfl⟩
      · exact absurd rfl he
    · rw [Put2] at h
      split at h <;> cases h
      · exact ⟨rfl, .inr rfl⟩
      · exact absurd rfl he
    · rw [Put4] at h
      split at h <;> cases h
      · exact ⟨rfl, .inr rfl⟩
      · exact absurd rfl he
    · rw [Put8] at h; cases h; exact absurd rfl he
  · rw [PutN x h1 h2 h4 h8] at h; cases h; exact ⟨rfl, .inl rfl⟩

/-! ### Order -/
def val : List UInt8 → Nat
  | [] => 0
  | c :: l => c.toNat * 256 ^ l.length + val l
theorem val_lt : ∀ l : List UInt8, val l < 256 ^ l.length
  | [] => by decide
  | c :: l => by
    have h := val_lt l
    have hc := c.toNat_lt
    simp only [val, List.length_cons, Nat.pow_succ]
    have : (c.toNat + 1) * 256 ^ l.length ≤ 256 * 256 ^ l.length := Nat.mul_le_mul_right _ (by omega)
    rw [Nat.add_mul] at this
    omega
theorem less_val : ∀ l m : List UInt8, l.length = m.length → (Op.bytesLess l m = decide (val l < val m)) ∧ (l = m ↔ val l = val m)
  | [], [], _ => by simp [Op.bytesLess, val]
  | [], _ :: _, h => by simp at h
  | _ :: _, [], h => by simp at h
  | c :: l, d :: m, h => by
    have hl : l.length = m.length := by simpa using h
    obtain ⟨h1, h2⟩ := less_val l m hl
    have k1 := val_lt l
    have k2 := val_lt m
    rw [← hl] at k2
    simp only [val, Op.bytesLess, ← hl]
    generalize hB : 256 ^ l.length = B at k1 k2 ⊢
    rcases Nat.lt_trichotomy c.toNat d.toNat with hc | hc | hc
    · have hlt : c < d := UInt8.lt_iff_toNat_lt.2 hc
      have : (c.toNat + 1) * B ≤ d.toNat * B := Nat.mul_le_mul_right _ hc
      rw [Nat.add_mul] at this
      have hne : c ≠ d := fun e => by subst e; omega
      refine ⟨?_, ?_⟩
      · rw [decide_eq_true hlt, Bool.true_or]; exact (decide_eq_true (by omega)).symm
      · simp only [List.cons.injEq, hne, false_and, false_iff]; omega
    · have he : c = d := UInt8.toNat_inj.1 hc
      subst he
      refine ⟨?_, ?_⟩
      · rw [h1]; simp
      · simp [h2]
    · have hlt : ¬ c < d := fun h' => by have := UInt8.lt_iff_toNat_lt.1 h'; omega
      have : (d.toNat + 1) * B ≤ c.toNat * B := Nat.mul_le_mul_right _ hc
      rw [Nat.add_mul] at this
      have hne : c ≠ d := fun e => by subst e; omega
      refine ⟨?_, ?_⟩
      · rw [decide_eq_false hlt, show (c == d) = false from by simpa using hne, Bool.false_or, Bool.false_and]
        exact (decide_eq_false (by omega)).symm
      · simp only [List.cons.injEq, hne, false_and, false_iff]; omega
theorem val1 (x : Int) (h0 : 0 ≤ x) (h1 : x < 256) : (val (bytesOf (by1 x)) : Int) = x := by
  obtain ⟨c0, hb, hr, -⟩ := bytes1 x
  rw [hb]
  unfold raw1 at hr
  simp only [val, List.length_cons, List.length_nil]
  omega
theorem val2 (x : Int) (h0 : 0 ≤ x) (h1 : x < 65536) : (val (bytesOf (by2 x)) : Int) = x := by
  obtain ⟨c0, c1, hb, hr, -⟩ := bytes2 x
  rw [hb]
  unfold raw2 at hr
  simp only [val, List.length_cons, List.length_nil]
  omega
theorem val4 (x : Int) (h0 : 0 ≤ x) (h1 : x < 4294967296) : (val (bytesOf (by4 x)) : Int) = x := by
  obtain ⟨c0, c1, c2, c3, hb, hr, -⟩ := bytes4 x
  rw [hb]
  unfold raw4 at hr
  simp only [val, List.length_cons, List.length_nil]
  omega
theorem val8 (x : Int) (h0 : 0 ≤ x) (h1 : x < 18446744073709551616) : (val (bytesOf (by8 x)) : Int) = x := by
  obtain ⟨c0, c1, c2, c3, c4, c5, c6, c7, hb, hr, -⟩ := bytes8 x
  rw [hb]
  unfold raw8 at hr
  simp only [val, List.length_cons, List.length_nil]
  omega

/-! ### Strings -/
theorem uns_range {s : List UInt8} {a : Int} (hl : (s.length : Int) ≤ 1125899906842624) {u : Int × Int} (h : m_octet_Unsigned s a 2 = some u) : (u.2 ≠ 0 ∧ u = (0, code s a 2)) ∨ (u.2 = 0 ∧ code s a 2 = 0 ∧ 0 ≤ u.1 ∧ u.1 < 65536) := by
  have hn : wid 2 := by unfold wid; decide
  by_cases hc : code s a 2 = 0
  · obtain ⟨g0, g1, -⟩ := window_good hl (by decide) hc
    obtain ⟨w, hw, hwl, hg⟩ := window_get g0 (by decide) g1
    obtain ⟨c0, c1, rfl⟩ := len2 hwl
    have := (uns2 hl hc hw g0 hg).1
    rw [this] at h; cases h
    exact .inr ⟨rfl, hc, (raw2lt c0 c1).1, (raw2lt c0 c1).2⟩
  · obtain ⟨h1, -⟩ := get_bad hl hn hc
    rw [h1] at h; cases h
    exact .inl ⟨hc, rfl⟩

theorem string_same {s : List UInt8} (a : Int) (hl : (s.length : Int) ≤ 1125899906842624) : ∃ r, m_octet_GetString s a = some r ∧ m_armatureref02_GetString s a = some r := by
  obtain ⟨u, v, h1, h2, -, -⟩ := get_same (s := s) a 2 hl
  rcases uns_range hl h1 with ⟨k1, k2⟩ | ⟨k1, k2, k3, k4⟩
  · exact ⟨([], 0, u.2), by simp [m_octet_GetString, h1, k1], by simp [m_armatureref02_GetString, h2, k1]⟩
  · obtain ⟨g0, g1, -⟩ := window_good hl (by decide) k2
    have e1 : IntKind.wrap .i64 (a + 2) = a + 2 := by rw [wrapI64]; omega
    have e2 : IntKind.wrap .i64 (a + 2 + u.1) = a + 2 + u.1 := by rw [wrapI64]; omega
    have e3 : IntKind.wrap .i64 ((s.length : Int) - a) = (s.length : Int) - a := by rw [wrapI64]; omega
    have e4 : IntKind.wrap .i64 ((s.length : Int) - a - 2) = (s.length : Int) - a - 2 := by rw [wrapI64]; omega
    by_cases hc : code s (a + 2) u.1 = 0
    · obtain ⟨q0, q1, q2⟩ := window_good hl k3 hc
      have q3 : ¬ ((s.length : Int) - a - 2 < u.1) := by omega
      have q4 : sub s (a + 2) (a + 2 + u.1) = some ((s.drop (a + 2).toNat).take u.1.toNat) := by
        unfold sub
        rw [if_pos (by omega)]
        congr 2; omega
      exact ⟨_, by simp [m_octet_GetString, h1, k1, e1, q2, e2]; rfl, by simp [m_armatureref02_GetString, h2, k1, e1, e2, e3, e4, q3, q4]⟩
    · have q3 : (s.length : Int) - a - 2 < u.1 := by
        unfold code at hc
        by_cases z1 : a + 2 < 0
        · omega
        by_cases z2 : a + 2 > (s.length : Int)
        · omega
        by_cases z3 : (s.length : Int) - (a + 2) < u.1
        · omega
        · simp [z1, z2, z3] at hc
      have q5 : code s (a + 2) u.1 = 3 := by
        unfold code
        rw [if_neg (by omega), if_neg (by omega), if_pos (by omega)]
      exact ⟨([], 0, 3), by simp [m_octet_GetString, h1, k1, e1, window_bad hl hc, q5], by simp [m_armatureref02_GetString, h2, k1, e3, e4, q3]⟩

theorem putstring_same (s : List UInt8) : m_octet_PutString s = m_armatureref02_PutString s := by
  unfold m_octet_PutString m_armatureref02_PutString
  rw [put_same]
theorem putstring (s : List UInt8) (hl : (s.length : Int) ≤ 140737488355328) : m_octet_PutString s = if (s.length : Int) > 65535 then some ([], 8) else some (bytesOf (by2 (s.length : Int)) ++ s, 0) := by
  unfold m_octet_PutString
  rw [Put2]
  by_cases h : (s.length : Int) > 65535
  · rw [if_pos h, if_pos (.inr (by omega))]; simp
  · rw [if_neg h, if_neg (by omega)]
    have hb : (bytesOf (by2 (s.length : Int))).length = 2 := rfl
    have hc : catK (bytesOf (by2 (s.length : Int))) s = some (bytesOf (by2 (s.length : Int)) ++ s) := by
      unfold catK; rw [if_pos (by rw [hb]; omega)]
    simp [hc]

end Go.Proofs
