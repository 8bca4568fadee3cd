/-
  What the models of pool's checking functions come to. No condition.
-/
import Derived.Test.YtcppeincgkalbaaPooDes
namespace Go.Proofs
open Go.Den

/-- A pool whose texts are not too long. -/
def shortP (p : List T_api_Const) : Prop := p.length ≤ 100000 ∧ ∀ c ∈ p, c.f_S.length ≤ 1048576

theorem utf_short {p : List T_api_Const} (h : shortP p) (i : Int) : (utfF p i).1.length ≤ 1048576 := by
  unfold utfF
  rcases getF_err p i 1 with ⟨-, h2, -⟩ | h2 | h2
  · rw [h2]
    unfold atF
    split
    · simp [Z0]
    · split
      · rename_i c hc; exact h.2 c (List.mem_of_getElem? hc)
      · simp [Z0]
  · rw [h2]; simp [Z0]
  · rw [h2]; simp [Z0]
theorem nat_short {p : List T_api_Const} (h : shortP p) (i : Int) : (natF p i).2.1.length ≤ 1048576 := by
  unfold natF
  repeat' split
  all_goals first
    | exact utf_short h _
    | simp

theorem wrap32 (n : Int) : IntKind.wrap .i64 (IntKind.wrap .i32 n) = (n + 2147483648) % 4294967296 - 2147483648 := by
  have h : IntKind.wrap .i32 n = (n + 2147483648) % 4294967296 - 2147483648 := by
    unfold IntKind.wrap
    simp [IntKind.bits, IntKind.signed, Int.bmod]
    omega
  rw [h, wrapP (by omega) (by omega)]
theorem wrap32_ne (n : Int) : (IntKind.wrap .i64 (IntKind.wrap .i32 n) != n) = (decide (n < -2147483648) || decide (n > 2147483647)) := by
  rw [wrap32]
  by_cases h1 : n < -2147483648
  · rw [decide_eq_true h1, Bool.true_or]; exact bne_iff_ne.2 (by omega)
  · rw [decide_eq_false h1, Bool.false_or]
    by_cases h2 : n > 2147483647
    · rw [decide_eq_true h2]; exact bne_iff_ne.2 (by omega)
    · rw [decide_eq_false h2, bne_eq_false_iff_eq]; omega

/-- A descriptor that is a type is no signature. -/
theorem parse_head {s : List UInt8} (h : (parseF s).2 = 0) : ∀ q, s ≠ 40 :: q := by
  intro q e
  unfold parseF at h
  cases hr : rd s with
  | none => rw [hr] at h; exact absurd h (by decide)
  | some x =>
    obtain ⟨t, r⟩ := x
    rw [hr] at h
    cases r with
    | cons c r => dsimp only at h; exact absurd h (by decide)
    | nil =>
      obtain ⟨g1, g2, -, -⟩ := rd_spec hr
      obtain ⟨h0, -, h3, -⟩ := valid_facts g1
      rw [e, List.append_nil] at g2
      unfold fmt at g2
      rcases Nat.eq_zero_or_pos t.f_Dim.toNat with hz | hz
      · rw [hz] at g2
        simp only [List.replicate_zero, List.nil_append] at g2
        injection g2 with g3 _
        rcases h3 with ⟨hb, -⟩ | ⟨hb, -⟩ | ⟨hb, -⟩ | ⟨hb, -⟩ <;> rw [hb] at g3 <;> exact absurd g3 (by decide)
      · rw [show t.f_Dim.toNat = (t.f_Dim.toNat - 1) + 1 by omega, List.replicate_succ, List.cons_append] at g2
        injection g2 with g3 _
        exact absurd g3 (by decide)

theorem ptr_ty {t : T_api_Type} (h : validB t = true) : eqb_T_api_Type t { f_Dim := 0, f_Base := 86, f_Name := [] } = (t.f_Base == 86) := by
  obtain ⟨d, b, n⟩ := t
  obtain ⟨-, -, h3, -⟩ := valid_facts h
  dsimp only at h3
  unfold eqb_T_api_Type
  dsimp only
  rcases h3 with ⟨hb, -⟩ | ⟨hb, -⟩ | ⟨hb, hn, hd⟩ | ⟨hb, -⟩
  · rw [hb]; cases (d == 0) <;> rfl
  · rw [hb]; cases (d == 0) <;> rfl
  · rw [hb, hn, hd]; rfl
  · rw [hb]; cases (d == 0) <;> rfl

/-- The name and the descriptor of a member. -/
theorem named_same (p : List T_api_Const) (c : T_api_Const) (hp : shortP p) (hm : memB c.f_Tag = true) : ∃ e, m_pool_member p c = some e ∧ j53x2 p c = some e := by
  unfold m_pool_member j53x2
  have hl : p.length ≤ 1000000 := by have := hp.1; omega
  rw [nat_pool p _ hl, mem_ref, hm]
  simp only [Option.bind_some, if_true]
  rw [nat_ref p _ hl]
  simp only [Option.bind_some]
  have hsh := nat_short hp c.f_B
  generalize natF p c.f_B = w at *
  obtain ⟨n, d, e⟩ := w
  dsimp only at hsh ⊢
  by_cases h0 : e = 0
  · rw [if_neg (by simpa using h0), if_pos (by simpa using h0)]
    obtain ⟨v, s1, s2, s3⟩ := sig_same d (by omega)
    unfold m_armatureref05_named
    rw [s1, s2]
    simp only [Option.bind_some]
    cases hx : (v.2 == 0) == (c.f_Tag == 9) with
    | true => exact ⟨13, rfl, rfl⟩
    | false =>
      simp only [Bool.false_eq_true, if_false]
      by_cases h9 : c.f_Tag = 9
      · have e9 : (c.f_Tag == 9) = true := by simpa using h9
        have key : ∀ b, j58x1 (n, d, e) c b = some (match n with
          | [] => 0
          | c0 :: _ => if c0 = 60 then 12 else 0) := fun b => by
          unfold j58x1 j58x2
          dsimp only
          rw [if_pos e9]
          cases n with
          | nil => rfl
          | cons c0 r0 =>
            rw [if_pos (by rfl), getS0]
            simp only [Option.bind_some]
            rw [show (60 : Int) = ((60 : UInt8).toNat : Int) from rfl, i8_beq]
            by_cases h60 : c0 = 60
            · rw [if_pos (by simpa using h60), if_pos h60]
            · rw [if_neg (by simpa using h60), if_neg h60]
        simp only [key, ite_self, e9, if_true]
        refine ⟨_, rfl, ?_⟩
        cases n with
        | nil => rfl
        | cons c0 r0 =>
          rw [if_pos (decide_eq_true (by simp only [List.length_cons]; omega)), getS0]
          simp only [Option.bind_some]
          rw [show (60 : Int) = ((60 : UInt8).toNat : Int) from rfl, i8_beq]
          by_cases h60 : c0 = 60
          · rw [if_pos (by simpa using h60)]; simp [h60]
          · rw [if_neg (by simpa using h60)]; simp [h60]
      · have e9 : (c.f_Tag == 9) = false := by simpa using h9
        have hv0 : v.2 = 0 := by
          rw [e9] at hx
          cases hh : (v.2 == 0) with
          | true => simpa using hh
          | false => rw [hh] at hx; cases hx
        have hv := (s3 hv0).1
        unfold j58x1 j58x2
        simp only [e9, Bool.false_eq_true, if_false]
        by_cases n1 : n = [60, 99, 108, 105, 110, 105, 116, 62]
        · have n1' : (n == ([60, 99, 108, 105, 110, 105, 116, 62] : List UInt8)) = true := by simpa using n1
          simp only [n1', if_true]
          exact ⟨12, rfl, rfl⟩
        · have n1' : (n == ([60, 99, 108, 105, 110, 105, 116, 62] : List UInt8)) = false := by simpa using n1
          simp only [n1', Bool.false_eq_true, if_false]
          by_cases n2 : n = [60, 105, 110, 105, 116, 62]
          · have n2' : (n == ([60, 105, 110, 105, 116, 62] : List UInt8)) = true := by simpa using n2
            simp only [n2', if_true]
            cases h11 : (c.f_Tag == 11) with
            | true => exact ⟨12, rfl, rfl⟩
            | false =>
              simp only [Bool.false_eq_true, if_false]
              rw [ptr_ty hv, bne]
              cases (v.1.f_Result.f_Base == 86) with
              | true => exact ⟨0, rfl, rfl⟩
              | false => exact ⟨12, rfl, rfl⟩
          · have n2' : (n == ([60, 105, 110, 105, 116, 62] : List UInt8)) = false := by simpa using n2
            simp only [n2', Bool.false_eq_true, if_false]
            exact ⟨0, rfl, rfl⟩
  · rw [if_pos (by simpa using h0), if_neg (by simpa using h0)]
    exact ⟨0, rfl, rfl⟩

/-- A text that is a type or a signature. -/
theorem descr_same (s : List UInt8) (hl : s.length ≤ 1048576) : ∃ v, m_desc_ParseSignature s = some v ∧ m_armatureref05_descriptor s = some (!((v.2 != 0) && (((parseF s).2 != 0) || ((parseF s).1.f_Base == 86)))) := by
  obtain ⟨v, s1, s2, s3⟩ := sig_same s (by omega)
  refine ⟨v, s1, ?_⟩
  unfold m_armatureref05_descriptor
  rw [parse_ref s (by omega), s2]
  simp only [Option.bind_some]
  by_cases h : (parseF s).2 = 0
  · have hv : v.2 ≠ 0 := fun e => by
      obtain ⟨-, q, hq⟩ := s3 e
      exact parse_head h q hq
    rw [if_pos (by simpa using h)]
    have a1 : (v.2 != 0) = true := bne_iff_ne.2 hv
    have a2 : ((parseF s).2 != 0) = false := by simpa using h
    rw [a1, a2, bne]; rfl
  · rw [if_neg (by simpa using h)]
    have a2 : ((parseF s).2 != 0) = true := bne_iff_ne.2 h
    rw [a2]
    simp [bne]

end Go.Proofs
