/-
  What the models of desc's functions come to: valid types and their descriptors. No condition.
-/
import Derived.Test.YtbkfbbghkbmkaaaDesNam
namespace Go.Proofs
open Go.Den

def clsB (s : List UInt8) : Bool := decide (s.length ≤ 64) && okC true s
def validB (t : T_api_Type) : Bool :=
  decide (0 ≤ t.f_Dim) && decide (t.f_Dim ≤ 8) &&
  ((t.f_Base == 73 || t.f_Base == 74) && (t.f_Name == []) || t.f_Base == 86 && (t.f_Name == []) && t.f_Dim == 0 || t.f_Base == 76 && clsB t.f_Name)

theorem valid_desc (t : T_api_Type) (hl : (t.f_Name.length : Int) ≤ 140737488355328) : m_desc_Valid t = some (validB t) := by
  unfold m_desc_Valid j25x1 j25x2 j25x3 validB clsB
  rw [isClass _ hl]
  by_cases h1 : t.f_Dim < 0
  · simp [h1, show ¬ 0 ≤ t.f_Dim by omega]
  · by_cases h2 : t.f_Dim > 8
    · simp [h1, h2, show ¬ t.f_Dim ≤ 8 by omega]
    · by_cases b1 : t.f_Base = 73
      · simp [h1, b1, show ¬ 8 < t.f_Dim by omega, show 0 ≤ t.f_Dim by omega, show t.f_Dim ≤ 8 by omega]
      · by_cases b2 : t.f_Base = 74
        · simp [h1, b2, show ¬ 8 < t.f_Dim by omega, show 0 ≤ t.f_Dim by omega, show t.f_Dim ≤ 8 by omega]
        · by_cases b3 : t.f_Base = 86
          · by_cases b4 : t.f_Dim = 0
            · simp [b3, b4]
            · simp [h1, b3, b4, show ¬ 8 < t.f_Dim by omega, show 0 ≤ t.f_Dim by omega, show t.f_Dim ≤ 8 by omega]
          · by_cases b5 : t.f_Base = 76
            · simp [h1, b5, show ¬ 8 < t.f_Dim by omega, show 0 ≤ t.f_Dim by omega, show t.f_Dim ≤ 8 by omega]
            · simp [h1, b1, b2, b3, b5, show ¬ 8 < t.f_Dim by omega]

theorem valid_ref (t : T_api_Type) (hl : (t.f_Name.length : Int) ≤ 140737488355328) : m_armatureref04_Valid t = some (validB t) := by
  unfold m_armatureref04_Valid j32x1 j32x2 j32x3 validB clsB
  rw [ref_class _ hl]
  by_cases h1 : t.f_Dim < 0
  · simp [h1, show ¬ 0 ≤ t.f_Dim by omega]
  · by_cases h2 : t.f_Dim > 8
    · simp [h1, h2, show ¬ t.f_Dim ≤ 8 by omega]
    · by_cases b1 : t.f_Base = 73
      · simp [h1, b1, show ¬ 8 < t.f_Dim by omega, show 0 ≤ t.f_Dim by omega, show t.f_Dim ≤ 8 by omega]
      · by_cases b2 : t.f_Base = 74
        · simp [h1, b2, show ¬ 8 < t.f_Dim by omega, show 0 ≤ t.f_Dim by omega, show t.f_Dim ≤ 8 by omega]
        · by_cases b3 : t.f_Base = 86
          · by_cases b4 : t.f_Dim = 0
            · by_cases b6 : t.f_Name = [] <;> simp [b3, b4, b6]
            · by_cases b6 : t.f_Name = [] <;> simp [h1, b3, b4, b6, show ¬ 8 < t.f_Dim by omega, show 0 ≤ t.f_Dim by omega, show t.f_Dim ≤ 8 by omega]
          · by_cases b5 : t.f_Base = 76
            · simp [h1, b5, show ¬ 8 < t.f_Dim by omega, show 0 ≤ t.f_Dim by omega, show t.f_Dim ≤ 8 by omega]
            · simp [h1, b1, b2, b3, b5, show ¬ 8 < t.f_Dim by omega]

/-- What a valid type looks like. -/
theorem valid_facts {t : T_api_Type} (h : validB t = true) : 0 ≤ t.f_Dim ∧ t.f_Dim ≤ 8 ∧ ((t.f_Base = 73 ∧ t.f_Name = []) ∨ (t.f_Base = 74 ∧ t.f_Name = []) ∨ (t.f_Base = 86 ∧ t.f_Name = [] ∧ t.f_Dim = 0) ∨ (t.f_Base = 76 ∧ clsB t.f_Name = true)) ∧ t.f_Name.length ≤ 64 := by
  simp only [validB, Bool.and_eq_true, Bool.or_eq_true, decide_eq_true_eq, beq_iff_eq] at h
  obtain ⟨⟨h1, h2⟩, h3⟩ := h
  refine ⟨h1, h2, ?_, ?_⟩
  · rcases h3 with (⟨h3 | h3, h4⟩ | ⟨⟨h3, h4⟩, h5⟩) | ⟨h3, h4⟩
    · exact .inl ⟨h3, h4⟩
    · exact .inr (.inl ⟨h3, h4⟩)
    · exact .inr (.inr (.inl ⟨h3, h4, h5⟩))
    · exact .inr (.inr (.inr ⟨h3, h4⟩))
  · rcases h3 with (⟨_, h4⟩ | ⟨⟨_, h4⟩, _⟩) | ⟨_, h4⟩
    · rw [h4]; simp
    · rw [h4]; simp
    · simp only [clsB, Bool.and_eq_true, decide_eq_true_eq] at h4; exact h4.1

/-- The descriptor, as numbers and as bytes. -/
def fmtI (t : T_api_Type) : List Int := List.replicate t.f_Dim.toNat 91 ++ t.f_Base :: (if t.f_Base = 76 then bytesI t.f_Name ++ [59] else [])
def fmt (t : T_api_Type) : List UInt8 := List.replicate t.f_Dim.toNat 91 ++ UInt8.ofNat t.f_Base.toNat :: (if t.f_Base = 76 then t.f_Name ++ [59] else [])

theorem bytesOf_app (a b : List Int) : bytesOf (a ++ b) = bytesOf a ++ bytesOf b := by simp [bytesOf]
theorem bytesOf_I (s : List UInt8) : bytesOf (bytesI s) = s := by
  induction s with
  | nil => rfl
  | cons c r ih =>
    have : bytesOf (bytesI (c :: r)) = UInt8.ofNat ((c.toNat : Int).toNat) :: bytesOf (bytesI r) := rfl
    rw [this, ih]; simp
theorem bytesOf_fmtI (t : T_api_Type) : bytesOf (fmtI t) = fmt t := by
  unfold fmtI fmt
  rw [bytesOf_app]
  have h1 : ∀ n, bytesOf (List.replicate n 91) = List.replicate n 91 := fun n => by simp [bytesOf]
  rw [h1]
  split
  · show _ ++ UInt8.ofNat t.f_Base.toNat :: bytesOf (bytesI t.f_Name ++ [59]) = _
    rw [bytesOf_app, bytesOf_I]; rfl
  · rfl
theorem fmtI_len {t : T_api_Type} (h : validB t = true) : (fmtI t).length ≤ 74 := by
  obtain ⟨h1, h2, -, h4⟩ := valid_facts h
  unfold fmtI
  have hb : (bytesI t.f_Name).length = t.f_Name.length := by simp [bytesI]
  split <;> simp [hb] <;> omega
theorem fmt_len {t : T_api_Type} (h : validB t = true) : (fmt t).length ≤ 74 ∧ 1 ≤ (fmt t).length := by
  obtain ⟨h1, h2, -, h4⟩ := valid_facts h
  unfold fmt
  split <;> simp <;> omega

theorem growK_ok {n : Nat} (b : Nat) (h : n * b ≤ 140737488355328) (hb : 1 ≤ b) : growK b n = some () := by
  unfold growK
  have : n ≤ n * b := Nat.le_mul_of_pos_right n hb
  rw [if_pos ⟨by omega, h⟩]

theorem wrap_ok {n : Int} (h0 : -9223372036854775808 ≤ n) (h1 : n < 9223372036854775808) : IntKind.wrap .i64 n = n := by
  rw [wrap64]; omega

theorem app_desc (x0 : List Int) (t : T_api_Type) (h : validB t = true) (hx : x0.length ≤ 1000000) : m_desc_appendType x0 t = some (x0 ++ fmtI t) := by
  obtain ⟨h1, h2, -, h4⟩ := valid_facts h
  have hloop : ∃ r, loopM (l40x1 t) rounds (0, x0) = some r ∧ r = x0 ++ List.replicate t.f_Dim.toNat 91 := by
    refine loopM_ind (fun s => 0 ≤ s.1 ∧ s.1 ≤ t.f_Dim ∧ s.2 = x0 ++ List.replicate s.1.toNat 91) (fun s => (t.f_Dim - s.1).toNat) (fun r => r = x0 ++ List.replicate t.f_Dim.toNat 91) ?_ rounds (0, x0) ⟨by simp, h1, by simp⟩ ?_
    · rintro ⟨i, acc⟩ ⟨i0, i1, ha⟩
      dsimp only at i0 i1 ha ⊢
      subst ha
      unfold l40x1
      dsimp only
      by_cases hlt : i < t.f_Dim
      · rw [if_pos (decide_eq_true hlt), growK_ok 1 (by simp; omega) (by omega), wrap_ok (by omega) (by omega)]
        refine ⟨_, rfl, ⟨by omega, by omega, ?_⟩, by omega⟩
        dsimp only
        rw [List.append_assoc, show (i + 1).toNat = i.toNat + 1 by omega, List.replicate_succ']
      · rw [if_neg (by simpa using hlt)]
        refine ⟨_, rfl, ?_⟩
        show x0 ++ _ = _
        rw [show i = t.f_Dim by omega]
    · show (t.f_Dim - 0).toNat < 18446744073709551616
      omega
  obtain ⟨r, hr, rfl⟩ := hloop
  have hb : (bytesI t.f_Name).length = t.f_Name.length := by simp [bytesI]
  unfold m_desc_appendType
  rw [hr]
  simp only [Option.bind_some]
  rw [growK_ok 1 (by simp; omega) (by omega)]
  simp only [Option.bind_some]
  unfold fmtI
  by_cases h76 : t.f_Base = 76
  · rw [if_pos (by simpa using h76), growK_ok 1 (by simp [hb]; omega) (by omega)]
    simp only [Option.bind_some]
    rw [growK_ok 1 (by simp [hb]; omega) (by omega), if_pos h76]
    simp
  · rw [if_neg (by simpa using h76), if_neg h76]
    simp

theorem format_desc (t : T_api_Type) (hl : (t.f_Name.length : Int) ≤ 140737488355328) : m_desc_Format t = some (if validB t = true then (fmt t, 0) else ([], 13)) := by
  unfold m_desc_Format
  rw [valid_desc t hl]
  simp only [Option.bind_some]
  cases hv : validB t with
  | false => rfl
  | true =>
    rw [if_neg (by simp), app_desc [] t hv (by simp)]
    simp only [Option.bind_some, List.nil_append, bytesOf_fmtI, if_true]

theorem rune73 : runeStr 73 = [73] := by decide +kernel
theorem rune74 : runeStr 74 = [74] := by decide +kernel
theorem rune76 : runeStr 76 = [76] := by decide +kernel
theorem rune86 : runeStr 86 = [86] := by decide +kernel

theorem format_ref (t : T_api_Type) (hl : (t.f_Name.length : Int) ≤ 140737488355328) : m_armatureref04_Format t = some (if validB t = true then (fmt t, 0) else ([], 13)) := by
  unfold m_armatureref04_Format
  rw [valid_ref t hl]
  simp only [Option.bind_some]
  cases hv : validB t with
  | false => rfl
  | true =>
    obtain ⟨h1, h2, h3, h4⟩ := valid_facts hv
    have hloop : ∃ r, loopM (l28x1 t) rounds ([], 0) = some r ∧ r = List.replicate t.f_Dim.toNat 91 := by
      refine loopM_ind (fun s => 0 ≤ s.2 ∧ s.2 ≤ t.f_Dim ∧ s.1 = List.replicate s.2.toNat 91) (fun s => (t.f_Dim - s.2).toNat) (fun r => r = List.replicate t.f_Dim.toNat 91) ?_ rounds ([], 0) ⟨by simp, h1, by simp⟩ ?_
      · rintro ⟨acc, i⟩ ⟨i0, i1, ha⟩
        dsimp only at i0 i1 ha ⊢
        subst ha
        unfold l28x1
        dsimp only
        by_cases hlt : i < t.f_Dim
        · rw [if_pos (decide_eq_true hlt), catK_ok (by simp; omega)]
          simp only [Option.bind_some]
          rw [wrap_ok (by omega) (by omega)]
          refine ⟨_, rfl, ⟨by omega, by omega, ?_⟩, by omega⟩
          dsimp only
          rw [show (i + 1).toNat = i.toNat + 1 by omega, List.replicate_succ']
        · rw [if_neg (by simpa using hlt)]
          refine ⟨_, rfl, ?_⟩
          show List.replicate _ _ = _
          rw [show i = t.f_Dim by omega]
      · show (t.f_Dim - 0).toNat < 18446744073709551616
        omega
    obtain ⟨r, hr, rfl⟩ := hloop
    have hrune : IntKind.wrap .i32 t.f_Base = t.f_Base ∧ runeStr t.f_Base = [UInt8.ofNat t.f_Base.toNat] := by
      rcases h3 with ⟨hb, -⟩ | ⟨hb, -⟩ | ⟨hb, -⟩ | ⟨hb, -⟩ <;> rw [hb]
      · exact ⟨by decide, rune73⟩
      · exact ⟨by decide, rune74⟩
      · exact ⟨by decide, rune86⟩
      · exact ⟨by decide, rune76⟩
    rw [if_neg (by simp), hr]
    simp only [Option.bind_some]
    rw [hrune.1, hrune.2, catK_ok (by simp; omega)]
    simp only [Option.bind_some, if_true]
    unfold fmt
    by_cases h76 : t.f_Base = 76
    · rw [if_pos (by simpa using h76), catK_ok (by simp; omega)]
      simp only [Option.bind_some]
      rw [catK_ok (by simp; omega), if_pos h76]
      simp
    · rw [if_neg (by simpa using h76), if_neg h76]

end Go.Proofs
