/-
  What the models of desc's functions come to: signatures that are formatted, types that are made and taken apart. No condition.
-/
import Derived.Test.YtbkfbbghkbmkaaaDesLaw3
namespace Go.Proofs
open Go.Den

def okP1 (t : T_api_Type) : Bool := validB t && t.f_Base != 86
/-- What FormatSignature answers. -/
def fsig (g : T_api_Sig) : List UInt8 × Int :=
  if g.f_Params.length > 16 then ([], 5)
  else if g.f_Params.all okP1 && validB g.f_Result then (40 :: g.f_Params.flatMap fmt ++ 41 :: fmt g.f_Result, 0) else ([], 13)

theorem getR_of {α : Type} {l : List α} {i : Nat} {c : α} (h : l[i]? = some c) : getR l (i : Int) = some c := by
  unfold getR
  rw [if_pos (by omega), Int.toNat_natCast, h]

theorem all_take {α : Type} {p : α → Bool} {l : List α} {n : Nat} {c : α} (h : l[n]? = some c) : (l.take (n + 1)).all p = ((l.take n).all p && p c) := by
  rw [List.take_add_one, h]; simp
theorem flat_take {α β : Type} {f : α → List β} {l : List α} {n : Nat} {c : α} (h : l[n]? = some c) : (l.take (n + 1)).flatMap f = (l.take n).flatMap f ++ f c := by
  rw [List.take_add_one, h]; simp
theorem all_get {α : Type} {p : α → Bool} {l : List α} {n : Nat} {c : α} (h : l[n]? = some c) (hp : p c = false) : l.all p = false := by
  rw [List.all_eq_false]
  exact ⟨c, List.mem_of_getElem? h, by simp [hp]⟩

theorem okP1_spec (t : T_api_Type) : okP1 t = (validB t && !(t.f_Base == 86)) := rfl

theorem fsig_desc (g : T_api_Sig) (hl : ∀ t ∈ g.f_Params, (t.f_Name.length : Int) ≤ 140737488355328) (hr : (g.f_Result.f_Name.length : Int) ≤ 140737488355328) : m_desc_FormatSignature g = some (fsig g) := by
  unfold m_desc_FormatSignature fsig
  by_cases h16 : g.f_Params.length > 16
  · rw [if_pos (decide_eq_true (by omega)), if_pos h16]
  · rw [if_neg (by simp; omega), if_neg h16]
    have hloop : ∃ r, loopM (l18x1 g) rounds (0, [40]) = some r ∧ (match r with
        | .inl b => g.f_Params.all okP1 = true ∧ bytesOf b = 40 :: g.f_Params.flatMap fmt ∧ b.length ≤ 2000
        | .inr y => y = ([], 13) ∧ g.f_Params.all okP1 = false) := by
      refine loopM_ind (fun p : Int × List Int => ∃ k : Nat, k ≤ g.f_Params.length ∧ p.1 = (k : Int) ∧ (g.f_Params.take k).all okP1 = true ∧ bytesOf p.2 = 40 :: (g.f_Params.take k).flatMap fmt ∧ p.2.length ≤ 1 + 74 * k)
        (fun p => (g.f_Params.length : Int).toNat - p.1.toNat) _ ?_ rounds (0, [40]) ⟨0, by omega, rfl, by simp, by simp; rfl, by simp⟩ ?_
      · rintro ⟨i, b⟩ ⟨k, hk, hi, h1, h2, h3⟩
        dsimp only at hi h2 h3 ⊢
        subst hi
        unfold l18x1
        dsimp only
        by_cases hlt : k < g.f_Params.length
        · have hc : g.f_Params[k]? = some g.f_Params[k] := List.getElem?_eq_getElem hlt
          generalize g.f_Params[k] = t at hc
          rw [if_pos (decide_eq_true (by omega)), getR_of hc]
          simp only [Option.bind_some]
          rw [show ({ f_Dim := t.f_Dim, f_Base := t.f_Base, f_Name := t.f_Name } : T_api_Type) = t from rfl, valid_desc t (hl t (List.mem_of_getElem? hc))]
          simp only [Option.bind_some]
          cases hv : validB t with
          | false =>
            exact ⟨_, rfl, rfl, all_get hc (by unfold okP1; rw [hv]; rfl)⟩
          | true =>
            simp only [Bool.not_true, Bool.false_eq_true, if_false]
            by_cases h86 : t.f_Base = 86
            · rw [if_pos (by simpa using h86)]
              exact ⟨_, rfl, rfl, all_get hc (by unfold okP1; rw [hv, h86]; rfl)⟩
            · rw [if_neg (by simpa using h86)]
              unfold j18x1
              dsimp only
              rw [show ({ f_Dim := t.f_Dim, f_Base := t.f_Base, f_Name := t.f_Name } : T_api_Type) = t from rfl, app_desc b t hv (by omega)]
              simp only [Option.bind_some]
              rw [wrap_ok (by omega) (by omega)]
              refine ⟨_, rfl, ⟨k + 1, by omega, by simp, ?_, ?_, ?_⟩, by dsimp only; omega⟩
              · rw [all_take hc, h1, okP1_spec, hv]; simp [h86]
              · dsimp only
                rw [bytesOf_app, h2, flat_take hc, bytesOf_fmtI]; rfl
              · dsimp only
                have := fmtI_len hv
                rw [List.length_append]; omega
        · rw [if_neg (by simp; omega)]
          obtain rfl : k = g.f_Params.length := by omega
          rw [List.take_length] at h1 h2
          exact ⟨_, rfl, h1, h2, by omega⟩
      · show (g.f_Params.length : Int).toNat - (0 : Int).toNat < 18446744073709551616
        omega
    obtain ⟨r, e, hp⟩ := hloop
    rw [e]
    simp only [Option.bind_some]
    cases r with
    | inr y =>
      dsimp only at hp ⊢
      rw [hp.1, hp.2]; rfl
    | inl b =>
      dsimp only at hp ⊢
      obtain ⟨p1, p2, p3⟩ := hp
      rw [valid_desc _ hr, p1]
      simp only [Option.bind_some]
      cases hv : validB g.f_Result with
      | false => rfl
      | true =>
        simp only [Bool.not_true, Bool.false_eq_true, if_false]
        rw [growK_ok 1 (by simp; omega) (by omega)]
        simp only [Option.bind_some]
        rw [app_desc _ _ hv (by simp; omega)]
        simp only [Option.bind_some, Bool.and_true, if_true]
        rw [bytesOf_app, bytesOf_app, p2, bytesOf_fmtI]
        simp [bytesOf]

theorem fsig_ref (g : T_api_Sig) (hl : ∀ t ∈ g.f_Params, (t.f_Name.length : Int) ≤ 140737488355328) (hr : (g.f_Result.f_Name.length : Int) ≤ 140737488355328) : m_armatureref04_FormatSignature g = some (fsig g) := by
  unfold m_armatureref04_FormatSignature fsig
  by_cases h16 : g.f_Params.length > 16
  · rw [if_pos (decide_eq_true (by omega)), if_pos h16]
  · rw [if_neg (by simp; omega), if_neg h16]
    have hloop : ∃ r, loopM (l19x1 g) rounds ([40], 0) = some r ∧ (match r with
        | .inl b => g.f_Params.all okP1 = true ∧ b = 40 :: g.f_Params.flatMap fmt ∧ b.length ≤ 2000
        | .inr y => y = ([], 13) ∧ g.f_Params.all okP1 = false) := by
      refine loopM_ind (fun p : List UInt8 × Int => ∃ k : Nat, k ≤ g.f_Params.length ∧ p.2 = (k : Int) ∧ (g.f_Params.take k).all okP1 = true ∧ p.1 = 40 :: (g.f_Params.take k).flatMap fmt ∧ p.1.length ≤ 1 + 74 * k)
        (fun p => (g.f_Params.length : Int).toNat - p.2.toNat) _ ?_ rounds ([40], 0) ⟨0, by omega, rfl, by simp, by simp, by simp⟩ ?_
      · rintro ⟨b, i⟩ ⟨k, hk, hi, h1, h2, h3⟩
        dsimp only at hi h2 h3 ⊢
        subst hi
        unfold l19x1
        dsimp only
        by_cases hlt : k < g.f_Params.length
        · have hc : g.f_Params[k]? = some g.f_Params[k] := List.getElem?_eq_getElem hlt
          generalize g.f_Params[k] = t at hc
          rw [if_pos (decide_eq_true (by omega)), getR_of hc]
          simp only [Option.bind_some]
          rw [show ({ f_Dim := t.f_Dim, f_Base := t.f_Base, f_Name := t.f_Name } : T_api_Type) = t from rfl, format_ref t (hl t (List.mem_of_getElem? hc))]
          simp only [Option.bind_some]
          cases hv : validB t with
          | false =>
            exact ⟨_, rfl, rfl, all_get hc (by unfold okP1; rw [hv]; rfl)⟩
          | true =>
            simp only [if_true]
            rw [if_neg (by decide)]
            by_cases h86 : t.f_Base = 86
            · rw [if_pos (by simpa using h86)]
              exact ⟨_, rfl, rfl, all_get hc (by unfold okP1; rw [hv, h86]; rfl)⟩
            · rw [if_neg (by simpa using h86)]
              have hfl := (fmt_len hv).1
              unfold j19x1
              dsimp only
              rw [catK_ok (by omega)]
              simp only [Option.bind_some]
              rw [wrap_ok (by omega) (by omega)]
              refine ⟨_, rfl, ⟨k + 1, by omega, by simp, ?_, ?_, ?_⟩, by dsimp only; omega⟩
              · rw [all_take hc, h1, okP1_spec, hv]; simp [h86]
              · dsimp only
                rw [h2, flat_take hc]; rfl
              · dsimp only
                rw [List.length_append]; omega
        · rw [if_neg (by simp; omega)]
          obtain rfl : k = g.f_Params.length := by omega
          rw [List.take_length] at h1 h2
          exact ⟨_, rfl, h1, h2, by omega⟩
      · show (g.f_Params.length : Int).toNat - (0 : Int).toNat < 18446744073709551616
        omega
    obtain ⟨r, e, hp⟩ := hloop
    rw [e]
    simp only [Option.bind_some]
    cases r with
    | inr y =>
      dsimp only at hp ⊢
      rw [hp.1, hp.2]; rfl
    | inl b =>
      dsimp only at hp ⊢
      obtain ⟨p1, p2, p3⟩ := hp
      rw [format_ref _ hr, p1]
      simp only [Option.bind_some]
      cases hv : validB g.f_Result with
      | false => rfl
      | true =>
        have hfl := (fmt_len hv).1
        simp only [if_true]
        rw [if_neg (by decide), catK_ok (by simp; omega)]
        simp only [Option.bind_some]
        rw [catK_ok (by simp; omega)]
        simp only [Option.bind_some, Bool.and_true, if_true]
        rw [p2]
        simp

/-! ### Element, ArrayOf, FormatClassConstant, Kind -/

def fccF (t : T_api_Type) : List UInt8 × Int := if validB t = true then (if t.f_Dim > 0 then (fmt t, 0) else if t.f_Base = 76 then (t.f_Name, 0) else ([], 1)) else ([], 13)
theorem fcc_desc (t : T_api_Type) (hl : (t.f_Name.length : Int) ≤ 140737488355328) : m_desc_FormatClassConstant t = some (fccF t) := by
  unfold m_desc_FormatClassConstant fccF
  rw [valid_desc t hl, format_desc t hl]
  simp only [Option.bind_some]
  cases hv : validB t with
  | false => rfl
  | true =>
    simp only [Bool.not_true, Bool.false_eq_true, if_false, if_true]
    by_cases hd : t.f_Dim > 0
    · rw [if_pos (decide_eq_true hd), if_pos hd]
    · rw [if_neg (by simpa using hd), if_neg hd]
      by_cases hb : t.f_Base = 76
      · rw [if_pos (by simpa using hb), if_pos hb]
      · rw [if_neg (by simpa using hb), if_neg hb]
theorem fcc_ref (t : T_api_Type) (hl : (t.f_Name.length : Int) ≤ 140737488355328) : m_armatureref04_FormatClassConstant t = some (fccF t) := by
  unfold m_armatureref04_FormatClassConstant fccF j31x1
  rw [valid_ref t hl, format_ref t hl]
  simp only [Option.bind_some]
  cases hv : validB t with
  | false => rfl
  | true =>
    have h0 := (valid_facts hv).1
    simp only [Bool.not_true, Bool.false_eq_true, if_false, if_true]
    by_cases hd : t.f_Dim = 0
    · rw [if_pos (by simpa using hd), if_neg (by omega : ¬ t.f_Dim > 0)]
      by_cases hb : t.f_Base = 76
      · rw [if_neg (by simpa using hb), if_pos hb, if_pos (by simpa using hd)]
      · rw [if_pos (by simpa using hb), if_neg hb]
    · rw [if_neg (by simpa using hd), if_neg (by simpa using hd), if_pos (by omega : t.f_Dim > 0)]

def elF (t : T_api_Type) : T_api_Type × Int := if validB t = true then (if t.f_Dim = 0 then (zeroT, 1) else ({ t with f_Dim := t.f_Dim - 1 }, 0)) else (zeroT, 13)
theorem el_desc (t : T_api_Type) (hl : (t.f_Name.length : Int) ≤ 140737488355328) : m_desc_Element t = some (elF t) := by
  unfold m_desc_Element elF
  rw [show ({ f_Dim := t.f_Dim, f_Base := t.f_Base, f_Name := t.f_Name } : T_api_Type) = t from rfl, valid_desc t hl]
  simp only [Option.bind_some]
  cases hv : validB t with
  | false => rfl
  | true =>
    obtain ⟨h0, h8, -⟩ := valid_facts hv
    simp only [Bool.not_true, Bool.false_eq_true, if_false, if_true]
    by_cases hd : t.f_Dim = 0
    · rw [if_pos (by simpa using hd), if_pos hd]; rfl
    · rw [if_neg (by simpa using hd), if_neg hd, wrap_ok (by omega) (by omega)]
theorem el_ref (t : T_api_Type) (hl : (t.f_Name.length : Int) ≤ 140737488355328) : m_armatureref04_Element t = some (elF t) := by
  unfold m_armatureref04_Element elF
  rw [show ({ f_Dim := t.f_Dim, f_Base := t.f_Base, f_Name := t.f_Name } : T_api_Type) = t from rfl, valid_ref t hl]
  simp only [Option.bind_some]
  cases hv : validB t with
  | false => rfl
  | true =>
    obtain ⟨h0, h8, -⟩ := valid_facts hv
    simp only [Bool.not_true, Bool.false_eq_true, if_false, if_true]
    by_cases hd : t.f_Dim = 0
    · rw [if_pos (by simpa using hd), if_pos hd]; rfl
    · rw [if_neg (by simpa using hd), if_neg hd, wrap_ok (by omega) (by omega)]

def arF (t : T_api_Type) : T_api_Type × Int := if validB t = true then (if t.f_Base = 86 then (zeroT, 1) else if t.f_Dim = 8 then (zeroT, 9) else ({ t with f_Dim := t.f_Dim + 1 }, 0)) else (zeroT, 13)
theorem ar_desc (t : T_api_Type) (hl : (t.f_Name.length : Int) ≤ 140737488355328) : m_desc_ArrayOf t = some (arF t) := by
  unfold m_desc_ArrayOf arF
  rw [show ({ f_Dim := t.f_Dim, f_Base := t.f_Base, f_Name := t.f_Name } : T_api_Type) = t from rfl, valid_desc t hl]
  simp only [Option.bind_some]
  cases hv : validB t with
  | false => rfl
  | true =>
    obtain ⟨h0, h8, -⟩ := valid_facts hv
    simp only [Bool.not_true, Bool.false_eq_true, if_false, if_true]
    by_cases hb : t.f_Base = 86
    · rw [if_pos (by simpa using hb), if_pos hb]; rfl
    · rw [if_neg (by simpa using hb), if_neg hb]
      by_cases hd : t.f_Dim = 8
      · rw [if_pos (by simpa using hd), if_pos hd]; rfl
      · rw [if_neg (by simpa using hd), if_neg hd, wrap_ok (by omega) (by omega)]
theorem ar_ref (t : T_api_Type) (hl : (t.f_Name.length : Int) ≤ 140737488355328) : m_armatureref04_ArrayOf t = some (arF t) := by
  unfold m_armatureref04_ArrayOf arF
  rw [show ({ f_Dim := t.f_Dim, f_Base := t.f_Base, f_Name := t.f_Name } : T_api_Type) = t from rfl, valid_ref t hl]
  simp only [Option.bind_some]
  cases hv : validB t with
  | false => rfl
  | true =>
    obtain ⟨h0, h8, -⟩ := valid_facts hv
    simp only [Bool.not_true, Bool.false_eq_true, if_false, if_true]
    by_cases hb : t.f_Base = 86
    · rw [if_pos (by simpa using hb), if_pos hb]; rfl
    · rw [if_neg (by simpa using hb), if_neg hb]
      by_cases hd : t.f_Dim = 8
      · rw [if_pos (by simpa using hd), if_pos hd]; rfl
      · rw [if_neg (by simpa using hd), if_neg hd, wrap_ok (by omega) (by omega)]

theorem kind_same (t : T_api_Type) (hl : (t.f_Name.length : Int) ≤ 140737488355328) : ∃ k, m_desc_Kind t = some k ∧ m_armatureref04_Kind t = some k := by
  unfold m_desc_Kind m_armatureref04_Kind j33x1 j33x2 j34x1 j34x2
  rw [valid_desc t hl, valid_ref t hl]
  simp only [Option.bind_some]
  cases hv : validB t with
  | false => exact ⟨_, rfl, rfl⟩
  | true =>
    simp only [Bool.not_true, Bool.false_eq_true, if_false]
    rcases (valid_facts hv).2.2.1 with ⟨hb, -⟩ | ⟨hb, -⟩ | ⟨hb, -⟩ | ⟨hb, -⟩ <;> rw [hb]
    all_goals
      by_cases hd : t.f_Dim > 0
      · rw [decide_eq_true hd]; exact ⟨_, rfl, rfl⟩
      · rw [decide_eq_false hd]; exact ⟨_, rfl, rfl⟩

end Go.Proofs
