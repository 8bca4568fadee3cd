/-
  The model of the law DescClassNames answers true. No condition.
-/
import Derived.Test.YtbkfbbghkbmkaaaDesL7
import Derived.Test.YtbkfbbghkbmkaaaDesLaw5
namespace Go.Proofs
open Go.Den

theorem contains_eq (l : List (List UInt8)) (x : List UInt8) (hl : l.length ≤ 1000000) : m_slices_Contains_string_string l x = some (l.contains x) := by
  have : ∃ r, m_slices_Index_string_string l x = some r ∧ (decide (r ≥ 0)) = l.contains x := by
    have hloop : ∃ r, loopM (l46x1 l x) rounds 0 = some r ∧ (match r with
        | .inl _ => l.contains x = false
        | .inr i => i ≥ 0 ∧ l.contains x = true) := by
      refine loopM_ind (fun p : Int => ∃ k : Nat, k ≤ l.length ∧ p = (k : Int) ∧ (l.take k).contains x = false) (fun p => l.length - p.toNat) _ ?_ rounds 0 ⟨0, by omega, rfl, by simp⟩ ?_
      · rintro p ⟨k, hk, rfl, hc⟩
        unfold l46x1
        by_cases hlt : k < l.length
        · have hg : l[k]? = some l[k] := List.getElem?_eq_getElem hlt
          generalize l[k] = y at hg
          rw [if_pos (decide_eq_true (by omega)), getR_of hg]
          simp only [Option.bind_some]
          by_cases hxy : x = y
          · rw [if_pos (by simpa using hxy)]
            refine ⟨_, rfl, by omega, ?_⟩
            rw [List.contains_iff_mem]
            exact hxy ▸ List.mem_of_getElem? hg
          · rw [if_neg (by simpa using hxy), wrap_ok (by omega) (by omega)]
            refine ⟨_, rfl, ⟨k + 1, by omega, by simp, ?_⟩, by omega⟩
            rw [List.take_add_one, hg, Option.toList_some]
            rw [Bool.eq_false_iff] at hc ⊢
            intro hm
            rw [Ne, List.contains_iff_mem] at hc
            rw [List.contains_iff_mem, List.mem_append] at hm
            rcases hm with hm | hm
            · exact hc hm
            · simp at hm; exact hxy hm
        · rw [if_neg (by simp; omega)]
          obtain rfl : k = l.length := by omega
          rw [List.take_length] at hc
          exact ⟨_, rfl, hc⟩
      · show l.length - (0 : Int).toNat < 18446744073709551616
        omega
    obtain ⟨r, h1, h2⟩ := hloop
    unfold m_slices_Index_string_string
    rw [h1]
    simp only [Option.bind_some]
    cases r with
    | inl u => exact ⟨_, rfl, by rw [h2]; rfl⟩
    | inr i => exact ⟨_, rfl, by rw [h2.2]; exact decide_eq_true h2.1⟩
  obtain ⟨r, h1, h2⟩ := this
  unfold m_slices_Contains_string_string
  rw [h1]
  simp only [Option.bind_some]
  rw [h2]

theorem had_loop (x0 : List T_api_Type) (i : Int) (out : List (List UInt8)) (t : T_api_Type) (hg : getR x0 i = some t) (hl : out.length ≤ 1000000) : loopM (l24x2 (i, out) x0) rounds (false, 0) = some (out.contains t.f_Name) := by
  have : ∃ r, loopM (l24x2 (i, out) x0) rounds (false, 0) = some r ∧ r = out.contains t.f_Name := by
    refine loopM_ind (fun p : Bool × Int => ∃ k : Nat, k ≤ out.length ∧ p.2 = (k : Int) ∧ p.1 = (out.take k).contains t.f_Name) (fun p => out.length - p.2.toNat) _ ?_ rounds (false, 0) ⟨0, by omega, rfl, by simp⟩ ?_
    · rintro ⟨b, p⟩ ⟨k, hk, hp, hb⟩
      dsimp only at hp hb
      subst hp hb
      unfold l24x2
      dsimp only
      by_cases hlt : k < out.length
      · have hy : out[k]? = some out[k] := List.getElem?_eq_getElem hlt
        generalize out[k] = y at hy
        have hnext : (out.take (k + 1)).contains t.f_Name = ((out.take k).contains t.f_Name || (y == t.f_Name)) := by
          rw [List.take_add_one, hy, Option.toList_some, Bool.eq_iff_iff, List.contains_iff_mem, List.mem_append, Bool.or_eq_true, List.contains_iff_mem, List.mem_singleton, beq_iff_eq]
          exact or_congr Iff.rfl ⟨Eq.symm, Eq.symm⟩
        rw [if_pos (decide_eq_true (by omega)), wrap_ok (by omega) (by omega)]
        cases hc : (out.take k).contains t.f_Name with
        | true =>
          rw [if_pos rfl]
          refine ⟨_, rfl, ⟨k + 1, by omega, by simp, ?_⟩, by dsimp only; omega⟩
          dsimp only
          rw [hnext, hc]; rfl
        | false =>
          rw [if_neg (by decide)]
          unfold idxK
          rw [if_pos ⟨by omega, by omega⟩]
          simp only [Option.bind_some, Int.toNat_natCast]
          rw [hy]
          simp only [Option.bind_some]
          rw [hg]
          refine ⟨_, rfl, ⟨k + 1, by omega, by simp, ?_⟩, by dsimp only; omega⟩
          dsimp only
          rw [hnext, hc]; rfl
      · rw [if_neg (by simp; omega)]
        obtain rfl : k = out.length := by omega
        rw [List.take_length]
        exact ⟨_, rfl, rfl⟩
    · show out.length - (0 : Int).toNat < 18446744073709551616
      omega
  obtain ⟨r, h1, h2⟩ := this
  rw [h1, h2]

theorem names_same (l : List T_api_Type) (hl : l.length ≤ 1000) : ∃ v, m_desc_ClassNames l = some v ∧ m_armatureref04_ClassNames l = some v ∧ v.length ≤ 1000 := by
  have : ∃ r r', loopM (l23x1 l) rounds (0, []) = some r ∧ loopM (l24x1 l) rounds (0, []) = some r' ∧ (r = r' ∧ r.length ≤ 1000) := by
    refine loopM_two (fun p p' : Int × List (List UInt8) => p = p' ∧ ∃ k : Nat, k ≤ l.length ∧ p.1 = (k : Int) ∧ p.2.length ≤ k) (fun p => l.length - p.1.toNat) (fun r r' : List (List UInt8) => r = r' ∧ r.length ≤ 1000) ?_ rounds (0, []) (0, []) ⟨rfl, 0, by omega, rfl, by simp⟩ ?_
    · rintro ⟨i, out⟩ p' ⟨rfl, k, hk, hi, ho⟩
      dsimp only at hi ho
      subst hi
      unfold l23x1 l24x1
      dsimp only
      by_cases hlt : k < l.length
      · have hg : l[k]? = some l[k] := List.getElem?_eq_getElem hlt
        generalize l[k] = t at hg
        rw [if_pos (decide_eq_true (by omega)), if_pos (decide_eq_true (by omega)), had_loop l _ out t (getR_of hg) (by omega)]
        simp only [Option.bind_some]
        rw [getR_of hg]
        simp only [Option.bind_some]
        rw [contains_eq out _ (by omega), wrap_ok (by omega) (by omega)]
        simp only [Option.bind_some]
        by_cases h76 : t.f_Base = 76
        · have h' : (t.f_Base == 76) = true := by simpa using h76
          simp only [h', if_true]
          cases hc : out.contains t.f_Name with
          | true =>
            exact ⟨_, _, rfl, rfl, ⟨rfl, k + 1, by omega, by simp, by dsimp only; omega⟩, by dsimp only; omega⟩
          | false =>
            simp only [Bool.not_false, if_true]
            unfold j23x1 j24x1
            dsimp only
            rw [getR_of hg]
            simp only [Option.bind_some]
            rw [growK_ok 16 (by simp; omega) (by omega), wrap_ok (by omega) (by omega)]
            exact ⟨_, _, rfl, rfl, ⟨rfl, k + 1, by omega, by simp, by dsimp only; simp; omega⟩, by dsimp only; omega⟩
        · have h' : (t.f_Base == 76) = false := by simpa using h76
          simp only [h', Bool.false_eq_true, if_false]
          exact ⟨_, _, rfl, rfl, ⟨rfl, k + 1, by omega, by simp, by dsimp only; omega⟩, by dsimp only; omega⟩
      · rw [if_neg (by simp; omega), if_neg (by simp; omega)]
        exact ⟨_, _, rfl, rfl, rfl, by omega⟩
    · show l.length - (0 : Int).toNat < 18446744073709551616
      omega
  obtain ⟨r, r', h1, h2, rfl, h3⟩ := this
  exact ⟨r, by unfold m_desc_ClassNames; rw [h1]; rfl, by unfold m_armatureref04_ClassNames; rw [h2]; rfl, h3⟩

theorem equal_refl (l : List (List UInt8)) (hl : l.length ≤ 1000000) : m_slices_Equal_string_string l l = some true := by
  unfold m_slices_Equal_string_string
  rw [if_neg (by simp)]
  have : ∃ r, loopM (l22x1 l l) rounds 0 = some r ∧ r = .inl () := by
    refine loopM_ind (fun p : Int => ∃ k : Nat, k ≤ l.length ∧ p = (k : Int)) (fun p => l.length - p.toNat) (fun r : Unit ⊕ Bool => r = .inl ()) ?_ rounds 0 ⟨0, by omega, rfl⟩ ?_
    · rintro p ⟨k, hk, rfl⟩
      unfold l22x1
      by_cases hlt : k < l.length
      · rw [if_pos (decide_eq_true (by omega)), getR_of (List.getElem?_eq_getElem hlt)]
        simp only [Option.bind_some]
        rw [if_neg (by simp), wrap_ok (by omega) (by omega)]
        exact ⟨_, rfl, ⟨k + 1, by omega, by simp⟩, by omega⟩
      · rw [if_neg (by simp; omega)]
        exact ⟨_, rfl, rfl⟩
    · show l.length - (0 : Int).toNat < 18446744073709551616
      omega
  obtain ⟨r, h1, h2⟩ := this
  rw [h1, h2]; rfl

theorem law_DescClassNames (l : List T_api_Type) : m_armaturelaw04_DescClassNames l = some true := by
  unfold m_armaturelaw04_DescClassNames
  rw [works4]
  by_cases h : (l.length : Int) > 60
  · rw [if_pos (decide_eq_true h)]; rfl
  · obtain ⟨v, h1, h2, h3⟩ := names_same l (by omega)
    rw [if_neg (by simpa using h), h1, h2]
    simp only [Option.bind_some]
    rw [equal_refl v (by omega)]
    rfl

end Go.Proofs
