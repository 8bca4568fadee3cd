/-
  What the models of name's functions come to: class names and member names.
-/
import Derived.Test.YtbblhamkmlfgfaaNamLaw2
namespace Go.Proofs
open Go.Den

def letterN (n : Nat) : Bool := (decide (97 ≤ n) && decide (n ≤ 122)) || (decide (65 ≤ n) && decide (n ≤ 90)) || n == 95 || n == 36
def digitN (n : Nat) : Bool := decide (48 ≤ n) && decide (n ≤ 57)
def letterB (c : UInt8) : Bool := letterN c.toNat
def digitB (c : UInt8) : Bool := digitN c.toNat

theorem class_all : ∀ n : Fin 256, m_name_class ((n.val : Nat) : Int) = some (if letterN n.val then 1 else if digitN n.val then 2 else 0) := by decide +kernel
theorem letter_all : ∀ n : Fin 256, m_armatureref03_letter ((n.val : Nat) : Int) = some (letterN n.val) := by decide +kernel
theorem class_eq (c : UInt8) : m_name_class (c.toNat : Int) = some (if letterB c then 1 else if digitB c then 2 else 0) := class_all ⟨c.toNat, c.toNat_lt⟩
theorem letter_eq (c : UInt8) : m_armatureref03_letter (c.toNat : Int) = some (letterB c) := letter_all ⟨c.toNat, c.toNat_lt⟩

theorem class47 : m_name_class 47 = some 0 := class_all 47

/-- A part, and a name of parts; the flag: at a part's beginning. -/
def okP : Bool → List UInt8 → Bool
  | b, [] => !b
  | b, c :: l => if letterB c then okP false l else if digitB c then !b && okP false l else false
def okC : Bool → List UInt8 → Bool
  | b, [] => !b
  | b, c :: l => if c = 47 then !b && okC true l else if letterB c then okC false l else if digitB c then !b && okC false l else false

theorem okC_part : ∀ (p r : List UInt8) (b : Bool), (47 : UInt8) ∉ p → okC b (p ++ 47 :: r) = (okP b p && okC true r)
  | [], r, b, _ => by simp [okC, okP]
  | c :: p, r, b, h => by
    have hc : c ≠ 47 := fun e => h (by simp [e])
    have hp : (47 : UInt8) ∉ p := fun e => h (by simp [e])
    simp only [List.cons_append, okC, okP, if_neg hc, okC_part p r _ hp]
    by_cases h1 : letterB c = true
    · simp [h1]
    · by_cases h2 : digitB c = true <;> simp [h1, h2, Bool.and_assoc]
theorem okC_last : ∀ (p : List UInt8) (b : Bool), (47 : UInt8) ∉ p → okC b p = okP b p
  | [], b, _ => rfl
  | c :: p, b, h => by
    have hc : c ≠ 47 := fun e => h (by simp [e])
    have hp : (47 : UInt8) ∉ p := fun e => h (by simp [e])
    simp only [okC, okP, if_neg hc, okC_last p _ hp]

theorem drop_get {α : Type} {s : List α} {i : Nat} {c : α} (h : s[i]? = some c) : s.drop i = c :: s.drop (i + 1) := by
  have hlt := (List.getElem?_eq_some_iff.1 h).1
  rw [List.drop_eq_getElem_cons hlt]
  congr 1
  exact (List.getElem?_eq_some_iff.1 h).2

theorem part_eq (s : List UInt8) (hl : (s.length : Int) ≤ 140737488355328) : m_armatureref03_part s = some (okP true s) := by
  obtain ⟨q, hq, hp⟩ := loopM_ind (f := l23x1 s) (fun t : Int => 0 ≤ t ∧ t ≤ s.length ∧ okP true s = okP (t == 0) (s.drop t.toNat)) (fun t => ((s.length : Int) - t).toNat)
    (fun q => match q with
      | .inl _ => okP true s = decide (s.length > 0)
      | .inr r => okP true s = r)
    (fun t ht => by
      obtain ⟨h0, h1, h2⟩ := ht
      unfold l23x1
      by_cases h : t < s.length
      · obtain ⟨c, hc, hg⟩ := getS_ok h0 h
        have e1 : IntKind.wrap .i64 (t + 1) = t + 1 := by rw [wrap64]; omega
        have hd : s.drop t.toNat = c :: s.drop (t + 1).toNat := by rw [drop_get hc]; congr 2; omega
        rw [hd] at h2
        have hz : (t + 1 == 0) = false := by simp; omega
        by_cases hL : letterB c = true
        · refine ⟨.next (t + 1), by simp [h, hg, letter_eq, hL, e1], ⟨by omega, by omega, ?_⟩, by omega⟩
          rw [h2, hz]; simp [okP, hL]
        · by_cases ht0 : t = 0
          · subst ht0
            refine ⟨.done (.inr false), by simp only [h, hg, letter_eq, hL, decide_true, if_true, Option.bind_some, Bool.not_false, beq_self_eq_true, Bool.false_eq_true, if_false], ?_⟩
            show okP true s = false
            rw [h2]; simp [okP, hL]
          · by_cases hD : digitB c = true
            · have hD' : 48 ≤ c.toNat ∧ c.toNat ≤ 57 := by simpa [digitB, digitN] using hD
              have a1 : ¬ ((c.toNat : Int) < 48) := by omega
              have a2 : ¬ ((c.toNat : Int) > 57) := by omega
              refine ⟨.next (t + 1), ?_, ⟨by omega, by omega, ?_⟩, by omega⟩
              · simp only [h, hg, letter_eq, hL, e1, ht0, a1, a2, decide_true, decide_false, if_true, Option.bind_some, Bool.not_false, beq_iff_eq, Bool.false_eq_true, if_false]
              · rw [h2, hz]; simp [okP, hL, hD, ht0]
            · refine ⟨.done (.inr false), ?_, ?_⟩
              · have hD' : ¬ (48 ≤ c.toNat ∧ c.toNat ≤ 57) := by simpa [digitB, digitN] using hD
                by_cases a1 : (c.toNat : Int) < 48
                · simp only [h, hg, letter_eq, hL, ht0, a1, decide_true, if_true, Option.bind_some, Bool.not_false, beq_iff_eq, Bool.false_eq_true, if_false]
                · have a2 : (c.toNat : Int) > 57 := by omega
                  simp only [h, hg, letter_eq, hL, ht0, a1, a2, decide_true, decide_false, if_true, Option.bind_some, Bool.not_false, beq_iff_eq, Bool.false_eq_true, if_false]
              · show okP true s = false
                rw [h2]; simp [okP, hL, hD]
      · refine ⟨.done (.inl ()), by simp [h], ?_⟩
        show okP true s = decide (s.length > 0)
        rw [h2, List.drop_eq_nil_of_le (by omega)]
        by_cases hs : s.length > 0
        · simp [okP, hs, show ¬ t = 0 by omega]
        · have : t = 0 := by omega
          simp [okP, hs, this])
    rounds 0 ⟨by omega, by omega, by simp⟩ (by unfold rounds; omega)
  unfold m_armatureref03_part
  cases q with
  | inl u => simp only [hq, Option.bind_some, hp]; congr 1; simp
  | inr r => simp only [hq, Option.bind_some, hp]

theorem class_main (s : List UInt8) (hl : (s.length : Int) ≤ 140737488355328) : j8x1 s = some (okC true s) := by
  obtain ⟨q, hq, hp⟩ := loopM_ind (f := l8x1 s) (fun t : Bool × Int => 0 ≤ t.2 ∧ t.2 ≤ s.length ∧ okC true s = okC t.1 (s.drop t.2.toNat)) (fun t => ((s.length : Int) - t.2).toNat)
    (fun q => match q with
      | .inl b => okC true s = !b
      | .inr r => okC true s = r)
    (fun t ht => by
      obtain ⟨b, t⟩ := t
      obtain ⟨h0, h1, h2⟩ := ht
      dsimp only at h0 h1 h2
      unfold l8x1
      by_cases h : t < s.length
      · obtain ⟨c, hc, hg⟩ := getS_ok h0 h
        have e1 : IntKind.wrap .i64 (t + 1) = t + 1 := by rw [wrap64]; omega
        have hd : s.drop t.toNat = c :: s.drop (t + 1).toNat := by rw [drop_get hc]; congr 2; omega
        rw [hd] at h2
        have h47 : ((c.toNat : Int) = 47) ↔ c = 47 := ⟨fun e => UInt8.toNat_inj.1 (by show c.toNat = 47; omega), fun e => by subst e; rfl⟩
        by_cases hs : c = 47
        · subst hs
          have hcl : letterB 47 = false ∧ digitB 47 = false := by decide
          cases b with
          | false =>
            refine ⟨.next (true, t + 1), by simp [h, hg, class47, j8x5, e1], ⟨by dsimp only; omega, by dsimp only; omega, ?_⟩, by dsimp only; omega⟩
            rw [h2]; simp [okC]
          | true =>
            refine ⟨.done (.inr false), by simp [h, hg, class47, j8x2], ?_⟩
            show okC true s = false
            rw [h2]; simp [okC]
        · have hn : ¬ ((c.toNat : Int) = 47) := fun e => hs (h47.1 e)
          by_cases hL : letterB c = true
          · refine ⟨.next (false, t + 1), by simp [h, hg, class_eq, hn, j8x2, j8x4, hL, e1], ⟨by dsimp only; omega, by dsimp only; omega, ?_⟩, by dsimp only; omega⟩
            rw [h2]; simp [okC, hs, hL]
          · by_cases hD : digitB c = true
            · cases b with
              | false =>
                refine ⟨.next (false, t + 1), by simp [h, hg, class_eq, hn, j8x2, j8x3, j8x4, hL, hD, e1], ⟨by dsimp only; omega, by dsimp only; omega, ?_⟩, by dsimp only; omega⟩
                rw [h2]; simp [okC, hs, hL, hD]
              | true =>
                refine ⟨.done (.inr false), by simp [h, hg, class_eq, hn, j8x2, j8x3, hL, hD], ?_⟩
                show okC true s = false
                rw [h2]; simp [okC, hs, hL, hD]
            · refine ⟨.done (.inr false), by simp [h, hg, class_eq, hn, j8x2, hL, hD], ?_⟩
              show okC true s = false
              rw [h2]; simp [okC, hs, hL, hD]
      · refine ⟨.done (.inl b), by simp [h], ?_⟩
        show okC true s = !b
        rw [h2, List.drop_eq_nil_of_le (by omega)]; rfl)
    rounds (true, 0) ⟨by dsimp only; omega, by dsimp only; omega, by simp⟩ (by unfold rounds; dsimp only; omega)
  unfold j8x1
  cases q with
  | inl u => simp only [hq, Option.bind_some]; exact congrArg some hp.symm
  | inr r => simp only [hq, Option.bind_some]; exact congrArg some hp.symm
theorem isClass (s : List UInt8) (hl : (s.length : Int) ≤ 140737488355328) : m_name_IsClassName s = some (decide (s.length ≤ 64) && okC true s) := by
  unfold m_name_IsClassName
  by_cases h : s = []
  · subst h; rfl
  · rw [if_neg (by simpa using h)]
    by_cases h64 : (s.length : Int) > 64
    · rw [if_pos (decide_eq_true h64)]
      have : decide (s.length ≤ 64) = false := decide_eq_false (by omega)
      rw [this]; rfl
    · rw [if_neg (by simpa using h64), class_main s hl]
      have : decide (s.length ≤ 64) = true := decide_eq_true (by omega)
      rw [this]; rfl
end Go.Proofs
