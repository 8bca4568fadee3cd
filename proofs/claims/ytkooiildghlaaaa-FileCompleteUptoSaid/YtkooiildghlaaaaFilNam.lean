/-
  Laws about models that another chapter has too, in this chapter's function numbers. Printed by ren.py. No condition.
-/
import Derived.Test.YtkooiildghlaaaaFil3
namespace Go.Proofs
open Go.Den
def Z0 : T_api_Const := { f_Tag := 0, f_S := [], f_N := 0, f_A := 0, f_B := 0 }
def atF (p : List T_api_Const) (i : Int) : T_api_Const × Int := if i < 1 then (Z0, 2) else match p[(i - 1).toNat]? with
  | some c => (c, 0)
  | none => (Z0, 2)
def getF (p : List T_api_Const) (i tag : Int) : T_api_Const × Int := if (atF p i).2 = 0 then (if (atF p i).1.f_Tag = tag then atF p i else (Z0, 11)) else (Z0, 2)
def utfF (p : List T_api_Const) (i : Int) : List UInt8 × Int := ((getF p i 1).1.f_S, (getF p i 1).2)
def thrF (p : List T_api_Const) (i tag : Int) : List UInt8 × Int := if (getF p i tag).2 = 0 then utfF p (getF p i tag).1.f_A else ([], (getF p i tag).2)
def natF (p : List T_api_Const) (i : Int) : List UInt8 × List UInt8 × Int :=
  if (getF p i 12).2 = 0 then
    (if (utfF p (getF p i 12).1.f_A).2 = 0 then
      (if (utfF p (getF p i 12).1.f_B).2 = 0 then ((utfF p (getF p i 12).1.f_A).1, (utfF p (getF p i 12).1.f_B).1, 0) else ([], [], (utfF p (getF p i 12).1.f_B).2))
    else ([], [], (utfF p (getF p i 12).1.f_A).2))
  else ([], [], (getF p i 12).2)

theorem wrapP {n : Int} (h0 : -9223372036854775808 ≤ n) (h1 : n < 9223372036854775808) : IntKind.wrap .i64 n = n := by
  have h : ∀ m : Int, IntKind.wrap .i64 m = (m + 9223372036854775808) % 18446744073709551616 - 9223372036854775808 := fun m => by
    unfold IntKind.wrap
    simp [IntKind.bits, IntKind.signed, Int.bmod]
    omega
  rw [h]; omega

theorem atF_err (p : List T_api_Const) (i : Int) : (atF p i).2 = 0 ∨ atF p i = (Z0, 2) := by
  unfold atF
  split
  · exact .inr rfl
  · split
    · exact .inl rfl
    · exact .inr rfl
theorem getF_err (p : List T_api_Const) (i tag : Int) : ((getF p i tag).2 = 0 ∧ getF p i tag = atF p i ∧ (atF p i).1.f_Tag = tag) ∨ getF p i tag = (Z0, 2) ∨ getF p i tag = (Z0, 11) := by
  unfold getF
  split
  · rename_i h
    split
    · rename_i h2; exact .inl ⟨h, rfl, h2⟩
    · exact .inr (.inr rfl)
  · exact .inr (.inl rfl)

theorem at_pool (p : List T_api_Const) (i : Int) (hl : p.length ≤ 1000000) : m_pool_At p i = some (atF p i) := by
  unfold m_pool_At atF
  by_cases h1 : i < 1
  · rw [if_pos (decide_eq_true h1), if_pos h1]; rfl
  · rw [if_neg (by simpa using h1), if_neg h1]
    by_cases h2 : i > (p.length : Int)
    · rw [if_pos (decide_eq_true h2), List.getElem?_eq_none (by omega)]; rfl
    · rw [if_neg (by simpa using h2), wrapP (by omega) (by omega)]
      have hlt : (i - 1).toNat < p.length := by omega
      simp only [Option.bind_some]
      unfold getR
      rw [if_pos (by omega), List.getElem?_eq_getElem hlt]; rfl
theorem at_ref (p : List T_api_Const) (i : Int) (hl : p.length ≤ 1000000) : m_armatureref05_At p i = some (atF p i) := at_pool p i hl

theorem tag_pool (p : List T_api_Const) (i tag : Int) (hl : p.length ≤ 1000000) : m_pool_tagged p i tag = some (getF p i tag) := by
  unfold m_pool_tagged getF
  rw [at_pool p i hl]
  simp only [Option.bind_some]
  rcases atF_err p i with h | h
  · rw [if_pos (by simpa using h), if_pos h]
    by_cases ht : (atF p i).1.f_Tag = tag
    · rw [if_neg (by simpa using ht), if_pos ht]
    · rw [if_pos (by simpa using ht), if_neg ht]; rfl
  · rw [h]; rfl
theorem get_ref (p : List T_api_Const) (i tag : Int) (hl : p.length ≤ 1000000) : m_armatureref05_get p i tag = some (getF p i tag) := by
  unfold m_armatureref05_get getF
  rw [at_ref p i hl]
  simp only [Option.bind_some]
  rcases atF_err p i with h | h
  · rw [if_neg (by simpa using h), if_pos h]
    by_cases ht : (atF p i).1.f_Tag = tag
    · rw [if_neg (by simpa using ht), if_pos ht]
      rw [← h]
    · rw [if_pos (by simpa using ht), if_neg ht]; rfl
  · rw [h]; rfl

theorem utf_pool (p : List T_api_Const) (i : Int) (hl : p.length ≤ 1000000) : m_pool_UTF8 p i = some (utfF p i) := by
  unfold m_pool_UTF8 utfF
  rw [tag_pool p i 1 hl]
  simp only [Option.bind_some]
  rcases getF_err p i 1 with ⟨h, -⟩ | h | h
  · rw [if_neg (by simpa using h), h]
  · rw [h]; rfl
  · rw [h]; rfl
theorem utf_ref (p : List T_api_Const) (i : Int) (hl : p.length ≤ 1000000) : m_armatureref05_UTF8 p i = some (utfF p i) := by
  unfold m_armatureref05_UTF8 utfF
  rw [get_ref p i 1 hl]; rfl

theorem nat_pool (p : List T_api_Const) (i : Int) (hl : p.length ≤ 1000000) : m_pool_NameAndType p i = some (natF p i) := by
  unfold m_pool_NameAndType natF
  rw [tag_pool p i 12 hl]
  simp only [Option.bind_some]
  by_cases h : (getF p i 12).2 = 0
  · rw [if_neg (by simpa using h), if_pos h, utf_pool p _ hl]
    simp only [Option.bind_some]
    by_cases h2 : (utfF p (getF p i 12).1.f_A).2 = 0
    · rw [if_neg (by simpa using h2), if_pos h2, utf_pool p _ hl]
      simp only [Option.bind_some]
      by_cases h3 : (utfF p (getF p i 12).1.f_B).2 = 0
      · rw [if_neg (by simpa using h3), if_pos h3]
      · rw [if_pos (by simpa using h3), if_neg h3]
    · rw [if_pos (by simpa using h2), if_neg h2]
  · rw [if_pos (by simpa using h), if_neg h]
theorem nat_ref (p : List T_api_Const) (i : Int) (hl : p.length ≤ 1000000) : m_armatureref05_NameAndType p i = some (natF p i) := by
  unfold m_armatureref05_NameAndType natF
  rw [get_ref p i 12 hl]
  simp only [Option.bind_some]
  by_cases h : (getF p i 12).2 = 0
  · rw [if_neg (by simpa using h), if_pos h, utf_ref p _ hl]
    simp only [Option.bind_some]
    by_cases h2 : (utfF p (getF p i 12).1.f_A).2 = 0
    · rw [if_neg (by simpa using h2), if_pos h2, utf_ref p _ hl]
      simp only [Option.bind_some]
      by_cases h3 : (utfF p (getF p i 12).1.f_B).2 = 0
      · rw [if_neg (by simpa using h3), if_pos h3]
      · rw [if_pos (by simpa using h3), if_neg h3]
    · rw [if_pos (by simpa using h2), if_neg h2]
  · rw [if_pos (by simpa using h), if_neg h]

def memB (tag : Int) : Bool := tag == 9 || tag == 10 || tag == 11
theorem mem_ref (tag : Int) : m_armatureref05_member tag = some (memB tag) := by
  unfold m_armatureref05_member memB
  cases h1 : tag == 9 <;> cases h2 : tag == 10 <;> simp

theorem eqC_refl (c : T_api_Const) : eqb_T_api_Const c c = true := by simp [eqb_T_api_Const]
theorem wrap64 (n : Int) : IntKind.wrap .i64 n = (n + 9223372036854775808) % 18446744073709551616 - 9223372036854775808 := by
  show (if (true && decide (n % 18446744073709551616 ≥ 9223372036854775808)) = true then n % 18446744073709551616 - 18446744073709551616 else n % 18446744073709551616) = _
  rw [Bool.true_and]
  by_cases h : n % 18446744073709551616 ≥ 9223372036854775808
  · rw [if_pos (decide_eq_true h)]; omega
  · rw [if_neg (by simpa using h)]; omega

theorem wf_u8 {n : Int} (h : (Lit.int .u8 n).wf = true) : 0 ≤ n ∧ n ≤ 255 := by
  have h' : IntKind.min .u8 ≤ n ∧ n ≤ IntKind.max .u8 := by simpa [Lit.wf] using h
  exact h'

theorem sub_take {α : Type} (l : List α) (n : Nat) (h : n ≤ l.length) : sub l 0 (n : Int) = some (l.take n) := by
  unfold sub
  rw [if_pos ⟨by omega, by omega, by omega⟩]; simp

theorem prefix_take : ∀ (a b : List UInt8), b.length ≤ a.length → (a.take b.length == b) = b.isPrefixOf a
  | a, [], _ => by simp
  | [], c :: b, h => by simp at h
  | x :: a, c :: b, h => by
    have := prefix_take a b (by simpa using h)
    simp only [List.length_cons, List.take_succ_cons, List.isPrefixOf_cons_cons, ← this]
    rw [Bool.eq_iff_iff]; simp
    exact fun _ => ⟨fun h => h.symm, fun h => h.symm⟩

theorem prefix_short : ∀ (a b : List UInt8), ¬ b.length ≤ a.length → b.isPrefixOf a = false
  | a, [], h => by simp at h
  | [], c :: b, _ => rfl
  | x :: a, c :: b, h => by
    simp only [List.isPrefixOf_cons_cons, prefix_short a b (by simpa using h), Bool.and_false]

def hasP (a b : List UInt8) : Bool := b.isPrefixOf a

theorem hasP_lite (a b : List UInt8) : m_internal_stringslite_HasPrefix a b = some (hasP a b) := by
  unfold m_internal_stringslite_HasPrefix hasP
  by_cases h : b.length ≤ a.length
  · rw [if_pos (decide_eq_true (by omega)), sub_take a b.length h, Option.bind_some, prefix_take a b h]
  · rw [if_neg (by simp; omega), prefix_short a b h]

theorem catK_ok {a b : List UInt8} (h : a.length + b.length ≤ 9223372036854775807) : catK a b = some (a ++ b) := by
  unfold catK; rw [if_pos h]

theorem hasP_append (a b : List UInt8) : hasP (a ++ b) a = true := by
  unfold hasP; rw [List.isPrefixOf_iff_prefix]; exact List.prefix_append a b

theorem getS_u8 {s : List UInt8} {i v : Int} (h : getS s i = some v) : ∃ c : UInt8, s[i.toNat]? = some c ∧ v = (c.toNat : Int) ∧ 0 ≤ i ∧ i < s.length := by
  unfold getS at h
  split at h
  · rename_i h0
    cases hc : s[i.toNat]? with
    | none => rw [hc] at h; cases h
    | some c =>
      rw [hc] at h
      simp at h
      have : i.toNat < s.length := (List.getElem?_eq_some_iff.1 hc).1
      exact ⟨c, rfl, h.symm, h0, by omega⟩
  · cases h

theorem getS_ok {s : List UInt8} {i : Int} (h0 : 0 ≤ i) (h1 : i < s.length) : ∃ c : UInt8, s[i.toNat]? = some c ∧ getS s i = some (c.toNat : Int) := by
  have hlt : i.toNat < s.length := by omega
  refine ⟨s[i.toNat], List.getElem?_eq_getElem hlt, ?_⟩
  unfold getS; rw [if_pos h0, List.getElem?_eq_getElem hlt]; rfl

def letterN (n : Nat) : Bool := (decide (97 ≤ n) && decide (n ≤ 122)) || (decide (65 ≤ n) && decide (n ≤ 90)) || n == 95 || n == 36

def digitN (n : Nat) : Bool := decide (48 ≤ n) && decide (n ≤ 57)

def letterB (c : UInt8) : Bool := letterN c.toNat

def digitB (c : UInt8) : Bool := digitN c.toNat

theorem class_all : ∀ n : Fin 256, m_name_class ((n.val : Nat) : Int) = some (if letterN n.val then 1 else if digitN n.val then 2 else 0) := by decide +kernel

theorem letter_all : ∀ n : Fin 256, m_armatureref03_letter ((n.val : Nat) : Int) = some (letterN n.val) := by decide +kernel

theorem class_eq (c : UInt8) : m_name_class (c.toNat : Int) = some (if letterB c then 1 else if digitB c then 2 else 0) := class_all ⟨c.toNat, c.toNat_lt⟩

theorem letter_eq (c : UInt8) : m_armatureref03_letter (c.toNat : Int) = some (letterB c) := letter_all ⟨c.toNat, c.toNat_lt⟩

theorem class47 : m_name_class 47 = some 0 := class_all 47

def okP : Bool → List UInt8 → Bool
  | b, [] => !b
  | b, c :: l => if letterB c then okP false l else if digitB c then !b && okP false l else false

def okC : Bool → List UInt8 → Bool
  | b, [] => !b
  | b, c :: l => if c = 47 then !b && okC true l else if letterB c then okC false l else if digitB c then !b && okC false l else false

theorem okC_part : ∀ (p r : List UInt8) (b : Bool), (47 : UInt8) ∉ p → okC b (p ++ 47 :: r) = (okP b p && okC true r)
  | [], r, b, _ => by simp [okC, okP]
  | c :: p, r, b, h => by
    have hc : c ≠ 47 := fun e => h (by simp [e])
    have hp : (47 : UInt8) ∉ p := fun e => h (by simp [e])
    simp only [List.cons_append, okC, okP, if_neg hc, okC_part p r _ hp]
    by_cases h1 : letterB c = true
    · simp [h1]
    · by_cases h2 : digitB c = true <;> simp [h1, h2, Bool.and_assoc]

theorem okC_last : ∀ (p : List UInt8) (b : Bool), (47 : UInt8) ∉ p → okC b p = okP b p
  | [], b, _ => rfl
  | c :: p, b, h => by
    have hc : c ≠ 47 := fun e => h (by simp [e])
    have hp : (47 : UInt8) ∉ p := fun e => h (by simp [e])
    simp only [okC, okP, if_neg hc, okC_last p _ hp]

theorem drop_get {α : Type} {s : List α} {i : Nat} {c : α} (h : s[i]? = some c) : s.drop i = c :: s.drop (i + 1) := by
  have hlt := (List.getElem?_eq_some_iff.1 h).1
  rw [List.drop_eq_getElem_cons hlt]
  congr 1
  exact (List.getElem?_eq_some_iff.1 h).2

theorem part_eq (s : List UInt8) (hl : (s.length : Int) ≤ 140737488355328) : m_armatureref03_part s = some (okP true s) := by
  obtain ⟨q, hq, hp⟩ := loopM_ind (f := l106x1 s) (fun t : Int => 0 ≤ t ∧ t ≤ s.length ∧ okP true s = okP (t == 0) (s.drop t.toNat)) (fun t => ((s.length : Int) - t).toNat)
    (fun q => match q with
      | .inl _ => okP true s = decide (s.length > 0)
      | .inr r => okP true s = r)
    (fun t ht => by
      obtain ⟨h0, h1, h2⟩ := ht
      unfold l106x1
      by_cases h : t < s.length
      · obtain ⟨c, hc, hg⟩ := getS_ok h0 h
        have e1 : IntKind.wrap .i64 (t + 1) = t + 1 := by rw [wrap64]; omega
        have hd : s.drop t.toNat = c :: s.drop (t + 1).toNat := by rw [drop_get hc]; congr 2; omega
        rw [hd] at h2
        have hz : (t + 1 == 0) = false := by simp; omega
        by_cases hL : letterB c = true
        · refine ⟨.next (t + 1), by simp [h, hg, letter_eq, hL, e1], ⟨by omega, by omega, ?_⟩, by omega⟩
          rw [h2, hz]; simp [okP, hL]
        · by_cases ht0 : t = 0
          · subst ht0
            refine ⟨.done (.inr false), by simp only [h, hg, letter_eq, hL, decide_true, if_true, Option.bind_some, Bool.not_false, beq_self_eq_true, Bool.false_eq_true, if_false], ?_⟩
            show okP true s = false
            rw [h2]; simp [okP, hL]
          · by_cases hD : digitB c = true
            · have hD' : 48 ≤ c.toNat ∧ c.toNat ≤ 57 := by simpa [digitB, digitN] using hD
              have a1 : ¬ ((c.toNat : Int) < 48) := by omega
              have a2 : ¬ ((c.toNat : Int) > 57) := by omega
              refine ⟨.next (t + 1), ?_, ⟨by omega, by omega, ?_⟩, by omega⟩
              · simp only [h, hg, letter_eq, hL, e1, ht0, a1, a2, decide_true, decide_false, if_true, Option.bind_some, Bool.not_false, beq_iff_eq, Bool.false_eq_true, if_false]
              · rw [h2, hz]; simp [okP, hL, hD, ht0]
            · refine ⟨.done (.inr false), ?_, ?_⟩
              · have hD' : ¬ (48 ≤ c.toNat ∧ c.toNat ≤ 57) := by simpa [digitB, digitN] using hD
                by_cases a1 : (c.toNat : Int) < 48
                · simp only [h, hg, letter_eq, hL, ht0, a1, decide_true, if_true, Option.bind_some, Bool.not_false, beq_iff_eq, Bool.false_eq_true, if_false]
                · have a2 : (c.toNat : Int) > 57 := by omega
                  simp only [h, hg, letter_eq, hL, ht0, a1, a2, decide_true, decide_false, if_true, Option.bind_some, Bool.not_false, beq_iff_eq, Bool.false_eq_true, if_false]
              · show okP true s = false
                rw [h2]; simp [okP, hL, hD]
      · refine ⟨.done (.inl ()), by simp [h], ?_⟩
        show okP true s = decide (s.length > 0)
        rw [h2, List.drop_eq_nil_of_le (by omega)]
        by_cases hs : s.length > 0
        · simp [okP, hs, show ¬ t = 0 by omega]
        · have : t = 0 := by omega
          simp [okP, hs, this])
    rounds 0 ⟨by omega, by omega, by simp⟩ (by unfold rounds; omega)
  unfold m_armatureref03_part
  cases q with
  | inl u => simp only [hq, Option.bind_some, hp]; congr 1; simp
  | inr r => simp only [hq, Option.bind_some, hp]

theorem class_main (s : List UInt8) (hl : (s.length : Int) ≤ 140737488355328) : j99x1 s = some (okC true s) := by
  obtain ⟨q, hq, hp⟩ := loopM_ind (f := l99x1 s) (fun t : Bool × Int => 0 ≤ t.2 ∧ t.2 ≤ s.length ∧ okC true s = okC t.1 (s.drop t.2.toNat)) (fun t => ((s.length : Int) - t.2).toNat)
    (fun q => match q with
      | .inl b => okC true s = !b
      | .inr r => okC true s = r)
    (fun t ht => by
      obtain ⟨b, t⟩ := t
      obtain ⟨h0, h1, h2⟩ := ht
      dsimp only at h0 h1 h2
      unfold l99x1
      by_cases h : t < s.length
      · obtain ⟨c, hc, hg⟩ := getS_ok h0 h
        have e1 : IntKind.wrap .i64 (t + 1) = t + 1 := by rw [wrap64]; omega
        have hd : s.drop t.toNat = c :: s.drop (t + 1).toNat := by rw [drop_get hc]; congr 2; omega
        rw [hd] at h2
        have h47 : ((c.toNat : Int) = 47) ↔ c = 47 := ⟨fun e => UInt8.toNat_inj.1 (by show c.toNat = 47; omega), fun e => by subst e; rfl⟩
        by_cases hs : c = 47
        · subst hs
          have hcl : letterB 47 = false ∧ digitB 47 = false := by decide
          cases b with
          | false =>
            refine ⟨.next (true, t + 1), by simp [h, hg, class47, j99x5, e1], ⟨by dsimp only; omega, by dsimp only; omega, ?_⟩, by dsimp only; omega⟩
            rw [h2]; simp [okC]
          | true =>
            refine ⟨.done (.inr false), by simp [h, hg, class47, j99x2], ?_⟩
            show okC true s = false
            rw [h2]; simp [okC]
        · have hn : ¬ ((c.toNat : Int) = 47) := fun e => hs (h47.1 e)
          by_cases hL : letterB c = true
          · refine ⟨.next (false, t + 1), by simp [h, hg, class_eq, hn, j99x2, j99x4, hL, e1], ⟨by dsimp only; omega, by dsimp only; omega, ?_⟩, by dsimp only; omega⟩
            rw [h2]; simp [okC, hs, hL]
          · by_cases hD : digitB c = true
            · cases b with
              | false =>
                refine ⟨.next (false, t + 1), by simp [h, hg, class_eq, hn, j99x2, j99x3, j99x4, hL, hD, e1], ⟨by dsimp only; omega, by dsimp only; omega, ?_⟩, by dsimp only; omega⟩
                rw [h2]; simp [okC, hs, hL, hD]
              | true =>
                refine ⟨.done (.inr false), by simp [h, hg, class_eq, hn, j99x2, j99x3, hL, hD], ?_⟩
                show okC true s = false
                rw [h2]; simp [okC, hs, hL, hD]
            · refine ⟨.done (.inr false), by simp [h, hg, class_eq, hn, j99x2, hL, hD], ?_⟩
              show okC true s = false
              rw [h2]; simp [okC, hs, hL, hD]
      · refine ⟨.done (.inl b), by simp [h], ?_⟩
        show okC true s = !b
        rw [h2, List.drop_eq_nil_of_le (by omega)]; rfl)
    rounds (true, 0) ⟨by dsimp only; omega, by dsimp only; omega, by simp⟩ (by unfold rounds; dsimp only; omega)
  unfold j99x1
  cases q with
  | inl u => simp only [hq, Option.bind_some]; exact congrArg some hp.symm
  | inr r => simp only [hq, Option.bind_some]; exact congrArg some hp.symm

theorem isClass (s : List UInt8) (hl : (s.length : Int) ≤ 140737488355328) : m_name_IsClassName s = some (decide (s.length ≤ 64) && okC true s) := by
  unfold m_name_IsClassName
  by_cases h : s = []
  · subst h; rfl
  · rw [if_neg (by simpa using h)]
    by_cases h64 : (s.length : Int) > 64
    · rw [if_pos (decide_eq_true h64)]
      have : decide (s.length ≤ 64) = false := decide_eq_false (by omega)
      rw [this]; rfl
    · rw [if_neg (by simpa using h64), class_main s hl]
      have : decide (s.length ≤ 64) = true := decide_eq_true (by omega)
      rw [this]; rfl

theorem ref_class (s : List UInt8) (hl : (s.length : Int) ≤ 140737488355328) : m_armatureref03_IsClassName s = some (decide (s.length ≤ 64) && okC true s) := by
  unfold m_armatureref03_IsClassName
  by_cases h64 : (s.length : Int) > 64
  · rw [if_pos (decide_eq_true h64)]
    have : decide (s.length ≤ 64) = false := decide_eq_false (by omega)
    rw [this]; rfl
  rw [if_neg (by simpa using h64)]
  have h64' : decide (s.length ≤ 64) = true := decide_eq_true (by omega)
  rw [h64', Bool.true_and]
  obtain ⟨q, hq, hp⟩ := loopM_ind (f := l104x1 s) (fun t : Int × Int => 0 ≤ t.1 ∧ t.1 ≤ t.2 ∧ t.2 ≤ s.length ∧ (∀ j : Nat, t.1 ≤ j → (j : Int) < t.2 → s[j]? ≠ some 47) ∧ okC true s = okC true (s.drop t.1.toNat)) (fun t => ((s.length : Int) - t.2).toNat)
    (fun q => match q with
      | .inl a => 0 ≤ a ∧ a ≤ (s.length : Int) ∧ (∀ j : Nat, a ≤ j → s[j]? ≠ some 47) ∧ okC true s = okC true (s.drop a.toNat)
      | .inr r => okC true s = r)
    (fun t ht => by
      obtain ⟨a, i⟩ := t
      obtain ⟨h0, h1, h2, h3, h4⟩ := ht
      dsimp only at h0 h1 h2 h3 h4
      unfold l104x1
      by_cases h : i < s.length
      · obtain ⟨c, hc, hg⟩ := getS_ok (by omega) h
        have e1 : IntKind.wrap .i64 (i + 1) = i + 1 := by rw [wrap64]; omega
        by_cases hs : c = 47
        · subst hs
          have hsub : sub s a i = some ((s.drop a.toNat).take (i.toNat - a.toNat)) := by
            unfold sub; rw [if_pos (by omega)]
          obtain ⟨p, hpd⟩ : ∃ p, p = (s.drop a.toNat).take (i.toNat - a.toNat) := ⟨_, rfl⟩
          have hpl : (p.length : Int) ≤ 140737488355328 := by rw [hpd]; simp; omega
          have hsplit : s.drop a.toNat = p ++ 47 :: s.drop (i + 1).toNat := by
            have e2 : (s.drop a.toNat).drop (i.toNat - a.toNat) = 47 :: s.drop (i + 1).toNat := by
              rw [List.drop_drop, show a.toNat + (i.toNat - a.toNat) = i.toNat by omega, drop_get hc]
              congr 2; omega
            rw [← e2, hpd, List.take_append_drop]
          have hno : (47 : UInt8) ∉ p := fun hm => by
            obtain ⟨k, hk⟩ := List.getElem?_of_mem hm
            rw [hpd, List.getElem?_take] at hk
            split at hk
            · rw [List.getElem?_drop] at hk
              exact h3 (a.toNat + k) (by omega) (by omega) hk
            · cases hk
          have hpart := okC_part p (s.drop (i + 1).toNat) true hno
          rw [hsplit, hpart] at h4
          cases hok : okP true p with
          | false =>
            refine ⟨.done (.inr false), ?_, ?_⟩
            · simp [h, hg, hsub, ← hpd, part_eq p hpl, hok]
            · show okC true s = false
              rw [h4, hok]; rfl
          | true =>
            refine ⟨.next (i + 1, i + 1), ?_, ⟨by dsimp only; omega, by dsimp only; omega, by dsimp only; omega, fun j hj hj2 => ?_, ?_⟩, by dsimp only; omega⟩
            · simp [h, hg, hsub, ← hpd, part_eq p hpl, hok, e1]
            · dsimp only at hj hj2; omega
            · dsimp only; rw [h4, hok, Bool.true_and]
        · have hn : ¬ ((c.toNat : Int) = 47) := fun e => hs (UInt8.toNat_inj.1 (by show c.toNat = 47; omega))
          refine ⟨.next (a, i + 1), by simp [h, hg, hn, e1], ⟨by dsimp only; omega, by dsimp only; omega, by dsimp only; omega, fun j hj hj2 => ?_, h4⟩, by dsimp only; omega⟩
          dsimp only at hj hj2
          by_cases hji : (j : Int) = i
          · rw [show j = i.toNat by omega, hc]; simpa using hs
          · exact h3 j hj (by omega)
      · refine ⟨.done (.inl a), by simp [h], h0, by omega, fun j hj => ?_, h4⟩
        by_cases hji : (j : Int) < i
        · exact h3 j hj hji
        · rw [List.getElem?_eq_none (by omega)]; simp)
    rounds (0, 0) ⟨by dsimp only; omega, by dsimp only; omega, by dsimp only; omega, fun j hj hj2 => by dsimp only at hj hj2; omega, by simp⟩ (by unfold rounds; dsimp only; omega)
  cases q with
  | inl a =>
    obtain ⟨k0, k1, k2, k3⟩ := hp
    have hsub : sub s a (s.length : Int) = some (s.drop a.toNat) := by
      unfold sub; rw [if_pos (by omega)]
      congr 1
      rw [List.take_of_length_le (by simp)]
    have hno : (47 : UInt8) ∉ s.drop a.toNat := fun hm => by
      obtain ⟨k, hk⟩ := List.getElem?_of_mem hm
      rw [List.getElem?_drop] at hk
      exact k2 (a.toNat + k) (by omega) hk
    have hpl : ((s.drop a.toNat).length : Int) ≤ 140737488355328 := by simp; omega
    simp only [hq, Option.bind_some, hsub, part_eq _ hpl]
    rw [k3, okC_last _ true hno]
  | inr r => simp only [hq, Option.bind_some]; exact congrArg some hp.symm

theorem indexByte_none : ∀ (l : List UInt8) (c : UInt8), (Lib.indexByte l c < 0) ↔ c ∉ l
  | [], c => by simp [Lib.indexByte]
  | b :: l, c => by
    have ih := indexByte_none l c
    have hge := Lib.indexByte_ge l c
    unfold Lib.indexByte
    by_cases hb : b = c
    · subst hb; simp
    · have hb' : (b == c) = false := by simpa using hb
      have hne : ¬ c = b := fun e => hb e.symm
      rw [hb']
      simp only [Bool.false_eq_true, if_false, List.mem_cons, hne, false_or]
      rw [← ih]
      by_cases h1 : Lib.indexByte l c = -1
      · rw [h1]; simp
      · rw [if_neg (by simpa using h1)]; omega

theorem okP_slash : ∀ (l : List UInt8) (b : Bool), (47 : UInt8) ∈ l → okP b l = false
  | c :: l, b, h => by
    unfold okP
    by_cases hc : c = 47
    · subst hc; rw [if_neg (by decide), if_neg (by decide)]
    · have hm : (47 : UInt8) ∈ l := by
        rcases List.mem_cons.1 h with h | h
        · exact absurd h.symm hc
        · exact h
      rw [okP_slash l false hm]
      simp

theorem okC_split : ∀ (p l : List UInt8) (b : Bool), okC b (p ++ 47 :: l) = (okC b p && okC true l)
  | [], l, b => by simp [okC]
  | c :: p, l, b => by
    simp only [List.cons_append, okC, okC_split p l]
    by_cases hc : c = 47
    · simp [hc, Bool.and_assoc]
    · by_cases h1 : letterB c = true
      · simp [hc, h1]
      · by_cases h2 : digitB c = true <;> simp [hc, h1, h2, Bool.and_assoc]

theorem okC_bad : ∀ (p r : List UInt8) (c : UInt8) (b : Bool), c ≠ 47 → letterB c = false → digitB c = false → okC b (p ++ c :: r) = false
  | [], r, c, b, h1, h2, h3 => by simp [okC, h1, h2, h3]
  | x :: p, r, c, b, h1, h2, h3 => by
    simp only [List.cons_append, okC, okC_bad p r c _ h1 h2 h3]
    simp

theorem bad_facts (c : UInt8) (h : ¬ (c.toNat = 47 ∨ c.toNat = 95 ∨ c.toNat = 36 ∨ (48 ≤ c.toNat ∧ c.toNat ≤ 57) ∨ (97 ≤ c.toNat ∧ c.toNat ≤ 122) ∨ (65 ≤ c.toNat ∧ c.toNat ≤ 90))) : c ≠ 47 ∧ letterB c = false ∧ digitB c = false := by
  refine ⟨fun e => h (.inl (by rw [e]; rfl)), ?_, ?_⟩
  · simp only [letterB, letterN, Bool.or_eq_false_iff, Bool.and_eq_false_iff, decide_eq_false_iff_not, beq_eq_false_iff_ne]
    omega
  · simp only [digitB, digitN, Bool.and_eq_false_iff, decide_eq_false_iff_not]
    omega

theorem member_same (s : List UInt8) (hl : (s.length : Int) ≤ 140737488355328) : ∃ b, m_name_IsMemberName s = some b ∧ m_armatureref03_IsMemberName s = some b := by
  unfold m_name_IsMemberName m_armatureref03_IsMemberName
  by_cases h1 : s = [60, 105, 110, 105, 116, 62]
  · exact ⟨true, by rw [if_pos (by simpa using h1)], by rw [if_pos (by simpa using h1)]⟩
  rw [if_neg (c := (s == [60, 105, 110, 105, 116, 62]) = true) (by simpa using h1)]
  by_cases h2 : s = [60, 99, 108, 105, 110, 105, 116, 62]
  · exact ⟨true, by rw [if_pos (by simpa using h2)], by rw [if_neg (by simpa using h1), if_pos (by simpa using h2)]⟩
  rw [if_neg (c := (s == [60, 99, 108, 105, 110, 105, 116, 62]) = true) (by simpa using h2)]
  have hidx : m_strings_IndexByte s 47 = some (Lib.indexByte s 47) := rfl
  have hpart := part_eq s hl
  unfold j87x1
  rw [isClass s hl, Option.bind_some, hidx]
  by_cases h64 : s.length ≤ 64
  · have h64' : ((s.length : Int) ≤ 64) := by omega
    by_cases hm : (47 : UInt8) ∈ s
    · have hneg : ¬ Lib.indexByte s 47 < 0 := fun h => (indexByte_none s 47).1 h hm
      refine ⟨false, ?_, ?_⟩
      · by_cases hok : (decide (s.length ≤ 64) && okC true s) = true
        · rw [if_pos hok, Option.bind_some]; exact congrArg some (decide_eq_false hneg)
        · rw [if_neg hok]
      · simp [h1, h2, h64', hpart, okP_slash s true hm]
    · have hneg : Lib.indexByte s 47 < 0 := (indexByte_none s 47).2 hm
      refine ⟨okP true s, ?_, by simp [h1, h2, h64', hpart]⟩
      rw [okC_last s true hm, decide_eq_true h64, Bool.true_and]
      cases okP true s with
      | true => rw [if_pos rfl, Option.bind_some]; exact congrArg some (decide_eq_true hneg)
      | false => rfl
  · have h64' : ¬ ((s.length : Int) ≤ 64) := by omega
    refine ⟨false, ?_, by simp [h1, h2, h64']⟩
    rw [decide_eq_false h64]; rfl

def clsB (s : List UInt8) : Bool := decide (s.length ≤ 64) && okC true s

def validB (t : T_api_Type) : Bool :=
  decide (0 ≤ t.f_Dim) && decide (t.f_Dim ≤ 8) &&
  ((t.f_Base == 73 || t.f_Base == 74) && (t.f_Name == []) || t.f_Base == 86 && (t.f_Name == []) && t.f_Dim == 0 || t.f_Base == 76 && clsB t.f_Name)

theorem valid_desc (t : T_api_Type) (hl : (t.f_Name.length : Int) ≤ 140737488355328) : m_desc_Valid t = some (validB t) := by
  unfold m_desc_Valid j110x1 j110x2 j110x3 validB clsB
  rw [isClass _ hl]
  by_cases h1 : t.f_Dim < 0
  · simp [h1, show ¬ 0 ≤ t.f_Dim by omega]
  · by_cases h2 : t.f_Dim > 8
    · simp [h1, h2, show ¬ t.f_Dim ≤ 8 by omega]
    · by_cases b1 : t.f_Base = 73
      · simp [h1, b1, show ¬ 8 < t.f_Dim by omega, show 0 ≤ t.f_Dim by omega, show t.f_Dim ≤ 8 by omega]
      · by_cases b2 : t.f_Base = 74
        · simp [h1, b2, show ¬ 8 < t.f_Dim by omega, show 0 ≤ t.f_Dim by omega, show t.f_Dim ≤ 8 by omega]
        · by_cases b3 : t.f_Base = 86
          · by_cases b4 : t.f_Dim = 0
            · simp [b3, b4]
            · simp [h1, b3, b4, show ¬ 8 < t.f_Dim by omega, show 0 ≤ t.f_Dim by omega, show t.f_Dim ≤ 8 by omega]
          · by_cases b5 : t.f_Base = 76
            · simp [h1, b5, show ¬ 8 < t.f_Dim by omega, show 0 ≤ t.f_Dim by omega, show t.f_Dim ≤ 8 by omega]
            · simp [h1, b1, b2, b3, b5, show ¬ 8 < t.f_Dim by omega]

theorem valid_ref (t : T_api_Type) (hl : (t.f_Name.length : Int) ≤ 140737488355328) : m_armatureref04_Valid t = some (validB t) := by
  unfold m_armatureref04_Valid j115x1 j115x2 j115x3 validB clsB
  rw [ref_class _ hl]
  by_cases h1 : t.f_Dim < 0
  · simp [h1, show ¬ 0 ≤ t.f_Dim by omega]
  · by_cases h2 : t.f_Dim > 8
    · simp [h1, h2, show ¬ t.f_Dim ≤ 8 by omega]
    · by_cases b1 : t.f_Base = 73
      · simp [h1, b1, show ¬ 8 < t.f_Dim by omega, show 0 ≤ t.f_Dim by omega, show t.f_Dim ≤ 8 by omega]
      · by_cases b2 : t.f_Base = 74
        · simp [h1, b2, show ¬ 8 < t.f_Dim by omega, show 0 ≤ t.f_Dim by omega, show t.f_Dim ≤ 8 by omega]
        · by_cases b3 : t.f_Base = 86
          · by_cases b4 : t.f_Dim = 0
            · by_cases b6 : t.f_Name = [] <;> simp [b3, b4, b6]
            · by_cases b6 : t.f_Name = [] <;> simp [h1, b3, b4, b6, show ¬ 8 < t.f_Dim by omega, show 0 ≤ t.f_Dim by omega, show t.f_Dim ≤ 8 by omega]
          · by_cases b5 : t.f_Base = 76
            · simp [h1, b5, show ¬ 8 < t.f_Dim by omega, show 0 ≤ t.f_Dim by omega, show t.f_Dim ≤ 8 by omega]
            · simp [h1, b1, b2, b3, b5, show ¬ 8 < t.f_Dim by omega]

theorem valid_facts {t : T_api_Type} (h : validB t = true) : 0 ≤ t.f_Dim ∧ t.f_Dim ≤ 8 ∧ ((t.f_Base = 73 ∧ t.f_Name = []) ∨ (t.f_Base = 74 ∧ t.f_Name = []) ∨ (t.f_Base = 86 ∧ t.f_Name = [] ∧ t.f_Dim = 0) ∨ (t.f_Base = 76 ∧ clsB t.f_Name = true)) ∧ t.f_Name.length ≤ 64 := by
  simp only [validB, Bool.and_eq_true, Bool.or_eq_true, decide_eq_true_eq, beq_iff_eq] at h
  obtain ⟨⟨h1, h2⟩, h3⟩ := h
  refine ⟨h1, h2, ?_, ?_⟩
  · rcases h3 with (⟨h3 | h3, h4⟩ | ⟨⟨h3, h4⟩, h5⟩) | ⟨h3, h4⟩
    · exact .inl ⟨h3, h4⟩
    · exact .inr (.inl ⟨h3, h4⟩)
    · exact .inr (.inr (.inl ⟨h3, h4, h5⟩))
    · exact .inr (.inr (.inr ⟨h3, h4⟩))
  · rcases h3 with (⟨_, h4⟩ | ⟨⟨_, h4⟩, _⟩) | ⟨_, h4⟩
    · rw [h4]; simp
    · rw [h4]; simp
    · simp only [clsB, Bool.and_eq_true, decide_eq_true_eq] at h4; exact h4.1

def fmt (t : T_api_Type) : List UInt8 := List.replicate t.f_Dim.toNat 91 ++ UInt8.ofNat t.f_Base.toNat :: (if t.f_Base = 76 then t.f_Name ++ [59] else [])

theorem fmt_len {t : T_api_Type} (h : validB t = true) : (fmt t).length ≤ 74 ∧ 1 ≤ (fmt t).length := by
  obtain ⟨h1, h2, -, h4⟩ := valid_facts h
  unfold fmt
  split <;> simp <;> omega

theorem growK_ok {n : Nat} (b : Nat) (h : n * b ≤ 140737488355328) (hb : 1 ≤ b) : growK b n = some () := by
  unfold growK
  have : n ≤ n * b := Nat.le_mul_of_pos_right n hb
  rw [if_pos ⟨by omega, h⟩]

theorem wrap_ok {n : Int} (h0 : -9223372036854775808 ≤ n) (h1 : n < 9223372036854775808) : IntKind.wrap .i64 n = n := by
  rw [wrap64]; omega

def cut : List UInt8 → Option (List UInt8 × List UInt8)
  | [] => none
  | c :: r => if c = 59 then some ([], r) else (cut r).map fun x => (c :: x.1, x.2)

def lead : List UInt8 → Nat
  | [] => 0
  | c :: r => if c = 91 then lead r + 1 else 0

def mkT (d : Nat) (b : Int) (n : List UInt8) : T_api_Type := { f_Dim := d, f_Base := b, f_Name := n }

def chk (t : T_api_Type) (r : List UInt8) : Option (T_api_Type × List UInt8) := if validB t = true then some (t, r) else none

def rd (s : List UInt8) : Option (T_api_Type × List UInt8) :=
  match s.drop (lead s) with
  | [] => none
  | c :: r =>
    if c = 76 then
      match cut r with
      | none => none
      | some (nm, r') => chk (mkT (lead s) 76 nm) r'
    else chk (mkT (lead s) (c.toNat : Int) []) r

theorem cut_spec : ∀ l, match cut l with
    | none => Lib.indexByte l 59 < 0 ∧ (59 : UInt8) ∉ l
    | some (a, b) => Lib.indexByte l 59 = a.length ∧ l = a ++ 59 :: b ∧ (59 : UInt8) ∉ a
  | [] => by simp [cut, Lib.indexByte]
  | c :: r => by
    have ih := cut_spec r
    unfold cut
    by_cases hc : c = 59
    · rw [if_pos hc]; subst hc; simp [Lib.indexByte]
    · rw [if_neg hc]
      cases h : cut r with
      | none =>
        rw [h] at ih
        have h1 := (indexByte_none (c :: r) 59).2 (by simp only [List.mem_cons, not_or]; exact ⟨fun e => hc e.symm, ih.2⟩)
        exact ⟨h1, by simp only [List.mem_cons, not_or]; exact ⟨fun e => hc e.symm, ih.2⟩⟩
      | some x =>
        obtain ⟨a, b⟩ := x
        rw [h] at ih
        obtain ⟨i1, i2, i3⟩ := ih
        refine ⟨?_, by show c :: r = c :: a ++ 59 :: b; rw [i2]; rfl, by simp only [List.mem_cons, not_or]; exact ⟨fun e => hc e.symm, i3⟩⟩
        have : ¬ Lib.indexByte r 59 < 0 := by omega
        simp [Lib.indexByte, hc, i1]

theorem lead_le : ∀ s, lead s ≤ s.length
  | [] => by simp [lead]
  | c :: r => by
    have := lead_le r
    unfold lead; split <;> simp; omega

theorem lead_get : ∀ (s : List UInt8) (i : Nat), i < lead s → s[i]? = some 91
  | [], i, h => by simp [lead] at h
  | c :: r, i, h => by
    unfold lead at h
    split at h
    · rename_i hc
      cases i with
      | zero => simp [hc]
      | succ i => simpa using lead_get r i (by omega)
    · omega

theorem lead_stop : ∀ (s : List UInt8), s[lead s]? ≠ some 91
  | [] => by simp
  | c :: r => by
    unfold lead
    split
    · simpa using lead_stop r
    · rename_i hc; simpa using hc

theorem lead_split : ∀ s : List UInt8, s = List.replicate (lead s) 91 ++ s.drop (lead s)
  | [] => rfl
  | c :: r => by
    have ih := lead_split r
    unfold lead
    split
    · rename_i hc
      subst hc
      rw [List.replicate_succ, List.drop_succ_cons, List.cons_append, ← ih]
    · simp

theorem i8_eq (c d : UInt8) : ((c.toNat : Int) = (d.toNat : Int)) ↔ c = d := by
  constructor
  · intro h; exact UInt8.toNat_inj.1 (by omega)
  · intro h; rw [h]

theorem i8_beq (c d : UInt8) : ((c.toNat : Int) == (d.toNat : Int)) = (c == d) := by
  rw [Bool.eq_iff_iff]; simp only [beq_iff_eq]; exact i8_eq c d

theorem sub_drop {α : Type} (l : List α) (n : Nat) (h : n ≤ l.length) : sub l (n : Int) (l.length : Int) = some (l.drop n) := by
  unfold sub
  rw [if_pos (by omega)]
  simp [List.take_of_length_le]

theorem sub_mid {α : Type} (l : List α) (n m : Nat) (h : n ≤ m) (hm : m ≤ l.length) : sub l (n : Int) (m : Int) = some ((l.drop n).take (m - n)) := by
  unfold sub
  rw [if_pos (by omega)]
  simp

theorem rd_spec {s r : List UInt8} {t : T_api_Type} (h : rd s = some (t, r)) : validB t = true ∧ s = fmt t ++ r ∧ r.length < s.length ∧ t.f_Name.length ≤ 64 := by
  have hs := lead_split s
  unfold rd at h
  cases hd : s.drop (lead s) with
  | nil => rw [hd] at h; cases h
  | cons c q =>
    rw [hd] at h hs
    dsimp only at h
    have key : ∀ (nm r' : List UInt8) (b : Int), chk (mkT (lead s) b nm) r' = some (t, r) → validB t = true ∧ t = mkT (lead s) b nm ∧ r' = r := fun nm r' b hc => by
      unfold chk at hc
      split at hc
      · rename_i hv; cases hc; exact ⟨hv, rfl, rfl⟩
      · cases hc
    split at h
    · rename_i hc
      subst hc
      have hcut := cut_spec q
      cases hq : cut q with
      | none => rw [hq] at h; cases h
      | some x =>
        obtain ⟨nm, r'⟩ := x
        rw [hq] at h hcut
        obtain ⟨k1, k2, k3⟩ := key _ _ _ h
        subst k3
        have hf : s = fmt t ++ r' := by
          rw [k2]
          unfold fmt mkT
          dsimp only
          rw [if_pos rfl, show ((lead s : Nat) : Int).toNat = lead s from rfl]
          have hq2 : q = nm ++ 59 :: r' := hcut.2.1
          conv => lhs; rw [hs, hq2]
          simp
        refine ⟨k1, hf, ?_, (valid_facts k1).2.2.2⟩
        have := (fmt_len k1).2
        have hl := congrArg List.length hf
        rw [List.length_append] at hl; omega
    · rename_i hc
      obtain ⟨k1, k2, k3⟩ := key _ _ _ h
      subst k3
      have hf : s = fmt t ++ q := by
        rw [k2]
        unfold fmt mkT
        dsimp only
        rw [if_neg (fun e : (c.toNat : Int) = 76 => hc ((i8_eq c 76).1 e))]
        rw [show ((lead s : Nat) : Int).toNat = lead s from rfl, show ((c.toNat : Nat) : Int).toNat = c.toNat from rfl]
        conv => lhs; rw [hs]
        simp
      refine ⟨k1, hf, ?_, (valid_facts k1).2.2.2⟩
      have := (fmt_len k1).2
      have hl := congrArg List.length hf
      rw [List.length_append] at hl; omega

theorem getS_of {s : List UInt8} {i : Nat} {c : UInt8} (h : s[i]? = some c) : getS s (i : Int) = some (c.toNat : Int) := by
  unfold getS
  rw [if_pos (by omega), Int.toNat_natCast, h]; rfl

theorem getS0 {c : UInt8} {r : List UInt8} : getS (c :: r) 0 = some (c.toNat : Int) := rfl

theorem lead_loop (s : List UInt8) (hl : (s.length : Int) ≤ 140737488355328) : loopM (l101x1 s) rounds 0 = some (lead s : Int) := by
  have hle := lead_le s
  have : ∃ r, loopM (l101x1 s) rounds 0 = some r ∧ r = (lead s : Int) := by
    refine loopM_ind (fun i : Int => 0 ≤ i ∧ i ≤ lead s) (fun i : Int => ((s.length : Int) - i).toNat) (fun r => r = (lead s : Int)) ?_ rounds 0 ⟨by omega, by omega⟩ ?_
    · intro i ⟨i0, i1⟩
      obtain ⟨n, rfl⟩ := Int.eq_ofNat_of_zero_le i0
      unfold l101x1
      by_cases hlt : n < s.length
      · have hc : s[n]? = some s[n] := List.getElem?_eq_getElem hlt
        rw [if_pos (by simpa using hlt), getS_of hc]
        try simp only [Option.bind_some]
        rw [show (91 : Int) = ((91 : UInt8).toNat : Int) from rfl, i8_beq]
        by_cases h91 : s[n] = 91
        · rw [if_pos (by simpa using h91), wrap_ok (by omega) (by omega)]
          have hn : n ≠ lead s := by
            intro e
            apply lead_stop s
            rw [← e, hc, h91]
          exact ⟨_, rfl, ⟨by omega, by omega⟩, by omega⟩
        · rw [if_neg (by simpa using h91)]
          refine ⟨_, rfl, ?_⟩
          show (n : Int) = lead s
          rcases Nat.lt_or_ge n (lead s) with h' | h'
          · have := lead_get s n h'
            rw [hc] at this
            exact absurd (by simpa using this) h91
          · omega
      · rw [if_neg (by simpa using hlt)]
        exact ⟨_, rfl, by show (n : Int) = lead s; omega⟩
    · show ((s.length : Int) - 0).toNat < 18446744073709551616
      omega
  obtain ⟨r, h1, h2⟩ := this
  rw [h1, h2]

theorem index59 (s : List UInt8) : m_strings_IndexByte s 59 = some (Lib.indexByte s 59) := rfl

theorem chk_valid (t : T_api_Type) (r : List UInt8) (hl : (t.f_Name.length : Int) ≤ 140737488355328) : ∃ b, m_desc_Valid t = some b ∧ m_armatureref04_Valid t = some b ∧ chk t r = if b = true then some (t, r) else none :=
  ⟨validB t, valid_desc t hl, valid_ref t hl, rfl⟩

theorem pre_desc (s : List UInt8) (hl : (s.length : Int) ≤ 140737488355328) : ∃ v, m_desc_prefix s = some v ∧ match rd s with
    | some (t, r) => v = (t, r, true)
    | none => v.2.2 = false := by
  have hle := lead_le s
  unfold m_desc_prefix rd
  rw [lead_loop s hl]
  try simp only [Option.bind_some]
  rw [sub_drop s _ hle]
  try simp only [Option.bind_some]
  have hlen : (s.drop (lead s)).length ≤ s.length := by rw [List.length_drop]; omega
  cases hd : s.drop (lead s) with
  | nil => exact ⟨_, rfl, rfl⟩
  | cons c q =>
    rw [hd] at hlen
    simp only [List.length_cons] at hlen
    rw [if_neg (by simp), getS0]
    try simp only [Option.bind_some]
    rw [show (1 : Int) = ((1 : Nat) : Int) from rfl, sub_drop (c :: q) 1 (by simp)]
    simp only [Option.bind_some, List.drop_succ_cons, List.drop_zero]
    rw [show (76 : Int) = ((76 : UInt8).toNat : Int) from rfl, i8_beq]
    by_cases hc : c = 76
    · rw [if_pos (by simpa using hc), if_pos hc, index59]
      try simp only [Option.bind_some]
      have hcut := cut_spec q
      cases hq : cut q with
      | none =>
        rw [hq] at hcut
        rw [if_pos (decide_eq_true hcut.1)]
        exact ⟨_, rfl, rfl⟩
      | some x =>
        obtain ⟨nm, r'⟩ := x
        rw [hq] at hcut
        obtain ⟨h1, h2, h3⟩ := hcut
        have hql : q.length = nm.length + 1 + r'.length := by rw [h2]; simp; omega
        rw [h1, if_neg (by simp)]
        rw [show (0 : Int) = ((0 : Nat) : Int) from rfl, sub_mid q 0 nm.length (by omega) (by omega)]
        try simp only [Option.bind_some]
        rw [wrap_ok (by omega) (by omega)]
        try simp only [Option.bind_some]
        rw [show (nm.length : Int) + ((1 : Nat) : Int) = ((nm.length + 1 : Nat) : Int) by omega, sub_drop q _ (by omega)]
        try simp only [Option.bind_some]
        have e1 : (q.drop 0).take (nm.length - 0) = nm := by rw [h2]; simp
        have e2 : q.drop (nm.length + 1) = r' := by rw [h2, List.drop_append]; simp
        rw [e1, e2, hc]
        unfold j101x1
        obtain ⟨b, k1, -, k3⟩ := chk_valid (mkT (lead s) 76 nm) r' (by show (nm.length : Int) ≤ _; omega)
        unfold mkT at k1
        rw [show (((76 : UInt8).toNat : Nat) : Int) = 76 from rfl, k1]
        rw [k3]
        cases b with
        | true => exact ⟨_, rfl, rfl⟩
        | false => exact ⟨_, rfl, rfl⟩
    · rw [if_neg (by simpa using hc), if_neg hc]
      unfold j101x1
      obtain ⟨b, k1, -, k3⟩ := chk_valid (mkT (lead s) (c.toNat : Int) []) q (by show (([] : List UInt8).length : Int) ≤ _; simp)
      unfold mkT at k1
      rw [k1]
      rw [k3]
      cases b with
      | true => exact ⟨_, rfl, rfl⟩
      | false => exact ⟨_, rfl, rfl⟩

def zeroT : T_api_Type := { f_Dim := 0, f_Base := 0, f_Name := [] }

def parseF (s : List UInt8) : T_api_Type × Int := match rd s with
  | some (t, []) => (t, 0)
  | _ => (zeroT, 13)

theorem parse_desc (s : List UInt8) (hl : (s.length : Int) ≤ 140737488355328) : m_desc_Parse s = some (parseF s) := by
  obtain ⟨v, h1, h2⟩ := pre_desc s hl
  unfold m_desc_Parse parseF
  rw [h1]
  try simp only [Option.bind_some]
  cases hr : rd s with
  | none => rw [hr] at h2; dsimp only at h2; rw [h2]; rfl
  | some x =>
    obtain ⟨t, r⟩ := x
    rw [hr] at h2
    dsimp only at h2
    subst h2
    cases r with
    | nil => rfl
    | cons c r => rfl

theorem lead_ref (s : List UInt8) (hl : (s.length : Int) ≤ 140737488355328) (at_ : Nat) (h : at_ ≤ s.length) : loopM (l112x1 s) rounds ((at_ : Int), 0) = some ((lead (s.drop at_) : Int), ((at_ + lead (s.drop at_) : Nat) : Int)) := by
  have hle := lead_le (s.drop at_)
  rw [List.length_drop] at hle
  have hget : ∀ k, (s.drop at_)[k]? = s[at_ + k]? := fun k => by rw [List.getElem?_drop]
  have : ∃ r, loopM (l112x1 s) rounds ((at_ : Int), 0) = some r ∧ r = ((lead (s.drop at_) : Int), ((at_ + lead (s.drop at_) : Nat) : Int)) := by
    refine loopM_ind (fun p => ∃ k : Nat, k ≤ lead (s.drop at_) ∧ p = (((at_ + k : Nat) : Int), (k : Int))) (fun p => ((s.length : Int) - p.1).toNat) (fun r => r = ((lead (s.drop at_) : Int), ((at_ + lead (s.drop at_) : Nat) : Int))) ?_ rounds _ ⟨0, by omega, by simp⟩ ?_
    · rintro p ⟨k, hk, rfl⟩
      unfold l112x1
      dsimp only
      by_cases hlt : at_ + k < s.length
      · have hc : s[at_ + k]? = some s[at_ + k] := List.getElem?_eq_getElem hlt
        rw [if_pos (decide_eq_true (by omega)), getS_of hc]
        try simp only [Option.bind_some]
        rw [show (91 : Int) = ((91 : UInt8).toNat : Int) from rfl, i8_beq]
        by_cases h91 : s[at_ + k] = 91
        · rw [if_pos (by simpa using h91)]
          unfold j112x1
          dsimp only
          rw [wrap_ok (by omega) (by omega)]
          try simp only [Option.bind_some]
          rw [wrap_ok (by omega) (by omega)]
          try simp only [Option.bind_some]
          have hn : k ≠ lead (s.drop at_) := by
            intro e
            apply lead_stop (s.drop at_)
            rw [← e, hget, hc, h91]
          exact ⟨_, rfl, ⟨k + 1, by omega, by simp; omega⟩, by dsimp only; omega⟩
        · rw [if_neg (by simpa using h91)]
          refine ⟨_, rfl, ?_⟩
          have hn : k = lead (s.drop at_) := by
            rcases Nat.lt_or_ge k (lead (s.drop at_)) with h' | h'
            · have := lead_get _ k h'
              rw [hget, hc] at this
              exact absurd (by simpa using this) h91
            · omega
          show ((k : Int), ((at_ + k : Nat) : Int)) = _
          rw [← hn]
      · rw [if_neg (by simp; omega)]
        refine ⟨_, rfl, ?_⟩
        show ((k : Int), ((at_ + k : Nat) : Int)) = _
        rw [show k = lead (s.drop at_) by omega]
    · show ((s.length : Int) - (at_ : Int)).toNat < 18446744073709551616
      omega
  obtain ⟨r, h1, h2⟩ := this
  rw [h1, h2]

theorem semi_loop (s : List UInt8) (hl : (s.length : Int) ≤ 140737488355328) (at_ : Nat) (h : at_ ≤ s.length) : loopM (l112x2 s) rounds (at_ : Int) = some (match cut (s.drop at_) with
    | some (a, _) => ((at_ + a.length : Nat) : Int)
    | none => (s.length : Int)) := by
  have hcut := cut_spec (s.drop at_)
  have hlen : (s.drop at_).length = s.length - at_ := List.length_drop
  have hget : ∀ k, (s.drop at_)[k]? = s[at_ + k]? := fun k => by rw [List.getElem?_drop]
  -- how far it goes
  obtain ⟨m, hm, hno, hend⟩ : ∃ m : Nat, (match cut (s.drop at_) with
      | some (a, _) => ((at_ + a.length : Nat) : Int)
      | none => (s.length : Int)) = ((at_ + m : Nat) : Int) ∧ (∀ k, k < m → ∃ c, s[at_ + k]? = some c ∧ c ≠ 59) ∧ (at_ + m = s.length ∨ s[at_ + m]? = some 59) := by
    cases hq : cut (s.drop at_) with
    | none =>
      rw [hq] at hcut
      refine ⟨s.length - at_, by dsimp only; omega, fun k hk => ?_, .inl (by omega)⟩
      have hlt : at_ + k < s.length := by omega
      refine ⟨s[at_ + k], List.getElem?_eq_getElem hlt, fun e => hcut.2 ?_⟩
      have : (s.drop at_)[k]? = some 59 := by rw [hget, List.getElem?_eq_getElem hlt, e]
      exact List.mem_of_getElem? this
    | some x =>
      obtain ⟨a, b⟩ := x
      rw [hq] at hcut
      obtain ⟨-, h2, h3⟩ := hcut
      refine ⟨a.length, rfl, fun k hk => ?_, .inr ?_⟩
      · have : (s.drop at_)[k]? = some a[k] := by rw [h2, List.getElem?_append_left hk, List.getElem?_eq_getElem hk]
        rw [hget] at this
        exact ⟨_, this, fun e => h3 (e ▸ List.getElem_mem hk)⟩
      · rw [← hget, h2, List.getElem?_append_right (Nat.le_refl _)]; simp
  rw [hm]
  have hms : at_ + m ≤ s.length := by
    rcases hend with h' | h'
    · omega
    · rcases Nat.lt_or_ge (at_ + m) s.length with h2 | h2
      · omega
      · rw [List.getElem?_eq_none h2] at h'; cases h'
  have : ∃ r, loopM (l112x2 s) rounds (at_ : Int) = some r ∧ r = ((at_ + m : Nat) : Int) := by
    refine loopM_ind (fun p => ∃ k : Nat, k ≤ m ∧ p = ((at_ + k : Nat) : Int)) (fun p => ((s.length : Int) - p).toNat) (fun r => r = ((at_ + m : Nat) : Int)) ?_ rounds _ ⟨0, by omega, by simp⟩ ?_
    · rintro p ⟨k, hk, rfl⟩
      unfold l112x2
      by_cases hkm : k < m
      · obtain ⟨c, hc, hne⟩ := hno k hkm
        rw [if_pos (decide_eq_true (by omega)), getS_of hc]
        try simp only [Option.bind_some]
        rw [show (59 : Int) = ((59 : UInt8).toNat : Int) from rfl, bne, i8_beq]
        rw [if_pos (by simpa using hne), wrap_ok (by omega) (by omega)]
        exact ⟨_, rfl, ⟨k + 1, by omega, by simp; omega⟩, by omega⟩
      · obtain rfl : k = m := by omega
        rcases hend with h' | h'
        · rw [if_neg (by simp; omega)]
          exact ⟨_, rfl, rfl⟩
        · have hlt : at_ + k < s.length := by
            rcases Nat.lt_or_ge (at_ + k) s.length with h2 | h2
            · exact h2
            · rw [List.getElem?_eq_none h2] at h'; cases h'
          rw [if_pos (decide_eq_true (by omega)), getS_of h']
          try simp only [Option.bind_some]
          rw [show (59 : Int) = ((59 : UInt8).toNat : Int) from rfl, bne, i8_beq]
          exact ⟨_, rfl, rfl⟩
    · show ((s.length : Int) - (at_ : Int)).toNat < 18446744073709551616
      omega
  obtain ⟨r, h1, h2⟩ := this
  rw [h1, h2]

theorem take_ref (s : List UInt8) (hl : (s.length : Int) ≤ 140737488355328) (at_ : Nat) (h : at_ ≤ s.length) : m_armatureref04_take s (at_ : Int) = some (match rd (s.drop at_) with
    | some (t, r) => (t, ((s.length - r.length : Nat) : Int))
    | none => (zeroT, -1)) := by
  have hle := lead_le (s.drop at_)
  rw [List.length_drop] at hle
  unfold m_armatureref04_take rd
  rw [lead_ref s hl at_ h]
  try simp only [Option.bind_some]
  have hdd : (s.drop at_).drop (lead (s.drop at_)) = s.drop (at_ + lead (s.drop at_)) := by rw [List.drop_drop]
  rw [hdd]
  generalize hk : at_ + lead (s.drop at_) = k
  have hks : k ≤ s.length := by omega
  cases hd : s.drop k with
  | nil =>
    have : s.length ≤ k := by simpa using hd
    rw [if_pos (decide_eq_true (by omega))]; rfl
  | cons c q =>
    have hlt : k < s.length := by
      rcases Nat.lt_or_ge k s.length with h' | h'
      · exact h'
      · rw [List.drop_eq_nil_of_le h'] at hd; cases hd
    have hc : s[k]? = some c := by
      have := congrArg (fun l => l[0]?) hd
      simpa using this
    have hq : s.drop (k + 1) = q := by
      have := congrArg List.tail hd
      simpa [List.tail_drop] using this
    have hql : q.length = s.length - (k + 1) := by rw [← hq, List.length_drop]
    rw [if_neg (by simp; omega), getS_of hc]
    try simp only [Option.bind_some]
    rw [wrap_ok (by omega) (by omega)]
    try simp only [Option.bind_some]
    rw [show (76 : Int) = ((76 : UInt8).toNat : Int) from rfl, i8_beq, show (k : Int) + 1 = ((k + 1 : Nat) : Int) by omega]
    by_cases h76 : c = 76
    · rw [if_pos (by simpa using h76), if_pos h76, semi_loop s hl (k + 1) (by omega), hq]
      try simp only [Option.bind_some]
      have hcut := cut_spec q
      cases hcq : cut q with
      | none => rw [if_pos (decide_eq_true (by simp))]; rfl
      | some x =>
        obtain ⟨nm, r'⟩ := x
        rw [hcq] at hcut
        obtain ⟨-, e2, e3⟩ := hcut
        have hl2 : q.length = nm.length + 1 + r'.length := by rw [e2]; simp; omega
        rw [if_neg (by simp; omega), sub_mid s (k + 1) (k + 1 + nm.length) (by omega) (by omega)]
        try simp only [Option.bind_some]
        rw [wrap_ok (by omega) (by omega)]
        try simp only [Option.bind_some]
        have e4 : (s.drop (k + 1)).take (k + 1 + nm.length - (k + 1)) = nm := by
          rw [hq, show k + 1 + nm.length - (k + 1) = nm.length by omega, e2]; simp
        rw [e4, h76]
        unfold j112x2
        obtain ⟨b, -, k2, k3⟩ := chk_valid (mkT (lead (s.drop at_)) 76 nm) r' (by show (nm.length : Int) ≤ _; omega)
        unfold mkT at k2
        dsimp only
        rw [show (((76 : UInt8).toNat : Nat) : Int) = 76 from rfl, k2, k3]
        cases b with
        | false => rfl
        | true =>
          simp only [Option.bind_some, Bool.not_true, Bool.false_eq_true, if_false, if_true, Option.some.injEq, Prod.mk.injEq]
          exact ⟨rfl, by omega⟩
    · rw [if_neg (by simpa using h76), if_neg h76]
      unfold j112x2
      obtain ⟨b, -, k2, k3⟩ := chk_valid (mkT (lead (s.drop at_)) (c.toNat : Int) []) q (by show (([] : List UInt8).length : Int) ≤ _; simp)
      unfold mkT at k2
      dsimp only
      rw [k2, k3]
      cases b with
      | false => rfl
      | true =>
        simp only [Option.bind_some, Bool.not_true, Bool.false_eq_true, if_false, if_true, Option.some.injEq, Prod.mk.injEq]
        exact ⟨rfl, by omega⟩

theorem parse_ref (s : List UInt8) (hl : (s.length : Int) ≤ 140737488355328) : m_armatureref04_Parse s = some (parseF s) := by
  unfold m_armatureref04_Parse parseF
  rw [show (0 : Int) = ((0 : Nat) : Int) from rfl, take_ref s hl 0 (Nat.zero_le _), List.drop_zero]
  try simp only [Option.bind_some]
  cases hr : rd s with
  | none => rw [if_pos (by simp <;> omega)]; rfl
  | some x =>
    obtain ⟨t, r⟩ := x
    have := (rd_spec hr).2.2.1
    cases r with
    | nil =>
      dsimp only
      rw [if_neg (by simp)]
    | cons c r =>
      have hne : ((s.length - (c :: r).length : Nat) : Int) ≠ (s.length : Int) := by simp only [List.length_cons] at this ⊢; omega
      dsimp only
      rw [if_pos (bne_iff_ne.2 hne)]; rfl

def pccF (s : List UInt8) : T_api_Type × Int := if clsB s = true then ({ f_Dim := 0, f_Base := 76, f_Name := s }, 0) else match s with
  | 91 :: _ => parseF s
  | _ => (zeroT, 13)

theorem pcc_desc (s : List UInt8) (hl : (s.length : Int) ≤ 140737488355328) : m_desc_ParseClassConstant s = some (pccF s) := by
  unfold m_desc_ParseClassConstant pccF m_strings_HasPrefix
  rw [isClass s hl, hasP_lite, parse_desc s hl]
  try simp only [Option.bind_some]
  unfold clsB
  cases decide (s.length ≤ 64) && okC true s with
  | true => rfl
  | false =>
    simp only [Bool.false_eq_true, if_false]
    cases s with
    | nil => rfl
    | cons c r =>
      have : hasP (c :: r) [91] = (91 == c) := by simp [hasP, List.isPrefixOf]
      rw [this]
      by_cases hc : c = 91
      · subst hc; rfl
      · rw [if_neg (by simpa using fun e : (91 : UInt8) = c => hc e.symm)]
        split
        · rename_i h; injection h with h1 _; exact absurd h1 hc
        · rfl

theorem pcc_ref (s : List UInt8) (hl : (s.length : Int) ≤ 140737488355328) : m_armatureref04_ParseClassConstant s = some (pccF s) := by
  unfold m_armatureref04_ParseClassConstant pccF j94x1
  rw [ref_class s hl, parse_ref s hl]
  try simp only [Option.bind_some]
  unfold clsB
  cases decide (s.length ≤ 64) && okC true s with
  | true => rfl
  | false =>
    simp only [Bool.false_eq_true, if_false]
    cases s with
    | nil => rfl
    | cons c r =>
      rw [if_neg (by simp), getS0]
      try simp only [Option.bind_some]
      rw [show (91 : Int) = ((91 : UInt8).toNat : Int) from rfl, bne, i8_beq]
      by_cases hc : c = 91
      · subst hc; rfl
      · rw [if_pos (by simpa using hc)]
        split
        · rename_i h; injection h with h1 _; exact absurd h1 hc
        · rfl

def okP1 (t : T_api_Type) : Bool := validB t && t.f_Base != 86

theorem loopM_two {T T' R R' : Type} {f : T → Option (Ctl T R)} {f' : T' → Option (Ctl T' R')} (I : T → T' → Prop) (μ : T → Nat) (Post : R → R' → Prop)
    (step : ∀ t t', I t t' → ∃ x x', f t = some x ∧ f' t' = some x' ∧ match x, x' with
      | .next a, .next b => I a b ∧ μ a < μ t
      | .done a, .done b => Post a b
      | _, _ => False) : ∀ (n : Nat) (t : T) (t' : T'), I t t' → μ t < n → ∃ r r', loopM f n t = some r ∧ loopM f' n t' = some r' ∧ Post r r'
  | 0, t, t', _, h => absurd h (Nat.not_lt_zero _)
  | n + 1, t, t', hI, h => by
    obtain ⟨x, x', hx, hx', hp⟩ := step t t' hI
    cases x with
    | next a =>
      cases x' with
      | next b =>
        obtain ⟨r, r', h1, h2, h3⟩ := loopM_two I μ Post step n a b hp.1 (by have := hp.2; omega)
        exact ⟨r, r', by rw [loopM, hx]; exact h1, by rw [loopM, hx']; exact h2, h3⟩
      | done b => exact absurd hp id
    | done a =>
      cases x' with
      | next b => exact absurd hp id
      | done b => exact ⟨a, b, by rw [loopM, hx], by rw [loopM, hx'], hp⟩

def zeroG : T_api_Sig := { f_Params := [], f_Result := zeroT }

theorem sig_loop (s : List UInt8) (hl : s.length ≤ 2000000) (h1 : 1 ≤ s.length) : ∃ r r', loopM l89x1 rounds (s.drop 1, []) = some r ∧ loopM (l107x1 s) rounds (1, []) = some r' ∧ match r, r' with
    | .inl a, .inl b => a.1 = b.1 ∧ a.1.all okP1 = true ∧ a.1.length ≤ 2000000 ∧ (∃ k : Nat, b.2 = (k : Int) ∧ k ≤ s.length ∧ a.2 = s.drop k) ∧ a.1.flatMap fmt ++ a.2 = s.drop 1 ∧ (a.2 = [] ∨ ∃ q, a.2 = 41 :: q)
    | .inr a, .inr b => a = (zeroG, 13) ∧ b = (zeroG, 13)
    | _, _ => False := by
  refine loopM_two (fun p p' => p.2 = p'.2 ∧ p.2.all okP1 = true ∧ (∃ k : Nat, p'.1 = (k : Int) ∧ k ≤ s.length ∧ p.1 = s.drop k ∧ p.2.length ≤ k) ∧ p.2.flatMap fmt ++ p.1 = s.drop 1) (fun p => p.1.length) _ ?_ rounds _ _
    ⟨rfl, by simp, ⟨1, rfl, h1, rfl, by simp⟩, by simp⟩ ?_
  · rintro ⟨s', acc⟩ ⟨at_, acc'⟩ ⟨e1, hok, ⟨k, e2, hk, e3, hac⟩, hcat⟩
    dsimp only at e1 e2 e3 hok hac hcat
    subst e1 e2 e3
    unfold l89x1 l107x1
    dsimp only
    cases hd : s.drop k with
    | nil =>
      have : s.length ≤ k := by simpa using hd
      rw [if_neg (by simp), if_neg (by simp; omega)]
      refine ⟨_, _, rfl, rfl, ?_⟩
      exact ⟨rfl, hok, by show acc.length ≤ 2000000; omega, ⟨k, rfl, hk, hd.symm⟩, by rw [← hd]; exact hcat, .inl rfl⟩
    | cons c q =>
      have hlt : k < s.length := by
        rcases Nat.lt_or_ge k s.length with h' | h'
        · exact h'
        · rw [List.drop_eq_nil_of_le h'] at hd; cases hd
      have hc : s[k]? = some c := by
        have := congrArg (fun l => l[0]?) hd
        simpa using this
      rw [if_pos (by simp), if_pos (decide_eq_true (by omega)), getS0, getS_of hc]
      simp only [Option.bind_some]
      rw [show (41 : Int) = ((41 : UInt8).toNat : Int) from rfl, bne, i8_beq]
      by_cases h41 : c = 41
      · rw [if_neg (by simpa using h41), if_neg (by simpa using h41)]
        refine ⟨_, _, rfl, rfl, ?_⟩
        exact ⟨rfl, hok, by show acc.length ≤ 2000000; omega, ⟨k, rfl, hk, hd.symm⟩, by rw [← hd]; exact hcat, .inr ⟨q, by rw [h41]⟩⟩
      · rw [if_pos (by simpa using h41), if_pos (by simpa using h41)]
        unfold j89x2 j107x2
        dsimp only
        rw [← hd]
        obtain ⟨v, hv, hrd⟩ := pre_desc (s.drop k) (by rw [List.length_drop]; omega)
        rw [hv, take_ref s (by omega) k hk]
        simp only [Option.bind_some]
        cases hr : rd (s.drop k) with
        | none =>
          rw [hr] at hrd
          dsimp only at hrd ⊢
          rw [hrd]
          exact ⟨_, _, rfl, rfl, rfl, rfl⟩
        | some x =>
          obtain ⟨t, r⟩ := x
          rw [hr] at hrd
          dsimp only at hrd ⊢
          subst hrd
          obtain ⟨g1, g2, g3, g4⟩ := rd_spec hr
          dsimp only
          rw [if_neg (show ¬ ((!true) = true) by decide), if_neg (show ¬ (decide (((s.length - r.length : Nat) : Int) < 0) = true) by simp)]
          by_cases h86 : t.f_Base = 86
          · rw [if_pos (by simpa using h86), if_pos (by simpa using h86)]
            exact ⟨_, _, rfl, rfl, rfl, rfl⟩
          · rw [if_neg (by simpa using h86), if_neg (by simpa using h86)]
            unfold j89x3 j107x3
            dsimp only
            have hrl : r.length < s.length - k := by rw [← List.length_drop]; exact g3
            rw [growK_ok 32 (by simp; omega) (by omega)]
            simp only [Option.bind_some]
            refine ⟨_, _, rfl, rfl, ⟨rfl, ?_, ⟨s.length - r.length, rfl, by omega, ?_, ?_⟩, ?_⟩, g3⟩
            · rw [List.all_append, hok]
              show (true && ([t].all okP1)) = true
              simp [okP1, g1, h86]
            · dsimp only
              have hf := (fmt_len g1).2
              have e5 : s.drop k = fmt t ++ r := g2
              have e6 : (fmt t).length + r.length = s.length - k := by rw [← List.length_append, ← e5, List.length_drop]
              have e7 : s.drop (s.length - r.length) = (s.drop k).drop (fmt t).length := by rw [List.drop_drop]; congr 1; omega
              rw [e7, e5, List.drop_left]
            · dsimp only
              rw [List.length_append]
              simp only [List.length_singleton]
              omega
            · dsimp only
              rw [List.flatMap_append, List.append_assoc]
              show List.flatMap fmt acc ++ ([t].flatMap fmt ++ r) = _
              rw [show [t].flatMap fmt = fmt t by simp, ← g2]; exact hcat
  · show (s.drop 1).length < 18446744073709551616
    rw [List.length_drop]; omega

theorem sig_same (s : List UInt8) (hl : s.length ≤ 2000000) : ∃ v, m_desc_ParseSignature s = some v ∧ m_armatureref04_ParseSignature s = some v ∧ (v.2 = 0 → validB v.1.f_Result = true ∧ ∃ q, s = 40 :: q) := by
  unfold m_desc_ParseSignature m_armatureref04_ParseSignature
  cases s with
  | nil => exact ⟨_, rfl, rfl, fun h => absurd h (by decide)⟩
  | cons c q =>
    rw [if_neg (by simp), if_neg (by simp), getS0]
    simp only [Option.bind_some]
    rw [show (40 : Int) = ((40 : UInt8).toNat : Int) from rfl, bne, i8_beq]
    by_cases h40 : c = 40
    · rw [if_neg (by simpa using h40), if_neg (by simpa using h40)]
      unfold j89x1 j107x1
      obtain ⟨r, r', h1, h2, h3⟩ := sig_loop (c :: q) hl (by simp)
      rw [show sub (c :: q) 1 ((c :: q).length : Int) = some ((c :: q).drop 1) from sub_drop (c :: q) 1 (by simp), h2]
      simp only [Option.bind_some]
      rw [h1]
      simp only [Option.bind_some]
      cases r with
      | inr a =>
        cases r' with
        | inl b => exact absurd h3 id
        | inr b =>
          dsimp only at h3 ⊢
          obtain ⟨rfl, rfl⟩ := h3
          exact ⟨_, rfl, rfl, fun h => absurd h (by decide)⟩
      | inl a =>
        cases r' with
        | inr b => exact absurd h3 id
        | inl b =>
          obtain ⟨acc, s'⟩ := a
          obtain ⟨acc', at_⟩ := b
          dsimp only at h3 ⊢
          obtain ⟨e1, hok, hacc, ⟨k, e2, hk, e3⟩, hcat, hend⟩ := h3
          have hlc : (c :: q).length = q.length + 1 := List.length_cons
          subst e1 e2
          rcases hend with hnil | ⟨q', hq'⟩
          · subst hnil
            have : (c :: q).length ≤ k := by
              have := congrArg List.length e3
              rw [List.length_drop] at this
              simp only [List.length_nil] at this
              omega
            rw [if_pos (by simp), if_pos (decide_eq_true (by omega))]
            exact ⟨_, rfl, rfl, fun h => absurd h (by decide)⟩
          · have hlen : q'.length + 1 = (c :: q).length - k := by
              have := congrArg List.length e3
              rw [List.length_drop, hq'] at this
              simpa using this
            have hdrop : (c :: q).drop (k + 1) = q' := by
              rw [← List.drop_drop, ← e3, hq']; rfl
            rw [hq', if_neg (by simp), if_neg (by simp; omega)]
            rw [show sub (41 :: q') 1 ((41 :: q').length : Int) = some ((41 :: q').drop 1) from sub_drop (41 :: q') 1 (by simp)]
            simp only [Option.bind_some]
            rw [wrap_ok (by omega) (by omega)]
            simp only [Option.bind_some, List.drop_succ_cons, List.drop_zero]
            rw [parse_desc q' (by omega), show (k : Int) + 1 = ((k + 1 : Nat) : Int) by omega, take_ref (c :: q) (by omega) (k + 1) (by omega), hdrop]
            simp only [Option.bind_some]
            unfold parseF
            cases hr : rd q' with
            | none =>
              dsimp only
              rw [if_pos (by decide), if_pos (by simp <;> omega)]
              exact ⟨_, rfl, rfl, fun h => absurd h (by decide)⟩
            | some x =>
              obtain ⟨t, r⟩ := x
              obtain ⟨g1, g2, g3, g4⟩ := rd_spec hr
              cases r with
              | cons c2 r2 =>
                have hne : (((c :: q).length - (c2 :: r2).length : Nat) : Int) ≠ ((c :: q).length : Int) := by
                  simp only [List.length_cons] at g3 hlen ⊢; omega
                dsimp only
                rw [if_pos (by decide), if_pos (bne_iff_ne.2 hne)]
                exact ⟨_, rfl, rfl, fun h => absurd h (by decide)⟩
              | nil =>
                dsimp only
                rw [if_neg (show ¬ (((0 : Int) != 0) = true) by decide), if_neg (show ¬ ((((c :: q).length - ([] : List UInt8).length : Nat) : Int) != ((c :: q).length : Int)) = true by simp)]
                by_cases h16 : (acc.length : Int) > 16
                · rw [if_pos (decide_eq_true h16)]
                  exact ⟨_, rfl, rfl, fun h => absurd h (by decide)⟩
                · rw [if_neg (by simpa using h16)]
                  exact ⟨_, rfl, rfl, fun _ => ⟨g1, q, by rw [h40]⟩⟩
    · rw [if_pos (by simpa using h40), if_pos (by simpa using h40)]
      exact ⟨_, rfl, rfl, fun h => absurd h (by decide)⟩

theorem eqC_iff (a b : T_api_Const) : eqb_T_api_Const a b = true ↔ a = b := by
  obtain ⟨a1, a2, a3, a4, a5⟩ := a
  obtain ⟨b1, b2, b3, b4, b5⟩ := b
  simp only [eqb_T_api_Const, Bool.and_eq_true, beq_iff_eq, Bool.and_true, T_api_Const.mk.injEq]
def idxC (c : T_api_Const) : List T_api_Const → Option Nat
  | [] => none
  | x :: r => if eqb_T_api_Const x c = true then some 0 else (idxC c r).map (· + 1)
def addF (p : List T_api_Const) (c : T_api_Const) : List T_api_Const × Int × Int := match idxC c p with
  | some k => (p, (k : Int) + 1, 0)
  | none => if p.length ≥ 1000 then (p, 0, 5) else (p ++ [c], (p.length : Int) + 1, 0)

theorem idxC_none : ∀ {p : List T_api_Const} {c : T_api_Const}, idxC c p = none → ∀ (k : Nat) x, p[k]? = some x → x ≠ c
  | [], c, _, k, x, h => by simp at h
  | y :: r, c, h, k, x, hx => by
    unfold idxC at h
    split at h
    · cases h
    · rename_i hy
      cases k with
      | zero => simp at hx; subst hx; exact fun e => hy ((eqC_iff _ _).2 e)
      | succ k =>
        simp at hx
        refine idxC_none (p := r) ?_ k x hx
        cases hi : idxC c r with
        | none => rfl
        | some j => rw [hi] at h; cases h
theorem idxC_some : ∀ {p : List T_api_Const} {c : T_api_Const} {k : Nat}, idxC c p = some k → p[k]? = some c ∧ ∀ (j : Nat) x, j < k → p[j]? = some x → x ≠ c
  | [], c, k, h => by cases h
  | y :: r, c, k, h => by
    unfold idxC at h
    split at h
    · rename_i hy
      cases h
      exact ⟨by rw [(eqC_iff _ _).1 hy]; rfl, fun j x hj => by omega⟩
    · rename_i hy
      cases hi : idxC c r with
      | none => rw [hi] at h; cases h
      | some i =>
        rw [hi] at h; cases h
        obtain ⟨h1, h2⟩ := idxC_some hi
        refine ⟨by simpa using h1, fun j x hj hx => ?_⟩
        cases j with
        | zero => simp at hx; subst hx; exact fun e => hy ((eqC_iff _ _).2 e)
        | succ j =>
          have hj' : j + 1 < i + 1 := hj
          simp at hx; exact h2 j x (by omega) hx

theorem growP {n : Nat} (b : Nat) (h : n * b ≤ 140737488355328) (hb : 1 ≤ b) : growK b n = some () := by
  unfold growK
  have : n ≤ n * b := Nat.le_mul_of_pos_right n hb
  rw [if_pos ⟨by omega, h⟩]
theorem getRP {α : Type} {l : List α} {i : Nat} {c : α} (h : l[i]? = some c) : getR l (i : Int) = some c := by
  unfold getR
  rw [if_pos (by omega), Int.toNat_natCast, h]

theorem idx_lt {p : List T_api_Const} {c : T_api_Const} {k : Nat} (h : idxC c p = some k) : k < p.length := by
  obtain ⟨h1, -⟩ := idxC_some h
  rcases Nat.lt_or_ge k p.length with h' | h'
  · exact h'
  · rw [List.getElem?_eq_none h'] at h1; cases h1

theorem addF_len (p : List T_api_Const) (c : T_api_Const) : (addF p c).1.length ≤ p.length + 1 ∧ p.length ≤ (addF p c).1.length := by
  unfold addF
  split
  · exact ⟨by show p.length ≤ p.length + 1; omega, by show p.length ≤ p.length; omega⟩
  · split
    · exact ⟨by show p.length ≤ _; omega, by show p.length ≤ p.length; omega⟩
    · show (p ++ [c]).length ≤ _ ∧ _ ≤ (p ++ [c]).length
      simp

def uC (s : List UInt8) : T_api_Const := { f_Tag := 1, f_S := s, f_N := 0, f_A := 0, f_B := 0 }
def kC (tag a b : Int) : T_api_Const := { f_Tag := tag, f_S := [], f_N := 0, f_A := a, f_B := b }
/-- A text and a constant that refers to it. -/
def namedF (p : List T_api_Const) (tag : Int) (s : List UInt8) : List T_api_Const × Int × Int :=
  if (addF p (uC s)).2.2 = 0 then
    (if (addF (addF p (uC s)).1 (kC tag (addF p (uC s)).2.1 0)).2.2 = 0 then ((addF (addF p (uC s)).1 (kC tag (addF p (uC s)).2.1 0)).1, (addF (addF p (uC s)).1 (kC tag (addF p (uC s)).2.1 0)).2.1, 0)
    else (p, 0, (addF (addF p (uC s)).1 (kC tag (addF p (uC s)).2.1 0)).2.2))
  else (p, 0, (addF p (uC s)).2.2)

theorem namedF_len (p : List T_api_Const) (tag : Int) (s : List UInt8) : (namedF p tag s).1.length ≤ p.length + 2 := by
  have h1 := addF_len p (uC s)
  have h2 := addF_len (addF p (uC s)).1 (kC tag (addF p (uC s)).2.1 0)
  unfold namedF
  split
  · split
    · show (addF (addF p (uC s)).1 (kC tag (addF p (uC s)).2.1 0)).1.length ≤ _; omega
    · show p.length ≤ _; omega
  · show p.length ≤ _; omega

/-- A pool whose texts are not too long. -/
def shortP (p : List T_api_Const) : Prop := p.length ≤ 100000 ∧ ∀ c ∈ p, c.f_S.length ≤ 1048576

theorem utf_short {p : List T_api_Const} (h : shortP p) (i : Int) : (utfF p i).1.length ≤ 1048576 := by
  unfold utfF
  rcases getF_err p i 1 with ⟨-, h2, -⟩ | h2 | h2
  · rw [h2]
    unfold atF
    split
    · simp [Z0]
    · split
      · rename_i c hc; exact h.2 c (List.mem_of_getElem? hc)
      · simp [Z0]
  · rw [h2]; simp [Z0]
  · rw [h2]; simp [Z0]
theorem nat_short {p : List T_api_Const} (h : shortP p) (i : Int) : (natF p i).2.1.length ≤ 1048576 := by
  unfold natF
  repeat' split
  all_goals first
    | exact utf_short h _
    | simp

theorem wrap32 (n : Int) : IntKind.wrap .i64 (IntKind.wrap .i32 n) = (n + 2147483648) % 4294967296 - 2147483648 := by
  have h : IntKind.wrap .i32 n = (n + 2147483648) % 4294967296 - 2147483648 := by
    unfold IntKind.wrap
    simp [IntKind.bits, IntKind.signed, Int.bmod]
    omega
  rw [h, wrapP (by omega) (by omega)]
theorem wrap32_ne (n : Int) : (IntKind.wrap .i64 (IntKind.wrap .i32 n) != n) = (decide (n < -2147483648) || decide (n > 2147483647)) := by
  rw [wrap32]
  by_cases h1 : n < -2147483648
  · rw [decide_eq_true h1, Bool.true_or]; exact bne_iff_ne.2 (by omega)
  · rw [decide_eq_false h1, Bool.false_or]
    by_cases h2 : n > 2147483647
    · rw [decide_eq_true h2]; exact bne_iff_ne.2 (by omega)
    · rw [decide_eq_false h2, bne_eq_false_iff_eq]; omega

/-- A descriptor that is a type is no signature. -/
theorem parse_head {s : List UInt8} (h : (parseF s).2 = 0) : ∀ q, s ≠ 40 :: q := by
  intro q e
  unfold parseF at h
  cases hr : rd s with
  | none => rw [hr] at h; exact absurd h (by decide)
  | some x =>
    obtain ⟨t, r⟩ := x
    rw [hr] at h
    cases r with
    | cons c r => dsimp only at h; exact absurd h (by decide)
    | nil =>
      obtain ⟨g1, g2, -, -⟩ := rd_spec hr
      obtain ⟨h0, -, h3, -⟩ := valid_facts g1
      rw [e, List.append_nil] at g2
      unfold fmt at g2
      rcases Nat.eq_zero_or_pos t.f_Dim.toNat with hz | hz
      · rw [hz] at g2
        simp only [List.replicate_zero, List.nil_append] at g2
        injection g2 with g3 _
        rcases h3 with ⟨hb, -⟩ | ⟨hb, -⟩ | ⟨hb, -⟩ | ⟨hb, -⟩ <;> rw [hb] at g3 <;> exact absurd g3 (by decide)
      · rw [show t.f_Dim.toNat = (t.f_Dim.toNat - 1) + 1 by omega, List.replicate_succ, List.cons_append] at g2
        injection g2 with g3 _
        exact absurd g3 (by decide)

theorem ptr_ty {t : T_api_Type} (h : validB t = true) : eqb_T_api_Type t { f_Dim := 0, f_Base := 86, f_Name := [] } = (t.f_Base == 86) := by
  obtain ⟨d, b, n⟩ := t
  obtain ⟨-, -, h3, -⟩ := valid_facts h
  dsimp only at h3
  unfold eqb_T_api_Type
  dsimp only
  rcases h3 with ⟨hb, -⟩ | ⟨hb, -⟩ | ⟨hb, hn, hd⟩ | ⟨hb, -⟩
  · rw [hb]; cases (d == 0) <;> rfl
  · rw [hb]; cases (d == 0) <;> rfl
  · rw [hb, hn, hd]; rfl
  · rw [hb]; cases (d == 0) <;> rfl

/-- The name and the descriptor of a member. -/
theorem named_same (p : List T_api_Const) (c : T_api_Const) (hp : shortP p) (hm : memB c.f_Tag = true) : ∃ e, m_pool_member p c = some e ∧ j79x2 p c = some e := by
  unfold m_pool_member j79x2
  have hl : p.length ≤ 1000000 := by have := hp.1; omega
  rw [nat_pool p _ hl, mem_ref, hm]
  simp only [Option.bind_some, if_true]
  rw [nat_ref p _ hl]
  simp only [Option.bind_some]
  have hsh := nat_short hp c.f_B
  generalize natF p c.f_B = w at *
  obtain ⟨n, d, e⟩ := w
  dsimp only at hsh ⊢
  by_cases h0 : e = 0
  · rw [if_neg (by simpa using h0), if_pos (by simpa using h0)]
    obtain ⟨v, s1, s2, s3⟩ := sig_same d (by omega)
    unfold m_armatureref05_named
    rw [s1, s2]
    simp only [Option.bind_some]
    cases hx : (v.2 == 0) == (c.f_Tag == 9) with
    | true => exact ⟨13, rfl, rfl⟩
    | false =>
      simp only [Bool.false_eq_true, if_false]
      by_cases h9 : c.f_Tag = 9
      · have e9 : (c.f_Tag == 9) = true := by simpa using h9
        have key : ∀ b, j90x1 (n, d, e) c b = some (match n with
          | [] => 0
          | c0 :: _ => if c0 = 60 then 12 else 0) := fun b => by
          unfold j90x1 j90x2
          dsimp only
          rw [if_pos e9]
          cases n with
          | nil => rfl
          | cons c0 r0 =>
            rw [if_pos (by rfl), getS0]
            simp only [Option.bind_some]
            rw [show (60 : Int) = ((60 : UInt8).toNat : Int) from rfl, i8_beq]
            by_cases h60 : c0 = 60
            · rw [if_pos (by simpa using h60), if_pos h60]
            · rw [if_neg (by simpa using h60), if_neg h60]
        simp only [key, ite_self, e9, if_true]
        refine ⟨_, rfl, ?_⟩
        cases n with
        | nil => rfl
        | cons c0 r0 =>
          rw [if_pos (decide_eq_true (by simp only [List.length_cons]; omega)), getS0]
          simp only [Option.bind_some]
          rw [show (60 : Int) = ((60 : UInt8).toNat : Int) from rfl, i8_beq]
          by_cases h60 : c0 = 60
          · rw [if_pos (by simpa using h60)]; simp [h60]
          · rw [if_neg (by simpa using h60)]; simp [h60]
      · have e9 : (c.f_Tag == 9) = false := by simpa using h9
        have hv0 : v.2 = 0 := by
          rw [e9] at hx
          cases hh : (v.2 == 0) with
          | true => simpa using hh
          | false => rw [hh] at hx; cases hx
        have hv := (s3 hv0).1
        unfold j90x1 j90x2
        simp only [e9, Bool.false_eq_true, if_false]
        by_cases n1 : n = [60, 99, 108, 105, 110, 105, 116, 62]
        · have n1' : (n == ([60, 99, 108, 105, 110, 105, 116, 62] : List UInt8)) = true := by simpa using n1
          simp only [n1', if_true]
          exact ⟨12, rfl, rfl⟩
        · have n1' : (n == ([60, 99, 108, 105, 110, 105, 116, 62] : List UInt8)) = false := by simpa using n1
          simp only [n1', Bool.false_eq_true, if_false]
          by_cases n2 : n = [60, 105, 110, 105, 116, 62]
          · have n2' : (n == ([60, 105, 110, 105, 116, 62] : List UInt8)) = true := by simpa using n2
            simp only [n2', if_true]
            cases h11 : (c.f_Tag == 11) with
            | true => exact ⟨12, rfl, rfl⟩
            | false =>
              simp only [Bool.false_eq_true, if_false]
              rw [ptr_ty hv, bne]
              cases (v.1.f_Result.f_Base == 86) with
              | true => exact ⟨0, rfl, rfl⟩
              | false => exact ⟨12, rfl, rfl⟩
          · have n2' : (n == ([60, 105, 110, 105, 116, 62] : List UInt8)) = false := by simpa using n2
            simp only [n2', Bool.false_eq_true, if_false]
            exact ⟨0, rfl, rfl⟩
  · rw [if_pos (by simpa using h0), if_neg (by simpa using h0)]
    exact ⟨0, rfl, rfl⟩

/-- A text that is a type or a signature. -/
theorem descr_same (s : List UInt8) (hl : s.length ≤ 1048576) : ∃ v, m_desc_ParseSignature s = some v ∧ m_armatureref05_descriptor s = some (!((v.2 != 0) && (((parseF s).2 != 0) || ((parseF s).1.f_Base == 86)))) := by
  obtain ⟨v, s1, s2, s3⟩ := sig_same s (by omega)
  refine ⟨v, s1, ?_⟩
  unfold m_armatureref05_descriptor
  rw [parse_ref s (by omega), s2]
  simp only [Option.bind_some]
  by_cases h : (parseF s).2 = 0
  · have hv : v.2 ≠ 0 := fun e => by
      obtain ⟨-, q, hq⟩ := s3 e
      exact parse_head h q hq
    rw [if_pos (by simpa using h)]
    have a1 : (v.2 != 0) = true := bne_iff_ne.2 hv
    have a2 : ((parseF s).2 != 0) = false := by simpa using h
    rw [a1, a2, bne]; rfl
  · rw [if_neg (by simpa using h)]
    have a2 : ((parseF s).2 != 0) = true := bne_iff_ne.2 h
    rw [a2]
    simp [bne]

theorem both_ref (p : List T_api_Const) (c : T_api_Const) (x y : Int) (hl : p.length ≤ 1000000) : j78x1 p c x y = some (if (getF p c.f_A x).2 ≠ 0 then (getF p c.f_A x).2 else if c.f_Tag = 7 ∨ c.f_Tag = 8 then 0 else (getF p c.f_B y).2) := by
  unfold j78x1 j78x2 m_armatureref05_refers
  rw [get_ref p _ _ hl, get_ref p _ _ hl]
  simp only [Option.bind_some]
  by_cases h : (getF p c.f_A x).2 = 0 <;> by_cases h7 : c.f_Tag = 7 <;> by_cases h8 : c.f_Tag = 8 <;> simp [h, h7, h8]

/-- What both do with the links and the texts. -/
theorem tail_pool (p : List T_api_Const) (c : T_api_Const) (a b : Int) (f : Bool) (hl : p.length ≤ 1000000) (e : Int) (ht : m_pool_texts p c = some e) : j60x1 (a, b, f) p c = some (if a ≠ 0 ∧ (getF p c.f_A a).2 ≠ 0 then (getF p c.f_A a).2 else if b ≠ 0 ∧ (getF p c.f_B b).2 ≠ 0 then (getF p c.f_B b).2 else e) := by
  unfold j60x1 j60x2 j60x3
  dsimp only
  rw [tag_pool p _ _ hl, tag_pool p _ _ hl, ht]
  simp only [Option.bind_some]
  by_cases ha : a = 0 <;> by_cases h1 : (getF p c.f_A a).2 = 0 <;> by_cases hb : b = 0 <;> by_cases h2 : (getF p c.f_B b).2 = 0 <;> simp [ha, h1, hb, h2]

/-- The fields that are not used. -/
def badU (c : T_api_Const) (a b : Int) : Bool := (c.f_Tag != 1 && c.f_S != []) || ((c.f_Tag != 3 && c.f_Tag != 5) && c.f_N != 0) || (a == 0 && c.f_A != 0) || (b == 0 && c.f_B != 0)
theorem unused_pool (c : T_api_Const) (a b : Int) : m_pool_unused c a b = some (badU c a b) := by
  unfold m_pool_unused badU bne
  cases h3 : (c.f_Tag == 3) <;> cases h1 : (c.f_Tag == 1) <;> cases h5 : (c.f_Tag == 5) <;> cases hS : (c.f_S == []) <;> cases hN : (c.f_N == 0) <;> cases ha : (a == 0) <;> cases hA : (c.f_A == 0) <;> cases hb : (b == 0) <;> cases hB : (c.f_B == 0) <;> rfl

theorem formed_ref (c : T_api_Const) : m_armatureref05_formed c = some (!((c.f_Tag != 1 && c.f_S != []) || ((c.f_Tag != 3 && c.f_Tag != 5) && c.f_N != 0)) && (if c.f_Tag == 12 || memB c.f_Tag then true else if c.f_Tag == 7 || c.f_Tag == 8 then c.f_B == 0 else c.f_A == 0 && c.f_B == 0)) := by
  unfold m_armatureref05_formed j77x1 j77x2 bne
  rw [mem_ref]
  cases h12 : (c.f_Tag == 12) <;> cases hm : memB c.f_Tag <;> cases h7 : (c.f_Tag == 7) <;> cases h8 : (c.f_Tag == 8) <;> cases h3 : (c.f_Tag == 3) <;> cases h1 : (c.f_Tag == 1) <;> cases h5 : (c.f_Tag == 5) <;> cases hS : (c.f_S == []) <;> cases hN : (c.f_N == 0) <;> cases hA : (c.f_A == 0) <;> cases hB : (c.f_B == 0) <;> rfl

/-- Links, then texts. -/
def tailF (p : List T_api_Const) (c : T_api_Const) (a b e : Int) : Int := if a ≠ 0 ∧ (getF p c.f_A a).2 ≠ 0 then (getF p c.f_A a).2 else if b ≠ 0 ∧ (getF p c.f_B b).2 ≠ 0 then (getF p c.f_B b).2 else e

theorem chk_gen (p : List T_api_Const) (c : T_api_Const) (a b e : Int) (hl : p.length ≤ 1000000) (hk : m_pool_links c.f_Tag = some (a, b, true)) (hK : m_armatureref05_Known c.f_Tag = some true) (hf : m_armatureref05_formed c = some (!badU c a b))
    (ht : m_pool_texts p c = some e) (hr : j63x1 p c = some (tailF p c a b e)) : ∃ v, m_pool_check p c = some v ∧ m_armatureref05_checkConst p c = some v ∧ 0 ≤ v ∨ (m_pool_check p c = some v ∧ m_armatureref05_checkConst p c = some v) := by
  unfold m_pool_check m_armatureref05_checkConst
  rw [hk, hK]
  simp only [Option.bind_some, Bool.not_true, Bool.false_eq_true, if_false]
  rw [unused_pool, hf, tail_pool p c a b true hl e ht, hr]
  simp only [Option.bind_some, wrap32_ne]
  unfold tailF
  cases badU c a b with
  | true => exact ⟨4, .inr ⟨rfl, rfl⟩⟩
  | false =>
    cases (c.f_Tag == 1) <;> cases decide ((c.f_S.length : Int) > 1024) <;> cases (c.f_Tag == 3) <;> cases decide (c.f_N < -2147483648) <;> cases decide (c.f_N > 2147483647) <;> exact ⟨_, .inr ⟨rfl, rfl⟩⟩

theorem chk_gen' {p : List T_api_Const} {c : T_api_Const} (a b e : Int) (hl : p.length ≤ 1000000) (hk : m_pool_links c.f_Tag = some (a, b, true)) (hK : m_armatureref05_Known c.f_Tag = some true) (hf : m_armatureref05_formed c = some (!badU c a b))
    (ht : m_pool_texts p c = some e) (hr : j63x1 p c = some (tailF p c a b e)) : ∃ v, m_pool_check p c = some v ∧ m_armatureref05_checkConst p c = some v := by
  obtain ⟨v, h | h⟩ := chk_gen p c a b e hl hk hK hf ht hr
  · exact ⟨v, h.1, h.2.1⟩
  · exact ⟨v, h⟩

theorem check_same (p : List T_api_Const) (c : T_api_Const) (hp : shortP p) : ∃ v, m_pool_check p c = some v ∧ m_armatureref05_checkConst p c = some v := by
  have hl : p.length ≤ 1000000 := by have := hp.1; omega
  have hshort := fun i => utf_short hp i
  have mem0 : ∀ {t : Int}, memB t = false → c.f_Tag = t → m_armatureref05_member c.f_Tag = some false := fun h e => by rw [mem_ref, e, h]
  have mem1 : ∀ {t : Int}, memB t = true → c.f_Tag = t → m_armatureref05_member c.f_Tag = some true := fun h e => by rw [mem_ref, e, h]
  by_cases t1 : c.f_Tag = 1
  · refine chk_gen' 0 0 0 hl (by rw [t1]; rfl) (by rw [t1]; rfl) (by rw [formed_ref]; simp only [badU, t1, memB]; (unfold bne; cases c.f_A == 0 <;> cases c.f_B == 0 <;> cases c.f_N == 0 <;> cases c.f_S == ([] : List UInt8) <;> rfl)) (by unfold m_pool_texts j74x1; rw [t1]; rfl) (by unfold j63x1 tailF; rw [t1]; rfl)
  by_cases t3 : c.f_Tag = 3
  · refine chk_gen' 0 0 0 hl (by rw [t3]; rfl) (by rw [t3]; rfl) (by rw [formed_ref]; simp only [badU, t3, memB]; (unfold bne; cases c.f_A == 0 <;> cases c.f_B == 0 <;> cases c.f_N == 0 <;> cases c.f_S == ([] : List UInt8) <;> rfl)) (by unfold m_pool_texts j74x1; rw [t3]; rfl) (by unfold j63x1 tailF; rw [t3]; rfl)
  by_cases t5 : c.f_Tag = 5
  · refine chk_gen' 0 0 0 hl (by rw [t5]; rfl) (by rw [t5]; rfl) (by rw [formed_ref]; simp only [badU, t5, memB]; (unfold bne; cases c.f_A == 0 <;> cases c.f_B == 0 <;> cases c.f_N == 0 <;> cases c.f_S == ([] : List UInt8) <;> rfl)) (by unfold m_pool_texts j74x1; rw [t5]; rfl) (by unfold j63x1 tailF; rw [t5]; rfl)
  by_cases t7 : c.f_Tag = 7
  · have hpl := hshort c.f_A
    refine chk_gen' 1 0 (if (pccF (utfF p c.f_A).1).2 ≠ 0 then 13 else 0) hl (by rw [t7]; rfl) (by rw [t7]; rfl) (by rw [formed_ref]; simp only [badU, t7, memB]; (unfold bne; cases c.f_A == 0 <;> cases c.f_B == 0 <;> cases c.f_N == 0 <;> cases c.f_S == ([] : List UInt8) <;> rfl)) ?_ ?_
    · unfold m_pool_texts
      rw [if_pos (by simpa using t7), utf_pool p _ hl]
      simp only [Option.bind_some]
      rw [pcc_desc _ (by omega)]
      simp only [Option.bind_some]
      by_cases h : (pccF (utfF p c.f_A).1).2 = 0 <;> simp [h]
    · unfold j63x1 j63x2 m_armatureref05_both
      rw [mem0 (by decide) t7]
      simp only [Option.bind_some, Bool.false_eq_true, if_false]
      rw [both_ref p c 1 1 hl]
      unfold m_armatureref05_contents j79x1 j79x2
      rw [mem0 (by decide) t7, utf_ref p _ hl]
      simp only [Option.bind_some]
      rw [pcc_ref _ (by omega)]
      simp only [Option.bind_some]
      unfold tailF
      by_cases h1 : (getF p c.f_A 1).2 = 0 <;> by_cases h : (pccF (utfF p c.f_A).1).2 = 0 <;> simp [h1, h, t7]
  by_cases t8 : c.f_Tag = 8
  · refine chk_gen' 1 0 0 hl (by rw [t8]; rfl) (by rw [t8]; rfl) (by rw [formed_ref]; simp only [badU, t8, memB]; (unfold bne; cases c.f_A == 0 <;> cases c.f_B == 0 <;> cases c.f_N == 0 <;> cases c.f_S == ([] : List UInt8) <;> rfl)) (by unfold m_pool_texts j74x1; rw [t8]; rfl) ?_
    unfold j63x1 j63x2 m_armatureref05_both
    rw [mem0 (by decide) t8]
    simp only [Option.bind_some, Bool.false_eq_true, if_false]
    rw [both_ref p c 1 1 hl]
    unfold m_armatureref05_contents j79x1 j79x2
    rw [mem0 (by decide) t8]
    simp only [Option.bind_some]
    unfold tailF
    by_cases h1 : (getF p c.f_A 1).2 = 0 <;> simp [h1, t8]
  by_cases t12 : c.f_Tag = 12
  · have hpl := hshort c.f_A
    have hpl2 := hshort c.f_B
    obtain ⟨nb, n1, n2⟩ := member_same (utfF p c.f_A).1 (by omega)
    obtain ⟨v, s1, s2⟩ := descr_same (utfF p c.f_B).1 hpl2
    refine chk_gen' 1 1 (if nb = false then 12 else if ((v.2 != 0) && (((parseF (utfF p c.f_B).1).2 != 0) || ((parseF (utfF p c.f_B).1).1.f_Base == 86))) = true then 13 else 0) hl (by rw [t12]; rfl) (by rw [t12]; rfl) (by rw [formed_ref]; simp only [badU, t12, memB]; (unfold bne; cases c.f_A == 0 <;> cases c.f_B == 0 <;> cases c.f_N == 0 <;> cases c.f_S == ([] : List UInt8) <;> rfl)) ?_ ?_
    · unfold m_pool_texts
      rw [if_neg (by simp [t12]), if_pos (by simpa using t12), utf_pool p _ hl]
      simp only [Option.bind_some]
      rw [utf_pool p _ hl]
      simp only [Option.bind_some]
      rw [n1]
      simp only [Option.bind_some]
      rw [parse_desc _ (by omega), s1]
      simp only [Option.bind_some]
      cases nb <;> cases (v.2 != 0) <;> cases ((parseF (utfF p c.f_B).1).2 != 0) <;> cases ((parseF (utfF p c.f_B).1).1.f_Base == 86) <;> rfl
    · unfold j63x1 j63x2 m_armatureref05_both
      rw [mem0 (by decide) t12]
      simp only [Option.bind_some, Bool.false_eq_true, if_false]
      rw [both_ref p c 1 1 hl]
      unfold m_armatureref05_contents j79x1 j79x2
      rw [mem0 (by decide) t12, utf_ref p _ hl]
      simp only [Option.bind_some]
      rw [utf_ref p _ hl]
      simp only [Option.bind_some]
      rw [n2]
      simp only [Option.bind_some]
      rw [s2]
      simp only [Option.bind_some]
      unfold tailF
      generalize ((v.2 != 0) && (((parseF (utfF p c.f_B).1).2 != 0) || ((parseF (utfF p c.f_B).1).1.f_Base == 86))) = z
      by_cases h1 : (getF p c.f_A 1).2 = 0 <;> by_cases h2 : (getF p c.f_B 1).2 = 0 <;> cases nb <;> cases z <;> simp [h1, h2, t12]
  have memC : memB c.f_Tag = true → ∃ v, m_pool_check p c = some v ∧ m_armatureref05_checkConst p c = some v := fun hm => by
    obtain ⟨e, e1, e2⟩ := named_same p c hp hm
    have hcases : c.f_Tag = 9 ∨ c.f_Tag = 10 ∨ c.f_Tag = 11 := by simpa [memB, or_assoc] using hm
    refine chk_gen' 7 12 e hl ?_ ?_ ?_ ?_ ?_
    · rcases hcases with h | h | h <;> rw [h] <;> rfl
    · rcases hcases with h | h | h <;> rw [h] <;> rfl
    · rw [formed_ref, hm]
      simp [badU]
      try rfl
    · unfold m_pool_texts j74x1 j74x2
      rw [e1]
      rcases hcases with h | h | h <;> rw [h] <;> rfl
    · unfold j63x1 j63x2 m_armatureref05_both
      rw [mem_ref, hm]
      simp only [Option.bind_some, if_true]
      rw [both_ref p c 7 12 hl]
      unfold m_armatureref05_contents j79x1
      rw [e2]
      unfold tailF
      by_cases h1 : (getF p c.f_A 7).2 = 0 <;> by_cases h2 : (getF p c.f_B 12).2 = 0 <;> simp [h1, h2, t1, t3, t5, t7, t8, t12]
  cases hm : memB c.f_Tag with
  | true => exact memC hm
  | false =>
    have h9 : c.f_Tag ≠ 9 ∧ c.f_Tag ≠ 10 ∧ c.f_Tag ≠ 11 := by
      simp only [memB, Bool.or_eq_false_iff, beq_eq_false_iff_ne] at hm
      exact ⟨hm.1.1, hm.1.2, hm.2⟩
    refine ⟨11, ?_, ?_⟩
    · unfold m_pool_check m_pool_links j71x1 j71x2 j71x3 j71x4 j71x5
      simp [t1, t3, t5, t7, t8, t12, h9.1, h9.2.1, h9.2.2]
    · unfold m_armatureref05_checkConst m_armatureref05_Known
      rw [mem_ref, hm]
      simp [t1, t3, t5, t7, t8, t12]

theorem Check_same (p : List T_api_Const) (hp : shortP p) : ∃ v, m_pool_Check p = some v ∧ m_armatureref05_Check p = some v := by
  have hl := hp.1
  unfold m_pool_Check m_armatureref05_Check
  by_cases h : (p.length : Int) > 1000
  · rw [if_pos (decide_eq_true h), if_pos (decide_eq_true h)]
    exact ⟨_, rfl, rfl⟩
  · rw [if_neg (by simpa using h), if_neg (by simpa using h)]
    have hloop : ∃ r, loopM (l41x1 p) rounds 0 = some r ∧ loopM (l49x1 p) rounds 0 = some r := by
      obtain ⟨r, r', h1, h2, rfl⟩ := loopM_two (f := l41x1 p) (f' := l49x1 p) (fun q q' : Int => q = q' ∧ ∃ k : Nat, k ≤ p.length ∧ q = (k : Int)) (fun q => p.length - q.toNat) (fun r r' => r = r') (fun q q' hq => by
        obtain ⟨rfl, k, hk, rfl⟩ := hq
        unfold l41x1 l49x1
        by_cases hlt : k < p.length
        · have hg : p[k]? = some p[k] := List.getElem?_eq_getElem hlt
          generalize p[k] = c at hg
          rw [if_pos (decide_eq_true (by omega)), if_pos (decide_eq_true (by omega)), getRP hg]
          simp only [Option.bind_some]
          obtain ⟨e, e1, e2⟩ := check_same p c hp
          rw [e1, e2, wrapP (by omega) (by omega)]
          simp only [Option.bind_some]
          by_cases he : e = 0
          · rw [if_neg (by simpa using he)]
            exact ⟨_, _, rfl, rfl, ⟨rfl, k + 1, by omega, by simp⟩, by omega⟩
          · rw [if_pos (by simpa using he)]
            exact ⟨_, _, rfl, rfl, rfl⟩
        · rw [if_neg (by simp; omega), if_neg (by simp; omega)]
          exact ⟨_, _, rfl, rfl, rfl⟩) rounds 0 0 ⟨rfl, 0, by omega, rfl⟩ (by show p.length - (0 : Int).toNat < 18446744073709551616; omega)
      exact ⟨r, h1, h2⟩
    obtain ⟨r, h1, h2⟩ := hloop
    rw [h1, h2]
    simp only [Option.bind_some]
    cases r with
    | inl u => exact ⟨_, rfl, rfl⟩
    | inr y => exact ⟨_, rfl, rfl⟩

end Go.Proofs
