/-
  Laws about class names, for this chapter's numbers. No condition.
-/
import Derived.Test.YtcppeincgkalbaaPooLaw
namespace Go.Proofs
open Go.Den

theorem wrap64 (n : Int) : IntKind.wrap .i64 n = (n + 9223372036854775808) % 18446744073709551616 - 9223372036854775808 := by
  show (if (true && decide (n % 18446744073709551616 ≥ 9223372036854775808)) = true then n % 18446744073709551616 - 18446744073709551616 else n % 18446744073709551616) = _
  rw [Bool.true_and]
  by_cases h : n % 18446744073709551616 ≥ 9223372036854775808
  · rw [if_pos (decide_eq_true h)]; omega
  · rw [if_neg (by simpa using h)]; omega

theorem wf_u8 {n : Int} (h : (Lit.int .u8 n).wf = true) : 0 ≤ n ∧ n ≤ 255 := by
  have h' : IntKind.min .u8 ≤ n ∧ n ≤ IntKind.max .u8 := by simpa [Lit.wf] using h
  exact h'

theorem sub_take {α : Type} (l : List α) (n : Nat) (h : n ≤ l.length) : sub l 0 (n : Int) = some (l.take n) := by
  unfold sub
  rw [if_pos ⟨by omega, by omega, by omega⟩]; simp

theorem prefix_take : ∀ (a b : List UInt8), b.length ≤ a.length → (a.take b.length == b) = b.isPrefixOf a
  | a, [], _ => by simp
  | [], c :: b, h => by simp at h
  | x :: a, c :: b, h => by
    have := prefix_take a b (by simpa using h)
    simp only [List.length_cons, List.take_succ_cons, List.isPrefixOf_cons_cons, ← this]
    rw [Bool.eq_iff_iff]; simp
    exact fun _ => ⟨fun h => h.symm, fun h => h.symm⟩

theorem prefix_short : ∀ (a b : List UInt8), ¬ b.length ≤ a.length → b.isPrefixOf a = false
  | a, [], h => by simp at h
  | [], c :: b, _ => rfl
  | x :: a, c :: b, h => by
    simp only [List.isPrefixOf_cons_cons, prefix_short a b (by simpa using h), Bool.and_false]

def hasP (a b : List UInt8) : Bool := b.isPrefixOf a

theorem hasP_lite (a b : List UInt8) : m_internal_stringslite_HasPrefix a b = some (hasP a b) := by
  unfold m_internal_stringslite_HasPrefix hasP
  by_cases h : b.length ≤ a.length
  · rw [if_pos (decide_eq_true (by omega)), sub_take a b.length h, Option.bind_some, prefix_take a b h]
  · rw [if_neg (by simp; omega), prefix_short a b h]

theorem catK_ok {a b : List UInt8} (h : a.length + b.length ≤ 9223372036854775807) : catK a b = some (a ++ b) := by
  unfold catK; rw [if_pos h]

theorem hasP_append (a b : List UInt8) : hasP (a ++ b) a = true := by
  unfold hasP; rw [List.isPrefixOf_iff_prefix]; exact List.prefix_append a b

theorem getS_u8 {s : List UInt8} {i v : Int} (h : getS s i = some v) : ∃ c : UInt8, s[i.toNat]? = some c ∧ v = (c.toNat : Int) ∧ 0 ≤ i ∧ i < s.length := by
  unfold getS at h
  split at h
  · rename_i h0
    cases hc : s[i.toNat]? with
    | none => rw [hc] at h; cases h
    | some c =>
      rw [hc] at h
      simp at h
      have : i.toNat < s.length := (List.getElem?_eq_some_iff.1 hc).1
      exact ⟨c, rfl, h.symm, h0, by omega⟩
  · cases h

theorem getS_ok {s : List UInt8} {i : Int} (h0 : 0 ≤ i) (h1 : i < s.length) : ∃ c : UInt8, s[i.toNat]? = some c ∧ getS s i = some (c.toNat : Int) := by
  have hlt : i.toNat < s.length := by omega
  refine ⟨s[i.toNat], List.getElem?_eq_getElem hlt, ?_⟩
  unfold getS; rw [if_pos h0, List.getElem?_eq_getElem hlt]; rfl

def letterN (n : Nat) : Bool := (decide (97 ≤ n) && decide (n ≤ 122)) || (decide (65 ≤ n) && decide (n ≤ 90)) || n == 95 || n == 36

def digitN (n : Nat) : Bool := decide (48 ≤ n) && decide (n ≤ 57)

def letterB (c : UInt8) : Bool := letterN c.toNat

def digitB (c : UInt8) : Bool := digitN c.toNat

theorem class_all : ∀ n : Fin 256, m_name_class ((n.val : Nat) : Int) = some (if letterN n.val then 1 else if digitN n.val then 2 else 0) := by decide +kernel

theorem letter_all : ∀ n : Fin 256, m_armatureref03_letter ((n.val : Nat) : Int) = some (letterN n.val) := by decide +kernel

theorem class_eq (c : UInt8) : m_name_class (c.toNat : Int) = some (if letterB c then 1 else if digitB c then 2 else 0) := class_all ⟨c.toNat, c.toNat_lt⟩

theorem letter_eq (c : UInt8) : m_armatureref03_letter (c.toNat : Int) = some (letterB c) := letter_all ⟨c.toNat, c.toNat_lt⟩

theorem class47 : m_name_class 47 = some 0 := class_all 47

def okP : Bool → List UInt8 → Bool
  | b, [] => !b
  | b, c :: l => if letterB c then okP false l else if digitB c then !b && okP false l else false

def okC : Bool → List UInt8 → Bool
  | b, [] => !b
  | b, c :: l => if c = 47 then !b && okC true l else if letterB c then okC false l else if digitB c then !b && okC false l else false

theorem okC_part : ∀ (p r : List UInt8) (b : Bool), (47 : UInt8) ∉ p → okC b (p ++ 47 :: r) = (okP b p && okC true r)
  | [], r, b, _ => by simp [okC, okP]
  | c :: p, r, b, h => by
    have hc : c ≠ 47 := fun e => h (by simp [e])
    have hp : (47 : UInt8) ∉ p := fun e => h (by simp [e])
    simp only [List.cons_append, okC, okP, if_neg hc, okC_part p r _ hp]
    by_cases h1 : letterB c = true
    · simp [h1]
    · by_cases h2 : digitB c = true <;> simp [h1, h2, Bool.and_assoc]

theorem okC_last : ∀ (p : List UInt8) (b : Bool), (47 : UInt8) ∉ p → okC b p = okP b p
  | [], b, _ => rfl
  | c :: p, b, h => by
    have hc : c ≠ 47 := fun e => h (by simp [e])
    have hp : (47 : UInt8) ∉ p := fun e => h (by simp [e])
    simp only [okC, okP, if_neg hc, okC_last p _ hp]

theorem drop_get {α : Type} {s : List α} {i : Nat} {c : α} (h : s[i]? = some c) : s.drop i = c :: s.drop (i + 1) := by
  have hlt := (List.getElem?_eq_some_iff.1 h).1
  rw [List.drop_eq_getElem_cons hlt]
  congr 1
  exact (List.getElem?_eq_some_iff.1 h).2

theorem part_eq (s : List UInt8) (hl : (s.length : Int) ≤ 140737488355328) : m_armatureref03_part s = some (okP true s) := by
  obtain ⟨q, hq, hp⟩ := loopM_ind (f := l70x1 s) (fun t : Int => 0 ≤ t ∧ t ≤ s.length ∧ okP true s = okP (t == 0) (s.drop t.toNat)) (fun t => ((s.length : Int) - t).toNat)
    (fun q => match q with
      | .inl _ => okP true s = decide (s.length > 0)
      | .inr r => okP true s = r)
    (fun t ht => by
      obtain ⟨h0, h1, h2⟩ := ht
      unfold l70x1
      by_cases h : t < s.length
      · obtain ⟨c, hc, hg⟩ := getS_ok h0 h
        have e1 : IntKind.wrap .i64 (t + 1) = t + 1 := by rw [wrap64]; omega
        have hd : s.drop t.toNat = c :: s.drop (t + 1).toNat := by rw [drop_get hc]; congr 2; omega
        rw [hd] at h2
        have hz : (t + 1 == 0) = false := by simp; omega
        by_cases hL : letterB c = true
        · refine ⟨.next (t + 1), by simp [h, hg, letter_eq, hL, e1], ⟨by omega, by omega, ?_⟩, by omega⟩
          rw [h2, hz]; simp [okP, hL]
        · by_cases ht0 : t = 0
          · subst ht0
            refine ⟨.done (.inr false), by simp only [h, hg, letter_eq, hL, decide_true, if_true, Option.bind_some, Bool.not_false, beq_self_eq_true, Bool.false_eq_true, if_false], ?_⟩
            show okP true s = false
            rw [h2]; simp [okP, hL]
          · by_cases hD : digitB c = true
            · have hD' : 48 ≤ c.toNat ∧ c.toNat ≤ 57 := by simpa [digitB, digitN] using hD
              have a1 : ¬ ((c.toNat : Int) < 48) := by omega
              have a2 : ¬ ((c.toNat : Int) > 57) := by omega
              refine ⟨.next (t + 1), ?_, ⟨by omega, by omega, ?_⟩, by omega⟩
              · simp only [h, hg, letter_eq, hL, e1, ht0, a1, a2, decide_true, decide_false, if_true, Option.bind_some, Bool.not_false, beq_iff_eq, Bool.false_eq_true, if_false]
              · rw [h2, hz]; simp [okP, hL, hD, ht0]
            · refine ⟨.done (.inr false), ?_, ?_⟩
              · have hD' : ¬ (48 ≤ c.toNat ∧ c.toNat ≤ 57) := by simpa [digitB, digitN] using hD
                by_cases a1 : (c.toNat : Int) < 48
                · simp only [h, hg, letter_eq, hL, ht0, a1, decide_true, if_true, Option.bind_some, Bool.not_false, beq_iff_eq, Bool.false_eq_true, if_false]
                · have a2 : (c.toNat : Int) > 57 := by omega
                  simp only [h, hg, letter_eq, hL, ht0, a1, a2, decide_true, decide_false, if_true, Option.bind_some, Bool.not_false, beq_iff_eq, Bool.false_eq_true, if_false]
              · show okP true s = false
                rw [h2]; simp [okP, hL, hD]
      · refine ⟨.done (.inl ()), by simp [h], ?_⟩
        show okP true s = decide (s.length > 0)
        rw [h2, List.drop_eq_nil_of_le (by omega)]
        by_cases hs : s.length > 0
        · simp [okP, hs, show ¬ t = 0 by omega]
        · have : t = 0 := by omega
          simp [okP, hs, this])
    rounds 0 ⟨by omega, by omega, by simp⟩ (by unfold rounds; omega)
  unfold m_armatureref03_part
  cases q with
  | inl u => simp only [hq, Option.bind_some, hp]; congr 1; simp
  | inr r => simp only [hq, Option.bind_some, hp]

theorem class_main (s : List UInt8) (hl : (s.length : Int) ≤ 140737488355328) : j64x1 s = some (okC true s) := by
  obtain ⟨q, hq, hp⟩ := loopM_ind (f := l64x1 s) (fun t : Bool × Int => 0 ≤ t.2 ∧ t.2 ≤ s.length ∧ okC true s = okC t.1 (s.drop t.2.toNat)) (fun t => ((s.length : Int) - t.2).toNat)
    (fun q => match q with
      | .inl b => okC true s = !b
      | .inr r => okC true s = r)
    (fun t ht => by
      obtain ⟨b, t⟩ := t
      obtain ⟨h0, h1, h2⟩ := ht
      dsimp only at h0 h1 h2
      unfold l64x1
      by_cases h : t < s.length
      · obtain ⟨c, hc, hg⟩ := getS_ok h0 h
        have e1 : IntKind.wrap .i64 (t + 1) = t + 1 := by rw [wrap64]; omega
        have hd : s.drop t.toNat = c :: s.drop (t + 1).toNat := by rw [drop_get hc]; congr 2; omega
        rw [hd] at h2
        have h47 : ((c.toNat : Int) = 47) ↔ c = 47 := ⟨fun e => UInt8.toNat_inj.1 (by show c.toNat = 47; omega), fun e => by subst e; rfl⟩
        by_cases hs : c = 47
        · subst hs
          have hcl : letterB 47 = false ∧ digitB 47 = false := by decide
          cases b with
          | false =>
            refine ⟨.next (true, t + 1), by simp [h, hg, class47, j64x5, e1], ⟨by dsimp only; omega, by dsimp only; omega, ?_⟩, by dsimp only; omega⟩
            rw [h2]; simp [okC]
          | true =>
            refine ⟨.done (.inr false), by simp [h, hg, class47, j64x2], ?_⟩
            show okC true s = false
            rw [h2]; simp [okC]
        · have hn : ¬ ((c.toNat : Int) = 47) := fun e => hs (h47.1 e)
          by_cases hL : letterB c = true
          · refine ⟨.next (false, t + 1), by simp [h, hg, class_eq, hn, j64x2, j64x4, hL, e1], ⟨by dsimp only; omega, by dsimp only; omega, ?_⟩, by dsimp only; omega⟩
            rw [h2]; simp [okC, hs, hL]
          · by_cases hD : digitB c = true
            · cases b with
              | false =>
                refine ⟨.next (false, t + 1), by simp [h, hg, class_eq, hn, j64x2, j64x3, j64x4, hL, hD, e1], ⟨by dsimp only; omega, by dsimp only; omega, ?_⟩, by dsimp only; omega⟩
                rw [h2]; simp [okC, hs, hL, hD]
              | true =>
                refine ⟨.done (.inr false), by simp [h, hg, class_eq, hn, j64x2, j64x3, hL, hD], ?_⟩
                show okC true s = false
                rw [h2]; simp [okC, hs, hL, hD]
            · refine ⟨.done (.inr false), by simp [h, hg, class_eq, hn, j64x2, hL, hD], ?_⟩
              show okC true s = false
              rw [h2]; simp [okC, hs, hL, hD]
      · refine ⟨.done (.inl b), by simp [h], ?_⟩
        show okC true s = !b
        rw [h2, List.drop_eq_nil_of_le (by omega)]; rfl)
    rounds (true, 0) ⟨by dsimp only; omega, by dsimp only; omega, by simp⟩ (by unfold rounds; dsimp only; omega)
  unfold j64x1
  cases q with
  | inl u => simp only [hq, Option.bind_some]; exact congrArg some hp.symm
  | inr r => simp only [hq, Option.bind_some]; exact congrArg some hp.symm

theorem isClass (s : List UInt8) (hl : (s.length : Int) ≤ 140737488355328) : m_name_IsClassName s = some (decide (s.length ≤ 64) && okC true s) := by
  unfold m_name_IsClassName
  by_cases h : s = []
  · subst h; rfl
  · rw [if_neg (by simpa using h)]
    by_cases h64 : (s.length : Int) > 64
    · rw [if_pos (decide_eq_true h64)]
      have : decide (s.length ≤ 64) = false := decide_eq_false (by omega)
      rw [this]; rfl
    · rw [if_neg (by simpa using h64), class_main s hl]
      have : decide (s.length ≤ 64) = true := decide_eq_true (by omega)
      rw [this]; rfl

theorem ref_class (s : List UInt8) (hl : (s.length : Int) ≤ 140737488355328) : m_armatureref03_IsClassName s = some (decide (s.length ≤ 64) && okC true s) := by
  unfold m_armatureref03_IsClassName
  by_cases h64 : (s.length : Int) > 64
  · rw [if_pos (decide_eq_true h64)]
    have : decide (s.length ≤ 64) = false := decide_eq_false (by omega)
    rw [this]; rfl
  rw [if_neg (by simpa using h64)]
  have h64' : decide (s.length ≤ 64) = true := decide_eq_true (by omega)
  rw [h64', Bool.true_and]
  obtain ⟨q, hq, hp⟩ := loopM_ind (f := l68x1 s) (fun t : Int × Int => 0 ≤ t.1 ∧ t.1 ≤ t.2 ∧ t.2 ≤ s.length ∧ (∀ j : Nat, t.1 ≤ j → (j : Int) < t.2 → s[j]? ≠ some 47) ∧ okC true s = okC true (s.drop t.1.toNat)) (fun t => ((s.length : Int) - t.2).toNat)
    (fun q => match q with
      | .inl a => 0 ≤ a ∧ a ≤ (s.length : Int) ∧ (∀ j : Nat, a ≤ j → s[j]? ≠ some 47) ∧ okC true s = okC true (s.drop a.toNat)
      | .inr r => okC true s = r)
    (fun t ht => by
      obtain ⟨a, i⟩ := t
      obtain ⟨h0, h1, h2, h3, h4⟩ := ht
      dsimp only at h0 h1 h2 h3 h4
      unfold l68x1
      by_cases h : i < s.length
      · obtain ⟨c, hc, hg⟩ := getS_ok (by omega) h
        have e1 : IntKind.wrap .i64 (i + 1) = i + 1 := by rw [wrap64]; omega
        by_cases hs : c = 47
        · subst hs
          have hsub : sub s a i = some ((s.drop a.toNat).take (i.toNat - a.toNat)) := by
            unfold sub; rw [if_pos (by omega)]
          obtain ⟨p, hpd⟩ : ∃ p, p = (s.drop a.toNat).take (i.toNat - a.toNat) := ⟨_, rfl⟩
          have hpl : (p.length : Int) ≤ 140737488355328 := by rw [hpd]; simp; omega
          have hsplit : s.drop a.toNat = p ++ 47 :: s.drop (i + 1).toNat := by
            have e2 : (s.drop a.toNat).drop (i.toNat - a.toNat) = 47 :: s.drop (i + 1).toNat := by
              rw [List.drop_drop, show a.toNat + (i.toNat - a.toNat) = i.toNat by omega, drop_get hc]
              congr 2; omega
            rw [← e2, hpd, List.take_append_drop]
          have hno : (47 : UInt8) ∉ p := fun hm => by
            obtain ⟨k, hk⟩ := List.getElem?_of_mem hm
            rw [hpd, List.getElem?_take] at hk
            split at hk
            · rw [List.getElem?_drop] at hk
              exact h3 (a.toNat + k) (by omega) (by omega) hk
            · cases hk
          have hpart := okC_part p (s.drop (i + 1).toNat) true hno
          rw [hsplit, hpart] at h4
          cases hok : okP true p with
          | false =>
            refine ⟨.done (.inr false), ?_, ?_⟩
            · simp [h, hg, hsub, ← hpd, part_eq p hpl, hok]
            · show okC true s = false
              rw [h4, hok]; rfl
          | true =>
            refine ⟨.next (i + 1, i + 1), ?_, ⟨by dsimp only; omega, by dsimp only; omega, by dsimp only; omega, fun j hj hj2 => ?_, ?_⟩, by dsimp only; omega⟩
            · simp [h, hg, hsub, ← hpd, part_eq p hpl, hok, e1]
            · dsimp only at hj hj2; omega
            · dsimp only; rw [h4, hok, Bool.true_and]
        · have hn : ¬ ((c.toNat : Int) = 47) := fun e => hs (UInt8.toNat_inj.1 (by show c.toNat = 47; omega))
          refine ⟨.next (a, i + 1), by simp [h, hg, hn, e1], ⟨by dsimp only; omega, by dsimp only; omega, by dsimp only; omega, fun j hj hj2 => ?_, h4⟩, by dsimp only; omega⟩
          dsimp only at hj hj2
          by_cases hji : (j : Int) = i
          · rw [show j = i.toNat by omega, hc]; simpa using hs
          · exact h3 j hj (by omega)
      · refine ⟨.done (.inl a), by simp [h], h0, by omega, fun j hj => ?_, h4⟩
        by_cases hji : (j : Int) < i
        · exact h3 j hj hji
        · rw [List.getElem?_eq_none (by omega)]; simp)
    rounds (0, 0) ⟨by dsimp only; omega, by dsimp only; omega, by dsimp only; omega, fun j hj hj2 => by dsimp only at hj hj2; omega, by simp⟩ (by unfold rounds; dsimp only; omega)
  cases q with
  | inl a =>
    obtain ⟨k0, k1, k2, k3⟩ := hp
    have hsub : sub s a (s.length : Int) = some (s.drop a.toNat) := by
      unfold sub; rw [if_pos (by omega)]
      congr 1
      rw [List.take_of_length_le (by simp)]
    have hno : (47 : UInt8) ∉ s.drop a.toNat := fun hm => by
      obtain ⟨k, hk⟩ := List.getElem?_of_mem hm
      rw [List.getElem?_drop] at hk
      exact k2 (a.toNat + k) (by omega) hk
    have hpl : ((s.drop a.toNat).length : Int) ≤ 140737488355328 := by simp; omega
    simp only [hq, Option.bind_some, hsub, part_eq _ hpl]
    rw [k3, okC_last _ true hno]
  | inr r => simp only [hq, Option.bind_some]; exact congrArg some hp.symm

theorem indexByte_none : ∀ (l : List UInt8) (c : UInt8), (Lib.indexByte l c < 0) ↔ c ∉ l
  | [], c => by simp [Lib.indexByte]
  | b :: l, c => by
    have ih := indexByte_none l c
    have hge := Lib.indexByte_ge l c
    unfold Lib.indexByte
    by_cases hb : b = c
    · subst hb; simp
    · have hb' : (b == c) = false := by simpa using hb
      have hne : ¬ c = b := fun e => hb e.symm
      rw [hb']
      simp only [Bool.false_eq_true, if_false, List.mem_cons, hne, false_or]
      rw [← ih]
      by_cases h1 : Lib.indexByte l c = -1
      · rw [h1]; simp
      · rw [if_neg (by simpa using h1)]; omega

theorem okP_slash : ∀ (l : List UInt8) (b : Bool), (47 : UInt8) ∈ l → okP b l = false
  | c :: l, b, h => by
    unfold okP
    by_cases hc : c = 47
    · subst hc; rw [if_neg (by decide), if_neg (by decide)]
    · have hm : (47 : UInt8) ∈ l := by
        rcases List.mem_cons.1 h with h | h
        · exact absurd h.symm hc
        · exact h
      rw [okP_slash l false hm]
      simp

theorem okC_split : ∀ (p l : List UInt8) (b : Bool), okC b (p ++ 47 :: l) = (okC b p && okC true l)
  | [], l, b => by simp [okC]
  | c :: p, l, b => by
    simp only [List.cons_append, okC, okC_split p l]
    by_cases hc : c = 47
    · simp [hc, Bool.and_assoc]
    · by_cases h1 : letterB c = true
      · simp [hc, h1]
      · by_cases h2 : digitB c = true <;> simp [hc, h1, h2, Bool.and_assoc]

theorem okC_bad : ∀ (p r : List UInt8) (c : UInt8) (b : Bool), c ≠ 47 → letterB c = false → digitB c = false → okC b (p ++ c :: r) = false
  | [], r, c, b, h1, h2, h3 => by simp [okC, h1, h2, h3]
  | x :: p, r, c, b, h1, h2, h3 => by
    simp only [List.cons_append, okC, okC_bad p r c _ h1 h2 h3]
    simp

theorem bad_facts (c : UInt8) (h : ¬ (c.toNat = 47 ∨ c.toNat = 95 ∨ c.toNat = 36 ∨ (48 ≤ c.toNat ∧ c.toNat ≤ 57) ∨ (97 ≤ c.toNat ∧ c.toNat ≤ 122) ∨ (65 ≤ c.toNat ∧ c.toNat ≤ 90))) : c ≠ 47 ∧ letterB c = false ∧ digitB c = false := by
  refine ⟨fun e => h (.inl (by rw [e]; rfl)), ?_, ?_⟩
  · simp only [letterB, letterN, Bool.or_eq_false_iff, Bool.and_eq_false_iff, decide_eq_false_iff_not, beq_eq_false_iff_ne]
    omega
  · simp only [digitB, digitN, Bool.and_eq_false_iff, decide_eq_false_iff_not]
    omega

theorem member_same (s : List UInt8) (hl : (s.length : Int) ≤ 140737488355328) : ∃ b, m_name_IsMemberName s = some b ∧ m_armatureref03_IsMemberName s = some b := by
  unfold m_name_IsMemberName m_armatureref03_IsMemberName
  by_cases h1 : s = [60, 105, 110, 105, 116, 62]
  · exact ⟨true, by rw [if_pos (by simpa using h1)], by rw [if_pos (by simpa using h1)]⟩
  rw [if_neg (c := (s == [60, 105, 110, 105, 116, 62]) = true) (by simpa using h1)]
  by_cases h2 : s = [60, 99, 108, 105, 110, 105, 116, 62]
  · exact ⟨true, by rw [if_pos (by simpa using h2)], by rw [if_neg (by simpa using h1), if_pos (by simpa using h2)]⟩
  rw [if_neg (c := (s == [60, 99, 108, 105, 110, 105, 116, 62]) = true) (by simpa using h2)]
  have hidx : m_strings_IndexByte s 47 = some (Lib.indexByte s 47) := rfl
  have hpart := part_eq s hl
  unfold j55x1
  rw [isClass s hl, Option.bind_some, hidx]
  by_cases h64 : s.length ≤ 64
  · have h64' : ((s.length : Int) ≤ 64) := by omega
    by_cases hm : (47 : UInt8) ∈ s
    · have hneg : ¬ Lib.indexByte s 47 < 0 := fun h => (indexByte_none s 47).1 h hm
      refine ⟨false, ?_, ?_⟩
      · by_cases hok : (decide (s.length ≤ 64) && okC true s) = true
        · rw [if_pos hok, Option.bind_some]; exact congrArg some (decide_eq_false hneg)
        · rw [if_neg hok]
      · simp [h1, h2, h64', hpart, okP_slash s true hm]
    · have hneg : Lib.indexByte s 47 < 0 := (indexByte_none s 47).2 hm
      refine ⟨okP true s, ?_, by simp [h1, h2, h64', hpart]⟩
      rw [okC_last s true hm, decide_eq_true h64, Bool.true_and]
      cases okP true s with
      | true => rw [if_pos rfl, Option.bind_some]; exact congrArg some (decide_eq_true hneg)
      | false => rfl
  · have h64' : ¬ ((s.length : Int) ≤ 64) := by omega
    refine ⟨false, ?_, by simp [h1, h2, h64']⟩
    rw [decide_eq_false h64]; rfl

end Go.Proofs
