/-
  What the models of desc's functions come to: prefix, take, Parse, ParseClassConstant; the law DescParse. No condition.
-/
import Derived.Test.YtbkfbbghkbmkaaaDesLaw2
namespace Go.Proofs
open Go.Den

theorem getS_of {s : List UInt8} {i : Nat} {c : UInt8} (h : s[i]? = some c) : getS s (i : Int) = some (c.toNat : Int) := by
  unfold getS
  rw [if_pos (by omega), Int.toNat_natCast, h]; rfl

theorem getS0 {c : UInt8} {r : List UInt8} : getS (c :: r) 0 = some (c.toNat : Int) := rfl

theorem lead_loop (s : List UInt8) (hl : (s.length : Int) ≤ 140737488355328) : loopM (l35x1 s) rounds 0 = some (lead s : Int) := by
  have hle := lead_le s
  have : ∃ r, loopM (l35x1 s) rounds 0 = some r ∧ r = (lead s : Int) := by
    refine loopM_ind (fun i : Int => 0 ≤ i ∧ i ≤ lead s) (fun i : Int => ((s.length : Int) - i).toNat) (fun r => r = (lead s : Int)) ?_ rounds 0 ⟨by omega, by omega⟩ ?_
    · intro i ⟨i0, i1⟩
      obtain ⟨n, rfl⟩ := Int.eq_ofNat_of_zero_le i0
      unfold l35x1
      by_cases hlt : n < s.length
      · have hc : s[n]? = some s[n] := List.getElem?_eq_getElem hlt
        rw [if_pos (by simpa using hlt), getS_of hc]
        try simp only [Option.bind_some]
        rw [show (91 : Int) = ((91 : UInt8).toNat : Int) from rfl, i8_beq]
        by_cases h91 : s[n] = 91
        · rw [if_pos (by simpa using h91), wrap_ok (by omega) (by omega)]
          have hn : n ≠ lead s := by
            intro e
            apply lead_stop s
            rw [← e, hc, h91]
          exact ⟨_, rfl, ⟨by omega, by omega⟩, by omega⟩
        · rw [if_neg (by simpa using h91)]
          refine ⟨_, rfl, ?_⟩
          show (n : Int) = lead s
          rcases Nat.lt_or_ge n (lead s) with h' | h'
          · have := lead_get s n h'
            rw [hc] at this
            exact absurd (by simpa using this) h91
          · omega
      · rw [if_neg (by simpa using hlt)]
        exact ⟨_, rfl, by show (n : Int) = lead s; omega⟩
    · show ((s.length : Int) - 0).toNat < 18446744073709551616
      omega
  obtain ⟨r, h1, h2⟩ := this
  rw [h1, h2]

theorem index59 (s : List UInt8) : m_strings_IndexByte s 59 = some (Lib.indexByte s 59) := rfl

theorem chk_valid (t : T_api_Type) (r : List UInt8) (hl : (t.f_Name.length : Int) ≤ 140737488355328) : ∃ b, m_desc_Valid t = some b ∧ m_armatureref04_Valid t = some b ∧ chk t r = if b = true then some (t, r) else none :=
  ⟨validB t, valid_desc t hl, valid_ref t hl, rfl⟩

theorem pre_desc (s : List UInt8) (hl : (s.length : Int) ≤ 140737488355328) : ∃ v, m_desc_prefix s = some v ∧ match rd s with
    | some (t, r) => v = (t, r, true)
    | none => v.2.2 = false := by
  have hle := lead_le s
  unfold m_desc_prefix rd
  rw [lead_loop s hl]
  try simp only [Option.bind_some]
  rw [sub_drop s _ hle]
  try simp only [Option.bind_some]
  have hlen : (s.drop (lead s)).length ≤ s.length := by rw [List.length_drop]; omega
  cases hd : s.drop (lead s) with
  | nil => exact ⟨_, rfl, rfl⟩
  | cons c q =>
    rw [hd] at hlen
    simp only [List.length_cons] at hlen
    rw [if_neg (by simp), getS0]
    try simp only [Option.bind_some]
    rw [show (1 : Int) = ((1 : Nat) : Int) from rfl, sub_drop (c :: q) 1 (by simp)]
    simp only [Option.bind_some, List.drop_succ_cons, List.drop_zero]
    rw [show (76 : Int) = ((76 : UInt8).toNat : Int) from rfl, i8_beq]
    by_cases hc : c = 76
    · rw [if_pos (by simpa using hc), if_pos hc, index59]
      try simp only [Option.bind_some]
      have hcut := cut_spec q
      cases hq : cut q with
      | none =>
        rw [hq] at hcut
        rw [if_pos (decide_eq_true hcut.1)]
        exact ⟨_, rfl, rfl⟩
      | some x =>
        obtain ⟨nm, r'⟩ := x
        rw [hq] at hcut
        obtain ⟨h1, h2, h3⟩ := hcut
        have hql : q.length = nm.length + 1 + r'.length := by rw [h2]; simp; omega
        rw [h1, if_neg (by simp)]
        rw [show (0 : Int) = ((0 : Nat) : Int) from rfl, sub_mid q 0 nm.length (by omega) (by omega)]
        try simp only [Option.bind_some]
        rw [wrap_ok (by omega) (by omega)]
        try simp only [Option.bind_some]
        rw [show (nm.length : Int) + ((1 : Nat) : Int) = ((nm.length + 1 : Nat) : Int) by omega, sub_drop q _ (by omega)]
        try simp only [Option.bind_some]
        have e1 : (q.drop 0).take (nm.length - 0) = nm := by rw [h2]; simp
        have e2 : q.drop (nm.length + 1) = r' := by rw [h2, List.drop_append]; simp
        rw [e1, e2, hc]
        unfold j35x1
        obtain ⟨b, k1, -, k3⟩ := chk_valid (mkT (lead s) 76 nm) r' (by show (nm.length : Int) ≤ _; omega)
        unfold mkT at k1
        rw [show (((76 : UInt8).toNat : Nat) : Int) = 76 from rfl, k1]
        rw [k3]
        cases b with
        | true => exact ⟨_, rfl, rfl⟩
        | false => exact ⟨_, rfl, rfl⟩
    · rw [if_neg (by simpa using hc), if_neg hc]
      unfold j35x1
      obtain ⟨b, k1, -, k3⟩ := chk_valid (mkT (lead s) (c.toNat : Int) []) q (by show (([] : List UInt8).length : Int) ≤ _; simp)
      unfold mkT at k1
      rw [k1]
      rw [k3]
      cases b with
      | true => exact ⟨_, rfl, rfl⟩
      | false => exact ⟨_, rfl, rfl⟩

def zeroT : T_api_Type := { f_Dim := 0, f_Base := 0, f_Name := [] }
/-- What Parse answers. -/
def parseF (s : List UInt8) : T_api_Type × Int := match rd s with
  | some (t, []) => (t, 0)
  | _ => (zeroT, 13)

theorem parse_desc (s : List UInt8) (hl : (s.length : Int) ≤ 140737488355328) : m_desc_Parse s = some (parseF s) := by
  obtain ⟨v, h1, h2⟩ := pre_desc s hl
  unfold m_desc_Parse parseF
  rw [h1]
  try simp only [Option.bind_some]
  cases hr : rd s with
  | none => rw [hr] at h2; dsimp only at h2; rw [h2]; rfl
  | some x =>
    obtain ⟨t, r⟩ := x
    rw [hr] at h2
    dsimp only at h2
    subst h2
    cases r with
    | nil => rfl
    | cons c r => rfl

/-! ### take -/

theorem lead_ref (s : List UInt8) (hl : (s.length : Int) ≤ 140737488355328) (at_ : Nat) (h : at_ ≤ s.length) : loopM (l36x1 s) rounds ((at_ : Int), 0) = some ((lead (s.drop at_) : Int), ((at_ + lead (s.drop at_) : Nat) : Int)) := by
  have hle := lead_le (s.drop at_)
  rw [List.length_drop] at hle
  have hget : ∀ k, (s.drop at_)[k]? = s[at_ + k]? := fun k => by rw [List.getElem?_drop]
  have : ∃ r, loopM (l36x1 s) rounds ((at_ : Int), 0) = some r ∧ r = ((lead (s.drop at_) : Int), ((at_ + lead (s.drop at_) : Nat) : Int)) := by
    refine loopM_ind (fun p => ∃ k : Nat, k ≤ lead (s.drop at_) ∧ p = (((at_ + k : Nat) : Int), (k : Int))) (fun p => ((s.length : Int) - p.1).toNat) (fun r => r = ((lead (s.drop at_) : Int), ((at_ + lead (s.drop at_) : Nat) : Int))) ?_ rounds _ ⟨0, by omega, by simp⟩ ?_
    · rintro p ⟨k, hk, rfl⟩
      unfold l36x1
      dsimp only
      by_cases hlt : at_ + k < s.length
      · have hc : s[at_ + k]? = some s[at_ + k] := List.getElem?_eq_getElem hlt
        rw [if_pos (decide_eq_true (by omega)), getS_of hc]
        try simp only [Option.bind_some]
        rw [show (91 : Int) = ((91 : UInt8).toNat : Int) from rfl, i8_beq]
        by_cases h91 : s[at_ + k] = 91
        · rw [if_pos (by simpa using h91)]
          unfold j36x1
          dsimp only
          rw [wrap_ok (by omega) (by omega)]
          try simp only [Option.bind_some]
          rw [wrap_ok (by omega) (by omega)]
          try simp only [Option.bind_some]
          have hn : k ≠ lead (s.drop at_) := by
            intro e
            apply lead_stop (s.drop at_)
            rw [← e, hget, hc, h91]
          exact ⟨_, rfl, ⟨k + 1, by omega, by simp; omega⟩, by dsimp only; omega⟩
        · rw [if_neg (by simpa using h91)]
          refine ⟨_, rfl, ?_⟩
          have hn : k = lead (s.drop at_) := by
            rcases Nat.lt_or_ge k (lead (s.drop at_)) with h' | h'
            · have := lead_get _ k h'
              rw [hget, hc] at this
              exact absurd (by simpa using this) h91
            · omega
          show ((k : Int), ((at_ + k : Nat) : Int)) = _
          rw [← hn]
      · rw [if_neg (by simp; omega)]
        refine ⟨_, rfl, ?_⟩
        show ((k : Int), ((at_ + k : Nat) : Int)) = _
        rw [show k = lead (s.drop at_) by omega]
    · show ((s.length : Int) - (at_ : Int)).toNat < 18446744073709551616
      omega
  obtain ⟨r, h1, h2⟩ := this
  rw [h1, h2]

/-- The first semicolon from a place on, or the end. -/
theorem semi_loop (s : List UInt8) (hl : (s.length : Int) ≤ 140737488355328) (at_ : Nat) (h : at_ ≤ s.length) : loopM (l36x2 s) rounds (at_ : Int) = some (match cut (s.drop at_) with
    | some (a, _) => ((at_ + a.length : Nat) : Int)
    | none => (s.length : Int)) := by
  have hcut := cut_spec (s.drop at_)
  have hlen : (s.drop at_).length = s.length - at_ := List.length_drop
  have hget : ∀ k, (s.drop at_)[k]? = s[at_ + k]? := fun k => by rw [List.getElem?_drop]
  -- how far it goes
  obtain ⟨m, hm, hno, hend⟩ : ∃ m : Nat, (match cut (s.drop at_) with
      | some (a, _) => ((at_ + a.length : Nat) : Int)
      | none => (s.length : Int)) = ((at_ + m : Nat) : Int) ∧ (∀ k, k < m → ∃ c, s[at_ + k]? = some c ∧ c ≠ 59) ∧ (at_ + m = s.length ∨ s[at_ + m]? = some 59) := by
    cases hq : cut (s.drop at_) with
    | none =>
      rw [hq] at hcut
      refine ⟨s.length - at_, by dsimp only; omega, fun k hk => ?_, .inl (by omega)⟩
      have hlt : at_ + k < s.length := by omega
      refine ⟨s[at_ + k], List.getElem?_eq_getElem hlt, fun e => hcut.2 ?_⟩
      have : (s.drop at_)[k]? = some 59 := by rw [hget, List.getElem?_eq_getElem hlt, e]
      exact List.mem_of_getElem? this
    | some x =>
      obtain ⟨a, b⟩ := x
      rw [hq] at hcut
      obtain ⟨-, h2, h3⟩ := hcut
      refine ⟨a.length, rfl, fun k hk => ?_, .inr ?_⟩
      · have : (s.drop at_)[k]? = some a[k] := by rw [h2, List.getElem?_append_left hk, List.getElem?_eq_getElem hk]
        rw [hget] at this
        exact ⟨_, this, fun e => h3 (e ▸ List.getElem_mem hk)⟩
      · rw [← hget, h2, List.getElem?_append_right (Nat.le_refl _)]; simp
  rw [hm]
  have hms : at_ + m ≤ s.length := by
    rcases hend with h' | h'
    · omega
    · rcases Nat.lt_or_ge (at_ + m) s.length with h2 | h2
      · omega
      · rw [List.getElem?_eq_none h2] at h'; cases h'
  have : ∃ r, loopM (l36x2 s) rounds (at_ : Int) = some r ∧ r = ((at_ + m : Nat) : Int) := by
    refine loopM_ind (fun p => ∃ k : Nat, k ≤ m ∧ p = ((at_ + k : Nat) : Int)) (fun p => ((s.length : Int) - p).toNat) (fun r => r = ((at_ + m : Nat) : Int)) ?_ rounds _ ⟨0, by omega, by simp⟩ ?_
    · rintro p ⟨k, hk, rfl⟩
      unfold l36x2
      by_cases hkm : k < m
      · obtain ⟨c, hc, hne⟩ := hno k hkm
        rw [if_pos (decide_eq_true (by omega)), getS_of hc]
        try simp only [Option.bind_some]
        rw [show (59 : Int) = ((59 : UInt8).toNat : Int) from rfl, bne, i8_beq]
        rw [if_pos (by simpa using hne), wrap_ok (by omega) (by omega)]
        exact ⟨_, rfl, ⟨k + 1, by omega, by simp; omega⟩, by omega⟩
      · obtain rfl : k = m := by omega
        rcases hend with h' | h'
        · rw [if_neg (by simp; omega)]
          exact ⟨_, rfl, rfl⟩
        · have hlt : at_ + k < s.length := by
            rcases Nat.lt_or_ge (at_ + k) s.length with h2 | h2
            · exact h2
            · rw [List.getElem?_eq_none h2] at h'; cases h'
          rw [if_pos (decide_eq_true (by omega)), getS_of h']
          try simp only [Option.bind_some]
          rw [show (59 : Int) = ((59 : UInt8).toNat : Int) from rfl, bne, i8_beq]
          exact ⟨_, rfl, rfl⟩
    · show ((s.length : Int) - (at_ : Int)).toNat < 18446744073709551616
      omega
  obtain ⟨r, h1, h2⟩ := this
  rw [h1, h2]

theorem take_ref (s : List UInt8) (hl : (s.length : Int) ≤ 140737488355328) (at_ : Nat) (h : at_ ≤ s.length) : m_armatureref04_take s (at_ : Int) = some (match rd (s.drop at_) with
    | some (t, r) => (t, ((s.length - r.length : Nat) : Int))
    | none => (zeroT, -1)) := by
  have hle := lead_le (s.drop at_)
  rw [List.length_drop] at hle
  unfold m_armatureref04_take rd
  rw [lead_ref s hl at_ h]
  try simp only [Option.bind_some]
  have hdd : (s.drop at_).drop (lead (s.drop at_)) = s.drop (at_ + lead (s.drop at_)) := by rw [List.drop_drop]
  rw [hdd]
  generalize hk : at_ + lead (s.drop at_) = k
  have hks : k ≤ s.length := by omega
  cases hd : s.drop k with
  | nil =>
    have : s.length ≤ k := by simpa using hd
    rw [if_pos (decide_eq_true (by omega))]; rfl
  | cons c q =>
    have hlt : k < s.length := by
      rcases Nat.lt_or_ge k s.length with h' | h'
      · exact h'
      · rw [List.drop_eq_nil_of_le h'] at hd; cases hd
    have hc : s[k]? = some c := by
      have := congrArg (fun l => l[0]?) hd
      simpa using this
    have hq : s.drop (k + 1) = q := by
      have := congrArg List.tail hd
      simpa [List.tail_drop] using this
    have hql : q.length = s.length - (k + 1) := by rw [← hq, List.length_drop]
    rw [if_neg (by simp; omega), getS_of hc]
    try simp only [Option.bind_some]
    rw [wrap_ok (by omega) (by omega)]
    try simp only [Option.bind_some]
    rw [show (76 : Int) = ((76 : UInt8).toNat : Int) from rfl, i8_beq, show (k : Int) + 1 = ((k + 1 : Nat) : Int) by omega]
    by_cases h76 : c = 76
    · rw [if_pos (by simpa using h76), if_pos h76, semi_loop s hl (k + 1) (by omega), hq]
      try simp only [Option.bind_some]
      have hcut := cut_spec q
      cases hcq : cut q with
      | none => rw [if_pos (decide_eq_true (by simp))]; rfl
      | some x =>
        obtain ⟨nm, r'⟩ := x
        rw [hcq] at hcut
        obtain ⟨-, e2, e3⟩ := hcut
        have hl2 : q.length = nm.length + 1 + r'.length := by rw [e2]; simp; omega
        rw [if_neg (by simp; omega), sub_mid s (k + 1) (k + 1 + nm.length) (by omega) (by omega)]
        try simp only [Option.bind_some]
        rw [wrap_ok (by omega) (by omega)]
        try simp only [Option.bind_some]
        have e4 : (s.drop (k + 1)).take (k + 1 + nm.length - (k + 1)) = nm := by
          rw [hq, show k + 1 + nm.length - (k + 1) = nm.length by omega, e2]; simp
        rw [e4, h76]
        unfold j36x2
        obtain ⟨b, -, k2, k3⟩ := chk_valid (mkT (lead (s.drop at_)) 76 nm) r' (by show (nm.length : Int) ≤ _; omega)
        unfold mkT at k2
        dsimp only
        rw [show (((76 : UInt8).toNat : Nat) : Int) = 76 from rfl, k2, k3]
        cases b with
        | false => rfl
        | true =>
          simp only [Option.bind_some, Bool.not_true, Bool.false_eq_true, if_false, if_true, Option.some.injEq, Prod.mk.injEq]
          exact ⟨rfl, by omega⟩
    · rw [if_neg (by simpa using h76), if_neg h76]
      unfold j36x2
      obtain ⟨b, -, k2, k3⟩ := chk_valid (mkT (lead (s.drop at_)) (c.toNat : Int) []) q (by show (([] : List UInt8).length : Int) ≤ _; simp)
      unfold mkT at k2
      dsimp only
      rw [k2, k3]
      cases b with
      | false => rfl
      | true =>
        simp only [Option.bind_some, Bool.not_true, Bool.false_eq_true, if_false, if_true, Option.some.injEq, Prod.mk.injEq]
        exact ⟨rfl, by omega⟩

theorem parse_ref (s : List UInt8) (hl : (s.length : Int) ≤ 140737488355328) : m_armatureref04_Parse s = some (parseF s) := by
  unfold m_armatureref04_Parse parseF
  rw [show (0 : Int) = ((0 : Nat) : Int) from rfl, take_ref s hl 0 (Nat.zero_le _), List.drop_zero]
  try simp only [Option.bind_some]
  cases hr : rd s with
  | none => rw [if_pos (by simp <;> omega)]; rfl
  | some x =>
    obtain ⟨t, r⟩ := x
    have := (rd_spec hr).2.2.1
    cases r with
    | nil =>
      dsimp only
      rw [if_neg (by simp)]
    | cons c r =>
      have hne : ((s.length - (c :: r).length : Nat) : Int) ≠ (s.length : Int) := by simp only [List.length_cons] at this ⊢; omega
      dsimp only
      rw [if_pos (bne_iff_ne.2 hne)]; rfl

/-- What ParseClassConstant answers. -/
def pccF (s : List UInt8) : T_api_Type × Int := if clsB s = true then ({ f_Dim := 0, f_Base := 76, f_Name := s }, 0) else match s with
  | 91 :: _ => parseF s
  | _ => (zeroT, 13)

theorem pcc_desc (s : List UInt8) (hl : (s.length : Int) ≤ 140737488355328) : m_desc_ParseClassConstant s = some (pccF s) := by
  unfold m_desc_ParseClassConstant pccF m_strings_HasPrefix
  rw [isClass s hl, hasP_lite, parse_desc s hl]
  try simp only [Option.bind_some]
  unfold clsB
  cases decide (s.length ≤ 64) && okC true s with
  | true => rfl
  | false =>
    simp only [Bool.false_eq_true, if_false]
    cases s with
    | nil => rfl
    | cons c r =>
      have : hasP (c :: r) [91] = (91 == c) := by simp [hasP, List.isPrefixOf]
      rw [this]
      by_cases hc : c = 91
      · subst hc; rfl
      · rw [if_neg (by simpa using fun e : (91 : UInt8) = c => hc e.symm)]
        split
        · rename_i h; injection h with h1 _; exact absurd h1 hc
        · rfl

theorem pcc_ref (s : List UInt8) (hl : (s.length : Int) ≤ 140737488355328) : m_armatureref04_ParseClassConstant s = some (pccF s) := by
  unfold m_armatureref04_ParseClassConstant pccF j14x1
  rw [ref_class s hl, parse_ref s hl]
  try simp only [Option.bind_some]
  unfold clsB
  cases decide (s.length ≤ 64) && okC true s with
  | true => rfl
  | false =>
    simp only [Bool.false_eq_true, if_false]
    cases s with
    | nil => rfl
    | cons c r =>
      rw [if_neg (by simp), getS0]
      try simp only [Option.bind_some]
      rw [show (91 : Int) = ((91 : UInt8).toNat : Int) from rfl, bne, i8_beq]
      by_cases hc : c = 91
      · subst hc; rfl
      · rw [if_pos (by simpa using hc)]
        split
        · rename_i h; injection h with h1 _; exact absurd h1 hc
        · rfl

theorem eqb_refl (t : T_api_Type) : eqb_T_api_Type t t = true := by simp [eqb_T_api_Type]
theorem works4 : m_armaturelaw04_works = some true := by decide +kernel

end Go.Proofs
