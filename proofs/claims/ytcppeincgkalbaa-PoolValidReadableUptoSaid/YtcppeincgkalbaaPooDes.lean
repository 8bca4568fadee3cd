/-
  Laws about descriptors that are read, for this chapter's numbers. No condition.
-/
import Derived.Test.YtcppeincgkalbaaPooNam
namespace Go.Proofs
open Go.Den

def clsB (s : List UInt8) : Bool := decide (s.length ≤ 64) && okC true s

def validB (t : T_api_Type) : Bool :=
  decide (0 ≤ t.f_Dim) && decide (t.f_Dim ≤ 8) &&
  ((t.f_Base == 73 || t.f_Base == 74) && (t.f_Name == []) || t.f_Base == 86 && (t.f_Name == []) && t.f_Dim == 0 || t.f_Base == 76 && clsB t.f_Name)

theorem valid_desc (t : T_api_Type) (hl : (t.f_Name.length : Int) ≤ 140737488355328) : m_desc_Valid t = some (validB t) := by
  unfold m_desc_Valid j75x1 j75x2 j75x3 validB clsB
  rw [isClass _ hl]
  by_cases h1 : t.f_Dim < 0
  · simp [h1, show ¬ 0 ≤ t.f_Dim by omega]
  · by_cases h2 : t.f_Dim > 8
    · simp [h1, h2, show ¬ t.f_Dim ≤ 8 by omega]
    · by_cases b1 : t.f_Base = 73
      · simp [h1, b1, show ¬ 8 < t.f_Dim by omega, show 0 ≤ t.f_Dim by omega, show t.f_Dim ≤ 8 by omega]
      · by_cases b2 : t.f_Base = 74
        · simp [h1, b2, show ¬ 8 < t.f_Dim by omega, show 0 ≤ t.f_Dim by omega, show t.f_Dim ≤ 8 by omega]
        · by_cases b3 : t.f_Base = 86
          · by_cases b4 : t.f_Dim = 0
            · simp [b3, b4]
            · simp [h1, b3, b4, show ¬ 8 < t.f_Dim by omega, show 0 ≤ t.f_Dim by omega, show t.f_Dim ≤ 8 by omega]
          · by_cases b5 : t.f_Base = 76
            · simp [h1, b5, show ¬ 8 < t.f_Dim by omega, show 0 ≤ t.f_Dim by omega, show t.f_Dim ≤ 8 by omega]
            · simp [h1, b1, b2, b3, b5, show ¬ 8 < t.f_Dim by omega]

theorem valid_ref (t : T_api_Type) (hl : (t.f_Name.length : Int) ≤ 140737488355328) : m_armatureref04_Valid t = some (validB t) := by
  unfold m_armatureref04_Valid j79x1 j79x2 j79x3 validB clsB
  rw [ref_class _ hl]
  by_cases h1 : t.f_Dim < 0
  · simp [h1, show ¬ 0 ≤ t.f_Dim by omega]
  · by_cases h2 : t.f_Dim > 8
    · simp [h1, h2, show ¬ t.f_Dim ≤ 8 by omega]
    · by_cases b1 : t.f_Base = 73
      · simp [h1, b1, show ¬ 8 < t.f_Dim by omega, show 0 ≤ t.f_Dim by omega, show t.f_Dim ≤ 8 by omega]
      · by_cases b2 : t.f_Base = 74
        · simp [h1, b2, show ¬ 8 < t.f_Dim by omega, show 0 ≤ t.f_Dim by omega, show t.f_Dim ≤ 8 by omega]
        · by_cases b3 : t.f_Base = 86
          · by_cases b4 : t.f_Dim = 0
            · by_cases b6 : t.f_Name = [] <;> simp [b3, b4, b6]
            · by_cases b6 : t.f_Name = [] <;> simp [h1, b3, b4, b6, show ¬ 8 < t.f_Dim by omega, show 0 ≤ t.f_Dim by omega, show t.f_Dim ≤ 8 by omega]
          · by_cases b5 : t.f_Base = 76
            · simp [h1, b5, show ¬ 8 < t.f_Dim by omega, show 0 ≤ t.f_Dim by omega, show t.f_Dim ≤ 8 by omega]
            · simp [h1, b1, b2, b3, b5, show ¬ 8 < t.f_Dim by omega]

theorem valid_facts {t : T_api_Type} (h : validB t = true) : 0 ≤ t.f_Dim ∧ t.f_Dim ≤ 8 ∧ ((t.f_Base = 73 ∧ t.f_Name = []) ∨ (t.f_Base = 74 ∧ t.f_Name = []) ∨ (t.f_Base = 86 ∧ t.f_Name = [] ∧ t.f_Dim = 0) ∨ (t.f_Base = 76 ∧ clsB t.f_Name = true)) ∧ t.f_Name.length ≤ 64 := by
  simp only [validB, Bool.and_eq_true, Bool.or_eq_true, decide_eq_true_eq, beq_iff_eq] at h
  obtain ⟨⟨h1, h2⟩, h3⟩ := h
  refine ⟨h1, h2, ?_, ?_⟩
  · rcases h3 with (⟨h3 | h3, h4⟩ | ⟨⟨h3, h4⟩, h5⟩) | ⟨h3, h4⟩
    · exact .inl ⟨h3, h4⟩
    · exact .inr (.inl ⟨h3, h4⟩)
    · exact .inr (.inr (.inl ⟨h3, h4, h5⟩))
    · exact .inr (.inr (.inr ⟨h3, h4⟩))
  · rcases h3 with (⟨_, h4⟩ | ⟨⟨_, h4⟩, _⟩) | ⟨_, h4⟩
    · rw [h4]; simp
    · rw [h4]; simp
    · simp only [clsB, Bool.and_eq_true, decide_eq_true_eq] at h4; exact h4.1

def fmt (t : T_api_Type) : List UInt8 := List.replicate t.f_Dim.toNat 91 ++ UInt8.ofNat t.f_Base.toNat :: (if t.f_Base = 76 then t.f_Name ++ [59] else [])

theorem fmt_len {t : T_api_Type} (h : validB t = true) : (fmt t).length ≤ 74 ∧ 1 ≤ (fmt t).length := by
  obtain ⟨h1, h2, -, h4⟩ := valid_facts h
  unfold fmt
  split <;> simp <;> omega

theorem growK_ok {n : Nat} (b : Nat) (h : n * b ≤ 140737488355328) (hb : 1 ≤ b) : growK b n = some () := by
  unfold growK
  have : n ≤ n * b := Nat.le_mul_of_pos_right n hb
  rw [if_pos ⟨by omega, h⟩]

theorem wrap_ok {n : Int} (h0 : -9223372036854775808 ≤ n) (h1 : n < 9223372036854775808) : IntKind.wrap .i64 n = n := by
  rw [wrap64]; omega

def cut : List UInt8 → Option (List UInt8 × List UInt8)
  | [] => none
  | c :: r => if c = 59 then some ([], r) else (cut r).map fun x => (c :: x.1, x.2)

def lead : List UInt8 → Nat
  | [] => 0
  | c :: r => if c = 91 then lead r + 1 else 0

def mkT (d : Nat) (b : Int) (n : List UInt8) : T_api_Type := { f_Dim := d, f_Base := b, f_Name := n }

def chk (t : T_api_Type) (r : List UInt8) : Option (T_api_Type × List UInt8) := if validB t = true then some (t, r) else none

def rd (s : List UInt8) : Option (T_api_Type × List UInt8) :=
  match s.drop (lead s) with
  | [] => none
  | c :: r =>
    if c = 76 then
      match cut r with
      | none => none
      | some (nm, r') => chk (mkT (lead s) 76 nm) r'
    else chk (mkT (lead s) (c.toNat : Int) []) r

theorem cut_spec : ∀ l, match cut l with
    | none => Lib.indexByte l 59 < 0 ∧ (59 : UInt8) ∉ l
    | some (a, b) => Lib.indexByte l 59 = a.length ∧ l = a ++ 59 :: b ∧ (59 : UInt8) ∉ a
  | [] => by simp [cut, Lib.indexByte]
  | c :: r => by
    have ih := cut_spec r
    unfold cut
    by_cases hc : c = 59
    · rw [if_pos hc]; subst hc; simp [Lib.indexByte]
    · rw [if_neg hc]
      cases h : cut r with
      | none =>
        rw [h] at ih
        have h1 := (indexByte_none (c :: r) 59).2 (by simp only [List.mem_cons, not_or]; exact ⟨fun e => hc e.symm, ih.2⟩)
        exact ⟨h1, by simp only [List.mem_cons, not_or]; exact ⟨fun e => hc e.symm, ih.2⟩⟩
      | some x =>
        obtain ⟨a, b⟩ := x
        rw [h] at ih
        obtain ⟨i1, i2, i3⟩ := ih
        refine ⟨?_, by show c :: r = c :: a ++ 59 :: b; rw [i2]; rfl, by simp only [List.mem_cons, not_or]; exact ⟨fun e => hc e.symm, i3⟩⟩
        have : ¬ Lib.indexByte r 59 < 0 := by omega
        simp [Lib.indexByte, hc, i1]

theorem lead_le : ∀ s, lead s ≤ s.length
  | [] => by simp [lead]
  | c :: r => by
    have := lead_le r
    unfold lead; split <;> simp; omega

theorem lead_get : ∀ (s : List UInt8) (i : Nat), i < lead s → s[i]? = some 91
  | [], i, h => by simp [lead] at h
  | c :: r, i, h => by
    unfold lead at h
    split at h
    · rename_i hc
      cases i with
      | zero => simp [hc]
      | succ i => simpa using lead_get r i (by omega)
    · omega

theorem lead_stop : ∀ (s : List UInt8), s[lead s]? ≠ some 91
  | [] => by simp
  | c :: r => by
    unfold lead
    split
    · simpa using lead_stop r
    · rename_i hc; simpa using hc

theorem lead_split : ∀ s : List UInt8, s = List.replicate (lead s) 91 ++ s.drop (lead s)
  | [] => rfl
  | c :: r => by
    have ih := lead_split r
    unfold lead
    split
    · rename_i hc
      subst hc
      rw [List.replicate_succ, List.drop_succ_cons, List.cons_append, ← ih]
    · simp

theorem i8_eq (c d : UInt8) : ((c.toNat : Int) = (d.toNat : Int)) ↔ c = d := by
  constructor
  · intro h; exact UInt8.toNat_inj.1 (by omega)
  · intro h; rw [h]

theorem i8_beq (c d : UInt8) : ((c.toNat : Int) == (d.toNat : Int)) = (c == d) := by
  rw [Bool.eq_iff_iff]; simp only [beq_iff_eq]; exact i8_eq c d

theorem sub_drop {α : Type} (l : List α) (n : Nat) (h : n ≤ l.length) : sub l (n : Int) (l.length : Int) = some (l.drop n) := by
  unfold sub
  rw [if_pos (by omega)]
  simp [List.take_of_length_le]

theorem sub_mid {α : Type} (l : List α) (n m : Nat) (h : n ≤ m) (hm : m ≤ l.length) : sub l (n : Int) (m : Int) = some ((l.drop n).take (m - n)) := by
  unfold sub
  rw [if_pos (by omega)]
  simp

theorem rd_spec {s r : List UInt8} {t : T_api_Type} (h : rd s = some (t, r)) : validB t = true ∧ s = fmt t ++ r ∧ r.length < s.length ∧ t.f_Name.length ≤ 64 := by
  have hs := lead_split s
  unfold rd at h
  cases hd : s.drop (lead s) with
  | nil => rw [hd] at h; cases h
  | cons c q =>
    rw [hd] at h hs
    dsimp only at h
    have key : ∀ (nm r' : List UInt8) (b : Int), chk (mkT (lead s) b nm) r' = some (t, r) → validB t = true ∧ t = mkT (lead s) b nm ∧ r' = r := fun nm r' b hc => by
      unfold chk at hc
      split at hc
      · rename_i hv; cases hc; exact ⟨hv, rfl, rfl⟩
      · cases hc
    split at h
    · rename_i hc
      subst hc
      have hcut := cut_spec q
      cases hq : cut q with
      | none => rw [hq] at h; cases h
      | some x =>
        obtain ⟨nm, r'⟩ := x
        rw [hq] at h hcut
        obtain ⟨k1, k2, k3⟩ := key _ _ _ h
        subst k3
        have hf : s = fmt t ++ r' := by
          rw [k2]
          unfold fmt mkT
          dsimp only
          rw [if_pos rfl, show ((lead s : Nat) : Int).toNat = lead s from rfl]
          have hq2 : q = nm ++ 59 :: r' := hcut.2.1
          conv => lhs; rw [hs, hq2]
          simp
        refine ⟨k1, hf, ?_, (valid_facts k1).2.2.2⟩
        have := (fmt_len k1).2
        have hl := congrArg List.length hf
        rw [List.length_append] at hl; omega
    · rename_i hc
      obtain ⟨k1, k2, k3⟩ := key _ _ _ h
      subst k3
      have hf : s = fmt t ++ q := by
        rw [k2]
        unfold fmt mkT
        dsimp only
        rw [if_neg (fun e : (c.toNat : Int) = 76 => hc ((i8_eq c 76).1 e))]
        rw [show ((lead s : Nat) : Int).toNat = lead s from rfl, show ((c.toNat : Nat) : Int).toNat = c.toNat from rfl]
        conv => lhs; rw [hs]
        simp
      refine ⟨k1, hf, ?_, (valid_facts k1).2.2.2⟩
      have := (fmt_len k1).2
      have hl := congrArg List.length hf
      rw [List.length_append] at hl; omega

theorem getS_of {s : List UInt8} {i : Nat} {c : UInt8} (h : s[i]? = some c) : getS s (i : Int) = some (c.toNat : Int) := by
  unfold getS
  rw [if_pos (by omega), Int.toNat_natCast, h]; rfl

theorem getS0 {c : UInt8} {r : List UInt8} : getS (c :: r) 0 = some (c.toNat : Int) := rfl

theorem lead_loop (s : List UInt8) (hl : (s.length : Int) ≤ 140737488355328) : loopM (l67x1 s) rounds 0 = some (lead s : Int) := by
  have hle := lead_le s
  have : ∃ r, loopM (l67x1 s) rounds 0 = some r ∧ r = (lead s : Int) := by
    refine loopM_ind (fun i : Int => 0 ≤ i ∧ i ≤ lead s) (fun i : Int => ((s.length : Int) - i).toNat) (fun r => r = (lead s : Int)) ?_ rounds 0 ⟨by omega, by omega⟩ ?_
    · intro i ⟨i0, i1⟩
      obtain ⟨n, rfl⟩ := Int.eq_ofNat_of_zero_le i0
      unfold l67x1
      by_cases hlt : n < s.length
      · have hc : s[n]? = some s[n] := List.getElem?_eq_getElem hlt
        rw [if_pos (by simpa using hlt), getS_of hc]
        try simp only [Option.bind_some]
        rw [show (91 : Int) = ((91 : UInt8).toNat : Int) from rfl, i8_beq]
        by_cases h91 : s[n] = 91
        · rw [if_pos (by simpa using h91), wrap_ok (by omega) (by omega)]
          have hn : n ≠ lead s := by
            intro e
            apply lead_stop s
            rw [← e, hc, h91]
          exact ⟨_, rfl, ⟨by omega, by omega⟩, by omega⟩
        · rw [if_neg (by simpa using h91)]
          refine ⟨_, rfl, ?_⟩
          show (n : Int) = lead s
          rcases Nat.lt_or_ge n (lead s) with h' | h'
          · have := lead_get s n h'
            rw [hc] at this
            exact absurd (by simpa using this) h91
          · omega
      · rw [if_neg (by simpa using hlt)]
        exact ⟨_, rfl, by show (n : Int) = lead s; omega⟩
    · show ((s.length : Int) - 0).toNat < 18446744073709551616
      omega
  obtain ⟨r, h1, h2⟩ := this
  rw [h1, h2]

theorem index59 (s : List UInt8) : m_strings_IndexByte s 59 = some (Lib.indexByte s 59) := rfl

theorem chk_valid (t : T_api_Type) (r : List UInt8) (hl : (t.f_Name.length : Int) ≤ 140737488355328) : ∃ b, m_desc_Valid t = some b ∧ m_armatureref04_Valid t = some b ∧ chk t r = if b = true then some (t, r) else none :=
  ⟨validB t, valid_desc t hl, valid_ref t hl, rfl⟩

theorem pre_desc (s : List UInt8) (hl : (s.length : Int) ≤ 140737488355328) : ∃ v, m_desc_prefix s = some v ∧ match rd s with
    | some (t, r) => v = (t, r, true)
    | none => v.2.2 = false := by
  have hle := lead_le s
  unfold m_desc_prefix rd
  rw [lead_loop s hl]
  try simp only [Option.bind_some]
  rw [sub_drop s _ hle]
  try simp only [Option.bind_some]
  have hlen : (s.drop (lead s)).length ≤ s.length := by rw [List.length_drop]; omega
  cases hd : s.drop (lead s) with
  | nil => exact ⟨_, rfl, rfl⟩
  | cons c q =>
    rw [hd] at hlen
    simp only [List.length_cons] at hlen
    rw [if_neg (by simp), getS0]
    try simp only [Option.bind_some]
    rw [show (1 : Int) = ((1 : Nat) : Int) from rfl, sub_drop (c :: q) 1 (by simp)]
    simp only [Option.bind_some, List.drop_succ_cons, List.drop_zero]
    rw [show (76 : Int) = ((76 : UInt8).toNat : Int) from rfl, i8_beq]
    by_cases hc : c = 76
    · rw [if_pos (by simpa using hc), if_pos hc, index59]
      try simp only [Option.bind_some]
      have hcut := cut_spec q
      cases hq : cut q with
      | none =>
        rw [hq] at hcut
        rw [if_pos (decide_eq_true hcut.1)]
        exact ⟨_, rfl, rfl⟩
      | some x =>
        obtain ⟨nm, r'⟩ := x
        rw [hq] at hcut
        obtain ⟨h1, h2, h3⟩ := hcut
        have hql : q.length = nm.length + 1 + r'.length := by rw [h2]; simp; omega
        rw [h1, if_neg (by simp)]
        rw [show (0 : Int) = ((0 : Nat) : Int) from rfl, sub_mid q 0 nm.length (by omega) (by omega)]
        try simp only [Option.bind_some]
        rw [wrap_ok (by omega) (by omega)]
        try simp only [Option.bind_some]
        rw [show (nm.length : Int) + ((1 : Nat) : Int) = ((nm.length + 1 : Nat) : Int) by omega, sub_drop q _ (by omega)]
        try simp only [Option.bind_some]
        have e1 : (q.drop 0).take (nm.length - 0) = nm := by rw [h2]; simp
        have e2 : q.drop (nm.length + 1) = r' := by rw [h2, List.drop_append]; simp
        rw [e1, e2, hc]
        unfold j67x1
        obtain ⟨b, k1, -, k3⟩ := chk_valid (mkT (lead s) 76 nm) r' (by show (nm.length : Int) ≤ _; omega)
        unfold mkT at k1
        rw [show (((76 : UInt8).toNat : Nat) : Int) = 76 from rfl, k1]
        rw [k3]
        cases b with
        | true => exact ⟨_, rfl, rfl⟩
        | false => exact ⟨_, rfl, rfl⟩
    · rw [if_neg (by simpa using hc), if_neg hc]
      unfold j67x1
      obtain ⟨b, k1, -, k3⟩ := chk_valid (mkT (lead s) (c.toNat : Int) []) q (by show (([] : List UInt8).length : Int) ≤ _; simp)
      unfold mkT at k1
      rw [k1]
      rw [k3]
      cases b with
      | true => exact ⟨_, rfl, rfl⟩
      | false => exact ⟨_, rfl, rfl⟩

def zeroT : T_api_Type := { f_Dim := 0, f_Base := 0, f_Name := [] }

def parseF (s : List UInt8) : T_api_Type × Int := match rd s with
  | some (t, []) => (t, 0)
  | _ => (zeroT, 13)

theorem parse_desc (s : List UInt8) (hl : (s.length : Int) ≤ 140737488355328) : m_desc_Parse s = some (parseF s) := by
  obtain ⟨v, h1, h2⟩ := pre_desc s hl
  unfold m_desc_Parse parseF
  rw [h1]
  try simp only [Option.bind_some]
  cases hr : rd s with
  | none => rw [hr] at h2; dsimp only at h2; rw [h2]; rfl
  | some x =>
    obtain ⟨t, r⟩ := x
    rw [hr] at h2
    dsimp only at h2
    subst h2
    cases r with
    | nil => rfl
    | cons c r => rfl

theorem lead_ref (s : List UInt8) (hl : (s.length : Int) ≤ 140737488355328) (at_ : Nat) (h : at_ ≤ s.length) : loopM (l76x1 s) rounds ((at_ : Int), 0) = some ((lead (s.drop at_) : Int), ((at_ + lead (s.drop at_) : Nat) : Int)) := by
  have hle := lead_le (s.drop at_)
  rw [List.length_drop] at hle
  have hget : ∀ k, (s.drop at_)[k]? = s[at_ + k]? := fun k => by rw [List.getElem?_drop]
  have : ∃ r, loopM (l76x1 s) rounds ((at_ : Int), 0) = some r ∧ r = ((lead (s.drop at_) : Int), ((at_ + lead (s.drop at_) : Nat) : Int)) := by
    refine loopM_ind (fun p => ∃ k : Nat, k ≤ lead (s.drop at_) ∧ p = (((at_ + k : Nat) : Int), (k : Int))) (fun p => ((s.length : Int) - p.1).toNat) (fun r => r = ((lead (s.drop at_) : Int), ((at_ + lead (s.drop at_) : Nat) : Int))) ?_ rounds _ ⟨0, by omega, by simp⟩ ?_
    · rintro p ⟨k, hk, rfl⟩
      unfold l76x1
      dsimp only
      by_cases hlt : at_ + k < s.length
      · have hc : s[at_ + k]? = some s[at_ + k] := List.getElem?_eq_getElem hlt
        rw [if_pos (decide_eq_true (by omega)), getS_of hc]
        try simp only [Option.bind_some]
        rw [show (91 : Int) = ((91 : UInt8).toNat : Int) from rfl, i8_beq]
        by_cases h91 : s[at_ + k] = 91
        · rw [if_pos (by simpa using h91)]
          unfold j76x1
          dsimp only
          rw [wrap_ok (by omega) (by omega)]
          try simp only [Option.bind_some]
          rw [wrap_ok (by omega) (by omega)]
          try simp only [Option.bind_some]
          have hn : k ≠ lead (s.drop at_) := by
            intro e
            apply lead_stop (s.drop at_)
            rw [← e, hget, hc, h91]
          exact ⟨_, rfl, ⟨k + 1, by omega, by simp; omega⟩, by dsimp only; omega⟩
        · rw [if_neg (by simpa using h91)]
          refine ⟨_, rfl, ?_⟩
          have hn : k = lead (s.drop at_) := by
            rcases Nat.lt_or_ge k (lead (s.drop at_)) with h' | h'
            · have := lead_get _ k h'
              rw [hget, hc] at this
              exact absurd (by simpa using this) h91
            · omega
          show ((k : Int), ((at_ + k : Nat) : Int)) = _
          rw [← hn]
      · rw [if_neg (by simp; omega)]
        refine ⟨_, rfl, ?_⟩
        show ((k : Int), ((at_ + k : Nat) : Int)) = _
        rw [show k = lead (s.drop at_) by omega]
    · show ((s.length : Int) - (at_ : Int)).toNat < 18446744073709551616
      omega
  obtain ⟨r, h1, h2⟩ := this
  rw [h1, h2]

theorem semi_loop (s : List UInt8) (hl : (s.length : Int) ≤ 140737488355328) (at_ : Nat) (h : at_ ≤ s.length) : loopM (l76x2 s) rounds (at_ : Int) = some (match cut (s.drop at_) with
    | some (a, _) => ((at_ + a.length : Nat) : Int)
    | none => (s.length : Int)) := by
  have hcut := cut_spec (s.drop at_)
  have hlen : (s.drop at_).length = s.length - at_ := List.length_drop
  have hget : ∀ k, (s.drop at_)[k]? = s[at_ + k]? := fun k => by rw [List.getElem?_drop]
  -- how far it goes
  obtain ⟨m, hm, hno, hend⟩ : ∃ m : Nat, (match cut (s.drop at_) with
      | some (a, _) => ((at_ + a.length : Nat) : Int)
      | none => (s.length : Int)) = ((at_ + m : Nat) : Int) ∧ (∀ k, k < m → ∃ c, s[at_ + k]? = some c ∧ c ≠ 59) ∧ (at_ + m = s.length ∨ s[at_ + m]? = some 59) := by
    cases hq : cut (s.drop at_) with
    | none =>
      rw [hq] at hcut
      refine ⟨s.length - at_, by dsimp only; omega, fun k hk => ?_, .inl (by omega)⟩
      have hlt : at_ + k < s.length := by omega
      refine ⟨s[at_ + k], List.getElem?_eq_getElem hlt, fun e => hcut.2 ?_⟩
      have : (s.drop at_)[k]? = some 59 := by rw [hget, List.getElem?_eq_getElem hlt, e]
      exact List.mem_of_getElem? this
    | some x =>
      obtain ⟨a, b⟩ := x
      rw [hq] at hcut
      obtain ⟨-, h2, h3⟩ := hcut
      refine ⟨a.length, rfl, fun k hk => ?_, .inr ?_⟩
      · have : (s.drop at_)[k]? = some a[k] := by rw [h2, List.getElem?_append_left hk, List.getElem?_eq_getElem hk]
        rw [hget] at this
        exact ⟨_, this, fun e => h3 (e ▸ List.getElem_mem hk)⟩
      · rw [← hget, h2, List.getElem?_append_right (Nat.le_refl _)]; simp
  rw [hm]
  have hms : at_ + m ≤ s.length := by
    rcases hend with h' | h'
    · omega
    · rcases Nat.lt_or_ge (at_ + m) s.length with h2 | h2
      · omega
      · rw [List.getElem?_eq_none h2] at h'; cases h'
  have : ∃ r, loopM (l76x2 s) rounds (at_ : Int) = some r ∧ r = ((at_ + m : Nat) : Int) := by
    refine loopM_ind (fun p => ∃ k : Nat, k ≤ m ∧ p = ((at_ + k : Nat) : Int)) (fun p => ((s.length : Int) - p).toNat) (fun r => r = ((at_ + m : Nat) : Int)) ?_ rounds _ ⟨0, by omega, by simp⟩ ?_
    · rintro p ⟨k, hk, rfl⟩
      unfold l76x2
      by_cases hkm : k < m
      · obtain ⟨c, hc, hne⟩ := hno k hkm
        rw [if_pos (decide_eq_true (by omega)), getS_of hc]
        try simp only [Option.bind_some]
        rw [show (59 : Int) = ((59 : UInt8).toNat : Int) from rfl, bne, i8_beq]
        rw [if_pos (by simpa using hne), wrap_ok (by omega) (by omega)]
        exact ⟨_, rfl, ⟨k + 1, by omega, by simp; omega⟩, by omega⟩
      · obtain rfl : k = m := by omega
        rcases hend with h' | h'
        · rw [if_neg (by simp; omega)]
          exact ⟨_, rfl, rfl⟩
        · have hlt : at_ + k < s.length := by
            rcases Nat.lt_or_ge (at_ + k) s.length with h2 | h2
            · exact h2
            · rw [List.getElem?_eq_none h2] at h'; cases h'
          rw [if_pos (decide_eq_true (by omega)), getS_of h']
          try simp only [Option.bind_some]
          rw [show (59 : Int) = ((59 : UInt8).toNat : Int) from rfl, bne, i8_beq]
          exact ⟨_, rfl, rfl⟩
    · show ((s.length : Int) - (at_ : Int)).toNat < 18446744073709551616
      omega
  obtain ⟨r, h1, h2⟩ := this
  rw [h1, h2]

theorem take_ref (s : List UInt8) (hl : (s.length : Int) ≤ 140737488355328) (at_ : Nat) (h : at_ ≤ s.length) : m_armatureref04_take s (at_ : Int) = some (match rd (s.drop at_) with
    | some (t, r) => (t, ((s.length - r.length : Nat) : Int))
    | none => (zeroT, -1)) := by
  have hle := lead_le (s.drop at_)
  rw [List.length_drop] at hle
  unfold m_armatureref04_take rd
  rw [lead_ref s hl at_ h]
  try simp only [Option.bind_some]
  have hdd : (s.drop at_).drop (lead (s.drop at_)) = s.drop (at_ + lead (s.drop at_)) := by rw [List.drop_drop]
  rw [hdd]
  generalize hk : at_ + lead (s.drop at_) = k
  have hks : k ≤ s.length := by omega
  cases hd : s.drop k with
  | nil =>
    have : s.length ≤ k := by simpa using hd
    rw [if_pos (decide_eq_true (by omega))]; rfl
  | cons c q =>
    have hlt : k < s.length := by
      rcases Nat.lt_or_ge k s.length with h' | h'
      · exact h'
      · rw [List.drop_eq_nil_of_le h'] at hd; cases hd
    have hc : s[k]? = some c := by
      have := congrArg (fun l => l[0]?) hd
      simpa using this
    have hq : s.drop (k + 1) = q := by
      have := congrArg List.tail hd
      simpa [List.tail_drop] using this
    have hql : q.length = s.length - (k + 1) := by rw [← hq, List.length_drop]
    rw [if_neg (by simp; omega), getS_of hc]
    try simp only [Option.bind_some]
    rw [wrap_ok (by omega) (by omega)]
    try simp only [Option.bind_some]
    rw [show (76 : Int) = ((76 : UInt8).toNat : Int) from rfl, i8_beq, show (k : Int) + 1 = ((k + 1 : Nat) : Int) by omega]
    by_cases h76 : c = 76
    · rw [if_pos (by simpa using h76), if_pos h76, semi_loop s hl (k + 1) (by omega), hq]
      try simp only [Option.bind_some]
      have hcut := cut_spec q
      cases hcq : cut q with
      | none => rw [if_pos (decide_eq_true (by simp))]; rfl
      | some x =>
        obtain ⟨nm, r'⟩ := x
        rw [hcq] at hcut
        obtain ⟨-, e2, e3⟩ := hcut
        have hl2 : q.length = nm.length + 1 + r'.length := by rw [e2]; simp; omega
        rw [if_neg (by simp; omega), sub_mid s (k + 1) (k + 1 + nm.length) (by omega) (by omega)]
        try simp only [Option.bind_some]
        rw [wrap_ok (by omega) (by omega)]
        try simp only [Option.bind_some]
        have e4 : (s.drop (k + 1)).take (k + 1 + nm.length - (k + 1)) = nm := by
          rw [hq, show k + 1 + nm.length - (k + 1) = nm.length by omega, e2]; simp
        rw [e4, h76]
        unfold j76x2
        obtain ⟨b, -, k2, k3⟩ := chk_valid (mkT (lead (s.drop at_)) 76 nm) r' (by show (nm.length : Int) ≤ _; omega)
        unfold mkT at k2
        dsimp only
        rw [show (((76 : UInt8).toNat : Nat) : Int) = 76 from rfl, k2, k3]
        cases b with
        | false => rfl
        | true =>
          simp only [Option.bind_some, Bool.not_true, Bool.false_eq_true, if_false, if_true, Option.some.injEq, Prod.mk.injEq]
          exact ⟨rfl, by omega⟩
    · rw [if_neg (by simpa using h76), if_neg h76]
      unfold j76x2
      obtain ⟨b, -, k2, k3⟩ := chk_valid (mkT (lead (s.drop at_)) (c.toNat : Int) []) q (by show (([] : List UInt8).length : Int) ≤ _; simp)
      unfold mkT at k2
      dsimp only
      rw [k2, k3]
      cases b with
      | false => rfl
      | true =>
        simp only [Option.bind_some, Bool.not_true, Bool.false_eq_true, if_false, if_true, Option.some.injEq, Prod.mk.injEq]
        exact ⟨rfl, by omega⟩

theorem parse_ref (s : List UInt8) (hl : (s.length : Int) ≤ 140737488355328) : m_armatureref04_Parse s = some (parseF s) := by
  unfold m_armatureref04_Parse parseF
  rw [show (0 : Int) = ((0 : Nat) : Int) from rfl, take_ref s hl 0 (Nat.zero_le _), List.drop_zero]
  try simp only [Option.bind_some]
  cases hr : rd s with
  | none => rw [if_pos (by simp <;> omega)]; rfl
  | some x =>
    obtain ⟨t, r⟩ := x
    have := (rd_spec hr).2.2.1
    cases r with
    | nil =>
      dsimp only
      rw [if_neg (by simp)]
    | cons c r =>
      have hne : ((s.length - (c :: r).length : Nat) : Int) ≠ (s.length : Int) := by simp only [List.length_cons] at this ⊢; omega
      dsimp only
      rw [if_pos (bne_iff_ne.2 hne)]; rfl

def pccF (s : List UInt8) : T_api_Type × Int := if clsB s = true then ({ f_Dim := 0, f_Base := 76, f_Name := s }, 0) else match s with
  | 91 :: _ => parseF s
  | _ => (zeroT, 13)

theorem pcc_desc (s : List UInt8) (hl : (s.length : Int) ≤ 140737488355328) : m_desc_ParseClassConstant s = some (pccF s) := by
  unfold m_desc_ParseClassConstant pccF m_strings_HasPrefix
  rw [isClass s hl, hasP_lite, parse_desc s hl]
  try simp only [Option.bind_some]
  unfold clsB
  cases decide (s.length ≤ 64) && okC true s with
  | true => rfl
  | false =>
    simp only [Bool.false_eq_true, if_false]
    cases s with
    | nil => rfl
    | cons c r =>
      have : hasP (c :: r) [91] = (91 == c) := by simp [hasP, List.isPrefixOf]
      rw [this]
      by_cases hc : c = 91
      · subst hc; rfl
      · rw [if_neg (by simpa using fun e : (91 : UInt8) = c => hc e.symm)]
        split
        · rename_i h; injection h with h1 _; exact absurd h1 hc
        · rfl

theorem pcc_ref (s : List UInt8) (hl : (s.length : Int) ≤ 140737488355328) : m_armatureref04_ParseClassConstant s = some (pccF s) := by
  unfold m_armatureref04_ParseClassConstant pccF j60x1
  rw [ref_class s hl, parse_ref s hl]
  try simp only [Option.bind_some]
  unfold clsB
  cases decide (s.length ≤ 64) && okC true s with
  | true => rfl
  | false =>
    simp only [Bool.false_eq_true, if_false]
    cases s with
    | nil => rfl
    | cons c r =>
      rw [if_neg (by simp), getS0]
      try simp only [Option.bind_some]
      rw [show (91 : Int) = ((91 : UInt8).toNat : Int) from rfl, bne, i8_beq]
      by_cases hc : c = 91
      · subst hc; rfl
      · rw [if_pos (by simpa using hc)]
        split
        · rename_i h; injection h with h1 _; exact absurd h1 hc
        · rfl

def okP1 (t : T_api_Type) : Bool := validB t && t.f_Base != 86

theorem loopM_two {T T' R R' : Type} {f : T → Option (Ctl T R)} {f' : T' → Option (Ctl T' R')} (I : T → T' → Prop) (μ : T → Nat) (Post : R → R' → Prop)
    (step : ∀ t t', I t t' → ∃ x x', f t = some x ∧ f' t' = some x' ∧ match x, x' with
      | .next a, .next b => I a b ∧ μ a < μ t
      | .done a, .done b => Post a b
      | _, _ => False) : ∀ (n : Nat) (t : T) (t' : T'), I t t' → μ t < n → ∃ r r', loopM f n t = some r ∧ loopM f' n t' = some r' ∧ Post r r'
  | 0, t, t', _, h => absurd h (Nat.not_lt_zero _)
  | n + 1, t, t', hI, h => by
    obtain ⟨x, x', hx, hx', hp⟩ := step t t' hI
    cases x with
    | next a =>
      cases x' with
      | next b =>
        obtain ⟨r, r', h1, h2, h3⟩ := loopM_two I μ Post step n a b hp.1 (by have := hp.2; omega)
        exact ⟨r, r', by rw [loopM, hx]; exact h1, by rw [loopM, hx']; exact h2, h3⟩
      | done b => exact absurd hp id
    | done a =>
      cases x' with
      | next b => exact absurd hp id
      | done b => exact ⟨a, b, by rw [loopM, hx], by rw [loopM, hx'], hp⟩

def zeroG : T_api_Sig := { f_Params := [], f_Result := zeroT }

theorem sig_loop (s : List UInt8) (hl : s.length ≤ 2000000) (h1 : 1 ≤ s.length) : ∃ r r', loopM l57x1 rounds (s.drop 1, []) = some r ∧ loopM (l71x1 s) rounds (1, []) = some r' ∧ match r, r' with
    | .inl a, .inl b => a.1 = b.1 ∧ a.1.all okP1 = true ∧ a.1.length ≤ 2000000 ∧ (∃ k : Nat, b.2 = (k : Int) ∧ k ≤ s.length ∧ a.2 = s.drop k) ∧ a.1.flatMap fmt ++ a.2 = s.drop 1 ∧ (a.2 = [] ∨ ∃ q, a.2 = 41 :: q)
    | .inr a, .inr b => a = (zeroG, 13) ∧ b = (zeroG, 13)
    | _, _ => False := by
  refine loopM_two (fun p p' => p.2 = p'.2 ∧ p.2.all okP1 = true ∧ (∃ k : Nat, p'.1 = (k : Int) ∧ k ≤ s.length ∧ p.1 = s.drop k ∧ p.2.length ≤ k) ∧ p.2.flatMap fmt ++ p.1 = s.drop 1) (fun p => p.1.length) _ ?_ rounds _ _
    ⟨rfl, by simp, ⟨1, rfl, h1, rfl, by simp⟩, by simp⟩ ?_
  · rintro ⟨s', acc⟩ ⟨at_, acc'⟩ ⟨e1, hok, ⟨k, e2, hk, e3, hac⟩, hcat⟩
    dsimp only at e1 e2 e3 hok hac hcat
    subst e1 e2 e3
    unfold l57x1 l71x1
    dsimp only
    cases hd : s.drop k with
    | nil =>
      have : s.length ≤ k := by simpa using hd
      rw [if_neg (by simp), if_neg (by simp; omega)]
      refine ⟨_, _, rfl, rfl, ?_⟩
      exact ⟨rfl, hok, by show acc.length ≤ 2000000; omega, ⟨k, rfl, hk, hd.symm⟩, by rw [← hd]; exact hcat, .inl rfl⟩
    | cons c q =>
      have hlt : k < s.length := by
        rcases Nat.lt_or_ge k s.length with h' | h'
        · exact h'
        · rw [List.drop_eq_nil_of_le h'] at hd; cases hd
      have hc : s[k]? = some c := by
        have := congrArg (fun l => l[0]?) hd
        simpa using this
      rw [if_pos (by simp), if_pos (decide_eq_true (by omega)), getS0, getS_of hc]
      simp only [Option.bind_some]
      rw [show (41 : Int) = ((41 : UInt8).toNat : Int) from rfl, bne, i8_beq]
      by_cases h41 : c = 41
      · rw [if_neg (by simpa using h41), if_neg (by simpa using h41)]
        refine ⟨_, _, rfl, rfl, ?_⟩
        exact ⟨rfl, hok, by show acc.length ≤ 2000000; omega, ⟨k, rfl, hk, hd.symm⟩, by rw [← hd]; exact hcat, .inr ⟨q, by rw [h41]⟩⟩
      · rw [if_pos (by simpa using h41), if_pos (by simpa using h41)]
        unfold j57x2 j71x2
        dsimp only
        rw [← hd]
        obtain ⟨v, hv, hrd⟩ := pre_desc (s.drop k) (by rw [List.length_drop]; omega)
        rw [hv, take_ref s (by omega) k hk]
        simp only [Option.bind_some]
        cases hr : rd (s.drop k) with
        | none =>
          rw [hr] at hrd
          dsimp only at hrd ⊢
          rw [hrd]
          exact ⟨_, _, rfl, rfl, rfl, rfl⟩
        | some x =>
          obtain ⟨t, r⟩ := x
          rw [hr] at hrd
          dsimp only at hrd ⊢
          subst hrd
          obtain ⟨g1, g2, g3, g4⟩ := rd_spec hr
          dsimp only
          rw [if_neg (show ¬ ((!true) = true) by decide), if_neg (show ¬ (decide (((s.length - r.length : Nat) : Int) < 0) = true) by simp)]
          by_cases h86 : t.f_Base = 86
          · rw [if_pos (by simpa using h86), if_pos (by simpa using h86)]
            exact ⟨_, _, rfl, rfl, rfl, rfl⟩
          · rw [if_neg (by simpa using h86), if_neg (by simpa using h86)]
            unfold j57x3 j71x3
            dsimp only
            have hrl : r.length < s.length - k := by rw [← List.length_drop]; exact g3
            rw [growK_ok 32 (by simp; omega) (by omega)]
            simp only [Option.bind_some]
            refine ⟨_, _, rfl, rfl, ⟨rfl, ?_, ⟨s.length - r.length, rfl, by omega, ?_, ?_⟩, ?_⟩, g3⟩
            · rw [List.all_append, hok]
              show (true && ([t].all okP1)) = true
              simp [okP1, g1, h86]
            · dsimp only
              have hf := (fmt_len g1).2
              have e5 : s.drop k = fmt t ++ r := g2
              have e6 : (fmt t).length + r.length = s.length - k := by rw [← List.length_append, ← e5, List.length_drop]
              have e7 : s.drop (s.length - r.length) = (s.drop k).drop (fmt t).length := by rw [List.drop_drop]; congr 1; omega
              rw [e7, e5, List.drop_left]
            · dsimp only
              rw [List.length_append]
              simp only [List.length_singleton]
              omega
            · dsimp only
              rw [List.flatMap_append, List.append_assoc]
              show List.flatMap fmt acc ++ ([t].flatMap fmt ++ r) = _
              rw [show [t].flatMap fmt = fmt t by simp, ← g2]; exact hcat
  · show (s.drop 1).length < 18446744073709551616
    rw [List.length_drop]; omega

theorem sig_same (s : List UInt8) (hl : s.length ≤ 2000000) : ∃ v, m_desc_ParseSignature s = some v ∧ m_armatureref04_ParseSignature s = some v ∧ (v.2 = 0 → validB v.1.f_Result = true ∧ ∃ q, s = 40 :: q) := by
  unfold m_desc_ParseSignature m_armatureref04_ParseSignature
  cases s with
  | nil => exact ⟨_, rfl, rfl, fun h => absurd h (by decide)⟩
  | cons c q =>
    rw [if_neg (by simp), if_neg (by simp), getS0]
    simp only [Option.bind_some]
    rw [show (40 : Int) = ((40 : UInt8).toNat : Int) from rfl, bne, i8_beq]
    by_cases h40 : c = 40
    · rw [if_neg (by simpa using h40), if_neg (by simpa using h40)]
      unfold j57x1 j71x1
      obtain ⟨r, r', h1, h2, h3⟩ := sig_loop (c :: q) hl (by simp)
      rw [show sub (c :: q) 1 ((c :: q).length : Int) = some ((c :: q).drop 1) from sub_drop (c :: q) 1 (by simp), h2]
      simp only [Option.bind_some]
      rw [h1]
      simp only [Option.bind_some]
      cases r with
      | inr a =>
        cases r' with
        | inl b => exact absurd h3 id
        | inr b =>
          dsimp only at h3 ⊢
          obtain ⟨rfl, rfl⟩ := h3
          exact ⟨_, rfl, rfl, fun h => absurd h (by decide)⟩
      | inl a =>
        cases r' with
        | inr b => exact absurd h3 id
        | inl b =>
          obtain ⟨acc, s'⟩ := a
          obtain ⟨acc', at_⟩ := b
          dsimp only at h3 ⊢
          obtain ⟨e1, hok, hacc, ⟨k, e2, hk, e3⟩, hcat, hend⟩ := h3
          have hlc : (c :: q).length = q.length + 1 := List.length_cons
          subst e1 e2
          rcases hend with hnil | ⟨q', hq'⟩
          · subst hnil
            have : (c :: q).length ≤ k := by
              have := congrArg List.length e3
              rw [List.length_drop] at this
              simp only [List.length_nil] at this
              omega
            rw [if_pos (by simp), if_pos (decide_eq_true (by omega))]
            exact ⟨_, rfl, rfl, fun h => absurd h (by decide)⟩
          · have hlen : q'.length + 1 = (c :: q).length - k := by
              have := congrArg List.length e3
              rw [List.length_drop, hq'] at this
              simpa using this
            have hdrop : (c :: q).drop (k + 1) = q' := by
              rw [← List.drop_drop, ← e3, hq']; rfl
            rw [hq', if_neg (by simp), if_neg (by simp; omega)]
            rw [show sub (41 :: q') 1 ((41 :: q').length : Int) = some ((41 :: q').drop 1) from sub_drop (41 :: q') 1 (by simp)]
            simp only [Option.bind_some]
            rw [wrap_ok (by omega) (by omega)]
            simp only [Option.bind_some, List.drop_succ_cons, List.drop_zero]
            rw [parse_desc q' (by omega), show (k : Int) + 1 = ((k + 1 : Nat) : Int) by omega, take_ref (c :: q) (by omega) (k + 1) (by omega), hdrop]
            simp only [Option.bind_some]
            unfold parseF
            cases hr : rd q' with
            | none =>
              dsimp only
              rw [if_pos (by decide), if_pos (by simp <;> omega)]
              exact ⟨_, rfl, rfl, fun h => absurd h (by decide)⟩
            | some x =>
              obtain ⟨t, r⟩ := x
              obtain ⟨g1, g2, g3, g4⟩ := rd_spec hr
              cases r with
              | cons c2 r2 =>
                have hne : (((c :: q).length - (c2 :: r2).length : Nat) : Int) ≠ ((c :: q).length : Int) := by
                  simp only [List.length_cons] at g3 hlen ⊢; omega
                dsimp only
                rw [if_pos (by decide), if_pos (bne_iff_ne.2 hne)]
                exact ⟨_, rfl, rfl, fun h => absurd h (by decide)⟩
              | nil =>
                dsimp only
                rw [if_neg (show ¬ (((0 : Int) != 0) = true) by decide), if_neg (show ¬ ((((c :: q).length - ([] : List UInt8).length : Nat) : Int) != ((c :: q).length : Int)) = true by simp)]
                by_cases h16 : (acc.length : Int) > 16
                · rw [if_pos (decide_eq_true h16)]
                  exact ⟨_, rfl, rfl, fun h => absurd h (by decide)⟩
                · rw [if_neg (by simpa using h16)]
                  exact ⟨_, rfl, rfl, fun _ => ⟨g1, q, by rw [h40]⟩⟩
    · rw [if_pos (by simpa using h40), if_pos (by simpa using h40)]
      exact ⟨_, rfl, rfl, fun h => absurd h (by decide)⟩

end Go.Proofs
