/-
  What the models of desc's functions come to: descriptors that are read. No condition.
-/
import Derived.Test.YtbkfbbghkbmkaaaDesLaw
namespace Go.Proofs
open Go.Den

def cut : List UInt8 → Option (List UInt8 × List UInt8)
  | [] => none
  | c :: r => if c = 59 then some ([], r) else (cut r).map fun x => (c :: x.1, x.2)
def lead : List UInt8 → Nat
  | [] => 0
  | c :: r => if c = 91 then lead r + 1 else 0
def mkT (d : Nat) (b : Int) (n : List UInt8) : T_api_Type := { f_Dim := d, f_Base := b, f_Name := n }
def chk (t : T_api_Type) (r : List UInt8) : Option (T_api_Type × List UInt8) := if validB t = true then some (t, r) else none
/-- The type that stands ahead, and the rest. -/
def rd (s : List UInt8) : Option (T_api_Type × List UInt8) :=
  match s.drop (lead s) with
  | [] => none
  | c :: r =>
    if c = 76 then
      match cut r with
      | none => none
      | some (nm, r') => chk (mkT (lead s) 76 nm) r'
    else chk (mkT (lead s) (c.toNat : Int) []) r

theorem cut_spec : ∀ l, match cut l with
    | none => Lib.indexByte l 59 < 0 ∧ (59 : UInt8) ∉ l
    | some (a, b) => Lib.indexByte l 59 = a.length ∧ l = a ++ 59 :: b ∧ (59 : UInt8) ∉ a
  | [] => by simp [cut, Lib.indexByte]
  | c :: r => by
    have ih := cut_spec r
    unfold cut
    by_cases hc : c = 59
    · rw [if_pos hc]; subst hc; simp [Lib.indexByte]
    · rw [if_neg hc]
      cases h : cut r with
      | none =>
        rw [h] at ih
        have h1 := (indexByte_none (c :: r) 59).2 (by simp only [List.mem_cons, not_or]; exact ⟨fun e => hc e.symm, ih.2⟩)
        exact ⟨h1, by simp only [List.mem_cons, not_or]; exact ⟨fun e => hc e.symm, ih.2⟩⟩
      | some x =>
        obtain ⟨a, b⟩ := x
        rw [h] at ih
        obtain ⟨i1, i2, i3⟩ := ih
        refine ⟨?_, by show c :: r = c :: a ++ 59 :: b; rw [i2]; rfl, by simp only [List.mem_cons, not_or]; exact ⟨fun e => hc e.symm, i3⟩⟩
        have : ¬ Lib.indexByte r 59 < 0 := by omega
        simp [Lib.indexByte, hc, i1]

theorem cut_app : ∀ (a b : List UInt8), (59 : UInt8) ∉ a → cut (a ++ 59 :: b) = some (a, b)
  | [], b, _ => by simp [cut]
  | c :: a, b, h => by
    simp only [List.mem_cons, not_or] at h
    rw [List.cons_append, cut, if_neg (fun e => h.1 e.symm), cut_app a b h.2]; rfl

theorem lead_le : ∀ s, lead s ≤ s.length
  | [] => by simp [lead]
  | c :: r => by
    have := lead_le r
    unfold lead; split <;> simp; omega
theorem lead_get : ∀ (s : List UInt8) (i : Nat), i < lead s → s[i]? = some 91
  | [], i, h => by simp [lead] at h
  | c :: r, i, h => by
    unfold lead at h
    split at h
    · rename_i hc
      cases i with
      | zero => simp [hc]
      | succ i => simpa using lead_get r i (by omega)
    · omega
theorem lead_stop : ∀ (s : List UInt8), s[lead s]? ≠ some 91
  | [] => by simp
  | c :: r => by
    unfold lead
    split
    · simpa using lead_stop r
    · rename_i hc; simpa using hc
theorem lead_split : ∀ s : List UInt8, s = List.replicate (lead s) 91 ++ s.drop (lead s)
  | [] => rfl
  | c :: r => by
    have ih := lead_split r
    unfold lead
    split
    · rename_i hc
      subst hc
      rw [List.replicate_succ, List.drop_succ_cons, List.cons_append, ← ih]
    · simp
theorem lead_rep : ∀ (n : Nat) (s : List UInt8), (∀ r, s ≠ 91 :: r) → lead (List.replicate n 91 ++ s) = n
  | 0, s, h => by
    cases s with
    | nil => rfl
    | cons c r =>
      show (if c = 91 then _ else _) = 0
      rw [if_neg (fun e => h r (by rw [e]))]
  | n + 1, s, h => by
    rw [List.replicate_succ, List.cons_append]
    show (if (91 : UInt8) = 91 then _ else _) = _
    rw [if_pos rfl, lead_rep n s h]

theorem i8_eq (c d : UInt8) : ((c.toNat : Int) = (d.toNat : Int)) ↔ c = d := by
  constructor
  · intro h; exact UInt8.toNat_inj.1 (by omega)
  · intro h; rw [h]
theorem i8_beq (c d : UInt8) : ((c.toNat : Int) == (d.toNat : Int)) = (c == d) := by
  rw [Bool.eq_iff_iff]; simp only [beq_iff_eq]; exact i8_eq c d

theorem sub_drop {α : Type} (l : List α) (n : Nat) (h : n ≤ l.length) : sub l (n : Int) (l.length : Int) = some (l.drop n) := by
  unfold sub
  rw [if_pos (by omega)]
  simp [List.take_of_length_le]
theorem sub_mid {α : Type} (l : List α) (n m : Nat) (h : n ≤ m) (hm : m ≤ l.length) : sub l (n : Int) (m : Int) = some ((l.drop n).take (m - n)) := by
  unfold sub
  rw [if_pos (by omega)]
  simp

theorem rd_spec {s r : List UInt8} {t : T_api_Type} (h : rd s = some (t, r)) : validB t = true ∧ s = fmt t ++ r ∧ r.length < s.length ∧ t.f_Name.length ≤ 64 := by
  have hs := lead_split s
  unfold rd at h
  cases hd : s.drop (lead s) with
  | nil => rw [hd] at h; cases h
  | cons c q =>
    rw [hd] at h hs
    dsimp only at h
    have key : ∀ (nm r' : List UInt8) (b : Int), chk (mkT (lead s) b nm) r' = some (t, r) → validB t = true ∧ t = mkT (lead s) b nm ∧ r' = r := fun nm r' b hc => by
      unfold chk at hc
      split at hc
      · rename_i hv; cases hc; exact ⟨hv, rfl, rfl⟩
      · cases hc
    split at h
    · rename_i hc
      subst hc
      have hcut := cut_spec q
      cases hq : cut q with
      | none => rw [hq] at h; cases h
      | some x =>
        obtain ⟨nm, r'⟩ := x
        rw [hq] at h hcut
        obtain ⟨k1, k2, k3⟩ := key _ _ _ h
        subst k3
        have hf : s = fmt t ++ r' := by
          rw [k2]
          unfold fmt mkT
          dsimp only
          rw [if_pos rfl, show ((lead s : Nat) : Int).toNat = lead s from rfl]
          have hq2 : q = nm ++ 59 :: r' := hcut.2.1
          conv => lhs; rw [hs, hq2]
          simp
        refine ⟨k1, hf, ?_, (valid_facts k1).2.2.2⟩
        have := (fmt_len k1).2
        have hl := congrArg List.length hf
        rw [List.length_append] at hl; omega
    · rename_i hc
      obtain ⟨k1, k2, k3⟩ := key _ _ _ h
      subst k3
      have hf : s = fmt t ++ q := by
        rw [k2]
        unfold fmt mkT
        dsimp only
        rw [if_neg (fun e : (c.toNat : Int) = 76 => hc ((i8_eq c 76).1 e))]
        rw [show ((lead s : Nat) : Int).toNat = lead s from rfl, show ((c.toNat : Nat) : Int).toNat = c.toNat from rfl]
        conv => lhs; rw [hs]
        simp
      refine ⟨k1, hf, ?_, (valid_facts k1).2.2.2⟩
      have := (fmt_len k1).2
      have hl := congrArg List.length hf
      rw [List.length_append] at hl; omega

theorem okC_no59 : ∀ (l : List UInt8) (b : Bool), okC b l = true → (59 : UInt8) ∉ l := by
  intro l b h hm
  obtain ⟨p, r, rfl⟩ := List.append_of_mem hm
  rw [okC_bad p r 59 b (by decide) (by decide) (by decide)] at h
  cases h

theorem rd_fmt {t : T_api_Type} (h : validB t = true) (r : List UInt8) : rd (fmt t ++ r) = some (t, r) := by
  obtain ⟨h1, h2, h3, h4⟩ := valid_facts h
  have hdim : ((t.f_Dim.toNat : Nat) : Int) = t.f_Dim := by omega
  have hhead : ∀ x : List UInt8, UInt8.ofNat t.f_Base.toNat :: x ≠ 91 :: (91 :: x).tail ∧ ∀ q, UInt8.ofNat t.f_Base.toNat :: x ≠ 91 :: q := fun x => by
    have : UInt8.ofNat t.f_Base.toNat ≠ 91 := by
      rcases h3 with ⟨hb, -⟩ | ⟨hb, -⟩ | ⟨hb, -⟩ | ⟨hb, -⟩ <;> rw [hb] <;> decide
    exact ⟨fun e => this (by injection e), fun q e => this (by injection e)⟩
  unfold fmt
  rw [List.append_assoc, List.cons_append]
  generalize hx : (if t.f_Base = 76 then t.f_Name ++ [59] else []) ++ r = x
  have hlead : lead (List.replicate t.f_Dim.toNat 91 ++ UInt8.ofNat t.f_Base.toNat :: x) = t.f_Dim.toNat := lead_rep _ _ (hhead x).2
  unfold rd
  rw [hlead]
  have hdrop : (List.replicate t.f_Dim.toNat (91 : UInt8) ++ UInt8.ofNat t.f_Base.toNat :: x).drop t.f_Dim.toNat = UInt8.ofNat t.f_Base.toNat :: x := by
    rw [List.drop_append_of_le_length (by simp)]; simp
  rw [hdrop]
  dsimp only
  have hmk : ∀ b nm, t.f_Base = b → t.f_Name = nm → mkT t.f_Dim.toNat b nm = t := fun b nm e1 e2 => by
    subst e1 e2
    unfold mkT
    rw [hdim]
  rcases h3 with ⟨hb, hn⟩ | ⟨hb, hn⟩ | ⟨hb, hn, -⟩ | ⟨hb, hn⟩
  · rw [hb] at hx ⊢
    rw [if_neg (by decide)] at hx ⊢
    rw [show (((UInt8.ofNat (73 : Int).toNat).toNat : Nat) : Int) = 73 from rfl, hmk 73 [] hb hn]
    simp at hx; subst hx
    unfold chk; rw [if_pos h]
  · rw [hb] at hx ⊢
    rw [if_neg (by decide)] at hx ⊢
    rw [show (((UInt8.ofNat (74 : Int).toNat).toNat : Nat) : Int) = 74 from rfl, hmk 74 [] hb hn]
    simp at hx; subst hx
    unfold chk; rw [if_pos h]
  · rw [hb] at hx ⊢
    rw [if_neg (by decide)] at hx ⊢
    rw [show (((UInt8.ofNat (86 : Int).toNat).toNat : Nat) : Int) = 86 from rfl, hmk 86 [] hb hn]
    simp at hx; subst hx
    unfold chk; rw [if_pos h]
  · rw [hb] at hx ⊢
    rw [if_pos rfl] at hx
    rw [if_pos (by decide)]
    subst hx
    simp only [clsB, Bool.and_eq_true] at hn
    rw [List.append_assoc, List.singleton_append, cut_app _ _ (okC_no59 _ _ hn.2)]
    dsimp only
    rw [hmk 76 t.f_Name hb rfl]
    unfold chk; rw [if_pos h]

end Go.Proofs
