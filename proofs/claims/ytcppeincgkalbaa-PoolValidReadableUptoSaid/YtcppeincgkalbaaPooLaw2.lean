/-
  What the models of pool's adding functions come to. No condition.
-/
import Derived.Test.YtcppeincgkalbaaPooLaw
namespace Go.Proofs
open Go.Den

theorem eqC_iff (a b : T_api_Const) : eqb_T_api_Const a b = true ↔ a = b := by
  obtain ⟨a1, a2, a3, a4, a5⟩ := a
  obtain ⟨b1, b2, b3, b4, b5⟩ := b
  simp only [eqb_T_api_Const, Bool.and_eq_true, beq_iff_eq, Bool.and_true, T_api_Const.mk.injEq]
def idxC (c : T_api_Const) : List T_api_Const → Option Nat
  | [] => none
  | x :: r => if eqb_T_api_Const x c = true then some 0 else (idxC c r).map (· + 1)
def addF (p : List T_api_Const) (c : T_api_Const) : List T_api_Const × Int × Int := match idxC c p with
  | some k => (p, (k : Int) + 1, 0)
  | none => if p.length ≥ 1000 then (p, 0, 5) else (p ++ [c], (p.length : Int) + 1, 0)

theorem idxC_none : ∀ {p : List T_api_Const} {c : T_api_Const}, idxC c p = none → ∀ (k : Nat) x, p[k]? = some x → x ≠ c
  | [], c, _, k, x, h => by simp at h
  | y :: r, c, h, k, x, hx => by
    unfold idxC at h
    split at h
    · cases h
    · rename_i hy
      cases k with
      | zero => simp at hx; subst hx; exact fun e => hy ((eqC_iff _ _).2 e)
      | succ k =>
        simp at hx
        refine idxC_none (p := r) ?_ k x hx
        cases hi : idxC c r with
        | none => rfl
        | some j => rw [hi] at h; cases h
theorem idxC_some : ∀ {p : List T_api_Const} {c : T_api_Const} {k : Nat}, idxC c p = some k → p[k]? = some c ∧ ∀ (j : Nat) x, j < k → p[j]? = some x → x ≠ c
  | [], c, k, h => by cases h
  | y :: r, c, k, h => by
    unfold idxC at h
    split at h
    · rename_i hy
      cases h
      exact ⟨by rw [(eqC_iff _ _).1 hy]; rfl, fun j x hj => by omega⟩
    · rename_i hy
      cases hi : idxC c r with
      | none => rw [hi] at h; cases h
      | some i =>
        rw [hi] at h; cases h
        obtain ⟨h1, h2⟩ := idxC_some hi
        refine ⟨by simpa using h1, fun j x hj hx => ?_⟩
        cases j with
        | zero => simp at hx; subst hx; exact fun e => hy ((eqC_iff _ _).2 e)
        | succ j =>
          have hj' : j + 1 < i + 1 := hj
          simp at hx; exact h2 j x (by omega) hx

theorem growP {n : Nat} (b : Nat) (h : n * b ≤ 140737488355328) (hb : 1 ≤ b) : growK b n = some () := by
  unfold growK
  have : n ≤ n * b := Nat.le_mul_of_pos_right n hb
  rw [if_pos ⟨by omega, h⟩]
theorem getRP {α : Type} {l : List α} {i : Nat} {c : α} (h : l[i]? = some c) : getR l (i : Int) = some c := by
  unfold getR
  rw [if_pos (by omega), Int.toNat_natCast, h]

theorem index_pool (p : List T_api_Const) (c : T_api_Const) (hl : p.length ≤ 1000000) : m_slices_Index_armature_api_Const_armature_api_Const p c = some (match idxC c p with
    | some k => (k : Int)
    | none => -1) := by
  have hloop : ∃ r, loopM (l45x1 p c) rounds 0 = some r ∧ (match r with
      | .inl _ => idxC c p = none
      | .inr i => ∃ k : Nat, i = (k : Int) ∧ idxC c p = some k) := by
    refine loopM_ind (fun q : Int => ∃ k : Nat, k ≤ p.length ∧ q = (k : Int) ∧ ∀ (j : Nat) x, j < k → p[j]? = some x → x ≠ c) (fun q => p.length - q.toNat) _ ?_ rounds 0 ⟨0, by omega, rfl, fun j x hj => by omega⟩ ?_
    · rintro q ⟨k, hk, rfl, hno⟩
      unfold l45x1
      by_cases hlt : k < p.length
      · have hg : p[k]? = some p[k] := List.getElem?_eq_getElem hlt
        generalize p[k] = y at hg
        rw [if_pos (decide_eq_true (by omega)), getRP hg]
        try simp only [Option.bind_some]
        by_cases hy : c = y
        · rw [if_pos ((eqC_iff _ _).2 hy)]
          refine ⟨_, rfl, k, rfl, ?_⟩
          cases hi : idxC c p with
          | none => exact absurd hy.symm (idxC_none hi k y hg)
          | some i =>
            obtain ⟨h1, h2⟩ := idxC_some hi
            rcases Nat.lt_trichotomy i k with h | h | h
            · exact absurd rfl (hno i c h h1)
            · rw [h]
            · exact absurd hy.symm (h2 k y h hg)
        · rw [if_neg (fun h => hy ((eqC_iff _ _).1 h)), wrapP (by omega) (by omega)]
          refine ⟨_, rfl, ⟨k + 1, by omega, by simp, fun j x hj hx => ?_⟩, by omega⟩
          rcases Nat.lt_or_ge j k with h | h
          · exact hno j x h hx
          · obtain rfl : j = k := by omega
            rw [hg] at hx; cases hx
            exact fun e => hy e.symm
      · rw [if_neg (by simp; omega)]
        refine ⟨_, rfl, ?_⟩
        dsimp only
        cases hi : idxC c p with
        | none => rfl
        | some i =>
          obtain ⟨h1, -⟩ := idxC_some hi
          have hi' : i < p.length := by
            rcases Nat.lt_or_ge i p.length with h | h
            · exact h
            · rw [List.getElem?_eq_none h] at h1; cases h1
          exact absurd rfl (hno i c (by omega) h1)
    · show p.length - (0 : Int).toNat < 18446744073709551616
      omega
  obtain ⟨r, h1, h2⟩ := hloop
  unfold m_slices_Index_armature_api_Const_armature_api_Const
  rw [h1]
  cases r with
  | inl u => dsimp only at h2; rw [h2]; rfl
  | inr i => obtain ⟨k, rfl, hk⟩ := h2; rw [hk]; rfl

theorem idx_lt {p : List T_api_Const} {c : T_api_Const} {k : Nat} (h : idxC c p = some k) : k < p.length := by
  obtain ⟨h1, -⟩ := idxC_some h
  rcases Nat.lt_or_ge k p.length with h' | h'
  · exact h'
  · rw [List.getElem?_eq_none h'] at h1; cases h1

theorem add_pool (p : List T_api_Const) (c : T_api_Const) (hl : p.length ≤ 1000000) : m_pool_Add p c = some (addF p c) := by
  unfold m_pool_Add addF
  rw [index_pool p c hl]
  try simp only [Option.bind_some]
  cases hi : idxC c p with
  | some k =>
    have := idx_lt hi
    dsimp only
    rw [if_pos (decide_eq_true (by omega)), wrapP (by omega) (by omega)]
  | none =>
    dsimp only
    rw [if_neg (by decide)]
    by_cases h : p.length ≥ 1000
    · rw [if_pos (decide_eq_true (by omega)), if_pos h]
    · rw [if_neg (by simp; omega), if_neg h]
      have e : sub p 0 (p.length : Int) = some p := by unfold sub; simp
      rw [e]
      try simp only [Option.bind_some]
      rw [wrapP (by omega) (by omega)]
      try simp only [Option.bind_some]
      rw [show freshK p [c] = some () by unfold freshK; simp]
      try simp only [Option.bind_some]
      rw [growP 48 (by simp; omega) (by omega)]
      try rfl

theorem add_ref (p : List T_api_Const) (c : T_api_Const) (hl : p.length ≤ 1000000) : m_armatureref05_Add p c = some (addF p c) := by
  have hloop : ∃ r, loopM (l30x1 p c) rounds 0 = some r ∧ (match r with
      | .inl _ => idxC c p = none
      | .inr y => ∃ k : Nat, y = (p, (k : Int) + 1, 0) ∧ idxC c p = some k) := by
    refine loopM_ind (fun q : Int => ∃ k : Nat, k ≤ p.length ∧ q = (k : Int) ∧ ∀ (j : Nat) x, j < k → p[j]? = some x → x ≠ c) (fun q => p.length - q.toNat) _ ?_ rounds 0 ⟨0, by omega, rfl, fun j x hj => by omega⟩ ?_
    · rintro q ⟨k, hk, rfl, hno⟩
      unfold l30x1
      by_cases hlt : k < p.length
      · have hg : p[k]? = some p[k] := List.getElem?_eq_getElem hlt
        generalize p[k] = y at hg
        rw [if_pos (decide_eq_true (by omega)), getRP hg]
        try simp only [Option.bind_some]
        rw [wrapP (by omega) (by omega)]
        by_cases hy : y = c
        · rw [if_pos ((eqC_iff _ _).2 hy)]
          refine ⟨_, rfl, k, rfl, ?_⟩
          cases hi : idxC c p with
          | none => exact absurd hy (idxC_none hi k y hg)
          | some i =>
            obtain ⟨h1, h2⟩ := idxC_some hi
            rcases Nat.lt_trichotomy i k with h | h | h
            · exact absurd rfl (hno i c h h1)
            · rw [h]
            · exact absurd hy (h2 k y h hg)
        · rw [if_neg (fun h => hy ((eqC_iff _ _).1 h))]
          refine ⟨_, rfl, ⟨k + 1, by omega, by simp, fun j x hj hx => ?_⟩, by omega⟩
          rcases Nat.lt_or_ge j k with h | h
          · exact hno j x h hx
          · obtain rfl : j = k := by omega
            rw [hg] at hx; cases hx
            exact hy
      · rw [if_neg (by simp; omega)]
        refine ⟨_, rfl, ?_⟩
        dsimp only
        cases hi : idxC c p with
        | none => rfl
        | some i =>
          obtain ⟨h1, -⟩ := idxC_some hi
          exact absurd rfl (hno i c (by have := idx_lt hi; omega) h1)
    · show p.length - (0 : Int).toNat < 18446744073709551616
      omega
  obtain ⟨r, h1, h2⟩ := hloop
  unfold m_armatureref05_Add addF
  rw [h1]
  try simp only [Option.bind_some]
  cases r with
  | inr y => obtain ⟨k, rfl, hk⟩ := h2; rw [hk]
  | inl u =>
    dsimp only at h2 ⊢
    rw [h2]
    dsimp only
    by_cases h : p.length ≥ 1000
    · rw [if_pos (decide_eq_true (by omega)), if_pos h]
    · rw [if_neg (by simp; omega), if_neg h, wrapP (by omega) (by omega)]
      simp only [Option.bind_some, List.nil_append]
      rw [growP 48 (by omega) (by omega)]
      try simp only [Option.bind_some]
      rw [growP 48 (by simp; omega) (by omega)]
      try rfl

theorem addF_len (p : List T_api_Const) (c : T_api_Const) : (addF p c).1.length ≤ p.length + 1 ∧ p.length ≤ (addF p c).1.length := by
  unfold addF
  split
  · exact ⟨by show p.length ≤ p.length + 1; omega, by show p.length ≤ p.length; omega⟩
  · split
    · exact ⟨by show p.length ≤ _; omega, by show p.length ≤ p.length; omega⟩
    · show (p ++ [c]).length ≤ _ ∧ _ ≤ (p ++ [c]).length
      simp

def uC (s : List UInt8) : T_api_Const := { f_Tag := 1, f_S := s, f_N := 0, f_A := 0, f_B := 0 }
def kC (tag a b : Int) : T_api_Const := { f_Tag := tag, f_S := [], f_N := 0, f_A := a, f_B := b }
/-- A text and a constant that refers to it. -/
def namedF (p : List T_api_Const) (tag : Int) (s : List UInt8) : List T_api_Const × Int × Int :=
  if (addF p (uC s)).2.2 = 0 then
    (if (addF (addF p (uC s)).1 (kC tag (addF p (uC s)).2.1 0)).2.2 = 0 then ((addF (addF p (uC s)).1 (kC tag (addF p (uC s)).2.1 0)).1, (addF (addF p (uC s)).1 (kC tag (addF p (uC s)).2.1 0)).2.1, 0)
    else (p, 0, (addF (addF p (uC s)).1 (kC tag (addF p (uC s)).2.1 0)).2.2))
  else (p, 0, (addF p (uC s)).2.2)

theorem badd (p : List T_api_Const) (c : T_api_Const) (hl : p.length ≤ 1000000) : m_armature_pool_builder_add { f_pool := p, f_err := 0 } c = some ({ f_pool := (addF p c).1, f_err := (addF p c).2.2 }, (addF p c).2.1) := by
  unfold m_armature_pool_builder_add
  rw [if_neg (show ¬ (((0 : Int) != 0) = true) by decide), add_pool p c hl]; rfl
theorem badd_err (b : T_pool_builder) (c : T_api_Const) (h : b.f_err ≠ 0) : m_armature_pool_builder_add b c = some (b, 0) := by
  unfold m_armature_pool_builder_add
  rw [if_pos (by simpa using h)]
theorem bres_ok (p q : List T_api_Const) (i : Int) : m_armature_pool_builder_result { f_pool := q, f_err := 0 } p i = some ({ f_pool := q, f_err := 0 }, q, i, 0) := rfl
theorem bres_err (b : T_pool_builder) (p : List T_api_Const) (i : Int) (h : b.f_err ≠ 0) : m_armature_pool_builder_result b p i = some (b, p, 0, b.f_err) := by
  unfold m_armature_pool_builder_result
  rw [if_pos (by simpa using h)]

theorem named_pool (p : List T_api_Const) (tag : Int) (s : List UInt8) (hl : p.length ≤ 100000) (F : List T_api_Const → List UInt8 → Option (List T_api_Const × Int × Int))
    (hF : F p s = ((m_armature_pool_builder_add { f_pool := p, f_err := 0 } (uC s)).bind fun v0 =>
      (m_armature_pool_builder_add v0.1 (kC tag v0.2 0)).bind fun v1 => (m_armature_pool_builder_result v1.1 p v1.2).bind fun v2 => some (v2.2.1, v2.2.2.1, v2.2.2.2))) : F p s = some (namedF p tag s) := by
  rw [hF]
  have h1 := addF_len p (uC s)
  unfold namedF
  rw [badd p _ (by omega)]
  try simp only [Option.bind_some]
  by_cases e1 : (addF p (uC s)).2.2 = 0
  · rw [e1, badd _ _ (by omega), if_pos rfl]
    try simp only [Option.bind_some]
    by_cases e2 : (addF (addF p (uC s)).1 (kC tag (addF p (uC s)).2.1 0)).2.2 = 0
    · rw [e2, bres_ok, if_pos rfl]; rfl
    · rw [bres_err _ _ _ e2, if_neg e2]; rfl
  · rw [badd_err _ _ e1, if_neg e1]
    try simp only [Option.bind_some]
    rw [bres_err _ _ _ e1]; rfl
theorem class_pool (p : List T_api_Const) (s : List UInt8) (hl : p.length ≤ 100000) : m_pool_AddClass p s = some (namedF p 7 s) := named_pool p 7 s hl m_pool_AddClass rfl
theorem string_pool (p : List T_api_Const) (s : List UInt8) (hl : p.length ≤ 100000) : m_pool_AddString p s = some (namedF p 8 s) := named_pool p 8 s hl m_pool_AddString rfl

theorem utf_add_pool (p : List T_api_Const) (s : List UInt8) (hl : p.length ≤ 1000000) : m_pool_AddUTF8 p s = some (addF p (uC s)) := by
  unfold m_pool_AddUTF8
  rw [show ({ f_Tag := 1, f_S := s, f_N := 0, f_A := 0, f_B := 0 } : T_api_Const) = uC s from rfl, add_pool p _ hl]; rfl
theorem utf_add_ref (p : List T_api_Const) (s : List UInt8) (hl : p.length ≤ 1000000) : m_armatureref05_AddUTF8 p s = some (addF p (uC s)) := by
  unfold m_armatureref05_AddUTF8
  rw [show ({ f_Tag := 1, f_S := s, f_N := 0, f_A := 0, f_B := 0 } : T_api_Const) = uC s from rfl, add_ref p _ hl]; rfl
theorem named_ref (p : List T_api_Const) (tag : Int) (s : List UInt8) (hl : p.length ≤ 1000000 - 10) : m_armatureref05_addNamed p tag s = some (namedF p tag s) := by
  have h1 := addF_len p (uC s)
  unfold m_armatureref05_addNamed namedF
  rw [utf_add_ref p s (by omega)]
  try simp only [Option.bind_some]
  by_cases e1 : (addF p (uC s)).2.2 = 0
  · rw [if_neg (by simpa using e1), if_pos e1, show ({ f_Tag := tag, f_S := [], f_N := 0, f_A := (addF p (uC s)).2.1, f_B := 0 } : T_api_Const) = kC tag (addF p (uC s)).2.1 0 from rfl, add_ref _ _ (by omega)]
    try simp only [Option.bind_some]
    by_cases e2 : (addF (addF p (uC s)).1 (kC tag (addF p (uC s)).2.1 0)).2.2 = 0
    · rw [if_neg (by simpa using e2), if_pos e2]
    · rw [if_pos (by simpa using e2), if_neg e2]
  · rw [if_pos (by simpa using e1), if_neg e1]
theorem class_ref (p : List T_api_Const) (s : List UInt8) (hl : p.length ≤ 1000000 - 10) : m_armatureref05_AddClass p s = some (namedF p 7 s) := by
  unfold m_armatureref05_AddClass; rw [named_ref p 7 s hl]; rfl
theorem string_ref (p : List T_api_Const) (s : List UInt8) (hl : p.length ≤ 1000000 - 10) : m_armatureref05_AddString p s = some (namedF p 8 s) := by
  unfold m_armatureref05_AddString; rw [named_ref p 8 s hl]; rfl

theorem same5 (p : List T_api_Const) (hl : p.length ≤ 1000000) : m_armatureref05_Same p p = some true := by
  unfold m_armatureref05_Same
  have : ∃ r, loopM (l27x1 p p) rounds 0 = some r ∧ r = .inl () := by
    refine loopM_ind (fun q : Int => ∃ k : Nat, k ≤ p.length ∧ q = (k : Int)) (fun q => p.length - q.toNat) (fun r : Unit ⊕ Bool => r = .inl ()) ?_ rounds 0 ⟨0, by omega, rfl⟩ ?_
    · rintro q ⟨k, hk, rfl⟩
      unfold l27x1 j27x1
      by_cases hlt : k < p.length
      · rw [if_pos (decide_eq_true (by omega)), getRP (List.getElem?_eq_getElem hlt)]
        try simp only [Option.bind_some]
        rw [eqC_refl, if_neg (show ¬ ((!true) = true) by decide), wrapP (by omega) (by omega)]
        try rw [if_pos (decide_eq_true (by omega))]
        exact ⟨_, rfl, ⟨k + 1, by omega, by simp⟩, by omega⟩
      · rw [if_neg (by simp; omega)]
        exact ⟨_, rfl, rfl⟩
    · show p.length - (0 : Int).toNat < 18446744073709551616
      omega
  obtain ⟨r, h1, h2⟩ := this
  rw [h1, h2]
  simp

theorem mref_same (p : List T_api_Const) (tag : Int) (r : T_api_Ref) (hl : p.length ≤ 90000) : ∃ v, m_pool_AddMemberRef p tag r = some v ∧ m_armatureref05_AddMemberRef p tag r = some v ∧ v.1.length ≤ p.length + 10 := by
  unfold m_pool_AddMemberRef m_armatureref05_AddMemberRef
  rw [show ({ f_Tag := 1, f_S := r.f_Class, f_N := 0, f_A := 0, f_B := 0 } : T_api_Const) = uC r.f_Class from rfl, show ({ f_Tag := 1, f_S := r.f_Name, f_N := 0, f_A := 0, f_B := 0 } : T_api_Const) = uC r.f_Name from rfl,
    show ({ f_Tag := 1, f_S := r.f_Desc, f_N := 0, f_A := 0, f_B := 0 } : T_api_Const) = uC r.f_Desc from rfl, class_ref p _ (by omega), badd p _ (by omega)]
  simp only [Option.bind_some]
  unfold namedF
  generalize ha1 : addF p (uC r.f_Class) = a1
  have l1 := addF_len p (uC r.f_Class)
  rw [ha1] at l1
  obtain ⟨q1, i1, x1⟩ := a1
  dsimp only at l1 ⊢
  by_cases e1 : x1 = 0
  · subst e1
    rw [show ({ f_Tag := 7, f_S := [], f_N := 0, f_A := i1, f_B := 0 } : T_api_Const) = kC 7 i1 0 from rfl, badd q1 _ (by omega)]
    simp only [Option.bind_some, if_true]
    generalize ha2 : addF q1 (kC 7 i1 0) = a2
    have l2 := addF_len q1 (kC 7 i1 0)
    rw [ha2] at l2
    obtain ⟨q2, i2, x2⟩ := a2
    dsimp only at l2 ⊢
    by_cases e2 : x2 = 0
    · subst e2
      rw [badd q2 _ (by omega)]
      simp only [Option.bind_some, if_true, bne_self_eq_false, Bool.false_eq_true, if_false]
      rw [utf_add_ref q2 _ (by omega)]
      simp only [Option.bind_some]
      generalize ha3 : addF q2 (uC r.f_Name) = a3
      have l3 := addF_len q2 (uC r.f_Name)
      rw [ha3] at l3
      obtain ⟨q3, i3, x3⟩ := a3
      dsimp only at l3 ⊢
      by_cases e3 : x3 = 0
      · subst e3
        rw [badd q3 _ (by omega)]
        simp only [Option.bind_some, bne_self_eq_false, Bool.false_eq_true, if_false]
        rw [utf_add_ref q3 _ (by omega)]
        simp only [Option.bind_some]
        generalize ha4 : addF q3 (uC r.f_Desc) = a4
        have l4 := addF_len q3 (uC r.f_Desc)
        rw [ha4] at l4
        obtain ⟨q4, i4, x4⟩ := a4
        dsimp only at l4 ⊢
        by_cases e4 : x4 = 0
        · subst e4
          rw [show ({ f_Tag := 12, f_S := [], f_N := 0, f_A := i3, f_B := i4 } : T_api_Const) = kC 12 i3 i4 from rfl, badd q4 _ (by omega)]
          simp only [Option.bind_some, bne_self_eq_false, Bool.false_eq_true, if_false]
          rw [add_ref q4 _ (by omega)]
          simp only [Option.bind_some]
          generalize ha5 : addF q4 (kC 12 i3 i4) = a5
          have l5 := addF_len q4 (kC 12 i3 i4)
          rw [ha5] at l5
          obtain ⟨q5, i5, x5⟩ := a5
          dsimp only at l5 ⊢
          by_cases e5 : x5 = 0
          · subst e5
            rw [show ({ f_Tag := tag, f_S := [], f_N := 0, f_A := i2, f_B := i5 } : T_api_Const) = kC tag i2 i5 from rfl, badd q5 _ (by omega)]
            simp only [Option.bind_some, bne_self_eq_false, Bool.false_eq_true, if_false]
            rw [add_ref q5 _ (by omega)]
            simp only [Option.bind_some]
            generalize ha6 : addF q5 (kC tag i2 i5) = a6
            have l6 := addF_len q5 (kC tag i2 i5)
            rw [ha6] at l6
            obtain ⟨q6, i6, x6⟩ := a6
            dsimp only at l6 ⊢
            by_cases e6 : x6 = 0
            · subst e6
              rw [bres_ok]
              exact ⟨_, rfl, rfl, by dsimp only; omega⟩
            · rw [bres_err _ _ _ e6, if_pos (bne_iff_ne.2 e6)]
              exact ⟨_, rfl, rfl, by dsimp only; omega⟩
          · rw [badd_err _ _ e5, if_pos (bne_iff_ne.2 e5)]
            simp only [Option.bind_some]
            rw [bres_err _ _ _ e5]
            exact ⟨_, rfl, rfl, by dsimp only; omega⟩
        · rw [badd_err _ _ e4, if_pos (bne_iff_ne.2 e4)]
          simp only [Option.bind_some]
          rw [badd_err _ _ e4]
          simp only [Option.bind_some]
          rw [bres_err _ _ _ e4]
          exact ⟨_, rfl, rfl, by dsimp only; omega⟩
      · rw [badd_err _ _ e3, if_pos (bne_iff_ne.2 e3)]
        simp only [Option.bind_some]
        rw [badd_err _ _ e3]
        simp only [Option.bind_some]
        rw [badd_err _ _ e3]
        simp only [Option.bind_some]
        rw [bres_err _ _ _ e3]
        exact ⟨_, rfl, rfl, by dsimp only; omega⟩
    · rw [badd_err _ _ e2, if_neg e2]
      simp only [Option.bind_some]
      rw [badd_err _ _ e2]
      simp only [Option.bind_some]
      rw [badd_err _ _ e2]
      simp only [Option.bind_some]
      rw [badd_err _ _ e2]
      simp only [Option.bind_some]
      rw [bres_err _ _ _ e2, if_pos (bne_iff_ne.2 e2)]
      exact ⟨_, rfl, rfl, by dsimp only; omega⟩
  · rw [badd_err _ _ e1, if_neg e1]
    simp only [Option.bind_some]
    rw [badd_err _ _ e1]
    simp only [Option.bind_some]
    rw [badd_err _ _ e1]
    simp only [Option.bind_some]
    rw [badd_err _ _ e1]
    simp only [Option.bind_some]
    rw [badd_err _ _ e1]
    simp only [Option.bind_some]
    rw [bres_err _ _ _ e1, if_pos (bne_iff_ne.2 e1)]
    exact ⟨_, rfl, rfl, by dsimp only; omega⟩

theorem namedF_len (p : List T_api_Const) (tag : Int) (s : List UInt8) : (namedF p tag s).1.length ≤ p.length + 2 := by
  have h1 := addF_len p (uC s)
  have h2 := addF_len (addF p (uC s)).1 (kC tag (addF p (uC s)).2.1 0)
  unfold namedF
  split
  · split
    · show (addF (addF p (uC s)).1 (kC tag (addF p (uC s)).2.1 0)).1.length ≤ _; omega
    · show p.length ≤ _; omega
  · show p.length ≤ _; omega

end Go.Proofs
