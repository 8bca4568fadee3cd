/-
  What poolcode.Encode and its reference compute, and the law PoolcodeEncode. No condition but on the sizes that a statement gives.
-/
import Derived.Test.YtehnlgjdpfonlaaPcdOct
namespace Go.Proofs
open Go.Den

theorem awake6 : m_armaturelaw06_awake = some true := by kernel_rfl

theorem getR_some {α : Type} {l : List α} {i : Nat} (h : i < l.length) : getR l (i : Int) = some l[i] := by
  unfold getR; rw [if_pos (by omega)]; simp [h]

/-- A pool that is small enough. -/
def smallP (p : List T_api_Const) : Prop := p.length ≤ 2000 ∧ ∀ c ∈ p, c.f_S.length ≤ 3000

theorem few6 (p : List T_api_Const) : ∃ b, m_armaturelaw06_few p = some b ∧ (b = true → smallP p) := by
  have hloop : ∃ r, loopM (l7x1 p) rounds (0, 0) = some r ∧ (∀ n, r = .inl n → ∀ k (hk : k < p.length), k < 2001 → p[k].f_S.length ≤ 3000) := by
    refine loopM_ind (fun t : Int × Int => ∃ i : Nat, t.2 = i ∧ i ≤ 2001 ∧ ∀ k (hk : k < p.length), k < i → p[k].f_S.length ≤ 3000) (fun t : Int × Int => (2002 - t.2).toNat) (fun r : Int ⊕ Bool => ∀ n, r = .inl n → ∀ k (hk : k < p.length), k < 2001 → p[k].f_S.length ≤ 3000) ?_ rounds (0, 0) ⟨0, rfl, by omega, fun k hk h => by omega⟩ (by decide)
    rintro ⟨n, i'⟩ ⟨i, rfl, hi, hall⟩
    dsimp only at *
    unfold l7x1
    by_cases h1 : (i : Int) < (p.length : Int)
    · by_cases h2 : (i : Int) < 2001
      · have hlt : i < p.length := by omega
        rw [if_pos (decide_eq_true h1), if_pos (decide_eq_true h2)]
        unfold j7x1
        dsimp only
        rw [getR_some hlt]
        simp only [Option.bind_some]
        by_cases h3 : (p[i].f_S.length : Int) > 3000
        · rw [if_pos (decide_eq_true h3)]
          exact ⟨_, rfl, fun n hn => by cases hn⟩
        · rw [if_neg (by simpa using h3), wrapI64 ((i : Int) + 1), show ((i : Int) + 1 + 9223372036854775808) % 18446744073709551616 - 9223372036854775808 = ((i + 1 : Nat) : Int) by omega]
          refine ⟨_, rfl, ⟨i + 1, rfl, by omega, fun k hk h => ?_⟩, by omega⟩
          by_cases hk' : k < i
          · exact hall k hk hk'
          · obtain rfl : k = i := by omega
            omega
      · rw [if_pos (decide_eq_true h1), if_neg (by simpa using h2)]
        exact ⟨_, rfl, fun n _ k hk h => hall k hk (by omega)⟩
    · rw [if_neg (by simpa using h1)]
      exact ⟨_, rfl, fun n _ k hk h => hall k hk (by omega)⟩
  obtain ⟨r, hr, hp⟩ := hloop
  unfold m_armaturelaw06_few
  rw [hr]
  simp only [Option.bind_some]
  cases r with
  | inr y =>
    refine ⟨y, rfl, fun hy => ?_⟩
    -- only 'false' leaves the loop so
    exfalso
    have : ∃ r, loopM (l7x1 p) rounds (0, 0) = some r ∧ (∀ y, r = .inr y → y = false) := by
      refine loopM_ind (fun t : Int × Int => ∃ i : Nat, t.2 = i ∧ i ≤ 2001) (fun t : Int × Int => (2002 - t.2).toNat) (fun r : Int ⊕ Bool => ∀ y, r = .inr y → y = false) ?_ rounds (0, 0) ⟨0, rfl, by omega⟩ (by decide)
      rintro ⟨n, i'⟩ ⟨i, rfl, hi⟩
      dsimp only at *
      unfold l7x1
      by_cases h1 : (i : Int) < (p.length : Int)
      · by_cases h2 : (i : Int) < 2001
        · have hlt : i < p.length := by omega
          rw [if_pos (decide_eq_true h1), if_pos (decide_eq_true h2)]
          unfold j7x1
          dsimp only
          rw [getR_some hlt]
          simp only [Option.bind_some]
          by_cases h3 : (p[i].f_S.length : Int) > 3000
          · rw [if_pos (decide_eq_true h3)]
            exact ⟨_, rfl, fun n hn => by cases hn; rfl⟩
          · rw [if_neg (by simpa using h3), wrapI64 ((i : Int) + 1), show ((i : Int) + 1 + 9223372036854775808) % 18446744073709551616 - 9223372036854775808 = ((i + 1 : Nat) : Int) by omega]
            exact ⟨_, rfl, ⟨i + 1, rfl, by omega⟩, by omega⟩
        · rw [if_pos (decide_eq_true h1), if_neg (by simpa using h2)]
          exact ⟨_, rfl, fun y hy => by cases hy⟩
      · rw [if_neg (by simpa using h1)]
        exact ⟨_, rfl, fun y hy => by cases hy⟩
    obtain ⟨r', e1, e2⟩ := this
    rw [hr] at e1
    cases e1
    rw [e2 y rfl] at hy
    cases hy
  | inl n =>
    dsimp only
    by_cases h : (p.length : Int) ≤ 2000
    · rw [if_pos (decide_eq_true h)]
      refine ⟨_, rfl, fun _ => ⟨by omega, fun c hc => ?_⟩⟩
      obtain ⟨k, hk, rfl⟩ := List.getElem_of_mem hc
      exact hp n rfl k hk (by omega)
    · rw [if_neg (by simpa using h)]
      exact ⟨_, rfl, fun hf => by cases hf⟩

theorem smallP.short {p : List T_api_Const} (h : smallP p) : shortP p := ⟨by have := h.1; omega, fun c hc => by have := h.2 c hc; omega⟩

/-! ### The bytes of one constant -/

def putS (x n : Int) : List UInt8 := ((m_octet_Put x n).getD ([], 0)).1
theorem putS_eq (x n : Int) : ∃ e, m_octet_Put x n = some (putS x n, e) ∧ (putS x n).length ≤ 8 := by
  obtain ⟨s, e, h, hl⟩ := put_some x n
  unfold putS
  rw [h]
  exact ⟨e, rfl, hl⟩
def strS (s : List UInt8) : List UInt8 := if (s.length : Int) > 65535 then [] else bytesOf (by2 (s.length : Int)) ++ s
theorem strS_eq (s : List UInt8) (hl : (s.length : Int) ≤ 140737488355328) : ∃ e, m_octet_PutString s = some (strS s, e) := by
  rw [putstring s hl]
  unfold strS
  split
  · exact ⟨_, rfl⟩
  · exact ⟨_, rfl⟩
theorem strS_len (s : List UInt8) : (strS s).length ≤ s.length + 2 := by
  unfold strS
  split
  · simp
  · rw [List.length_append]
    have : (bytesOf (by2 (s.length : Int))).length = 2 := rfl
    omega

def oneS (c : T_api_Const) : List UInt8 := putS c.f_Tag 1 ++ (if c.f_Tag = 1 then strS c.f_S else if c.f_Tag = 3 then putS c.f_N 4 else if c.f_Tag = 5 then putS c.f_N 8 else if c.f_Tag = 7 ∨ c.f_Tag = 8 then putS c.f_A 2 else putS c.f_A 2 ++ putS c.f_B 2)
theorem putS_len (x n : Int) : (putS x n).length ≤ 8 := (putS_eq x n).choose_spec.2
theorem oneS_len (c : T_api_Const) : (oneS c).length ≤ c.f_S.length + 24 := by
  unfold oneS
  rw [List.length_append]
  have h0 := putS_len c.f_Tag 1
  split
  · have := strS_len c.f_S; omega
  · split
    · have := putS_len c.f_N 4; omega
    · split
      · have := putS_len c.f_N 8; omega
      · split
        · have := putS_len c.f_A 2; omega
        · rw [List.length_append]; have := putS_len c.f_A 2; have := putS_len c.f_B 2; omega

theorem cat_ok {a b : List UInt8} (h : a.length + b.length ≤ 140737488355328) : catK a b = some (a ++ b) := by unfold catK; rw [if_pos (by omega)]
theorem grow_ok {n : Nat} (h : n ≤ 140737488355328) : growK 1 n = some () := by unfold growK; rw [if_pos (by omega)]

/-- What the reference's 'one' gives. -/
theorem one_ref (c : T_api_Const) (h : c.f_S.length ≤ 1048576) : m_armatureref06_one c = some (oneS c) := by
  obtain ⟨e0, h0, l0⟩ := putS_eq c.f_Tag 1
  obtain ⟨e1, h1, l1⟩ := putS_eq c.f_N 4
  obtain ⟨e2, h2, l2⟩ := putS_eq c.f_N 8
  obtain ⟨e3, h3, l3⟩ := putS_eq c.f_A 2
  obtain ⟨e4, h4, l4⟩ := putS_eq c.f_B 2
  obtain ⟨e5, h5⟩ := strS_eq c.f_S (by omega)
  have l5 := strS_len c.f_S
  rw [put_same] at h0 h1 h2 h3 h4
  rw [putstring_same] at h5
  have n1 : ∀ {a : List UInt8}, a.length ≤ 2000000 → catK a [] = some a := fun h => by rw [cat_ok (by simp; omega)]; simp
  unfold m_armatureref06_one oneS j21x1 j21x3 j21x2
  rw [h0]
  simp only [Option.bind_some]
  by_cases t1 : c.f_Tag = 1
  · rw [if_pos (by simp [t1]), if_pos t1, h5]
    simp only [Option.bind_some]
    rw [cat_ok (by omega), Option.bind_some, n1 (by simp; omega), Option.bind_some, n1 (by simp; omega), Option.bind_some]
  · rw [if_neg (by simp [t1]), if_neg t1]
    by_cases t3 : c.f_Tag = 3
    · rw [if_pos (by simp [t3]), if_pos t3, h1]
      simp only [Option.bind_some]
      rw [cat_ok (by omega), Option.bind_some, n1 (by simp; omega), Option.bind_some, n1 (by simp; omega), Option.bind_some]
    · rw [if_neg (by simp [t3]), if_neg t3]
      by_cases t5 : c.f_Tag = 5
      · rw [if_pos (by simp [t5]), if_pos t5, h2]
        simp only [Option.bind_some]
        rw [cat_ok (by omega), Option.bind_some, n1 (by simp; omega), Option.bind_some, n1 (by simp; omega), Option.bind_some]
      · rw [if_neg (by simp [t5]), if_neg t5, h3, h4]
        have w1 : ((catK (putS c.f_Tag 1) (putS c.f_A 2)).bind fun v19 => (catK v19 ([] : List UInt8)).bind fun v20 => (catK v20 ([] : List UInt8)).bind fun v21 => some v21) = some (putS c.f_Tag 1 ++ putS c.f_A 2) := by
          rw [cat_ok (by omega), Option.bind_some, n1 (by simp; omega), Option.bind_some, n1 (by simp; omega), Option.bind_some]
        by_cases t7 : c.f_Tag = 7
        · rw [if_pos (by simp [t7]), if_pos (.inl t7)]
          simp only [Option.bind_some]
          exact w1
        · rw [if_neg (by simp [t7])]
          by_cases t8 : c.f_Tag = 8
          · rw [if_pos (by simp [t8]), if_pos (.inr t8)]
            simp only [Option.bind_some]
            exact w1
          · rw [if_neg (by simp [t8]), if_neg (by omega)]
            simp only [Option.bind_some]
            rw [n1 (by omega), Option.bind_some, cat_ok (by omega), Option.bind_some, cat_ok (by simp; omega), Option.bind_some, List.append_assoc]

theorem bytesI_app (a b : List UInt8) : bytesI a ++ bytesI b = bytesI (a ++ b) := by simp [bytesI]
theorem bytesI_len (a : List UInt8) : (bytesI a).length = a.length := by simp [bytesI]
theorem bytesOf_I (a : List UInt8) : bytesOf (bytesI a) = a := by
  unfold bytesOf bytesI
  rw [List.map_map]
  exact (List.map_congr_left fun b _ => by simp).trans (List.map_id a)

theorem wstr (a s : List UInt8) (h : a.length + s.length ≤ 140737488355328) : m_strings_Builder_WriteString_s43 (bytesI a) s = some (bytesI (a ++ s), (s.length : Int), ()) := by
  unfold m_strings_Builder_WriteString_s43 m_strings_Builder_copyCheck_s43
  simp only [Option.bind_some]
  rw [bytesI_app, bytesI_len, grow_ok (by simpa using h)]
  rfl
theorem wnum (a : List UInt8) (x n : Int) (h : a.length ≤ 100000000) : m_armature_poolcode_writer_number_s43 (bytesI a) x n = some (bytesI (a ++ putS x n)) := by
  obtain ⟨e, h1, h2⟩ := putS_eq x n
  unfold m_armature_poolcode_writer_number_s43
  rw [h1]
  simp only [Option.bind_some]
  rw [wstr _ _ (by omega)]
  rfl

/-- A round of the loop of 'Encode'. -/
theorem enc_step {p : List T_api_Const} {i : Nat} (h : i < p.length) (hi : i < 3000) {a : List UInt8} (ha : a.length ≤ 50000000) (hs : p[i].f_S.length ≤ 1048576) :
    l9x1 p ((i : Int), bytesI a) = some (.next (((i + 1 : Nat) : Int), bytesI (a ++ oneS p[i]))) := by
  have hw : IntKind.wrap .i64 ((i : Int) + 1) = ((i + 1 : Nat) : Int) := by rw [wrapI64]; omega
  obtain ⟨e5, h5⟩ := strS_eq p[i].f_S (by omega)
  have l5 := strS_len p[i].f_S
  have l0 := putS_len p[i].f_Tag 1
  have l3 := putS_len p[i].f_A 2
  unfold l9x1 j9x1 j9x3 j9x2
  dsimp only
  rw [if_pos (decide_eq_true (by omega)), getR_some h]
  simp only [Option.bind_some]
  rw [wnum _ _ _ (by omega)]
  simp only [Option.bind_some, hw]
  generalize p[i] = c at *
  unfold oneS
  by_cases t1 : c.f_Tag = 1
  · rw [if_pos (by simp [t1]), if_pos t1, h5]
    simp only [Option.bind_some]
    rw [wstr _ _ (by simp; omega)]
    simp only [Option.bind_some, List.append_assoc]
  · rw [if_neg (by simp [t1]), if_neg t1]
    by_cases t3 : c.f_Tag = 3
    · rw [if_pos (by simp [t3]), if_pos t3, wnum _ _ _ (by simp; omega)]
      simp only [Option.bind_some, List.append_assoc]
    · rw [if_neg (by simp [t3]), if_neg t3]
      by_cases t5 : c.f_Tag = 5
      · rw [if_pos (by simp [t5]), if_pos t5, wnum _ _ _ (by simp; omega)]
        simp only [Option.bind_some, List.append_assoc]
      · rw [if_neg (by simp [t5]), if_neg t5]
        by_cases t7 : c.f_Tag = 7
        · rw [if_pos (by simp [t7]), if_pos (.inl t7), wnum _ _ _ (by simp; omega)]
          simp only [Option.bind_some, List.append_assoc]
        · rw [if_neg (by simp [t7])]
          by_cases t8 : c.f_Tag = 8
          · rw [if_pos (by simp [t8]), if_pos (.inr t8), wnum _ _ _ (by simp; omega)]
            simp only [Option.bind_some, List.append_assoc]
          · rw [if_neg (by simp [t8]), if_neg (by omega), wnum _ _ _ (by simp; omega)]
            simp only [Option.bind_some]
            rw [wnum _ _ _ (by simp; omega)]
            simp only [Option.bind_some, List.append_assoc]

/-- The encoding of the constants one behind another. -/
def allS (l : List T_api_Const) : List UInt8 := (l.map oneS).flatten
theorem allS_app (a b : List T_api_Const) : allS (a ++ b) = allS a ++ allS b := by simp [allS]
theorem allS_one (c : T_api_Const) : allS [c] = oneS c := by simp [allS]
theorem allS_len : ∀ (l : List T_api_Const), (∀ c ∈ l, c.f_S.length ≤ 3000) → (allS l).length ≤ 3024 * l.length
  | [], _ => by simp [allS]
  | c :: l, h => by
    have h1 := allS_len l (fun x hx => h x (by simp [hx]))
    have h2 := oneS_len c
    have h3 := h c (by simp)
    have : allS (c :: l) = oneS c ++ allS l := rfl
    rw [this, List.length_append, List.length_cons]; omega

theorem take_succ {p : List T_api_Const} {i : Nat} (h : i < p.length) : p.take (i + 1) = p.take i ++ [p[i]] := by rw [List.take_add_one, List.getElem?_eq_getElem h]; rfl

theorem take_len {p : List T_api_Const} (hp : smallP p) (i : Nat) : (allS (p.take i)).length ≤ 6048000 := by
  have h1 := allS_len (p.take i) (fun c hc => hp.2 c (List.mem_of_mem_take hc))
  have h2 : (p.take i).length ≤ 2000 := by rw [List.length_take]; have := hp.1; omega
  omega

/-- The encoding of a pool. -/
def encS (p : List T_api_Const) : List UInt8 := putS (p.length : Int) 2 ++ allS p
def encF (p : List T_api_Const) : Option (List UInt8 × Int) := (m_pool_Check p).map fun v => if v.2 ≠ 0 then ([], v.2) else (encS p, 0)

theorem head_len (p : List T_api_Const) (h : p.length ≤ 2000) : (putS (p.length : Int) 2).length = 2 := by
  unfold putS
  rw [Put2, if_neg (by omega)]
  rfl

theorem enc_pool {p : List T_api_Const} (hp : smallP p) : m_poolcode_Encode p = encF p := by
  obtain ⟨v, hv, -⟩ := Check_same p hp.short
  unfold m_poolcode_Encode encF
  rw [hv]
  simp only [Option.bind_some, Option.map_some]
  by_cases h : v.2 = 0
  · rw [if_neg (by simp [h]), if_neg (by simp [h])]
    have e0 : m_armature_poolcode_writer_number_n43 ([] : List Int) (p.length : Int) 2 = some (bytesI (putS (p.length : Int) 2)) := by
      have := wnum [] (p.length : Int) 2 (by simp)
      simp only [bytesI, List.map_nil, List.nil_append] at this
      exact this
    rw [e0]
    simp only [Option.bind_some]
    have hl : ∃ r, loopM (l9x1 p) rounds (0, bytesI (putS (p.length : Int) 2)) = some r ∧ r = bytesI (encS p) := by
      refine loopM_ind (fun t => ∃ i : Nat, i ≤ p.length ∧ t = ((i : Int), bytesI (putS (p.length : Int) 2 ++ allS (p.take i)))) (fun t => (p.length - t.1).toNat) _ ?_ rounds _ ⟨0, by omega, by simp [allS]⟩ ?_
      · rintro t ⟨i, hi, rfl⟩
        by_cases hlt : i < p.length
        · have hb := take_len hp i
          have hd := head_len p hp.1
          refine ⟨_, enc_step hlt (by have := hp.1; omega) (by rw [List.length_append]; omega) (by have := hp.2 p[i] (List.getElem_mem hlt); omega), ⟨i + 1, by omega, ?_⟩, by dsimp only; omega⟩
          rw [List.append_assoc, ← allS_one, ← allS_app, ← take_succ hlt]
        · obtain rfl : i = p.length := by omega
          refine ⟨.done (bytesI (encS p)), ?_, rfl⟩
          unfold l9x1
          dsimp only
          rw [if_neg (by simp), List.take_length]; rfl
      · have := hp.1
        unfold rounds
        show ((p.length : Int) - 0).toNat < _
        omega
    obtain ⟨r, hr, rfl⟩ := hl
    rw [hr]
    simp only [Option.bind_some]
    have hne : bytesI (encS p) ≠ [] := by
      intro h0
      have := congrArg List.length h0
      rw [bytesI_len] at this
      unfold encS at this
      rw [List.length_append, head_len p hp.1] at this
      simp at this
    have hlen : (bytesI (encS p)).length ≤ 9223372036854775807 := by
      rw [bytesI_len]
      unfold encS
      have := take_len hp p.length
      rw [List.take_length] at this
      rw [List.length_append, head_len p hp.1]; omega
    unfold m_strings_Builder_String_s43 W.usK
    rw [if_pos ⟨hne, hlen⟩, bytesOf_I]
    rfl
  · rw [if_pos (by simp [h]), if_pos h]

theorem enc_ref {p : List T_api_Const} (hp : smallP p) : m_armatureref06_Encode p = encF p := by
  obtain ⟨v, hv, hv'⟩ := Check_same p hp.short
  unfold m_armatureref06_Encode encF
  rw [hv, hv']
  simp only [Option.bind_some, Option.map_some]
  by_cases h : v.2 = 0
  · rw [if_neg (by simp [h]), if_neg (by simp [h])]
    obtain ⟨e, e1, -⟩ := putS_eq (p.length : Int) 2
    rw [put_same] at e1
    rw [e1]
    simp only [Option.bind_some]
    have hl : ∃ r, loopM (l10x1 p) rounds (putS (p.length : Int) 2, 0) = some r ∧ r = encS p := by
      refine loopM_ind (fun t => ∃ i : Nat, i ≤ p.length ∧ t = (putS (p.length : Int) 2 ++ allS (p.take i), (i : Int))) (fun t => (p.length - t.2).toNat) _ ?_ rounds _ ⟨0, by omega, by simp [allS]⟩ ?_
      · rintro t ⟨i, hi, rfl⟩
        unfold l10x1
        dsimp only
        by_cases hlt : i < p.length
        · have hb := take_len hp i
          have hd := head_len p hp.1
          have hS := hp.2 p[i] (List.getElem_mem hlt)
          have ho := oneS_len p[i]
          rw [if_pos (decide_eq_true (by omega)), getR_some hlt]
          simp only [Option.bind_some]
          rw [one_ref _ (by omega)]
          simp only [Option.bind_some]
          rw [cat_ok (by rw [List.length_append]; omega)]
          simp only [Option.bind_some]
          have hw : IntKind.wrap .i64 ((i : Int) + 1) = ((i + 1 : Nat) : Int) := by rw [wrapI64]; have := hp.1; omega
          rw [hw]
          refine ⟨_, rfl, ⟨i + 1, by omega, ?_⟩, by dsimp only; omega⟩
          rw [List.append_assoc, ← allS_one, ← allS_app, ← take_succ hlt]
        · obtain rfl : i = p.length := by omega
          rw [if_neg (by simp), List.take_length]
          exact ⟨_, rfl, rfl⟩
      · have := hp.1
        unfold rounds
        show ((p.length : Int) - 0).toNat < _
        omega
    obtain ⟨r, hr, rfl⟩ := hl
    rw [hr]; rfl
  · rw [if_pos (by simp [h]), if_pos h]

theorem encF_some {p : List T_api_Const} (hp : smallP p) : ∃ r, encF p = some r := by
  obtain ⟨v, hv, -⟩ := Check_same p hp.short
  exact ⟨_, by unfold encF; rw [hv]; rfl⟩

theorem law_PoolcodeEncode (p : List T_api_Const) : m_armaturelaw06_PoolcodeEncode p = some true := by
  obtain ⟨b, hb, hs⟩ := few6 p
  unfold m_armaturelaw06_PoolcodeEncode
  rw [hb, awake6]
  cases b with
  | false => rfl
  | true =>
    obtain ⟨r, hr⟩ := encF_some (hs rfl)
    rw [enc_pool (hs rfl), enc_ref (hs rfl), hr]
    simp
end Go.Proofs
