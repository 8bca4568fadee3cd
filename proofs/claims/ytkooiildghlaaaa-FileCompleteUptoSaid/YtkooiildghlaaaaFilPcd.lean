/-
  Laws about models that another chapter has too, in this chapter's function numbers. Printed by ren.py. No condition.
-/
import Derived.Test.YtkooiildghlaaaaFilOct
namespace Go.Proofs
open Go.Den
theorem getR_some {α : Type} {l : List α} {i : Nat} (h : i < l.length) : getR l (i : Int) = some l[i] := by
  unfold getR; rw [if_pos (by omega)]; simp [h]

/-- A pool that is small enough. -/
def smallP (p : List T_api_Const) : Prop := p.length ≤ 2000 ∧ ∀ c ∈ p, c.f_S.length ≤ 3000

theorem smallP.short {p : List T_api_Const} (h : smallP p) : shortP p := ⟨by have := h.1; omega, fun c hc => by have := h.2 c hc; omega⟩

/-! ### The bytes of one constant -/

def putS (x n : Int) : List UInt8 := ((m_octet_Put x n).getD ([], 0)).1
theorem putS_eq (x n : Int) : ∃ e, m_octet_Put x n = some (putS x n, e) ∧ (putS x n).length ≤ 8 := by
  obtain ⟨s, e, h, hl⟩ := put_some x n
  unfold putS
  rw [h]
  exact ⟨e, rfl, hl⟩
def strS (s : List UInt8) : List UInt8 := if (s.length : Int) > 65535 then [] else bytesOf (by2 (s.length : Int)) ++ s
theorem strS_eq (s : List UInt8) (hl : (s.length : Int) ≤ 140737488355328) : ∃ e, m_octet_PutString s = some (strS s, e) := by
  rw [putstring s hl]
  unfold strS
  split
  · exact ⟨_, rfl⟩
  · exact ⟨_, rfl⟩
theorem strS_len (s : List UInt8) : (strS s).length ≤ s.length + 2 := by
  unfold strS
  split
  · simp
  · rw [List.length_append]
    have : (bytesOf (by2 (s.length : Int))).length = 2 := rfl
    omega

def oneS (c : T_api_Const) : List UInt8 := putS c.f_Tag 1 ++ (if c.f_Tag = 1 then strS c.f_S else if c.f_Tag = 3 then putS c.f_N 4 else if c.f_Tag = 5 then putS c.f_N 8 else if c.f_Tag = 7 ∨ c.f_Tag = 8 then putS c.f_A 2 else putS c.f_A 2 ++ putS c.f_B 2)
theorem putS_len (x n : Int) : (putS x n).length ≤ 8 := (putS_eq x n).choose_spec.2
theorem oneS_len (c : T_api_Const) : (oneS c).length ≤ c.f_S.length + 24 := by
  unfold oneS
  rw [List.length_append]
  have h0 := putS_len c.f_Tag 1
  split
  · have := strS_len c.f_S; omega
  · split
    · have := putS_len c.f_N 4; omega
    · split
      · have := putS_len c.f_N 8; omega
      · split
        · have := putS_len c.f_A 2; omega
        · rw [List.length_append]; have := putS_len c.f_A 2; have := putS_len c.f_B 2; omega

theorem cat_ok {a b : List UInt8} (h : a.length + b.length ≤ 140737488355328) : catK a b = some (a ++ b) := by unfold catK; rw [if_pos (by omega)]
theorem grow_ok {n : Nat} (h : n ≤ 140737488355328) : growK 1 n = some () := by unfold growK; rw [if_pos (by omega)]

/-- What the reference's 'one' gives. -/
theorem one_ref (c : T_api_Const) (h : c.f_S.length ≤ 1048576) : m_armatureref06_one c = some (oneS c) := by
  obtain ⟨e0, h0, l0⟩ := putS_eq c.f_Tag 1
  obtain ⟨e1, h1, l1⟩ := putS_eq c.f_N 4
  obtain ⟨e2, h2, l2⟩ := putS_eq c.f_N 8
  obtain ⟨e3, h3, l3⟩ := putS_eq c.f_A 2
  obtain ⟨e4, h4, l4⟩ := putS_eq c.f_B 2
  obtain ⟨e5, h5⟩ := strS_eq c.f_S (by omega)
  have l5 := strS_len c.f_S
  rw [put_same] at h0 h1 h2 h3 h4
  rw [putstring_same] at h5
  have n1 : ∀ {a : List UInt8}, a.length ≤ 2000000 → catK a [] = some a := fun h => by rw [cat_ok (by simp; omega)]; simp
  unfold m_armatureref06_one oneS j51x1 j51x3 j51x2
  rw [h0]
  simp only [Option.bind_some]
  by_cases t1 : c.f_Tag = 1
  · rw [if_pos (by simp [t1]), if_pos t1, h5]
    simp only [Option.bind_some]
    rw [cat_ok (by omega), Option.bind_some, n1 (by simp; omega), Option.bind_some, n1 (by simp; omega), Option.bind_some]
  · rw [if_neg (by simp [t1]), if_neg t1]
    by_cases t3 : c.f_Tag = 3
    · rw [if_pos (by simp [t3]), if_pos t3, h1]
      simp only [Option.bind_some]
      rw [cat_ok (by omega), Option.bind_some, n1 (by simp; omega), Option.bind_some, n1 (by simp; omega), Option.bind_some]
    · rw [if_neg (by simp [t3]), if_neg t3]
      by_cases t5 : c.f_Tag = 5
      · rw [if_pos (by simp [t5]), if_pos t5, h2]
        simp only [Option.bind_some]
        rw [cat_ok (by omega), Option.bind_some, n1 (by simp; omega), Option.bind_some, n1 (by simp; omega), Option.bind_some]
      · rw [if_neg (by simp [t5]), if_neg t5, h3, h4]
        have w1 : ((catK (putS c.f_Tag 1) (putS c.f_A 2)).bind fun v19 => (catK v19 ([] : List UInt8)).bind fun v20 => (catK v20 ([] : List UInt8)).bind fun v21 => some v21) = some (putS c.f_Tag 1 ++ putS c.f_A 2) := by
          rw [cat_ok (by omega), Option.bind_some, n1 (by simp; omega), Option.bind_some, n1 (by simp; omega), Option.bind_some]
        by_cases t7 : c.f_Tag = 7
        · rw [if_pos (by simp [t7]), if_pos (.inl t7)]
          simp only [Option.bind_some]
          exact w1
        · rw [if_neg (by simp [t7])]
          by_cases t8 : c.f_Tag = 8
          · rw [if_pos (by simp [t8]), if_pos (.inr t8)]
            simp only [Option.bind_some]
            exact w1
          · rw [if_neg (by simp [t8]), if_neg (by omega)]
            simp only [Option.bind_some]
            rw [n1 (by omega), Option.bind_some, cat_ok (by omega), Option.bind_some, cat_ok (by simp; omega), Option.bind_some, List.append_assoc]

theorem bytesI_app (a b : List UInt8) : bytesI a ++ bytesI b = bytesI (a ++ b) := by simp [bytesI]
theorem bytesI_len (a : List UInt8) : (bytesI a).length = a.length := by simp [bytesI]
theorem bytesOf_I (a : List UInt8) : bytesOf (bytesI a) = a := by
  unfold bytesOf bytesI
  rw [List.map_map]
  exact (List.map_congr_left fun b _ => by simp).trans (List.map_id a)

theorem wstr (a s : List UInt8) (h : a.length + s.length ≤ 140737488355328) : m_strings_Builder_WriteString_s83 (bytesI a) s = some (bytesI (a ++ s), (s.length : Int), ()) := by
  unfold m_strings_Builder_WriteString_s83 m_strings_Builder_copyCheck_s83
  simp only [Option.bind_some]
  rw [bytesI_app, bytesI_len, grow_ok (by simpa using h)]
  rfl
theorem wnum (a : List UInt8) (x n : Int) (h : a.length ≤ 100000000) : m_armature_poolcode_writer_number_s83 (bytesI a) x n = some (bytesI (a ++ putS x n)) := by
  obtain ⟨e, h1, h2⟩ := putS_eq x n
  unfold m_armature_poolcode_writer_number_s83
  rw [h1]
  simp only [Option.bind_some]
  rw [wstr _ _ (by omega)]
  rfl

/-- A round of the loop of 'Encode'. -/
theorem enc_step {p : List T_api_Const} {i : Nat} (h : i < p.length) (hi : i < 3000) {a : List UInt8} (ha : a.length ≤ 50000000) (hs : p[i].f_S.length ≤ 1048576) :
    l16x1 p ((i : Int), bytesI a) = some (.next (((i + 1 : Nat) : Int), bytesI (a ++ oneS p[i]))) := by
  have hw : IntKind.wrap .i64 ((i : Int) + 1) = ((i + 1 : Nat) : Int) := by rw [wrapI64]; omega
  obtain ⟨e5, h5⟩ := strS_eq p[i].f_S (by omega)
  have l5 := strS_len p[i].f_S
  have l0 := putS_len p[i].f_Tag 1
  have l3 := putS_len p[i].f_A 2
  unfold l16x1 j16x1 j16x3 j16x2
  dsimp only
  rw [if_pos (decide_eq_true (by omega)), getR_some h]
  simp only [Option.bind_some]
  rw [wnum _ _ _ (by omega)]
  simp only [Option.bind_some, hw]
  generalize p[i] = c at *
  unfold oneS
  by_cases t1 : c.f_Tag = 1
  · rw [if_pos (by simp [t1]), if_pos t1, h5]
    simp only [Option.bind_some]
    rw [wstr _ _ (by simp; omega)]
    simp only [Option.bind_some, List.append_assoc]
  · rw [if_neg (by simp [t1]), if_neg t1]
    by_cases t3 : c.f_Tag = 3
    · rw [if_pos (by simp [t3]), if_pos t3, wnum _ _ _ (by simp; omega)]
      simp only [Option.bind_some, List.append_assoc]
    · rw [if_neg (by simp [t3]), if_neg t3]
      by_cases t5 : c.f_Tag = 5
      · rw [if_pos (by simp [t5]), if_pos t5, wnum _ _ _ (by simp; omega)]
        simp only [Option.bind_some, List.append_assoc]
      · rw [if_neg (by simp [t5]), if_neg t5]
        by_cases t7 : c.f_Tag = 7
        · rw [if_pos (by simp [t7]), if_pos (.inl t7), wnum _ _ _ (by simp; omega)]
          simp only [Option.bind_some, List.append_assoc]
        · rw [if_neg (by simp [t7])]
          by_cases t8 : c.f_Tag = 8
          · rw [if_pos (by simp [t8]), if_pos (.inr t8), wnum _ _ _ (by simp; omega)]
            simp only [Option.bind_some, List.append_assoc]
          · rw [if_neg (by simp [t8]), if_neg (by omega), wnum _ _ _ (by simp; omega)]
            simp only [Option.bind_some]
            rw [wnum _ _ _ (by simp; omega)]
            simp only [Option.bind_some, List.append_assoc]

/-- The encoding of the constants one behind another. -/
def allS (l : List T_api_Const) : List UInt8 := (l.map oneS).flatten
theorem allS_app (a b : List T_api_Const) : allS (a ++ b) = allS a ++ allS b := by simp [allS]
theorem allS_one (c : T_api_Const) : allS [c] = oneS c := by simp [allS]
theorem allS_len : ∀ (l : List T_api_Const), (∀ c ∈ l, c.f_S.length ≤ 3000) → (allS l).length ≤ 3024 * l.length
  | [], _ => by simp [allS]
  | c :: l, h => by
    have h1 := allS_len l (fun x hx => h x (by simp [hx]))
    have h2 := oneS_len c
    have h3 := h c (by simp)
    have : allS (c :: l) = oneS c ++ allS l := rfl
    rw [this, List.length_append, List.length_cons]; omega

theorem take_succ {p : List T_api_Const} {i : Nat} (h : i < p.length) : p.take (i + 1) = p.take i ++ [p[i]] := by rw [List.take_add_one, List.getElem?_eq_getElem h]; rfl

theorem take_len {p : List T_api_Const} (hp : smallP p) (i : Nat) : (allS (p.take i)).length ≤ 6048000 := by
  have h1 := allS_len (p.take i) (fun c hc => hp.2 c (List.mem_of_mem_take hc))
  have h2 : (p.take i).length ≤ 2000 := by rw [List.length_take]; have := hp.1; omega
  omega

/-- The encoding of a pool. -/
def encS (p : List T_api_Const) : List UInt8 := putS (p.length : Int) 2 ++ allS p
def encF (p : List T_api_Const) : Option (List UInt8 × Int) := (m_pool_Check p).map fun v => if v.2 ≠ 0 then ([], v.2) else (encS p, 0)

theorem head_len (p : List T_api_Const) (h : p.length ≤ 2000) : (putS (p.length : Int) 2).length = 2 := by
  unfold putS
  rw [Put2, if_neg (by omega)]
  rfl

theorem enc_pool {p : List T_api_Const} (hp : smallP p) : m_poolcode_Encode p = encF p := by
  obtain ⟨v, hv, -⟩ := Check_same p hp.short
  unfold m_poolcode_Encode encF
  rw [hv]
  simp only [Option.bind_some, Option.map_some]
  by_cases h : v.2 = 0
  · rw [if_neg (by simp [h]), if_neg (by simp [h])]
    have e0 : m_armature_poolcode_writer_number_n83 ([] : List Int) (p.length : Int) 2 = some (bytesI (putS (p.length : Int) 2)) := by
      have := wnum [] (p.length : Int) 2 (by simp)
      simp only [bytesI, List.map_nil, List.nil_append] at this
      exact this
    rw [e0]
    simp only [Option.bind_some]
    have hl : ∃ r, loopM (l16x1 p) rounds (0, bytesI (putS (p.length : Int) 2)) = some r ∧ r = bytesI (encS p) := by
      refine loopM_ind (fun t => ∃ i : Nat, i ≤ p.length ∧ t = ((i : Int), bytesI (putS (p.length : Int) 2 ++ allS (p.take i)))) (fun t => (p.length - t.1).toNat) _ ?_ rounds _ ⟨0, by omega, by simp [allS]⟩ ?_
      · rintro t ⟨i, hi, rfl⟩
        by_cases hlt : i < p.length
        · have hb := take_len hp i
          have hd := head_len p hp.1
          refine ⟨_, enc_step hlt (by have := hp.1; omega) (by rw [List.length_append]; omega) (by have := hp.2 p[i] (List.getElem_mem hlt); omega), ⟨i + 1, by omega, ?_⟩, by dsimp only; omega⟩
          rw [List.append_assoc, ← allS_one, ← allS_app, ← take_succ hlt]
        · obtain rfl : i = p.length := by omega
          refine ⟨.done (bytesI (encS p)), ?_, rfl⟩
          unfold l16x1
          dsimp only
          rw [if_neg (by simp), List.take_length]; rfl
      · have := hp.1
        unfold rounds
        show ((p.length : Int) - 0).toNat < _
        omega
    obtain ⟨r, hr, rfl⟩ := hl
    rw [hr]
    simp only [Option.bind_some]
    have hne : bytesI (encS p) ≠ [] := by
      intro h0
      have := congrArg List.length h0
      rw [bytesI_len] at this
      unfold encS at this
      rw [List.length_append, head_len p hp.1] at this
      simp at this
    have hlen : (bytesI (encS p)).length ≤ 9223372036854775807 := by
      rw [bytesI_len]
      unfold encS
      have := take_len hp p.length
      rw [List.take_length] at this
      rw [List.length_append, head_len p hp.1]; omega
    unfold m_strings_Builder_String_s83 W.usK
    rw [if_pos ⟨hne, hlen⟩, bytesOf_I]
    rfl
  · rw [if_pos (by simp [h]), if_pos h]

theorem enc_ref {p : List T_api_Const} (hp : smallP p) : m_armatureref06_Encode p = encF p := by
  obtain ⟨v, hv, hv'⟩ := Check_same p hp.short
  unfold m_armatureref06_Encode encF
  rw [hv, hv']
  simp only [Option.bind_some, Option.map_some]
  by_cases h : v.2 = 0
  · rw [if_neg (by simp [h]), if_neg (by simp [h])]
    obtain ⟨e, e1, -⟩ := putS_eq (p.length : Int) 2
    rw [put_same] at e1
    rw [e1]
    simp only [Option.bind_some]
    have hl : ∃ r, loopM (l22x1 p) rounds (putS (p.length : Int) 2, 0) = some r ∧ r = encS p := by
      refine loopM_ind (fun t => ∃ i : Nat, i ≤ p.length ∧ t = (putS (p.length : Int) 2 ++ allS (p.take i), (i : Int))) (fun t => (p.length - t.2).toNat) _ ?_ rounds _ ⟨0, by omega, by simp [allS]⟩ ?_
      · rintro t ⟨i, hi, rfl⟩
        unfold l22x1
        dsimp only
        by_cases hlt : i < p.length
        · have hb := take_len hp i
          have hd := head_len p hp.1
          have hS := hp.2 p[i] (List.getElem_mem hlt)
          have ho := oneS_len p[i]
          rw [if_pos (decide_eq_true (by omega)), getR_some hlt]
          simp only [Option.bind_some]
          rw [one_ref _ (by omega)]
          simp only [Option.bind_some]
          rw [cat_ok (by rw [List.length_append]; omega)]
          simp only [Option.bind_some]
          have hw : IntKind.wrap .i64 ((i : Int) + 1) = ((i + 1 : Nat) : Int) := by rw [wrapI64]; have := hp.1; omega
          rw [hw]
          refine ⟨_, rfl, ⟨i + 1, by omega, ?_⟩, by dsimp only; omega⟩
          rw [List.append_assoc, ← allS_one, ← allS_app, ← take_succ hlt]
        · obtain rfl : i = p.length := by omega
          rw [if_neg (by simp), List.take_length]
          exact ⟨_, rfl, rfl⟩
      · have := hp.1
        unfold rounds
        show ((p.length : Int) - 0).toNat < _
        omega
    obtain ⟨r, hr, rfl⟩ := hl
    rw [hr]; rfl
  · rw [if_pos (by simp [h]), if_pos h]

theorem encF_some {p : List T_api_Const} (hp : smallP p) : ∃ r, encF p = some r := by
  obtain ⟨v, hv, -⟩ := Check_same p hp.short
  exact ⟨_, by unfold encF; rw [hv]; rfl⟩

theorem get_ok {s : List UInt8} {a n : Int} (hl : (s.length : Int) ≤ 1125899906842624) (hn : wid n) (hc : code s a n = 0) :
    ∃ u v, m_octet_Unsigned s a n = some (u, 0) ∧ m_armatureref02_Unsigned s a n = some (u, 0) ∧ m_octet_Signed s a n = some (v, 0) ∧ m_armatureref02_Signed s a n = some (v, 0) := by
  obtain ⟨g0, g1, -⟩ := window_good hl (by have := wid_pos hn; omega) hc
  obtain ⟨w, hw, hwl, hg⟩ := window_get g0 (by have := wid_pos hn; omega) g1
  rcases hn with rfl | rfl | rfl | rfl
  · obtain ⟨c0, rfl⟩ := len1 hwl
    have := uns1 hl hc hw g0 hg
    exact ⟨_, _, this.1, this.2, osig1 hl hc hw, rsig1 hl hc g0 hg⟩
  · obtain ⟨c0, c1, rfl⟩ := len2 hwl
    have := uns2 hl hc hw g0 hg
    exact ⟨_, _, this.1, this.2, osig2 hl hc hw, rsig2 hl hc g0 hg⟩
  · obtain ⟨c0, c1, c2, c3, rfl⟩ := len4 hwl
    have := uns4 hl hc hw g0 hg
    exact ⟨_, _, this.1, this.2, osig4 hl hc hw, rsig4 hl hc g0 hg⟩
  · obtain ⟨c0, c1, c2, c3, c4, c5, c6, c7, rfl⟩ := len8 hwl
    have := uns8 hl hc hw g0 hg
    exact ⟨_, _, this.1, this.2, osig8 hl hc hw, rsig8 hl hc g0 hg⟩

def big (s : List UInt8) : Prop := (s.length : Int) ≤ 1125899906842624
def uV (s : List UInt8) (a n : Int) : Int := ((m_octet_Unsigned s a n).getD (0, 0)).1
def sV (s : List UInt8) (a n : Int) : Int := ((m_octet_Signed s a n).getD (0, 0)).1

theorem uns_eq {s : List UInt8} {a n : Int} (hl : big s) (hn : wid n) : m_octet_Unsigned s a n = some (if code s a n = 0 then (uV s a n, 0) else (0, code s a n)) ∧ m_armatureref02_Unsigned s a n = some (if code s a n = 0 then (uV s a n, 0) else (0, code s a n)) ∧
    m_octet_Signed s a n = some (if code s a n = 0 then (sV s a n, 0) else (0, code s a n)) ∧ m_armatureref02_Signed s a n = some (if code s a n = 0 then (sV s a n, 0) else (0, code s a n)) := by
  by_cases hc : code s a n = 0
  · obtain ⟨u, v, h1, h2, h3, h4⟩ := get_ok hl hn hc
    unfold uV sV
    rw [h1, h2, h3, h4, if_pos hc, if_pos hc]
    exact ⟨rfl, rfl, rfl, rfl⟩
  · obtain ⟨h1, h2, h3, h4⟩ := get_bad hl hn hc
    rw [if_neg hc, if_neg hc]
    exact ⟨h1, h4, h2, h3⟩

theorem code_ok {s : List UInt8} {a n : Int} (hn : 0 ≤ n) (h : code s a n = 0) : 0 ≤ a ∧ a + n ≤ (s.length : Int) := by
  unfold code at h
  split at h
  · cases h
  · split at h
    · cases h
    · split at h
      · cases h
      · omega

theorem wrapS {x : Int} (h0 : -9223372036854775808 ≤ x) (h1 : x ≤ 9223372036854775807) : IntKind.wrap .i64 x = x := by rw [wrapI64]; omega

theorem num_ref {s : List UInt8} {a n : Int} (hl : big s) (hn : wid n) (g : Bool) :
    m_armatureref06_number s a n g = some (if code s a n = 0 then (if g = true then sV s a n else uV s a n, a + n, 0) else (0, 0, 3)) := by
  obtain ⟨-, h2, -, h4⟩ := uns_eq (a := a) hl hn
  unfold m_armatureref06_number j57x1
  rw [h2, h4]
  by_cases hc : code s a n = 0
  · obtain ⟨q0, q1⟩ := code_ok (by have := wid_pos hn; omega) hc
    have hw : IntKind.wrap .i64 (a + n) = a + n := wrapS (by have := wid_pos hn; omega) (by unfold big at hl; omega)
    rw [if_pos hc, if_pos hc, if_pos hc]
    cases g <;> simp [hw]
  · rw [if_neg hc, if_neg hc, if_neg hc]
    cases g <;> simp [hc]

def rdr (s : List UInt8) (a e : Int) : T_poolcode_reader := { f_s := s, f_at := a, f_err := e }

theorem rd_uns {s : List UInt8} {a n : Int} (hl : big s) (hn : wid n) : m_armature_poolcode_reader_unsigned (rdr s a 0) n = some (if code s a n = 0 then (rdr s (a + n) 0, uV s a n) else (rdr s a 3, 0)) := by
  obtain ⟨h1, -, -, -⟩ := uns_eq (a := a) hl hn
  unfold m_armature_poolcode_reader_unsigned rdr
  simp only [bne_self_eq_false, Bool.false_eq_true, if_false]
  rw [h1]
  by_cases hc : code s a n = 0
  · obtain ⟨q0, q1⟩ := code_ok (by have := wid_pos hn; omega) hc
    have hw : IntKind.wrap .i64 (a + n) = a + n := wrapS (by have := wid_pos hn; omega) (by unfold big at hl; omega)
    rw [if_pos hc, if_pos hc]
    simp [hw]
  · rw [if_neg hc, if_neg hc]
    simp [hc]
theorem rd_err {s : List UInt8} {a e n : Int} (he : e ≠ 0) : m_armature_poolcode_reader_unsigned (rdr s a e) n = some (rdr s a e, 0) := by
  unfold m_armature_poolcode_reader_unsigned rdr
  rw [if_pos (by simpa using he)]
theorem rd_sgn {s : List UInt8} {a n : Int} (hl : big s) (hn : wid n) : m_armature_poolcode_reader_signed (rdr s a 0) n = some (if code s a n = 0 then (rdr s (a + n) 0, sV s a n) else (rdr s a 3, 0)) := by
  obtain ⟨-, -, h3, -⟩ := uns_eq (a := a) hl hn
  unfold m_armature_poolcode_reader_signed
  rw [rd_uns hl hn]
  by_cases hc : code s a n = 0
  · rw [if_pos hc, if_pos hc]
    simp only [Option.bind_some, rdr]
    rw [h3, if_pos hc]
    simp
  · rw [if_neg hc, if_neg hc]
    simp only [Option.bind_some, rdr]
    rw [h3, if_neg hc]
    simp

/-- The string that stands at a place, with what is behind it. -/
def gOk (s : List UInt8) (a : Int) : Prop := code s a 2 = 0 ∧ code s (a + 2) (uV s a 2) = 0
instance (s : List UInt8) (a : Int) : Decidable (gOk s a) := by unfold gOk; infer_instance
def gS (s : List UInt8) (a : Int) : List UInt8 := (s.drop (a + 2).toNat).take (uV s a 2).toNat

theorem uV_range {s : List UInt8} {a : Int} (hl : big s) (hc : code s a 2 = 0) : 0 ≤ uV s a 2 ∧ uV s a 2 < 65536 := by
  obtain ⟨h1, -, -, -⟩ := uns_eq (a := a) (n := 2) hl (by unfold wid; omega)
  rw [if_pos hc] at h1
  rcases uns_range hl h1 with ⟨k, -⟩ | ⟨-, -, k3, k4⟩
  · exact absurd rfl k
  · exact ⟨k3, k4⟩

theorem getstr {s : List UInt8} {a : Int} (hl : big s) : ∃ r, m_octet_GetString s a = some r ∧ m_armatureref02_GetString s a = some r ∧ (gOk s a → r = (gS s a, a + 2 + uV s a 2, 0)) ∧ (¬ gOk s a → r.2.2 ≠ 0) := by
  obtain ⟨h1, h2, -, -⟩ := uns_eq (a := a) (n := 2) hl (by unfold wid; omega)
  by_cases hc : code s a 2 = 0
  · rw [if_pos hc] at h1 h2
    obtain ⟨k3, k4⟩ := uV_range hl hc
    obtain ⟨g0, g1⟩ := code_ok (by decide) hc
    have hl' := hl
    unfold big at hl'
    have e1 : IntKind.wrap .i64 (a + 2) = a + 2 := wrapS (by omega) (by omega)
    have e2 : IntKind.wrap .i64 (a + 2 + uV s a 2) = a + 2 + uV s a 2 := wrapS (by omega) (by omega)
    have e3 : IntKind.wrap .i64 ((s.length : Int) - a) = (s.length : Int) - a := wrapS (by omega) (by omega)
    have e4 : IntKind.wrap .i64 ((s.length : Int) - a - 2) = (s.length : Int) - a - 2 := wrapS (by omega) (by omega)
    by_cases hc2 : code s (a + 2) (uV s a 2) = 0
    · obtain ⟨q0, q1, q2⟩ := window_good hl k3 hc2
      have q3 : ¬ ((s.length : Int) - a - 2 < uV s a 2) := by omega
      have q4 : sub s (a + 2) (a + 2 + uV s a 2) = some (gS s a) := by
        unfold sub gS
        rw [if_pos (by omega)]
        congr 2; omega
      refine ⟨(gS s a, a + 2 + uV s a 2, 0), ?_, ?_, fun _ => rfl, fun h => absurd ⟨hc, hc2⟩ h⟩
      · have : (s.drop (a + 2).toNat).take (uV s a 2).toNat = gS s a := rfl
        simp [m_octet_GetString, h1, e1, q2, e2, this]
      · simp [m_armatureref02_GetString, h2, e1, e2, e3, e4, q3, q4]
    · have q3 : (s.length : Int) - a - 2 < uV s a 2 := by
        unfold code at hc2
        rw [if_neg (by omega), if_neg (by omega)] at hc2
        by_cases z3 : (s.length : Int) - (a + 2) < uV s a 2
        · omega
        · rw [if_neg z3] at hc2; exact absurd rfl hc2
      have q5 : code s (a + 2) (uV s a 2) = 3 := by
        unfold code
        rw [if_neg (by omega), if_neg (by omega), if_pos (by omega)]
      refine ⟨([], 0, 3), by simp [m_octet_GetString, h1, e1, window_bad hl hc2, q5], by simp [m_armatureref02_GetString, h2, e3, e4, q3], fun h => absurd h.2 hc2, fun _ => by decide⟩
  · rw [if_neg hc] at h1 h2
    refine ⟨([], 0, code s a 2), by simp [m_octet_GetString, h1, hc], by simp [m_armatureref02_GetString, h2, hc], fun h => absurd h.1 hc, fun _ => hc⟩

theorem rd_text {s : List UInt8} {a : Int} (hl : big s) : m_armature_poolcode_reader_text (rdr s a 0) = some (if gOk s a then (rdr s (a + 2 + uV s a 2) 0, gS s a) else (rdr s a 3, [])) := by
  obtain ⟨r, h1, -, h2, h3⟩ := getstr (a := a) hl
  unfold m_armature_poolcode_reader_text rdr
  simp only [bne_self_eq_false, Bool.false_eq_true, if_false]
  rw [h1]
  simp only [Option.bind_some]
  by_cases hg : gOk s a
  · rw [if_pos hg, h2 hg]; simp
  · rw [if_neg hg, if_pos (by simpa using h3 hg)]

/-! ### One constant -/

def tg (s : List UInt8) (a : Int) : Int := uV s a 1
def tkE (s : List UInt8) (a : Int) : Int :=
  if code s a 1 ≠ 0 then 3
  else if tg s a = 1 then (if gOk s (a + 1) then 0 else 3)
  else if tg s a = 3 then (if code s (a + 1) 4 = 0 then 0 else 3)
  else if tg s a = 5 then (if code s (a + 1) 8 = 0 then 0 else 3)
  else if tg s a = 7 ∨ tg s a = 8 then (if code s (a + 1) 2 = 0 then 0 else 3)
  else if tg s a = 9 ∨ tg s a = 10 ∨ tg s a = 11 ∨ tg s a = 12 then (if code s (a + 1) 2 = 0 then (if code s (a + 1 + 2) 2 = 0 then 0 else 3) else 3)
  else 11
def tkC (s : List UInt8) (a : Int) : T_api_Const :=
  if tg s a = 1 then { f_Tag := tg s a, f_S := gS s (a + 1), f_N := 0, f_A := 0, f_B := 0 }
  else if tg s a = 3 then { f_Tag := tg s a, f_S := [], f_N := sV s (a + 1) 4, f_A := 0, f_B := 0 }
  else if tg s a = 5 then { f_Tag := tg s a, f_S := [], f_N := sV s (a + 1) 8, f_A := 0, f_B := 0 }
  else if tg s a = 7 ∨ tg s a = 8 then { f_Tag := tg s a, f_S := [], f_N := 0, f_A := uV s (a + 1) 2, f_B := 0 }
  else { f_Tag := tg s a, f_S := [], f_N := 0, f_A := uV s (a + 1) 2, f_B := uV s (a + 1 + 2) 2 }
def tkN (s : List UInt8) (a : Int) : Int :=
  if tg s a = 1 then a + 1 + 2 + uV s (a + 1) 2
  else if tg s a = 3 then a + 1 + 4
  else if tg s a = 5 then a + 1 + 8
  else if tg s a = 7 ∨ tg s a = 8 then a + 1 + 2
  else a + 1 + 2 + 2

theorem wd1 : wid 1 := .inl rfl
theorem wd2 : wid 2 := .inr (.inl rfl)
theorem wd4 : wid 4 := .inr (.inr (.inl rfl))
theorem wd8 : wid 8 := .inr (.inr (.inr rfl))

theorem tk_ref (s : List UInt8) (a : Int) (hl : big s) : ∃ c nx, m_armatureref06_take s a = some (c, nx, tkE s a) ∧ (tkE s a = 0 → c = tkC s a ∧ nx = tkN s a) := by
  unfold m_armatureref06_take j58x1 j58x2 j58x3 j58x4 j58x5
  rw [num_ref hl wd1]
  unfold tkE
  by_cases h0 : code s a 1 = 0
  · rw [if_pos h0, if_neg (c := code s a 1 ≠ 0) (fun h => h h0)]
    simp only [Option.bind_some, Bool.false_eq_true, if_false, bne_self_eq_false]
    change ∃ c nx, (if (tg s a == 1) = true then _ else _) = _ ∧ _
    unfold tkC tkN
    rw [show uV s a 1 = tg s a from rfl]
    generalize tg s a = t
    obtain ⟨r, -, hr, hr1, hr2⟩ := getstr (a := a + 1) hl
    rw [hr, num_ref hl wd4, num_ref hl wd8, num_ref hl wd2]
    simp only [Option.bind_some, if_true, Bool.false_eq_true, if_false]
    by_cases t1 : t = 1
    · rw [if_pos (by simp [t1]), if_pos t1, if_pos t1, if_pos t1]
      by_cases hg : gOk s (a + 1)
      · rw [if_pos hg, hr1 hg]
        exact ⟨_, _, rfl, fun _ => ⟨rfl, rfl⟩⟩
      · rw [if_neg hg, if_pos (by simpa using hr2 hg)]
        exact ⟨_, _, rfl, fun h => by cases h⟩
    rw [if_neg (by simp [t1]), if_neg t1, if_neg t1, if_neg t1]
    by_cases t3 : t = 3
    · rw [if_pos (by simp [t3]), if_pos t3, if_pos t3, if_pos t3]
      split
      · exact ⟨_, _, rfl, fun _ => ⟨rfl, rfl⟩⟩
      · exact ⟨_, _, rfl, fun h => by cases h⟩
    rw [if_neg (by simp [t3]), if_neg t3, if_neg t3, if_neg t3]
    by_cases t5 : t = 5
    · rw [if_pos (by simp [t5]), if_pos t5, if_pos t5, if_pos t5]
      split
      · exact ⟨_, _, rfl, fun _ => ⟨rfl, rfl⟩⟩
      · exact ⟨_, _, rfl, fun h => by cases h⟩
    rw [if_neg (by simp [t5]), if_neg t5, if_neg t5, if_neg t5]
    by_cases t7 : t = 7
    · rw [if_pos (by simp [t7]), if_pos (c := t = 7 ∨ t = 8) (.inl t7), if_pos (c := t = 7 ∨ t = 8) (.inl t7), if_pos (c := t = 7 ∨ t = 8) (.inl t7)]
      split
      · exact ⟨_, _, rfl, fun _ => ⟨rfl, rfl⟩⟩
      · exact ⟨_, _, rfl, fun h => by cases h⟩
    rw [if_neg (by simp [t7])]
    by_cases t8 : t = 8
    · rw [if_pos (by simp [t8]), if_pos (c := t = 7 ∨ t = 8) (.inr t8), if_pos (c := t = 7 ∨ t = 8) (.inr t8), if_pos (c := t = 7 ∨ t = 8) (.inr t8)]
      split
      · exact ⟨_, _, rfl, fun _ => ⟨rfl, rfl⟩⟩
      · exact ⟨_, _, rfl, fun h => by cases h⟩
    rw [if_neg (by simp [t8]), if_neg (c := t = 7 ∨ t = 8) (by omega), if_neg (c := t = 7 ∨ t = 8) (by omega), if_neg (c := t = 7 ∨ t = 8) (by omega)]
    have hm : ∃ c nx, (if ((if code s (a + 1) 2 = 0 then ((uV s (a + 1) 2, a + 1 + 2, 0) : Int × Int × Int) else (0, 0, 3)).2.2 == 0) = true then
        (m_armatureref06_number s (if code s (a + 1) 2 = 0 then ((uV s (a + 1) 2, a + 1 + 2, 0) : Int × Int × Int) else (0, 0, 3)).2.1 2 false).bind fun v5 =>
          some (({ f_Tag := t, f_S := [], f_N := 0, f_A := (if code s (a + 1) 2 = 0 then ((uV s (a + 1) 2, a + 1 + 2, 0) : Int × Int × Int) else (0, 0, 3)).1, f_B := v5.1 } : T_api_Const), v5.2.1, v5.2.2)
        else some (({ f_Tag := t, f_S := [], f_N := 0, f_A := (if code s (a + 1) 2 = 0 then ((uV s (a + 1) 2, a + 1 + 2, 0) : Int × Int × Int) else (0, 0, 3)).1, f_B := 0 } : T_api_Const), (if code s (a + 1) 2 = 0 then ((uV s (a + 1) 2, a + 1 + 2, 0) : Int × Int × Int) else (0, 0, 3)).2.1, (if code s (a + 1) 2 = 0 then ((uV s (a + 1) 2, a + 1 + 2, 0) : Int × Int × Int) else (0, 0, 3)).2.2)) =
          some (c, nx, (if code s (a + 1) 2 = 0 then (if code s (a + 1 + 2) 2 = 0 then 0 else 3) else 3)) ∧ ((if code s (a + 1) 2 = 0 then (if code s (a + 1 + 2) 2 = 0 then (0 : Int) else 3) else 3) = 0 →
          c = { f_Tag := t, f_S := [], f_N := 0, f_A := uV s (a + 1) 2, f_B := uV s (a + 1 + 2) 2 } ∧ nx = a + 1 + 2 + 2) := by
      by_cases hA : code s (a + 1) 2 = 0
      · rw [if_pos hA, if_pos hA]
        simp only [beq_self_eq_true, if_true]
        rw [num_ref hl wd2]
        by_cases hB : code s (a + 1 + 2) 2 = 0
        · rw [if_pos hB, if_pos hB]
          exact ⟨_, _, rfl, fun _ => ⟨rfl, rfl⟩⟩
        · rw [if_neg hB, if_neg hB]
          exact ⟨_, _, rfl, fun h => by cases h⟩
      · rw [if_neg hA, if_neg hA]
        exact ⟨_, _, rfl, fun h => by cases h⟩
    by_cases t9 : t = 9
    · rw [if_pos (by simp [t9]), if_pos (c := t = 9 ∨ t = 10 ∨ t = 11 ∨ t = 12) (.inl t9)]; exact hm
    rw [if_neg (by simp [t9])]
    by_cases t10 : t = 10
    · rw [if_pos (by simp [t10]), if_pos (c := t = 9 ∨ t = 10 ∨ t = 11 ∨ t = 12) (.inr (.inl t10))]; exact hm
    rw [if_neg (by simp [t10])]
    by_cases t11 : t = 11
    · rw [if_pos (by simp [t11]), if_pos (c := t = 9 ∨ t = 10 ∨ t = 11 ∨ t = 12) (.inr (.inr (.inl t11)))]; exact hm
    rw [if_neg (by simp [t11])]
    by_cases t12 : t = 12
    · rw [if_pos (by simp [t12]), if_pos (c := t = 9 ∨ t = 10 ∨ t = 11 ∨ t = 12) (.inr (.inr (.inr t12)))]; exact hm
    rw [if_neg (by simp [t12]), if_neg (c := t = 9 ∨ t = 10 ∨ t = 11 ∨ t = 12) (by omega)]
    exact ⟨_, _, rfl, fun h => by cases h⟩
  · rw [if_neg h0, if_pos h0]
    exact ⟨_, _, rfl, fun h => by cases h⟩

theorem const_pool (s : List UInt8) (a : Int) (hl : big s) : ∃ c a', m_armature_poolcode_reader_constant (rdr s a 0) = some (rdr s a' (tkE s a), c) ∧ (tkE s a = 0 → c = tkC s a ∧ a' = tkN s a) := by
  unfold m_armature_poolcode_reader_constant j54x1 j54x2 j54x3 j54x4 j54x5 j54x6
  rw [rd_uns hl wd1]
  unfold tkE
  by_cases h0 : code s a 1 = 0
  · rw [if_pos h0, if_neg (c := code s a 1 ≠ 0) (fun h => h h0)]
    simp only [Option.bind_some]
    rw [if_neg (by simp [rdr]), show uV s a 1 = tg s a from rfl]
    unfold tkC tkN
    generalize tg s a = t
    rw [rd_text hl, rd_sgn hl wd4, rd_sgn hl wd8, rd_uns hl wd2]
    simp only [Option.bind_some]
    by_cases t1 : t = 1
    · rw [if_pos (by simp [t1]), if_pos t1, if_pos t1, if_pos t1]
      split
      · exact ⟨_, _, rfl, fun _ => ⟨rfl, rfl⟩⟩
      · exact ⟨_, _, rfl, fun h => by cases h⟩
    rw [if_neg (by simp [t1]), if_neg t1, if_neg t1, if_neg t1]
    by_cases t3 : t = 3
    · rw [if_pos (by simp [t3]), if_pos t3, if_pos t3, if_pos t3]
      split
      · exact ⟨_, _, rfl, fun _ => ⟨rfl, rfl⟩⟩
      · exact ⟨_, _, rfl, fun h => by cases h⟩
    rw [if_neg (by simp [t3]), if_neg t3, if_neg t3, if_neg t3]
    by_cases t5 : t = 5
    · rw [if_pos (by simp [t5]), if_pos t5, if_pos t5, if_pos t5]
      split
      · exact ⟨_, _, rfl, fun _ => ⟨rfl, rfl⟩⟩
      · exact ⟨_, _, rfl, fun h => by cases h⟩
    rw [if_neg (by simp [t5]), if_neg t5, if_neg t5, if_neg t5]
    by_cases t7 : t = 7
    · rw [if_pos (by simp [t7]), if_pos (c := t = 7 ∨ t = 8) (.inl t7), if_pos (c := t = 7 ∨ t = 8) (.inl t7), if_pos (c := t = 7 ∨ t = 8) (.inl t7)]
      split
      · exact ⟨_, _, rfl, fun _ => ⟨rfl, rfl⟩⟩
      · exact ⟨_, _, rfl, fun h => by cases h⟩
    rw [if_neg (by simp [t7])]
    by_cases t8 : t = 8
    · rw [if_pos (by simp [t8]), if_pos (c := t = 7 ∨ t = 8) (.inr t8), if_pos (c := t = 7 ∨ t = 8) (.inr t8), if_pos (c := t = 7 ∨ t = 8) (.inr t8)]
      split
      · exact ⟨_, _, rfl, fun _ => ⟨rfl, rfl⟩⟩
      · exact ⟨_, _, rfl, fun h => by cases h⟩
    rw [if_neg (by simp [t8]), if_neg (c := t = 7 ∨ t = 8) (by omega), if_neg (c := t = 7 ∨ t = 8) (by omega), if_neg (c := t = 7 ∨ t = 8) (by omega)]
    have hm : ∃ c a', ((m_armature_poolcode_reader_unsigned (if code s (a + 1) 2 = 0 then (rdr s (a + 1 + 2) 0, uV s (a + 1) 2) else (rdr s (a + 1) 3, 0)).1 2).bind fun v5 =>
          some (v5.1, ({ f_Tag := t, f_S := [], f_N := 0, f_A := (if code s (a + 1) 2 = 0 then (rdr s (a + 1 + 2) 0, uV s (a + 1) 2) else (rdr s (a + 1) 3, 0)).2, f_B := v5.2 } : T_api_Const))) =
          some (rdr s a' (if code s (a + 1) 2 = 0 then (if code s (a + 1 + 2) 2 = 0 then 0 else 3) else 3), c) ∧ ((if code s (a + 1) 2 = 0 then (if code s (a + 1 + 2) 2 = 0 then (0 : Int) else 3) else 3) = 0 →
          c = { f_Tag := t, f_S := [], f_N := 0, f_A := uV s (a + 1) 2, f_B := uV s (a + 1 + 2) 2 } ∧ a' = a + 1 + 2 + 2) := by
      by_cases hA : code s (a + 1) 2 = 0
      · rw [if_pos hA, if_pos hA]
        dsimp only
        rw [rd_uns hl wd2]
        by_cases hB : code s (a + 1 + 2) 2 = 0
        · rw [if_pos hB, if_pos hB]
          exact ⟨_, _, rfl, fun _ => ⟨rfl, rfl⟩⟩
        · rw [if_neg hB, if_neg hB]
          exact ⟨_, _, rfl, fun h => by cases h⟩
      · rw [if_neg hA, if_neg hA]
        dsimp only
        rw [rd_err (by decide)]
        exact ⟨_, _, rfl, fun h => by cases h⟩
    by_cases t9 : t = 9
    · rw [if_pos (by simp [t9]), if_pos (c := t = 9 ∨ t = 10 ∨ t = 11 ∨ t = 12) (.inl t9)]; exact hm
    rw [if_neg (by simp [t9])]
    by_cases t10 : t = 10
    · rw [if_pos (by simp [t10]), if_pos (c := t = 9 ∨ t = 10 ∨ t = 11 ∨ t = 12) (.inr (.inl t10))]; exact hm
    rw [if_neg (by simp [t10])]
    by_cases t11 : t = 11
    · rw [if_pos (by simp [t11]), if_pos (c := t = 9 ∨ t = 10 ∨ t = 11 ∨ t = 12) (.inr (.inr (.inl t11)))]; exact hm
    rw [if_neg (by simp [t11])]
    by_cases t12 : t = 12
    · rw [if_pos (by simp [t12]), if_pos (c := t = 9 ∨ t = 10 ∨ t = 11 ∨ t = 12) (.inr (.inr (.inr t12)))]; exact hm
    rw [if_neg (by simp [t12]), if_neg (c := t = 9 ∨ t = 10 ∨ t = 11 ∨ t = 12) (by omega)]
    exact ⟨_, _, rfl, fun h => by cases h⟩
  · rw [if_neg h0, if_pos h0]
    exact ⟨_, _, rfl, fun h => by cases h⟩
/-- So many constants one behind another: the first error, the constants, the place behind them. -/
def pE (s : List UInt8) : Nat → Int → Int
  | 0, _ => 0
  | k + 1, a => if tkE s a = 0 then pE s k (tkN s a) else tkE s a
def pL (s : List UInt8) : Nat → Int → List T_api_Const
  | 0, _ => []
  | k + 1, a => tkC s a :: pL s k (tkN s a)
def pA (s : List UInt8) : Nat → Int → Int
  | 0, a => a
  | k + 1, a => pA s k (tkN s a)

theorem grow48 {n : Nat} (h : n ≤ 100000) : growK 48 n = some () := by unfold growK; rw [if_pos (by omega)]

theorem loop_ref {s : List UInt8} (hl : big s) (v : Int × Int × Int) : ∀ (k : Nat) (a : Int) (out : List T_api_Const) (fuel : Nat) (i : Int), k < fuel → i + k = v.1 → 0 ≤ i → v.1 ≤ 70000 → out.length + k ≤ 70000 →
    loopM (l34x1 v s) fuel (a, i, out) = some (if pE s k a = 0 then .inl (out ++ pL s k a, pA s k a) else .inr ([], 0, pE s k a))
  | 0, a, out, fuel + 1, i, _, h1, h2, h3, _ => by
    unfold loopM l34x1
    dsimp only
    rw [if_neg (by simp; omega)]
    simp [pE, pL, pA]
  | k + 1, a, out, fuel + 1, i, h0, h1, h2, h3, h4 => by
    obtain ⟨c, nx, e1, e2⟩ := tk_ref s a hl
    have hw : IntKind.wrap .i64 (i + 1) = i + 1 := wrapS (by omega) (by omega)
    have hs : l34x1 v s (a, i, out) = some (if tkE s a = 0 then .next (tkN s a, i + 1, out ++ [tkC s a]) else .done (.inr ([], 0, tkE s a))) := by
      unfold l34x1
      dsimp only
      rw [if_pos (decide_eq_true (by omega)), e1]
      simp only [Option.bind_some]
      by_cases h : tkE s a = 0
      · obtain ⟨rfl, rfl⟩ := e2 h
        rw [if_neg (by simp [h]), grow48 (by simp; omega), if_pos h]
        simp only [Option.bind_some, hw]
      · rw [if_pos (by simp [h]), if_neg h]
    unfold loopM
    rw [hs]
    unfold pE pL pA
    by_cases h : tkE s a = 0
    · rw [if_pos h, if_pos h]
      dsimp only
      rw [loop_ref hl v k (tkN s a) (out ++ [tkC s a]) fuel (i + 1) (by omega) (by omega) (by omega) h3 (by simp; omega)]
      simp
    · rw [if_neg h, if_neg h, if_neg h]

theorem loop_pool {s : List UInt8} (hl : big s) : ∀ (k : Nat) (a : Int) (out : List T_api_Const) (fuel : Nat), k + 1 < fuel → out.length + k ≤ 70000 →
    ∃ a' p', loopM l29x1 fuel ((k : Int), s, a, 0, out) = some (s, a', pE s k a, p') ∧ (pE s k a = 0 → a' = pA s k a ∧ p' = out ++ pL s k a)
  | 0, a, out, fuel + 1, _, _ => ⟨a, out, by
      unfold loopM l29x1
      dsimp only
      rw [if_neg (by simp)]
      rfl, fun _ => ⟨rfl, by simp [pL]⟩⟩
  | k + 1, a, out, fuel + 1, h0, h4 => by
    obtain ⟨c, a', e1, e2⟩ := const_pool s a hl
    have hw : IntKind.wrap .i64 (((k + 1 : Nat) : Int) - 1) = (k : Int) := by rw [wrapS (by omega) (by omega)]; omega
    have hs : l29x1 (((k + 1 : Nat) : Int), s, a, 0, out) = some (.next ((k : Int), s, a', tkE s a, out ++ [c])) := by
      unfold l29x1 j29x2
      dsimp only
      rw [if_pos (decide_eq_true (by omega)), if_pos (by simp)]
      rw [show ({ f_s := s, f_at := a, f_err := 0 } : T_poolcode_reader) = rdr s a 0 from rfl, e1]
      simp only [Option.bind_some]
      rw [grow48 (by simp; omega)]
      simp only [Option.bind_some, hw]
      rfl
    unfold loopM
    rw [hs]
    dsimp only
    unfold pE pL pA
    by_cases h : tkE s a = 0
    · obtain ⟨rfl, rfl⟩ := e2 h
      rw [h, if_pos rfl]
      obtain ⟨a2, p2, k1, k2⟩ := loop_pool hl k (tkN s a) (out ++ [tkC s a]) fuel (by omega) (by simp; omega)
      exact ⟨a2, p2, k1, fun h => ⟨(k2 h).1, by rw [(k2 h).2]; simp⟩⟩
    · rw [if_neg h]
      refine ⟨a', out ++ [c], ?_, fun h' => absurd h' h⟩
      obtain ⟨f, rfl⟩ : ∃ f, fuel = f + 1 := ⟨fuel - 1, by omega⟩
      unfold loopM l29x1
      dsimp only
      by_cases hk : (k : Int) > 0
      · rw [if_pos (decide_eq_true hk), if_neg (by simpa using h)]
      · rw [if_neg (by simpa using hk)]

/-- The number of constants that a text announces. -/
def cnt (s : List UInt8) (a : Int) : Nat := (uV s a 2).toNat
def decF (s : List UInt8) (a : Int) : Option (List T_api_Const × Int × Int) :=
  if a < 0 ∨ a > (s.length : Int) then some ([], 0, 2)
  else if code s a 2 ≠ 0 then some ([], 0, 3)
  else if pE s (cnt s a) (a + 2) ≠ 0 then some ([], 0, pE s (cnt s a) (a + 2))
  else (m_pool_Check (pL s (cnt s a) (a + 2))).map fun v => if v.2 ≠ 0 then ([], 0, v.2) else (pL s (cnt s a) (a + 2), pA s (cnt s a) (a + 2), 0)

theorem dec_pool {s : List UInt8} (hl : big s) (a : Int) : m_poolcode_Decode s a = decF s a := by
  unfold m_poolcode_Decode decF j29x1
  by_cases h1 : a < 0
  · rw [if_pos (decide_eq_true h1), if_pos (.inl h1)]
  rw [if_neg (by simpa using h1)]
  by_cases h2 : a > (s.length : Int)
  · rw [if_pos (decide_eq_true h2), if_pos (.inr h2)]
  rw [if_neg (by simpa using h2), if_neg (by omega)]
  rw [show ({ f_s := s, f_at := a, f_err := 0 } : T_poolcode_reader) = rdr s a 0 from rfl, rd_uns hl wd2]
  by_cases hc : code s a 2 = 0
  · rw [if_pos hc, if_neg (c := code s a 2 ≠ 0) (fun h => h hc)]
    simp only [Option.bind_some, rdr]
    obtain ⟨r0, r1⟩ := uV_range hl hc
    obtain ⟨a', p', k1, k2⟩ := loop_pool hl (cnt s a) (a + 2) [] rounds (by unfold cnt rounds; omega) (by unfold cnt; simp; omega)
    rw [show ((cnt s a : Nat) : Int) = uV s a 2 by unfold cnt; omega] at k1
    rw [k1]
    simp only [Option.bind_some]
    by_cases hp : pE s (cnt s a) (a + 2) = 0
    · obtain ⟨rfl, rfl⟩ := k2 hp
      rw [hp, if_neg (by simp), if_neg (by simp), List.nil_append]
      cases m_pool_Check (pL s (cnt s a) (a + 2)) with
      | none => rfl
      | some v =>
        simp only [Option.bind_some, Option.map_some]
        by_cases hv : v.2 = 0
        · rw [if_neg (by simp [hv]), if_neg (by simp [hv])]
        · rw [if_pos (by simp [hv]), if_pos hv]
    · rw [if_pos (by simpa using hp), if_pos hp]
  · rw [if_neg hc, if_pos hc]
    simp only [Option.bind_some, rdr]
    have : loopM l29x1 rounds ((0 : Int), s, a, 3, []) = some (s, a, 3, []) := by
      unfold rounds
      rw [show (18446744073709551616 : Nat) = 18446744073709551615 + 1 from rfl]
      unfold loopM l29x1
      dsimp only
      rw [if_neg (by simp)]
    rw [this]
    rfl

theorem tkC_short {s : List UInt8} (a : Int) : (tkC s a).f_S.length ≤ s.length := by
  unfold tkC
  split
  · show (gS s (a + 1)).length ≤ _
    unfold gS; simp; omega
  · repeat' split
    all_goals simp
theorem pL_short {s : List UInt8} : ∀ (k : Nat) (a : Int), (pL s k a).length = k ∧ ∀ c ∈ pL s k a, c.f_S.length ≤ s.length
  | 0, _ => ⟨rfl, fun c hc => by cases hc⟩
  | k + 1, a => by
    obtain ⟨h1, h2⟩ := pL_short (s := s) k (tkN s a)
    unfold pL
    refine ⟨by simp [h1], fun c hc => ?_⟩
    rcases List.mem_cons.1 hc with rfl | hc
    · exact tkC_short a
    · exact h2 c hc

theorem dec_ref {s : List UInt8} (hs : s.length ≤ 1048576) (a : Int) : m_armatureref06_Decode s a = decF s a ∧ ∃ r, decF s a = some r := by
  have hl : big s := by unfold big; omega
  unfold m_armatureref06_Decode decF j34x1
  by_cases h1 : a < 0
  · rw [if_pos (decide_eq_true h1), if_pos (.inl h1)]; exact ⟨rfl, _, rfl⟩
  rw [if_neg (by simpa using h1)]
  by_cases h2 : a > (s.length : Int)
  · rw [if_pos (decide_eq_true h2), if_pos (.inr h2)]; exact ⟨rfl, _, rfl⟩
  rw [if_neg (by simpa using h2), if_neg (by omega), num_ref hl wd2]
  by_cases hc : code s a 2 = 0
  · rw [if_pos hc, if_neg (c := code s a 2 ≠ 0) (fun h => h hc)]
    simp only [Option.bind_some, Bool.false_eq_true, if_false, bne_self_eq_false]
    obtain ⟨r0, r1⟩ := uV_range hl hc
    rw [loop_ref hl (uV s a 2, a + 2, 0) (cnt s a) (a + 2) [] rounds 0 (by unfold cnt rounds; omega) (by unfold cnt; dsimp only; omega) (by omega) (by dsimp only; omega) (by unfold cnt; simp; omega)]
    simp only [Option.bind_some]
    by_cases hp : pE s (cnt s a) (a + 2) = 0
    · obtain ⟨q1, q2⟩ := pL_short (s := s) (cnt s a) (a + 2)
      obtain ⟨v, v1, v2⟩ := Check_same (pL s (cnt s a) (a + 2)) ⟨by rw [q1]; unfold cnt; omega, fun c hc => by have := q2 c hc; omega⟩
      rw [if_pos hp, if_neg (by simpa using hp), List.nil_append]
      dsimp only
      rw [v1, v2]
      simp only [Option.bind_some, Option.map_some]
      refine ⟨?_, _, rfl⟩
      by_cases hv : v.2 = 0
      · rw [if_neg (by simp [hv]), if_neg (by simp [hv])]
      · rw [if_pos (by simp [hv]), if_pos hv]
    · rw [if_neg hp, if_pos hp]
      exact ⟨rfl, _, rfl⟩
  · rw [if_neg hc, if_pos hc]
    exact ⟨rfl, _, rfl⟩

theorem decF_len {s : List UInt8} (hl : big s) {a : Int} {r : List T_api_Const × Int × Int} (h : decF s a = some r) : r.1.length ≤ 65536 := by
  unfold decF at h
  split at h
  · cases h; simp
  · split at h
    · cases h; simp
    · split at h
      · cases h; simp
      · cases hv : m_pool_Check (pL s (cnt s a) (a + 2)) with
        | none => rw [hv] at h; cases h
        | some v =>
          rw [hv] at h
          simp only [Option.map_some, Option.some.injEq] at h
          split at h
          · subst h; simp
          · subst h
            rename_i hc _ _
            have := uV_range hl (by simpa using hc)
            show (pL s (cnt s a) (a + 2)).length ≤ _
            rw [(pL_short (s := s) _ _).1]; unfold cnt; omega

theorem addF_err {p : List T_api_Const} {c : T_api_Const} (h : (addF p c).2.2 ≠ 0) : 1000 ≤ p.length := by
  unfold addF at h
  split at h
  · exact absurd rfl h
  · split at h
    · assumption
    · exact absurd rfl h

/-- It stands first at this index. -/
def At1 (q : List T_api_Const) (c : T_api_Const) (i : Int) : Prop := ∃ k : Nat, i = (k : Int) + 1 ∧ idxC c q = some k

theorem idx_app : ∀ {q : List T_api_Const} {c : T_api_Const} {k : Nat} (r : List T_api_Const), idxC c q = some k → idxC c (q ++ r) = some k
  | [], _, _, _, h => by cases h
  | y :: q, c, k, r, h => by
    unfold idxC at h
    rw [List.cons_append]
    unfold idxC
    split at h
    · rename_i hy; rw [if_pos hy]; exact h
    · rename_i hy
      rw [if_neg hy]
      cases hi : idxC c q with
      | none => rw [hi] at h; cases h
      | some j => rw [hi] at h; rw [idx_app r hi]; exact h
theorem idx_new : ∀ {q : List T_api_Const} {c : T_api_Const}, idxC c q = none → idxC c (q ++ [c]) = some q.length
  | [], c, _ => by
    show (if eqb_T_api_Const c c = true then some 0 else _) = _
    rw [if_pos (eqC_refl c)]; rfl
  | y :: q, c, h => by
    unfold idxC at h
    rw [List.cons_append]
    unfold idxC
    split at h
    · cases h
    · rename_i hy
      rw [if_neg hy]
      cases hi : idxC c q with
      | some j => rw [hi] at h; cases h
      | none => rw [idx_new hi]; rfl
theorem At1.ext {q q' : List T_api_Const} {c : T_api_Const} {i : Int} (h : At1 q c i) (hp : q <+: q') : At1 q' c i := by
  obtain ⟨r, rfl⟩ := hp
  obtain ⟨k, h1, h2⟩ := h
  exact ⟨k, h1, idx_app r h2⟩
theorem At1.again {q : List T_api_Const} {c : T_api_Const} {i : Int} (h : At1 q c i) : addF q c = (q, i, 0) := by
  obtain ⟨k, rfl, h2⟩ := h
  unfold addF
  rw [h2]
theorem At1.at {q : List T_api_Const} {c : T_api_Const} {i : Int} (h : At1 q c i) : atF q i = (c, 0) := by
  obtain ⟨k, rfl, h2⟩ := h
  unfold atF
  rw [if_neg (by omega), show ((k : Int) + 1 - 1).toNat = k by omega, (idxC_some h2).1]
theorem add_ok {p q : List T_api_Const} {c : T_api_Const} {i : Int} (h : addF p c = (q, i, 0)) : At1 q c i ∧ p <+: q ∧ q.length ≤ p.length + 1 ∧ (∀ j, At1 p c j → q = p) := by
  unfold addF at h
  cases hi : idxC c p with
  | some k =>
    rw [hi] at h
    cases h
    exact ⟨⟨k, rfl, hi⟩, List.prefix_refl p, by omega, fun _ _ => rfl⟩
  | none =>
    rw [hi] at h
    dsimp only at h
    split at h
    · cases h
    · cases h
      refine ⟨⟨p.length, rfl, idx_new hi⟩, List.prefix_append p [c], by simp, fun j hj => ?_⟩
      obtain ⟨k, -, h2⟩ := hj
      rw [hi] at h2; cases h2

theorem get_at {q : List T_api_Const} {c : T_api_Const} {i tag : Int} (h : At1 q c i) (ht : c.f_Tag = tag) : getF q i tag = (c, 0) := by
  unfold getF
  rw [h.at]
  dsimp only
  rw [if_pos rfl, if_pos ht]
theorem utf_at {q : List T_api_Const} {s : List UInt8} {i : Int} (h : At1 q (uC s) i) : utfF q i = (s, 0) := by
  unfold utfF
  rw [get_at h (tag := 1) rfl]; rfl
theorem thr_at {q : List T_api_Const} {s : List UInt8} {i j tag : Int} (hu : At1 q (uC s) i) (h : At1 q (kC tag i 0) j) : thrF q j tag = (s, 0) := by
  unfold thrF
  rw [get_at h (tag := tag) rfl, if_pos rfl]
  exact utf_at hu
theorem nat_at {q : List T_api_Const} {s d : List UInt8} {i j k : Int} (h1 : At1 q (uC s) i) (h2 : At1 q (uC d) j) (h : At1 q (kC 12 i j) k) : natF q k = (s, d, 0) := by
  unfold natF
  rw [get_at h (tag := 12) rfl, if_pos rfl, show (kC 12 i j, (0 : Int)).1.f_A = i from rfl, show (kC 12 i j, (0 : Int)).1.f_B = j from rfl, utf_at h1, utf_at h2, if_pos rfl, if_pos rfl]

theorem named_rich (p : List T_api_Const) (tag : Int) (s : List UInt8) : ((namedF p tag s).2.2 ≠ 0 → 999 ≤ p.length) ∧
    ((namedF p tag s).2.2 = 0 → ∃ q1 i1, addF p (uC s) = (q1, i1, 0) ∧ addF q1 (kC tag i1 0) = namedF p tag s) := by
  have h1 := addF_len p (uC s)
  unfold namedF
  generalize ha1 : addF p (uC s) = a1
  rw [ha1] at h1
  obtain ⟨q1, i1, x1⟩ := a1
  dsimp only at h1 ⊢
  by_cases e1 : x1 = 0
  · subst e1
    rw [if_pos rfl]
    generalize ha2 : addF q1 (kC tag i1 0) = a2
    obtain ⟨q2, i2, x2⟩ := a2
    dsimp only
    by_cases e2 : x2 = 0
    · subst e2
      rw [if_pos rfl]
      exact ⟨fun h => absurd rfl h, fun _ => ⟨q1, i1, rfl, ha2⟩⟩
    · rw [if_neg e2]
      exact ⟨fun _ => by have := addF_err (p := q1) (by rw [ha2]; exact e2); omega, fun h => absurd h e2⟩
  · rw [if_neg e1]
    exact ⟨fun _ => by have := addF_err (p := p) (by rw [ha1]; exact e1); omega, fun h => absurd h e1⟩

/-- A constant that is well formed in its pool. -/
structure Fine (p : List T_api_Const) (c : T_api_Const) (a b : Int) : Prop where
  links : m_pool_links c.f_Tag = some (a, b, true)
  used : badU c a b = false
  short : c.f_Tag = 1 → c.f_S.length ≤ 1024
  word : c.f_Tag = 3 → IntKind.wrap .i32 c.f_N = c.f_N
  fst : a ≠ 0 → (getF p c.f_A a).2 = 0
  snd : b ≠ 0 → (getF p c.f_B b).2 = 0
  texts : m_pool_texts p c = some 0

theorem word64 {n : Int} (h : IntKind.wrap .i32 n = n) : IntKind.wrap .i64 n = n := by
  have h1 : -2147483648 ≤ n ∧ n ≤ 2147483647 := by
    unfold IntKind.wrap at h
    simp [IntKind.bits, IntKind.signed, Int.bmod] at h
    omega
  exact wrapP (by omega) (by omega)
theorem Fine.check {p : List T_api_Const} {c : T_api_Const} {a b : Int} (h : Fine p c a b) (hl : p.length ≤ 1000000) : m_pool_check p c = some 0 := by
  unfold m_pool_check
  rw [h.links]
  simp only [Option.bind_some, Bool.not_true, Bool.false_eq_true, if_false]
  rw [unused_pool, h.used, tail_pool p c a b true hl 0 h.texts, if_neg (c := a ≠ 0 ∧ (getF p c.f_A a).2 ≠ 0) (fun x => x.2 (h.fst x.1)), if_neg (c := b ≠ 0 ∧ (getF p c.f_B b).2 ≠ 0) (fun x => x.2 (h.snd x.1))]
  simp only [Option.bind_some, Bool.false_eq_true, if_false]
  by_cases h3 : c.f_Tag = 3
  · have hw := h.word h3
    rw [hw, word64 hw]
    simp [h3]
  · by_cases h1 : c.f_Tag = 1
    · have := h.short h1
      rw [if_pos (by simp [h1]), if_neg (by simp; omega), if_neg (by simp [h3])]
    · rw [if_neg (by simp [h1]), if_neg (by simp [h3])]

theorem getF_ne5 (p : List T_api_Const) (i t : Int) : (getF p i t).2 ≠ 5 := by
  rcases getF_err p i t with ⟨h, -, -⟩ | h | h <;> rw [h] <;> decide
theorem j58_ne5 {v : (List UInt8) × (List UInt8) × Int} {c : T_api_Const} {z : Bool} {e : Int} (h : j90x1 v c z = some e) : e ≠ 5 := by
  have h2 : ∀ {z e}, j90x2 z = some e → e ≠ 5 := fun {z e} h => by cases z <;> (cases h; decide)
  unfold j90x1 at h
  split at h
  · split at h
    · obtain ⟨_, -, h⟩ := Option.bind_eq_some_iff.1 h
      exact h2 h
    · exact h2 h
  · exact h2 h
theorem member_ne5 {p : List T_api_Const} {c : T_api_Const} {e : Int} (hl : p.length ≤ 1000000) (h : m_pool_member p c = some e) : e ≠ 5 := by
  unfold m_pool_member at h
  rw [nat_pool p _ hl] at h
  simp only [Option.bind_some] at h
  split at h
  · cases h; decide
  · obtain ⟨v, -, h⟩ := Option.bind_eq_some_iff.1 h
    repeat' (split at h)
    all_goals first
      | exact j58_ne5 h
      | (cases h; decide)
theorem texts_ne5 {p : List T_api_Const} {c : T_api_Const} {e : Int} (hl : p.length ≤ 1000000) (h : m_pool_texts p c = some e) : e ≠ 5 := by
  have hm : ∀ {e}, j74x2 p c = some e → e ≠ 5 := fun h => by
    unfold j74x2 at h
    obtain ⟨v, hv, h⟩ := Option.bind_eq_some_iff.1 h
    cases h
    exact member_ne5 hl hv
  unfold m_pool_texts j74x1 at h
  split at h
  · rw [utf_pool p _ hl] at h
    simp only [Option.bind_some] at h
    obtain ⟨v, -, h⟩ := Option.bind_eq_some_iff.1 h
    split at h <;> (cases h; decide)
  split at h
  · rw [utf_pool p _ hl, utf_pool p _ hl] at h
    simp only [Option.bind_some] at h
    obtain ⟨v, -, h⟩ := Option.bind_eq_some_iff.1 h
    split at h
    · cases h; decide
    obtain ⟨v, -, h⟩ := Option.bind_eq_some_iff.1 h
    obtain ⟨v, -, h⟩ := Option.bind_eq_some_iff.1 h
    repeat' (split at h)
    all_goals (cases h; decide)
  repeat' (split at h)
  all_goals first
    | exact hm h
    | (cases h; decide)

theorem texts_tot (p : List T_api_Const) (c : T_api_Const) (hp : shortP p) : ∃ e, m_pool_texts p c = some e := by
  have hl : p.length ≤ 1000000 := by have := hp.1; omega
  unfold m_pool_texts j74x1 j74x2
  have hm : memB c.f_Tag = true → ∃ e, m_pool_member p c = some e := fun h => by
    obtain ⟨e, e1, -⟩ := named_same p c hp h
    exact ⟨e, e1⟩
  split
  · have := utf_short hp c.f_A
    rw [utf_pool p _ hl]
    simp only [Option.bind_some]
    rw [pcc_desc _ (by omega)]
    simp only [Option.bind_some]
    split <;> exact ⟨_, rfl⟩
  split
  · have h1 := utf_short hp c.f_A
    have h2 := utf_short hp c.f_B
    obtain ⟨nb, n1, -⟩ := member_same (utfF p c.f_A).1 (by omega)
    obtain ⟨v, s1, -⟩ := descr_same (utfF p c.f_B).1 h2
    rw [utf_pool p _ hl, utf_pool p _ hl]
    simp only [Option.bind_some]
    rw [n1]
    simp only [Option.bind_some]
    rw [parse_desc _ (by omega), s1]
    simp only [Option.bind_some]
    repeat' split
    all_goals exact ⟨_, rfl⟩
  split
  · rename_i h
    obtain ⟨e, e1⟩ := hm (by unfold memB; simp [h])
    exact ⟨e, by rw [e1]; rfl⟩
  split
  · rename_i h
    obtain ⟨e, e1⟩ := hm (by unfold memB; simp [h])
    exact ⟨e, by rw [e1]; rfl⟩
  split
  · rename_i h
    obtain ⟨e, e1⟩ := hm (by unfold memB; simp [h])
    exact ⟨e, by rw [e1]; rfl⟩
  · exact ⟨_, rfl⟩

/-- What the check of a constant says. -/
theorem check_says {p : List T_api_Const} {c : T_api_Const} {v : Int} (hp : shortP p) (h : m_pool_check p c = some v) : v ≠ 5 ∧ (v = 0 → ∃ a b, Fine p c a b) ∧ (c.f_Tag = 1 → 1024 < c.f_S.length → v ≠ 0) := by
  have hl : p.length ≤ 1000000 := by have := hp.1; omega
  unfold m_pool_check at h
  obtain ⟨⟨a, b, f⟩, hk, h⟩ := Option.bind_eq_some_iff.1 h
  cases f with
  | false => cases h; exact ⟨by decide, fun h => absurd h (by decide), fun _ _ => by decide⟩
  | true =>
    simp only [Bool.not_true, Bool.false_eq_true, if_false, unused_pool, Option.bind_some] at h
    cases hu : badU c a b with
    | true => rw [hu] at h; cases h; exact ⟨by decide, fun h => absurd h (by decide), fun _ _ => by decide⟩
    | false =>
      rw [hu] at h
      simp only [Bool.false_eq_true, if_false] at h
      have tail : (c.f_Tag = 1 → c.f_S.length ≤ 1024) → (c.f_Tag = 3 → IntKind.wrap .i32 c.f_N = c.f_N) → j60x1 (a, b, true) p c = some v → v ≠ 5 ∧ (v = 0 → ∃ a b, Fine p c a b) ∧ (c.f_Tag = 1 → 1024 < c.f_S.length → v ≠ 0) := fun s1 s3 h => by
        have ht : ∃ e, m_pool_texts p c = some e := texts_tot p c hp
        obtain ⟨e, ht⟩ := ht
        rw [tail_pool p c a b true hl e ht] at h
        cases h
        refine ⟨?_, ?_, fun t1 t2 => absurd (s1 t1) (by omega)⟩
        · have := getF_ne5 p c.f_A a
          have := getF_ne5 p c.f_B b
          have := texts_ne5 hl ht
          repeat' split
          all_goals assumption
        · intro hv
          split at hv
          · rename_i hh; exact absurd hv hh.2
          · split at hv
            · rename_i hh; exact absurd hv hh.2
            · rename_i h1 h2
              refine ⟨a, b, hk, hu, s1, s3, fun h => ?_, fun h => ?_, by rw [ht, hv]⟩
              · exact Classical.byContradiction fun h' => h1 ⟨h, h'⟩
              · exact Classical.byContradiction fun h' => h2 ⟨h, h'⟩
      by_cases t1 : c.f_Tag = 1
      · rw [if_pos (by simp [t1])] at h
        by_cases t2 : (c.f_S.length : Int) > 1024
        · rw [if_pos (decide_eq_true t2)] at h
          cases h
          exact ⟨by decide, fun h => absurd h (by decide), fun _ _ => by decide⟩
        · rw [if_neg (by simpa using t2), if_neg (by simp [t1])] at h
          exact tail (fun _ => by omega) (fun h => by omega) h
      · rw [if_neg (by simp [t1])] at h
        by_cases t3 : c.f_Tag = 3
        · rw [if_pos (by simp [t3])] at h
          by_cases hw : IntKind.wrap .i64 (IntKind.wrap .i32 c.f_N) = c.f_N
          · rw [if_neg (by simpa using hw)] at h
            refine tail (fun h => absurd h t1) (fun _ => ?_) h
            rw [wrapP] at hw
            · exact hw
            all_goals
              unfold IntKind.wrap
              simp [IntKind.bits, IntKind.signed, Int.bmod]
              omega
          · rw [if_pos (by simpa using hw)] at h
            cases h
            exact ⟨by decide, fun h => absurd h (by decide), fun h => absurd h t1⟩
        · rw [if_neg (by simp [t3])] at h
          exact tail (fun h => absurd h t1) (fun h => absurd h t3) h

/-! ### What stays when the pool grows -/

theorem at_pre {p q : List T_api_Const} {i : Int} (h : p <+: q) (he : (atF p i).2 = 0) : atF q i = atF p i := by
  obtain ⟨r, rfl⟩ := h
  unfold atF at he ⊢
  split at he
  · cases he
  · rename_i h1
    split at he
    · rename_i c hc
      rw [if_neg h1, if_neg h1, List.getElem?_append_left (by rcases Nat.lt_or_ge (i - 1).toNat p.length with h | h; exact h; rw [List.getElem?_eq_none h] at hc; cases hc), hc]
    · cases he
theorem get_pre {p q : List T_api_Const} {i t : Int} (h : p <+: q) (he : (getF p i t).2 = 0) : getF q i t = getF p i t := by
  rcases getF_err p i t with ⟨h1, h2, h3⟩ | h1 | h1
  · have ha : (atF p i).2 = 0 := by rw [← h2]; exact h1
    have := at_pre h ha
    unfold getF
    rw [this]
  · rw [h1] at he; cases he
  · rw [h1] at he; cases he
theorem utf_pre {p q : List T_api_Const} {i : Int} (h : p <+: q) (he : (getF p i 1).2 = 0) : utfF q i = utfF p i := by
  unfold utfF; rw [get_pre h he]

theorem get_mem {p : List T_api_Const} {i t : Int} (he : (getF p i t).2 = 0) : (getF p i t).1 ∈ p ∧ (getF p i t).1.f_Tag = t := by
  rcases getF_err p i t with ⟨h1, h2, h3⟩ | h1 | h1
  · rw [h2]
    refine ⟨?_, h3⟩
    have ha : (atF p i).2 = 0 := by rw [← h2]; exact h1
    unfold atF at ha ⊢
    split at ha
    · cases ha
    · rename_i h1
      rw [if_neg h1]
      split at ha
      · rename_i c hc
        exact List.mem_of_getElem? hc
      · cases ha
  · rw [h1] at he; cases he
  · rw [h1] at he; cases he

/-- A pool all of whose constants are well formed. -/
def Sound (p : List T_api_Const) : Prop := ∀ c ∈ p, ∃ a b, Fine p c a b

theorem nat_sound {p : List T_api_Const} {i : Int} (hs : Sound p) (he : (getF p i 12).2 = 0) : (getF p (getF p i 12).1.f_A 1).2 = 0 ∧ (getF p (getF p i 12).1.f_B 1).2 = 0 := by
  obtain ⟨h1, h2⟩ := get_mem he
  obtain ⟨a, b, hf⟩ := hs _ h1
  have hk := hf.links
  rw [h2] at hk
  obtain ⟨rfl, rfl⟩ : (1 : Int) = a ∧ (1 : Int) = b := by
    have : m_pool_links 12 = some (1, 1, true) := rfl
    rw [this] at hk
    simpa using hk
  exact ⟨hf.fst (by decide), hf.snd (by decide)⟩
theorem nat_val {p : List T_api_Const} {i : Int} (hs : Sound p) (he : (getF p i 12).2 = 0) : natF p i = ((utfF p (getF p i 12).1.f_A).1, (utfF p (getF p i 12).1.f_B).1, 0) := by
  obtain ⟨h1, h2⟩ := nat_sound hs he
  have h3 : (utfF p (getF p i 12).1.f_A).2 = 0 := h1
  have h4 : (utfF p (getF p i 12).1.f_B).2 = 0 := h2
  unfold natF
  rw [if_pos he, if_pos h3, if_pos h4]
theorem nat_pre {p q : List T_api_Const} {i : Int} (hs : Sound p) (h : p <+: q) (he : (getF p i 12).2 = 0) : natF q i = natF p i := by
  obtain ⟨h1, h2⟩ := nat_sound hs he
  unfold natF
  rw [get_pre h he, utf_pre h h1, utf_pre h h2]

theorem links_cases {t a b : Int} (h : m_pool_links t = some (a, b, true)) : ((t = 1 ∨ t = 3 ∨ t = 5) ∧ a = 0 ∧ b = 0) ∨ ((t = 7 ∨ t = 8) ∧ a = 1 ∧ b = 0) ∨ (t = 12 ∧ a = 1 ∧ b = 1) ∨ ((t = 9 ∨ t = 10 ∨ t = 11) ∧ a = 7 ∧ b = 12) := by
  unfold m_pool_links j71x1 j71x2 j71x3 j71x4 j71x5 at h
  repeat' (split at h)
  all_goals
    simp only [Option.some.injEq, Prod.mk.injEq, Bool.false_eq_true, and_false, and_true] at h
    try (rename_i hh; simp only [beq_iff_eq] at hh; omega)

theorem texts_pre {p q : List T_api_Const} {c : T_api_Const} {a b : Int} (hl : p.length ≤ 1000000) (hq : q.length ≤ 1000000) (hs : Sound p) (h : p <+: q) (hf : Fine p c a b) : m_pool_texts q c = m_pool_texts p c := by
  unfold m_pool_texts j74x1 j74x2 m_pool_member
  rcases links_cases hf.links with ⟨ht, rfl, rfl⟩ | ⟨ht, rfl, rfl⟩ | ⟨ht, rfl, rfl⟩ | ⟨ht, rfl, rfl⟩
  · rcases ht with ht | ht | ht <;> rw [ht] <;> rfl
  · rw [utf_pool q _ hq, utf_pool p _ hl, utf_pre h (hf.fst (by decide))]
    rcases ht with ht | ht <;> rw [ht] <;> rfl
  · rw [utf_pool q _ hq, utf_pool p _ hl, utf_pool q _ hq, utf_pool p _ hl, utf_pre h (hf.fst (by decide)), utf_pre h (hf.snd (by decide))]
    rw [ht]; rfl
  · rw [nat_pool q _ hq, nat_pool p _ hl, nat_pre hs h (hf.snd (by decide))]
    rcases ht with ht | ht | ht <;> rw [ht] <;> rfl

theorem Fine.pre {p q : List T_api_Const} {c : T_api_Const} {a b : Int} (hl : p.length ≤ 1000000) (hq : q.length ≤ 1000000) (hs : Sound p) (h : p <+: q) (hf : Fine p c a b) : Fine q c a b :=
  ⟨hf.links, hf.used, hf.short, hf.word, fun x => by rw [get_pre h (hf.fst x)]; exact hf.fst x, fun x => by rw [get_pre h (hf.snd x)]; exact hf.snd x, by rw [texts_pre hl hq hs h hf]; exact hf.texts⟩

/-- What Check answers. -/
theorem Check_says (p : List T_api_Const) (hp : shortP p) (hl : p.length ≤ 1000) : ∃ v, m_pool_Check p = some v ∧ ((v = (0, 0) ∧ Sound p) ∨ ∃ (k : Nat) (e : Int) (hk : k < p.length), v = ((k : Int) + 1, e) ∧ e ≠ 0 ∧ m_pool_check p p[k] = some e) := by
  unfold m_pool_Check
  rw [if_neg (by simp; omega)]
  obtain ⟨r, h1, h2⟩ := loopM_ind (f := l41x1 p) (fun q : Int => ∃ k : Nat, k ≤ p.length ∧ q = (k : Int) ∧ ∀ (j : Nat) (hj : j < p.length), j < k → m_pool_check p p[j] = some 0) (fun q => p.length - q.toNat)
    (fun r : Unit ⊕ (Int × Int) => match r with
      | .inl _ => Sound p
      | .inr v => ∃ (k : Nat) (e : Int) (hk : k < p.length), v = ((k : Int) + 1, e) ∧ e ≠ 0 ∧ m_pool_check p p[k] = some e) (by
      rintro q ⟨k, hk, rfl, hall⟩
      unfold l41x1
      by_cases hlt : k < p.length
      · rw [if_pos (decide_eq_true (by omega)), getRP (List.getElem?_eq_getElem hlt)]
        simp only [Option.bind_some]
        obtain ⟨e, e1, e2⟩ := check_same p p[k] hp
        rw [e1, wrapP (by omega) (by omega)]
        simp only [Option.bind_some]
        by_cases he : e = 0
        · subst he
          rw [if_neg (by decide)]
          refine ⟨_, rfl, ⟨k + 1, by omega, by simp, fun j hj hjk => ?_⟩, by omega⟩
          rcases Nat.lt_or_ge j k with h | h
          · exact hall j hj h
          · obtain rfl : j = k := by omega
            exact e1
        · rw [if_pos (by simpa using he)]
          exact ⟨_, rfl, k, e, hlt, rfl, he, e1⟩
      · rw [if_neg (by simp; omega)]
        refine ⟨_, rfl, fun c hc => ?_⟩
        obtain ⟨j, hj, rfl⟩ := List.getElem_of_mem hc
        exact (check_says hp (hall j hj (by omega))).2.1 rfl) rounds 0 ⟨0, by omega, rfl, fun j _ h => absurd h (by omega)⟩ (by show p.length - (0 : Int).toNat < 18446744073709551616; omega)
  rw [h1]
  simp only [Option.bind_some]
  cases r with
  | inl u => exact ⟨_, rfl, .inl ⟨rfl, h2⟩⟩
  | inr v => exact ⟨_, rfl, .inr h2⟩

theorem Check_sound {p : List T_api_Const} (hp : shortP p) {v : Int × Int} (h : m_pool_Check p = some v) (h0 : v.2 = 0) : p.length ≤ 1000 ∧ Sound p := by
  by_cases hl : p.length ≤ 1000
  · obtain ⟨w, hw, hs | ⟨k, e, hk, rfl, he, -⟩⟩ := Check_says p hp hl
    · exact ⟨hl, hs.2⟩
    · rw [h] at hw; cases hw; exact absurd h0 he
  · unfold m_pool_Check at h
    rw [if_pos (decide_eq_true (by omega))] at h
    cases h; cases h0

theorem getF_in {p : List T_api_Const} {i t : Int} (h : (getF p i t).2 = 0) : 1 ≤ i ∧ i ≤ p.length := by
  have ha : (atF p i).2 = 0 := by
    unfold getF at h
    split at h
    · assumption
    · cases h
  unfold atF at ha
  split at ha
  · cases ha
  · split at ha
    · rename_i h1 c hc
      have := (List.getElem?_eq_some_iff.1 hc).1
      omega
    · cases ha

/-- A constant that can be written and read back. -/
inductive Cod (c : T_api_Const) : Prop
  | utf (h : c.f_Tag = 1) (hs : c.f_S.length ≤ 1024) (hn : c.f_N = 0) (ha : c.f_A = 0) (hb : c.f_B = 0)
  | int (h : c.f_Tag = 3) (hs : c.f_S = []) (hn : -2147483648 ≤ c.f_N ∧ c.f_N ≤ 2147483647) (ha : c.f_A = 0) (hb : c.f_B = 0)
  | long (h : c.f_Tag = 5) (hs : c.f_S = []) (hn : -9223372036854775808 ≤ c.f_N ∧ c.f_N ≤ 9223372036854775807) (ha : c.f_A = 0) (hb : c.f_B = 0)
  | one (h : c.f_Tag = 7 ∨ c.f_Tag = 8) (hs : c.f_S = []) (hn : c.f_N = 0) (ha : 0 ≤ c.f_A ∧ c.f_A ≤ 65535) (hb : c.f_B = 0)
  | two (h : c.f_Tag = 9 ∨ c.f_Tag = 10 ∨ c.f_Tag = 11 ∨ c.f_Tag = 12) (hs : c.f_S = []) (hn : c.f_N = 0) (ha : 0 ≤ c.f_A ∧ c.f_A ≤ 65535) (hb : 0 ≤ c.f_B ∧ c.f_B ≤ 65535)

theorem cod_of {p : List T_api_Const} {c : T_api_Const} {a b : Int} (hf : Fine p c a b) (hl : p.length ≤ 1000) (hN : -9223372036854775808 ≤ c.f_N ∧ c.f_N ≤ 9223372036854775807) : Cod c := by
  have hu := hf.used
  unfold badU at hu
  simp only [Bool.or_eq_false_iff, Bool.and_eq_false_iff, bne_eq_false_iff_eq, beq_eq_false_iff_ne, bne_iff_ne] at hu
  obtain ⟨⟨⟨u1, u2⟩, u3⟩, u4⟩ := hu
  rcases links_cases hf.links with ⟨h, rfl, rfl⟩ | ⟨h, rfl, rfl⟩ | ⟨h, rfl, rfl⟩ | ⟨h, rfl, rfl⟩
  · have hA : c.f_A = 0 := u3.resolve_left (by simp)
    have hB : c.f_B = 0 := u4.resolve_left (by simp)
    rcases h with h | h | h
    · exact .utf h (hf.short h) (u2.resolve_left (by rintro (e | e) <;> omega)) hA hB
    · have hw := hf.word h
      have hr : -2147483648 ≤ c.f_N ∧ c.f_N ≤ 2147483647 := by
        unfold IntKind.wrap at hw
        simp [IntKind.bits, IntKind.signed, Int.bmod] at hw
        omega
      exact .int h (u1.resolve_left (by omega)) hr hA hB
    · exact .long h (u1.resolve_left (by omega)) hN hA hB
  · have hA := getF_in (hf.fst (by decide))
    exact .one h (u1.resolve_left (by omega)) (u2.resolve_left (by rintro (e | e) <;> omega)) (by omega) (u4.resolve_left (by simp))
  · have hA := getF_in (hf.fst (by decide))
    have hB := getF_in (hf.snd (by decide))
    exact .two (by omega) (u1.resolve_left (by omega)) (u2.resolve_left (by rintro (e | e) <;> omega)) (by omega) (by omega)
  · have hA := getF_in (hf.fst (by decide))
    have hB := getF_in (hf.snd (by decide))
    exact .two (by omega) (u1.resolve_left (by omega)) (u2.resolve_left (by rintro (e | e) <;> omega)) (by omega) (by omega)

/-! ### Reading what was written -/

theorem code_at (u b : List UInt8) {n : Int} (hn : 0 ≤ n) : code (u ++ b) (u.length : Int) n = if (b.length : Int) < n then 3 else 0 := by
  unfold code
  have h : ((u ++ b).length : Int) = (u.length : Int) + (b.length : Int) := by simp
  rw [if_neg (by omega), if_neg (by omega), h]
  by_cases hb : (b.length : Int) < n
  · rw [if_pos (by omega), if_pos hb]
  · rw [if_neg (by omega), if_neg hb]

theorem pS1 {x : Int} (h : 0 ≤ x ∧ x ≤ 255) : putS x 1 = bytesOf (by1 x) := by unfold putS; rw [Put1, if_neg (by omega)]; rfl
theorem pS2 {x : Int} (h : 0 ≤ x ∧ x ≤ 65535) : putS x 2 = bytesOf (by2 x) := by unfold putS; rw [Put2, if_neg (by omega)]; rfl
theorem pS4 {x : Int} (h : -2147483648 ≤ x ∧ x ≤ 2147483647) : putS x 4 = bytesOf (by4 x) := by unfold putS; rw [Put4, if_neg (by omega)]; rfl
theorem pS8 (x : Int) : putS x 8 = bytesOf (by8 x) := by unfold putS; rw [Put8]; rfl

theorem rd1 {u w : List UInt8} {x : Int} (h : 0 ≤ x ∧ x ≤ 255) (hl : big (u ++ bytesOf (by1 x) ++ w)) : uV (u ++ bytesOf (by1 x) ++ w) (u.length : Int) 1 = x := by
  unfold uV; rw [(trip1 x u w (by omega) (by omega) hl).1]; show x % 256 = x; omega
theorem rd2 {u w : List UInt8} {x : Int} (h : 0 ≤ x ∧ x ≤ 65535) (hl : big (u ++ bytesOf (by2 x) ++ w)) : uV (u ++ bytesOf (by2 x) ++ w) (u.length : Int) 2 = x := by
  unfold uV; rw [(trip2 x u w (by omega) (by omega) hl).1]; show x % 65536 = x; omega
theorem rd4 {u w : List UInt8} {x : Int} (h : -2147483648 ≤ x ∧ x ≤ 2147483647) (hl : big (u ++ bytesOf (by4 x) ++ w)) : sV (u ++ bytesOf (by4 x) ++ w) (u.length : Int) 4 = x := by
  obtain ⟨c0, c1, c2, c3, hb, hr, hc⟩ := bytes4 x
  rw [hb] at hl ⊢
  have h5 := osig4 hl (code_mid u [c0, c1, c2, c3] w (n := 4) (by simp)) (take_mid u [c0, c1, c2, c3] w)
  unfold sV
  rw [h5]
  show sgn4 c0 c1 c2 c3 = x
  unfold sgn4
  rw [hr, hc]
  split <;> omega
theorem rd8 {u w : List UInt8} {x : Int} (h : -9223372036854775808 ≤ x ∧ x ≤ 9223372036854775807) (hl : big (u ++ bytesOf (by8 x) ++ w)) : sV (u ++ bytesOf (by8 x) ++ w) (u.length : Int) 8 = x := by
  obtain ⟨c0, c1, c2, c3, c4, c5, c6, c7, hb, hr, hc⟩ := bytes8 x
  rw [hb] at hl ⊢
  have h5 := osig8 hl (code_mid u [c0, c1, c2, c3, c4, c5, c6, c7] w (n := 8) (by simp)) (take_mid u [c0, c1, c2, c3, c4, c5, c6, c7] w)
  unfold sV
  rw [h5]
  show sgn8 c0 c1 c2 c3 c4 c5 c6 c7 = x
  unfold sgn8
  rw [hr, hc]
  split <;> omega

/-- What stands behind the tag. -/
def payS (c : T_api_Const) : List UInt8 := if c.f_Tag = 1 then bytesOf (by2 (c.f_S.length : Int)) ++ c.f_S else if c.f_Tag = 3 then bytesOf (by4 c.f_N) else if c.f_Tag = 5 then bytesOf (by8 c.f_N) else if c.f_Tag = 7 ∨ c.f_Tag = 8 then bytesOf (by2 c.f_A) else bytesOf (by2 c.f_A) ++ bytesOf (by2 c.f_B)
theorem cod_tag {c : T_api_Const} (h : Cod c) : 0 ≤ c.f_Tag ∧ c.f_Tag ≤ 255 := by cases h <;> omega
theorem one_pay {c : T_api_Const} (h : Cod c) : oneS c = bytesOf (by1 c.f_Tag) ++ payS c := by
  unfold oneS payS
  rw [pS1 (cod_tag h), pS8]
  cases h with
  | utf h hs hn ha hb => rw [if_pos h, if_pos h]; unfold strS; rw [if_neg (by omega)]
  | int h hs hn ha hb => rw [if_neg (by omega), if_pos h, if_neg (by omega), if_pos h, pS4 hn]
  | long h hs hn ha hb => rw [if_neg (by omega), if_neg (by omega), if_pos h, if_neg (by omega), if_neg (by omega), if_pos h]
  | one h hs hn ha hb => rw [if_neg (by omega), if_neg (by omega), if_neg (by omega), if_pos h, if_neg (by omega), if_neg (by omega), if_neg (by omega), if_pos h, pS2 ha]
  | two h hs hn ha hb => rw [if_neg (by omega), if_neg (by omega), if_neg (by omega), if_neg (by omega), if_neg (by omega), if_neg (by omega), if_neg (by omega), if_neg (by omega), pS2 ha, pS2 hb]

theorem l1 (x : Int) : (bytesOf (by1 x)).length = 1 := rfl
theorem l2 (x : Int) : (bytesOf (by2 x)).length = 2 := rfl
theorem l4 (x : Int) : (bytesOf (by4 x)).length = 4 := rfl
theorem l8 (x : Int) : (bytesOf (by8 x)).length = 8 := rfl

/-- The tag is read, whatever follows. -/
theorem tag_at {u q : List UInt8} {t : Int} (ht : 0 ≤ t ∧ t ≤ 255) (hl : big (u ++ bytesOf (by1 t) ++ q)) : code (u ++ bytesOf (by1 t) ++ q) (u.length : Int) 1 = 0 ∧ tg (u ++ bytesOf (by1 t) ++ q) (u.length : Int) = t := by
  refine ⟨?_, rd1 ht hl⟩
  rw [List.append_assoc, code_at _ _ (by decide), if_neg (by simp [l1]; omega)]

theorem one_at {c : T_api_Const} (h : Cod c) (u w : List UInt8) (hl : big (u ++ oneS c ++ w)) :
    tkE (u ++ oneS c ++ w) (u.length : Int) = 0 ∧ tkC (u ++ oneS c ++ w) (u.length : Int) = c ∧ tkN (u ++ oneS c ++ w) (u.length : Int) = (u.length : Int) + ((oneS c).length : Int) := by
  rw [one_pay h] at hl ⊢
  have e0 : u ++ (bytesOf (by1 c.f_Tag) ++ payS c) ++ w = u ++ bytesOf (by1 c.f_Tag) ++ (payS c ++ w) := by simp [List.append_assoc]
  rw [e0] at hl ⊢
  obtain ⟨k1, k2⟩ := tag_at (cod_tag h) hl
  have e1 : (u.length : Int) + 1 = ((u ++ bytesOf (by1 c.f_Tag)).length : Int) := by simp [l1]
  generalize hu : u ++ bytesOf (by1 c.f_Tag) = u' at hl k1 k2 e1
  have e2 : ((bytesOf (by1 c.f_Tag) ++ payS c).length : Int) = 1 + ((payS c).length : Int) := by simp [l1]
  unfold tkE tkC tkN
  rw [k1, k2, if_neg (by simp), e1, e2]
  have hlen : (u.length : Int) + (1 + ((payS c).length : Int)) = (u'.length : Int) + ((payS c).length : Int) := by omega
  rw [hlen]
  obtain ⟨t, S, N, A, B⟩ := c
  dsimp only at *
  cases h with
  | utf h hs hn ha hb =>
    dsimp only at *
    subst h hn ha hb
    have hp : payS ⟨1, S, 0, 0, 0⟩ = bytesOf (by2 (S.length : Int)) ++ S := by simp [payS]
    rw [hp] at hl ⊢
    have e3 : u' ++ (bytesOf (by2 (S.length : Int)) ++ S ++ w) = u' ++ bytesOf (by2 (S.length : Int)) ++ (S ++ w) := by simp [List.append_assoc]
    rw [e3] at hl ⊢
    have v := rd2 (u := u') (x := (S.length : Int)) (by omega) hl
    have c1 : code (u' ++ bytesOf (by2 (S.length : Int)) ++ (S ++ w)) (u'.length : Int) 2 = 0 := by rw [List.append_assoc, code_at _ _ (by decide), if_neg (by simp [l2]; omega)]
    have e4 : (u'.length : Int) + 2 = ((u' ++ bytesOf (by2 (S.length : Int))).length : Int) := by simp [l2]
    have hg : gOk (u' ++ bytesOf (by2 (S.length : Int)) ++ (S ++ w)) (u'.length : Int) := by
      refine ⟨c1, ?_⟩
      rw [v, e4, code_at _ _ (by omega), if_neg (by simp; omega)]
    have hS : gS (u' ++ bytesOf (by2 (S.length : Int)) ++ (S ++ w)) (u'.length : Int) = S := by
      unfold gS
      rw [v, e4, ← List.append_assoc]
      exact take_mid _ S w
    simp only [if_true]
    rw [if_pos hg, hS, v]
    exact ⟨rfl, rfl, by simp [l2]; omega⟩
  | int h hs hn ha hb =>
    dsimp only at *
    subst h hs ha hb
    have hp : payS ⟨3, [], N, 0, 0⟩ = bytesOf (by4 N) := by simp [payS]
    rw [hp, ← List.append_assoc] at hl ⊢
    have v := rd4 (u := u') hn hl
    have c1 : code (u' ++ bytesOf (by4 N) ++ w) (u'.length : Int) 4 = 0 := by rw [List.append_assoc, code_at _ _ (by decide), if_neg (by simp [l4]; omega)]
    simp [-List.append_assoc, c1, v, l4]
  | long h hs hn ha hb =>
    dsimp only at *
    subst h hs ha hb
    have hp : payS ⟨5, [], N, 0, 0⟩ = bytesOf (by8 N) := by simp [payS]
    rw [hp, ← List.append_assoc] at hl ⊢
    have v := rd8 (u := u') hn hl
    have c1 : code (u' ++ bytesOf (by8 N) ++ w) (u'.length : Int) 8 = 0 := by rw [List.append_assoc, code_at _ _ (by decide), if_neg (by simp [l8]; omega)]
    simp [-List.append_assoc, c1, v, l8]
  | one h hs hn ha hb =>
    dsimp only at *
    subst hs hn hb
    have hp : payS ⟨t, [], 0, A, 0⟩ = bytesOf (by2 A) := by unfold payS; dsimp only; rw [if_neg (by omega), if_neg (by omega), if_neg (by omega), if_pos h]
    rw [hp, ← List.append_assoc] at hl ⊢
    have v := rd2 (u := u') ha hl
    have c1 : code (u' ++ bytesOf (by2 A) ++ w) (u'.length : Int) 2 = 0 := by rw [List.append_assoc, code_at _ _ (by decide), if_neg (by simp [l2]; omega)]
    have n1 : t ≠ 1 := by omega
    have n3 : t ≠ 3 := by omega
    have n5 : t ≠ 5 := by omega
    simp [-List.append_assoc, c1, v, l2, n1, n3, n5, h]
  | two h hs hn ha hb =>
    dsimp only at *
    subst hs hn
    have hp : payS ⟨t, [], 0, A, B⟩ = bytesOf (by2 A) ++ bytesOf (by2 B) := by unfold payS; dsimp only; rw [if_neg (by omega), if_neg (by omega), if_neg (by omega), if_neg (by omega)]
    have e3 : u' ++ (payS ⟨t, [], 0, A, B⟩ ++ w) = u' ++ bytesOf (by2 A) ++ (bytesOf (by2 B) ++ w) := by rw [hp]; simp [List.append_assoc]
    rw [e3] at hl ⊢
    have v := rd2 (u := u') ha hl
    have c1 : code (u' ++ bytesOf (by2 A) ++ (bytesOf (by2 B) ++ w)) (u'.length : Int) 2 = 0 := by rw [List.append_assoc, code_at _ _ (by decide), if_neg (by simp [l2]; omega)]
    have e4 : (u'.length : Int) + 2 = ((u' ++ bytesOf (by2 A)).length : Int) := by simp [l2]
    have c2 : code (u' ++ bytesOf (by2 A) ++ (bytesOf (by2 B) ++ w)) ((u'.length : Int) + 2) 2 = 0 := by rw [e4, code_at _ _ (by decide), if_neg (by simp [l2]; omega)]
    have v2 : uV (u' ++ bytesOf (by2 A) ++ (bytesOf (by2 B) ++ w)) ((u'.length : Int) + 2) 2 = B := by
      rw [e4, ← List.append_assoc] at *
      exact rd2 (u := u' ++ bytesOf (by2 A)) hb hl
    have n1 : t ≠ 1 := by omega
    have n3 : t ≠ 3 := by omega
    have n5 : t ≠ 5 := by omega
    have n7 : ¬ (t = 7 ∨ t = 8) := by omega
    simp [-List.append_assoc, c1, c2, v, v2, hp, l2, n1, n3, n5, n7, h]
    omega

theorem all_at : ∀ (l : List T_api_Const), (∀ c ∈ l, Cod c) → ∀ (u w : List UInt8), big (u ++ allS l ++ w) →
    pE (u ++ allS l ++ w) l.length (u.length : Int) = 0 ∧ pL (u ++ allS l ++ w) l.length (u.length : Int) = l ∧ pA (u ++ allS l ++ w) l.length (u.length : Int) = (u.length : Int) + ((allS l).length : Int)
  | [], _, u, w, _ => ⟨rfl, rfl, by simp [pA, allS]⟩
  | c :: l, h, u, w, hl => by
    have e0 : allS (c :: l) = oneS c ++ allS l := rfl
    have e1 : u ++ allS (c :: l) ++ w = u ++ oneS c ++ (allS l ++ w) := by rw [e0]; simp [List.append_assoc]
    have e2 : u ++ allS (c :: l) ++ w = (u ++ oneS c) ++ allS l ++ w := by rw [e0]; simp [List.append_assoc]
    have hl1 := hl
    rw [e1] at hl1
    obtain ⟨k1, k2, k3⟩ := one_at (h c (by simp)) u (allS l ++ w) hl1
    have hl2 := hl
    rw [e2] at hl2
    obtain ⟨q1, q2, q3⟩ := all_at l (fun x hx => h x (by simp [hx])) (u ++ oneS c) w hl2
    have e3 : ((u ++ oneS c).length : Int) = (u.length : Int) + ((oneS c).length : Int) := by simp
    rw [← e1] at k1 k2 k3
    rw [← e2, e3] at q1 q2 q3
    rw [List.length_cons]
    unfold pE pL pA
    rw [k1, k2, k3, if_pos rfl, q1, q2, q3]
    refine ⟨rfl, rfl, ?_⟩
    rw [e0, List.length_append]; omega
theorem code_end (u : List UInt8) (b : List UInt8) {n : Int} (hn : 0 ≤ n) (h : (b.length : Int) < n) : code (u ++ b) (u.length : Int) n = 3 := by rw [code_at _ _ hn, if_pos h]

theorem trunc_one {c : T_api_Const} (h : Cod c) (u : List UInt8) {m : Nat} (hm : m < (oneS c).length) (hl : big (u ++ (oneS c).take m)) : tkE (u ++ (oneS c).take m) (u.length : Int) = 3 := by
  rw [one_pay h] at hm hl ⊢
  cases m with
  | zero =>
    rw [List.take_zero] at hl ⊢
    unfold tkE
    rw [if_pos (by rw [code_end u [] (by decide) (by simp)]; decide)]
  | succ j =>
    have e0 : (bytesOf (by1 c.f_Tag) ++ payS c).take (j + 1) = bytesOf (by1 c.f_Tag) ++ (payS c).take j := rfl
    have hj : j < (payS c).length := by rw [List.length_append, l1] at hm; omega
    rw [e0, ← List.append_assoc] at hl ⊢
    obtain ⟨k1, k2⟩ := tag_at (cod_tag h) hl
    have e1 : (u.length : Int) + 1 = ((u ++ bytesOf (by1 c.f_Tag)).length : Int) := by simp [l1]
    generalize hu : u ++ bytesOf (by1 c.f_Tag) = u' at hl k1 k2 e1
    unfold tkE
    rw [k1, k2, if_neg (by simp), e1]
    have hq : ((payS c).take j).length = j := by rw [List.length_take]; omega
    obtain ⟨t, S, N, A, B⟩ := c
    dsimp only at *
    cases h with
    | utf h hs hn ha hb =>
      dsimp only at *
      subst h hn ha hb
      have hp : payS ⟨1, S, 0, 0, 0⟩ = bytesOf (by2 (S.length : Int)) ++ S := by simp [payS]
      rw [if_pos rfl, if_neg]
      intro hg
      by_cases h2 : j < 2
      · have := hg.1
        rw [code_end _ _ (by decide) (by rw [hq]; omega)] at this
        cases this
      · have e3 : (payS ⟨1, S, 0, 0, 0⟩).take j = bytesOf (by2 (S.length : Int)) ++ S.take (j - 2) := by
          rw [hp, List.take_append, l2, List.take_of_length_le (by rw [l2]; omega)]
        rw [e3, ← List.append_assoc] at hg hl
        have v := rd2 (u := u') (x := (S.length : Int)) (by omega) hl
        have e4 : (u'.length : Int) + 2 = ((u' ++ bytesOf (by2 (S.length : Int))).length : Int) := by simp [l2]
        have := hg.2
        rw [v, e4, code_end _ _ (by omega) (by rw [List.length_take]; rw [hp, List.length_append, l2] at hj; omega)] at this
        cases this
    | int h hs hn ha hb =>
      dsimp only at *
      subst h hs ha hb
      have hp : payS ⟨3, [], N, 0, 0⟩ = bytesOf (by4 N) := by simp [payS]
      rw [hp, l4] at hj
      rw [if_neg (by decide), if_pos rfl, if_neg]
      rw [code_end _ _ (by decide) (by rw [hq]; omega)]
      decide
    | long h hs hn ha hb =>
      dsimp only at *
      subst h hs ha hb
      have hp : payS ⟨5, [], N, 0, 0⟩ = bytesOf (by8 N) := by simp [payS]
      rw [hp, l8] at hj
      rw [if_neg (by decide), if_neg (by decide), if_pos rfl, if_neg]
      rw [code_end _ _ (by decide) (by rw [hq]; omega)]
      decide
    | one h hs hn ha hb =>
      dsimp only at *
      subst hs hn hb
      have hp : payS ⟨t, [], 0, A, 0⟩ = bytesOf (by2 A) := by unfold payS; dsimp only; rw [if_neg (by omega), if_neg (by omega), if_neg (by omega), if_pos h]
      rw [hp, l2] at hj
      rw [if_neg (by omega), if_neg (by omega), if_neg (by omega), if_pos h, if_neg]
      rw [code_end _ _ (by decide) (by rw [hq]; omega)]
      decide
    | two h hs hn ha hb =>
      dsimp only at *
      subst hs hn
      have hp : payS ⟨t, [], 0, A, B⟩ = bytesOf (by2 A) ++ bytesOf (by2 B) := by unfold payS; dsimp only; rw [if_neg (by omega), if_neg (by omega), if_neg (by omega), if_neg (by omega)]
      rw [hp, List.length_append, l2, l2] at hj
      rw [if_neg (by omega), if_neg (by omega), if_neg (by omega), if_neg (by omega), if_pos h]
      by_cases h2 : j < 2
      · rw [if_neg]
        rw [code_end _ _ (by decide) (by rw [hq]; omega)]
        decide
      · have e3 : (payS ⟨t, [], 0, A, B⟩).take j = bytesOf (by2 A) ++ (bytesOf (by2 B)).take (j - 2) := by
          rw [hp, List.take_append, l2, List.take_of_length_le (by rw [l2]; omega)]
        rw [e3, ← List.append_assoc]
        have c1 : code (u' ++ bytesOf (by2 A) ++ (bytesOf (by2 B)).take (j - 2)) (u'.length : Int) 2 = 0 := by rw [List.append_assoc, code_at _ _ (by decide), if_neg (by simp [l2]; omega)]
        have e4 : (u'.length : Int) + 2 = ((u' ++ bytesOf (by2 A)).length : Int) := by simp [l2]
        rw [if_pos c1, if_neg]
        rw [e4, code_end _ _ (by decide) (by rw [List.length_take, l2]; omega)]
        decide

theorem trunc_all : ∀ (l : List T_api_Const), (∀ c ∈ l, Cod c) → ∀ (u : List UInt8) (m : Nat), m < (allS l).length → big (u ++ (allS l).take m) → pE (u ++ (allS l).take m) l.length (u.length : Int) = 3
  | [], _, u, m, hm, _ => by simp [allS] at hm
  | c :: l, h, u, m, hm, hl => by
    have e0 : allS (c :: l) = oneS c ++ allS l := rfl
    rw [e0] at hm hl ⊢
    rw [List.length_cons]
    unfold pE
    by_cases h1 : m < (oneS c).length
    · rw [List.take_append, show m - (oneS c).length = 0 by omega, List.take_zero, List.append_nil] at hl ⊢
      rw [if_neg]
      · exact trunc_one (h c (by simp)) u h1 hl
      · rw [trunc_one (h c (by simp)) u h1 hl]; decide
    · have e1 : (oneS c ++ allS l).take m = oneS c ++ (allS l).take (m - (oneS c).length) := by rw [List.take_append, List.take_of_length_le (by omega)]
      rw [e1, ← List.append_assoc] at hl ⊢
      obtain ⟨k1, -, k3⟩ := one_at (h c (by simp)) u ((allS l).take (m - (oneS c).length)) hl
      rw [k1, if_pos rfl, k3]
      have e3 : ((u ++ oneS c).length : Int) = (u.length : Int) + ((oneS c).length : Int) := by simp
      rw [← e3]
      exact trunc_all l (fun x hx => h x (by simp [hx])) (u ++ oneS c) _ (by rw [List.length_append] at hm; omega) hl

/-- What is known of the numbers of a pool. -/
def ranged (p : List T_api_Const) : Prop := ∀ c ∈ p, -9223372036854775808 ≤ c.f_N ∧ c.f_N ≤ 9223372036854775807

theorem cods {p : List T_api_Const} (hp : smallP p) (hr : ranged p) {v : Int × Int} (h : m_pool_Check p = some v) (h0 : v.2 = 0) : p.length ≤ 1000 ∧ ∀ c ∈ p, Cod c := by
  obtain ⟨hl, hs⟩ := Check_sound hp.short h h0
  exact ⟨hl, fun c hc => by obtain ⟨a, b, hf⟩ := hs c hc; exact cod_of hf hl (hr c hc)⟩

theorem enc_len {p : List T_api_Const} (hp : smallP p) : (encS p).length ≤ 6048002 ∧ 2 ≤ (encS p).length := by
  unfold encS
  have h1 := head_len p hp.1
  have h2 := take_len hp p.length
  rw [List.take_length] at h2
  rw [List.length_append, h1]; omega

theorem dec_enc {p : List T_api_Const} (hp : smallP p) (hr : ranged p) {v : Int × Int} (h : m_pool_Check p = some v) (h0 : v.2 = 0) (u w : List UInt8) (hu : u.length ≤ 1000000) (hw : w.length ≤ 100000000) :
    decF (u ++ encS p ++ w) (u.length : Int) = some (p, (u.length : Int) + ((encS p).length : Int), 0) := by
  obtain ⟨hl, hc⟩ := cods hp hr h h0
  have hlen := enc_len hp
  have hbig : big (u ++ encS p ++ w) := by unfold big; simp only [List.length_append]; omega
  have h2 := pS2 (x := (p.length : Int)) (by omega)
  have e0 : u ++ encS p ++ w = u ++ bytesOf (by2 (p.length : Int)) ++ (allS p ++ w) := by unfold encS; rw [h2]; simp [List.append_assoc]
  have e1 : u ++ encS p ++ w = (u ++ bytesOf (by2 (p.length : Int))) ++ allS p ++ w := by rw [e0]; simp [List.append_assoc]
  have c1 : code (u ++ encS p ++ w) (u.length : Int) 2 = 0 := by rw [e0, List.append_assoc, code_at _ _ (by decide), if_neg (by simp [l2]; omega)]
  have v1 : uV (u ++ encS p ++ w) (u.length : Int) 2 = (p.length : Int) := by rw [e0] at hbig ⊢; exact rd2 (by omega) hbig
  have hcnt : cnt (u ++ encS p ++ w) (u.length : Int) = p.length := by unfold cnt; rw [v1]; omega
  have hA := all_at p hc (u ++ bytesOf (by2 (p.length : Int))) w (by rw [← e1]; exact hbig)
  have e2 : ((u ++ bytesOf (by2 (p.length : Int))).length : Int) = (u.length : Int) + 2 := by simp [l2]
  rw [← e1, e2] at hA
  obtain ⟨q1, q2, q3⟩ := hA
  unfold decF
  rw [if_neg (by simp only [List.length_append]; omega), c1, if_neg (by simp), hcnt, q1, if_neg (by simp), q2, q3, h]
  simp only [Option.map_some]
  rw [if_neg (by simpa using h0)]
  have e3 : ((encS p).length : Int) = 2 + ((allS p).length : Int) := by unfold encS; rw [List.length_append, head_len p hp.1]; omega
  rw [e3]
  congr 3; omega

theorem dec_cut {p : List T_api_Const} (hp : smallP p) (hr : ranged p) {v : Int × Int} (h : m_pool_Check p = some v) (h0 : v.2 = 0) {m : Nat} (hm : m < (encS p).length) :
    decF ((encS p).take m) 0 = some ([], 0, 3) := by
  obtain ⟨hl, hc⟩ := cods hp hr h h0
  have hlen := enc_len hp
  have h2 := pS2 (x := (p.length : Int)) (by omega)
  have hbig : big ((encS p).take m) := by unfold big; rw [List.length_take]; omega
  unfold decF
  rw [if_neg (by omega)]
  by_cases h1 : m < 2
  · have c1 : code ((encS p).take m) 0 2 = 3 := by
      have := code_end [] ((encS p).take m) (n := 2) (by decide) (by rw [List.length_take]; omega)
      simpa using this
    rw [c1, if_pos (by decide)]
  · have e0 : (encS p).take m = [] ++ bytesOf (by2 (p.length : Int)) ++ (allS p).take (m - 2) := by
      unfold encS; rw [h2, List.take_append, l2, List.take_of_length_le (by rw [l2]; omega)]; simp
    have hm2 : m - 2 < (allS p).length := by unfold encS at hm; rw [List.length_append, head_len p hp.1] at hm; omega
    rw [e0] at hbig ⊢
    have c1 : code ([] ++ bytesOf (by2 (p.length : Int)) ++ (allS p).take (m - 2)) 0 2 = 0 := by
      have := code_at [] (bytesOf (by2 (p.length : Int)) ++ (allS p).take (m - 2)) (n := 2) (by decide)
      rw [if_neg (by simp [l2]; omega)] at this
      simpa [List.append_assoc] using this
    have v1 : uV ([] ++ bytesOf (by2 (p.length : Int)) ++ (allS p).take (m - 2)) 0 2 = (p.length : Int) := rd2 (u := []) (by omega) hbig
    have hcnt : cnt ([] ++ bytesOf (by2 (p.length : Int)) ++ (allS p).take (m - 2)) 0 = p.length := by unfold cnt; rw [v1]; omega
    have ht := trunc_all p hc ([] ++ bytesOf (by2 (p.length : Int))) (m - 2) hm2 hbig
    have e2 : (([] ++ bytesOf (by2 (p.length : Int)) : List UInt8).length : Int) = 0 + 2 := rfl
    rw [e2] at ht
    rw [c1, if_neg (by simp), hcnt, ht, if_pos (by decide)]

/-- So many bytes from a place on. -/
def seg (s : List UInt8) (a n : Int) : List UInt8 := (s.drop a.toNat).take n.toNat
theorem seg_len {s : List UInt8} {a n : Int} (h0 : 0 ≤ a) (hn : 0 ≤ n) (h : a + n ≤ (s.length : Int)) : ((seg s a n).length : Int) = n := by unfold seg; rw [List.length_take, List.length_drop]; omega
theorem seg_app {s : List UInt8} {a n m : Int} (h0 : 0 ≤ a) (hn : 0 ≤ n) (hm : 0 ≤ m) : seg s a n ++ seg s (a + n) m = seg s a (n + m) := by
  unfold seg
  rw [show (a + n).toNat = a.toNat + n.toNat by omega, show (n + m).toNat = n.toNat + m.toNat by omega, ← List.drop_drop, List.take_add]

theorem ub (b : UInt8) (x : Int) (h : x % 256 = (b.toNat : Int)) : UInt8.ofNat (x % 256).toNat = b := by rw [h]; simp
theorem back1 {s : List UInt8} {a : Int} (hl : big s) (hc : code s a 1 = 0) : bytesOf (by1 (uV s a 1)) = seg s a 1 ∧ 0 ≤ uV s a 1 ∧ uV s a 1 ≤ 255 := by
  obtain ⟨g0, g1⟩ := code_ok (by decide) hc
  obtain ⟨w, hw, hwl, hg⟩ := window_get g0 (by decide) g1
  obtain ⟨c0, rfl⟩ := len1 hwl
  have hu := (uns1 hl hc hw g0 hg).1
  have hv : uV s a 1 = raw1 c0 := by unfold uV; rw [hu]; rfl
  have hr := raw1lt c0
  rw [hv]
  refine ⟨?_, by omega, by omega⟩
  unfold seg
  rw [hw]
  show [UInt8.ofNat (raw1 c0 % 256).toNat] = [c0]
  rw [ub c0]
  unfold raw1; have := u8lt c0; omega
theorem back2 {s : List UInt8} {a : Int} (hl : big s) (hc : code s a 2 = 0) : bytesOf (by2 (uV s a 2)) = seg s a 2 := by
  obtain ⟨g0, g1⟩ := code_ok (by decide) hc
  obtain ⟨w, hw, hwl, hg⟩ := window_get g0 (by decide) g1
  obtain ⟨c0, c1, rfl⟩ := len2 hwl
  have hu := (uns2 hl hc hw g0 hg).1
  have hv : uV s a 2 = raw2 c0 c1 := by unfold uV; rw [hu]; rfl
  rw [hv]
  unfold seg
  rw [hw]
  show [UInt8.ofNat (raw2 c0 c1 / 256 % 256).toNat, UInt8.ofNat (raw2 c0 c1 % 256).toNat] = [c0, c1]
  have := u8lt c0; have := u8lt c1
  rw [ub c0 _ (by unfold raw2; omega), ub c1 _ (by unfold raw2; omega)]
theorem back4 {s : List UInt8} {a : Int} (hl : big s) (hc : code s a 4 = 0) : bytesOf (by4 (sV s a 4)) = seg s a 4 ∧ -2147483648 ≤ sV s a 4 ∧ sV s a 4 ≤ 2147483647 := by
  obtain ⟨g0, g1⟩ := code_ok (by decide) hc
  obtain ⟨w, hw, hwl, hg⟩ := window_get g0 (by decide) g1
  obtain ⟨c0, c1, c2, c3, rfl⟩ := len4 hwl
  have hv : sV s a 4 = sgn4 c0 c1 c2 c3 := by unfold sV; rw [osig4 hl hc hw]; rfl
  have b0 := u8lt c0; have b1 := u8lt c1; have b2 := u8lt c2; have b3 := u8lt c3
  rw [hv]
  refine ⟨?_, by unfold sgn4 raw4; split <;> omega, by unfold sgn4 raw4; split <;> omega⟩
  unfold seg
  rw [hw]
  show [UInt8.ofNat (sgn4 c0 c1 c2 c3 / 256 / 256 / 256 % 256).toNat, UInt8.ofNat (sgn4 c0 c1 c2 c3 / 256 / 256 % 256).toNat, UInt8.ofNat (sgn4 c0 c1 c2 c3 / 256 % 256).toNat, UInt8.ofNat (sgn4 c0 c1 c2 c3 % 256).toNat] = [c0, c1, c2, c3]
  have e : ∃ q : Int, sgn4 c0 c1 c2 c3 = ((((c0.toNat : Int) * 256 + (c1.toNat : Int)) * 256 + (c2.toNat : Int)) * 256 + (c3.toNat : Int)) + q * 4294967296 := by
    unfold sgn4 raw4
    split
    · exact ⟨-1, by omega⟩
    · exact ⟨0, by omega⟩
  obtain ⟨q, e⟩ := e
  rw [e, ub c0 _ (by omega), ub c1 _ (by omega), ub c2 _ (by omega), ub c3 _ (by omega)]
theorem back8 {s : List UInt8} {a : Int} (hl : big s) (hc : code s a 8 = 0) : bytesOf (by8 (sV s a 8)) = seg s a 8 ∧ -9223372036854775808 ≤ sV s a 8 ∧ sV s a 8 ≤ 9223372036854775807 := by
  obtain ⟨g0, g1⟩ := code_ok (by decide) hc
  obtain ⟨w, hw, hwl, hg⟩ := window_get g0 (by decide) g1
  obtain ⟨c0, c1, c2, c3, c4, c5, c6, c7, rfl⟩ := len8 hwl
  have hv : sV s a 8 = sgn8 c0 c1 c2 c3 c4 c5 c6 c7 := by unfold sV; rw [osig8 hl hc hw]; rfl
  have b0 := u8lt c0; have b1 := u8lt c1; have b2 := u8lt c2; have b3 := u8lt c3
  have b4 := u8lt c4; have b5 := u8lt c5; have b6 := u8lt c6; have b7 := u8lt c7
  rw [hv]
  refine ⟨?_, by unfold sgn8 raw8; split <;> omega, by unfold sgn8 raw8; split <;> omega⟩
  unfold seg
  rw [hw]
  have e : ∃ q : Int, sgn8 c0 c1 c2 c3 c4 c5 c6 c7 = ((((((((c0.toNat : Int) * 256 + (c1.toNat : Int)) * 256 + (c2.toNat : Int)) * 256 + (c3.toNat : Int)) * 256 + (c4.toNat : Int)) * 256 + (c5.toNat : Int)) * 256 + (c6.toNat : Int)) * 256 + (c7.toNat : Int)) + q * 18446744073709551616 := by
    unfold sgn8 raw8
    split
    · exact ⟨-1, by omega⟩
    · exact ⟨0, by omega⟩
  obtain ⟨q, e⟩ := e
  rw [e]
  unfold by8 bytesOf
  simp only [List.map_cons, List.map_nil]
  rw [ub c0 _ (by omega), ub c1 _ (by omega), ub c2 _ (by omega), ub c3 _ (by omega), ub c4 _ (by omega), ub c5 _ (by omega), ub c6 _ (by omega), ub c7 _ (by omega)]

/-- What is read as a constant is that constant's encoding. -/
theorem back_one {s : List UInt8} {a : Int} (hl : big s) (h : tkE s a = 0) : 0 ≤ a ∧ a < tkN s a ∧ tkN s a ≤ (s.length : Int) ∧ oneS (tkC s a) = seg s a (tkN s a - a) := by
  unfold tkE at h
  by_cases h0 : code s a 1 = 0
  · rw [if_neg (by simpa using h0)] at h
    obtain ⟨g0, g1⟩ := code_ok (by decide) h0
    obtain ⟨t0, t1, t2⟩ := back1 hl h0
    change bytesOf (by1 (tg s a)) = _ at t0
    change 0 ≤ tg s a at t1
    change tg s a ≤ 255 at t2
    unfold tkC tkN
    generalize tg s a = t at *
    by_cases n1 : t = 1
    · rw [if_pos n1] at h
      rw [if_pos n1, if_pos n1]
      have hg : gOk s (a + 1) := by
        by_cases hg : gOk s (a + 1)
        · exact hg
        · rw [if_neg hg] at h; cases h
      obtain ⟨r0, r1⟩ := uV_range hl hg.1
      obtain ⟨q0, q1⟩ := code_ok (by decide) hg.1
      obtain ⟨q2, q3⟩ := code_ok r0 hg.2
      refine ⟨g0, by omega, by omega, ?_⟩
      have hS : ((gS s (a + 1)).length : Int) = uV s (a + 1) 2 := seg_len q2 r0 q3
      unfold oneS
      dsimp only
      rw [pS1 ⟨t1, t2⟩, if_pos n1]
      unfold strS
      rw [hS, if_neg (by omega), t0, back2 hl hg.1]
      show seg s a 1 ++ (seg s (a + 1) 2 ++ seg s (a + 1 + 2) (uV s (a + 1) 2)) = _
      rw [seg_app q0 (by decide) r0, seg_app g0 (by decide) (by omega)]
      congr 1; omega
    rw [if_neg n1] at h
    rw [if_neg n1, if_neg n1]
    by_cases n3 : t = 3
    · rw [if_pos n3] at h
      rw [if_pos n3, if_pos n3]
      have hc : code s (a + 1) 4 = 0 := by
        by_cases hc : code s (a + 1) 4 = 0
        · exact hc
        · rw [if_neg hc] at h; cases h
      obtain ⟨q0, q1⟩ := code_ok (by decide) hc
      obtain ⟨e1, e2, e3⟩ := back4 hl hc
      refine ⟨g0, by omega, by omega, ?_⟩
      unfold oneS
      dsimp only
      rw [pS1 ⟨t1, t2⟩, if_neg n1, if_pos n3, pS4 ⟨e2, e3⟩, t0, e1, seg_app g0 (by decide) (by decide)]
      congr 1; omega
    rw [if_neg n3] at h
    rw [if_neg n3, if_neg n3]
    by_cases n5 : t = 5
    · rw [if_pos n5] at h
      rw [if_pos n5, if_pos n5]
      have hc : code s (a + 1) 8 = 0 := by
        by_cases hc : code s (a + 1) 8 = 0
        · exact hc
        · rw [if_neg hc] at h; cases h
      obtain ⟨q0, q1⟩ := code_ok (by decide) hc
      obtain ⟨e1, -, -⟩ := back8 hl hc
      refine ⟨g0, by omega, by omega, ?_⟩
      unfold oneS
      dsimp only
      rw [pS1 ⟨t1, t2⟩, if_neg n1, if_neg n3, if_pos n5, pS8, t0, e1, seg_app g0 (by decide) (by decide)]
      congr 1; omega
    rw [if_neg n5] at h
    rw [if_neg n5, if_neg n5]
    by_cases n7 : t = 7 ∨ t = 8
    · rw [if_pos n7] at h
      rw [if_pos n7, if_pos n7]
      have hc : code s (a + 1) 2 = 0 := by
        by_cases hc : code s (a + 1) 2 = 0
        · exact hc
        · rw [if_neg hc] at h; cases h
      obtain ⟨q0, q1⟩ := code_ok (by decide) hc
      obtain ⟨r0, r1⟩ := uV_range hl hc
      refine ⟨g0, by omega, by omega, ?_⟩
      unfold oneS
      dsimp only
      rw [pS1 ⟨t1, t2⟩, if_neg n1, if_neg n3, if_neg n5, if_pos n7, pS2 ⟨r0, by omega⟩, t0, back2 hl hc, seg_app g0 (by decide) (by decide)]
      congr 1; omega
    rw [if_neg n7] at h
    rw [if_neg n7, if_neg n7]
    by_cases n9 : t = 9 ∨ t = 10 ∨ t = 11 ∨ t = 12
    · rw [if_pos n9] at h
      have hc : code s (a + 1) 2 = 0 := by
        by_cases hc : code s (a + 1) 2 = 0
        · exact hc
        · rw [if_neg hc] at h; cases h
      rw [if_pos hc] at h
      have hd : code s (a + 1 + 2) 2 = 0 := by
        by_cases hd : code s (a + 1 + 2) 2 = 0
        · exact hd
        · rw [if_neg hd] at h; cases h
      obtain ⟨q0, q1⟩ := code_ok (by decide) hc
      obtain ⟨q2, q3⟩ := code_ok (by decide) hd
      obtain ⟨r0, r1⟩ := uV_range hl hc
      obtain ⟨r2, r3⟩ := uV_range hl hd
      refine ⟨g0, by omega, by omega, ?_⟩
      unfold oneS
      dsimp only
      rw [pS1 ⟨t1, t2⟩, if_neg n1, if_neg n3, if_neg n5, if_neg n7, pS2 ⟨r0, by omega⟩, pS2 ⟨r2, by omega⟩, t0, back2 hl hc, back2 hl hd, seg_app q0 (by decide) (by decide), seg_app g0 (by decide) (by decide)]
      congr 1; omega
    · rw [if_neg n9] at h; cases h
  · rw [if_pos h0] at h; cases h

theorem back_all {s : List UInt8} (hl : big s) : ∀ (k : Nat) (a : Int), 0 ≤ a → a ≤ (s.length : Int) → pE s k a = 0 → a ≤ pA s k a ∧ pA s k a ≤ (s.length : Int) ∧ allS (pL s k a) = seg s a (pA s k a - a)
  | 0, a, h0, h1, _ => by
    refine ⟨Int.le_refl _, h1, ?_⟩
    show [] = seg s a (a - a)
    unfold seg; simp
  | k + 1, a, h0, h1, h => by
    unfold pE at h
    by_cases ht : tkE s a = 0
    · rw [if_pos ht] at h
      obtain ⟨q0, q1, q2, q3⟩ := back_one hl ht
      obtain ⟨r0, r1, r2⟩ := back_all hl k (tkN s a) (by omega) q2 h
      unfold pA pL
      refine ⟨by omega, r1, ?_⟩
      have e0 : allS (tkC s a :: pL s k (tkN s a)) = oneS (tkC s a) ++ allS (pL s k (tkN s a)) := rfl
      rw [e0, q3, r2]
      have := seg_app (s := s) (a := a) (n := tkN s a - a) (m := pA s k (tkN s a) - tkN s a) q0 (by omega) (by omega)
      rw [show a + (tkN s a - a) = tkN s a by omega] at this
      rw [this]
      congr 1; omega
    · rw [if_neg ht] at h; exact absurd h ht

theorem tk_small {s : List UInt8} (a : Int) : tkE s a = 0 → ((tkC s a).f_Tag ≠ 1 → (tkC s a).f_S = []) := by
  intro _ h
  unfold tkC at h ⊢
  by_cases n1 : tg s a = 1
  · rw [if_pos n1] at h; exact absurd n1 h
  · rw [if_neg n1]
    repeat' split
    all_goals rfl

end Go.Proofs
