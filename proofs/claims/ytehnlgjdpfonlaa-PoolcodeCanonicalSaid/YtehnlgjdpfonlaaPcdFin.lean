/-
  What a pool is that the check accepts, in this chapter's function numbers. Printed by ren.py. No condition.
-/
import Derived.Test.YtehnlgjdpfonlaaPcdNam
namespace Go.Proofs
open Go.Den
theorem addF_err {p : List T_api_Const} {c : T_api_Const} (h : (addF p c).2.2 ≠ 0) : 1000 ≤ p.length := by
  unfold addF at h
  split at h
  · exact absurd rfl h
  · split at h
    · assumption
    · exact absurd rfl h

/-- It stands first at this index. -/
def At1 (q : List T_api_Const) (c : T_api_Const) (i : Int) : Prop := ∃ k : Nat, i = (k : Int) + 1 ∧ idxC c q = some k

theorem idx_app : ∀ {q : List T_api_Const} {c : T_api_Const} {k : Nat} (r : List T_api_Const), idxC c q = some k → idxC c (q ++ r) = some k
  | [], _, _, _, h => by cases h
  | y :: q, c, k, r, h => by
    unfold idxC at h
    rw [List.cons_append]
    unfold idxC
    split at h
    · rename_i hy; rw [if_pos hy]; exact h
    · rename_i hy
      rw [if_neg hy]
      cases hi : idxC c q with
      | none => rw [hi] at h; cases h
      | some j => rw [hi] at h; rw [idx_app r hi]; exact h
theorem idx_new : ∀ {q : List T_api_Const} {c : T_api_Const}, idxC c q = none → idxC c (q ++ [c]) = some q.length
  | [], c, _ => by
    show (if eqb_T_api_Const c c = true then some 0 else _) = _
    rw [if_pos (eqC_refl c)]; rfl
  | y :: q, c, h => by
    unfold idxC at h
    rw [List.cons_append]
    unfold idxC
    split at h
    · cases h
    · rename_i hy
      rw [if_neg hy]
      cases hi : idxC c q with
      | some j => rw [hi] at h; cases h
      | none => rw [idx_new hi]; rfl
theorem At1.ext {q q' : List T_api_Const} {c : T_api_Const} {i : Int} (h : At1 q c i) (hp : q <+: q') : At1 q' c i := by
  obtain ⟨r, rfl⟩ := hp
  obtain ⟨k, h1, h2⟩ := h
  exact ⟨k, h1, idx_app r h2⟩
theorem At1.again {q : List T_api_Const} {c : T_api_Const} {i : Int} (h : At1 q c i) : addF q c = (q, i, 0) := by
  obtain ⟨k, rfl, h2⟩ := h
  unfold addF
  rw [h2]
theorem At1.at {q : List T_api_Const} {c : T_api_Const} {i : Int} (h : At1 q c i) : atF q i = (c, 0) := by
  obtain ⟨k, rfl, h2⟩ := h
  unfold atF
  rw [if_neg (by omega), show ((k : Int) + 1 - 1).toNat = k by omega, (idxC_some h2).1]
theorem add_ok {p q : List T_api_Const} {c : T_api_Const} {i : Int} (h : addF p c = (q, i, 0)) : At1 q c i ∧ p <+: q ∧ q.length ≤ p.length + 1 ∧ (∀ j, At1 p c j → q = p) := by
  unfold addF at h
  cases hi : idxC c p with
  | some k =>
    rw [hi] at h
    cases h
    exact ⟨⟨k, rfl, hi⟩, List.prefix_refl p, by omega, fun _ _ => rfl⟩
  | none =>
    rw [hi] at h
    dsimp only at h
    split at h
    · cases h
    · cases h
      refine ⟨⟨p.length, rfl, idx_new hi⟩, List.prefix_append p [c], by simp, fun j hj => ?_⟩
      obtain ⟨k, -, h2⟩ := hj
      rw [hi] at h2; cases h2

theorem get_at {q : List T_api_Const} {c : T_api_Const} {i tag : Int} (h : At1 q c i) (ht : c.f_Tag = tag) : getF q i tag = (c, 0) := by
  unfold getF
  rw [h.at]
  dsimp only
  rw [if_pos rfl, if_pos ht]
theorem utf_at {q : List T_api_Const} {s : List UInt8} {i : Int} (h : At1 q (uC s) i) : utfF q i = (s, 0) := by
  unfold utfF
  rw [get_at h (tag := 1) rfl]; rfl
theorem thr_at {q : List T_api_Const} {s : List UInt8} {i j tag : Int} (hu : At1 q (uC s) i) (h : At1 q (kC tag i 0) j) : thrF q j tag = (s, 0) := by
  unfold thrF
  rw [get_at h (tag := tag) rfl, if_pos rfl]
  exact utf_at hu
theorem nat_at {q : List T_api_Const} {s d : List UInt8} {i j k : Int} (h1 : At1 q (uC s) i) (h2 : At1 q (uC d) j) (h : At1 q (kC 12 i j) k) : natF q k = (s, d, 0) := by
  unfold natF
  rw [get_at h (tag := 12) rfl, if_pos rfl, show (kC 12 i j, (0 : Int)).1.f_A = i from rfl, show (kC 12 i j, (0 : Int)).1.f_B = j from rfl, utf_at h1, utf_at h2, if_pos rfl, if_pos rfl]

theorem named_rich (p : List T_api_Const) (tag : Int) (s : List UInt8) : ((namedF p tag s).2.2 ≠ 0 → 999 ≤ p.length) ∧
    ((namedF p tag s).2.2 = 0 → ∃ q1 i1, addF p (uC s) = (q1, i1, 0) ∧ addF q1 (kC tag i1 0) = namedF p tag s) := by
  have h1 := addF_len p (uC s)
  unfold namedF
  generalize ha1 : addF p (uC s) = a1
  rw [ha1] at h1
  obtain ⟨q1, i1, x1⟩ := a1
  dsimp only at h1 ⊢
  by_cases e1 : x1 = 0
  · subst e1
    rw [if_pos rfl]
    generalize ha2 : addF q1 (kC tag i1 0) = a2
    obtain ⟨q2, i2, x2⟩ := a2
    dsimp only
    by_cases e2 : x2 = 0
    · subst e2
      rw [if_pos rfl]
      exact ⟨fun h => absurd rfl h, fun _ => ⟨q1, i1, rfl, ha2⟩⟩
    · rw [if_neg e2]
      exact ⟨fun _ => by have := addF_err (p := q1) (by rw [ha2]; exact e2); omega, fun h => absurd h e2⟩
  · rw [if_neg e1]
    exact ⟨fun _ => by have := addF_err (p := p) (by rw [ha1]; exact e1); omega, fun h => absurd h e1⟩

/-- A constant that is well formed in its pool. -/
structure Fine (p : List T_api_Const) (c : T_api_Const) (a b : Int) : Prop where
  links : m_pool_links c.f_Tag = some (a, b, true)
  used : badU c a b = false
  short : c.f_Tag = 1 → c.f_S.length ≤ 1024
  word : c.f_Tag = 3 → IntKind.wrap .i32 c.f_N = c.f_N
  fst : a ≠ 0 → (getF p c.f_A a).2 = 0
  snd : b ≠ 0 → (getF p c.f_B b).2 = 0
  texts : m_pool_texts p c = some 0

theorem word64 {n : Int} (h : IntKind.wrap .i32 n = n) : IntKind.wrap .i64 n = n := by
  have h1 : -2147483648 ≤ n ∧ n ≤ 2147483647 := by
    unfold IntKind.wrap at h
    simp [IntKind.bits, IntKind.signed, Int.bmod] at h
    omega
  exact wrapP (by omega) (by omega)
theorem Fine.check {p : List T_api_Const} {c : T_api_Const} {a b : Int} (h : Fine p c a b) (hl : p.length ≤ 1000000) : m_pool_check p c = some 0 := by
  unfold m_pool_check
  rw [h.links]
  simp only [Option.bind_some, Bool.not_true, Bool.false_eq_true, if_false]
  rw [unused_pool, h.used, tail_pool p c a b true hl 0 h.texts, if_neg (c := a ≠ 0 ∧ (getF p c.f_A a).2 ≠ 0) (fun x => x.2 (h.fst x.1)), if_neg (c := b ≠ 0 ∧ (getF p c.f_B b).2 ≠ 0) (fun x => x.2 (h.snd x.1))]
  simp only [Option.bind_some, Bool.false_eq_true, if_false]
  by_cases h3 : c.f_Tag = 3
  · have hw := h.word h3
    rw [hw, word64 hw]
    simp [h3]
  · by_cases h1 : c.f_Tag = 1
    · have := h.short h1
      rw [if_pos (by simp [h1]), if_neg (by simp; omega), if_neg (by simp [h3])]
    · rw [if_neg (by simp [h1]), if_neg (by simp [h3])]

theorem getF_ne5 (p : List T_api_Const) (i t : Int) : (getF p i t).2 ≠ 5 := by
  rcases getF_err p i t with ⟨h, -, -⟩ | h | h <;> rw [h] <;> decide
theorem j58_ne5 {v : (List UInt8) × (List UInt8) × Int} {c : T_api_Const} {z : Bool} {e : Int} (h : j66x1 v c z = some e) : e ≠ 5 := by
  have h2 : ∀ {z e}, j66x2 z = some e → e ≠ 5 := fun {z e} h => by cases z <;> (cases h; decide)
  unfold j66x1 at h
  split at h
  · split at h
    · obtain ⟨_, -, h⟩ := Option.bind_eq_some_iff.1 h
      exact h2 h
    · exact h2 h
  · exact h2 h
theorem member_ne5 {p : List T_api_Const} {c : T_api_Const} {e : Int} (hl : p.length ≤ 1000000) (h : m_pool_member p c = some e) : e ≠ 5 := by
  unfold m_pool_member at h
  rw [nat_pool p _ hl] at h
  simp only [Option.bind_some] at h
  split at h
  · cases h; decide
  · obtain ⟨v, -, h⟩ := Option.bind_eq_some_iff.1 h
    repeat' (split at h)
    all_goals first
      | exact j58_ne5 h
      | (cases h; decide)
theorem texts_ne5 {p : List T_api_Const} {c : T_api_Const} {e : Int} (hl : p.length ≤ 1000000) (h : m_pool_texts p c = some e) : e ≠ 5 := by
  have hm : ∀ {e}, j45x2 p c = some e → e ≠ 5 := fun h => by
    unfold j45x2 at h
    obtain ⟨v, hv, h⟩ := Option.bind_eq_some_iff.1 h
    cases h
    exact member_ne5 hl hv
  unfold m_pool_texts j45x1 at h
  split at h
  · rw [utf_pool p _ hl] at h
    simp only [Option.bind_some] at h
    obtain ⟨v, -, h⟩ := Option.bind_eq_some_iff.1 h
    split at h <;> (cases h; decide)
  split at h
  · rw [utf_pool p _ hl, utf_pool p _ hl] at h
    simp only [Option.bind_some] at h
    obtain ⟨v, -, h⟩ := Option.bind_eq_some_iff.1 h
    split at h
    · cases h; decide
    obtain ⟨v, -, h⟩ := Option.bind_eq_some_iff.1 h
    obtain ⟨v, -, h⟩ := Option.bind_eq_some_iff.1 h
    repeat' (split at h)
    all_goals (cases h; decide)
  repeat' (split at h)
  all_goals first
    | exact hm h
    | (cases h; decide)

theorem texts_tot (p : List T_api_Const) (c : T_api_Const) (hp : shortP p) : ∃ e, m_pool_texts p c = some e := by
  have hl : p.length ≤ 1000000 := by have := hp.1; omega
  unfold m_pool_texts j45x1 j45x2
  have hm : memB c.f_Tag = true → ∃ e, m_pool_member p c = some e := fun h => by
    obtain ⟨e, e1, -⟩ := named_same p c hp h
    exact ⟨e, e1⟩
  split
  · have := utf_short hp c.f_A
    rw [utf_pool p _ hl]
    simp only [Option.bind_some]
    rw [pcc_desc _ (by omega)]
    simp only [Option.bind_some]
    split <;> exact ⟨_, rfl⟩
  split
  · have h1 := utf_short hp c.f_A
    have h2 := utf_short hp c.f_B
    obtain ⟨nb, n1, -⟩ := member_same (utfF p c.f_A).1 (by omega)
    obtain ⟨v, s1, -⟩ := descr_same (utfF p c.f_B).1 h2
    rw [utf_pool p _ hl, utf_pool p _ hl]
    simp only [Option.bind_some]
    rw [n1]
    simp only [Option.bind_some]
    rw [parse_desc _ (by omega), s1]
    simp only [Option.bind_some]
    repeat' split
    all_goals exact ⟨_, rfl⟩
  split
  · rename_i h
    obtain ⟨e, e1⟩ := hm (by unfold memB; simp [h])
    exact ⟨e, by rw [e1]; rfl⟩
  split
  · rename_i h
    obtain ⟨e, e1⟩ := hm (by unfold memB; simp [h])
    exact ⟨e, by rw [e1]; rfl⟩
  split
  · rename_i h
    obtain ⟨e, e1⟩ := hm (by unfold memB; simp [h])
    exact ⟨e, by rw [e1]; rfl⟩
  · exact ⟨_, rfl⟩

/-- What the check of a constant says. -/
theorem check_says {p : List T_api_Const} {c : T_api_Const} {v : Int} (hp : shortP p) (h : m_pool_check p c = some v) : v ≠ 5 ∧ (v = 0 → ∃ a b, Fine p c a b) ∧ (c.f_Tag = 1 → 1024 < c.f_S.length → v ≠ 0) := by
  have hl : p.length ≤ 1000000 := by have := hp.1; omega
  unfold m_pool_check at h
  obtain ⟨⟨a, b, f⟩, hk, h⟩ := Option.bind_eq_some_iff.1 h
  cases f with
  | false => cases h; exact ⟨by decide, fun h => absurd h (by decide), fun _ _ => by decide⟩
  | true =>
    simp only [Bool.not_true, Bool.false_eq_true, if_false, unused_pool, Option.bind_some] at h
    cases hu : badU c a b with
    | true => rw [hu] at h; cases h; exact ⟨by decide, fun h => absurd h (by decide), fun _ _ => by decide⟩
    | false =>
      rw [hu] at h
      simp only [Bool.false_eq_true, if_false] at h
      have tail : (c.f_Tag = 1 → c.f_S.length ≤ 1024) → (c.f_Tag = 3 → IntKind.wrap .i32 c.f_N = c.f_N) → j27x1 (a, b, true) p c = some v → v ≠ 5 ∧ (v = 0 → ∃ a b, Fine p c a b) ∧ (c.f_Tag = 1 → 1024 < c.f_S.length → v ≠ 0) := fun s1 s3 h => by
        have ht : ∃ e, m_pool_texts p c = some e := texts_tot p c hp
        obtain ⟨e, ht⟩ := ht
        rw [tail_pool p c a b true hl e ht] at h
        cases h
        refine ⟨?_, ?_, fun t1 t2 => absurd (s1 t1) (by omega)⟩
        · have := getF_ne5 p c.f_A a
          have := getF_ne5 p c.f_B b
          have := texts_ne5 hl ht
          repeat' split
          all_goals assumption
        · intro hv
          split at hv
          · rename_i hh; exact absurd hv hh.2
          · split at hv
            · rename_i hh; exact absurd hv hh.2
            · rename_i h1 h2
              refine ⟨a, b, hk, hu, s1, s3, fun h => ?_, fun h => ?_, by rw [ht, hv]⟩
              · exact Classical.byContradiction fun h' => h1 ⟨h, h'⟩
              · exact Classical.byContradiction fun h' => h2 ⟨h, h'⟩
      by_cases t1 : c.f_Tag = 1
      · rw [if_pos (by simp [t1])] at h
        by_cases t2 : (c.f_S.length : Int) > 1024
        · rw [if_pos (decide_eq_true t2)] at h
          cases h
          exact ⟨by decide, fun h => absurd h (by decide), fun _ _ => by decide⟩
        · rw [if_neg (by simpa using t2), if_neg (by simp [t1])] at h
          exact tail (fun _ => by omega) (fun h => by omega) h
      · rw [if_neg (by simp [t1])] at h
        by_cases t3 : c.f_Tag = 3
        · rw [if_pos (by simp [t3])] at h
          by_cases hw : IntKind.wrap .i64 (IntKind.wrap .i32 c.f_N) = c.f_N
          · rw [if_neg (by simpa using hw)] at h
            refine tail (fun h => absurd h t1) (fun _ => ?_) h
            rw [wrapP] at hw
            · exact hw
            all_goals
              unfold IntKind.wrap
              simp [IntKind.bits, IntKind.signed, Int.bmod]
              omega
          · rw [if_pos (by simpa using hw)] at h
            cases h
            exact ⟨by decide, fun h => absurd h (by decide), fun h => absurd h t1⟩
        · rw [if_neg (by simp [t3])] at h
          exact tail (fun h => absurd h t1) (fun h => absurd h t3) h

/-! ### What stays when the pool grows -/

theorem at_pre {p q : List T_api_Const} {i : Int} (h : p <+: q) (he : (atF p i).2 = 0) : atF q i = atF p i := by
  obtain ⟨r, rfl⟩ := h
  unfold atF at he ⊢
  split at he
  · cases he
  · rename_i h1
    split at he
    · rename_i c hc
      rw [if_neg h1, if_neg h1, List.getElem?_append_left (by rcases Nat.lt_or_ge (i - 1).toNat p.length with h | h; exact h; rw [List.getElem?_eq_none h] at hc; cases hc), hc]
    · cases he
theorem get_pre {p q : List T_api_Const} {i t : Int} (h : p <+: q) (he : (getF p i t).2 = 0) : getF q i t = getF p i t := by
  rcases getF_err p i t with ⟨h1, h2, h3⟩ | h1 | h1
  · have ha : (atF p i).2 = 0 := by rw [← h2]; exact h1
    have := at_pre h ha
    unfold getF
    rw [this]
  · rw [h1] at he; cases he
  · rw [h1] at he; cases he
theorem utf_pre {p q : List T_api_Const} {i : Int} (h : p <+: q) (he : (getF p i 1).2 = 0) : utfF q i = utfF p i := by
  unfold utfF; rw [get_pre h he]

theorem get_mem {p : List T_api_Const} {i t : Int} (he : (getF p i t).2 = 0) : (getF p i t).1 ∈ p ∧ (getF p i t).1.f_Tag = t := by
  rcases getF_err p i t with ⟨h1, h2, h3⟩ | h1 | h1
  · rw [h2]
    refine ⟨?_, h3⟩
    have ha : (atF p i).2 = 0 := by rw [← h2]; exact h1
    unfold atF at ha ⊢
    split at ha
    · cases ha
    · rename_i h1
      rw [if_neg h1]
      split at ha
      · rename_i c hc
        exact List.mem_of_getElem? hc
      · cases ha
  · rw [h1] at he; cases he
  · rw [h1] at he; cases he

/-- A pool all of whose constants are well formed. -/
def Sound (p : List T_api_Const) : Prop := ∀ c ∈ p, ∃ a b, Fine p c a b

theorem nat_sound {p : List T_api_Const} {i : Int} (hs : Sound p) (he : (getF p i 12).2 = 0) : (getF p (getF p i 12).1.f_A 1).2 = 0 ∧ (getF p (getF p i 12).1.f_B 1).2 = 0 := by
  obtain ⟨h1, h2⟩ := get_mem he
  obtain ⟨a, b, hf⟩ := hs _ h1
  have hk := hf.links
  rw [h2] at hk
  obtain ⟨rfl, rfl⟩ : (1 : Int) = a ∧ (1 : Int) = b := by
    have : m_pool_links 12 = some (1, 1, true) := rfl
    rw [this] at hk
    simpa using hk
  exact ⟨hf.fst (by decide), hf.snd (by decide)⟩
theorem nat_val {p : List T_api_Const} {i : Int} (hs : Sound p) (he : (getF p i 12).2 = 0) : natF p i = ((utfF p (getF p i 12).1.f_A).1, (utfF p (getF p i 12).1.f_B).1, 0) := by
  obtain ⟨h1, h2⟩ := nat_sound hs he
  have h3 : (utfF p (getF p i 12).1.f_A).2 = 0 := h1
  have h4 : (utfF p (getF p i 12).1.f_B).2 = 0 := h2
  unfold natF
  rw [if_pos he, if_pos h3, if_pos h4]
theorem nat_pre {p q : List T_api_Const} {i : Int} (hs : Sound p) (h : p <+: q) (he : (getF p i 12).2 = 0) : natF q i = natF p i := by
  obtain ⟨h1, h2⟩ := nat_sound hs he
  unfold natF
  rw [get_pre h he, utf_pre h h1, utf_pre h h2]

theorem links_cases {t a b : Int} (h : m_pool_links t = some (a, b, true)) : ((t = 1 ∨ t = 3 ∨ t = 5) ∧ a = 0 ∧ b = 0) ∨ ((t = 7 ∨ t = 8) ∧ a = 1 ∧ b = 0) ∨ (t = 12 ∧ a = 1 ∧ b = 1) ∨ ((t = 9 ∨ t = 10 ∨ t = 11) ∧ a = 7 ∧ b = 12) := by
  unfold m_pool_links j42x1 j42x2 j42x3 j42x4 j42x5 at h
  repeat' (split at h)
  all_goals
    simp only [Option.some.injEq, Prod.mk.injEq, Bool.false_eq_true, and_false, and_true] at h
    try (rename_i hh; simp only [beq_iff_eq] at hh; omega)

theorem texts_pre {p q : List T_api_Const} {c : T_api_Const} {a b : Int} (hl : p.length ≤ 1000000) (hq : q.length ≤ 1000000) (hs : Sound p) (h : p <+: q) (hf : Fine p c a b) : m_pool_texts q c = m_pool_texts p c := by
  unfold m_pool_texts j45x1 j45x2 m_pool_member
  rcases links_cases hf.links with ⟨ht, rfl, rfl⟩ | ⟨ht, rfl, rfl⟩ | ⟨ht, rfl, rfl⟩ | ⟨ht, rfl, rfl⟩
  · rcases ht with ht | ht | ht <;> rw [ht] <;> rfl
  · rw [utf_pool q _ hq, utf_pool p _ hl, utf_pre h (hf.fst (by decide))]
    rcases ht with ht | ht <;> rw [ht] <;> rfl
  · rw [utf_pool q _ hq, utf_pool p _ hl, utf_pool q _ hq, utf_pool p _ hl, utf_pre h (hf.fst (by decide)), utf_pre h (hf.snd (by decide))]
    rw [ht]; rfl
  · rw [nat_pool q _ hq, nat_pool p _ hl, nat_pre hs h (hf.snd (by decide))]
    rcases ht with ht | ht | ht <;> rw [ht] <;> rfl

theorem Fine.pre {p q : List T_api_Const} {c : T_api_Const} {a b : Int} (hl : p.length ≤ 1000000) (hq : q.length ≤ 1000000) (hs : Sound p) (h : p <+: q) (hf : Fine p c a b) : Fine q c a b :=
  ⟨hf.links, hf.used, hf.short, hf.word, fun x => by rw [get_pre h (hf.fst x)]; exact hf.fst x, fun x => by rw [get_pre h (hf.snd x)]; exact hf.snd x, by rw [texts_pre hl hq hs h hf]; exact hf.texts⟩

/-- What Check answers. -/
theorem Check_says (p : List T_api_Const) (hp : shortP p) (hl : p.length ≤ 1000) : ∃ v, m_pool_Check p = some v ∧ ((v = (0, 0) ∧ Sound p) ∨ ∃ (k : Nat) (e : Int) (hk : k < p.length), v = ((k : Int) + 1, e) ∧ e ≠ 0 ∧ m_pool_check p p[k] = some e) := by
  unfold m_pool_Check
  rw [if_neg (by simp; omega)]
  obtain ⟨r, h1, h2⟩ := loopM_ind (f := l15x1 p) (fun q : Int => ∃ k : Nat, k ≤ p.length ∧ q = (k : Int) ∧ ∀ (j : Nat) (hj : j < p.length), j < k → m_pool_check p p[j] = some 0) (fun q => p.length - q.toNat)
    (fun r : Unit ⊕ (Int × Int) => match r with
      | .inl _ => Sound p
      | .inr v => ∃ (k : Nat) (e : Int) (hk : k < p.length), v = ((k : Int) + 1, e) ∧ e ≠ 0 ∧ m_pool_check p p[k] = some e) (by
      rintro q ⟨k, hk, rfl, hall⟩
      unfold l15x1
      by_cases hlt : k < p.length
      · rw [if_pos (decide_eq_true (by omega)), getRP (List.getElem?_eq_getElem hlt)]
        simp only [Option.bind_some]
        obtain ⟨e, e1, e2⟩ := check_same p p[k] hp
        rw [e1, wrapP (by omega) (by omega)]
        simp only [Option.bind_some]
        by_cases he : e = 0
        · subst he
          rw [if_neg (by decide)]
          refine ⟨_, rfl, ⟨k + 1, by omega, by simp, fun j hj hjk => ?_⟩, by omega⟩
          rcases Nat.lt_or_ge j k with h | h
          · exact hall j hj h
          · obtain rfl : j = k := by omega
            exact e1
        · rw [if_pos (by simpa using he)]
          exact ⟨_, rfl, k, e, hlt, rfl, he, e1⟩
      · rw [if_neg (by simp; omega)]
        refine ⟨_, rfl, fun c hc => ?_⟩
        obtain ⟨j, hj, rfl⟩ := List.getElem_of_mem hc
        exact (check_says hp (hall j hj (by omega))).2.1 rfl) rounds 0 ⟨0, by omega, rfl, fun j _ h => absurd h (by omega)⟩ (by show p.length - (0 : Int).toNat < 18446744073709551616; omega)
  rw [h1]
  simp only [Option.bind_some]
  cases r with
  | inl u => exact ⟨_, rfl, .inl ⟨rfl, h2⟩⟩
  | inr v => exact ⟨_, rfl, .inr h2⟩

end Go.Proofs
