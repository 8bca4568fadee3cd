/-
  What a pool that passes the check answers, and what stays when it grows. No condition.
-/
import Derived.Test.YtcppeincgkalbaaPooLaw6
import Derived.Test.YtcppeincgkalbaaPooLaw3
namespace Go.Proofs
open Go.Den

/-- A constant that is well formed in its pool. -/
structure Fine (p : List T_api_Const) (c : T_api_Const) (a b : Int) : Prop where
  links : m_pool_links c.f_Tag = some (a, b, true)
  used : badU c a b = false
  short : c.f_Tag = 1 → c.f_S.length ≤ 1024
  word : c.f_Tag = 3 → IntKind.wrap .i32 c.f_N = c.f_N
  fst : a ≠ 0 → (getF p c.f_A a).2 = 0
  snd : b ≠ 0 → (getF p c.f_B b).2 = 0
  texts : m_pool_texts p c = some 0

theorem word64 {n : Int} (h : IntKind.wrap .i32 n = n) : IntKind.wrap .i64 n = n := by
  have h1 : -2147483648 ≤ n ∧ n ≤ 2147483647 := by
    unfold IntKind.wrap at h
    simp [IntKind.bits, IntKind.signed, Int.bmod] at h
    omega
  exact wrapP (by omega) (by omega)
theorem Fine.check {p : List T_api_Const} {c : T_api_Const} {a b : Int} (h : Fine p c a b) (hl : p.length ≤ 1000000) : m_pool_check p c = some 0 := by
  unfold m_pool_check
  rw [h.links]
  simp only [Option.bind_some, Bool.not_true, Bool.false_eq_true, if_false]
  rw [unused_pool, h.used, tail_pool p c a b true hl 0 h.texts, if_neg (c := a ≠ 0 ∧ (getF p c.f_A a).2 ≠ 0) (fun x => x.2 (h.fst x.1)), if_neg (c := b ≠ 0 ∧ (getF p c.f_B b).2 ≠ 0) (fun x => x.2 (h.snd x.1))]
  simp only [Option.bind_some, Bool.false_eq_true, if_false]
  by_cases h3 : c.f_Tag = 3
  · have hw := h.word h3
    rw [hw, word64 hw]
    simp [h3]
  · by_cases h1 : c.f_Tag = 1
    · have := h.short h1
      rw [if_pos (by simp [h1]), if_neg (by simp; omega), if_neg (by simp [h3])]
    · rw [if_neg (by simp [h1]), if_neg (by simp [h3])]

theorem getF_ne5 (p : List T_api_Const) (i t : Int) : (getF p i t).2 ≠ 5 := by
  rcases getF_err p i t with ⟨h, -, -⟩ | h | h <;> rw [h] <;> decide
theorem j58_ne5 {v : (List UInt8) × (List UInt8) × Int} {c : T_api_Const} {z : Bool} {e : Int} (h : j58x1 v c z = some e) : e ≠ 5 := by
  have h2 : ∀ {z e}, j58x2 z = some e → e ≠ 5 := fun {z e} h => by cases z <;> (cases h; decide)
  unfold j58x1 at h
  split at h
  · split at h
    · obtain ⟨_, -, h⟩ := Option.bind_eq_some_iff.1 h
      exact h2 h
    · exact h2 h
  · exact h2 h
theorem member_ne5 {p : List T_api_Const} {c : T_api_Const} {e : Int} (hl : p.length ≤ 1000000) (h : m_pool_member p c = some e) : e ≠ 5 := by
  unfold m_pool_member at h
  rw [nat_pool p _ hl] at h
  simp only [Option.bind_some] at h
  split at h
  · cases h; decide
  · obtain ⟨v, -, h⟩ := Option.bind_eq_some_iff.1 h
    repeat' (split at h)
    all_goals first
      | exact j58_ne5 h
      | (cases h; decide)
theorem texts_ne5 {p : List T_api_Const} {c : T_api_Const} {e : Int} (hl : p.length ≤ 1000000) (h : m_pool_texts p c = some e) : e ≠ 5 := by
  have hm : ∀ {e}, j49x2 p c = some e → e ≠ 5 := fun h => by
    unfold j49x2 at h
    obtain ⟨v, hv, h⟩ := Option.bind_eq_some_iff.1 h
    cases h
    exact member_ne5 hl hv
  unfold m_pool_texts j49x1 at h
  split at h
  · rw [utf_pool p _ hl] at h
    simp only [Option.bind_some] at h
    obtain ⟨v, -, h⟩ := Option.bind_eq_some_iff.1 h
    split at h <;> (cases h; decide)
  split at h
  · rw [utf_pool p _ hl, utf_pool p _ hl] at h
    simp only [Option.bind_some] at h
    obtain ⟨v, -, h⟩ := Option.bind_eq_some_iff.1 h
    split at h
    · cases h; decide
    obtain ⟨v, -, h⟩ := Option.bind_eq_some_iff.1 h
    obtain ⟨v, -, h⟩ := Option.bind_eq_some_iff.1 h
    repeat' (split at h)
    all_goals (cases h; decide)
  repeat' (split at h)
  all_goals first
    | exact hm h
    | (cases h; decide)

theorem texts_tot (p : List T_api_Const) (c : T_api_Const) (hp : shortP p) : ∃ e, m_pool_texts p c = some e := by
  have hl : p.length ≤ 1000000 := by have := hp.1; omega
  unfold m_pool_texts j49x1 j49x2
  have hm : memB c.f_Tag = true → ∃ e, m_pool_member p c = some e := fun h => by
    obtain ⟨e, e1, -⟩ := named_same p c hp h
    exact ⟨e, e1⟩
  split
  · have := utf_short hp c.f_A
    rw [utf_pool p _ hl]
    simp only [Option.bind_some]
    rw [pcc_desc _ (by omega)]
    simp only [Option.bind_some]
    split <;> exact ⟨_, rfl⟩
  split
  · have h1 := utf_short hp c.f_A
    have h2 := utf_short hp c.f_B
    obtain ⟨nb, n1, -⟩ := member_same (utfF p c.f_A).1 (by omega)
    obtain ⟨v, s1, -⟩ := descr_same (utfF p c.f_B).1 h2
    rw [utf_pool p _ hl, utf_pool p _ hl]
    simp only [Option.bind_some]
    rw [n1]
    simp only [Option.bind_some]
    rw [parse_desc _ (by omega), s1]
    simp only [Option.bind_some]
    repeat' split
    all_goals exact ⟨_, rfl⟩
  split
  · rename_i h
    obtain ⟨e, e1⟩ := hm (by unfold memB; simp [h])
    exact ⟨e, by rw [e1]; rfl⟩
  split
  · rename_i h
    obtain ⟨e, e1⟩ := hm (by unfold memB; simp [h])
    exact ⟨e, by rw [e1]; rfl⟩
  split
  · rename_i h
    obtain ⟨e, e1⟩ := hm (by unfold memB; simp [h])
    exact ⟨e, by rw [e1]; rfl⟩
  · exact ⟨_, rfl⟩

/-- What the check of a constant says. -/
theorem check_says {p : List T_api_Const} {c : T_api_Const} {v : Int} (hp : shortP p) (h : m_pool_check p c = some v) : v ≠ 5 ∧ (v = 0 → ∃ a b, Fine p c a b) ∧ (c.f_Tag = 1 → 1024 < c.f_S.length → v ≠ 0) := by
  have hl : p.length ≤ 1000000 := by have := hp.1; omega
  unfold m_pool_check at h
  obtain ⟨⟨a, b, f⟩, hk, h⟩ := Option.bind_eq_some_iff.1 h
  cases f with
  | false => cases h; exact ⟨by decide, fun h => absurd h (by decide), fun _ _ => by decide⟩
  | true =>
    simp only [Bool.not_true, Bool.false_eq_true, if_false, unused_pool, Option.bind_some] at h
    cases hu : badU c a b with
    | true => rw [hu] at h; cases h; exact ⟨by decide, fun h => absurd h (by decide), fun _ _ => by decide⟩
    | false =>
      rw [hu] at h
      simp only [Bool.false_eq_true, if_false] at h
      have tail : (c.f_Tag = 1 → c.f_S.length ≤ 1024) → (c.f_Tag = 3 → IntKind.wrap .i32 c.f_N = c.f_N) → j36x1 (a, b, true) p c = some v → v ≠ 5 ∧ (v = 0 → ∃ a b, Fine p c a b) ∧ (c.f_Tag = 1 → 1024 < c.f_S.length → v ≠ 0) := fun s1 s3 h => by
        have ht : ∃ e, m_pool_texts p c = some e := texts_tot p c hp
        obtain ⟨e, ht⟩ := ht
        rw [tail_pool p c a b true hl e ht] at h
        cases h
        refine ⟨?_, ?_, fun t1 t2 => absurd (s1 t1) (by omega)⟩
        · have := getF_ne5 p c.f_A a
          have := getF_ne5 p c.f_B b
          have := texts_ne5 hl ht
          repeat' split
          all_goals assumption
        · intro hv
          split at hv
          · rename_i hh; exact absurd hv hh.2
          · split at hv
            · rename_i hh; exact absurd hv hh.2
            · rename_i h1 h2
              refine ⟨a, b, hk, hu, s1, s3, fun h => ?_, fun h => ?_, by rw [ht, hv]⟩
              · exact Classical.byContradiction fun h' => h1 ⟨h, h'⟩
              · exact Classical.byContradiction fun h' => h2 ⟨h, h'⟩
      by_cases t1 : c.f_Tag = 1
      · rw [if_pos (by simp [t1])] at h
        by_cases t2 : (c.f_S.length : Int) > 1024
        · rw [if_pos (decide_eq_true t2)] at h
          cases h
          exact ⟨by decide, fun h => absurd h (by decide), fun _ _ => by decide⟩
        · rw [if_neg (by simpa using t2), if_neg (by simp [t1])] at h
          exact tail (fun _ => by omega) (fun h => by omega) h
      · rw [if_neg (by simp [t1])] at h
        by_cases t3 : c.f_Tag = 3
        · rw [if_pos (by simp [t3])] at h
          by_cases hw : IntKind.wrap .i64 (IntKind.wrap .i32 c.f_N) = c.f_N
          · rw [if_neg (by simpa using hw)] at h
            refine tail (fun h => absurd h t1) (fun _ => ?_) h
            rw [wrapP] at hw
            · exact hw
            all_goals
              unfold IntKind.wrap
              simp [IntKind.bits, IntKind.signed, Int.bmod]
              omega
          · rw [if_pos (by simpa using hw)] at h
            cases h
            exact ⟨by decide, fun h => absurd h (by decide), fun h => absurd h t1⟩
        · rw [if_neg (by simp [t3])] at h
          exact tail (fun h => absurd h t1) (fun h => absurd h t3) h

/-! ### What stays when the pool grows -/

theorem at_pre {p q : List T_api_Const} {i : Int} (h : p <+: q) (he : (atF p i).2 = 0) : atF q i = atF p i := by
  obtain ⟨r, rfl⟩ := h
  unfold atF at he ⊢
  split at he
  · cases he
  · rename_i h1
    split at he
    · rename_i c hc
      rw [if_neg h1, if_neg h1, List.getElem?_append_left (by rcases Nat.lt_or_ge (i - 1).toNat p.length with h | h; exact h; rw [List.getElem?_eq_none h] at hc; cases hc), hc]
    · cases he
theorem get_pre {p q : List T_api_Const} {i t : Int} (h : p <+: q) (he : (getF p i t).2 = 0) : getF q i t = getF p i t := by
  rcases getF_err p i t with ⟨h1, h2, h3⟩ | h1 | h1
  · have ha : (atF p i).2 = 0 := by rw [← h2]; exact h1
    have := at_pre h ha
    unfold getF
    rw [this]
  · rw [h1] at he; cases he
  · rw [h1] at he; cases he
theorem utf_pre {p q : List T_api_Const} {i : Int} (h : p <+: q) (he : (getF p i 1).2 = 0) : utfF q i = utfF p i := by
  unfold utfF; rw [get_pre h he]

theorem get_mem {p : List T_api_Const} {i t : Int} (he : (getF p i t).2 = 0) : (getF p i t).1 ∈ p ∧ (getF p i t).1.f_Tag = t := by
  rcases getF_err p i t with ⟨h1, h2, h3⟩ | h1 | h1
  · rw [h2]
    refine ⟨?_, h3⟩
    have ha : (atF p i).2 = 0 := by rw [← h2]; exact h1
    unfold atF at ha ⊢
    split at ha
    · cases ha
    · rename_i h1
      rw [if_neg h1]
      split at ha
      · rename_i c hc
        exact List.mem_of_getElem? hc
      · cases ha
  · rw [h1] at he; cases he
  · rw [h1] at he; cases he

/-- A pool all of whose constants are well formed. -/
def Sound (p : List T_api_Const) : Prop := ∀ c ∈ p, ∃ a b, Fine p c a b

theorem nat_sound {p : List T_api_Const} {i : Int} (hs : Sound p) (he : (getF p i 12).2 = 0) : (getF p (getF p i 12).1.f_A 1).2 = 0 ∧ (getF p (getF p i 12).1.f_B 1).2 = 0 := by
  obtain ⟨h1, h2⟩ := get_mem he
  obtain ⟨a, b, hf⟩ := hs _ h1
  have hk := hf.links
  rw [h2] at hk
  obtain ⟨rfl, rfl⟩ : (1 : Int) = a ∧ (1 : Int) = b := by
    have : m_pool_links 12 = some (1, 1, true) := rfl
    rw [this] at hk
    simpa using hk
  exact ⟨hf.fst (by decide), hf.snd (by decide)⟩
theorem nat_val {p : List T_api_Const} {i : Int} (hs : Sound p) (he : (getF p i 12).2 = 0) : natF p i = ((utfF p (getF p i 12).1.f_A).1, (utfF p (getF p i 12).1.f_B).1, 0) := by
  obtain ⟨h1, h2⟩ := nat_sound hs he
  have h3 : (utfF p (getF p i 12).1.f_A).2 = 0 := h1
  have h4 : (utfF p (getF p i 12).1.f_B).2 = 0 := h2
  unfold natF
  rw [if_pos he, if_pos h3, if_pos h4]
theorem nat_pre {p q : List T_api_Const} {i : Int} (hs : Sound p) (h : p <+: q) (he : (getF p i 12).2 = 0) : natF q i = natF p i := by
  obtain ⟨h1, h2⟩ := nat_sound hs he
  unfold natF
  rw [get_pre h he, utf_pre h h1, utf_pre h h2]

theorem links_cases {t a b : Int} (h : m_pool_links t = some (a, b, true)) : ((t = 1 ∨ t = 3 ∨ t = 5) ∧ a = 0 ∧ b = 0) ∨ ((t = 7 ∨ t = 8) ∧ a = 1 ∧ b = 0) ∨ (t = 12 ∧ a = 1 ∧ b = 1) ∨ ((t = 9 ∨ t = 10 ∨ t = 11) ∧ a = 7 ∧ b = 12) := by
  unfold m_pool_links j47x1 j47x2 j47x3 j47x4 j47x5 at h
  repeat' (split at h)
  all_goals
    simp only [Option.some.injEq, Prod.mk.injEq, Bool.false_eq_true, and_false, and_true] at h
    try (rename_i hh; simp only [beq_iff_eq] at hh; omega)

theorem texts_pre {p q : List T_api_Const} {c : T_api_Const} {a b : Int} (hl : p.length ≤ 1000000) (hq : q.length ≤ 1000000) (hs : Sound p) (h : p <+: q) (hf : Fine p c a b) : m_pool_texts q c = m_pool_texts p c := by
  unfold m_pool_texts j49x1 j49x2 m_pool_member
  rcases links_cases hf.links with ⟨ht, rfl, rfl⟩ | ⟨ht, rfl, rfl⟩ | ⟨ht, rfl, rfl⟩ | ⟨ht, rfl, rfl⟩
  · rcases ht with ht | ht | ht <;> rw [ht] <;> rfl
  · rw [utf_pool q _ hq, utf_pool p _ hl, utf_pre h (hf.fst (by decide))]
    rcases ht with ht | ht <;> rw [ht] <;> rfl
  · rw [utf_pool q _ hq, utf_pool p _ hl, utf_pool q _ hq, utf_pool p _ hl, utf_pre h (hf.fst (by decide)), utf_pre h (hf.snd (by decide))]
    rw [ht]; rfl
  · rw [nat_pool q _ hq, nat_pool p _ hl, nat_pre hs h (hf.snd (by decide))]
    rcases ht with ht | ht | ht <;> rw [ht] <;> rfl

theorem Fine.pre {p q : List T_api_Const} {c : T_api_Const} {a b : Int} (hl : p.length ≤ 1000000) (hq : q.length ≤ 1000000) (hs : Sound p) (h : p <+: q) (hf : Fine p c a b) : Fine q c a b :=
  ⟨hf.links, hf.used, hf.short, hf.word, fun x => by rw [get_pre h (hf.fst x)]; exact hf.fst x, fun x => by rw [get_pre h (hf.snd x)]; exact hf.snd x, by rw [texts_pre hl hq hs h hf]; exact hf.texts⟩

/-- Everything in a sound pool can be read. -/
theorem asked_sound (p : List T_api_Const) (hl : p.length ≤ 1000000) (hs : Sound p) (k : Nat) (hk : k < p.length) : m_armaturelaw05_asked p ((k : Int) + 1) = some true := by
  have hat : atF p ((k : Int) + 1) = (p[k], 0) := by
    unfold atF
    rw [if_neg (by omega)]
    have e : ((k : Int) + 1 - 1).toNat = k := by omega
    rw [e, List.getElem?_eq_getElem hk]
  obtain ⟨a, b, hf⟩ := hs p[k] (List.getElem_mem hk)
  have hget : ∀ t, p[k].f_Tag = t → getF p ((k : Int) + 1) t = (p[k], 0) := fun t ht => by
    unfold getF
    rw [hat]
    dsimp only
    rw [if_pos rfl, if_pos ht]
  unfold m_armaturelaw05_asked j28x1 j28x2
  rw [at_pool p _ hl, hat]
  simp only [Option.bind_some, bne_self_eq_false, Bool.false_eq_true, if_false]
  rw [utf_pool p _ hl, cls_pool p _ hl, str_pool p _ hl, nat_pool p _ hl, ref_pool p _ _ hl]
  rcases links_cases hf.links with ⟨ht, rfl, rfl⟩ | ⟨ht, rfl, rfl⟩ | ⟨ht, rfl, rfl⟩ | ⟨ht, rfl, rfl⟩
  · rcases ht with ht | ht | ht
    · unfold utfF
      rw [hget 1 ht, ht]; rfl
    · rw [ht]; rfl
    · rw [ht]; rfl
  · have h1 := hf.fst (by decide)
    have h2 : (utfF p p[k].f_A).2 = 0 := h1
    rcases ht with ht | ht
    · have h3 : thrF p ((k : Int) + 1) 7 = utfF p p[k].f_A := by unfold thrF; rw [hget 7 ht]; rfl
      rw [h3, ht]
      simp [h2]
    · have h3 : thrF p ((k : Int) + 1) 8 = utfF p p[k].f_A := by unfold thrF; rw [hget 8 ht]; rfl
      rw [h3, ht]
      simp [h2]
  · have h3 : (getF p ((k : Int) + 1) 12).2 = 0 := by rw [hget 12 ht]
    rw [nat_val hs h3, ht]
    rfl
  · have h1 := hf.fst (by decide)
    have h2 := hf.snd (by decide)
    have hn := nat_val hs h2
    obtain ⟨hm, hmt⟩ := get_mem h1
    obtain ⟨a', b', hf'⟩ := hs _ hm
    have hk' := hf'.links
    rw [hmt] at hk'
    obtain ⟨rfl, rfl⟩ : (1 : Int) = a' ∧ (0 : Int) = b' := by
      have : m_pool_links 7 = some (1, 0, true) := rfl
      rw [this] at hk'
      simpa using hk'
    have h4 : (thrF p p[k].f_A 7).2 = 0 := by
      unfold thrF
      rw [if_pos h1]
      exact hf'.fst (by decide)
    have h5 : (refF p ((k : Int) + 1) p[k].f_Tag).2 = 0 := by
      unfold refF
      rw [hat]
      dsimp only
      rw [if_pos rfl, if_pos ⟨by unfold memB; rcases ht with ht | ht | ht <;> rw [ht] <;> rfl, rfl⟩, if_pos h4, hn]
      rfl
    rcases ht with ht | ht | ht <;> rw [ht] at h5 <;> simp [ht, h5]

/-- What Check answers. -/
theorem Check_says (p : List T_api_Const) (hp : shortP p) (hl : p.length ≤ 1000) : ∃ v, m_pool_Check p = some v ∧ ((v = (0, 0) ∧ Sound p) ∨ ∃ (k : Nat) (e : Int) (hk : k < p.length), v = ((k : Int) + 1, e) ∧ e ≠ 0 ∧ m_pool_check p p[k] = some e) := by
  unfold m_pool_Check
  rw [if_neg (by simp; omega)]
  obtain ⟨r, h1, h2⟩ := loopM_ind (f := l9x1 p) (fun q : Int => ∃ k : Nat, k ≤ p.length ∧ q = (k : Int) ∧ ∀ (j : Nat) (hj : j < p.length), j < k → m_pool_check p p[j] = some 0) (fun q => p.length - q.toNat)
    (fun r : Unit ⊕ (Int × Int) => match r with
      | .inl _ => Sound p
      | .inr v => ∃ (k : Nat) (e : Int) (hk : k < p.length), v = ((k : Int) + 1, e) ∧ e ≠ 0 ∧ m_pool_check p p[k] = some e) (by
      rintro q ⟨k, hk, rfl, hall⟩
      unfold l9x1
      by_cases hlt : k < p.length
      · rw [if_pos (decide_eq_true (by omega)), getRP (List.getElem?_eq_getElem hlt)]
        simp only [Option.bind_some]
        obtain ⟨e, e1, e2⟩ := check_same p p[k] hp
        rw [e1, wrapP (by omega) (by omega)]
        simp only [Option.bind_some]
        by_cases he : e = 0
        · subst he
          rw [if_neg (by decide)]
          refine ⟨_, rfl, ⟨k + 1, by omega, by simp, fun j hj hjk => ?_⟩, by omega⟩
          rcases Nat.lt_or_ge j k with h | h
          · exact hall j hj h
          · obtain rfl : j = k := by omega
            exact e1
        · rw [if_pos (by simpa using he)]
          exact ⟨_, rfl, k, e, hlt, rfl, he, e1⟩
      · rw [if_neg (by simp; omega)]
        refine ⟨_, rfl, fun c hc => ?_⟩
        obtain ⟨j, hj, rfl⟩ := List.getElem_of_mem hc
        exact (check_says hp (hall j hj (by omega))).2.1 rfl) rounds 0 ⟨0, by omega, rfl, fun j _ h => absurd h (by omega)⟩ (by show p.length - (0 : Int).toNat < 18446744073709551616; omega)
  rw [h1]
  simp only [Option.bind_some]
  cases r with
  | inl u => exact ⟨_, rfl, .inl ⟨rfl, h2⟩⟩
  | inr v => exact ⟨_, rfl, .inr h2⟩

end Go.Proofs
