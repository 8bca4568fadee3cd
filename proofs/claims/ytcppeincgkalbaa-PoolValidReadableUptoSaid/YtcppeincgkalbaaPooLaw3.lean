/-
  What the models of pool's adding functions come to: what was added is found. No condition.
-/
import Derived.Test.YtcppeincgkalbaaPooLaw2
namespace Go.Proofs
open Go.Den

theorem addF_err {p : List T_api_Const} {c : T_api_Const} (h : (addF p c).2.2 ≠ 0) : 1000 ≤ p.length := by
  unfold addF at h
  split at h
  · exact absurd rfl h
  · split at h
    · assumption
    · exact absurd rfl h

/-- It stands first at this index. -/
def At1 (q : List T_api_Const) (c : T_api_Const) (i : Int) : Prop := ∃ k : Nat, i = (k : Int) + 1 ∧ idxC c q = some k

theorem idx_app : ∀ {q : List T_api_Const} {c : T_api_Const} {k : Nat} (r : List T_api_Const), idxC c q = some k → idxC c (q ++ r) = some k
  | [], _, _, _, h => by cases h
  | y :: q, c, k, r, h => by
    unfold idxC at h
    rw [List.cons_append]
    unfold idxC
    split at h
    · rename_i hy; rw [if_pos hy]; exact h
    · rename_i hy
      rw [if_neg hy]
      cases hi : idxC c q with
      | none => rw [hi] at h; cases h
      | some j => rw [hi] at h; rw [idx_app r hi]; exact h
theorem idx_new : ∀ {q : List T_api_Const} {c : T_api_Const}, idxC c q = none → idxC c (q ++ [c]) = some q.length
  | [], c, _ => by
    show (if eqb_T_api_Const c c = true then some 0 else _) = _
    rw [if_pos (eqC_refl c)]; rfl
  | y :: q, c, h => by
    unfold idxC at h
    rw [List.cons_append]
    unfold idxC
    split at h
    · cases h
    · rename_i hy
      rw [if_neg hy]
      cases hi : idxC c q with
      | some j => rw [hi] at h; cases h
      | none => rw [idx_new hi]; rfl
theorem At1.ext {q q' : List T_api_Const} {c : T_api_Const} {i : Int} (h : At1 q c i) (hp : q <+: q') : At1 q' c i := by
  obtain ⟨r, rfl⟩ := hp
  obtain ⟨k, h1, h2⟩ := h
  exact ⟨k, h1, idx_app r h2⟩
theorem At1.again {q : List T_api_Const} {c : T_api_Const} {i : Int} (h : At1 q c i) : addF q c = (q, i, 0) := by
  obtain ⟨k, rfl, h2⟩ := h
  unfold addF
  rw [h2]
theorem At1.at {q : List T_api_Const} {c : T_api_Const} {i : Int} (h : At1 q c i) : atF q i = (c, 0) := by
  obtain ⟨k, rfl, h2⟩ := h
  unfold atF
  rw [if_neg (by omega), show ((k : Int) + 1 - 1).toNat = k by omega, (idxC_some h2).1]
theorem add_ok {p q : List T_api_Const} {c : T_api_Const} {i : Int} (h : addF p c = (q, i, 0)) : At1 q c i ∧ p <+: q ∧ q.length ≤ p.length + 1 ∧ (∀ j, At1 p c j → q = p) := by
  unfold addF at h
  cases hi : idxC c p with
  | some k =>
    rw [hi] at h
    cases h
    exact ⟨⟨k, rfl, hi⟩, List.prefix_refl p, by omega, fun _ _ => rfl⟩
  | none =>
    rw [hi] at h
    dsimp only at h
    split at h
    · cases h
    · cases h
      refine ⟨⟨p.length, rfl, idx_new hi⟩, List.prefix_append p [c], by simp, fun j hj => ?_⟩
      obtain ⟨k, -, h2⟩ := hj
      rw [hi] at h2; cases h2

theorem get_at {q : List T_api_Const} {c : T_api_Const} {i tag : Int} (h : At1 q c i) (ht : c.f_Tag = tag) : getF q i tag = (c, 0) := by
  unfold getF
  rw [h.at]
  dsimp only
  rw [if_pos rfl, if_pos ht]
theorem utf_at {q : List T_api_Const} {s : List UInt8} {i : Int} (h : At1 q (uC s) i) : utfF q i = (s, 0) := by
  unfold utfF
  rw [get_at h (tag := 1) rfl]; rfl
theorem thr_at {q : List T_api_Const} {s : List UInt8} {i j tag : Int} (hu : At1 q (uC s) i) (h : At1 q (kC tag i 0) j) : thrF q j tag = (s, 0) := by
  unfold thrF
  rw [get_at h (tag := tag) rfl, if_pos rfl]
  exact utf_at hu
theorem nat_at {q : List T_api_Const} {s d : List UInt8} {i j k : Int} (h1 : At1 q (uC s) i) (h2 : At1 q (uC d) j) (h : At1 q (kC 12 i j) k) : natF q k = (s, d, 0) := by
  unfold natF
  rw [get_at h (tag := 12) rfl, if_pos rfl, show (kC 12 i j, (0 : Int)).1.f_A = i from rfl, show (kC 12 i j, (0 : Int)).1.f_B = j from rfl, utf_at h1, utf_at h2, if_pos rfl, if_pos rfl]

theorem mref_rich (p : List T_api_Const) (tag : Int) (r : T_api_Ref) (hl : p.length ≤ 90000) : ∃ v, m_pool_AddMemberRef p tag r = some v ∧ (v.2.2 ≠ 0 → 995 ≤ p.length) ∧
    (v.2.2 = 0 → ∃ q1 i1 q2 i2 q3 i3 q4 i4 q5 i5, addF p (uC r.f_Class) = (q1, i1, 0) ∧ addF q1 (kC 7 i1 0) = (q2, i2, 0) ∧ addF q2 (uC r.f_Name) = (q3, i3, 0) ∧ addF q3 (uC r.f_Desc) = (q4, i4, 0) ∧ addF q4 (kC 12 i3 i4) = (q5, i5, 0) ∧ addF q5 (kC tag i2 i5) = v) := by
  unfold m_pool_AddMemberRef
  rw [show ({ f_Tag := 1, f_S := r.f_Class, f_N := 0, f_A := 0, f_B := 0 } : T_api_Const) = uC r.f_Class from rfl, show ({ f_Tag := 1, f_S := r.f_Name, f_N := 0, f_A := 0, f_B := 0 } : T_api_Const) = uC r.f_Name from rfl,
    show ({ f_Tag := 1, f_S := r.f_Desc, f_N := 0, f_A := 0, f_B := 0 } : T_api_Const) = uC r.f_Desc from rfl, badd p _ (by omega)]
  try simp only [Option.bind_some]
  generalize ha1 : addF p (uC r.f_Class) = a1
  have l1 := addF_len p (uC r.f_Class)
  rw [ha1] at l1
  obtain ⟨q1, i1, x1⟩ := a1
  dsimp only at l1 ⊢
  by_cases e1 : x1 = 0
  · subst e1
    rw [show ({ f_Tag := 7, f_S := [], f_N := 0, f_A := i1, f_B := 0 } : T_api_Const) = kC 7 i1 0 from rfl, badd q1 _ (by omega)]
    try simp only [Option.bind_some]
    generalize ha2 : addF q1 (kC 7 i1 0) = a2
    have l2 := addF_len q1 (kC 7 i1 0)
    rw [ha2] at l2
    obtain ⟨q2, i2, x2⟩ := a2
    dsimp only at l2 ⊢
    by_cases e2 : x2 = 0
    · subst e2
      rw [badd q2 _ (by omega)]
      try simp only [Option.bind_some]
      try simp only [Option.bind_some]
      generalize ha3 : addF q2 (uC r.f_Name) = a3
      have l3 := addF_len q2 (uC r.f_Name)
      rw [ha3] at l3
      obtain ⟨q3, i3, x3⟩ := a3
      dsimp only at l3 ⊢
      by_cases e3 : x3 = 0
      · subst e3
        rw [badd q3 _ (by omega)]
        try simp only [Option.bind_some]
        try simp only [Option.bind_some]
        generalize ha4 : addF q3 (uC r.f_Desc) = a4
        have l4 := addF_len q3 (uC r.f_Desc)
        rw [ha4] at l4
        obtain ⟨q4, i4, x4⟩ := a4
        dsimp only at l4 ⊢
        by_cases e4 : x4 = 0
        · subst e4
          rw [show ({ f_Tag := 12, f_S := [], f_N := 0, f_A := i3, f_B := i4 } : T_api_Const) = kC 12 i3 i4 from rfl, badd q4 _ (by omega)]
          try simp only [Option.bind_some]
          try simp only [Option.bind_some]
          generalize ha5 : addF q4 (kC 12 i3 i4) = a5
          have l5 := addF_len q4 (kC 12 i3 i4)
          rw [ha5] at l5
          obtain ⟨q5, i5, x5⟩ := a5
          dsimp only at l5 ⊢
          by_cases e5 : x5 = 0
          · subst e5
            rw [show ({ f_Tag := tag, f_S := [], f_N := 0, f_A := i2, f_B := i5 } : T_api_Const) = kC tag i2 i5 from rfl, badd q5 _ (by omega)]
            try simp only [Option.bind_some]
            try simp only [Option.bind_some]
            generalize ha6 : addF q5 (kC tag i2 i5) = a6
            have l6 := addF_len q5 (kC tag i2 i5)
            rw [ha6] at l6
            obtain ⟨q6, i6, x6⟩ := a6
            dsimp only at l6 ⊢
            by_cases e6 : x6 = 0
            · subst e6
              rw [bres_ok]
              exact ⟨_, rfl, (fun h => absurd rfl h), fun _ => ⟨_, _, _, _, _, _, _, _, _, _, rfl, ha2, ha3, ha4, ha5, ha6⟩⟩
            · rw [bres_err _ _ _ e6]
              exact ⟨_, rfl, (fun _ => by have := addF_err (p := q5) (by rw [ha6]; exact e6); omega), fun h => absurd h e6⟩
          · rw [badd_err _ _ e5]
            try simp only [Option.bind_some]
            rw [bres_err _ _ _ e5]
            exact ⟨_, rfl, (fun _ => by have := addF_err (p := q4) (by rw [ha5]; exact e5); omega), fun h => absurd h e5⟩
        · rw [badd_err _ _ e4]
          try simp only [Option.bind_some]
          rw [badd_err _ _ e4]
          try simp only [Option.bind_some]
          rw [bres_err _ _ _ e4]
          exact ⟨_, rfl, (fun _ => by have := addF_err (p := q3) (by rw [ha4]; exact e4); omega), fun h => absurd h e4⟩
      · rw [badd_err _ _ e3]
        try simp only [Option.bind_some]
        rw [badd_err _ _ e3]
        try simp only [Option.bind_some]
        rw [badd_err _ _ e3]
        try simp only [Option.bind_some]
        rw [bres_err _ _ _ e3]
        exact ⟨_, rfl, (fun _ => by have := addF_err (p := q2) (by rw [ha3]; exact e3); omega), fun h => absurd h e3⟩
    · rw [badd_err _ _ e2]
      try simp only [Option.bind_some]
      rw [badd_err _ _ e2]
      try simp only [Option.bind_some]
      rw [badd_err _ _ e2]
      try simp only [Option.bind_some]
      rw [badd_err _ _ e2]
      try simp only [Option.bind_some]
      rw [bres_err _ _ _ e2]
      exact ⟨_, rfl, (fun _ => by have := addF_err (p := q1) (by rw [ha2]; exact e2); omega), fun h => absurd h e2⟩
  · rw [badd_err _ _ e1]
    try simp only [Option.bind_some]
    rw [badd_err _ _ e1]
    try simp only [Option.bind_some]
    rw [badd_err _ _ e1]
    try simp only [Option.bind_some]
    rw [badd_err _ _ e1]
    try simp only [Option.bind_some]
    rw [badd_err _ _ e1]
    try simp only [Option.bind_some]
    rw [bres_err _ _ _ e1]
    exact ⟨_, rfl, (fun _ => by have := addF_err (p := p) (by rw [ha1]; exact e1); omega), fun h => absurd h e1⟩


theorem named_rich (p : List T_api_Const) (tag : Int) (s : List UInt8) : ((namedF p tag s).2.2 ≠ 0 → 999 ≤ p.length) ∧
    ((namedF p tag s).2.2 = 0 → ∃ q1 i1, addF p (uC s) = (q1, i1, 0) ∧ addF q1 (kC tag i1 0) = namedF p tag s) := by
  have h1 := addF_len p (uC s)
  unfold namedF
  generalize ha1 : addF p (uC s) = a1
  rw [ha1] at h1
  obtain ⟨q1, i1, x1⟩ := a1
  dsimp only at h1 ⊢
  by_cases e1 : x1 = 0
  · subst e1
    rw [if_pos rfl]
    generalize ha2 : addF q1 (kC tag i1 0) = a2
    obtain ⟨q2, i2, x2⟩ := a2
    dsimp only
    by_cases e2 : x2 = 0
    · subst e2
      rw [if_pos rfl]
      exact ⟨fun h => absurd rfl h, fun _ => ⟨q1, i1, rfl, ha2⟩⟩
    · rw [if_neg e2]
      exact ⟨fun _ => by have := addF_err (p := q1) (by rw [ha2]; exact e2); omega, fun h => absurd h e2⟩
  · rw [if_neg e1]
    exact ⟨fun _ => by have := addF_err (p := p) (by rw [ha1]; exact e1); omega, fun h => absurd h e1⟩

theorem mref_again (q : List T_api_Const) (tag : Int) (r : T_api_Ref) (hl : q.length ≤ 90000) {i1 i2 i3 i4 i5 i6 : Int} (h1 : At1 q (uC r.f_Class) i1) (h2 : At1 q (kC 7 i1 0) i2) (h3 : At1 q (uC r.f_Name) i3) (h4 : At1 q (uC r.f_Desc) i4)
    (h5 : At1 q (kC 12 i3 i4) i5) (h6 : At1 q (kC tag i2 i5) i6) : m_pool_AddMemberRef q tag r = some (q, i6, 0) := by
  unfold m_pool_AddMemberRef
  have g : ∀ (c : T_api_Const) (i : Int), At1 q c i → m_armature_pool_builder_add { f_pool := q, f_err := 0 } c = some ({ f_pool := q, f_err := 0 }, i) := fun c i h => by rw [badd q c (by omega), h.again]
  rw [show ({ f_Tag := 1, f_S := r.f_Class, f_N := 0, f_A := 0, f_B := 0 } : T_api_Const) = uC r.f_Class from rfl, show ({ f_Tag := 1, f_S := r.f_Name, f_N := 0, f_A := 0, f_B := 0 } : T_api_Const) = uC r.f_Name from rfl,
    show ({ f_Tag := 1, f_S := r.f_Desc, f_N := 0, f_A := 0, f_B := 0 } : T_api_Const) = uC r.f_Desc from rfl, g _ _ h1]
  simp only [Option.bind_some]
  rw [show ({ f_Tag := 7, f_S := [], f_N := 0, f_A := i1, f_B := 0 } : T_api_Const) = kC 7 i1 0 from rfl, g _ _ h2]
  simp only [Option.bind_some]
  rw [g _ _ h3]
  simp only [Option.bind_some]
  rw [g _ _ h4]
  simp only [Option.bind_some]
  rw [show ({ f_Tag := 12, f_S := [], f_N := 0, f_A := i3, f_B := i4 } : T_api_Const) = kC 12 i3 i4 from rfl, g _ _ h5]
  simp only [Option.bind_some]
  rw [show ({ f_Tag := tag, f_S := [], f_N := 0, f_A := i2, f_B := i5 } : T_api_Const) = kC tag i2 i5 from rfl, g _ _ h6]
  rfl

end Go.Proofs
