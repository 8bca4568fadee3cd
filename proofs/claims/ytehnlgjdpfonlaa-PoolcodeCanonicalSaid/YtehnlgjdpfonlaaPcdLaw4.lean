/-
  What the encoding of a pool that the check accepts is read back as, whole or cut off. No condition but on sizes.
-/
import Derived.Test.YtehnlgjdpfonlaaPcdLaw3
import Derived.Test.YtehnlgjdpfonlaaPcdFin
namespace Go.Proofs
open Go.Den

theorem Check_sound {p : List T_api_Const} (hp : shortP p) {v : Int × Int} (h : m_pool_Check p = some v) (h0 : v.2 = 0) : p.length ≤ 1000 ∧ Sound p := by
  by_cases hl : p.length ≤ 1000
  · obtain ⟨w, hw, hs | ⟨k, e, hk, rfl, he, -⟩⟩ := Check_says p hp hl
    · exact ⟨hl, hs.2⟩
    · rw [h] at hw; cases hw; exact absurd h0 he
  · unfold m_pool_Check at h
    rw [if_pos (decide_eq_true (by omega))] at h
    cases h; cases h0

theorem getF_in {p : List T_api_Const} {i t : Int} (h : (getF p i t).2 = 0) : 1 ≤ i ∧ i ≤ p.length := by
  have ha : (atF p i).2 = 0 := by
    unfold getF at h
    split at h
    · assumption
    · cases h
  unfold atF at ha
  split at ha
  · cases ha
  · split at ha
    · rename_i h1 c hc
      have := (List.getElem?_eq_some_iff.1 hc).1
      omega
    · cases ha

/-- A constant that can be written and read back. -/
inductive Cod (c : T_api_Const) : Prop
  | utf (h : c.f_Tag = 1) (hs : c.f_S.length ≤ 1024) (hn : c.f_N = 0) (ha : c.f_A = 0) (hb : c.f_B = 0)
  | int (h : c.f_Tag = 3) (hs : c.f_S = []) (hn : -2147483648 ≤ c.f_N ∧ c.f_N ≤ 2147483647) (ha : c.f_A = 0) (hb : c.f_B = 0)
  | long (h : c.f_Tag = 5) (hs : c.f_S = []) (hn : -9223372036854775808 ≤ c.f_N ∧ c.f_N ≤ 9223372036854775807) (ha : c.f_A = 0) (hb : c.f_B = 0)
  | one (h : c.f_Tag = 7 ∨ c.f_Tag = 8) (hs : c.f_S = []) (hn : c.f_N = 0) (ha : 0 ≤ c.f_A ∧ c.f_A ≤ 65535) (hb : c.f_B = 0)
  | two (h : c.f_Tag = 9 ∨ c.f_Tag = 10 ∨ c.f_Tag = 11 ∨ c.f_Tag = 12) (hs : c.f_S = []) (hn : c.f_N = 0) (ha : 0 ≤ c.f_A ∧ c.f_A ≤ 65535) (hb : 0 ≤ c.f_B ∧ c.f_B ≤ 65535)

theorem cod_of {p : List T_api_Const} {c : T_api_Const} {a b : Int} (hf : Fine p c a b) (hl : p.length ≤ 1000) (hN : -9223372036854775808 ≤ c.f_N ∧ c.f_N ≤ 9223372036854775807) : Cod c := by
  have hu := hf.used
  unfold badU at hu
  simp only [Bool.or_eq_false_iff, Bool.and_eq_false_iff, bne_eq_false_iff_eq, beq_eq_false_iff_ne, bne_iff_ne] at hu
  obtain ⟨⟨⟨u1, u2⟩, u3⟩, u4⟩ := hu
  rcases links_cases hf.links with ⟨h, rfl, rfl⟩ | ⟨h, rfl, rfl⟩ | ⟨h, rfl, rfl⟩ | ⟨h, rfl, rfl⟩
  · have hA : c.f_A = 0 := u3.resolve_left (by simp)
    have hB : c.f_B = 0 := u4.resolve_left (by simp)
    rcases h with h | h | h
    · exact .utf h (hf.short h) (u2.resolve_left (by rintro (e | e) <;> omega)) hA hB
    · have hw := hf.word h
      have hr : -2147483648 ≤ c.f_N ∧ c.f_N ≤ 2147483647 := by
        unfold IntKind.wrap at hw
        simp [IntKind.bits, IntKind.signed, Int.bmod] at hw
        omega
      exact .int h (u1.resolve_left (by omega)) hr hA hB
    · exact .long h (u1.resolve_left (by omega)) hN hA hB
  · have hA := getF_in (hf.fst (by decide))
    exact .one h (u1.resolve_left (by omega)) (u2.resolve_left (by rintro (e | e) <;> omega)) (by omega) (u4.resolve_left (by simp))
  · have hA := getF_in (hf.fst (by decide))
    have hB := getF_in (hf.snd (by decide))
    exact .two (by omega) (u1.resolve_left (by omega)) (u2.resolve_left (by rintro (e | e) <;> omega)) (by omega) (by omega)
  · have hA := getF_in (hf.fst (by decide))
    have hB := getF_in (hf.snd (by decide))
    exact .two (by omega) (u1.resolve_left (by omega)) (u2.resolve_left (by rintro (e | e) <;> omega)) (by omega) (by omega)

/-! ### Reading what was written -/

theorem code_at (u b : List UInt8) {n : Int} (hn : 0 ≤ n) : code (u ++ b) (u.length : Int) n = if (b.length : Int) < n then 3 else 0 := by
  unfold code
  have h : ((u ++ b).length : Int) = (u.length : Int) + (b.length : Int) := by simp
  rw [if_neg (by omega), if_neg (by omega), h]
  by_cases hb : (b.length : Int) < n
  · rw [if_pos (by omega), if_pos hb]
  · rw [if_neg (by omega), if_neg hb]

theorem pS1 {x : Int} (h : 0 ≤ x ∧ x ≤ 255) : putS x 1 = bytesOf (by1 x) := by unfold putS; rw [Put1, if_neg (by omega)]; rfl
theorem pS2 {x : Int} (h : 0 ≤ x ∧ x ≤ 65535) : putS x 2 = bytesOf (by2 x) := by unfold putS; rw [Put2, if_neg (by omega)]; rfl
theorem pS4 {x : Int} (h : -2147483648 ≤ x ∧ x ≤ 2147483647) : putS x 4 = bytesOf (by4 x) := by unfold putS; rw [Put4, if_neg (by omega)]; rfl
theorem pS8 (x : Int) : putS x 8 = bytesOf (by8 x) := by unfold putS; rw [Put8]; rfl

theorem rd1 {u w : List UInt8} {x : Int} (h : 0 ≤ x ∧ x ≤ 255) (hl : big (u ++ bytesOf (by1 x) ++ w)) : uV (u ++ bytesOf (by1 x) ++ w) (u.length : Int) 1 = x := by
  unfold uV; rw [(trip1 x u w (by omega) (by omega) hl).1]; show x % 256 = x; omega
theorem rd2 {u w : List UInt8} {x : Int} (h : 0 ≤ x ∧ x ≤ 65535) (hl : big (u ++ bytesOf (by2 x) ++ w)) : uV (u ++ bytesOf (by2 x) ++ w) (u.length : Int) 2 = x := by
  unfold uV; rw [(trip2 x u w (by omega) (by omega) hl).1]; show x % 65536 = x; omega
theorem rd4 {u w : List UInt8} {x : Int} (h : -2147483648 ≤ x ∧ x ≤ 2147483647) (hl : big (u ++ bytesOf (by4 x) ++ w)) : sV (u ++ bytesOf (by4 x) ++ w) (u.length : Int) 4 = x := by
  obtain ⟨c0, c1, c2, c3, hb, hr, hc⟩ := bytes4 x
  rw [hb] at hl ⊢
  have h5 := osig4 hl (code_mid u [c0, c1, c2, c3] w (n := 4) (by simp)) (take_mid u [c0, c1, c2, c3] w)
  unfold sV
  rw [h5]
  show sgn4 c0 c1 c2 c3 = x
  unfold sgn4
  rw [hr, hc]
  split <;> omega
theorem rd8 {u w : List UInt8} {x : Int} (h : -9223372036854775808 ≤ x ∧ x ≤ 9223372036854775807) (hl : big (u ++ bytesOf (by8 x) ++ w)) : sV (u ++ bytesOf (by8 x) ++ w) (u.length : Int) 8 = x := by
  obtain ⟨c0, c1, c2, c3, c4, c5, c6, c7, hb, hr, hc⟩ := bytes8 x
  rw [hb] at hl ⊢
  have h5 := osig8 hl (code_mid u [c0, c1, c2, c3, c4, c5, c6, c7] w (n := 8) (by simp)) (take_mid u [c0, c1, c2, c3, c4, c5, c6, c7] w)
  unfold sV
  rw [h5]
  show sgn8 c0 c1 c2 c3 c4 c5 c6 c7 = x
  unfold sgn8
  rw [hr, hc]
  split <;> omega

/-- What stands behind the tag. -/
def payS (c : T_api_Const) : List UInt8 := if c.f_Tag = 1 then bytesOf (by2 (c.f_S.length : Int)) ++ c.f_S else if c.f_Tag = 3 then bytesOf (by4 c.f_N) else if c.f_Tag = 5 then bytesOf (by8 c.f_N) else if c.f_Tag = 7 ∨ c.f_Tag = 8 then bytesOf (by2 c.f_A) else bytesOf (by2 c.f_A) ++ bytesOf (by2 c.f_B)
theorem cod_tag {c : T_api_Const} (h : Cod c) : 0 ≤ c.f_Tag ∧ c.f_Tag ≤ 255 := by cases h <;> omega
theorem one_pay {c : T_api_Const} (h : Cod c) : oneS c = bytesOf (by1 c.f_Tag) ++ payS c := by
  unfold oneS payS
  rw [pS1 (cod_tag h), pS8]
  cases h with
  | utf h hs hn ha hb => rw [if_pos h, if_pos h]; unfold strS; rw [if_neg (by omega)]
  | int h hs hn ha hb => rw [if_neg (by omega), if_pos h, if_neg (by omega), if_pos h, pS4 hn]
  | long h hs hn ha hb => rw [if_neg (by omega), if_neg (by omega), if_pos h, if_neg (by omega), if_neg (by omega), if_pos h]
  | one h hs hn ha hb => rw [if_neg (by omega), if_neg (by omega), if_neg (by omega), if_pos h, if_neg (by omega), if_neg (by omega), if_neg (by omega), if_pos h, pS2 ha]
  | two h hs hn ha hb => rw [if_neg (by omega), if_neg (by omega), if_neg (by omega), if_neg (by omega), if_neg (by omega), if_neg (by omega), if_neg (by omega), if_neg (by omega), pS2 ha, pS2 hb]

theorem l1 (x : Int) : (bytesOf (by1 x)).length = 1 := rfl
theorem l2 (x : Int) : (bytesOf (by2 x)).length = 2 := rfl
theorem l4 (x : Int) : (bytesOf (by4 x)).length = 4 := rfl
theorem l8 (x : Int) : (bytesOf (by8 x)).length = 8 := rfl

/-- The tag is read, whatever follows. -/
theorem tag_at {u q : List UInt8} {t : Int} (ht : 0 ≤ t ∧ t ≤ 255) (hl : big (u ++ bytesOf (by1 t) ++ q)) : code (u ++ bytesOf (by1 t) ++ q) (u.length : Int) 1 = 0 ∧ tg (u ++ bytesOf (by1 t) ++ q) (u.length : Int) = t := by
  refine ⟨?_, rd1 ht hl⟩
  rw [List.append_assoc, code_at _ _ (by decide), if_neg (by simp [l1]; omega)]

theorem one_at {c : T_api_Const} (h : Cod c) (u w : List UInt8) (hl : big (u ++ oneS c ++ w)) :
    tkE (u ++ oneS c ++ w) (u.length : Int) = 0 ∧ tkC (u ++ oneS c ++ w) (u.length : Int) = c ∧ tkN (u ++ oneS c ++ w) (u.length : Int) = (u.length : Int) + ((oneS c).length : Int) := by
  rw [one_pay h] at hl ⊢
  have e0 : u ++ (bytesOf (by1 c.f_Tag) ++ payS c) ++ w = u ++ bytesOf (by1 c.f_Tag) ++ (payS c ++ w) := by simp [List.append_assoc]
  rw [e0] at hl ⊢
  obtain ⟨k1, k2⟩ := tag_at (cod_tag h) hl
  have e1 : (u.length : Int) + 1 = ((u ++ bytesOf (by1 c.f_Tag)).length : Int) := by simp [l1]
  generalize hu : u ++ bytesOf (by1 c.f_Tag) = u' at hl k1 k2 e1
  have e2 : ((bytesOf (by1 c.f_Tag) ++ payS c).length : Int) = 1 + ((payS c).length : Int) := by simp [l1]
  unfold tkE tkC tkN
  rw [k1, k2, if_neg (by simp), e1, e2]
  have hlen : (u.length : Int) + (1 + ((payS c).length : Int)) = (u'.length : Int) + ((payS c).length : Int) := by omega
  rw [hlen]
  obtain ⟨t, S, N, A, B⟩ := c
  dsimp only at *
  cases h with
  | utf h hs hn ha hb =>
    dsimp only at *
    subst h hn ha hb
    have hp : payS ⟨1, S, 0, 0, 0⟩ = bytesOf (by2 (S.length : Int)) ++ S := by simp [payS]
    rw [hp] at hl ⊢
    have e3 : u' ++ (bytesOf (by2 (S.length : Int)) ++ S ++ w) = u' ++ bytesOf (by2 (S.length : Int)) ++ (S ++ w) := by simp [List.append_assoc]
    rw [e3] at hl ⊢
    have v := rd2 (u := u') (x := (S.length : Int)) (by omega) hl
    have c1 : code (u' ++ bytesOf (by2 (S.length : Int)) ++ (S ++ w)) (u'.length : Int) 2 = 0 := by rw [List.append_assoc, code_at _ _ (by decide), if_neg (by simp [l2]; omega)]
    have e4 : (u'.length : Int) + 2 = ((u' ++ bytesOf (by2 (S.length : Int))).length : Int) := by simp [l2]
    have hg : gOk (u' ++ bytesOf (by2 (S.length : Int)) ++ (S ++ w)) (u'.length : Int) := by
      refine ⟨c1, ?_⟩
      rw [v, e4, code_at _ _ (by omega), if_neg (by simp; omega)]
    have hS : gS (u' ++ bytesOf (by2 (S.length : Int)) ++ (S ++ w)) (u'.length : Int) = S := by
      unfold gS
      rw [v, e4, ← List.append_assoc]
      exact take_mid _ S w
    simp only [if_true]
    rw [if_pos hg, hS, v]
    exact ⟨rfl, rfl, by simp [l2]; omega⟩
  | int h hs hn ha hb =>
    dsimp only at *
    subst h hs ha hb
    have hp : payS ⟨3, [], N, 0, 0⟩ = bytesOf (by4 N) := by simp [payS]
    rw [hp, ← List.append_assoc] at hl ⊢
    have v := rd4 (u := u') hn hl
    have c1 : code (u' ++ bytesOf (by4 N) ++ w) (u'.length : Int) 4 = 0 := by rw [List.append_assoc, code_at _ _ (by decide), if_neg (by simp [l4]; omega)]
    simp [-List.append_assoc, c1, v, l4]
  | long h hs hn ha hb =>
    dsimp only at *
    subst h hs ha hb
    have hp : payS ⟨5, [], N, 0, 0⟩ = bytesOf (by8 N) := by simp [payS]
    rw [hp, ← List.append_assoc] at hl ⊢
    have v := rd8 (u := u') hn hl
    have c1 : code (u' ++ bytesOf (by8 N) ++ w) (u'.length : Int) 8 = 0 := by rw [List.append_assoc, code_at _ _ (by decide), if_neg (by simp [l8]; omega)]
    simp [-List.append_assoc, c1, v, l8]
  | one h hs hn ha hb =>
    dsimp only at *
    subst hs hn hb
    have hp : payS ⟨t, [], 0, A, 0⟩ = bytesOf (by2 A) := by unfold payS; dsimp only; rw [if_neg (by omega), if_neg (by omega), if_neg (by omega), if_pos h]
    rw [hp, ← List.append_assoc] at hl ⊢
    have v := rd2 (u := u') ha hl
    have c1 : code (u' ++ bytesOf (by2 A) ++ w) (u'.length : Int) 2 = 0 := by rw [List.append_assoc, code_at _ _ (by decide), if_neg (by simp [l2]; omega)]
    have n1 : t ≠ 1 := by omega
    have n3 : t ≠ 3 := by omega
    have n5 : t ≠ 5 := by omega
    simp [-List.append_assoc, c1, v, l2, n1, n3, n5, h]
  | two h hs hn ha hb =>
    dsimp only at *
    subst hs hn
    have hp : payS ⟨t, [], 0, A, B⟩ = bytesOf (by2 A) ++ bytesOf (by2 B) := by unfold payS; dsimp only; rw [if_neg (by omega), if_neg (by omega), if_neg (by omega), if_neg (by omega)]
    have e3 : u' ++ (payS ⟨t, [], 0, A, B⟩ ++ w) = u' ++ bytesOf (by2 A) ++ (bytesOf (by2 B) ++ w) := by rw [hp]; simp [List.append_assoc]
    rw [e3] at hl ⊢
    have v := rd2 (u := u') ha hl
    have c1 : code (u' ++ bytesOf (by2 A) ++ (bytesOf (by2 B) ++ w)) (u'.length : Int) 2 = 0 := by rw [List.append_assoc, code_at _ _ (by decide), if_neg (by simp [l2]; omega)]
    have e4 : (u'.length : Int) + 2 = ((u' ++ bytesOf (by2 A)).length : Int) := by simp [l2]
    have c2 : code (u' ++ bytesOf (by2 A) ++ (bytesOf (by2 B) ++ w)) ((u'.length : Int) + 2) 2 = 0 := by rw [e4, code_at _ _ (by decide), if_neg (by simp [l2]; omega)]
    have v2 : uV (u' ++ bytesOf (by2 A) ++ (bytesOf (by2 B) ++ w)) ((u'.length : Int) + 2) 2 = B := by
      rw [e4, ← List.append_assoc] at *
      exact rd2 (u := u' ++ bytesOf (by2 A)) hb hl
    have n1 : t ≠ 1 := by omega
    have n3 : t ≠ 3 := by omega
    have n5 : t ≠ 5 := by omega
    have n7 : ¬ (t = 7 ∨ t = 8) := by omega
    simp [-List.append_assoc, c1, c2, v, v2, hp, l2, n1, n3, n5, n7, h]
    omega

theorem all_at : ∀ (l : List T_api_Const), (∀ c ∈ l, Cod c) → ∀ (u w : List UInt8), big (u ++ allS l ++ w) →
    pE (u ++ allS l ++ w) l.length (u.length : Int) = 0 ∧ pL (u ++ allS l ++ w) l.length (u.length : Int) = l ∧ pA (u ++ allS l ++ w) l.length (u.length : Int) = (u.length : Int) + ((allS l).length : Int)
  | [], _, u, w, _ => ⟨rfl, rfl, by simp [pA, allS]⟩
  | c :: l, h, u, w, hl => by
    have e0 : allS (c :: l) = oneS c ++ allS l := rfl
    have e1 : u ++ allS (c :: l) ++ w = u ++ oneS c ++ (allS l ++ w) := by rw [e0]; simp [List.append_assoc]
    have e2 : u ++ allS (c :: l) ++ w = (u ++ oneS c) ++ allS l ++ w := by rw [e0]; simp [List.append_assoc]
    have hl1 := hl
    rw [e1] at hl1
    obtain ⟨k1, k2, k3⟩ := one_at (h c (by simp)) u (allS l ++ w) hl1
    have hl2 := hl
    rw [e2] at hl2
    obtain ⟨q1, q2, q3⟩ := all_at l (fun x hx => h x (by simp [hx])) (u ++ oneS c) w hl2
    have e3 : ((u ++ oneS c).length : Int) = (u.length : Int) + ((oneS c).length : Int) := by simp
    rw [← e1] at k1 k2 k3
    rw [← e2, e3] at q1 q2 q3
    rw [List.length_cons]
    unfold pE pL pA
    rw [k1, k2, k3, if_pos rfl, q1, q2, q3]
    refine ⟨rfl, rfl, ?_⟩
    rw [e0, List.length_append]; omega
end Go.Proofs
