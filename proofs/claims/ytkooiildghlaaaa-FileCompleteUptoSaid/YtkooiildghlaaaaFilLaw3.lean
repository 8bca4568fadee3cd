/-
  The reference's Decode, equality of class files, and what is read back from what was written. No condition but on sizes.
-/
import Derived.Test.YtkooiildghlaaaaFilLaw2
namespace Go.Proofs
open Go.Den

/-! ### The reference's Decode -/

theorem uns_ref {s : List UInt8} {a n : Int} (hl : big s) (hn : wid n) : m_armatureref02_Unsigned s a n = some (if code s a n = 0 then (uV s a n, 0) else (0, code s a n)) := (uns_eq hl hn).2.1

theorem nums_ref {s : List UInt8} (hl : big s) (n : Nat) (hn : n ≤ 65536) (a : Int) : (rE (numI s) n a = 0 → m_armatureref11_takeNumbers s a n = some (rL (numI s) n a, rA (numI s) n a, 0)) ∧ (rE (numI s) n a ≠ 0 → ∃ b, m_armatureref11_takeNumbers s a n = some ([], b, rE (numI s) n a)) := by
  obtain ⟨f1, f2⟩ := ref_loop (numI s) (n : Int) (L := l35x1 s n) (fun a i out h0 h1 h2 => by
    unfold l35x1
    dsimp only
    rw [if_pos (decide_eq_true h1), uns_ref hl wd2]
    by_cases hc : code s a 2 = 0
    · obtain ⟨q0, q1⟩ := code_ok (by decide) hc
      have hb : (s.length : Int) ≤ 1125899906842624 := hl
      have hE : (numI s).e a = 0 := if_pos hc
      refine ⟨fun _ => ?_, fun h => absurd hE h⟩
      rw [if_pos hc]
      simp only [Option.bind_some, bne_self_eq_false, Bool.false_eq_true, if_false]
      rw [grow8 (by simp; omega), wrapS (x := a + 2) (by omega) (by omega), wrapS (x := i + 1) (by omega) (by omega)]
      rfl
    · have hE : (numI s).e a = 3 := if_neg hc
      rw [hE, if_neg hc]
      refine ⟨fun h => absurd h (by decide), fun _ => ⟨a, ?_⟩⟩
      simp only [Option.bind_some]
      rw [if_pos (by simpa using hc)]) (fun a i out h => by
    unfold l35x1
    rw [if_neg (by simpa using h)]) n a [] rounds 0 (by unfold rounds; omega) (by omega) (by omega) (by simp; omega)
  unfold m_armatureref11_takeNumbers
  refine ⟨fun h => ?_, fun h => ?_⟩
  · rw [f1 h]; rfl
  · obtain ⟨b, hb⟩ := f2 h
    rw [hb]; exact ⟨b, rfl⟩

theorem count_ref {s : List UInt8} (hl : big s) (m a : Int) : m_armatureref11_count s a m = some (if cE s m a = 0 then ((cnt s a : Int), a + 2, 0) else (0, a, cE s m a)) := by
  unfold m_armatureref11_count cE
  rw [uns_ref hl wd2]
  by_cases hc : code s a 2 = 0
  · obtain ⟨q0, q1⟩ := code_ok (by decide) hc
    obtain ⟨r0, r1⟩ := uV_range hl hc
    have hb : (s.length : Int) ≤ 1125899906842624 := hl
    rw [if_pos hc, if_pos hc]
    simp only [Option.bind_some, bne_self_eq_false, Bool.false_eq_true, if_false]
    by_cases h : uV s a 2 > m
    · rw [if_pos (decide_eq_true h), if_pos h, if_neg (by decide)]
    · rw [if_neg (by simpa using h), if_neg h, if_pos rfl, wrapS (x := a + 2) (by omega) (by omega), show (cnt s a : Int) = uV s a 2 by unfold cnt; omega]
  · rw [if_neg hc, if_neg hc, if_neg (by decide)]
    simp only [Option.bind_some]
    rw [if_pos (by simpa using hc)]

theorem attr_item {s : List UInt8} (hl : big s) (N : Int) (z : Int × Int) (a i : Int) (out : List T_api_Attr) (h0 : 0 ≤ i) (h1 : i < N) (h9 : N ≤ 70000) (h2 : out.length ≤ 70000) :
    ((attrI s).e a = 0 → l38x1 (N, z) s (a, i, out) = some (.next ((attrI s).n a, i + 1, out ++ [(attrI s).c a]))) ∧ ((attrI s).e a ≠ 0 → ∃ b, l38x1 (N, z) s (a, i, out) = some (.done (.inr ([], b, (attrI s).e a)))) := by
  have hA : (attrI s).e a = if (numI s).e a = 0 then (byI s).e (a + 2) else (numI s).e a := rfl
  unfold l38x1
  dsimp only
  rw [if_pos (decide_eq_true h1), uns_ref hl wd2]
  by_cases hc : code s a 2 = 0
  · obtain ⟨q0, q1⟩ := code_ok (by decide) hc
    have hb : (s.length : Int) ≤ 1125899906842624 := hl
    have hN : (numI s).e a = 0 := if_pos hc
    rw [if_pos hN] at hA
    rw [if_pos hc]
    simp only [Option.bind_some, bne_self_eq_false, Bool.false_eq_true, if_false]
    rw [wrapS (x := a + 2) (by omega) (by omega), uns_ref hl wd4]
    by_cases hd : code s (a + 2) 4 = 0
    · obtain ⟨q2, q3⟩ := code_ok (by decide) hd
      obtain ⟨r0, r1⟩ := uV4_range hl hd
      have hB : (byI s).e (a + 2) = if uV s (a + 2) 4 > 65535 then 8 else if (s.length : Int) - (a + 2 + 4) < uV s (a + 2) 4 then 3 else 0 := if_pos hd
      rw [if_pos hd]
      simp only [Option.bind_some, bne_self_eq_false, Bool.false_eq_true, if_false]
      by_cases h3 : uV s (a + 2) 4 > 65535
      · rw [if_pos h3] at hB
        rw [if_pos (decide_eq_true h3), hA, hB]
        exact ⟨fun h => absurd h (by decide), fun _ => ⟨a, rfl⟩⟩
      · rw [if_neg h3] at hB
        rw [if_neg (by simpa using h3), wrapS (x := (s.length : Int) - a) (by omega) (by omega), wrapS (x := (s.length : Int) - a - 6) (by omega) (by omega)]
        by_cases h4 : uV s (a + 2) 4 > (s.length : Int) - a - 6
        · rw [if_pos (by omega)] at hB
          rw [if_pos (decide_eq_true h4), hA, hB]
          exact ⟨fun h => absurd h (by decide), fun _ => ⟨a, rfl⟩⟩
        · rw [if_neg (by omega)] at hB
          have hn : (attrI s).n a = a + 6 + uV s (a + 2) 4 := by show a + 2 + 4 + uV s (a + 2) 4 = _; omega
          have hc' : (attrI s).c a = { f_NameIndex := uV s a 2, f_Bytes := seg s (a + 6) (uV s (a + 2) 4) } := by
            show ({ f_NameIndex := uV s a 2, f_Bytes := seg s (a + 2 + 4) (uV s (a + 2) 4) } : T_api_Attr) = _
            rw [show a + 2 + 4 = a + 6 by omega]
          refine ⟨fun _ => ?_, fun h => absurd (hA.trans hB) h⟩
          rw [if_neg (by simpa using h4), hn, hc', wrapS (x := a + 6) (by omega) (by omega), wrapS (x := a + 6 + uV s (a + 2) 4) (by omega) (by omega), sub_seg (by omega) r0 (by omega)]
          simp only [Option.bind_some]
          rw [grow24 (by simp; omega), wrapS (x := i + 1) (by omega) (by omega)]
          rfl
    · have hB : (byI s).e (a + 2) = 3 := if_neg hd
      rw [if_neg hd, hA, hB]
      refine ⟨fun h => absurd h (by decide), fun _ => ⟨a, ?_⟩⟩
      simp only [Option.bind_some]
      rw [if_pos (by simpa using hd)]
  · have hN : (numI s).e a = 3 := if_neg hc
    rw [hN, if_neg (by decide)] at hA
    rw [if_neg hc, hA]
    refine ⟨fun h => absurd h (by decide), fun _ => ⟨a, ?_⟩⟩
    simp only [Option.bind_some]
    rw [if_pos (by simpa using hc)]

theorem ls_e {α : Type} {s : List UInt8} {m : Int} {t : It α} {a : Int} : (cE s m a = 0 → (lsI s m t).e a = rE t (cnt s a) (a + 2)) ∧ (cE s m a ≠ 0 → (lsI s m t).e a = cE s m a) := ⟨fun h => if_pos h, fun h => if_neg h⟩

theorem attrs_ref {s : List UInt8} (hl : big s) (a : Int) : ((attrsI s).e a = 0 → m_armatureref11_takeAttrs s a = some ((attrsI s).c a, (attrsI s).n a, 0)) ∧ ((attrsI s).e a ≠ 0 → ∃ b, m_armatureref11_takeAttrs s a = some ([], b, (attrsI s).e a)) := by
  unfold m_armatureref11_takeAttrs
  rw [count_ref hl]
  by_cases hc : cE s 16 a = 0
  · obtain ⟨c1, c2, -, -⟩ := cnt_le hl hc
    have he : (attrsI s).e a = rE (attrI s) (cnt s a) (a + 2) := ls_e.1 hc
    rw [if_pos hc, he]
    simp only [Option.bind_some, bne_self_eq_false, Bool.false_eq_true, if_false]
    obtain ⟨f1, f2⟩ := ref_loop (attrI s) (cnt s a : Int) (L := l38x1 ((cnt s a : Int), a + 2, 0) s) (fun a i out h0 h1 h2 => attr_item hl _ _ a i out h0 h1 (by omega) h2) (fun a i out h => by
      unfold l38x1
      rw [if_neg (by simpa using h)]) (cnt s a) (a + 2) [] rounds 0 (by unfold rounds; omega) (by omega) (by omega) (by simp; omega)
    refine ⟨fun h => ?_, fun h => ?_⟩
    · rw [f1 h]; rfl
    · obtain ⟨b, hb⟩ := f2 h
      rw [hb]; exact ⟨b, rfl⟩
  · have he : (attrsI s).e a = cE s 16 a := ls_e.2 hc
    rw [if_neg hc, he]
    refine ⟨fun h => absurd h hc, fun _ => ⟨a, ?_⟩⟩
    simp only [Option.bind_some]
    rw [if_pos (by simpa using hc)]

theorem seq_e {α β : Type} {t : It α} {u : It β} {a : Int} : (t.e a = 0 → (seqI t u).e a = u.e (t.n a)) ∧ (t.e a ≠ 0 → (seqI t u).e a = t.e a) := ⟨fun h => if_pos h, fun h => if_neg h⟩
theorem three_e {β : Type} {s : List UInt8} (u : It β) (a : Int) : (rE (numI s) 3 a = 0 → (seqI (numI s) (seqI (numI s) (seqI (numI s) u))).e a = u.e (rA (numI s) 3 a)) ∧ (rE (numI s) 3 a ≠ 0 → (seqI (numI s) (seqI (numI s) (seqI (numI s) u))).e a = rE (numI s) 3 a) := by
  have r : rE (numI s) 3 a = if (numI s).e a = 0 then (if (numI s).e ((numI s).n a) = 0 then (if (numI s).e ((numI s).n ((numI s).n a)) = 0 then 0 else (numI s).e ((numI s).n ((numI s).n a))) else (numI s).e ((numI s).n a)) else (numI s).e a := rfl
  have t : (seqI (numI s) (seqI (numI s) (seqI (numI s) u))).e a = if (numI s).e a = 0 then (if (numI s).e ((numI s).n a) = 0 then (if (numI s).e ((numI s).n ((numI s).n a)) = 0 then u.e ((numI s).n ((numI s).n ((numI s).n a))) else (numI s).e ((numI s).n ((numI s).n a))) else (numI s).e ((numI s).n a)) else (numI s).e a := rfl
  by_cases h1 : (numI s).e a = 0
  · rw [if_pos h1] at r t
    by_cases h2 : (numI s).e ((numI s).n a) = 0
    · rw [if_pos h2] at r t
      by_cases h3 : (numI s).e ((numI s).n ((numI s).n a)) = 0
      · rw [if_pos h3] at r t
        rw [r, t]; exact ⟨fun _ => rfl, fun h => absurd rfl h⟩
      · rw [if_neg h3] at r t
        rw [r, t]; exact ⟨fun h => absurd h h3, fun _ => rfl⟩
    · rw [if_neg h2] at r t
      rw [r, t]; exact ⟨fun h => absurd h h2, fun _ => rfl⟩
  · rw [if_neg h1] at r t
    rw [r, t]; exact ⟨fun h => absurd h h1, fun _ => rfl⟩
theorem three_l {s : List UInt8} (a : Int) : rL (numI s) 3 a = [uV s a 2, uV s (a + 2) 2, uV s (a + 2 + 2) 2] := rfl

theorem mem_item {s : List UInt8} (hl : big s) (N : Int) (z : Int × Int) (a i : Int) (out : List T_api_Member) (h0 : 0 ≤ i) (h1 : i < N) (h9 : N ≤ 70000) (h2 : out.length ≤ 70000) :
    ((memI s).e a = 0 → l37x1 (N, z) s (a, i, out) = some (.next ((memI s).n a, i + 1, out ++ [(memI s).c a]))) ∧ ((memI s).e a ≠ 0 → ∃ b, l37x1 (N, z) s (a, i, out) = some (.done (.inr ([], b, (memI s).e a)))) := by
  have m4 := three_l (s := s) a
  obtain ⟨p1, p2⟩ := three_e (s := s) (attrsI s) a
  change (_ → (memI s).e a = _) at p1
  change (_ → (memI s).e a = _) at p2
  have m2 : (memI s).n a = (attrsI s).n (rA (numI s) 3 a) := rfl
  have m3 : (memI s).c a = { f_Flags := uV s a 2, f_Name := uV s (a + 2) 2, f_Desc := uV s (a + 2 + 2) 2, f_Attributes := (attrsI s).c (rA (numI s) 3 a) } := rfl
  rw [m2, m3]
  unfold l37x1
  dsimp only
  rw [if_pos (decide_eq_true h1)]
  obtain ⟨f1, f2⟩ := nums_ref hl 3 (by omega) a
  rw [show ((3 : Nat) : Int) = 3 from rfl] at f1 f2
  by_cases h3 : rE (numI s) 3 a = 0
  · rw [f1 h3, p1 h3]
    simp only [Option.bind_some, bne_self_eq_false, Bool.false_eq_true, if_false]
    obtain ⟨g1, g2⟩ := attrs_ref hl (rA (numI s) 3 a)
    by_cases h4 : (attrsI s).e (rA (numI s) 3 a) = 0
    · refine ⟨fun _ => ?_, fun h => absurd h4 h⟩
      rw [g1 h4, m4]
      simp only [Option.bind_some, bne_self_eq_false, Bool.false_eq_true, if_false]
      have g0 : getR [uV s a 2, uV s (a + 2) 2, uV s (a + 2 + 2) 2] 0 = some (uV s a 2) := rfl
      have g1 : getR [uV s a 2, uV s (a + 2) 2, uV s (a + 2 + 2) 2] 1 = some (uV s (a + 2) 2) := rfl
      have g2 : getR [uV s a 2, uV s (a + 2) 2, uV s (a + 2 + 2) 2] 2 = some (uV s (a + 2 + 2) 2) := rfl
      rw [g0, g1, g2]
      simp only [Option.bind_some]
      rw [grow48 (by simp; omega), wrapS (x := i + 1) (by omega) (by omega)]
      rfl
    · refine ⟨fun h => absurd h h4, fun _ => ?_⟩
      obtain ⟨b, hb⟩ := g2 h4
      rw [hb]
      simp only [Option.bind_some]
      rw [if_pos (by simpa using h4)]
      exact ⟨a, rfl⟩
  · obtain ⟨b, hb⟩ := f2 h3
    rw [hb, p2 h3]
    refine ⟨fun h => absurd h h3, fun _ => ?_⟩
    simp only [Option.bind_some]
    rw [if_pos (by simpa using h3)]
    exact ⟨a, rfl⟩

theorem mems_ref {s : List UInt8} (hl : big s) (a : Int) : ((memsI s).e a = 0 → m_armatureref11_takeMembers s a = some ((memsI s).c a, (memsI s).n a, 0)) ∧ ((memsI s).e a ≠ 0 → ∃ b, m_armatureref11_takeMembers s a = some ([], b, (memsI s).e a)) := by
  unfold m_armatureref11_takeMembers
  rw [count_ref hl]
  by_cases hc : cE s 64 a = 0
  · obtain ⟨c1, c2, -, -⟩ := cnt_le hl hc
    have he : (memsI s).e a = rE (memI s) (cnt s a) (a + 2) := ls_e.1 hc
    rw [if_pos hc, he]
    simp only [Option.bind_some, bne_self_eq_false, Bool.false_eq_true, if_false]
    obtain ⟨f1, f2⟩ := ref_loop (memI s) (cnt s a : Int) (L := l37x1 ((cnt s a : Int), a + 2, 0) s) (fun a i out h0 h1 h2 => mem_item hl _ _ a i out h0 h1 (by omega) h2) (fun a i out h => by
      unfold l37x1
      rw [if_neg (by simpa using h)]) (cnt s a) (a + 2) [] rounds 0 (by unfold rounds; omega) (by omega) (by omega) (by simp; omega)
    refine ⟨fun h => ?_, fun h => ?_⟩
    · rw [f1 h]; rfl
    · obtain ⟨b, hb⟩ := f2 h
      rw [hb]; exact ⟨b, rfl⟩
  · have he : (memsI s).e a = cE s 64 a := ls_e.2 hc
    rw [if_neg hc, he]
    refine ⟨fun h => absurd h hc, fun _ => ⟨a, ?_⟩⟩
    simp only [Option.bind_some]
    rw [if_pos (by simpa using hc)]

theorem decode_ref {s : List UInt8} {r : List T_api_Const × Int × Int} (hr : (s.length : Int) ≤ 1048576 → decF s 6 = some r) : m_armatureref11_Decode s = some (decFile s r) := by
  unfold m_armatureref11_Decode decFile
  by_cases h1 : (s.length : Int) > 1048576
  · rw [if_pos (decide_eq_true h1), if_pos h1]; rfl
  have hl : big s := by unfold big; omega
  rw [if_neg (by simpa using h1), if_neg h1]
  have hp := hasP_lite s hdr
  unfold m_internal_stringslite_HasPrefix at hp
  by_cases h2 : (s.length : Int) < 6
  · rw [if_neg (by simp [hdr]; omega)] at hp
    rw [if_pos (decide_eq_true h2), ← Option.some.inj hp]; rfl
  · rw [if_pos (by simp [hdr]; omega), show ((hdr.length : Nat) : Int) = 6 from rfl] at hp
    rw [if_neg (by simpa using h2)]
    have hsub : sub s 0 6 = some (s.take 6) := by
      have := sub_seg (s := s) (a := 0) (n := 6) (by decide) (by decide) (by omega)
      rw [show (0 : Int) + 6 = 6 from rfl] at this
      rw [this]; simp [seg]
    rw [hsub] at hp ⊢
    simp only [Option.bind_some] at hp ⊢
    rw [show ([65, 82, 77, 65, 0, 1] : List UInt8) = hdr from rfl, Option.some.inj hp]
    cases hh : hasP s hdr
    · rfl
    simp only [Bool.not_true, Bool.false_eq_true, if_false, Bool.true_eq_false]
    unfold j14x1 decR
    rw [(dec_ref (by omega) 6).1, hr (by omega)]
    simp only [Option.bind_some]
    by_cases h3 : r.2.2 = 0
    · rw [if_neg (by simp [h3]), if_neg (c := r.2.2 ≠ 0) (fun x => x h3)]
      generalize r.2.1 = b
      obtain ⟨p1, p2⟩ := three_e (s := s) (seqI (ifcI s) (seqI (memsI s) (seqI (memsI s) (attrsI s)))) b
      change (_ → (restI s).e b = _) at p1
      change (_ → (restI s).e b = _) at p2
      obtain ⟨T, hT⟩ : ∃ T, T = rA (numI s) 3 b := ⟨_, rfl⟩
      have e2 : (restI s).n b = (attrsI s).n ((memsI s).n ((memsI s).n ((ifcI s).n (rA (numI s) 3 b)))) := rfl
      have e3 : (restI s).c b = (uV s b 2, uV s (b + 2) 2, uV s (b + 2 + 2) 2, (ifcI s).c (rA (numI s) 3 b), (memsI s).c ((ifcI s).n (rA (numI s) 3 b)), (memsI s).c ((memsI s).n ((ifcI s).n (rA (numI s) 3 b))), (attrsI s).c ((memsI s).n ((memsI s).n ((ifcI s).n (rA (numI s) 3 b))))) := rfl
      rw [← hT] at e2 e3 p1
      rw [e2, e3]
      obtain ⟨f1, f2⟩ := nums_ref hl 3 (by omega) b
      rw [show ((3 : Nat) : Int) = 3 from rfl] at f1 f2
      have bad : ∀ (x y : T_api_File × Int) (E : Int), E ≠ 0 → (restI s).e b = E → (if (restI s).e b ≠ 0 then (F0, (restI s).e b) else if (attrsI s).n ((memsI s).n ((memsI s).n ((ifcI s).n T))) < (s.length : Int) then x else y) = (F0, E) := by
        intro x y E h h'
        rw [h', if_pos h]
      by_cases y1 : rE (numI s) 3 b = 0
      case neg =>
        obtain ⟨d, hd⟩ := f2 y1
        rw [hd, bad _ _ _ y1 (p2 y1)]
        simp only [Option.bind_some]
        rw [if_pos (by simpa using y1)]; rfl
      have e1 := p1 y1
      rw [f1 y1, ← hT]
      simp only [Option.bind_some, bne_self_eq_false, Bool.false_eq_true, if_false]
      rw [count_ref hl]
      by_cases y2 : cE s 8 T = 0
      case neg =>
        have hif : (ifcI s).e T = cE s 8 T := ls_e.2 y2
        rw [seq_e.2 (by rw [hif]; exact y2), hif] at e1
        rw [if_neg y2, bad _ _ _ y2 e1]
        simp only [Option.bind_some]
        rw [if_pos (by simpa using y2)]; rfl
      obtain ⟨c1, c2, -, -⟩ := cnt_le hl y2
      have hif : (ifcI s).e T = rE (numI s) (cnt s T) (T + 2) := ls_e.1 y2
      rw [if_pos y2]
      simp only [Option.bind_some, bne_self_eq_false, Bool.false_eq_true, if_false]
      obtain ⟨f1, f2⟩ := nums_ref hl (cnt s T) (by omega) (T + 2)
      by_cases y3 : rE (numI s) (cnt s T) (T + 2) = 0
      case neg =>
        rw [seq_e.2 (by rw [hif]; exact y3), hif] at e1
        obtain ⟨d, hd⟩ := f2 y3
        rw [hd, bad _ _ _ y3 e1]
        simp only [Option.bind_some]
        rw [if_pos (by simpa using y3)]; rfl
      rw [seq_e.1 (hif.trans y3)] at e1
      rw [f1 y3]
      simp only [Option.bind_some, bne_self_eq_false, Bool.false_eq_true, if_false]
      have hin : rA (numI s) (cnt s T) (T + 2) = (ifcI s).n T := rfl
      have hic : rL (numI s) (cnt s T) (T + 2) = (ifcI s).c T := rfl
      rw [hin, hic]
      generalize (ifcI s).n T = b4 at *
      obtain ⟨f1, f2⟩ := mems_ref hl b4
      by_cases y4 : (memsI s).e b4 = 0
      case neg =>
        rw [seq_e.2 y4] at e1
        obtain ⟨d, hd⟩ := f2 y4
        rw [hd, bad _ _ _ y4 e1]
        simp only [Option.bind_some]
        rw [if_pos (by simpa using y4)]; rfl
      rw [seq_e.1 y4] at e1
      rw [f1 y4]
      simp only [Option.bind_some, bne_self_eq_false, Bool.false_eq_true, if_false]
      obtain ⟨f1, f2⟩ := mems_ref hl ((memsI s).n b4)
      by_cases y5 : (memsI s).e ((memsI s).n b4) = 0
      case neg =>
        rw [seq_e.2 y5] at e1
        obtain ⟨d, hd⟩ := f2 y5
        rw [hd, bad _ _ _ y5 e1]
        simp only [Option.bind_some]
        rw [if_pos (by simpa using y5)]; rfl
      rw [seq_e.1 y5] at e1
      rw [f1 y5]
      simp only [Option.bind_some, bne_self_eq_false, Bool.false_eq_true, if_false]
      obtain ⟨f1, f2⟩ := attrs_ref hl ((memsI s).n ((memsI s).n b4))
      by_cases y6 : (attrsI s).e ((memsI s).n ((memsI s).n b4)) = 0
      case neg =>
        obtain ⟨d, hd⟩ := f2 y6
        rw [hd, bad _ _ _ y6 e1]
        simp only [Option.bind_some]
        rw [if_pos (by simpa using y6)]; rfl
      rw [f1 y6, e1, y6, if_neg (c := (0 : Int) ≠ 0) (fun x => x rfl)]
      simp only [Option.bind_some, bne_self_eq_false, Bool.false_eq_true, if_false]
      by_cases y7 : (attrsI s).n ((memsI s).n ((memsI s).n b4)) < (s.length : Int)
      · rw [if_pos (decide_eq_true y7), if_pos y7]; rfl
      · rw [if_neg (by simpa using y7), if_neg y7, three_l]
        rfl
    · rw [if_pos (by simp [h3]), if_pos h3]; rfl

/-! ### Equality -/

theorem eqA_refl (c : T_api_Attr) : eqb_T_api_Attr c c = true := by simp [eqb_T_api_Attr]
theorem tr_loop {α : Type} {l : List α} {L : Int → Option (Ctl Int (Unit ⊕ Bool))} (hl : l.length ≤ 1000000000000000000)
    (hin : ∀ i (_ : i < l.length), L (i : Int) = some (.next ((i + 1 : Nat) : Int)))
    (hout : L (l.length : Int) = some (.done (.inl ()))) : loopM L rounds 0 = some (.inl ()) := by
  have := all_loop0 (l := l) (fun _ => true) false hl (fun i h => by rw [hin i h]; rfl) hout
  simpa using this
theorem same_attrs {l : List T_api_Attr} (hl : l.length ≤ 100000) : m_armatureref11_sameAttrs l l = some true := by
  unfold m_armatureref11_sameAttrs
  rw [if_neg (by simp), tr_loop (l := l) (by omega) (fun i h => by
    unfold l40x1
    rw [if_pos (decide_eq_true (by omega)), getR_some h]
    simp only [Option.bind_some, eqA_refl, Bool.not_true, Bool.false_eq_true, if_false, wI1 (i := i) (by omega)]) (by unfold l40x1; rw [if_neg (by simp)])]
  rfl
theorem same_mems {l : List T_api_Member} (hl : l.length ≤ 100000) (hA : ∀ m ∈ l, m.f_Attributes.length ≤ 100000) : m_armatureref11_sameMembers l l = some true := by
  unfold m_armatureref11_sameMembers
  rw [if_neg (by simp), tr_loop (l := l) (by omega) (fun i h => by
    unfold l39x1
    rw [if_pos (decide_eq_true (by omega)), getR_some h]
    simp only [Option.bind_some, bne_self_eq_false, Bool.false_eq_true, if_false]
    rw [same_attrs (hA _ (List.getElem_mem h))]
    simp only [Option.bind_some, Bool.not_true, Bool.false_eq_true, if_false, wI1 (i := i) (by omega)]) (by unfold l39x1; rw [if_neg (by simp)])]
  rfl

/-- Sizes for an equality. -/
structure eqF (f : T_api_File) : Prop where
  pl : f.f_Pool.length ≤ 100000
  il : f.f_Interfaces.length ≤ 100000
  fl : f.f_Fields.length ≤ 100000
  fa : ∀ m ∈ f.f_Fields, m.f_Attributes.length ≤ 100000
  ml : f.f_Methods.length ≤ 100000
  ma : ∀ m ∈ f.f_Methods, m.f_Attributes.length ≤ 100000
  al : f.f_Attributes.length ≤ 100000
theorem same_file {f : T_api_File} (h : eqF f) : m_armatureref11_Same f f = some true := by
  have hp := h.pl
  have hi := h.il
  unfold m_armatureref11_Same j15x1
  simp only [bne_self_eq_false, Bool.false_eq_true, if_false]
  rw [tr_loop (l := f.f_Pool) (by omega) (fun i h => by
    unfold l15x1
    rw [if_pos (decide_eq_true (by omega)), getR_some h]
    simp only [Option.bind_some, eqC_refl, Bool.not_true, Bool.false_eq_true, if_false, wI1 (i := i) (by omega)]) (by unfold l15x1; rw [if_neg (by simp)])]
  simp only [Option.bind_some]
  rw [tr_loop (l := f.f_Interfaces) (by omega) (fun i h => by
    unfold l15x2
    rw [if_pos (decide_eq_true (by omega)), getR_some h]
    simp only [Option.bind_some, bne_self_eq_false, Bool.false_eq_true, if_false, wI1 (i := i) (by omega)]) (by unfold l15x2; rw [if_neg (by simp)])]
  simp only [Option.bind_some]
  rw [same_mems h.fl h.fa, same_mems h.ml h.ma, same_attrs h.al]
  rfl
theorem okF.eq {f : T_api_File} (h : okF f) : eqF f := ⟨h.pool.1, by have := h.ifc; omega, by have := h.fl; omega, fun m hm => by have := (h.fa m hm).1; omega, by have := h.ml; omega, fun m hm => by have := (h.ma m hm).1; omega, by have := h.at_.1; omega⟩

end Go.Proofs
