/-
  What file.Decode and its reference compute. No condition but on the sizes that a statement gives.
-/
import Derived.Test.YtkooiildghlaaaaFilLaw1
namespace Go.Proofs
open Go.Den

/-! ### One thing behind another -/

/-- A thing that is read at a place: the error, the thing, the place behind it. -/
structure It (α : Type) where
  e : Int → Int
  c : Int → α
  n : Int → Int
def rE {α : Type} (t : It α) : Nat → Int → Int
  | 0, _ => 0
  | k + 1, a => if t.e a = 0 then rE t k (t.n a) else t.e a
def rL {α : Type} (t : It α) : Nat → Int → List α
  | 0, _ => []
  | k + 1, a => t.c a :: rL t k (t.n a)
def rA {α : Type} (t : It α) : Nat → Int → Int
  | 0, a => a
  | k + 1, a => rA t k (t.n a)
theorem rL_len {α : Type} (t : It α) : ∀ k a, (rL t k a).length = k
  | 0, _ => rfl
  | k + 1, a => by rw [rL, List.length_cons, rL_len t k]

theorem ref_loop {α : Type} (t : It α) (N : Int) {L : Int × Int × List α → Option (Ctl (Int × Int × List α) ((List α × Int) ⊕ (List α × Int × Int)))}
    (hin : ∀ a i out, 0 ≤ i → i < N → out.length ≤ 70000 → (t.e a = 0 → L (a, i, out) = some (.next (t.n a, i + 1, out ++ [t.c a]))) ∧ (t.e a ≠ 0 → ∃ b, L (a, i, out) = some (.done (.inr ([], b, t.e a)))))
    (hout : ∀ a i out, N ≤ i → L (a, i, out) = some (.done (.inl (out, a)))) :
    ∀ (k : Nat) (a : Int) (out : List α) (fuel : Nat) (i : Int), k < fuel → i + k = N → 0 ≤ i → out.length + k ≤ 70000 → (rE t k a = 0 → loopM L fuel (a, i, out) = some (.inl (out ++ rL t k a, rA t k a))) ∧ (rE t k a ≠ 0 → ∃ b, loopM L fuel (a, i, out) = some (.inr ([], b, rE t k a)))
  | 0, a, out, fuel + 1, i, _, h1, _, _ => by
    rw [loopM, hout a i out (by omega)]
    exact ⟨fun _ => by simp [rL, rA], fun h => absurd rfl h⟩
  | k + 1, a, out, fuel + 1, i, h0, h1, h2, h3 => by
    obtain ⟨e1, e2⟩ := hin a i out h2 (by omega) (by omega)
    rw [rE, rL, rA]
    by_cases h : t.e a = 0
    · rw [if_pos h, loopM, e1 h]
      obtain ⟨f1, f2⟩ := ref_loop t N hin hout k (t.n a) (out ++ [t.c a]) fuel (i + 1) (by omega) (by omega) (by omega) (by simp; omega)
      refine ⟨fun hz => ?_, f2⟩
      dsimp only
      rw [f1 hz]; simp
    · rw [if_neg h, loopM]
      obtain ⟨b, hb⟩ := e2 h
      rw [hb]
      exact ⟨fun hz => absurd hz h, fun _ => ⟨b, rfl⟩⟩

theorem imp_loop {α : Type} (t : It α) (s : List UInt8) {L : Int × List UInt8 × Int × Int × List α → Option (Ctl (Int × List UInt8 × Int × Int × List α) (List UInt8 × Int × Int × List α))}
    (hin : ∀ (k : Nat) a out, k ≤ 70000 → out.length ≤ 70000 → ∃ a' c, L (((k + 1 : Nat) : Int), s, a, 0, out) = some (.next ((k : Int), s, a', t.e a, out ++ [c])) ∧ (t.e a = 0 → a' = t.n a ∧ c = t.c a))
    (h0 : ∀ a e out, L (0, s, a, e, out) = some (.done (s, a, e, out)))
    (hE : ∀ (k : Nat) a e out, e ≠ 0 → L ((k : Int), s, a, e, out) = some (.done (s, a, e, out))) :
    ∀ (k : Nat) (a : Int) (out : List α) (fuel : Nat), k + 1 < fuel → out.length + k ≤ 70000 → ∃ a' p', loopM L fuel ((k : Int), s, a, 0, out) = some (s, a', rE t k a, p') ∧ (rE t k a = 0 → a' = rA t k a ∧ p' = out ++ rL t k a)
  | 0, a, out, fuel + 1, _, _ => ⟨a, out, by
      rw [loopM, show ((0 : Nat) : Int) = 0 from rfl, h0]; rfl, fun _ => ⟨rfl, by simp [rL]⟩⟩
  | k + 1, a, out, fuel + 1, h1, h2 => by
    obtain ⟨a', c, e1, e2⟩ := hin k a out (by omega) (by omega)
    rw [loopM, e1, rE, rL, rA]
    dsimp only
    by_cases h : t.e a = 0
    · obtain ⟨rfl, rfl⟩ := e2 h
      rw [h, if_pos rfl]
      obtain ⟨a2, p2, k1, k2⟩ := imp_loop t s hin h0 hE k (t.n a) (out ++ [t.c a]) fuel (by omega) (by simp; omega)
      exact ⟨a2, p2, k1, fun h => ⟨(k2 h).1, by rw [(k2 h).2]; simp⟩⟩
    · rw [if_neg h]
      refine ⟨a', out ++ [c], ?_, fun h' => absurd h' h⟩
      obtain ⟨f, rfl⟩ : ∃ f, fuel = f + 1 := ⟨fuel - 1, by omega⟩
      rw [loopM, hE k a' _ _ h]

/-! ### The things -/

def seqI {α β : Type} (t : It α) (u : It β) : It (α × β) := ⟨fun a => if t.e a = 0 then u.e (t.n a) else t.e a, fun a => (t.c a, u.c (t.n a)), fun a => u.n (t.n a)⟩
def numI (s : List UInt8) : It Int := ⟨fun a => if code s a 2 = 0 then 0 else 3, fun a => uV s a 2, fun a => a + 2⟩
def cE (s : List UInt8) (m a : Int) : Int := if code s a 2 = 0 then (if uV s a 2 > m then 5 else 0) else 3
def lsI {α : Type} (s : List UInt8) (m : Int) (t : It α) : It (List α) := ⟨fun a => if cE s m a = 0 then rE t (cnt s a) (a + 2) else cE s m a, fun a => rL t (cnt s a) (a + 2), fun a => rA t (cnt s a) (a + 2)⟩
def byI (s : List UInt8) : It (List UInt8) := ⟨fun a => if code s a 4 = 0 then (if uV s a 4 > 65535 then 8 else if (s.length : Int) - (a + 4) < uV s a 4 then 3 else 0) else 3, fun a => seg s (a + 4) (uV s a 4), fun a => a + 4 + uV s a 4⟩
def mapI {α β : Type} (f : α → β) (t : It α) : It β := ⟨t.e, fun a => f (t.c a), t.n⟩
def mkA (x : Int × List UInt8) : T_api_Attr := { f_NameIndex := x.1, f_Bytes := x.2 }
def mkM (x : Int × Int × Int × List T_api_Attr) : T_api_Member := { f_Flags := x.1, f_Name := x.2.1, f_Desc := x.2.2.1, f_Attributes := x.2.2.2 }
def attrI (s : List UInt8) : It T_api_Attr := mapI mkA (seqI (numI s) (byI s))
def attrsI (s : List UInt8) : It (List T_api_Attr) := lsI s 16 (attrI s)
def memI (s : List UInt8) : It T_api_Member := mapI mkM (seqI (numI s) (seqI (numI s) (seqI (numI s) (attrsI s))))
def memsI (s : List UInt8) : It (List T_api_Member) := lsI s 64 (memI s)
def ifcI (s : List UInt8) : It (List Int) := lsI s 8 (numI s)
def restI (s : List UInt8) : It (Int × Int × Int × List Int × List T_api_Member × List T_api_Member × List T_api_Attr) := seqI (numI s) (seqI (numI s) (seqI (numI s) (seqI (ifcI s) (seqI (memsI s) (seqI (memsI s) (attrsI s))))))
def mkF (p : List T_api_Const) (x : Int × Int × Int × List Int × List T_api_Member × List T_api_Member × List T_api_Attr) : T_api_File := { f_Pool := p, f_Flags := x.1, f_This := x.2.1, f_Super := x.2.2.1, f_Interfaces := x.2.2.2.1, f_Fields := x.2.2.2.2.1, f_Methods := x.2.2.2.2.2.1, f_Attributes := x.2.2.2.2.2.2 }
def F0 : T_api_File := { f_Pool := ([] : List T_api_Const), f_Flags := 0, f_This := 0, f_Super := 0, f_Interfaces := ([] : List Int), f_Fields := ([] : List T_api_Member), f_Methods := ([] : List T_api_Member), f_Attributes := ([] : List T_api_Attr) }

theorem uV4_range {s : List UInt8} {a : Int} (hl : big s) (hc : code s a 4 = 0) : 0 ≤ uV s a 4 ∧ uV s a 4 < 4294967296 := by
  obtain ⟨g0, g1⟩ := code_ok (by decide) hc
  obtain ⟨w, hw, hwl, hg⟩ := window_get g0 (by decide) g1
  obtain ⟨c0, c1, c2, c3, rfl⟩ := len4 hwl
  have hv : uV s a 4 = raw4 c0 c1 c2 c3 := by unfold uV; rw [(uns4 hl hc hw g0 hg).1]; rfl
  rw [hv]; exact raw4lt _ _ _ _

theorem sub_seg {s : List UInt8} {a n : Int} (h0 : 0 ≤ a) (hn : 0 ≤ n) (h : a + n ≤ (s.length : Int)) : sub s a (a + n) = some (seg s a n) := by
  unfold sub seg
  rw [if_pos (by omega)]
  congr 2; omega

/-! ### The reader -/

def rdf (s : List UInt8) (a e : Int) : T_file_reader := { f_s := s, f_at := a, f_e := e }

/-- How an operation of the reader goes. -/
structure Rd {α : Type} (op : T_file_reader → Option (T_file_reader × α)) (s : List UInt8) (t : It α) (z : α) : Prop where
  ok : ∀ a, ∃ a' v, op (rdf s a 0) = some (rdf s a' (t.e a), v) ∧ (t.e a = 0 → a' = t.n a ∧ v = t.c a)
  err : ∀ a e, e ≠ 0 → op (rdf s a e) = some (rdf s a e, z)

theorem num_uns {s : List UInt8} {a n : Int} (hl : big s) (hn : wid n) : m_armature_file_reader_number (rdf s a 0) n = some (if code s a n = 0 then (rdf s (a + n) 0, uV s a n) else (rdf s a 3, 0)) := by
  obtain ⟨h1, -, -, -⟩ := uns_eq (a := a) hl hn
  unfold m_armature_file_reader_number rdf
  simp only [bne_self_eq_false, Bool.false_eq_true, if_false]
  rw [h1]
  by_cases hc : code s a n = 0
  · obtain ⟨q0, q1⟩ := code_ok (by have := wid_pos hn; omega) hc
    have hw : IntKind.wrap .i64 (a + n) = a + n := wrapS (by have := wid_pos hn; omega) (by unfold big at hl; omega)
    rw [if_pos hc, if_pos hc]
    simp [hw]
  · rw [if_neg hc, if_neg hc]
    simp [hc]
theorem num_err {s : List UInt8} {a e n : Int} (he : e ≠ 0) : m_armature_file_reader_number (rdf s a e) n = some (rdf s a e, 0) := by
  unfold m_armature_file_reader_number rdf
  rw [if_pos (by simpa using he)]
theorem num_rd {s : List UInt8} (hl : big s) : Rd (fun r => m_armature_file_reader_number r 2) s (numI s) 0 where
  ok a := by
    rw [num_uns hl wd2]
    unfold numI
    dsimp only
    by_cases hc : code s a 2 = 0
    · rw [if_pos hc, if_pos hc]; exact ⟨_, _, rfl, fun _ => ⟨rfl, rfl⟩⟩
    · rw [if_neg hc, if_neg hc]; exact ⟨_, _, rfl, fun h => by cases h⟩
  err a e he := num_err he

theorem cnt_rd {s : List UInt8} (hl : big s) (m : Int) (hm : 0 ≤ m) (a : Int) : ∃ a', m_armature_file_reader_count (rdf s a 0) m = some (rdf s a' (cE s m a), if cE s m a = 0 then (cnt s a : Int) else 0) ∧ (cE s m a = 0 → a' = a + 2) := by
  unfold m_armature_file_reader_count cE
  rw [num_uns hl wd2]
  by_cases hc : code s a 2 = 0
  · obtain ⟨r0, r1⟩ := uV_range hl hc
    rw [if_pos hc, if_pos hc]
    simp only [Option.bind_some]
    by_cases h : uV s a 2 > m
    · rw [if_pos (decide_eq_true h), if_pos h, if_neg (by decide)]
      exact ⟨_, rfl, fun h => by cases h⟩
    · rw [if_neg (by simpa using h), if_neg h, if_pos rfl, show (cnt s a : Int) = uV s a 2 by unfold cnt; omega]
      exact ⟨_, rfl, fun _ => rfl⟩
  · rw [if_neg hc, if_neg hc, if_neg (by decide)]
    simp only [Option.bind_some]
    rw [if_neg (by simp; omega)]
    exact ⟨_, rfl, fun h => by cases h⟩
theorem cnt_err {s : List UInt8} {a e m : Int} (he : e ≠ 0) (hm : 0 ≤ m) : m_armature_file_reader_count (rdf s a e) m = some (rdf s a e, 0) := by
  unfold m_armature_file_reader_count
  rw [num_err he]
  simp only [Option.bind_some]
  rw [if_neg (by simp; omega)]
theorem cnt_le {s : List UInt8} (hl : big s) {m a : Int} (h : cE s m a = 0) : (cnt s a : Int) ≤ m ∧ cnt s a ≤ 65535 ∧ code s a 2 = 0 ∧ (cnt s a : Int) = uV s a 2 := by
  unfold cE at h
  split at h
  · rename_i hc
    obtain ⟨r0, r1⟩ := uV_range hl hc
    split at h
    · cases h
    · unfold cnt; omega
  · cases h

theorem by_rd {s : List UInt8} (hl : big s) : Rd m_armature_file_reader_bytes s (byI s) [] where
  ok a := by
    unfold m_armature_file_reader_bytes byI
    rw [num_uns hl wd4]
    dsimp only
    by_cases hc : code s a 4 = 0
    · obtain ⟨q0, q1⟩ := code_ok (by decide) hc
      obtain ⟨r0, r1⟩ := uV4_range hl hc
      rw [if_pos hc, if_pos hc]
      simp only [Option.bind_some, rdf, bne_self_eq_false, Bool.false_eq_true, if_false]
      by_cases h : uV s a 4 > 65535
      · rw [if_pos (decide_eq_true h), if_pos h]; exact ⟨_, _, rfl, fun h => by cases h⟩
      · have hb : (s.length : Int) ≤ 1125899906842624 := hl
        rw [if_neg (by simpa using h), if_neg h, wrapS (x := (s.length : Int) - (a + 4)) (by omega) (by omega)]
        by_cases h2 : (s.length : Int) - (a + 4) < uV s a 4
        · rw [if_pos (decide_eq_true h2), if_pos h2]; exact ⟨_, _, rfl, fun h => by cases h⟩
        · rw [if_neg (by simpa using h2), if_neg h2, wrapS (x := a + 4 + uV s a 4) (by omega) (by omega), wrapS (x := a + 4 + uV s a 4 - uV s a 4) (by omega) (by omega),
            show a + 4 + uV s a 4 - uV s a 4 = a + 4 by omega, sub_seg (by omega) r0 (by omega)]
          exact ⟨_, _, rfl, fun _ => ⟨rfl, rfl⟩⟩
    · rw [if_neg hc, if_neg hc]; exact ⟨_, _, rfl, fun h => by cases h⟩
  err a e he := by
    unfold m_armature_file_reader_bytes
    rw [num_err he]
    simp only [Option.bind_some]
    rw [if_pos (by simpa [rdf] using he)]

theorem grow24 {n : Nat} (h : n ≤ 100000) : growK 24 n = some () := by unfold growK; rw [if_pos (by omega)]
theorem grow8 {n : Nat} (h : n ≤ 100000) : growK 8 n = some () := by unfold growK; rw [if_pos (by omega)]
theorem wM1 {k : Nat} (h : k ≤ 70000) : IntKind.wrap .i64 (((k + 1 : Nat) : Int) - 1) = (k : Int) := by rw [wrapS (by omega) (by omega)]; omega

theorem attrs_rd {s : List UInt8} (hl : big s) : Rd m_armature_file_reader_attributes s (attrsI s) [] where
  ok a := by
    obtain ⟨a1, h1, h2⟩ := cnt_rd hl 16 (by decide) a
    unfold m_armature_file_reader_attributes
    rw [h1]
    simp only [Option.bind_some]
    have h0 : ∀ a e out, l33x1 (0, s, a, e, out) = some (.done (s, a, e, out)) := by intro a e out; unfold l33x1; rw [if_neg (by simp)]
    have hE : ∀ (k : Nat) a e out, e ≠ 0 → l33x1 ((k : Int), s, a, e, out) = some (.done (s, a, e, out)) := by
      intro k a e out he
      unfold l33x1
      by_cases hk : (k : Int) > 0
      · rw [if_pos (decide_eq_true hk), if_neg (by simpa using he)]
      · rw [if_neg (by simpa using hk)]
    unfold attrsI lsI
    dsimp only
    by_cases hc : cE s 16 a = 0
    · obtain rfl := h2 hc
      obtain ⟨c1, c2, -, -⟩ := cnt_le hl hc
      rw [if_pos hc, if_pos hc, hc]
      obtain ⟨a', p', k1, k2⟩ := imp_loop (attrI s) s (L := l33x1) (fun k a out hk ho => by
        unfold l33x1 j33x1
        dsimp only
        rw [if_pos (decide_eq_true (by omega)), if_pos (by simp), show ({ f_s := s, f_at := a, f_e := 0 } : T_file_reader) = rdf s a 0 from rfl]
        obtain ⟨b, v, e1, e2⟩ := (num_rd hl).ok a
        rw [e1]
        simp only [Option.bind_some, wM1 hk]
        unfold attrI mapI seqI
        dsimp only
        by_cases hn : (numI s).e a = 0
        · obtain ⟨rfl, rfl⟩ := e2 hn
          rw [hn, if_pos rfl]
          obtain ⟨b', v', e3, e4⟩ := (by_rd hl).ok ((numI s).n a)
          rw [e3]
          simp only [Option.bind_some]
          rw [grow24 (by simp; omega)]
          exact ⟨_, _, rfl, fun h => ⟨(e4 h).1, by rw [(e4 h).2]; rfl⟩⟩
        · rw [(by_rd hl).err _ _ hn, if_neg hn]
          simp only [Option.bind_some]
          rw [grow24 (by simp; omega)]
          exact ⟨_, _, rfl, fun h => absurd h hn⟩) h0 hE (cnt s a) (a + 2) [] rounds (by unfold rounds; omega) (by simp; omega)
      rw [show (rdf s (a + 2) 0).f_s = s from rfl, show (rdf s (a + 2) 0).f_at = a + 2 from rfl, show (rdf s (a + 2) 0).f_e = 0 from rfl, k1]
      exact ⟨_, _, rfl, fun h => ⟨(k2 h).1, by rw [(k2 h).2]; rfl⟩⟩
    · rw [if_neg hc, if_neg hc]
      have : loopM l33x1 rounds (0, s, a1, cE s 16 a, []) = some (s, a1, cE s 16 a, []) := by
        unfold rounds; rw [show (18446744073709551616 : Nat) = 18446744073709551615 + 1 from rfl, loopM, h0]
      rw [show (rdf s a1 (cE s 16 a)).f_s = s from rfl, show (rdf s a1 (cE s 16 a)).f_at = a1 from rfl, show (rdf s a1 (cE s 16 a)).f_e = cE s 16 a from rfl, this]
      exact ⟨_, _, rfl, fun h => absurd h hc⟩
  err a e he := by
    unfold m_armature_file_reader_attributes
    rw [cnt_err he (by decide)]
    simp only [Option.bind_some]
    have : loopM l33x1 rounds (0, s, a, e, []) = some (s, a, e, []) := by
      unfold rounds; rw [show (18446744073709551616 : Nat) = 18446744073709551615 + 1 from rfl, loopM]; unfold l33x1; rw [if_neg (by simp)]
    rw [show (rdf s a e).f_s = s from rfl, show (rdf s a e).f_at = a from rfl, show (rdf s a e).f_e = e from rfl, this]
    rfl

theorem mems_rd {s : List UInt8} (hl : big s) : Rd m_armature_file_reader_members s (memsI s) [] where
  ok a := by
    obtain ⟨a1, h1, h2⟩ := cnt_rd hl 64 (by decide) a
    unfold m_armature_file_reader_members
    rw [h1]
    simp only [Option.bind_some]
    have h0 : ∀ a e out, l32x1 (0, s, a, e, out) = some (.done (s, a, e, out)) := by intro a e out; unfold l32x1; rw [if_neg (by simp)]
    have hE : ∀ (k : Nat) a e out, e ≠ 0 → l32x1 ((k : Int), s, a, e, out) = some (.done (s, a, e, out)) := by
      intro k a e out he
      unfold l32x1
      by_cases hk : (k : Int) > 0
      · rw [if_pos (decide_eq_true hk), if_neg (by simpa using he)]
      · rw [if_neg (by simpa using hk)]
    unfold memsI lsI
    dsimp only
    by_cases hc : cE s 64 a = 0
    · obtain rfl := h2 hc
      obtain ⟨c1, c2, -, -⟩ := cnt_le hl hc
      rw [if_pos hc, if_pos hc, hc]
      obtain ⟨a', p', k1, k2⟩ := imp_loop (memI s) s (L := l32x1) (fun k a out hk ho => by
        unfold l32x1 j32x1
        dsimp only
        rw [if_pos (decide_eq_true (by omega)), if_pos (by simp), show ({ f_s := s, f_at := a, f_e := 0 } : T_file_reader) = rdf s a 0 from rfl]
        obtain ⟨b, v, e1, e2⟩ := (num_rd hl).ok a
        rw [e1]
        simp only [Option.bind_some, wM1 hk]
        unfold memI mapI seqI
        dsimp only
        by_cases hn : (numI s).e a = 0
        · obtain ⟨rfl, rfl⟩ := e2 hn
          rw [hn, if_pos rfl]
          obtain ⟨b, v, e1, e2⟩ := (num_rd hl).ok ((numI s).n a)
          rw [e1]
          simp only [Option.bind_some]
          by_cases hn2 : (numI s).e ((numI s).n a) = 0
          · obtain ⟨rfl, rfl⟩ := e2 hn2
            rw [hn2, if_pos rfl]
            obtain ⟨b, v, e1, e2⟩ := (num_rd hl).ok ((numI s).n ((numI s).n a))
            rw [e1]
            simp only [Option.bind_some]
            by_cases hn3 : (numI s).e ((numI s).n ((numI s).n a)) = 0
            · obtain ⟨rfl, rfl⟩ := e2 hn3
              rw [hn3, if_pos rfl]
              obtain ⟨b', v', e3, e4⟩ := (attrs_rd hl).ok ((numI s).n ((numI s).n ((numI s).n a)))
              rw [e3]
              simp only [Option.bind_some]
              rw [grow48 (by simp; omega)]
              exact ⟨_, _, rfl, fun h => ⟨(e4 h).1, by rw [(e4 h).2]; rfl⟩⟩
            · rw [(attrs_rd hl).err _ _ hn3, if_neg hn3]
              simp only [Option.bind_some]
              rw [grow48 (by simp; omega)]
              exact ⟨_, _, rfl, fun h => absurd h hn3⟩
          · rw [num_err hn2, if_neg hn2]
            simp only [Option.bind_some]
            rw [(attrs_rd hl).err _ _ hn2]
            simp only [Option.bind_some]
            rw [grow48 (by simp; omega)]
            exact ⟨_, _, rfl, fun h => absurd h hn2⟩
        · rw [num_err hn, if_neg hn]
          simp only [Option.bind_some]
          rw [num_err hn]
          simp only [Option.bind_some]
          rw [(attrs_rd hl).err _ _ hn]
          simp only [Option.bind_some]
          rw [grow48 (by simp; omega)]
          exact ⟨_, _, rfl, fun h => absurd h hn⟩) h0 hE (cnt s a) (a + 2) [] rounds (by unfold rounds; omega) (by simp; omega)
      rw [show (rdf s (a + 2) 0).f_s = s from rfl, show (rdf s (a + 2) 0).f_at = a + 2 from rfl, show (rdf s (a + 2) 0).f_e = 0 from rfl, k1]
      exact ⟨_, _, rfl, fun h => ⟨(k2 h).1, by rw [(k2 h).2]; rfl⟩⟩
    · rw [if_neg hc, if_neg hc]
      have : loopM l32x1 rounds (0, s, a1, cE s 64 a, []) = some (s, a1, cE s 64 a, []) := by
        unfold rounds; rw [show (18446744073709551616 : Nat) = 18446744073709551615 + 1 from rfl, loopM, h0]
      rw [show (rdf s a1 (cE s 64 a)).f_s = s from rfl, show (rdf s a1 (cE s 64 a)).f_at = a1 from rfl, show (rdf s a1 (cE s 64 a)).f_e = cE s 64 a from rfl, this]
      exact ⟨_, _, rfl, fun h => absurd h hc⟩
  err a e he := by
    unfold m_armature_file_reader_members
    rw [cnt_err he (by decide)]
    simp only [Option.bind_some]
    have : loopM l32x1 rounds (0, s, a, e, []) = some (s, a, e, []) := by
      unfold rounds; rw [show (18446744073709551616 : Nat) = 18446744073709551615 + 1 from rfl, loopM]; unfold l32x1; rw [if_neg (by simp)]
    rw [show (rdf s a e).f_s = s from rfl, show (rdf s a e).f_at = a from rfl, show (rdf s a e).f_e = e from rfl, this]
    rfl

/-! ### Decode -/

/-- What Decode gives for a pool that was read. -/
def decR (s : List UInt8) (r : List T_api_Const × Int × Int) : T_api_File × Int :=
  if r.2.2 ≠ 0 then (F0, r.2.2) else if (restI s).e r.2.1 ≠ 0 then (F0, (restI s).e r.2.1) else if (restI s).n r.2.1 < (s.length : Int) then (F0, 10) else (mkF r.1 ((restI s).c r.2.1), 0)
def decFile (s : List UInt8) (r : List T_api_Const × Int × Int) : T_api_File × Int :=
  if (s.length : Int) > 1048576 then (F0, 8) else if hasP s hdr = false then (F0, 4) else decR s r

theorem ifc_rd {s : List UInt8} (hl : big s) (a : Int) : ∃ a1 a' p, m_armature_file_reader_count (rdf s a 0) 8 = some (rdf s a1 (cE s 8 a), if cE s 8 a = 0 then (cnt s a : Int) else 0) ∧
    loopM l13x1 rounds (if cE s 8 a = 0 then (cnt s a : Int) else 0, s, a1, cE s 8 a, []) = some (s, a', (ifcI s).e a, p) ∧ ((ifcI s).e a = 0 → a' = (ifcI s).n a ∧ p = (ifcI s).c a) := by
  obtain ⟨a1, h1, h2⟩ := cnt_rd hl 8 (by decide) a
  have h0 : ∀ a e out, l13x1 (0, s, a, e, out) = some (.done (s, a, e, out)) := by intro a e out; unfold l13x1; rw [if_neg (by simp)]
  have hE : ∀ (k : Nat) a e out, e ≠ 0 → l13x1 ((k : Int), s, a, e, out) = some (.done (s, a, e, out)) := by
    intro k a e out he
    unfold l13x1
    by_cases hk : (k : Int) > 0
    · rw [if_pos (decide_eq_true hk), if_neg (by simpa using he)]
    · rw [if_neg (by simpa using hk)]
  refine ⟨a1, ?_⟩
  unfold ifcI lsI
  dsimp only
  by_cases hc : cE s 8 a = 0
  · obtain rfl := h2 hc
    obtain ⟨c1, c2, -, -⟩ := cnt_le hl hc
    obtain ⟨a', p', k1, k2⟩ := imp_loop (numI s) s (L := l13x1) (fun k a out hk ho => by
      unfold l13x1 j13x1
      dsimp only
      rw [if_pos (decide_eq_true (by omega)), if_pos (by simp), show ({ f_s := s, f_at := a, f_e := 0 } : T_file_reader) = rdf s a 0 from rfl]
      obtain ⟨b, v, e1, e2⟩ := (num_rd hl).ok a
      rw [e1]
      simp only [Option.bind_some, wM1 hk]
      rw [grow8 (by simp; omega)]
      exact ⟨_, _, rfl, fun h => e2 h⟩) h0 hE (cnt s a) (a + 2) [] rounds (by unfold rounds; omega) (by simp; omega)
    rw [hc] at h1 ⊢
    exact ⟨a', p', h1, by rw [if_pos rfl, if_pos rfl]; exact k1, by rw [if_pos rfl]; exact k2⟩
  · rw [if_neg hc] at h1 ⊢
    rw [if_neg hc]
    refine ⟨a1, [], h1, ?_, fun h => absurd h hc⟩
    unfold rounds; rw [show (18446744073709551616 : Nat) = 18446744073709551615 + 1 from rfl, loopM, h0]

theorem ifc_err {s : List UInt8} {a e : Int} : loopM l13x1 rounds (0, s, a, e, []) = some (s, a, e, []) := by
  unfold rounds; rw [show (18446744073709551616 : Nat) = 18446744073709551615 + 1 from rfl, loopM]; unfold l13x1; rw [if_neg (by simp)]

theorem decode_eq {s : List UInt8} {r : List T_api_Const × Int × Int} (hr : (s.length : Int) ≤ 1048576 → decF s 6 = some r) : m_file_Decode s = some (decFile s r) := by
  unfold m_file_Decode decFile
  by_cases h1 : (s.length : Int) > 1048576
  · rw [if_pos (decide_eq_true h1), if_pos h1]; rfl
  have hl : big s := by unfold big; omega
  rw [if_neg (by simpa using h1), if_neg h1]
  unfold m_strings_HasPrefix
  rw [show ([65, 82, 77, 65, 0, 1] : List UInt8) = hdr from rfl, hasP_lite]
  simp only [Option.bind_some]
  cases hp : hasP s hdr
  · rfl
  simp only [Bool.not_true, Bool.false_eq_true, if_false, Bool.true_eq_false]
  rw [dec_pool hl, hr (by omega)]
  simp only [Option.bind_some]
  unfold decR
  by_cases h2 : r.2.2 = 0
  · rw [if_neg (by simp [h2]), if_neg (fun x => x h2)]
    generalize r.2.1 = b
    rw [show ({ f_s := s, f_at := b, f_e := 0 } : T_file_reader) = rdf s b 0 from rfl]
    have fin : ∀ (A C : Option (T_api_File × Int)) (E : Int), E ≠ 0 → C = some (F0, E) → (if (E == 0) = true then A else C) = some (F0, E) := by
      intro A C E h hc
      rw [if_neg (by simpa using h), hc]
    -- flags
    obtain ⟨a1, v1, k1, g1⟩ := (num_rd hl).ok b
    rw [k1]
    simp only [Option.bind_some]
    unfold restI
    by_cases y1 : (numI s).e b = 0
    case neg =>
      have hz : (seqI (numI s) (seqI (numI s) (seqI (numI s) (seqI (ifcI s) (seqI (memsI s) (seqI (memsI s) (attrsI s))))))).e b = (numI s).e b := if_neg y1
      rw [hz, if_pos (c := (numI s).e b ≠ 0) y1]
      generalize (numI s).e b = E at y1
      simp only [num_err y1, cnt_err y1 (by decide : (0 : Int) ≤ 8), Option.bind_some]
      rw [show ∀ x y z, (rdf x y z).f_s = x from fun _ _ _ => rfl, show ∀ x y z, (rdf x y z).f_at = y from fun _ _ _ => rfl, show ∀ x y z, (rdf x y z).f_e = z from fun _ _ _ => rfl, ifc_err]
      simp only [Option.bind_some]
      rw [show ∀ x y z, ({ f_s := x, f_at := y, f_e := z } : T_file_reader) = rdf x y z from fun _ _ _ => rfl]
      simp only [(mems_rd hl).err _ _ y1, (attrs_rd hl).err _ _ y1, Option.bind_some]
      refine fin _ _ _ y1 ?_
      unfold j13x3
      rw [if_pos (by simpa [rdf] using y1)]
      rfl
    obtain ⟨rfl, rfl⟩ := g1 y1
    rw [y1]
    -- this
    obtain ⟨a1, v1, k1, g1⟩ := (num_rd hl).ok ((numI s).n b)
    rw [k1]
    simp only [Option.bind_some]
    by_cases y2 : (numI s).e ((numI s).n b) = 0
    case neg =>
      have hz : (seqI (numI s) (seqI (numI s) (seqI (numI s) (seqI (ifcI s) (seqI (memsI s) (seqI (memsI s) (attrsI s))))))).e b = (numI s).e ((numI s).n b) := by unfold seqI; dsimp only; rw [if_pos y1, if_neg y2]
      rw [hz, if_pos (c := (numI s).e ((numI s).n b) ≠ 0) y2]
      generalize (numI s).e ((numI s).n b) = E at y2
      simp only [num_err y2, cnt_err y2 (by decide : (0 : Int) ≤ 8), Option.bind_some]
      rw [show ∀ x y z, (rdf x y z).f_s = x from fun _ _ _ => rfl, show ∀ x y z, (rdf x y z).f_at = y from fun _ _ _ => rfl, show ∀ x y z, (rdf x y z).f_e = z from fun _ _ _ => rfl, ifc_err]
      simp only [Option.bind_some]
      rw [show ∀ x y z, ({ f_s := x, f_at := y, f_e := z } : T_file_reader) = rdf x y z from fun _ _ _ => rfl]
      simp only [(mems_rd hl).err _ _ y2, (attrs_rd hl).err _ _ y2, Option.bind_some]
      refine fin _ _ _ y2 ?_
      unfold j13x3
      rw [if_pos (by simpa [rdf] using y2)]
      rfl
    obtain ⟨rfl, rfl⟩ := g1 y2
    rw [y2]
    -- super
    obtain ⟨a1, v1, k1, g1⟩ := (num_rd hl).ok ((numI s).n ((numI s).n b))
    rw [k1]
    simp only [Option.bind_some]
    by_cases y3 : (numI s).e ((numI s).n ((numI s).n b)) = 0
    case neg =>
      have hz : (seqI (numI s) (seqI (numI s) (seqI (numI s) (seqI (ifcI s) (seqI (memsI s) (seqI (memsI s) (attrsI s))))))).e b = (numI s).e ((numI s).n ((numI s).n b)) := by unfold seqI; dsimp only; rw [if_pos y1, if_pos y2, if_neg y3]
      rw [hz, if_pos (c := (numI s).e ((numI s).n ((numI s).n b)) ≠ 0) y3]
      generalize (numI s).e ((numI s).n ((numI s).n b)) = E at y3
      simp only [num_err y3, cnt_err y3 (by decide : (0 : Int) ≤ 8), Option.bind_some]
      rw [show ∀ x y z, (rdf x y z).f_s = x from fun _ _ _ => rfl, show ∀ x y z, (rdf x y z).f_at = y from fun _ _ _ => rfl, show ∀ x y z, (rdf x y z).f_e = z from fun _ _ _ => rfl, ifc_err]
      simp only [Option.bind_some]
      rw [show ∀ x y z, ({ f_s := x, f_at := y, f_e := z } : T_file_reader) = rdf x y z from fun _ _ _ => rfl]
      simp only [(mems_rd hl).err _ _ y3, (attrs_rd hl).err _ _ y3, Option.bind_some]
      refine fin _ _ _ y3 ?_
      unfold j13x3
      rw [if_pos (by simpa [rdf] using y3)]
      rfl
    obtain ⟨rfl, rfl⟩ := g1 y3
    rw [y3]
    -- interfaces
    obtain ⟨a1, a2, p, k1, k2, g1⟩ := ifc_rd hl ((numI s).n ((numI s).n ((numI s).n b)))
    rw [k1]
    simp only [Option.bind_some]
    rw [show ∀ x y z, (rdf x y z).f_s = x from fun _ _ _ => rfl, show ∀ x y z, (rdf x y z).f_at = y from fun _ _ _ => rfl, show ∀ x y z, (rdf x y z).f_e = z from fun _ _ _ => rfl, k2]
    simp only [Option.bind_some]
    rw [show ∀ x y z, ({ f_s := x, f_at := y, f_e := z } : T_file_reader) = rdf x y z from fun _ _ _ => rfl]
    by_cases y4 : (ifcI s).e ((numI s).n ((numI s).n ((numI s).n b))) = 0
    case neg =>
      have hz : (seqI (numI s) (seqI (numI s) (seqI (numI s) (seqI (ifcI s) (seqI (memsI s) (seqI (memsI s) (attrsI s))))))).e b = (ifcI s).e ((numI s).n ((numI s).n ((numI s).n b))) := by unfold seqI; dsimp only; rw [if_pos y1, if_pos y2, if_pos y3, if_neg y4]
      rw [hz, if_pos (c := (ifcI s).e ((numI s).n ((numI s).n ((numI s).n b))) ≠ 0) y4]
      generalize (ifcI s).e ((numI s).n ((numI s).n ((numI s).n b))) = E at y4
      simp only [(mems_rd hl).err _ _ y4, (attrs_rd hl).err _ _ y4, Option.bind_some]
      refine fin _ _ _ y4 ?_
      unfold j13x3
      rw [if_pos (by simpa [rdf] using y4)]
      rfl
    obtain ⟨rfl, rfl⟩ := g1 y4
    rw [y4]
    generalize hb4 : (ifcI s).n ((numI s).n ((numI s).n ((numI s).n b))) = b4
    -- fields
    obtain ⟨a1, v5, k1, g1⟩ := (mems_rd hl).ok b4
    rw [k1]
    simp only [Option.bind_some]
    by_cases y5 : (memsI s).e b4 = 0
    case neg =>
      have hz : (seqI (numI s) (seqI (numI s) (seqI (numI s) (seqI (ifcI s) (seqI (memsI s) (seqI (memsI s) (attrsI s))))))).e b = (memsI s).e b4 := by unfold seqI; dsimp only; rw [if_pos y1, if_pos y2, if_pos y3, if_pos y4, hb4, if_neg y5]
      rw [hz, if_pos (c := (memsI s).e b4 ≠ 0) y5]
      generalize (memsI s).e b4 = E at y5
      simp only [(mems_rd hl).err _ _ y5, (attrs_rd hl).err _ _ y5, Option.bind_some]
      refine fin _ _ _ y5 ?_
      unfold j13x3
      rw [if_pos (by simpa [rdf] using y5)]
      rfl
    obtain ⟨rfl, rfl⟩ := g1 y5
    rw [y5]
    -- methods
    obtain ⟨a1, v6, k1, g1⟩ := (mems_rd hl).ok ((memsI s).n b4)
    rw [k1]
    simp only [Option.bind_some]
    by_cases y6 : (memsI s).e ((memsI s).n b4) = 0
    case neg =>
      have hz : (seqI (numI s) (seqI (numI s) (seqI (numI s) (seqI (ifcI s) (seqI (memsI s) (seqI (memsI s) (attrsI s))))))).e b = (memsI s).e ((memsI s).n b4) := by unfold seqI; dsimp only; rw [if_pos y1, if_pos y2, if_pos y3, if_pos y4, hb4, if_pos y5, if_neg y6]
      rw [hz, if_pos (c := (memsI s).e ((memsI s).n b4) ≠ 0) y6]
      generalize (memsI s).e ((memsI s).n b4) = E at y6
      simp only [(attrs_rd hl).err _ _ y6, Option.bind_some]
      refine fin _ _ _ y6 ?_
      unfold j13x3
      rw [if_pos (by simpa [rdf] using y6)]
      rfl
    obtain ⟨rfl, rfl⟩ := g1 y6
    rw [y6]
    -- attributes
    obtain ⟨a1, v7, k1, g1⟩ := (attrs_rd hl).ok ((memsI s).n ((memsI s).n b4))
    rw [k1]
    simp only [Option.bind_some]
    have hz : (seqI (numI s) (seqI (numI s) (seqI (numI s) (seqI (ifcI s) (seqI (memsI s) (seqI (memsI s) (attrsI s))))))).e b = (attrsI s).e ((memsI s).n ((memsI s).n b4)) := by unfold seqI; dsimp only; rw [if_pos y1, if_pos y2, if_pos y3, if_pos y4, hb4, if_pos y5, if_pos y6]
    have hzn : (seqI (numI s) (seqI (numI s) (seqI (numI s) (seqI (ifcI s) (seqI (memsI s) (seqI (memsI s) (attrsI s))))))).n b = (attrsI s).n ((memsI s).n ((memsI s).n b4)) := by unfold seqI; dsimp only; rw [hb4]
    rw [hz, hzn]
    by_cases y7 : (attrsI s).e ((memsI s).n ((memsI s).n b4)) = 0
    case neg =>
      rw [if_pos (c := (attrsI s).e ((memsI s).n ((memsI s).n b4)) ≠ 0) y7]
      refine fin _ _ _ y7 ?_
      unfold j13x3
      rw [if_pos (by simpa [rdf] using y7)]
      rfl
    obtain ⟨rfl, rfl⟩ := g1 y7
    rw [y7, if_neg (c := (0 : Int) ≠ 0) (fun x => x rfl)]
    dsimp only [rdf]
    refine (if_pos rfl).trans ?_
    unfold j13x2 j13x3
    by_cases h5 : (attrsI s).n ((memsI s).n ((memsI s).n b4)) < (s.length : Int)
    · rw [if_pos h5]
      exact (if_pos (decide_eq_true h5)).trans rfl
    · rw [if_neg h5]
      subst hb4
      exact (if_neg (fun h => h5 (of_decide_eq_true h))).trans rfl
  · rw [if_pos (by simp [h2]), if_pos h2]; rfl
end Go.Proofs
