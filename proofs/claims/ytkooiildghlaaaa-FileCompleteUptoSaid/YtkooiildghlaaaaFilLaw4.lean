/-
  What is read is what stands there, and what is written is read back. No condition but on sizes.
-/
import Derived.Test.YtkooiildghlaaaaFilLaw3
namespace Go.Proofs
open Go.Den

/-! ### What is read is what stands there -/

/-- What a thing that was read is written as, and what is known of it. -/
structure Bk {α : Type} (s : List UInt8) (t : It α) (g : α → List UInt8) (p : α → Prop) : Prop where
  h : ∀ a, 0 ≤ a → a ≤ (s.length : Int) → t.e a = 0 → a ≤ t.n a ∧ t.n a ≤ (s.length : Int) ∧ g (t.c a) = seg s a (t.n a - a) ∧ p (t.c a)

theorem bk_num {s : List UInt8} (hl : big s) : Bk s (numI s) numS (fun x => fit x = true) where
  h a h0 h1 he := by
    have hc : code s a 2 = 0 := by
      unfold numI at he; dsimp only at he
      by_cases hc : code s a 2 = 0
      · exact hc
      · rw [if_neg hc] at he; cases he
    obtain ⟨q0, q1⟩ := code_ok (by decide) hc
    obtain ⟨r0, r1⟩ := uV_range hl hc
    refine ⟨by show a ≤ a + 2; omega, q1, ?_, decide_eq_true ⟨r0, by show uV s a 2 ≤ 65535; omega⟩⟩
    show putS (uV s a 2) 2 = seg s a (a + 2 - a)
    rw [pS2 ⟨r0, by omega⟩, back2 hl hc, show a + 2 - a = 2 by omega]

theorem back4u {s : List UInt8} {a : Int} (hl : big s) (hc : code s a 4 = 0) : bytesOf (by4 (uV s a 4)) = seg s a 4 := by
  obtain ⟨g0, g1⟩ := code_ok (by decide) hc
  obtain ⟨w, hw, hwl, hg⟩ := window_get g0 (by decide) g1
  obtain ⟨c0, c1, c2, c3, rfl⟩ := len4 hwl
  have hv : uV s a 4 = raw4 c0 c1 c2 c3 := by unfold uV; rw [(uns4 hl hc hw g0 hg).1]; rfl
  have b0 := u8lt c0; have b1 := u8lt c1; have b2 := u8lt c2; have b3 := u8lt c3
  rw [hv]
  unfold seg
  rw [hw]
  show [UInt8.ofNat (raw4 c0 c1 c2 c3 / 256 / 256 / 256 % 256).toNat, UInt8.ofNat (raw4 c0 c1 c2 c3 / 256 / 256 % 256).toNat, UInt8.ofNat (raw4 c0 c1 c2 c3 / 256 % 256).toNat, UInt8.ofNat (raw4 c0 c1 c2 c3 % 256).toNat] = [c0, c1, c2, c3]
  rw [ub c0 _ (by unfold raw4; omega), ub c1 _ (by unfold raw4; omega), ub c2 _ (by unfold raw4; omega), ub c3 _ (by unfold raw4; omega)]

def byS (x : List UInt8) : List UInt8 := putS (x.length : Int) 4 ++ x
theorem bk_by {s : List UInt8} (hl : big s) : Bk s (byI s) byS (fun x => x.length ≤ 65535) where
  h a h0 h1 he := by
    unfold byI at he; dsimp only at he
    by_cases hc : code s a 4 = 0
    case neg => rw [if_neg hc] at he; cases he
    rw [if_pos hc] at he
    by_cases h2 : uV s a 4 > 65535
    · rw [if_pos h2] at he; cases he
    rw [if_neg h2] at he
    by_cases h3 : (s.length : Int) - (a + 4) < uV s a 4
    · rw [if_pos h3] at he; cases he
    obtain ⟨q0, q1⟩ := code_ok (by decide) hc
    obtain ⟨r0, r1⟩ := uV4_range hl hc
    have hS := seg_len (s := s) (a := a + 4) (n := uV s a 4) (by omega) r0 (by omega)
    refine ⟨by show a ≤ a + 4 + uV s a 4; omega, by show a + 4 + uV s a 4 ≤ _; omega, ?_, by show (seg s (a + 4) (uV s a 4)).length ≤ 65535; omega⟩
    show putS ((seg s (a + 4) (uV s a 4)).length : Int) 4 ++ seg s (a + 4) (uV s a 4) = seg s a (a + 4 + uV s a 4 - a)
    rw [hS, pS4 ⟨by omega, by omega⟩, back4u hl hc, seg_app h0 (by decide) r0]
    congr 1; omega

theorem bk_seq {α β : Type} {s : List UInt8} {t : It α} {u : It β} {g : α → List UInt8} {k : β → List UInt8} {p : α → Prop} {q : β → Prop} (ht : Bk s t g p) (hu : Bk s u k q) :
    Bk s (seqI t u) (fun x => g x.1 ++ k x.2) (fun x => p x.1 ∧ q x.2) where
  h a h0 h1 he := by
    unfold seqI at he ⊢; dsimp only at he ⊢
    by_cases hc : t.e a = 0
    case neg => rw [if_neg hc] at he; exact absurd he hc
    rw [if_pos hc] at he
    obtain ⟨a1, a2, a3, a4⟩ := ht.h a h0 h1 hc
    obtain ⟨b1, b2, b3, b4⟩ := hu.h (t.n a) (by omega) a2 he
    refine ⟨by omega, b2, ?_, a4, b4⟩
    rw [a3, b3]
    have := seg_app (s := s) (a := a) (n := t.n a - a) (m := u.n (t.n a) - t.n a) h0 (by omega) (by omega)
    rw [show a + (t.n a - a) = t.n a by omega] at this
    rw [this]
    congr 1; omega

theorem bk_map {α β : Type} {s : List UInt8} {t : It α} {g : α → List UInt8} {k : β → List UInt8} {p : α → Prop} {q : β → Prop} (f : α → β) (ht : Bk s t g p) (hg : ∀ x, k (f x) = g x) (hp : ∀ x, p x → q (f x)) : Bk s (mapI f t) k q where
  h a h0 h1 he := by
    obtain ⟨a1, a2, a3, a4⟩ := ht.h a h0 h1 he
    exact ⟨a1, a2, (hg _).trans a3, hp _ a4⟩

theorem bk_all {α : Type} {s : List UInt8} {t : It α} {g : α → List UInt8} {p : α → Prop} (ht : Bk s t g p) : ∀ (k : Nat) (a : Int), 0 ≤ a → a ≤ (s.length : Int) → rE t k a = 0 →
    a ≤ rA t k a ∧ rA t k a ≤ (s.length : Int) ∧ ((rL t k a).map g).flatten = seg s a (rA t k a - a) ∧ ∀ x ∈ rL t k a, p x
  | 0, a, h0, h1, _ => ⟨Int.le_refl _, h1, by show [] = seg s a (a - a); unfold seg; simp, fun x hx => by cases hx⟩
  | k + 1, a, h0, h1, h => by
    rw [rE] at h
    by_cases hc : t.e a = 0
    case neg => rw [if_neg hc] at h; exact absurd h hc
    rw [if_pos hc] at h
    obtain ⟨a1, a2, a3, a4⟩ := ht.h a h0 h1 hc
    obtain ⟨b1, b2, b3, b4⟩ := bk_all ht k (t.n a) (by omega) a2 h
    rw [rA, rL]
    refine ⟨by omega, b2, ?_, fun x hx => ?_⟩
    · rw [List.map_cons, List.flatten_cons, a3, b3]
      have := seg_app (s := s) (a := a) (n := t.n a - a) (m := rA t k (t.n a) - t.n a) h0 (by omega) (by omega)
      rw [show a + (t.n a - a) = t.n a by omega] at this
      rw [this]
      congr 1; omega
    · rcases List.mem_cons.1 hx with rfl | hx
      · exact a4
      · exact b4 x hx

theorem bk_ls {α : Type} {s : List UInt8} {t : It α} {g : α → List UInt8} {p : α → Prop} (hl : big s) (m : Int) (ht : Bk s t g p) :
    Bk s (lsI s m t) (fun l => putS (l.length : Int) 2 ++ (l.map g).flatten) (fun l => (l.length : Int) ≤ m ∧ ∀ x ∈ l, p x) where
  h a h0 h1 he := by
    unfold lsI at he ⊢; dsimp only at he ⊢
    by_cases hc : cE s m a = 0
    case neg => rw [if_neg hc] at he; exact absurd he hc
    rw [if_pos hc] at he
    obtain ⟨c1, c2, c3, c4⟩ := cnt_le hl hc
    obtain ⟨q0, q1⟩ := code_ok (by decide) c3
    obtain ⟨b1, b2, b3, b4⟩ := bk_all ht (cnt s a) (a + 2) (by omega) (by omega) he
    rw [rL_len]
    refine ⟨by omega, b2, ?_, c1, b4⟩
    rw [b3, c4, pS2 ⟨by omega, by omega⟩, back2 hl c3, seg_app h0 (by decide) (by omega)]
    congr 1; omega

/-! ### What is written is read back -/

structure Fw {α : Type} (T : List UInt8 → It α) (g : α → List UInt8) (p : α → Prop) : Prop where
  h : ∀ x u w, p x → big (u ++ g x ++ w) → (T (u ++ g x ++ w)).e (u.length : Int) = 0 ∧ (T (u ++ g x ++ w)).c (u.length : Int) = x ∧ (T (u ++ g x ++ w)).n (u.length : Int) = (u.length : Int) + ((g x).length : Int)

theorem fw_num : Fw numI numS (fun x => fit x = true) where
  h x u w hx hl := by
    have hx' : 0 ≤ x ∧ x ≤ 65535 := by simpa [fit] using hx
    have e : numS x = bytesOf (by2 x) := pS2 hx'
    rw [e] at hl ⊢
    refine ⟨?_, rd2 hx' hl, ?_⟩
    · have hc : code (u ++ bytesOf (by2 x) ++ w) (u.length : Int) 2 = 0 := by rw [List.append_assoc, code_at _ _ (by decide), if_neg (by simp [l2]; omega)]
      exact if_pos hc
    · show (u.length : Int) + 2 = _
      simp [l2]

theorem fw_by : Fw byI byS (fun x => x.length ≤ 65535) where
  h x u w hx hl := by
    have e : byS x = bytesOf (by4 (x.length : Int)) ++ x := by unfold byS; rw [pS4 ⟨by omega, by omega⟩]
    have e2 : u ++ byS x ++ w = u ++ bytesOf (by4 (x.length : Int)) ++ (x ++ w) := by rw [e]; simp [List.append_assoc]
    have e3 : u ++ byS x ++ w = (u ++ bytesOf (by4 (x.length : Int))) ++ x ++ w := by rw [e]; simp [List.append_assoc]
    have hv : uV (u ++ byS x ++ w) (u.length : Int) 4 = (x.length : Int) := by
      rw [e2] at hl ⊢
      unfold uV
      rw [(trip4 (x.length : Int) u (x ++ w) (by omega) (by omega) hl).1]
      show (x.length : Int) % 4294967296 = _
      omega
    have hc : code (u ++ byS x ++ w) (u.length : Int) 4 = 0 := by
      rw [e2, List.append_assoc, code_at _ _ (by decide), if_neg (by simp [l4]; omega)]
    have hlen : ((u ++ byS x ++ w).length : Int) = (u.length : Int) + 4 + (x.length : Int) + (w.length : Int) := by rw [e2]; simp [l4]; omega
    have hs : seg (u ++ byS x ++ w) ((u.length : Int) + 4) (x.length : Int) = x := by
      have h4 : (u.length : Int) + 4 = ((u ++ bytesOf (by4 (x.length : Int))).length : Int) := by simp [l4]
      rw [e3, h4]
      unfold seg
      exact take_mid _ x w
    unfold byI
    dsimp only
    rw [hc, hv, hs, hlen, if_pos rfl, if_neg (by omega), if_neg (by omega)]
    refine ⟨rfl, rfl, ?_⟩
    rw [e, List.length_append, l4]; omega

theorem fw_seq {α β : Type} {T : List UInt8 → It α} {U : List UInt8 → It β} {g : α → List UInt8} {k : β → List UInt8} {p : α → Prop} {q : β → Prop} (ht : Fw T g p) (hu : Fw U k q) :
    Fw (fun s => seqI (T s) (U s)) (fun x => g x.1 ++ k x.2) (fun x => p x.1 ∧ q x.2) where
  h x u w hx hl := by
    obtain ⟨x, y⟩ := x
    dsimp only at *
    have e1 : u ++ (g x ++ k y) ++ w = u ++ g x ++ (k y ++ w) := by simp [List.append_assoc]
    have e2 : u ++ (g x ++ k y) ++ w = (u ++ g x) ++ k y ++ w := by simp [List.append_assoc]
    have hl1 := hl
    rw [e1] at hl1
    obtain ⟨a1, a2, a3⟩ := ht.h x u (k y ++ w) hx.1 hl1
    rw [← e1] at a1 a2 a3
    have hl2 := hl
    rw [e2] at hl2
    obtain ⟨b1, b2, b3⟩ := hu.h y (u ++ g x) w hx.2 hl2
    rw [← e2] at b1 b2 b3
    have e3 : ((u ++ g x).length : Int) = (u.length : Int) + ((g x).length : Int) := by simp
    rw [e3] at b1 b2 b3
    unfold seqI
    dsimp only
    rw [a1, a2, a3, if_pos rfl, b1, b2, b3]
    refine ⟨rfl, rfl, ?_⟩
    rw [List.length_append]; omega

theorem fw_map {α β : Type} {T : List UInt8 → It α} {g : α → List UInt8} {k : β → List UInt8} {p : α → Prop} {q : β → Prop} (f : α → β) (f' : β → α) (hf : ∀ y, f (f' y) = y) (ht : Fw T g p) (hg : ∀ y, k y = g (f' y)) (hp : ∀ y, q y → p (f' y)) : Fw (fun s => mapI f (T s)) k q where
  h y u w hy hl := by
    rw [hg] at hl ⊢
    obtain ⟨a1, a2, a3⟩ := ht.h (f' y) u w (hp y hy) hl
    exact ⟨a1, by show f ((T _).c _) = y; rw [a2, hf], a3⟩

theorem fw_all {α : Type} {T : List UInt8 → It α} {g : α → List UInt8} {p : α → Prop} (ht : Fw T g p) : ∀ (l : List α), (∀ x ∈ l, p x) → ∀ (u w : List UInt8), big (u ++ (l.map g).flatten ++ w) →
    rE (T (u ++ (l.map g).flatten ++ w)) l.length (u.length : Int) = 0 ∧ rL (T (u ++ (l.map g).flatten ++ w)) l.length (u.length : Int) = l ∧ rA (T (u ++ (l.map g).flatten ++ w)) l.length (u.length : Int) = (u.length : Int) + ((l.map g).flatten.length : Int)
  | [], _, u, w, _ => ⟨rfl, rfl, by simp [rA]⟩
  | x :: l, h, u, w, hl => by
    have e1 : u ++ ((x :: l).map g).flatten ++ w = u ++ g x ++ ((l.map g).flatten ++ w) := by simp [List.append_assoc]
    have e2 : u ++ ((x :: l).map g).flatten ++ w = (u ++ g x) ++ (l.map g).flatten ++ w := by simp [List.append_assoc]
    have hl1 := hl
    rw [e1] at hl1
    obtain ⟨a1, a2, a3⟩ := ht.h x u ((l.map g).flatten ++ w) (h x (by simp)) hl1
    rw [← e1] at a1 a2 a3
    have hl2 := hl
    rw [e2] at hl2
    obtain ⟨b1, b2, b3⟩ := fw_all ht l (fun y hy => h y (by simp [hy])) (u ++ g x) w hl2
    have e3 : ((u ++ g x).length : Int) = (u.length : Int) + ((g x).length : Int) := by simp
    rw [← e2, e3] at b1 b2 b3
    rw [List.length_cons, rE, rL, rA, a1, a2, a3, if_pos rfl, b1, b2, b3]
    refine ⟨rfl, rfl, ?_⟩
    rw [List.map_cons, List.flatten_cons, List.length_append]; omega

theorem fw_ls {α : Type} {T : List UInt8 → It α} {g : α → List UInt8} {p : α → Prop} {m : Int} (hm : m ≤ 65535) (ht : Fw T g p) :
    Fw (fun s => lsI s m (T s)) (fun l => putS (l.length : Int) 2 ++ (l.map g).flatten) (fun l => (l.length : Int) ≤ m ∧ ∀ x ∈ l, p x) where
  h l u w hx hl := by
    have h2 := pS2 (x := (l.length : Int)) (by omega)
    have e1 : u ++ (putS (l.length : Int) 2 ++ (l.map g).flatten) ++ w = u ++ bytesOf (by2 (l.length : Int)) ++ ((l.map g).flatten ++ w) := by rw [h2]; simp [List.append_assoc]
    have e2 : u ++ (putS (l.length : Int) 2 ++ (l.map g).flatten) ++ w = (u ++ bytesOf (by2 (l.length : Int))) ++ (l.map g).flatten ++ w := by rw [h2]; simp [List.append_assoc]
    have c1 : code (u ++ (putS (l.length : Int) 2 ++ (l.map g).flatten) ++ w) (u.length : Int) 2 = 0 := by rw [e1, List.append_assoc, code_at _ _ (by decide), if_neg (by simp [l2]; omega)]
    have v1 : uV (u ++ (putS (l.length : Int) 2 ++ (l.map g).flatten) ++ w) (u.length : Int) 2 = (l.length : Int) := by rw [e1] at hl ⊢; exact rd2 (by omega) hl
    have hcnt : cnt (u ++ (putS (l.length : Int) 2 ++ (l.map g).flatten) ++ w) (u.length : Int) = l.length := by unfold cnt; rw [v1]; omega
    have hE : cE (u ++ (putS (l.length : Int) 2 ++ (l.map g).flatten) ++ w) m (u.length : Int) = 0 := by unfold cE; rw [c1, v1, if_pos rfl, if_neg (by omega)]
    have hl2' := hl
    rw [e2] at hl2'
    obtain ⟨b1, b2, b3⟩ := fw_all ht l hx.2 (u ++ bytesOf (by2 (l.length : Int))) w hl2'
    have e3 : ((u ++ bytesOf (by2 (l.length : Int))).length : Int) = (u.length : Int) + 2 := by simp [l2]
    rw [← e2, e3] at b1 b2 b3
    unfold lsI
    dsimp only
    rw [hE, hcnt, if_pos rfl, b1, b2, b3]
    refine ⟨rfl, rfl, ?_⟩
    rw [h2, List.length_append, l2]; omega

/-! ### The parts of a class file -/

theorem bk_attr {s : List UInt8} (hl : big s) : Bk s (attrI s) attrS (fun a => attrFit a = true) :=
  bk_map mkA (bk_seq (bk_num hl) (bk_by hl)) (fun _ => rfl) (fun x h => by
    obtain ⟨h1, h2⟩ := h
    show (fit x.1 && fit (x.2.length : Int)) = true
    rw [h1, Bool.true_and]; unfold fit; exact decide_eq_true ⟨by omega, by omega⟩)
theorem bk_attrs {s : List UInt8} (hl : big s) : Bk s (attrsI s) attrsS (fun l => (l.length : Int) ≤ 16 ∧ ∀ a ∈ l, attrFit a = true) := bk_ls hl 16 (bk_attr hl)
def memP (m : T_api_Member) : Prop := memFit m = true ∧ (m.f_Attributes.length : Int) ≤ 16
theorem bk_mem {s : List UInt8} (hl : big s) : Bk s (memI s) memS memP :=
  bk_map mkM (bk_seq (bk_num hl) (bk_seq (bk_num hl) (bk_seq (bk_num hl) (bk_attrs hl)))) (fun _ => rfl) (fun x h => by
    obtain ⟨h1, h2, h3, h4, h5⟩ := h
    refine ⟨?_, h4⟩
    show (fit x.1 && (fit x.2.1 && (fit x.2.2.1 && x.2.2.2.all attrFit))) = true
    rw [h1, h2, h3, List.all_eq_true.2 h5]; rfl)
theorem bk_mems {s : List UInt8} (hl : big s) : Bk s (memsI s) memsS (fun l => (l.length : Int) ≤ 64 ∧ ∀ m ∈ l, memP m) := bk_ls hl 64 (bk_mem hl)
def ifcS (l : List Int) : List UInt8 := putS (l.length : Int) 2 ++ numsS l
theorem bk_ifc {s : List UInt8} (hl : big s) : Bk s (ifcI s) ifcS (fun l => (l.length : Int) ≤ 8 ∧ ∀ x ∈ l, fit x = true) := bk_ls hl 8 (bk_num hl)

/-- What is known of what was read. -/
structure restP (f : T_api_File) : Prop where
  a : fit f.f_Flags = true
  b : fit f.f_This = true
  c : fit f.f_Super = true
  i : (f.f_Interfaces.length : Int) ≤ 8 ∧ ∀ x ∈ f.f_Interfaces, fit x = true
  m : (f.f_Fields.length : Int) ≤ 64 ∧ ∀ m ∈ f.f_Fields, memP m
  n : (f.f_Methods.length : Int) ≤ 64 ∧ ∀ m ∈ f.f_Methods, memP m
  t : (f.f_Attributes.length : Int) ≤ 16 ∧ ∀ a ∈ f.f_Attributes, attrFit a = true
theorem bk_rest {s : List UInt8} (hl : big s) (p : List T_api_Const) : Bk s (mapI (mkF p) (restI s)) restS restP :=
  bk_map (mkF p) (bk_seq (bk_num hl) (bk_seq (bk_num hl) (bk_seq (bk_num hl) (bk_seq (bk_ifc hl) (bk_seq (bk_mems hl) (bk_seq (bk_mems hl) (bk_attrs hl))))))) (fun x => by
    unfold restS mkF ifcS numS
    simp only [List.append_assoc]) (fun x h => ⟨h.1, h.2.1, h.2.2.1, h.2.2.2.1, h.2.2.2.2.1, h.2.2.2.2.2.1, h.2.2.2.2.2.2⟩)

theorem fw_attr : Fw attrI attrS (fun a => attrFit a = true) :=
  fw_map mkA (fun a => (a.f_NameIndex, a.f_Bytes)) (fun _ => rfl) (fw_seq fw_num fw_by) (fun _ => rfl) (fun a h => by
    unfold attrFit at h
    rw [Bool.and_eq_true] at h
    have h2 : 0 ≤ (a.f_Bytes.length : Int) ∧ (a.f_Bytes.length : Int) ≤ 65535 := by simpa [fit] using h.2
    exact ⟨h.1, by show a.f_Bytes.length ≤ 65535; omega⟩)
theorem fw_attrs : Fw attrsI attrsS (fun l => (l.length : Int) ≤ 16 ∧ ∀ a ∈ l, attrFit a = true) := fw_ls (by decide) fw_attr
theorem fw_mem : Fw memI memS memP :=
  fw_map mkM (fun m => (m.f_Flags, m.f_Name, m.f_Desc, m.f_Attributes)) (fun _ => rfl) (fw_seq fw_num (fw_seq fw_num (fw_seq fw_num fw_attrs))) (fun _ => rfl) (fun m h => by
    obtain ⟨h1, h2⟩ := h
    unfold memFit at h1
    simp only [Bool.and_eq_true] at h1
    exact ⟨h1.1, h1.2.1, h1.2.2.1, h2, List.all_eq_true.1 h1.2.2.2⟩)
theorem fw_mems : Fw memsI memsS (fun l => (l.length : Int) ≤ 64 ∧ ∀ m ∈ l, memP m) := fw_ls (by decide) fw_mem
theorem fw_ifc : Fw ifcI ifcS (fun l => (l.length : Int) ≤ 8 ∧ ∀ x ∈ l, fit x = true) := fw_ls (by decide) fw_num
def unF (f : T_api_File) : Int × Int × Int × List Int × List T_api_Member × List T_api_Member × List T_api_Attr := (f.f_Flags, f.f_This, f.f_Super, f.f_Interfaces, f.f_Fields, f.f_Methods, f.f_Attributes)
theorem fw_file {f : T_api_File} (hf : restP f) {u w : List UInt8} (hl : big (u ++ restS f ++ w)) : (restI (u ++ restS f ++ w)).e (u.length : Int) = 0 ∧ mkF f.f_Pool ((restI (u ++ restS f ++ w)).c (u.length : Int)) = f ∧ (restI (u ++ restS f ++ w)).n (u.length : Int) = (u.length : Int) + ((restS f).length : Int) := by
  have e : restS f = numS (unF f).1 ++ (numS (unF f).2.1 ++ (numS (unF f).2.2.1 ++ (ifcS (unF f).2.2.2.1 ++ (memsS (unF f).2.2.2.2.1 ++ (memsS (unF f).2.2.2.2.2.1 ++ attrsS (unF f).2.2.2.2.2.2))))) := by
    unfold restS unF ifcS numS
    simp only [List.append_assoc]
  rw [e] at hl ⊢
  obtain ⟨a1, a2, a3⟩ := (fw_seq fw_num (fw_seq fw_num (fw_seq fw_num (fw_seq fw_ifc (fw_seq fw_mems (fw_seq fw_mems fw_attrs)))))).h (unF f) u w ⟨hf.a, hf.b, hf.c, hf.i, hf.m, hf.n, hf.t⟩ hl
  exact ⟨a1, (congrArg (mkF f.f_Pool) a2).trans rfl, a3⟩

theorem rest_of {f : T_api_File} (h1 : cntOk f = true) (h2 : numFit f = true) : restP f := by
  unfold cntOk at h1
  unfold numFit at h2
  simp only [Bool.and_eq_true, decide_eq_true_eq, List.all_eq_true] at h1 h2
  obtain ⟨i1, i2, i3, i4, i5, i6⟩ := h1
  obtain ⟨j1, j2, j3, j4, j5, j6, j7⟩ := h2
  exact ⟨j1, j2, j3, ⟨i1, j4⟩, ⟨i2, fun m hm => ⟨j5 m hm, by simpa [few] using i5 m hm⟩⟩, ⟨i3, fun m hm => ⟨j6 m hm, by simpa [few] using i6 m hm⟩⟩, ⟨i4, j7⟩⟩
theorem of_rest {f : T_api_File} (h : restP f) : cntOk f = true ∧ numFit f = true := by
  unfold cntOk numFit
  simp only [Bool.and_eq_true, decide_eq_true_eq, List.all_eq_true]
  exact ⟨⟨h.i.1, h.m.1, h.n.1, h.t.1, fun m hm => decide_eq_true (h.m.2 m hm).2, fun m hm => decide_eq_true (h.n.2 m hm).2⟩, h.a, h.b, h.c, h.i.2, fun m hm => (h.m.2 m hm).1, fun m hm => (h.n.2 m hm).1, h.t.2⟩
theorem attr_small {a : T_api_Attr} (h : attrFit a = true) : a.f_Bytes.length ≤ 1048576 := by
  unfold attrFit at h
  rw [Bool.and_eq_true] at h
  have h2 : 0 ≤ (a.f_Bytes.length : Int) ∧ (a.f_Bytes.length : Int) ≤ 65535 := by simpa [fit] using h.2
  omega
theorem mem_small {m : T_api_Member} (h : memP m) : okA m.f_Attributes := by
  obtain ⟨h1, h2⟩ := h
  unfold memFit at h1
  simp only [Bool.and_eq_true, List.all_eq_true] at h1
  exact ⟨by omega, fun a ha => attr_small (h1.2.2.2 a ha)⟩
theorem rest_ok {f : T_api_File} (h : restP f) (hp : shortP f.f_Pool) : okF f :=
  ⟨hp, by have := h.i.1; omega, by have := h.m.1; omega, fun m hm => mem_small (h.m.2 m hm), by have := h.n.1; omega, fun m hm => mem_small (h.n.2 m hm), ⟨by have := h.t.1; omega, fun a ha => attr_small (h.t.2 a ha)⟩⟩

/-! ### The pool -/

theorem tk_ranged {s : List UInt8} (hl : big s) {a : Int} (h : tkE s a = 0) : -9223372036854775808 ≤ (tkC s a).f_N ∧ (tkC s a).f_N ≤ 9223372036854775807 := by
  unfold tkE at h
  unfold tkC
  by_cases h0 : code s a 1 = 0
  case neg => rw [if_pos h0] at h; cases h
  rw [if_neg (by simpa using h0)] at h
  generalize tg s a = t at *
  by_cases n1 : t = 1
  · rw [if_pos n1]; exact ⟨(by decide : (-9223372036854775808 : Int) ≤ 0), (by decide : (0 : Int) ≤ 9223372036854775807)⟩
  rw [if_neg n1] at h ⊢
  by_cases n3 : t = 3
  · rw [if_pos n3] at h ⊢
    have hc : code s (a + 1) 4 = 0 := by
      by_cases hc : code s (a + 1) 4 = 0
      · exact hc
      · rw [if_neg hc] at h; cases h
    have := back4 hl hc
    exact ⟨by show _ ≤ sV s (a + 1) 4; omega, by show sV s (a + 1) 4 ≤ _; omega⟩
  rw [if_neg n3] at h ⊢
  by_cases n5 : t = 5
  · rw [if_pos n5] at h ⊢
    have hc : code s (a + 1) 8 = 0 := by
      by_cases hc : code s (a + 1) 8 = 0
      · exact hc
      · rw [if_neg hc] at h; cases h
    exact (back8 hl hc).2
  rw [if_neg n5]
  split <;> exact ⟨(by decide : (-9223372036854775808 : Int) ≤ 0), (by decide : (0 : Int) ≤ 9223372036854775807)⟩
theorem pL_ranged {s : List UInt8} (hl : big s) : ∀ (k : Nat) (a : Int), pE s k a = 0 → ranged (pL s k a)
  | 0, _, _ => fun c hc => by cases hc
  | k + 1, a, h => by
    unfold pE at h
    by_cases ht : tkE s a = 0
    case neg => rw [if_neg ht] at h; exact absurd h ht
    rw [if_pos ht] at h
    intro c hc
    unfold pL at hc
    rcases List.mem_cons.1 hc with rfl | hc
    · exact tk_ranged hl ht
    · exact pL_ranged hl k _ h c hc

theorem back_pool {s : List UInt8} (hs : s.length ≤ 1048576) {a : Int} {r : List T_api_Const × Int × Int} (hr : decF s a = some r) (he : r.2.2 = 0) :
    0 ≤ a ∧ a ≤ r.2.1 ∧ r.2.1 ≤ (s.length : Int) ∧ encS r.1 = seg s a (r.2.1 - a) ∧ shortP r.1 ∧ ranged r.1 ∧ ∃ v, m_pool_Check r.1 = some v ∧ v.2 = 0 := by
  have hl : big s := by unfold big; omega
  unfold decF at hr
  by_cases k1 : a < 0 ∨ a > (s.length : Int)
  · rw [if_pos k1] at hr; cases hr; cases he
  rw [if_neg k1] at hr
  by_cases k2 : code s a 2 = 0
  case neg => rw [if_pos (c := code s a 2 ≠ 0) k2] at hr; cases hr; cases he
  rw [if_neg (c := code s a 2 ≠ 0) (fun x => x k2)] at hr
  by_cases k3 : pE s (cnt s a) (a + 2) = 0
  case neg => rw [if_pos (c := pE s (cnt s a) (a + 2) ≠ 0) k3] at hr; cases hr; exact absurd he k3
  rw [if_neg (c := pE s (cnt s a) (a + 2) ≠ 0) (fun x => x k3)] at hr
  obtain ⟨q1, q2⟩ := pL_short (s := s) (cnt s a) (a + 2)
  obtain ⟨r0, r1⟩ := uV_range hl k2
  have hsh : shortP (pL s (cnt s a) (a + 2)) := ⟨by rw [q1]; unfold cnt; omega, fun c hc => by have := q2 c hc; omega⟩
  obtain ⟨v, v1, v2⟩ := Check_same _ hsh
  rw [v1] at hr
  simp only [Option.map_some, Option.some.injEq] at hr
  by_cases k4 : v.2 = 0
  case neg => rw [if_pos (c := v.2 ≠ 0) k4] at hr; subst hr; exact absurd he k4
  rw [if_neg (c := v.2 ≠ 0) (fun x => x k4)] at hr
  subst hr
  obtain ⟨g0, g1⟩ := code_ok (by decide) k2
  obtain ⟨b0, b1, b2⟩ := back_all hl (cnt s a) (a + 2) (by omega) (by omega) k3
  have hcn : ((pL s (cnt s a) (a + 2)).length : Int) = uV s a 2 := by rw [q1]; unfold cnt; omega
  refine ⟨g0, by show a ≤ pA s _ _; omega, b1, ?_, hsh, pL_ranged hl _ _ k3, v, v1, k4⟩
  show encS (pL s (cnt s a) (a + 2)) = seg s a (pA s (cnt s a) (a + 2) - a)
  unfold encS
  rw [hcn, pS2 ⟨r0, by omega⟩, back2 hl k2, b2, seg_app g0 (by decide) (by omega)]
  congr 1; omega

/-! ### Whole class files -/

theorem hasP_hdr (w : List UInt8) : hasP (hdr ++ w) hdr = true := by unfold hasP hdr; simp [List.isPrefixOf]
theorem hdr_of {s : List UInt8} (h : hasP s hdr = true) : s.take 6 = hdr ∧ 6 ≤ s.length := by
  have h1 : hdr <+: s := List.isPrefixOf_iff_prefix.1 h
  obtain ⟨t, rfl⟩ := h1
  exact ⟨by simp [hdr], by simp [hdr]⟩

/-- What was read without error is the encoding of what was read. -/
theorem back_file {s : List UInt8} {r : List T_api_Const × Int × Int} (hs : s.length ≤ 1048576) (hr : decF s 6 = some r) {f : T_api_File} (h : decFile s r = (f, 0)) :
    f.f_Pool = r.1 ∧ restP f ∧ shortP f.f_Pool ∧ ranged f.f_Pool ∧ fileS f = s ∧ ∃ v, m_pool_Check f.f_Pool = some v ∧ v.2 = 0 := by
  have hl : big s := by unfold big; omega
  unfold decFile at h
  rw [if_neg (by omega)] at h
  cases hh : hasP s hdr
  · rw [hh, if_pos rfl] at h; cases h
  rw [hh, if_neg (by decide)] at h
  unfold decR at h
  by_cases h2 : r.2.2 = 0
  case neg => rw [if_pos h2] at h; exact absurd (congrArg Prod.snd h) h2
  rw [if_neg (fun x => x h2)] at h
  by_cases h3 : (restI s).e r.2.1 = 0
  case neg =>
    rw [if_pos h3] at h
    have := congrArg Prod.snd h
    exact absurd this h3
  rw [if_neg (fun x => x h3)] at h
  by_cases h4 : (restI s).n r.2.1 < (s.length : Int)
  · rw [if_pos h4] at h; cases h
  rw [if_neg h4] at h
  cases h
  obtain ⟨-, p1, p2, p3, p4, p5, p6⟩ := back_pool hs hr h2
  obtain ⟨a1, a2, a3, a4⟩ := (bk_rest hl r.1).h r.2.1 (by omega) p2 h3
  refine ⟨rfl, a4, p4, p5, ?_, p6⟩
  obtain ⟨t1, t2⟩ := hdr_of hh
  have e0 : hdr = seg s 0 6 := by rw [← t1]; simp [seg]
  change (restI s).n r.2.1 ≤ (s.length : Int) at a2
  change r.2.1 ≤ (restI s).n r.2.1 at a1
  change restS (mkF r.1 ((restI s).c r.2.1)) = seg s r.2.1 ((restI s).n r.2.1 - r.2.1) at a3
  unfold fileS
  rw [a3, show (mkF r.1 ((restI s).c r.2.1)).f_Pool = r.1 from rfl, p3]
  have q1 := seg_app (s := s) (a := 6) (n := r.2.1 - 6) (m := (restI s).n r.2.1 - r.2.1) (by decide) (by omega) (by omega)
  rw [show (6 : Int) + (r.2.1 - 6) = r.2.1 by omega] at q1
  rw [q1, e0]
  have q2 := seg_app (s := s) (a := 0) (n := 6) (m := r.2.1 - 6 + ((restI s).n r.2.1 - r.2.1)) (by decide) (by decide) (by omega)
  rw [show (0 : Int) + 6 = 6 from rfl] at q2
  rw [q2]
  unfold seg
  rw [show ((0 : Int)).toNat = 0 from rfl, List.drop_zero, List.take_of_length_le (by omega)]

/-- An encoding is read back, with what follows told. -/
theorem fwd_file {f : T_api_File} (hf : restP f) (hp : shortP f.f_Pool) (hr : ranged f.f_Pool) {v : Int × Int} (hv : m_pool_Check f.f_Pool = some v) (h0 : v.2 = 0) {w : List UInt8} (hs : (fileS f ++ w).length ≤ 1048576) :
    ∃ r, decF (fileS f ++ w) 6 = some r ∧ decFile (fileS f ++ w) r = if w = [] then (f, 0) else (F0, 10) := by
  have hsm := short_small hp hv h0
  have e1 : fileS f ++ w = hdr ++ encS f.f_Pool ++ (restS f ++ w) := by unfold fileS; simp [List.append_assoc]
  have e2 : fileS f ++ w = (hdr ++ encS f.f_Pool) ++ restS f ++ w := by unfold fileS; simp [List.append_assoc]
  have hlen : (restS f ++ w).length ≤ 1048576 := by rw [e1, List.length_append] at hs; omega
  have hd := dec_enc hsm hr hv h0 hdr (restS f ++ w) (by decide) (by omega)
  rw [← e1, show ((hdr.length : Nat) : Int) = 6 from rfl] at hd
  refine ⟨_, hd, ?_⟩
  have hb : big ((hdr ++ encS f.f_Pool) ++ restS f ++ w) := by rw [← e2]; unfold big; omega
  obtain ⟨a1, a2, a3⟩ := fw_file hf hb
  have e3 : ((hdr ++ encS f.f_Pool).length : Int) = 6 + ((encS f.f_Pool).length : Int) := by rw [List.length_append]; simp [hdr]
  rw [← e2, e3] at a1 a2 a3
  have hhd : hasP (fileS f ++ w) hdr = true := by unfold fileS; rw [List.append_assoc]; exact hasP_hdr _
  unfold decFile decR
  rw [if_neg (by omega), hhd, if_neg (by decide), if_neg (fun x => x rfl)]
  dsimp only
  have hL : ((fileS f ++ w).length : Int) = 6 + ((encS f.f_Pool).length : Int) + ((restS f).length : Int) + (w.length : Int) := by rw [e2]; simp only [List.length_append]; simp [hdr]
  rw [if_neg (fun x => x a1), a3, a2, hL]
  cases w with
  | nil => rw [if_neg (by simp), if_pos rfl]
  | cons c w => rw [if_pos (by simp; omega), if_neg (by simp)]
end Go.Proofs
