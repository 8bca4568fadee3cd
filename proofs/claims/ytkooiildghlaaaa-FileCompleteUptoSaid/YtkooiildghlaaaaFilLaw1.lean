/-
  What file.Encode and its reference compute. No condition but on the sizes that a statement gives.
-/
import Derived.Test.YtkooiildghlaaaaFilPcd
namespace Go.Proofs
open Go.Den

theorem works11 : m_armaturelaw11_works = some true := by kernel_rfl

/-! ### Loops over a list -/

theorem wI1 {i : Nat} (h : i ≤ 1000000000000000000) : IntKind.wrap .i64 ((i : Int) + 1) = ((i + 1 : Nat) : Int) := by rw [wrapI64]; omega
theorem idxK_some {i n : Nat} (h : i < n) : idxK (i : Int) n = some i := by unfold idxK; rw [if_pos (by omega)]; simp

theorem all_loop {α R : Type} {l : List α} (p : α → Bool) (r : R) {L : Int → Option (Ctl Int (Unit ⊕ R))}
    (hin : ∀ i (h : i < l.length), L (i : Int) = some (if p l[i] = true then .next ((i + 1 : Nat) : Int) else .done (.inr r)))
    (hout : L (l.length : Int) = some (.done (.inl ()))) :
    ∀ (k i fuel : Nat), i + k = l.length → k < fuel → loopM L fuel (i : Int) = some (if (l.drop i).all p = true then .inl () else .inr r)
  | 0, i, fuel + 1, h, _ => by
    obtain rfl : i = l.length := by omega
    rw [loopM, hout]; simp
  | k + 1, i, fuel + 1, h, hf => by
    have hlt : i < l.length := by omega
    rw [loopM, hin i hlt, List.drop_eq_getElem_cons hlt, List.all_cons]
    by_cases hp : p l[i] = true
    · rw [if_pos hp, hp, Bool.true_and]
      exact all_loop p r hin hout k (i + 1) fuel (by omega) (by omega)
    · rw [if_neg hp, show p l[i] = false by simpa using hp]; rfl

theorem all_loop0 {α R : Type} {l : List α} (p : α → Bool) (r : R) {L : Int → Option (Ctl Int (Unit ⊕ R))} (hl : l.length ≤ 1000000000000000000)
    (hin : ∀ i (h : i < l.length), L (i : Int) = some (if p l[i] = true then .next ((i + 1 : Nat) : Int) else .done (.inr r)))
    (hout : L (l.length : Int) = some (.done (.inl ()))) : loopM L rounds 0 = some (if l.all p = true then .inl () else .inr r) := by
  have := all_loop p r hin hout l.length 0 rounds (by omega) (by unfold rounds; omega)
  rw [List.drop_zero] at this
  exact this

theorem fold_loop {α : Type} {l : List α} (g : α → List UInt8) (B : Nat) {L : Int × List Int → Option (Ctl (Int × List Int) (List Int))}
    (hin : ∀ i (h : i < l.length) (a : List UInt8), a.length + (g l[i]).length ≤ B → L ((i : Int), bytesI a) = some (.next (((i + 1 : Nat) : Int), bytesI (a ++ g l[i]))))
    (hout : ∀ a, L ((l.length : Int), a) = some (.done a)) :
    ∀ (k i fuel : Nat) (a : List UInt8), i + k = l.length → k < fuel → a.length + ((l.drop i).map g).flatten.length ≤ B → loopM L fuel ((i : Int), bytesI a) = some (bytesI (a ++ ((l.drop i).map g).flatten))
  | 0, i, fuel + 1, a, h, _, _ => by
    obtain rfl : i = l.length := by omega
    rw [loopM, hout]; simp
  | k + 1, i, fuel + 1, a, h, hf, hB => by
    have hlt : i < l.length := by omega
    rw [List.drop_eq_getElem_cons hlt, List.map_cons, List.flatten_cons, List.length_append] at hB
    rw [loopM, hin i hlt a (by omega), List.drop_eq_getElem_cons hlt, List.map_cons, List.flatten_cons, ← List.append_assoc]
    exact fold_loop g B hin hout k (i + 1) fuel (a ++ g l[i]) (by omega) (by omega) (by rw [List.length_append]; omega)

theorem fold_loop0 {α : Type} {l : List α} (g : α → List UInt8) (B : Nat) {L : Int × List Int → Option (Ctl (Int × List Int) (List Int))} (a : List UInt8) (hl : l.length ≤ 1000000000000000000)
    (hin : ∀ i (h : i < l.length) (a : List UInt8), a.length + (g l[i]).length ≤ B → L ((i : Int), bytesI a) = some (.next (((i + 1 : Nat) : Int), bytesI (a ++ g l[i]))))
    (hout : ∀ a, L ((l.length : Int), a) = some (.done a)) (hB : a.length + (l.map g).flatten.length ≤ B) : loopM L rounds (0, bytesI a) = some (bytesI (a ++ (l.map g).flatten)) := by
  have := fold_loop g B hin hout l.length 0 rounds a (by omega) (by unfold rounds; omega) (by rw [List.drop_zero]; exact hB)
  rw [List.drop_zero] at this
  exact this

theorem foldE_loop {α : Type} {l : List α} (p : α → Bool) (g : α → List UInt8) (B : Nat) {L : List UInt8 × Int → Option (Ctl (List UInt8 × Int) (List UInt8 ⊕ (List UInt8 × Bool)))}
    (hin : ∀ i (h : i < l.length) (a : List UInt8), a.length + (g l[i]).length ≤ B → L (a, (i : Int)) = some (if p l[i] = true then .next (a ++ g l[i], ((i + 1 : Nat) : Int)) else .done (.inr ([], false))))
    (hout : ∀ a, L (a, (l.length : Int)) = some (.done (.inl a))) :
    ∀ (k i fuel : Nat) (a : List UInt8), i + k = l.length → k < fuel → a.length + ((l.drop i).map g).flatten.length ≤ B → loopM L fuel (a, (i : Int)) = some (if (l.drop i).all p = true then .inl (a ++ ((l.drop i).map g).flatten) else .inr ([], false))
  | 0, i, fuel + 1, a, h, _, _ => by
    obtain rfl : i = l.length := by omega
    rw [loopM, hout]; simp
  | k + 1, i, fuel + 1, a, h, hf, hB => by
    have hlt : i < l.length := by omega
    rw [List.drop_eq_getElem_cons hlt, List.map_cons, List.flatten_cons, List.length_append] at hB
    rw [loopM, hin i hlt a (by omega), List.drop_eq_getElem_cons hlt, List.map_cons, List.flatten_cons, ← List.append_assoc, List.all_cons]
    by_cases hp : p l[i] = true
    · rw [if_pos hp, hp, Bool.true_and]
      exact foldE_loop p g B hin hout k (i + 1) fuel (a ++ g l[i]) (by omega) (by omega) (by rw [List.length_append]; omega)
    · rw [if_neg hp, show p l[i] = false by simpa using hp]; rfl

theorem foldE_loop0 {α : Type} {l : List α} (p : α → Bool) (g : α → List UInt8) (B : Nat) {L : List UInt8 × Int → Option (Ctl (List UInt8 × Int) (List UInt8 ⊕ (List UInt8 × Bool)))} (a : List UInt8) (hl : l.length ≤ 1000000000000000000)
    (hin : ∀ i (h : i < l.length) (a : List UInt8), a.length + (g l[i]).length ≤ B → L (a, (i : Int)) = some (if p l[i] = true then .next (a ++ g l[i], ((i + 1 : Nat) : Int)) else .done (.inr ([], false))))
    (hout : ∀ a, L (a, (l.length : Int)) = some (.done (.inl a))) (hB : a.length + (l.map g).flatten.length ≤ B) : loopM L rounds (a, 0) = some (if l.all p = true then .inl (a ++ (l.map g).flatten) else .inr ([], false)) := by
  have := foldE_loop p g B hin hout l.length 0 rounds a (by omega) (by unfold rounds; omega) (by rw [List.drop_zero]; exact hB)
  rw [List.drop_zero] at this
  exact this

theorem flat_len {α : Type} (g : α → List UInt8) (c : Nat) : ∀ (l : List α), (∀ x ∈ l, (g x).length ≤ c) → (l.map g).flatten.length ≤ c * l.length
  | [], _ => by simp
  | x :: l, h => by
    have h1 := flat_len g c l (fun y hy => h y (by simp [hy]))
    have h2 := h x (by simp)
    rw [List.map_cons, List.flatten_cons, List.length_append, List.length_cons, Nat.mul_add]; omega

/-! ### What the encoding is -/

def attrS (a : T_api_Attr) : List UInt8 := putS a.f_NameIndex 2 ++ (putS (a.f_Bytes.length : Int) 4 ++ a.f_Bytes)
def attrsS (l : List T_api_Attr) : List UInt8 := putS (l.length : Int) 2 ++ (l.map attrS).flatten
def memS (m : T_api_Member) : List UInt8 := putS m.f_Flags 2 ++ (putS m.f_Name 2 ++ (putS m.f_Desc 2 ++ attrsS m.f_Attributes))
def memsS (l : List T_api_Member) : List UInt8 := putS (l.length : Int) 2 ++ (l.map memS).flatten
def numS (n : Int) : List UInt8 := putS n 2
def numsS (l : List Int) : List UInt8 := (l.map numS).flatten
def hdr : List UInt8 := [65, 82, 77, 65, 0, 1]
def restS (f : T_api_File) : List UInt8 := putS f.f_Flags 2 ++ (putS f.f_This 2 ++ (putS f.f_Super 2 ++ (putS (f.f_Interfaces.length : Int) 2 ++ (numsS f.f_Interfaces ++ (memsS f.f_Fields ++ (memsS f.f_Methods ++ attrsS f.f_Attributes))))))
def fileS (f : T_api_File) : List UInt8 := hdr ++ (encS f.f_Pool ++ restS f)

def fit (x : Int) : Bool := decide (0 ≤ x ∧ x ≤ 65535)
def attrFit (a : T_api_Attr) : Bool := fit a.f_NameIndex && fit (a.f_Bytes.length : Int)
def memFit (m : T_api_Member) : Bool := fit m.f_Flags && (fit m.f_Name && (fit m.f_Desc && m.f_Attributes.all attrFit))
def numFit (f : T_api_File) : Bool := fit f.f_Flags && (fit f.f_This && (fit f.f_Super && (f.f_Interfaces.all fit && (f.f_Fields.all memFit && (f.f_Methods.all memFit && f.f_Attributes.all attrFit)))))
def few (m : T_api_Member) : Bool := decide ((m.f_Attributes.length : Int) ≤ 16)
def cntOk (f : T_api_File) : Bool := decide ((f.f_Interfaces.length : Int) ≤ 8) && (decide ((f.f_Fields.length : Int) ≤ 64) && (decide ((f.f_Methods.length : Int) ≤ 64) && (decide ((f.f_Attributes.length : Int) ≤ 16) && (f.f_Fields.all few && f.f_Methods.all few))))

/-- Sizes. -/
def okA (l : List T_api_Attr) : Prop := l.length ≤ 60 ∧ ∀ a ∈ l, a.f_Bytes.length ≤ 1048576
structure okF (f : T_api_File) : Prop where
  pool : shortP f.f_Pool
  ifc : f.f_Interfaces.length ≤ 60
  fl : f.f_Fields.length ≤ 80
  fa : ∀ m ∈ f.f_Fields, okA m.f_Attributes
  ml : f.f_Methods.length ≤ 80
  ma : ∀ m ∈ f.f_Methods, okA m.f_Attributes
  at_ : okA f.f_Attributes

theorem attrS_len {a : T_api_Attr} (h : a.f_Bytes.length ≤ 1048576) : (attrS a).length ≤ 1048592 := by
  unfold attrS
  have h1 := putS_len a.f_NameIndex 2
  have h2 := putS_len (a.f_Bytes.length : Int) 4
  simp only [List.length_append]; omega
theorem attrsS_len {l : List T_api_Attr} (h : okA l) : (attrsS l).length ≤ 62915528 := by
  unfold attrsS
  have h1 := putS_len (l.length : Int) 2
  have h2 := flat_len attrS 1048592 l (fun a ha => attrS_len (h.2 a ha))
  have h3 := h.1
  rw [List.length_append]; omega
theorem memS_len {m : T_api_Member} (h : okA m.f_Attributes) : (memS m).length ≤ 62915552 := by
  unfold memS
  have h0 := putS_len m.f_Flags 2
  have h1 := putS_len m.f_Name 2
  have h2 := putS_len m.f_Desc 2
  have h3 := attrsS_len h
  simp only [List.length_append]; omega
theorem memsS_len {l : List T_api_Member} (h : l.length ≤ 80) (ha : ∀ m ∈ l, okA m.f_Attributes) : (memsS l).length ≤ 5033244168 := by
  unfold memsS
  have h1 := putS_len (l.length : Int) 2
  have h2 := flat_len memS 62915552 l (fun m hm => memS_len (ha m hm))
  rw [List.length_append]; omega
theorem numsS_len {l : List Int} (h : l.length ≤ 60) : (numsS l).length ≤ 480 := by
  have h2 := flat_len numS 8 l (fun m _ => putS_len m 2)
  unfold numsS; omega

/-! ### The checks -/

theorem ifc_and {a b : Prop} [Decidable a] [Decidable b] : decide (a ∧ b) = (decide a && decide b) := by simp

theorem fits16_eq {l : List Int} (hl : l.length ≤ 1000000000000000000) : m_file_fits16 l = some (l.all fit) := by
  have : loopM (l46x1 l) rounds 0 = some (if l.all fit = true then .inl () else .inr false) := by
    refine all_loop0 fit false hl (fun i h => ?_) ?_
    · unfold l46x1
      rw [if_pos (decide_eq_true (by omega)), getR_some h]
      simp only [Option.bind_some]
      unfold fit
      by_cases h1 : l[i] < 0
      · rw [if_pos (decide_eq_true h1), if_neg (by simp; omega)]
      · rw [if_neg (by simpa using h1)]
        by_cases h2 : l[i] > 65535
        · rw [if_pos (decide_eq_true h2), if_neg (by simp; omega)]
        · rw [if_neg (by simpa using h2), if_pos (by simp; omega), wI1 (by omega)]
    · unfold l46x1
      rw [if_neg (by simp)]
  unfold m_file_fits16
  rw [this]
  cases l.all fit <;> rfl

theorem attributesFit_eq {l : List T_api_Attr} (hl : l.length ≤ 1000000000000000000) : m_file_attributesFit l = some (l.all attrFit) := by
  have : loopM (l47x1 l) rounds 0 = some (if l.all attrFit = true then .inl () else .inr false) := by
    refine all_loop0 attrFit false hl (fun i h => ?_) ?_
    · unfold l47x1
      rw [if_pos (decide_eq_true (by omega)), getR_some h]
      simp only [Option.bind_some]
      rw [fits16_eq (by simp), wI1 (by omega)]
      have : [l[i].f_NameIndex, (l[i].f_Bytes.length : Int)].all fit = attrFit l[i] := by simp [attrFit]
      rw [this]
      cases attrFit l[i] <;> rfl
    · unfold l47x1
      rw [if_neg (by simp)]
  unfold m_file_attributesFit
  rw [this]
  cases l.all attrFit <;> rfl

theorem countsValid_eq {f : T_api_File} (hf : okF f) : m_file_countsValid f = some (cntOk f) := by
  have hi : ∀ ms : List T_api_Member, ms.length ≤ 80 → loopM (l17x2 ms) rounds 0 = some (if ms.all few = true then .inl () else .inr false) := by
    intro ms hl
    refine all_loop0 few false (by omega) (fun i h => ?_) ?_
    · unfold l17x2
      rw [if_pos (decide_eq_true (by omega)), getR_some h]
      simp only [Option.bind_some]
      unfold few
      by_cases h1 : (ms[i].f_Attributes.length : Int) > 16
      · rw [if_pos (decide_eq_true h1), if_neg (by simp; omega)]
      · rw [if_neg (by simpa using h1), if_pos (by simp; omega), wI1 (by omega)]
    · unfold l17x2
      rw [if_neg (by simp)]
  have ho : loopM (l17x1 f) rounds 0 = some (if [f.f_Fields, f.f_Methods].all (fun ms => ms.all few) = true then .inl () else .inr false) := by
    refine all_loop0 (l := [f.f_Fields, f.f_Methods]) (fun ms => ms.all few) false (by simp) (fun i h => ?_) ?_
    · unfold l17x1
      rw [if_pos (decide_eq_true (by omega)), idxK_some h]
      simp only [Option.bind_some]
      rw [List.getElem?_eq_getElem h]
      simp only [Option.bind_some]
      have hl : ([f.f_Fields, f.f_Methods][i]).length ≤ 80 := by
        match i, h with
        | 0, _ => exact hf.fl
        | 1, _ => exact hf.ml
      rw [hi _ hl]
      have h2 : i < 2 := by simpa using h
      simp only [Option.bind_some, wI1 (i := i) (by omega)]
      cases ([f.f_Fields, f.f_Methods][i]).all few <;> rfl
    · unfold l17x1
      rw [if_neg (by simp)]
  unfold m_file_countsValid cntOk j17x1
  rw [ho]
  by_cases h1 : (f.f_Interfaces.length : Int) > 8
  · rw [if_pos (decide_eq_true h1), decide_eq_false (p := (f.f_Interfaces.length : Int) ≤ 8) (by omega), Bool.false_and]
  rw [if_neg (by simpa using h1), decide_eq_true (p := (f.f_Interfaces.length : Int) ≤ 8) (by omega), Bool.true_and]
  by_cases h2 : (f.f_Fields.length : Int) > 64
  · rw [if_pos (decide_eq_true h2), decide_eq_false (p := (f.f_Fields.length : Int) ≤ 64) (by omega), Bool.false_and]
  rw [if_neg (by simpa using h2), decide_eq_true (p := (f.f_Fields.length : Int) ≤ 64) (by omega), Bool.true_and]
  by_cases h3 : (f.f_Methods.length : Int) > 64
  · rw [if_pos (decide_eq_true h3), decide_eq_false (p := (f.f_Methods.length : Int) ≤ 64) (by omega), Bool.false_and]
  rw [if_neg (by simpa using h3), decide_eq_true (p := (f.f_Methods.length : Int) ≤ 64) (by omega), Bool.true_and]
  by_cases h4 : (f.f_Attributes.length : Int) > 16
  · rw [if_pos (decide_eq_true h4), decide_eq_false (p := (f.f_Attributes.length : Int) ≤ 16) (by omega), Bool.false_and]
  rw [if_neg (by simpa using h4), decide_eq_true (p := (f.f_Attributes.length : Int) ≤ 16) (by omega), Bool.true_and]
  simp only [List.all_cons, List.all_nil, Bool.and_true, Option.bind_some]
  cases f.f_Fields.all few <;> cases f.f_Methods.all few <;> rfl

theorem numbersFit_eq {f : T_api_File} (hf : okF f) : m_file_numbersFit f = some (numFit f) := by
  have hi : ∀ ms : List T_api_Member, ms.length ≤ 80 → (∀ m ∈ ms, okA m.f_Attributes) → loopM (l18x2 ms) rounds 0 = some (if ms.all memFit = true then .inl () else .inr false) := by
    intro ms hl ha
    refine all_loop0 memFit false (by omega) (fun i h => ?_) ?_
    · have hA := (ha ms[i] (List.getElem_mem h)).1
      unfold l18x2
      rw [if_pos (decide_eq_true (by omega)), getR_some h]
      simp only [Option.bind_some]
      rw [fits16_eq (by simp), attributesFit_eq (by omega), wI1 (by omega)]
      unfold memFit
      generalize ms[i] = m
      simp only [List.all_cons, List.all_nil, Bool.and_true, Option.bind_some]
      cases fit m.f_Flags <;> cases fit m.f_Name <;> cases fit m.f_Desc <;> cases m.f_Attributes.all attrFit <;> rfl
    · unfold l18x2
      rw [if_neg (by simp)]
  have ho : loopM (l18x1 f) rounds 0 = some (if [f.f_Fields, f.f_Methods].all (fun ms => ms.all memFit) = true then .inl () else .inr false) := by
    refine all_loop0 (l := [f.f_Fields, f.f_Methods]) (fun ms => ms.all memFit) false (by simp) (fun i h => ?_) ?_
    · unfold l18x1
      rw [if_pos (decide_eq_true (by omega)), idxK_some h]
      simp only [Option.bind_some]
      rw [List.getElem?_eq_getElem h]
      simp only [Option.bind_some]
      have hl : ([f.f_Fields, f.f_Methods][i]).length ≤ 80 ∧ ∀ m ∈ [f.f_Fields, f.f_Methods][i], okA m.f_Attributes := by
        match i, h with
        | 0, _ => exact ⟨hf.fl, hf.fa⟩
        | 1, _ => exact ⟨hf.ml, hf.ma⟩
      rw [hi _ hl.1 hl.2]
      have h2 : i < 2 := by simpa using h
      simp only [Option.bind_some, wI1 (i := i) (by omega)]
      cases ([f.f_Fields, f.f_Methods][i]).all memFit <;> rfl
    · unfold l18x1
      rw [if_neg (by simp)]
  unfold m_file_numbersFit numFit j18x1
  rw [ho, fits16_eq (by simp), fits16_eq (by have := hf.ifc; omega), attributesFit_eq (by have := hf.at_.1; omega)]
  simp only [List.all_cons, List.all_nil, Bool.and_true, Option.bind_some]
  cases fit f.f_Flags <;> cases fit f.f_This <;> cases fit f.f_Super <;> cases f.f_Interfaces.all fit <;> cases f.f_Attributes.all attrFit <;> cases f.f_Fields.all memFit <;> cases f.f_Methods.all memFit <;> rfl

/-! ### The writer -/

def wrt (a : List UInt8) : T_file_writer := { f_b := bytesI a }
theorem w_num {a : List UInt8} {x n : Int} (h : a.length ≤ 10000000000000) : m_armature_file_writer_number (wrt a) x n = some (wrt (a ++ putS x n)) := by
  obtain ⟨e, h1, h2⟩ := putS_eq x n
  unfold m_armature_file_writer_number wrt
  rw [h1]
  simp only [Option.bind_some]
  rw [bytesI_app, bytesI_len, grow_ok (by simp only [List.length_append]; omega)]
  rfl

theorem w_attrs {a : List UInt8} {l : List T_api_Attr} (hl : okA l) (h : a.length ≤ 1000000000000) : m_armature_file_writer_attributes (wrt a) l = some (wrt (a ++ attrsS l)) := by
  have h0 := attrsS_len hl
  have h1 := putS_len (l.length : Int) 2
  have hlen := hl.1
  have : loopM (l21x1 l) rounds (0, bytesI (a ++ putS (l.length : Int) 2)) = some (bytesI (a ++ putS (l.length : Int) 2 ++ (l.map attrS).flatten)) := by
    refine fold_loop0 attrS 2000000000000 _ (by omega) (fun i hi b hb => ?_) (fun b => ?_) ?_
    · have hA := hl.2 l[i] (List.getElem_mem hi)
      unfold attrS at hb ⊢
      have p1 := putS_len l[i].f_NameIndex 2
      have p2 := putS_len (l[i].f_Bytes.length : Int) 4
      simp only [List.length_append] at hb
      unfold l21x1
      rw [if_pos (decide_eq_true (by omega)), getR_some hi]
      simp only [Option.bind_some]
      rw [show ({ f_b := bytesI b } : T_file_writer) = wrt b from rfl, w_num (by omega)]
      simp only [Option.bind_some]
      rw [show ({ f_b := (wrt (b ++ putS l[i].f_NameIndex 2)).f_b } : T_file_writer) = wrt (b ++ putS l[i].f_NameIndex 2) from rfl, w_num (by simp only [List.length_append]; omega)]
      simp only [Option.bind_some, wrt]
      rw [bytesI_app, bytesI_len, grow_ok (by simp only [List.length_append]; omega)]
      simp only [Option.bind_some, wI1 (i := i) (by omega), List.append_assoc]
    · unfold l21x1
      rw [if_neg (by simp)]
    · unfold attrsS at h0
      simp only [List.length_append] at h0 ⊢; omega
  unfold m_armature_file_writer_attributes
  rw [show ({ f_b := (wrt a).f_b } : T_file_writer) = wrt a from rfl, w_num (by omega)]
  simp only [Option.bind_some]
  rw [show (wrt (a ++ putS (l.length : Int) 2)).f_b = bytesI (a ++ putS (l.length : Int) 2) from rfl, this]
  unfold attrsS wrt
  rw [List.append_assoc]
  rfl

theorem w_mems {a : List UInt8} {l : List T_api_Member} (hlen : l.length ≤ 80) (hl : ∀ m ∈ l, okA m.f_Attributes) (h : a.length ≤ 100000000000) : m_armature_file_writer_members (wrt a) l = some (wrt (a ++ memsS l)) := by
  have h0 := memsS_len hlen hl
  have h1 := putS_len (l.length : Int) 2
  have : loopM (l20x1 l) rounds (0, bytesI (a ++ putS (l.length : Int) 2)) = some (bytesI (a ++ putS (l.length : Int) 2 ++ (l.map memS).flatten)) := by
    refine fold_loop0 memS 200000000000 _ (by omega) (fun i hi b hb => ?_) (fun b => ?_) ?_
    · have hA := hl l[i] (List.getElem_mem hi)
      unfold memS at hb ⊢
      have p1 := putS_len l[i].f_Flags 2
      have p2 := putS_len l[i].f_Name 2
      have p3 := putS_len l[i].f_Desc 2
      simp only [List.length_append] at hb
      unfold l20x1
      rw [if_pos (decide_eq_true (by omega)), getR_some hi]
      simp only [Option.bind_some]
      rw [show ({ f_b := bytesI b } : T_file_writer) = wrt b from rfl, w_num (by omega)]
      simp only [Option.bind_some]
      rw [show ∀ c, ({ f_b := (wrt c).f_b } : T_file_writer) = wrt c from fun _ => rfl, w_num (by simp only [List.length_append]; omega)]
      simp only [Option.bind_some]
      rw [show ∀ c, ({ f_b := (wrt c).f_b } : T_file_writer) = wrt c from fun _ => rfl, w_num (by simp only [List.length_append]; omega)]
      simp only [Option.bind_some]
      rw [show ∀ c, ({ f_b := (wrt c).f_b } : T_file_writer) = wrt c from fun _ => rfl, w_attrs hA (by simp only [List.length_append]; omega)]
      simp only [Option.bind_some, wI1 (i := i) (by omega), List.append_assoc, wrt]
    · unfold l20x1
      rw [if_neg (by simp)]
    · unfold memsS at h0
      simp only [List.length_append] at h0 ⊢; omega
  unfold m_armature_file_writer_members
  rw [show ({ f_b := (wrt a).f_b } : T_file_writer) = wrt a from rfl, w_num (by omega)]
  simp only [Option.bind_some]
  rw [show (wrt (a ++ putS (l.length : Int) 2)).f_b = bytesI (a ++ putS (l.length : Int) 2) from rfl, this]
  unfold memsS wrt
  rw [List.append_assoc]
  rfl

/-! ### Encode -/

theorem short_small {p : List T_api_Const} (hp : shortP p) {v : Int × Int} (h : m_pool_Check p = some v) (h0 : v.2 = 0) : smallP p := by
  obtain ⟨l0, l1'⟩ := Check_sound hp h h0
  refine ⟨by omega, fun c hc => ?_⟩
  obtain ⟨x, y, hf⟩ := l1' c hc
  by_cases n1 : c.f_Tag = 1
  · have := hf.short n1; omega
  · have hu := hf.used
    unfold badU at hu
    simp only [Bool.or_eq_false_iff, Bool.and_eq_false_iff, bne_eq_false_iff_eq] at hu
    rw [hu.1.1.1.resolve_left n1]; simp

theorem enc_both {p : List T_api_Const} (hp : shortP p) : m_poolcode_Encode p = encF p ∧ m_armatureref06_Encode p = encF p ∧ ∃ v, m_pool_Check p = some v ∧ (v.2 = 0 → smallP p) := by
  obtain ⟨v, hv, hv'⟩ := Check_same p hp
  by_cases h : v.2 = 0
  · have hs := short_small hp hv h
    exact ⟨enc_pool hs, enc_ref hs, v, hv, fun _ => hs⟩
  · refine ⟨?_, ?_, v, hv, fun h0 => absurd h0 h⟩
    · unfold m_poolcode_Encode encF
      rw [hv]
      simp only [Option.bind_some, Option.map_some]
      rw [if_pos (by simp [h]), if_pos h]
    · unfold m_armatureref06_Encode encF
      rw [hv, hv']
      simp only [Option.bind_some, Option.map_some]
      rw [if_pos (by simp [h]), if_pos h]

/-- What Encode gives for a pool's verdict. -/
def fileF (f : T_api_File) (v : Int × Int) : List UInt8 × Int :=
  if v.2 ≠ 0 then ([], v.2) else if cntOk f = false then ([], 5) else if numFit f = false then ([], 8) else if ((fileS f).length : Int) > 1048576 then ([], 8) else (fileS f, 0)

theorem encF_of {p : List T_api_Const} {v : Int × Int} (h : m_pool_Check p = some v) : encF p = some (if v.2 ≠ 0 then ([], v.2) else (encS p, 0)) := by unfold encF; rw [h]; rfl

theorem encode_eq {f : T_api_File} (hf : okF f) {v : Int × Int} (hv : m_pool_Check f.f_Pool = some v) : m_file_Encode f = some (fileF f v) := by
  obtain ⟨h1, -, v', hv', hs⟩ := enc_both hf.pool
  rw [hv] at hv'; cases hv'
  unfold m_file_Encode fileF
  rw [h1, encF_of hv]
  simp only [Option.bind_some]
  by_cases h0 : v.2 = 0
  · have hsm := hs h0
    have e0 : (if v.2 ≠ 0 then ([], v.2) else (encS f.f_Pool, 0)) = ((encS f.f_Pool, 0) : List UInt8 × Int) := if_neg (fun x => x h0)
    rw [e0, if_neg (by simp), if_neg (c := v.2 ≠ 0) (fun x => x h0), countsValid_eq hf, numbersFit_eq hf]
    simp only [Option.bind_some]
    cases cntOk f
    · rfl
    cases numFit f
    · rfl
    have hE := (enc_len hsm).1
    have p1 := putS_len f.f_Flags 2
    have p2 := putS_len f.f_This 2
    have p3 := putS_len f.f_Super 2
    have p4 := putS_len (f.f_Interfaces.length : Int) 2
    have p5 := numsS_len hf.ifc
    have p6 := memsS_len hf.fl hf.fa
    have p7 := memsS_len hf.ml hf.ma
    have hil : f.f_Interfaces.length ≤ 60 := hf.ifc
    simp only [Bool.not_true, Bool.false_eq_true, if_false, Bool.true_eq_false]
    rw [show ([65, 82, 77, 65, 0, 1] : List Int) = bytesI hdr from rfl, bytesI_app, bytesI_len, grow_ok (by simp [hdr]; omega)]
    simp only [Option.bind_some]
    have hh : hdr.length = 6 := rfl
    have hw : ∀ c, ({ f_b := (wrt c).f_b } : T_file_writer) = wrt c := fun _ => rfl
    rw [show ({ f_b := bytesI (hdr ++ encS f.f_Pool) } : T_file_writer) = wrt (hdr ++ encS f.f_Pool) from rfl, w_num (by simp only [List.length_append]; omega)]
    simp only [Option.bind_some]
    rw [hw, w_num (by simp only [List.length_append]; omega)]
    simp only [Option.bind_some]
    rw [hw, w_num (by simp only [List.length_append]; omega)]
    simp only [Option.bind_some]
    rw [hw, w_num (by simp only [List.length_append]; omega)]
    simp only [Option.bind_some]
    have hloop : ∀ a : List UInt8, a.length ≤ 100000000 → loopM (l10x1 f) rounds (0, (wrt a).f_b) = some (bytesI (a ++ numsS f.f_Interfaces)) := by
      intro a ha
      unfold wrt
      refine fold_loop0 numS 1000000000 _ (by omega) (fun i hi b hb => ?_) (fun b => ?_) ?_
      · unfold l10x1
        rw [if_pos (decide_eq_true (by omega)), getR_some hi]
        simp only [Option.bind_some]
        rw [show ({ f_b := bytesI b } : T_file_writer) = wrt b from rfl, w_num (by omega)]
        simp only [Option.bind_some, wI1 (i := i) (by omega), wrt]
        rfl
      · unfold l10x1
        rw [if_neg (by simp)]
      · unfold numsS at p5; omega
    rw [hloop _ (by simp only [List.length_append]; omega)]
    simp only [Option.bind_some]
    rw [show ∀ c, ({ f_b := bytesI c } : T_file_writer) = wrt c from fun _ => rfl, w_mems hf.fl hf.fa (by simp only [List.length_append]; omega)]
    simp only [Option.bind_some]
    rw [hw, w_mems hf.ml hf.ma (by simp only [List.length_append]; omega)]
    simp only [Option.bind_some]
    rw [hw, w_attrs hf.at_ (by simp only [List.length_append]; omega)]
    simp only [Option.bind_some]
    have hall : ∀ c, c = fileS f → (if decide (((wrt c).f_b.length : Int) > 1048576) = true then some ([], (8 : Int)) else some (bytesOf (wrt c).f_b, 0)) = some (if ((fileS f).length : Int) > 1048576 then ([], 8) else (fileS f, 0)) := by
      rintro c rfl
      unfold wrt
      rw [bytesI_len, bytesOf_I]
      by_cases hb : ((fileS f).length : Int) > 1048576
      · rw [if_pos (decide_eq_true hb), if_pos hb]
      · rw [if_neg (by simpa using hb), if_neg hb]
    refine hall _ ?_
    unfold fileS restS
    simp only [List.append_assoc]
  · have e0 : (if v.2 ≠ 0 then ([], v.2) else (encS f.f_Pool, 0)) = (([], v.2) : List UInt8 × Int) := if_pos h0
    rw [e0, if_pos (by simp [h0]), if_pos h0]

/-! ### The reference -/

theorem many_eq {l : List T_api_Member} (hl : l.length ≤ 80) : m_armatureref11_many l = some (!(decide ((l.length : Int) ≤ 64) && l.all few)) := by
  have : loopM (l23x1 l) rounds 0 = some (if l.all few = true then .inl () else .inr true) := by
    refine all_loop0 few true (by omega) (fun i h => ?_) ?_
    · unfold l23x1
      rw [if_pos (decide_eq_true (by omega)), getR_some h]
      simp only [Option.bind_some]
      unfold few
      by_cases h1 : (l[i].f_Attributes.length : Int) > 16
      · rw [if_pos (decide_eq_true h1), if_neg (by simp; omega)]
      · rw [if_neg (by simpa using h1), if_pos (by simp; omega), wI1 (by omega)]
    · unfold l23x1
      rw [if_neg (by simp)]
  unfold m_armatureref11_many
  rw [this]
  by_cases h1 : (l.length : Int) > 64
  · rw [if_pos (decide_eq_true h1), decide_eq_false (by omega)]; rfl
  · rw [if_neg (by simpa using h1), decide_eq_true (by omega)]
    cases l.all few <;> rfl

theorem two_eq (x : Int) : m_armatureref11_two x = some (if fit x = true then (putS x 2, true) else ([], false)) := by
  obtain ⟨e, h1, -⟩ := putS_eq x 2
  rw [put_same] at h1
  unfold m_armatureref11_two j25x1 fit
  rw [h1]
  by_cases h2 : x < 0
  · rw [if_pos (decide_eq_true h2), if_neg (by simp; omega)]
  rw [if_neg (by simpa using h2)]
  by_cases h3 : x > 65535
  · rw [if_pos (decide_eq_true h3), if_neg (by simp; omega)]
  rw [if_neg (by simpa using h3), if_pos (by simp; omega)]
  rfl

theorem numbers_eq {l : List Int} (hl : l.length ≤ 60) : m_armatureref11_numbers l = some (if l.all fit = true then (numsS l, true) else ([], false)) := by
  have h0 := numsS_len hl
  have : loopM (l24x1 l) rounds ([], 0) = some (if l.all fit = true then .inl ([] ++ (l.map numS).flatten) else .inr ([], false)) := by
    refine foldE_loop0 fit numS 1000000 [] (by omega) (fun i hi a ha => ?_) (fun a => ?_) (by unfold numsS at h0; simp only [List.length_nil]; omega)
    · unfold l24x1
      rw [if_pos (decide_eq_true (by omega)), getR_some hi]
      simp only [Option.bind_some]
      rw [two_eq]
      simp only [Option.bind_some]
      cases hf : fit l[i]
      · rfl
      · simp only [if_true, Bool.not_true, Bool.false_eq_true, if_false]
        rw [cat_ok (by unfold numS at ha; omega)]
        simp only [Option.bind_some, wI1 (i := i) (by omega)]
        rfl
    · unfold l24x1
      rw [if_neg (by simp)]
  unfold m_armatureref11_numbers
  rw [this]
  cases l.all fit <;> rfl

theorem attrs_eq {l : List T_api_Attr} (hl : okA l) : m_armatureref11_attrs l = some (if l.all attrFit = true then (attrsS l, true) else ([], false)) := by
  have h0 := attrsS_len hl
  have hlen := hl.1
  have : loopM (l27x1 l) rounds (putS (l.length : Int) 2, 0) = some (if l.all attrFit = true then .inl (putS (l.length : Int) 2 ++ (l.map attrS).flatten) else .inr ([], false)) := by
    refine foldE_loop0 attrFit attrS 100000000 _ (by omega) (fun i hi a ha => ?_) (fun a => ?_) (by unfold attrsS at h0; rw [List.length_append] at h0; omega)
    · have hA := hl.2 l[i] (List.getElem_mem hi)
      unfold attrS at ha ⊢
      simp only [List.length_append] at ha
      obtain ⟨e, q1, q2⟩ := putS_eq (l[i].f_Bytes.length : Int) 4
      rw [put_same] at q1
      unfold l27x1 j27x1 attrFit
      rw [if_pos (decide_eq_true (by omega)), getR_some hi]
      simp only [Option.bind_some]
      rw [two_eq]
      simp only [Option.bind_some]
      cases hf : fit l[i].f_NameIndex
      · rfl
      · simp only [if_true, Bool.not_true, Bool.false_eq_true, if_false, Bool.true_and]
        by_cases hb : (l[i].f_Bytes.length : Int) > 65535
        · rw [if_pos (decide_eq_true hb), if_neg (by unfold fit; simp; omega)]
        · rw [if_neg (by simpa using hb), if_pos (by unfold fit; simp; omega), q1]
          simp only [Option.bind_some]
          rw [cat_ok (by omega)]
          simp only [Option.bind_some]
          rw [cat_ok (by simp only [List.length_append]; omega)]
          simp only [Option.bind_some]
          rw [cat_ok (by simp only [List.length_append]; omega)]
          simp only [Option.bind_some, wI1 (i := i) (by omega), List.append_assoc]
    · unfold l27x1
      rw [if_neg (by simp)]
  unfold m_armatureref11_attrs
  rw [two_eq, if_pos (by unfold fit; simp; omega)]
  simp only [Option.bind_some]
  rw [this]
  unfold attrsS
  cases l.all attrFit <;> rfl

theorem members_eq {l : List T_api_Member} (hlen : l.length ≤ 80) (hl : ∀ m ∈ l, okA m.f_Attributes) : m_armatureref11_members l = some (if l.all memFit = true then (memsS l, true) else ([], false)) := by
  have h0 := memsS_len hlen hl
  have : loopM (l26x1 l) rounds (putS (l.length : Int) 2, 0) = some (if l.all memFit = true then .inl (putS (l.length : Int) 2 ++ (l.map memS).flatten) else .inr ([], false)) := by
    refine foldE_loop0 memFit memS 10000000000 _ (by omega) (fun i hi a ha => ?_) (fun a => ?_) (by unfold memsS at h0; rw [List.length_append] at h0; omega)
    · have hA := hl l[i] (List.getElem_mem hi)
      unfold memS at ha ⊢
      simp only [List.length_append] at ha
      unfold l26x1 j26x1 memFit
      rw [if_pos (decide_eq_true (by omega)), getR_some hi]
      simp only [Option.bind_some]
      rw [numbers_eq (by simp), attrs_eq hA]
      simp only [Option.bind_some, List.all_cons, List.all_nil, Bool.and_true]
      cases h1 : fit l[i].f_Flags
      · rfl
      cases h2 : fit l[i].f_Name
      · rfl
      cases h3 : fit l[i].f_Desc
      · rfl
      cases h4 : l[i].f_Attributes.all attrFit
      · rfl
      simp only [Bool.and_self, if_true, Bool.not_true, Bool.false_eq_true, if_false]
      have e : numsS [l[i].f_Flags, l[i].f_Name, l[i].f_Desc] = putS l[i].f_Flags 2 ++ (putS l[i].f_Name 2 ++ putS l[i].f_Desc 2) := by simp [numsS, numS]
      rw [e, cat_ok (by simp only [List.length_append]; omega)]
      simp only [Option.bind_some]
      rw [cat_ok (by simp only [List.length_append]; omega)]
      simp only [Option.bind_some, wI1 (i := i) (by omega), List.append_assoc]
    · unfold l26x1
      rw [if_neg (by simp)]
  unfold m_armatureref11_members
  rw [two_eq, if_pos (by unfold fit; simp; omega)]
  simp only [Option.bind_some]
  rw [this]
  unfold memsS
  cases l.all memFit <;> rfl

theorem encode_ref {f : T_api_File} (hf : okF f) {v : Int × Int} (hv : m_pool_Check f.f_Pool = some v) : m_armatureref11_Encode f = some (fileF f v) := by
  obtain ⟨-, h1, v', hv', hs⟩ := enc_both hf.pool
  rw [hv] at hv'; cases hv'
  unfold m_armatureref11_Encode fileF
  rw [h1, encF_of hv]
  simp only [Option.bind_some]
  by_cases h0 : v.2 = 0
  · have hsm := hs h0
    have e0 : (if v.2 ≠ 0 then ([], v.2) else (encS f.f_Pool, 0)) = ((encS f.f_Pool, 0) : List UInt8 × Int) := if_neg (fun x => x h0)
    rw [e0, if_neg (by simp), if_neg (c := v.2 ≠ 0) (fun x => x h0), many_eq hf.fl, many_eq hf.ml]
    simp only [Option.bind_some]
    unfold j11x1 cntOk
    rw [numbers_eq (by simp), two_eq, numbers_eq hf.ifc, members_eq hf.fl hf.fa, members_eq hf.ml hf.ma, attrs_eq hf.at_]
    have hil : f.f_Interfaces.length ≤ 60 := hf.ifc
    rw [if_pos (c := fit (f.f_Interfaces.length : Int) = true) (by unfold fit; simp; omega)]
    by_cases k1 : (f.f_Interfaces.length : Int) > 8
    · rw [if_pos (decide_eq_true k1), decide_eq_false (p := (f.f_Interfaces.length : Int) ≤ 8) (by omega), Bool.false_and, if_pos rfl]
    rw [if_neg (by simpa using k1), decide_eq_true (p := (f.f_Interfaces.length : Int) ≤ 8) (by omega), Bool.true_and]
    by_cases k2 : (f.f_Fields.length : Int) ≤ 64
    · by_cases k3 : (f.f_Methods.length : Int) ≤ 64
      · rw [decide_eq_true k2, decide_eq_true k3]
        simp only [Bool.true_and]
        cases k4 : f.f_Fields.all few
        · simp
        cases k5 : f.f_Methods.all few
        · simp
        by_cases k6 : (f.f_Attributes.length : Int) > 16
        · rw [decide_eq_false (p := (f.f_Attributes.length : Int) ≤ 16) (by omega)]
          simp [k6]
        rw [decide_eq_true (p := (f.f_Attributes.length : Int) ≤ 16) (by omega)]
        simp only [Bool.not_true, Bool.false_eq_true, if_false, Bool.and_self, Bool.true_eq_false]
        rw [if_neg (by simpa using k6)]
        simp only [Option.bind_some, List.all_cons, List.all_nil, Bool.and_true]
        unfold numFit
        cases n1 : fit f.f_Flags
        · rfl
        cases n2 : fit f.f_This
        · rfl
        cases n3 : fit f.f_Super
        · rfl
        cases n4 : f.f_Interfaces.all fit
        · rfl
        cases n5 : f.f_Fields.all memFit
        · rfl
        cases n6 : f.f_Methods.all memFit
        · rfl
        cases n7 : f.f_Attributes.all attrFit
        · rfl
        simp only [Bool.and_self, if_true, Bool.not_true, Bool.false_eq_true, if_false, Bool.true_eq_false]
        have e : numsS [f.f_Flags, f.f_This, f.f_Super] = putS f.f_Flags 2 ++ (putS f.f_This 2 ++ putS f.f_Super 2) := by simp [numsS, numS]
        have hE := (enc_len hsm).1
        have p1 := putS_len f.f_Flags 2
        have p2 := putS_len f.f_This 2
        have p3 := putS_len f.f_Super 2
        have p4 := putS_len (f.f_Interfaces.length : Int) 2
        have p5 := numsS_len hf.ifc
        have p6 := memsS_len hf.fl hf.fa
        have p7 := memsS_len hf.ml hf.ma
        have p8 := attrsS_len hf.at_
        have hh : hdr.length = 6 := rfl
        unfold j11x2
        rw [e, show ([65, 82, 77, 65, 0, 1] : List UInt8) = hdr from rfl]
        dsimp only
        rw [cat_ok (by omega)]
        simp only [Option.bind_some]
        rw [cat_ok (by simp only [List.length_append]; omega)]
        simp only [Option.bind_some]
        rw [cat_ok (by simp only [List.length_append]; omega)]
        simp only [Option.bind_some]
        rw [cat_ok (by simp only [List.length_append]; omega)]
        simp only [Option.bind_some]
        rw [cat_ok (by simp only [List.length_append]; omega)]
        simp only [Option.bind_some]
        rw [cat_ok (by simp only [List.length_append]; omega)]
        simp only [Option.bind_some]
        rw [cat_ok (by simp only [List.length_append]; omega)]
        simp only [Option.bind_some]
        have hall : ∀ c, c = fileS f → (if decide ((c.length : Int) > 1048576) = true then some ([], (8 : Int)) else some (c, 0)) = some (if ((fileS f).length : Int) > 1048576 then ([], 8) else (fileS f, 0)) := by
          rintro c rfl
          by_cases hb : ((fileS f).length : Int) > 1048576
          · rw [if_pos (decide_eq_true hb), if_pos hb]
          · rw [if_neg (by simpa using hb), if_neg hb]
        refine hall _ ?_
        unfold fileS restS
        simp only [List.append_assoc]
      · rw [decide_eq_false k3]
        cases k4 : f.f_Fields.all few <;> simp [k2]
    · rw [decide_eq_false k2]
      simp
  · have e0 : (if v.2 ≠ 0 then ([], v.2) else (encS f.f_Pool, 0)) = (([], v.2) : List UInt8 × Int) := if_pos h0
    rw [e0, if_pos (by simp [h0]), if_pos h0]

/-! ### The smallness that the statements ask -/

theorem sum_loop {l : List T_api_Member} (hl : l.length ≤ 80) (hA : ∀ m ∈ l, m.f_Attributes.length ≤ 140737488355328) {L : Int × Int → Option (Ctl (Int × Int) Int)}
    (hin : ∀ i (h : i < l.length) n, L (n, (i : Int)) = some (.next (IntKind.wrap .i64 (n + (l[i].f_Attributes.length : Int)), IntKind.wrap .i64 ((i : Int) + 1))))
    (hout : ∀ n, L (n, (l.length : Int)) = some (.done n)) :
    ∀ (k i fuel : Nat) (n : Nat), i + k = l.length → k < fuel → n + k * 140737488355328 ≤ 100000000000000000 → ∃ q : Nat, loopM L fuel ((n : Int), (i : Int)) = some (q : Int) ∧ q ≤ n + k * 140737488355328 ∧ n ≤ q ∧ ∀ m ∈ l.drop i, m.f_Attributes.length ≤ q
  | 0, i, fuel + 1, n, h, _, _ => by
    obtain rfl : i = l.length := by omega
    rw [loopM, hout]
    exact ⟨n, rfl, by omega, by omega, fun m hm => by simp at hm⟩
  | k + 1, i, fuel + 1, n, h, hf, hn => by
    have hlt : i < l.length := by omega
    have hAi := hA l[i] (List.getElem_mem hlt)
    have hw : IntKind.wrap .i64 ((n : Int) + (l[i].f_Attributes.length : Int)) = ((n + l[i].f_Attributes.length : Nat) : Int) := by rw [wrapS (by omega) (by omega)]; omega
    rw [loopM, hin i hlt, hw, wI1 (by omega)]
    obtain ⟨q, h1, h2, h3, h4⟩ := sum_loop hl hA hin hout k (i + 1) fuel (n + l[i].f_Attributes.length) (by omega) (by omega) (by omega)
    refine ⟨q, h1, by omega, by omega, fun m hm => ?_⟩
    rw [List.drop_eq_getElem_cons hlt] at hm
    rcases List.mem_cons.1 hm with rfl | hm
    · omega
    · exact h4 m hm

/-- What is known of a file's parts by their sizes. -/
structure capF (f : T_api_File) : Prop where
  ps : ∀ c ∈ f.f_Pool, c.f_S.length ≤ 1048576
  fl : ∀ m ∈ f.f_Fields, m.f_Attributes.length ≤ 140737488355328
  ml : ∀ m ∈ f.f_Methods, m.f_Attributes.length ≤ 140737488355328
  fb : ∀ m ∈ f.f_Fields, ∀ a ∈ m.f_Attributes, a.f_Bytes.length ≤ 1048576
  mb : ∀ m ∈ f.f_Methods, ∀ a ∈ m.f_Attributes, a.f_Bytes.length ≤ 1048576
  ab : ∀ a ∈ f.f_Attributes, a.f_Bytes.length ≤ 1048576

theorem small_eq {f : T_api_File} (hc : capF f) : ∃ b, m_armaturelaw11_small f = some b ∧ (b = true → okF f) := by
  unfold m_armaturelaw11_small
  by_cases h1 : (f.f_Pool.length : Int) > 60
  · rw [if_pos (decide_eq_true h1)]; exact ⟨_, rfl, fun h => by cases h⟩
  rw [if_neg (by simpa using h1)]
  by_cases h2 : (f.f_Fields.length : Int) > 80
  · rw [if_pos (decide_eq_true h2)]; exact ⟨_, rfl, fun h => by cases h⟩
  rw [if_neg (by simpa using h2)]
  by_cases h3 : (f.f_Methods.length : Int) > 80
  · rw [if_pos (decide_eq_true h3)]; exact ⟨_, rfl, fun h => by cases h⟩
  rw [if_neg (by simpa using h3)]
  by_cases h4 : (f.f_Attributes.length : Int) > 20
  · rw [if_pos (decide_eq_true h4)]; exact ⟨_, rfl, fun h => by cases h⟩
  rw [if_neg (by simpa using h4)]
  by_cases h5 : (f.f_Interfaces.length : Int) > 20
  · rw [if_pos (decide_eq_true h5)]; exact ⟨_, rfl, fun h => by cases h⟩
  rw [if_neg (by simpa using h5)]
  obtain ⟨q, q1, q2, -, q4⟩ := sum_loop (L := l8x1 f) (l := f.f_Fields) (by omega) hc.fl (fun i h n => by
    unfold l8x1; rw [if_pos (decide_eq_true (by omega)), getR_some h]; rfl) (fun n => by unfold l8x1; rw [if_neg (by simp)]) f.f_Fields.length 0 rounds 0 (by omega) (by unfold rounds; omega) (by omega)
  obtain ⟨r, r1, r2, r3, r4⟩ := sum_loop (L := l8x2 f) (l := f.f_Methods) (by omega) hc.ml (fun i h n => by
    unfold l8x2; rw [if_pos (decide_eq_true (by omega)), getR_some h]; rfl) (fun n => by unfold l8x2; rw [if_neg (by simp)]) f.f_Methods.length 0 rounds q (by omega) (by unfold rounds; omega) (by omega)
  have e1 : loopM (l8x1 f) rounds (0, 0) = some (q : Int) := q1
  have e2 : loopM (l8x2 f) rounds ((q : Int), 0) = some (r : Int) := r1
  unfold j8x1
  rw [e1]
  simp only [Option.bind_some]
  rw [e2]
  refine ⟨_, rfl, fun h => ?_⟩
  have hr : (r : Int) ≤ 60 := of_decide_eq_true h
  rw [List.drop_zero] at q4 r4
  exact ⟨⟨by omega, hc.ps⟩, by omega, by omega, fun m hm => ⟨by have := q4 m hm; omega, hc.fb m hm⟩, by omega, fun m hm => ⟨by have := r4 m hm; omega, hc.mb m hm⟩, ⟨by omega, hc.ab⟩⟩

theorem law_FileEncode (f : T_api_File) (hc : capF f) : m_armaturelaw11_FileEncode f = some true := by
  obtain ⟨b, hb, hs⟩ := small_eq hc
  unfold m_armaturelaw11_FileEncode m_file_EncodedSize
  rw [hb, works11]
  cases b with
  | false => rfl
  | true =>
    have hf := hs rfl
    obtain ⟨-, -, v, hv, -⟩ := enc_both hf.pool
    rw [encode_eq hf hv, encode_ref hf hv]
    simp

theorem cap_len {n b : Nat} (hb : 1 ≤ b) (h : n * b ≤ reachBytes) : n ≤ 140737488355328 := by
  have h1 : n * 1 ≤ n * b := Nat.mul_le_mul_left n hb
  have h2 : n ≤ reachBytes := by omega
  have h' : n ≤ 140737488351232 := h2
  omega
end Go.Proofs
