/-
  What the printed models and their proofs lean on.
-/
import Derived.Test.YtkooiildghlaaaaDenAdv
import Derived.Lib.Bytealg
namespace Go.Den
open Go.RowKit

def sub0 : Code → Code | .seq a _ => a | .cond _ a _ => a | .block _ a => a | .loop a => a | c => c
def sub1 : Code → Code | .seq _ b => b | .cond _ _ b => b | c => c

/-! ### Rows -/
def rI8 (n : Int) : List D := [.int .i8 n]
def rI16 (n : Int) : List D := [.int .i16 n]
def rI32 (n : Int) : List D := [.int .i32 n]
def rI64 (n : Int) : List D := [.int .i64 n]
def rU8 (n : Int) : List D := [.int .u8 n]
def rU16 (n : Int) : List D := [.int .u16 n]
def rU32 (n : Int) : List D := [.int .u32 n]
def rU64 (n : Int) : List D := [.int .u64 n]
def rBool (b : Bool) : List D := [.bool b]
def rStr (s : List UInt8) : List D := [.str s]
def rSl {α : Type} (f : α → List D) (l : List α) : List D := [.sl false (l.map f)]

/-! ### Steps of a model -/
def andK (k : IntKind) (x y : Int) : Int := k.wrap (BitVec.ofInt k.bits x &&& BitVec.ofInt k.bits y).toNat
def orK (k : IntKind) (x y : Int) : Int := k.wrap (BitVec.ofInt k.bits x ||| BitVec.ofInt k.bits y).toNat
def xorK (k : IntKind) (x y : Int) : Int := k.wrap (BitVec.ofInt k.bits x ^^^ BitVec.ofInt k.bits y).toNat
def andNotK (k : IntKind) (x y : Int) : Int := k.wrap (BitVec.ofInt k.bits x &&& ~~~BitVec.ofInt k.bits y).toNat
def divK (k : IntKind) (a b : Int) : Option Int := if b ≠ 0 then some (k.wrap (a.tdiv b)) else none
theorem divK_spec {k : IntKind} {a b m : Int} (h : divK k a b = some m) : b ≠ 0 ∧ k.wrap (a.tdiv b) = m := by
  unfold divK at h; split at h
  · exact ⟨by assumption, Option.some.inj h⟩
  · cases h
def modK (a b : Int) : Option Int := if b ≠ 0 then some (a.tmod b) else none
theorem modK_spec {a b m : Int} (h : modK a b = some m) : b ≠ 0 ∧ a.tmod b = m := by
  unfold modK at h; split at h
  · exact ⟨by assumption, Option.some.inj h⟩
  · cases h
def shlK (k : IntKind) (a y : Int) : Option Int := if 0 ≤ y then some (k.wrap (a * 2 ^ (min y.toNat k.bits))) else none
theorem shlK_spec {k : IntKind} {a y m : Int} (h : shlK k a y = some m) : 0 ≤ y ∧ k.wrap (a * 2 ^ (min y.toNat k.bits)) = m := by
  unfold shlK at h; split at h
  · exact ⟨by assumption, Option.some.inj h⟩
  · cases h
def shrK (k : IntKind) (a y : Int) : Option Int := if 0 ≤ y then some (a.fdiv (2 ^ (min y.toNat k.bits))) else none
theorem shrK_spec {k : IntKind} {a y m : Int} (h : shrK k a y = some m) : 0 ≤ y ∧ a.fdiv (2 ^ (min y.toNat k.bits)) = m := by
  unfold shrK at h; split at h
  · exact ⟨by assumption, Option.some.inj h⟩
  · cases h
/-- Strings put together. -/
def catK (a b : List UInt8) : Option (List UInt8) := if a.length + b.length ≤ 9223372036854775807 then some (a ++ b) else none
theorem catK_spec {a b m : List UInt8} (h : catK a b = some m) : a.length + b.length ≤ 9223372036854775807 ∧ a ++ b = m := by
  unfold catK at h; split at h
  · exact ⟨by assumption, Option.some.inj h⟩
  · cases h
/-- An index. -/
def idxK (i : Int) (n : Nat) : Option Nat := if 0 ≤ i ∧ i < n then some i.toNat else none
theorem idxK_spec {i : Int} {n n' j : Nat} (h : idxK i n = some j) (hn : n' = n) : 0 ≤ i ∧ i < n' ∧ ((0 : Nat) : Int) + i = j := by
  subst hn
  unfold idxK at h; split at h
  · cases h; omega
  · cases h
/-- A new slice. -/
def makeK (bytes : Nat) (l c : Int) : Option Unit := if 0 ≤ l ∧ l ≤ c ∧ (bytes : Int) * c ≤ 281474976710656 ∧ c ≤ 9223372036854775807 then some () else none
theorem makeK_spec {bytes : Nat} {l c : Int} {u : Unit} (h : makeK bytes l c = some u) : 0 ≤ l ∧ l ≤ c ∧ (bytes : Int) * c ≤ 281474976710656 ∧ c ≤ 9223372036854775807 := by
  unfold makeK at h; split at h
  · assumption
  · cases h
/-- A slice that has grown. -/
def growK (bytes : Nat) (n : Nat) : Option Unit := if n ≤ 9223372036854775807 ∧ n * bytes ≤ 140737488355328 then some () else none
theorem growK_spec {bytes n n' : Nat} {u : Unit} (h : growK bytes n = some u) (hn : n' = n) : n' ≤ 9223372036854775807 ∧ n' * bytes ≤ 140737488355328 := by
  subst hn
  unfold growK at h; split at h
  · assumption
  · cases h
/-- Something new, or nothing old. -/
def freshK {α β : Type} (olds : List α) (news : List β) : Option Unit := if olds = [] ∨ news ≠ [] then some () else none
/-! ### Short words of the printed texts -/
def dI (n : Int) : D := .int .i64 n
def d8 (n : Int) : D := .int .u8 n
def aI (n : Int) : Told := { ans := .val (.int .i64 n) }
def a8 (n : Int) : Told := { ans := .val (.int .u8 n) }
def aS (s : List UInt8) : Told := { ans := .val (.str s) }
def aB (b : Bool) : Told := { ans := .val (.bool b) }
def aT : Told := { ans := .yes }
def aF : Told := { ans := .no }
def kN : Option (List Nat × List (Nat × Nat)) := some ([], [])

/-- So many trivial things. -/
def tN : Nat → Prop
  | 0 => True
  | n + 1 => True ∧ tN n
theorem tNi : ∀ n, tN n
  | 0 => trivial
  | n + 1 => ⟨trivial, tNi n⟩
/-- What a call owes. -/
def cq (P : Program) (p : Prop) (f : FuncId) (A : List D) (r : D) : Prop := p ∧ A = A ∧ CallAny P f A r
theorem cqi {P : Program} {p : Prop} {f : FuncId} {A : List D} {r : D} (hp : p) (h : CallSpec P f A r) : cq P p f A r := ⟨hp, rfl, .inl h⟩
theorem cqx {P : Program} {p : Prop} {f : FuncId} {A : List D} {r : D} (hp : p) (h : ExtSpec P f A r) : cq P p f A r := ⟨hp, rfl, .inr h⟩
def cqo (P : Program) (p : Prop) (f : FuncId) (A : List D) (B : List Blk) (r : D) (B' : List Blk) : Prop := p ∧ A = A ∧ B = B ∧ CallSpecO P f A B r B'
theorem cqoi {P : Program} {p : Prop} {f : FuncId} {A : List D} {B : List Blk} {r : D} {B' : List Blk} (hp : p) (h : CallSpecO P f A B r B') : cqo P p f A B r B' := ⟨hp, rfl, rfl, h⟩

theorem freshM {α β : Type} {f : α → List D} (g : β → List D) {olds : List α} {news : List β} {u : Unit} (h : freshK olds news = some u) : (olds.map f = [] ∨ news.map g ≠ []) := by
  unfold freshK at h
  split at h
  · rename_i hc
    rcases hc with hc | hc
    · exact .inl (by rw [hc]; rfl)
    · exact .inr (by simpa using hc)
  · cases h
theorem rowBytes_map (l : List Int) : rowBytes (l.map rU8) = some (l.map fun n => UInt8.ofNat n.toNat) := by
  induction l with
  | nil => rfl
  | cons a r ih => simp only [List.map_cons]; unfold rU8 rowBytes; rw [show (List.map (fun n => [D.int IntKind.u8 n]) r) = r.map rU8 from rfl, ih]
def bytesOf (l : List Int) : List UInt8 := l.map fun n => UInt8.ofNat n.toNat
theorem rowBytes_of (l : List Int) : rowBytes (l.map rU8) = some (bytesOf l) := rowBytes_map l

/-- A string's bytes as numbers. -/
def bytesI (s : List UInt8) : List Int := s.map fun b => (b.toNat : Int)
theorem bytesI_row (s : List UInt8) : (s.map fun b => [D.int .u8 b.toNat]) = (bytesI s).map rU8 := by
  unfold bytesI; rw [List.map_map]; rfl
/-- The string of a code point. -/
def runeStr (n : Int) : List UInt8 := (Utf8.encode n).data.toList

theorem lenM {α : Type} (f : α → List D) (l : List α) : ((l.map f).length : Int) = (l.length : Int) := by simp
theorem lenMN {α : Type} (f : α → List D) (l : List α) : (l.map f).length = l.length := by simp
theorem getM {α : Type} (f : α → List D) {l : List α} {j : Nat} {x : α} (h : l[j]? = some x) : (l.map f)[j]? = some (f x) := by simp [h]
theorem setM {α : Type} (f : α → List D) (l : List α) (j : Nat) (y : α) : (l.map f).set j (f y) = (l.set j y).map f := List.map_set.symm
theorem appM {α : Type} (f : α → List D) (l r : List α) : l.map f ++ r.map f = (l ++ r).map f := List.map_append.symm
theorem repM {α : Type} (f : α → List D) (n : Nat) (z : α) : List.replicate n (f z) = (List.replicate n z).map f := by simp
theorem subM {α : Type} (f : α → List D) {l r : List α} {lo hi : Int} (h : sub l lo hi = some r) : sub (l.map f) lo hi = some (r.map f) := by
  unfold sub at *
  split at h
  · rename_i hc
    cases h
    rw [if_pos (by simpa using hc)]
    simp [List.map_take, List.map_drop]
  · cases h
theorem szM {α : Type} {f : α → List D} {n : Nat} (hf : ∀ y, (f y).length = n) (l : List α) : ∀ x ∈ l.map f, x.length = n := by
  intro x hx
  obtain ⟨y, _, rfl⟩ := List.mem_map.1 hx
  exact hf y
theorem takeAll {α : Type} (l : List α) : (l.drop 0).take l.length = l := by simp
theorem roomAll {α : Type} (l : List α) : 0 + l.length ≤ l.length := by omega

theorem gB {b v w x : Bool} (h : b = v) (hx : (v == w) = x) : (b == w) = x := by rw [h]; exact hx

theorem noneE {α : Type} {x : α} {p : Prop} (h : (none : Option α) = some x) : p := by cases h

/-! ### Places -/
variable {P : Program} {Γ : Ctx} {σ σ' : S}

theorem At.gc {c : Code} {K : List Kont} {Q : Exit → S → Prop} (keep : List Nat) (ps : List (Nat × Nat)) {n : Nat} {l : List (Nat × D)} {bl : List (Nat × Blk)} (hg : (gcL keep ps σ, σ.n) = (some (l, bl), n)) (h : At P Γ c K Q (mkS n l bl)) : At P Γ c K Q σ := by
  have h1 : gcL keep ps σ = some (l, bl) := congrArg Prod.fst hg
  have h2 : σ.n = n := congrArg Prod.snd hg
  subst h2
  exact DWP.gc keep ps h1 h
theorem At.convG {c : Code} {K : List Kont} {Q : Exit → S → Prop} (cv : List NilAt) (keep : List Nat) (ps : List (Nat × Nat)) {n : Nat} {l : List (Nat × D)} {bl : List (Nat × Blk)} (hg : (Den.convG cv keep ps σ, σ.n) = (some (l, bl), n)) (h : At P Γ c K Q (mkS n l bl)) : At P Γ c K Q σ :=
  DWP.convG cv keep ps hg h
/-! ### A region by pieces -/
def opsOf : Code → Array Oper | .region _ ops _ => ops | _ => #[]
def inText : Code → Bool | .region _ _ false => true | _ => false
/-- The operations that are left of a region. -/
def AtOps (P : Program) (Γ : Ctx) (ops : Array Oper) (l : List Nat) (K : List Kont) (Q : Exit → S → Prop) (σ : S) : Prop :=
  ∀ a w G β, Conc Γ σ a w G β → wpOps P ops (fun e a' w' => ∃ σ' G' β', Conc Γ σ' a' w' G' β' ∧ runK P Γ K Q e σ') l a w
theorem At.ops {c : Code} {K : List Kont} {Q : Exit → S → Prop} {l : List Nat} (hc : inText c = true) (hl : List.range (opsOf c).size = l) (h : AtOps P Γ (opsOf c) l K Q σ) : At P Γ c K Q σ := by
  subst hl
  unfold inText at hc
  split at hc
  · exact fun a w G β hC => wp_region (h a w G β hC)
  · cases hc
theorem runD_app {ops : Array Oper} {told : List (Nat × Told)} {gs : List (Nat × Bool)} {Q : Exit → Act → World → Prop} {l2 : List Nat} : ∀ (l : List Nat) {σ : S} {a : Act} {w : World} {G β} {p : Prop}, Conc Γ σ a w G β →
    runD P ops told gs l σ = some (σ', p) → p → (∀ a' w' G' β', Conc Γ σ' a' w' G' β' → wpOps P ops Q l2 a' w') → wpOps P ops Q (l ++ l2) a w
  | [], σ, a, w, G, β, p, hC, h, hp, hQ => by cases h; exact hQ _ _ _ _ hC
  | i :: r, σ, a, w, G, β, p, hC, h, hp, hQ => by
    unfold runD at h
    split at h
    · rename_i σ1 p1 h1
      split at h
      · rename_i σ2 p2 h2
        cases h
        rw [List.cons_append, wpOps_cons]
        exact oneD_sound hC h1 hp.1 (fun a' w' G' β' hC' => runD_app r hC' h2 hp.2 hQ)
      · cases h
    · cases h
def iv (a : Nat) : Nat → List Nat
  | 0 => []
  | n + 1 => a :: iv (a + 1) n
theorem oneD_n {ops : Array Oper} {told : List (Nat × Told)} {gs : List (Nat × Bool)} {i : Nat} {p : Prop} (h : oneD P ops told gs i σ = some (σ', p)) : σ'.n = σ.n := by
  cases ho : ops[i]? with
  | none => unfold oneD at h; rw [ho] at h; cases h; rfl
  | some o => exact (oneD_fr ho h).n
theorem runD_n {ops : Array Oper} {told : List (Nat × Told)} {gs : List (Nat × Bool)} : ∀ (l : List Nat) {σ : S} {p : Prop}, runD P ops told gs l σ = some (σ', p) → σ'.n = σ.n
  | [], σ, p, h => by cases h; rfl
  | i :: r, σ, p, h => by
    unfold runD at h
    split at h
    · rename_i σ1 p1 h1
      split at h
      · rename_i σ2 p2 h2
        cases h
        exact (runD_n r h2).trans (oneD_n h1)
      · cases h
    · cases h
/-- A piece of a region; what is not kept goes. -/
def runG (P : Program) (ops : Array Oper) (told : List (Nat × Told)) (gs : List (Nat × Bool)) (l : List Nat) (keep : List Nat) (ps : List (Nat × Nat)) (σ : S) : Option (List (Nat × D) × List (Nat × Blk) × List Prop) :=
  match runL P ops told gs l σ with
  | some (σ', q) =>
    match gcL keep ps σ' with
    | some (l, bl) => some (l, bl, q)
    | none => none
  | none => none
theorem AtOps.run {ops : Array Oper} (l1 l2 : List Nat) {l : List Nat} {K : List Kont} {Q : Exit → S → Prop} (told : List (Nat × Told)) (gs : List (Nat × Bool)) (keep : List Nat) (ps : List (Nat × Nat)) {q : List Prop} {n : Nat} {sl : List (Nat × D)} {bl : List (Nat × Blk)}
    (hl : (l, σ.n) = (l1 ++ l2, n)) (h : runG P ops told gs l1 keep ps σ = some (sl, bl, q)) (hq : holds q) (hr : AtOps P Γ ops l2 K Q (mkS n sl bl)) : AtOps P Γ ops l K Q σ := by
  have h1 : l = l1 ++ l2 := congrArg Prod.fst hl
  have h2 : σ.n = n := congrArg Prod.snd hl
  subst h1 h2
  unfold runG at h
  split at h
  · rename_i σ1 q1 hrun
    split at h
    · rename_i l bl hg
      cases h
      obtain ⟨p, e, hp⟩ := runL_spec l1 hrun hq
      have hn : σ1.n = σ.n := runD_n l1 e
      exact fun a w G β hC => runD_app l1 hC e hp fun a' w' G' β' hC' => by
        have h3 := hC'.gc hg
        rw [hn] at h3
        exact hr a' w' G' _ h3
    · cases h
  · cases h
theorem AtOps.done {ops : Array Oper} {K : List Kont} {Q : Exit → S → Prop} (h : runK P Γ K Q .normal σ) : AtOps P Γ ops [] K Q σ := fun _ _ G β hC => ⟨σ, G, β, hC, h⟩

theorem EvOk.cond {b : Bool} {x y : Code} {K : List Kont} {Q : Exit → S → Prop} (hx : b = true → At P Γ x K Q σ) (hy : b = false → At P Γ y K Q σ) : EvOk P Γ Q σ (.cond b x y K) := ⟨hx, hy⟩
theorem EvOk.stop {c : Code} {K : List Kont} {Q : Exit → S → Prop} (h : At P Γ c K Q σ) : EvOk P Γ Q σ (.stop c K) := h
theorem EvOk.loop {c : Code} {K : List Kont} {Q : Exit → S → Prop} (h : At P Γ (.loop c) K Q σ) : EvOk P Γ Q σ (.loop c K) := h
theorem EvOk.ret {Q : Exit → S → Prop} (h : Q .ret σ) : EvOk P Γ Q σ .ret := h
theorem EvOk.normal {Q : Exit → S → Prop} (h : Q .normal σ) : EvOk P Γ Q σ .normal := h
theorem EvOk.exit {id : Nat} {Q : Exit → S → Prop} (h : Q (.exit id) σ) : EvOk P Γ Q σ (.exit id) := h

theorem EvOk.eq {Q : Exit → S → Prop} {ev : Ev} (h : σ = σ') (he : EvOk P Γ Q σ' ev) : EvOk P Γ Q σ ev := by subst h; exact he

theorem Round.next {T R : Type} {st : T → S} {J : R → Exit → S → Prop} {t : T} (h : σ = st t) : Round st J (.next t) .normal σ := ⟨rfl, h⟩
theorem Round.done {T R : Type} {st : T → S} {J : R → Exit → S → Prop} {r : R} {e : Exit} (he : e ≠ .normal) (h : J r e σ) : Round st J (.done r) e σ := ⟨he, h⟩

theorem neRet : Exit.ret ≠ .normal := fun h => by cases h
theorem neExit (id : Nat) : Exit.exit id ≠ .normal := fun h => by cases h

def JExit {A : Type} (id : Nat) (st : A → S) : A → Exit → S → Prop := fun a e σ => e = .exit id ∧ σ = st a
def JRet {R : Type} (P : Program) (fn : Func) (res : R → D) : R → Exit → S → Prop := fun y e σ => e = .ret ∧ Ends P fn (res y) .ret σ
def JSum {A B : Type} (J : A → Exit → S → Prop) (J' : B → Exit → S → Prop) : A ⊕ B → Exit → S → Prop := fun x => match x with
  | .inl a => J a
  | .inr b => J' b

theorem Ends.mk {fn : Func} {r d : D} {p : Prop} {e : Exit} (he : e = .ret ∨ e = .normal) (h : resultD P fn σ = some (d, p)) (hp : p) (hd : d = r) : Ends P fn r e σ := by
  subst hd; exact ⟨he, p, h, hp⟩

def JRetO {R : Type} (P : Program) (fn : Func) (m : Nat) (keep : List Bool) (res : R → D) (bs : R → List Blk) : R → Exit → S → Prop := fun y e σ => e = .ret ∧ EndsO P fn m keep (res y) (bs y) .ret σ

theorem EndsO.mk {fn : Func} {m : Nat} {keep : List Bool} {r d : D} {bs bs1 : List Blk} {p : Prop} {e : Exit} (he : e = .ret ∨ e = .normal) (hm : distinctN (List.range m) = true) (h : resultO P fn m keep σ = some (d, bs1, p)) (hp : p) (hd : d = r) (hb : bs1 = bs) : EndsO P fn m keep r bs e σ := by
  subst hd hb; exact ⟨he, hm, _, p, h, hp, rfl⟩

theorem CallSpecO.at2 {f : FuncId} {fn : Func} (c : Code) (m : Nat) (keep : List Bool) {ds : List D} {bs : List Blk} {r : D} {bs' : List Blk} {n : Nat} {l : List (Nat × D)} {bl : List (Nat × Blk)} (hf : P.funcs[f]? = some fn) (hb : fn.body = some c) (hent : enters P f = true) (hn : fn.ntmps = n) (hl : argsL 0 ds = l) (hbl : blksL 0 bs = bl) (hle : ds.length ≤ n)
    (h : ∀ Γ : Ctx, At P Γ c [] (EndsO P fn m keep r bs') (mkS n l bl)) : CallSpecO P f ds bs r bs' := by
  subst hn hl hbl
  exact CallSpecO.mk m keep hf hb hent hle h

theorem CallSpec.at2 {f : FuncId} {fn : Func} (c : Code) {ds : List D} {r : D} {n : Nat} {l : List (Nat × D)} (hf : P.funcs[f]? = some fn) (hb : fn.body = some c) (hent : enters P f = true) (hn : fn.ntmps = n) (hl : argsL 0 ds = l) (hle : ds.length ≤ n)
    (h : ∀ Γ : Ctx, At P Γ c [] (Ends P fn r) (mkS n l [])) : CallSpec P f ds r := by
  subst hn hl
  exact CallSpec.at c hf hb hent hle h

/-- More rounds than there ever are. -/
def rounds : Nat := 18446744073709551616

/-- A loop that comes to its end. -/
theorem loopM_ind {T R : Type} {f : T → Option (Ctl T R)} (I : T → Prop) (μ : T → Nat) (Post : R → Prop)
    (step : ∀ t, I t → ∃ x, f t = some x ∧ match x with
      | .next t' => I t' ∧ μ t' < μ t
      | .done r => Post r) : ∀ (n : Nat) (t : T), I t → μ t < n → ∃ r, loopM f n t = some r ∧ Post r
  | 0, t, _, h => absurd h (Nat.not_lt_zero _)
  | n + 1, t, hI, h => by
    obtain ⟨x, hx, hp⟩ := step t hI
    cases x with
    | next t' =>
      obtain ⟨r, hr, hP⟩ := loopM_ind I μ Post step n t' hp.1 (by have := hp.2; omega)
      exact ⟨r, by rw [loopM, hx]; exact hr, hP⟩
    | done r => exact ⟨r, by rw [loopM, hx], hp⟩

/-! ### Functions without a body -/
theorem ext_indexByteString {f : FuncId} {fn : Func} (hf : P.funcs[f]? = some fn) (hname : (fn.name == "runtime.NumGoroutine") = false) (hb : fn.body.isNone = true) (hn : Extern.findNext fn = none) (he : Extern.find fn = some Extern.BytealgIndexByte.indexByte)
    (s : List UInt8) (c : Int) : ExtSpec P f [.str s, .int .u8 c] (.int .i64 (Lib.indexByte s c.toNat.toUInt8)) := by
  intro w G vs h
  obtain ⟨v0, v1, rfl, h0, h1⟩ : ∃ v0 v1, vs = #[v0, v1] ∧ VRep w G (fun _ => none) v0 (.str s) ∧ VRep w G (fun _ => none) v1 (.int .u8 c) := by
    have hs := h.size
    match vs, hs, h.rep with
    | ⟨[v0, v1]⟩, _, hr => exact ⟨v0, v1, rfl, hr 0 v0 _ rfl rfl, hr 1 v1 _ rfl rfl⟩
  cases h0 with
  | str s' =>
    cases h1
    refine ⟨.int .i64 (Lib.indexByte s'.data.toList c.toNat.toUInt8), ?_, .int .i64 _⟩
    rw [run_callFunc_extern hf hname hb hn he, Lib.run_indexByteString]
    rfl

end Go.Den
