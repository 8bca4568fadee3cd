/-
  Proofs in few words: what is told of a region carries its own proof; the state that a run has come to is not written out.
-/
import Derived.Test.YtkooiildghlaaaaDenMod
namespace Go.Den
open Go.RowKit
variable {P : Program} {Γ : Ctx} {σ σ' : S}

namespace W
theorem a2 {p q : Prop} (hp : p) (hq : q) : p ∧ q := ⟨hp, hq⟩
/-! ### What is told, with its proof -/

/-- 'q': all that is owed; 'p': without the guard. -/
structure GT where
  t : Told
  g : Option Bool
  /-- it owes something -/
  o : Bool
  q : Prop
  p : Prop
  hq : q
  hp : p
def GT.of (t : Told) {p : Prop} (h : p) : GT := ⟨t, none, true, True ∧ p, p, ⟨trivial, h⟩, h⟩
/-- Nothing but the guard. -/
def g0 : GT := GT.of {} trivial
/-- A box that is never written. -/
def bo : GT := ⟨{ ro := true }, none, false, True ∧ True, True, ⟨trivial, trivial⟩, trivial⟩
/-- Carried out, for the guard is as it is wanted. -/
def gw {b w : Bool} (h : b = w) (x : GT) : GT := ⟨x.t, some true, true, ((b == w) = true) ∧ x.p, x.p, ⟨by simp [h], x.hp⟩, x.hp⟩
/-- Passed over. -/
def gs0 {b : Bool} (h : b = true) : GT := ⟨{}, some false, true, (b == false) = false, True, by simp [h], trivial⟩
def gs1 {b : Bool} (h : b = false) : GT := ⟨{}, some false, true, (b == true) = false, True, by simp [h], trivial⟩

/-- Rows of a type. -/
class Row (α : Type) where
  row : α → List D
  size : Nat
  hs : ∀ x, (row x).length = size
instance {α : Type} [R : Row α] : Row (List α) := ⟨rSl R.row, 1, fun _ => rfl⟩
abbrev RI8 : Row Int := ⟨rI8, 1, fun _ => rfl⟩
abbrev RI16 : Row Int := ⟨rI16, 1, fun _ => rfl⟩
abbrev RI32 : Row Int := ⟨rI32, 1, fun _ => rfl⟩
instance RI64 : Row Int := ⟨rI64, 1, fun _ => rfl⟩
abbrev RU8 : Row Int := ⟨rU8, 1, fun _ => rfl⟩
abbrev RU16 : Row Int := ⟨rU16, 1, fun _ => rfl⟩
abbrev RU32 : Row Int := ⟨rU32, 1, fun _ => rfl⟩
abbrev RU64 : Row Int := ⟨rU64, 1, fun _ => rfl⟩
abbrev RL {α : Type} (R : Row α) : Row (List α) := ⟨rSl R.row, 1, fun _ => rfl⟩
instance : Row Bool := ⟨rBool, 1, fun _ => rfl⟩
instance : Row (List UInt8) := ⟨rStr, 1, fun _ => rfl⟩

/-- What values as data owe: nothing. -/
def pA : D → Prop
  | .agg cs => tN cs.length
  | _ => True
def pL : List D → Prop
  | [] => True
  | d :: r => pA d ∧ pL r
theorem pLi : ∀ l, pL l
  | [] => trivial
  | d :: r => ⟨by cases d <;> first | exact trivial | exact tNi _, pLi r⟩
/-- The results of a function. -/
def pR : D → Prop
  | .tup ds => pL ds
  | d => pL [d]
theorem pRi (d : D) : pR d := by cases d <;> exact pLi _
def pN (k : Nat) : Nat → Prop
  | 0 => True
  | n + 1 => tN k ∧ pN k n
theorem pNi (k : Nat) : ∀ n, pN k n
  | 0 => trivial
  | n + 1 => ⟨tNi k, pNi k n⟩
section
variable {f : FuncId} {A : List D} {r : D}
/-- A call. -/
def k (h : CallSpec P f A r) : GT := GT.of { ans := .val r } (p := cq P (pL A) f A r) (cqi (pLi _) h)
def kx (h : ExtSpec P f A r) : GT := GT.of { ans := .val r } (p := cq P (pL A) f A r) (cqx (pLi _) h)
def isRef : D → Bool
  | .lptr .. | .lsl .. | .undef => true
  | _ => false
def noRefs : List D → List D
  | [] => []
  | d :: l => match isRef d with
    | true => noRefs l
    | false => d :: noRefs l
/-- A call with arguments that are blocks. -/
def kB {p : Prop} (hp : p) (A1 : List D) (h12 : A1 = A) (h : CallSpec P f A r) : GT := GT.of { ans := .val r, args := A } (p := p ∧ A1 = A ∧ CallAny P f A r) ⟨hp, h12, .inl h⟩
def koB {B B' : List Blk} (names : List Nat) {p : Prop} (hp : p) (A1 : List D) (h12 : A1 = A) (h : CallSpecO P f A B r B') (fresh nils : List (Nat × Nat) := []) : GT :=
  GT.of { ans := .val r, args := A, io := some { names, fresh, nils, bs := B, bs' := B' } } (p := p ∧ A1 = A ∧ B = B ∧ CallSpecO P f A B r B') ⟨hp, h12, rfl, h⟩
def ko {B B' : List Blk} (names : List Nat) (h : CallSpecO P f A B r B') (fresh nils : List (Nat × Nat) := []) : GT :=
  GT.of { ans := .val r, io := some { names, fresh, nils, bs := B, bs' := B' } } (p := cqo P (pL (noRefs A)) f A B r B') (cqoi (pLi _) h)
end
/-- A slice that is written out. -/
def bl (m k : Nat) : GT := GT.of {} (pNi k m)
def blt (m k : Nat) : GT := GT.of { mt := true } (pNi k m)
def br0 (m k : Nat) : GT := GT.of { ro := true } (pNi k m)
/-- Structs are compared. -/
def qs {g q : Prop} (hg : g) (hq : q) (e : Bool) : GT := GT.of { ans := .val (.bool e) } (p := g ∧ q ∧ e = e) ⟨hg, hq, rfl⟩
/-- A pointer that comes back as it is. -/
def ne {P : Program} {f : FuncId} (h : isNoEsc P f) : GT := GT.of {} h
/-- The bytes of a block that becomes a string. -/
def usK (l : List Int) : Option (List UInt8) := if l ≠ [] ∧ l.length ≤ 9223372036854775807 then some (bytesOf l) else none
def sd {l : List Int} {s : List UInt8} (h : usK l = some s) : GT := GT.of {} (p := 0 < (l.map rU8).length) (by
  unfold usK at h; split at h
  · rename_i hc; rw [List.length_map]; exact List.length_pos_iff.2 hc.1
  · cases h)
def us {l : List Int} {s : List UInt8} (h : usK l = some s) : GT := GT.of { ans := .val (.str s) } (p := rowBytes (l.map rU8) = some s ∧ (l.length : Int) = (s.length : Int) ∧ s ≠ [] ∧ s.length ≤ 9223372036854775807) (by
  unfold usK at h; split at h
  · rename_i hc
    cases h
    exact ⟨rowBytes_of _, by simp [bytesOf], by simpa [bytesOf] using hc.1, by simpa [bytesOf] using hc.2⟩
  · cases h)
/-- A number. -/
def n {m : Int} {e : Int} (h : some e = some m) (k : IntKind := .i64) : GT := GT.of { ans := .val (.int k m) } (p := e = m) (someE h)
def n8 {m : Int} {e : Int} (h : some e = some m) : GT := n h .u8
/-- What is known of a truth value. -/
def kb {b v : Bool} (h : b = v) : GT := GT.of { ans := .val (.bool v) } (p := b = v) h
def py {b : Bool} (h : b = true) : GT := GT.of { ans := .yes } (p := b = true) h
def pn {b : Bool} (h : b = false) : GT := GT.of { ans := .no } (p := b = false) h
def ct {a b m : List UInt8} (h : catK a b = some m) : GT := GT.of { ans := .val (.str m) } (catK_spec h)
def dv {k : IntKind} {a b m : Int} (h : divK k a b = some m) : GT := GT.of { ans := .val (.int k m) } (divK_spec h)
def md {a b m : Int} (h : modK a b = some m) (k : IntKind := .i64) : GT := GT.of { ans := .val (.int k m) } (modK_spec h)
def sl {k : IntKind} {a y m : Int} (h : shlK k a y = some m) : GT := GT.of { ans := .val (.int k m) } (shlK_spec h)
def sr {k : IntKind} {a y m : Int} (h : shrK k a y = some m) : GT := GT.of { ans := .val (.int k m) } (shrK_spec h)
/-- A byte of a string; a part of it. -/
def ib {s : List UInt8} {i m : Int} (h : getS s i = some m) : GT := GT.of { ans := .val (.int .u8 m) } h
def ss {s r : List UInt8} {lo hi : Int} (h : sub s lo hi = some r) : GT := GT.of { ans := .val (.str r) } h
section
variable {α : Type} [R : Row α]
/-- The length of a slice. -/
def ln (l : List α) : GT := GT.of { ans := .val (.int .i64 l.length) } (p := ((l.map R.row).length : Int) = (l.length : Int)) (lenM _ _)
/-- An element of a slice; of a block. -/
def ix {l : List α} {i : Int} {x : α} (h : getR l i = some x) : GT := GT.of { ans := .row (R.row x) } (p := getR (l.map R.row) i = some (R.row x)) (getR_map _ h)
def lb {l : List α} {j : Nat} {x : α} (h : l[j]? = some x) : GT := GT.of { ans := .row (R.row x) } (p := (l.map R.row)[j]? = some (R.row x)) (getM _ h)
def ia (b : Nat) {l : List α} {i : Int} {j : Nat} (h : idxK i l.length = some j) : GT :=
  GT.of { ans := .val (.lptr b j 0) } (p := 0 ≤ i ∧ i < (((l.map R.row).length : Nat) : Int) ∧ ((0 : Nat) : Int) + i = j) (idxK_spec h (lenMN _ _))
/-- A part of a slice. -/
def sb {l r : List α} {lo hi : Int} (h : sub l lo hi = some r) : GT :=
  GT.of { ans := .rows (r.map R.row) } (p := (∀ x ∈ l.map R.row, x.length = R.size) ∧ sub (l.map R.row) lo hi = some (r.map R.row)) ⟨szM R.hs _, subM _ h⟩
def sbN {l r : List α} {lo : Int} (h : sub l lo (l.length : Int) = some r) : GT :=
  GT.of { ans := .rows (r.map R.row) } (p := (∀ x ∈ l.map R.row, x.length = R.size) ∧ sub (l.map R.row) lo ((l.map R.row).length : Int) = some (r.map R.row)) ⟨szM R.hs _, by rw [lenM]; exact subM _ h⟩
def sbM {l r : List α} {lo hi : Int} (h : sub l lo hi = some r) : GT :=
  GT.of { ans := .rows (r.map R.row) } (p := (∀ x ∈ l.map R.row, x.length = R.size) ∧ hi = hi ∧ sub (l.map R.row) lo hi = some (r.map R.row)) ⟨szM R.hs _, rfl, subM _ h⟩
/-- A block as data. -/
def rw_ (l : List α) : D := .sl false (((l.map R.row).drop 0).take (l.map R.row).length)
theorem rwE (l : List α) : rw_ l = .sl false (l.map R.row) := by unfold rw_; rw [takeAll]
def rp (l : List α) : Prop := 0 + (l.map R.row).length ≤ (l.map R.row).length
theorem rpI (l : List α) : rp l := roomAll _
/-- A new slice. -/
def mk {by_ : Nat} {l c : Int} {u : Unit} (z : α) (h : makeK by_ l c = some u) : GT :=
  GT.of { rows := some ((List.replicate l.toNat z).map R.row) } (p := 0 ≤ l ∧ l ≤ c ∧ (by_ : Int) * c ≤ 281474976710656 ∧ c ≤ 9223372036854775807 ∧ List.replicate l.toNat (R.row z) = (List.replicate l.toNat z).map R.row)
    ⟨(makeK_spec h).1, (makeK_spec h).2.1, (makeK_spec h).2.2.1, (makeK_spec h).2.2.2, repM _ _ _⟩
/-- A nil slice grows. -/
def an {by_ : Nat} {l m : List α} {u u0 : Unit} (h0 : freshK l m = some u0) (h : growK by_ (l ++ m).length = some u) : GT :=
  GT.of { rows := some ((l ++ m).map R.row) }
    (p := True ∧ (l.map R.row = [] ∨ m.map R.row ≠ []) ∧ (∀ r ∈ l.map R.row, r.length = R.size) ∧ (∀ r ∈ m.map R.row, r.length = R.size) ∧ l.map R.row ++ m.map R.row = (l ++ m).map R.row ∧ ((l ++ m).map R.row).length ≤ 9223372036854775807 ∧ ((l ++ m).map R.row).length * by_ ≤ 140737488355328)
    ⟨trivial, freshM R.row h0, szM R.hs _, szM R.hs _, appM _ _ _, growK_spec h (lenMN _ _)⟩
def anB {by_ : Nat} {l m : List α} {u u0 : Unit} (h0 : freshK l m = some u0) (h : growK by_ (l ++ m).length = some u) : GT :=
  GT.of { rows := some ((l ++ m).map R.row) }
    (p := (0 + (m.map R.row).length ≤ (m.map R.row).length) ∧ (l.map R.row = [] ∨ ((m.map R.row).drop 0).take (m.map R.row).length ≠ []) ∧ (∀ r ∈ l.map R.row, r.length = R.size) ∧ (∀ r ∈ ((m.map R.row).drop 0).take (m.map R.row).length, r.length = R.size) ∧ l.map R.row ++ ((m.map R.row).drop 0).take (m.map R.row).length = (l ++ m).map R.row ∧ ((l ++ m).map R.row).length ≤ 9223372036854775807 ∧ ((l ++ m).map R.row).length * by_ ≤ 140737488355328)
    ⟨roomAll _, by rw [takeAll]; exact freshM R.row h0, szM R.hs _, by rw [takeAll]; exact szM R.hs _, by rw [takeAll]; exact appM _ _ _, growK_spec h (lenMN _ _)⟩
def anS {by_ : Nat} {l : List Int} {m : List UInt8} {u u0 : Unit} (h0 : freshK l (bytesI m) = some u0) (h : growK by_ (l ++ bytesI m).length = some u) : GT :=
  GT.of { rows := some ((l ++ bytesI m).map rU8) }
    (p := True ∧ (l.map rU8 = [] ∨ (m.map fun b => [D.int .u8 b.toNat]) ≠ []) ∧ (∀ r ∈ l.map rU8, r.length = 1) ∧ (∀ r ∈ m.map fun b => [D.int .u8 b.toNat], r.length = 1) ∧ (l.map rU8 ++ m.map fun b => [D.int .u8 b.toNat]) = (l ++ bytesI m).map rU8 ∧ ((l ++ bytesI m).map rU8).length ≤ 9223372036854775807 ∧ ((l ++ bytesI m).map rU8).length * by_ ≤ 140737488355328)
    ⟨trivial, by rw [bytesI_row]; exact freshM rU8 h0, szM (f := rU8) (n := 1) (fun _ => rfl) _, by rw [bytesI_row]; exact szM (f := rU8) (n := 1) (fun _ => rfl) _, by rw [bytesI_row]; exact appM _ _ _, growK_spec h (lenMN _ _)⟩
omit R in
/-- The empty one has nothing to lose. -/
theorem fr0 {β : Type} {m : List β} : freshK ([] : List α) m = some () := rfl
/-- Bytes as a string. -/
def bs (l : List Int) : GT := GT.of { ans := .val (.str (bytesOf l)) } (p := True ∧ rowBytes (l.map rU8) = some (bytesOf l)) ⟨trivial, rowBytes_of _⟩
def bsB (l : List Int) : GT := GT.of { ans := .val (.str (bytesOf l)) } (p := (0 + (l.map rU8).length ≤ (l.map rU8).length) ∧ rowBytes (((l.map rU8).drop 0).take (l.map rU8).length) = some (bytesOf l)) ⟨roomAll _, by rw [takeAll]; exact rowBytes_of _⟩
/-- A row of a block is written. -/
def st {l : List α} {j : Nat} {x : α} (h : l[j]? = some x) (off : Nat) (cs : List D) (y : α) (hl : Nat.ble (off + cs.length) (R.row x).length = true := by kernel_rfl) (hy : splice (R.row x) off cs = R.row y := by kernel_rfl) : GT :=
  GT.of { row := some (R.row x), rows := some ((l.set j y).map R.row) }
    (p := 0 ≤ j ∧ (l.map R.row)[j]? = some (R.row x) ∧ off + cs.length ≤ (R.row x).length ∧ (l.map R.row).set j (splice (R.row x) off cs) = (l.set j y).map R.row)
    ⟨Nat.zero_le _, getM _ h, Nat.le_of_ble_eq_true hl, by rw [hy]; exact setM _ _ _ _⟩
/-- A block grows: by rows that stand there; by another block; by a string. -/
def ap {by_ : Nat} {l m : List α} {u : Unit} (h : growK by_ (l ++ m).length = some u) : GT :=
  GT.of { rows := some ((l ++ m).map R.row) }
    (p := True ∧ (l.map R.row).length = (l.map R.row).length ∧ (∀ r ∈ m.map R.row, r.length = R.size) ∧ l.map R.row ++ m.map R.row = (l ++ m).map R.row ∧ ((l ++ m).map R.row).length ≤ 9223372036854775807 ∧ ((l ++ m).map R.row).length * by_ ≤ 140737488355328)
    ⟨trivial, rfl, szM R.hs _, appM _ _ _, growK_spec h (lenMN _ _)⟩
def apB {by_ : Nat} {l m : List α} {u : Unit} (h : growK by_ (l ++ m).length = some u) : GT :=
  GT.of { rows := some ((l ++ m).map R.row) }
    (p := (0 + (m.map R.row).length ≤ (m.map R.row).length) ∧ (l.map R.row).length = (l.map R.row).length ∧ (∀ r ∈ ((m.map R.row).drop 0).take (m.map R.row).length, r.length = R.size) ∧ l.map R.row ++ ((m.map R.row).drop 0).take (m.map R.row).length = (l ++ m).map R.row ∧ ((l ++ m).map R.row).length ≤ 9223372036854775807 ∧ ((l ++ m).map R.row).length * by_ ≤ 140737488355328)
    ⟨roomAll _, rfl, by rw [takeAll]; exact szM R.hs _, by rw [takeAll]; exact appM _ _ _, growK_spec h (lenMN _ _)⟩
def apS {by_ : Nat} {l : List Int} {m : List UInt8} {u : Unit} (h : growK by_ (l ++ bytesI m).length = some u) : GT :=
  GT.of { rows := some ((l ++ bytesI m).map rU8) }
    (p := True ∧ (l.map rU8).length = (l.map rU8).length ∧ (∀ r ∈ m.map fun b => [D.int .u8 b.toNat], r.length = 1) ∧ (l.map rU8 ++ m.map fun b => [D.int .u8 b.toNat]) = (l ++ bytesI m).map rU8 ∧ ((l ++ bytesI m).map rU8).length ≤ 9223372036854775807 ∧ ((l ++ bytesI m).map rU8).length * by_ ≤ 140737488355328)
    ⟨trivial, rfl, by rw [bytesI_row]; exact szM (f := rU8) (n := 1) (fun _ => rfl) _, by rw [bytesI_row]; exact appM _ _ _, growK_spec h (lenMN _ _)⟩
/-- .. whose type is kept in mind. -/
def apT {by_ : Nat} {l : List Int} {m : List UInt8} {u : Unit} (h : growK by_ (l ++ bytesI m).length = some u) : GT :=
  GT.of { mt := true, rows := some ((l ++ bytesI m).map rU8) }
    (p := True ∧ (l.map rU8).length = (l.map rU8).length ∧ (∀ r ∈ m.map fun b => [D.int .u8 b.toNat], r.length = 1) ∧ (l.map rU8 ++ m.map fun b => [D.int .u8 b.toNat]) = (l ++ bytesI m).map rU8 ∧ ((l ++ bytesI m).map rU8).length ≤ 9223372036854775807 ∧ ((l ++ bytesI m).map rU8).length * by_ ≤ 140737488355328)
    ⟨trivial, rfl, by rw [bytesI_row]; exact szM (f := rU8) (n := 1) (fun _ => rfl) _, by rw [bytesI_row]; exact appM _ _ _, growK_spec h (lenMN _ _)⟩
end

/-! ### Regions -/

/-- What is told of a region. -/
structure GR where
  id : Nat
  l : List (Nat × GT)
  ord : Option (List Nat × List Nat × List (Nat × List Nat)) := none
def rg (id : Nat) (l : List (Nat × GT)) : GR := { id, l }
def rgo (id : Nat) (l : List (Nat × GT)) (ord xs : List Nat) (W : List (Nat × List Nat)) : GR := { id, l, ord := some (ord, xs, W) }
def toldG : List (Nat × GT) → List (Nat × Told)
  | [] => []
  | (i, x) :: r => (i, x.t) :: toldG r
def gsG : List (Nat × GT) → List (Nat × Bool)
  | [] => []
  | (i, x) :: r => match x.g with
    | some b => (i, b) :: gsG r
    | none => gsG r
def owesL : List (Nat × GT) → List Prop → List Prop
  | [], q => q
  | (_, x) :: r, q => match x.o with
    | true => x.q :: owesL r q
    | false => owesL r q
def owes : List GR → List Prop
  | [] => []
  | x :: r => owesL x.l (owes r)
theorem owesL_ok : ∀ (l : List (Nat × GT)) {q : List Prop}, holds q → holds (owesL l q)
  | [], _, h => h
  | (_, x) :: r, _, h => by
    unfold owesL
    split
    · exact ⟨x.hq, owesL_ok r h⟩
    · exact owesL_ok r h
theorem owes_ok : ∀ l : List GR, holds (owes l)
  | [] => trivial
  | x :: r => owesL_ok x.l (owes_ok r)
def grAt : List GR → Nat → GR
  | [], i => { id := i, l := [] }
  | x :: r, i => match Nat.beq x.id i with
    | true => x
    | false => grAt r i

/-- Operations that owe nothing, besides those of 'trivOp'. -/
def trivOp2 (o : Oper) (t : Told) : Bool :=
  match o.op, t.ans with
  | .binOp .sub .., .go | .binOp .mul .., .go | .binOp .and .., .go | .binOp .or .., .go | .binOp .xor .., .go | .binOp .andNot .., .go => true
  | _, _ => trivOp o t
/-- A store into a block that is written out. -/
def trivSt (σ : S) (o : Oper) (t : Told) : Bool :=
  match o.op, t with
  | .store _ x v, { row := none, rows := none, .. } =>
    match σ.ev x, cellsOf (σ.ev v) with
    | .lptr b i off, some cs =>
      match σ.heap b with
      | some blk => match blk.rows[i]? with
        | some r => Nat.ble blk.frz i && Nat.ble (off + cs.length) r.length
        | none => false
      | none => false
    | _, _ => false
  | _, _ => false


theorem triv_st {o : Oper} {t : Told} (ht : trivSt σ o t = true) {p : Prop} (h : stepD P σ o t = some (σ', p)) : p := by
  unfold trivSt at ht
  split at ht
  · rename_i ty x v ans args io ro mt ho
    split at ht
    · rename_i b i off cs hx hc
      split at ht
      · rename_i blk hb
        split at ht
        · rename_i r hr
          rw [Bool.and_eq_true] at ht
          unfold stepD at h
          have e1 : pureD P σ o ans = none := by unfold pureD; rw [ho]
          dsimp only at h
          rw [e1] at h
          dsimp only at h
          unfold effD at h
          rw [ho] at h
          dsimp only at h
          unfold storeD at h
          rw [hx] at h
          dsimp only at h
          rw [hb, hc] at h
          split at h
          · rename_i blk' cs' sz h1 h2 h3
            cases h1; cases h2
            split at h
            · rw [hr] at h
              cases h
              exact ⟨Nat.le_of_ble_eq_true ht.1, Nat.le_of_ble_eq_true ht.2, rfl⟩
            · cases h
          · cases h
        · cases ht
      · cases ht
    · cases ht
  · cases ht

def trivAd (σ : S) (o : Oper) (t : Told) : Bool :=
  match o.op, t.ans with
  | .binOp .add _ x _ _, .go => (match σ.ev x with | .int .. => true | _ => false)
  | _, _ => false
theorem triv_ad {o : Oper} {t : Told} (ht : trivAd σ o t = true) {p : Prop} (h : stepD P σ o t = some (σ', p)) : p := by
  unfold trivAd at ht
  split at ht
  · rename_i xt x y yt ho ha
    split at ht
    · rename_i k a hx
      unfold stepD at h
      split at h
      · rename_i d q hq
        split at h
        · cases h
          unfold pureD at hq
          rw [ho, ha] at hq
          dsimp only at hq
          unfold binD at hq
          rw [hx] at hq
          generalize σ.ev y = z at hq
          cases z <;> first
            | (simp only [] at hq; split at hq; exact numD_go hq; cases hq)
            | cases hq
        · cases h
      · unfold effD at h
        rw [ho] at h
        cases h
    · cases ht
  · cases ht

theorem numD_go' {k : IntKind} {n : Int} {d : D} {p : Prop} (h : numD k n .go = some (d, p)) : p := by cases h; trivial
theorem intBin_go {op : BinOp} (hop : op = .add ∨ op = .sub ∨ op = .mul ∨ op = .and ∨ op = .or ∨ op = .xor ∨ op = .andNot) {k : IntKind} {a b : Int} {d : D} {p : Prop} (h : intBinD op k a b .go = some (d, p)) : p := by
  rcases hop with rfl | rfl | rfl | rfl | rfl | rfl | rfl <;> exact numD_go' h
theorem strBin_go {a b : List UInt8} {op : BinOp} (hop : op = .add ∨ op = .sub ∨ op = .mul ∨ op = .and ∨ op = .or ∨ op = .xor ∨ op = .andNot) (h1 : op ≠ .add) {d : D} {p : Prop} (h : strBinD op a b .go = some (d, p)) : p := by
  rcases hop with rfl | rfl | rfl | rfl | rfl | rfl | rfl
  · exact absurd rfl h1
  all_goals cases h

theorem triv_op2 {o : Oper} {t : Told} (ht : trivOp2 o t = true) {p : Prop} (h : stepD P σ o t = some (σ', p)) : p := by
  unfold trivOp2 at ht
  have main : ∀ op xt x y yt, o.op = .binOp op xt x y yt → t.ans = .go → (op = .sub ∨ op = .mul ∨ op = .and ∨ op = .or ∨ op = .xor ∨ op = .andNot) → p := by
    intro op xt x y yt ho ha hop
    have hop' : op = .add ∨ op = .sub ∨ op = .mul ∨ op = .and ∨ op = .or ∨ op = .xor ∨ op = .andNot := .inr hop
    unfold stepD at h
    split at h
    · rename_i d q hq
      split at h
      · cases h
        unfold pureD at hq
        rw [ho, ha] at hq
        dsimp only at hq
        unfold binD at hq
        split at hq
        · split at hq
          · simp at hop
          · simp at hop
          · split at hq
            · exact intBin_go hop' hq
            · cases hq
        · exact strBin_go hop' (by rintro rfl; simp at hop) hq
        · split at hq
          · split at hq
            · simp at hop
            · simp at hop
            · cases hq
          · cases hq
        · split at hq
          · rename_i he; cases he
          · cases hq
        · exact ptrD_triv hq
        · exact ptrD_triv hq
        · split at hq
          · exact ptrD_triv hq
          · cases hq
        · cases hq
      · cases h
    · unfold effD at h
      rw [ho] at h
      cases h
  split at ht <;> first
    | exact triv_step ht h
    | (rename_i ho ha; exact main _ _ _ _ _ ho ha (by simp))

def trivG (ops : Array Oper) (told : List (Nat × Told)) (gs : List (Nat × Bool)) (i : Nat) (σ : S) : Bool :=
  match ops[i]? with
  | none => true
  | some o => match o.guard with
    | none => trivOp2 o (toldAt told i) || (trivSt σ o (toldAt told i) || trivAd σ o (toldAt told i))
    | some _ => match gAt gs i with
      | some _ => false
      | none => match guardD ops σ o none with
        | some (true, _) => trivOp2 o (toldAt told i) || (trivSt σ o (toldAt told i) || trivAd σ o (toldAt told i))
        | _ => true

theorem guard_none {ops : Array Oper} {o : Oper} {b : Bool} {g : Prop} (h : guardD ops σ o none = some (b, g)) : g := by
  unfold guardD at h
  split at h
  · cases h; trivial
  · split at h
    · split at h
      · rename_i he; cases he
      · split at h <;> cases h <;> trivial
    · cases h; trivial
    · cases h

theorem triv_both {o : Oper} {t : Told} (ht : (trivOp2 o t || (trivSt σ o t || trivAd σ o t)) = true) {p : Prop} (h : stepD P σ o t = some (σ', p)) : p := by
  rw [Bool.or_eq_true] at ht
  rw [Bool.or_eq_true] at ht
  exact ht.elim (fun x => triv_op2 x h) (fun x => x.elim (fun x => triv_st x h) (fun x => triv_ad x h))

theorem trivG_spec {ops : Array Oper} {told : List (Nat × Told)} {gs : List (Nat × Bool)} {i : Nat} (ht : trivG ops told gs i σ = true) {p : Prop} (h : oneD P ops told gs i σ = some (σ', p)) : p := by
  unfold trivG at ht
  unfold oneD at h
  cases ho : ops[i]? with
  | none => rw [ho] at h; cases h; trivial
  | some o =>
    rw [ho] at h ht
    dsimp only at h ht
    cases hg : o.guard with
    | none =>
      rw [hg] at ht
      have e : guardD ops σ o (gAt gs i) = some (true, True) := by unfold guardD; rw [hg]
      rw [e] at h
      dsimp only at h ht
      split at h
      · rename_i σ1 q hq; cases h; exact ⟨trivial, triv_both ht hq⟩
      · cases h
    | some y =>
      rw [hg] at ht
      dsimp only at ht
      split at ht
      · cases ht
      · rename_i hn
        rw [hn] at h
        split at h
        · cases h
        · rename_i g h1
          rw [h1] at ht
          split at h
          · rename_i σ1 q hq; cases h; exact ⟨guard_none h1, triv_both ht hq⟩
          · cases h
        · rename_i g h1
          split at h
          · cases h; exact guard_none h1
          · cases h

/-- Operations one behind another, what they owe as a list. -/
def runQ (P : Program) (ops : Array Oper) (told : List (Nat × Told)) (gs : List (Nat × Bool)) (xs : Option (List Nat)) : List Nat → S → Option (S × List Prop)
  | [], σ => some (σ, [])
  | i :: r, σ =>
    match (match xs with
      | none => oneD P ops told gs i σ
      | some xs => oneX P ops told gs xs i σ) with
    | some (σ', p) =>
      match runQ P ops told gs xs r σ' with
      | some (σ'', q) => match trivG ops told gs i σ with
        | true => some (σ'', q)
        | false => some (σ'', p :: q)
      | none => none
    | none => none

theorem runQ_D {ops : Array Oper} {told : List (Nat × Told)} {gs : List (Nat × Bool)} : ∀ (l : List Nat) {σ : S} {q : List Prop}, runQ P ops told gs none l σ = some (σ', q) → holds q → ∃ p, runD P ops told gs l σ = some (σ', p) ∧ p
  | [], σ, q, h, hq => by cases h; exact ⟨True, rfl, trivial⟩
  | i :: r, σ, q, h, hq => by
    unfold runQ at h
    unfold runD
    dsimp only at h
    split at h
    · rename_i σ1 p1 h1
      split at h
      · rename_i σ2 q2 h2
        split at h
        · rename_i ht
          cases h
          obtain ⟨p, e, hp⟩ := runQ_D r h2 hq
          exact ⟨p1 ∧ p, by rw [h1]; dsimp only; rw [e], trivG_spec ht h1, hp⟩
        · cases h
          obtain ⟨p, e, hp⟩ := runQ_D r h2 hq.2
          exact ⟨p1 ∧ p, by rw [h1]; dsimp only; rw [e], hq.1, hp⟩
      · cases h
    · cases h
theorem runQ_X {ops : Array Oper} {told : List (Nat × Told)} {gs : List (Nat × Bool)} {xs : List Nat} : ∀ (l : List Nat) {σ : S} {q : List Prop}, runQ P ops told gs (some xs) l σ = some (σ', q) → holds q → ∃ p, runXs P ops told gs xs l σ = some (σ', p) ∧ p
  | [], σ, q, h, hq => by cases h; exact ⟨True, rfl, trivial⟩
  | i :: r, σ, q, h, hq => by
    unfold runQ at h
    unfold runXs
    dsimp only at h
    split at h
    · rename_i σ1 p1 h1
      split at h
      · rename_i σ2 q2 h2
        split at h
        · rename_i ht
          cases h
          obtain ⟨p, e, hp⟩ := runQ_X r h2 hq
          exact ⟨p1 ∧ p, by rw [h1]; dsimp only; rw [e], trivG_spec ht (oneX_D h1), hp⟩
        · cases h
          obtain ⟨p, e, hp⟩ := runQ_X r h2 hq.2
          exact ⟨p1 ∧ p, by rw [h1]; dsimp only; rw [e], hq.1, hp⟩
      · cases h
    · cases h

def runRG (P : Program) (x : GR) (ops : Array Oper) (draw : Bool) (σ : S) : Option (S × List Prop) :=
  match draw with
  | false => runQ P ops (toldG x.l) (gsG x.l) none (List.range ops.size) σ
  | true =>
    match x.ord with
    | none => none
    | some (ord, xs, W) =>
      match P.follows .mixedOrders && ordOk ops xs W ord with
      | true => runQ P ops (toldG x.l) (gsG x.l) (some xs) ord σ
      | false => none

theorem runRG_sound {x : GR} {ops : Array Oper} {draw : Bool} {id : Nat} {q : List Prop} {Q : Exit → S → Prop} (h : runRG P x ops draw σ = some (σ', q)) (hq : holds q) (hQ : Q .normal σ') : DWP P Γ (.region id ops draw) Q σ := by
  unfold runRG at h
  split at h
  · obtain ⟨p, e, hp⟩ := runQ_D _ h hq
    exact DWP.region e hp hQ
  · split at h
    · cases h
    · split at h
      · rename_i hok
        simp only [Bool.and_eq_true] at hok
        obtain ⟨p, e, hp⟩ := runQ_X _ h hq
        exact DWP.draw hok.1 hok.2 e hp hQ
      · cases h

/-! ### The run -/

abbrev Out := Option (Ev × S × List Prop)
def Out.s (A : Out) : S := match A with
  | some (_, σ, _) => σ
  | none => mkS 0 [] []
def Out.e (A : Out) : Ev := match A with
  | some (e, _, _) => e
  | none => .normal
def Out.q (A : Out) : Option (List Prop) := match A with
  | some (_, _, q) => some q
  | none => none

def run (P : Program) (stops : List Nat) (rs : List GR) : Nat → Option Code → List Kont → S → Out
  | 0, _, _, _ => none
  | n + 1, none, K, σ =>
    match popN K with
    | some (z, K') => run P stops rs n (some z) K' σ
    | none => some (.normal, σ, [])
  | n + 1, some c, K, σ =>
    match c with
    | .skip => run P stops rs n none K σ
    | .seq x y => run P stops rs n (some x) (.seq y :: K) σ
    | .block id x => run P stops rs n (some x) (.blk id :: K) σ
    | .exit id =>
      match popE id K with
      | some K' => run P stops rs n none K' σ
      | none => some (.exit id, σ, [])
    | .ret => some (.ret, σ, [])
    | .loop x => some (.loop x K, σ, [])
    | .cond o x y =>
      match σ.ev o with
      | .bool b => some (.cond b x y K, σ, [])
      | _ => none
    | .region id ops draw =>
      match elemB id stops with
      | true => some (.stop c K, σ, [])
      | false =>
        match runRG P (grAt rs id) ops draw σ with
        | some (σ', q) =>
          match run P stops rs n none K σ' with
          | some (ev, σ'', q') => some (ev, σ'', q ++ q')
          | none => none
        | none => none
    | _ => none

theorem run_sound {stops : List Nat} {rs : List GR} {Q : Exit → S → Prop} : ∀ (n : Nat) {c : Option Code} {K : List Kont} {σ : S} {ev : Ev} {σ' : S} {q : List Prop},
    run P stops rs n c K σ = some (ev, σ', q) → holds q → EvOk P Γ Q σ' ev → AtO P Γ c K Q σ
  | 0, _, _, _, _, _, _, h, _, _ => by cases h
  | n + 1, none, K, σ, ev, σ', q, h, hq, hev => by
    unfold run at h
    split at h
    · rename_i z K' hp
      refine runK_normal (fun z' K'' h' => ?_) (fun h' => by rw [hp] at h'; cases h')
      rw [hp] at h'; cases h'
      exact run_sound n h hq hev
    · rename_i hp
      cases h
      exact runK_normal (fun z' K'' h' => by rw [hp] at h'; cases h') (fun _ => hev)
  | n + 1, some c, K, σ, ev, σ', q, h, hq, hev => by
    unfold run at h
    show DWP P Γ c (runK P Γ K Q) σ
    split at h
    · exact DWP.skip (run_sound n h hq hev)
    · have := run_sound n h hq hev
      exact DWP.seq (DWP.mono this fun e σ1 h1 => by cases e <;> exact h1)
    · have := run_sound n h hq hev
      exact DWP.block (DWP.mono this fun e σ1 h1 => by cases e <;> exact h1)
    · split at h
      · rename_i K' hp
        refine DWP.exit (runK_exit (fun K'' h' => ?_) (fun h' => by rw [hp] at h'; cases h'))
        rw [hp] at h'; cases h'
        exact run_sound n h hq hev
      · rename_i hp
        cases h
        exact DWP.exit (runK_exit (fun K'' h' => by rw [hp] at h'; cases h') (fun _ => hev))
    · cases h; exact DWP.ret (runK_ret K hev)
    · cases h; exact hev
    · split at h
      · rename_i b hb
        cases h
        exact DWP.cond hb hev.1 hev.2
      · cases h
    · rename_i id ops draw
      split at h
      · cases h; exact hev
      · split at h
        · rename_i σ1 q1 hr
          split at h
          · rename_i ev2 σ2 q2 ha
            cases h
            obtain ⟨hq1, hq2⟩ := holds_append hq
            exact runRG_sound hr hq1 (run_sound n ha hq2 hev)
          · cases h
        · cases h
    · cases h

theorem out_of {stops : List Nat} {rs : List GR} {Q : Exit → S → Prop} {n : Nat} {c : Option Code} {K : List Kont} (hk : (run P stops rs n c K σ).q = some (owes rs))
    (h : EvOk P Γ Q (run P stops rs n c K σ).s (run P stops rs n c K σ).e) : AtO P Γ c K Q σ := by
  cases ha : run P stops rs n c K σ with
  | none => rw [ha] at hk; cases hk
  | some x =>
    obtain ⟨ev, σ', q⟩ := x
    rw [ha] at hk h
    cases hk
    exact run_sound n ha (owes_ok rs) h

/-- As such, and closed to a reader: nobody unfolds them by chance. -/
structure A (P : Program) (Γ : Ctx) (c : Code) (K : List Kont) (Q : Exit → S → Prop) (σ : S) : Prop where
  h : At P Γ c K Q σ
structure E (P : Program) (Γ : Ctx) (Q : Exit → S → Prop) (σ : S) (ev : Ev) : Prop where
  h : EvOk P Γ Q σ ev
structure RK (P : Program) (Γ : Ctx) (K : List Kont) (Q : Exit → S → Prop) (σ : S) : Prop where
  h : runK P Γ K Q .normal σ
structure AO (P : Program) (Γ : Ctx) (ops : Array Oper) (l : List Nat) (K : List Kont) (Q : Exit → S → Prop) (σ : S) : Prop where
  h : AtOps P Γ ops l K Q σ

theorem go {c : Code} {K : List Kont} {Q : Exit → S → Prop} (stops : List Nat) (rs : List GR) (h : E P Γ Q (run P stops rs 400 (some c) K σ).s (run P stops rs 400 (some c) K σ).e)
    (hk : (run P stops rs 400 (some c) K σ).q = some (owes rs) := by kernel_rfl) : A P Γ c K Q σ := ⟨out_of hk h.h⟩
theorem goN {K : List Kont} {Q : Exit → S → Prop} (stops : List Nat) (rs : List GR) (h : E P Γ Q (run P stops rs 400 none K σ).s (run P stops rs 400 none K σ).e)
    (hk : (run P stops rs 400 none K σ).q = some (owes rs) := by kernel_rfl) : RK P Γ K Q σ := ⟨out_of hk h.h⟩

def eb : Ev → Option Bool | .cond b _ _ _ => some b | _ => none
def ex : Ev → Code | .cond _ x _ _ => x | .loop x _ => x | .stop x _ => x | _ => .skip
def ey : Ev → Code | .cond _ _ y _ => y | _ => .skip
def ek : Ev → List Kont | .cond _ _ _ K => K | .loop _ K => K | .stop _ K => K | _ => []
def et : Ev → Option Exit | .ret => some .ret | .normal => some .normal | .exit id => some (.exit id) | _ => none

/-- A branch of the model. -/
theorem br {Q : Exit → S → Prop} {ev : Ev} {β : Type} {b : Bool} {x y r : β} (h : (if b = true then x else y) = r) (T : b = true → x = r → A P Γ (ex ev) (ek ev) Q σ) (F : b = false → y = r → A P Γ (ey ev) (ek ev) Q σ)
    (hb : eb ev = some b := by kernel_rfl) : E P Γ Q σ ev := by
  cases ev <;> cases hb
  exact ⟨fun e => (T e (iteT e h)).h, fun e => (F e (iteF e h)).h⟩
/-- A branch that is known. -/
theorem bT {Q : Exit → S → Prop} {ev : Ev} {b : Bool} (hf : b = true) (h : A P Γ (ex ev) (ek ev) Q σ) (hb : eb ev = some b := by kernel_rfl) : E P Γ Q σ ev := by
  subst hf
  cases ev <;> cases hb
  exact ⟨fun _ => h.h, fun e => Bool.noConfusion e⟩
theorem bF {Q : Exit → S → Prop} {ev : Ev} {b : Bool} (hf : b = false) (h : A P Γ (ey ev) (ek ev) Q σ) (hb : eb ev = some b := by kernel_rfl) : E P Γ Q σ ev := by
  subst hf
  cases ev <;> cases hb
  exact ⟨fun e => Bool.noConfusion e, fun _ => h.h⟩
/-- A branch of the model that the code does not have. -/
theorem sp {p : Prop} {β : Type} {b : Bool} {x y r : β} (h : (if b = true then x else y) = r) (T : b = true → x = r → p) (F : b = false → y = r → p) : p := by
  cases hb : b with
  | true => exact T hb (iteT hb h)
  | false => exact F hb (iteF hb h)
theorem bd {p : Prop} {α β : Type} {o : Option α} {f : α → Option β} {r : β} (h : o.bind f = some r) (k : ∀ x, o = some x → f x = some r → p) : p := by
  obtain ⟨x, h1, h2⟩ := bindE h
  exact k x h1 h2
theorem so {Q : Exit → S → Prop} {ev : Ev} (h : A P Γ (ex ev) (ek ev) Q σ) (hs : (match ev with | .stop .. => true | _ => false) = true := by kernel_rfl) : E P Γ Q σ ev := by
  cases ev <;> first | exact ⟨h.h⟩ | cases hs

/-! ### States that meet -/

structure SL where
  n : Nat
  l : List (Nat × D)
  bl : List (Nat × Blk) := []
def SL.s (x : SL) : S := mkS x.n x.l x.bl
def SL.ps (x : SL) : List (Nat × Nat) := x.bl.map fun b => (b.1, b.1)
def SL.ts (x : SL) : List Nat := x.l.map fun b => b.1
def Sub (σ σ' : S) : Prop := ∀ (Γ : Ctx) a w G β, Conc Γ σ a w G β → ∃ G' β', Conc Γ σ' a w G' β'

theorem conv1_n {x : NilAt} (h : σ.conv1 x = some σ') : σ'.n = σ.n := by
  cases x <;> simp only [S.conv1] at h <;> repeat' split at h
  all_goals first | (cases h; rfl) | (cases h; done)
theorem conv_n : ∀ (l : List NilAt) {σ : S}, σ.conv l = some σ' → σ'.n = σ.n
  | [], _, h => by cases h; rfl
  | x :: l, σ, h => by
    unfold S.conv at h
    split at h
    · rename_i σ1 h1; exact (conv_n l h).trans (conv1_n h1)
    · cases h
theorem sub_of {cv : List NilAt} {ps : List (Nat × Nat)} {x : SL} (h : (convG cv x.ts ps σ, σ.n) = (some (x.l, x.bl), x.n)) : Sub σ x.s := fun Γ a w G β hC => by
  have h1 : convG cv x.ts ps σ = some (x.l, x.bl) := congrArg Prod.fst h
  have h2 : σ.n = x.n := congrArg Prod.snd h
  unfold convG at h1
  split at h1
  · rename_i σ1 hc
    have := (hC.conv cv hc).gc h1
    rw [conv_n cv hc, h2] at this
    exact ⟨_, _, this⟩
  · cases h1
theorem Sub.at {c : Code} {K : List Kont} {Q : Exit → S → Prop} (h : Sub σ σ') (hA : At P Γ c K Q σ') : At P Γ c K Q σ := fun a w G β hC => by
  obtain ⟨G', β', hC'⟩ := h Γ a w G β hC
  exact hA a w G' β' hC'
def isJ : Ev → Bool | .cond .. | .loop .. | .stop .. => true | _ => false
theorem Sub.ev {Q : Exit → S → Prop} {ev : Ev} (h : Sub σ σ') (hj : isJ ev = true) (hA : EvOk P Γ Q σ' ev) : EvOk P Γ Q σ ev := by
  cases ev with
  | cond b x y K => exact ⟨fun e => h.at (hA.1 e), fun e => h.at (hA.2 e)⟩
  | loop c K => exact h.at (c := .loop c) hA
  | stop c K => exact h.at hA
  | _ => cases hj
theorem jn {Q : Exit → S → Prop} {ev ev' : Ev} {x : SL} (h : E P Γ Q x.s ev') (cv : List NilAt := []) (ps : List (Nat × Nat) := x.ps)
    (hk : (convG cv x.ts ps σ, σ.n, ev, isJ ev') = (some (x.l, x.bl), x.n, ev', true) := by kernel_rfl) : E P Γ Q σ ev := by
  have h1 := congrArg Prod.fst hk
  have h2 := congrArg (fun x => x.2.1) hk
  have h3 := congrArg (fun x => x.2.2.1) hk
  have h4 := congrArg (fun x => x.2.2.2) hk
  dsimp only at h1 h2 h3 h4
  subst h3
  exact ⟨Sub.ev (sub_of (cv := cv) (ps := ps) (by rw [h1, h2])) h4 h.h⟩
/-- A state said in other words. -/
theorem nm {Q : Exit → S → Prop} {ev : Ev} {x y : SL} (he : x = y) (h : E P Γ Q y.s ev) (hk : (convG [] x.ts x.ps σ, σ.n, isJ ev) = (some (x.l, x.bl), x.n, true) := by kernel_rfl) : E P Γ Q σ ev := by
  subst he
  have h1 := congrArg Prod.fst hk
  have h2 := congrArg (fun x => x.2.1) hk
  have h4 := congrArg (fun x => x.2.2) hk
  dsimp only at h1 h2 h4
  exact ⟨Sub.ev (sub_of (cv := []) (ps := x.ps) (by rw [h1, h2])) h4 h.h⟩

/-- What is nil becomes a block. -/
theorem cvE {Q : Exit → S → Prop} {ev : Ev} (l : List NilAt) (h : E P Γ Q ((σ.conv l).getD σ) ev) (hk : ((σ.conv l).isSome, isJ ev) = (true, true) := by kernel_rfl) : E P Γ Q σ ev := by
  have h1 := congrArg Prod.fst hk
  have h2 := congrArg Prod.snd hk
  dsimp only at h1 h2
  cases hc : σ.conv l with
  | none => rw [hc] at h1; cases h1
  | some σ' =>
    rw [hc] at h
    exact ⟨Sub.ev (fun Γ a w G β hC => ⟨G, β, hC.conv l hc⟩) h2 h.h⟩

/-- A place in a function's code: the path as a number. -/
def evP (b : Bool) : Nat → Nat → Code → List Kont → Ev
  | 0, _, _, _ => .normal
  | n + 1, p, c, K =>
    match Nat.beq p 1 with
    | true => match c with
      | .loop x => .loop x K
      | .cond _ x y => .cond b x y K
      | c => .stop c K
    | false => match c, Nat.beq (p % 2) 0 with
      | .seq x y, true => evP b n (p / 2) x (.seq y :: K)
      | .seq _ y, false => evP b n (p / 2) y K
      | .block id x, _ => evP b n (p / 2) x (.blk id :: K)
      | .cond _ x _, true => evP b n (p / 2) x K
      | .cond _ _ y, false => evP b n (p / 2) y K
      | .loop x, _ => evP b n (p / 2) x []
      | _, _ => .normal
def bodyOf (fn : Func) : Code := fn.body.getD .skip
abbrev Jn (P : Program) (fn : Func) (Γ : Ctx) (Q : Exit → S → Prop) (p : Nat) (x : SL) (b : Bool := true) : Prop := E P Γ Q x.s (evP b 900 p (bodyOf fn) [])
def lpC (fn : Func) (p : Nat) : Code := ex (evP true 900 p (bodyOf fn) [])

/-! ### The end of a function -/

def fin : Ev → Bool | .ret | .normal => true | _ => false
theorem rt {fn : Func} {ev : Ev} {α : Type} {x r : α} {R : α → D} (h : some x = some r) (hk : (fin ev, resultD P fn σ) = (true, some (R x, tN fn.results.size ∧ pR (R x))) := by kernel_rfl) : E P Γ (Ends P fn (R r)) σ ev := by
  cases h
  have h1 := congrArg Prod.fst hk
  have h2 := congrArg Prod.snd hk
  dsimp only at h1 h2
  cases ev <;> first | cases h1 | skip
  · exact ⟨⟨.inl rfl, _, h2, tNi _, pRi _⟩⟩
  · exact ⟨⟨.inr rfl, _, h2, tNi _, pRi _⟩⟩
theorem rtB {fn : Func} {ev : Ev} {α : Type} {x r : α} {R : α → D} (h : some x = some r) (d : D) {p : Prop} (hp : p) (hd : d = R x) (hk : (fin ev, resultD P fn σ) = (true, some (d, tN fn.results.size ∧ p)) := by kernel_rfl) : E P Γ (Ends P fn (R r)) σ ev := by
  cases h
  subst hd
  have h1 := congrArg Prod.fst hk
  have h2 := congrArg Prod.snd hk
  dsimp only at h1 h2
  cases ev <;> first | cases h1 | skip
  · exact ⟨⟨.inl rfl, _, h2, tNi _, hp⟩⟩
  · exact ⟨⟨.inr rfl, _, h2, tNi _, hp⟩⟩
theorem rtO {fn : Func} {m : Nat} {keep : List Bool} {ev : Ev} {α : Type} {x r : α} {R : α → D} {B : α → List Blk} (h : some x = some r) (d : D) (bs : List Blk) {p : Prop} (hp : p) (hd : d = R x)
    (hk : (fin ev, distinctN (List.range m), resultO P fn m keep σ, bs) = (true, true, some (d, bs, tN fn.results.size ∧ p), B x) := by kernel_rfl) : E P Γ (EndsO P fn m keep (R r) (B r)) σ ev := by
  cases h
  subst hd
  have h1 := congrArg Prod.fst hk
  have h2 := congrArg (fun x => x.2.1) hk
  have h3 := congrArg (fun x => x.2.2.1) hk
  have h4 := congrArg (fun x => x.2.2.2) hk
  dsimp only at h1 h2 h3 h4
  cases ev <;> first | cases h1 | skip
  · exact ⟨⟨.inl rfl, h2, _, _, h3, ⟨tNi _, hp⟩, h4⟩⟩
  · exact ⟨⟨.inr rfl, h2, _, _, h3, ⟨tNi _, hp⟩, h4⟩⟩

theorem cs {f : FuncId} (fn : Func) {ds : List D} {r : D} (h : ∀ {Γ : Ctx}, A P Γ (bodyOf fn) [] (Ends P fn r) (mkS fn.ntmps (argsL 0 ds) []))
    (hk : (P.funcs[f]?, fn.body, enters P f, Nat.ble ds.length fn.ntmps) = (some fn, some (bodyOf fn), true, true) := by kernel_rfl) : CallSpec P f ds r := by
  have h1 := congrArg Prod.fst hk
  have h2 := congrArg (fun x => x.2.1) hk
  have h3 := congrArg (fun x => x.2.2.1) hk
  have h4 := congrArg (fun x => x.2.2.2) hk
  exact CallSpec.at _ h1 h2 h3 (Nat.le_of_ble_eq_true h4) fun _ => h.h
theorem csO {f : FuncId} (fn : Func) {m : Nat} {keep : List Bool} {ds : List D} {bs bs' : List Blk} {r : D} (h : ∀ {Γ : Ctx}, A P Γ (bodyOf fn) [] (EndsO P fn m keep r bs') (mkS fn.ntmps (argsL 0 ds) (blksL 0 bs)))
    (hk : (P.funcs[f]?, fn.body, enters P f, Nat.ble ds.length fn.ntmps) = (some fn, some (bodyOf fn), true, true) := by kernel_rfl) : CallSpecO P f ds bs r bs' := by
  have h1 := congrArg Prod.fst hk
  have h2 := congrArg (fun x => x.2.1) hk
  have h3 := congrArg (fun x => x.2.2.1) hk
  have h4 := congrArg (fun x => x.2.2.2) hk
  exact CallSpecO.mk m keep h1 h2 h3 (Nat.le_of_ble_eq_true h4) fun _ => h.h

/-! ### Loops -/

structure JT (R : Type) where
  w : R → Exit → S → Prop
  e : R → Exit → S → Prop
  h : ∀ r x σ, w r x σ → ∃ σ', Sub σ σ' ∧ e r x σ'
def je {A : Type} (id : Nat) (st : A → SL) : JT A where
  w a e σ := e = .exit id ∧ Sub σ (st a).s
  e a e σ := e = .exit id ∧ σ = (st a).s
  h _ _ _ h := ⟨_, h.2, h.1, rfl⟩
def jr {R : Type} (P : Program) (fn : Func) (res : R → D) : JT R where
  w y e σ := e = .ret ∧ Ends P fn (res y) .ret σ
  e y e σ := e = .ret ∧ Ends P fn (res y) .ret σ
  h _ _ σ h := ⟨σ, fun _ _ _ G β hC => ⟨G, β, hC⟩, h⟩
def jrO {R : Type} (P : Program) (fn : Func) (m : Nat) (keep : List Bool) (res : R → D) (bs : R → List Blk) : JT R where
  w y e σ := e = .ret ∧ EndsO P fn m keep (res y) (bs y) .ret σ
  e y e σ := e = .ret ∧ EndsO P fn m keep (res y) (bs y) .ret σ
  h _ _ σ h := ⟨σ, fun _ _ _ G β hC => ⟨G, β, hC⟩, h⟩
def ju {A B : Type} (J : JT A) (J' : JT B) : JT (A ⊕ B) where
  w x := match x with | .inl a => J.w a | .inr b => J'.w b
  e x := match x with | .inl a => J.e a | .inr b => J'.e b
  h x e σ h := match x with | .inl a => J.h a e σ h | .inr b => J'.h b e σ h

/-- The end of a round. -/
def Rd {T R : Type} (st : T → SL) (J : JT R) (x : Ctl T R) : Exit → S → Prop := fun e σ =>
  match x with
  | .next t => e = .normal ∧ Sub σ (st t).s
  | .done r => e ≠ .normal ∧ J.w r e σ
/-- What follows a loop. -/
structure JQ {R : Type} (P : Program) (Γ : Ctx) (K : List Kont) (Q : Exit → S → Prop) (J : JT R) (r : R) : Prop where
  h : ∀ e σ, J.e r e σ → runK P Γ K Q e σ

theorem lp {T R : Type} {Q : Exit → S → Prop} {ev : Ev} {c : Code} {f : T → Option (Ctl T R)} {st : T → SL} {J : JT R} {n : Nat} {t : T} {r : R} (hm : loopM f n t = some r)
    (hw : ∀ {t x} {Γ : Ctx}, f t = some x → A P Γ c [] (Rd st J x) (st t).s) (hQ : JQ P Γ (ek ev) Q J r) (cv : List NilAt := []) (ps : List (Nat × Nat) := (st t).ps)
    (hk : (convG cv (st t).ts ps σ, σ.n, ev) = (some ((st t).l, (st t).bl), (st t).n, .loop c (ek ev)) := by kernel_rfl) : E P Γ Q σ ev := by
  have h1 := congrArg Prod.fst hk
  have h2 := congrArg (fun x => x.2.1) hk
  have h3 := congrArg (fun x => x.2.2) hk
  dsimp only at h1 h2 h3
  have hs : Sub σ (st t).s := sub_of (cv := cv) (ps := ps) (by rw [h1, h2])
  rw [h3]
  refine ⟨Sub.at (c := .loop c) hs (DWP.loop (st := fun t => (st t).s) (K := J.e) (fun t x hx a w G β hC => ?_) hm hQ.h)⟩
  refine wp_mono ((hw (Γ := Γ) hx).h a w G β hC) fun e a' w' ⟨σ', G', β', k1, k2⟩ => ?_
  cases x with
  | next t' =>
    obtain ⟨rfl, hsub⟩ := k2
    obtain ⟨G2, β2, hC2⟩ := hsub Γ a' w' G' β' k1
    exact ⟨_, G2, β2, hC2, rfl, rfl⟩
  | done r' =>
    obtain ⟨hne, hj⟩ := k2
    obtain ⟨σ2, hsub, he⟩ := J.h _ _ _ hj
    obtain ⟨G2, β2, hC2⟩ := hsub Γ a' w' G' β' k1
    exact ⟨σ2, G2, β2, hC2, hne, he⟩

theorem qe {Q : Exit → S → Prop} {K : List Kont} {A : Type} {id : Nat} {st : A → SL} {a : A} (h : RK P Γ ((popE id K).getD []) Q (st a).s) (hk : (popE id K).isSome = true := by kernel_rfl) : JQ P Γ K Q (je id st) a := by
  refine ⟨?_⟩
  rintro e σ ⟨rfl, rfl⟩
  cases hp : popE id K with
  | none => rw [hp] at hk; cases hk
  | some K' => rw [hp] at h; exact At.exitK hp h.h
theorem qx {Q : Exit → S → Prop} {K : List Kont} {A : Type} {id : Nat} {st : A → SL} {a : A} (h : E P Γ Q (st a).s (.exit id)) (hk : (popE id K).isNone = true := by kernel_rfl) : JQ P Γ K Q (je id st) a := by
  refine ⟨?_⟩
  rintro e σ ⟨rfl, rfl⟩
  cases hp : popE id K with
  | none => exact At.exitQ hp h.h
  | some K' => rw [hp] at hk; cases hk
theorem qr {K : List Kont} {R : Type} {fn : Func} {res : R → D} {y r : R} (h : some y = some r) : JQ P Γ K (Ends P fn (res r)) (jr P fn res) y := by
  cases h
  refine ⟨?_⟩
  rintro e σ ⟨rfl, hE⟩
  exact At.retK hE
theorem qrO {K : List Kont} {R : Type} {fn : Func} {m : Nat} {keep : List Bool} {res : R → D} {bs : R → List Blk} {y r : R} (h : some y = some r) : JQ P Γ K (EndsO P fn m keep (res r) (bs r)) (jrO P fn m keep res bs) y := by
  cases h
  refine ⟨?_⟩
  rintro e σ ⟨rfl, hE⟩
  exact At.retK hE
/-- A return out of a loop within a loop. -/
theorem ql {K : List Kont} {A R T : Type} {J : JT A} {J2 : JT R} {st : T → SL} {y : A} {r : R} {x : Ctl T R} (h : some (Ctl.done r) = some x) (hj : ∀ e σ, J.e y e σ → e = .ret ∧ J2.w r .ret σ) : JQ P Γ K (Rd st J2 x) J y := by
  cases h
  refine ⟨?_⟩
  intro e σ hE
  obtain ⟨rfl, h2⟩ := hj e σ hE
  exact At.retK ⟨neRet, h2⟩
theorem j1 {A B : Type} {K : List Kont} {Q : Exit → S → Prop} {J : JT A} {J' : JT B} {a : A} (h : JQ P Γ K Q J a) : JQ P Γ K Q (ju J J') (.inl a) := ⟨h.h⟩
theorem j2 {A B : Type} {K : List Kont} {Q : Exit → S → Prop} {J : JT A} {J' : JT B} {b : B} (h : JQ P Γ K Q J' b) : JQ P Γ K Q (ju J J') (.inr b) := ⟨h.h⟩

theorem nx {T R : Type} {ev : Ev} {st : T → SL} {J : JT R} {t : T} {x : Ctl T R} (h : some (Ctl.next t) = some x) (cv : List NilAt := []) (ps : List (Nat × Nat) := (st t).ps)
    (hk : (convG cv (st t).ts ps σ, σ.n, et ev) = (some ((st t).l, (st t).bl), (st t).n, some .normal) := by kernel_rfl) : E P Γ (Rd st J x) σ ev := by
  cases h
  have h1 := congrArg Prod.fst hk
  have h2 := congrArg (fun x => x.2.1) hk
  have h3 := congrArg (fun x => x.2.2) hk
  dsimp only at h1 h2 h3
  cases ev <;> cases h3
  exact ⟨⟨rfl, sub_of (cv := cv) (ps := ps) (by rw [h1, h2])⟩⟩
theorem nxE {T R : Type} {ev : Ev} {st : T → SL} {J : JT R} {t : T} {x : Ctl T R} {y : SL} (h : some (Ctl.next t) = some x) (he : y = st t) (ps : List (Nat × Nat) := y.ps)
    (hk : (convG [] y.ts ps σ, σ.n, et ev) = (some (y.l, y.bl), y.n, some .normal) := by kernel_rfl) : E P Γ (Rd st J x) σ ev := by
  cases h
  have h1 := congrArg Prod.fst hk
  have h2 := congrArg (fun x => x.2.1) hk
  have h3 := congrArg (fun x => x.2.2) hk
  dsimp only at h1 h2 h3
  cases ev <;> cases h3
  exact ⟨⟨rfl, he ▸ sub_of (cv := []) (ps := ps) (by rw [h1, h2])⟩⟩
def isN : Exit → Bool | .normal => true | _ => false
theorem dn {T R : Type} {ev : Ev} {st : T → SL} {J : JT R} {r : R} {x : Ctl T R} {e : Exit} (h : some (Ctl.done r) = some x) (hj : J.w r e σ) (hk : (et ev, isN e) = (some e, false) := by kernel_rfl) : E P Γ (Rd st J x) σ ev := by
  cases h
  have h1 := congrArg Prod.fst hk
  have h2 := congrArg Prod.snd hk
  dsimp only at h1 h2
  have hne : e ≠ .normal := by rintro rfl; cases h2
  cases ev <;> cases h1 <;> exact ⟨⟨hne, hj⟩⟩
theorem iE {A : Type} {id : Nat} {st : A → SL} {a : A} (cv : List NilAt := []) (ps : List (Nat × Nat) := (st a).ps)
    (hk : (convG cv (st a).ts ps σ, σ.n) = (some ((st a).l, (st a).bl), (st a).n) := by kernel_rfl) : (je id st).w a (.exit id) σ := ⟨rfl, sub_of hk⟩
theorem iEE {A : Type} {id : Nat} {st : A → SL} {a : A} {y : SL} (he : y = st a) (ps : List (Nat × Nat) := y.ps)
    (hk : (convG [] y.ts ps σ, σ.n) = (some (y.l, y.bl), y.n) := by kernel_rfl) : (je id st).w a (.exit id) σ := ⟨rfl, he ▸ sub_of hk⟩
theorem iR {R : Type} {fn : Func} {res : R → D} {y : R} (hk : resultD P fn σ = some (res y, tN fn.results.size ∧ pR (res y)) := by kernel_rfl) : (jr P fn res).w y .ret σ :=
  ⟨rfl, .inl rfl, _, hk, tNi _, pRi _⟩
theorem iRB {R : Type} {fn : Func} {res : R → D} {y : R} (d : D) {p : Prop} (hp : p) (hd : d = res y) (hk : resultD P fn σ = some (d, tN fn.results.size ∧ p) := by kernel_rfl) : (jr P fn res).w y .ret σ := by
  subst hd; exact ⟨rfl, .inl rfl, _, hk, tNi _, hp⟩
theorem iRO {R : Type} {fn : Func} {m : Nat} {keep : List Bool} {res : R → D} {bs : R → List Blk} {y : R} (d : D) (b : List Blk) {p : Prop} (hp : p) (hd : d = res y)
    (hk : (distinctN (List.range m), resultO P fn m keep σ, b) = (true, some (d, b, tN fn.results.size ∧ p), bs y) := by kernel_rfl) : (jrO P fn m keep res bs).w y .ret σ := by
  subst hd
  have h1 := congrArg Prod.fst hk
  have h2 := congrArg (fun x => x.2.1) hk
  have h3 := congrArg (fun x => x.2.2) hk
  exact ⟨rfl, .inl rfl, h1, _, _, h2, ⟨tNi _, hp⟩, h3⟩
theorem i1 {A B : Type} {J : JT A} {J' : JT B} {a : A} {e : Exit} (h : J.w a e σ) : (ju J J').w (.inl a) e σ := h
theorem i2 {A B : Type} {J : JT A} {J' : JT B} {b : B} {e : Exit} (h : J'.w b e σ) : (ju J J').w (.inr b) e σ := h
/-- The same return, of a loop around. -/
theorem iS {R : Type} {fn : Func} {res : R → D} {y : R} {e : Exit} (h : (jr P fn res).e y e σ) : e = .ret ∧ (jr P fn res).w y .ret σ := ⟨h.1, rfl, h.2⟩
theorem iSO {R : Type} {fn : Func} {m : Nat} {keep : List Bool} {res : R → D} {bs : R → List Blk} {y : R} {e : Exit} (h : (jrO P fn m keep res bs).e y e σ) : e = .ret ∧ (jrO P fn m keep res bs).w y .ret σ := ⟨h.1, rfl, h.2⟩

/-! ### A region by pieces -/

def pieceQ (P : Program) (ops : Array Oper) (l : List (Nat × GT)) (m : List Nat) (σ : S) : Out := match runQ P ops (toldG l) (gsG l) none m σ with
  | some (σ', q) => some (.normal, σ', q)
  | none => none
theorem po {Q : Exit → S → Prop} {ev : Ev} (h : AO P Γ (opsOf (ex ev)) (List.range (opsOf (ex ev)).size) (ek ev) Q σ) (hk : (match ev with | .stop c _ => inText c | _ => false) = true := by kernel_rfl) : E P Γ Q σ ev := by
  cases ev <;> first | cases hk; done | exact ⟨At.ops hk rfl h.h⟩
/-- So many operations of those that are left. -/
theorem pr {ops : Array Oper} {l : List Nat} {K : List Kont} {Q : Exit → S → Prop} (m : Nat) (rs : List (Nat × GT)) (h : AO P Γ ops (l.drop m) K Q (pieceQ P ops rs (l.take m) σ).s)
    (hk : (pieceQ P ops rs (l.take m) σ).q = some (owesL rs []) := by kernel_rfl) : AO P Γ ops l K Q σ := by
  refine ⟨?_⟩
  unfold pieceQ at hk h
  split at hk
  · rename_i σ1 q hr
    rw [hr] at h
    obtain ⟨p, e, hp⟩ := runQ_D _ hr (by cases hk; exact owesL_ok rs trivial)
    intro a w G β hC
    rw [← List.take_append_drop m l]
    exact runD_app _ hC e hp fun a' w' G' β' hC' => h.h a' w' G' β' hC'
  · cases hk
theorem pe {ops : Array Oper} {l : List Nat} {K : List Kont} {Q : Exit → S → Prop} (h : RK P Γ K Q σ) (hk : l.isEmpty = true := by kernel_rfl) : AO P Γ ops l K Q σ := by
  cases l with
  | nil => exact ⟨AtOps.done h.h⟩
  | cons => cases hk
end W
end Go.Den
