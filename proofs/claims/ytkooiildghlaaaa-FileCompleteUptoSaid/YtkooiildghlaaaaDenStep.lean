/-
  One operation on the abstract state: those that make, write or freeze blocks, and calls.
-/
import Derived.Test.YtkooiildghlaaaaDenHeap
namespace Go.Den
open Go.RowKit

/-- A call that works on blocks of the caller: their names, the names of blocks that begin as nil with their size, the arguments that are nil, the blocks before and behind. -/
structure IO where
  names : List Nat
  fresh : List (Nat × Nat) := []
  nils : List (Nat × Nat) := []
  bs : List Blk
  bs' : List Blk

/-- What is told of a call or of a write from outside, besides 'Ans'. -/
structure Told where
  ans : Ans := .go
  /-- the arguments of a call as data; the rows of a block behind a write -/
  args : List D := []
  rows : Option (List (List D)) := none
  row : Option (List D) := none
  io : Option IO := none
  /-- a box that is never written; a variable whose type is kept in mind -/
  ro : Bool := false
  /-- a slice literal whose type is kept in mind -/
  mt : Bool := false

def enters (P : Program) (f : FuncId) : Bool :=
  match P.funcs[f]? with
  | some fn => !(fn.name == "runtime.NumGoroutine") && fn.body.isSome
  | none => false

/-- Values for data. -/
structure RepArgs (w : World) (G : Nat → Nat) (vs : Array Value) (ds : List D) : Prop where
  size : ds.length = vs.size
  rep : ∀ (j : Nat) v d, vs[j]? = some v → ds[j]? = some d → VRep w G (fun _ => none) v d

/-- Called with data the function hands back data; of what there was nothing turns. -/
def CallSpec (P : Program) (f : FuncId) (ds : List D) (r : D) : Prop :=
  enters P f = true ∧ ∀ (w : World) (G : Nat → Nat) (vs : Array Value), (∀ c, w.heap.size ≤ c → G c = 0) → RepArgs w G vs ds →
    Calls P f vs w fun e w' => ∃ v G', e = .returned v ∧ Below w.heap.size w w' ∧ (∀ c, c < w.heap.size → G' c = G c) ∧ (∀ c, w'.heap.size ≤ c → G' c = 0) ∧ VRep w' G' (fun _ => none) v r

/-- A function without a body of its own: it answers at once. -/
def ExtSpec (P : Program) (f : FuncId) (ds : List D) (r : D) : Prop :=
  ∀ (w : World) (G : Nat → Nat) (vs : Array Value), RepArgs w G vs ds → ∃ v, (callFunc f vs).run P w = .ok (.value v) w ∧ VRep w G (fun _ => none) v r
def CallAny (P : Program) (f : FuncId) (ds : List D) (r : D) : Prop := CallSpec P f ds r ∨ ExtSpec P f ds r

/-- A value as data: the data, the blocks that are frozen by that, what is owed. -/
def dataA (σ : S) : D → Option (D × List Nat × Prop)
  | .lsl b lo n =>
    match σ.heap b with
    | some blk => match blk.pure with
      | true => some (.sl false ((blk.rows.drop lo).take n), [b], lo + n ≤ blk.rows.length)
      | false => none
    | none => none
  | .lptr b i o =>
    match σ.heap b with
    | some blk =>
      match blk.rows[i]? with
      | some r => match r.all D.dat with
        | true => some (.ptr (r.drop o), [b], True)
        | false => none
      | none => none
    | none => none
  | .sl _ rows => some (.sl false rows, [], True)
  | d => match d.dat with
    | true => some (d, [], True)
    | false => none

def dataL (σ : S) : List D → Option (List D × List Nat × Prop)
  | [] => some ([], [], True)
  | d :: r =>
    match dataA σ d, dataL σ r with
    | some (d', l, p), some (r', l', p') => some (d' :: r', l ++ l', p ∧ p')
    | _, _ => none

def dataD (σ : S) (d : D) : Option (D × List Nat × Prop) :=
  match d with
  | .agg cs =>
    match dataL σ cs with
    | some (cs', l, p) => some (.agg cs', l, p)
    | none => none
  | d => dataA σ d

def dataLs (σ : S) : List D → Option (List D × List Nat × Prop)
  | [] => some ([], [], True)
  | d :: r =>
    match dataD σ d, dataLs σ r with
    | some (d', l, p), some (r', l', p') => some (d' :: r', l ++ l', p ∧ p')
    | _, _ => none

def S.freezeL (σ : S) (l : List Nat) : S := l.foldl S.freeze σ

def zeroD (P : Program) (t : TypeId) : Option (List D) :=
  match P.info? t with
  | some i =>
    match i.zero with
    | some v => match v.cells.toList.all one with
      | true => some (v.cells.toList.map constA)
      | false => none
    | none => none
  | none => none

def cellsOf : D → Option (List D)
  | .agg cs => some cs
  | .tup _ => none
  | .undef => none
  | d => some [d]

def splice (cells : List D) (off : Nat) (dc : List D) : List D := cells.take off ++ dc ++ cells.drop (off + dc.length)

def fillD (place : Nat → Option (Nat × Nat)) (cells : List D) : List (Nat × D) → Option (List D)
  | [] => some cells
  | (i, d) :: rest =>
    match place i, cellsOf d with
    | some (off, size), some dc => match dc.length == size && Nat.ble (off + dc.length) cells.length with
      | true => fillD place (splice cells off dc) rest
      | false => none
    | _, _ => none

def placesD (P : Program) (t : TypeId) : Option (Nat → Option (Nat × Nat)) :=
  match P.underlying t with
  | some (.struct fs) =>
    match fs.toList.mapM (fun f => (P.info? f.type).map fun i => (f.offset, i.size)) with
    | some places => some fun i => places[i]?
    | none => none
  | some (.array _ e) =>
    match P.info? e with
    | some ie => some fun i => some (i * ie.size, ie.size)
    | none => none
  | _ => none

def chunks (sz : Nat) : Nat → List D → List (List D)
  | 0, _ => []
  | n + 1, cs => cs.take sz :: chunks sz n (cs.drop sz)

def dstOk (σ : S) (o : Oper) : Bool := match o.dst with | some t => Nat.blt t σ.n | none => true

/-- The rows of a slice that is read. -/
def rowsD (σ : S) : D → Option (List (List D) × Prop)
  | .sl _ rows => some (rows, True)
  | .lsl b lo n =>
    match σ.heap b with
    | some blk => match blk.pure with
      | true => some ((blk.rows.drop lo).take n, lo + n ≤ blk.rows.length)
      | false => none
    | none => none
  | _ => none

/-- The rows that 'append' adds: of a slice, or a string's bytes. -/
def newsD (P : Program) (σ : S) (t t' : TypeId) (x : D) : Option (List (List D) × Prop) :=
  match x with
  | .str s => match P.underlying t' with
    | some .string => some (s.map fun b => [.int .u8 b.toNat], True)
    | _ => none
  | x => match t == t' with
    | true => rowsD σ x
    | false => none

/-- The bytes of a slice of bytes. -/
def rowBytes : List (List D) → Option (List UInt8)
  | [] => some []
  | [.int .u8 n] :: r =>
    match rowBytes r with
    | some s => some (UInt8.ofNat n.toNat :: s)
    | none => none
  | _ => none

/-- A block of such a type stands there. -/
def tyIs (k : Blk) (e : TypeId) : Bool := match k.ty with
  | some t => Nat.beq t e
  | none => false
/-- A pointer to a block becomes an unsafe one; an unsafe one becomes a pointer again. -/
def convPtr (P : Program) (σ : S) (src dst : TypeId) (b : Nat) : Bool :=
  match σ.heap b with
  | some k => match k.ty with
    | some e => match P.underlying src, P.underlying dst with
      | some (.pointer t), some .unsafePointer => match P.info? t with
        | some j => !Nat.beq j.size 0 && Nat.blt 0 (k.rows.length * k.sz)
        | none => false
      | some .unsafePointer, some (.pointer u) => match P.info? u with
        | some _ => Nat.blt 0 (P.cellsOf e) && Nat.ble (P.cellsOf e) (k.rows.length * k.sz) && liesAt P P.depth e 1 0 u 1
        | none => false
      | _, _ => false
    | none => false
  | none => false
/-- A slice of bytes as itself. -/
def sameBytes (P : Program) (σ : S) (src dst : TypeId) (x : D) : Bool :=
  match x with
  | .lsl b _ n => match σ.heap b, P.underlying dst with
    | some k, some (.slice e) => match P.underlying e with
      | some (.int .u8) => Nat.beq src dst && Nat.blt 0 n && k.ty.isSome
      | _ => false
    | _, _ => false
  | _ => false
/-- A slice of bytes as a string; a pointer. -/
def bytesD (P : Program) (σ : S) (o : Oper) (src dst : TypeId) (x : D) (told : Told) : Option (S × Prop) :=
  match x with
  | .lptr b 0 0 => match convPtr P σ src dst b && dstOk σ o with
    | true => some (σ.put o.dst (.lptr b 0 0), True)
    | false => none
  | x =>
  match sameBytes P σ src dst x && dstOk σ o with
  | true => some (σ.put o.dst x, True)
  | false =>
  match P.underlying dst, elemT P src with
  | some .string, some e =>
    match P.underlying e, sizeT P e with
    | some (.int .u8), some 1 =>
      match rowsD σ x, told.ans, dstOk σ o with
      | some (rows, q), .val (.str s), true => some (σ.put o.dst (.str s), q ∧ rowBytes rows = some s)
      | _, _, _ => none
    | _, _ => none
  | _, _ => none

/-- A new block under the name of the slot that it goes to. -/
def newD (σ : S) (o : Oper) (blk : Blk) (v : Nat → D) (p : Prop) : Option (S × Prop) :=
  match o.dst with
  | some t =>
    match σ.heap t with
    | some _ => none
    | none => match Nat.blt t σ.n with
      | true => some ((σ.setB t (some blk)).put (some t) (v t), p)
      | false => none
  | none => none

/-- The type of a block that may be another block afterwards. -/
def tyK (a : Option TypeId) (e : TypeId) : Option TypeId := match a with
  | some t => match Nat.beq t e with
    | true => some t
    | false => none
  | none => none
theorem tyK_spec {a : Option TypeId} {e t : TypeId} (h : tyK a e = some t) : a = some t ∧ e = t := by
  unfold tyK at h
  split at h
  · split at h
    · rename_i hb; cases h; exact ⟨rfl, (Nat.eq_of_beq_eq_true hb).symm⟩
    · cases h
  · cases h

def tyM (m : Bool) (a : Option TypeId) (e : TypeId) : Option TypeId := match m with
  | true => tyK a e
  | false => none
theorem tyM_spec {m : Bool} {a : Option TypeId} {e t : TypeId} (h : tyM m a e = some t) : a = some t ∧ e = t := by
  unfold tyM at h
  split at h
  · exact tyK_spec h
  · cases h

def appendD (P : Program) (σ : S) (o : Oper) (t t' : TypeId) (s x : D) (told : Told) : Option (S × Prop) :=
  match elemT P t with
  | none => none
  | some e =>
    match P.info? e, newsD P σ t t' x with
    | some ie, some (news, q) =>
      match ie.zero with
      | none => none
      | some z => match z.cells.size == ie.size && Nat.blt 0 ie.size with
        | false => none
        | true =>
        match s with
        | .lsl b 0 n =>
          match σ.heap b with
          | some blk => match blk.pure && blk.sz == ie.size && dstOk σ o with
            | true =>
              let rows := told.rows.getD (blk.rows ++ news)
              some (((σ.drop b).setB b (some { blk with rows := rows, pin := none, ty := tyM told.mt blk.ty e })).put o.dst (.lsl b 0 rows.length),
                q ∧ n = blk.rows.length ∧ (∀ r ∈ news, r.length = ie.size) ∧ blk.rows ++ news = rows ∧ rows.length ≤ 9223372036854775807 ∧ rows.length * ie.bytes ≤ 140737488355328)
            | false => none
          | none => none
        | .sl true olds =>
          let rows := told.rows.getD (olds ++ news)
          newD σ o { sz := ie.size, rows, frz := 0, pure := true } (fun t => .lsl t 0 rows.length)
            (q ∧ (olds = [] ∨ news ≠ []) ∧ (∀ r ∈ olds, r.length = ie.size) ∧ (∀ r ∈ news, r.length = ie.size) ∧ olds ++ news = rows ∧ rows.length ≤ 9223372036854775807 ∧ rows.length * ie.bytes ≤ 140737488355328)
        | _ => none
    | _, _ => none

def storeD (P : Program) (σ : S) (o : Oper) (t : TypeId) (x : D) (v : D) (told : Told) : Option (S × Prop) :=
  match x with
  | .lptr b i off =>
    match σ.heap b, cellsOf v, sizeT P t with
    | some blk, some cs, some sz => match cs.length == sz && (!blk.pure || cs.all D.dat) && dstOk σ o with
      | true =>
        match told.row with
        | some r =>
          let rows := told.rows.getD (blk.rows.set i (splice r off cs))
          some ((σ.setB b (some { blk with rows := rows })).put o.dst .undef, blk.frz ≤ i ∧ blk.rows[i]? = some r ∧ off + cs.length ≤ r.length ∧ blk.rows.set i (splice r off cs) = rows)
        | none =>
          match blk.rows[i]? with
          | some r =>
            let rows := told.rows.getD (blk.rows.set i (splice r off cs))
            some ((σ.setB b (some { blk with rows := rows })).put o.dst .undef, blk.frz ≤ i ∧ off + cs.length ≤ r.length ∧ blk.rows.set i (splice r off cs) = rows)
          | none => none
      | false => none
    | _, _, _ => none
  | _ => none

/-- The arguments as they are told; told nothing, as they are. -/
def argsOf (told : Told) (ds : List D) : List D := match told.args with
  | [] => ds
  | l => l

/-- The function that gives a pointer back as it is. -/
def isNoEsc (P : Program) (f : FuncId) : Prop := ∃ fn, P.funcs[f]? = some fn ∧ (fn.name == "runtime.NumGoroutine") = false ∧ fn.body.isNone = true ∧ Extern.findNext fn = none ∧ Extern.find fn = some Extern.AbiNoEscape.same

def callD (P : Program) (σ : S) (o : Oper) (f : FuncId) (args : List D) (told : Told) : Option (S × Prop) :=
  match told.ans with
  | .val r =>
    match dataLs σ args with
    | some (ds, l, p) => match dstOk σ o with
      | true =>
        match r.scalar with
        | true => some (σ.put o.dst r, p ∧ ds = (argsOf told ds) ∧ CallAny P f (argsOf told ds) r)
        | false => some ((σ.freezeL l).put o.dst r, p ∧ ds = (argsOf told ds) ∧ CallAny P f (argsOf told ds) r)
      | false => none
    | none => none
  | .go => match args, dstOk σ o with
    | [.lptr b i off], true => some (σ.put o.dst (.lptr b i off), isNoEsc P f)
    | _, _ => none
  | _ => none

/-- The bytes of a block as a string; the block is not written any more. -/
def unsD (P : Program) (σ : S) (o : Oper) (pt : TypeId) (x n : D) (told : Told) : Option (S × Prop) :=
  match x, n with
  | .lptr b 0 0, .int .i64 n =>
    match σ.heap b, P.underlying pt, told.ans with
    | some k, some (.pointer e), .val (.str s) => match Nat.beq k.sz 1 && Nat.beq (P.cellsOf e) 1 && tyIs k e && dstOk σ o with
      | true => some (((σ.drop b).setB b (some { sz := 1, rows := [], frz := 0, pure := true })).put o.dst (.str s), rowBytes k.rows = some s ∧ n = (s.length : Int) ∧ s ≠ [] ∧ s.length ≤ 9223372036854775807)
      | false => none
    | _, _, _ => none
  | _, _ => none

/-- The arguments in their slots. -/
def argsL : Nat → List D → List (Nat × D)
  | _, [] => []
  | i, d :: r => (i, d) :: argsL (i + 1) r

/-! ### Calls that work on blocks of the caller -/

def idxN (b : Nat) : List Nat → Option Nat
  | [] => none
  | x :: r => match b == x with
    | true => some 0
    | false => match idxN b r with
      | some k => some (k + 1)
      | none => none

/-- A value in the names of the callee. -/
def inA (ρ : List Nat) : D → Option D
  | .lptr b i o => match idxN b ρ with
    | some k => some (.lptr k i o)
    | none => none
  | .lsl b lo n => match idxN b ρ with
    | some k => some (.lsl k lo n)
    | none => none
  | .undef => some .undef
  | d => match d.dat with
    | true => some d
    | false => none
def inL (ρ : List Nat) : List D → Option (List D)
  | [] => some []
  | d :: r => match inA ρ d, inL ρ r with
    | some x, some y => some (x :: y)
    | _, _ => none
def inR (ρ : List Nat) : List (List D) → Option (List (List D))
  | [] => some []
  | d :: r => match inL ρ d, inR ρ r with
    | some x, some y => some (x :: y)
    | _, _ => none
def inB (ρ : List Nat) (pin : Option Nat) (k : Blk) : Option Blk :=
  match k.pure with
  | true => some { k with pin := pin }
  | false => match inR ρ k.rows with
    | some rows => some { k with rows := rows, pin := pin }
    | none => none
/-- The blocks of such names: where they are handed in they are marked. -/
def inBs (σ : S) (ρ : List Nat) (mark : Option Nat → Nat → Option Nat) : Nat → List Nat → Option (List Blk)
  | _, [] => some []
  | j, b :: r =>
    match σ.heap b with
    | some k =>
      match inB ρ (mark k.pin j) k, inBs σ ρ mark (j + 1) r with
      | some x, some y => some (x :: y)
      | _, _ => none
    | none => none
/-- A reference to such a block. -/
def inRef (ρ : List Nat) : D → Option D
  | .lptr b i o => match idxN b ρ with
    | some k => some (.lptr k i o)
    | none => none
  | .lsl b lo n => match idxN b ρ with
    | some k => some (.lsl k lo n)
    | none => none
  | .undef => some .undef
  | _ => none
/-- Arguments or results: references to such blocks, all else as data. -/
def ioVals (σ : S) (ρ : List Nat) : List D → Option (List D × List Nat × Prop)
  | [] => some ([], [], True)
  | d :: r =>
    match inRef ρ d with
    | some x =>
      match ioVals σ ρ r with
      | some (y, l, q) => some (x :: y, l, q)
      | none => none
    | none =>
      match dataD σ d, ioVals σ ρ r with
      | some (x, l, p), some (y, l', q) => some (x :: y, l ++ l', p ∧ q)
      | _, _ => none

def outA (ρ : List Nat) : D → D
  | .lptr k i o => match ρ[k]? with
    | some b => .lptr b i o
    | none => .undef
  | .lsl k lo n => match ρ[k]? with
    | some b => .lsl b lo n
    | none => .undef
  | .agg _ | .tup _ => .undef
  | d => d
def outE (ρ : List Nat) : D → D
  | .agg cs => .agg (cs.map (outA ρ))
  | d => outA ρ d
def outD (ρ : List Nat) : D → D
  | .tup vs => .tup (vs.map (outE ρ))
  | d => outE ρ d
def outB (ρ : List Nat) (pin : Option Nat) (k : Blk) : Blk :=
  match k.pure with
  | true => { k with pin := pin }
  | false => { k with rows := k.rows.map (·.map (outA ρ)), pin := pin }
/-- Does the block stand where it stood? -/
def keptB (j : Nat) (k : Blk) : Bool :=
  match k.pin with
  | some i => match i == j with
    | true => match k.rows with
      | _ :: _ => true
      | [] => false
    | false => false
  | none => false
def outBs (σ : S) (ρ : List Nat) : Nat → List Nat → List Blk → List Blk
  | j, b :: r, k :: l => outB ρ (match keptB j k with
    | true => (match σ.heap b with
      | some k0 => (match k0.rows with
        | _ :: _ => k0.pin
        | [] => none)
      | none => none)
    | false => none) k :: outBs σ ρ (j + 1) r l
  | _, _, _ => []
/-- The names of the blocks that do not stand where they stood. -/
def gone : Nat → List Nat → List Blk → List Nat
  | j, b :: r, k :: l => match keptB j k with
    | true => gone (j + 1) r l
    | false => b :: gone (j + 1) r l
  | _, _, _ => []
def S.dropL (σ : S) : List Nat → S
  | [] => σ
  | b :: l => (σ.drop b).dropL l
def S.setL (σ : S) (ρ : List Nat) (bs : List Blk) : S := { σ with heap := fun u => match idxN u ρ with
  | some k => bs[k]?
  | none => σ.heap u }
def S.nilL (σ : S) : List (Nat × Nat) → Option S
  | [] => some σ
  | (b, sz) :: l => match σ.heap b with
    | none => (σ.setB b (some { sz, rows := [], frz := 0, pure := true })).nilL l
    | some _ => none
def nameAt : List (Nat × Nat) → Nat → Option Nat
  | [], _ => none
  | (k, b) :: r, i => match i == k with
    | true => some b
    | false => nameAt r i
def nilArgs (l : List (Nat × Nat)) : Nat → List D → List D
  | _, [] => []
  | j, d :: r => (match nameAt l j with
    | some b => (match d with
      | .sl true [] => .lsl b 0 0
      | d => d)
    | none => d) :: nilArgs l (j + 1) r
def blksL : Nat → List Blk → List (Nat × Blk)
  | _, [] => []
  | j, k :: r => (j, k) :: blksL (j + 1) r
def distinctN : List Nat → Bool
  | [] => true
  | x :: r => (match idxN x r with
    | some _ => false
    | none => true) && distinctN r
/-- Blocks that are kept keep their size; blocks handed in are not frozen. -/
def sizesOk : List Blk → List Blk → Bool
  | [], [] => true
  | k :: l, k' :: l' => k.sz == k'.sz && k.frz == 0 && sizesOk l l'
  | _, _ => false

/-- What a function does that works on blocks of the caller. -/
def CallSpecO (P : Program) (f : FuncId) (ds : List D) (bs : List Blk) (r : D) (bs' : List Blk) : Prop :=
  enters P f = true ∧ ∀ (Γ : Ctx) (vs : Array Value) (w : World) (G : Nat → Nat) (β : Nat → Option (Nat × Nat)),
    Conc Γ (mkS ds.length (argsL 0 ds) (blksL 0 bs)) { tmps := vs, defers := [] } w G β →
    Calls P f vs w fun e w' => ∃ v G' β', e = .returned v ∧ Conc Γ (mkS 1 [(0, r)] (blksL 0 bs')) { tmps := #[v], defers := [] } w' G' β'

/-- The blocks of the caller that are marked. -/
def pinOf (bs : List Blk) (j : Nat) : Option Nat :=
  match bs[j]? with
  | some k => match k.pin with
    | some i => match i == j with
      | true => some j
      | false => none
    | none => none
  | none => none

def callO (P : Program) (σ : S) (o : Oper) (f : FuncId) (args : List D) (told : Told) (io : IO) : Option (S × Prop) :=
  match told.ans with
  | .val r =>
    match σ.nilL io.fresh with
    | some σ0 =>
      match ioVals σ0 io.names (nilArgs io.nils 0 args) with
      | some (ds, l, p) =>
        match inBs (σ0.freezeL l) io.names (fun _ j => pinOf io.bs j) 0 io.names with
        | some bs => match dstOk σ o && distinctN io.names && sizesOk io.bs io.bs' with
          | true => some (((((σ0.freezeL l).dropL (gone 0 io.names io.bs')).setL io.names (outBs (σ0.freezeL l) io.names 0 io.names io.bs'))).put o.dst (outD io.names r),
              p ∧ ds = (argsOf told ds) ∧ bs = io.bs ∧ CallSpecO P f (argsOf told ds) io.bs r io.bs')
          | false => none
        | none => none
      | none => none
    | none => none
  | _ => none

def tyR (b : Bool) (e : TypeId) : Option TypeId := match b with
  | true => some e
  | false => none
def effD (P : Program) (σ : S) (o : Oper) (told : Told) : Option (S × Prop) :=
  match o.op with
  | .alloc e =>
    match zeroD P e with
    | some cs => newD σ o { sz := cs.length, rows := [cs], frz := 0, pure := false, ty := tyR told.ro e } (fun t => .lptr t 0 0) True
    | none => none
  | .box _ x =>
    match cellsOf (σ.ev x) with
    | some cs => match told.ro with
      | true => (match cs.all D.dat, dstOk σ o with
        | true, true => some (σ.put o.dst (.ptr cs), True)
        | _, _ => none)
      | false => newD σ o { sz := cs.length, rows := [cs], frz := 0, pure := false } (fun t => .lptr t 0 0) True
    | none => none
  | .build t parts =>
    match zeroD P t, placesD P t with
    | some z, some pl =>
      match fillD pl z (parts.toList.map fun x => (x.1, σ.ev x.2)) with
      | some cs => match dstOk σ o with
        | true => some (σ.put o.dst (.agg cs), True)
        | false => none
      | none => none
    | _, _ => none
  | .buildSlice t len parts =>
    match elemT P t with
    | some e =>
      match P.info? e with
      | some ie =>
        match dataLs σ (parts.toList.map fun x => σ.ev x.2) with
        | some (ds, l, p) =>
          match fillD (fun i => some (i * ie.size, ie.size)) (List.replicate (len * ie.size) .undef) ((parts.toList.map (·.1)).zip ds) with
          | some cs => match cs.all D.dat && Nat.ble (len * ie.size) 16777216 && (zeroD P e).isSome with
            | true => match told.ro with
              | true => (match l, dstOk σ o with
                | [], true => some (σ.put o.dst (.sl true (chunks ie.size len cs)), p)
                | _, _ => none)
              | false => newD (σ.freezeL l) o { sz := ie.size, rows := chunks ie.size len cs, frz := 0, pure := true, ty := tyR told.mt e } (fun t => .lsl t 0 len) p
            | false => none
          | none => none
        | none => none
      | none => none
    | none => none
  | .makeSlice t l c =>
    match elemT P t, σ.ev l, σ.ev c with
    | some e, .int _ l, .int _ c =>
      match P.info? e, zeroD P e with
      | some ie, some z => match z.length == ie.size && z.all D.dat with
        | true =>
          let rows := told.rows.getD (List.replicate l.toNat z)
          newD σ o { sz := ie.size, rows, frz := 0, pure := true } (fun t => .lsl t 0 rows.length) (0 ≤ l ∧ l ≤ c ∧ (ie.bytes : Int) * c ≤ 281474976710656 ∧ c ≤ 9223372036854775807 ∧ List.replicate l.toNat z = rows)
        | false => none
      | _, _ => none
    | _, _, _ => none
  | .convert src dst x => bytesD P σ o src dst (σ.ev x) told
  | .store t x v => storeD P σ o t (σ.ev x) (σ.ev v) told
  | .call { callee := .value f, args, .. } =>
    match σ.ev f with
    | .fn f => match told.io with
      | none => callD P σ o f (args.toList.map σ.ev) told
      | some io => callO P σ o f (args.toList.map σ.ev) told io
    | _ => none
  | .call { callee := .builtin .append, args, argTypes } =>
    match args, argTypes with
    | ⟨[s, x]⟩, ⟨[t, t']⟩ => appendD P σ o t t' (σ.ev s) (σ.ev x) told
    | _, _ => none
  | .call { callee := .builtin .unsafeString, args, argTypes } =>
    match args, argTypes with
    | ⟨[x, n]⟩, ⟨[pt, _]⟩ => unsD P σ o pt (σ.ev x) (σ.ev n) told
    | _, _ => none
  | _ => none

/-- One operation. -/
def stepD (P : Program) (σ : S) (o : Oper) (told : Told) : Option (S × Prop) :=
  match pureD P σ o told.ans with
  | some (d, p) => match dstOk σ o with
    | true => some (σ.put o.dst d, p)
    | false => none
  | none => effD P σ o told

end Go.Den
