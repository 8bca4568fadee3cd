/-
  One operation on the abstract state: those that make, write or freeze blocks, and calls.
-/
import Derived.Test.YtbblhamkmlfgfaaDenHeap
namespace Go.Den
open Go.RowKit

/-- What is told of a call or of a write from outside, besides 'Ans'. -/
structure Told where
  ans : Ans := .go
  /-- the arguments of a call as data; the rows of a block behind a write -/
  args : List D := []
  rows : Option (List (List D)) := none
  row : Option (List D) := none

def enters (P : Program) (f : FuncId) : Bool :=
  match P.funcs[f]? with
  | some fn => !(fn.name == "runtime.NumGoroutine") && fn.body.isSome
  | none => false

/-- Values for data. -/
structure RepArgs (w : World) (G : Nat → Nat) (vs : Array Value) (ds : List D) : Prop where
  size : ds.length = vs.size
  rep : ∀ (j : Nat) v d, vs[j]? = some v → ds[j]? = some d → VRep w G (fun _ => none) v d

/-- Called with data the function hands back data; of what there was nothing turns. -/
def CallSpec (P : Program) (f : FuncId) (ds : List D) (r : D) : Prop :=
  enters P f = true ∧ ∀ (w : World) (G : Nat → Nat) (vs : Array Value), (∀ c, w.heap.size ≤ c → G c = 0) → RepArgs w G vs ds →
    Calls P f vs w fun e w' => ∃ v G', e = .returned v ∧ Below w.heap.size w w' ∧ (∀ c, c < w.heap.size → G' c = G c) ∧ (∀ c, w'.heap.size ≤ c → G' c = 0) ∧ VRep w' G' (fun _ => none) v r

/-- A function without a body of its own: it answers at once. -/
def ExtSpec (P : Program) (f : FuncId) (ds : List D) (r : D) : Prop :=
  ∀ (w : World) (G : Nat → Nat) (vs : Array Value), RepArgs w G vs ds → ∃ v, (callFunc f vs).run P w = .ok (.value v) w ∧ VRep w G (fun _ => none) v r
def CallAny (P : Program) (f : FuncId) (ds : List D) (r : D) : Prop := CallSpec P f ds r ∨ ExtSpec P f ds r

/-- A value as data: the data, the blocks that are frozen by that, what is owed. -/
def dataA (σ : S) : D → Option (D × List Nat × Prop)
  | .lsl b lo n =>
    match σ.heap b with
    | some blk => match blk.pure with
      | true => some (.sl false ((blk.rows.drop lo).take n), [b], lo + n ≤ blk.rows.length)
      | false => none
    | none => none
  | .lptr b i o =>
    match σ.heap b with
    | some blk =>
      match blk.rows[i]? with
      | some r => match r.all D.dat with
        | true => some (.ptr (r.drop o), [b], True)
        | false => none
      | none => none
    | none => none
  | .sl _ rows => some (.sl false rows, [], True)
  | d => match d.dat with
    | true => some (d, [], True)
    | false => none

def dataL (σ : S) : List D → Option (List D × List Nat × Prop)
  | [] => some ([], [], True)
  | d :: r =>
    match dataA σ d, dataL σ r with
    | some (d', l, p), some (r', l', p') => some (d' :: r', l ++ l', p ∧ p')
    | _, _ => none

def dataD (σ : S) (d : D) : Option (D × List Nat × Prop) :=
  match d with
  | .agg cs =>
    match dataL σ cs with
    | some (cs', l, p) => some (.agg cs', l, p)
    | none => none
  | d => dataA σ d

def dataLs (σ : S) : List D → Option (List D × List Nat × Prop)
  | [] => some ([], [], True)
  | d :: r =>
    match dataD σ d, dataLs σ r with
    | some (d', l, p), some (r', l', p') => some (d' :: r', l ++ l', p ∧ p')
    | _, _ => none

def S.freezeL (σ : S) (l : List Nat) : S := l.foldl S.freeze σ

def zeroD (P : Program) (t : TypeId) : Option (List D) :=
  match P.info? t with
  | some i =>
    match i.zero with
    | some v => match v.cells.toList.all one with
      | true => some (v.cells.toList.map constA)
      | false => none
    | none => none
  | none => none

def cellsOf : D → Option (List D)
  | .agg cs => some cs
  | .tup _ => none
  | .undef => none
  | d => some [d]

def splice (cells : List D) (off : Nat) (dc : List D) : List D := cells.take off ++ dc ++ cells.drop (off + dc.length)

def fillD (place : Nat → Option (Nat × Nat)) (cells : List D) : List (Nat × D) → Option (List D)
  | [] => some cells
  | (i, d) :: rest =>
    match place i, cellsOf d with
    | some (off, size), some dc => match dc.length == size && Nat.ble (off + dc.length) cells.length with
      | true => fillD place (splice cells off dc) rest
      | false => none
    | _, _ => none

def placesD (P : Program) (t : TypeId) : Option (Nat → Option (Nat × Nat)) :=
  match P.underlying t with
  | some (.struct fs) =>
    match fs.toList.mapM (fun f => (P.info? f.type).map fun i => (f.offset, i.size)) with
    | some places => some fun i => places[i]?
    | none => none
  | some (.array _ e) =>
    match P.info? e with
    | some ie => some fun i => some (i * ie.size, ie.size)
    | none => none
  | _ => none

def chunks (sz : Nat) : Nat → List D → List (List D)
  | 0, _ => []
  | n + 1, cs => cs.take sz :: chunks sz n (cs.drop sz)

def dstOk (σ : S) (o : Oper) : Bool := match o.dst with | some t => Nat.blt t σ.n | none => true

/-- The rows of a slice that is read. -/
def rowsD (σ : S) : D → Option (List (List D) × Prop)
  | .sl _ rows => some (rows, True)
  | .lsl b lo n =>
    match σ.heap b with
    | some blk => match blk.pure with
      | true => some ((blk.rows.drop lo).take n, lo + n ≤ blk.rows.length)
      | false => none
    | none => none
  | _ => none

/-- The bytes of a slice of bytes. -/
def rowBytes : List (List D) → Option (List UInt8)
  | [] => some []
  | [.int .u8 n] :: r =>
    match rowBytes r with
    | some s => some (UInt8.ofNat n.toNat :: s)
    | none => none
  | _ => none

/-- A slice of bytes as a string. -/
def bytesD (P : Program) (σ : S) (o : Oper) (src dst : TypeId) (x : D) (told : Told) : Option (S × Prop) :=
  match P.underlying dst, elemT P src with
  | some .string, some e =>
    match P.underlying e, sizeT P e with
    | some (.int .u8), some 1 =>
      match rowsD σ x, told.ans, dstOk σ o with
      | some (rows, q), .val (.str s), true => some (σ.put o.dst (.str s), q ∧ rowBytes rows = some s)
      | _, _, _ => none
    | _, _ => none
  | _, _ => none

/-- A new block under the name of the slot that it goes to. -/
def newD (σ : S) (o : Oper) (blk : Blk) (v : Nat → D) (p : Prop) : Option (S × Prop) :=
  match o.dst with
  | some t =>
    match σ.heap t with
    | some _ => none
    | none => match Nat.blt t σ.n with
      | true => some ((σ.setB t (some blk)).put (some t) (v t), p)
      | false => none
  | none => none

def appendD (P : Program) (σ : S) (o : Oper) (t : TypeId) (s x : D) (told : Told) : Option (S × Prop) :=
  match elemT P t with
  | none => none
  | some e =>
    match P.info? e, rowsD σ x with
    | some ie, some (news, q) =>
      match ie.zero with
      | none => none
      | some z => match z.cells.size == ie.size && Nat.blt 0 ie.size with
        | false => none
        | true =>
        match s with
        | .lsl b 0 n =>
          match σ.heap b with
          | some blk => match blk.pure && blk.sz == ie.size && dstOk σ o with
            | true =>
              let rows := told.rows.getD (blk.rows ++ news)
              some (((σ.drop b).setB b (some { blk with rows := rows })).put o.dst (.lsl b 0 rows.length),
                q ∧ n = blk.rows.length ∧ (∀ r ∈ news, r.length = ie.size) ∧ blk.rows ++ news = rows ∧ rows.length ≤ 9223372036854775807 ∧ rows.length * ie.bytes ≤ 140737488355328)
            | false => none
          | none => none
        | .sl true olds =>
          let rows := told.rows.getD (olds ++ news)
          newD σ o { sz := ie.size, rows, frz := 0, pure := true } (fun t => .lsl t 0 rows.length)
            (q ∧ (olds = [] ∨ news ≠ []) ∧ (∀ r ∈ olds, r.length = ie.size) ∧ (∀ r ∈ news, r.length = ie.size) ∧ olds ++ news = rows ∧ rows.length ≤ 9223372036854775807 ∧ rows.length * ie.bytes ≤ 140737488355328)
        | _ => none
    | _, _ => none

def storeD (P : Program) (σ : S) (o : Oper) (t : TypeId) (x : D) (v : D) (told : Told) : Option (S × Prop) :=
  match x with
  | .lptr b i off =>
    match σ.heap b, cellsOf v, sizeT P t with
    | some blk, some cs, some sz => match cs.length == sz && (!blk.pure || cs.all D.dat) && dstOk σ o with
      | true =>
        match told.row with
        | some r =>
          let rows := told.rows.getD (blk.rows.set i (splice r off cs))
          some ((σ.setB b (some { blk with rows := rows })).put o.dst .undef, blk.frz ≤ i ∧ blk.rows[i]? = some r ∧ off + cs.length ≤ r.length ∧ blk.rows.set i (splice r off cs) = rows)
        | none =>
          match blk.rows[i]? with
          | some r =>
            let rows := told.rows.getD (blk.rows.set i (splice r off cs))
            some ((σ.setB b (some { blk with rows := rows })).put o.dst .undef, blk.frz ≤ i ∧ off + cs.length ≤ r.length ∧ blk.rows.set i (splice r off cs) = rows)
          | none => none
      | false => none
    | _, _, _ => none
  | _ => none

def callD (P : Program) (σ : S) (o : Oper) (f : FuncId) (args : List D) (told : Told) : Option (S × Prop) :=
  match told.ans with
  | .val r =>
    match dataLs σ args with
    | some (ds, l, p) => match dstOk σ o with
      | true =>
        match r.scalar with
        | true => some (σ.put o.dst r, p ∧ ds = told.args ∧ CallAny P f told.args r)
        | false => some ((σ.freezeL l).put o.dst r, p ∧ ds = told.args ∧ CallAny P f told.args r)
      | false => none
    | none => none
  | _ => none

def effD (P : Program) (σ : S) (o : Oper) (told : Told) : Option (S × Prop) :=
  match o.op with
  | .alloc e =>
    match zeroD P e with
    | some cs => newD σ o { sz := cs.length, rows := [cs], frz := 0, pure := false } (fun t => .lptr t 0 0) True
    | none => none
  | .box _ x =>
    match cellsOf (σ.ev x) with
    | some cs => newD σ o { sz := cs.length, rows := [cs], frz := 0, pure := false } (fun t => .lptr t 0 0) True
    | none => none
  | .build t parts =>
    match zeroD P t, placesD P t with
    | some z, some pl =>
      match fillD pl z (parts.toList.map fun x => (x.1, σ.ev x.2)) with
      | some cs => match dstOk σ o with
        | true => some (σ.put o.dst (.agg cs), True)
        | false => none
      | none => none
    | _, _ => none
  | .buildSlice t len parts =>
    match elemT P t with
    | some e =>
      match P.info? e with
      | some ie =>
        match dataLs σ (parts.toList.map fun x => σ.ev x.2) with
        | some (ds, l, p) =>
          match fillD (fun i => some (i * ie.size, ie.size)) (List.replicate (len * ie.size) .undef) ((parts.toList.map (·.1)).zip ds) with
          | some cs => match cs.all D.dat && Nat.ble (len * ie.size) 16777216 && (zeroD P e).isSome with
            | true => newD (σ.freezeL l) o { sz := ie.size, rows := chunks ie.size len cs, frz := 0, pure := true } (fun t => .lsl t 0 len) p
            | false => none
          | none => none
        | none => none
      | none => none
    | none => none
  | .makeSlice t l c =>
    match elemT P t, σ.ev l, σ.ev c with
    | some e, .int _ l, .int _ c =>
      match P.info? e, zeroD P e with
      | some ie, some z => match z.length == ie.size && z.all D.dat with
        | true =>
          let rows := told.rows.getD (List.replicate l.toNat z)
          newD σ o { sz := ie.size, rows, frz := 0, pure := true } (fun t => .lsl t 0 rows.length) (0 ≤ l ∧ l ≤ c ∧ (ie.bytes : Int) * c ≤ 281474976710656 ∧ c ≤ 9223372036854775807 ∧ List.replicate l.toNat z = rows)
        | false => none
      | _, _ => none
    | _, _, _ => none
  | .convert src dst x => bytesD P σ o src dst (σ.ev x) told
  | .store t x v => storeD P σ o t (σ.ev x) (σ.ev v) told
  | .call { callee := .value f, args, .. } =>
    match σ.ev f with
    | .fn f => callD P σ o f (args.toList.map σ.ev) told
    | _ => none
  | .call { callee := .builtin .append, args, argTypes } =>
    match args, argTypes with
    | ⟨[s, x]⟩, ⟨[t, t']⟩ => match t == t' with
      | true => appendD P σ o t (σ.ev s) (σ.ev x) told
      | false => none
    | _, _ => none
  | _ => none

/-- One operation. -/
def stepD (P : Program) (σ : S) (o : Oper) (told : Told) : Option (S × Prop) :=
  match pureD P σ o told.ans with
  | some (d, p) => match dstOk σ o with
    | true => some (σ.put o.dst d, p)
    | false => none
  | none => effD P σ o told

end Go.Den
