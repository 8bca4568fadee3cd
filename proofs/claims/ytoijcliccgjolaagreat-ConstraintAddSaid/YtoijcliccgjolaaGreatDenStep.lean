/-
  One operation on the abstract state: those that make, write or freeze blocks, and calls.
-/
import Derived.Test.YtoijcliccgjolaaGreatDenHeap
namespace Go.Den
open Go.RowKit
structure IO where
 names : List Nat
 fresh : List (Nat × Nat):=[]
 nils : List (Nat × Nat):=[]
 bs : List Blk
 bs' : List Blk
 /-- what is known to have no room stays known so -/
 kp : Bool:=false
structure Z1j where
 ans : Ans:= .go
 /-- the arguments of a call as data; the rows of a block behind a write -/
 args : List D:=[]
 rows : Option (List (List D)):=none
 row : Option (List D):=none
 io : Option IO:=none
 /-- a box that is never written; a variable whose type is kept in mind -/
 ro : Bool:=false
 /-- a slice literal whose type is kept in mind -/
 mt : Bool:=false
def Z6c (P : Program) (f : FuncId) : Bool:=
 match P.funcs[f]? with
 | some fn => !(fn.name == "runtime.NumGoroutine") && fn.body.isSome
 | none=>false
structure Z6j (w : World) (G : Nat → Nat) (vs : Array Value) (ds : List D) : Prop where
 size : ds.length = vs.size
 rep : ∀ (j : Nat) v d,vs[j]? = some v → ds[j]? = some d → Z06 w G (fun _=>none) v d
def Z0c (P : Program) (f : FuncId) (ds : List D) (r : D) : Prop:=
 Z6c P f = true ∧ ∀ (w : World) (G : Nat → Nat) (vs : Array Value),(∀ c,w.heap.size ≤ c → G c = 0) → Z6j w G vs ds →
  Calls P f vs w fun e w'=>∃ v G',e = .returned v ∧ Below w.heap.size w w' ∧ (∀ c,c < w.heap.size → G' c = G c) ∧ (∀ c,w'.heap.size ≤ c → G' c = 0) ∧ Z06 w' G' (fun _=>none) v r
def ExtSpec (P : Program) (f : FuncId) (ds : List D) (r : D) : Prop:=
 ∀ (w : World) (G : Nat → Nat) (vs : Array Value),Z6j w G vs ds → ∃ v,(callFunc f vs).run P w = .ok (.value v) w ∧ Z06 w G (fun _=>none) v r
def Zal (P : Program) (f : FuncId) (ds : List D) (r : D) : Prop:=Z0c P f ds r ∨ ExtSpec P f ds r
def Z45 (σ : S) : D → Option (D × List Nat × Prop)
 | .lsl b lo n=>
  match σ.heap b with
  | some blk=>match blk.pure with
   | true=>some (.sl false ((blk.rows.drop lo).take n),[b],lo + n ≤ blk.rows.length)
   | false=>none
  | none=>none
 | .lptr b i o=>
  match σ.heap b with
  | some blk=>
   match blk.rows[i]? with
   | some r=>match r.all D.dat with
    | true=>some (.ptr (r.drop o),[b],True)
    | false=>none
   | none=>none
  | none=>none
 | .sl _ rows=>some (.sl false rows,[],True)
 | d=>match d.dat with
  | true=>some (d,[],True)
  | false=>none
def Z5q (σ : S) : List D → Option (List D × List Nat × Prop)
 | [] =>some ([],[],True)
 | d :: r=>
  match Z45 σ d,Z5q σ r with
  | some (d',l,p),some (r',l',p')=>some (d' :: r',l ++ l',p ∧ p')
  | _,_=>none
def Z5h (σ : S) (d : D) : Option (D × List Nat × Prop):=
 match d with
 | .agg cs=>
  match Z5q σ cs with
  | some (cs',l,p)=>some (.agg cs',l,p)
  | none=>none
 | d=>Z45 σ d
def Z39 (σ : S) : List D → Option (List D × List Nat × Prop)
 | [] =>some ([],[],True)
 | d :: r=>
  match Z5h σ d,Z39 σ r with
  | some (d',l,p),some (r',l',p')=>some (d' :: r',l ++ l',p ∧ p')
  | _,_=>none
def S.freezeL (σ : S) (l : List Nat) : S:=l.foldl S.freeze σ
def Z60 (P : Program) (t : TypeId) : Option (List D):=
 match P.info? t with
 | some i=>
  match i.zero with
  | some v=>match v.cells.toList.all one with
   | true=>some (v.cells.toList.map Z8l)
   | false=>none
  | none=>none
 | none=>none
def Zqh : D → D
 | .sl _ rows=> .sl false rows
 | d=>d
def Zf7 (P : Program) (t : TypeId) : Option (List D):=match Z60 P t with
 | some z=>some (z.map Zqh)
 | none=>none
def cellsOf : D → Option (List D)
 | .agg cs=>some cs
 | .tup _=>none
 | .undef=>none
 | d=>some [d]
def Z4r (cells : List D) (off : Nat) (dc : List D) : List D:=cells.take off ++ dc ++ cells.drop (off + dc.length)
def Z82 (place : Nat → Option (Nat × Nat)) (cells : List D) : List (Nat × D) → Option (List D)
 | [] =>some cells
 | (i,d) :: rest=>
  match place i,cellsOf d with
  | some (off,size),some dc=>match dc.length == size && Nat.ble (off + dc.length) cells.length with
   | true=>Z82 place (Z4r cells off dc) rest
   | false=>none
  | _,_=>none
def Zfv (P : Program) (t : TypeId) : Option (Nat → Option (Nat × Nat)):=
 match P.underlying t with
 | some (.struct fs)=>
  match fs.toList.mapM (fun f=>(P.info? f.type).map fun i=>(f.offset,i.size)) with
  | some places=>some fun i=>places[i]?
  | none=>none
 | some (.array _ e)=>
  match P.info? e with
  | some ie=>some fun i=>some (i * ie.size,ie.size)
  | none=>none
 | _=>none
def Z55 (sz : Nat) : Nat → List D → List (List D)
 | 0,_=>[]
 | n + 1,cs=>cs.take sz :: Z55 sz n (cs.drop sz)
def Z23 (σ : S) (o : Oper) : Bool:=match o.dst with | some t=>Nat.blt t σ.n | none=>true
def Z5k (σ : S) : D → Option (List (List D) × Prop)
 | .sl _ rows=>some (rows,True)
 | .lsl b lo n=>
  match σ.heap b with
  | some blk=>match blk.pure with
   | true=>some ((blk.rows.drop lo).take n,lo + n ≤ blk.rows.length)
   | false=>none
  | none=>none
 | _=>none
def Z8f (P : Program) (σ : S) (t t' : TypeId) (x : D) : Option (List (List D) × Prop):=
 match x with
 | .str s=>match P.underlying t' with
  | some .string=>some (s.map fun b=>[.int .u8 b.toNat],True)
  | _=>none
 | x=>match t == t' with
  | true=>Z5k σ x
  | false=>none
def Z6y : List (List D) → Option (List UInt8)
 | [] =>some []
 | [.int .u8 n] :: r=>
  match Z6y r with
  | some s=>some (UInt8.ofNat n.toNat :: s)
  | none=>none
 | _=>none
def tyIs (k : Blk) (e : TypeId) : Bool:=match k.ty with
 | some t=>Nat.beq t e
 | none=>false
def Zd9 (P : Program) (σ : S) (src dst : TypeId) (b : Nat) : Bool:=
 match σ.heap b with
 | some k=>match k.ty with
  | some e=>match P.underlying src,P.underlying dst with
   | some (.pointer t),some .unsafePointer=>match P.info? t with
    | some j=>!Nat.beq j.size 0 && Nat.blt 0 (k.rows.length * k.sz)
    | none=>false
   | some .unsafePointer,some (.pointer u)=>match P.info? u with
    | some _=>Nat.blt 0 (P.cellsOf e) && Nat.ble (P.cellsOf e) (k.rows.length * k.sz) && liesAt P P.depth e 1 0 u 1
    | none=>false
   | _,_=>false
  | none=>false
 | none=>false
def Z9e (P : Program) (σ : S) (src dst : TypeId) (x : D) : Bool:=
 match x with
 | .lsl b _ n=>match σ.heap b,P.underlying dst with
  | some k,some (.slice e)=>match P.underlying e with
   | some (.int .u8)=>Nat.beq src dst && Nat.blt 0 n && k.ty.isSome
   | _=>false
  | _,_=>false
 | _=>false
def Z9g (P : Program) (σ : S) (o : Oper) (src dst : TypeId) (x : D) (told : Z1j) : Option (S × Prop):=
 match x with
 | .lptr b 0 0=>match Zd9 P σ src dst b && Z23 σ o with
  | true=>some (σ.put o.dst (.lptr b 0 0),True)
  | false=>none
 | x=>
 match Z9e P σ src dst x && Z23 σ o with
 | true=>some (σ.put o.dst x,True)
 | false=>
 match P.underlying dst,Z5n P src with
 | some .string,some e=>
  match P.underlying e,Z43 P e with
  | some (.int .u8),some 1=>
   match Z5k σ x,told.ans,Z23 σ o with
   | some (rows,q),.val (.str s),true=>some (σ.put o.dst (.str s),q ∧ Z6y rows = some s)
   | _,_,_=>none
  | _,_=>none
 | _,_=>none
def Z4y (σ : S) (o : Oper) (blk : Blk) (v : Nat → D) (p : Prop) : Option (S × Prop):=
 match o.dst with
 | some t=>
  match σ.heap t with
  | some _=>none
  | none=>match Nat.blt t σ.n with
   | true=>some ((σ.setB t (some blk)).put (some t) (v t),p)
   | false=>none
 | none=>none
def tyK (a : Option TypeId) (e : TypeId) : Option TypeId:=match a with
 | some t=>match Nat.beq t e with
  | true=>some t
  | false=>none
 | none=>none
theorem Y3i {a : Option TypeId} {e t : TypeId} (h : tyK a e = some t) : a = some t ∧ e = t:=by
 unfold tyK at h
 split at h
 ·split at h
  ·rename_i hb; cases h; exact ⟨rfl,(Nat.eq_of_beq_eq_true hb).symm⟩
  ·cases h
 ·cases h
def tyM (m : Bool) (a : Option TypeId) (e : TypeId) : Option TypeId:=match m with
 | true=>tyK a e
 | false=>none
theorem Zws {m : Bool} {a : Option TypeId} {e t : TypeId} (h : tyM m a e = some t) : a = some t ∧ e = t:=by
 unfold tyM at h
 split at h
 ·exact Y3i h
 ·cases h
def Z9a (P : Program) (σ : S) (o : Oper) (t t' : TypeId) (s x : D) (told : Z1j) : Option (S × Prop):=
 match Z5n P t with
 | none=>none
 | some e=>
  match P.info? e,Z8f P σ t t' x with
  | some ie,some (news,q)=>
   match ie.zero with
   | none=>none
   | some z=>match z.cells.size == ie.size && Nat.blt 0 ie.size with
    | false=>none
    | true=>
    match s with
    | .lsl b 0 n=>
     match σ.heap b with
     | some blk=>match blk.pure && blk.sz == ie.size && Z23 σ o with
      | true=>
       let rows:=told.rows.getD (blk.rows ++ news)
       some (((σ.drop b).setB b (some { blk with rows:=rows,pin:=none,ty:=tyM told.mt blk.ty e })).put o.dst (.lsl b 0 rows.length),
        q ∧ n = blk.rows.length ∧ (∀ r ∈ news,r.length = ie.size) ∧ blk.rows ++ news = rows ∧ rows.length ≤ 9223372036854775807 ∧ rows.length * ie.bytes ≤ 140737488355328)
      | false=>none
     | none=>none
    | .sl true olds=>
     let rows:=told.rows.getD (olds ++ news)
     Z4y σ o { sz:=ie.size,rows,frz:=0,pure:=true } (fun t=> .lsl t 0 rows.length)
      (q ∧ (olds = [] ∨ news ≠ []) ∧ (∀ r ∈ olds,r.length = ie.size) ∧ (∀ r ∈ news,r.length = ie.size) ∧ olds ++ news = rows ∧ rows.length ≤ 9223372036854775807 ∧ rows.length * ie.bytes ≤ 140737488355328)
    | _=>none
  | _,_=>none
def Z8c (P : Program) (σ : S) (o : Oper) (t : TypeId) (x : D) (v : D) (told : Z1j) : Option (S × Prop):=
 match x with
 | .lptr b i off=>
  match σ.heap b,cellsOf v,Z43 P t with
  | some blk,some cs,some sz=>match cs.length == sz && (!blk.pure || cs.all D.dat) && Z23 σ o with
   | true=>
    match told.row with
    | some r=>
     let rows:=told.rows.getD (blk.rows.set i (Z4r r off cs))
     some ((σ.setB b (some { blk with rows:=rows })).put o.dst .undef,blk.frz ≤ i ∧ blk.rows[i]? = some r ∧ off + cs.length ≤ r.length ∧ blk.rows.set i (Z4r r off cs) = rows)
    | none=>
     match blk.rows[i]? with
     | some r=>
      let rows:=told.rows.getD (blk.rows.set i (Z4r r off cs))
      some ((σ.setB b (some { blk with rows:=rows })).put o.dst .undef,blk.frz ≤ i ∧ off + cs.length ≤ r.length ∧ blk.rows.set i (Z4r r off cs) = rows)
     | none=>none
   | false=>none
  | _,_,_=>none
 | _=>none
def Z6g (told : Z1j) (ds : List D) : List D:=match told.args with
 | [] =>ds
 | l=>l
def isNoEsc (P : Program) (f : FuncId) : Prop := ∃ fn, P.funcs[f]? = some fn ∧ (fn.name == "runtime.NumGoroutine") = false ∧ fn.body.isNone = true ∧ Extern.findNext fn = none ∧ Extern.find fn = some Extern.AbiNoEscape.same
def Zba (P : Program) (σ : S) (o : Oper) (f : FuncId) (args : List D) (told : Z1j) : Option (S × Prop):=
 match told.ans with
 | .val r=>
  match Z39 σ args with
  | some (ds,l,p)=>match Z23 σ o with
   | true=>
    match r.scalar with
    | true=>some (σ.put o.dst r,p ∧ ds = (Z6g told ds) ∧ Zal P f (Z6g told ds) r)
    | false=>some ((σ.freezeL l).put o.dst r,p ∧ ds = (Z6g told ds) ∧ Zal P f (Z6g told ds) r)
   | false=>none
  | none=>none
 | .go=>match args,Z23 σ o with
  | [.lptr b i off],true=>some (σ.put o.dst (.lptr b i off),isNoEsc P f)
  | _,_=>none
 | _=>none
def unsD (P : Program) (σ : S) (o : Oper) (pt : TypeId) (x n : D) (told : Z1j) : Option (S × Prop):=
 match x,n with
 | .lptr b 0 0,.int .i64 n=>
  match σ.heap b,P.underlying pt,told.ans with
  | some k,some (.pointer e),.val (.str s)=>match Nat.beq k.sz 1 && Nat.beq (P.cellsOf e) 1 && tyIs k e && Z23 σ o with
   | true=>some (((σ.drop b).setB b (some { sz:=1,rows:=[],frz:=0,pure:=true })).put o.dst (.str s),Z6y k.rows = some s ∧ n = (s.length : Int) ∧ s ≠ [] ∧ s.length ≤ 9223372036854775807)
   | false=>none
  | _,_,_=>none
 | _,_=>none
def Z3s : Nat → List D → List (Nat × D)
 | _,[] =>[]
 | i,d :: r=>(i,d) :: Z3s (i + 1) r
def Z35 (b : Nat) : List Nat → Option Nat
 | [] =>none
 | x :: r=>match b == x with
  | true=>some 0
  | false=>match Z35 b r with
   | some k=>some (k + 1)
   | none=>none
def inA (ρ : List Nat) : D → Option D
 | .lptr b i o=>match Z35 b ρ with
  | some k=>some (.lptr k i o)
  | none=>none
 | .lsl b lo n=>match Z35 b ρ with
  | some k=>some (.lsl k lo n)
  | none=>none
 | .undef=>some .undef
 | d=>match d.dat with
  | true=>some d
  | false=>none
def inL (ρ : List Nat) : List D → Option (List D)
 | [] =>some []
 | d :: r=>match inA ρ d,inL ρ r with
  | some x,some y=>some (x :: y)
  | _,_=>none
def inR (ρ : List Nat) : List (List D) → Option (List (List D))
 | [] =>some []
 | d :: r=>match inL ρ d,inR ρ r with
  | some x,some y=>some (x :: y)
  | _,_=>none
def inB (ρ : List Nat) (pin : Option Nat) (k : Blk) : Option Blk:=
 match k.pure with
 | true=>some { k with pin:=pin }
 | false=>match inR ρ k.rows with
  | some rows=>some { k with rows:=rows,pin:=pin }
  | none=>none
def Z6e (σ : S) (ρ : List Nat) (mark : Option Nat → Nat → Option Nat) : Nat → List Nat → Option (List Blk)
 | _,[] =>some []
 | j,b :: r=>
  match σ.heap b with
  | some k=>
   match inB ρ (mark k.pin j) k,Z6e σ ρ mark (j + 1) r with
   | some x,some y=>some (x :: y)
   | _,_=>none
  | none=>none
def inRef (ρ : List Nat) : D → Option D
 | .lptr b i o=>match Z35 b ρ with
  | some k=>some (.lptr k i o)
  | none=>none
 | .lsl b lo n=>match Z35 b ρ with
  | some k=>some (.lsl k lo n)
  | none=>none
 | .undef=>some .undef
 | _=>none
def Za5 (σ : S) : D → Option (D × List Nat × Prop)
 | .sl c rows=>some (.sl c rows,[],True)
 | d=>Z45 σ d
def Z9b (σ : S) : List D → Option (List D × List Nat × Prop)
 | [] =>some ([],[],True)
 | d :: r=>
  match Za5 σ d,Z9b σ r with
  | some (d',l,p),some (r',l',p')=>some (d' :: r',l ++ l',p ∧ p')
  | _,_=>none
def Zac (kp : Bool) (σ : S) (d : D) : Option (D × List Nat × Prop):=
 match kp with
 | false=>Z5h σ d
 | true=>
  match d with
  | .agg cs=>
   match Z9b σ cs with
   | some (cs',l,p)=>some (.agg cs',l,p)
   | none=>none
  | d=>Za5 σ d
def Z4x (kp : Bool) (σ : S) (ρ : List Nat) : List D → Option (List D × List Nat × Prop)
 | [] =>some ([],[],True)
 | d :: r=>
  match inRef ρ d with
  | some x=>
   match Z4x kp σ ρ r with
   | some (y,l,q)=>some (x :: y,l,q)
   | none=>none
  | none=>
   match Zac kp σ d,Z4x kp σ ρ r with
   | some (x,l,p),some (y,l',q)=>some (x :: y,l ++ l',p ∧ q)
   | _,_=>none
def outA (ρ : List Nat) : D → D
 | .lptr k i o=>match ρ[k]? with
  | some b=> .lptr b i o
  | none=> .undef
 | .lsl k lo n=>match ρ[k]? with
  | some b=> .lsl b lo n
  | none=> .undef
 | .agg _ | .tup _=> .undef
 | d=>d
def outE (ρ : List Nat) : D → D
 | .agg cs=> .agg (cs.map (outA ρ))
 | d=>outA ρ d
def outD (ρ : List Nat) : D → D
 | .tup vs=> .tup (vs.map (outE ρ))
 | d=>outE ρ d
def Z7d (ρ : List Nat) (pin : Option Nat) (k : Blk) : Blk:=
 match k.pure with
 | true=>{ k with pin:=pin }
 | false=>{ k with rows:=k.rows.map (·.map (outA ρ)),pin:=pin }
def Z8n (j : Nat) (k : Blk) : Bool:=
 match k.pin with
 | some i=>match i == j with
  | true=>match k.rows with
   | _ :: _=>true
   | [] =>false
  | false=>false
 | none=>false
def Z5e (σ : S) (ρ : List Nat) : Nat → List Nat → List Blk → List Blk
 | j,b :: r,k :: l=>Z7d ρ (match Z8n j k with
  | true=>(match σ.heap b with
   | some k0=>(match k0.rows with
    | _ :: _=>k0.pin
    | [] =>none)
   | none=>none)
  | false=>none) k :: Z5e σ ρ (j + 1) r l
 | _,_,_=>[]
def Z87 : Nat → List Nat → List Blk → List Nat
 | j,b :: r,k :: l=>match Z8n j k with
  | true=>Z87 (j + 1) r l
  | false=>b :: Z87 (j + 1) r l
 | _,_,_=>[]
def S.dropL (σ : S) : List Nat → S
 | [] =>σ
 | b :: l=>(σ.drop b).dropL l
def S.setL (σ : S) (ρ : List Nat) (bs : List Blk) : S:={ σ with heap:=fun u=>match Z35 u ρ with
 | some k=>bs[k]?
 | none=>σ.heap u }
def S.nilL (σ : S) : List (Nat × Nat) → Option S
 | [] =>some σ
 | (b,sz) :: l=>match σ.heap b with
  | none=>(σ.setB b (some { sz,rows:=[],frz:=0,pure:=true })).nilL l
  | some _=>none
def Zqz : List (Nat × Nat) → Nat → Option Nat
 | [],_=>none
 | (k,b) :: r,i=>match i == k with
  | true=>some b
  | false=>Zqz r i
def Z77 (l : List (Nat × Nat)) : Nat → List D → List D
 | _,[] =>[]
 | j,d :: r=>(match Zqz l j with
  | some b=>(match d with
   | .sl true [] => .lsl b 0 0
   | d=>d)
  | none=>d) :: Z77 l (j + 1) r
def Z4e : Nat → List Blk → List (Nat × Blk)
 | _,[] =>[]
 | j,k :: r=>(j,k) :: Z4e (j + 1) r
def Z6f : List Nat → Bool
 | [] =>true
 | x :: r=>(match Z35 x r with
  | some _=>false
  | none=>true) && Z6f r
def Z8k : List Blk → List Blk → Bool
 | [],[] =>true
 | k :: l,k' :: l'=>k.sz == k'.sz && k.frz == 0 && Z8k l l'
 | _,_=>false
def Z3y (P : Program) (f : FuncId) (ds : List D) (bs : List Blk) (r : D) (bs' : List Blk) : Prop:=
 Z6c P f = true ∧ ∀ (Γ : Ctx) (vs : Array Value) (w : World) (G : Nat → Nat) (β : Nat → Option (Nat × Nat)),
  Z05 Γ (mkS ds.length (Z3s 0 ds) (Z4e 0 bs)) { tmps:=vs,defers:=[] } w G β →
  Calls P f vs w fun e w'=>∃ v G' β',e = .returned v ∧ Z05 Γ (mkS 1 [(0,r)] (Z4e 0 bs')) { tmps:=#[v],defers:=[] } w' G' β'
def Ze2 (bs : List Blk) (j : Nat) : Option Nat:=
 match bs[j]? with
 | some k=>match k.pin with
  | some i=>match i == j with
   | true=>some j
   | false=>none
  | none=>none
 | none=>none
def Z9j (P : Program) (σ : S) (o : Oper) (f : FuncId) (args : List D) (told : Z1j) (io : IO) : Option (S × Prop):=
 match told.ans with
 | .val r=>
  match σ.nilL io.fresh with
  | some σ0 =>
   match Z4x io.kp σ0 io.names (Z77 io.nils 0 args) with
   | some (ds,l,p)=>
    match Z6e (σ0.freezeL l) io.names (fun _ j=>Ze2 io.bs j) 0 io.names with
    | some bs=>match Z23 σ o && Z6f io.names && Z8k io.bs io.bs' with
     | true=>some (((((σ0.freezeL l).dropL (Z87 0 io.names io.bs')).setL io.names (Z5e (σ0.freezeL l) io.names 0 io.names io.bs'))).put o.dst (outD io.names r),
       p ∧ ds = (Z6g told ds) ∧ bs = io.bs ∧ Z3y P f (Z6g told ds) io.bs r io.bs')
     | false=>none
    | none=>none
   | none=>none
  | none=>none
 | _=>none
def tyR (b : Bool) (e : TypeId) : Option TypeId:=match b with
 | true=>some e
 | false=>none
def Z3g (P : Program) (σ : S) (o : Oper) (told : Z1j) : Option (S × Prop):=
 match o.op with
 | .alloc e=>
  match Z60 P e with
  | some cs=>Z4y σ o { sz:=cs.length,rows:=[cs],frz:=0,pure:=false,ty:=tyR told.ro e } (fun t=> .lptr t 0 0) True
  | none=>none
 | .box _ x=>
  match cellsOf (σ.ev x) with
  | some cs=>match told.ro with
   | true=>(match cs.all D.dat,Z23 σ o with
    | true,true=>some (σ.put o.dst (.ptr cs),True)
    | _,_=>none)
   | false=>Z4y σ o { sz:=cs.length,rows:=[cs],frz:=0,pure:=false } (fun t=> .lptr t 0 0) True
  | none=>none
 | .build t parts=>
  match Z60 P t,Zfv P t with
  | some z,some pl=>
   match Z82 pl z (parts.toList.map fun x=>(x.1,σ.ev x.2)) with
   | some cs=>match Z23 σ o with
    | true=>some (σ.put o.dst (.agg cs),True)
    | false=>none
   | none=>none
  | _,_=>none
 | .buildSlice t len parts=>
  match Z5n P t with
  | some e=>
   match P.info? e with
   | some ie =>
    match Z39 σ (parts.toList.map fun x=>σ.ev x.2) with
    | some (ds,l,p)=>
     match Z82 (fun i=>some (i * ie.size,ie.size)) (List.replicate (len * ie.size) .undef) ((parts.toList.map (·.1)).zip ds) with
     | some cs=>match cs.all D.dat && Nat.ble (len * ie.size) 16777216 && (Z60 P e).isSome with
      | true=>match told.ro with
       | true=>(match Z23 σ o with
        | true=>(match told.rows with
         | none=>some ((σ.freezeL l).put o.dst (.sl true (Z55 ie.size len cs)),p)
         | some rows=>some ((σ.freezeL l).put o.dst (.sl true rows),p ∧ Z55 ie.size len cs = rows))
        | false=>none)
       | false=>Z4y (σ.freezeL l) o { sz:=ie.size,rows:=Z55 ie.size len cs,frz:=0,pure:=true,ty:=tyR told.mt e } (fun t=> .lsl t 0 len) p
      | false=>none
     | none=>none
    | none=>none
   | none=>none
  | none=>none
 | .makeSlice t l c=>
  match Z5n P t,σ.ev l,σ.ev c with
  | some e,.int _ l,.int _ c=>
   match P.info? e,Zf7 P e with
   | some ie,some z=>match z.length == ie.size && z.all D.dat with
    | true=>
     let rows:=told.rows.getD (List.replicate l.toNat z)
     Z4y σ o { sz:=ie.size,rows,frz:=0,pure:=true } (fun t=> .lsl t 0 rows.length) (0 ≤ l ∧ l ≤ c ∧ (ie.bytes : Int) * c ≤ 281474976710656 ∧ c ≤ 9223372036854775807 ∧ List.replicate l.toNat z = rows)
    | false=>none
   | _,_=>none
  | _,_,_=>none
 | .convert src dst x=>Z9g P σ o src dst (σ.ev x) told
 | .store t x v=>Z8c P σ o t (σ.ev x) (σ.ev v) told
 | .call { callee:= .value f,args,.. }=>
  match σ.ev f with
  | .fn f=>match told.io with
   | none=>Zba P σ o f (args.toList.map σ.ev) told
   | some io=>Z9j P σ o f (args.toList.map σ.ev) told io
  | _=>none
 | .call { callee:= .builtin .append,args,argTypes }=>
  match args,argTypes with
  | ⟨[s,x]⟩,⟨[t,t']⟩=>Z9a P σ o t t' (σ.ev s) (σ.ev x) told
  | _,_=>none
 | .call { callee:= .builtin .unsafeString,args,argTypes }=>
  match args,argTypes with
  | ⟨[x,n]⟩,⟨[pt,_]⟩=>unsD P σ o pt (σ.ev x) (σ.ev n) told
  | _,_=>none
 | _=>none
def Z2k (P : Program) (σ : S) (o : Oper) (told : Z1j) : Option (S × Prop):=
 match Z1y P σ o told.ans with
 | some (d,p)=>match Z23 σ o with
  | true=>some (σ.put o.dst d,p)
  | false=>none
 | none=>Z3g P σ o told
end Go.Den
