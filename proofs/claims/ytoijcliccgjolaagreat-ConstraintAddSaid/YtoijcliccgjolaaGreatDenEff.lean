/-
  What an operation yields on abstract values, with what it owes (a proposition).
-/
import Derived.Test.YtoijcliccgjolaaGreatDenBase
namespace Go.Den
open Go.RowKit
inductive Ans where
 | go
 | yes
 | no
 | val (d : D)
 | row (r : List D)
 | rows (l : List (List D))
def Z08 {α : Type} (l : List α) (i : Int) : Option α:=if 0 ≤ i then l[i.toNat]? else none
def Z2x (s : List UInt8) (i : Int) : Option Int:=if 0 ≤ i then (s[i.toNat]?).map fun b=>(b.toNat : Int) else none
def sub {α : Type} (l : List α) (lo hi : Int) : Option (List α):=if 0 ≤ lo ∧ lo ≤ hi ∧ hi ≤ l.length then some ((l.drop lo.toNat).take (hi.toNat - lo.toNat)) else none
def aggT (P : Program) (t : TypeId) : Option Bool:=
 match P.underlying t with
 | some (.struct _) | some (.array _ _)=>some true
 | some _=>some false
 | none=>none
def Z43 (P : Program) (t : TypeId) : Option Nat:=(P.info? t).map (·.size)
def Z5n (P : Program) (t : TypeId) : Option TypeId:=match P.underlying t with | some (.slice e)=>some e | _=>none
def D.cells : D → List D
 | .agg cs=>cs
 | d=>[d]
def Z8l : Value → D
 | .bool b=> .bool b
 | .int k n=> .int k n
 | .string s=> .str s.data.toList
 | .slice none 0 0=> .sl true []
 | .pointer none=> .nilptr
 | .func (.func f) ⟨[]⟩ ⟨[]⟩=> .fn f
 | _=> .undef
def Zcg : Value → D
 | .agg vs=>if vs.toList.all one then .agg (vs.toList.map Z8l) else .undef
 | v=>Z8l v
def S.ev (σ : S) : Operand → D
 | .tmp t=>σ.tmps t
 | .const v=>Zcg v
 | .func f=> .fn f
 | .global _=> .undef
def Z42 (k : IntKind) (n : Int) : Ans → Option (D × Prop)
 | .go=>some (.int k n,True)
 | .val (.int k' m)=>if k' = k then some (.int k m,n = m) else none
 | _=>none
def Z5i (b : Bool) : Ans → Option (D × Prop)
 | .go=>some (.bool b,True)
 | .val (.bool c)=>some (.bool c,b = c)
 | _=>none
def strD (s : List UInt8) : Ans → Option (D × Prop)
 | .go=>some (.str s,True)
 | .val (.str t)=>some (.str t,s = t)
 | _=>none
def bitsD (op : BinOp) (k : IntKind) (x y : Int) : Option Int:=
 let a:=BitVec.ofInt k.bits x
 let b:=BitVec.ofInt k.bits y
 match op with
 | .and=>some (k.wrap (a &&& b).toNat)
 | .or=>some (k.wrap (a ||| b).toNat)
 | .xor=>some (k.wrap (a ^^^ b).toNat)
 | .andNot=>some (k.wrap (a &&& ~~~b).toNat)
 | _=>none
def cmpD (op : BinOp) (x y : Int) : Option Bool:=
 match op with
 | .eql=>some (x == y)
 | .neq=>some (x != y)
 | .lss=>some (decide (x < y))
 | .leq=>some (decide (x ≤ y))
 | .gtr=>some (decide (x > y))
 | .geq=>some (decide (x ≥ y))
 | _=>none
def Zp5 (op : BinOp) (k : IntKind) (a b : Int) (ans : Ans) : Option (D × Prop):=
 match op with
 | .add=>Z42 k (k.wrap (a + b)) ans
 | .sub=>Z42 k (k.wrap (a - b)) ans
 | .mul=>Z42 k (k.wrap (a * b)) ans
 | .quo=>(Z42 k (k.wrap (a.tdiv b)) ans).map fun x=>(x.1,b ≠ 0 ∧ x.2)
 | .rem=>(Z42 k (a.tmod b) ans).map fun x=>(x.1,b ≠ 0 ∧ x.2)
 | .and | .or | .xor | .andNot=>
  match bitsD op k a b with
  | some n=>Z42 k n ans
  | none=>none
 | op=>
  match cmpD op a b with
  | some c=>Z5i c ans
  | none=>none
def Znd (op : BinOp) (k : IntKind) (a y : Int) (ans : Ans) : Option (D × Prop):=
 match op with
 | .shl=>(Z42 k (k.wrap (a * 2 ^ (min y.toNat k.bits))) ans).map fun x=>(x.1,0 ≤ y ∧ x.2)
 | .shr=>(Z42 k (a.fdiv (2 ^ (min y.toNat k.bits))) ans).map fun x=>(x.1,0 ≤ y ∧ x.2)
 | _=>none
def Zfo (op : BinOp) (a b : List UInt8) (ans : Ans) : Option (D × Prop):=
 match op with
 | .add=>(strD (a ++ b) ans).map fun x=>(x.1,a.length + b.length ≤ 9223372036854775807 ∧ x.2)
 | .eql=>Z5i (a == b) ans
 | .neq=>Z5i (!(a == b)) ans
 | .lss=>Z5i (Op.bytesLess a b) ans
 | .leq=>Z5i (Op.bytesLess a b || a == b) ans
 | .gtr=>Z5i (!(Op.bytesLess a b || a == b)) ans
 | .geq=>Z5i (!Op.bytesLess a b) ans
 | _=>none
def Z7u (P : Program) (t : TypeId) (cs : List D) (off : Nat) : Option D:=
 match aggT P t,Z43 P t with
 | some true,some s=>if ((cs.drop off).take s).length = s then some (.agg ((cs.drop off).take s)) else none
 | some false,some _=>cs[off]?
 | _,_=>none
def Zkr (P : Program) (f : TypeId → D → D → Option (Bool × Prop)) (xs ys : List D) : List Field → Option (Bool × Prop)
 | [] =>some (true,True)
 | x :: fs=>
  match Z7u P x.type xs x.offset,Z7u P x.type ys x.offset with
  | some a,some b=>
   match f x.type a b,Zkr P f xs ys fs with
   | some (r, p), some (r', q) => some (r && r', x.name ≠ "_" ∧ p ∧ q)
   | _,_=>none
  | _,_=>none
def Zj4 (P : Program) : Nat → TypeId → D → D → Option (Bool × Prop)
 | 0,_,_,_=>none
 | m + 1,t,x,y=>
  match P.underlying t,x,y with
  | some .bool,.bool a,.bool b=>some (a == b,True)
  | some (.int _),.int k a,.int k' b=>if k = k' then some (a == b,True) else none
  | some .string,.str a,.str b=>some (a == b,True)
  | some (.struct fs),.agg xs,.agg ys=>
   match Zkr P (Zj4 P m) xs ys fs.toList with
   | some (r,p)=>some (r,P.stoodInHeld t = false ∧ p)
   | none=>none
  | _,_,_=>none
def ptrD (P : Program) (op : BinOp) (xt : TypeId) (same : Bool) : Option (D × Prop):=
 match P.underlying xt with
 | some (.pointer te)=>match P.info? te with
  | some _=>match op with
   | .eql=>some (.bool same,True)
   | .neq=>some (.bool (!same),True)
   | _=>none
  | none=>none
 | _=>none
def binD (P : Program) (op : BinOp) (xt : TypeId) (x y : D) (ans : Ans) : Option (D × Prop):=
 match x,y with
 | .int k a,.int k' b=>
  match op with
  | .shl | .shr=>Znd op k a b ans
  | _=>if k = k' then Zp5 op k a b ans else none
 | .str a,.str b=>Zfo op a b ans
 | .bool a,.bool b=>
  match P.underlying xt with
  | some .bool=>
   match op with
   | .eql=>Z5i (a == b) ans
   | .neq=>Z5i (!(a == b)) ans
   | _=>none
  | _=>none
 | .agg a,.agg b=>
  match Zj4 P 6 xt (.agg a) (.agg b),ans with
  | some (r,p),.val (.bool c)=>
   match op with
   | .eql=>some (.bool c,P.eqGuardType P.depth xt = false ∧ p ∧ r = c)
   | .neq=>some (.bool c,P.eqGuardType P.depth xt = false ∧ p ∧ (!r) = c)
   | _=>none
  | _,_=>none
 | .nilptr,.nilptr=>ptrD P op xt true
 | .lptr _ _ _,.nilptr=>ptrD P op xt false
 | .lptr b i o,.lptr b' i' o'=>match Nat.beq b b' && Nat.beq i i' && Nat.beq o o' with
  | true=>ptrD P op xt true
  | false=>none
 | _,_=>none
def unD (op : UnOp) (x : D) (ans : Ans) : Option (D × Prop):=
 match op,x with
 | .neg,.int k n=>Z42 k (k.wrap (0 - n)) ans
 | .not,.bool b=>Z5i (!b) ans
 | _,_=>none
def Zid (P : Program) (src dst : TypeId) (x : D) (ans : Ans) : Option (D × Prop):=
 match P.underlying src,P.underlying dst,x with
 | some (.int _),some (.int k),.int _ n=>Z42 k (k.wrap n) ans
 | some .string,some .string,.str s=>some (.str s,True)
 | some (.int _),some .string,.int _ n=>strD (Utf8.encode n).data.toList ans
 | _,_,_=>none
def Ziy (P : Program) (s : TypeId) (f : Nat) : Option (Nat × TypeId):=
 match P.underlying s with
 | some (.struct fs)=>
  match fs[f]? with
  | some x=>some (x.offset,x.type)
  | none=>none
 | _=>none
def Z70 (σ : S) (x : D) (ans : Ans) : Option (List D × Prop):=
 match x with
 | .ptr cs=>some (cs,True)
 | .lptr b i o=>
  match σ.heap b with
  | some blk=>
   match ans with
   | .row r=>some (r.drop o,blk.rows[i]? = some r)
   | _=>
    match blk.rows[i]? with
    | some r=>some (r.drop o,True)
    | none=>none
  | none=>none
 | _=>none
def Z5o (P : Program) (σ : S) (t : TypeId) (x : D) (ans : Ans) : Option (D × Prop):=
 match Z70 σ x ans with
 | some (cs,p)=>
  match Z7u P t cs 0 with
  | some d=>some (d,p)
  | none=>none
 | none=>none
def Zq4 (P : Program) (s : TypeId) (x : D) (f : Nat) : Option D:=
 match Ziy P s f with
 | some (off,t)=>
  match Z43 P t with
  | some (_ + 1)=>
   match x with
   | .ptr cs=>some (.ptr (cs.drop off))
   | .lptr b i o=>some (.lptr b i (o + off))
   | _=>none
  | _=>none
 | none=>none
def Z7h (P : Program) (σ : S) (t : TypeId) (x i : D) (ans : Ans) : Option (D × Prop):=
 match i with
 | .int _ i=>
  match P.underlying t with
  | some (.slice e)=>
   match Z43 P e with
   | some sz=>
    match x with
    | .sl _ rows=>
     match ans with
     | .row r=>if r.length = sz then some (.ptr r,Z08 rows i = some r) else none
     | _=>
      match Z08 rows i with
      | some r=>if r.length = sz then some (.ptr r,True) else none
      | none=>none
    | .lsl b lo n=>
     match σ.heap b with
     | some blk=>
      if blk.sz = sz then
       match ans with
       | .val (.lptr b' j 0)=>if b' = b then some (.lptr b j 0,0 ≤ i ∧ i < n ∧ (lo : Int) + i = j) else none
       | _=>some (.lptr b (lo + i.toNat) 0,0 ≤ i ∧ i < n)
      else none
     | none=>none
    | _=>none
   | none=>none
  | some (.array len e)=>
   match Z43 P e with
   | some sz=>
    match x with
    | .lptr b r o=>some (.lptr b r (o + i.toNat * sz),0 ≤ i ∧ i < len)
    | .ptr cs=>some (.ptr (cs.drop (i.toNat * sz)),0 ≤ i ∧ i < len)
    | _=>none
   | none=>none
  | _=>none
 | _=>none
def Zop (P : Program) (t : TypeId) (x i : D) (ans : Ans) : Option (D × Prop):=
 match i with
 | .int _ i=>
  match P.underlying t,x with
  | some .string,.str s=>
   match ans with
   | .val (.int .u8 c)=>some (.int .u8 c,Z2x s i = some c)
   | _=>
    match Z2x s i with
    | some c=>some (.int .u8 c,True)
    | none=>none
  | some (.array len e),.agg cs=>
   match Z43 P e with
   | some sz=>
    match Z7u P e cs (i.toNat * sz) with
    | some d=>some (d,0 ≤ i ∧ i < len)
    | none=>none
   | none=>none
  | _,_=>none
 | _=>none
def Z7v (x : Option D) (dflt : Int) : Option Int:=
 match x with
 | none=>some dflt
 | some (.int _ i)=>some i
 | some _=>none
def Z7y (P : Program) (σ : S) (t : TypeId) (x : D) (lo hi mx : Option D) (ans : Ans) : Option (D × Prop):=
 match P.underlying t,x with
 | some .string,.str s=>
  match mx,Z7v lo 0,Z7v hi s.length with
  | none,some l,some h=>
   match ans with
   | .val (.str r)=>some (.str r,sub s l h = some r)
   | _=>
    match sub s l h with
    | some r=>some (.str r,True)
    | none=>none
  | _,_,_=>none
 | some (.slice e),.sl _ rows=>
  match Z43 P e with
  | some sz=>
   match mx,Z7v lo 0,Z7v hi rows.length with
   | none,some l,some h=>
    match ans with
    | .rows r=>some (.sl false r,(∀ x ∈ rows,x.length = sz) ∧ sub rows l h = some r)
    | _=>
     match sub rows l h with
     | some r=>some (.sl false r,∀ x ∈ rows,x.length = sz)
     | none=>none
   | some m,some l,some h=>
    match hi,Z7v (some m) 0 with
    | some _,some m=>
     match ans with
     | .rows r=>some (.sl true r,(∀ x ∈ rows,x.length = sz) ∧ m = h ∧ sub rows l h = some r)
     | _=>
      match sub rows l h with
      | some r=>some (.sl true r,(∀ x ∈ rows,x.length = sz) ∧ m = h)
      | none=>none
    | _,_=>none
   | _,_,_=>none
  | none=>none
 | some (.slice e),.lsl b l0 n=>
  match σ.heap b,Z43 P e with
  | some blk,some sz=>
   if blk.sz = sz then
    match mx,Z7v lo 0,Z7v hi n with
    | none,some l,some h=>some (.lsl b (l0 + l.toNat) (h.toNat - l.toNat),0 ≤ l ∧ l ≤ h ∧ h ≤ n)
    | _,_,_=>none
   else none
  | _,_=>none
 | _,_=>none
def lenD (P : Program) (t : TypeId) (x : D) (ans : Ans) : Option (D × Prop):=
 match P.underlying t,x with
 | some .string,.str s=>Z42 .i64 s.length ans
 | some (.slice _),.sl _ rows=>Z42 .i64 rows.length ans
 | some (.slice _),.lsl _ _ n=>Z42 .i64 n ans
 | some (.array n _),_=>Z42 .i64 n ans
 | _,_=>none
def Zjv (c a b : D) (ans : Ans) : Option (D × Prop):=
 match c with
 | .bool c=>
  match ans with
  | .yes=>some (a,c = true)
  | .no=>some (b,c = false)
  | _=>
   match c with
   | true=>some (a,True)
   | false=>some (b,True)
 | _=>none
def maxD (x y : D) (ans : Ans) : Option (D × Prop):=
 match x,y with
 | .int k a,.int _ b=>Z42 k (if b > a then b else a) ans
 | _,_=>none
def Z1y (P : Program) (σ : S) (o : Oper) (ans : Ans) : Option (D × Prop):=
 match o.op with
 | .move x | .assign x=>some (σ.ev x,True)
 | .pick c a b=>Zjv (σ.ev c) (σ.ev a) (σ.ev b) ans
 | .binOp op xt x y _=>binD P op xt (σ.ev x) (σ.ev y) ans
 | .unOp op _ x=>unD op (σ.ev x) ans
 | .convert src dst x=>Zid P src dst (σ.ev x) ans
 | .load t x=>Z5o P σ t (σ.ev x) ans
 | .fieldAddr s x f=>
  match Zq4 P s (σ.ev x) f with
  | some d=>some (d,True)
  | none=>none
 | .field s x f=>
  match σ.ev x,Ziy P s f with
  | .agg cs,some (off,t)=>
   match Z7u P t cs off with
   | some d=>some (d,True)
   | none=>none
  | _,_=>none
 | .indexAddr t x i=>Z7h P σ t (σ.ev x) (σ.ev i) ans
 | .index t x i=>Zop P t (σ.ev x) (σ.ev i) ans
 | .slice t x lo hi mx=>Z7y P σ t (σ.ev x) (lo.map σ.ev) (hi.map σ.ev) (mx.map σ.ev) ans
 | .extract x i=>
  match σ.ev x with
  | .tup vs=>
   match vs[i]? with
   | some d=>some (d,True)
   | none=>none
  | _=>none
 | .nilCheck x=>
  match σ.ev x with
  | .ptr cs=>some (.ptr cs,True)
  | .lptr b i j=>some (.lptr b i j,True)
  | _=>none
 | .call { callee:= .builtin .len,args,argTypes }=>
  match args[0]?,argTypes[0]? with
  | some x,some t=>lenD P t (σ.ev x) ans
  | _,_=>none
 | .call { callee:= .builtin .unsafeSliceData,args:=⟨[x]⟩,.. }=>
  match σ.ev x with
  | .lsl b 0 n=>some (.lptr b 0 0,0 < n)
  | _=>none
 | .call { callee:= .builtin .max,args:=⟨[x,y]⟩,.. }=>maxD (σ.ev x) (σ.ev y) ans
 | _=>none
end Go.Den
