/-
  Objects that refer to objects: what is reachable, and that a set of marks which is closed holds it. No condition.
-/
import Derived.WalkKit
import Derived.Lib.Strings
import Derived.Lib.UnsafeStr
import Derived.Lib.Builder
set_option linter.unusedVariables false
set_option linter.unusedSimpArgs false
namespace Go.Proofs
structure Gr where
 N:Nat
 refs:Int→List Int
 to:Int→Int
 str:Int→Int
 roots:List Int
structure Gr.Ok (g:Gr):Prop where
 roots:∀ n∈g.roots,1≤n∧n≤g.N
 refs:∀ n:Int,1≤n→n≤g.N→∀ m∈g.refs n,1≤m∧m≤g.N
 to:∀ n:Int,1≤n→n≤g.N→g.to n=0∨(1≤g.to n∧g.to n≤g.N)
 str:∀ n,0≤g.str n∧g.str n≤3
 weak:∀ n,g.str n=0→g.to n=0
inductive Gr.Re (g:Gr) (k:Int):Int→Prop where
 | root {n:Int} (h:n∈g.roots):Gr.Re g k n
 | ref {n m:Int} (h:Gr.Re g k n) (hm:m∈g.refs n):Gr.Re g k m
 | to {n:Int} (h:Gr.Re g k n) (hk:k≤g.str n) (h0:g.to n≠0):Gr.Re g k (g.to n)
theorem Gr.Re.mono {g:Gr} {k k':Int} (hk:k≤k') {n:Int} (h:g.Re k' n):g.Re k n:=by
 induction h with
 | root h=>exact .root h
 | ref _ hm ih=>exact .ref ih hm
 | to _ h1 h0 ih=>exact .to ih (by omega) h0
theorem Gr.Re.least {g:Gr} {k:Int} {S:Int→Prop} (h0:∀ n∈g.roots,S n) (h1:∀ n,S n→∀ m∈g.refs n,S m) (h2:∀ n,S n→k≤g.str n→g.to n≠0→S (g.to n)) {n:Int} (h:g.Re k n):S n:=by
 induction h with
 | root h=>exact h0 _ h
 | ref _ hm ih=>exact h1 _ ih _ hm
 | to _ hk hz ih=>exact h2 _ ih hk hz
def L5 (g:Gr) (lev:Int→Int):Prop:=∀ n:Int,1≤n→n≤g.N→0≤lev n∧lev n≤4∧∀ k,1≤k→k≤4→(k≤lev n↔g.Re k n)
theorem L5.same {g:Gr} {l l':Int→Int} (h:L5 g l) (h':L5 g l') {n:Int} (h1:1≤n) (h2:n≤g.N):l n=l' n:=by
 obtain⟨a1,a2,a3⟩:=h n h1 h2
 obtain⟨b1,b2,b3⟩:=h' n h1 h2
 have key:∀ x y:Int,0≤x→x≤4→0≤y→y≤4→(∀ k,1≤k→k≤4→(k≤x↔k≤y))→x=y:=λx y x0 x4 y0 y4 h=>by
  have e1:=h 1 (by omega) (by omega)
  have e2:=h 2 (by omega) (by omega)
  have e3:=h 3 (by omega) (by omega)
  have e4:=h 4 (by omega) (by omega)
  omega
 exact key _ _ a1 a2 b1 b2 λk k1 k4=>(a3 k k1 k4).trans (b3 k k1 k4).symm
theorem L5.closed {g:Gr} (hg:g.Ok) {lev:Int→Int} (hr:∀ n∈g.roots,lev n=4) (h04:∀ n:Int,1≤n→n≤g.N→0≤lev n∧lev n≤4)
  (hs:∀ n:Int,1≤n→n≤g.N→1≤lev n→g.Re (lev n) n)
  (h1:∀ n:Int,1≤n→n≤g.N→1≤lev n→∀ m∈g.refs n,lev n≤lev m)
  (h2:∀ n:Int,1≤n→n≤g.N→1≤lev n→g.to n≠0→min (lev n) (g.str n)≤lev (g.to n)):L5 g lev:=λn n1 nN=>by
 obtain⟨l0,l4⟩:=h04 n n1 nN
 refine⟨l0,l4,λk k1 k4=>⟨λhk=>(hs n n1 nN (by omega)).mono hk,λhR=>?_⟩⟩
 have:∀ {n},g.Re k n→(1≤n∧n≤g.N)∧k≤lev n:=λ{n} h=>by
  refine Gr.Re.least (S:=λn=>(1≤n∧n≤g.N)∧k≤lev n) (λn hn=>⟨hg.roots n hn,by rw[hr n hn]; exact k4⟩) (λn ⟨hn,hk⟩ m hm=>⟨hg.refs n hn.1 hn.2 m hm,?_⟩) (λn ⟨hn,hk⟩ hs' h0=>⟨(hg.to n hn.1 hn.2).resolve_left h0,?_⟩) h
  ·have:=h1 n hn.1 hn.2 (by omega) m hm; omega
  ·have:=h2 n hn.1 hn.2 (by omega) h0; omega
 exact(this hR).2
end Go.Proofs
namespace Go.Den
def gl0:List (List UInt8):=[[],[108,97,110,103,47,80,104,97,110,116,111,109,82,101,102,101,114,101,110,99,101],[108,97,110,103,47,87,101,97,107,82,101,102,101,114,101,110,99,101],[108,97,110,103,47,83,111,102,116,82,101,102,101,114,101,110,99,101]]
def Zc6:List (Nat×List (List UInt8)):=[(0,gl0)]
end Go.Den
namespace Go.Den
open Go.RowKit
inductive D:Type where
 | undef
 | bool (b:Bool)
 | int (k:IntKind) (n:Int)
 | str (s:List UInt8)
 /-- a slice of memory that nobody writes any more; `c`:its capacity is its length -/
 | sl (c:Bool) (rows:List (List D))
 | agg (cs:List D)
 /-- a pointer into memory that nobody writes any more:the cells from there on -/
 | ptr (cs:List D)
 | nilptr
 /-- a pointer to a block of the call's own:its name,the row,the cell in the row -/
 | lptr (b i o:Nat)
 /-- a slice over a block of the call's own:its name,the first row,the number of rows -/
 | lsl (b lo n:Nat)
 | tup (vs:List D)
 | fn (f:FuncId)
 /-- a function that holds pointers to blocks of the call's own -/
 | clo (f:FuncId) (bs:List Nat)
 /-- as 'lsl',and known:whether there is no room behind the rows -/
 | lsk (full:Bool) (b lo n:Nat)
 /-- this very value -/
 | raw (v:Value)
 deriving Inhabited
def one:Value→Bool
 | .agg _|.tuple _=>false
 | _=>true
def D.dat:D→Bool
 | .bool _|.int _ _|.str _|.sl _ _|.ptr _|.nilptr|.fn _|.raw _=>true
 | _=>false
inductive Z9 (w:World) (G:Nat→Nat) (β:Nat→Option (Nat×Nat)):Value→D→Prop where
 | undef (v:Value):Z9 w G β v .undef
 | bool (b:Bool):Z9 w G β (.bool b) (.bool b)
 | int (k:IntKind) (n:Int):Z9 w G β (.int k n) (.int k n)
 | str (s:ByteArray):Z9 w G β (.string s) (.str s.data.toList)
 | slnil (c:Bool) (x:Option Addr):Z9 w G β (.slice x 0 0) (.sl c [])
 | sl (c:Bool) (b off n cap sz:Nat) (rows:List (List D)) (val:Nat→Nat→Value)
   (hn:rows.length=n) (hc:c=true→cap=n) (hcap:n≤cap)
   (hsz:∀ (i:Nat) (r:List D),rows[i]?=some r→r.length=sz)
   (himm:∀ i j,i<n→j<sz→off+i*sz+j<G b)
   (hcell:∀ i j,i<n→j<sz→w.cell? ⟨b,off+i*sz+j,none⟩=some (val i j))
   (hone:∀ i j,i<n→j<sz→one (val i j)=true)
   (hdat:∀ (i j:Nat) (r:List D) (d:D),rows[i]?=some r→r[j]?=some d→d.dat=true)
   (hrep:∀ (i j:Nat) (r:List D) (d:D),rows[i]?=some r→r[j]?=some d→Z9 w G β (val i j) d):
   Z9 w G β (.slice (some ⟨b,off,none⟩) n cap) (.sl c rows)
 | agg (vs:Array Value) (cs:List D) (hn:cs.length=vs.size)
   (hone:∀ (j:Nat) v,vs[j]?=some v→one v=true)
   (hrep:∀ (j:Nat) v d,vs[j]?=some v→cs[j]?=some d→Z9 w G β v d):
   Z9 w G β (.agg vs) (.agg cs)
 | ptr (b off:Nat) (cs:List D) (val:Nat→Value)
   (himm:∀ j,j<cs.length→off+j<G b)
   (hcell:∀ j,j<cs.length→w.cell? ⟨b,off+j,none⟩=some (val j))
   (hone:∀ j,j<cs.length→one (val j)=true)
   (hdat:∀ (j:Nat) d,cs[j]?=some d→d.dat=true)
   (hrep:∀ (j:Nat) d,cs[j]?=some d→Z9 w G β (val j) d):
   Z9 w G β (.pointer (some ⟨b,off,none⟩)) (.ptr cs)
 | nilptr:Z9 w G β (.pointer none) .nilptr
 | lptr (b i o c sz:Nat) (h:β b=some (c,sz)):Z9 w G β (.pointer (some ⟨c,i*sz+o,none⟩)) (.lptr b i o)
 | lslnil (b:Nat) (x:Option Addr):Z9 w G β (.slice x 0 0) (.lsl b 0 0)
 | lsl (b lo n cap c sz off:Nat) (h:β b=some (c,sz)) (hcap:n≤cap) (hoff:cap=0∨off=lo*sz)
   (hroom:∃ vs e fr,w.heap[c]?=some (.cells vs e fr)∧(cap=0∨(lo+cap)*sz≤vs.size)):
   Z9 w G β (.slice (some ⟨c,off,none⟩) n cap) (.lsl b lo n)
 | tup (vs:Array Value) (ds:List D) (hn:ds.length=vs.size)
   (hrep:∀ (j:Nat) v d,vs[j]?=some v→ds[j]?=some d→Z9 w G β v d):
   Z9 w G β (.tuple vs) (.tup ds)
 | fn (f:FuncId):Z9 w G β (.func (.func f) #[] #[]) (.fn f)
 | clo (f:FuncId) (vs:Array Value) (bs:List Nat) (hn:bs.length=vs.size)
   (hrep:∀ (j:Nat) v b,vs[j]?=some v→bs[j]?=some b→∃ c sz,β b=some (c,sz)∧v=.pointer (some ⟨c,0,none⟩)):Z9 w G β (.func (.func f) #[] vs) (.clo f bs)
 | lskn (b:Nat) (x:Option Addr):Z9 w G β (.slice x 0 0) (.lsk true b 0 0)
 | lsk (full:Bool) (b lo n cap c sz off:Nat) (h:β b=some (c,sz)) (hcap:n≤cap) (hfull:full=true→cap=n) (hfree:full=false→n<cap) (hoff:cap=0∨off=lo*sz)
   (hroom:∃ vs e fr,w.heap[c]?=some (.cells vs e fr)∧(cap=0∨(lo+cap)*sz≤vs.size)):
   Z9 w G β (.slice (some ⟨c,off,none⟩) n cap) (.lsk full b lo n)
 | raw (v:Value) (h:one v=true):Z9 w G β v (.raw v)
def J8 (w w':World):Prop:=∀ (c:Nat) vs e fr,w.heap[c]?=some (.cells vs e fr)→∃ vs' fr',w'.heap[c]?=some (.cells vs' e fr')∧vs'.size=vs.size
theorem J8.refl (w:World):J8 w w:=λ_ vs _ fr h=>⟨vs,fr,h,rfl⟩
theorem J8.trans {a b c:World} (h:J8 a b) (k:J8 b c):J8 a c:=λi vs e fr hi=>by
 obtain⟨vs',fr',h1,h2⟩:=h i vs e fr hi
 obtain⟨vs'',fr'',h3,h4⟩:=k i vs' e fr' h1
 exact⟨vs'',fr'',h3,h4.trans h2⟩
theorem Z9.mono {w w':World} {G G':Nat→Nat} {β β':Nat→Option (Nat×Nat)} {v:Value} {d:D} (h:Z9 w G β v d)
  (hc:∀ b o,o<G b→w'.cell? ⟨b,o,none⟩=w.cell? ⟨b,o,none⟩) (hG:∀ b,G b≤G' b)
  (hβ:∀ b x,β b=some x→β' b=some x) (hs:J8 w w'):Z9 w' G' β' v d:=by
 induction h with
 | undef v=>exact .undef v
 | bool b=>exact .bool b
 | int k n=>exact .int k n
 | str s=>exact .str s
 | slnil c x=>exact .slnil c x
 | sl c b off n cap sz rows val hn hcc hcap hsz himm hcell hone hdat hrep ih=>
  refine .sl c b off n cap sz rows val hn hcc hcap hsz (λi j hi hj=>Nat.lt_of_lt_of_le (himm i j hi hj) (hG b)) (λi j hi hj=>?_) hone hdat (λi j r d hr hd=>ih i j r d hr hd)
  rw[hc _ _ (himm i j hi hj)]; exact hcell i j hi hj
 | agg vs cs hn hone hrep ih=>exact .agg vs cs hn hone (λj v d hv hd=>ih j v d hv hd)
 | ptr b off cs val himm hcell hone hdat hrep ih=>
  refine .ptr b off cs val (λj hj=>Nat.lt_of_lt_of_le (himm j hj) (hG b)) (λj hj=>?_) hone hdat (λj d hd=>ih j d hd)
  rw[hc _ _ (himm j hj)]; exact hcell j hj
 | nilptr=>exact .nilptr
 | lptr b i o c sz h=>exact .lptr b i o c sz (hβ _ _ h)
 | lslnil b x=>exact .lslnil b x
 | lsl b lo n cap c sz off h hcap hoff hroom=>
  obtain⟨vs,e,fr,h1,h2⟩:=hroom
  obtain⟨vs',fr',h3,h4⟩:=hs c vs e fr h1
  exact .lsl b lo n cap c sz off (hβ _ _ h) hcap hoff ⟨vs',e,fr',h3,by omega⟩
 | tup vs ds hn hrep ih=>exact .tup vs ds hn (λj v d hv hd=>ih j v d hv hd)
 | fn f=>exact .fn f
 | clo f vs bs hn hrep=>exact .clo f vs bs hn λj v b hv hb=>by obtain⟨c,sz,h1,h2⟩:=hrep j v b hv hb; exact⟨c,sz,hβ _ _ h1,h2⟩
 | lskn b x=>exact .lskn b x
 | lsk full b lo n cap c sz off h hcap hfull hfree hoff hroom=>
  obtain⟨vs,e,fr,h1,h2⟩:=hroom
  obtain⟨vs',fr',h3,h4⟩:=hs c vs e fr h1
  exact .lsk full b lo n cap c sz off (hβ _ _ h) hcap hfull hfree hoff ⟨vs',e,fr',h3,by omega⟩
 | raw v h=>exact .raw v h
theorem Z9.unk {w:World} {G:Nat→Nat} {β:Nat→Option (Nat×Nat)} {v:Value} {full:Bool} {b lo n:Nat} (h:Z9 w G β v (.lsk full b lo n)):Z9 w G β v (.lsl b lo n):=by
 cases h with
 | lskn _ x=>exact .lslnil b x
 | lsk _ _ _ _ cap c sz off h hcap hfull hfree hoff hroom=>exact .lsl b lo n cap c sz off h hcap hoff hroom
theorem Z9.of_dat {w w':World} {G G':Nat→Nat} {β β':Nat→Option (Nat×Nat)} {v:Value} {d:D} (h:Z9 w G β v d)
  (hc:∀ b o,o<G b→w'.cell? ⟨b,o,none⟩=w.cell? ⟨b,o,none⟩) (hG:∀ b,G b≤G' b) (hd:d.dat=true):Z9 w' G' β' v d:=by
 induction h with
 | bool b=>exact .bool b
 | int k n=>exact .int k n
 | str s=>exact .str s
 | slnil c x=>exact .slnil c x
 | sl c b off n cap sz rows val hn hcc hcap hsz himm hcell hone hdat hrep ih=>
  refine .sl c b off n cap sz rows val hn hcc hcap hsz (λi j hi hj=>Nat.lt_of_lt_of_le (himm i j hi hj) (hG b)) (λi j hi hj=>?_) hone hdat (λi j r d hr hd=>ih i j r d hr hd (hdat i j r d hr hd))
  rw[hc _ _ (himm i j hi hj)]; exact hcell i j hi hj
 | ptr b off cs val himm hcell hone hdat hrep ih=>
  refine .ptr b off cs val (λj hj=>Nat.lt_of_lt_of_le (himm j hj) (hG b)) (λj hj=>?_) hone hdat (λj d hd=>ih j d hd (hdat j d hd))
  rw[hc _ _ (himm j hj)]; exact hcell j hj
 | nilptr=>exact .nilptr
 | fn f=>exact .fn f
 | raw v h=>exact .raw v h
 | _=>simp[D.dat] at hd
theorem Zta {w:World} {G:Nat→Nat} {β:Nat→Option (Nat×Nat)} {v:Value} {d:D} (h:Z9 w G β v d)
  (h1:d≠ .undef) (h2:∀ cs,d≠ .agg cs) (h3:∀ cs,d≠ .tup cs):one v=true:=by
 cases h <;> first|rfl|assumption|exact absurd rfl h1|exact absurd rfl (h2 _)|exact absurd rfl (h3 _)
def Z52:List D→Bool
 | [] =>true
 | .bool _::r|.int _ _::r|.str _::r=>Z52 r
 | _=>false
def D.scalar:D→Bool
 | .bool _|.int _ _|.str _=>true
 | .tup vs=>Z52 vs
 | _=>false
theorem Ztt:∀ {l:List D},Z52 l=true→∀ {j:Nat} {d:D},l[j]?=some d→(∃ b,d=.bool b)∨(∃ k n,d=.int k n)∨(∃ s,d=.str s)
 | [],_,_,_,h=>by simp at h
 | x :: r,hs,j,d,h=>by
  cases j with
  | zero=>
   simp at h; subst h
   cases x <;> simp[Z52] at hs ⊢
  | succ j=>
   simp at h
   cases x <;> simp[Z52] at hs <;> exact Ztt hs h
theorem Z9.of_scalar {w w':World} {G G':Nat→Nat} {β β':Nat→Option (Nat×Nat)} {v:Value} {d:D} (h:Z9 w G β v d) (hs:d.scalar=true):Z9 w' G' β' v d:=by
 cases h with
 | bool b=>exact .bool b
 | int k n=>exact .int k n
 | str s=>exact .str s
 | tup vs ds hn hrep=>
  refine .tup vs ds hn λj v d hv hd=>?_
  have h1:=hrep j v d hv hd
  rcases Ztt (by simpa [D.scalar] using hs) hd with ⟨b,rfl⟩|⟨k,n,rfl⟩|⟨s,rfl⟩
  ·cases h1; exact .bool b
  ·cases h1; exact .int k n
  ·cases h1; exact .str _
 | _=>simp[D.scalar] at hs
structure Blk where
 sz:Nat
 rows:List (List D)
 /-- so many rows are never written again -/
 frz:Nat
 /-- it holds values without blocks of the call's own -/
 pure:Bool
 /-- handed in by the caller,where it stands still -/
 pin:Option Nat:=none
 /-- the type of its cells,where it is known -/
 ty:Option TypeId:=none
 deriving Inhabited
structure S where
 n:Nat
 tmps:Nat→D
 heap:Nat→Option Blk
def ofL:List (Nat×D)→Nat→D
 | [],_=> .undef
 | (k,d)::r,t=>if t=k then d else ofL r t
def ofB:List (Nat×Blk)→Nat→Option Blk
 | [],_=>none
 | (k,d)::r,t=>if t=k then some d else ofB r t
def mkS (n:Nat) (l:List (Nat×D)) (h:List (Nat×Blk)):S:={ n,tmps:=ofL l,heap:=ofB h }
def S.put (σ:S) (dst:Option Nat) (d:D):S:=
 match dst with
 | some t=>{ σ with tmps:=λu=>if u=t then d else σ.tmps u }
 | none=>σ
def S.setB (σ:S) (b:Nat) (x:Option Blk):S:={ σ with heap:=λu=>if u=b then x else σ.heap u }
def Mo (w:World) (G:Nat→Nat):Prop:=∀ g l,Zc6.lookup g=some l→l≠[]∧l.length≤G g∧∀ (j:Nat) s,l[j]?=some s→∃ b:ByteArray,b.data.toList=s∧w.cell? ⟨g,j,none⟩=some (.string b)
theorem Mo.mono {w w':World} {G G':Nat→Nat} (h:Mo w G) (hc:∀ b o,o<G b→w'.cell? ⟨b,o,none⟩=w.cell? ⟨b,o,none⟩) (hG:∀ b,G b≤G' b):Mo w' G':=λg l hl=>by
 obtain⟨h1,h2,h3⟩:=h g l hl
 refine⟨h1,Nat.le_trans h2 (hG g),λj s hs=>?_⟩
 obtain⟨b,e1,e2⟩:=h3 j s hs
 have hj:j<l.length:=by
  rcases Nat.lt_or_ge j l.length with h'|h'
  ·exact h'
  ·rw[List.getElem?_eq_none h'] at hs; cases hs
 exact⟨b,e1,by rw[hc g j (by omega)]; exact e2⟩
structure Ctx where
 B:Nat
 X:Nat→Prop
 w0:World
 G0:Nat→Nat
 hB:B≤w0.heap.size
 /-- where the blocks stand that were handed in -/
 pin:Nat→Nat
structure Jf (B:Nat) (X:Nat→Prop) (w w':World):Prop where
 os:w'.os=w.os
 tape:w'.tape=w.tape
 output:w'.output=w.output
 size:w.heap.size≤w'.heap.size
 block:∀ k,k<B→ ¬ X k→w'.heap[k]?=w.heap[k]?
 same:J8 w w'
theorem Jf.refl (B:Nat) (X:Nat→Prop) (w:World):Jf B X w w:=⟨rfl,rfl,rfl,Nat.le_refl _,λ_ _ _=>rfl,.refl w⟩
theorem Jf.trans {B:Nat} {X:Nat→Prop} {a b c:World} (h:Jf B X a b) (k:Jf B X b c):Jf B X a c:=
 ⟨k.os.trans h.os,k.tape.trans h.tape,k.output.trans h.output,Nat.le_trans h.size k.size,λi hi hx=>(k.block i hi hx).trans (h.block i hi hx),h.same.trans k.same⟩
structure Va (w:World) (G:Nat→Nat) (β:Nat→Option (Nat×Nat)) (Γ:Ctx) (c:Nat) (blk:Blk):Prop where
 own:Γ.B≤c∨Γ.X c
 pin:∀ k,blk.pin=some k→Γ.pin k=c
 ty:∀ t,blk.ty=some t→∃ vs fr,w.heap[c]?=some (.cells vs t fr)∧fr.1≤fr.2
 frz:∀ o,o<G c→o<blk.frz*blk.sz
 top:blk.frz≤blk.rows.length
 dat:blk.pure=true→∀ (i j:Nat) (r:List D) (d:D),blk.rows[i]?=some r→r[j]?=some d→d.dat=true
 hsz:∀ (i:Nat) (r:List D),blk.rows[i]?=some r→r.length=blk.sz
 cells:∃ vs e fr,w.heap[c]?=some (.cells vs e fr)∧(∀ o,o<vs.size→ ¬ (fr.1≤o∧o<fr.2))∧blk.rows.length*blk.sz≤vs.size∧
  ∀ (i j:Nat) (r:List D) (d:D),blk.rows[i]?=some r→r[j]?=some d→∃ v,vs[i*blk.sz+j]?=some v∧one v=true∧Z9 w G β v d
structure Za (Γ:Ctx) (σ:S) (a:Act) (w:World) (G:Nat→Nat) (β:Nat→Option (Nat×Nat)):Prop where
 defers:a.defers=[]
 size:a.tmps.size=σ.n
 tmps:∀ t,Z9 w G β (a.tmps.getD t Go.undef) (σ.tmps t)
 heap:∀ b blk,σ.heap b=some blk→(β b=none∧blk.rows=[]∧blk.frz=0)∨∃ c,β b=some (c,blk.sz)∧Va w G β Γ c blk
 dom:∀ b x,β b=some x→∃ blk,σ.heap b=some blk
 inj:∀ b b' c s s',β b=some (c,s)→β b'=some (c,s')→b=b'
 kept:Jf Γ.B Γ.X Γ.w0 w
 marks:∀ c,c<Γ.B→ ¬ Γ.X c→G c=Γ.G0 c
 fresh:∀ c,w.heap.size≤c→G c=0
 big:Γ.B≤w.heap.size
 glob:Mo w G
theorem Y0w {l:Array Value} {t:Nat} {v:Value} (u:Nat) (ht:t<l.size):(l.setIfInBounds t v).getD u Go.undef=if u=t then v else l.getD u Go.undef:=by
 simp only[Array.getD_eq_getD_getElem?,Array.getElem?_setIfInBounds]
 by_cases h:u=t
 ·subst h; simp[ht]
 ·simp[h,Ne.symm h]
theorem Za.put {Γ:Ctx} {σ:S} {a:Act} {w:World} {G:Nat→Nat} {β:Nat→Option (Nat×Nat)} (h:Za Γ σ a w G β) {dst:Option Nat} (ht:∀ t,dst=some t→t<σ.n) {v:Value} {d:D}
  (hv:Z9 w G β v d):Za Γ (σ.put dst d) (a.put dst v) w G β:=by
 cases dst with
 | none=>exact h
 | some t=>
  have ht':t<a.tmps.size:=by rw[h.size]; exact ht t rfl
  refine { h with size:=by simp[Act.put,S.put,h.size],tmps:=λu=>?_ }
  simp only[Act.put,S.put]
  rw[Y0w u ht']
  split
  ·exact hv
  ·exact h.tmps u
end Go.Den
namespace Go.Den
open Go.RowKit
inductive Ans where
 | go
 | yes
 | no
 | val (d:D)
 | row (r:List D)
 | rows (l:List (List D))
def Z5 {α:Type} (l:List α) (i:Int):Option α:=if 0≤i then l[i.toNat]? else none
def Vh (s:List UInt8) (i:Int):Option Int:=if 0≤i then (s[i.toNat]?).map λb=>(b.toNat:Int) else none
def sub {α:Type} (l:List α) (lo hi:Int):Option (List α):=if 0≤lo∧lo≤hi∧hi≤l.length then some ((l.drop lo.toNat).take (hi.toNat - lo.toNat)) else none
def aggT (P:Program) (t:TypeId):Option Bool:=
 match P.underlying t with
 | some (.struct _)|some (.array _ _)=>some true
 | some _=>some false
 | none=>none
def Wr (P:Program) (t:TypeId):Option Nat:=(P.info? t).map (·.size)
def Ju (P:Program) (t:TypeId):Option TypeId:=match P.underlying t with|some (.slice e)=>some e|_=>none
def D.cells:D→List D
 | .agg cs=>cs
 | d=>[d]
def Z0u:Value→D
 | .bool b=> .bool b
 | .int k n=> .int k n
 | .string s=> .str s.data.toList
 | .slice none 0 0=> .sl true []
 | .pointer none=> .nilptr
 | .func (.func f) ⟨[]⟩ ⟨[]⟩=> .fn f
 | _=> .undef
def Z60:Value→D
 | .agg vs=>if vs.toList.all one then .agg (vs.toList.map Z0u) else .undef
 | v=>Z0u v
def S.ev (σ:S):Operand→D
 | .tmp t=>σ.tmps t
 | .const v=>Z60 v
 | .func f=> .fn f
 | .global g=>match Zc6.lookup g with
  | some l=> .ptr (l.map .str)
  | none=> .undef
def W8 (k:IntKind) (n:Int):Ans→Option (D×Prop)
 | .go=>some (.int k n,True)
 | .val (.int k' m)=>if k'=k then some (.int k m,n=m) else none
 | _=>none
def L4 (b:Bool):Ans→Option (D×Prop)
 | .go=>some (.bool b,True)
 | .val (.bool c)=>some (.bool c,b=c)
 | _=>none
def strD (s:List UInt8):Ans→Option (D×Prop)
 | .go=>some (.str s,True)
 | .val (.str t)=>some (.str t,s=t)
 | _=>none
def bitsD (op:BinOp) (k:IntKind) (x y:Int):Option Int:=
 let a:=BitVec.ofInt k.bits x
 let b:=BitVec.ofInt k.bits y
 match op with
 | .and=>some (k.wrap (a &&& b).toNat)
 | .or=>some (k.wrap (a ||| b).toNat)
 | .xor=>some (k.wrap (a ^^^ b).toNat)
 | .andNot=>some (k.wrap (a &&& ~~~b).toNat)
 | _=>none
def cmpD (op:BinOp) (x y:Int):Option Bool:=
 match op with
 | .eql=>some (x==y)
 | .neq=>some (x !=y)
 | .lss=>some (decide (x<y))
 | .leq=>some (decide (x≤y))
 | .gtr=>some (decide (x>y))
 | .geq=>some (decide (x≥y))
 | _=>none
def Zi5 (op:BinOp) (k:IntKind) (a b:Int) (ans:Ans):Option (D×Prop):=
 match op with
 | .add=>W8 k (k.wrap (a+b)) ans
 | .sub=>W8 k (k.wrap (a - b)) ans
 | .mul=>W8 k (k.wrap (a*b)) ans
 | .quo=>(W8 k (k.wrap (a.tdiv b)) ans).map λx=>(x.1,b≠0∧x.2)
 | .rem=>(W8 k (a.tmod b) ans).map λx=>(x.1,b≠0∧x.2)
 | .and|.or|.xor|.andNot=>
  match bitsD op k a b with
  | some n=>W8 k n ans
  | none=>none
 | op=>
  match cmpD op a b with
  | some c=>L4 c ans
  | none=>none
def Zji (op:BinOp) (k:IntKind) (a y:Int) (ans:Ans):Option (D×Prop):=
 match op with
 | .shl=>(W8 k (k.wrap (a*2 ^ (min y.toNat k.bits))) ans).map λx=>(x.1,0≤y∧x.2)
 | .shr=>(W8 k (a.fdiv (2 ^ (min y.toNat k.bits))) ans).map λx=>(x.1,0≤y∧x.2)
 | _=>none
def Zcc (op:BinOp) (a b:List UInt8) (ans:Ans):Option (D×Prop):=
 match op with
 | .add=>(strD (a++b) ans).map λx=>(x.1,a.length+b.length≤9223372036854775807∧x.2)
 | .eql=>L4 (a==b) ans
 | .neq=>L4 (!(a==b)) ans
 | .lss=>L4 (Op.bytesLess a b) ans
 | .leq=>L4 (Op.bytesLess a b||a==b) ans
 | .gtr=>L4 (!(Op.bytesLess a b||a==b)) ans
 | .geq=>L4 (!Op.bytesLess a b) ans
 | _=>none
def M3 (P:Program) (t:TypeId) (cs:List D) (off:Nat):Option D:=
 match aggT P t,Wr P t with
 | some true,some s=>if ((cs.drop off).take s).length=s then some (.agg ((cs.drop off).take s)) else none
 | some false,some _=>cs[off]?
 | _,_=>none
def Zax (P:Program) (f:TypeId→D→D→Option (Bool×Prop)) (xs ys:List D):List Field→Option (Bool×Prop)
 | [] =>some (true,True)
 | x :: fs=>
  match M3 P x.type xs x.offset,M3 P x.type ys x.offset with
  | some a,some b=>
   match f x.type a b,Zax P f xs ys fs with
   | some (r, p), some (r', q) => some (r && r', x.name ≠ "_" ∧ p ∧ q)
   | _,_=>none
  | _,_=>none
def Zbw (P:Program):Nat→TypeId→D→D→Option (Bool×Prop)
 | 0,_,_,_=>none
 | m + 1,t,x,y=>
  match P.underlying t,x,y with
  | some .bool,.bool a,.bool b=>some (a==b,True)
  | some (.int _),.int k a,.int k' b=>if k=k' then some (a==b,True) else none
  | some .string,.str a,.str b=>some (a==b,True)
  | some (.struct fs),.agg xs,.agg ys=>
   match Zax P (Zbw P m) xs ys fs.toList with
   | some (r,p)=>some (r,P.stoodInHeld t=false∧p)
   | none=>none
  | _,_,_=>none
def ptrD (P:Program) (op:BinOp) (xt:TypeId) (same:Bool):Option (D×Prop):=
 match P.underlying xt with
 | some (.pointer te)=>match P.info? te with
  | some _=>match op with
   | .eql=>some (.bool same,True)
   | .neq=>some (.bool (!same),True)
   | _=>none
  | none=>none
 | _=>none
def binD (P:Program) (op:BinOp) (xt:TypeId) (x y:D) (ans:Ans):Option (D×Prop):=
 match x,y with
 | .int k a,.int k' b=>
  match op with
  | .shl|.shr=>Zji op k a b ans
  | _=>if k=k' then Zi5 op k a b ans else none
 | .str a,.str b=>Zcc op a b ans
 | .bool a,.bool b=>
  match P.underlying xt with
  | some .bool=>
   match op with
   | .eql=>L4 (a==b) ans
   | .neq=>L4 (!(a==b)) ans
   | _=>none
  | _=>none
 | .agg a,.agg b=>
  match Zbw P 6 xt (.agg a) (.agg b),ans with
  | some (r,p),.val (.bool c)=>
   match op with
   | .eql=>some (.bool c,P.eqGuardType P.depth xt=false∧p∧r=c)
   | .neq=>some (.bool c,P.eqGuardType P.depth xt=false∧p∧(!r)=c)
   | _=>none
  | _,_=>none
 | .nilptr,.nilptr=>ptrD P op xt true
 | .lptr _ _ _,.nilptr=>ptrD P op xt false
 | .lptr b i o,.lptr b' i' o'=>match Nat.beq b b'&&Nat.beq i i'&&Nat.beq o o' with
  | true=>ptrD P op xt true
  | false=>none
 | _,_=>none
def unD (op:UnOp) (x:D) (ans:Ans):Option (D×Prop):=
 match op,x with
 | .neg,.int k n=>W8 k (k.wrap (0 - n)) ans
 | .not,.bool b=>L4 (!b) ans
 | _,_=>none
def Z9i (P:Program) (src dst:TypeId) (x:D) (ans:Ans):Option (D×Prop):=
 match P.underlying src,P.underlying dst,x with
 | some (.int _),some (.int k),.int _ n=>W8 k (k.wrap n) ans
 | some .string,some .string,.str s=>some (.str s,True)
 | some (.int _),some .string,.int _ n=>strD (Utf8.encode n).data.toList ans
 | _,_,_=>none
def Zaf (P:Program) (s:TypeId) (f:Nat):Option (Nat×TypeId):=
 match P.underlying s with
 | some (.struct fs)=>
  match fs[f]? with
  | some x=>some (x.offset,x.type)
  | none=>none
 | _=>none
def Kb (σ:S) (x:D) (ans:Ans):Option (List D×Prop):=
 match x with
 | .ptr cs=>some (cs,True)
 | .lptr b i o=>
  match σ.heap b with
  | some blk=>
   match ans with
   | .row r=>some (r.drop o,blk.rows[i]?=some r)
   | _=>
    match blk.rows[i]? with
    | some r=>some (r.drop o,True)
    | none=>none
  | none=>none
 | _=>none
def Js (P:Program) (σ:S) (t:TypeId) (x:D) (ans:Ans):Option (D×Prop):=
 match Kb σ x ans with
 | some (cs,p)=>
  match M3 P t cs 0 with
  | some d=>some (d,p)
  | none=>none
 | none=>none
def Zhx (P:Program) (s:TypeId) (x:D) (f:Nat):Option D:=
 match Zaf P s f with
 | some (off,t)=>
  match Wr P t with
  | some (_+1)=>
   match x with
   | .ptr cs=>some (.ptr (cs.drop off))
   | .lptr b i o=>some (.lptr b i (o+off))
   | _=>none
  | _=>none
 | none=>none
def M1 (P : Program) (σ:S) (t:TypeId) (x i:D) (ans:Ans):Option (D×Prop):=
 match i with
 | .int _ i=>
  match P.underlying t with
  | some (.slice e)=>
   match Wr P e with
   | some sz=>
    match x with
    | .sl _ rows=>
     match ans with
     | .row r=>if r.length=sz then some (.ptr r,Z5 rows i=some r) else none
     | _=>
      match Z5 rows i with
      | some r=>if r.length=sz then some (.ptr r,True) else none
      | none=>none
    | .lsl b lo n=>
     match σ.heap b with
     | some blk=>
      if blk.sz=sz then
       match ans with
       | .val (.lptr b' j 0)=>if b'=b then some (.lptr b j 0,0≤i∧i<n∧(lo:Int)+i=j) else none
       | _=>some (.lptr b (lo+i.toNat) 0,0≤i∧i<n)
      else none
     | none=>none
    | _=>none
   | none=>none
  | some (.array len e)=>
   match Wr P e with
   | some sz=>
    match x with
    | .lptr b r o=>some (.lptr b r (o+i.toNat*sz),0≤i∧i<len)
    | .ptr cs=>
     match ans with
     | .row r=>some (.ptr r,0≤i∧i<len∧(cs.drop (i.toNat*sz)).take r.length=r)
     | _=>some (.ptr (cs.drop (i.toNat*sz)),0≤i∧i<len)
    | _=>none
   | none=>none
  | _=>none
 | _=>none
def Zix (P:Program) (t:TypeId) (x i:D) (ans:Ans):Option (D×Prop):=
 match i with
 | .int _ i=>
  match P.underlying t,x with
  | some .string,.str s=>
   match ans with
   | .val (.int .u8 c)=>some (.int .u8 c,Vh s i=some c)
   | _=>
    match Vh s i with
    | some c=>some (.int .u8 c,True)
    | none=>none
  | some (.array len e),.agg cs=>
   match Wr P e with
   | some sz=>
    match M3 P e cs (i.toNat*sz) with
    | some d=>some (d,0≤i∧i<len)
    | none=>none
   | none=>none
  | _,_=>none
 | _=>none
def Mj (x:Option D) (dflt:Int):Option Int:=
 match x with
 | none=>some dflt
 | some (.int _ i)=>some i
 | some _=>none
def M9 (P : Program) (σ:S) (t:TypeId) (x:D) (lo hi mx:Option D) (ans:Ans):Option (D×Prop):=
 match P.underlying t,x with
 | some .string,.str s=>
  match mx,Mj lo 0,Mj hi s.length with
  | none,some l,some h=>
   match ans with
   | .val (.str r)=>some (.str r,sub s l h=some r)
   | _=>
    match sub s l h with
    | some r=>some (.str r,True)
    | none=>none
  | _,_,_=>none
 | some (.slice e),.sl _ rows=>
  match Wr P e with
  | some sz=>
   match mx,Mj lo 0,Mj hi rows.length with
   | none,some l,some h=>
    match ans with
    | .rows r=>some (.sl false r,(∀ x∈rows,x.length=sz)∧sub rows l h=some r)
    | _=>
     match sub rows l h with
     | some r=>some (.sl false r,∀ x∈rows,x.length=sz)
     | none=>none
   | some m,some l,some h=>
    match hi,Mj (some m) 0 with
    | some _,some m=>
     match ans with
     | .rows r=>some (.sl true r,(∀ x∈rows,x.length=sz)∧m=h∧sub rows l h=some r)
     | _=>
      match sub rows l h with
      | some r=>some (.sl true r,(∀ x∈rows,x.length=sz)∧m=h)
      | none=>none
    | _,_=>none
   | _,_,_=>none
  | none=>none
 | some (.slice e),.lsl b l0 n=>
  match σ.heap b,Wr P e with
  | some blk,some sz=>
   if blk.sz=sz then
    match mx,Mj lo 0,Mj hi n with
    | none,some l,some h=>some (.lsl b (l0+l.toNat) (h.toNat - l.toNat),0≤l∧l≤h∧h≤n)
    | _,_,_=>none
   else none
  | _,_=>none
 | _,_=>none
def lenD (P:Program) (t:TypeId) (x:D) (ans:Ans):Option (D×Prop):=
 match P.underlying t,x with
 | some .string,.str s=>W8 .i64 s.length ans
 | some (.slice _),.sl _ rows=>W8 .i64 rows.length ans
 | some (.slice _),.lsl _ _ n=>W8 .i64 n ans
 | some (.array n _),_=>W8 .i64 n ans
 | _,_=>none
def Zcg (c a b:D) (ans:Ans):Option (D×Prop):=
 match c with
 | .bool c=>
  match ans with
  | .yes=>some (a,c=true)
  | .no=>some (b,c=false)
  | _=>
   match c with
   | true=>some (a,True)
   | false=>some (b,True)
 | _=>none
def maxD (x y:D) (ans:Ans):Option (D×Prop):=
 match x,y with
 | .int k a,.int _ b=>W8 k (if b>a then b else a) ans
 | _,_=>none
def minD (x y:D) (ans:Ans):Option (D×Prop):=
 match x,y with
 | .int k a,.int _ b=>W8 k (if b<a then b else a) ans
 | _,_=>none
def cloD:List D→Option (List Nat)
 | [] =>some []
 | .lptr b 0 0::r=>match cloD r with
  | some l=>some (b::l)
  | none=>none
 | _=>none
def Xi (P:Program) (σ:S) (o:Oper) (ans:Ans):Option (D×Prop):=
 match o.op with
 | .move x|.assign x=>some (σ.ev x,True)
 | .pick c a b=>Zcg (σ.ev c) (σ.ev a) (σ.ev b) ans
 | .binOp op xt x y _=>binD P op xt (σ.ev x) (σ.ev y) ans
 | .unOp op _ x=>unD op (σ.ev x) ans
 | .convert src dst x=>Z9i P src dst (σ.ev x) ans
 | .load t x=>Js P σ t (σ.ev x) ans
 | .fieldAddr s x f=>
  match Zhx P s (σ.ev x) f with
  | some d=>some (d,True)
  | none=>none
 | .field s x f=>
  match σ.ev x,Zaf P s f with
  | .agg cs,some (off,t)=>
   match M3 P t cs off with
   | some d=>some (d,True)
   | none=>none
  | _,_=>none
 | .indexAddr t x i=>M1 P σ t (σ.ev x) (σ.ev i) ans
 | .index t x i=>Zix P t (σ.ev x) (σ.ev i) ans
 | .slice t x lo hi mx=>M9 P σ t (σ.ev x) (lo.map σ.ev) (hi.map σ.ev) (mx.map σ.ev) ans
 | .extract x i=>
  match σ.ev x with
  | .tup vs=>
   match vs[i]? with
   | some d=>some (d,True)
   | none=>none
  | _=>none
 | .nilCheck x=>
  match σ.ev x with
  | .ptr cs=>some (.ptr cs,True)
  | .lptr b i j=>some (.lptr b i j,True)
  | _=>none
 | .call { callee:= .builtin .len,args,argTypes }=>
  match args[0]?,argTypes[0]? with
  | some x,some t=>lenD P t (σ.ev x) ans
  | _,_=>none
 | .call { callee:= .builtin .unsafeSliceData,args:=⟨[x]⟩,.. }=>
  match σ.ev x with
  | .lsl b 0 n=>some (.lptr b 0 0,0<n)
  | _=>none
 | .call { callee:= .builtin .max,args:=⟨[x,y]⟩,.. }=>maxD (σ.ev x) (σ.ev y) ans
 | .call { callee:= .builtin .min,args:=⟨[x,y]⟩,.. }=>minD (σ.ev x) (σ.ev y) ans
 | .makeFunc f first captured=>
  match f,first,cloD (captured.toList.map σ.ev) with
  | .func f,⟨[]⟩,some bs=>some (.clo f bs,True)
  | _,_,_=>none
 | _=>none
end Go.Den
namespace Go.Den
open Go.RowKit
variable {P:Program} {Γ:Ctx} {σ:S} {a:Act} {w:World} {G:Nat→Nat} {β:Nat→Option (Nat×Nat)}
theorem Z80 (s:ByteArray) (l:List UInt8) (h:s.data.toList=l):Z9 w G β (.string s) (.str l):=h ▸ .str s
theorem Zgv (v:Value):Z9 w G β v (Z0u v):=by
 unfold Z0u
 split
 ·exact .bool _
 ·exact .int _ _
 ·exact .str _
 ·exact .slnil _ _
 ·exact .nilptr
 ·exact .fn _
 ·exact .undef _
theorem Zzz (v:Value):Z9 w G β v (Z60 v):=by
 unfold Z60
 split
 ·split
  ·rename_i vs hv
   refine .agg vs _ (by simp) (λj v hj=>?_) (λj v d hj hd=>?_)
   ·exact List.all_eq_true.1 hv v (List.mem_of_getElem? (i:=j) (by simpa using hj))
   ·simp only[List.getElem?_map,Array.getElem?_toList,hj,Option.map_some,Option.some.injEq] at hd
    subst hd
    exact Zgv v
  ·exact .undef _
 ·exact Zgv _
theorem Xt {α β:Type} {o:Option α} {f:α→β} {b:β} (h:o.map f=some b):∃ x,o=some x∧f x=b:=by
 cases o with
 | none=>cases h
 | some x=>exact⟨x,rfl,by injection h⟩
theorem Y1s (h:Mo w G) (g:Nat):Z9 w G β (.pointer (some ⟨g,0,none⟩)) (match Zc6.lookup g with
  | some l=> .ptr (l.map .str)
  | none=> .undef):=by
 split
 ·rename_i l hl
  obtain⟨_,h2,h3⟩:=h g l hl
  have hs:∀ j d,(l.map D.str)[j]?=some d→∃ b:ByteArray,d=.str b.data.toList∧w.cell? ⟨g,j,none⟩=some (.string b):=λj d hd=>by
   rw[List.getElem?_map] at hd
   obtain⟨s,e1,rfl⟩:=Xt hd
   obtain⟨b,rfl,e2⟩:=h3 j s e1
   exact⟨b,rfl,e2⟩
  have hj:∀ j,j<(l.map D.str).length→∃ b:ByteArray,w.cell? ⟨g,j,none⟩=some (.string b):=λj hj=>by
   obtain⟨b,_,e⟩:=hs j _ (List.getElem?_eq_getElem hj)
   exact⟨b,e⟩
  refine .ptr g 0 _ (λj=>(w.cell? ⟨g,j,none⟩).getD Go.undef) (λj hj=>by rw[List.length_map] at hj; omega) (λj hjl=>?_) (λj hjl=>?_) (λj d hd=>?_) (λj d hd=>?_)
  ·obtain⟨b,e⟩:=hj j hjl
   rw[Nat.zero_add,e]; rfl
  ·obtain⟨b,e⟩:=hj j hjl
   rw[e]; rfl
  ·obtain⟨b,rfl,_⟩:=hs j d hd; rfl
  ·obtain⟨b,rfl,e⟩:=hs j d hd
   rw[e]; exact .str b
 ·exact .undef _
theorem Vo (h:Za Γ σ a w G β) (x:Operand):Z9 w G β (a.eval x) (σ.ev x):=by
 cases x with
 | tmp t=>exact h.tmps t
 | const v=>exact Zzz v
 | global g=>exact Y1s h.glob g
 | func f=>exact .fn f
theorem Wd {v:Value} {k:IntKind} {n:Int} (h:Z9 w G β v (.int k n)):v=.int k n:=by cases h; rfl
theorem Ky {v:Value} {b:Bool} (h:Z9 w G β v (.bool b)):v=.bool b:=by cases h; rfl
theorem Mi {v:Value} {s:List UInt8} (h:Z9 w G β v (.str s)):∃ b:ByteArray,v=.string b∧b.data.toList=s:=by cases h; exact⟨_,rfl,rfl⟩
theorem Jd {v:Value} {cs:List D} (h:Z9 w G β v (.agg cs)):∃ vs,v=.agg vs∧cs.length=vs.size∧(∀ (j:Nat) v,vs[j]?=some v→one v=true)∧
  (∀ (j:Nat) v d,vs[j]?=some v→cs[j]?=some d→Z9 w G β v d):=by cases h; exact⟨_,rfl,‹_›,‹_›,‹_›⟩
theorem Wk {k:IntKind} {n:Int} {ans:Ans} {d:D} {p:Prop} (h:W8 k n ans=some (d,p)) (hp:p):Z9 w G β (.int k n) d:=by
 unfold W8 at h
 split at h
 ·cases h; exact .int _ _
 ·split at h
  ·cases h; rw[show n=_ from hp]; rename_i hk; subst hk; exact .int _ _
  ·cases h
 ·cases h
theorem Kv {b:Bool} {ans:Ans} {d:D} {p:Prop} (h:L4 b ans=some (d,p)) (hp:p):Z9 w G β (.bool b) d:=by
 unfold L4 at h
 split at h
 ·cases h; exact .bool _
 ·cases h; rw[show b=_ from hp]; exact .bool _
 ·cases h
theorem Zr2 {s:ByteArray} {l:List UInt8} (hs:s.data.toList=l) {ans:Ans} {d:D} {p:Prop} (h:strD l ans=some (d,p)) (hp:p):Z9 w G β (.string s) d:=by
 unfold strD at h
 split at h
 ·cases h; exact Z80 _ _ hs
 ·cases h; exact Z80 _ _ (hs.trans hp)
 ·cases h
def Vv (P:Program) (w:World) (G:Nat→Nat) (β:Nat→Option (Nat×Nat)) (s:Sem Value) (d:D):Prop:=∃ v,s.run P w=.ok v w∧Z9 w G β v d
theorem Y1h {op:BinOp} (h1:op≠ .shl) (h2:op≠ .shr) {k:IntKind} {x y:Int} {ans:Ans} {d:D} {p:Prop} (h:Zi5 op k x y ans=some (d,p)) (hp:p) (t:TypeId):
  Vv P w G β (Go.binOp op t (.int k x) (.int k y)) d:=by
 cases op with
 | shl=>exact absurd rfl h1
 | shr=>exact absurd rfl h2
 | add=>exact⟨_,by simp[binOp,Op.intArith],Wk h hp⟩
 | sub=>exact⟨_,by simp[binOp,Op.intArith],Wk h hp⟩
 | mul=>exact⟨_,by simp[binOp,Op.intArith],Wk h hp⟩
 | quo=>
  obtain⟨z,hz,hd⟩:=Xt h
  cases hd
  obtain⟨hb,hp⟩:=hp
  exact⟨_,by simp[binOp,Op.intDiv,hb],Wk hz hp⟩
 | rem=>
  obtain⟨z,hz,hd⟩:=Xt h
  cases hd
  obtain⟨hb,hp⟩:=hp
  exact⟨_,by simp[binOp,Op.intDiv,hb],Wk hz hp⟩
 | and=>exact⟨_,by simp[binOp,Op.intBits],Wk h hp⟩
 | or=>exact⟨_,by simp[binOp,Op.intBits],Wk h hp⟩
 | xor=>exact⟨_,by simp[binOp,Op.intBits],Wk h hp⟩
 | andNot=>exact⟨_,by simp[binOp,Op.intBits],Wk h hp⟩
 | eql=>exact⟨_,by simp[binOp,Op.intCmp],Kv h hp⟩
 | neq=>exact⟨_,by simp[binOp,Op.intCmp],Kv h hp⟩
 | lss=>exact⟨_,by simp[binOp,Op.intCmp],Kv h hp⟩
 | leq=>exact⟨_,by simp[binOp,Op.intCmp],Kv h hp⟩
 | gtr=>exact⟨_,by simp[binOp,Op.intCmp],Kv h hp⟩
 | geq=>exact⟨_,by simp[binOp,Op.intCmp],Kv h hp⟩
theorem Zn9 {op:BinOp} {k k':IntKind} {x y:Int} {ans:Ans} {d:D} {p:Prop} (h:Zji op k x y ans=some (d,p)) (hp:p) (t:TypeId):
  Vv P w G β (Go.binOp op t (.int k x) (.int k' y)) d:=by
 unfold Zji at h
 split at h
 ·obtain⟨z,hz,hd⟩:=Xt h
  cases hd
  obtain⟨hb,hp⟩:=hp
  exact⟨_,by simp[binOp,Op.shift,Int.not_lt.2 hb],Wk hz hp⟩
 ·obtain⟨z,hz,hd⟩:=Xt h
  cases hd
  obtain⟨hb,hp⟩:=hp
  exact⟨_,by simp[binOp,Op.shift,Int.not_lt.2 hb],Wk hz hp⟩
 ·cases h
theorem Zz7 {op:BinOp} {x y:ByteArray} {ans:Ans} {d:D} {p:Prop} (h:Zcc op x.data.toList y.data.toList ans=some (d,p)) (hp:p) (t:TypeId):
  Vv P w G β (Go.binOp op t (.string x) (.string y)) d:=by
 unfold Zcc at h
 split at h
 ·obtain⟨z,hz,hd⟩:=Xt h
  cases hd
  obtain⟨hb,hp⟩:=hp
  refine⟨.string (x++y),?_,Zr2 (by simp) hz hp⟩
  have hb': ¬ (((x.size+y.size:Nat):Int)>IntKind.i64.max):=by
   have h0:IntKind.i64.max=9223372036854775807:=rfl
   rw[h0]
   have e1:x.data.toList.length=x.size:=rfl
   have e2:y.data.toList.length=y.size:=rfl
   omega
  simp only[binOp,Op.stringOp,if_neg hb']
  simp
 all_goals first
  | exact⟨_,by simp[binOp,Op.stringOp,ByteArray.toList_eq],Kv h hp⟩
  | cases h
theorem Z3c {op:BinOp} {t:TypeId} {x y:Operand} {u v:Value} (h1:∀ cs,u≠ .agg cs) (h2:u≠ .nilIface):(eqGuard op t x y u v).run P w=.ok () w:=by
 cases op <;> first|rfl|(cases u <;> first|rfl|exact absurd rfl (h1 _)|exact absurd rfl h2)
theorem Zzm {op:UnOp} {u:Value} {dx:D} (hx:Z9 w G β u dx) {ans:Ans} {d:D} {p:Prop} (h:unD op dx ans=some (d,p)) (hp:p):Vv P w G β (Op.unary op u) d:=by
 unfold unD at h
 split at h
 ·rw[Wd hx]; exact⟨_,by simp[Op.unary,Op.intArith],Wk h hp⟩
 ·rw[Ky hx]; exact⟨_,by simp[Op.unary],Kv h hp⟩
 ·cases h
theorem Zz1 {src dst:TypeId} {u:Value} {dx:D} (hx:Z9 w G β u dx) {ans:Ans} {d:D} {p:Prop} (h:Z9i P src dst dx ans=some (d,p)) (hp:p):Vv P w G β (convert src dst u) d:=by
 unfold Z9i at h
 split at h
 ·rename_i h1 h2
  rw[Wd hx]; exact⟨_,by simp[convert,run_underlying h1,run_underlying h2,Conv.intToInt],Wk h hp⟩
 ·rename_i h1 h2
  obtain⟨s,rfl,rfl⟩:=Mi hx
  cases h
  exact⟨_,by simp[convert,run_underlying h1,run_underlying h2],.str _⟩
 ·rename_i h1 h2
  rw[Wd hx]; exact⟨_,by simp[convert,run_underlying h1,run_underlying h2,Conv.intToString],Zr2 rfl h hp⟩
 ·cases h
theorem Y0x {u v x:Value} {dc da db:D} (hc:Z9 w G β u dc) (ha:Z9 w G β v da) (hb:Z9 w G β x db) {ans:Ans} {d:D} {p:Prop} (h:Zcg dc da db ans=some (d,p)) (hp:p):
  Vv P w G β (do pure (if ← asBool u then v else x)) d:=by
 unfold Zcg at h
 split at h
 ·rw[Ky hc]
  split at h
  ·cases h; exact⟨v,by simp[asBool,show _=true from hp],ha⟩
  ·cases h; exact⟨x,by simp[asBool,show _=false from hp],hb⟩
  ·split at h
   ·cases h; exact⟨v,by simp[asBool],ha⟩
   ·cases h; exact⟨x,by simp[asBool],hb⟩
 ·cases h
theorem Lg {t:TypeId} {n:Nat} (h:Wr P t=some n) (w:World):(sizeOf t).run P w=.ok n w:=by
 unfold Wr at h
 obtain⟨i,hi,rfl⟩:=Xt h
 simp[sizeOf,typeInfo,hi]
theorem Zg5 {t:TypeId} {b:Bool} (h:aggT P t=some b) (w:World):(isAgg t).run P w=.ok b w:=by
 unfold aggT at h
 split at h
 ·cases h; rename_i hu; simp[isAgg,run_underlying hu]
 ·cases h; rename_i hu; simp[isAgg,run_underlying hu]
 ·cases h; rename_i d h1 h2 hu
  simp only[isAgg,Sem.run_bind,run_underlying hu,Result.andThen_ok]
  rfl
 ·cases h
def CRep (w:World) (G:Nat→Nat) (β:Nat→Option (Nat×Nat)) (b off:Nat) (cs:List D):Prop:=
 ∀ (j:Nat) d,cs[j]?=some d→∃ v,w.cell? ⟨b,off+j,none⟩=some v∧one v=true∧Z9 w G β v d
theorem Addr.add_none (b o n:Nat):(⟨b,o,none⟩:Addr).add n=⟨b,o+n,none⟩:=by
 unfold Addr.add
 split
 ·subst_vars; rfl
 ·rfl
theorem Zxw {t:TypeId} {b off:Nat} {cs:List D} (h:CRep w G β b off cs) {d:D} (hd:M3 P t cs 0=some d):Vv P w G β (loadVar t ⟨b,off,none⟩) d:=by
 unfold M3 at hd
 split at hd
 ·rename_i s h1 h2
  split at hd
  ·rename_i hl
   cases hd
   simp only[List.drop_zero] at hl ⊢
   have hs:s≤cs.length:=by simp at hl; omega
   have hex:∀ j,j<s→∃ v,w.cell? ⟨b,off+j,none⟩=some v∧one v=true∧∀ d,cs[j]?=some d→Z9 w G β v d:=λj hj=>by
    obtain⟨v,a1,a2,a3⟩:=h j cs[j] (List.getElem?_eq_getElem (by omega))
    exact⟨v,a1,a2,λd hd=>by rw[List.getElem?_eq_getElem (by omega)] at hd; cases hd; exact a3⟩
   let f:Nat→Value:=λj=>if hj:j<s then Classical.choose (hex j hj) else Go.undef
   have hf:∀ j,(hj:j<s)→w.cell? ⟨b,off+j,none⟩=some (f j)∧one (f j)=true∧∀ d,cs[j]?=some d→Z9 w G β (f j) d:=λj hj=>by
    have:=Classical.choose_spec (hex j hj)
    simpa [f,hj] using this
   refine⟨.agg ((List.range s).map f).toArray,?_,?_⟩
   ·simp only[loadVar,Sem.run_bind,Zg5 h1,Result.andThen_ok,if_true,Lg h2]
    have:=run_loadCells (P:=P) w ⟨b,off,none⟩ s f (λj hj=>by rw[Addr.add_none]; exact(hf j hj).1)
    simp[this]
   ·refine .agg _ _ (by simp[hs]) (λj v hj=>?_) (λj v d hj hd=>?_)
    ·by_cases hjs:j<s
     ·simp[hjs] at hj; subst hj; exact(hf j hjs).2.1
     ·simp[hjs] at hj
    ·by_cases hjs:j<s
     ·simp[hjs] at hj; subst hj
      rw[List.getElem?_take_of_lt hjs] at hd
      exact(hf j hjs).2.2 d hd
     ·simp[hjs] at hj
  ·cases hd
 ·rename_i h1 h2
  obtain⟨v,a1,a2,a3⟩:=h 0 d hd
  refine⟨v,?_,a3⟩
  simp only[loadVar,Sem.run_bind,Zg5 h1,Result.andThen_ok]
  simp[show w.cell? ⟨b,off,none⟩=some v from a1]
 ·cases hd
theorem Zpa (hC:Za Γ σ a w G β) {u:Value} {x:D} (hx:Z9 w G β u x) {ans:Ans} {cs:List D} {p:Prop} (h:Kb σ x ans=some (cs,p)) (hp:p):
  ∃ b off,u=.pointer (some ⟨b,off,none⟩)∧CRep w G β b off cs:=by
 unfold Kb at h
 split at h
 ·cases h
  cases hx with
  | ptr b off cs val himm hcell hone hdat hrep=>
   refine⟨b,off,rfl,λj d hd=>?_⟩
   have hj:j<cs.length:=by
    rcases Nat.lt_or_ge j cs.length with h|h
    ·exact h
    ·rw[List.getElem?_eq_none h] at hd; cases hd
   exact⟨_,hcell j hj,hone j hj,hrep j d hd⟩
 ·rename_i b i o
  cases hx with
  | lptr _ _ _ c sz hβ=>
   split at h
   ·rename_i blk hblk
    rcases hC.heap b blk hblk with ⟨h0,-⟩|⟨c',h0,hB⟩
    ·rw[h0] at hβ; cases hβ
    ·rw[h0] at hβ; cases hβ
     obtain⟨vs,e,fr,hh,-,-,hcells⟩:=hB.cells
     have key:∀ r,blk.rows[i]?=some r→CRep w G β c (i*blk.sz+o) (r.drop o):=λr hr j d hd=>by
      rw[List.getElem?_drop] at hd
      obtain⟨v,h1,h2,h3⟩:=hcells i (o+j) r d hr hd
      refine⟨v,?_,h2,h3⟩
      simp only[World.cell?,hh]
      simpa [Nat.add_assoc] using h1
     refine⟨c,i*blk.sz+o,rfl,?_⟩
     split at h
     ·cases h; exact key _ hp
     ·split at h
      ·cases h; exact key _ (by assumption)
      ·cases h
   ·cases h
 ·cases h
theorem Zpv (hC:Za Γ σ a w G β) {u:Value} {x:D} (hx:Z9 w G β u x) {t:TypeId} {ans:Ans} {d:D} {p:Prop} (h:Js P σ t x ans=some (d,p)) (hp:p):
  Vv P w G β (Instr.loadAt t u) d:=by
 unfold Js at h
 split at h
 ·rename_i cs q hq
  split at h
  ·rename_i d' hd
   cases h
   obtain⟨b,off,rfl,hc⟩:=Zpa hC hx hq hp
   obtain⟨v,h1,h2⟩:=Zxw hc hd
   exact⟨v,by simpa [Instr.loadAt,Instr.sureAddr] using h1,h2⟩
  ·cases h
 ·cases h
theorem Z9.ptr_drop {b off:Nat} {cs:List D} {val:Nat→Value} (himm:∀ j,j<cs.length→off+j<G b)
  (hcell:∀ j,j<cs.length→w.cell? ⟨b,off+j,none⟩=some (val j)) (hone:∀ j,j<cs.length→one (val j)=true) (hdat:∀ (j:Nat) d,cs[j]?=some d→d.dat=true)
  (hrep:∀ (j:Nat) d,cs[j]?=some d→Z9 w G β (val j) d) (n:Nat):Z9 w G β (.pointer (some ⟨b,off+n,none⟩)) (.ptr (cs.drop n)):=by
 refine .ptr b (off+n) _ (λj=>val (n+j)) (λj hj=>?_) (λj hj=>?_) (λj hj=>?_) (λj d hd=>by rw[List.getElem?_drop] at hd; exact hdat _ d hd) (λj d hd=>?_)
 ·simp at hj; have:=himm (n+j) (by omega); omega
 ·simp at hj; have:=hcell (n+j) (by omega); rwa [Nat.add_assoc]
 ·simp at hj; exact hone _ (by omega)
 ·rw[List.getElem?_drop] at hd; exact hrep _ d hd
theorem Zwy {u:Value} {x:D} (hx:Z9 w G β u x) {s:TypeId} {f:Nat} {d:D} (h:Zhx P s x f=some d):Vv P w G β (Instr.fieldAt s u f) d:=by
 unfold Zhx Zaf at h
 split at h
 ·rename_i off t hf
  split at hf
  ·rename_i fs hu
   split at hf
   ·rename_i y hy
    cases hf
    split at h
    ·rename_i n hsz
     have run:∀ ad:Addr,ad.spot=none→(Instr.fieldAt s (.pointer (some ad)) f).run P w=.ok (.pointer (some ⟨ad.block,ad.off+y.offset,none⟩)) w:=λad had=>by
      obtain⟨bb,oo,ss⟩:=ad
      cases had
      simp[Instr.fieldAt,run_underlying hu,hy,Instr.sureAddr,fieldPlace,Lg hsz,Addr.add_none]
     split at h
     ·cases h
      cases hx with
      | ptr b off cs val himm hcell hone hdat hrep=>
       exact⟨_,run _ rfl,Z9.ptr_drop himm hcell hone hdat hrep _⟩
     ·cases h
      cases hx with
      | lptr _ _ _ c sz hβ=>exact⟨_,run _ rfl,by simp only[Nat.add_assoc]; exact .lptr _ _ _ c sz hβ⟩
     ·cases h
    ·cases h
   ·cases hf
  ·cases hf
 ·cases h
theorem Zyh {α:Type} {l:List α} {i:Int} {x:α} (h:Z5 l i=some x):∃ n:Nat,i=n∧l[n]?=some x∧n<l.length:=by
 unfold Z5 at h
 split at h
 ·rename_i h0
  refine⟨i.toNat,by omega,h,?_⟩
  rcases Nat.lt_or_ge i.toNat l.length with h1|h1
  ·exact h1
  ·rw[List.getElem?_eq_none h1] at h; cases h
 ·cases h
theorem Zok {t e:TypeId} {sz:Nat} (hu:P.underlying t=some (.slice e)) (hs:Wr P e=some sz) (b o len cap:Nat) (k:IntKind) (i:Int) (h0:0≤i) (h1:i<len):
  (Instr.indexAt t (.slice (some ⟨b,o,none⟩) len cap) (.int k i)).run P w=.ok (.pointer (some ⟨b,o+i.toNat*sz,none⟩)) w:=by
 simp[Instr.indexAt,asIntOf,run_underlying hu,h0,h1,Lg hs,Addr.add_none]
theorem Zjy {t e:TypeId} {n sz:Nat} (hu:P.underlying t=some (.array n e)) (hs:Wr P e=some sz) (b o:Nat) (k:IntKind) (i:Int) (h0:0≤i) (h1:i<n):
  (Instr.indexAt t (.pointer (some ⟨b,o,none⟩)) (.int k i)).run P w=.ok (.pointer (some ⟨b,o+i.toNat*sz,none⟩)) w:=by
 simp[Instr.indexAt,asIntOf,run_underlying hu,h0,h1,Lg hs,Addr.add_none,Instr.sureAddr]
theorem Zxs (hC : Za Γ σ a w G β) {u v:Value} {x i:D} (hx:Z9 w G β u x) (hi:Z9 w G β v i) {t:TypeId} {ans:Ans} {d:D} {p:Prop}
  (h:M1 P σ t x i ans=some (d,p)) (hp:p):Vv P w G β (Instr.indexAt t u v) d:=by
 unfold M1 at h
 split at h
 ·rename_i k i
  rw[Wd hi]
  split at h
  ·rename_i e hu
   split at h
   ·rename_i sz hsz
    split at h
    ·rename_i c rows
     have key:∀ r,Z5 rows i=some r→r.length=sz→Vv P w G β (Instr.indexAt t u (.int k i)) (.ptr r):=λr hr hl=>by
      obtain⟨n,rfl,hn,hlt⟩:=Zyh hr
      cases hx with
      | slnil=>simp at hlt
      | sl _ b off m cap sz' _ val hm hc hcap hsz' himm hcell hone hdat hrep=>
       have:sz'=sz:=by rw[← hsz' n r hn]; exact hl
       subst this
       refine⟨_,Zok hu hsz b off m cap k n (by omega) (by omega),?_⟩
       simp only[Int.toNat_natCast]
       refine .ptr b _ r (val n) (λj hj=>?_) (λj hj=>?_) (λj hj=>?_) (λj d hd=>hdat n j r d hn hd) (λj d hd=>hrep n j r d hn hd)
       ·exact himm n j (by omega) (by omega)
       ·exact hcell n j (by omega) (by omega)
       ·exact hone n j (by omega) (by omega)
     split at h
     ·split at h
      ·cases h; exact key _ hp (by assumption)
      ·cases h
     ·split at h
      ·split at h
       ·cases h; exact key _ (by assumption) (by assumption)
       ·cases h
      ·cases h
    ·rename_i b lo n
     split at h
     ·rename_i blk hblk
      split at h
      ·rename_i hbs
       have key:0≤i→i<n→∀ j:Nat,(lo:Int)+i=j→Vv P w G β (Instr.indexAt t u (.int k i)) (.lptr b j 0):=λh0 h1 j hj=>by
        cases hx with
        | lslnil=>simp at h1; omega
        | lsl _ _ _ cap c sz' off hβ hcap hoff hroom=>
         have hsz'':sz'=sz:=by
          rcases hC.heap b blk hblk with ⟨h0,-⟩|⟨c',h0,hB⟩
          ·rw[h0] at hβ; cases hβ
          ·rw[h0] at hβ; cases hβ; exact hbs
         subst hsz''
         obtain rfl:off=lo*sz':=hoff.resolve_left (by omega)
         refine⟨_,Zok hu hsz c _ n cap k i h0 h1,?_⟩
         have:lo*sz'+i.toNat*sz'=j*sz'+0:=by
          rw[← Nat.add_mul]; congr 1; omega
         rw[this]
         exact .lptr b j 0 c sz' hβ
       split at h
       ·split at h
        ·cases h; rename_i hb; subst hb; exact key hp.1 hp.2.1 _ hp.2.2
        ·cases h
       ·cases h; exact key hp.1 hp.2 _ (by omega)
      ·cases h
     ·cases h
    ·cases h
   ·cases h
  ·rename_i len e hu
   split at h
   ·rename_i sz hsz
    split at h
    ·cases h
     cases hx with
     | lptr _ _ _ c sz' hβ=>exact⟨_,Zjy hu hsz _ _ k i hp.1 hp.2,by simp only[Nat.add_assoc]; exact .lptr _ _ _ c sz' hβ⟩
    ·rename_i cs
     cases hx with
     | ptr b off _ val himm hcell hone hdat hrep=>
      split at h
      ·rename_i r
       cases h
       obtain⟨h0,h1,hr⟩:=hp
       refine⟨_,Zjy hu hsz _ _ k i h0 h1,?_⟩
       have hget:∀ j,j<r.length→i.toNat*sz+j<cs.length∧r[j]?=cs[i.toNat*sz+j]? :=λj hj=>by
        have hl:=congrArg List.length hr
        simp only[List.length_take,List.length_drop] at hl
        refine⟨by omega,?_⟩
        conv=>lhs; rw[← hr]
        rw[List.getElem?_take,if_pos hj,List.getElem?_drop]
       refine .ptr b _ r (λj=>val (i.toNat*sz+j)) (λj hj=>?_) (λj hj=>?_) (λj hj=>hone _ (hget j hj).1) (λj d hd=>?_) (λj d hd=>?_)
       ·rw[Nat.add_assoc]; exact himm _ (hget j hj).1
       ·rw[Nat.add_assoc]; exact hcell _ (hget j hj).1
       ·have hj:=(List.getElem?_eq_some_iff.1 hd).1
        exact hdat _ d ((hget j hj).2 ▸ hd)
       ·have hj:=(List.getElem?_eq_some_iff.1 hd).1
        exact hrep _ d ((hget j hj).2 ▸ hd)
      ·cases h
       exact⟨_,Zjy hu hsz _ _ k i hp.1 hp.2,Z9.ptr_drop himm hcell hone hdat hrep _⟩
    ·cases h
   ·cases h
  ·cases h
 ·cases h
theorem Zdj {t:TypeId} {vs:Array Value} {cs:List D} {off:Nat} (hn:cs.length=vs.size) (hone:∀ (j:Nat) v,vs[j]?=some v→one v=true)
  (hrep:∀ (j:Nat) v d,vs[j]?=some v→cs[j]?=some d→Z9 w G β v d) {d:D} (h:M3 P t cs off=some d):Vv P w G β (part t vs off) d:=by
 unfold M3 at h
 split at h
 ·rename_i s h1 h2
  split at h
  ·rename_i hl
   cases h
   have hs:off+s≤vs.size∨s=0:=by simp at hl; omega
   refine⟨.agg (vs.extract off (off+s)),by simp[part,Zg5 h1,Lg h2],?_⟩
   refine .agg _ _ (by rw[hl]; simp; omega) (λj v hj=>?_) (λj v d hj hd=>?_)
   ·rw[Array.getElem?_extract] at hj
    split at hj
    ·exact hone _ v hj
    ·cases hj
   ·rw[Array.getElem?_extract] at hj
    split at hj
    ·rename_i hjs
     have hjs':j<s:=by omega
     rw[List.getElem?_take_of_lt hjs',List.getElem?_drop] at hd
     exact hrep _ v d hj hd
    ·cases hj
  ·cases h
 ·rename_i s h1 h2
  have hlt:off<vs.size:=by
   rcases Nat.lt_or_ge off cs.length with h'|h'
   ·omega
   ·rw[List.getElem?_eq_none h'] at h; cases h
  refine⟨vs[off],?_,hrep off _ d (Array.getElem?_eq_getElem hlt) h⟩
  simp[part,Zg5 h1,Array.getElem?_eq_getElem hlt]
 ·cases h
theorem Zmm {f:TypeId→D→D→Option (Bool×Prop)} {n:Nat} (hf:∀ t x y u v r p,f t x y=some (r,p)→p→Z9 w G β u x→Z9 w G β v y→(Op.equalIn n t u v).run P w=.ok r w)
  {us vs:Array Value} {xs ys:List D} (hn:xs.length=us.size) (hone:∀ (j:Nat) v,us[j]?=some v→one v=true) (hrep:∀ (j:Nat) v d,us[j]?=some v→xs[j]?=some d→Z9 w G β v d)
  (hn':ys.length=vs.size) (hone':∀ (j:Nat) v,vs[j]?=some v→one v=true) (hrep':∀ (j:Nat) v d,vs[j]?=some v→ys[j]?=some d→Z9 w G β v d):
  ∀ (fs:List Field) {r:Bool} {p:Prop},Zax P f xs ys fs=some (r,p)→p→(Op.eqFields n us vs fs).run P w=.ok r w
 | [],r,p,h,_=>by cases h; simp[Op.eqFields]
 | x :: fs,r,p,h,hp=>by
  unfold Zax at h
  split at h
  ·rename_i a b ha hb
   split at h
   ·rename_i r1 p1 r2 p2 h1 h2
    cases h
    obtain⟨u,e1,g1⟩:=Zdj (P:=P) hn hone hrep ha
    obtain⟨v,e2,g2⟩:=Zdj (P:=P) hn' hone' hrep' hb
    have e3:=hf _ _ _ _ _ _ _ h1 hp.2.1 g1 g2
    have e4:=Zmm hf hn hone hrep hn' hone' hrep' fs h2 hp.2.2
    simp only[Op.eqFields,if_pos hp.1,Sem.run_bind,e1,e2,e3,Result.andThen_ok]
    cases r1
    ·simp
    ·simpa using e4
   ·cases h
  ·cases h
theorem Zgx (d:Nat):∀ (m:Nat) {t:TypeId} {x y:D} {u v:Value} {r:Bool} {p:Prop},Zbw P m t x y=some (r,p)→p→Z9 w G β u x→Z9 w G β v y→(Op.equalIn (d+m) t u v).run P w=.ok r w
 | 0,_,_,_,_,_,_,_,h,_,_,_=>by cases h
 | m + 1,t,x,y,u,v,r,p,h,hp,hu,hv=>by
  unfold Zbw at h
  rw[show d+(m+1)=(d+m)+1 from rfl]
  split at h
  ·rename_i ht; cases h; rw[Ky hu,Ky hv]; exact run_equalIn_bool' w _ _ _ _ ht
  ·rename_i ht
   split at h
   ·rename_i hk
    cases h; subst hk; rw[Wd hu,Wd hv]; exact run_equalIn_int w _ _ _ _ _ _ ht
   ·cases h
  ·rename_i ht
   cases h
   obtain⟨s,rfl,rfl⟩:=Mi hu
   obtain⟨s',rfl,rfl⟩:=Mi hv
   rw[run_equalIn_string w _ _ _ _ ht,ByteArray.toList_eq,ByteArray.toList_eq]
  ·rename_i fs _ _ ht
   split at h
   ·rename_i r1 p1 h1
    cases h
    obtain⟨us,rfl,hn,hone,hrep⟩:=Jd hu
    obtain⟨vs,rfl,hn',hone',hrep'⟩:=Jd hv
    have hfs:P.fieldsOf t=fs:=by simp[Program.fieldsOf,ht]
    rw[run_equalIn_agg w _ _ _ _ (by rw[hfs]; exact ht) hp.1,hfs]
    exact Zmm (n:=d+m) (λt x y u v r p h hp hu hv=>Zgx d m h hp hu hv) hn hone hrep hn' hone' hrep' _ h1 hp.2
   ·cases h
  ·cases h
theorem Zk2 {v:Value} (h:Z9 w G β v .nilptr):v=.pointer none:=by cases h; rfl
theorem Zkl {op:BinOp} {xt:TypeId} {x y:Operand} {u v:Option Addr} {same:Bool} {d:D} {p:Prop} (h:ptrD P op xt same=some (d,p))
  (hr:∀ te j,P.underlying xt=some (.pointer te)→P.info? te=some j→(∀ d:Nat,(Op.equalIn (d+1) xt (.pointer u) (.pointer v)).run P w=.ok same w)∧(∀ d:Nat,(Op.equalIn (d+1) xt (.pointer u) (.pointer v)).run P w=.ok same w)):
  Vv P w G β (do eqGuard op xt x y (.pointer u) (.pointer v); Go.binOp op xt (.pointer u) (.pointer v)) d:=by
 unfold ptrD at h
 split at h
 ·rename_i te hu
  split at h
  ·rename_i j hj
   have key:=(hr te j hu hj).1 9999
   split at h
   ·cases h
    exact⟨.bool same,by rw[Sem.run_bind,Z3c (by intro cs h; cases h) (by intro h; cases h)]; simp only[binOp]; simp[Op.equal,Op.maxDepth,key],.bool _⟩
   ·cases h
    exact⟨.bool (!same),by rw[Sem.run_bind,Z3c (by intro cs h; cases h) (by intro h; cases h)]; simp only[binOp]; simp[Op.equal,Op.maxDepth,key],.bool _⟩
   ·cases h
  ·cases h
 ·cases h
theorem Zyw {op:BinOp} {xt:TypeId} {x y:Operand} {u v:Value} {dx dy:D} (hx:Z9 w G β u dx) (hy:Z9 w G β v dy) {ans:Ans} {d:D} {p:Prop}
  (h:binD P op xt dx dy ans=some (d,p)) (hp:p):Vv P w G β (do eqGuard op xt x y u v; Go.binOp op xt u v) d:=by
 unfold binD at h
 split at h
 ·rw[Wd hx,Wd hy]
  have key:∀ k n,(eqGuard op xt x y (.int k n) v).run P w=.ok () w:=λk n=>Z3c (by intro cs h; cases h) (by intro h; cases h)
  rw[Wd hy] at key
  split at h
  ·obtain⟨r,hr,hd⟩:=Zn9 h hp xt (P:=P) (w:=w) (G:=G) (β:=β)
   exact⟨r,by rw[Sem.run_bind,key]; exact hr,hd⟩
  ·obtain⟨r,hr,hd⟩:=Zn9 h hp xt (P:=P) (w:=w) (G:=G) (β:=β)
   exact⟨r,by rw[Sem.run_bind,key]; exact hr,hd⟩
  ·split at h
   ·rename_i hk
    subst hk
    obtain⟨r,hr,hd⟩:=Y1h (by assumption) (by assumption) h hp xt (P:=P) (w:=w) (G:=G) (β:=β)
    exact⟨r,by rw[Sem.run_bind,key]; exact hr,hd⟩
   ·cases h
 ·obtain⟨s,rfl,rfl⟩:=Mi hx
  obtain⟨s',rfl,rfl⟩:=Mi hy
  obtain⟨r,hr,hd⟩:=Zz7 h hp xt (P:=P) (w:=w) (G:=G) (β:=β)
  exact⟨r,by rw[Sem.run_bind,Z3c (by intro cs h; cases h) (by intro h; cases h)]; exact hr,hd⟩
 ·rw[Ky hx,Ky hy]
  split at h
  ·rename_i hb
   split at h
   ·exact⟨_,by rw[Sem.run_bind,Z3c (by intro cs h; cases h) (by intro h; cases h)]; simp[run_eql_bool _ _ _ _ hb],Kv h hp⟩
   ·exact⟨_,by rw[Sem.run_bind,Z3c (by intro cs h; cases h) (by intro h; cases h)]; simp[run_neq_bool _ _ _ _ hb],Kv h hp⟩
   ·cases h
  ·cases h
 ·obtain⟨us,rfl,hn,hone,hrep⟩:=Jd hx
  obtain⟨vs,rfl,hn',hone',hrep'⟩:=Jd hy
  split at h
  ·rename_i r q c hr
   split at h
   ·cases h
    have e:=Zgx 9994 6 hr hp.2.1 (.agg us _ hn hone hrep) (.agg vs _ hn' hone' hrep')
    exact⟨.bool r,by rw[Sem.run_bind,run_eqGuard_agg w _ _ _ _ _ _ hp.1,Result.andThen_ok,run_eql_struct,e]; rfl,by rw[hp.2.2]; exact .bool _⟩
   ·cases h
    have e:=Zgx 9994 6 hr hp.2.1 (.agg us _ hn hone hrep) (.agg vs _ hn' hone' hrep')
    exact⟨.bool (!r),by rw[Sem.run_bind,run_eqGuard_agg w _ _ _ _ _ _ hp.1,Result.andThen_ok,run_neq_struct,e]; rfl,by rw[hp.2.2]; exact .bool _⟩
   ·cases h
  ·cases h
 ·obtain rfl:=Zk2 hx
  obtain rfl:=Zk2 hy
  exact Zkl h (λte j h1 h2=>⟨λd=>by simp[Op.equalIn,run_underlying h1],λd=>by simp[Op.equalIn,run_underlying h1]⟩)
 ·obtain rfl:=Zk2 hy
  cases hx with
  | lptr b i o c sz hβ=>
   exact Zkl h (λte j h1 h2=>⟨λd=>by simp[Op.equalIn,run_underlying h1],λd=>by simp[Op.equalIn,run_underlying h1]⟩)
 ·rename_i b i o b' i' o'
  split at h
  ·rename_i hb
   simp only[Bool.and_eq_true] at hb
   obtain rfl:=Nat.eq_of_beq_eq_true hb.1.1
   obtain rfl:=Nat.eq_of_beq_eq_true hb.1.2
   obtain rfl:=Nat.eq_of_beq_eq_true hb.2
   cases hx with
   | lptr _ _ _ c sz hβ=>
    cases hy with
    | lptr _ _ _ c' sz' hβ'=>
     rw[hβ] at hβ'; cases hβ'
     have key:∀ te j,P.underlying xt=some (.pointer te)→P.info? te=some j→∀ d:Nat,(Op.equalIn (d+1) xt (.pointer (some ⟨c,i*sz+o,none⟩)) (.pointer (some ⟨c,i*sz+o,none⟩))).run P w=.ok true w:=λte j h1 h2 d=>by
      simp[Op.equalIn,run_underlying h1,sizeOf,typeInfo,h2,run_sameAddr_same]
     exact Zkl h (λte j h1 h2=>⟨key te j h1 h2,key te j h1 h2⟩)
  ·cases h
 ·cases h
theorem Zzu {u v:Value} {x i:D} (hx:Z9 w G β u x) (hi:Z9 w G β v i) {t:TypeId} {ans:Ans} {d:D} {p:Prop}
  (h:Zix P t x i ans=some (d,p)) (hp:p):Vv P w G β (Instr.index t u v) d:=by
 unfold Zix at h
 split at h
 ·rename_i k i
  rw[Wd hi]
  split at h
  ·rename_i s hu
   obtain⟨b,rfl,rfl⟩:=Mi hx
   have key:∀ c,Vh b.data.toList i=some c→Vv P w G β (Instr.index t (.string b) (.int k i)) (.int .u8 c):=λc hc=>by
    unfold Vh at hc
    split at hc
    ·rename_i h0
     obtain⟨y,hy,rfl⟩:=Xt hc
     refine⟨.int .u8 y.toNat,?_,.int _ _⟩
     have hlt:i.toNat<b.size:=by
      rcases Nat.lt_or_ge i.toNat b.data.toList.length with h'|h'
      ·exact h'
      ·rw[List.getElem?_eq_none h'] at hy; cases hy
     have e:b[i.toNat]?=some y:=by
      have:b[i.toNat]?=b.data[i.toNat]? :=by
       rw[getElem?_pos b i.toNat hlt,getElem?_pos b.data i.toNat hlt]; rfl
      rw[this]; simpa using hy
     simp[Instr.index,asIntOf,run_underlying hu,h0,e]
    ·cases hc
   split at h
   ·cases h; exact key _ hp
   ·split at h
    ·cases h; exact key _ (by assumption)
    ·cases h
  ·rename_i len e cs hu
   obtain⟨vs,rfl,hn,hone,hrep⟩:=Jd hx
   split at h
   ·rename_i sz hsz
    split at h
    ·rename_i d' hd
     cases h
     obtain⟨r,h1,h2⟩:=Zdj hn hone hrep hd
     exact⟨r,by simp[Instr.index,asIntOf,run_underlying hu,hp.1,hp.2,Lg hsz,h1],h2⟩
    ·cases h
   ·cases h
  ·cases h
 ·cases h
theorem Zh6 {α:Type} {l r:List α} {lo hi:Int} (h:sub l lo hi=some r):∃ a b:Nat,lo=a∧hi=b∧a≤b∧b≤l.length∧r=(l.drop a).take (b - a):=by
 unfold sub at h
 split at h
 ·rename_i hc
  cases h
  exact⟨lo.toNat,hi.toNat,by omega,by omega,by omega,by omega,rfl⟩
 ·cases h
def BRel (x:Option Value) (n:Int) (dflt:Int):Prop:=(x=none∧n=dflt)∨∃ k,x=some (.int k n)
theorem K0 {x:Option Operand} (hC:Za Γ σ a w G β) {dflt n:Int} (h:Mj (x.map σ.ev) dflt=some n):BRel (x.map a.eval) n dflt:=by
 cases x with
 | none=>cases h; exact .inl ⟨rfl,rfl⟩
 | some y=>
  simp only[Option.map_some,Mj] at h
  split at h
  ·rename_i h'; cases h'
  ·rename_i k i h'
   cases h
   have h':=Option.some.inj h'
   have:=Vo hC y
   rw[h'] at this
   exact .inr ⟨k,by simp[Wd this]⟩
  ·cases h
theorem Ks (x:Value) {k:IntKind} {n:Int} (hx:x=.int k n) (y:Nat) (code:BoundsCode) (h0:0≤n) (h1:n≤y):(Instr.sliceBound x y code).run P w=.ok n.toNat w:=by
 subst hx; simp[Instr.sliceBound,asIntOf,h0,h1]
theorem Z9t {isS:Bool} {len cap:Nat} {lo hi:Option Value} {l h:Int} (hl:BRel lo l 0) (hh:BRel hi h len) (h0:0≤l) (h1:l≤h) (h2:h≤cap):
  (Instr.sliceBounds isS len cap lo hi none).run P w=.ok (l.toNat,h.toNat,cap) w:=by
 have e1:∀ y:Nat,h≤y→∀ code,(∃ k,hi=some (.int k h))→(hi=none→False)→∀ v,hi=some v→(Instr.sliceBound v y code).run P w=.ok h.toNat w:=λy hy code hk _ v hv=>by
  obtain⟨k,hk⟩:=hk
  rw[hk] at hv; cases hv
  exact Ks _ rfl _ _ (by omega) hy
 rcases hl with ⟨rfl,rfl⟩|⟨kl,rfl⟩ <;> rcases hh with ⟨rfl,rfl⟩|⟨kh,rfl⟩
 ·simp[Instr.sliceBounds]
 ·simp[Instr.sliceBounds,Ks (P:=P) (w:=w) _ rfl cap _ (by omega:(0:Int)≤h) h2]
 ·simp[Instr.sliceBounds,Ks (P:=P) (w:=w) _ rfl len _ h0 h1]
 ·have e:((h.toNat:Nat):Int)=h:=by omega
  simp[Instr.sliceBounds,Ks (P:=P) (w:=w) _ rfl cap _ (by omega:(0:Int)≤h) h2,Ks (P:=P) (w:=w) _ rfl h.toNat _ h0 (by omega:l≤(h.toNat:Nat))]
theorem Zzp {len cap:Nat} {lo hi:Option Value} {l h m:Int} {mx:Value} {km:IntKind} (hm:mx=.int km m) (hl:BRel lo l 0) {kh:IntKind} (hh:hi=some (.int kh h)) (h0:0≤l) (h1:l≤h) (h2:h≤m) (h3:m≤cap):
  (Instr.sliceBounds true len cap lo hi (some mx)).run P w=.ok (l.toNat,h.toNat,m.toNat) w:=by
 subst hm hh
 rcases hl with ⟨rfl,rfl⟩|⟨kl,rfl⟩
 ·simp[Instr.sliceBounds,Ks (P:=P) (w:=w) _ rfl cap _ (by omega:(0:Int)≤m) h3,Ks (P:=P) (w:=w) _ rfl m.toNat _ (by omega:(0:Int)≤h) (by omega:h≤(m.toNat:Nat))]
 ·simp [Instr.sliceBounds,Ks (P:=P) (w:=w) _ rfl cap _ (by omega:(0:Int)≤m) h3,Ks (P:=P) (w:=w) _ rfl m.toNat _ (by omega:(0:Int)≤h) (by omega:h≤(m.toNat:Nat)),
   Ks (P:=P) (w:=w) _ rfl h.toNat _ h0 (by omega:l≤(h.toNat:Nat))]
theorem Zui {c c':Bool} {v0:Value} {rows:List (List D)} (h:Z9 w G β v0 (.sl c rows)) {a0:Option Addr} {n cap:Nat} (hv:v0=.slice a0 n cap) (l h' m:Nat) (h1:l≤h') (h2:h'≤n) (h3:h'≤m) (h4:m≤cap)
  (hc:c'=true→m=h') (size:Nat) (hsize:∀ r∈rows,r.length=size):
  Z9 w G β (.slice (if m=l then a0 else a0.map (·.add (l*size))) (h' - l) (m - l)) (.sl c' ((rows.drop l).take (h' - l))):=by
 cases h with
 | slnil=>
  cases hv
  rw[if_pos (show m=l by omega),show h' - l=0 by omega,show m - l=0 by omega]
  simp
  exact .slnil c' _
 | sl _ b off n' cap' sz _ val hn hcc hcap hsz himm hcell hone hdat hrep=>
  cases hv
  have hrow:∀ i,i<n→sz=size:=λi hi=>by
   have hi':i<rows.length:=by omega
   rw[← hsz i rows[i] (List.getElem?_eq_getElem hi')]
   exact hsize _ (List.getElem_mem hi')
  have key:∀ ad:Nat,(h' - l=0∨ad=off+l*sz)→Z9 w G β (.slice (some ⟨b,ad,none⟩) (h' - l) (m - l)) (.sl c' ((rows.drop l).take (h' - l))):=λad had=>by
   refine .sl c' b ad (h' - l) (m - l) sz _ (λi j=>val (l+i) j) (by simp; omega) (λhcc'=>by have:=hc hcc'; omega) (by omega) (λi r hr=>?_) (λi j hi hj=>?_) (λi j hi hj=>?_) (λi j hi hj=>?_) (λi j r d hr hd=>?_) (λi j r d hr hd=>?_)
   ·rw[List.getElem?_take] at hr
    split at hr
    ·rw[List.getElem?_drop] at hr; exact hsz _ r hr
    ·cases hr
   ·rw[had.resolve_left (by omega)]
    have:=himm (l+i) j (by omega) hj
    rw[Nat.add_mul] at this; omega
   ·rw[had.resolve_left (by omega)]
    have:=hcell (l+i) j (by omega) hj
    rw[← this,Nat.add_mul]; congr 2; omega
   ·exact hone _ j (by omega) hj
   ·rw[List.getElem?_take] at hr
    split at hr
    ·rw[List.getElem?_drop] at hr; exact hdat _ j r d hr hd
    ·cases hr
   ·rw[List.getElem?_take] at hr
    split at hr
    ·rw[List.getElem?_drop] at hr; exact hrep _ j r d hr hd
    ·cases hr
  by_cases hml:m=l
  ·rw[if_pos hml]
   exact key off (.inl (by omega))
  ·rw[if_neg hml]
   simp only[Option.map_some,Addr.add_none]
   refine key _ ?_
   by_cases hl:l<n
   ·rw[hrow l hl]; exact .inr rfl
   ·exact .inl (by omega)
theorem Zjk {c:Bool} {v0:Value} {rows:List (List D)} (h:Z9 w G β v0 (.sl c rows)):∃ a0 cap,v0=.slice a0 rows.length cap∧rows.length≤cap∧(c=true→cap=rows.length):=by
 cases h with
 | slnil _ x=>exact⟨x,0,rfl,Nat.le_refl _,λ_=>rfl⟩
 | sl _ b off n cap sz _ val hn hcc hcap=>subst hn; exact⟨_,cap,rfl,hcap,hcc⟩
theorem Y1r (hC : Za Γ σ a w G β) {u:Value} {x:D} (hx:Z9 w G β u x) {t:TypeId} {lo hi mx:Option Operand} {ans:Ans} {d:D} {p:Prop}
  (h:M9 P σ t x (lo.map σ.ev) (hi.map σ.ev) (mx.map σ.ev) ans=some (d,p)) (hp:p):Vv P w G β (Instr.sliceAt t u (lo.map a.eval) (hi.map a.eval) (mx.map a.eval)) d:=by
 unfold M9 at h
 split at h
 ·rename_i s hu
  obtain⟨b,rfl,rfl⟩:=Mi hx
  split at h
  ·rename_i l hh hmx hl hhi
   have hmx':mx=none:=by cases mx <;> simp at hmx ⊢
   subst hmx'
   have key:∀ r,sub b.data.toList l hh=some r→Vv P w G β (Instr.sliceAt t (.string b) (lo.map a.eval) (hi.map a.eval) ((none:Option Operand).map a.eval)) (.str r):=λr hr=>by
    obtain⟨l',h',rfl,rfl,h1,h2,rfl⟩:=Zh6 hr
    have e2:b.data.toList.length=b.size:=rfl
    have:=Z9t (P:=P) (w:=w) (isS:=false) (len:=b.size) (cap:=b.size) (K0 hC hl) (K0 hC hhi) (by omega) (by omega) (by omega)
    exact⟨.string (b.extract l' h'),by simp[Instr.sliceAt,Instr.slice,run_underlying hu,this],Z80 _ _ (Lib.extract_data b l' h')⟩
   split at h
   ·cases h; exact key _ hp
   ·split at h
    ·cases h; exact key _ (by assumption)
    ·cases h
  ·cases h
 ·rename_i e c rows hu
  split at h
  ·rename_i sz hsz
   obtain⟨a0,cap,rfl,hcap,hcc⟩:=Zjk hx
   split at h
   ·rename_i l hh hmx hl hhi
    have hmx':mx=none:=by cases mx <;> simp at hmx ⊢
    subst hmx'
    have key:∀ r,(∀ x∈rows,x.length=sz)→sub rows l hh=some r→Vv P w G β (Instr.sliceAt t (.slice a0 rows.length cap) (lo.map a.eval) (hi.map a.eval) ((none:Option Operand).map a.eval)) (.sl false r):=λr hall hr=>by
     obtain⟨l',h',rfl,rfl,h1,h2,rfl⟩:=Zh6 hr
     have:=Z9t (P:=P) (w:=w) (isS:=true) (len:=rows.length) (cap:=cap) (K0 hC hl) (K0 hC hhi) (by omega) (by omega) (by omega)
     refine⟨_,by simp[Instr.sliceAt,Instr.slice,run_underlying hu,this,Lg hsz]; rfl,?_⟩
     have:=Zui hx rfl l' h' cap h1 h2 (by omega) (by omega) (c':=false) (by intro h; cases h) sz hall
     simpa using this
    split at h
    ·cases h; exact key _ hp.1 hp.2
    ·split at h
     ·cases h; exact key _ hp (by assumption)
     ·cases h
   ·rename_i m' l hh hmx hl hhi
    split at h
    ·rename_i ho hov m hho hm
     cases mx with
     | none=>cases hmx
     | some mo=>
      simp only[Option.map_some,Option.some.injEq] at hmx
      subst hmx
      obtain ⟨km,hkm⟩:∃ km,a.eval mo=.int km m:=by
       have:=K0 (x:=some mo) hC (dflt:=0) (by simpa using hm)
       rcases this with ⟨h0,-⟩|⟨k,h0⟩
       ·cases h0
       ·exact⟨k,by simpa using h0⟩
      have key:∀ r,(∀ x∈rows,x.length=sz)→m=hh→sub rows l hh=some r→Vv P w G β (Instr.sliceAt t (.slice a0 rows.length cap) (lo.map a.eval) (hi.map a.eval) ((some mo:Option Operand).map a.eval)) (.sl true r):=λr hall hmh hr=>by
       subst hmh
       obtain⟨l',h',rfl,rfl,h1,h2,rfl⟩:=Zh6 hr
       rcases K0 hC hhi with ⟨h0,-⟩|⟨kh,h0⟩
       ·cases hi with
        | none=>cases hho
        | some _=>cases h0
       ·have:=Zzp (P:=P) (w:=w) (len:=rows.length) (cap:=cap) hkm (K0 hC hl) h0 (by omega) (by omega) (by omega) (by omega)
        refine⟨_,by simp[Instr.sliceAt,Instr.slice,run_underlying hu,this,Lg hsz]; rfl,?_⟩
        have:=Zui hx rfl l' h' h' h1 h2 (by omega) (by omega) (c':=true) (by intro h; rfl) sz hall
        simpa using this
      split at h
      ·cases h; exact key _ hp.1 hp.2.1 hp.2.2
      ·split at h
       ·cases h; exact key _ hp.1 hp.2 (by assumption)
       ·cases h
    ·cases h
   ·cases h
  ·cases h
 ·rename_i e b l0 n hu
  split at h
  ·rename_i blk sz hblk hsz
   split at h
   ·rename_i hbs
    split at h
    ·rename_i l hh hmx hl hhi
     have hmx':mx=none:=by cases mx <;> simp at hmx ⊢
     subst hmx'
     cases h
     obtain⟨h0,h1,h2⟩:=hp
     cases hx with
     | lslnil _ ax=>
      have:=Z9t (P:=P) (w:=w) (isS:=true) (len:=0) (cap:=0) (K0 hC hl) (K0 hC hhi) (by omega) (by omega) (by omega)
      have e1:l=0:=by omega
      have e2:hh=0:=by omega
      subst e1 e2
      exact⟨.slice ax 0 0,by simp[Instr.sliceAt,Instr.slice,run_underlying hu,this,Lg hsz],.lslnil _ _⟩
     | lsl _ _ _ cap c sz' off hβ hcap hoff hroom=>
      have hsz'':sz'=sz:=by
       rcases hC.heap b blk hblk with ⟨h0,-⟩|⟨c',h0,hB⟩
       ·rw[h0] at hβ; cases hβ
       ·rw[h0] at hβ; cases hβ; exact hbs
      subst hsz''
      have:=Z9t (P:=P) (w:=w) (isS:=true) (len:=n) (cap:=cap) (K0 hC hl) (K0 hC hhi) (by omega) (by omega) (by omega)
      refine⟨_,by simp[Instr.sliceAt,Instr.slice,run_underlying hu,this,Lg hsz]; rfl,?_⟩
      by_cases hcl:cap=l.toNat
      ·rw[if_pos hcl]
       exact .lsl b _ _ _ c sz' off hβ (by omega) (.inl (by omega)) (by obtain⟨vs,e,fr,a1,-⟩:=hroom; exact⟨vs,e,fr,a1,.inl (by omega)⟩)
      ·rw[if_neg hcl,Addr.add_none]
       refine .lsl b _ _ _ c sz' _ hβ (by omega) (.inr ?_) ?_
       ·rw[hoff.resolve_left (by omega),Nat.add_mul]
       ·obtain⟨vs,e,fr,a1,a2⟩:=hroom
        refine⟨vs,e,fr,a1,.inr ?_⟩
        rw[show l0+l.toNat+(cap - l.toNat)=l0+cap by omega]
        exact a2.resolve_left (by omega)
    ·cases h
   ·cases h
  ·cases h
 ·cases h
theorem Zxp {u:Value} {x:D} (hx:Z9 w G β u x) {t ty:TypeId} {args:Array Value} {ts:Array TypeId} (h0:args[0]?=some u) (h1:ts[0]?=some t) {ans:Ans} {d:D} {p:Prop}
  (h:lenD P t x ans=some (d,p)) (hp:p):Vv P w G β (Builtin.len_ ts ty args) d:=by
 unfold lenD at h
 split at h
 ·rename_i hu
  obtain⟨b,rfl,rfl⟩:=Mi hx
  exact⟨_,by simp[Builtin.len_,h0,h1,run_underlying hu,goInt],Wk h hp⟩
 ·rename_i e c rows hu
  obtain⟨a0,cap,rfl,hcap,hcc⟩:=Zjk hx
  exact⟨_,by simp[Builtin.len_,h0,h1,run_underlying hu,goInt],Wk h hp⟩
 ·rename_i e b l n hu
  have:∃ a0 cap,u=.slice a0 n cap:=by cases hx <;> exact⟨_,_,rfl⟩
  obtain⟨a0,cap,rfl⟩:=this
  exact⟨_,by simp[Builtin.len_,h0,h1,run_underlying hu,goInt],Wk h hp⟩
 ·rename_i n e hu
  exact⟨_,by simp[Builtin.len_,h0,h1,run_underlying hu,goInt],Wk h hp⟩
 ·cases h
theorem Zwf {s:Sem Value} {v:Value} (h:s.run P w=.ok v w):(do pure (Next.value (← s)):Sem Next).run P w=.ok (.value v) w:=by simp[h]
theorem Zsx:∀ {l:List D} {bs:List Nat},cloD l=some bs→bs.length=l.length∧∀ (j:Nat) b,bs[j]?=some b→l[j]?=some (.lptr b 0 0)
 | [],_,h=>by cases h; exact⟨rfl,λj b hb=>by simp at hb⟩
 | d :: r,bs,h=>by
  unfold cloD at h
  split at h
  ·cases ‹_::_=[]›
  ·rename_i b' r' e
   injection e with e1 e2
   subst e1 e2
   split at h
   ·rename_i l hl
    cases h
    obtain⟨e1,e2⟩:=Zsx hl
    refine⟨by simp[e1],λj b hb=>?_⟩
    cases j with
    | zero=>simp at hb; subst hb; rfl
    | succ j=>simp at hb; simpa using e2 j b hb
   ·cases h
  ·cases h
theorem Zwk (hC:Za Γ σ a w G β) {o:Oper} {ans:Ans} {d:D} {p:Prop} (h:Xi P σ o ans=some (d,p)) (hp:p):
  ∃ v,(execOp a.eval o).run P w=.ok (.value v) w∧Z9 w G β v d:=by
 obtain⟨dst,op,ty,pos,after,guard⟩:=o
 have ev:=Vo hC
 have fin:∀ {s:Sem Value} {d},Vv P w G β s d→∃ v,(do pure (Next.value (← s)):Sem Next).run P w=.ok (.value v) w∧Z9 w G β v d:=λ⟨v,h1,h2⟩=>⟨v,Zwf h1,h2⟩
 cases op with
 | move x=>cases h; exact⟨_,rfl,ev x⟩
 | assign x=>cases h; exact⟨_,rfl,ev x⟩
 | pick c x y=>
  obtain⟨v,h1,h2⟩:=Y0x (P:=P) (ev c) (ev x) (ev y) h hp
  refine⟨v,?_,h2⟩
  simp only[execOp]
  simp only[Sem.run_bind,Sem.run_pure] at h1 ⊢
  revert h1
  generalize (asBool (a.eval c)).run P w=r
  cases r with
  | ok q w'=>intro h1; simp only[Result.andThen_ok,Result.ok.injEq] at h1 ⊢; exact⟨by rw[h1.1],h1.2⟩
  | halt e w'=>intro h1; cases h1
 | binOp op xt x y yt=>exact fin (Zyw (ev x) (ev y) h hp)
 | unOp op t x=>exact fin (Zzm (ev x) h hp)
 | convert s t x=>exact fin (Zz1 (ev x) h hp)
 | load t x=>exact fin (Zpv hC (ev x) h hp)
 | fieldAddr s x f=>
  simp only[Xi] at h
  split at h
  ·cases h; exact fin (Zwy (ev x) (by assumption))
  ·cases h
 | field s x f=>
  simp only[Xi] at h
  split at h
  ·rename_i cs off t hx hf
   split at h
   ·rename_i d' hd
    cases h
    have hx':=ev x
    rw[hx] at hx'
    obtain⟨vs,hv,hn,hone,hrep⟩:=Jd hx'
    obtain⟨v,h1,h2⟩:=Zdj hn hone hrep hd
    refine fin ⟨v,?_,h2⟩
    unfold Zaf at hf
    split at hf
    ·rename_i fs hu
     split at hf
     ·rename_i y hy
      cases hf
      simp[Instr.field,run_underlying hu,hy,hv,asAgg,h1]
     ·cases hf
    ·cases hf
   ·cases h
  ·cases h
 | indexAddr t x i=>exact fin (Zxs hC (ev x) (ev i) h hp)
 | index t x i=>exact fin (Zzu (ev x) (ev i) h hp)
 | slice t x lo hi mx=>exact fin (Y1r hC (ev x) h hp)
 | extract x i=>
  simp only[Xi] at h
  split at h
  ·rename_i vs hx
   split at h
   ·rename_i d' hd
    cases h
    have hx':=ev x
    rw[hx] at hx'
    generalize he:a.eval x=u at hx'
    cases hx' with
    | tup us ds hn hrep=>
     have hlt:i<us.size:=by
      rcases Nat.lt_or_ge i vs.length with h'|h'
      ·omega
      ·rw[List.getElem?_eq_none h'] at hd; cases hd
     refine fin ⟨us[i],?_,hrep i _ _ (Array.getElem?_eq_getElem hlt) hd⟩
     simp[Instr.extract,he,Array.getElem?_eq_getElem hlt]
   ·cases h
  ·cases h
 | nilCheck x=>
  simp only[Xi] at h
  split at h
  ·rename_i cs hx
   cases h
   have hx':=ev x
   rw[hx] at hx'
   refine⟨a.eval x,?_,hx'⟩
   generalize he:a.eval x=u at hx'
   cases hx' with
   | ptr b off cs val=>simp[execOp,he]
  ·rename_i b i j hx
   cases h
   have hx':=ev x
   rw[hx] at hx'
   refine⟨a.eval x,?_,hx'⟩
   generalize he:a.eval x=u at hx'
   cases hx' with
   | lptr=>simp[execOp,he]
  ·cases h
 | call c=>
  obtain⟨callee,args,ts⟩:=c
  cases callee with
  | builtin b=>
   cases b with
   | len=>
    simp only[Xi] at h
    split at h
    ·rename_i x t hx ht
     have:=Zxp (P:=P) (ty:=ty) (args:=args.map a.eval) (ev x) (by simp[hx]) ht h hp
     obtain⟨v,h1,h2⟩:=this
     exact⟨v,by simp[execOp,resolve,invoke,builtin,h1],h2⟩
    ·cases h
   | unsafeSliceData=>
    match args,h with
    | ⟨[x]⟩,h=>
     simp only[Xi] at h
     have hx:=ev x
     split at h
     ·rename_i b n hb
      cases h
      rw[hb] at hx
      generalize he:a.eval x=u at hx
      cases hx with
      | lslnil=>exact absurd hp (Nat.lt_irrefl 0)
      | lsl _ _ _ cap c sz off hβ hcap hoff hroom=>
       have hc0:cap≠0:=by have:0<n:=hp; omega
       have ho:off=0*sz+0:=by rcases hoff with h|h; exact absurd h hc0; omega
       refine⟨.pointer (some ⟨c,off,none⟩),?_,ho ▸ .lptr b 0 0 c sz hβ⟩
       simp[execOp,resolve,invoke,builtin,he,Lib.run_unsafeSliceData_row w _ _ _ _ _ hc0]
     ·cases h
    | ⟨[]⟩,h=>cases h
    | ⟨_::_::_⟩,h=>cases h
   | max =>
    match args,h with
    | ⟨[x,y]⟩,h=>
     simp only[Xi] at h
     have hx:=ev x
     have hy:=ev y
     unfold maxD at h
     split at h
     ·rename_i k m k' n e1 e2
      rw[e1] at hx
      rw[e2] at hy
      have ex:=Wd hx
      have ey:=Wd hy
      obtain⟨r,hr⟩:∃ r,r=(if n>m then n else m):=⟨_,rfl⟩
      rw[← hr] at h
      refine⟨.int k r,?_,?_⟩
      ·simp[execOp,resolve,invoke,builtin,Builtin.max_,ex,ey,Builtin.max2,hr]
      ·exact(Wk h hp)
     ·cases h
    | ⟨[]⟩,h=>cases h
    | ⟨[_]⟩,h=>cases h
    | ⟨_::_::_::_⟩,h=>cases h
   | min =>
    match args,h with
    | ⟨[x,y]⟩,h=>
     simp only[Xi] at h
     have hx:=ev x
     have hy:=ev y
     unfold minD at h
     split at h
     ·rename_i k m k' n e1 e2
      rw[e1] at hx
      rw[e2] at hy
      have ex:=Wd hx
      have ey:=Wd hy
      obtain⟨r,hr⟩:∃ r,r=(if n<m then n else m):=⟨_,rfl⟩
      rw[← hr] at h
      refine⟨.int k r,?_,?_⟩
      ·simp[execOp,resolve,invoke,builtin,Builtin.min_,ex,ey,Builtin.min2,hr]
      ·exact(Wk h hp)
     ·cases h
    | ⟨[]⟩,h=>cases h
    | ⟨[_]⟩,h=>cases h
    | ⟨_::_::_::_⟩,h=>cases h
   | _=>cases h
  | _=>cases h
 | makeFunc f first captured=>
  simp only[Xi] at h
  split at h
  ·rename_i f' bs hb
   cases h
   obtain⟨e1,e2⟩:=Zsx hb
   refine⟨.func (.func f') #[] (captured.map a.eval),by simp[execOp,Instr.makeFunc],.clo f' _ bs (by simp[e1]) λj v b hv hbj=>?_⟩
   have e3:=e2 j b hbj
   rw[List.getElem?_map] at e3
   obtain⟨x,e4,e5⟩:=Xt e3
   have hv':v=a.eval x:=by
    rw[Array.getElem?_map] at hv
    rw[Array.getElem?_toList] at e4
    rw[e4] at hv
    simpa using hv.symm
   have hx:=ev x
   rw[e5] at hx
   rw[hv']
   generalize a.eval x=u at hx
   cases hx with
   | lptr _ _ _ c sz hβ=>exact⟨c,sz,hβ,by simp⟩
  ·cases h
 | _=>cases h
end Go.Den
namespace Go.Den
open Go.RowKit
variable {P:Program} {Γ:Ctx} {σ:S} {a:Act} {w w':World} {G G':Nat→Nat} {β β':Nat→Option (Nat×Nat)}
theorem Uo (w:World) (b o:Nat):w.cell? ⟨b,o,none⟩=match w.heap[b]? with|some (.cells c _ _)=>c[o]?|_=>none:=by
 unfold World.cell?; split <;> simp_all
theorem Kx {b:Nat} (h:w'.heap[b]?=w.heap[b]?) (o:Nat):w'.cell? ⟨b,o,none⟩=w.cell? ⟨b,o,none⟩:=by rw[Uo,Uo,h]
theorem Zb3 {b:Nat} {x:Obj} (h:w.heap[b]?=some x):b<w.heap.size:=by
 rcases Nat.lt_or_ge b w.heap.size with h'|h'
 ·exact h'
 ·simp[Array.getElem?_eq_none h'] at h
theorem Zan (h:Below w.heap.size w w'):J8 w w':=λc vs e fr hc=>⟨vs,fr,by rw[h.block c (Zb3 hc)]; exact hc,rfl⟩
theorem Zyj (h:Below w.heap.size w w') (B:Nat) (X:Nat→Prop) (hB:B≤w.heap.size):Jf B X w w':=
 ⟨h.os,h.tape,h.output,h.size,λk hk _=>h.block k (by omega),Zan h⟩
theorem Va.mono {c:Nat} {blk:Blk} (h:Va w G β Γ c blk) (hc:∀ b o,o<G b→w'.cell? ⟨b,o,none⟩=w.cell? ⟨b,o,none⟩) (hG:∀ b,G b≤G' b) (hGc:G' c=G c)
  (hβ:∀ b x,β b=some x→β' b=some x) (hs:J8 w w') (hb:w'.heap[c]?=w.heap[c]?):Va w' G' β' Γ c blk:=by
 obtain⟨own,pin,ty,frz,top,dat,hsz,vs,e,fr,h1,h2,h3,h4⟩:=h
 exact ⟨own,pin,λt ht=>by rw[hb]; exact ty t ht,λo ho=>frz o (by omega),top,dat,hsz,vs,e,fr,hb.trans h1,h2,h3,λi j r d hr hd=>by
  obtain⟨v,a1,a2,a3⟩:=h4 i j r d hr hd
  exact⟨v,a1,a2,a3.mono hc hG hβ hs⟩⟩
theorem Va.lt {c:Nat} {blk:Blk} (h:Va w G β Γ c blk):c<w.heap.size:=by
 obtain⟨vs,e,fr,h1,-⟩:=h.cells
 exact Zb3 h1
theorem Za.marksLt (h:Za Γ σ a w G β) {b o:Nat} (ho:o<G b):b<w.heap.size:=by
 rcases Nat.lt_or_ge b w.heap.size with h'|h'
 ·exact h'
 ·have:=h.fresh b h'; omega
theorem Za.quiet (h:Za Γ σ a w G β) (hb:Below w.heap.size w w'):Za Γ σ a w' G β:=by
 have hc:∀ b o,o<G b→w'.cell? ⟨b,o,none⟩=w.cell? ⟨b,o,none⟩:=λb o ho=>Kx (hb.block b (h.marksLt ho)) o
 refine⟨h.defers,h.size,λt=>(h.tmps t).mono hc (λ_=>Nat.le_refl _) (λ_ _ h=>h) (Zan hb),λb blk hblk=>?_,h.dom,h.inj,h.kept.trans (Zyj hb _ _ h.big),h.marks,λc hc=>h.fresh c (Nat.le_trans hb.size hc),Nat.le_trans h.big hb.size,h.glob.mono hc (λ_=>Nat.le_refl _)⟩
 rcases h.heap b blk hblk with h0|⟨c,h0,hB⟩
 ·exact .inl h0
 ·exact .inr ⟨c,h0,hB.mono hc (λ_=>Nat.le_refl _) rfl (λ_ _ h=>h) (Zan hb) (hb.block c hB.lt)⟩
def upd (β:Nat→Option (Nat×Nat)) (b:Nat) (x:Option (Nat×Nat)):Nat→Option (Nat×Nat):=λu=>if u=b then x else β u
theorem Za.name (h:Za Γ σ a w G β) {b c:Nat} {blk:Blk} (hb:σ.heap b=none) (hc:∀ b' s,β b'≠some (c,s)) (hB:Va w G β Γ c blk):Za Γ (σ.setB b (some blk)) a w G (upd β b (some (c,blk.sz))):=by
 have hβb:β b=none:=by
  cases hx:β b with
  | none=>rfl
  | some x=>obtain⟨k,hk⟩:=h.dom b x hx; rw[hb] at hk; cases hk
 have hβ:∀ u x,β u=some x→upd β b (some (c,blk.sz)) u=some x:=λu x hu=>by
  unfold upd
  split
  ·subst_vars; rw[hβb] at hu; cases hu
  ·exact hu
 refine⟨h.defers,h.size,λt=>(h.tmps t).mono (λ_ _ _=>rfl) (λ_=>Nat.le_refl _) hβ (.refl w),λu k hu=>?_,λu x hu=>?_,λu u' c' s s' hu hu'=>?_,h.kept,h.marks,h.fresh,h.big,h.glob⟩
 ·simp only[S.setB] at hu
  split at hu
  ·cases hu; rename_i hub; subst hub
   exact .inr ⟨c,by simp[upd],hB.mono (λ_ _ _=>rfl) (λ_=>Nat.le_refl _) rfl hβ (.refl w) rfl⟩
  ·rename_i hub
   rcases h.heap u k hu with ⟨h0,h1⟩|⟨c',h0,hB'⟩
   ·exact .inl ⟨by simp[upd,hub,h0],h1⟩
   ·exact .inr ⟨c',hβ _ _ h0,hB'.mono (λ_ _ _=>rfl) (λ_=>Nat.le_refl _) rfl hβ (.refl w) rfl⟩
 ·simp only[S.setB]
  unfold upd at hu
  split at hu
  ·rename_i hub; simp[hub]
  ·rename_i hub; simp[hub]; exact h.dom u x hu
 ·unfold upd at hu hu'
  split at hu <;> split at hu'
  ·subst_vars; rfl
  ·cases hu; exact absurd hu' (hc _ _)
  ·cases hu'; exact absurd hu (hc _ _)
  ·exact h.inj u u' c' s s' hu hu'
theorem Za.nameNil (h:Za Γ σ a w G β) {b:Nat} {blk:Blk} (hb:σ.heap b=none) (hr:blk.rows=[]∧blk.frz=0):Za Γ (σ.setB b (some blk)) a w G β:=by
 have hβb:β b=none:=by
  cases hx:β b with
  | none=>rfl
  | some x=>obtain⟨k,hk⟩:=h.dom b x hx; rw[hb] at hk; cases hk
 refine⟨h.defers,h.size,h.tmps,λu k hu=>?_,λu x hu=>?_,h.inj,h.kept,h.marks,h.fresh,h.big,h.glob⟩
 ·simp only[S.setB] at hu
  split at hu
  ·cases hu; rename_i hub; subst hub; exact .inl ⟨hβb,hr⟩
  ·exact h.heap u k hu
 ·simp only[S.setB]
  split
  ·exact⟨_,rfl⟩
  ·exact h.dom u x hu
def D.killA (b:Nat):D→D
 | .lptr b' i o=>if b'=b then .undef else .lptr b' i o
 | .lsl b' lo n=>if b'=b then .undef else .lsl b' lo n
 | .clo f bs=>match bs.any λx=>Nat.beq x b with
  | true=> .undef
  | false=> .clo f bs
 | .lsk f b' lo n=>if b'=b then .undef else .lsk f b' lo n
 | d=>d
def D.killB (b:Nat):D→D
 | .agg cs=> .agg (cs.map (D.killA b))
 | .tup _=> .undef
 | d=>d.killA b
def D.kill (b:Nat):D→D
 | .tup vs=> .tup (vs.map (D.killB b))
 | d=>d.killB b
def Blk.kill (b:Nat) (k:Blk):Blk:=if k.pure then k else { k with rows:=k.rows.map (·.map (D.killA b)) }
def S.drop (σ:S) (b:Nat):S:={ σ with tmps:=λt=>(σ.tmps t).kill b,heap:=λu=>if u=b then none else (σ.heap u).map (Blk.kill b) }
theorem Z9.killA {v:Value} {d:D} (h:Z9 w G β v d) (b:Nat) (hne:∀ cs,d≠ .agg cs) (hnt:∀ cs,d≠ .tup cs):Z9 w G (upd β b none) v (d.killA b):=by
 cases h with
 | undef v=>exact .undef v
 | lptr b' i o c sz hβ=>
  simp only[D.killA]
  split
  ·exact .undef _
  ·rename_i hb; exact .lptr b' i o c sz (by simp[upd,hb,hβ])
 | lslnil b' x=>
  simp only[D.killA]
  split
  ·exact .undef _
  ·exact .lslnil b' x
 | lsl b' lo n cap c sz off hβ hcap hoff hroom=>
  simp only[D.killA]
  split
  ·exact .undef _
  ·rename_i hb; exact .lsl b' lo n cap c sz off (by simp[upd,hb,hβ]) hcap hoff hroom
 | clo f vs bs hn hrep=>
  simp only[D.killA]
  split
  ·exact .undef _
  ·rename_i hb
   refine .clo f vs bs hn λj v b' hv hb'=>?_
   obtain⟨c,sz,h1,h2⟩:=hrep j v b' hv hb'
   refine⟨c,sz,?_,h2⟩
   have:b'≠b:=λe=>by
    have:=List.any_eq_false.1 hb b' (List.mem_of_getElem? hb')
    exact this (by rw[e]; exact Nat.beq_refl b)
   simp[upd,this,h1]
 | lskn b' x=>
  simp only[D.killA]
  split
  ·exact .undef _
  ·exact .lskn b' x
 | lsk full b' lo n cap c sz off hβ hcap hfull hfree hoff hroom=>
  simp only[D.killA]
  split
  ·exact .undef _
  ·rename_i hb; exact .lsk full b' lo n cap c sz off (by simp[upd,hb,hβ]) hcap hfull hfree hoff hroom
 | agg vs cs=>exact absurd rfl (hne cs)
 | tup vs ds=>exact absurd rfl (hnt ds)
 | bool x=>exact .bool x
 | int k n=>exact .int k n
 | str s=>exact .str s
 | slnil c x=>exact .slnil c x
 | sl c b' off n cap sz rows val hn hcc hcap hsz himm hcell hone hdat hrep=>exact(Z9.sl c b' off n cap sz rows val hn hcc hcap hsz himm hcell hone hdat hrep).of_dat (λ_ _ _=>rfl) (λ_=>Nat.le_refl _) rfl
 | ptr b' off cs val himm hcell hone hdat hrep=>exact(Z9.ptr b' off cs val himm hcell hone hdat hrep).of_dat (λ_ _ _=>rfl) (λ_=>Nat.le_refl _) rfl
 | nilptr=>exact .nilptr
 | fn f=>exact .fn f
 | raw v h=>exact .raw v h
theorem Z9.killE {v:Value} {d:D} (h:Z9 w G β v d) (h1:one v=true) (b:Nat):Z9 w G (upd β b none) v (d.killA b):=by
 by_cases hu:d=.undef
 ·subst hu; exact .undef v
 ·refine h.killA b (λcs e=>?_) (λcs e=>?_)
  ·subst e; cases h; simp[one] at h1
  ·subst e; cases h; simp[one] at h1
theorem Z9.killB {v:Value} {d:D} (h:Z9 w G β v d) (b:Nat):Z9 w G (upd β b none) v (d.killB b):=by
 by_cases ha:∃ cs,d=.agg cs
 ·obtain⟨cs,rfl⟩:=ha
  obtain⟨vs,rfl,hn,hone,hrep⟩:=Jd h
  refine .agg vs _ (by simpa using hn) hone (λj v d hv hd=>?_)
  rw[List.getElem?_map] at hd
  obtain⟨d',hd',rfl⟩:=Xt hd
  exact(hrep j v d' hv hd').killE (hone j v hv) b
 ·by_cases ht:∃ cs,d=.tup cs
  ·obtain⟨cs,rfl⟩:=ht
   exact .undef v
  ·have:=h.killA b (λcs e=>ha ⟨cs,e⟩) (λcs e=>ht ⟨cs,e⟩)
   cases d <;> first|exact this|exact absurd ⟨_,rfl⟩ ha|exact absurd ⟨_,rfl⟩ ht
theorem Z9.kill {v:Value} {d:D} (h:Z9 w G β v d) (b:Nat):Z9 w G (upd β b none) v (d.kill b):=by
 cases d with
 | tup ds=>
  cases h with
  | tup vs _ hn hrep=>
   refine .tup vs _ (by simpa using hn) (λj v d hv hd=>?_)
   rw[List.getElem?_map] at hd
   obtain⟨d',hd',rfl⟩:=Xt hd
   exact(hrep j v d' hv hd').killB b
 | _=>exact h.killB b
theorem Za.drop (h:Za Γ σ a w G β) (b:Nat):Za Γ (σ.drop b) a w G (upd β b none):=by
 refine⟨h.defers,h.size,λt=>(h.tmps t).kill b,λu k hu=>?_,λu x hu=>?_,λu u' c s s' hu hu'=>?_,h.kept,h.marks,h.fresh,h.big,h.glob⟩
 ·simp only[S.drop] at hu
  split at hu
  ·cases hu
  ·rename_i hub
   obtain⟨k',hk',rfl⟩:=Xt hu
   have hsz:(Blk.kill b k').sz=k'.sz:=by unfold Blk.kill; split <;> rfl
   rcases h.heap u k' hk' with ⟨h0,h1⟩|⟨c,h0,hB⟩
   ·refine .inl ⟨by simp[upd,hub,h0],?_⟩
    unfold Blk.kill; split
    ·exact h1
    ·simp[h1.1,h1.2]
   ·refine .inr ⟨c,by simp[upd,hub,h0,hsz],?_⟩
    obtain⟨own,pin,ty,frz,top,dat,hsz',vs,e,fr,h1,h2,h3,h4⟩:=hB
    unfold Blk.kill
    split
    ·rename_i hp
     exact ⟨own,pin,ty,frz,top,dat,hsz',vs,e,fr,h1,h2,h3,λi j r d hr hd=>by
      obtain⟨v,a1,a2,a3⟩:=h4 i j r d hr hd
      exact⟨v,a1,a2,a3.of_dat (λ_ _ _=>rfl) (λ_=>Nat.le_refl _) (dat hp i j r d hr hd)⟩⟩
    ·rename_i hp
     refine⟨own,pin,ty,frz,by simpa using top,λhp'=>absurd hp' hp,λi r hr=>?_,vs,e,fr,h1,h2,by simpa using h3,λi j r d hr hd=>?_⟩
     ·simp only[List.getElem?_map] at hr
      obtain⟨r',hr',rfl⟩:=Xt hr
      simpa using hsz' i r' hr'
     ·simp only[List.getElem?_map] at hr
      obtain⟨r',hr',rfl⟩:=Xt hr
      rw[List.getElem?_map] at hd
      obtain⟨d',hd',rfl⟩:=Xt hd
      obtain⟨v,a1,a2,a3⟩:=h4 i j r' d' hr' hd'
      exact⟨v,a1,a2,a3.killE a2 b⟩
 ·simp only[S.drop]
  unfold upd at hu
  split at hu
  ·cases hu
  ·rename_i hub
   obtain⟨k,hk⟩:=h.dom u x hu
   exact⟨_,by rw[if_neg hub,hk]; rfl⟩
 ·unfold upd at hu hu'
  split at hu
  ·cases hu
  ·split at hu'
   ·cases hu'
   ·exact h.inj u u' c s s' hu hu'
structure Lf (Γ:Ctx) (G:Nat→Nat) (c:Nat) (w w':World):Prop where
 os:w'.os=w.os
 tape:w'.tape=w.tape
 output:w'.output=w.output
 size:w'.heap.size=w.heap.size
 other:∀ k,k≠c→w'.heap[k]?=w.heap[k]?
 own:Γ.B≤c∨Γ.X c
 at_:∃ vs e fr vs',w.heap[c]?=some (.cells vs e fr)∧w'.heap[c]?=some (.cells vs' e fr)∧vs'.size=vs.size∧∀ o,o<G c→vs'[o]?=vs[o]?
theorem Lf.cells {c:Nat} (h:Lf Γ G c w w'):∀ b o,o<G b→w'.cell? ⟨b,o,none⟩=w.cell? ⟨b,o,none⟩:=λb o ho=>by
 by_cases hb:b=c
 ·subst hb
  obtain⟨vs,e,fr,vs',h1,h2,h3,h4⟩:=h.at_
  rw[Uo,Uo,h1,h2]
  exact h4 o ho
 ·exact Kx (h.other b hb) o
theorem Lf.same {c:Nat} (h:Lf Γ G c w w'):J8 w w':=λk vs e fr hk=>by
 by_cases hb:k=c
 ·subst hb
  obtain⟨vs1,e1,fr1,vs',h1,h2,h3,h4⟩:=h.at_
  rw[h1] at hk; cases hk
  exact⟨vs',_,h2,h3⟩
 ·exact⟨vs,fr,by rw[h.other k hb]; exact hk,rfl⟩
theorem Lf.kept {c:Nat} (h:Lf Γ G c w w'):Jf Γ.B Γ.X w w':=⟨h.os,h.tape,h.output,by rw[h.size]; exact Nat.le_refl _,λk hk hx=>h.other k (λe=>by subst e; exact h.own.elim (λh1=>by omega) hx),h.same⟩
theorem Za.scratch (h:Za Γ σ a w G β) {c:Nat} (hc:∀ b' s,β b'≠some (c,s)) (hw:Lf Γ G c w w'):Za Γ σ a w' G β:=by
 refine⟨h.defers,h.size,λt=>(h.tmps t).mono hw.cells (λ_=>Nat.le_refl _) (λ_ _ h=>h) hw.same,λb blk hblk=>?_,h.dom,h.inj,h.kept.trans hw.kept,h.marks,λk hk=>h.fresh k (by rw[← hw.size]; exact hk),by rw[hw.size]; exact h.big,h.glob.mono hw.cells (λ_=>Nat.le_refl _)⟩
 rcases h.heap b blk hblk with h0|⟨k,h0,hB⟩
 ·exact .inl h0
 ·exact .inr ⟨k,h0,hB.mono hw.cells (λ_=>Nat.le_refl _) rfl (λ_ _ h=>h) hw.same (hw.other k (λe=>hc b blk.sz (e ▸ h0)))⟩
theorem Za.write (h:Za Γ σ a w G β) {b c:Nat} {blk blk':Blk} (hb:σ.heap b=some blk) (hβ:β b=some (c,blk.sz)) (hw:Lf Γ G c w w') (hsz:blk'.sz=blk.sz) (hB':Va w' G β Γ c blk'):
  Za Γ (σ.setB b (some blk')) a w' G β:=by
 refine⟨h.defers,h.size,λt=>(h.tmps t).mono hw.cells (λ_=>Nat.le_refl _) (λ_ _ h=>h) hw.same,λu k hu=>?_,λu x hu=>?_,h.inj,h.kept.trans hw.kept,h.marks,λk hk=>h.fresh k (by rw[← hw.size]; exact hk),by rw[hw.size]; exact h.big,h.glob.mono hw.cells (λ_=>Nat.le_refl _)⟩
 ·simp only[S.setB] at hu
  split at hu
  ·cases hu; rename_i hub; subst hub
   exact .inr ⟨c,by rw[hsz]; exact hβ,hB'⟩
  ·rename_i hub
   rcases h.heap u k hu with h0|⟨k',h0,hB⟩
   ·exact .inl h0
   ·exact .inr ⟨k',h0,hB.mono hw.cells (λ_=>Nat.le_refl _) rfl (λ_ _ h=>h) hw.same (hw.other k' (λe=>hub (h.inj u b c k.sz blk.sz (e ▸ h0) hβ)))⟩
 ·simp only[S.setB]
  split
  ·exact⟨_,rfl⟩
  ·exact h.dom u x hu
def Blk.freeze (k:Blk):Blk:={ k with frz:=k.rows.length }
def S.freeze (σ:S) (b:Nat):S:={ σ with heap:=λu=>if u=b then (σ.heap u).map Blk.freeze else σ.heap u }
theorem Za.freeze (h:Za Γ σ a w G β) (b:Nat):∃ G',Za Γ (σ.freeze b) a w G' β∧(∀ k,G k≤G' k)∧
  ∀ blk c,σ.heap b=some blk→β b=some (c,blk.sz)→blk.rows.length*blk.sz≤G' c:=by
 cases hb:σ.heap b with
 | none=>
  refine⟨G,⟨h.defers,h.size,h.tmps,λu k hu=>?_,λu x hu=>?_,h.inj,h.kept,h.marks,h.fresh,h.big,h.glob⟩,λ_=>Nat.le_refl _,λblk c hblk=>by cases hblk⟩
  ·simp only[S.freeze] at hu
   split at hu
   ·subst_vars; rw[hb] at hu; cases hu
   ·exact h.heap u k hu
  ·obtain⟨k,hk⟩:=h.dom u x hu
   simp only[S.freeze]
   split
   ·subst_vars; rw[hb] at hk; cases hk
   ·exact⟨k,hk⟩
 | some blk=>
  rcases h.heap b blk hb with ⟨h0,h1⟩|⟨c,h0,hB⟩
  ·refine⟨G,⟨h.defers,h.size,h.tmps,λu k hu=>?_,λu x hu=>?_,h.inj,h.kept,h.marks,h.fresh,h.big,h.glob⟩,λ_=>Nat.le_refl _,λblk' c hblk hc=>by rw[h0] at hc; cases hc⟩
   ·simp only[S.freeze] at hu
    split at hu
    ·rename_i hub; subst hub; rw[hb] at hu; cases hu; exact .inl ⟨h0,h1.1,by simp[Blk.freeze,h1.1]⟩
    ·exact h.heap u k hu
   ·obtain⟨k,hk⟩:=h.dom u x hu
    simp only[S.freeze]
    split
    ·exact⟨_,by rw[hk]; rfl⟩
    ·exact⟨k,hk⟩
  ·have hGG:∀ k,G k≤(if k=c then max (G c) (blk.rows.length*blk.sz) else G k):=λk=>by
    split
    ·subst_vars; exact Nat.le_max_left _ _
    ·exact Nat.le_refl _
   refine⟨λk=>if k=c then max (G c) (blk.rows.length*blk.sz) else G k,⟨h.defers,h.size,λt=>(h.tmps t).mono (λ_ _ _=>rfl) hGG (λ_ _ h=>h) (.refl w),λu k hu=>?_,λu x hu=>?_,h.inj,h.kept,λk hk hx=>?_,λk hk=>?_,h.big,h.glob.mono (λ_ _ _=>rfl) hGG⟩,hGG,λblk' c' hblk hc=>?_⟩
   ·simp only[S.freeze] at hu
    split at hu
    ·rename_i hub; subst hub; rw[hb] at hu; cases hu
     refine .inr ⟨c,h0,?_⟩
     obtain⟨own,pin,ty,frz,top,dat,hsz',vs,e,fr,h1,h2,h3,h4⟩:=hB
     refine⟨own,pin,ty,λo ho=>?_,Nat.le_refl _,dat,hsz',vs,e,fr,h1,h2,h3,λi j r d hr hd=>?_⟩
     ·simp only[if_true] at ho
      show o<blk.rows.length*blk.sz
      rcases Nat.lt_or_ge o (blk.rows.length*blk.sz) with h'|h'
      ·exact h'
      ·have:=frz o (by omega)
       have:=Nat.mul_le_mul_right blk.sz top
       omega
     ·obtain⟨v,a1,a2,a3⟩:=h4 i j r d hr hd
      exact⟨v,a1,a2,a3.mono (λ_ _ _=>rfl) hGG (λ_ _ h=>h) (.refl w)⟩
    ·rename_i hub
     rcases h.heap u k hu with h0'|⟨k',h0',hB'⟩
     ·exact .inl h0'
     ·refine .inr ⟨k',h0',hB'.mono (λ_ _ _=>rfl) hGG ?_ (λ_ _ h=>h) (.refl w) rfl⟩
      have:k'≠c:=λe=>hub (h.inj u b c k.sz blk.sz (e ▸ h0') h0)
      simp[this]
   ·obtain⟨k,hk⟩:=h.dom u x hu
    simp only[S.freeze]
    split
    ·exact⟨_,by rw[hk]; rfl⟩
    ·exact⟨k,hk⟩
   ·have:k≠c:=λe=>by subst e; exact hB.own.elim (λh1=>by omega) hx
    simp[this,h.marks k hk hx]
   ·have:k≠c:=λe=>by subst e; have:=hB.lt; omega
    simp[this,h.fresh k hk]
   ·cases hblk; rw[h0] at hc; cases hc
    simp; omega
end Go.Den
namespace Go.Den
open Go.RowKit
structure IO where
 names:List Nat
 fresh:List (Nat×Nat):=[]
 nils:List (Nat×Nat):=[]
 bs:List Blk
 bs':List Blk
 /-- what is known to have no room stays known so -/
 kp:Bool:=false
structure Yt where
 ans:Ans:= .go
 /-- the arguments of a call as data; the rows of a block behind a write -/
 args:List D:=[]
 rows:Option (List (List D)):=none
 row:Option (List D):=none
 io:Option IO:=none
 /-- a box that is never written; a variable whose type is kept in mind -/
 ro:Bool:=false
 /-- a slice literal whose type is kept in mind -/
 mt:Bool:=false
def Ji (P:Program) (f:FuncId):Bool:=
 match P.funcs[f]? with
 | some fn => !(fn.name == "runtime.NumGoroutine") && fn.body.isSome
 | none=>false
structure Lv (w:World) (G:Nat→Nat) (vs:Array Value) (ds:List D):Prop where
 size:ds.length=vs.size
 rep:∀ (j:Nat) v d,vs[j]?=some v→ds[j]?=some d→Z9 w G (λ_=>none) v d
def Zb (P:Program) (f:FuncId) (ds:List D) (r:D):Prop:=
 Ji P f=true∧∀ (w:World) (G:Nat→Nat) (vs:Array Value),(∀ c,w.heap.size≤c→G c=0)→Mo w G→Lv w G vs ds→
  Calls P f vs w λe w'=>∃ v G',e=.returned v∧Below w.heap.size w w'∧(∀ c,c<w.heap.size→G' c=G c)∧(∀ c,w'.heap.size≤c→G' c=0)∧Z9 w' G' (λ_=>none) v r
def ExtSpec (P:Program) (f:FuncId) (ds:List D) (r:D):Prop:=
 ∀ (w:World) (G:Nat→Nat) (vs:Array Value),Lv w G vs ds→∃ v,(callFunc f vs).run P w=.ok (.value v) w∧Z9 w G (λ_=>none) v r
def Z2t (P:Program) (f:FuncId) (ds:List D) (r:D):Prop:=Zb P f ds r∨ExtSpec P f ds r
def Wx (σ:S):D→Option (D×List Nat×Prop)
 | .lsl b lo n=>
  match σ.heap b with
  | some blk=>match blk.pure with
   | true=>some (.sl false ((blk.rows.drop lo).take n),[b],lo+n≤blk.rows.length)
   | false=>none
  | none=>none
 | .lptr b i o=>
  match σ.heap b with
  | some blk=>
   match blk.rows[i]? with
   | some r=>match r.all D.dat with
    | true=>some (.ptr (r.drop o),[b],True)
    | false=>none
   | none=>none
  | none=>none
 | .sl _ rows=>some (.sl false rows,[],True)
 | d=>match d.dat with
  | true=>some (d,[],True)
  | false=>none
def Jr (σ:S):List D→Option (List D×List Nat×Prop)
 | [] =>some ([],[],True)
 | d::r=>
  match Wx σ d,Jr σ r with
  | some (d',l,p),some (r',l',p')=>some (d'::r',l++l',p∧p')
  | _,_=>none
def Jw (σ:S) (d:D):Option (D×List Nat×Prop):=
 match d with
 | .agg cs=>
  match Jr σ cs with
  | some (cs',l,p)=>some (.agg cs',l,p)
  | none=>none
 | d=>Wx σ d
def Vi (σ:S):List D→Option (List D×List Nat×Prop)
 | [] =>some ([],[],True)
 | d::r=>
  match Jw σ d,Vi σ r with
  | some (d',l,p),some (r',l',p')=>some (d'::r',l++l',p∧p')
  | _,_=>none
def S.freezeL (σ:S) (l:List Nat):S:=l.foldl S.freeze σ
def Lh (P:Program) (t:TypeId):Option (List D):=
 match P.info? t with
 | some i=>
  match i.zero with
  | some v=>match v.cells.toList.all one with
   | true=>some (v.cells.toList.map Z0u)
   | false=>none
  | none=>none
 | none=>none
def Zj9:D→D
 | .sl _ rows=> .sl false rows
 | d=>d
def Z6f (P:Program) (t:TypeId):Option (List D):=match Lh P t with
 | some z=>some (z.map Zj9)
 | none=>none
def cellsOf:D→Option (List D)
 | .agg cs=>some cs
 | .tup _=>none
 | .undef=>none
 | d=>some [d]
def Ud (cells:List D) (off:Nat) (dc:List D):List D:=cells.take off++dc++cells.drop (off+dc.length)
def Mk (place:Nat→Option (Nat×Nat)) (cells:List D):List (Nat×D)→Option (List D)
 | [] =>some cells
 | (i,d)::Qf=>
  match place i,cellsOf d with
  | some (off,size),some dc=>match dc.length==size&&Nat.ble (off+dc.length) cells.length with
   | true=>Mk place (Ud cells off dc) Qf
   | false=>none
  | _,_=>none
def Z94 (P:Program) (t:TypeId):Option (Nat→Option (Nat×Nat)):=
 match P.underlying t with
 | some (.struct fs)=>
  match fs.toList.mapM (λf=>(P.info? f.type).map λi=>(f.offset,i.size)) with
  | some places=>some λi=>places[i]?
  | none=>none
 | some (.array _ e)=>
  match P.info? e with
  | some ie=>some λi=>some (i*ie.size,ie.size)
  | none=>none
 | _=>none
def Jg (sz:Nat):Nat→List D→List (List D)
 | 0,_=>[]
 | n+1,cs=>cs.take sz::Jg sz n (cs.drop sz)
def Xe (σ:S) (o:Oper):Bool:=match o.dst with|some t=>Nat.blt t σ.n|none=>true
def L1 (σ:S):D→Option (List (List D)×Prop)
 | .sl _ rows=>some (rows,True)
 | .lsl b lo n=>
  match σ.heap b with
  | some blk=>match blk.pure with
   | true=>some ((blk.rows.drop lo).take n,lo+n≤blk.rows.length)
   | false=>none
  | none=>none
 | _=>none
def Z0g (P:Program) (σ:S) (t t':TypeId) (x:D):Option (List (List D)×Prop):=
 match x with
 | .str s=>match P.underlying t' with
  | some .string=>some (s.map λb=>[.int .u8 b.toNat],True)
  | _=>none
 | x=>match t==t' with
  | true=>L1 σ x
  | false=>none
def Kl:List (List D)→Option (List UInt8)
 | [] =>some []
 | [.int .u8 n]::r=>
  match Kl r with
  | some s=>some (UInt8.ofNat n.toNat::s)
  | none=>none
 | _=>none
def tyIs (k:Blk) (e:TypeId):Bool:=match k.ty with
 | some t=>Nat.beq t e
 | none=>false
def Z8z (P:Program) (σ:S) (src dst:TypeId) (b:Nat):Bool:=
 match σ.heap b with
 | some k=>match k.ty with
  | some e=>match P.underlying src,P.underlying dst with
   | some (.pointer t),some .unsafePointer=>match P.info? t with
    | some j=>!Nat.beq j.size 0&&Nat.blt 0 (k.rows.length*k.sz)
    | none=>false
   | some .unsafePointer,some (.pointer u)=>match P.info? u with
    | some _=>Nat.blt 0 (P.cellsOf e)&&Nat.ble (P.cellsOf e) (k.rows.length*k.sz)&&liesAt P P.depth e 1 0 u 1
    | none=>false
   | _,_=>false
  | none=>false
 | none=>false
def Z28 (P:Program) (σ:S) (src dst:TypeId) (x:D):Bool:=
 match x with
 | .lsl b _ n=>match σ.heap b,P.underlying dst with
  | some k,some (.slice e)=>match P.underlying e with
   | some (.int .u8)=>Nat.beq src dst&&Nat.blt 0 n&&k.ty.isSome
   | _=>false
  | _,_=>false
 | _=>false
def Z26 (P:Program) (σ:S) (o:Oper) (src dst:TypeId) (x:D) (told:Yt):Option (S×Prop):=
 match x with
 | .lptr b 0 0=>match Z8z P σ src dst b&&Xe σ o with
  | true=>some (σ.put o.dst (.lptr b 0 0),True)
  | false=>none
 | x=>
 match Z28 P σ src dst x&&Xe σ o with
 | true=>some (σ.put o.dst x,True)
 | false=>
 match P.underlying dst,Ju P src with
 | some .string,some e=>
  match P.underlying e,Wr P e with
  | some (.int .u8),some 1=>
   match L1 σ x,told.ans,Xe σ o with
   | some (rows,q),.val (.str s),true=>some (σ.put o.dst (.str s),q∧Kl rows=some s)
   | _,_,_=>none
  | _,_=>none
 | _,_=>none
def Ux (σ:S) (o:Oper) (blk:Blk) (v:Nat→D) (p:Prop):Option (S×Prop):=
 match o.dst with
 | some t=>
  match σ.heap t with
  | some _=>none
  | none=>match Nat.blt t σ.n with
   | true=>some ((σ.setB t (some blk)).put (some t) (v t),p)
   | false=>none
 | none=>none
def tyK (a:Option TypeId) (e:TypeId):Option TypeId:=match a with
 | some t=>match Nat.beq t e with
  | true=>some t
  | false=>none
 | none=>none
theorem Y0h {a:Option TypeId} {e t:TypeId} (h:tyK a e=some t):a=some t∧e=t:=by
 unfold tyK at h
 split at h
 ·split at h
  ·rename_i hb; cases h; exact⟨rfl,(Nat.eq_of_beq_eq_true hb).symm⟩
  ·cases h
 ·cases h
def tyM (m:Bool) (a:Option TypeId) (e:TypeId):Option TypeId:=match m with
 | true=>tyK a e
 | false=>none
theorem Zhg {m:Bool} {a:Option TypeId} {e t:TypeId} (h:tyM m a e=some t):a=some t∧e=t:=by
 unfold tyM at h
 split at h
 ·exact Y0h h
 ·cases h
def Z1i (P:Program) (σ:S) (o:Oper) (t t':TypeId) (s x:D) (told:Yt):Option (S×Prop):=
 match Ju P t with
 | none=>none
 | some e=>
  match P.info? e,Z0g P σ t t' x with
  | some ie,some (news,q)=>
   match ie.zero with
   | none=>none
   | some z=>match z.cells.size==ie.size&&Nat.blt 0 ie.size with
    | false=>none
    | true=>
    match s with
    | .lsl b 0 n=>
     match σ.heap b with
     | some blk=>match blk.pure&&blk.sz==ie.size&&Xe σ o with
      | true=>
       let rows:=told.rows.getD (blk.rows++news)
       some (((σ.drop b).setB b (some { blk with rows:=rows,pin:=none,ty:=tyM told.mt blk.ty e })).put o.dst (.lsl b 0 rows.length),
        q∧n=blk.rows.length∧(∀ r∈news,r.length=ie.size)∧blk.rows++news=rows∧rows.length≤9223372036854775807∧rows.length*ie.bytes≤140737488355328)
      | false=>none
     | none=>none
    | .lsk false b lo n=>
     match σ.heap b with
     | some blk=>match blk.pure&&blk.sz==ie.size&&Xe σ o&&news.length==1 with
      | true=>
       let rows:=told.rows.getD (blk.rows++news)
       some (((σ.drop b).setB b (some { blk with rows:=rows,pin:=none,ty:=tyM told.mt blk.ty e })).put o.dst (.lsl b lo (n+1)),
        q∧lo+n=blk.rows.length∧(∀ r∈news,r.length=ie.size)∧blk.rows++news=rows)
      | false=>none
     | none=>none
    | .lsk true b lo n=>
     match σ.heap b with
     | some blk=>match blk.pure&&blk.sz==ie.size&&Xe σ o&&news.length==1 with
      | true=>
       let rows:=told.rows.getD (blk.rows.drop lo++news)
       some (((σ.drop b).setB b (some { sz:=ie.size,rows,frz:=0,pure:=true })).put o.dst (.lsl b 0 (n+1)),
        q∧lo+n=blk.rows.length∧(∀ r∈news,r.length=ie.size)∧blk.rows.drop lo++news=rows∧n+1≤9223372036854775807∧(n+1)*ie.bytes≤140737488355328)
      | false=>none
     | none=>none
    | .sl true olds=>
     let rows:=told.rows.getD (olds++news)
     Ux σ o { sz:=ie.size,rows,frz:=0,pure:=true } (λt=> .lsl t 0 rows.length)
      (q∧(olds=[]∨news≠[])∧(∀ r∈olds,r.length=ie.size)∧(∀ r∈news,r.length=ie.size)∧olds++news=rows∧rows.length≤9223372036854775807∧rows.length*ie.bytes≤140737488355328)
    | _=>none
  | _,_=>none
def Z0d (P:Program) (σ:S) (o:Oper) (t:TypeId) (x:D) (v:D) (told:Yt):Option (S×Prop):=
 match x with
 | .lptr b i off=>
  match σ.heap b,cellsOf v,Wr P t with
  | some blk,some cs,some sz=>match cs.length==sz&&(!blk.pure||cs.all D.dat)&&Xe σ o with
   | true=>
    match told.row with
    | some r=>
     let rows:=told.rows.getD (blk.rows.set i (Ud r off cs))
     some ((σ.setB b (some { blk with rows:=rows })).put o.dst .undef,blk.frz≤i∧blk.rows[i]?=some r∧off+cs.length≤r.length∧blk.rows.set i (Ud r off cs)=rows)
    | none=>
     match blk.rows[i]? with
     | some r=>
      let rows:=told.rows.getD (blk.rows.set i (Ud r off cs))
      some ((σ.setB b (some { blk with rows:=rows })).put o.dst .undef,blk.frz≤i∧off+cs.length≤r.length∧blk.rows.set i (Ud r off cs)=rows)
     | none=>none
   | false=>none
  | _,_,_=>none
 | _=>none
def Lt (told:Yt) (ds:List D):List D:=match told.args with
 | [] =>ds
 | l=>l
def isNoEsc (P : Program) (f : FuncId) : Prop := ∃ fn, P.funcs[f]? = some fn ∧ (fn.name == "runtime.NumGoroutine") = false ∧ fn.body.isNone = true ∧ Extern.findNext fn = none ∧ Extern.find fn = some Extern.AbiNoEscape.same
def Z35 (P:Program) (σ:S) (o:Oper) (f:FuncId) (args:List D) (told:Yt):Option (S×Prop):=
 match told.ans with
 | .val r=>
  match Vi σ args with
  | some (ds,l,p)=>match Xe σ o with
   | true=>
    match r.scalar with
    | true=>some (σ.put o.dst r,p∧ds=(Lt told ds)∧Z2t P f (Lt told ds) r)
    | false=>some ((σ.freezeL l).put o.dst r,p∧ds=(Lt told ds)∧Z2t P f (Lt told ds) r)
   | false=>none
  | none=>none
 | .go=>match args,Xe σ o with
  | [.lptr b i off],true=>some (σ.put o.dst (.lptr b i off),isNoEsc P f)
  | _,_=>none
 | _=>none
def unsD (P:Program) (σ:S) (o:Oper) (pt:TypeId) (x n:D) (told:Yt):Option (S×Prop):=
 match x,n with
 | .lptr b 0 0,.int .i64 n=>
  match σ.heap b,P.underlying pt,told.ans with
  | some k,some (.pointer e),.val (.str s)=>match Nat.beq k.sz 1&&Nat.beq (P.cellsOf e) 1&&tyIs k e&&Xe σ o with
   | true=>some (((σ.drop b).setB b (some { sz:=1,rows:=[],frz:=0,pure:=true })).put o.dst (.str s),Kl k.rows=some s∧n=(s.length:Int)∧s≠[]∧s.length≤9223372036854775807)
   | false=>none
  | _,_,_=>none
 | _,_=>none
def Ve:Nat→List D→List (Nat×D)
 | _,[] =>[]
 | i,d::r=>(i,d)::Ve (i+1) r
def V9 (b:Nat):List Nat→Option Nat
 | [] =>none
 | x :: r=>match b==x with
  | true=>some 0
  | false=>match V9 b r with
   | some k=>some (k+1)
   | none=>none
def inA (ρ:List Nat):D→Option D
 | .lptr b i o=>match V9 b ρ with
  | some k=>some (.lptr k i o)
  | none=>none
 | .lsl b lo n=>match V9 b ρ with
  | some k=>some (.lsl k lo n)
  | none=>none
 | .undef=>some .undef
 | d=>match d.dat with
  | true=>some d
  | false=>none
def inL (ρ:List Nat):List D→Option (List D)
 | [] =>some []
 | d::r=>match inA ρ d,inL ρ r with
  | some x,some y=>some (x::y)
  | _,_=>none
def inR (ρ:List Nat):List (List D)→Option (List (List D))
 | [] =>some []
 | d::r=>match inL ρ d,inR ρ r with
  | some x,some y=>some (x::y)
  | _,_=>none
def inB (ρ:List Nat) (pin:Option Nat) (k:Blk):Option Blk:=
 match k.pure with
 | true=>some { k with pin:=pin }
 | false=>match inR ρ k.rows with
  | some rows=>some { k with rows:=rows,pin:=pin }
  | none=>none
def Jk (σ:S) (ρ:List Nat) (mark:Option Nat→Nat→Option Nat):Nat→List Nat→Option (List Blk)
 | _,[] =>some []
 | j,b::r=>
  match σ.heap b with
  | some k=>
   match inB ρ (mark k.pin j) k,Jk σ ρ mark (j+1) r with
   | some x,some y=>some (x::y)
   | _,_=>none
  | none=>none
def inRef (ρ:List Nat):D→Option D
 | .lptr b i o=>match V9 b ρ with
  | some k=>some (.lptr k i o)
  | none=>none
 | .lsl b lo n=>match V9 b ρ with
  | some k=>some (.lsl k lo n)
  | none=>none
 | .undef=>some .undef
 | _=>none
def Z1m (σ:S):D→Option (D×List Nat×Prop)
 | .sl c rows=>some (.sl c rows,[],True)
 | d=>Wx σ d
def Z20 (σ:S):List D→Option (List D×List Nat×Prop)
 | [] =>some ([],[],True)
 | d::r=>
  match Z1m σ d,Z20 σ r with
  | some (d',l,p),some (r',l',p')=>some (d'::r',l++l',p∧p')
  | _,_=>none
def Z4r (kp:Bool) (σ:S) (d:D):Option (D×List Nat×Prop):=
 match kp with
 | false=>Jw σ d
 | true=>
  match d with
  | .agg cs=>
   match Z20 σ cs with
   | some (cs',l,p)=>some (.agg cs',l,p)
   | none=>none
  | d=>Z1m σ d
def U0 (kp:Bool) (σ:S) (ρ:List Nat):List D→Option (List D×List Nat×Prop)
 | [] =>some ([],[],True)
 | d :: r=>
  match inRef ρ d with
  | some x=>
   match U0 kp σ ρ r with
   | some (y,l,q)=>some (x::y,l,q)
   | none=>none
  | none=>
   match Z4r kp σ d,U0 kp σ ρ r with
   | some (x,l,p),some (y,l',q)=>some (x::y,l++l',p∧q)
   | _,_=>none
def outA (ρ:List Nat):D→D
 | .lptr k i o=>match ρ[k]? with
  | some b=> .lptr b i o
  | none=> .undef
 | .lsl k lo n=>match ρ[k]? with
  | some b=> .lsl b lo n
  | none=> .undef
 | .agg _|.tup _|.clo .. |.lsk .. => .undef
 | d=>d
def outE (ρ:List Nat):D→D
 | .agg cs=> .agg (cs.map (outA ρ))
 | d=>outA ρ d
def outD (ρ:List Nat):D→D
 | .tup vs=> .tup (vs.map (outE ρ))
 | d=>outE ρ d
def Mq (ρ:List Nat) (pin:Option Nat) (k:Blk):Blk:=
 match k.pure with
 | true=>{ k with pin:=pin }
 | false=>{ k with rows:=k.rows.map (·.map (outA ρ)),pin:=pin }
def Z18 (j:Nat) (k:Blk):Bool:=
 match k.pin with
 | some i=>match i==j with
  | true=>match k.rows with
   | _::_=>true
   | [] =>false
  | false=>false
 | none=>false
def Ui (σ:S) (ρ:List Nat):Nat→List Nat→List Blk→List Blk
 | j,b::r,k::l=>Mq ρ (match Z18 j k with
  | true=>(match σ.heap b with
   | some k0=>(match k0.rows with
    | _::_=>k0.pin
    | [] =>none)
   | none=>none)
  | false=>none) k::Ui σ ρ (j+1) r l
 | _,_,_=>[]
def Kn:Nat→List Nat→List Blk→List Nat
 | j,b::r,k::l=>match Z18 j k with
  | true=>Kn (j+1) r l
  | false=>b::Kn (j+1) r l
 | _,_,_=>[]
def S.dropL (σ:S):List Nat→S
 | [] =>σ
 | b::l=>(σ.drop b).dropL l
def S.setL (σ:S) (ρ:List Nat) (bs:List Blk):S:={ σ with heap:=λu=>match V9 u ρ with
 | some k=>bs[k]?
 | none=>σ.heap u }
def S.nilL (σ:S):List (Nat×Nat)→Option S
 | [] =>some σ
 | (b,sz)::l=>match σ.heap b with
  | none=>(σ.setB b (some { sz,rows:=[],frz:=0,pure:=true })).nilL l
  | some _=>none
def Zoz:List (Nat×Nat)→Nat→Option Nat
 | [],_=>none
 | (k,b)::r,i=>match i==k with
  | true=>some b
  | false=>Zoz r i
def Jt (l:List (Nat×Nat)):Nat→List D→List D
 | _,[] =>[]
 | j,d::r=>(match Zoz l j with
  | some b=>(match d with
   | .sl true [] => .lsl b 0 0
   | d=>d)
  | none=>d)::Jt l (j+1) r
def W2:Nat→List Blk→List (Nat×Blk)
 | _,[] =>[]
 | j,k::r=>(j,k)::W2 (j+1) r
def Ut:List Nat→Bool
 | [] =>true
 | x::r=>(match V9 x r with
  | some _=>false
  | none=>true)&&Ut r
def Ls:List Blk→List Blk→Bool
 | [],[] =>true
 | k::l,k'::l'=>k.sz==k'.sz&&k.frz==0&&Ls l l'
 | _,_=>false
def Vk (P:Program) (f:FuncId) (ds:List D) (bs:List Blk) (r:D) (bs':List Blk):Prop:=
 Ji P f=true∧∀ (Γ:Ctx) (vs:Array Value) (w:World) (G:Nat→Nat) (β:Nat→Option (Nat×Nat)),
  Za Γ (mkS ds.length (Ve 0 ds) (W2 0 bs)) { tmps:=vs,defers:=[] } w G β→
  Calls P f vs w λe w'=>∃ v G' β',e=.returned v∧Za Γ (mkS 1 [(0,r)] (W2 0 bs')) { tmps:=#[v],defers:=[] } w' G' β'
def Lk (P:Program) (f:FuncId) (ds:List D) (bs:List Blk) (R:D→List Blk→Prop):Prop:=
 Ji P f=true∧∀ (Γ:Ctx) (vs:Array Value) (w:World) (G:Nat→Nat) (β:Nat→Option (Nat×Nat)),
  Za Γ (mkS ds.length (Ve 0 ds) (W2 0 bs)) { tmps:=vs,defers:=[] } w G β→
  Calls P f vs w λe w'=>∃ v G' β' r bs',R r bs'∧e=.returned v∧Za Γ (mkS 1 [(0,r)] (W2 0 bs')) { tmps:=#[v],defers:=[] } w' G' β'
def funA:D→Option (FuncId×List D)
 | .fn f=>some (f,[])
 | .clo f bs=>some (f,bs.map λb=> .lptr b 0 0)
 | _=>none
def Z0r (bs:List Blk) (j:Nat):Option Nat:=
 match bs[j]? with
 | some k=>match k.pin with
  | some i=>match i==j with
   | true=>some j
   | false=>none
  | none=>none
 | none=>none
def Z1g (P:Program) (σ:S) (o:Oper) (f:FuncId) (args:List D) (told:Yt) (io:IO):Option (S×Prop):=
 match told.ans with
 | .val r=>
  match σ.nilL io.fresh with
  | some σ0 =>
   match U0 io.kp σ0 io.names (Jt io.nils 0 args) with
   | some (ds,l,p)=>
    match Jk (σ0.freezeL l) io.names (λ_ j=>Z0r io.bs j) 0 io.names with
    | some bs=>match Xe σ o&&Ut io.names&&Ls io.bs io.bs' with
     | true=>some (((((σ0.freezeL l).dropL (Kn 0 io.names io.bs')).setL io.names (Ui (σ0.freezeL l) io.names 0 io.names io.bs'))).put o.dst (outD io.names r),
       p∧ds=(Lt told ds)∧bs=io.bs∧Vk P f (Lt told ds) io.bs r io.bs')
     | false=>none
    | none=>none
   | none=>none
  | none=>none
 | _=>none
def tyR (b:Bool) (e:TypeId):Option TypeId:=match b with
 | true=>some e
 | false=>none
def Vt (P : Program) (σ:S) (o:Oper) (told:Yt):Option (S×Prop):=
 match o.op with
 | .alloc e=>
  match Lh P e with
  | some cs=>Ux σ o { sz:=cs.length,rows:=[cs],frz:=0,pure:=false,ty:=tyR told.ro e } (λt=> .lptr t 0 0) True
  | none=>none
 | .box _ x=>
  match cellsOf (σ.ev x) with
  | some cs=>match told.ro with
   | true=>(match cs.all D.dat,Xe σ o with
    | true,true=>some (σ.put o.dst (.ptr cs),True)
    | _,_=>none)
   | false=>Ux σ o { sz:=cs.length,rows:=[cs],frz:=0,pure:=false } (λt=> .lptr t 0 0) True
  | none=>none
 | .build t parts=>
  match Lh P t,Z94 P t with
  | some z,some pl=>
   match Mk pl z (parts.toList.map λx=>(x.1,σ.ev x.2)) with
   | some cs=>match Xe σ o with
    | true=>some (σ.put o.dst (.agg cs),True)
    | false=>none
   | none=>none
  | _,_=>none
 | .buildSlice t len parts=>
  match Ju P t with
  | some e=>
   match P.info? e with
   | some ie =>
    match Vi σ (parts.toList.map λx=>σ.ev x.2) with
    | some (ds,l,p)=>
     match Mk (λi=>some (i*ie.size,ie.size)) (List.replicate (len*ie.size) .undef) ((parts.toList.map (·.1)).zip ds) with
     | some cs=>match cs.all D.dat&&Nat.ble (len*ie.size) 16777216&&(Lh P e).isSome with
      | true=>match told.ro with
       | true=>(match Xe σ o with
        | true=>(match told.rows with
         | none=>some ((σ.freezeL l).put o.dst (.sl true (Jg ie.size len cs)),p)
         | some rows=>some ((σ.freezeL l).put o.dst (.sl true rows),p∧Jg ie.size len cs=rows))
        | false=>none)
       | false=>Ux (σ.freezeL l) o { sz:=ie.size,rows:=Jg ie.size len cs,frz:=0,pure:=true,ty:=tyR told.mt e } (λt=> .lsl t 0 len) p
      | false=>none
     | none=>none
    | none=>none
   | none=>none
  | none=>none
 | .makeSlice t l c=>
  match Ju P t,σ.ev l,σ.ev c with
  | some e,.int _ l,.int _ c=>
   match P.info? e,Z6f P e with
   | some ie,some z=>match z.length==ie.size&&z.all D.dat with
    | true=>
     let rows:=told.rows.getD (List.replicate l.toNat z)
     Ux σ o { sz:=ie.size,rows,frz:=0,pure:=true } (λt=> .lsl t 0 rows.length) (0≤l∧l≤c∧(ie.bytes:Int)*c≤281474976710656∧c≤9223372036854775807∧List.replicate l.toNat z=rows)
    | false=>none
   | _,_=>none
  | _,_,_=>none
 | .convert src dst x=>Z26 P σ o src dst (σ.ev x) told
 | .store t x v=>Z0d P σ o t (σ.ev x) (σ.ev v) told
 | .call { callee:= .value f,args,.. }=>
  match σ.ev f with
  | .fn f=>match told.io with
   | none=>Z35 P σ o f (args.toList.map σ.ev) told
   | some io=>Z1g P σ o f (args.toList.map σ.ev) told io
  | _=>none
 | .call { callee:= .builtin .append,args,argTypes }=>
  match args,argTypes with
  | ⟨[s,x]⟩,⟨[t,t']⟩=>Z1i P σ o t t' (σ.ev s) (σ.ev x) told
  | _,_=>none
 | .call { callee:= .builtin .unsafeString,args,argTypes }=>
  match args,argTypes with
  | ⟨[x,n]⟩,⟨[pt,_]⟩=>unsD P σ o pt (σ.ev x) (σ.ev n) told
  | _,_=>none
 | _=>none
def Qe (P:Program) (σ:S) (o:Oper) (told:Yt):Option (S×Prop):=
 match Xi P σ o told.ans with
 | some (d,p)=>match Xe σ o with
  | true=>some (σ.put o.dst d,p)
  | false=>none
 | none=>Vt P σ o told
end Go.Den
namespace Go.Den
open Go.RowKit
variable {P:Program} {Γ:Ctx} {σ:S} {a:Act} {w w':World} {G G':Nat→Nat} {β β':Nat→Option (Nat×Nat)}
def Reach (P:Program) (Γ:Ctx) (o:Oper) (a:Act) (w:World) (σ':S):Prop:=
 ∀ (next:Act→World→Prop) (Q:Exit→Act→World→Prop),(∀ a' w' G' β',Za Γ σ' a' w' G' β'→next a' w')→o.wp P a w next Q
theorem Reach.of_value {o:Oper} {σ':S} {v:Value} (h:(execOp a.eval o).run P w=.ok (.value v) w') (hC:Za Γ σ' (a.put o.dst v) w' G' β'):Reach P Γ o a w σ':=λnext Q hn=>by
 unfold Oper.wp
 rw[h,Oper.upon_value]
 exact hn _ _ _ _ hC
theorem Reach.of_skip {o:Oper} {σ':S} (h:(execOp a.eval o).run P w=.ok .skip w') (hC:Za Γ σ' (a.put o.dst Go.undef) w' G' β'):Reach P Γ o a w σ':=λnext Q hn=>by
 unfold Oper.wp
 rw[h,Oper.upon_skip]
 exact hn _ _ _ _ hC
theorem Uv {o:Oper} (h:Xe σ o=true):∀ t,o.dst=some t→t<σ.n:=λt ht=>by
 unfold Xe at h; rw[ht] at h; exact Nat.le_of_ble_eq_true h
theorem Z42 {s:Sem Value} {v:Value} (h:s.run P w=.ok v w'):(do pure (Next.value (← s)):Sem Next).run P w=.ok (.value v) w':=by simp[h]
theorem Lu (w:World) (x:Obj):Below w.heap.size w (w.alloc x):=(Below.refl _ w).alloc (Nat.le_refl _) x
theorem Z72 (w:World):Below w.heap.size w w.drew:=(Below.refl _ w).drew
theorem L3 (w:World) (x:Obj):(w.alloc x).heap[w.heap.size]?=some x:=by
 show (w.heap.push x)[w.heap.size]?=_
 simp
theorem Za.blk' (h:Za Γ σ a w G β) {b c:Nat} {blk:Blk} (hb:σ.heap b=some blk) {sz:Nat} (hβ:β b=some (c,sz)):Va w G β Γ c blk:=by
 rcases h.heap b blk hb with ⟨h0,-⟩|⟨c',h0,hB⟩
 ·rw[h0] at hβ; cases hβ
 ·rw[h0] at hβ; cases hβ; exact hB
theorem Za.new (h:Za Γ σ a w G β) {t:Nat} {blk:Blk} (hb:σ.heap t=none) {vs:Array Value} {e:TypeId} {fr:Nat×Nat} (hfr:∀ o,o<vs.size→ ¬ (fr.1≤o∧o<fr.2))
  (hz:blk.frz=0∧blk.pin=none∧∀ t,blk.ty=some t→e=t∧fr.1≤fr.2) (hsz:∀ (i:Nat) (r:List D),blk.rows[i]?=some r→r.length=blk.sz)
  (hd:blk.pure=true→∀ (i j:Nat) (r:List D) (d:D),blk.rows[i]?=some r→r[j]?=some d→d.dat=true)
  (hl:blk.rows.length*blk.sz≤vs.size)
  (hr:∀ (i j:Nat) (r:List D) (d:D),blk.rows[i]?=some r→r[j]?=some d→∃ v,vs[i*blk.sz+j]?=some v∧one v=true∧Z9 w G β v d):
  Za Γ (σ.setB t (some blk)) a (w.alloc (.cells vs e fr)) G (upd β t (some (w.heap.size,blk.sz))):=by
 have hC:=h.quiet (Lu w (.cells vs e fr))
 refine hC.name hb (λb' s hs=>?_) ?_
 ·obtain⟨k,hk⟩:=h.dom b' _ hs
  rcases h.heap b' k hk with ⟨h0,-⟩|⟨c,h0,hB⟩
  ·rw[h0] at hs; cases hs
  ·rw[h0] at hs; cases hs; have:=hB.lt; omega
 ·have hG0:G w.heap.size=0:=h.fresh _ (Nat.le_refl _)
  refine⟨.inl h.big,(λk hk=>by rw[hz.2.1] at hk; cases hk),(λk hk=>by obtain⟨rfl,hfr'⟩:=hz.2.2 k hk; exact⟨_,_,L3 w _,hfr'⟩),(λo ho=>by rw[hG0] at ho; omega),by omega,hd,hsz,vs,e,fr,L3 w _,hfr,hl,λi j r d h1 h2=>?_⟩
  obtain⟨v,a1,a2,a3⟩:=hr i j r d h1 h2
  exact⟨v,a1,a2,a3.mono (λb o ho=>Kx ((Lu w _).block b (h.marksLt ho)) o) (λ_=>Nat.le_refl _) (λ_ _ h=>h) (Zan (Lu w _))⟩
theorem Z05 {o:Oper} {blk:Blk} {v:Nat→D} {p q:Prop} {σ':S} (h:Ux σ o blk v p=some (σ',q)):∃ t,o.dst=some t∧σ.heap t=none∧t<σ.n∧σ'=(σ.setB t (some blk)).put (some t) (v t)∧q=p:=by
 unfold Ux at h
 split at h
 ·rename_i t ht
  split at h
  ·cases h
  ·split at h
   ·cases h
    rename_i hlt
    exact⟨t,ht,by assumption,Nat.le_of_ble_eq_true hlt,rfl,rfl⟩
   ·cases h
 ·cases h
theorem Reach.new (h:Za Γ σ a w G β) {o:Oper} {blk:Blk} {dv:Nat→D} {p q:Prop} {σ':S} (hn:Ux σ o blk dv p=some (σ',q)) {vs:Array Value} {e:TypeId} {fr:Nat×Nat} {v:Value}
  (hrun:(execOp a.eval o).run P w=.ok (.value v) (w.alloc (.cells vs e fr)))
  (hv:∀ t,σ.heap t=none→Z9 (w.alloc (.cells vs e fr)) G (upd β t (some (w.heap.size,blk.sz))) v (dv t))
  (hfr:∀ o,o<vs.size→ ¬ (fr.1≤o∧o<fr.2))
  (hz:blk.frz=0∧blk.pin=none∧∀ t,blk.ty=some t→e=t∧fr.1≤fr.2) (hsz:∀ (i:Nat) (r:List D),blk.rows[i]?=some r→r.length=blk.sz)
  (hd:blk.pure=true→∀ (i j:Nat) (r:List D) (d:D),blk.rows[i]?=some r→r[j]?=some d→d.dat=true)
  (hl:blk.rows.length*blk.sz≤vs.size)
  (hr:∀ (i j:Nat) (r:List D) (d:D),blk.rows[i]?=some r→r[j]?=some d→∃ v,vs[i*blk.sz+j]?=some v∧one v=true∧Z9 w G β v d):Reach P Γ o a w σ':=by
 obtain⟨t,ht,hb,hlt,rfl,-⟩:=Z05 hn
 have hC:=h.new (e:=e) hb hfr hz hsz hd hl hr
 refine Reach.of_value hrun (G':=G) (β':=upd β t (some (w.heap.size,blk.sz))) ?_
 have:=hC.put (dst:=some t) (λu hu=>by cases hu; exact hlt) (hv t hb)
 rw[ht]
 exact this
theorem Zk0 {v:Value} {d:D} (h:Z9 w G β v d) {cs:List D} (hc:cellsOf d=some cs):cs.length=v.cells.size∧(∀ (j:Nat) u,v.cells[j]?=some u→one u=true)∧
  ∀ (j:Nat) u d,v.cells[j]?=some u→cs[j]?=some d→Z9 w G β u d:=by
 by_cases ha:∃ cs,d=.agg cs
 ·obtain⟨cs',rfl⟩:=ha
  cases hc
  obtain⟨vs,rfl,hn,hone,hrep⟩:=Jd h
  exact⟨hn,hone,hrep⟩
 ·have hd:cs=[d]∧d≠ .undef∧(∀ cs,d≠ .tup cs):=by
   cases d <;> first
    | exact absurd ⟨_,rfl⟩ ha
    | (cases hc; exact⟨rfl,by simp,by simp⟩)
    | cases hc
  obtain⟨rfl,h1,h2⟩:=hd
  have h3:=Zta h h1 (λcs e=>ha ⟨cs,e⟩) h2
  have hv:v.cells= #[v] :=by cases v <;> first|rfl|simp[one] at h3
  rw[hv]
  refine⟨rfl,λj u hu=>?_,λj u d' hu hd=>?_⟩
  ·cases j with
   | zero=>simp at hu; subst hu; exact h3
   | succ j=>simp at hu
  ·cases j with
   | zero=>simp at hu hd; subst hu hd; exact h
   | succ j=>simp at hu
theorem Zaa {t:TypeId} {cs:List D} (h:Lh P t=some cs):∃ i v,P.info? t=some i∧i.zero=some v∧cs.length=v.cells.size∧(∀ (j:Nat) u,v.cells[j]?=some u→one u=true)∧
  ∀ (w:World) (G:Nat→Nat) (β:Nat→Option (Nat×Nat)) (j:Nat) u d,v.cells[j]?=some u→cs[j]?=some d→Z9 w G β u d:=by
 unfold Lh at h
 split at h
 ·rename_i i hi
  split at h
  ·rename_i v hv
   split at h
   ·rename_i hall
    cases h
    refine⟨i,v,hi,hv,by simp,λj u hu=>List.all_eq_true.1 hall u (List.mem_of_getElem? (i:=j) (by simpa using hu)),λw G β j u d hu hd=>?_⟩
    simp only[List.getElem?_map,Array.getElem?_toList,hu,Option.map_some,Option.some.injEq] at hd
    subst hd
    exact Zgv u
   ·cases h
  ·cases h
 ·cases h
theorem Za.mark (h:Za Γ σ a w G β) {c0:Nat} (hnb:∀ b s,β b≠some (c0,s)) (hge:Γ.B≤c0) (hlt:c0<w.heap.size) {k:Nat} (hk:G c0≤k):Za Γ σ a w (λc=>if c=c0 then k else G c) β:=by
 have hG:∀ c,G c≤(if c=c0 then k else G c):=λc=>by
  split
  ·rename_i h; subst h; exact hk
  ·exact Nat.le_refl _
 refine⟨h.defers,h.size,λt=>(h.tmps t).mono (λ_ _ _=>rfl) hG (λ_ _ h=>h) (.refl w),λb blk hb=>?_,h.dom,h.inj,h.kept,λc hc hx=>?_,λc hc=>?_,h.big,h.glob.mono (λ_ _ _=>rfl) hG⟩
 ·rcases h.heap b blk hb with h0|⟨c,h0,hB⟩
  ·exact .inl h0
  ·exact .inr ⟨c,h0,hB.mono (λ_ _ _=>rfl) hG (if_neg λe=>hnb b _ (e ▸ h0)) (λ_ _ h=>h) (.refl w) rfl⟩
 ·rw[if_neg (by omega)]; exact h.marks c hc hx
 ·rw[if_neg (by omega)]; exact h.fresh c hc
theorem Reach.boxRo (h:Za Γ σ a w G β) {o:Oper} {cs:List D} (hdst:∀ t,o.dst=some t→t<σ.n) (hall:cs.all D.dat=true)
  {vs:Array Value} {e:TypeId} (hrun:(execOp a.eval o).run P w=.ok (.value (.pointer (some ⟨w.heap.size,0,none⟩))) (w.alloc (.cells vs e)))
  (h1:cs.length=vs.size) (h2:∀ (j:Nat) u,vs[j]?=some u→one u=true) (h3:∀ (j:Nat) u d,vs[j]?=some u→cs[j]?=some d→Z9 w G β u d):Reach P Γ o a w (σ.put o.dst (.ptr cs)):=by
 have hq:=h.quiet (Lu w (.cells vs e))
 have hlt:w.heap.size<(w.alloc (.cells vs e)).heap.size:=Zb3 (L3 w _)
 have hnb:∀ b s,β b≠some (w.heap.size,s):=λb s hb=>by
  obtain⟨k,hk⟩:=h.dom b _ hb
  have:=(h.blk' hk hb).lt
  omega
 have hG0:G w.heap.size=0:=h.fresh _ (Nat.le_refl _)
 have hm:=hq.mark hnb h.big hlt (k:=vs.size) (by omega)
 refine Reach.of_value hrun (hm.put hdst ?_)
 refine .ptr w.heap.size 0 cs (λj=>vs.getD j Go.undef) (λj hj=>?_) (λj hj=>?_) (λj hj=>?_) (λj d hd=>List.all_eq_true.1 hall d (List.mem_of_getElem? hd)) (λj d hd=>?_)
 ·simp only[if_true]; omega
 ·rw[Uo,L3]
  have hj':j<vs.size:=by omega
  simp[Array.getD_eq_getD_getElem?,hj']
 ·have hj':j<vs.size:=by omega
  have:=h2 j vs[j] (Array.getElem?_eq_getElem hj')
  simpa [Array.getD_eq_getD_getElem?,hj'] using this
 ·have hj':j<vs.size:=by
   rcases Nat.lt_or_ge j cs.length with h'|h'
   ·omega
   ·rw[List.getElem?_eq_none h'] at hd; cases hd
  have:=h3 j vs[j] d (Array.getElem?_eq_getElem hj') hd
  have e1:vs.getD j Go.undef=vs[j] :=by simp[Array.getD_eq_getD_getElem?,hj']
  rw[e1]
  exact this.of_dat (λb o ho=>Kx ((Lu w _).block b (h.marksLt ho)) o) (λc=>by
   show G c≤(if c=w.heap.size then vs.size else G c)
   split
   ·rename_i hc; rw[hc,hG0]; exact Nat.zero_le _
   ·exact Nat.le_refl _) (List.all_eq_true.1 hall d (List.mem_of_getElem? hd))
theorem Reach.box (h:Za Γ σ a w G β) {o:Oper} {cs:List D} {σ':S} {q:Prop} {ty:Option TypeId} (hn:Ux σ o { sz:=cs.length,rows:=[cs],frz:=0,pure:=false,ty } (λt=> .lptr t 0 0) True=some (σ',q))
  {vs:Array Value} {e:TypeId} (hrun:(execOp a.eval o).run P w=.ok (.value (.pointer (some ⟨w.heap.size,0,none⟩))) (w.alloc (.cells vs e))) (hty:∀ t,ty=some t→e=t)
  (h1:cs.length=vs.size) (h2:∀ (j:Nat) u,vs[j]?=some u→one u=true) (h3:∀ (j:Nat) u d,vs[j]?=some u→cs[j]?=some d→Z9 w G β u d):Reach P Γ o a w σ':=by
 refine Reach.new h hn hrun (λt ht=>?_) (λo ho=>by simp) ⟨rfl,rfl,λt ht=>⟨hty t ht,Nat.le_refl _⟩⟩ (λi r hr=>?_) (λhp=>by cases hp) (by simp[h1]) (λi j r d hr hd=>?_)
 ·have:=Z9.lptr (w:=w.alloc (.cells vs e)) (G:=G) (β:=upd β t (some (w.heap.size,cs.length))) t 0 0 w.heap.size cs.length (by simp[upd])
  simpa using this
 ·cases i with
  | zero=>simp at hr; subst hr; rfl
  | succ i=>simp at hr
 ·cases i with
  | zero=>
   simp at hr; subst hr
   have hj:j<vs.size:=by
    rcases Nat.lt_or_ge j cs.length with h'|h'
    ·omega
    ·rw[List.getElem?_eq_none h'] at hd; cases hd
   exact⟨vs[j],by simp[Array.getElem?_eq_getElem hj],h2 j _ (Array.getElem?_eq_getElem hj),h3 j _ d (Array.getElem?_eq_getElem hj) hd⟩
  | succ i=>simp at hr
theorem Zm5 (off:Nat):∀ (l:List Value) (i:Nat) (cs:Array Value),((l.zipIdx i).foldl (λcs (c,j)=>cs.setIfInBounds (off+j) c) cs).size=cs.size∧
  ∀ k,off+i+l.length≤cs.size→((l.zipIdx i).foldl (λcs (c,j)=>cs.setIfInBounds (off+j) c) cs)[k]?=if off+i≤k∧k<off+i+l.length then l[k - (off+i)]? else cs[k]?
 | [],i,cs=>⟨rfl,λk _=>by simp; omega⟩
 | c :: l,i,cs=>by
  have ih:=Zm5 off l (i+1) (cs.setIfInBounds (off+i) c)
  have hsz:(cs.setIfInBounds (off+i) c).size=cs.size:=by simp
  simp only[List.zipIdx_cons,List.foldl_cons]
  refine⟨by rw[ih.1]; simp,λk hk=>?_⟩
  simp only[List.length_cons] at hk ⊢
  rw[ih.2 k (by omega)]
  by_cases h1:off+i=k
  ·subst h1
   rw[if_neg (by omega),if_pos (by omega)]
   simp[show off+i<cs.size by omega]
  ·by_cases h2:off+i≤k∧k<off+i+(l.length+1)
   ·rw[if_pos (by omega),if_pos h2]
    rw[show k - (off+i)=(k - (off+(i+1)))+1 by omega,List.getElem?_cons_succ]
   ·rw[if_neg (by omega),if_neg h2]
    simp[h1]
theorem Zja (cs dc:List D) (off k:Nat) (h:off+dc.length≤cs.length):(Ud cs off dc)[k]?=if off≤k∧k<off+dc.length then dc[k - off]? else cs[k]? :=by
 unfold Ud
 rw[List.append_assoc,List.getElem?_append,List.length_take,List.getElem?_append,List.getElem?_drop,List.getElem?_take]
 rw[show min off cs.length=off by omega]
 by_cases h1:k<off
 ·rw[if_pos h1,if_pos h1,if_neg (by omega)]
 ·rw[if_neg h1]
  by_cases h2:k - off<dc.length
  ·rw[if_pos h2,if_pos (by omega)]
  ·rw[if_neg h2,if_neg (by omega)]
   congr 1; omega
theorem Zpc (cs dc:List D) (off:Nat) (h:off+dc.length≤cs.length):(Ud cs off dc).length=cs.length:=by
 unfold Ud; simp; omega
def Z4y (w:World) (G:Nat→Nat) (β:Nat→Option (Nat×Nat)) (vs:Array Value) (cs:List D):Prop:=
 cs.length=vs.size∧(∀ (j:Nat) u,vs[j]?=some u→one u=true)∧∀ (j:Nat) u d,vs[j]?=some u→cs[j]?=some d→Z9 w G β u d
theorem Zko {place:Nat→Option (Nat×Nat)}:∀ (ps:List (Nat×D)) (vps:List (Nat×Value)) (cs:List D) (vs:Array Value) (cs':List D),Z4y w G β vs cs→
  ps.map (·.1)=vps.map (·.1)→(∀ (j:Nat) p u,ps[j]?=some p→vps[j]?=some u→Z9 w G β u.2 p.2)→Mk place cs ps=some cs'→∃ vs',Instr.fill place vs vps=some vs'∧Z4y w G β vs' cs'
 | [],vps,cs,vs,cs',hC,hl,hr,h=>by
  cases h
  cases vps with
  | nil=>exact⟨vs,rfl,hC⟩
  | cons _ _=>simp at hl
 | (i, d) :: ps,vps,cs,vs,cs',hC,hl,hr,h=>by
  cases vps with
  | nil=>simp at hl
  | cons x vps=>
   obtain⟨i',v⟩:=x
   simp only[List.map_cons,List.cons.injEq] at hl
   obtain⟨rfl,hl⟩:=hl
   unfold Mk at h
   split at h
   ·rename_i off size dc hp hdc
    split at h
    ·rename_i hb
     simp only[Bool.and_eq_true,beq_iff_eq,Nat.ble_eq] at hb
     obtain⟨hb1,hb2⟩:=hb
     have hv:Z9 w G β v d:=hr 0 (i,d) (i,v) rfl rfl
     obtain⟨c1,c2,c3⟩:=Zk0 hv hdc
     have hz:=Zm5 off v.cells.toList 0 vs
     simp only[Nat.add_zero,Array.length_toList] at hz
     have hC':Z4y w G β ((v.cells.toList.zipIdx 0).foldl (λcs (c,j)=>cs.setIfInBounds (off+j) c) vs) (Ud cs off dc):=by
      have hle:off+v.cells.size≤vs.size:=by rw[← c1,← hC.1]; exact hb2
      refine⟨by rw[Zpc _ _ _ hb2,hz.1,hC.1],λj u hu=>?_,λj u d hu hd=>?_⟩
      ·rw[hz.2 j hle] at hu
       split at hu
       ·exact c2 _ u (by simpa using hu)
       ·exact hC.2.1 j u hu
      ·rw[hz.2 j hle] at hu
       rw[Zja _ _ _ _ hb2] at hd
       split at hu
       ·rename_i hk
        rw[if_pos (by omega)] at hd
        exact c3 _ u d (by simpa using hu) hd
       ·rename_i hk
        rw[if_neg (by omega)] at hd
        exact hC.2.2 j u d hu hd
     obtain⟨vs',e1,e2⟩:=Zko ps vps _ _ cs' hC' hl (λj p u hp hu=>hr (j+1) p u (by simpa using hp) (by simpa using hu)) h
     refine⟨vs',?_,e2⟩
     unfold Instr.fill
     have hlen:v.cells.size=size:=by omega
     have hle: ¬ (off+v.cells.size>vs.size):=by rw[← c1,← hC.1]; omega
     simp only[hp,hlen,ne_eq,not_true_eq_false,decide_false,Bool.false_or,decide_eq_true_eq]
     rw[if_neg (by omega)]
     rw[← Array.foldl_toList,Array.toList_zipIdx]
     exact e1
    ·cases h
   ·cases h
theorem Zwd (a:Act) (parts:Array (Nat×Operand)):(parts.map λ(i,x)=>(i,a.eval x)).toList=parts.toList.map λx=>(x.1,a.eval x.2):=by
 simp
theorem Zwj (hC:Za Γ σ a w G β) {t:TypeId} {parts:Array (Nat×Operand)} {z:List D} {pl:Nat→Option (Nat×Nat)} {cs:List D} (hz:Lh P t=some z) (hp:Z94 P t=some pl)
  (hf:Mk pl z (parts.toList.map λx=>(x.1,σ.ev x.2))=some cs):∃ vs,(Instr.build t (parts.map λ(i,x)=>(i,a.eval x))).run P w=.ok (.agg vs) w∧Z4y w G β vs cs:=by
 obtain⟨i,v,hi,hv,e1,e2,e3⟩:=Zaa hz
 obtain ⟨vs',f1,f2⟩:=Zko (w:=w) (G:=G) (β:=β) (place:=pl) _ (parts.toList.map λx=>(x.1,a.eval x.2)) z v.cells cs ⟨e1,e2,λj u d=>e3 w G β j u d⟩ (by simp) (λj p u hp hu=>by
  simp only[List.getElem?_map] at hp hu
  obtain⟨x,hx,rfl⟩:=Xt hp
  rw[hx] at hu; cases hu
  exact Vo hC x.2) hf
 refine⟨vs',run_build w t _ vs' ?_,f2⟩
 unfold Program.built
 rw[Zwd]
 unfold Z94 at hp
 split at hp
 ·rename_i fs hu
  split at hp
  ·rename_i places hpl
   cases hp
   simp only[hi,hu,hv,hpl]
   simpa using f1
  ·cases hp
 ·rename_i n e hu
  split at hp
  ·rename_i ie hie
   cases hp
   simp only[hi,hu,hv,hie]
   exact f1
  ·cases hp
 ·cases hp
end Go.Den
namespace Go.Den
open Go.RowKit
variable {P:Program} {Γ:Ctx} {σ:S} {a:Act} {w w':World} {G G':Nat→Nat} {β β':Nat→Option (Nat×Nat)}
def Je (σ σ':S):Prop:=∀ b,(σ'.heap b).map (λk=>(k.pure,k.rows))=(σ.heap b).map (λk=>(k.pure,k.rows))
theorem Zx2 (σ:S) (b:Nat):Je σ (σ.freeze b):=λu=>by
 simp only[S.freeze]
 split
 ·cases σ.heap u <;> rfl
 ·rfl
theorem Je.trans {a b c:S} (h:Je a b) (k:Je b c):Je a c:=λu=>(k u).trans (h u)
theorem Zjg:∀ (l:List Nat) (σ:S),Je σ (σ.freezeL l)
 | [],_=>λ_=>rfl
 | b::l,σ=>(Zx2 σ b).trans (Zjg l (σ.freeze b))
theorem Z3l:∀ (l:List Nat) (σ:S),(σ.freezeL l).tmps=σ.tmps∧(σ.freezeL l).n=σ.n
 | [],_=>⟨rfl,rfl⟩
 | b::l,σ=>Z3l l (σ.freeze b)
theorem Zr8:∀ (l:List Nat) (σ:S) (t:Nat),(σ.freezeL l).heap t=none↔σ.heap t=none
 | [],_,_=>Iff.rfl
 | b::l,σ,t=>(Zr8 l (σ.freeze b) t).trans (by simp only[S.freeze]; split <;> simp)
def Lo (σ:S) (G:Nat→Nat) (β:Nat→Option (Nat×Nat)) (b:Nat):Prop:=∀ blk c,σ.heap b=some blk→β b=some (c,blk.sz)→blk.rows.length*blk.sz≤G c
theorem Zt5 (σ:S) (b u:Nat) {blk:Blk} (h:σ.heap u=some blk):∃ f,(σ.freeze b).heap u=some { blk with frz:=f }:=by
 simp only[S.freeze]
 split
 ·exact⟨blk.rows.length,by rw[h]; rfl⟩
 ·exact⟨blk.frz,by rw[h]⟩
theorem Znt:∀ (l:List Nat) (σ:S) (u:Nat) {blk:Blk},σ.heap u=some blk→∃ f,(σ.freezeL l).heap u=some { blk with frz:=f }
 | [],σ,u,blk,h=>⟨blk.frz,h⟩
 | b::l,σ,u,blk,h=>by
  obtain⟨f,hf⟩:=Zt5 σ b u h
  obtain⟨f',hf'⟩:=Znt l (σ.freeze b) u hf
  exact⟨f',hf'⟩
theorem Za.freezeL:∀ (l:List Nat) {σ:S} {G:Nat→Nat},Za Γ σ a w G β→∃ G',Za Γ (σ.freezeL l) a w G' β∧(∀ k,G k≤G' k)∧∀ b∈l,Lo σ G' β b
 | [],σ,G,h=>⟨G,h,λ_=>Nat.le_refl _,λb hb=>by cases hb⟩
 | b::l,σ,G,h=>by
  obtain⟨G1,h1,h2,h3⟩:=h.freeze b
  obtain⟨G2,k1,k2,k3⟩:=Za.freezeL l h1
  refine⟨G2,k1,λk=>Nat.le_trans (h2 k) (k2 k),λu hu=>?_⟩
  rcases List.mem_cons.1 hu with rfl|hu
  ·exact λblk c hb hβ=>Nat.le_trans (h3 blk c hb hβ) (k2 c)
  ·exact λblk c hb hβ=>by
    obtain⟨f,hf⟩:=Zt5 σ b u hb
    exact k3 u hu { blk with frz:=f } c hf hβ
theorem Za.blk (h:Za Γ σ a w G β) {b c:Nat} {blk:Blk} (hb:σ.heap b=some blk) {sz:Nat} (hβ:β b=some (c,sz)):sz=blk.sz∧Va w G β Γ c blk:=by
 rcases h.heap b blk hb with ⟨h0,-⟩|⟨c',h0,hB⟩
 ·rw[h0] at hβ; cases hβ
 ·rw[h0] at hβ; cases hβ; exact⟨rfl,hB⟩
theorem Y0c (h:Za Γ σ a w G β) {v:Value} {b lo n:Nat} {blk:Blk} (hv:Z9 w G β v (.lsl b lo n)) (hb:σ.heap b=some blk) (hp:blk.pure=true) (hle:lo+n≤blk.rows.length) (hf:Lo σ G β b):
  Z9 w G β v (.sl false ((blk.rows.drop lo).take n)):=by
 cases hv with
 | lslnil _ x=>simp; exact .slnil false x
 | lsl _ _ _ cap c sz off hβ hcap hoff hroom=>
  obtain⟨rfl,hB⟩:=h.blk hb hβ
  obtain⟨vs,e,fr,h1,h2,h3,h4⟩:=hB.cells
  have hfz:=hf blk c hb hβ
  have hidx:∀ i j,i<n→j<blk.sz→(lo+i)*blk.sz+j<blk.rows.length*blk.sz:=λi j hi hj=>by
   have:(lo+i+1)*blk.sz≤blk.rows.length*blk.sz:=Nat.mul_le_mul_right _ (by omega)
   rw[Nat.add_mul] at this; omega
  have hadd:∀ i j,lo*blk.sz+i*blk.sz+j=(lo+i)*blk.sz+j:=λi j=>by rw[Nat.add_mul]
  have hoff':∀ i,i<n→off=lo*blk.sz:=λi hi=>hoff.resolve_left (by omega)
  have hrow:∀ i,i<n→∃ r,blk.rows[lo+i]?=some r∧((blk.rows.drop lo).take n)[i]?=some r∧r.length=blk.sz:=λi hi=>by
   have hlt:lo+i<blk.rows.length:=by omega
   refine⟨blk.rows[lo+i],List.getElem?_eq_getElem hlt,?_,hB.hsz (lo+i) _ (List.getElem?_eq_getElem hlt)⟩
   rw[List.getElem?_take_of_lt hi,List.getElem?_drop]
   exact List.getElem?_eq_getElem hlt
  have hex:∀ i j,i<n→j<blk.sz→∃ u,vs[(lo+i)*blk.sz+j]?=some u∧one u=true:=λi j hi hj=>by
   obtain⟨r,hr,-,hl⟩:=hrow i hi
   obtain⟨u,a1,a2,-⟩:=h4 (lo+i) j r r[j] hr (List.getElem?_eq_getElem (by omega))
   exact⟨u,a1,a2⟩
  have hback:∀ (i:Nat) r,((blk.rows.drop lo).take n)[i]?=some r→blk.rows[lo+i]?=some r∧i<n:=λi r hr=>by
   rw[List.getElem?_take] at hr
   split at hr
   ·rw[List.getElem?_drop] at hr; exact⟨hr,by assumption⟩
   ·cases hr
  refine .sl false c off n cap blk.sz _ (λi j=>vs.getD ((lo+i)*blk.sz+j) Go.undef) (by simp; omega) (λhh=>by cases hh) hcap (λi r hr=>hB.hsz _ r (hback i r hr).1) (λi j hi hj=>?_) (λi j hi hj=>?_) (λi j hi hj=>?_)
   (λi j r d hr hd=>hB.dat hp _ j r d (hback i r hr).1 hd) (λi j r d hr hd=>?_)
  ·rw[hoff' i hi,hadd]; have:=hidx i j hi hj; omega
  ·obtain⟨u,hu,-⟩:=hex i j hi hj
   rw[hoff' i hi,hadd,Uo,h1]
   simp[hu,Array.getD_eq_getD_getElem?]
  ·obtain⟨u,hu,h1⟩:=hex i j hi hj
   simp[Array.getD_eq_getD_getElem?,hu,h1]
  ·obtain⟨hr',hi⟩:=hback i r hr
   obtain⟨u,a1,a2,a3⟩:=h4 _ j r d hr' hd
   simp only[Array.getD_eq_getD_getElem?,a1,Option.getD_some]
   exact a3
theorem Zxe {d d':D} {l:List Nat} {p:Prop} (hd:Wx σ d=some (d',l,p)):d'.dat=true:=by
 unfold Wx at hd
 repeat' split at hd
 all_goals first
  | (cases hd; first|rfl|assumption)
  | (cases hd; done)
theorem Zkg (h:Za Γ σ a w G β) {v:Value} {d d':D} {l:List Nat} {p:Prop} (hv:Z9 w G β v d) (hd:Wx σ d=some (d',l,p)) (hp:p) (hf:∀ b∈l,Lo σ G β b):
  Z9 w G β v d'∧d'.dat=true:=by
 unfold Wx at hd
 split at hd
 ·rename_i b lo n
  split at hd
  ·rename_i blk hb
   split at hd
   ·rename_i hpure
    cases hd
    exact⟨Y0c h hv hb hpure hp (hf b (by simp)),rfl⟩
   ·cases hd
  ·cases hd
 ·rename_i b i o
  split at hd
  ·rename_i blk hb
   split at hd
   ·rename_i r hr
    split at hd
    ·rename_i hall
     cases hd
     refine⟨?_,rfl⟩
     cases hv with
     | lptr _ _ _ c sz hβ=>
      obtain⟨rfl,hB⟩:=h.blk hb hβ
      obtain⟨vs,e,fr,h1,h2,h3,h4⟩:=hB.cells
      have hfz:=hf b (by simp) blk c hb hβ
      have hl:=hB.hsz i r hr
      have hi:i<blk.rows.length:=by
       rcases Nat.lt_or_ge i blk.rows.length with h'|h'
       ·exact h'
       ·rw[List.getElem?_eq_none h'] at hr; cases hr
      have hidx:∀ j,j<(r.drop o).length→i*blk.sz+o+j<blk.rows.length*blk.sz:=λj hj=>by
       have:(i+1)*blk.sz≤blk.rows.length*blk.sz:=Nat.mul_le_mul_right _ (by omega)
       rw[Nat.add_mul] at this
       simp at hj; omega
      have hex:∀ j d,(r.drop o)[j]?=some d→∃ u,vs[i*blk.sz+o+j]?=some u∧one u=true∧Z9 w G β u d:=λj d hd=>by
       rw[List.getElem?_drop] at hd
       obtain⟨u,a1,a2,a3⟩:=h4 i (o+j) r d hr hd
       exact⟨u,by rw[← a1]; congr 1; omega,a2,a3⟩
      refine .ptr c _ _ (λj=>vs.getD (i*blk.sz+o+j) Go.undef) (λj hj=>by have:=hidx j hj; omega) (λj hj=>?_) (λj hj=>?_) (λj d hd=>?_) (λj d hd=>?_)
      ·obtain⟨u,a1,-⟩:=hex j _ (List.getElem?_eq_getElem hj)
       rw[Uo,h1]; simp[a1,Array.getD_eq_getD_getElem?]
      ·obtain⟨u,a1,a2,-⟩:=hex j _ (List.getElem?_eq_getElem hj)
       simp[a1,a2,Array.getD_eq_getD_getElem?]
      ·rw[List.getElem?_drop] at hd
       exact List.all_eq_true.1 hall d (List.mem_of_getElem? hd)
      ·obtain⟨u,a1,a2,a3⟩:=hex j d hd
       simp only[Array.getD_eq_getD_getElem?,a1,Option.getD_some]
       exact a3
    ·cases hd
   ·cases hd
  ·cases hd
 ·cases hd
  refine⟨?_,rfl⟩
  cases hv with
  | slnil _ x=>exact .slnil false x
  | sl c b off n cap sz rows val hn hcc hcap hsz himm hcell hone hdat hrep=>exact .sl false b off n cap sz _ val hn (λh=>by cases h) hcap hsz himm hcell hone hdat hrep
 ·split at hd
  ·cases hd; exact⟨hv,by assumption⟩
  ·cases hd
theorem Zr7 (h:Za Γ σ a w G β):∀ {ds ds':List D} {l:List Nat} {p:Prop},Jr σ ds=some (ds',l,p)→p→(∀ b∈l,Lo σ G β b)→ds'.length=ds.length∧(∀ d∈ds',d.dat=true)∧
  ∀ (j:Nat) v d d',Z9 w G β v d→ds[j]?=some d→ds'[j]?=some d'→Z9 w G β v d'
 | [],ds',l,p,hd,hp,hf=>by cases hd; exact⟨rfl,by simp,λj v d d' _ h=>by simp at h⟩
 | x :: r,ds',l,p,hd,hp,hf=>by
  unfold Jr at hd
  split at hd
  ·rename_i d1 l1 p1 r1 l2 p2 e1 e2
   cases hd
   obtain⟨k1,k2,k3⟩:=Zr7 h e2 hp.2 (λb hb=>hf b (by simp[hb]))
   have key:∀ v,Z9 w G β v x→Z9 w G β v d1∧d1.dat=true:=λv hv=>Zkg h hv e1 hp.1 (λb hb=>hf b (by simp[hb]))
   refine⟨by simp[k1],λd hd=>?_,λj v d d' hv hd hd'=>?_⟩
   ·rcases List.mem_cons.1 hd with rfl|hd
    ·exact Zxe e1
    ·exact k2 d hd
   ·cases j with
    | zero=>simp at hd hd'; subst hd hd'; exact(key v hv).1
    | succ j=>simp at hd hd'; exact k3 j v d d' hv hd hd'
  ·cases hd
theorem Z0z {v:Value} {d:D} (h:Z9 w G β v d) (hd:d.dat=true):Z9 w G (λ_=>none) v d:=h.of_dat (λ_ _ _=>rfl) (λ_=>Nat.le_refl _) hd
theorem Ztg (h:Za Γ σ a w G β) {v:Value} {d d':D} {l:List Nat} {p:Prop} (hv:Z9 w G β v d) (hd:Jw σ d=some (d',l,p)) (hp:p) (hf:∀ b∈l,Lo σ G β b):
  Z9 w G (λ_=>none) v d':=by
 unfold Jw at hd
 split at hd
 ·rename_i cs
  split at hd
  ·rename_i cs' l' p' e
   cases hd
   obtain⟨vs,rfl,hn,hone,hrep⟩:=Jd hv
   obtain⟨k1,k2,k3⟩:=Zr7 h e hp hf
   refine .agg vs cs' (by rw[k1]; exact hn) hone (λj u d hu hd=>?_)
   have hj:j<cs.length:=by
    rcases Nat.lt_or_ge j cs'.length with h'|h'
    ·omega
    ·rw[List.getElem?_eq_none h'] at hd; cases hd
   have h0:=hrep j u _ hu (List.getElem?_eq_getElem hj)
   exact Z0z (k3 j u _ d h0 (List.getElem?_eq_getElem hj) hd) (k2 d (List.mem_of_getElem? hd))
  ·cases hd
 ·obtain⟨h1,h2⟩:=Zkg h hv hd hp hf
  exact Z0z h1 h2
theorem Zq5 (h:Za Γ σ a w G β) {v:Value} {d d':D} {l:List Nat} {p:Prop} (hv:Z9 w G β v d) (hd:Z1m σ d=some (d',l,p)) (hp:p) (hf:∀ b∈l,Lo σ G β b):Z9 w G β v d'∧d'.dat=true:=by
 unfold Z1m at hd
 split at hd
 ·cases hd; exact⟨hv,rfl⟩
 ·exact Zkg h hv hd hp hf
theorem Zrl (h:Za Γ σ a w G β):∀ {ds ds':List D} {l:List Nat} {p:Prop},Z20 σ ds=some (ds',l,p)→p→(∀ b∈l,Lo σ G β b)→ds'.length=ds.length∧
  ∀ (j:Nat) v d d',Z9 w G β v d→ds[j]?=some d→ds'[j]?=some d'→Z9 w G β v d'∧d'.dat=true
 | [],ds',l,p,hd,hp,hf=>by cases hd; exact⟨rfl,λj v d d' _ h=>by simp at h⟩
 | x :: r,ds',l,p,hd,hp,hf=>by
  unfold Z20 at hd
  split at hd
  ·rename_i d1 l1 p1 r1 l2 p2 e1 e2
   cases hd
   obtain⟨k1,k3⟩:=Zrl h e2 hp.2 (λb hb=>hf b (by simp[hb]))
   refine⟨by simp[k1],λj v d d' hv hd hd'=>?_⟩
   cases j with
   | zero=>simp at hd hd'; subst hd hd'; exact Zq5 h hv e1 hp.1 (λb hb=>hf b (by simp[hb]))
   | succ j=>simp at hd hd'; exact k3 j v d d' hv hd hd'
  ·cases hd
theorem Y0g (h:Za Γ σ a w G β) {kp:Bool} {v:Value} {d d':D} {l:List Nat} {p:Prop} (hv:Z9 w G β v d) (hd:Z4r kp σ d=some (d',l,p)) (hp:p) (hf:∀ b∈l,Lo σ G β b):
  Z9 w G (λ_=>none) v d':=by
 unfold Z4r at hd
 split at hd
 ·exact Ztg h hv hd hp hf
 ·split at hd
  ·rename_i cs
   split at hd
   ·rename_i cs' l' p' e
    cases hd
    obtain⟨vs,rfl,hn,hone,hrep⟩:=Jd hv
    obtain⟨k1,k3⟩:=Zrl h e hp hf
    refine .agg vs cs' (by rw[k1]; exact hn) hone (λj u d hu hd=>?_)
    have hj:j<cs.length:=by
     rcases Nat.lt_or_ge j cs'.length with h'|h'
     ·omega
     ·rw[List.getElem?_eq_none h'] at hd; cases hd
    have h0:=hrep j u _ hu (List.getElem?_eq_getElem hj)
    obtain⟨q1,q2⟩:=k3 j u _ d h0 (List.getElem?_eq_getElem hj) hd
    exact Z0z q1 q2
   ·cases hd
  ·obtain⟨h1,h2⟩:=Zq5 h hv hd hp hf
   exact Z0z h1 h2
theorem Zsk (h:Za Γ σ a w G β):∀ {ds ds':List D} {l:List Nat} {p:Prop},Vi σ ds=some (ds',l,p)→p→(∀ b∈l,Lo σ G β b)→ds'.length=ds.length∧
  ∀ (j:Nat) v d d',Z9 w G β v d→ds[j]?=some d→ds'[j]?=some d'→Z9 w G (λ_=>none) v d'
 | [],ds',l,p,hd,hp,hf=>by cases hd; exact⟨rfl,λj v d d' _ h=>by simp at h⟩
 | x :: r,ds',l,p,hd,hp,hf=>by
  unfold Vi at hd
  split at hd
  ·rename_i d1 l1 p1 r1 l2 p2 e1 e2
   cases hd
   obtain⟨k1,k3⟩:=Zsk h e2 hp.2 (λb hb=>hf b (by simp[hb]))
   refine⟨by simp[k1],λj v d d' hv hd hd'=>?_⟩
   cases j with
   | zero=>simp at hd hd'; subst hd hd'; exact Ztg h hv e1 hp.1 (λb hb=>hf b (by simp[hb]))
   | succ j=>simp at hd hd'; exact k3 j v d d' hv hd hd'
  ·cases hd
theorem Zjb {σ σ':S} (h:Je σ σ') (d:D):Wx σ' d=Wx σ d:=by
 have key:∀ b,(∃ k k',σ.heap b=some k∧σ'.heap b=some k'∧k'.pure=k.pure∧k'.rows=k.rows)∨(σ.heap b=none∧σ'.heap b=none):=λb=>by
  have:=h b
  cases h1:σ.heap b <;> cases h2:σ'.heap b <;> simp[h1,h2] at this
  ·exact .inr ⟨rfl,rfl⟩
  ·exact .inl ⟨_,_,rfl,rfl,this.1,this.2⟩
 cases d <;> try rfl
 case lptr b i o=>rcases key b with ⟨k,k',e1,e2,e3,e4⟩|⟨e1,e2⟩ <;> simp only[Wx,e1,e2] <;> rw[e4]
 case lsl b lo n=>rcases key b with ⟨k,k',e1,e2,e3,e4⟩|⟨e1,e2⟩ <;> simp only[Wx,e1,e2] <;> rw[e3,e4]
theorem Zqd {σ σ':S} (h:Je σ σ'):∀ ds,Jr σ' ds=Jr σ ds
 | [] =>rfl
 | d::r=>by unfold Jr; rw[Zjb h,Zqd h r]
theorem Zo5 {σ σ':S} (h:Je σ σ') (d:D):Jw σ' d=Jw σ d:=by
 unfold Jw; split
 ·rw[Zqd h]
 ·exact Zjb h _
theorem Zqr {σ σ':S} (h:Je σ σ') (d:D):Z1m σ' d=Z1m σ d:=by
 unfold Z1m; split
 ·rfl
 ·exact Zjb h _
theorem Zvq {σ σ':S} (h:Je σ σ'):∀ ds,Z20 σ' ds=Z20 σ ds
 | [] =>rfl
 | d::r=>by unfold Z20; rw[Zqr h,Zvq h r]
theorem Zzi {kp:Bool} {σ σ':S} (h:Je σ σ') (d:D):Z4r kp σ' d=Z4r kp σ d:=by
 unfold Z4r; split
 ·exact Zo5 h _
 ·split
  ·rw[Zvq h]
  ·exact Zqr h _
theorem Zih {σ σ':S} (h:Je σ σ'):∀ ds,Vi σ' ds=Vi σ ds
 | [] =>rfl
 | d::r=>by unfold Vi; rw[Zo5 h,Zih h r]
theorem Zs5 (l:List Nat) {b:Nat} (h:Lo σ G β b):Lo (σ.freezeL l) G β b:=by
 intro blk c hb hβ
 cases hs:σ.heap b with
 | none=>rw[(Zr8 l σ b).2 hs] at hb; cases hb
 | some k=>
  obtain⟨f,hf⟩:=Znt l σ b hs
  rw[hf] at hb; cases hb
  exact h k c hs hβ
theorem Z5b (h:Za Γ σ a w G β) {ds ds':List D} {l:List Nat} {p:Prop} (hd:Vi σ ds=some (ds',l,p)) (hp:p):
  ∃ G',Za Γ (σ.freezeL l) a w G' β∧(∀ k,G k≤G' k)∧ds'.length=ds.length∧∀ (j:Nat) v d d',Z9 w G β v d→ds[j]?=some d→ds'[j]?=some d'→Z9 w G' (λ_=>none) v d':=by
 obtain⟨G',h1,h2,h3⟩:=Za.freezeL l h
 rw[← Zih (Zjg l σ)] at hd
 obtain⟨k1,k2⟩:=Zsk h1 hd hp (λb hb=>Zs5 l (h3 b hb))
 exact⟨G',h1,h2,k1,λj v d d' hv=>k2 j v d d' (hv.mono (λ_ _ _=>rfl) h2 (λ_ _ h=>h) (.refl w))⟩
theorem Zlm {f:FuncId} (h:Ji P f=true) (args:Array Value) (w:World):(callFunc f args).run P w=.ok (.enter f args) w:=by
 unfold Ji at h
 split at h
 ·rename_i fn hf
  simp only[Bool.and_eq_true,Bool.not_eq_true'] at h
  have hb: ¬ fn.body=none:=by intro hb; simp[hb] at h
  have hn : ¬ fn.name = "runtime.NumGoroutine" := by simpa using h.1
  simp[callFunc,hf,hn,hb]
 ·cases h
theorem Zza (hC : Za Γ σ a w G β) {o:Oper} {fo:Operand} {args:Array Operand} {ts:Array TypeId} (ho:o.op=.call { callee:= .value fo,args,argTypes:=ts }) {f:FuncId} (hfo:σ.ev fo=.fn f)
  {told:Yt} {σ':S} {q:Prop} (h:Z35 P σ o f (args.toList.map σ.ev) told=some (σ',q)) (hq:q):Reach P Γ o a w σ':=by
 unfold Z35 at h
 split at h
 ·rename_i r hr
  split at h
  ·rename_i ds l p hd
   split at h
   ·rename_i hdst
    have hdst':=Uv hdst
    have hval:a.eval fo=.func (.func f) #[] #[] :=by
     have:=Vo hC fo
     rw[hfo] at this
     generalize a.eval fo=u at this
     cases this; rfl
    have main:p→ds=(Lt told ds)→Z2t P f (Lt told ds) r→∀ (R:Act→World→Prop) (Q:Exit→Act→World→Prop),
      (∀ G' v w' G2,Za Γ (σ.freezeL l) a w G' β→(∀ k,G k≤G' k)→Below w.heap.size w w'→(∀ c,c<w.heap.size→G2 c=G' c)→(∀ c,w'.heap.size≤c→G2 c=0)→Z9 w' G2 (λ_=>none) v r→R (a.put o.dst v) w')→o.wp P a w R Q:=λhp hds hspec R Q hR=>by
     obtain⟨G',h1,h2,h3,h4⟩:=Z5b hC hd hp
     have hargs:Lv w G' (args.map a.eval) (Lt told ds):=by
      rw[← hds]
      refine⟨by rw[h3]; simp,λj v d hv hd=>?_⟩
      simp only[Array.getElem?_map] at hv
      obtain⟨x,hx,rfl⟩:=Xt hv
      exact h4 j _ (σ.ev x) d (Vo hC x) (by simp[hx]) hd
     have hrun0:(execOp a.eval o).run P w=(callFunc f (args.map a.eval)).run P w:=by
      simp[execOp,ho,resolve,hval,Deferred.ofValue,invoke]
     unfold Oper.wp
     rw[hrun0]
     rcases hspec with ⟨hent,hcall⟩|hspec
     ·rw[Zlm hent,Oper.upon_enter]
      refine(hcall w G' _ h1.fresh h1.glob hargs).mono λe w' he=>?_
      obtain⟨v,G2,rfl,b1,b2,b3,b4⟩:=he
      exact hR G' v w' G2 h1 h2 b1 b2 b3 b4
     ·obtain⟨v,e1,e2⟩:=hspec w G' _ hargs
      rw[e1]
      exact hR G' v w G' h1 h2 (.refl _ w) (λ_ _=>rfl) h1.fresh e2
    split at h
    ·rename_i hsc
     cases h
     obtain⟨hp,hds,hspec⟩:=hq
     refine λnext Q hn=>main hp hds hspec next Q λG' v w' G2 h1 h2 b1 b2 b3 b4=>?_
     exact hn _ _ _ _ ((hC.quiet b1).put hdst' (b4.of_scalar hsc))
    ·cases h
     obtain⟨hp,hds,hspec⟩:=hq
     refine λnext Q hn=>main hp hds hspec next Q λG' v w' G2 h1 h2 b1 b2 b3 b4=>?_
     -- the marks behind the call
     have hq':=h1.quiet b1
     have hG:∀ k,G' k≤G2 k:=λk=>by
      rcases Nat.lt_or_ge k w.heap.size with hk|hk
      ·rw[b2 k hk]; exact Nat.le_refl _
      ·rw[h1.fresh k hk]; exact Nat.zero_le _
     have hcell:∀ b o,o<G' b→w'.cell? ⟨b,o,none⟩=w'.cell? ⟨b,o,none⟩:=λ_ _ _=>rfl
     have hC2:Za Γ (σ.freezeL l) a w' G2 β:=by
      refine⟨hq'.defers,hq'.size,λt=>(hq'.tmps t).mono hcell hG (λ_ _ h=>h) (.refl w'),λb blk hb=>?_,hq'.dom,hq'.inj,hq'.kept,λc hc hx=>?_,b3,hq'.big,hq'.glob.mono hcell hG⟩
      ·rcases hq'.heap b blk hb with h0|⟨c,h0,hB⟩
       ·exact .inl h0
       ·rcases h1.heap b blk hb with ⟨h0',-⟩|⟨c',h0',hB'⟩
        ·rw[h0'] at h0; cases h0
        ·have hlt:=hB'.lt
         rw[h0'] at h0; cases h0
         exact .inr ⟨_,h0',hB.mono hcell hG (b2 _ hlt) (λ_ _ h=>h) (.refl w') rfl⟩
      ·rw[b2 c (Nat.lt_of_lt_of_le hc h1.big)]; exact h1.marks c hc hx
     refine hn _ _ _ _ (hC2.put ?_ (b4.mono (λ_ _ _=>rfl) (λ_=>Nat.le_refl _) (λb x hx=>by cases hx) (.refl w')))
     intro t ht
     rw[(Z3l l σ).2]
     exact hdst' t ht
   ·cases h
  ·cases h
 ·-- a pointer that comes back as it is
  split at h
  ·rename_i b i off hargs hdst
   cases h
   obtain⟨fn,h1,h2,h3,h4,h5⟩:=hq
   have hval:a.eval fo=.func (.func f) #[] #[] :=by
    have:=Vo hC fo
    rw[hfo] at this
    generalize a.eval fo=u at this
    cases this; rfl
   obtain ⟨x,hx,hxe⟩:∃ x,args= #[x]∧σ.ev x=.lptr b i off:=by
    obtain⟨l⟩:=args
    match l,hargs with
    | [x],hargs=>exact⟨x,rfl,by simpa using hargs⟩
    | [],hargs=>simp at hargs
    | _::_::_,hargs=>simp at hargs
   have hrep:=Vo hC x
   rw[hxe] at hrep
   refine Reach.of_value (v:=a.eval x) ?_ (hC.put (Uv hdst) hrep)
   subst hx
   simp[execOp,ho,resolve,hval,Deferred.ofValue,invoke,run_callFunc_extern h1 h2 h3 h4 h5,Lib.run_noEscape]
  ·cases h
 ·cases h
end Go.Den
namespace Go.Den
open Go.RowKit
variable {P:Program} {Γ:Ctx} {σ:S} {a:Act} {w w':World} {G G':Nat→Nat} {β β':Nat→Option (Nat×Nat)}
theorem Y19 {v:Value} (h:one v=true):v.oneCell'=true:=by cases v <;> first|rfl|cases h
theorem Zd9 (g off:Nat) (e:TypeId) (fr:Nat×Nat):∀ (vs:List Value) (i:Nat) (cur:Array Value) (w:World),w.heap[g]?=some (.cells cur e fr)→
  (∀ o,o<cur.size→ ¬ (fr.1≤o∧o<fr.2))→off+i+vs.length≤cur.size→(∀ v∈vs,one v=true)→
  ∃ cur',(storeCells ⟨g,off,none⟩ vs i).run P w=.ok () (w.setRow g cur')∧cur'.size=cur.size∧∀ k,cur'[k]?=if off+i≤k∧k<off+i+vs.length then vs[k - (off+i)]? else cur[k]?
 | [], i,cur,w,hg,_,_,_=>by
  refine⟨cur,?_,rfl,λk=>by simp; omega⟩
  have hlt:g<w.heap.size:=(Array.getElem?_eq_some_iff.1 hg).1
  have hv:w.heap[g]=.cells cur e fr:=(Array.getElem?_eq_some_iff.1 hg).2
  show Result.ok () w=_
  congr 1
  unfold World.setRow
  cases w with
  | mk heap tape drawn os output=>
   congr 1
   apply Array.ext
   ·simp
   ·intro k h1 h2
    simp only[Array.getElem_modify]
    split
    ·rename_i hk; subst hk; simp at hv; simp[hv]
    ·rfl
 | v :: Qf,i,cur,w,hg,hfr,hl,h1=>by
  simp only[List.length_cons] at hl
  have hi:off+i<cur.size:=by omega
  have hcell:w.cell? ⟨g,off+i,none⟩=some cur[off+i] :=by simp[World.cell?,hg,hi]
  have hfro:w.frozen? ⟨g,off+i,none⟩=false:=by
   simp only[World.frozen?,hg]
   have:=hfr (off+i) hi
   simp only[Bool.and_eq_false_iff,decide_eq_false_iff_not]
   by_cases h:fr.1≤off+i
   ·exact .inr (by omega)
   ·exact .inl h
  have hst:(store ((⟨g,off,none⟩:Addr).add i) v).run P w=.ok () (w.setRow g (cur.setIfInBounds (off+i) v)):=by
   rw[Addr.add_none,run_store P w _ v _ (Y19 (h1 v (by simp))),hcell]
   simp[hfro,setCell_eq_setRow w g (off+i) cur e fr v hg]
  obtain ⟨cur',e1,e2,e3⟩:=Zd9 g off e fr Qf (i+1) (cur.setIfInBounds (off+i) v) (w.setRow g (cur.setIfInBounds (off+i) v)) (setRow_heap w g cur _ e _ hg)
   (λo ho=>hfr o (by simpa using ho)) (by simp; omega) (λx hx=>h1 x (by simp[hx]))
  refine⟨cur',?_,by simpa using e2,λk=>?_⟩
  ·simp only[storeCells,Sem.run_bind,hst,Result.andThen_ok,e1,setRow_setRow]
  ·rw[e3 k]
   simp only[List.length_cons]
   by_cases h1:off+i=k
   ·subst h1
    rw[if_neg (by omega),if_pos (by omega)]
    simp[hi]
   ·by_cases h2:off+i≤k∧k<off+i+(Qf.length+1)
    ·rw[if_pos (by omega),if_pos h2,show k - (off+i)=(k - (off+(i+1)))+1 by omega,List.getElem?_cons_succ]
    ·rw[if_neg (by omega),if_neg h2]
     simp[h1]
theorem Zjo {c:Nat} {cur cur':Array Value} {e:TypeId} {fr:Nat×Nat} (h:w.heap[c]?=some (.cells cur e fr)) (hs:cur'.size=cur.size) (own:Γ.B≤c∨Γ.X c) (hG:∀ o,o<G c→cur'[o]?=cur[o]?):
  Lf Γ G c w (w.setRow c cur'):=
 ⟨rfl,rfl,rfl,by simp,λk hk=>setRow_other w c k cur' hk,own,cur,e,fr,cur',h,setRow_heap w c cur cur' e fr h,hs,hG⟩
theorem Zxb (hC : Za Γ σ a w G β) {o:Oper} {t:TypeId} {x y:Operand} (ho:o.op=.store t x y) {told:Yt} {σ':S} {q:Prop} (h:Z0d P σ o t (σ.ev x) (σ.ev y) told=some (σ',q)) (hq:q):Reach P Γ o a w σ':=by
 unfold Z0d at h
 have hx:=Vo hC x
 have hy:=Vo hC y
 split at h
 ·rename_i b i off hxe
  rw[hxe] at hx
  split at h
  ·rename_i blk cs sz hb hcs hsz
   split at h
   ·rename_i hcond
    simp only[Bool.and_eq_true,beq_iff_eq] at hcond
    obtain⟨⟨hlen,hpure⟩,hdst⟩:=hcond
    obtain⟨c1,c2,c3⟩:=Zk0 hy hcs
    have main : ∀ r,blk.rows[i]?=some r→blk.frz≤i→off+cs.length≤r.length→Reach P Γ o a w ((σ.setB b (some { blk with rows:=blk.rows.set i (Ud r off cs) })).put o.dst .undef):=λr hr hfz hle=>by
     generalize hu:a.eval x=u at hx
     cases hx with
     | lptr _ _ _ c sz' hβ=>
      obtain⟨rfl,hB⟩:=hC.blk hb hβ
      obtain⟨vs,e,fr,h1,h2,h3,h4⟩:=hB.cells
      have hrl:=hB.hsz i r hr
      have hi:i<blk.rows.length:=by
       rcases Nat.lt_or_ge i blk.rows.length with h'|h'
       ·exact h'
       ·rw[List.getElem?_eq_none h'] at hr; cases hr
      have hmul:(i+1)*blk.sz≤blk.rows.length*blk.sz:=Nat.mul_le_mul_right _ (by omega)
      rw[Nat.add_mul] at hmul
      have hv:=(a.eval y).cells.toList
      obtain ⟨cur',e1,e2,e3⟩:=Zd9 (P:=P) c (i*blk.sz+off) e fr (a.eval y).cells.toList 0 vs w h1 h2 (by simp; omega) (λv hv=>by
       obtain⟨j,hj⟩:=List.getElem?_of_mem hv
       exact c2 j v (by simpa using hj))
      simp only[Nat.add_zero,Array.length_toList] at e3
      have hrun:(execOp a.eval o).run P w=.ok .skip (w.setRow c cur'):=by
       simp[execOp,ho,Instr.storeAt,hu,Instr.sureAddr,storeVar,Lg hsz,show (a.eval y).cells.size=sz by omega,e1]
      have hW:Lf Γ G c w (w.setRow c cur'):=Zjo h1 e2 hB.own λk hk=>by
       rw[e3 k,if_neg]
       intro hcon
       have h5:=hB.frz k hk
       have:blk.frz*blk.sz≤i*blk.sz:=Nat.mul_le_mul_right _ hfz
       omega
      refine Reach.of_skip hrun (G':=G) (β':=β) (Za.put (σ:=σ.setB b (some { blk with rows:=blk.rows.set i (Ud r off cs) })) ?_ (λt ht=>Uv hdst t ht) (.undef _))
      refine hC.write (c:=c) hb hβ hW rfl ?_
      have hrow':∀ (i':Nat) r',(blk.rows.set i (Ud r off cs))[i']?=some r'→(i'=i∧r'=Ud r off cs)∨(i'≠i∧blk.rows[i']?=some r'):=λi' r' h'=>by
       rw[List.getElem?_set] at h'
       by_cases hh:i=i'
       ·subst hh
        simp[hi] at h'
        exact .inl ⟨rfl,h'.symm⟩
       ·rw[if_neg hh] at h'
        exact .inr ⟨by omega,h'⟩
      refine⟨hB.own,hB.pin,(λt ht=>by obtain⟨vs2,fr2,g,gle⟩:=hB.ty t ht; rw[h1] at g; cases g; exact⟨_,_,setRow_heap w c vs cur' _ _ h1,gle⟩),hB.frz,by simpa using hB.top,λhp i' j r' d hr' hd=>?_,λi' r' hr'=>?_,cur',e,fr,setRow_heap w c vs cur' e fr h1,λo ho=>h2 o (by omega),by simpa [e2] using h3,λi' j r' d hr' hd=>?_⟩
      ·rcases hrow' i' r' hr' with ⟨rfl,rfl⟩|⟨_,h'⟩
       ·rw[Zja _ _ _ _ hle] at hd
        split at hd
        ·have:cs.all D.dat=true:=by simpa [show blk.pure=true from hp] using hpure
         exact List.all_eq_true.1 this d (List.mem_of_getElem? hd)
        ·exact hB.dat hp _ j r d hr hd
       ·exact hB.dat hp i' j r' d h' hd
      ·rcases hrow' i' r' hr' with ⟨rfl,rfl⟩|⟨_,h'⟩
       ·rw[Zpc _ _ _ hle]; exact hrl
       ·exact hB.hsz i' r' h'
      ·have hlift:∀ v d,Z9 w G β v d→Z9 (w.setRow c cur') G β v d:=λv d hv=>hv.mono hW.cells (λ_=>Nat.le_refl _) (λ_ _ h=>h) hW.same
       rcases hrow' i' r' hr' with ⟨rfl,rfl⟩|⟨hne,h'⟩
       ·rw[Zja _ _ _ _ hle] at hd
        split at hd
        ·rename_i hj
         have hj2:j - off<(a.eval y).cells.size:=by omega
         refine⟨(a.eval y).cells[j - off],?_,c2 (j - off) _ (Array.getElem?_eq_getElem hj2),hlift _ _ (c3 (j - off) _ d (Array.getElem?_eq_getElem hj2) hd)⟩
         show cur'[i'*blk.sz+j]?=_
         rw[e3,if_pos (by omega),show i'*blk.sz+j - (i'*blk.sz+off)=j - off by omega]
         simp
        ·rename_i hj
         obtain⟨v,a1,a2,a3⟩:=h4 i' j r d hr hd
         have hjl:j<r.length:=by
          rcases Nat.lt_or_ge j r.length with h'|h'
          ·exact h'
          ·rw[List.getElem?_eq_none h'] at hd; cases hd
         refine⟨v,?_,a2,hlift _ _ a3⟩
         show cur'[i'*blk.sz+j]?=_
         rw[e3,if_neg (by omega)]; exact a1
       ·obtain⟨v,a1,a2,a3⟩:=h4 i' j r' d h' hd
        have hjl:j<blk.sz:=by
         rw[← hB.hsz i' r' h']
         rcases Nat.lt_or_ge j r'.length with h'|h'
         ·exact h'
         ·rw[List.getElem?_eq_none h'] at hd; cases hd
        refine⟨v,?_,a2,hlift _ _ a3⟩
        show cur'[i'*blk.sz+j]?=_
        rw[e3,if_neg ?_]
        ·exact a1
        ·rcases Nat.lt_or_gt_of_ne hne with h6|h6
         ·have:(i'+1)*blk.sz≤i*blk.sz:=Nat.mul_le_mul_right _ (by omega)
          rw[Nat.add_mul] at this; omega
         ·have:(i+1)*blk.sz≤i'*blk.sz:=Nat.mul_le_mul_right _ (by omega)
          rw[Nat.add_mul] at this; omega
    split at h
    ·cases h
     obtain⟨q1,q2,q3,q4⟩:=hq
     rw[← q4]
     exact main _ q2 q1 q3
    ·split at h
     ·cases h
      obtain⟨q1,q3,q4⟩:=hq
      rw[← q4]
      exact main _ (by assumption) q1 q3
     ·cases h
   ·cases h
  ·cases h
 ·cases h
theorem Zvu {α:Type} (sz:Nat):∀ (n:Nat) (cs:List D) (i:Nat),i<n→(Jg sz n cs)[i]?=some ((cs.drop (i*sz)).take sz)
 | 0,_,i,h=>by omega
 | n+1,cs,0,_=>by simp[Jg]
 | n+1,cs,i+1,h=>by
  simp only[Jg,List.getElem?_cons_succ]
  rw[Zvu (α:=α) sz n (cs.drop sz) i (by omega),List.drop_drop,Nat.add_mul,Nat.one_mul,Nat.add_comm sz]
theorem Z9p (sz:Nat):∀ (n:Nat) (cs:List D),(Jg sz n cs).length=n
 | 0,_=>rfl
 | n+1,cs=>by simp[Jg,Z9p sz n]
theorem Z5r {t e:TypeId} (h:Ju P t=some e):P.underlying t=some (.slice e):=by
 unfold Ju at h
 split at h
 ·cases h; assumption
 ·cases h
theorem Zts {place:Nat→Option (Nat×Nat)}:∀ {ps:List (Nat×Value)} {vs vs':Array Value},Instr.fill place vs ps=some vs'→vs'.size=vs.size
 | [],vs,vs',h=>by simp[Instr.fill] at h; rw[h]
 | (i, v)::ps,vs,vs',h=>by
  unfold Instr.fill at h
  split at h
  ·cases h
  ·split at h
   ·cases h
   ·rename_i off size _ _
    have:=Zts h
    rw[this,← Array.foldl_toList,Array.toList_zipIdx]
    exact(Zm5 off v.cells.toList 0 vs).1
theorem Y00 (hC : Za Γ σ a w G β) {o:Oper} {t:TypeId} {len:Nat} {parts:Array (Nat×Operand)} (ho:o.op=.buildSlice t len parts) {told:Yt} {σ':S} {q:Prop}
  (h:Vt P σ o told=some (σ',q)) (hq:q):Reach P Γ o a w σ':=by
 unfold Vt at h
 rw[ho] at h
 dsimp only at h
 split at h
 ·rename_i e he
  split at h
  ·rename_i ie hie
   split at h
   ·rename_i ds l p hd
    split at h
    ·rename_i cs hf
     split at h
     ·rename_i hcond
      simp only[Bool.and_eq_true,Nat.ble_eq] at hcond
      obtain⟨⟨hdat,hlim⟩,hzs⟩:=hcond
      obtain⟨z,hz⟩:=Option.isSome_iff_exists.1 hzs
      obtain⟨i0,zv,hi0,hzv,z1,z2,z3⟩:=Zaa hz
      rw[hie] at hi0; cases hi0
      have hp:p:=by
       split at h
       ·split at h
        ·split at h
         ·cases h; exact hq
         ·cases h; exact hq.1
        ·cases h
       ·obtain⟨-,-,-,-,-,hqp⟩:=Z05 h
        rw[← hqp]; exact hq
      obtain⟨G',h1,h2,h3,h4⟩:=Z5b hC hd hp
      have hsz:Wr P e=some ie.size:=by simp[Wr,hie]
      -- the cells
      have hinit:Z4y w G' (λ_=>none) ((Array.range (len*ie.size)).map (zv.cells[· % zv.cells.size]!)) (List.replicate (len*ie.size) .undef):=by
       refine⟨by simp,λj u hu=>?_,λj u d hu hd=>?_⟩
       ·simp only[Array.getElem?_map] at hu
        obtain⟨k,hk,rfl⟩:=Xt hu
        rcases Nat.lt_or_ge (k % zv.cells.size) zv.cells.size with h'|h'
        ·exact z2 _ _ (by rw[getElem!_pos zv.cells _ h']; exact Array.getElem?_eq_getElem h')
        ·rw[getElem!_neg zv.cells _ (by omega)]; rfl
       ·have:d=.undef:=by
         rw[List.getElem?_replicate] at hd
         split at hd <;> cases hd; rfl
        subst this; exact .undef _
      obtain ⟨vs',f1,f2⟩:=Zko (w:=w) (G:=G') (β:=λ_=>none) _ (parts.toList.map λx=>(x.1,a.eval x.2)) _ _ cs hinit (by
       rw[List.map_fst_zip]
       ·simp
       ·rw[h3]; simp) (λj p u hp hu=>by
       simp only[List.getElem?_map] at hu
       obtain⟨x,hx,rfl⟩:=Xt hu
       obtain⟨hp1,hp2⟩:=List.getElem?_zip_eq_some.1 hp
       exact h4 j _ (σ.ev x.2) p.2 (Vo hC x.2) (by simp[hx]) hp2) hf
      have hrun:(execOp a.eval o).run P w=.ok (.value (.slice (some ⟨w.heap.size,0,none⟩) len len)) (w.alloc (.cells vs' e)):=by
       have hlim': ¬ (16777216<len*ie.size):=by omega
       simp only[execOp,ho]
       refine Z42 ?_
       unfold Instr.buildSlice
       simp only[Sem.run_bind,run_underlying (Z5r he),Result.andThen_ok,Lg hsz]
       rw[if_neg hlim']
       simp[newRow]
       by_cases h0:len*ie.size=0
       ·have f1':Instr.fill (λi=>some (i*ie.size,ie.size)) (Array.map (λ_=>default) (Array.range (len*ie.size))) (parts.toList.map λx=>(x.1,a.eval x.2))=some vs':=by
         rw[← f1]; congr 1; rw[h0]; simp[Array.range_zero']
        rw[if_pos h0,f1']
        simp
       ·rw[if_neg h0]
        simp[zeroValue,typeInfo,hie,hzv,f1]
      have hcs:cs.length=len*ie.size:=by rw[f2.1,Zts f1]; simp
      have hrow:∀ (i:Nat) r,(Jg ie.size len cs)[i]?=some r→i<len∧r=(cs.drop (i*ie.size)).take ie.size:=λi r hr=>by
       have hi:i<len:=by
        rcases Nat.lt_or_ge i len with h'|h'
        ·exact h'
        ·rw[List.getElem?_eq_none (by rw[Z9p]; exact h')] at hr; cases hr
       rw[Zvu (α:=Nat) ie.size len cs i hi] at hr
       cases hr
       exact⟨hi,rfl⟩
      have hmul:∀ i,i<len→i*ie.size+ie.size≤len*ie.size:=λi hi=>by
       have:(i+1)*ie.size≤len*ie.size:=Nat.mul_le_mul_right _ (by omega)
       rw[Nat.add_mul] at this; omega
      have hcell:∀ (i j:Nat) r d,(Jg ie.size len cs)[i]?=some r→r[j]?=some d→cs[i*ie.size+j]?=some d∧j<ie.size:=λi j r d hr hd=>by
       obtain⟨hi,rfl⟩:=hrow i r hr
       rw[List.getElem?_take] at hd
       split at hd
       ·rw[List.getElem?_drop] at hd; exact⟨hd,by assumption⟩
       ·cases hd
      split at h
      ·-- never written
       split at h
       ·rename_i hdst
        have hR:σ'=(σ.freezeL l).put o.dst (.sl true (Jg ie.size len cs)):=by
         split at h
         ·cases h; rfl
         ·cases h; rw[hq.2]
        subst hR
        have hq:=h1.quiet (Lu w (.cells vs' e))
        have hlt:w.heap.size<(w.alloc (.cells vs' e)).heap.size:=Zb3 (L3 w _)
        have hnb:∀ b s,β b≠some (w.heap.size,s):=λb s hb=>by
         obtain⟨k,hk⟩:=h1.dom b _ hb
         have:=(h1.blk' hk hb).lt
         omega
        have hG0:G' w.heap.size=0:=h1.fresh _ (Nat.le_refl _)
        have hm:=hq.mark hnb h1.big hlt (k:=vs'.size) (by omega)
        have hvs:vs'.size=len*ie.size:=by rw[← f2.1,hcs]
        refine Reach.of_value hrun (hm.put (λt ht=>by rw[(Z3l l σ).2]; exact Uv hdst t ht) ?_)
        refine .sl true w.heap.size 0 len len ie.size _ (λi j=>vs'.getD (i*ie.size+j) Go.undef) (by rw[Z9p]) (λ_=>rfl) (Nat.le_refl _) (λi r hr=>?_) (λi j hi hj=>?_) (λi j hi hj=>?_) (λi j hi hj=>?_) (λi j r d hr hd=>?_) (λi j r d hr hd=>?_)
        ·obtain⟨hi,rfl⟩:=hrow i r hr
         have:=hmul i hi
         simp; omega
        ·have:=hmul i hi
         simp only[if_true]; omega
        ·have:=hmul i hi
         have hlt':i*ie.size+j<vs'.size:=by omega
         rw[Uo,L3]
         simp[Array.getD_eq_getD_getElem?,hlt']
        ·have:=hmul i hi
         have hlt':i*ie.size+j<vs'.size:=by omega
         have:=f2.2.1 (i*ie.size+j) vs'[i*ie.size+j] (Array.getElem?_eq_getElem hlt')
         simpa [Array.getD_eq_getD_getElem?,hlt'] using this
        ·obtain⟨hd',-⟩:=hcell i j r d hr hd
         exact List.all_eq_true.1 hdat d (List.mem_of_getElem? hd')
        ·obtain⟨hd',hj⟩:=hcell i j r d hr hd
         have hlt':i*ie.size+j<vs'.size:=by
          rw[← f2.1]
          rcases Nat.lt_or_ge (i*ie.size+j) cs.length with h'|h'
          ·exact h'
          ·rw[List.getElem?_eq_none h'] at hd'; cases hd'
         have h5:=f2.2.2 (i*ie.size+j) vs'[i*ie.size+j] d (Array.getElem?_eq_getElem hlt') hd'
         have e1:vs'.getD (i*ie.size+j) Go.undef=vs'[i*ie.size+j] :=by simp[Array.getD_eq_getD_getElem?,hlt']
         rw[e1]
         exact h5.of_dat (λb o ho=>Kx ((Lu w _).block b (h1.marksLt ho)) o) (λc=>by
          show G' c≤(if c=w.heap.size then vs'.size else G' c)
          split
          ·rename_i hc; rw[hc,hG0]; exact Nat.zero_le _
          ·exact Nat.le_refl _) (List.all_eq_true.1 hdat d (List.mem_of_getElem? hd'))
       ·cases h
      refine Reach.new h1 h hrun (λt' ht'=>?_) (λo ho=>by simp) ⟨rfl,rfl,λt ht=>by unfold tyR at ht; split at ht <;> cases ht; exact⟨rfl,Nat.le_refl _⟩⟩ (λi r hr=>?_) (λ_ i j r d hr hd=>?_) (by rw[Z9p,f2.1.symm.trans hcs]; exact Nat.le_refl _) (λi j r d hr hd=>?_)
      ·have:=Z9.lsl (w:=w.alloc (.cells vs' e)) (G:=G') (β:=upd β t' (some (w.heap.size,ie.size))) t' 0 len len w.heap.size ie.size 0 (by simp[upd]) (Nat.le_refl _) (.inr (by simp)) ⟨vs',e,(0,0),L3 w _,.inr (by rw[← f2.1,hcs]; simp)⟩
       exact this
      ·obtain⟨hi,rfl⟩:=hrow i r hr
       have:=hmul i hi
       show _=ie.size
       simp; omega
      ·obtain⟨hd',-⟩:=hcell i j r d hr hd
       exact List.all_eq_true.1 hdat d (List.mem_of_getElem? hd')
      ·obtain⟨hd',hj⟩:=hcell i j r d hr hd
       have hlt':i*ie.size+j<vs'.size:=by
        rw[← f2.1]
        rcases Nat.lt_or_ge (i*ie.size+j) cs.length with h'|h'
        ·exact h'
        ·rw[List.getElem?_eq_none h'] at hd'; cases hd'
       refine⟨vs'[i*ie.size+j],Array.getElem?_eq_getElem hlt',f2.2.1 _ _ (Array.getElem?_eq_getElem hlt'),?_⟩
       exact(f2.2.2 _ _ d (Array.getElem?_eq_getElem hlt') hd').of_dat (λ_ _ _=>rfl) (λ_=>Nat.le_refl _) (List.all_eq_true.1 hdat d (List.mem_of_getElem? hd'))
     ·cases h
    ·cases h
   ·cases h
  ·cases h
 ·cases h
theorem Zxx {v:Value} {d:D} (h:Z9 w G β v d):Z9 w G β v (Zj9 d):=by
 unfold Zj9
 split
 ·cases h with
  | slnil _ x=>exact .slnil false x
  | sl c b off n cap sz rows val hn hcc hcap hsz himm hcell hone hdat hrep=>exact .sl false b off n cap sz _ val hn (λh=>by cases h) hcap hsz himm hcell hone hdat hrep
 ·exact h
theorem Y14 {t:TypeId} {cs:List D} (h:Z6f P t=some cs):∃ i v,P.info? t=some i∧i.zero=some v∧cs.length=v.cells.size∧(∀ (j:Nat) u,v.cells[j]?=some u→one u=true)∧
  ∀ (w:World) (G:Nat→Nat) (β:Nat→Option (Nat×Nat)) (j:Nat) u d,v.cells[j]?=some u→cs[j]?=some d→Z9 w G β u d:=by
 unfold Z6f at h
 split at h
 ·rename_i z hz
  cases h
  obtain⟨i,v,h1,h2,h3,h4,h5⟩:=Zaa hz
  refine⟨i,v,h1,h2,by simpa using h3,h4,λw G β j u d hu hd=>?_⟩
  rw[List.getElem?_map] at hd
  obtain⟨d0,hd0,rfl⟩:=Xt hd
  exact Zxx (h5 w G β j u d0 hu hd0)
 ·cases h
theorem Zyz (hC:Za Γ σ a w G β) {o:Oper} {t:TypeId} {l c:Operand} (ho:o.op=.makeSlice t l c) {told:Yt} {σ':S} {q:Prop}
  (h:Vt P σ o told=some (σ',q)) (hq:q):Reach P Γ o a w σ':=by
 unfold Vt at h
 rw[ho] at h
 dsimp only at h
 have hl:=Vo hC l
 have hc:=Vo hC c
 split at h
 ·rename_i e kl l' kc c' he hle hce
  rw[hle] at hl
  rw[hce] at hc
  have hl':=Wd hl
  have hc':=Wd hc
  split at h
  ·rename_i ie z hie hz
   split at h
   ·rename_i hcond
    simp only[Bool.and_eq_true,beq_iff_eq] at hcond
    obtain⟨hzl,hzd⟩:=hcond
    obtain⟨i0,zv,hi0,hzv,z1,z2,z3⟩:=Y14 hz
    rw[hie] at hi0; cases hi0
    obtain⟨tt,ht,hb,hlt,rfl,hqp⟩:=Z05 h
    obtain⟨q1,q2,q3,q4,q5⟩:0≤l'∧l'≤c'∧(ie.bytes:Int)*c'≤281474976710656∧c'≤9223372036854775807∧List.replicate l'.toNat z=told.rows.getD (List.replicate l'.toNat z):=by rw[← hqp]; exact hq
    have hrun:(execOp a.eval o).run P w=.ok (.value (.slice (some ⟨w.heap.size,0,none⟩) l'.toNat c'.toNat)) (w.alloc (.cells (madeCells zv.cells (c'.toNat*ie.size)) e)):=by
     simp only[execOp,ho,hl',hc']
     exact Z42 (run_make w t e ie zv (Z5r he) hie hzv kl kc l' c' q1 q2 q3 q4)
    have hrow:∀ (i:Nat) r,(told.rows.getD (List.replicate l'.toNat z))[i]?=some r→i<l'.toNat∧r=z:=λi r hr=>by
     rw[← q5,List.getElem?_replicate] at hr
     split at hr
     ·cases hr; exact⟨by assumption,rfl⟩
     ·cases hr
    have hlen:(told.rows.getD (List.replicate l'.toNat z)).length=l'.toNat:=by rw[← q5]; simp
    have hmm:l'.toNat*ie.size≤c'.toNat*ie.size:=Nat.mul_le_mul_right _ (by omega)
    refine Reach.new hC h hrun (λt' ht'=>?_) (λo ho=>by simp) ⟨rfl,rfl,λ_ h=>by cases h⟩ (λi r hr=>?_) (λ_ i j r d hr hd=>?_) (by rw[hlen,size_madeCells]; exact hmm) (λi j r d hr hd=>?_)
    ·have:=Z9.lsl (w:=w.alloc (.cells (madeCells zv.cells (c'.toNat*ie.size)) e)) (G:=G) (β:=upd β t' (some (w.heap.size,ie.size))) t' 0 l'.toNat c'.toNat w.heap.size ie.size 0 (by simp[upd]) (by omega) (.inr (by simp))
      ⟨_,e,(0,0),L3 w _,.inr (by rw[size_madeCells]; simp)⟩
     show Z9 _ _ _ _ (.lsl t' 0 (told.rows.getD _).length)
     rw[hlen]
     exact this
    ·obtain⟨hi,rfl⟩:=hrow i r hr
     exact hzl
    ·obtain⟨hi,rfl⟩:=hrow i r hr
     exact List.all_eq_true.1 hzd d (List.mem_of_getElem? hd)
    ·obtain⟨hi,rfl⟩:=hrow i r hr
     have hj:j<ie.size:=by
      rw[← hzl]
      rcases Nat.lt_or_ge j r.length with h'|h'
      ·exact h'
      ·rw[List.getElem?_eq_none h'] at hd; cases hd
     have hzs:zv.cells.size=ie.size:=by rw[← z1]; exact hzl
     have hidx:i*ie.size+j<c'.toNat*ie.size:=by
      have:(i+1)*ie.size≤c'.toNat*ie.size:=Nat.mul_le_mul_right _ (by omega)
      rw[Nat.add_mul] at this; omega
     have hmod:(i*ie.size+j) % zv.cells.size=j:=by
      rw[hzs,Nat.mul_comm,Nat.mul_add_mod,Nat.mod_eq_of_lt hj]
     refine⟨zv.cells[j]'(by omega),?_,z2 j _ (Array.getElem?_eq_getElem (by omega)),z3 w G β j _ d (Array.getElem?_eq_getElem (by omega)) hd⟩
     show (madeCells zv.cells (c'.toNat*ie.size))[i*ie.size+j]?=_
     unfold madeCells
     rw[Array.getElem?_map,Array.getElem?_range,if_pos hidx]
     simp only[Option.map_some,hmod]
     rw[getElem!_pos zv.cells j (by omega)]
   ·cases h
  ·cases h
 ·cases h
end Go.Den
