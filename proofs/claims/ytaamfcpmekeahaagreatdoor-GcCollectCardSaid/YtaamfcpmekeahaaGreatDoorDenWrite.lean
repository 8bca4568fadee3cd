/-
  Objects that refer to objects: what is reachable, and that a set of marks which is closed holds it. No condition.
-/
import Derived.WalkKit
import Derived.Lib.Strings
import Derived.Lib.UnsafeStr
import Derived.Lib.Builder
set_option linter.unusedVariables false
set_option linter.unusedSimpArgs false
namespace Go.Proofs
structure Gr where
 N:Nat
 refs:Int→List Int
 to:Int→Int
 str:Int→Int
 roots:List Int
structure Gr.Ok (g:Gr):Prop where
 roots:∀ n∈g.roots,1≤n∧n≤g.N
 refs:∀ n:Int,1≤n→n≤g.N→∀ m∈g.refs n,1≤m∧m≤g.N
 to:∀ n:Int,1≤n→n≤g.N→g.to n=0∨(1≤g.to n∧g.to n≤g.N)
 str:∀ n,0≤g.str n∧g.str n≤3
 weak:∀ n,g.str n=0→g.to n=0
inductive Gr.Re (g:Gr) (k:Int):Int→Prop where
 | root {n:Int} (h:n∈g.roots):Gr.Re g k n
 | ref {n m:Int} (h:Gr.Re g k n) (hm:m∈g.refs n):Gr.Re g k m
 | to {n:Int} (h:Gr.Re g k n) (hk:k≤g.str n) (h0:g.to n≠0):Gr.Re g k (g.to n)
theorem Gr.Re.mono {g:Gr} {k a:Int} (e:k≤a) {n:Int} (h:g.Re a n):g.Re k n:=by
 induction h with
 | root h=>exact .root h
 | ref _ c ih=>exact .ref ih c
 | to _ d b ih=>exact .to ih (by omega) b
theorem Gr.Re.range {g:Gr} (a:g.Ok) {k n:Int} (h:g.Re k n):1≤n∧n≤g.N:=by
 induction h with
 | root h=>exact a.roots _ h
 | ref _ c ih=>exact a.refs _ ih.1 ih.2 _ c
 | to _ _ b ih=>exact(a.to _ ih.1 ih.2).resolve_left b
theorem Gr.Re.least {g:Gr} {k:Int} {S:Int→Prop} (a:∀ n∈g.roots,S n) (b:∀ n,S n→∀ m∈g.refs n,S m) (c:∀ n,S n→k≤g.str n→g.to n≠0→S (g.to n)) {n:Int} (h:g.Re k n):S n:=by
 induction h with
 | root h=>exact a _ h
 | ref _ e ih=>exact b _ ih _ e
 | to _ d f ih=>exact c _ ih d f
def Lf (g:Gr) (lev:Int→Int):Prop:=∀ n:Int,1≤n→n≤g.N→0≤lev n∧lev n≤4∧∀ k,1≤k→k≤4→(k≤lev n↔g.Re k n)
theorem Lf.same {g:Gr} {l l':Int→Int} (h:Lf g l) (i:Lf g l') {n:Int} (a:1≤n) (b:n≤g.N):l n=l' n:=by
 obtain⟨a1,a2,c⟩:=h n a b
 obtain⟨d,e,f⟩:=i n a b
 have key:∀ x y:Int,0≤x→x≤4→0≤y→y≤4→(∀ k,1≤k→k≤4→(k≤x↔k≤y))→x=y:=λx y q r s t h=>by
  have j:=h 1 (by omega) (by omega)
  have m:=h 2 (by omega) (by omega)
  have o:=h 3 (by omega) (by omega)
  have p:=h 4 (by omega) (by omega)
  omega
 exact key _ _ a1 a2 d e λk k1 k4=>(c k k1 k4).trans (f k k1 k4).symm
theorem Lf.closed {g:Gr} (c:g.Ok) {lev:Int→Int} (p:∀ n∈g.roots,lev n=4) (b:∀ n:Int,1≤n→n≤g.N→0≤lev n∧lev n≤4)
  (hs:∀ n:Int,1≤n→n≤g.N→1≤lev n→g.Re (lev n) n)
  (j:∀ n:Int,1≤n→n≤g.N→1≤lev n→∀ m∈g.refs n,lev n≤lev m)
  (l:∀ n:Int,1≤n→n≤g.N→1≤lev n→g.to n≠0→min (lev n) (g.str n)≤lev (g.to n)):Lf g lev:=λn i nN=>by
 obtain⟨l0,r⟩:=b n i nN
 refine⟨l0,r,λk k1 k4=>⟨λd=>(hs n i nN (by omega)).mono d,λo=>?_⟩⟩
 have:∀ {n},g.Re k n→(1≤n∧n≤g.N)∧k≤lev n:=λ{n} h=>by
  refine Gr.Re.least (S:=λn=>(1≤n∧n≤g.N)∧k≤lev n) (λn a=>⟨c.roots n a,by rw[p n a]; exact k4⟩) (λn ⟨a,d⟩ m f=>⟨c.refs n a.1 a.2 m f,?_⟩) (λn ⟨a,d⟩ q e=>⟨(c.to n a.1 a.2).resolve_left e,?_⟩) h
  ·have:=j n a.1 a.2 (by omega) m f; omega
  ·have:=l n a.1 a.2 (by omega) e; omega
 exact(this o).2
end Go.Proofs
namespace Go.Den
def gl0:List (List UInt8):=[[],[108,97,110,103,47,80,104,97,110,116,111,109,82,101,102,101,114,101,110,99,101],[108,97,110,103,47,87,101,97,107,82,101,102,101,114,101,110,99,101],[108,97,110,103,47,83,111,102,116,82,101,102,101,114,101,110,99,101]]
def Zbu:List (Nat×List (List UInt8)):=[(0,gl0)]
end Go.Den
namespace Go.Den
open Go.RowKit
inductive D:Type where
 | undef
 | bool (b:Bool)
 | int (k:IntKind) (n:Int)
 | str (s:List UInt8)
 /-- a slice of memory that nobody writes any more; `c`:its capacity is its length -/
 | sl (c:Bool) (rows:List (List D))
 | agg (cs:List D)
 /-- a pointer into memory that nobody writes any more:the cells from there on -/
 | ptr (cs:List D)
 | nilptr
 /-- a pointer to a block of the call's own:its name,the row,the cell in the row -/
 | lptr (b i o:Nat)
 /-- a slice over a block of the call's own:its name,the first row,the number of rows -/
 | lsl (b lo n:Nat)
 | tup (vs:List D)
 | fn (f:FuncId)
 /-- a function that holds pointers to blocks of the call's own -/
 | clo (f:FuncId) (bs:List Nat)
 /-- as 'lsl',and known:whether there is no room behind the rows -/
 | lsk (full:Bool) (b lo n:Nat)
 /-- this very value -/
 | raw (v:Value)
 deriving Inhabited
def one:Value→Bool
 | .agg _|.tuple _=>false
 | _=>true
def D.dat:D→Bool
 | .bool _|.int _ _|.str _|.sl _ _|.ptr _|.nilptr|.fn _|.raw _=>true
 | _=>false
inductive Zh (w:World) (G:Nat→Nat) (β:Nat→Option (Nat×Nat)):Value→D→Prop where
 | undef (v:Value):Zh w G β v .undef
 | bool (b:Bool):Zh w G β (.bool b) (.bool b)
 | int (k:IntKind) (n:Int):Zh w G β (.int k n) (.int k n)
 | str (s:ByteArray):Zh w G β (.string s) (.str s.data.toList)
 | slnil (c:Bool) (x:Option Addr):Zh w G β (.slice x 0 0) (.sl c [])
 | sl (c:Bool) (b off n cap sz:Nat) (rows:List (List D)) (val:Nat→Nat→Value)
   (hn:rows.length=n) (hc:c=true→cap=n) (hcap:n≤cap)
   (hsz:∀ (i:Nat) (r:List D),rows[i]?=some r→r.length=sz)
   (himm:∀ i j,i<n→j<sz→off+i*sz+j<G b)
   (hcell:∀ i j,i<n→j<sz→w.cell? ⟨b,off+i*sz+j,none⟩=some (val i j))
   (hone:∀ i j,i<n→j<sz→one (val i j)=true)
   (hdat:∀ (i j:Nat) (r:List D) (d:D),rows[i]?=some r→r[j]?=some d→d.dat=true)
   (hrep:∀ (i j:Nat) (r:List D) (d:D),rows[i]?=some r→r[j]?=some d→Zh w G β (val i j) d):
   Zh w G β (.slice (some ⟨b,off,none⟩) n cap) (.sl c rows)
 | agg (vs:Array Value) (cs:List D) (hn:cs.length=vs.size)
   (hone:∀ (j:Nat) v,vs[j]?=some v→one v=true)
   (hrep:∀ (j:Nat) v d,vs[j]?=some v→cs[j]?=some d→Zh w G β v d):
   Zh w G β (.agg vs) (.agg cs)
 | ptr (b off:Nat) (cs:List D) (val:Nat→Value)
   (himm:∀ j,j<cs.length→off+j<G b)
   (hcell:∀ j,j<cs.length→w.cell? ⟨b,off+j,none⟩=some (val j))
   (hone:∀ j,j<cs.length→one (val j)=true)
   (hdat:∀ (j:Nat) d,cs[j]?=some d→d.dat=true)
   (hrep:∀ (j:Nat) d,cs[j]?=some d→Zh w G β (val j) d):
   Zh w G β (.pointer (some ⟨b,off,none⟩)) (.ptr cs)
 | nilptr:Zh w G β (.pointer none) .nilptr
 | lptr (b i o c sz:Nat) (h:β b=some (c,sz)):Zh w G β (.pointer (some ⟨c,i*sz+o,none⟩)) (.lptr b i o)
 | lslnil (b:Nat) (x:Option Addr):Zh w G β (.slice x 0 0) (.lsl b 0 0)
 | lsl (b lo n cap c sz off:Nat) (h:β b=some (c,sz)) (hcap:n≤cap) (hoff:cap=0∨off=lo*sz)
   (hroom:∃ vs e fr,w.heap[c]?=some (.cells vs e fr)∧(cap=0∨(lo+cap)*sz≤vs.size)):
   Zh w G β (.slice (some ⟨c,off,none⟩) n cap) (.lsl b lo n)
 | tup (vs:Array Value) (ds:List D) (hn:ds.length=vs.size)
   (hrep:∀ (j:Nat) v d,vs[j]?=some v→ds[j]?=some d→Zh w G β v d):
   Zh w G β (.tuple vs) (.tup ds)
 | fn (f:FuncId):Zh w G β (.func (.func f) #[] #[]) (.fn f)
 | clo (f:FuncId) (vs:Array Value) (bs:List Nat) (hn:bs.length=vs.size)
   (hrep:∀ (j:Nat) v b,vs[j]?=some v→bs[j]?=some b→∃ c sz,β b=some (c,sz)∧v=.pointer (some ⟨c,0,none⟩)):Zh w G β (.func (.func f) #[] vs) (.clo f bs)
 | lskn (b:Nat) (x:Option Addr):Zh w G β (.slice x 0 0) (.lsk true b 0 0)
 | lsk (full:Bool) (b lo n cap c sz off:Nat) (h:β b=some (c,sz)) (hcap:n≤cap) (hfull:full=true→cap=n) (hfree:full=false→n<cap) (hoff:cap=0∨off=lo*sz)
   (hroom:∃ vs e fr,w.heap[c]?=some (.cells vs e fr)∧(cap=0∨(lo+cap)*sz≤vs.size)):
   Zh w G β (.slice (some ⟨c,off,none⟩) n cap) (.lsk full b lo n)
 | raw (v:Value) (h:one v=true):Zh w G β v (.raw v)
def L3 (w w':World):Prop:=∀ (c:Nat) vs e fr,w.heap[c]?=some (.cells vs e fr)→∃ vs' fr',w'.heap[c]?=some (.cells vs' e fr')∧vs'.size=vs.size
theorem L3.refl (w:World):L3 w w:=λ_ vs _ fr h=>⟨vs,fr,h,rfl⟩
theorem L3.trans {a b c:World} (h:L3 a b) (k:L3 b c):L3 a c:=λi vs e fr l=>by
 obtain⟨vs',fr',d,f⟩:=h i vs e fr l
 obtain⟨vs'',fr'',g,j⟩:=k i vs' e fr' d
 exact⟨vs'',fr'',g,j.trans f⟩
theorem Zh.mono {w w':World} {G G':Nat→Nat} {β β':Nat→Option (Nat×Nat)} {v:Value} {d:D} (h:Zh w G β v d)
  (N:∀ b o,o<G b→w'.cell? ⟨b,o,none⟩=w.cell? ⟨b,o,none⟩) (M:∀ b,G b≤G' b)
  (I:∀ b x,β b=some x→β' b=some x) (hs:L3 w w'):Zh w' G' β' v d:=by
 induction h with
 | undef v=>exact .undef v
 | bool b=>exact .bool b
 | int k n=>exact .int k n
 | str s=>exact .str s
 | slnil c x=>exact .slnil c x
 | sl c b off n cap sz rows val C L a hsz g p l t m ih=>
  refine .sl c b off n cap sz rows val C L a hsz (λi j H y=>Nat.lt_of_lt_of_le (g i j H y) (M b)) (λi j H y=>?_) l t (λi j r d Q z=>ih i j r d Q z)
  rw[N _ _ (g i j H y)]; exact p i j H y
 | agg vs cs C l m ih=>exact .agg vs cs C l (λj v d F z=>ih j v d F z)
 | ptr b off cs val g p l t m ih=>
  refine .ptr b off cs val (λj y=>Nat.lt_of_lt_of_le (g j y) (M b)) (λj y=>?_) l t (λj d z=>ih j d z)
  rw[N _ _ (g j y)]; exact p j y
 | nilptr=>exact .nilptr
 | lptr b i o c sz h=>exact .lptr b i o c sz (I _ _ h)
 | lslnil b x=>exact .lslnil b x
 | lsl b lo n cap c sz off h a u q=>
  obtain⟨vs,e,fr,E,J⟩:=q
  obtain⟨vs',fr',K,O⟩:=hs c vs e fr E
  exact .lsl b lo n cap c sz off (I _ _ h) a u ⟨vs',e,fr',K,by omega⟩
 | tup vs ds C m ih=>exact .tup vs ds C (λj v d F z=>ih j v d F z)
 | fn f=>exact .fn f
 | clo f vs bs C m=>exact .clo f vs bs C λj v b F P=>by obtain⟨c,sz,E,J⟩:=m j v b F P; exact⟨c,sz,I _ _ E,J⟩
 | lskn b x=>exact .lskn b x
 | lsk full b lo n cap c sz off h a B A u q=>
  obtain⟨vs,e,fr,E,J⟩:=q
  obtain⟨vs',fr',K,O⟩:=hs c vs e fr E
  exact .lsk full b lo n cap c sz off (I _ _ h) a B A u ⟨vs',e,fr',K,by omega⟩
 | raw v h=>exact .raw v h
theorem Zh.unk {w:World} {G:Nat→Nat} {β:Nat→Option (Nat×Nat)} {v:Value} {full:Bool} {b lo n:Nat} (h:Zh w G β v (.lsk full b lo n)):Zh w G β v (.lsl b lo n):=by
 cases h with
 | lskn _ x=>exact .lslnil b x
 | lsk _ _ _ _ cap c sz off h d g f e a=>exact .lsl b lo n cap c sz off h d e a
theorem Zh.of_dat {w w':World} {G G':Nat→Nat} {β β':Nat→Option (Nat×Nat)} {v:Value} {d:D} (h:Zh w G β v d)
  (A:∀ b o,o<G b→w'.cell? ⟨b,o,none⟩=w.cell? ⟨b,o,none⟩) (z:∀ b,G b≤G' b) (p:d.dat=true):Zh w' G' β' v d:=by
 induction h with
 | bool b=>exact .bool b
 | int k n=>exact .int k n
 | str s=>exact .str s
 | slnil c x=>exact .slnil c x
 | sl c b off n cap sz rows val C y q hsz e g l a t ih=>
  refine .sl c b off n cap sz rows val C y q hsz (λi j u m=>Nat.lt_of_lt_of_le (e i j u m) (z b)) (λi j u m=>?_) l a (λi j r d B p=>ih i j r d B p (a i j r d B p))
  rw[A _ _ (e i j u m)]; exact g i j u m
 | ptr b off cs val e g l a t ih=>
  refine .ptr b off cs val (λj m=>Nat.lt_of_lt_of_le (e j m) (z b)) (λj m=>?_) l a (λj d p=>ih j d p (a j d p))
  rw[A _ _ (e j m)]; exact g j m
 | nilptr=>exact .nilptr
 | fn f=>exact .fn f
 | raw v h=>exact .raw v h
 | _=>simp[D.dat] at p
theorem Zub {w:World} {G:Nat→Nat} {β:Nat→Option (Nat×Nat)} {v:Value} {d:D} (h:Zh w G β v d)
  (a:d≠ .undef) (b:∀ cs,d≠ .agg cs) (c:∀ cs,d≠ .tup cs):one v=true:=by
 cases h <;> first|rfl|assumption|exact absurd rfl a|exact absurd rfl (b _)|exact absurd rfl (c _)
def Zaw:List D→Bool
 | [] =>true
 | .bool _::r|.int _ _::r|.str _::r=>Zaw r
 | _=>false
def D.scalar:D→Bool
 | .bool _|.int _ _|.str _=>true
 | .tup vs=>Zaw vs
 | _=>false
theorem Zvb:∀ {l:List D},Zaw l=true→∀ {j:Nat} {d:D},l[j]?=some d→(∃ b,d=.bool b)∨(∃ k n,d=.int k n)∨(∃ s,d=.str s)
 | [],_,_,_,h=>by simp at h
 | x :: r,hs,j,d,h=>by
  cases j with
  | zero=>
   simp at h; subst h
   cases x <;> simp[Zaw] at hs ⊢
  | succ j=>
   simp at h
   cases x <;> simp[Zaw] at hs <;> exact Zvb hs h
theorem Zh.of_scalar {w w':World} {G G':Nat→Nat} {β β':Nat→Option (Nat×Nat)} {v:Value} {d:D} (h:Zh w G β v d) (hs:d.scalar=true):Zh w' G' β' v d:=by
 cases h with
 | bool b=>exact .bool b
 | int k n=>exact .int k n
 | str s=>exact .str s
 | tup vs ds f a=>
  refine .tup vs ds f λj v d g e=>?_
  have c:=a j v d g e
  rcases Zvb (by simpa [D.scalar] using hs) e with ⟨b,rfl⟩|⟨k,n,rfl⟩|⟨s,rfl⟩
  ·cases c; exact .bool b
  ·cases c; exact .int k n
  ·cases c; exact .str _
 | _=>simp[D.scalar] at hs
structure Blk where
 sz:Nat
 rows:List (List D)
 /-- so many rows are never written again -/
 frz:Nat
 /-- it holds values without blocks of the call's own -/
 pure:Bool
 /-- handed in by the caller,where it stands still -/
 pin:Option Nat:=none
 /-- the type of its cells,where it is known -/
 ty:Option TypeId:=none
 deriving Inhabited
structure S where
 n:Nat
 tmps:Nat→D
 heap:Nat→Option Blk
def ofL:List (Nat×D)→Nat→D
 | [],_=> .undef
 | (k,d)::r,t=>if t=k then d else ofL r t
def ofB:List (Nat×Blk)→Nat→Option Blk
 | [],_=>none
 | (k,d)::r,t=>if t=k then some d else ofB r t
def mkS (n:Nat) (l:List (Nat×D)) (h:List (Nat×Blk)):S:={ n,tmps:=ofL l,heap:=ofB h }
def S.put (σ:S) (dst:Option Nat) (d:D):S:=
 match dst with
 | some t=>{ σ with tmps:=λu=>if u=t then d else σ.tmps u }
 | none=>σ
def S.setB (σ:S) (b:Nat) (x:Option Blk):S:={ σ with heap:=λu=>if u=b then x else σ.heap u }
def Z00 (w:World) (G:Nat→Nat):Prop:=∀ g l,Zbu.lookup g=some l→l≠[]∧l.length≤G g∧∀ (j:Nat) s,l[j]?=some s→∃ b:ByteArray,b.data.toList=s∧w.cell? ⟨g,j,none⟩=some (.string b)
theorem Z00.mono {w w':World} {G G':Nat→Nat} (h:Z00 w G) (m:∀ b o,o<G b→w'.cell? ⟨b,o,none⟩=w.cell? ⟨b,o,none⟩) (k:∀ b,G b≤G' b):Z00 w' G':=λg l n=>by
 obtain⟨e,f,i⟩:=h g l n
 refine⟨e,Nat.le_trans f (k g),λj s hs=>?_⟩
 obtain⟨b,c,d⟩:=i j s hs
 have p:j<l.length:=by
  rcases Nat.lt_or_ge j l.length with a|a
  ·exact a
  ·rw[List.getElem?_eq_none a] at hs; cases hs
 exact⟨b,c,by rw[m g j (by omega)]; exact d⟩
structure Ctx where
 B:Nat
 X:Nat→Prop
 w0:World
 G0:Nat→Nat
 hB:B≤w0.heap.size
 /-- where the blocks stand that were handed in -/
 pin:Nat→Nat
structure L2 (B:Nat) (X:Nat→Prop) (w w':World):Prop where
 os:w'.os=w.os
 tape:w'.tape=w.tape
 output:w'.output=w.output
 size:w.heap.size≤w'.heap.size
 block:∀ k,k<B→ ¬ X k→w'.heap[k]?=w.heap[k]?
 same:L3 w w'
theorem L2.refl (B:Nat) (X:Nat→Prop) (w:World):L2 B X w w:=⟨rfl,rfl,rfl,Nat.le_refl _,λ_ _ _=>rfl,.refl w⟩
theorem L2.trans {B:Nat} {X:Nat→Prop} {a b c:World} (h:L2 B X a b) (k:L2 B X b c):L2 B X a c:=
 ⟨k.os.trans h.os,k.tape.trans h.tape,k.output.trans h.output,Nat.le_trans h.size k.size,λi d e=>(k.block i d e).trans (h.block i d e),h.same.trans k.same⟩
structure Vr (w:World) (G:Nat→Nat) (β:Nat→Option (Nat×Nat)) (Γ:Ctx) (c:Nat) (blk:Blk):Prop where
 own:Γ.B≤c∨Γ.X c
 pin:∀ k,blk.pin=some k→Γ.pin k=c
 ty:∀ t,blk.ty=some t→∃ vs fr,w.heap[c]?=some (.cells vs t fr)∧fr.1≤fr.2
 frz:∀ o,o<G c→o<blk.frz*blk.sz
 top:blk.frz≤blk.rows.length
 dat:blk.pure=true→∀ (i j:Nat) (r:List D) (d:D),blk.rows[i]?=some r→r[j]?=some d→d.dat=true
 hsz:∀ (i:Nat) (r:List D),blk.rows[i]?=some r→r.length=blk.sz
 cells:∃ vs e fr,w.heap[c]?=some (.cells vs e fr)∧(∀ o,o<vs.size→ ¬ (fr.1≤o∧o<fr.2))∧blk.rows.length*blk.sz≤vs.size∧
  ∀ (i j:Nat) (r:List D) (d:D),blk.rows[i]?=some r→r[j]?=some d→∃ v,vs[i*blk.sz+j]?=some v∧one v=true∧Zh w G β v d
structure Zk (Γ:Ctx) (σ:S) (a:Act) (w:World) (G:Nat→Nat) (β:Nat→Option (Nat×Nat)):Prop where
 defers:a.defers=[]
 size:a.tmps.size=σ.n
 tmps:∀ t,Zh w G β (a.tmps.getD t Go.undef) (σ.tmps t)
 heap:∀ b blk,σ.heap b=some blk→(β b=none∧blk.rows=[]∧blk.frz=0)∨∃ c,β b=some (c,blk.sz)∧Vr w G β Γ c blk
 dom:∀ b x,β b=some x→∃ blk,σ.heap b=some blk
 inj:∀ b b' c s s',β b=some (c,s)→β b'=some (c,s')→b=b'
 kept:L2 Γ.B Γ.X Γ.w0 w
 marks:∀ c,c<Γ.B→ ¬ Γ.X c→G c=Γ.G0 c
 fresh:∀ c,w.heap.size≤c→G c=0
 big:Γ.B≤w.heap.size
 glob:Z00 w G
theorem Y4d {l:Array Value} {t:Nat} {v:Value} (u:Nat) (a:t<l.size):(l.setIfInBounds t v).getD u Go.undef=if u=t then v else l.getD u Go.undef:=by
 simp only[Array.getD_eq_getD_getElem?,Array.getElem?_setIfInBounds]
 by_cases h:u=t
 ·subst h; simp[a]
 ·simp[h,Ne.symm h]
theorem Zk.put {Γ:Ctx} {σ:S} {a:Act} {w:World} {G:Nat→Nat} {β:Nat→Option (Nat×Nat)} (h:Zk Γ σ a w G β) {dst:Option Nat} (c:∀ t,dst=some t→t<σ.n) {v:Value} {d:D}
  (e:Zh w G β v d):Zk Γ (σ.put dst d) (a.put dst v) w G β:=by
 cases dst with
 | none=>exact h
 | some t=>
  have b:t<a.tmps.size:=by rw[h.size]; exact c t rfl
  refine { h with size:=by simp[Act.put,S.put,h.size],tmps:=λu=>?_ }
  simp only[Act.put,S.put]
  rw[Y4d u b]
  split
  ·exact e
  ·exact h.tmps u
end Go.Den
namespace Go.Den
open Go.RowKit
inductive Ans where
 | go
 | yes
 | no
 | val (d:D)
 | row (r:List D)
 | rows (l:List (List D))
def Z4 {α:Type} (l:List α) (i:Int):Option α:=if 0≤i then l[i.toNat]? else none
def Vw (s:List UInt8) (i:Int):Option Int:=if 0≤i then (s[i.toNat]?).map λb=>(b.toNat:Int) else none
def sub {α:Type} (l:List α) (lo a:Int):Option (List α):=if 0≤lo∧lo≤a∧a≤l.length then some ((l.drop lo.toNat).take (a.toNat - lo.toNat)) else none
def aggT (P:Program) (t:TypeId):Option Bool:=
 match P.underlying t with
 | some (.struct _)|some (.array _ _)=>some true
 | some _=>some false
 | none=>none
def Un (P:Program) (t:TypeId):Option Nat:=(P.info? t).map (·.size)
def Ln (P:Program) (t:TypeId):Option TypeId:=match P.underlying t with|some (.slice e)=>some e|_=>none
def D.cells:D→List D
 | .agg cs=>cs
 | d=>[d]
def Z15:Value→D
 | .bool b=> .bool b
 | .int k n=> .int k n
 | .string s=> .str s.data.toList
 | .slice none 0 0=> .sl true []
 | .pointer none=> .nilptr
 | .func (.func f) ⟨[]⟩ ⟨[]⟩=> .fn f
 | _=> .undef
def Z6p:Value→D
 | .agg vs=>if vs.toList.all one then .agg (vs.toList.map Z15) else .undef
 | v=>Z15 v
def S.ev (σ:S):Operand→D
 | .tmp t=>σ.tmps t
 | .const v=>Z6p v
 | .func f=> .fn f
 | .global g=>match Zbu.lookup g with
  | some l=> .ptr (l.map .str)
  | none=> .undef
def U2 (k:IntKind) (n:Int):Ans→Option (D×Prop)
 | .go=>some (.int k n,True)
 | .val (.int a m)=>if a=k then some (.int k m,n=m) else none
 | _=>none
def Lk (b:Bool):Ans→Option (D×Prop)
 | .go=>some (.bool b,True)
 | .val (.bool c)=>some (.bool c,b=c)
 | _=>none
def strD (s:List UInt8):Ans→Option (D×Prop)
 | .go=>some (.str s,True)
 | .val (.str t)=>some (.str t,s=t)
 | _=>none
def bitsD (op:BinOp) (k:IntKind) (x y:Int):Option Int:=
 let a:=BitVec.ofInt k.bits x
 let b:=BitVec.ofInt k.bits y
 match op with
 | .and=>some (k.wrap (a &&& b).toNat)
 | .or=>some (k.wrap (a ||| b).toNat)
 | .xor=>some (k.wrap (a ^^^ b).toNat)
 | .andNot=>some (k.wrap (a &&& ~~~b).toNat)
 | _=>none
def cmpD (op:BinOp) (x y:Int):Option Bool:=
 match op with
 | .eql=>some (x==y)
 | .neq=>some (x !=y)
 | .lss=>some (decide (x<y))
 | .leq=>some (decide (x≤y))
 | .gtr=>some (decide (x>y))
 | .geq=>some (decide (x≥y))
 | _=>none
def Zl7 (op:BinOp) (k:IntKind) (a b:Int) (ans:Ans):Option (D×Prop):=
 match op with
 | .add=>U2 k (k.wrap (a+b)) ans
 | .sub=>U2 k (k.wrap (a - b)) ans
 | .mul=>U2 k (k.wrap (a*b)) ans
 | .quo=>(U2 k (k.wrap (a.tdiv b)) ans).map λx=>(x.1,b≠0∧x.2)
 | .rem=>(U2 k (a.tmod b) ans).map λx=>(x.1,b≠0∧x.2)
 | .and|.or|.xor|.andNot=>
  match bitsD op k a b with
  | some n=>U2 k n ans
  | none=>none
 | op=>
  match cmpD op a b with
  | some c=>Lk c ans
  | none=>none
def Zok (op:BinOp) (k:IntKind) (a y:Int) (ans:Ans):Option (D×Prop):=
 match op with
 | .shl=>(U2 k (k.wrap (a*2 ^ (min y.toNat k.bits))) ans).map λx=>(x.1,0≤y∧x.2)
 | .shr=>(U2 k (a.fdiv (2 ^ (min y.toNat k.bits))) ans).map λx=>(x.1,0≤y∧x.2)
 | _=>none
def Zj2 (op:BinOp) (a b:List UInt8) (ans:Ans):Option (D×Prop):=
 match op with
 | .add=>(strD (a++b) ans).map λx=>(x.1,a.length+b.length≤9223372036854775807∧x.2)
 | .eql=>Lk (a==b) ans
 | .neq=>Lk (!(a==b)) ans
 | .lss=>Lk (Op.bytesLess a b) ans
 | .leq=>Lk (Op.bytesLess a b||a==b) ans
 | .gtr=>Lk (!(Op.bytesLess a b||a==b)) ans
 | .geq=>Lk (!Op.bytesLess a b) ans
 | _=>none
def Z0w (P:Program) (t:TypeId) (cs:List D) (off:Nat):Option D:=
 match aggT P t,Un P t with
 | some true,some s=>if ((cs.drop off).take s).length=s then some (.agg ((cs.drop off).take s)) else none
 | some false,some _=>cs[off]?
 | _,_=>none
def Zbm (P:Program) (f:TypeId→D→D→Option (Bool×Prop)) (xs ys:List D):List Field→Option (Bool×Prop)
 | [] =>some (true,True)
 | x :: fs=>
  match Z0w P x.type xs x.offset,Z0w P x.type ys x.offset with
  | some a,some b=>
   match f x.type a b,Zbm P f xs ys fs with
   | some (r, p), some (c, q) => some (r && c, x.name ≠ "_" ∧ p ∧ q)
   | _,_=>none
  | _,_=>none
def Zbl (P:Program):Nat→TypeId→D→D→Option (Bool×Prop)
 | 0,_,_,_=>none
 | m + 1,t,x,y=>
  match P.underlying t,x,y with
  | some .bool,.bool a,.bool b=>some (a==b,True)
  | some (.int _),.int k a,.int c b=>if k=c then some (a==b,True) else none
  | some .string,.str a,.str b=>some (a==b,True)
  | some (.struct fs),.agg xs,.agg ys=>
   match Zbm P (Zbl P m) xs ys fs.toList with
   | some (r,p)=>some (r,P.stoodInHeld t=false∧p)
   | none=>none
  | _,_,_=>none
def ptrD (P:Program) (op:BinOp) (xt:TypeId) (same:Bool):Option (D×Prop):=
 match P.underlying xt with
 | some (.pointer te)=>match P.info? te with
  | some _=>match op with
   | .eql=>some (.bool same,True)
   | .neq=>some (.bool (!same),True)
   | _=>none
  | none=>none
 | _=>none
def binD (P:Program) (op:BinOp) (xt:TypeId) (x y:D) (ans:Ans):Option (D×Prop):=
 match x,y with
 | .int k a,.int f b=>
  match op with
  | .shl|.shr=>Zok op k a b ans
  | _=>if k=f then Zl7 op k a b ans else none
 | .str a,.str b=>Zj2 op a b ans
 | .bool a,.bool b=>
  match P.underlying xt with
  | some .bool=>
   match op with
   | .eql=>Lk (a==b) ans
   | .neq=>Lk (!(a==b)) ans
   | _=>none
  | _=>none
 | .agg a,.agg b=>
  match Zbl P 6 xt (.agg a) (.agg b),ans with
  | some (r,p),.val (.bool c)=>
   match op with
   | .eql=>some (.bool c,P.eqGuardType P.depth xt=false∧p∧r=c)
   | .neq=>some (.bool c,P.eqGuardType P.depth xt=false∧p∧(!r)=c)
   | _=>none
  | _,_=>none
 | .nilptr,.nilptr=>ptrD P op xt true
 | .lptr _ _ _,.nilptr=>ptrD P op xt false
 | .lptr b i o,.lptr d e g=>match Nat.beq b d&&Nat.beq i e&&Nat.beq o g with
  | true=>ptrD P op xt true
  | false=>none
 | _,_=>none
def unD (op:UnOp) (x:D) (ans:Ans):Option (D×Prop):=
 match op,x with
 | .neg,.int k n=>U2 k (k.wrap (0 - n)) ans
 | .not,.bool b=>Lk (!b) ans
 | _,_=>none
def Zbj (P:Program) (src dst:TypeId) (x:D) (ans:Ans):Option (D×Prop):=
 match P.underlying src,P.underlying dst,x with
 | some (.int _),some (.int k),.int _ n=>U2 k (k.wrap n) ans
 | some .string,some .string,.str s=>some (.str s,True)
 | some (.int _),some .string,.int _ n=>strD (Utf8.encode n).data.toList ans
 | _,_,_=>none
def Zbp (P:Program) (s:TypeId) (f:Nat):Option (Nat×TypeId):=
 match P.underlying s with
 | some (.struct fs)=>
  match fs[f]? with
  | some x=>some (x.offset,x.type)
  | none=>none
 | _=>none
def Mb (σ:S) (x:D) (ans:Ans):Option (List D×Prop):=
 match x with
 | .ptr cs=>some (cs,True)
 | .lptr b i o=>
  match σ.heap b with
  | some blk=>
   match ans with
   | .row r=>some (r.drop o,blk.rows[i]?=some r)
   | _=>
    match blk.rows[i]? with
    | some r=>some (r.drop o,True)
    | none=>none
  | none=>none
 | _=>none
def Ls (P:Program) (σ:S) (t:TypeId) (x:D) (ans:Ans):Option (D×Prop):=
 match Mb σ x ans with
 | some (cs,p)=>
  match Z0w P t cs 0 with
  | some d=>some (d,p)
  | none=>none
 | none=>none
def Zkt (P:Program) (s:TypeId) (x:D) (f:Nat):Option D:=
 match Zbp P s f with
 | some (off,t)=>
  match Un P t with
  | some (_+1)=>
   match x with
   | .ptr cs=>some (.ptr (cs.drop off))
   | .lptr b i o=>some (.lptr b i (o+off))
   | _=>none
  | _=>none
 | none=>none
def Z0d (P:Program) (σ:S) (t:TypeId) (x i:D) (ans:Ans):Option (D×Prop):=
 match i with
 | .int _ i=>
  match P.underlying t with
  | some (.slice e)=>
   match Un P e with
   | some sz=>
    match x with
    | .sl _ rows=>
     match ans with
     | .row r=>if r.length=sz then some (.ptr r,Z4 rows i=some r) else none
     | _=>
      match Z4 rows i with
      | some r=>if r.length=sz then some (.ptr r,True) else none
      | none=>none
    | .lsl b lo n=>
     match σ.heap b with
     | some blk=>
      if blk.sz=sz then
       match ans with
       | .val (.lptr a j 0)=>if a=b then some (.lptr b j 0,0≤i∧i<n∧(lo:Int)+i=j) else none
       | _=>some (.lptr b (lo+i.toNat) 0,0≤i∧i<n)
      else none
     | none=>none
    | _=>none
   | none=>none
  | some (.array len e)=>
   match Un P e with
   | some sz=>
    match x with
    | .lptr b r o=>some (.lptr b r (o+i.toNat*sz),0≤i∧i<len)
    | .ptr cs=>
     match ans with
     | .row r=>some (.ptr r,0≤i∧i<len∧(cs.drop (i.toNat*sz)).take r.length=r)
     | _=>some (.ptr (cs.drop (i.toNat*sz)),0≤i∧i<len)
    | _=>none
   | none=>none
  | _=>none
 | _=>none
def Zl6 (P:Program) (t:TypeId) (x i:D) (ans:Ans):Option (D×Prop):=
 match i with
 | .int _ i=>
  match P.underlying t,x with
  | some .string,.str s=>
   match ans with
   | .val (.int .u8 c)=>some (.int .u8 c,Vw s i=some c)
   | _=>
    match Vw s i with
    | some c=>some (.int .u8 c,True)
    | none=>none
  | some (.array len e),.agg cs=>
   match Un P e with
   | some sz=>
    match Z0w P e cs (i.toNat*sz) with
    | some d=>some (d,0≤i∧i<len)
    | none=>none
   | none=>none
  | _,_=>none
 | _=>none
def Z07 (x:Option D) (dflt:Int):Option Int:=
 match x with
 | none=>some dflt
 | some (.int _ i)=>some i
 | some _=>none
def Z11 (P:Program) (σ:S) (t:TypeId) (x:D) (lo a mx:Option D) (ans:Ans):Option (D×Prop):=
 match P.underlying t,x with
 | some .string,.str s=>
  match mx,Z07 lo 0,Z07 a s.length with
  | none,some l,some h=>
   match ans with
   | .val (.str r)=>some (.str r,sub s l h=some r)
   | _=>
    match sub s l h with
    | some r=>some (.str r,True)
    | none=>none
  | _,_,_=>none
 | some (.slice e),.sl _ rows=>
  match Un P e with
  | some sz=>
   match mx,Z07 lo 0,Z07 a rows.length with
   | none,some l,some h=>
    match ans with
    | .rows r=>some (.sl false r,(∀ x∈rows,x.length=sz)∧sub rows l h=some r)
    | _=>
     match sub rows l h with
     | some r=>some (.sl false r,∀ x∈rows,x.length=sz)
     | none=>none
   | some m,some l,some h=>
    match a,Z07 (some m) 0 with
    | some _,some m=>
     match ans with
     | .rows r=>some (.sl true r,(∀ x∈rows,x.length=sz)∧m=h∧sub rows l h=some r)
     | _=>
      match sub rows l h with
      | some r=>some (.sl true r,(∀ x∈rows,x.length=sz)∧m=h)
      | none=>none
    | _,_=>none
   | _,_,_=>none
  | none=>none
 | some (.slice e),.lsl b l0 n=>
  match σ.heap b,Un P e with
  | some blk,some sz=>
   if blk.sz=sz then
    match mx,Z07 lo 0,Z07 a n with
    | none,some l,some h=>some (.lsl b (l0+l.toNat) (h.toNat - l.toNat),0≤l∧l≤h∧h≤n)
    | _,_,_=>none
   else none
  | _,_=>none
 | _,_=>none
def lenD (P:Program) (t:TypeId) (x:D) (ans:Ans):Option (D×Prop):=
 match P.underlying t,x with
 | some .string,.str s=>U2 .i64 s.length ans
 | some (.slice _),.sl _ rows=>U2 .i64 rows.length ans
 | some (.slice _),.lsl _ _ n=>U2 .i64 n ans
 | some (.array n _),_=>U2 .i64 n ans
 | _,_=>none
def Zib (c a b:D) (ans:Ans):Option (D×Prop):=
 match c with
 | .bool c=>
  match ans with
  | .yes=>some (a,c=true)
  | .no=>some (b,c=false)
  | _=>
   match c with
   | true=>some (a,True)
   | false=>some (b,True)
 | _=>none
def maxD (x y:D) (ans:Ans):Option (D×Prop):=
 match x,y with
 | .int k a,.int _ b=>U2 k (if b>a then b else a) ans
 | _,_=>none
def minD (x y:D) (ans:Ans):Option (D×Prop):=
 match x,y with
 | .int k a,.int _ b=>U2 k (if b<a then b else a) ans
 | _,_=>none
def cloD:List D→Option (List Nat)
 | [] =>some []
 | .lptr b 0 0::r=>match cloD r with
  | some l=>some (b::l)
  | none=>none
 | _=>none
def Q1 (P:Program) (σ:S) (o:Oper) (ans:Ans):Option (D×Prop):=
 match o.op with
 | .move x|.assign x=>some (σ.ev x,True)
 | .pick c a b=>Zib (σ.ev c) (σ.ev a) (σ.ev b) ans
 | .binOp op xt x y _=>binD P op xt (σ.ev x) (σ.ev y) ans
 | .unOp op _ x=>unD op (σ.ev x) ans
 | .convert src dst x=>Zbj P src dst (σ.ev x) ans
 | .load t x=>Ls P σ t (σ.ev x) ans
 | .fieldAddr s x f=>
  match Zkt P s (σ.ev x) f with
  | some d=>some (d,True)
  | none=>none
 | .field s x f=>
  match σ.ev x,Zbp P s f with
  | .agg cs,some (off,t)=>
   match Z0w P t cs off with
   | some d=>some (d,True)
   | none=>none
  | _,_=>none
 | .indexAddr t x i=>Z0d P σ t (σ.ev x) (σ.ev i) ans
 | .index t x i=>Zl6 P t (σ.ev x) (σ.ev i) ans
 | .slice t x lo e mx=>Z11 P σ t (σ.ev x) (lo.map σ.ev) (e.map σ.ev) (mx.map σ.ev) ans
 | .extract x i=>
  match σ.ev x with
  | .tup vs=>
   match vs[i]? with
   | some d=>some (d,True)
   | none=>none
  | _=>none
 | .nilCheck x=>
  match σ.ev x with
  | .ptr cs=>some (.ptr cs,True)
  | .lptr b i j=>some (.lptr b i j,True)
  | _=>none
 | .call { callee:= .builtin .len,args,argTypes }=>
  match args[0]?,argTypes[0]? with
  | some x,some t=>lenD P t (σ.ev x) ans
  | _,_=>none
 | .call { callee:= .builtin .unsafeSliceData,args:=⟨[x]⟩,.. }=>
  match σ.ev x with
  | .lsl b 0 n=>some (.lptr b 0 0,0<n)
  | _=>none
 | .call { callee:= .builtin .max,args:=⟨[x,y]⟩,.. }=>maxD (σ.ev x) (σ.ev y) ans
 | .call { callee:= .builtin .min,args:=⟨[x,y]⟩,.. }=>minD (σ.ev x) (σ.ev y) ans
 | .makeFunc f first captured=>
  match f,first,cloD (captured.toList.map σ.ev) with
  | .func f,⟨[]⟩,some bs=>some (.clo f bs,True)
  | _,_,_=>none
 | _=>none
end Go.Den
namespace Go.Den
open Go.RowKit
variable {P:Program} {Γ:Ctx} {σ:S} {a:Act} {w:World} {G:Nat→Nat} {β:Nat→Option (Nat×Nat)}
theorem Zaz (s:ByteArray) (l:List UInt8) (h:s.data.toList=l):Zh w G β (.string s) (.str l):=h ▸ .str s
theorem Zk7 (v:Value):Zh w G β v (Z15 v):=by
 unfold Z15
 split
 ·exact .bool _
 ·exact .int _ _
 ·exact .str _
 ·exact .slnil _ _
 ·exact .nilptr
 ·exact .fn _
 ·exact .undef _
theorem Y3m (v:Value):Zh w G β v (Z6p v):=by
 unfold Z6p
 split
 ·split
  ·rename_i vs e
   refine .agg vs _ (by simp) (λj v b=>?_) (λj v d b c=>?_)
   ·exact List.all_eq_true.1 e v (List.mem_of_getElem? (i:=j) (by simpa using b))
   ·simp only[List.getElem?_map,Array.getElem?_toList,b,Option.map_some,Option.some.injEq] at c
    subst c
    exact Zk7 v
  ·exact .undef _
 ·exact Zk7 _
theorem Qg {α β:Type} {o:Option α} {f:α→β} {b:β} (h:o.map f=some b):∃ x,o=some x∧f x=b:=by
 cases o with
 | none=>cases h
 | some x=>exact⟨x,rfl,by injection h⟩
theorem Y4g (h:Z00 w G) (g:Nat):Zh w G β (.pointer (some ⟨g,0,none⟩)) (match Zbu.lookup g with
  | some l=> .ptr (l.map .str)
  | none=> .undef):=by
 split
 ·rename_i l o
  obtain⟨_,p,n⟩:=h g l o
  have hs:∀ j d,(l.map D.str)[j]?=some d→∃ b:ByteArray,d=.str b.data.toList∧w.cell? ⟨g,j,none⟩=some (.string b):=λj d f=>by
   rw[List.getElem?_map] at f
   obtain⟨s,k,rfl⟩:=Qg f
   obtain⟨b,rfl,m⟩:=n j s k
   exact⟨b,rfl,m⟩
  have i:∀ j,j<(l.map D.str).length→∃ b:ByteArray,w.cell? ⟨g,j,none⟩=some (.string b):=λj i=>by
   obtain⟨b,_,e⟩:=hs j _ (List.getElem?_eq_getElem i)
   exact⟨b,e⟩
  refine .ptr g 0 _ (λj=>(w.cell? ⟨g,j,none⟩).getD Go.undef) (λj i=>by rw[List.length_map] at i; omega) (λj c=>?_) (λj c=>?_) (λj d f=>?_) (λj d f=>?_)
  ·obtain⟨b,e⟩:=i j c
   rw[Nat.zero_add,e]; rfl
  ·obtain⟨b,e⟩:=i j c
   rw[e]; rfl
  ·obtain⟨b,rfl,_⟩:=hs j d f; rfl
  ·obtain⟨b,rfl,e⟩:=hs j d f
   rw[e]; exact .str b
 ·exact .undef _
theorem W8 (h:Zk Γ σ a w G β) (x:Operand):Zh w G β (a.eval x) (σ.ev x):=by
 cases x with
 | tmp t=>exact h.tmps t
 | const v=>exact Y3m v
 | global g=>exact Y4g h.glob g
 | func f=>exact .fn f
theorem U0 {v:Value} {k:IntKind} {n:Int} (h:Zh w G β v (.int k n)):v=.int k n:=by cases h; rfl
theorem Z0e {v:Value} {b:Bool} (h:Zh w G β v (.bool b)):v=.bool b:=by cases h; rfl
theorem Z0f {v:Value} {s:List UInt8} (h:Zh w G β v (.str s)):∃ b:ByteArray,v=.string b∧b.data.toList=s:=by cases h; exact⟨_,rfl,rfl⟩
theorem L9 {v:Value} {cs:List D} (h:Zh w G β v (.agg cs)):∃ vs,v=.agg vs∧cs.length=vs.size∧(∀ (j:Nat) v,vs[j]?=some v→one v=true)∧
  (∀ (j:Nat) v d,vs[j]?=some v→cs[j]?=some d→Zh w G β v d):=by cases h; exact⟨_,rfl,‹_›,‹_›,‹_›⟩
theorem Ub {k:IntKind} {n:Int} {ans:Ans} {d:D} {p:Prop} (h:U2 k n ans=some (d,p)) (hp:p):Zh w G β (.int k n) d:=by
 unfold U2 at h
 split at h
 ·cases h; exact .int _ _
 ·split at h
  ·cases h; rw[show n=_ from hp]; rename_i b; subst b; exact .int _ _
  ·cases h
 ·cases h
theorem Ma {b:Bool} {ans:Ans} {d:D} {p:Prop} (h:Lk b ans=some (d,p)) (hp:p):Zh w G β (.bool b) d:=by
 unfold Lk at h
 split at h
 ·cases h; exact .bool _
 ·cases h; rw[show b=_ from hp]; exact .bool _
 ·cases h
theorem Zz5 {s:ByteArray} {l:List UInt8} (hs:s.data.toList=l) {ans:Ans} {d:D} {p:Prop} (h:strD l ans=some (d,p)) (hp:p):Zh w G β (.string s) d:=by
 unfold strD at h
 split at h
 ·cases h; exact Zaz _ _ hs
 ·cases h; exact Zaz _ _ (hs.trans hp)
 ·cases h
def W6 (P:Program) (w:World) (G:Nat→Nat) (β:Nat→Option (Nat×Nat)) (s:Sem Value) (d:D):Prop:=∃ v,s.run P w=.ok v w∧Zh w G β v d
theorem Y4r {op:BinOp} (f:op≠ .shl) (g:op≠ .shr) {k:IntKind} {x y:Int} {ans:Ans} {d:D} {p:Prop} (h:Zl7 op k x y ans=some (d,p)) (hp:p) (t:TypeId):
  W6 P w G β (Go.binOp op t (.int k x) (.int k y)) d:=by
 cases op with
 | shl=>exact absurd rfl f
 | shr=>exact absurd rfl g
 | add=>exact⟨_,by simp[binOp,Op.intArith],Ub h hp⟩
 | sub=>exact⟨_,by simp[binOp,Op.intArith],Ub h hp⟩
 | mul=>exact⟨_,by simp[binOp,Op.intArith],Ub h hp⟩
 | quo=>
  obtain⟨z,e,c⟩:=Qg h
  cases c
  obtain⟨b,hp⟩:=hp
  exact⟨_,by simp[binOp,Op.intDiv,b],Ub e hp⟩
 | rem=>
  obtain⟨z,e,c⟩:=Qg h
  cases c
  obtain⟨b,hp⟩:=hp
  exact⟨_,by simp[binOp,Op.intDiv,b],Ub e hp⟩
 | and=>exact⟨_,by simp[binOp,Op.intBits],Ub h hp⟩
 | or=>exact⟨_,by simp[binOp,Op.intBits],Ub h hp⟩
 | xor=>exact⟨_,by simp[binOp,Op.intBits],Ub h hp⟩
 | andNot=>exact⟨_,by simp[binOp,Op.intBits],Ub h hp⟩
 | eql=>exact⟨_,by simp[binOp,Op.intCmp],Ma h hp⟩
 | neq=>exact⟨_,by simp[binOp,Op.intCmp],Ma h hp⟩
 | lss=>exact⟨_,by simp[binOp,Op.intCmp],Ma h hp⟩
 | leq=>exact⟨_,by simp[binOp,Op.intCmp],Ma h hp⟩
 | gtr=>exact⟨_,by simp[binOp,Op.intCmp],Ma h hp⟩
 | geq=>exact⟨_,by simp[binOp,Op.intCmp],Ma h hp⟩
theorem Zvd {op:BinOp} {k f:IntKind} {x y:Int} {ans:Ans} {d:D} {p:Prop} (h:Zok op k x y ans=some (d,p)) (hp:p) (t:TypeId):
  W6 P w G β (Go.binOp op t (.int k x) (.int f y)) d:=by
 unfold Zok at h
 split at h
 ·obtain⟨z,e,c⟩:=Qg h
  cases c
  obtain⟨b,hp⟩:=hp
  exact⟨_,by simp[binOp,Op.shift,Int.not_lt.2 b],Ub e hp⟩
 ·obtain⟨z,e,c⟩:=Qg h
  cases c
  obtain⟨b,hp⟩:=hp
  exact⟨_,by simp[binOp,Op.shift,Int.not_lt.2 b],Ub e hp⟩
 ·cases h
theorem Y6v {op:BinOp} {x y:ByteArray} {ans:Ans} {d:D} {p:Prop} (h:Zj2 op x.data.toList y.data.toList ans=some (d,p)) (hp:p) (t:TypeId):
  W6 P w G β (Go.binOp op t (.string x) (.string y)) d:=by
 unfold Zj2 at h
 split at h
 ·obtain⟨z,f,e⟩:=Qg h
  cases e
  obtain⟨j,hp⟩:=hp
  refine⟨.string (x++y),?_,Zz5 (by simp) f hp⟩
  have b: ¬ (((x.size+y.size:Nat):Int)>IntKind.i64.max):=by
   have c:IntKind.i64.max=9223372036854775807:=rfl
   rw[c]
   have g:x.data.toList.length=x.size:=rfl
   have i:y.data.toList.length=y.size:=rfl
   omega
  simp only[binOp,Op.stringOp,if_neg b]
  simp
 all_goals first
  | exact⟨_,by simp[binOp,Op.stringOp,ByteArray.toList_eq],Ma h hp⟩
  | cases h
theorem Z2n {op:BinOp} {t:TypeId} {x y:Operand} {u v:Value} (b:∀ cs,u≠ .agg cs) (c:u≠ .nilIface):(eqGuard op t x y u v).run P w=.ok () w:=by
 cases op <;> first|rfl|(cases u <;> first|rfl|exact absurd rfl (b _)|exact absurd rfl c)
theorem Y77 {op:UnOp} {u:Value} {dx:D} (b:Zh w G β u dx) {ans:Ans} {d:D} {p:Prop} (h:unD op dx ans=some (d,p)) (hp:p):W6 P w G β (Op.unary op u) d:=by
 unfold unD at h
 split at h
 ·rw[U0 b]; exact⟨_,by simp[Op.unary,Op.intArith],Ub h hp⟩
 ·rw[Z0e b]; exact⟨_,by simp[Op.unary],Ma h hp⟩
 ·cases h
theorem Y3n {src dst:TypeId} {u:Value} {dx:D} (e:Zh w G β u dx) {ans:Ans} {d:D} {p:Prop} (h:Zbj P src dst dx ans=some (d,p)) (hp:p):W6 P w G β (convert src dst u) d:=by
 unfold Zbj at h
 split at h
 ·rename_i b c
  rw[U0 e]; exact⟨_,by simp[convert,run_underlying b,run_underlying c,Conv.intToInt],Ub h hp⟩
 ·rename_i b c
  obtain⟨s,rfl,rfl⟩:=Z0f e
  cases h
  exact⟨_,by simp[convert,run_underlying b,run_underlying c],.str _⟩
 ·rename_i b c
  rw[U0 e]; exact⟨_,by simp[convert,run_underlying b,run_underlying c,Conv.intToString],Zz5 rfl h hp⟩
 ·cases h
theorem Y5p {u v x:Value} {dc da db:D} (e:Zh w G β u dc) (b:Zh w G β v da) (c:Zh w G β x db) {ans:Ans} {d:D} {p:Prop} (h:Zib dc da db ans=some (d,p)) (hp:p):
  W6 P w G β (do pure (if ← asBool u then v else x)) d:=by
 unfold Zib at h
 split at h
 ·rw[Z0e e]
  split at h
  ·cases h; exact⟨v,by simp[asBool,show _=true from hp],b⟩
  ·cases h; exact⟨x,by simp[asBool,show _=false from hp],c⟩
  ·split at h
   ·cases h; exact⟨v,by simp[asBool],b⟩
   ·cases h; exact⟨x,by simp[asBool],c⟩
 ·cases h
theorem Kk {t:TypeId} {n:Nat} (h:Un P t=some n) (w:World):(sizeOf t).run P w=.ok n w:=by
 unfold Un at h
 obtain⟨i,b,rfl⟩:=Qg h
 simp[sizeOf,typeInfo,b]
theorem Zip {t:TypeId} {b:Bool} (h:aggT P t=some b) (w:World):(isAgg t).run P w=.ok b w:=by
 unfold aggT at h
 split at h
 ·cases h; rename_i c; simp[isAgg,run_underlying c]
 ·cases h; rename_i c; simp[isAgg,run_underlying c]
 ·cases h; rename_i d e f c
  simp only[isAgg,Sem.run_bind,run_underlying c,Result.andThen_ok]
  rfl
 ·cases h
def CRep (w:World) (G:Nat→Nat) (β:Nat→Option (Nat×Nat)) (b off:Nat) (cs:List D):Prop:=
 ∀ (j:Nat) d,cs[j]?=some d→∃ v,w.cell? ⟨b,off+j,none⟩=some v∧one v=true∧Zh w G β v d
theorem Addr.add_none (b o n:Nat):(⟨b,o,none⟩:Addr).add n=⟨b,o+n,none⟩:=by
 unfold Addr.add
 split
 ·subst_vars; rfl
 ·rfl
theorem Y55 {t:TypeId} {b off:Nat} {cs:List D} (h:CRep w G β b off cs) {d:D} (g:Z0w P t cs 0=some d):W6 P w G β (loadVar t ⟨b,off,none⟩) d:=by
 unfold Z0w at g
 split at g
 ·rename_i s l n
  split at g
  ·rename_i o
   cases g
   simp only[List.drop_zero] at o ⊢
   have hs:s≤cs.length:=by simp at o; omega
   have i:∀ j,j<s→∃ v,w.cell? ⟨b,off+j,none⟩=some v∧one v=true∧∀ d,cs[j]?=some d→Zh w G β v d:=λj e=>by
    obtain⟨v,a1,a2,k⟩:=h j cs[j] (List.getElem?_eq_getElem (by omega))
    exact⟨v,a1,a2,λd g=>by rw[List.getElem?_eq_getElem (by omega)] at g; cases g; exact k⟩
   let f:Nat→Value:=λj=>if e:j<s then Classical.choose (i j e) else Go.undef
   have m:∀ j,(e:j<s)→w.cell? ⟨b,off+j,none⟩=some (f j)∧one (f j)=true∧∀ d,cs[j]?=some d→Zh w G β (f j) d:=λj e=>by
    have:=Classical.choose_spec (i j e)
    simpa [f,e] using this
   refine⟨.agg ((List.range s).map f).toArray,?_,?_⟩
   ·simp only[loadVar,Sem.run_bind,Zip l,Result.andThen_ok,if_true,Kk n]
    have:=run_loadCells (P:=P) w ⟨b,off,none⟩ s f (λj e=>by rw[Addr.add_none]; exact(m j e).1)
    simp[this]
   ·refine .agg _ _ (by simp[hs]) (λj v e=>?_) (λj v d e g=>?_)
    ·by_cases c:j<s
     ·simp[c] at e; subst e; exact(m j c).2.1
     ·simp[c] at e
    ·by_cases c:j<s
     ·simp[c] at e; subst e
      rw[List.getElem?_take_of_lt c] at g
      exact(m j c).2.2 d g
     ·simp[c] at e
  ·cases g
 ·rename_i l n
  obtain⟨v,a1,a2,k⟩:=h 0 d g
  refine⟨v,?_,k⟩
  simp only[loadVar,Sem.run_bind,Zip l,Result.andThen_ok]
  simp[show w.cell? ⟨b,off,none⟩=some v from a1]
 ·cases g
theorem Zsd (F:Zk Γ σ a w G β) {u:Value} {x:D} (A:Zh w G β u x) {ans:Ans} {cs:List D} {p:Prop} (h:Mb σ x ans=some (cs,p)) (hp:p):
  ∃ b off,u=.pointer (some ⟨b,off,none⟩)∧CRep w G β b off cs:=by
 unfold Mb at h
 split at h
 ·cases h
  cases A with
  | ptr b off cs val y g m t n=>
   refine⟨b,off,rfl,λj d k=>?_⟩
   have z:j<cs.length:=by
    rcases Nat.lt_or_ge j cs.length with h|h
    ·exact h
    ·rw[List.getElem?_eq_none h] at k; cases k
   exact⟨_,g j z,m j z,n j d k⟩
 ·rename_i b i o
  cases A with
  | lptr _ _ _ c sz q=>
   split at h
   ·rename_i blk l
    rcases F.heap b blk l with ⟨s,-⟩|⟨c',s,hB⟩
    ·rw[s] at q; cases q
    ·rw[s] at q; cases q
     obtain⟨vs,e,fr,H,-,-,f⟩:=hB.cells
     have key:∀ r,blk.rows[i]?=some r→CRep w G β c (i*blk.sz+o) (r.drop o):=λr I j d k=>by
      rw[List.getElem?_drop] at k
      obtain⟨v,B,C,E⟩:=f i (o+j) r d I k
      refine⟨v,?_,C,E⟩
      simp only[World.cell?,H]
      simpa [Nat.add_assoc] using B
     refine⟨c,i*blk.sz+o,rfl,?_⟩
     split at h
     ·cases h; exact key _ hp
     ·split at h
      ·cases h; exact key _ (by assumption)
      ·cases h
   ·cases h
 ·cases h
theorem Ztl (f:Zk Γ σ a w G β) {u:Value} {x:D} (j:Zh w G β u x) {t:TypeId} {ans:Ans} {d:D} {p:Prop} (h:Ls P σ t x ans=some (d,p)) (hp:p):
  W6 P w G β (Instr.loadAt t u) d:=by
 unfold Ls at h
 split at h
 ·rename_i cs q hq
  split at h
  ·rename_i d' i
   cases h
   obtain⟨b,off,rfl,g⟩:=Zsd f j hq hp
   obtain⟨v,c,e⟩:=Y55 g i
   exact⟨v,by simpa [Instr.loadAt,Instr.sureAddr] using c,e⟩
  ·cases h
 ·cases h
theorem Zh.ptr_drop {b off:Nat} {cs:List D} {val:Nat→Value} (g:∀ j,j<cs.length→off+j<G b)
  (c:∀ j,j<cs.length→w.cell? ⟨b,off+j,none⟩=some (val j)) (i:∀ j,j<cs.length→one (val j)=true) (f:∀ (j:Nat) d,cs[j]?=some d→d.dat=true)
  (k:∀ (j:Nat) d,cs[j]?=some d→Zh w G β (val j) d) (n:Nat):Zh w G β (.pointer (some ⟨b,off+n,none⟩)) (.ptr (cs.drop n)):=by
 refine .ptr b (off+n) _ (λj=>val (n+j)) (λj h=>?_) (λj h=>?_) (λj h=>?_) (λj d e=>by rw[List.getElem?_drop] at e; exact f _ d e) (λj d e=>?_)
 ·simp at h; have:=g (n+j) (by omega); omega
 ·simp at h; have:=c (n+j) (by omega); rwa [Nat.add_assoc]
 ·simp at h; exact i _ (by omega)
 ·rw[List.getElem?_drop] at e; exact k _ d e
theorem Y4b {u:Value} {x:D} (o:Zh w G β u x) {s:TypeId} {f:Nat} {d:D} (h:Zkt P s x f=some d):W6 P w G β (Instr.fieldAt s u f) d:=by
 unfold Zkt Zbp at h
 split at h
 ·rename_i off t i
  split at i
  ·rename_i fs p
   split at i
   ·rename_i y q
    cases i
    split at h
    ·rename_i n hsz
     have run:∀ ad:Addr,ad.spot=none→(Instr.fieldAt s (.pointer (some ad)) f).run P w=.ok (.pointer (some ⟨ad.block,ad.off+y.offset,none⟩)) w:=λad m=>by
      obtain⟨bb,oo,ss⟩:=ad
      cases m
      simp[Instr.fieldAt,run_underlying p,q,Instr.sureAddr,fieldPlace,Kk hsz,Addr.add_none]
     split at h
     ·cases h
      cases o with
      | ptr b off cs val j e k g l=>
       exact⟨_,run _ rfl,Zh.ptr_drop j e k g l _⟩
     ·cases h
      cases o with
      | lptr _ _ _ c sz r=>exact⟨_,run _ rfl,by simp only[Nat.add_assoc]; exact .lptr _ _ _ c sz r⟩
     ·cases h
    ·cases h
   ·cases i
  ·cases i
 ·cases h
theorem Y4f {α:Type} {l:List α} {i:Int} {x:α} (h:Z4 l i=some x):∃ n:Nat,i=n∧l[n]?=some x∧n<l.length:=by
 unfold Z4 at h
 split at h
 ·rename_i c
  refine⟨i.toNat,by omega,h,?_⟩
  rcases Nat.lt_or_ge i.toNat l.length with b|b
  ·exact b
  ·rw[List.getElem?_eq_none b] at h; cases h
 ·cases h
theorem Zv3 {t e:TypeId} {sz:Nat} (f:P.underlying t=some (.slice e)) (hs:Un P e=some sz) (b o len cap:Nat) (k:IntKind) (i:Int) (c:0≤i) (d:i<len):
  (Instr.indexAt t (.slice (some ⟨b,o,none⟩) len cap) (.int k i)).run P w=.ok (.pointer (some ⟨b,o+i.toNat*sz,none⟩)) w:=by
 simp[Instr.indexAt,asIntOf,run_underlying f,c,d,Kk hs,Addr.add_none]
theorem Zoh {t e:TypeId} {n sz:Nat} (f:P.underlying t=some (.array n e)) (hs:Un P e=some sz) (b o:Nat) (k:IntKind) (i:Int) (c:0≤i) (d:i<n):
  (Instr.indexAt t (.pointer (some ⟨b,o,none⟩)) (.int k i)).run P w=.ok (.pointer (some ⟨b,o+i.toNat*sz,none⟩)) w:=by
 simp[Instr.indexAt,asIntOf,run_underlying f,c,d,Kk hs,Addr.add_none,Instr.sureAddr]
theorem Y4l (U : Zk Γ σ a w G β) {u v:Value} {x i:D} (M:Zh w G β u x) (W:Zh w G β v i) {t:TypeId} {ans:Ans} {d:D} {p:Prop}
  (h:Z0d P σ t x i ans=some (d,p)) (hp:p):W6 P w G β (Instr.indexAt t u v) d:=by
 unfold Z0d at h
 split at h
 ·rename_i k i
  rw[U0 W]
  split at h
  ·rename_i e E
   split at h
   ·rename_i sz hsz
    split at h
    ·rename_i c rows
     have key:∀ r,Z4 rows i=some r→r.length=sz→W6 P w G β (Instr.indexAt t u (.int k i)) (.ptr r):=λr L O=>by
      obtain⟨n,rfl,R,Q⟩:=Y4f L
      cases M with
      | slnil=>simp at Q
      | sl _ b off m cap sz' _ val Y X H J q f s o y=>
       have:sz'=sz:=by rw[← J n r R]; exact O
       subst this
       refine⟨_,Zv3 E hsz b off m cap k n (by omega) (by omega),?_⟩
       simp only[Int.toNat_natCast]
       refine .ptr b _ r (val n) (λj l=>?_) (λj l=>?_) (λj l=>?_) (λj d z=>o n j r d R z) (λj d z=>y n j r d R z)
       ·exact q n j (by omega) (by omega)
       ·exact f n j (by omega) (by omega)
       ·exact s n j (by omega) (by omega)
     split at h
     ·split at h
      ·cases h; exact key _ hp (by assumption)
      ·cases h
     ·split at h
      ·split at h
       ·cases h; exact key _ (by assumption) (by assumption)
       ·cases h
      ·cases h
    ·rename_i b lo n
     split at h
     ·rename_i blk F
      split at h
      ·rename_i N
       have key:0≤i→i<n→∀ j:Nat,(lo:Int)+i=j→W6 P w G β (Instr.indexAt t u (.int k i)) (.lptr b j 0):=λA K j l=>by
        cases M with
        | lslnil=>simp at K; omega
        | lsl _ _ _ cap c sz' off C H I T=>
         have B:sz'=sz:=by
          rcases U.heap b blk F with ⟨A,-⟩|⟨c',A,hB⟩
          ·rw[A] at C; cases C
          ·rw[A] at C; cases C; exact N
         subst B
         obtain rfl:off=lo*sz':=I.resolve_left (by omega)
         refine⟨_,Zv3 E hsz c _ n cap k i A K,?_⟩
         have:lo*sz'+i.toNat*sz'=j*sz'+0:=by
          rw[← Nat.add_mul]; congr 1; omega
         rw[this]
         exact .lptr b j 0 c sz' C
       split at h
       ·split at h
        ·cases h; rename_i V; subst V; exact key hp.1 hp.2.1 _ hp.2.2
        ·cases h
       ·cases h; exact key hp.1 hp.2 _ (by omega)
      ·cases h
     ·cases h
    ·cases h
   ·cases h
  ·rename_i len e E
   split at h
   ·rename_i sz hsz
    split at h
    ·cases h
     cases M with
     | lptr _ _ _ c sz' C=>exact⟨_,Zoh E hsz _ _ k i hp.1 hp.2,by simp only[Nat.add_assoc]; exact .lptr _ _ _ c sz' C⟩
    ·rename_i cs
     cases M with
     | ptr b off _ val q f s o y=>
      split at h
      ·rename_i r
       cases h
       obtain⟨A,K,L⟩:=hp
       refine⟨_,Zoh E hsz _ _ k i A K,?_⟩
       have g:∀ j,j<r.length→i.toNat*sz+j<cs.length∧r[j]?=cs[i.toNat*sz+j]? :=λj l=>by
        have O:=congrArg List.length L
        simp only[List.length_take,List.length_drop] at O
        refine⟨by omega,?_⟩
        conv=>lhs; rw[← L]
        rw[List.getElem?_take,if_pos l,List.getElem?_drop]
       refine .ptr b _ r (λj=>val (i.toNat*sz+j)) (λj l=>?_) (λj l=>?_) (λj l=>s _ (g j l).1) (λj d z=>?_) (λj d z=>?_)
       ·rw[Nat.add_assoc]; exact q _ (g j l).1
       ·rw[Nat.add_assoc]; exact f _ (g j l).1
       ·have l:=(List.getElem?_eq_some_iff.1 z).1
        exact o _ d ((g j l).2 ▸ z)
       ·have l:=(List.getElem?_eq_some_iff.1 z).1
        exact y _ d ((g j l).2 ▸ z)
      ·cases h
       exact⟨_,Zoh E hsz _ _ k i hp.1 hp.2,Zh.ptr_drop q f s o y _⟩
    ·cases h
   ·cases h
  ·cases h
 ·cases h
theorem Zia {t:TypeId} {vs:Array Value} {cs:List D} {off:Nat} (p:cs.length=vs.size) (g:∀ (j:Nat) v,vs[j]?=some v→one v=true)
  (c:∀ (j:Nat) v d,vs[j]?=some v→cs[j]?=some d→Zh w G β v d) {d:D} (h:Z0w P t cs off=some d):W6 P w G β (part t vs off) d:=by
 unfold Z0w at h
 split at h
 ·rename_i s i l
  split at h
  ·rename_i n
   cases h
   have hs:off+s≤vs.size∨s=0:=by simp at n; omega
   refine⟨.agg (vs.extract off (off+s)),by simp[part,Zip i,Kk l],?_⟩
   refine .agg _ _ (by rw[n]; simp; omega) (λj v b=>?_) (λj v d b m=>?_)
   ·rw[Array.getElem?_extract] at b
    split at b
    ·exact g _ v b
    ·cases b
   ·rw[Array.getElem?_extract] at b
    split at b
    ·rename_i o
     have e:j<s:=by omega
     rw[List.getElem?_take_of_lt e,List.getElem?_drop] at m
     exact c _ v d b m
    ·cases b
  ·cases h
 ·rename_i s i l
  have f:off<vs.size:=by
   rcases Nat.lt_or_ge off cs.length with k|k
   ·omega
   ·rw[List.getElem?_eq_none k] at h; cases h
  refine⟨vs[off],?_,c off _ d (Array.getElem?_eq_getElem f) h⟩
  simp[part,Zip i,Array.getElem?_eq_getElem f]
 ·cases h
theorem Zsk {f:TypeId→D→D→Option (Bool×Prop)} {n:Nat} (l:∀ t x y u v r p,f t x y=some (r,p)→p→Zh w G β u x→Zh w G β v y→(Op.equalIn n t u v).run P w=.ok r w)
  {us vs:Array Value} {xs ys:List D} (m:xs.length=us.size) (g:∀ (j:Nat) v,us[j]?=some v→one v=true) (i:∀ (j:Nat) v d,us[j]?=some v→xs[j]?=some d→Zh w G β v d)
  (k:ys.length=vs.size) (c:∀ (j:Nat) v,vs[j]?=some v→one v=true) (e:∀ (j:Nat) v d,vs[j]?=some v→ys[j]?=some d→Zh w G β v d):
  ∀ (fs:List Field) {r:Bool} {p:Prop},Zbm P f xs ys fs=some (r,p)→p→(Op.eqFields n us vs fs).run P w=.ok r w
 | [],r,p,h,_=>by cases h; simp[Op.eqFields]
 | x :: fs,r,p,h,hp=>by
  unfold Zbm at h
  split at h
  ·rename_i a b F H
   split at h
   ·rename_i I J L K C E
    cases h
    obtain⟨u,o,A⟩:=Zia (P:=P) m g i F
    obtain⟨v,q,B⟩:=Zia (P:=P) k c e H
    have s:=l _ _ _ _ _ _ _ C hp.2.1 A B
    have z:=Zsk l m g i k c e fs E hp.2.2
    simp only[Op.eqFields,if_pos hp.1,Sem.run_bind,o,q,s,Result.andThen_ok]
    cases I
    ·simp
    ·simpa using z
   ·cases h
  ·cases h
theorem Zkd (d:Nat):∀ (m:Nat) {t:TypeId} {x y:D} {u v:Value} {r:Bool} {p:Prop},Zbl P m t x y=some (r,p)→p→Zh w G β u x→Zh w G β v y→(Op.equalIn (d+m) t u v).run P w=.ok r w
 | 0,_,_,_,_,_,_,_,h,_,_,_=>by cases h
 | m + 1,t,x,y,u,v,r,p,h,hp,f,g=>by
  unfold Zbl at h
  rw[show d+(m+1)=(d+m)+1 from rfl]
  split at h
  ·rename_i b; cases h; rw[Z0e f,Z0e g]; exact run_equalIn_bool' w _ _ _ _ b
  ·rename_i b
   split at h
   ·rename_i q
    cases h; subst q; rw[U0 f,U0 g]; exact run_equalIn_int w _ _ _ _ _ _ b
   ·cases h
  ·rename_i b
   cases h
   obtain⟨s,rfl,rfl⟩:=Z0f f
   obtain⟨C,rfl,rfl⟩:=Z0f g
   rw[run_equalIn_string w _ _ _ _ b,ByteArray.toList_eq,ByteArray.toList_eq]
  ·rename_i fs _ _ b
   split at h
   ·rename_i B A o
    cases h
    obtain⟨us,rfl,z,j,k⟩:=L9 f
    obtain⟨vs,rfl,l,c,e⟩:=L9 g
    have i:P.fieldsOf t=fs:=by simp[Program.fieldsOf,b]
    rw[run_equalIn_agg w _ _ _ _ (by rw[i]; exact b) hp.1,i]
    exact Zsk (n:=d+m) (λt x y u v r p h hp f g=>Zkd d m h hp f g) z j k l c e _ o hp.2
   ·cases h
  ·cases h
theorem Zl8 {v:Value} (h:Zh w G β v .nilptr):v=.pointer none:=by cases h; rfl
theorem Zo7 {op:BinOp} {xt:TypeId} {x y:Operand} {u v:Option Addr} {same:Bool} {d:D} {p:Prop} (h:ptrD P op xt same=some (d,p))
  (c:∀ te j,P.underlying xt=some (.pointer te)→P.info? te=some j→(∀ d:Nat,(Op.equalIn (d+1) xt (.pointer u) (.pointer v)).run P w=.ok same w)∧(∀ d:Nat,(Op.equalIn (d+1) xt (.pointer u) (.pointer v)).run P w=.ok same w)):
  W6 P w G β (do eqGuard op xt x y (.pointer u) (.pointer v); Go.binOp op xt (.pointer u) (.pointer v)) d:=by
 unfold ptrD at h
 split at h
 ·rename_i te e
  split at h
  ·rename_i j b
   have key:=(c te j e b).1 9999
   split at h
   ·cases h
    exact⟨.bool same,by rw[Sem.run_bind,Z2n (by intro cs h; cases h) (by intro h; cases h)]; simp only[binOp]; simp[Op.equal,Op.maxDepth,key],.bool _⟩
   ·cases h
    exact⟨.bool (!same),by rw[Sem.run_bind,Z2n (by intro cs h; cases h) (by intro h; cases h)]; simp only[binOp]; simp[Op.equal,Op.maxDepth,key],.bool _⟩
   ·cases h
  ·cases h
 ·cases h
theorem Y31 {op:BinOp} {xt:TypeId} {x y:Operand} {u v:Value} {dx dy:D} (E:Zh w G β u dx) (A:Zh w G β v dy) {ans:Ans} {d:D} {p:Prop}
  (h:binD P op xt dx dy ans=some (d,p)) (hp:p):W6 P w G β (do eqGuard op xt x y u v; Go.binOp op xt u v) d:=by
 unfold binD at h
 split at h
 ·rw[U0 E,U0 A]
  have key:∀ k n,(eqGuard op xt x y (.int k n) v).run P w=.ok () w:=λk n=>Z2n (by intro cs h; cases h) (by intro h; cases h)
  rw[U0 A] at key
  split at h
  ·obtain⟨r,m,C⟩:=Zvd h hp xt (P:=P) (w:=w) (G:=G) (β:=β)
   exact⟨r,by rw[Sem.run_bind,key]; exact m,C⟩
  ·obtain⟨r,m,C⟩:=Zvd h hp xt (P:=P) (w:=w) (G:=G) (β:=β)
   exact⟨r,by rw[Sem.run_bind,key]; exact m,C⟩
  ·split at h
   ·rename_i L
    subst L
    obtain⟨r,m,C⟩:=Y4r (by assumption) (by assumption) h hp xt (P:=P) (w:=w) (G:=G) (β:=β)
    exact⟨r,by rw[Sem.run_bind,key]; exact m,C⟩
   ·cases h
 ·obtain⟨s,rfl,rfl⟩:=Z0f E
  obtain⟨Q,rfl,rfl⟩:=Z0f A
  obtain⟨r,m,C⟩:=Y6v h hp xt (P:=P) (w:=w) (G:=G) (β:=β)
  exact⟨r,by rw[Sem.run_bind,Z2n (by intro cs h; cases h) (by intro h; cases h)]; exact m,C⟩
 ·rw[Z0e E,Z0e A]
  split at h
  ·rename_i B
   split at h
   ·exact⟨_,by rw[Sem.run_bind,Z2n (by intro cs h; cases h) (by intro h; cases h)]; simp[run_eql_bool _ _ _ _ B],Ma h hp⟩
   ·exact⟨_,by rw[Sem.run_bind,Z2n (by intro cs h; cases h) (by intro h; cases h)]; simp[run_neq_bool _ _ _ _ B],Ma h hp⟩
   ·cases h
  ·cases h
 ·obtain⟨us,rfl,J,t,z⟩:=L9 E
  obtain⟨vs,rfl,H,f,g⟩:=L9 A
  split at h
  ·rename_i r q c m
   split at h
   ·cases h
    have e:=Zkd 9994 6 m hp.2.1 (.agg us _ J t z) (.agg vs _ H f g)
    exact⟨.bool r,by rw[Sem.run_bind,run_eqGuard_agg w _ _ _ _ _ _ hp.1,Result.andThen_ok,run_eql_struct,e]; rfl,by rw[hp.2.2]; exact .bool _⟩
   ·cases h
    have e:=Zkd 9994 6 m hp.2.1 (.agg us _ J t z) (.agg vs _ H f g)
    exact⟨.bool (!r),by rw[Sem.run_bind,run_eqGuard_agg w _ _ _ _ _ _ hp.1,Result.andThen_ok,run_neq_struct,e]; rfl,by rw[hp.2.2]; exact .bool _⟩
   ·cases h
  ·cases h
 ·obtain rfl:=Zl8 E
  obtain rfl:=Zl8 A
  exact Zo7 h (λte j l F=>⟨λd=>by simp[Op.equalIn,run_underlying l],λd=>by simp[Op.equalIn,run_underlying l]⟩)
 ·obtain rfl:=Zl8 A
  cases E with
  | lptr b i o c sz K=>
   exact Zo7 h (λte j l F=>⟨λd=>by simp[Op.equalIn,run_underlying l],λd=>by simp[Op.equalIn,run_underlying l]⟩)
 ·rename_i b i o M N O
  split at h
  ·rename_i B
   simp only[Bool.and_eq_true] at B
   obtain rfl:=Nat.eq_of_beq_eq_true B.1.1
   obtain rfl:=Nat.eq_of_beq_eq_true B.1.2
   obtain rfl:=Nat.eq_of_beq_eq_true B.2
   cases E with
   | lptr _ _ _ c sz K=>
    cases A with
    | lptr _ _ _ c' sz' I=>
     rw[K] at I; cases I
     have key:∀ te j,P.underlying xt=some (.pointer te)→P.info? te=some j→∀ d:Nat,(Op.equalIn (d+1) xt (.pointer (some ⟨c,i*sz+o,none⟩)) (.pointer (some ⟨c,i*sz+o,none⟩))).run P w=.ok true w:=λte j l F d=>by
      simp[Op.equalIn,run_underlying l,sizeOf,typeInfo,F,run_sameAddr_same]
     exact Zo7 h (λte j l F=>⟨key te j l F,key te j l F⟩)
  ·cases h
 ·cases h
theorem Y4o {u v:Value} {x i:D} (q:Zh w G β u x) (E:Zh w G β v i) {t:TypeId} {ans:Ans} {d:D} {p:Prop}
  (h:Zl6 P t x i ans=some (d,p)) (hp:p):W6 P w G β (Instr.index t u v) d:=by
 unfold Zl6 at h
 split at h
 ·rename_i k i
  rw[U0 E]
  split at h
  ·rename_i s n
   obtain⟨b,rfl,rfl⟩:=Z0f q
   have key:∀ c,Vw b.data.toList i=some c→W6 P w G β (Instr.index t (.string b) (.int k i)) (.int .u8 c):=λc l=>by
    unfold Vw at l
    split at l
    ·rename_i z
     obtain⟨y,o,rfl⟩:=Qg l
     refine⟨.int .u8 y.toNat,?_,.int _ _⟩
     have f:i.toNat<b.size:=by
      rcases Nat.lt_or_ge i.toNat b.data.toList.length with m|m
      ·exact m
      ·rw[List.getElem?_eq_none m] at o; cases o
     have e:b[i.toNat]?=some y:=by
      have:b[i.toNat]?=b.data[i.toNat]? :=by
       rw[getElem?_pos b i.toNat f,getElem?_pos b.data i.toNat f]; rfl
      rw[this]; simpa using o
     simp[Instr.index,asIntOf,run_underlying n,z,e]
    ·cases l
   split at h
   ·cases h; exact key _ hp
   ·split at h
    ·cases h; exact key _ (by assumption)
    ·cases h
  ·rename_i len e cs n
   obtain⟨vs,rfl,F,g,j⟩:=L9 q
   split at h
   ·rename_i sz hsz
    split at h
    ·rename_i d' C
     cases h
     obtain⟨r,A,B⟩:=Zia F g j C
     exact⟨r,by simp[Instr.index,asIntOf,run_underlying n,hp.1,hp.2,Kk hsz,A],B⟩
    ·cases h
   ·cases h
  ·cases h
 ·cases h
theorem Zpn {α:Type} {l r:List α} {lo c:Int} (h:sub l lo c=some r):∃ a b:Nat,lo=a∧c=b∧a≤b∧b≤l.length∧r=(l.drop a).take (b - a):=by
 unfold sub at h
 split at h
 ·rename_i d
  cases h
  exact⟨lo.toNat,c.toNat,by omega,by omega,by omega,by omega,rfl⟩
 ·cases h
def BRel (x:Option Value) (n:Int) (dflt:Int):Prop:=(x=none∧n=dflt)∨∃ k,x=some (.int k n)
theorem Kv {x:Option Operand} (c:Zk Γ σ a w G β) {dflt n:Int} (h:Z07 (x.map σ.ev) dflt=some n):BRel (x.map a.eval) n dflt:=by
 cases x with
 | none=>cases h; exact .inl ⟨rfl,rfl⟩
 | some y=>
  simp only[Option.map_some,Z07] at h
  split at h
  ·rename_i b; cases b
  ·rename_i k i b
   cases h
   have b:=Option.some.inj b
   have:=W8 c y
   rw[b] at this
   exact .inr ⟨k,by simp[U0 this]⟩
  ·cases h
theorem Mt (x:Value) {k:IntKind} {n:Int} (d:x=.int k n) (y:Nat) (code:BoundsCode) (b:0≤n) (c:n≤y):(Instr.sliceBound x y code).run P w=.ok n.toNat w:=by
 subst d; simp[Instr.sliceBound,asIntOf,b,c]
theorem Zio {isS:Bool} {len cap:Nat} {lo b:Option Value} {l h:Int} (m:BRel lo l 0) (j:BRel b h len) (d:0≤l) (i:l≤h) (f:h≤cap):
  (Instr.sliceBounds isS len cap lo b none).run P w=.ok (l.toNat,h.toNat,cap) w:=by
 have o:∀ y:Nat,h≤y→∀ code,(∃ k,b=some (.int k h))→(b=none→False)→∀ v,b=some v→(Instr.sliceBound v y code).run P w=.ok h.toNat w:=λy n code c _ v g=>by
  obtain⟨k,c⟩:=c
  rw[c] at g; cases g
  exact Mt _ rfl _ _ (by omega) n
 rcases m with ⟨rfl,rfl⟩|⟨kl,rfl⟩ <;> rcases j with ⟨rfl,rfl⟩|⟨kh,rfl⟩
 ·simp[Instr.sliceBounds]
 ·simp[Instr.sliceBounds,Mt (P:=P) (w:=w) _ rfl cap _ (by omega:(0:Int)≤h) f]
 ·simp[Instr.sliceBounds,Mt (P:=P) (w:=w) _ rfl len _ d i]
 ·have e:((h.toNat:Nat):Int)=h:=by omega
  simp[Instr.sliceBounds,Mt (P:=P) (w:=w) _ rfl cap _ (by omega:(0:Int)≤h) f,Mt (P:=P) (w:=w) _ rfl h.toNat _ d (by omega:l≤(h.toNat:Nat))]
theorem Y6c {len cap:Nat} {lo c:Option Value} {l h m:Int} {mx:Value} {km:IntKind} (g:mx=.int km m) (f:BRel lo l 0) {kh:IntKind} (e:c=some (.int kh h)) (d:0≤l) (i:l≤h) (j:h≤m) (b:m≤cap):
  (Instr.sliceBounds true len cap lo c (some mx)).run P w=.ok (l.toNat,h.toNat,m.toNat) w:=by
 subst g e
 rcases f with ⟨rfl,rfl⟩|⟨kl,rfl⟩
 ·simp[Instr.sliceBounds,Mt (P:=P) (w:=w) _ rfl cap _ (by omega:(0:Int)≤m) b,Mt (P:=P) (w:=w) _ rfl m.toNat _ (by omega:(0:Int)≤h) (by omega:h≤(m.toNat:Nat))]
 ·simp [Instr.sliceBounds,Mt (P:=P) (w:=w) _ rfl cap _ (by omega:(0:Int)≤m) b,Mt (P:=P) (w:=w) _ rfl m.toNat _ (by omega:(0:Int)≤h) (by omega:h≤(m.toNat:Nat)),
   Mt (P:=P) (w:=w) _ rfl h.toNat _ d (by omega:l≤(h.toNat:Nat))]
theorem Zvg {c c':Bool} {F:Value} {rows:List (List D)} (h:Zh w G β F (.sl c rows)) {a0:Option Addr} {n cap:Nat} (E:F=.slice a0 n cap) (l f m:Nat) (K:l≤f) (L:f≤n) (M:f≤m) (N:m≤cap)
  (H:c'=true→m=f) (size:Nat) (k:∀ r∈rows,r.length=size):
  Zh w G β (.slice (if m=l then a0 else a0.map (·.add (l*size))) (f - l) (m - l)) (.sl c' ((rows.drop l).take (f - l))):=by
 cases h with
 | slnil=>
  cases E
  rw[if_pos (show m=l by omega),show f - l=0 by omega,show m - l=0 by omega]
  simp
  exact .slnil c' _
 | sl _ b off Q cap' sz _ val O I C hsz t g x q y=>
  cases E
  have z:∀ i,i<n→sz=size:=λi B=>by
   have s:i<rows.length:=by omega
   rw[← hsz i rows[i] (List.getElem?_eq_getElem s)]
   exact k _ (List.getElem_mem s)
  have key:∀ ad:Nat,(f - l=0∨ad=off+l*sz)→Zh w G β (.slice (some ⟨b,ad,none⟩) (f - l) (m - l)) (.sl c' ((rows.drop l).take (f - l))):=λad o=>by
   refine .sl c' b ad (f - l) (m - l) sz _ (λi j=>val (l+i) j) (by simp; omega) (λp=>by have:=H p; omega) (by omega) (λi r e=>?_) (λi j B u=>?_) (λi j B u=>?_) (λi j B u=>?_) (λi j r d e A=>?_) (λi j r d e A=>?_)
   ·rw[List.getElem?_take] at e
    split at e
    ·rw[List.getElem?_drop] at e; exact hsz _ r e
    ·cases e
   ·rw[o.resolve_left (by omega)]
    have:=t (l+i) j (by omega) u
    rw[Nat.add_mul] at this; omega
   ·rw[o.resolve_left (by omega)]
    have:=g (l+i) j (by omega) u
    rw[← this,Nat.add_mul]; congr 2; omega
   ·exact x _ j (by omega) u
   ·rw[List.getElem?_take] at e
    split at e
    ·rw[List.getElem?_drop] at e; exact q _ j r d e A
    ·cases e
   ·rw[List.getElem?_take] at e
    split at e
    ·rw[List.getElem?_drop] at e; exact y _ j r d e A
    ·cases e
  by_cases v:m=l
  ·rw[if_pos v]
   exact key off (.inl (by omega))
  ·rw[if_neg v]
   simp only[Option.map_some,Addr.add_none]
   refine key _ ?_
   by_cases J:l<n
   ·rw[z l J]; exact .inr rfl
   ·exact .inl (by omega)
theorem Zom {c:Bool} {f:Value} {rows:List (List D)} (h:Zh w G β f (.sl c rows)):∃ a0 cap,f=.slice a0 rows.length cap∧rows.length≤cap∧(c=true→cap=rows.length):=by
 cases h with
 | slnil _ x=>exact⟨x,0,rfl,Nat.le_refl _,λ_=>rfl⟩
 | sl _ b off n cap sz _ val g e d=>subst g; exact⟨_,cap,rfl,d,e⟩
theorem Y6k (o:Zk Γ σ a w G β) {u:Value} {x:D} (O:Zh w G β u x) {t:TypeId} {lo E mx:Option Operand} {ans:Ans} {d:D} {p:Prop}
  (h:Z11 P σ t x (lo.map σ.ev) (E.map σ.ev) (mx.map σ.ev) ans=some (d,p)) (hp:p):W6 P w G β (Instr.sliceAt t u (lo.map a.eval) (E.map a.eval) (mx.map a.eval)) d:=by
 unfold Z11 at h
 split at h
 ·rename_i s C
  obtain⟨b,rfl,rfl⟩:=Z0f O
  split at h
  ·rename_i l y f z g
   have i:mx=none:=by cases mx <;> simp at f ⊢
   subst i
   have key:∀ r,sub b.data.toList l y=some r→W6 P w G β (Instr.sliceAt t (.string b) (lo.map a.eval) (E.map a.eval) ((none:Option Operand).map a.eval)) (.str r):=λr N=>by
    obtain⟨l',A,rfl,rfl,H,I,rfl⟩:=Zpn N
    have V:b.data.toList.length=b.size:=rfl
    have:=Zio (P:=P) (w:=w) (isS:=false) (len:=b.size) (cap:=b.size) (Kv o z) (Kv o g) (by omega) (by omega) (by omega)
    exact⟨.string (b.extract l' A),by simp[Instr.sliceAt,Instr.slice,run_underlying C,this],Zaz _ _ (Lib.extract_data b l' A)⟩
   split at h
   ·cases h; exact key _ hp
   ·split at h
    ·cases h; exact key _ (by assumption)
    ·cases h
  ·cases h
 ·rename_i e c rows C
  split at h
  ·rename_i sz hsz
   obtain⟨a0,cap,rfl,K,X⟩:=Zom O
   split at h
   ·rename_i l y f z g
    have i:mx=none:=by cases mx <;> simp at f ⊢
    subst i
    have key:∀ r,(∀ x∈rows,x.length=sz)→sub rows l y=some r→W6 P w G β (Instr.sliceAt t (.slice a0 rows.length cap) (lo.map a.eval) (E.map a.eval) ((none:Option Operand).map a.eval)) (.sl false r):=λr q N=>by
     obtain⟨l',A,rfl,rfl,H,I,rfl⟩:=Zpn N
     have:=Zio (P:=P) (w:=w) (isS:=true) (len:=rows.length) (cap:=cap) (Kv o z) (Kv o g) (by omega) (by omega) (by omega)
     refine⟨_,by simp[Instr.sliceAt,Instr.slice,run_underlying C,this,Kk hsz]; rfl,?_⟩
     have:=Zvg O rfl l' A cap H I (by omega) (by omega) (c':=false) (by intro h; cases h) sz q
     simpa using this
    split at h
    ·cases h; exact key _ hp.1 hp.2
    ·split at h
     ·cases h; exact key _ hp (by assumption)
     ·cases h
   ·rename_i m' l y f z g
    split at h
    ·rename_i ho Z m R Y
     cases mx with
     | none=>cases f
     | some mo=>
      simp only[Option.map_some,Option.some.injEq] at f
      subst f
      obtain ⟨km,T⟩:∃ km,a.eval mo=.int km m:=by
       have:=Kv (x:=some mo) o (dflt:=0) (by simpa using Y)
       rcases this with ⟨j,-⟩|⟨k,j⟩
       ·cases j
       ·exact⟨k,by simpa using j⟩
      have key:∀ r,(∀ x∈rows,x.length=sz)→m=y→sub rows l y=some r→W6 P w G β (Instr.sliceAt t (.slice a0 rows.length cap) (lo.map a.eval) (E.map a.eval) ((some mo:Option Operand).map a.eval)) (.sl true r):=λr q U N=>by
       subst U
       obtain⟨l',A,rfl,rfl,H,I,rfl⟩:=Zpn N
       rcases Kv o g with ⟨j,-⟩|⟨kh,j⟩
       ·cases E with
        | none=>cases R
        | some _=>cases j
       ·have:=Y6c (P:=P) (w:=w) (len:=rows.length) (cap:=cap) T (Kv o z) j (by omega) (by omega) (by omega) (by omega)
        refine⟨_,by simp[Instr.sliceAt,Instr.slice,run_underlying C,this,Kk hsz]; rfl,?_⟩
        have:=Zvg O rfl l' A A H I (by omega) (by omega) (c':=true) (by intro h; rfl) sz q
        simpa using this
      split at h
      ·cases h; exact key _ hp.1 hp.2.1 hp.2.2
      ·split at h
       ·cases h; exact key _ hp.1 hp.2 (by assumption)
       ·cases h
    ·cases h
   ·cases h
  ·cases h
 ·rename_i e b l0 n C
  split at h
  ·rename_i blk sz J hsz
   split at h
   ·rename_i Q
    split at h
    ·rename_i l y f z g
     have i:mx=none:=by cases mx <;> simp at f ⊢
     subst i
     cases h
     obtain⟨j,H,I⟩:=hp
     cases O with
     | lslnil _ ax=>
      have:=Zio (P:=P) (w:=w) (isS:=true) (len:=0) (cap:=0) (Kv o z) (Kv o g) (by omega) (by omega) (by omega)
      have W:l=0:=by omega
      have V:y=0:=by omega
      subst W V
      exact⟨.slice ax 0 0,by simp[Instr.sliceAt,Instr.slice,run_underlying C,this,Kk hsz],.lslnil _ _⟩
     | lsl _ _ _ cap c sz' off F K M v=>
      have B:sz'=sz:=by
       rcases o.heap b blk J with ⟨j,-⟩|⟨c',j,hB⟩
       ·rw[j] at F; cases F
       ·rw[j] at F; cases F; exact Q
      subst B
      have:=Zio (P:=P) (w:=w) (isS:=true) (len:=n) (cap:=cap) (Kv o z) (Kv o g) (by omega) (by omega) (by omega)
      refine⟨_,by simp[Instr.sliceAt,Instr.slice,run_underlying C,this,Kk hsz]; rfl,?_⟩
      by_cases L:cap=l.toNat
      ·rw[if_pos L]
       exact .lsl b _ _ _ c sz' off F (by omega) (.inl (by omega)) (by obtain⟨vs,e,fr,a1,-⟩:=v; exact⟨vs,e,fr,a1,.inl (by omega)⟩)
      ·rw[if_neg L,Addr.add_none]
       refine .lsl b _ _ _ c sz' _ F (by omega) (.inr ?_) ?_
       ·rw[M.resolve_left (by omega),Nat.add_mul]
       ·obtain⟨vs,e,fr,a1,a2⟩:=v
        refine⟨vs,e,fr,a1,.inr ?_⟩
        rw[show l0+l.toNat+(cap - l.toNat)=l0+cap by omega]
        exact a2.resolve_left (by omega)
    ·cases h
   ·cases h
  ·cases h
 ·cases h
theorem Y52 {u:Value} {x:D} (j:Zh w G β u x) {t ty:TypeId} {args:Array Value} {ts:Array TypeId} (g:args[0]?=some u) (i:ts[0]?=some t) {ans:Ans} {d:D} {p:Prop}
  (h:lenD P t x ans=some (d,p)) (hp:p):W6 P w G β (Builtin.len_ ts ty args) d:=by
 unfold lenD at h
 split at h
 ·rename_i f
  obtain⟨b,rfl,rfl⟩:=Z0f j
  exact⟨_,by simp[Builtin.len_,g,i,run_underlying f,goInt],Ub h hp⟩
 ·rename_i e c rows f
  obtain⟨a0,cap,rfl,k,m⟩:=Zom j
  exact⟨_,by simp[Builtin.len_,g,i,run_underlying f,goInt],Ub h hp⟩
 ·rename_i e b l n f
  have:∃ a0 cap,u=.slice a0 n cap:=by cases j <;> exact⟨_,_,rfl⟩
  obtain⟨a0,cap,rfl⟩:=this
  exact⟨_,by simp[Builtin.len_,g,i,run_underlying f,goInt],Ub h hp⟩
 ·rename_i n e f
  exact⟨_,by simp[Builtin.len_,g,i,run_underlying f,goInt],Ub h hp⟩
 ·cases h
theorem Y6d {s:Sem Value} {v:Value} (h:s.run P w=.ok v w):(do pure (Next.value (← s)):Sem Next).run P w=.ok (.value v) w:=by simp[h]
theorem Zrv:∀ {l:List D} {bs:List Nat},cloD l=some bs→bs.length=l.length∧∀ (j:Nat) b,bs[j]?=some b→l[j]?=some (.lptr b 0 0)
 | [],_,h=>by cases h; exact⟨rfl,λj b c=>by simp at c⟩
 | d :: r,bs,h=>by
  unfold cloD at h
  split at h
  ·cases ‹_::_=[]›
  ·rename_i k m e
   injection e with f g
   subst f g
   split at h
   ·rename_i l i
    cases h
    obtain⟨f,g⟩:=Zrv i
    refine⟨by simp[f],λj b c=>?_⟩
    cases j with
    | zero=>simp at c; subst c; rfl
    | succ j=>simp at c; simpa using g j b c
   ·cases h
  ·cases h
theorem Y5v (Q:Zk Γ σ a w G β) {o:Oper} {ans:Ans} {d:D} {p:Prop} (h:Q1 P σ o ans=some (d,p)) (hp:p):
  ∃ v,(execOp a.eval o).run P w=.ok (.value v) w∧Zh w G β v d:=by
 obtain⟨dst,op,ty,pos,after,guard⟩:=o
 have ev:=W8 Q
 have fin:∀ {s:Sem Value} {d},W6 P w G β s d→∃ v,(do pure (Next.value (← s)):Sem Next).run P w=.ok (.value v) w∧Zh w G β v d:=λ⟨v,z,B⟩=>⟨v,Y6d z,B⟩
 cases op with
 | move x=>cases h; exact⟨_,rfl,ev x⟩
 | assign x=>cases h; exact⟨_,rfl,ev x⟩
 | pick c x y=>
  obtain⟨v,z,B⟩:=Y5p (P:=P) (ev c) (ev x) (ev y) h hp
  refine⟨v,?_,B⟩
  simp only[execOp]
  simp only[Sem.run_bind,Sem.run_pure] at z ⊢
  revert z
  generalize (asBool (a.eval c)).run P w=r
  cases r with
  | ok q w'=>intro z; simp only[Result.andThen_ok,Result.ok.injEq] at z ⊢; exact⟨by rw[z.1],z.2⟩
  | halt e w'=>intro z; cases z
 | binOp op xt x y yt=>exact fin (Y31 (ev x) (ev y) h hp)
 | unOp op t x=>exact fin (Y77 (ev x) h hp)
 | convert s t x=>exact fin (Y3n (ev x) h hp)
 | load t x=>exact fin (Ztl Q (ev x) h hp)
 | fieldAddr s x f=>
  simp only[Q1] at h
  split at h
  ·cases h; exact fin (Y4b (ev x) (by assumption))
  ·cases h
 | field s x f=>
  simp only[Q1] at h
  split at h
  ·rename_i cs off t l E
   split at h
   ·rename_i d' J
    cases h
    have g:=ev x
    rw[l] at g
    obtain⟨vs,O,hn,M,A⟩:=L9 g
    obtain⟨v,z,B⟩:=Zia hn M A J
    refine fin ⟨v,?_,B⟩
    unfold Zbp at E
    split at E
    ·rename_i fs hu
     split at E
     ·rename_i y C
      cases E
      simp[Instr.field,run_underlying hu,C,O,asAgg,z]
     ·cases E
    ·cases E
   ·cases h
  ·cases h
 | indexAddr t x i=>exact fin (Y4l Q (ev x) (ev i) h hp)
 | index t x i=>exact fin (Y4o (ev x) (ev i) h hp)
 | slice t x lo hi mx=>exact fin (Y6k Q (ev x) h hp)
 | extract x i=>
  simp only[Q1] at h
  split at h
  ·rename_i vs l
   split at h
   ·rename_i d' J
    cases h
    have g:=ev x
    rw[l] at g
    generalize he:a.eval x=u at g
    cases g with
    | tup us ds hn A=>
     have K:i<us.size:=by
      rcases Nat.lt_or_ge i vs.length with h'|h'
      ·omega
      ·rw[List.getElem?_eq_none h'] at J; cases J
     refine fin ⟨us[i],?_,A i _ _ (Array.getElem?_eq_getElem K) J⟩
     simp[Instr.extract,he,Array.getElem?_eq_getElem K]
   ·cases h
  ·cases h
 | nilCheck x=>
  simp only[Q1] at h
  split at h
  ·rename_i cs l
   cases h
   have g:=ev x
   rw[l] at g
   refine⟨a.eval x,?_,g⟩
   generalize he:a.eval x=u at g
   cases g with
   | ptr b off cs val=>simp[execOp,he]
  ·rename_i b i j l
   cases h
   have g:=ev x
   rw[l] at g
   refine⟨a.eval x,?_,g⟩
   generalize he:a.eval x=u at g
   cases g with
   | lptr=>simp[execOp,he]
  ·cases h
 | call c=>
  obtain⟨callee,args,ts⟩:=c
  cases callee with
  | builtin b=>
   cases b with
   | len=>
    simp only[Q1] at h
    split at h
    ·rename_i x t l ht
     have:=Y52 (P:=P) (ty:=ty) (args:=args.map a.eval) (ev x) (by simp[l]) ht h hp
     obtain⟨v,z,B⟩:=this
     exact⟨v,by simp[execOp,resolve,invoke,builtin,z],B⟩
    ·cases h
   | unsafeSliceData=>
    match args,h with
    | ⟨[x]⟩,h=>
     simp only[Q1] at h
     have l:=ev x
     split at h
     ·rename_i b n R
      cases h
      rw[R] at l
      generalize he:a.eval x=u at l
      cases l with
      | lslnil=>exact absurd hp (Nat.lt_irrefl 0)
      | lsl _ _ _ cap c sz off W hcap L U=>
       have I:cap≠0:=by have:0<n:=hp; omega
       have ho:off=0*sz+0:=by rcases L with h|h; exact absurd h I; omega
       refine⟨.pointer (some ⟨c,off,none⟩),?_,ho ▸ .lptr b 0 0 c sz W⟩
       simp[execOp,resolve,invoke,builtin,he,Lib.run_unsafeSliceData_row w _ _ _ _ _ I]
     ·cases h
    | ⟨[]⟩,h=>cases h
    | ⟨_::_::_⟩,h=>cases h
   | max =>
    match args,h with
    | ⟨[x,y]⟩,h=>
     simp only[Q1] at h
     have l:=ev x
     have C:=ev y
     unfold maxD at h
     split at h
     ·rename_i k m k' n F H
      rw[F] at l
      rw[H] at C
      have ex:=U0 l
      have ey:=U0 C
      obtain⟨r,N⟩:∃ r,r=(if n>m then n else m):=⟨_,rfl⟩
      rw[← N] at h
      refine⟨.int k r,?_,?_⟩
      ·simp[execOp,resolve,invoke,builtin,Builtin.max_,ex,ey,Builtin.max2,N]
      ·exact(Ub h hp)
     ·cases h
    | ⟨[]⟩,h=>cases h
    | ⟨[_]⟩,h=>cases h
    | ⟨_::_::_::_⟩,h=>cases h
   | min =>
    match args,h with
    | ⟨[x,y]⟩,h=>
     simp only[Q1] at h
     have l:=ev x
     have C:=ev y
     unfold minD at h
     split at h
     ·rename_i k m k' n F H
      rw[F] at l
      rw[H] at C
      have ex:=U0 l
      have ey:=U0 C
      obtain⟨r,N⟩:∃ r,r=(if n<m then n else m):=⟨_,rfl⟩
      rw[← N] at h
      refine⟨.int k r,?_,?_⟩
      ·simp[execOp,resolve,invoke,builtin,Builtin.min_,ex,ey,Builtin.min2,N]
      ·exact(Ub h hp)
     ·cases h
    | ⟨[]⟩,h=>cases h
    | ⟨[_]⟩,h=>cases h
    | ⟨_::_::_::_⟩,h=>cases h
   | _=>cases h
  | _=>cases h
 | makeFunc f first captured=>
  simp only[Q1] at h
  split at h
  ·rename_i Z bs R
   cases h
   obtain⟨F,H⟩:=Zrv R
   refine⟨.func (.func Z) #[] (captured.map a.eval),by simp[execOp,Instr.makeFunc],.clo Z _ bs (by simp[F]) λj v b O T=>?_⟩
   have X:=H j b T
   rw[List.getElem?_map] at X
   obtain⟨x,Y,e5⟩:=Qg X
   have V:v=a.eval x:=by
    rw[Array.getElem?_map] at O
    rw[Array.getElem?_toList] at Y
    rw[Y] at O
    simpa using O.symm
   have l:=ev x
   rw[e5] at l
   rw[V]
   generalize a.eval x=u at l
   cases l with
   | lptr _ _ _ c sz W=>exact⟨c,sz,W,by simp⟩
  ·cases h
 | _=>cases h
end Go.Den
namespace Go.Den
open Go.RowKit
variable {P:Program} {Γ:Ctx} {σ:S} {a:Act} {w w':World} {G G':Nat→Nat} {β β':Nat→Option (Nat×Nat)}
theorem Jc (w:World) (b o:Nat):w.cell? ⟨b,o,none⟩=match w.heap[b]? with|some (.cells c _ _)=>c[o]?|_=>none:=by
 unfold World.cell?; split <;> simp_all
theorem Z09 {b:Nat} (h:w'.heap[b]?=w.heap[b]?) (o:Nat):w'.cell? ⟨b,o,none⟩=w.cell? ⟨b,o,none⟩:=by rw[Jc,Jc,h]
theorem Zf8 {b:Nat} {x:Obj} (h:w.heap[b]?=some x):b<w.heap.size:=by
 rcases Nat.lt_or_ge b w.heap.size with c|c
 ·exact c
 ·simp[Array.getElem?_eq_none c] at h
theorem Zbf (h:Below w.heap.size w w'):L3 w w':=λc vs e fr b=>⟨vs,fr,by rw[h.block c (Zf8 b)]; exact b,rfl⟩
theorem Y30 (h:Below w.heap.size w w') (B:Nat) (X:Nat→Prop) (hB:B≤w.heap.size):L2 B X w w':=
 ⟨h.os,h.tape,h.output,h.size,λk b _=>h.block k (by omega),Zbf h⟩
theorem Vr.mono {c:Nat} {blk:Blk} (h:Vr w G β Γ c blk) (s:∀ b o,o<G b→w'.cell? ⟨b,o,none⟩=w.cell? ⟨b,o,none⟩) (p:∀ b,G b≤G' b) (q:G' c=G c)
  (A:∀ b x,β b=some x→β' b=some x) (hs:L3 w w') (f:w'.heap[c]?=w.heap[c]?):Vr w' G' β' Γ c blk:=by
 obtain⟨own,pin,ty,frz,top,dat,hsz,vs,e,fr,k,l,m,n⟩:=h
 exact ⟨own,pin,λt z=>by rw[f]; exact ty t z,λo B=>frz o (by omega),top,dat,hsz,vs,e,fr,f.trans k,l,m,λi j r d y u=>by
  obtain⟨v,a1,a2,g⟩:=n i j r d y u
  exact⟨v,a1,a2,g.mono s p A hs⟩⟩
theorem Vr.lt {c:Nat} {blk:Blk} (h:Vr w G β Γ c blk):c<w.heap.size:=by
 obtain⟨vs,e,fr,b,-⟩:=h.cells
 exact Zf8 b
theorem Zk.marksLt (h:Zk Γ σ a w G β) {b o:Nat} (d:o<G b):b<w.heap.size:=by
 rcases Nat.lt_or_ge b w.heap.size with c|c
 ·exact c
 ·have:=h.fresh b c; omega
theorem Zk.quiet (h:Zk Γ σ a w G β) (d:Below w.heap.size w w'):Zk Γ σ a w' G β:=by
 have f:∀ b o,o<G b→w'.cell? ⟨b,o,none⟩=w.cell? ⟨b,o,none⟩:=λb o i=>Z09 (d.block b (h.marksLt i)) o
 refine⟨h.defers,h.size,λt=>(h.tmps t).mono f (λ_=>Nat.le_refl _) (λ_ _ h=>h) (Zbf d),λb blk e=>?_,h.dom,h.inj,h.kept.trans (Y30 d _ _ h.big),h.marks,λc f=>h.fresh c (Nat.le_trans d.size f),Nat.le_trans h.big d.size,h.glob.mono f (λ_=>Nat.le_refl _)⟩
 rcases h.heap b blk e with g|⟨c,g,hB⟩
 ·exact .inl g
 ·exact .inr ⟨c,g,hB.mono f (λ_=>Nat.le_refl _) rfl (λ_ _ h=>h) (Zbf d) (d.block c hB.lt)⟩
def upd (β:Nat→Option (Nat×Nat)) (b:Nat) (x:Option (Nat×Nat)):Nat→Option (Nat×Nat):=λu=>if u=b then x else β u
theorem Zk.name (h:Zk Γ σ a w G β) {b c:Nat} {blk:Blk} (q:σ.heap b=none) (m:∀ o s,β o≠some (c,s)) (hB:Vr w G β Γ c blk):Zk Γ (σ.setB b (some blk)) a w G (upd β b (some (c,blk.sz))):=by
 have l:β b=none:=by
  cases r:β b with
  | none=>rfl
  | some x=>obtain⟨k,n⟩:=h.dom b x r; rw[q] at n; cases n
 have g:∀ u x,β u=some x→upd β b (some (c,blk.sz)) u=some x:=λu x d=>by
  unfold upd
  split
  ·subst_vars; rw[l] at d; cases d
  ·exact d
 refine⟨h.defers,h.size,λt=>(h.tmps t).mono (λ_ _ _=>rfl) (λ_=>Nat.le_refl _) g (.refl w),λu k d=>?_,λu x d=>?_,λu y c' s v d f=>?_,h.kept,h.marks,h.fresh,h.big,h.glob⟩
 ·simp only[S.setB] at d
  split at d
  ·cases d; rename_i e; subst e
   exact .inr ⟨c,by simp[upd],hB.mono (λ_ _ _=>rfl) (λ_=>Nat.le_refl _) rfl g (.refl w) rfl⟩
  ·rename_i e
   rcases h.heap u k d with ⟨i,p⟩|⟨c',i,j⟩
   ·exact .inl ⟨by simp[upd,e,i],p⟩
   ·exact .inr ⟨c',g _ _ i,j.mono (λ_ _ _=>rfl) (λ_=>Nat.le_refl _) rfl g (.refl w) rfl⟩
 ·simp only[S.setB]
  unfold upd at d
  split at d
  ·rename_i e; simp[e]
  ·rename_i e; simp[e]; exact h.dom u x d
 ·unfold upd at d f
  split at d <;> split at f
  ·subst_vars; rfl
  ·cases d; exact absurd f (m _ _)
  ·cases f; exact absurd d (m _ _)
  ·exact h.inj u y c' s v d f
theorem Zk.nameNil (h:Zk Γ σ a w G β) {b:Nat} {blk:Blk} (g:σ.heap b=none) (i:blk.rows=[]∧blk.frz=0):Zk Γ (σ.setB b (some blk)) a w G β:=by
 have e:β b=none:=by
  cases j:β b with
  | none=>rfl
  | some x=>obtain⟨k,f⟩:=h.dom b x j; rw[g] at f; cases f
 refine⟨h.defers,h.size,h.tmps,λu k c=>?_,λu x c=>?_,h.inj,h.kept,h.marks,h.fresh,h.big,h.glob⟩
 ·simp only[S.setB] at c
  split at c
  ·cases c; rename_i d; subst d; exact .inl ⟨e,i⟩
  ·exact h.heap u k c
 ·simp only[S.setB]
  split
  ·exact⟨_,rfl⟩
  ·exact h.dom u x c
def D.killA (b:Nat):D→D
 | .lptr c i o=>if c=b then .undef else .lptr c i o
 | .lsl c lo n=>if c=b then .undef else .lsl c lo n
 | .clo f bs=>match bs.any λx=>Nat.beq x b with
  | true=> .undef
  | false=> .clo f bs
 | .lsk f c lo n=>if c=b then .undef else .lsk f c lo n
 | d=>d
def D.killB (b:Nat):D→D
 | .agg cs=> .agg (cs.map (D.killA b))
 | .tup _=> .undef
 | d=>d.killA b
def D.kill (b:Nat):D→D
 | .tup vs=> .tup (vs.map (D.killB b))
 | d=>d.killB b
def Blk.kill (b:Nat) (k:Blk):Blk:=if k.pure then k else { k with rows:=k.rows.map (·.map (D.killA b)) }
def S.drop (σ:S) (b:Nat):S:={ σ with tmps:=λt=>(σ.tmps t).kill b,heap:=λu=>if u=b then none else (σ.heap u).map (Blk.kill b) }
theorem Zh.killA {v:Value} {d:D} (h:Zh w G β v d) (b:Nat) (I:∀ cs,d≠ .agg cs) (J:∀ cs,d≠ .tup cs):Zh w G (upd β b none) v (d.killA b):=by
 cases h with
 | undef v=>exact .undef v
 | lptr g i o c sz E=>
  simp only[D.killA]
  split
  ·exact .undef _
  ·rename_i z; exact .lptr g i o c sz (by simp[upd,z,E])
 | lslnil g x=>
  simp only[D.killA]
  split
  ·exact .undef _
  ·exact .lslnil g x
 | lsl g lo n cap c sz off E l u q=>
  simp only[D.killA]
  split
  ·exact .undef _
  ·rename_i z; exact .lsl g lo n cap c sz off (by simp[upd,z,E]) l u q
 | clo f vs bs H m=>
  simp only[D.killA]
  split
  ·exact .undef _
  ·rename_i z
   refine .clo f vs bs H λj v g M C=>?_
   obtain⟨c,sz,K,L⟩:=m j v g M C
   refine⟨c,sz,?_,L⟩
   have:g≠b:=λe=>by
    have:=List.any_eq_false.1 z g (List.mem_of_getElem? C)
    exact this (by rw[e]; exact Nat.beq_refl b)
   simp[upd,this,K]
 | lskn g x=>
  simp only[D.killA]
  split
  ·exact .undef _
  ·exact .lskn g x
 | lsk full g lo n cap c sz off E l B A u q=>
  simp only[D.killA]
  split
  ·exact .undef _
  ·rename_i z; exact .lsk full g lo n cap c sz off (by simp[upd,z,E]) l B A u q
 | agg vs cs=>exact absurd rfl (I cs)
 | tup vs ds=>exact absurd rfl (J ds)
 | bool x=>exact .bool x
 | int k n=>exact .int k n
 | str s=>exact .str s
 | slnil c x=>exact .slnil c x
 | sl c g off n cap sz rows val H F l hsz t p y r m=>exact(Zh.sl c g off n cap sz rows val H F l hsz t p y r m).of_dat (λ_ _ _=>rfl) (λ_=>Nat.le_refl _) rfl
 | ptr g off cs val t p y r m=>exact(Zh.ptr g off cs val t p y r m).of_dat (λ_ _ _=>rfl) (λ_=>Nat.le_refl _) rfl
 | nilptr=>exact .nilptr
 | fn f=>exact .fn f
 | raw v h=>exact .raw v h
theorem Zh.killE {v:Value} {d:D} (h:Zh w G β v d) (c:one v=true) (b:Nat):Zh w G (upd β b none) v (d.killA b):=by
 by_cases f:d=.undef
 ·subst f; exact .undef v
 ·refine h.killA b (λcs e=>?_) (λcs e=>?_)
  ·subst e; cases h; simp[one] at c
  ·subst e; cases h; simp[one] at c
theorem Zh.killB {v:Value} {d:D} (h:Zh w G β v d) (b:Nat):Zh w G (upd β b none) v (d.killB b):=by
 by_cases g:∃ cs,d=.agg cs
 ·obtain⟨cs,rfl⟩:=g
  obtain⟨vs,rfl,n,c,f⟩:=L9 h
  refine .agg vs _ (by simpa using n) c (λj v d m l=>?_)
  rw[List.getElem?_map] at l
  obtain⟨d',i,rfl⟩:=Qg l
  exact(f j v d' m i).killE (c j v m) b
 ·by_cases k:∃ cs,d=.tup cs
  ·obtain⟨cs,rfl⟩:=k
   exact .undef v
  ·have:=h.killA b (λcs e=>g ⟨cs,e⟩) (λcs e=>k ⟨cs,e⟩)
   cases d <;> first|exact this|exact absurd ⟨_,rfl⟩ g|exact absurd ⟨_,rfl⟩ k
theorem Zh.kill {v:Value} {d:D} (h:Zh w G β v d) (b:Nat):Zh w G (upd β b none) v (d.kill b):=by
 cases d with
 | tup ds=>
  cases h with
  | tup vs _ g c=>
   refine .tup vs _ (by simpa using g) (λj v d i f=>?_)
   rw[List.getElem?_map] at f
   obtain⟨d',e,rfl⟩:=Qg f
   exact(c j v d' i e).killB b
 | _=>exact h.killB b
theorem Zk.drop (h:Zk Γ σ a w G β) (b:Nat):Zk Γ (σ.drop b) a w G (upd β b none):=by
 refine⟨h.defers,h.size,λt=>(h.tmps t).kill b,λu k f=>?_,λu x f=>?_,λu L c s K f g=>?_,h.kept,h.marks,h.fresh,h.big,h.glob⟩
 ·simp only[S.drop] at f
  split at f
  ·cases f
  ·rename_i l
   obtain⟨D,B,rfl⟩:=Qg f
   have hsz:(Blk.kill b D).sz=D.sz:=by unfold Blk.kill; split <;> rfl
   rcases h.heap u D B with ⟨z,p⟩|⟨c,z,hB⟩
   ·refine .inl ⟨by simp[upd,l,z],?_⟩
    unfold Blk.kill; split
    ·exact p
    ·simp[p.1,p.2]
   ·refine .inr ⟨c,by simp[upd,l,z,hsz],?_⟩
    obtain⟨own,pin,ty,frz,top,dat,n,vs,e,fr,p,F,H,I⟩:=hB
    unfold Blk.kill
    split
    ·rename_i hp
     exact ⟨own,pin,ty,frz,top,dat,n,vs,e,fr,p,F,H,λi j r d m q=>by
      obtain⟨v,a1,a2,y⟩:=I i j r d m q
      exact⟨v,a1,a2,y.of_dat (λ_ _ _=>rfl) (λ_=>Nat.le_refl _) (dat hp i j r d m q)⟩⟩
    ·rename_i hp
     refine⟨own,pin,ty,frz,by simpa using top,λC=>absurd C hp,λi r m=>?_,vs,e,fr,p,F,by simpa using H,λi j r d m q=>?_⟩
     ·simp only[List.getElem?_map] at m
      obtain⟨E,o,rfl⟩:=Qg m
      simpa using n i E o
     ·simp only[List.getElem?_map] at m
      obtain⟨E,o,rfl⟩:=Qg m
      rw[List.getElem?_map] at q
      obtain⟨d',A,rfl⟩:=Qg q
      obtain⟨v,a1,a2,y⟩:=I i j E d' o A
      exact⟨v,a1,a2,y.killE a2 b⟩
 ·simp only[S.drop]
  unfold upd at f
  split at f
  ·cases f
  ·rename_i l
   obtain⟨k,J⟩:=h.dom u x f
   exact⟨_,by rw[if_neg l,J]; rfl⟩
 ·unfold upd at f g
  split at f
  ·cases f
  ·split at g
   ·cases g
   ·exact h.inj u L c s K f g
structure K5 (Γ:Ctx) (G:Nat→Nat) (c:Nat) (w w':World):Prop where
 os:w'.os=w.os
 tape:w'.tape=w.tape
 output:w'.output=w.output
 size:w'.heap.size=w.heap.size
 other:∀ k,k≠c→w'.heap[k]?=w.heap[k]?
 own:Γ.B≤c∨Γ.X c
 at_:∃ vs e fr vs',w.heap[c]?=some (.cells vs e fr)∧w'.heap[c]?=some (.cells vs' e fr)∧vs'.size=vs.size∧∀ o,o<G c→vs'[o]?=vs[o]?
theorem K5.cells {c:Nat} (h:K5 Γ G c w w'):∀ b o,o<G b→w'.cell? ⟨b,o,none⟩=w.cell? ⟨b,o,none⟩:=λb o j=>by
 by_cases d:b=c
 ·subst d
  obtain⟨vs,e,fr,vs',f,g,k,i⟩:=h.at_
  rw[Jc,Jc,f,g]
  exact i o j
 ·exact Z09 (h.other b d) o
theorem K5.same {c:Nat} (h:K5 Γ G c w w'):L3 w w':=λk vs e fr b=>by
 by_cases d:k=c
 ·subst d
  obtain⟨vs1,j,fr1,vs',f,g,i,l⟩:=h.at_
  rw[f] at b; cases b
  exact⟨vs',_,g,i⟩
 ·exact⟨vs,fr,by rw[h.other k d]; exact b,rfl⟩
theorem K5.kept {c:Nat} (h:K5 Γ G c w w'):L2 Γ.B Γ.X w w':=⟨h.os,h.tape,h.output,by rw[h.size]; exact Nat.le_refl _,λk f b=>h.other k (λe=>by subst e; exact h.own.elim (λd=>by omega) b),h.same⟩
theorem Zk.scratch (h:Zk Γ σ a w G β) {c:Nat} (i:∀ g s,β g≠some (c,s)) (hw:K5 Γ G c w w'):Zk Γ σ a w' G β:=by
 refine⟨h.defers,h.size,λt=>(h.tmps t).mono hw.cells (λ_=>Nat.le_refl _) (λ_ _ h=>h) hw.same,λb blk d=>?_,h.dom,h.inj,h.kept.trans hw.kept,h.marks,λk j=>h.fresh k (by rw[← hw.size]; exact j),by rw[hw.size]; exact h.big,h.glob.mono hw.cells (λ_=>Nat.le_refl _)⟩
 rcases h.heap b blk d with f|⟨k,f,hB⟩
 ·exact .inl f
 ·exact .inr ⟨k,f,hB.mono hw.cells (λ_=>Nat.le_refl _) rfl (λ_ _ h=>h) hw.same (hw.other k (λe=>i b blk.sz (e ▸ f)))⟩
theorem Zk.write (h:Zk Γ σ a w G β) {b c:Nat} {blk blk':Blk} (n:σ.heap b=some blk) (j:β b=some (c,blk.sz)) (hw:K5 Γ G c w w') (hsz:blk'.sz=blk.sz) (i:Vr w' G β Γ c blk'):
  Zk Γ (σ.setB b (some blk')) a w' G β:=by
 refine⟨h.defers,h.size,λt=>(h.tmps t).mono hw.cells (λ_=>Nat.le_refl _) (λ_ _ h=>h) hw.same,λu k f=>?_,λu x f=>?_,h.inj,h.kept.trans hw.kept,h.marks,λk m=>h.fresh k (by rw[← hw.size]; exact m),by rw[hw.size]; exact h.big,h.glob.mono hw.cells (λ_=>Nat.le_refl _)⟩
 ·simp only[S.setB] at f
  split at f
  ·cases f; rename_i d; subst d
   exact .inr ⟨c,by rw[hsz]; exact j,i⟩
  ·rename_i d
   rcases h.heap u k f with g|⟨l,g,hB⟩
   ·exact .inl g
   ·exact .inr ⟨l,g,hB.mono hw.cells (λ_=>Nat.le_refl _) rfl (λ_ _ h=>h) hw.same (hw.other l (λe=>d (h.inj u b c k.sz blk.sz (e ▸ g) j)))⟩
 ·simp only[S.setB]
  split
  ·exact⟨_,rfl⟩
  ·exact h.dom u x f
def Blk.freeze (k:Blk):Blk:={ k with frz:=k.rows.length }
def S.freeze (σ:S) (b:Nat):S:={ σ with heap:=λu=>if u=b then (σ.heap u).map Blk.freeze else σ.heap u }
theorem Zk.freeze (h:Zk Γ σ a w G β) (b:Nat):∃ G',Zk Γ (σ.freeze b) a w G' β∧(∀ k,G k≤G' k)∧
  ∀ blk c,σ.heap b=some blk→β b=some (c,blk.sz)→blk.rows.length*blk.sz≤G' c:=by
 cases y:σ.heap b with
 | none=>
  refine⟨G,⟨h.defers,h.size,h.tmps,λu k f=>?_,λu x f=>?_,h.inj,h.kept,h.marks,h.fresh,h.big,h.glob⟩,λ_=>Nat.le_refl _,λblk c g=>by cases g⟩
  ·simp only[S.freeze] at f
   split at f
   ·subst_vars; rw[y] at f; cases f
   ·exact h.heap u k f
  ·obtain⟨k,l⟩:=h.dom u x f
   simp only[S.freeze]
   split
   ·subst_vars; rw[y] at l; cases l
   ·exact⟨k,l⟩
 | some blk=>
  rcases h.heap b blk y with ⟨q,s⟩|⟨c,q,hB⟩
  ·refine⟨G,⟨h.defers,h.size,h.tmps,λu k f=>?_,λu x f=>?_,h.inj,h.kept,h.marks,h.fresh,h.big,h.glob⟩,λ_=>Nat.le_refl _,λblk' c g z=>by rw[q] at z; cases z⟩
   ·simp only[S.freeze] at f
    split at f
    ·rename_i n; subst n; rw[y] at f; cases f; exact .inl ⟨q,s.1,by simp[Blk.freeze,s.1]⟩
    ·exact h.heap u k f
   ·obtain⟨k,l⟩:=h.dom u x f
    simp only[S.freeze]
    split
    ·exact⟨_,by rw[l]; rfl⟩
    ·exact⟨k,l⟩
  ·have m:∀ k,G k≤(if k=c then max (G c) (blk.rows.length*blk.sz) else G k):=λk=>by
    split
    ·subst_vars; exact Nat.le_max_left _ _
    ·exact Nat.le_refl _
   refine⟨λk=>if k=c then max (G c) (blk.rows.length*blk.sz) else G k,⟨h.defers,h.size,λt=>(h.tmps t).mono (λ_ _ _=>rfl) m (λ_ _ h=>h) (.refl w),λu k f=>?_,λu x f=>?_,h.inj,h.kept,λk l D=>?_,λk l=>?_,h.big,h.glob.mono (λ_ _ _=>rfl) m⟩,m,λblk' c' g z=>?_⟩
   ·simp only[S.freeze] at f
    split at f
    ·rename_i n; subst n; rw[y] at f; cases f
     refine .inr ⟨c,q,?_⟩
     obtain⟨own,pin,ty,frz,top,dat,A,vs,e,fr,s,H,I,J⟩:=hB
     refine⟨own,pin,ty,λo L=>?_,Nat.le_refl _,dat,A,vs,e,fr,s,H,I,λi j r d M K=>?_⟩
     ·simp only[if_true] at L
      show o<blk.rows.length*blk.sz
      rcases Nat.lt_or_ge o (blk.rows.length*blk.sz) with C|C
      ·exact C
      ·have:=frz o (by omega)
       have:=Nat.mul_le_mul_right blk.sz top
       omega
     ·obtain⟨v,a1,a2,F⟩:=J i j r d M K
      exact⟨v,a1,a2,F.mono (λ_ _ _=>rfl) m (λ_ _ h=>h) (.refl w)⟩
    ·rename_i n
     rcases h.heap u k f with p|⟨E,p,B⟩
     ·exact .inl p
     ·refine .inr ⟨E,p,B.mono (λ_ _ _=>rfl) m ?_ (λ_ _ h=>h) (.refl w) rfl⟩
      have:E≠c:=λe=>n (h.inj u b c k.sz blk.sz (e ▸ p) q)
      simp[this]
   ·obtain⟨k,l⟩:=h.dom u x f
    simp only[S.freeze]
    split
    ·exact⟨_,by rw[l]; rfl⟩
    ·exact⟨k,l⟩
   ·have:k≠c:=λe=>by subst e; exact hB.own.elim (λs=>by omega) D
    simp[this,h.marks k l D]
   ·have:k≠c:=λe=>by subst e; have:=hB.lt; omega
    simp[this,h.fresh k l]
   ·cases g; rw[q] at z; cases z
    simp; omega
end Go.Den
namespace Go.Den
open Go.RowKit
structure IO where
 names:List Nat
 fresh:List (Nat×Nat):=[]
 nils:List (Nat×Nat):=[]
 bs:List Blk
 bs':List Blk
 /-- what is known to have no room stays known so -/
 kp:Bool:=false
structure X8 where
 ans:Ans:= .go
 /-- the arguments of a call as data; the rows of a block behind a write -/
 args:List D:=[]
 rows:Option (List (List D)):=none
 row:Option (List D):=none
 io:Option IO:=none
 /-- a box that is never written; a variable whose type is kept in mind -/
 ro:Bool:=false
 /-- a slice literal whose type is kept in mind -/
 mt:Bool:=false
def L5 (P:Program) (f:FuncId):Bool:=
 match P.funcs[f]? with
 | some fn => !(fn.name == "runtime.NumGoroutine") && fn.body.isSome
 | none=>false
structure Kr (w:World) (G:Nat→Nat) (vs:Array Value) (ds:List D):Prop where
 size:ds.length=vs.size
 rep:∀ (j:Nat) v d,vs[j]?=some v→ds[j]?=some d→Zh w G (λ_=>none) v d
def Zi (P:Program) (f:FuncId) (ds:List D) (r:D):Prop:=
 L5 P f=true∧∀ (w:World) (G:Nat→Nat) (vs:Array Value),(∀ c,w.heap.size≤c→G c=0)→Z00 w G→Kr w G vs ds→
  Calls P f vs w λe w'=>∃ v G',e=.returned v∧Below w.heap.size w w'∧(∀ c,c<w.heap.size→G' c=G c)∧(∀ c,w'.heap.size≤c→G' c=0)∧Zh w' G' (λ_=>none) v r
def ExtSpec (P:Program) (f:FuncId) (ds:List D) (r:D):Prop:=
 ∀ (w:World) (G:Nat→Nat) (vs:Array Value),Kr w G vs ds→∃ v,(callFunc f vs).run P w=.ok (.value v) w∧Zh w G (λ_=>none) v r
def Z3q (P:Program) (f:FuncId) (ds:List D) (r:D):Prop:=Zi P f ds r∨ExtSpec P f ds r
def Ww (σ:S):D→Option (D×List Nat×Prop)
 | .lsl b lo n=>
  match σ.heap b with
  | some blk=>match blk.pure with
   | true=>some (.sl false ((blk.rows.drop lo).take n),[b],lo+n≤blk.rows.length)
   | false=>none
  | none=>none
 | .lptr b i o=>
  match σ.heap b with
  | some blk=>
   match blk.rows[i]? with
   | some r=>match r.all D.dat with
    | true=>some (.ptr (r.drop o),[b],True)
    | false=>none
   | none=>none
  | none=>none
 | .sl _ rows=>some (.sl false rows,[],True)
 | d=>match d.dat with
  | true=>some (d,[],True)
  | false=>none
def Lm (σ:S):List D→Option (List D×List Nat×Prop)
 | [] =>some ([],[],True)
 | d::r=>
  match Ww σ d,Lm σ r with
  | some (d',l,p),some (b,l',a)=>some (d'::b,l++l',p∧a)
  | _,_=>none
def Ll (σ:S) (d:D):Option (D×List Nat×Prop):=
 match d with
 | .agg cs=>
  match Lm σ cs with
  | some (cs',l,p)=>some (.agg cs',l,p)
  | none=>none
 | d=>Ww σ d
def Vz (σ:S):List D→Option (List D×List Nat×Prop)
 | [] =>some ([],[],True)
 | d::r=>
  match Ll σ d,Vz σ r with
  | some (d',l,p),some (b,l',a)=>some (d'::b,l++l',p∧a)
  | _,_=>none
def S.freezeL (σ:S) (l:List Nat):S:=l.foldl S.freeze σ
def Kq (P:Program) (t:TypeId):Option (List D):=
 match P.info? t with
 | some i=>
  match i.zero with
  | some v=>match v.cells.toList.all one with
   | true=>some (v.cells.toList.map Z15)
   | false=>none
  | none=>none
 | none=>none
def Znm:D→D
 | .sl _ rows=> .sl false rows
 | d=>d
def Zb4 (P:Program) (t:TypeId):Option (List D):=match Kq P t with
 | some z=>some (z.map Znm)
 | none=>none
def cellsOf:D→Option (List D)
 | .agg cs=>some cs
 | .tup _=>none
 | .undef=>none
 | d=>some [d]
def Qu (cells:List D) (off:Nat) (dc:List D):List D:=cells.take off++dc++cells.drop (off+dc.length)
def Z0c (place:Nat→Option (Nat×Nat)) (cells:List D):List (Nat×D)→Option (List D)
 | [] =>some cells
 | (i,d)::V0=>
  match place i,cellsOf d with
  | some (off,size),some dc=>match dc.length==size&&Nat.ble (off+dc.length) cells.length with
   | true=>Z0c place (Qu cells off dc) V0
   | false=>none
  | _,_=>none
def Zid (P:Program) (t:TypeId):Option (Nat→Option (Nat×Nat)):=
 match P.underlying t with
 | some (.struct fs)=>
  match fs.toList.mapM (λf=>(P.info? f.type).map λi=>(f.offset,i.size)) with
  | some places=>some λi=>places[i]?
  | none=>none
 | some (.array _ e)=>
  match P.info? e with
  | some ie=>some λi=>some (i*ie.size,ie.size)
  | none=>none
 | _=>none
def L4 (sz:Nat):Nat→List D→List (List D)
 | 0,_=>[]
 | n+1,cs=>cs.take sz::L4 sz n (cs.drop sz)
def Xx (σ:S) (o:Oper):Bool:=match o.dst with|some t=>Nat.blt t σ.n|none=>true
def Ly (σ:S):D→Option (List (List D)×Prop)
 | .sl _ rows=>some (rows,True)
 | .lsl b lo n=>
  match σ.heap b with
  | some blk=>match blk.pure with
   | true=>some ((blk.rows.drop lo).take n,lo+n≤blk.rows.length)
   | false=>none
  | none=>none
 | _=>none
def Z1y (P:Program) (σ:S) (t a:TypeId) (x:D):Option (List (List D)×Prop):=
 match x with
 | .str s=>match P.underlying a with
  | some .string=>some (s.map λb=>[.int .u8 b.toNat],True)
  | _=>none
 | x=>match t==a with
  | true=>Ly σ x
  | false=>none
def Mp:List (List D)→Option (List UInt8)
 | [] =>some []
 | [.int .u8 n]::r=>
  match Mp r with
  | some s=>some (UInt8.ofNat n.toNat::s)
  | none=>none
 | _=>none
def tyIs (k:Blk) (e:TypeId):Bool:=match k.ty with
 | some t=>Nat.beq t e
 | none=>false
def Z6q (P:Program) (σ:S) (src dst:TypeId) (b:Nat):Bool:=
 match σ.heap b with
 | some k=>match k.ty with
  | some e=>match P.underlying src,P.underlying dst with
   | some (.pointer t),some .unsafePointer=>match P.info? t with
    | some j=>!Nat.beq j.size 0&&Nat.blt 0 (k.rows.length*k.sz)
    | none=>false
   | some .unsafePointer,some (.pointer u)=>match P.info? u with
    | some _=>Nat.blt 0 (P.cellsOf e)&&Nat.ble (P.cellsOf e) (k.rows.length*k.sz)&&liesAt P P.depth e 1 0 u 1
    | none=>false
   | _,_=>false
  | none=>false
 | none=>false
def Z3l (P:Program) (σ:S) (src dst:TypeId) (x:D):Bool:=
 match x with
 | .lsl b _ n=>match σ.heap b,P.underlying dst with
  | some k,some (.slice e)=>match P.underlying e with
   | some (.int .u8)=>Nat.beq src dst&&Nat.blt 0 n&&k.ty.isSome
   | _=>false
  | _,_=>false
 | _=>false
def Z2h (P:Program) (σ:S) (o:Oper) (src dst:TypeId) (x:D) (told:X8):Option (S×Prop):=
 match x with
 | .lptr b 0 0=>match Z6q P σ src dst b&&Xx σ o with
  | true=>some (σ.put o.dst (.lptr b 0 0),True)
  | false=>none
 | x=>
 match Z3l P σ src dst x&&Xx σ o with
 | true=>some (σ.put o.dst x,True)
 | false=>
 match P.underlying dst,Ln P src with
 | some .string,some e=>
  match P.underlying e,Un P e with
  | some (.int .u8),some 1=>
   match Ly σ x,told.ans,Xx σ o with
   | some (rows,q),.val (.str s),true=>some (σ.put o.dst (.str s),q∧Mp rows=some s)
   | _,_,_=>none
  | _,_=>none
 | _,_=>none
def Ju (σ:S) (o:Oper) (blk:Blk) (v:Nat→D) (p:Prop):Option (S×Prop):=
 match o.dst with
 | some t=>
  match σ.heap t with
  | some _=>none
  | none=>match Nat.blt t σ.n with
   | true=>some ((σ.setB t (some blk)).put (some t) (v t),p)
   | false=>none
 | none=>none
def tyK (a:Option TypeId) (e:TypeId):Option TypeId:=match a with
 | some t=>match Nat.beq t e with
  | true=>some t
  | false=>none
 | none=>none
theorem Y76 {a:Option TypeId} {e t:TypeId} (h:tyK a e=some t):a=some t∧e=t:=by
 unfold tyK at h
 split at h
 ·split at h
  ·rename_i b; cases h; exact⟨rfl,(Nat.eq_of_beq_eq_true b).symm⟩
  ·cases h
 ·cases h
def tyM (m:Bool) (a:Option TypeId) (e:TypeId):Option TypeId:=match m with
 | true=>tyK a e
 | false=>none
theorem Zpp {m:Bool} {a:Option TypeId} {e t:TypeId} (h:tyM m a e=some t):a=some t∧e=t:=by
 unfold tyM at h
 split at h
 ·exact Y76 h
 ·cases h
def Z2g (P:Program) (σ:S) (o:Oper) (t a:TypeId) (s x:D) (told:X8):Option (S×Prop):=
 match Ln P t with
 | none=>none
 | some e=>
  match P.info? e,Z1y P σ t a x with
  | some ie,some (news,q)=>
   match ie.zero with
   | none=>none
   | some z=>match z.cells.size==ie.size&&Nat.blt 0 ie.size with
    | false=>none
    | true=>
    match s with
    | .lsl b 0 n=>
     match σ.heap b with
     | some blk=>match blk.pure&&blk.sz==ie.size&&Xx σ o with
      | true=>
       let rows:=told.rows.getD (blk.rows++news)
       some (((σ.drop b).setB b (some { blk with rows:=rows,pin:=none,ty:=tyM told.mt blk.ty e })).put o.dst (.lsl b 0 rows.length),
        q∧n=blk.rows.length∧(∀ r∈news,r.length=ie.size)∧blk.rows++news=rows∧rows.length≤9223372036854775807∧rows.length*ie.bytes≤140737488355328)
      | false=>none
     | none=>none
    | .lsk false b lo n=>
     match σ.heap b with
     | some blk=>match blk.pure&&blk.sz==ie.size&&Xx σ o&&news.length==1 with
      | true=>
       let rows:=told.rows.getD (blk.rows++news)
       some (((σ.drop b).setB b (some { blk with rows:=rows,pin:=none,ty:=tyM told.mt blk.ty e })).put o.dst (.lsl b lo (n+1)),
        q∧lo+n=blk.rows.length∧(∀ r∈news,r.length=ie.size)∧blk.rows++news=rows)
      | false=>none
     | none=>none
    | .lsk true b lo n=>
     match σ.heap b with
     | some blk=>match blk.pure&&blk.sz==ie.size&&Xx σ o&&news.length==1 with
      | true=>
       let rows:=told.rows.getD (blk.rows.drop lo++news)
       some (((σ.drop b).setB b (some { sz:=ie.size,rows,frz:=0,pure:=true })).put o.dst (.lsl b 0 (n+1)),
        q∧lo+n=blk.rows.length∧(∀ r∈news,r.length=ie.size)∧blk.rows.drop lo++news=rows∧n+1≤9223372036854775807∧(n+1)*ie.bytes≤140737488355328)
      | false=>none
     | none=>none
    | .sl true olds=>
     let rows:=told.rows.getD (olds++news)
     Ju σ o { sz:=ie.size,rows,frz:=0,pure:=true } (λt=> .lsl t 0 rows.length)
      (q∧(olds=[]∨news≠[])∧(∀ r∈olds,r.length=ie.size)∧(∀ r∈news,r.length=ie.size)∧olds++news=rows∧rows.length≤9223372036854775807∧rows.length*ie.bytes≤140737488355328)
    | _=>none
  | _,_=>none
def Z29 (P:Program) (σ:S) (o:Oper) (t:TypeId) (x:D) (v:D) (told:X8):Option (S×Prop):=
 match x with
 | .lptr b i off=>
  match σ.heap b,cellsOf v,Un P t with
  | some blk,some cs,some sz=>match cs.length==sz&&(!blk.pure||cs.all D.dat)&&Xx σ o with
   | true=>
    match told.row with
    | some r=>
     let rows:=told.rows.getD (blk.rows.set i (Qu r off cs))
     some ((σ.setB b (some { blk with rows:=rows })).put o.dst .undef,blk.frz≤i∧blk.rows[i]?=some r∧off+cs.length≤r.length∧blk.rows.set i (Qu r off cs)=rows)
    | none=>
     match blk.rows[i]? with
     | some r=>
      let rows:=told.rows.getD (blk.rows.set i (Qu r off cs))
      some ((σ.setB b (some { blk with rows:=rows })).put o.dst .undef,blk.frz≤i∧off+cs.length≤r.length∧blk.rows.set i (Qu r off cs)=rows)
     | none=>none
   | false=>none
  | _,_,_=>none
 | _=>none
def Kt (told:X8) (ds:List D):List D:=match told.args with
 | [] =>ds
 | l=>l
def isNoEsc (P : Program) (f : FuncId) : Prop := ∃ fn, P.funcs[f]? = some fn ∧ (fn.name == "runtime.NumGoroutine") = false ∧ fn.body.isNone = true ∧ Extern.findNext fn = none ∧ Extern.find fn = some Extern.AbiNoEscape.same
def Z3w (P:Program) (σ:S) (o:Oper) (f:FuncId) (args:List D) (told:X8):Option (S×Prop):=
 match told.ans with
 | .val r=>
  match Vz σ args with
  | some (ds,l,p)=>match Xx σ o with
   | true=>
    match r.scalar with
    | true=>some (σ.put o.dst r,p∧ds=(Kt told ds)∧Z3q P f (Kt told ds) r)
    | false=>some ((σ.freezeL l).put o.dst r,p∧ds=(Kt told ds)∧Z3q P f (Kt told ds) r)
   | false=>none
  | none=>none
 | .go=>match args,Xx σ o with
  | [.lptr b i off],true=>some (σ.put o.dst (.lptr b i off),isNoEsc P f)
  | _,_=>none
 | _=>none
def unsD (P:Program) (σ:S) (o:Oper) (pt:TypeId) (x n:D) (told:X8):Option (S×Prop):=
 match x,n with
 | .lptr b 0 0,.int .i64 n=>
  match σ.heap b,P.underlying pt,told.ans with
  | some k,some (.pointer e),.val (.str s)=>match Nat.beq k.sz 1&&Nat.beq (P.cellsOf e) 1&&tyIs k e&&Xx σ o with
   | true=>some (((σ.drop b).setB b (some { sz:=1,rows:=[],frz:=0,pure:=true })).put o.dst (.str s),Mp k.rows=some s∧n=(s.length:Int)∧s≠[]∧s.length≤9223372036854775807)
   | false=>none
  | _,_,_=>none
 | _,_=>none
def Vv:Nat→List D→List (Nat×D)
 | _,[] =>[]
 | i,d::r=>(i,d)::Vv (i+1) r
def Vd (b:Nat):List Nat→Option Nat
 | [] =>none
 | x :: r=>match b==x with
  | true=>some 0
  | false=>match Vd b r with
   | some k=>some (k+1)
   | none=>none
def inA (ρ:List Nat):D→Option D
 | .lptr b i o=>match Vd b ρ with
  | some k=>some (.lptr k i o)
  | none=>none
 | .lsl b lo n=>match Vd b ρ with
  | some k=>some (.lsl k lo n)
  | none=>none
 | .undef=>some .undef
 | d=>match d.dat with
  | true=>some d
  | false=>none
def inL (ρ:List Nat):List D→Option (List D)
 | [] =>some []
 | d::r=>match inA ρ d,inL ρ r with
  | some x,some y=>some (x::y)
  | _,_=>none
def inR (ρ:List Nat):List (List D)→Option (List (List D))
 | [] =>some []
 | d::r=>match inL ρ d,inR ρ r with
  | some x,some y=>some (x::y)
  | _,_=>none
def inB (ρ:List Nat) (pin:Option Nat) (k:Blk):Option Blk:=
 match k.pure with
 | true=>some { k with pin:=pin }
 | false=>match inR ρ k.rows with
  | some rows=>some { k with rows:=rows,pin:=pin }
  | none=>none
def L8 (σ:S) (ρ:List Nat) (mark:Option Nat→Nat→Option Nat):Nat→List Nat→Option (List Blk)
 | _,[] =>some []
 | j,b::r=>
  match σ.heap b with
  | some k=>
   match inB ρ (mark k.pin j) k,L8 σ ρ mark (j+1) r with
   | some x,some y=>some (x::y)
   | _,_=>none
  | none=>none
def inRef (ρ:List Nat):D→Option D
 | .lptr b i o=>match Vd b ρ with
  | some k=>some (.lptr k i o)
  | none=>none
 | .lsl b lo n=>match Vd b ρ with
  | some k=>some (.lsl k lo n)
  | none=>none
 | .undef=>some .undef
 | _=>none
def Z2k (σ:S):D→Option (D×List Nat×Prop)
 | .sl c rows=>some (.sl c rows,[],True)
 | d=>Ww σ d
def Z2l (σ:S):List D→Option (List D×List Nat×Prop)
 | [] =>some ([],[],True)
 | d::r=>
  match Z2k σ d,Z2l σ r with
  | some (d',l,p),some (b,l',a)=>some (d'::b,l++l',p∧a)
  | _,_=>none
def Z3z (kp:Bool) (σ:S) (d:D):Option (D×List Nat×Prop):=
 match kp with
 | false=>Ll σ d
 | true=>
  match d with
  | .agg cs=>
   match Z2l σ cs with
   | some (cs',l,p)=>some (.agg cs',l,p)
   | none=>none
  | d=>Z2k σ d
def Uj (kp:Bool) (σ:S) (ρ:List Nat):List D→Option (List D×List Nat×Prop)
 | [] =>some ([],[],True)
 | d :: r=>
  match inRef ρ d with
  | some x=>
   match Uj kp σ ρ r with
   | some (y,l,q)=>some (x::y,l,q)
   | none=>none
  | none=>
   match Z3z kp σ d,Uj kp σ ρ r with
   | some (x,l,p),some (y,l',q)=>some (x::y,l++l',p∧q)
   | _,_=>none
def outA (ρ:List Nat):D→D
 | .lptr k i o=>match ρ[k]? with
  | some b=> .lptr b i o
  | none=> .undef
 | .lsl k lo n=>match ρ[k]? with
  | some b=> .lsl b lo n
  | none=> .undef
 | .agg _|.tup _|.clo .. |.lsk .. => .undef
 | d=>d
def outE (ρ:List Nat):D→D
 | .agg cs=> .agg (cs.map (outA ρ))
 | d=>outA ρ d
def outD (ρ:List Nat):D→D
 | .tup vs=> .tup (vs.map (outE ρ))
 | d=>outE ρ d
def Z0v (ρ:List Nat) (pin:Option Nat) (k:Blk):Blk:=
 match k.pure with
 | true=>{ k with pin:=pin }
 | false=>{ k with rows:=k.rows.map (·.map (outA ρ)),pin:=pin }
def Z1c (j:Nat) (k:Blk):Bool:=
 match k.pin with
 | some i=>match i==j with
  | true=>match k.rows with
   | _::_=>true
   | [] =>false
  | false=>false
 | none=>false
def Jm (σ:S) (ρ:List Nat):Nat→List Nat→List Blk→List Blk
 | j,b::r,k::l=>Z0v ρ (match Z1c j k with
  | true=>(match σ.heap b with
   | some k0=>(match k0.rows with
    | _::_=>k0.pin
    | [] =>none)
   | none=>none)
  | false=>none) k::Jm σ ρ (j+1) r l
 | _,_,_=>[]
def Me:Nat→List Nat→List Blk→List Nat
 | j,b::r,k::l=>match Z1c j k with
  | true=>Me (j+1) r l
  | false=>b::Me (j+1) r l
 | _,_,_=>[]
def S.dropL (σ:S):List Nat→S
 | [] =>σ
 | b::l=>(σ.drop b).dropL l
def S.setL (σ:S) (ρ:List Nat) (bs:List Blk):S:={ σ with heap:=λu=>match Vd u ρ with
 | some k=>bs[k]?
 | none=>σ.heap u }
def S.nilL (σ:S):List (Nat×Nat)→Option S
 | [] =>some σ
 | (b,sz)::l=>match σ.heap b with
  | none=>(σ.setB b (some { sz,rows:=[],frz:=0,pure:=true })).nilL l
  | some _=>none
def Zu0:List (Nat×Nat)→Nat→Option Nat
 | [],_=>none
 | (k,b)::r,i=>match i==k with
  | true=>some b
  | false=>Zu0 r i
def Lw (l:List (Nat×Nat)):Nat→List D→List D
 | _,[] =>[]
 | j,d::r=>(match Zu0 l j with
  | some b=>(match d with
   | .sl true [] => .lsl b 0 0
   | d=>d)
  | none=>d)::Lw l (j+1) r
def We:Nat→List Blk→List (Nat×Blk)
 | _,[] =>[]
 | j,k::r=>(j,k)::We (j+1) r
def Je:List Nat→Bool
 | [] =>true
 | x::r=>(match Vd x r with
  | some _=>false
  | none=>true)&&Je r
def Km:List Blk→List Blk→Bool
 | [],[] =>true
 | k::l,a::l'=>k.sz==a.sz&&k.frz==0&&Km l l'
 | _,_=>false
def Vs (P:Program) (f:FuncId) (ds:List D) (bs:List Blk) (r:D) (bs':List Blk):Prop:=
 L5 P f=true∧∀ (Γ:Ctx) (vs:Array Value) (w:World) (G:Nat→Nat) (β:Nat→Option (Nat×Nat)),
  Zk Γ (mkS ds.length (Vv 0 ds) (We 0 bs)) { tmps:=vs,defers:=[] } w G β→
  Calls P f vs w λe w'=>∃ v G' β',e=.returned v∧Zk Γ (mkS 1 [(0,r)] (We 0 bs')) { tmps:=#[v],defers:=[] } w' G' β'
def K3 (P:Program) (f:FuncId) (ds:List D) (bs:List Blk) (R:D→List Blk→Prop):Prop:=
 L5 P f=true∧∀ (Γ:Ctx) (vs:Array Value) (w:World) (G:Nat→Nat) (β:Nat→Option (Nat×Nat)),
  Zk Γ (mkS ds.length (Vv 0 ds) (We 0 bs)) { tmps:=vs,defers:=[] } w G β→
  Calls P f vs w λe w'=>∃ v G' β' r bs',R r bs'∧e=.returned v∧Zk Γ (mkS 1 [(0,r)] (We 0 bs')) { tmps:=#[v],defers:=[] } w' G' β'
def funA:D→Option (FuncId×List D)
 | .fn f=>some (f,[])
 | .clo f bs=>some (f,bs.map λb=> .lptr b 0 0)
 | _=>none
def Z20 (bs:List Blk) (j:Nat):Option Nat:=
 match bs[j]? with
 | some k=>match k.pin with
  | some i=>match i==j with
   | true=>some j
   | false=>none
  | none=>none
 | none=>none
def Z2i (P:Program) (σ:S) (o:Oper) (f:FuncId) (args:List D) (told:X8) (io:IO):Option (S×Prop):=
 match told.ans with
 | .val r=>
  match σ.nilL io.fresh with
  | some σ0 =>
   match Uj io.kp σ0 io.names (Lw io.nils 0 args) with
   | some (ds,l,p)=>
    match L8 (σ0.freezeL l) io.names (λ_ j=>Z20 io.bs j) 0 io.names with
    | some bs=>match Xx σ o&&Je io.names&&Km io.bs io.bs' with
     | true=>some (((((σ0.freezeL l).dropL (Me 0 io.names io.bs')).setL io.names (Jm (σ0.freezeL l) io.names 0 io.names io.bs'))).put o.dst (outD io.names r),
       p∧ds=(Kt told ds)∧bs=io.bs∧Vs P f (Kt told ds) io.bs r io.bs')
     | false=>none
    | none=>none
   | none=>none
  | none=>none
 | _=>none
def tyR (b:Bool) (e:TypeId):Option TypeId:=match b with
 | true=>some e
 | false=>none
def W7 (P : Program) (σ:S) (o:Oper) (told:X8):Option (S×Prop):=
 match o.op with
 | .alloc e=>
  match Kq P e with
  | some cs=>Ju σ o { sz:=cs.length,rows:=[cs],frz:=0,pure:=false,ty:=tyR told.ro e } (λt=> .lptr t 0 0) True
  | none=>none
 | .box _ x=>
  match cellsOf (σ.ev x) with
  | some cs=>match told.ro with
   | true=>(match cs.all D.dat,Xx σ o with
    | true,true=>some (σ.put o.dst (.ptr cs),True)
    | _,_=>none)
   | false=>Ju σ o { sz:=cs.length,rows:=[cs],frz:=0,pure:=false } (λt=> .lptr t 0 0) True
  | none=>none
 | .build t parts=>
  match Kq P t,Zid P t with
  | some z,some pl=>
   match Z0c pl z (parts.toList.map λx=>(x.1,σ.ev x.2)) with
   | some cs=>match Xx σ o with
    | true=>some (σ.put o.dst (.agg cs),True)
    | false=>none
   | none=>none
  | _,_=>none
 | .buildSlice t len parts=>
  match Ln P t with
  | some e=>
   match P.info? e with
   | some ie =>
    match Vz σ (parts.toList.map λx=>σ.ev x.2) with
    | some (ds,l,p)=>
     match Z0c (λi=>some (i*ie.size,ie.size)) (List.replicate (len*ie.size) .undef) ((parts.toList.map (·.1)).zip ds) with
     | some cs=>match cs.all D.dat&&Nat.ble (len*ie.size) 16777216&&(Kq P e).isSome with
      | true=>match told.ro with
       | true=>(match Xx σ o with
        | true=>(match told.rows with
         | none=>some ((σ.freezeL l).put o.dst (.sl true (L4 ie.size len cs)),p)
         | some rows=>some ((σ.freezeL l).put o.dst (.sl true rows),p∧L4 ie.size len cs=rows))
        | false=>none)
       | false=>Ju (σ.freezeL l) o { sz:=ie.size,rows:=L4 ie.size len cs,frz:=0,pure:=true,ty:=tyR told.mt e } (λt=> .lsl t 0 len) p
      | false=>none
     | none=>none
    | none=>none
   | none=>none
  | none=>none
 | .makeSlice t l c=>
  match Ln P t,σ.ev l,σ.ev c with
  | some e,.int _ l,.int _ c=>
   match P.info? e,Zb4 P e with
   | some ie,some z=>match z.length==ie.size&&z.all D.dat with
    | true=>
     let rows:=told.rows.getD (List.replicate l.toNat z)
     Ju σ o { sz:=ie.size,rows,frz:=0,pure:=true } (λt=> .lsl t 0 rows.length) (0≤l∧l≤c∧(ie.bytes:Int)*c≤281474976710656∧c≤9223372036854775807∧List.replicate l.toNat z=rows)
    | false=>none
   | _,_=>none
  | _,_,_=>none
 | .convert src dst x=>Z2h P σ o src dst (σ.ev x) told
 | .store t x v=>Z29 P σ o t (σ.ev x) (σ.ev v) told
 | .call { callee:= .value f,args,.. }=>
  match σ.ev f with
  | .fn f=>match told.io with
   | none=>Z3w P σ o f (args.toList.map σ.ev) told
   | some io=>Z2i P σ o f (args.toList.map σ.ev) told io
  | _=>none
 | .call { callee:= .builtin .append,args,argTypes }=>
  match args,argTypes with
  | ⟨[s,x]⟩,⟨[t,a]⟩=>Z2g P σ o t a (σ.ev s) (σ.ev x) told
  | _,_=>none
 | .call { callee:= .builtin .unsafeString,args,argTypes }=>
  match args,argTypes with
  | ⟨[x,n]⟩,⟨[pt,_]⟩=>unsD P σ o pt (σ.ev x) (σ.ev n) told
  | _,_=>none
 | _=>none
def V1 (P:Program) (σ:S) (o:Oper) (told:X8):Option (S×Prop):=
 match Q1 P σ o told.ans with
 | some (d,p)=>match Xx σ o with
  | true=>some (σ.put o.dst d,p)
  | false=>none
 | none=>W7 P σ o told
end Go.Den
namespace Go.Den
open Go.RowKit
variable {P:Program} {Γ:Ctx} {σ:S} {a:Act} {w w':World} {G G':Nat→Nat} {β β':Nat→Option (Nat×Nat)}
def Reach (P:Program) (Γ:Ctx) (o:Oper) (a:Act) (w:World) (σ':S):Prop:=
 ∀ (next:Act→World→Prop) (Q:Exit→Act→World→Prop),(∀ b w' G' β',Zk Γ σ' b w' G' β'→next b w')→o.wp P a w next Q
theorem Reach.of_value {o:Oper} {σ':S} {v:Value} (h:(execOp a.eval o).run P w=.ok (.value v) w') (b:Zk Γ σ' (a.put o.dst v) w' G' β'):Reach P Γ o a w σ':=λnext Q c=>by
 unfold Oper.wp
 rw[h,Oper.upon_value]
 exact c _ _ _ _ b
theorem Reach.of_skip {o:Oper} {σ':S} (h:(execOp a.eval o).run P w=.ok .skip w') (b:Zk Γ σ' (a.put o.dst Go.undef) w' G' β'):Reach P Γ o a w σ':=λnext Q c=>by
 unfold Oper.wp
 rw[h,Oper.upon_skip]
 exact c _ _ _ _ b
theorem Jf {o:Oper} (h:Xx σ o=true):∀ t,o.dst=some t→t<σ.n:=λt b=>by
 unfold Xx at h; rw[b] at h; exact Nat.le_of_ble_eq_true h
theorem Z3k {s:Sem Value} {v:Value} (h:s.run P w=.ok v w'):(do pure (Next.value (← s)):Sem Next).run P w=.ok (.value v) w':=by simp[h]
theorem Ku (w:World) (x:Obj):Below w.heap.size w (w.alloc x):=(Below.refl _ w).alloc (Nat.le_refl _) x
theorem Z6i (w:World):Below w.heap.size w w.drew:=(Below.refl _ w).drew
theorem Lp (w:World) (x:Obj):(w.alloc x).heap[w.heap.size]?=some x:=by
 show (w.heap.push x)[w.heap.size]?=_
 simp
theorem Zk.blk' (h:Zk Γ σ a w G β) {b c:Nat} {blk:Blk} (f:σ.heap b=some blk) {sz:Nat} (d:β b=some (c,sz)):Vr w G β Γ c blk:=by
 rcases h.heap b blk f with ⟨e,-⟩|⟨c',e,hB⟩
 ·rw[e] at d; cases d
 ·rw[e] at d; cases d; exact hB
theorem Zk.new (h:Zk Γ σ a w G β) {t:Nat} {blk:Blk} (B:σ.heap t=none) {vs:Array Value} {e:TypeId} {fr:Nat×Nat} (n:∀ o,o<vs.size→ ¬ (fr.1≤o∧o<fr.2))
  (u:blk.frz=0∧blk.pin=none∧∀ t,blk.ty=some t→e=t∧fr.1≤fr.2) (hsz:∀ (i:Nat) (r:List D),blk.rows[i]?=some r→r.length=blk.sz)
  (C:blk.pure=true→∀ (i j:Nat) (r:List D) (d:D),blk.rows[i]?=some r→r[j]?=some d→d.dat=true)
  (E:blk.rows.length*blk.sz≤vs.size)
  (F:∀ (i j:Nat) (r:List D) (d:D),blk.rows[i]?=some r→r[j]?=some d→∃ v,vs[i*blk.sz+j]?=some v∧one v=true∧Zh w G β v d):
  Zk Γ (σ.setB t (some blk)) a (w.alloc (.cells vs e fr)) G (upd β t (some (w.heap.size,blk.sz))):=by
 have A:=h.quiet (Ku w (.cells vs e fr))
 refine A.name B (λq s hs=>?_) ?_
 ·obtain⟨k,f⟩:=h.dom q _ hs
  rcases h.heap q k f with ⟨l,-⟩|⟨c,l,hB⟩
  ·rw[l] at hs; cases hs
  ·rw[l] at hs; cases hs; have:=hB.lt; omega
 ·have m:G w.heap.size=0:=h.fresh _ (Nat.le_refl _)
  refine⟨.inl h.big,(λk f=>by rw[u.2.1] at f; cases f),(λk f=>by obtain⟨rfl,g⟩:=u.2.2 k f; exact⟨_,_,Lp w _,g⟩),(λo p=>by rw[m] at p; omega),by omega,C,hsz,vs,e,fr,Lp w _,n,E,λi j r d y z=>?_⟩
  obtain⟨v,a1,a2,x⟩:=F i j r d y z
  exact⟨v,a1,a2,x.mono (λb o p=>Z09 ((Ku w _).block b (h.marksLt p)) o) (λ_=>Nat.le_refl _) (λ_ _ h=>h) (Zbf (Ku w _))⟩
theorem Z1x {o:Oper} {blk:Blk} {v:Nat→D} {p q:Prop} {σ':S} (h:Ju σ o blk v p=some (σ',q)):∃ t,o.dst=some t∧σ.heap t=none∧t<σ.n∧σ'=(σ.setB t (some blk)).put (some t) (v t)∧q=p:=by
 unfold Ju at h
 split at h
 ·rename_i t c
  split at h
  ·cases h
  ·split at h
   ·cases h
    rename_i b
    exact⟨t,c,by assumption,Nat.le_of_ble_eq_true b,rfl,rfl⟩
   ·cases h
 ·cases h
theorem Reach.new (h:Zk Γ σ a w G β) {o:Oper} {blk:Blk} {dv:Nat→D} {p q:Prop} {σ':S} (n:Ju σ o blk dv p=some (σ',q)) {vs:Array Value} {e:TypeId} {fr:Nat×Nat} {v:Value}
  (b:(execOp a.eval o).run P w=.ok (.value v) (w.alloc (.cells vs e fr)))
  (z:∀ t,σ.heap t=none→Zh (w.alloc (.cells vs e fr)) G (upd β t (some (w.heap.size,blk.sz))) v (dv t))
  (c:∀ o,o<vs.size→ ¬ (fr.1≤o∧o<fr.2))
  (A:blk.frz=0∧blk.pin=none∧∀ t,blk.ty=some t→e=t∧fr.1≤fr.2) (hsz:∀ (i:Nat) (r:List D),blk.rows[i]?=some r→r.length=blk.sz)
  (l:blk.pure=true→∀ (i j:Nat) (r:List D) (d:D),blk.rows[i]?=some r→r[j]?=some d→d.dat=true)
  (m:blk.rows.length*blk.sz≤vs.size)
  (s:∀ (i j:Nat) (r:List D) (d:D),blk.rows[i]?=some r→r[j]?=some d→∃ v,vs[i*blk.sz+j]?=some v∧one v=true∧Zh w G β v d):Reach P Γ o a w σ':=by
 obtain⟨t,x,g,f,rfl,-⟩:=Z1x n
 have k:=h.new (e:=e) g c A hsz l m s
 refine Reach.of_value b (G':=G) (β':=upd β t (some (w.heap.size,blk.sz))) ?_
 have:=k.put (dst:=some t) (λu y=>by cases y; exact f) (z t g)
 rw[x]
 exact this
theorem Zk0 {v:Value} {d:D} (h:Zh w G β v d) {cs:List D} (k:cellsOf d=some cs):cs.length=v.cells.size∧(∀ (j:Nat) u,v.cells[j]?=some u→one u=true)∧
  ∀ (j:Nat) u d,v.cells[j]?=some u→cs[j]?=some d→Zh w G β u d:=by
 by_cases i:∃ cs,d=.agg cs
 ·obtain⟨cs',rfl⟩:=i
  cases k
  obtain⟨vs,rfl,o,c,f⟩:=L9 h
  exact⟨o,c,f⟩
 ·have g:cs=[d]∧d≠ .undef∧(∀ cs,d≠ .tup cs):=by
   cases d <;> first
    | exact absurd ⟨_,rfl⟩ i
    | (cases k; exact⟨rfl,by simp,by simp⟩)
    | cases k
  obtain⟨rfl,m,n⟩:=g
  have l:=Zub h m (λcs e=>i ⟨cs,e⟩) n
  have p:v.cells= #[v] :=by cases v <;> first|rfl|simp[one] at l
  rw[p]
  refine⟨rfl,λj u b=>?_,λj u d' b g=>?_⟩
  ·cases j with
   | zero=>simp at b; subst b; exact l
   | succ j=>simp at b
  ·cases j with
   | zero=>simp at b g; subst b g; exact h
   | succ j=>simp at b
theorem Zjg {t:TypeId} {cs:List D} (h:Kq P t=some cs):∃ i v,P.info? t=some i∧i.zero=some v∧cs.length=v.cells.size∧(∀ (j:Nat) u,v.cells[j]?=some u→one u=true)∧
  ∀ (w:World) (G:Nat→Nat) (β:Nat→Option (Nat×Nat)) (j:Nat) u d,v.cells[j]?=some u→cs[j]?=some d→Zh w G β u d:=by
 unfold Kq at h
 split at h
 ·rename_i i f
  split at h
  ·rename_i v g
   split at h
   ·rename_i b
    cases h
    refine⟨i,v,f,g,by simp,λj u c=>List.all_eq_true.1 b u (List.mem_of_getElem? (i:=j) (by simpa using c)),λw G β j u d c e=>?_⟩
    simp only[List.getElem?_map,Array.getElem?_toList,c,Option.map_some,Option.some.injEq] at e
    subst e
    exact Zk7 u
   ·cases h
  ·cases h
 ·cases h
theorem Zk.mark (h:Zk Γ σ a w G β) {c0:Nat} (i:∀ b s,β b≠some (c0,s)) (l:Γ.B≤c0) (n:c0<w.heap.size) {k:Nat} (m:G c0≤k):Zk Γ σ a w (λc=>if c=c0 then k else G c) β:=by
 have f:∀ c,G c≤(if c=c0 then k else G c):=λc=>by
  split
  ·rename_i h; subst h; exact m
  ·exact Nat.le_refl _
 refine⟨h.defers,h.size,λt=>(h.tmps t).mono (λ_ _ _=>rfl) f (λ_ _ h=>h) (.refl w),λb blk j=>?_,h.dom,h.inj,h.kept,λc g o=>?_,λc g=>?_,h.big,h.glob.mono (λ_ _ _=>rfl) f⟩
 ·rcases h.heap b blk j with d|⟨c,d,hB⟩
  ·exact .inl d
  ·exact .inr ⟨c,d,hB.mono (λ_ _ _=>rfl) f (if_neg λe=>i b _ (e ▸ d)) (λ_ _ h=>h) (.refl w) rfl⟩
 ·rw[if_neg (by omega)]; exact h.marks c g o
 ·rw[if_neg (by omega)]; exact h.fresh c g
theorem Reach.boxRo (h:Zk Γ σ a w G β) {o:Oper} {cs:List D} (l:∀ t,o.dst=some t→t<σ.n) (g:cs.all D.dat=true)
  {vs:Array Value} {e:TypeId} (m:(execOp a.eval o).run P w=.ok (.value (.pointer (some ⟨w.heap.size,0,none⟩))) (w.alloc (.cells vs e)))
  (I:cs.length=vs.size) (A:∀ (j:Nat) u,vs[j]?=some u→one u=true) (B:∀ (j:Nat) u d,vs[j]?=some u→cs[j]?=some d→Zh w G β u d):Reach P Γ o a w (σ.put o.dst (.ptr cs)):=by
 have hq:=h.quiet (Ku w (.cells vs e))
 have q:w.heap.size<(w.alloc (.cells vs e)).heap.size:=Zf8 (Lp w _)
 have r:∀ b s,β b≠some (w.heap.size,s):=λb s x=>by
  obtain⟨k,E⟩:=h.dom b _ x
  have:=(h.blk' E x).lt
  omega
 have p:G w.heap.size=0:=h.fresh _ (Nat.le_refl _)
 have F:=hq.mark r h.big q (k:=vs.size) (by omega)
 refine Reach.of_value m (F.put l ?_)
 refine .ptr w.heap.size 0 cs (λj=>vs.getD j Go.undef) (λj y=>?_) (λj y=>?_) (λj y=>?_) (λj d i=>List.all_eq_true.1 g d (List.mem_of_getElem? i)) (λj d i=>?_)
 ·simp only[if_true]; omega
 ·rw[Jc,Lp]
  have f:j<vs.size:=by omega
  simp[Array.getD_eq_getD_getElem?,f]
 ·have f:j<vs.size:=by omega
  have:=A j vs[j] (Array.getElem?_eq_getElem f)
  simpa [Array.getD_eq_getD_getElem?,f] using this
 ·have f:j<vs.size:=by
   rcases Nat.lt_or_ge j cs.length with v|v
   ·omega
   ·rw[List.getElem?_eq_none v] at i; cases i
  have:=B j vs[j] d (Array.getElem?_eq_getElem f) i
  have z:vs.getD j Go.undef=vs[j] :=by simp[Array.getD_eq_getD_getElem?,f]
  rw[z]
  exact this.of_dat (λb o H=>Z09 ((Ku w _).block b (h.marksLt H)) o) (λc=>by
   show G c≤(if c=w.heap.size then vs.size else G c)
   split
   ·rename_i C; rw[C,p]; exact Nat.zero_le _
   ·exact Nat.le_refl _) (List.all_eq_true.1 g d (List.mem_of_getElem? i))
theorem Reach.box (h:Zk Γ σ a w G β) {o:Oper} {cs:List D} {σ':S} {q:Prop} {ty:Option TypeId} (v:Ju σ o { sz:=cs.length,rows:=[cs],frz:=0,pure:=false,ty } (λt=> .lptr t 0 0) True=some (σ',q))
  {vs:Array Value} {e:TypeId} (c:(execOp a.eval o).run P w=.ok (.value (.pointer (some ⟨w.heap.size,0,none⟩))) (w.alloc (.cells vs e))) (k:∀ t,ty=some t→e=t)
  (n:cs.length=vs.size) (p:∀ (j:Nat) u,vs[j]?=some u→one u=true) (s:∀ (j:Nat) u d,vs[j]?=some u→cs[j]?=some d→Zh w G β u d):Reach P Γ o a w σ':=by
 refine Reach.new h v c (λt m=>?_) (λo x=>by simp) ⟨rfl,rfl,λt m=>⟨k t m,Nat.le_refl _⟩⟩ (λi r b=>?_) (λhp=>by cases hp) (by simp[n]) (λi j r d b f=>?_)
 ·have:=Zh.lptr (w:=w.alloc (.cells vs e)) (G:=G) (β:=upd β t (some (w.heap.size,cs.length))) t 0 0 w.heap.size cs.length (by simp[upd])
  simpa using this
 ·cases i with
  | zero=>simp at b; subst b; rfl
  | succ i=>simp at b
 ·cases i with
  | zero=>
   simp at b; subst b
   have g:j<vs.size:=by
    rcases Nat.lt_or_ge j cs.length with l|l
    ·omega
    ·rw[List.getElem?_eq_none l] at f; cases f
   exact⟨vs[j],by simp[Array.getElem?_eq_getElem g],p j _ (Array.getElem?_eq_getElem g),s j _ d (Array.getElem?_eq_getElem g) f⟩
  | succ i=>simp at b
theorem Zkw (off:Nat):∀ (l:List Value) (i:Nat) (cs:Array Value),((l.zipIdx i).foldl (λcs (c,j)=>cs.setIfInBounds (off+j) c) cs).size=cs.size∧
  ∀ k,off+i+l.length≤cs.size→((l.zipIdx i).foldl (λcs (c,j)=>cs.setIfInBounds (off+j) c) cs)[k]?=if off+i≤k∧k<off+i+l.length then l[k - (off+i)]? else cs[k]?
 | [],i,cs=>⟨rfl,λk _=>by simp; omega⟩
 | c :: l,i,cs=>by
  have ih:=Zkw off l (i+1) (cs.setIfInBounds (off+i) c)
  have hsz:(cs.setIfInBounds (off+i) c).size=cs.size:=by simp
  simp only[List.zipIdx_cons,List.foldl_cons]
  refine⟨by rw[ih.1]; simp,λk e=>?_⟩
  simp only[List.length_cons] at e ⊢
  rw[ih.2 k (by omega)]
  by_cases b:off+i=k
  ·subst b
   rw[if_neg (by omega),if_pos (by omega)]
   simp[show off+i<cs.size by omega]
  ·by_cases d:off+i≤k∧k<off+i+(l.length+1)
   ·rw[if_pos (by omega),if_pos d]
    rw[show k - (off+i)=(k - (off+(i+1)))+1 by omega,List.getElem?_cons_succ]
   ·rw[if_neg (by omega),if_neg d]
    simp[b]
theorem Zon (cs dc:List D) (off k:Nat) (h:off+dc.length≤cs.length):(Qu cs off dc)[k]?=if off≤k∧k<off+dc.length then dc[k - off]? else cs[k]? :=by
 unfold Qu
 rw[List.append_assoc,List.getElem?_append,List.length_take,List.getElem?_append,List.getElem?_drop,List.getElem?_take]
 rw[show min off cs.length=off by omega]
 by_cases b:k<off
 ·rw[if_pos b,if_pos b,if_neg (by omega)]
 ·rw[if_neg b]
  by_cases c:k - off<dc.length
  ·rw[if_pos c,if_pos (by omega)]
  ·rw[if_neg c,if_neg (by omega)]
   congr 1; omega
theorem Zvi (cs dc:List D) (off:Nat) (h:off+dc.length≤cs.length):(Qu cs off dc).length=cs.length:=by
 unfold Qu; simp; omega
def Z63 (w:World) (G:Nat→Nat) (β:Nat→Option (Nat×Nat)) (vs:Array Value) (cs:List D):Prop:=
 cs.length=vs.size∧(∀ (j:Nat) u,vs[j]?=some u→one u=true)∧∀ (j:Nat) u d,vs[j]?=some u→cs[j]?=some d→Zh w G β u d
theorem Zku {place:Nat→Option (Nat×Nat)}:∀ (ps:List (Nat×D)) (vps:List (Nat×Value)) (cs:List D) (vs:Array Value) (cs':List D),Z63 w G β vs cs→
  ps.map (·.1)=vps.map (·.1)→(∀ (j:Nat) p u,ps[j]?=some p→vps[j]?=some u→Zh w G β u.2 p.2)→Z0c place cs ps=some cs'→∃ vs',Instr.fill place vs vps=some vs'∧Z63 w G β vs' cs'
 | [],vps,cs,vs,cs',e,g,r,h=>by
  cases h
  cases vps with
  | nil=>exact⟨vs,rfl,e⟩
  | cons _ _=>simp at g
 | (i, d) :: ps,vps,cs,vs,cs',e,g,r,h=>by
  cases vps with
  | nil=>simp at g
  | cons x vps=>
   obtain⟨F,v⟩:=x
   simp only[List.map_cons,List.cons.injEq] at g
   obtain⟨rfl,g⟩:=g
   unfold Z0c at h
   split at h
   ·rename_i off size dc hp q
    split at h
    ·rename_i s
     simp only[Bool.and_eq_true,beq_iff_eq,Nat.ble_eq] at s
     obtain⟨B,f⟩:=s
     have E:Zh w G β v d:=r 0 (i,d) (i,v) rfl rfl
     obtain⟨c1,t,y⟩:=Zk0 E q
     have n:=Zkw off v.cells.toList 0 vs
     simp only[Nat.add_zero,Array.length_toList] at n
     have o:Z63 w G β ((v.cells.toList.zipIdx 0).foldl (λcs (c,j)=>cs.setIfInBounds (off+j) c) vs) (Qu cs off dc):=by
      have k:off+v.cells.size≤vs.size:=by rw[← c1,← e.1]; exact f
      refine⟨by rw[Zvi _ _ _ f,n.1,e.1],λj u b=>?_,λj u d b l=>?_⟩
      ·rw[n.2 j k] at b
       split at b
       ·exact t _ u (by simpa using b)
       ·exact e.2.1 j u b
      ·rw[n.2 j k] at b
       rw[Zon _ _ _ _ f] at l
       split at b
       ·rename_i C
        rw[if_pos (by omega)] at l
        exact y _ u d (by simpa using b) l
       ·rename_i C
        rw[if_neg (by omega)] at l
        exact e.2.2 j u d b l
     obtain⟨vs',z,A⟩:=Zku ps vps _ _ cs' o g (λj p u hp b=>r (j+1) p u (by simpa using hp) (by simpa using b)) h
     refine⟨vs',?_,A⟩
     unfold Instr.fill
     have m:v.cells.size=size:=by omega
     have k: ¬ (off+v.cells.size>vs.size):=by rw[← c1,← e.1]; omega
     simp only[hp,m,ne_eq,not_true_eq_false,decide_false,Bool.false_or,decide_eq_true_eq]
     rw[if_neg (by omega)]
     rw[← Array.foldl_toList,Array.toList_zipIdx]
     exact z
    ·cases h
   ·cases h
theorem Y5o (a:Act) (parts:Array (Nat×Operand)):(parts.map λ(i,x)=>(i,a.eval x)).toList=parts.toList.map λx=>(x.1,a.eval x.2):=by
 simp
theorem Y34 (r:Zk Γ σ a w G β) {t:TypeId} {parts:Array (Nat×Operand)} {z:List D} {pl:Nat→Option (Nat×Nat)} {cs:List D} (A:Kq P t=some z) (hp:Zid P t=some pl)
  (s:Z0c pl z (parts.toList.map λx=>(x.1,σ.ev x.2))=some cs):∃ vs,(Instr.build t (parts.map λ(i,x)=>(i,a.eval x))).run P w=.ok (.agg vs) w∧Z63 w G β vs cs:=by
 obtain⟨i,v,h,k,l,m,o⟩:=Zjg A
 obtain ⟨vs',g,q⟩:=Zku (w:=w) (G:=G) (β:=β) (place:=pl) _ (parts.toList.map λx=>(x.1,a.eval x.2)) z v.cells cs ⟨l,m,λj u d=>o w G β j u d⟩ (by simp) (λj p u hp b=>by
  simp only[List.getElem?_map] at hp b
  obtain⟨x,y,rfl⟩:=Qg hp
  rw[y] at b; cases b
  exact W8 r x.2) s
 refine⟨vs',run_build w t _ vs' ?_,q⟩
 unfold Program.built
 rw[Y5o]
 unfold Zid at hp
 split at hp
 ·rename_i fs b
  split at hp
  ·rename_i places f
   cases hp
   simp only[h,b,k,f]
   simpa using g
  ·cases hp
 ·rename_i n e b
  split at hp
  ·rename_i ie c
   cases hp
   simp only[h,b,k,c]
   exact g
  ·cases hp
 ·cases hp
end Go.Den
namespace Go.Den
open Go.RowKit
variable {P:Program} {Γ:Ctx} {σ:S} {a:Act} {w w':World} {G G':Nat→Nat} {β β':Nat→Option (Nat×Nat)}
def L1 (σ σ':S):Prop:=∀ b,(σ'.heap b).map (λk=>(k.pure,k.rows))=(σ.heap b).map (λk=>(k.pure,k.rows))
theorem Y2v (σ:S) (b:Nat):L1 σ (σ.freeze b):=λu=>by
 simp only[S.freeze]
 split
 ·cases σ.heap u <;> rfl
 ·rfl
theorem L1.trans {a b c:S} (h:L1 a b) (k:L1 b c):L1 a c:=λu=>(k u).trans (h u)
theorem Z6f:∀ (l:List Nat) (σ:S),L1 σ (σ.freezeL l)
 | [],_=>λ_=>rfl
 | b::l,σ=>(Y2v σ b).trans (Z6f l (σ.freeze b))
theorem Z44:∀ (l:List Nat) (σ:S),(σ.freezeL l).tmps=σ.tmps∧(σ.freezeL l).n=σ.n
 | [],_=>⟨rfl,rfl⟩
 | b::l,σ=>Z44 l (σ.freeze b)
theorem Zsz:∀ (l:List Nat) (σ:S) (t:Nat),(σ.freezeL l).heap t=none↔σ.heap t=none
 | [],_,_=>Iff.rfl
 | b::l,σ,t=>(Zsz l (σ.freeze b) t).trans (by simp only[S.freeze]; split <;> simp)
def K4 (σ:S) (G:Nat→Nat) (β:Nat→Option (Nat×Nat)) (b:Nat):Prop:=∀ blk c,σ.heap b=some blk→β b=some (c,blk.sz)→blk.rows.length*blk.sz≤G c
theorem Zt2 (σ:S) (b u:Nat) {blk:Blk} (h:σ.heap u=some blk):∃ f,(σ.freeze b).heap u=some { blk with frz:=f }:=by
 simp only[S.freeze]
 split
 ·exact⟨blk.rows.length,by rw[h]; rfl⟩
 ·exact⟨blk.frz,by rw[h]⟩
theorem Zt1:∀ (l:List Nat) (σ:S) (u:Nat) {blk:Blk},σ.heap u=some blk→∃ f,(σ.freezeL l).heap u=some { blk with frz:=f }
 | [],σ,u,blk,h=>⟨blk.frz,h⟩
 | b::l,σ,u,blk,h=>by
  obtain⟨f,e⟩:=Zt2 σ b u h
  obtain⟨d,c⟩:=Zt1 l (σ.freeze b) u e
  exact⟨d,c⟩
theorem Zk.freezeL:∀ (l:List Nat) {σ:S} {G:Nat→Nat},Zk Γ σ a w G β→∃ G',Zk Γ (σ.freezeL l) a w G' β∧(∀ k,G k≤G' k)∧∀ b∈l,K4 σ G' β b
 | [],σ,G,h=>⟨G,h,λ_=>Nat.le_refl _,λb d=>by cases d⟩
 | b::l,σ,G,h=>by
  obtain⟨G1,i,j,m⟩:=h.freeze b
  obtain⟨G2,k1,k2,k3⟩:=Zk.freezeL l i
  refine⟨G2,k1,λk=>Nat.le_trans (j k) (k2 k),λu e=>?_⟩
  rcases List.mem_cons.1 e with rfl|e
  ·exact λblk c d g=>Nat.le_trans (m blk c d g) (k2 c)
  ·exact λblk c d g=>by
    obtain⟨f,n⟩:=Zt2 σ b u d
    exact k3 u e { blk with frz:=f } c n g
theorem Zk.blk (h:Zk Γ σ a w G β) {b c:Nat} {blk:Blk} (f:σ.heap b=some blk) {sz:Nat} (d:β b=some (c,sz)):sz=blk.sz∧Vr w G β Γ c blk:=by
 rcases h.heap b blk f with ⟨e,-⟩|⟨c',e,hB⟩
 ·rw[e] at d; cases d
 ·rw[e] at d; cases d; exact⟨rfl,hB⟩
theorem Y59 (h:Zk Γ σ a w G β) {v:Value} {b lo n:Nat} {blk:Blk} (O:Zh w G β v (.lsl b lo n)) (H:σ.heap b=some blk) (hp:blk.pure=true) (N:lo+n≤blk.rows.length) (K:K4 σ G β b):
  Zh w G β v (.sl false ((blk.rows.drop lo).take n)):=by
 cases O with
 | lslnil _ x=>simp; exact .slnil false x
 | lsl _ _ _ cap c sz off I q y D=>
  obtain⟨rfl,hB⟩:=h.blk H I
  obtain⟨vs,e,fr,A,Q,R,F⟩:=hB.cells
  have L:=K blk c H I
  have t:∀ i j,i<n→j<blk.sz→(lo+i)*blk.sz+j<blk.rows.length*blk.sz:=λi j g o=>by
   have:(lo+i+1)*blk.sz≤blk.rows.length*blk.sz:=Nat.mul_le_mul_right _ (by omega)
   rw[Nat.add_mul] at this; omega
  have m:∀ i j,lo*blk.sz+i*blk.sz+j=(lo+i)*blk.sz+j:=λi j=>by rw[Nat.add_mul]
  have l:∀ i,i<n→off=lo*blk.sz:=λi g=>y.resolve_left (by omega)
  have z:∀ i,i<n→∃ r,blk.rows[lo+i]?=some r∧((blk.rows.drop lo).take n)[i]?=some r∧r.length=blk.sz:=λi g=>by
   have p:lo+i<blk.rows.length:=by omega
   refine⟨blk.rows[lo+i],List.getElem?_eq_getElem p,?_,hB.hsz (lo+i) _ (List.getElem?_eq_getElem p)⟩
   rw[List.getElem?_take_of_lt g,List.getElem?_drop]
   exact List.getElem?_eq_getElem p
  have s:∀ i j,i<n→j<blk.sz→∃ u,vs[(lo+i)*blk.sz+j]?=some u∧one u=true:=λi j g o=>by
   obtain⟨r,k,-,T⟩:=z i g
   obtain⟨u,a1,a2,-⟩:=F (lo+i) j r r[j] k (List.getElem?_eq_getElem (by omega))
   exact⟨u,a1,a2⟩
  have f:∀ (i:Nat) r,((blk.rows.drop lo).take n)[i]?=some r→blk.rows[lo+i]?=some r∧i<n:=λi r k=>by
   rw[List.getElem?_take] at k
   split at k
   ·rw[List.getElem?_drop] at k; exact⟨k,by assumption⟩
   ·cases k
  refine .sl false c off n cap blk.sz _ (λi j=>vs.getD ((lo+i)*blk.sz+j) Go.undef) (by simp; omega) (λM=>by cases M) q (λi r k=>hB.hsz _ r (f i r k).1) (λi j g o=>?_) (λi j g o=>?_) (λi j g o=>?_)
   (λi j r d k B=>hB.dat hp _ j r d (f i r k).1 B) (λi j r d k B=>?_)
  ·rw[l i g,m]; have:=t i j g o; omega
  ·obtain⟨u,E,-⟩:=s i j g o
   rw[l i g,m,Jc,A]
   simp[E,Array.getD_eq_getD_getElem?]
  ·obtain⟨u,E,A⟩:=s i j g o
   simp[Array.getD_eq_getD_getElem?,E,A]
  ·obtain⟨C,g⟩:=f i r k
   obtain⟨u,a1,a2,J⟩:=F _ j r d C B
   simp only[Array.getD_eq_getD_getElem?,a1,Option.getD_some]
   exact J
theorem Y3p {d d':D} {l:List Nat} {p:Prop} (b:Ww σ d=some (d',l,p)):d'.dat=true:=by
 unfold Ww at b
 repeat' split at b
 all_goals first
  | (cases b; first|rfl|assumption)
  | (cases b; done)
theorem Z6r (h:Zk Γ σ a w G β) {v:Value} {d d':D} {l:List Nat} {p:Prop} (H:Zh w G β v d) (f:Ww σ d=some (d',l,p)) (hp:p) (K:∀ b∈l,K4 σ G β b):
  Zh w G β v d'∧d'.dat=true:=by
 unfold Ww at f
 split at f
 ·rename_i b lo n
  split at f
  ·rename_i blk E
   split at f
   ·rename_i q
    cases f
    exact⟨Y59 h H E q hp (K b (by simp)),rfl⟩
   ·cases f
  ·cases f
 ·rename_i b i o
  split at f
  ·rename_i blk E
   split at f
   ·rename_i r F
    split at f
    ·rename_i s
     cases f
     refine⟨?_,rfl⟩
     cases H with
     | lptr _ _ _ c sz L=>
      obtain⟨rfl,hB⟩:=h.blk E L
      obtain⟨vs,e,fr,M,T,U,N⟩:=hB.cells
      have Q:=K b (by simp) blk c E L
      have W:=hB.hsz i r F
      have V:i<blk.rows.length:=by
       rcases Nat.lt_or_ge i blk.rows.length with J|J
       ·exact J
       ·rw[List.getElem?_eq_none J] at F; cases F
      have z:∀ j,j<(r.drop o).length→i*blk.sz+o+j<blk.rows.length*blk.sz:=λj m=>by
       have:(i+1)*blk.sz≤blk.rows.length*blk.sz:=Nat.mul_le_mul_right _ (by omega)
       rw[Nat.add_mul] at this
       simp at m; omega
      have k:∀ j d,(r.drop o)[j]?=some d→∃ u,vs[i*blk.sz+o+j]?=some u∧one u=true∧Zh w G β u d:=λj d f=>by
       rw[List.getElem?_drop] at f
       obtain⟨u,a1,a2,I⟩:=N i (o+j) r d F f
       exact⟨u,by rw[← a1]; congr 1; omega,a2,I⟩
      refine .ptr c _ _ (λj=>vs.getD (i*blk.sz+o+j) Go.undef) (λj m=>by have:=z j m; omega) (λj m=>?_) (λj m=>?_) (λj d f=>?_) (λj d f=>?_)
      ·obtain⟨u,a1,-⟩:=k j _ (List.getElem?_eq_getElem m)
       rw[Jc,M]; simp[a1,Array.getD_eq_getD_getElem?]
      ·obtain⟨u,a1,a2,-⟩:=k j _ (List.getElem?_eq_getElem m)
       simp[a1,a2,Array.getD_eq_getD_getElem?]
      ·rw[List.getElem?_drop] at f
       exact List.all_eq_true.1 s d (List.mem_of_getElem? f)
      ·obtain⟨u,a1,a2,I⟩:=k j d f
       simp only[Array.getD_eq_getD_getElem?,a1,Option.getD_some]
       exact I
    ·cases f
   ·cases f
  ·cases f
 ·cases f
  refine⟨?_,rfl⟩
  cases H with
  | slnil _ x=>exact .slnil false x
  | sl c b off n cap sz rows val R O t hsz A g B y C=>exact .sl false b off n cap sz _ val R (λh=>by cases h) t hsz A g B y C
 ·split at f
  ·cases f; exact⟨H,by assumption⟩
  ·cases f
theorem Zs8 (h:Zk Γ σ a w G β):∀ {ds ds':List D} {l:List Nat} {p:Prop},Lm σ ds=some (ds',l,p)→p→(∀ b∈l,K4 σ G β b)→ds'.length=ds.length∧(∀ d∈ds',d.dat=true)∧
  ∀ (j:Nat) v d d',Zh w G β v d→ds[j]?=some d→ds'[j]?=some d'→Zh w G β v d'
 | [],ds',l,p,c,hp,i=>by cases c; exact⟨rfl,by simp,λj v d d' _ h=>by simp at h⟩
 | x :: r,ds',l,p,c,hp,i=>by
  unfold Lm at c
  split at c
  ·rename_i d1 n q t o s k m
   cases c
   obtain⟨k1,k2,k3⟩:=Zs8 h m hp.2 (λb g=>i b (by simp[g]))
   have key:∀ v,Zh w G β v x→Zh w G β v d1∧d1.dat=true:=λv f=>Z6r h f k hp.1 (λb g=>i b (by simp[g]))
   refine⟨by simp[k1],λd c=>?_,λj v d d' f c e=>?_⟩
   ·rcases List.mem_cons.1 c with rfl|c
    ·exact Y3p k
    ·exact k2 d c
   ·cases j with
    | zero=>simp at c e; subst c e; exact(key v f).1
    | succ j=>simp at c e; exact k3 j v d d' f c e
  ·cases c
theorem Z16 {v:Value} {d:D} (h:Zh w G β v d) (b:d.dat=true):Zh w G (λ_=>none) v d:=h.of_dat (λ_ _ _=>rfl) (λ_=>Nat.le_refl _) b
theorem Zs5 (h:Zk Γ σ a w G β) {v:Value} {d d':D} {l:List Nat} {p:Prop} (n:Zh w G β v d) (c:Ll σ d=some (d',l,p)) (hp:p) (k:∀ b∈l,K4 σ G β b):
  Zh w G (λ_=>none) v d':=by
 unfold Ll at c
 split at c
 ·rename_i cs
  split at c
  ·rename_i cs' l' x e
   cases c
   obtain⟨vs,rfl,s,f,g⟩:=L9 n
   obtain⟨k1,k2,k3⟩:=Zs8 h e hp k
   refine .agg vs cs' (by rw[k1]; exact s) f (λj u d t c=>?_)
   have m:j<cs.length:=by
    rcases Nat.lt_or_ge j cs'.length with i|i
    ·omega
    ·rw[List.getElem?_eq_none i] at c; cases c
   have o:=g j u _ t (List.getElem?_eq_getElem m)
   exact Z16 (k3 j u _ d o (List.getElem?_eq_getElem m) c) (k2 d (List.mem_of_getElem? c))
  ·cases c
 ·obtain⟨q,r⟩:=Z6r h n c hp k
  exact Z16 q r
theorem Zs4 (h:Zk Γ σ a w G β) {v:Value} {d d':D} {l:List Nat} {p:Prop} (e:Zh w G β v d) (c:Z2k σ d=some (d',l,p)) (hp:p) (f:∀ b∈l,K4 σ G β b):Zh w G β v d'∧d'.dat=true:=by
 unfold Z2k at c
 split at c
 ·cases c; exact⟨e,rfl⟩
 ·exact Z6r h e c hp f
theorem Zs9 (h:Zk Γ σ a w G β):∀ {ds ds':List D} {l:List Nat} {p:Prop},Z2l σ ds=some (ds',l,p)→p→(∀ b∈l,K4 σ G β b)→ds'.length=ds.length∧
  ∀ (j:Nat) v d d',Zh w G β v d→ds[j]?=some d→ds'[j]?=some d'→Zh w G β v d'∧d'.dat=true
 | [],ds',l,p,c,hp,g=>by cases c; exact⟨rfl,λj v d d' _ h=>by simp at h⟩
 | x :: r,ds',l,p,c,hp,g=>by
  unfold Z2l at c
  split at c
  ·rename_i d1 n q t o s k m
   cases c
   obtain⟨k1,k3⟩:=Zs9 h m hp.2 (λb f=>g b (by simp[f]))
   refine⟨by simp[k1],λj v d d' i c e=>?_⟩
   cases j with
   | zero=>simp at c e; subst c e; exact Zs4 h i k hp.1 (λb f=>g b (by simp[f]))
   | succ j=>simp at c e; exact k3 j v d d' i c e
  ·cases c
theorem Y3s (h:Zk Γ σ a w G β) {kp:Bool} {v:Value} {d d':D} {l:List Nat} {p:Prop} (k:Zh w G β v d) (c:Z3z kp σ d=some (d',l,p)) (hp:p) (i:∀ b∈l,K4 σ G β b):
  Zh w G (λ_=>none) v d':=by
 unfold Z3z at c
 split at c
 ·exact Zs5 h k c hp i
 ·split at c
  ·rename_i cs
   split at c
   ·rename_i cs' l' z e
    cases c
    obtain⟨vs,rfl,s,f,g⟩:=L9 k
    obtain⟨k1,k3⟩:=Zs9 h e hp i
    refine .agg vs cs' (by rw[k1]; exact s) f (λj u d t c=>?_)
    have n:j<cs.length:=by
     rcases Nat.lt_or_ge j cs'.length with m|m
     ·omega
     ·rw[List.getElem?_eq_none m] at c; cases c
    have o:=g j u _ t (List.getElem?_eq_getElem n)
    obtain⟨x,y⟩:=k3 j u _ d o (List.getElem?_eq_getElem n) c
    exact Z16 x y
   ·cases c
  ·obtain⟨q,r⟩:=Zs4 h k c hp i
   exact Z16 q r
theorem Zsb (h:Zk Γ σ a w G β):∀ {ds ds':List D} {l:List Nat} {p:Prop},Vz σ ds=some (ds',l,p)→p→(∀ b∈l,K4 σ G β b)→ds'.length=ds.length∧
  ∀ (j:Nat) v d d',Zh w G β v d→ds[j]?=some d→ds'[j]?=some d'→Zh w G (λ_=>none) v d'
 | [],ds',l,p,c,hp,g=>by cases c; exact⟨rfl,λj v d d' _ h=>by simp at h⟩
 | x :: r,ds',l,p,c,hp,g=>by
  unfold Vz at c
  split at c
  ·rename_i d1 n q t o s k m
   cases c
   obtain⟨k1,k3⟩:=Zsb h m hp.2 (λb f=>g b (by simp[f]))
   refine⟨by simp[k1],λj v d d' i c e=>?_⟩
   cases j with
   | zero=>simp at c e; subst c e; exact Zs5 h i k hp.1 (λb f=>g b (by simp[f]))
   | succ j=>simp at c e; exact k3 j v d d' i c e
  ·cases c
theorem Z6e {σ σ':S} (h:L1 σ σ') (d:D):Ww σ' d=Ww σ d:=by
 have key:∀ b,(∃ k f,σ.heap b=some k∧σ'.heap b=some f∧f.pure=k.pure∧f.rows=k.rows)∨(σ.heap b=none∧σ'.heap b=none):=λb=>by
  have:=h b
  cases l:σ.heap b <;> cases m:σ'.heap b <;> simp[l,m] at this
  ·exact .inr ⟨rfl,rfl⟩
  ·exact .inl ⟨_,_,rfl,rfl,this.1,this.2⟩
 cases d <;> try rfl
 case lptr b i o=>rcases key b with ⟨k,f,c,e,j,g⟩|⟨c,e⟩ <;> simp only[Ww,c,e] <;> rw[g]
 case lsl b lo n=>rcases key b with ⟨k,f,c,e,j,g⟩|⟨c,e⟩ <;> simp only[Ww,c,e] <;> rw[j,g]
theorem Zrh {σ σ':S} (h:L1 σ σ'):∀ ds,Lm σ' ds=Lm σ ds
 | [] =>rfl
 | d::r=>by unfold Lm; rw[Z6e h,Zrh h r]
theorem Zrg {σ σ':S} (h:L1 σ σ') (d:D):Ll σ' d=Ll σ d:=by
 unfold Ll; split
 ·rw[Zrh h]
 ·exact Z6e h _
theorem Zrf {σ σ':S} (h:L1 σ σ') (d:D):Z2k σ' d=Z2k σ d:=by
 unfold Z2k; split
 ·rfl
 ·exact Z6e h _
theorem Zri {σ σ':S} (h:L1 σ σ'):∀ ds,Z2l σ' ds=Z2l σ ds
 | [] =>rfl
 | d::r=>by unfold Z2l; rw[Zrf h,Zri h r]
theorem Y2u {kp:Bool} {σ σ':S} (h:L1 σ σ') (d:D):Z3z kp σ' d=Z3z kp σ d:=by
 unfold Z3z; split
 ·exact Zrg h _
 ·split
  ·rw[Zri h]
  ·exact Zrf h _
theorem Zjw {σ σ':S} (h:L1 σ σ'):∀ ds,Vz σ' ds=Vz σ ds
 | [] =>rfl
 | d::r=>by unfold Vz; rw[Zrg h,Zjw h r]
theorem Zbr (l:List Nat) {b:Nat} (h:K4 σ G β b):K4 (σ.freezeL l) G β b:=by
 intro blk c d g
 cases hs:σ.heap b with
 | none=>rw[(Zsz l σ b).2 hs] at d; cases d
 | some k=>
  obtain⟨f,e⟩:=Zt1 l σ b hs
  rw[e] at d; cases d
  exact h k c hs g
theorem Z6s (h:Zk Γ σ a w G β) {ds ds':List D} {l:List Nat} {p:Prop} (f:Vz σ ds=some (ds',l,p)) (hp:p):
  ∃ G',Zk Γ (σ.freezeL l) a w G' β∧(∀ k,G k≤G' k)∧ds'.length=ds.length∧∀ (j:Nat) v d d',Zh w G β v d→ds[j]?=some d→ds'[j]?=some d'→Zh w G' (λ_=>none) v d':=by
 obtain⟨G',c,e,g⟩:=Zk.freezeL l h
 rw[← Zjw (Z6f l σ)] at f
 obtain⟨k1,k2⟩:=Zsb c f hp (λb i=>Zbr l (g b i))
 exact⟨G',c,e,k1,λj v d d' m=>k2 j v d d' (m.mono (λ_ _ _=>rfl) e (λ_ _ h=>h) (.refl w))⟩
theorem Zog {f:FuncId} (h:L5 P f=true) (args:Array Value) (w:World):(callFunc f args).run P w=.ok (.enter f args) w:=by
 unfold L5 at h
 split at h
 ·rename_i fn c
  simp only[Bool.and_eq_true,Bool.not_eq_true'] at h
  have b: ¬ fn.body=none:=by intro b; simp[b] at h
  have d : ¬ fn.name = "runtime.NumGoroutine" := by simpa using h.1
  simp[callFunc,c,d,b]
 ·cases h
theorem Y38 (F:Zk Γ σ a w G β) {o:Oper} {fo:Operand} {args:Array Operand} {ts:Array TypeId} (ho:o.op=.call { callee:= .value fo,args,argTypes:=ts }) {f:FuncId} (U:σ.ev fo=.fn f)
  {told:X8} {σ':S} {q:Prop} (h:Z3w P σ o f (args.toList.map σ.ev) told=some (σ',q)) (hq:q):Reach P Γ o a w σ':=by
 unfold Z3w at h
 split at h
 ·rename_i r hr
  split at h
  ·rename_i ds l p hd
   split at h
   ·rename_i A
    have B:=Jf A
    have C:a.eval fo=.func (.func f) #[] #[] :=by
     have:=W8 F fo
     rw[U] at this
     generalize a.eval fo=u at this
     cases this; rfl
    have main:p→ds=(Kt told ds)→Z3q P f (Kt told ds) r→∀ (R:Act→World→Prop) (Q:Exit→Act→World→Prop),
      (∀ G' v w' G2,Zk Γ (σ.freezeL l) a w G' β→(∀ k,G k≤G' k)→Below w.heap.size w w'→(∀ c,c<w.heap.size→G2 c=G' c)→(∀ c,w'.heap.size≤c→G2 c=0)→Zh w' G2 (λ_=>none) v r→R (a.put o.dst v) w')→o.wp P a w R Q:=λhp z m R Q hR=>by
     obtain⟨G',y,M,W,X⟩:=Z6s F hd hp
     have g:Kr w G' (args.map a.eval) (Kt told ds):=by
      rw[← z]
      refine⟨by rw[W]; simp,λj v d hv hd=>?_⟩
      simp only[Array.getElem?_map] at hv
      obtain⟨x,J,rfl⟩:=Qg hv
      exact X j _ (σ.ev x) d (W8 F x) (by simp[J]) hd
     have I:(execOp a.eval o).run P w=(callFunc f (args.map a.eval)).run P w:=by
      simp[execOp,ho,resolve,C,Deferred.ofValue,invoke]
     unfold Oper.wp
     rw[I]
     rcases m with ⟨T,H⟩|m
     ·rw[Zog T,Oper.upon_enter]
      refine(H w G' _ y.fresh y.glob g).mono λe w' he=>?_
      obtain⟨v,G2,rfl,N,K,V,O⟩:=he
      exact hR G' v w' G2 y M N K V O
     ·obtain⟨v,e1,e2⟩:=m w G' _ g
      rw[e1]
      exact hR G' v w G' y M (.refl _ w) (λ_ _=>rfl) y.fresh e2
    split at h
    ·rename_i hsc
     cases h
     obtain⟨hp,z,m⟩:=hq
     refine λnext Q hn=>main hp z m next Q λG' v w' G2 y M N K V O=>?_
     exact hn _ _ _ _ ((F.quiet N).put B (O.of_scalar hsc))
    ·cases h
     obtain⟨hp,z,m⟩:=hq
     refine λnext Q hn=>main hp z m next Q λG' v w' G2 y M N K V O=>?_
     -- the marks behind the call
     have n:=y.quiet N
     have hG:∀ k,G' k≤G2 k:=λk=>by
      rcases Nat.lt_or_ge k w.heap.size with hk|hk
      ·rw[K k hk]; exact Nat.le_refl _
      ·rw[y.fresh k hk]; exact Nat.zero_le _
     have s:∀ b o,o<G' b→w'.cell? ⟨b,o,none⟩=w'.cell? ⟨b,o,none⟩:=λ_ _ _=>rfl
     have Z:Zk Γ (σ.freezeL l) a w' G2 β:=by
      refine⟨n.defers,n.size,λt=>(n.tmps t).mono s hG (λ_ _ h=>h) (.refl w'),λb blk hb=>?_,n.dom,n.inj,n.kept,λc hc J=>?_,V,n.big,n.glob.mono s hG⟩
      ·rcases n.heap b blk hb with L|⟨c,L,hB⟩
       ·exact .inl L
       ·rcases y.heap b blk hb with ⟨D,-⟩|⟨c',D,Y⟩
        ·rw[D] at L; cases L
        ·have hlt:=Y.lt
         rw[D] at L; cases L
         exact .inr ⟨_,D,hB.mono s hG (K _ hlt) (λ_ _ h=>h) (.refl w') rfl⟩
      ·rw[K c (Nat.lt_of_lt_of_le hc y.big)]; exact y.marks c hc J
     refine hn _ _ _ _ (Z.put ?_ (O.mono (λ_ _ _=>rfl) (λ_=>Nat.le_refl _) (λb x J=>by cases J) (.refl w')))
     intro t ht
     rw[(Z44 l σ).2]
     exact B t ht
   ·cases h
  ·cases h
 ·-- a pointer that comes back as it is
  split at h
  ·rename_i b i off g A
   cases h
   obtain⟨fn,y,M,W,X,h5⟩:=hq
   have C:a.eval fo=.func (.func f) #[] #[] :=by
    have:=W8 F fo
    rw[U] at this
    generalize a.eval fo=u at this
    cases this; rfl
   obtain ⟨x,J,hxe⟩:∃ x,args= #[x]∧σ.ev x=.lptr b i off:=by
    obtain⟨l⟩:=args
    match l,g with
    | [x],g=>exact⟨x,rfl,by simpa using g⟩
    | [],g=>simp at g
    | _::_::_,g=>simp at g
   have E:=W8 F x
   rw[hxe] at E
   refine Reach.of_value (v:=a.eval x) ?_ (F.put (Jf A) E)
   subst J
   simp[execOp,ho,resolve,C,Deferred.ofValue,invoke,run_callFunc_extern y M W X h5,Lib.run_noEscape]
  ·cases h
 ·cases h
end Go.Den
namespace Go.Den
open Go.RowKit
variable {P:Program} {Γ:Ctx} {σ:S} {a:Act} {w w':World} {G G':Nat→Nat} {β β':Nat→Option (Nat×Nat)}
theorem Y5m {v:Value} (h:one v=true):v.oneCell'=true:=by cases v <;> first|rfl|cases h
theorem Ziq (g off:Nat) (e:TypeId) (fr:Nat×Nat):∀ (vs:List Value) (i:Nat) (cur:Array Value) (w:World),w.heap[g]?=some (.cells cur e fr)→
  (∀ o,o<cur.size→ ¬ (fr.1≤o∧o<fr.2))→off+i+vs.length≤cur.size→(∀ v∈vs,one v=true)→
  ∃ cur',(storeCells ⟨g,off,none⟩ vs i).run P w=.ok () (w.setRow g cur')∧cur'.size=cur.size∧∀ k,cur'[k]?=if off+i≤k∧k<off+i+vs.length then vs[k - (off+i)]? else cur[k]?
 | [], i,cur,w,c,_,_,_=>by
  refine⟨cur,?_,rfl,λk=>by simp; omega⟩
  have u:g<w.heap.size:=(Array.getElem?_eq_some_iff.1 c).1
  have n:w.heap[g]=.cells cur e fr:=(Array.getElem?_eq_some_iff.1 c).2
  show Result.ok () w=_
  congr 1
  unfold World.setRow
  cases w with
  | mk heap tape drawn os output=>
   congr 1
   apply Array.ext
   ·simp
   ·intro k d l
    simp only[Array.getElem_modify]
    split
    ·rename_i s; subst s; simp at n; simp[n]
    ·rfl
 | v :: V0,i,cur,w,c,f,t,d=>by
  simp only[List.length_cons] at t
  have m:off+i<cur.size:=by omega
  have b:w.cell? ⟨g,off+i,none⟩=some cur[off+i] :=by simp[World.cell?,c,m]
  have j:w.frozen? ⟨g,off+i,none⟩=false:=by
   simp only[World.frozen?,c]
   have:=f (off+i) m
   simp only[Bool.and_eq_false_iff,decide_eq_false_iff_not]
   by_cases h:fr.1≤off+i
   ·exact .inr (by omega)
   ·exact .inl h
  have hst:(store ((⟨g,off,none⟩:Addr).add i) v).run P w=.ok () (w.setRow g (cur.setIfInBounds (off+i) v)):=by
   rw[Addr.add_none,run_store P w _ v _ (Y5m (d v (by simp))),b]
   simp[j,setCell_eq_setRow w g (off+i) cur e fr v c]
  obtain ⟨cur',p,q,r⟩:=Ziq g off e fr V0 (i+1) (cur.setIfInBounds (off+i) v) (w.setRow g (cur.setIfInBounds (off+i) v)) (setRow_heap w g cur _ e _ c)
   (λo y=>f o (by simpa using y)) (by simp; omega) (λx z=>d x (by simp[z]))
  refine⟨cur',?_,by simpa using q,λk=>?_⟩
  ·simp only[storeCells,Sem.run_bind,hst,Result.andThen_ok,p,setRow_setRow]
  ·rw[r k]
   simp only[List.length_cons]
   by_cases d:off+i=k
   ·subst d
    rw[if_neg (by omega),if_pos (by omega)]
    simp[m]
   ·by_cases l:off+i≤k∧k<off+i+(V0.length+1)
    ·rw[if_pos (by omega),if_pos l,show k - (off+i)=(k - (off+(i+1)))+1 by omega,List.getElem?_cons_succ]
    ·rw[if_neg (by omega),if_neg l]
     simp[d]
theorem Zq6 {c:Nat} {cur cur':Array Value} {e:TypeId} {fr:Nat×Nat} (h:w.heap[c]?=some (.cells cur e fr)) (hs:cur'.size=cur.size) (own:Γ.B≤c∨Γ.X c) (b:∀ o,o<G c→cur'[o]?=cur[o]?):
  K5 Γ G c w (w.setRow c cur'):=
 ⟨rfl,rfl,rfl,by simp,λk d=>setRow_other w c k cur' d,own,cur,e,fr,cur',h,setRow_heap w c cur cur' e fr h,hs,b⟩
theorem Y6u (M : Zk Γ σ a w G β) {o:Oper} {t:TypeId} {x y:Operand} (ho:o.op=.store t x y) {told:X8} {σ':S} {q:Prop} (h:Z29 P σ o t (σ.ev x) (σ.ev y) told=some (σ',q)) (hq:q):Reach P Γ o a w σ':=by
 unfold Z29 at h
 have Z:=W8 M x
 have hy:=W8 M y
 split at h
 ·rename_i b i off hxe
  rw[hxe] at Z
  split at h
  ·rename_i blk cs sz hb R hsz
   split at h
   ·rename_i z
    simp only[Bool.and_eq_true,beq_iff_eq] at z
    obtain⟨⟨hlen,C⟩,H⟩:=z
    obtain⟨c1,c2,c3⟩:=Zk0 hy R
    have main : ∀ r,blk.rows[i]?=some r→blk.frz≤i→off+cs.length≤r.length→Reach P Γ o a w ((σ.setB b (some { blk with rows:=blk.rows.set i (Qu r off cs) })).put o.dst .undef):=λr K T B=>by
     generalize hu:a.eval x=u at Z
     cases Z with
     | lptr _ _ _ c sz' hβ=>
      obtain⟨rfl,hB⟩:=M.blk hb hβ
      obtain⟨vs,e,fr,F,h2,h3,h4⟩:=hB.cells
      have X:=hB.hsz i r K
      have hi:i<blk.rows.length:=by
       rcases Nat.lt_or_ge i blk.rows.length with f|f
       ·exact f
       ·rw[List.getElem?_eq_none f] at K; cases K
      have J:(i+1)*blk.sz≤blk.rows.length*blk.sz:=Nat.mul_le_mul_right _ (by omega)
      rw[Nat.add_mul] at J
      have N:=(a.eval y).cells.toList
      obtain ⟨cur',e1,e2,E⟩:=Ziq (P:=P) c (i*blk.sz+off) e fr (a.eval y).cells.toList 0 vs w F h2 (by simp; omega) (λv N=>by
       obtain⟨j,U⟩:=List.getElem?_of_mem N
       exact c2 j v (by simpa using U))
      simp only[Nat.add_zero,Array.length_toList] at E
      have L:(execOp a.eval o).run P w=.ok .skip (w.setRow c cur'):=by
       simp[execOp,ho,Instr.storeAt,hu,Instr.sureAddr,storeVar,Kk hsz,show (a.eval y).cells.size=sz by omega,e1]
      have Q:K5 Γ G c w (w.setRow c cur'):=Zq6 F e2 hB.own λk hk=>by
       rw[E k,if_neg]
       intro hcon
       have h5:=hB.frz k hk
       have:blk.frz*blk.sz≤i*blk.sz:=Nat.mul_le_mul_right _ T
       omega
      refine Reach.of_skip L (G':=G) (β':=β) (Zk.put (σ:=σ.setB b (some { blk with rows:=blk.rows.set i (Qu r off cs) })) ?_ (λt Y=>Jf H t Y) (.undef _))
      refine M.write (c:=c) hb hβ Q rfl ?_
      have p:∀ (l:Nat) s,(blk.rows.set i (Qu r off cs))[l]?=some s→(l=i∧s=Qu r off cs)∨(l≠i∧blk.rows[l]?=some s):=λl s f=>by
       rw[List.getElem?_set] at f
       by_cases hh:i=l
       ·subst hh
        simp[hi] at f
        exact .inl ⟨rfl,f.symm⟩
       ·rw[if_neg hh] at f
        exact .inr ⟨by omega,f⟩
      refine⟨hB.own,hB.pin,(λt Y=>by obtain⟨vs2,fr2,g,gle⟩:=hB.ty t Y; rw[F] at g; cases g; exact⟨_,_,setRow_heap w c vs cur' _ _ F,gle⟩),hB.frz,by simpa using hB.top,λhp l j s d A m=>?_,λl s A=>?_,cur',e,fr,setRow_heap w c vs cur' e fr F,λo ho=>h2 o (by omega),by simpa [e2] using h3,λl j s d A m=>?_⟩
      ·rcases p l s A with ⟨rfl,rfl⟩|⟨_,f⟩
       ·rw[Zon _ _ _ _ B] at m
        split at m
        ·have:cs.all D.dat=true:=by simpa [show blk.pure=true from hp] using C
         exact List.all_eq_true.1 this d (List.mem_of_getElem? m)
        ·exact hB.dat hp _ j r d K m
       ·exact hB.dat hp l j s d f m
      ·rcases p l s A with ⟨rfl,rfl⟩|⟨_,f⟩
       ·rw[Zvi _ _ _ B]; exact X
       ·exact hB.hsz l s f
      ·have n:∀ v d,Zh w G β v d→Zh (w.setRow c cur') G β v d:=λv d N=>N.mono Q.cells (λ_=>Nat.le_refl _) (λ_ _ h=>h) Q.same
       rcases p l s A with ⟨rfl,rfl⟩|⟨W,f⟩
       ·rw[Zon _ _ _ _ B] at m
        split at m
        ·rename_i U
         have I:j - off<(a.eval y).cells.size:=by omega
         refine⟨(a.eval y).cells[j - off],?_,c2 (j - off) _ (Array.getElem?_eq_getElem I),n _ _ (c3 (j - off) _ d (Array.getElem?_eq_getElem I) m)⟩
         show cur'[l*blk.sz+j]?=_
         rw[E,if_pos (by omega),show l*blk.sz+j - (l*blk.sz+off)=j - off by omega]
         simp
        ·rename_i U
         obtain⟨v,a1,a2,O⟩:=h4 l j r d K m
         have V:j<r.length:=by
          rcases Nat.lt_or_ge j r.length with f|f
          ·exact f
          ·rw[List.getElem?_eq_none f] at m; cases m
         refine⟨v,?_,a2,n _ _ O⟩
         show cur'[l*blk.sz+j]?=_
         rw[E,if_neg (by omega)]; exact a1
       ·obtain⟨v,a1,a2,O⟩:=h4 l j s d f m
        have V:j<blk.sz:=by
         rw[← hB.hsz l s f]
         rcases Nat.lt_or_ge j s.length with f|f
         ·exact f
         ·rw[List.getElem?_eq_none f] at m; cases m
        refine⟨v,?_,a2,n _ _ O⟩
        show cur'[l*blk.sz+j]?=_
        rw[E,if_neg ?_]
        ·exact a1
        ·rcases Nat.lt_or_gt_of_ne W with h6|h6
         ·have:(l+1)*blk.sz≤i*blk.sz:=Nat.mul_le_mul_right _ (by omega)
          rw[Nat.add_mul] at this; omega
         ·have:(i+1)*blk.sz≤l*blk.sz:=Nat.mul_le_mul_right _ (by omega)
          rw[Nat.add_mul] at this; omega
    split at h
    ·cases h
     obtain⟨q1,q2,q3,q4⟩:=hq
     rw[← q4]
     exact main _ q2 q1 q3
    ·split at h
     ·cases h
      obtain⟨q1,q3,q4⟩:=hq
      rw[← q4]
      exact main _ (by assumption) q1 q3
     ·cases h
   ·cases h
  ·cases h
 ·cases h
theorem Zrt {α:Type} (sz:Nat):∀ (n:Nat) (cs:List D) (i:Nat),i<n→(L4 sz n cs)[i]?=some ((cs.drop (i*sz)).take sz)
 | 0,_,i,h=>by omega
 | n+1,cs,0,_=>by simp[L4]
 | n+1,cs,i+1,h=>by
  simp only[L4,List.getElem?_cons_succ]
  rw[Zrt (α:=α) sz n (cs.drop sz) i (by omega),List.drop_drop,Nat.add_mul,Nat.one_mul,Nat.add_comm sz]
theorem Zbi (sz:Nat):∀ (n:Nat) (cs:List D),(L4 sz n cs).length=n
 | 0,_=>rfl
 | n+1,cs=>by simp[L4,Zbi sz n]
theorem Z6v {t e:TypeId} (h:Ln P t=some e):P.underlying t=some (.slice e):=by
 unfold Ln at h
 split at h
 ·cases h; assumption
 ·cases h
theorem Zsu {place:Nat→Option (Nat×Nat)}:∀ {ps:List (Nat×Value)} {vs vs':Array Value},Instr.fill place vs ps=some vs'→vs'.size=vs.size
 | [],vs,vs',h=>by simp[Instr.fill] at h; rw[h]
 | (i, v)::ps,vs,vs',h=>by
  unfold Instr.fill at h
  split at h
  ·cases h
  ·split at h
   ·cases h
   ·rename_i off size _ _
    have:=Zsu h
    rw[this,← Array.foldl_toList,Array.toList_zipIdx]
    exact(Zkw off v.cells.toList 0 vs).1
theorem Y33 (hC : Zk Γ σ a w G β) {o:Oper} {t:TypeId} {len:Nat} {parts:Array (Nat×Operand)} (R:o.op=.buildSlice t len parts) {told:X8} {σ':S} {q:Prop}
  (h:W7 P σ o told=some (σ',q)) (hq:q):Reach P Γ o a w σ':=by
 unfold W7 at h
 rw[R] at h
 dsimp only at h
 split at h
 ·rename_i e he
  split at h
  ·rename_i ie K
   split at h
   ·rename_i ds l p n
    split at h
    ·rename_i cs hf
     split at h
     ·rename_i D
      simp only[Bool.and_eq_true,Nat.ble_eq] at D
      obtain⟨⟨B,hlim⟩,hzs⟩:=D
      obtain⟨z,hz⟩:=Option.isSome_iff_exists.1 hzs
      obtain⟨i0,zv,Q,hzv,z1,z2,z3⟩:=Zjg hz
      rw[K] at Q; cases Q
      have hp:p:=by
       split at h
       ·split at h
        ·split at h
         ·cases h; exact hq
         ·cases h; exact hq.1
        ·cases h
       ·obtain⟨-,-,-,-,-,hqp⟩:=Z1x h
        rw[← hqp]; exact hq
      obtain⟨G',I,h2,h3,h4⟩:=Z6s hC n hp
      have hsz:Un P e=some ie.size:=by simp[Un,K]
      -- the cells
      have L:Z63 w G' (λ_=>none) ((Array.range (len*ie.size)).map (zv.cells[· % zv.cells.size]!)) (List.replicate (len*ie.size) .undef):=by
       refine⟨by simp,λj u N=>?_,λj u d N n=>?_⟩
       ·simp only[Array.getElem?_map] at N
        obtain⟨k,hk,rfl⟩:=Qg N
        rcases Nat.lt_or_ge (k % zv.cells.size) zv.cells.size with A|A
        ·exact z2 _ _ (by rw[getElem!_pos zv.cells _ A]; exact Array.getElem?_eq_getElem A)
        ·rw[getElem!_neg zv.cells _ (by omega)]; rfl
       ·have:d=.undef:=by
         rw[List.getElem?_replicate] at n
         split at n <;> cases n; rfl
        subst this; exact .undef _
      obtain ⟨vs',V,F⟩:=Zku (w:=w) (G:=G') (β:=λ_=>none) _ (parts.toList.map λx=>(x.1,a.eval x.2)) _ _ cs L (by
       rw[List.map_fst_zip]
       ·simp
       ·rw[h3]; simp) (λj p u hp N=>by
       simp only[List.getElem?_map] at N
       obtain⟨x,hx,rfl⟩:=Qg N
       obtain⟨hp1,hp2⟩:=List.getElem?_zip_eq_some.1 hp
       exact h4 j _ (σ.ev x.2) p.2 (W8 hC x.2) (by simp[hx]) hp2) hf
      have H:(execOp a.eval o).run P w=.ok (.value (.slice (some ⟨w.heap.size,0,none⟩) len len)) (w.alloc (.cells vs' e)):=by
       have M: ¬ (16777216<len*ie.size):=by omega
       simp only[execOp,R]
       refine Z3k ?_
       unfold Instr.buildSlice
       simp only[Sem.run_bind,run_underlying (Z6v he),Result.andThen_ok,Kk hsz]
       rw[if_neg M]
       simp[newRow]
       by_cases X:len*ie.size=0
       ·have W:Instr.fill (λi=>some (i*ie.size,ie.size)) (Array.map (λ_=>default) (Array.range (len*ie.size))) (parts.toList.map λx=>(x.1,a.eval x.2))=some vs':=by
         rw[← V]; congr 1; rw[X]; simp[Array.range_zero']
        rw[if_pos X,W]
        simp
       ·rw[if_neg X]
        simp[zeroValue,typeInfo,K,hzv,V]
      have J:cs.length=len*ie.size:=by rw[F.1,Zsu V]; simp
      have E:∀ (i:Nat) r,(L4 ie.size len cs)[i]?=some r→i<len∧r=(cs.drop (i*ie.size)).take ie.size:=λi r v=>by
       have C:i<len:=by
        rcases Nat.lt_or_ge i len with A|A
        ·exact A
        ·rw[List.getElem?_eq_none (by rw[Zbi]; exact A)] at v; cases v
       rw[Zrt (α:=Nat) ie.size len cs i C] at v
       cases v
       exact⟨C,rfl⟩
      have y:∀ i,i<len→i*ie.size+ie.size≤len*ie.size:=λi C=>by
       have:(i+1)*ie.size≤len*ie.size:=Nat.mul_le_mul_right _ (by omega)
       rw[Nat.add_mul] at this; omega
      have m:∀ (i j:Nat) r d,(L4 ie.size len cs)[i]?=some r→r[j]?=some d→cs[i*ie.size+j]?=some d∧j<ie.size:=λi j r d v n=>by
       obtain⟨C,rfl⟩:=E i r v
       rw[List.getElem?_take] at n
       split at n
       ·rw[List.getElem?_drop] at n; exact⟨n,by assumption⟩
       ·cases n
      split at h
      ·-- never written
       split at h
       ·rename_i O
        have hR:σ'=(σ.freezeL l).put o.dst (.sl true (L4 ie.size len cs)):=by
         split at h
         ·cases h; rfl
         ·cases h; rw[hq.2]
        subst hR
        have hq:=I.quiet (Ku w (.cells vs' e))
        have Z:w.heap.size<(w.alloc (.cells vs' e)).heap.size:=Zf8 (Lp w _)
        have hnb:∀ b s,β b≠some (w.heap.size,s):=λb s hb=>by
         obtain⟨k,hk⟩:=I.dom b _ hb
         have:=(I.blk' hk hb).lt
         omega
        have Y:G' w.heap.size=0:=I.fresh _ (Nat.le_refl _)
        have hm:=hq.mark hnb I.big Z (k:=vs'.size) (by omega)
        have hvs:vs'.size=len*ie.size:=by rw[← F.1,J]
        refine Reach.of_value H (hm.put (λt T=>by rw[(Z44 l σ).2]; exact Jf O t T) ?_)
        refine .sl true w.heap.size 0 len len ie.size _ (λi j=>vs'.getD (i*ie.size+j) Go.undef) (by rw[Zbi]) (λ_=>rfl) (Nat.le_refl _) (λi r v=>?_) (λi j C U=>?_) (λi j C U=>?_) (λi j C U=>?_) (λi j r d v n=>?_) (λi j r d v n=>?_)
        ·obtain⟨C,rfl⟩:=E i r v
         have:=y i C
         simp; omega
        ·have:=y i C
         simp only[if_true]; omega
        ·have:=y i C
         have f:i*ie.size+j<vs'.size:=by omega
         rw[Jc,Lp]
         simp[Array.getD_eq_getD_getElem?,f]
        ·have:=y i C
         have f:i*ie.size+j<vs'.size:=by omega
         have:=F.2.1 (i*ie.size+j) vs'[i*ie.size+j] (Array.getElem?_eq_getElem f)
         simpa [Array.getD_eq_getD_getElem?,f] using this
        ·obtain⟨g,-⟩:=m i j r d v n
         exact List.all_eq_true.1 B d (List.mem_of_getElem? g)
        ·obtain⟨g,U⟩:=m i j r d v n
         have f:i*ie.size+j<vs'.size:=by
          rw[← F.1]
          rcases Nat.lt_or_ge (i*ie.size+j) cs.length with A|A
          ·exact A
          ·rw[List.getElem?_eq_none A] at g; cases g
         have h5:=F.2.2 (i*ie.size+j) vs'[i*ie.size+j] d (Array.getElem?_eq_getElem f) g
         have e1:vs'.getD (i*ie.size+j) Go.undef=vs'[i*ie.size+j] :=by simp[Array.getD_eq_getD_getElem?,f]
         rw[e1]
         exact h5.of_dat (λb o R=>Z09 ((Ku w _).block b (I.marksLt R)) o) (λc=>by
          show G' c≤(if c=w.heap.size then vs'.size else G' c)
          split
          ·rename_i hc; rw[hc,Y]; exact Nat.zero_le _
          ·exact Nat.le_refl _) (List.all_eq_true.1 B d (List.mem_of_getElem? g))
       ·cases h
      refine Reach.new I h H (λt' ht'=>?_) (λo R=>by simp) ⟨rfl,rfl,λt T=>by unfold tyR at T; split at T <;> cases T; exact⟨rfl,Nat.le_refl _⟩⟩ (λi r v=>?_) (λ_ i j r d v n=>?_) (by rw[Zbi,F.1.symm.trans J]; exact Nat.le_refl _) (λi j r d v n=>?_)
      ·have:=Zh.lsl (w:=w.alloc (.cells vs' e)) (G:=G') (β:=upd β t' (some (w.heap.size,ie.size))) t' 0 len len w.heap.size ie.size 0 (by simp[upd]) (Nat.le_refl _) (.inr (by simp)) ⟨vs',e,(0,0),Lp w _,.inr (by rw[← F.1,J]; simp)⟩
       exact this
      ·obtain⟨C,rfl⟩:=E i r v
       have:=y i C
       show _=ie.size
       simp; omega
      ·obtain⟨g,-⟩:=m i j r d v n
       exact List.all_eq_true.1 B d (List.mem_of_getElem? g)
      ·obtain⟨g,U⟩:=m i j r d v n
       have f:i*ie.size+j<vs'.size:=by
        rw[← F.1]
        rcases Nat.lt_or_ge (i*ie.size+j) cs.length with A|A
        ·exact A
        ·rw[List.getElem?_eq_none A] at g; cases g
       refine⟨vs'[i*ie.size+j],Array.getElem?_eq_getElem f,F.2.1 _ _ (Array.getElem?_eq_getElem f),?_⟩
       exact(F.2.2 _ _ d (Array.getElem?_eq_getElem f) g).of_dat (λ_ _ _=>rfl) (λ_=>Nat.le_refl _) (List.all_eq_true.1 B d (List.mem_of_getElem? g))
     ·cases h
    ·cases h
   ·cases h
  ·cases h
 ·cases h
theorem Y58 {v:Value} {d:D} (h:Zh w G β v d):Zh w G β v (Znm d):=by
 unfold Znm
 split
 ·cases h with
  | slnil _ x=>exact .slnil false x
  | sl c b off n cap sz rows val m l f hsz i e j g k=>exact .sl false b off n cap sz _ val m (λh=>by cases h) f hsz i e j g k
 ·exact h
theorem Y7d {t:TypeId} {cs:List D} (h:Zb4 P t=some cs):∃ i v,P.info? t=some i∧i.zero=some v∧cs.length=v.cells.size∧(∀ (j:Nat) u,v.cells[j]?=some u→one u=true)∧
  ∀ (w:World) (G:Nat→Nat) (β:Nat→Option (Nat×Nat)) (j:Nat) u d,v.cells[j]?=some u→cs[j]?=some d→Zh w G β u d:=by
 unfold Zb4 at h
 split at h
 ·rename_i z n
  cases h
  obtain⟨i,v,e,f,g,k,l⟩:=Zjg n
  refine⟨i,v,e,f,by simpa using g,k,λw G β j u d m c=>?_⟩
  rw[List.getElem?_map] at c
  obtain⟨d0,b,rfl⟩:=Qg c
  exact Y58 (l w G β j u d0 m b)
 ·cases h
theorem Y5a (A:Zk Γ σ a w G β) {o:Oper} {t:TypeId} {l c:Operand} (H:o.op=.makeSlice t l c) {told:X8} {σ':S} {q:Prop}
  (h:W7 P σ o told=some (σ',q)) (hq:q):Reach P Γ o a w σ':=by
 unfold W7 at h
 rw[H] at h
 dsimp only at h
 have Q:=W8 A l
 have N:=W8 A c
 split at h
 ·rename_i e kl l' kc c' he E C
  rw[E] at Q
  rw[C] at N
  have D:=U0 Q
  have B:=U0 N
  split at h
  ·rename_i ie z u V
   split at h
   ·rename_i b
    simp only[Bool.and_eq_true,beq_iff_eq] at b
    obtain⟨m,J⟩:=b
    obtain⟨i0,zv,p,L,Y,Z,z3⟩:=Y7d V
    rw[u] at p; cases p
    obtain⟨tt,ht,hb,T,rfl,I⟩:=Z1x h
    obtain⟨W,X,q3,q4,q5⟩:0≤l'∧l'≤c'∧(ie.bytes:Int)*c'≤281474976710656∧c'≤9223372036854775807∧List.replicate l'.toNat z=told.rows.getD (List.replicate l'.toNat z):=by rw[← I]; exact hq
    have x:(execOp a.eval o).run P w=.ok (.value (.slice (some ⟨w.heap.size,0,none⟩) l'.toNat c'.toNat)) (w.alloc (.cells (madeCells zv.cells (c'.toNat*ie.size)) e)):=by
     simp only[execOp,H,D,B]
     exact Z3k (run_make w t e ie zv (Z6v he) u L kl kc l' c' W X q3 q4)
    have f:∀ (i:Nat) r,(told.rows.getD (List.replicate l'.toNat z))[i]?=some r→i<l'.toNat∧r=z:=λi r g=>by
     rw[← q5,List.getElem?_replicate] at g
     split at g
     ·cases g; exact⟨by assumption,rfl⟩
     ·cases g
    have k:(told.rows.getD (List.replicate l'.toNat z)).length=l'.toNat:=by rw[← q5]; simp
    have F:l'.toNat*ie.size≤c'.toNat*ie.size:=Nat.mul_le_mul_right _ (by omega)
    refine Reach.new A h x (λM U=>?_) (λo H=>by simp) ⟨rfl,rfl,λ_ h=>by cases h⟩ (λi r g=>?_) (λ_ i j r d g n=>?_) (by rw[k,size_madeCells]; exact F) (λi j r d g n=>?_)
    ·have:=Zh.lsl (w:=w.alloc (.cells (madeCells zv.cells (c'.toNat*ie.size)) e)) (G:=G) (β:=upd β M (some (w.heap.size,ie.size))) M 0 l'.toNat c'.toNat w.heap.size ie.size 0 (by simp[upd]) (by omega) (.inr (by simp))
      ⟨_,e,(0,0),Lp w _,.inr (by rw[size_madeCells]; simp)⟩
     show Zh _ _ _ _ (.lsl M 0 (told.rows.getD _).length)
     rw[k]
     exact this
    ·obtain⟨O,rfl⟩:=f i r g
     exact m
    ·obtain⟨O,rfl⟩:=f i r g
     exact List.all_eq_true.1 J d (List.mem_of_getElem? n)
    ·obtain⟨O,rfl⟩:=f i r g
     have R:j<ie.size:=by
      rw[← m]
      rcases Nat.lt_or_ge j r.length with y|y
      ·exact y
      ·rw[List.getElem?_eq_none y] at n; cases n
     have K:zv.cells.size=ie.size:=by rw[← Y]; exact m
     have s:i*ie.size+j<c'.toNat*ie.size:=by
      have:(i+1)*ie.size≤c'.toNat*ie.size:=Nat.mul_le_mul_right _ (by omega)
      rw[Nat.add_mul] at this; omega
     have v:(i*ie.size+j) % zv.cells.size=j:=by
      rw[K,Nat.mul_comm,Nat.mul_add_mod,Nat.mod_eq_of_lt R]
     refine⟨zv.cells[j]'(by omega),?_,Z j _ (Array.getElem?_eq_getElem (by omega)),z3 w G β j _ d (Array.getElem?_eq_getElem (by omega)) n⟩
     show (madeCells zv.cells (c'.toNat*ie.size))[i*ie.size+j]?=_
     unfold madeCells
     rw[Array.getElem?_map,Array.getElem?_range,if_pos s]
     simp only[Option.map_some,v]
     rw[getElem!_pos zv.cells j (by omega)]
   ·cases h
  ·cases h
 ·cases h
end Go.Den
