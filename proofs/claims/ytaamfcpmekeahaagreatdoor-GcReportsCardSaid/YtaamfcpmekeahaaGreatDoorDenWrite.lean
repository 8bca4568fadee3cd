/-
  Objects that refer to objects: what is reachable, and that a set of marks which is closed holds it. No condition.
-/
import Derived.WalkKit
import Derived.Lib.Strings
import Derived.Lib.UnsafeStr
import Derived.Lib.Builder
set_option linter.unusedVariables false
set_option linter.unusedSimpArgs false
namespace Go.Proofs
structure Gr where
 N:Nat
 refs:Int→List Int
 to:Int→Int
 str:Int→Int
 roots:List Int
structure Gr.Ok (g:Gr):Prop where
 roots:∀ n∈g.roots,1≤n∧n≤g.N
 refs:∀ n:Int,1≤n→n≤g.N→∀ m∈g.refs n,1≤m∧m≤g.N
 to:∀ n:Int,1≤n→n≤g.N→g.to n=0∨(1≤g.to n∧g.to n≤g.N)
 str:∀ n,0≤g.str n∧g.str n≤3
 weak:∀ n,g.str n=0→g.to n=0
inductive Gr.Re (g:Gr) (k:Int):Int→Prop where
 | root {n:Int} (h:n∈g.roots):Gr.Re g k n
 | ref {n m:Int} (h:Gr.Re g k n) (hm:m∈g.refs n):Gr.Re g k m
 | to {n:Int} (h:Gr.Re g k n) (hk:k≤g.str n) (h0:g.to n≠0):Gr.Re g k (g.to n)
theorem Gr.Re.mono {g:Gr} {k a:Int} (d:k≤a) {n:Int} (h:g.Re a n):g.Re k n:=by
 induction h with
 | root h=>exact .root h
 | ref _ b ih=>exact .ref ih b
 | to _ e c ih=>exact .to ih (by omega) c
theorem Gr.Re.range {g:Gr} (a:g.Ok) {k n:Int} (h:g.Re k n):1≤n∧n≤g.N:=by
 induction h with
 | root h=>exact a.roots _ h
 | ref _ b ih=>exact a.refs _ ih.1 ih.2 _ b
 | to _ _ c ih=>exact(a.to _ ih.1 ih.2).resolve_left c
theorem Gr.Re.least {g:Gr} {k:Int} {S:Int→Prop} (a:∀ n∈g.roots,S n) (b:∀ n,S n→∀ m∈g.refs n,S m) (c:∀ n,S n→k≤g.str n→g.to n≠0→S (g.to n)) {n:Int} (h:g.Re k n):S n:=by
 induction h with
 | root h=>exact a _ h
 | ref _ d ih=>exact b _ ih _ d
 | to _ e f ih=>exact c _ ih e f
def Ln (g:Gr) (lev:Int→Int):Prop:=∀ n:Int,1≤n→n≤g.N→0≤lev n∧lev n≤4∧∀ k,1≤k→k≤4→(k≤lev n↔g.Re k n)
theorem Ln.same {g:Gr} {l l':Int→Int} (h:Ln g l) (c:Ln g l') {n:Int} (a:1≤n) (b:n≤g.N):l n=l' n:=by
 obtain⟨a1,a2,d⟩:=h n a b
 obtain⟨e,f,i⟩:=c n a b
 have key:∀ x y:Int,0≤x→x≤4→0≤y→y≤4→(∀ k,1≤k→k≤4→(k≤x↔k≤y))→x=y:=λx y j m o p h=>by
  have q:=h 1 (by omega) (by omega)
  have r:=h 2 (by omega) (by omega)
  have s:=h 3 (by omega) (by omega)
  have t:=h 4 (by omega) (by omega)
  omega
 exact key _ _ a1 a2 e f λk k1 k4=>(d k k1 k4).trans (i k k1 k4).symm
theorem Ln.closed {g:Gr} (b:g.Ok) {lev:Int→Int} (j:∀ n∈g.roots,lev n=4) (c:∀ n:Int,1≤n→n≤g.N→0≤lev n∧lev n≤4)
  (hs:∀ n:Int,1≤n→n≤g.N→1≤lev n→g.Re (lev n) n)
  (l:∀ n:Int,1≤n→n≤g.N→1≤lev n→∀ m∈g.refs n,lev n≤lev m)
  (o:∀ n:Int,1≤n→n≤g.N→1≤lev n→g.to n≠0→min (lev n) (g.str n)≤lev (g.to n)):Ln g lev:=λn e nN=>by
 obtain⟨l0,p⟩:=c n e nN
 refine⟨l0,p,λk k1 k4=>⟨λd=>(hs n e nN (by omega)).mono d,λq=>?_⟩⟩
 have:∀ {n},g.Re k n→(1≤n∧n≤g.N)∧k≤lev n:=λ{n} h=>by
  refine Gr.Re.least (S:=λn=>(1≤n∧n≤g.N)∧k≤lev n) (λn a=>⟨b.roots n a,by rw[j n a]; exact k4⟩) (λn ⟨a,d⟩ m f=>⟨b.refs n a.1 a.2 m f,?_⟩) (λn ⟨a,d⟩ r i=>⟨(b.to n a.1 a.2).resolve_left i,?_⟩) h
  ·have:=l n a.1 a.2 (by omega) m f; omega
  ·have:=o n a.1 a.2 (by omega) i; omega
 exact(this q).2
end Go.Proofs
namespace Go.Den
def gl0:List (List UInt8):=[[],[108,97,110,103,47,80,104,97,110,116,111,109,82,101,102,101,114,101,110,99,101],[108,97,110,103,47,87,101,97,107,82,101,102,101,114,101,110,99,101],[108,97,110,103,47,83,111,102,116,82,101,102,101,114,101,110,99,101]]
def Zfo:List (Nat×List (List UInt8)):=[(0,gl0)]
end Go.Den
namespace Go.Den
open Go.RowKit
inductive D:Type where
 | undef
 | bool (b:Bool)
 | int (k:IntKind) (n:Int)
 | str (s:List UInt8)
 /-- a slice of memory that nobody writes any more; `c`:its capacity is its length -/
 | sl (c:Bool) (rows:List (List D))
 | agg (cs:List D)
 /-- a pointer into memory that nobody writes any more:the cells from there on -/
 | ptr (cs:List D)
 | nilptr
 /-- a pointer to a block of the call's own:its name,the row,the cell in the row -/
 | lptr (b i o:Nat)
 /-- a slice over a block of the call's own:its name,the first row,the number of rows -/
 | lsl (b lo n:Nat)
 | tup (vs:List D)
 | fn (f:FuncId)
 /-- a function that holds pointers to blocks of the call's own -/
 | clo (f:FuncId) (bs:List Nat)
 /-- as 'lsl',and known:whether there is no room behind the rows -/
 | lsk (full:Bool) (b lo n:Nat)
 /-- this very value -/
 | raw (v:Value)
 deriving Inhabited
def one:Value→Bool
 | .agg _|.tuple _=>false
 | _=>true
def D.dat:D→Bool
 | .bool _|.int _ _|.str _|.sl _ _|.ptr _|.nilptr|.fn _|.raw _=>true
 | _=>false
inductive Zh (w:World) (G:Nat→Nat) (β:Nat→Option (Nat×Nat)):Value→D→Prop where
 | undef (v:Value):Zh w G β v .undef
 | bool (b:Bool):Zh w G β (.bool b) (.bool b)
 | int (k:IntKind) (n:Int):Zh w G β (.int k n) (.int k n)
 | str (s:ByteArray):Zh w G β (.string s) (.str s.data.toList)
 | slnil (c:Bool) (x:Option Addr):Zh w G β (.slice x 0 0) (.sl c [])
 | sl (c:Bool) (b off n cap sz:Nat) (rows:List (List D)) (val:Nat→Nat→Value)
   (hn:rows.length=n) (hc:c=true→cap=n) (hcap:n≤cap)
   (hsz:∀ (i:Nat) (r:List D),rows[i]?=some r→r.length=sz)
   (himm:∀ i j,i<n→j<sz→off+i*sz+j<G b)
   (hcell:∀ i j,i<n→j<sz→w.cell? ⟨b,off+i*sz+j,none⟩=some (val i j))
   (hone:∀ i j,i<n→j<sz→one (val i j)=true)
   (hdat:∀ (i j:Nat) (r:List D) (d:D),rows[i]?=some r→r[j]?=some d→d.dat=true)
   (hrep:∀ (i j:Nat) (r:List D) (d:D),rows[i]?=some r→r[j]?=some d→Zh w G β (val i j) d):
   Zh w G β (.slice (some ⟨b,off,none⟩) n cap) (.sl c rows)
 | agg (vs:Array Value) (cs:List D) (hn:cs.length=vs.size)
   (hone:∀ (j:Nat) v,vs[j]?=some v→one v=true)
   (hrep:∀ (j:Nat) v d,vs[j]?=some v→cs[j]?=some d→Zh w G β v d):
   Zh w G β (.agg vs) (.agg cs)
 | ptr (b off:Nat) (cs:List D) (val:Nat→Value)
   (himm:∀ j,j<cs.length→off+j<G b)
   (hcell:∀ j,j<cs.length→w.cell? ⟨b,off+j,none⟩=some (val j))
   (hone:∀ j,j<cs.length→one (val j)=true)
   (hdat:∀ (j:Nat) d,cs[j]?=some d→d.dat=true)
   (hrep:∀ (j:Nat) d,cs[j]?=some d→Zh w G β (val j) d):
   Zh w G β (.pointer (some ⟨b,off,none⟩)) (.ptr cs)
 | nilptr:Zh w G β (.pointer none) .nilptr
 | lptr (b i o c sz:Nat) (h:β b=some (c,sz)):Zh w G β (.pointer (some ⟨c,i*sz+o,none⟩)) (.lptr b i o)
 | lslnil (b:Nat) (x:Option Addr):Zh w G β (.slice x 0 0) (.lsl b 0 0)
 | lsl (b lo n cap c sz off:Nat) (h:β b=some (c,sz)) (hcap:n≤cap) (hoff:cap=0∨off=lo*sz)
   (hroom:∃ vs e fr,w.heap[c]?=some (.cells vs e fr)∧(cap=0∨(lo+cap)*sz≤vs.size)):
   Zh w G β (.slice (some ⟨c,off,none⟩) n cap) (.lsl b lo n)
 | tup (vs:Array Value) (ds:List D) (hn:ds.length=vs.size)
   (hrep:∀ (j:Nat) v d,vs[j]?=some v→ds[j]?=some d→Zh w G β v d):
   Zh w G β (.tuple vs) (.tup ds)
 | fn (f:FuncId):Zh w G β (.func (.func f) #[] #[]) (.fn f)
 | clo (f:FuncId) (vs:Array Value) (bs:List Nat) (hn:bs.length=vs.size)
   (hrep:∀ (j:Nat) v b,vs[j]?=some v→bs[j]?=some b→∃ c sz,β b=some (c,sz)∧v=.pointer (some ⟨c,0,none⟩)):Zh w G β (.func (.func f) #[] vs) (.clo f bs)
 | lskn (b:Nat) (x:Option Addr):Zh w G β (.slice x 0 0) (.lsk true b 0 0)
 | lsk (full:Bool) (b lo n cap c sz off:Nat) (h:β b=some (c,sz)) (hcap:n≤cap) (hfull:full=true→cap=n) (hfree:full=false→n<cap) (hoff:cap=0∨off=lo*sz)
   (hroom:∃ vs e fr,w.heap[c]?=some (.cells vs e fr)∧(cap=0∨(lo+cap)*sz≤vs.size)):
   Zh w G β (.slice (some ⟨c,off,none⟩) n cap) (.lsk full b lo n)
 | raw (v:Value) (h:one v=true):Zh w G β v (.raw v)
def L7 (w w':World):Prop:=∀ (c:Nat) vs e fr,w.heap[c]?=some (.cells vs e fr)→∃ vs' fr',w'.heap[c]?=some (.cells vs' e fr')∧vs'.size=vs.size
theorem L7.refl (w:World):L7 w w:=λ_ vs _ fr h=>⟨vs,fr,h,rfl⟩
theorem L7.trans {a b c:World} (h:L7 a b) (k:L7 b c):L7 a c:=λi vs e fr d=>by
 obtain⟨vs',fr',f,g⟩:=h i vs e fr d
 obtain⟨vs'',fr'',j,l⟩:=k i vs' e fr' f
 exact⟨vs'',fr'',j,l.trans g⟩
theorem Zh.mono {w w':World} {G G':Nat→Nat} {β β':Nat→Option (Nat×Nat)} {v:Value} {d:D} (h:Zh w G β v d)
  (M:∀ b o,o<G b→w'.cell? ⟨b,o,none⟩=w.cell? ⟨b,o,none⟩) (N:∀ b,G b≤G' b)
  (H:∀ b x,β b=some x→β' b=some x) (hs:L7 w w'):Zh w' G' β' v d:=by
 induction h with
 | undef v=>exact .undef v
 | bool b=>exact .bool b
 | int k n=>exact .int k n
 | str s=>exact .str s
 | slnil c x=>exact .slnil c x
 | sl c b off n cap sz rows val z J a hsz g p l t m ih=>
  refine .sl c b off n cap sz rows val z J a hsz (λi j I y=>Nat.lt_of_lt_of_le (g i j I y) (N b)) (λi j I y=>?_) l t (λi j r d O A=>ih i j r d O A)
  rw[M _ _ (g i j I y)]; exact p i j I y
 | agg vs cs z l m ih=>exact .agg vs cs z l (λj v d E A=>ih j v d E A)
 | ptr b off cs val g p l t m ih=>
  refine .ptr b off cs val (λj y=>Nat.lt_of_lt_of_le (g j y) (N b)) (λj y=>?_) l t (λj d A=>ih j d A)
  rw[M _ _ (g j y)]; exact p j y
 | nilptr=>exact .nilptr
 | lptr b i o c sz h=>exact .lptr b i o c sz (H _ _ h)
 | lslnil b x=>exact .lslnil b x
 | lsl b lo n cap c sz off h a u q=>
  obtain⟨vs,e,fr,F,K⟩:=q
  obtain⟨vs',fr',L,P⟩:=hs c vs e fr F
  exact .lsl b lo n cap c sz off (H _ _ h) a u ⟨vs',e,fr',L,by omega⟩
 | tup vs ds z m ih=>exact .tup vs ds z (λj v d E A=>ih j v d E A)
 | fn f=>exact .fn f
 | clo f vs bs z m=>exact .clo f vs bs z λj v b E Q=>by obtain⟨c,sz,F,K⟩:=m j v b E Q; exact⟨c,sz,H _ _ F,K⟩
 | lskn b x=>exact .lskn b x
 | lsk full b lo n cap c sz off h a B C u q=>
  obtain⟨vs,e,fr,F,K⟩:=q
  obtain⟨vs',fr',L,P⟩:=hs c vs e fr F
  exact .lsk full b lo n cap c sz off (H _ _ h) a B C u ⟨vs',e,fr',L,by omega⟩
 | raw v h=>exact .raw v h
theorem Zh.unk {w:World} {G:Nat→Nat} {β:Nat→Option (Nat×Nat)} {v:Value} {full:Bool} {b lo n:Nat} (h:Zh w G β v (.lsk full b lo n)):Zh w G β v (.lsl b lo n):=by
 cases h with
 | lskn _ x=>exact .lslnil b x
 | lsk _ _ _ _ cap c sz off h d f g e a=>exact .lsl b lo n cap c sz off h d e a
theorem Zh.of_dat {w w':World} {G G':Nat→Nat} {β β':Nat→Option (Nat×Nat)} {v:Value} {d:D} (h:Zh w G β v d)
  (z:∀ b o,o<G b→w'.cell? ⟨b,o,none⟩=w.cell? ⟨b,o,none⟩) (A:∀ b,G b≤G' b) (p:d.dat=true):Zh w' G' β' v d:=by
 induction h with
 | bool b=>exact .bool b
 | int k n=>exact .int k n
 | str s=>exact .str s
 | slnil c x=>exact .slnil c x
 | sl c b off n cap sz rows val C y q hsz a g l e t ih=>
  refine .sl c b off n cap sz rows val C y q hsz (λi j u m=>Nat.lt_of_lt_of_le (a i j u m) (A b)) (λi j u m=>?_) l e (λi j r d B p=>ih i j r d B p (e i j r d B p))
  rw[z _ _ (a i j u m)]; exact g i j u m
 | ptr b off cs val a g l e t ih=>
  refine .ptr b off cs val (λj m=>Nat.lt_of_lt_of_le (a j m) (A b)) (λj m=>?_) l e (λj d p=>ih j d p (e j d p))
  rw[z _ _ (a j m)]; exact g j m
 | nilptr=>exact .nilptr
 | fn f=>exact .fn f
 | raw v h=>exact .raw v h
 | _=>simp[D.dat] at p
theorem Zsx {w:World} {G:Nat→Nat} {β:Nat→Option (Nat×Nat)} {v:Value} {d:D} (h:Zh w G β v d)
  (a:d≠ .undef) (b:∀ cs,d≠ .agg cs) (c:∀ cs,d≠ .tup cs):one v=true:=by
 cases h <;> first|rfl|assumption|exact absurd rfl a|exact absurd rfl (b _)|exact absurd rfl (c _)
def Z9o:List D→Bool
 | [] =>true
 | .bool _::r|.int _ _::r|.str _::r=>Z9o r
 | _=>false
def D.scalar:D→Bool
 | .bool _|.int _ _|.str _=>true
 | .tup vs=>Z9o vs
 | _=>false
theorem Zu1:∀ {l:List D},Z9o l=true→∀ {j:Nat} {d:D},l[j]?=some d→(∃ b,d=.bool b)∨(∃ k n,d=.int k n)∨(∃ s,d=.str s)
 | [],_,_,_,h=>by simp at h
 | x :: r,hs,j,d,h=>by
  cases j with
  | zero=>
   simp at h; subst h
   cases x <;> simp[Z9o] at hs ⊢
  | succ j=>
   simp at h
   cases x <;> simp[Z9o] at hs <;> exact Zu1 hs h
theorem Zh.of_scalar {w w':World} {G G':Nat→Nat} {β β':Nat→Option (Nat×Nat)} {v:Value} {d:D} (h:Zh w G β v d) (hs:d.scalar=true):Zh w' G' β' v d:=by
 cases h with
 | bool b=>exact .bool b
 | int k n=>exact .int k n
 | str s=>exact .str s
 | tup vs ds f a=>
  refine .tup vs ds f λj v d g e=>?_
  have c:=a j v d g e
  rcases Zu1 (by simpa [D.scalar] using hs) e with ⟨b,rfl⟩|⟨k,n,rfl⟩|⟨s,rfl⟩
  ·cases c; exact .bool b
  ·cases c; exact .int k n
  ·cases c; exact .str _
 | _=>simp[D.scalar] at hs
structure Blk where
 sz:Nat
 rows:List (List D)
 /-- so many rows are never written again -/
 frz:Nat
 /-- it holds values without blocks of the call's own -/
 pure:Bool
 /-- handed in by the caller,where it stands still -/
 pin:Option Nat:=none
 /-- the type of its cells,where it is known -/
 ty:Option TypeId:=none
 deriving Inhabited
structure S where
 n:Nat
 tmps:Nat→D
 heap:Nat→Option Blk
def ofL:List (Nat×D)→Nat→D
 | [],_=> .undef
 | (k,d)::r,t=>if t=k then d else ofL r t
def ofB:List (Nat×Blk)→Nat→Option Blk
 | [],_=>none
 | (k,d)::r,t=>if t=k then some d else ofB r t
def mkS (n:Nat) (l:List (Nat×D)) (h:List (Nat×Blk)):S:={ n,tmps:=ofL l,heap:=ofB h }
def S.put (σ:S) (dst:Option Nat) (d:D):S:=
 match dst with
 | some t=>{ σ with tmps:=λu=>if u=t then d else σ.tmps u }
 | none=>σ
def S.setB (σ:S) (b:Nat) (x:Option Blk):S:={ σ with heap:=λu=>if u=b then x else σ.heap u }
def Z0y (w:World) (G:Nat→Nat):Prop:=∀ g l,Zfo.lookup g=some l→l≠[]∧l.length≤G g∧∀ (j:Nat) s,l[j]?=some s→∃ b:ByteArray,b.data.toList=s∧w.cell? ⟨g,j,none⟩=some (.string b)
theorem Z0y.mono {w w':World} {G G':Nat→Nat} (h:Z0y w G) (c:∀ b o,o<G b→w'.cell? ⟨b,o,none⟩=w.cell? ⟨b,o,none⟩) (d:∀ b,G b≤G' b):Z0y w' G':=λg l e=>by
 obtain⟨f,i,k⟩:=h g l e
 refine⟨f,Nat.le_trans i (d g),λj s hs=>?_⟩
 obtain⟨b,m,n⟩:=k j s hs
 have p:j<l.length:=by
  rcases Nat.lt_or_ge j l.length with a|a
  ·exact a
  ·rw[List.getElem?_eq_none a] at hs; cases hs
 exact⟨b,m,by rw[c g j (by omega)]; exact n⟩
structure Ctx where
 B:Nat
 X:Nat→Prop
 w0:World
 G0:Nat→Nat
 hB:B≤w0.heap.size
 /-- where the blocks stand that were handed in -/
 pin:Nat→Nat
structure Lb (B:Nat) (X:Nat→Prop) (w w':World):Prop where
 os:w'.os=w.os
 tape:w'.tape=w.tape
 output:w'.output=w.output
 size:w.heap.size≤w'.heap.size
 block:∀ k,k<B→ ¬ X k→w'.heap[k]?=w.heap[k]?
 same:L7 w w'
theorem Lb.refl (B:Nat) (X:Nat→Prop) (w:World):Lb B X w w:=⟨rfl,rfl,rfl,Nat.le_refl _,λ_ _ _=>rfl,.refl w⟩
theorem Lb.trans {B:Nat} {X:Nat→Prop} {a b c:World} (h:Lb B X a b) (k:Lb B X b c):Lb B X a c:=
 ⟨k.os.trans h.os,k.tape.trans h.tape,k.output.trans h.output,Nat.le_trans h.size k.size,λi d e=>(k.block i d e).trans (h.block i d e),h.same.trans k.same⟩
structure Vq (w:World) (G:Nat→Nat) (β:Nat→Option (Nat×Nat)) (Γ:Ctx) (c:Nat) (blk:Blk):Prop where
 own:Γ.B≤c∨Γ.X c
 pin:∀ k,blk.pin=some k→Γ.pin k=c
 ty:∀ t,blk.ty=some t→∃ vs fr,w.heap[c]?=some (.cells vs t fr)∧fr.1≤fr.2
 frz:∀ o,o<G c→o<blk.frz*blk.sz
 top:blk.frz≤blk.rows.length
 dat:blk.pure=true→∀ (i j:Nat) (r:List D) (d:D),blk.rows[i]?=some r→r[j]?=some d→d.dat=true
 hsz:∀ (i:Nat) (r:List D),blk.rows[i]?=some r→r.length=blk.sz
 cells:∃ vs e fr,w.heap[c]?=some (.cells vs e fr)∧(∀ o,o<vs.size→ ¬ (fr.1≤o∧o<fr.2))∧blk.rows.length*blk.sz≤vs.size∧
  ∀ (i j:Nat) (r:List D) (d:D),blk.rows[i]?=some r→r[j]?=some d→∃ v,vs[i*blk.sz+j]?=some v∧one v=true∧Zh w G β v d
structure Zk (Γ:Ctx) (σ:S) (a:Act) (w:World) (G:Nat→Nat) (β:Nat→Option (Nat×Nat)):Prop where
 defers:a.defers=[]
 size:a.tmps.size=σ.n
 tmps:∀ t,Zh w G β (a.tmps.getD t Go.undef) (σ.tmps t)
 heap:∀ b blk,σ.heap b=some blk→(β b=none∧blk.rows=[]∧blk.frz=0)∨∃ c,β b=some (c,blk.sz)∧Vq w G β Γ c blk
 dom:∀ b x,β b=some x→∃ blk,σ.heap b=some blk
 inj:∀ b b' c s s',β b=some (c,s)→β b'=some (c,s')→b=b'
 kept:Lb Γ.B Γ.X Γ.w0 w
 marks:∀ c,c<Γ.B→ ¬ Γ.X c→G c=Γ.G0 c
 fresh:∀ c,w.heap.size≤c→G c=0
 big:Γ.B≤w.heap.size
 glob:Z0y w G
theorem Y5p {l:Array Value} {t:Nat} {v:Value} (u:Nat) (a:t<l.size):(l.setIfInBounds t v).getD u Go.undef=if u=t then v else l.getD u Go.undef:=by
 simp only[Array.getD_eq_getD_getElem?,Array.getElem?_setIfInBounds]
 by_cases h:u=t
 ·subst h; simp[a]
 ·simp[h,Ne.symm h]
theorem Zk.put {Γ:Ctx} {σ:S} {a:Act} {w:World} {G:Nat→Nat} {β:Nat→Option (Nat×Nat)} (h:Zk Γ σ a w G β) {dst:Option Nat} (c:∀ t,dst=some t→t<σ.n) {v:Value} {d:D}
  (e:Zh w G β v d):Zk Γ (σ.put dst d) (a.put dst v) w G β:=by
 cases dst with
 | none=>exact h
 | some t=>
  have b:t<a.tmps.size:=by rw[h.size]; exact c t rfl
  refine { h with size:=by simp[Act.put,S.put,h.size],tmps:=λu=>?_ }
  simp only[Act.put,S.put]
  rw[Y5p u b]
  split
  ·exact e
  ·exact h.tmps u
end Go.Den
namespace Go.Den
open Go.RowKit
inductive Ans where
 | go
 | yes
 | no
 | val (d:D)
 | row (r:List D)
 | rows (l:List (List D))
def Z4 {α:Type} (l:List α) (i:Int):Option α:=if 0≤i then l[i.toNat]? else none
def Vx (s:List UInt8) (i:Int):Option Int:=if 0≤i then (s[i.toNat]?).map λb=>(b.toNat:Int) else none
def sub {α:Type} (l:List α) (lo a:Int):Option (List α):=if 0≤lo∧lo≤a∧a≤l.length then some ((l.drop lo.toNat).take (a.toNat - lo.toNat)) else none
def aggT (P:Program) (t:TypeId):Option Bool:=
 match P.underlying t with
 | some (.struct _)|some (.array _ _)=>some true
 | some _=>some false
 | none=>none
def Um (P:Program) (t:TypeId):Option Nat:=(P.info? t).map (·.size)
def Ls (P:Program) (t:TypeId):Option TypeId:=match P.underlying t with|some (.slice e)=>some e|_=>none
def D.cells:D→List D
 | .agg cs=>cs
 | d=>[d]
def Z1p:Value→D
 | .bool b=> .bool b
 | .int k n=> .int k n
 | .string s=> .str s.data.toList
 | .slice none 0 0=> .sl true []
 | .pointer none=> .nilptr
 | .func (.func f) ⟨[]⟩ ⟨[]⟩=> .fn f
 | _=> .undef
def Za2:Value→D
 | .agg vs=>if vs.toList.all one then .agg (vs.toList.map Z1p) else .undef
 | v=>Z1p v
def S.ev (σ:S):Operand→D
 | .tmp t=>σ.tmps t
 | .const v=>Za2 v
 | .func f=> .fn f
 | .global g=>match Zfo.lookup g with
  | some l=> .ptr (l.map .str)
  | none=> .undef
def Wu (k:IntKind) (n:Int):Ans→Option (D×Prop)
 | .go=>some (.int k n,True)
 | .val (.int a m)=>if a=k then some (.int k m,n=m) else none
 | _=>none
def Lx (b:Bool):Ans→Option (D×Prop)
 | .go=>some (.bool b,True)
 | .val (.bool c)=>some (.bool c,b=c)
 | _=>none
def strD (s:List UInt8):Ans→Option (D×Prop)
 | .go=>some (.str s,True)
 | .val (.str t)=>some (.str t,s=t)
 | _=>none
def bitsD (op:BinOp) (k:IntKind) (x y:Int):Option Int:=
 let a:=BitVec.ofInt k.bits x
 let b:=BitVec.ofInt k.bits y
 match op with
 | .and=>some (k.wrap (a &&& b).toNat)
 | .or=>some (k.wrap (a ||| b).toNat)
 | .xor=>some (k.wrap (a ^^^ b).toNat)
 | .andNot=>some (k.wrap (a &&& ~~~b).toNat)
 | _=>none
def cmpD (op:BinOp) (x y:Int):Option Bool:=
 match op with
 | .eql=>some (x==y)
 | .neq=>some (x !=y)
 | .lss=>some (decide (x<y))
 | .leq=>some (decide (x≤y))
 | .gtr=>some (decide (x>y))
 | .geq=>some (decide (x≥y))
 | _=>none
def Zk3 (op:BinOp) (k:IntKind) (a b:Int) (ans:Ans):Option (D×Prop):=
 match op with
 | .add=>Wu k (k.wrap (a+b)) ans
 | .sub=>Wu k (k.wrap (a - b)) ans
 | .mul=>Wu k (k.wrap (a*b)) ans
 | .quo=>(Wu k (k.wrap (a.tdiv b)) ans).map λx=>(x.1,b≠0∧x.2)
 | .rem=>(Wu k (a.tmod b) ans).map λx=>(x.1,b≠0∧x.2)
 | .and|.or|.xor|.andNot=>
  match bitsD op k a b with
  | some n=>Wu k n ans
  | none=>none
 | op=>
  match cmpD op a b with
  | some c=>Lx c ans
  | none=>none
def Zk8 (op:BinOp) (k:IntKind) (a y:Int) (ans:Ans):Option (D×Prop):=
 match op with
 | .shl=>(Wu k (k.wrap (a*2 ^ (min y.toNat k.bits))) ans).map λx=>(x.1,0≤y∧x.2)
 | .shr=>(Wu k (a.fdiv (2 ^ (min y.toNat k.bits))) ans).map λx=>(x.1,0≤y∧x.2)
 | _=>none
def Zif (op:BinOp) (a b:List UInt8) (ans:Ans):Option (D×Prop):=
 match op with
 | .add=>(strD (a++b) ans).map λx=>(x.1,a.length+b.length≤9223372036854775807∧x.2)
 | .eql=>Lx (a==b) ans
 | .neq=>Lx (!(a==b)) ans
 | .lss=>Lx (Op.bytesLess a b) ans
 | .leq=>Lx (Op.bytesLess a b||a==b) ans
 | .gtr=>Lx (!(Op.bytesLess a b||a==b)) ans
 | .geq=>Lx (!Op.bytesLess a b) ans
 | _=>none
def Z0k (P:Program) (t:TypeId) (cs:List D) (off:Nat):Option D:=
 match aggT P t,Um P t with
 | some true,some s=>if ((cs.drop off).take s).length=s then some (.agg ((cs.drop off).take s)) else none
 | some false,some _=>cs[off]?
 | _,_=>none
def Zhf (P:Program) (f:TypeId→D→D→Option (Bool×Prop)) (xs ys:List D):List Field→Option (Bool×Prop)
 | [] =>some (true,True)
 | x :: fs=>
  match Z0k P x.type xs x.offset,Z0k P x.type ys x.offset with
  | some a,some b=>
   match f x.type a b,Zhf P f xs ys fs with
   | some (r, p), some (c, q) => some (r && c, x.name ≠ "_" ∧ p ∧ q)
   | _,_=>none
  | _,_=>none
def Zbd (P:Program):Nat→TypeId→D→D→Option (Bool×Prop)
 | 0,_,_,_=>none
 | m + 1,t,x,y=>
  match P.underlying t,x,y with
  | some .bool,.bool a,.bool b=>some (a==b,True)
  | some (.int _),.int k a,.int c b=>if k=c then some (a==b,True) else none
  | some .string,.str a,.str b=>some (a==b,True)
  | some (.struct fs),.agg xs,.agg ys=>
   match Zhf P (Zbd P m) xs ys fs.toList with
   | some (r,p)=>some (r,P.stoodInHeld t=false∧p)
   | none=>none
  | _,_,_=>none
def ptrD (P:Program) (op:BinOp) (xt:TypeId) (same:Bool):Option (D×Prop):=
 match P.underlying xt with
 | some (.pointer te)=>match P.info? te with
  | some _=>match op with
   | .eql=>some (.bool same,True)
   | .neq=>some (.bool (!same),True)
   | _=>none
  | none=>none
 | _=>none
def binD (P:Program) (op:BinOp) (xt:TypeId) (x y:D) (ans:Ans):Option (D×Prop):=
 match x,y with
 | .int k a,.int d b=>
  match op with
  | .shl|.shr=>Zk8 op k a b ans
  | _=>if k=d then Zk3 op k a b ans else none
 | .str a,.str b=>Zif op a b ans
 | .bool a,.bool b=>
  match P.underlying xt with
  | some .bool=>
   match op with
   | .eql=>Lx (a==b) ans
   | .neq=>Lx (!(a==b)) ans
   | _=>none
  | _=>none
 | .agg a,.agg b=>
  match Zbd P 6 xt (.agg a) (.agg b),ans with
  | some (r,p),.val (.bool c)=>
   match op with
   | .eql=>some (.bool c,P.eqGuardType P.depth xt=false∧p∧r=c)
   | .neq=>some (.bool c,P.eqGuardType P.depth xt=false∧p∧(!r)=c)
   | _=>none
  | _,_=>none
 | .nilptr,.nilptr=>ptrD P op xt true
 | .lptr _ _ _,.nilptr=>ptrD P op xt false
 | .lptr b i o,.lptr e f g=>match Nat.beq b e&&Nat.beq i f&&Nat.beq o g with
  | true=>ptrD P op xt true
  | false=>none
 | _,_=>none
def unD (op:UnOp) (x:D) (ans:Ans):Option (D×Prop):=
 match op,x with
 | .neg,.int k n=>Wu k (k.wrap (0 - n)) ans
 | .not,.bool b=>Lx (!b) ans
 | _,_=>none
def Zib (P:Program) (src dst:TypeId) (x:D) (ans:Ans):Option (D×Prop):=
 match P.underlying src,P.underlying dst,x with
 | some (.int _),some (.int k),.int _ n=>Wu k (k.wrap n) ans
 | some .string,some .string,.str s=>some (.str s,True)
 | some (.int _),some .string,.int _ n=>strD (Utf8.encode n).data.toList ans
 | _,_,_=>none
def Zil (P:Program) (s:TypeId) (f:Nat):Option (Nat×TypeId):=
 match P.underlying s with
 | some (.struct fs)=>
  match fs[f]? with
  | some x=>some (x.offset,x.type)
  | none=>none
 | _=>none
def Mn (σ:S) (x:D) (ans:Ans):Option (List D×Prop):=
 match x with
 | .ptr cs=>some (cs,True)
 | .lptr b i o=>
  match σ.heap b with
  | some blk=>
   match ans with
   | .row r=>some (r.drop o,blk.rows[i]?=some r)
   | _=>
    match blk.rows[i]? with
    | some r=>some (r.drop o,True)
    | none=>none
  | none=>none
 | _=>none
def Ly (P:Program) (σ:S) (t:TypeId) (x:D) (ans:Ans):Option (D×Prop):=
 match Mn σ x ans with
 | some (cs,p)=>
  match Z0k P t cs 0 with
  | some d=>some (d,p)
  | none=>none
 | none=>none
def Zlx (P:Program) (s:TypeId) (x:D) (f:Nat):Option D:=
 match Zil P s f with
 | some (off,t)=>
  match Um P t with
  | some (_+1)=>
   match x with
   | .ptr cs=>some (.ptr (cs.drop off))
   | .lptr b i o=>some (.lptr b i (o+off))
   | _=>none
  | _=>none
 | none=>none
def Z0n (P:Program) (σ:S) (t:TypeId) (x i:D) (ans:Ans):Option (D×Prop):=
 match i with
 | .int _ i=>
  match P.underlying t with
  | some (.slice e)=>
   match Um P e with
   | some sz=>
    match x with
    | .sl _ rows=>
     match ans with
     | .row r=>if r.length=sz then some (.ptr r,Z4 rows i=some r) else none
     | _=>
      match Z4 rows i with
      | some r=>if r.length=sz then some (.ptr r,True) else none
      | none=>none
    | .lsl b lo n=>
     match σ.heap b with
     | some blk=>
      if blk.sz=sz then
       match ans with
       | .val (.lptr a j 0)=>if a=b then some (.lptr b j 0,0≤i∧i<n∧(lo:Int)+i=j) else none
       | _=>some (.lptr b (lo+i.toNat) 0,0≤i∧i<n)
      else none
     | none=>none
    | _=>none
   | none=>none
  | some (.array len e)=>
   match Um P e with
   | some sz=>
    match x with
    | .lptr b r o=>some (.lptr b r (o+i.toNat*sz),0≤i∧i<len)
    | .ptr cs=>
     match ans with
     | .row r=>some (.ptr r,0≤i∧i<len∧(cs.drop (i.toNat*sz)).take r.length=r)
     | _=>some (.ptr (cs.drop (i.toNat*sz)),0≤i∧i<len)
    | _=>none
   | none=>none
  | _=>none
 | _=>none
def Zlo (P:Program) (t:TypeId) (x i:D) (ans:Ans):Option (D×Prop):=
 match i with
 | .int _ i=>
  match P.underlying t,x with
  | some .string,.str s=>
   match ans with
   | .val (.int .u8 c)=>some (.int .u8 c,Vx s i=some c)
   | _=>
    match Vx s i with
    | some c=>some (.int .u8 c,True)
    | none=>none
  | some (.array len e),.agg cs=>
   match Um P e with
   | some sz=>
    match Z0k P e cs (i.toNat*sz) with
    | some d=>some (d,0≤i∧i<len)
    | none=>none
   | none=>none
  | _,_=>none
 | _=>none
def Z04 (x:Option D) (dflt:Int):Option Int:=
 match x with
 | none=>some dflt
 | some (.int _ i)=>some i
 | some _=>none
def Z0a (P:Program) (σ:S) (t:TypeId) (x:D) (lo a mx:Option D) (ans:Ans):Option (D×Prop):=
 match P.underlying t,x with
 | some .string,.str s=>
  match mx,Z04 lo 0,Z04 a s.length with
  | none,some l,some h=>
   match ans with
   | .val (.str r)=>some (.str r,sub s l h=some r)
   | _=>
    match sub s l h with
    | some r=>some (.str r,True)
    | none=>none
  | _,_,_=>none
 | some (.slice e),.sl _ rows=>
  match Um P e with
  | some sz=>
   match mx,Z04 lo 0,Z04 a rows.length with
   | none,some l,some h=>
    match ans with
    | .rows r=>some (.sl false r,(∀ x∈rows,x.length=sz)∧sub rows l h=some r)
    | _=>
     match sub rows l h with
     | some r=>some (.sl false r,∀ x∈rows,x.length=sz)
     | none=>none
   | some m,some l,some h=>
    match a,Z04 (some m) 0 with
    | some _,some m=>
     match ans with
     | .rows r=>some (.sl true r,(∀ x∈rows,x.length=sz)∧m=h∧sub rows l h=some r)
     | _=>
      match sub rows l h with
      | some r=>some (.sl true r,(∀ x∈rows,x.length=sz)∧m=h)
      | none=>none
    | _,_=>none
   | _,_,_=>none
  | none=>none
 | some (.slice e),.lsl b l0 n=>
  match σ.heap b,Um P e with
  | some blk,some sz=>
   if blk.sz=sz then
    match mx,Z04 lo 0,Z04 a n with
    | none,some l,some h=>some (.lsl b (l0+l.toNat) (h.toNat - l.toNat),0≤l∧l≤h∧h≤n)
    | _,_,_=>none
   else none
  | _,_=>none
 | _,_=>none
def lenD (P:Program) (t:TypeId) (x:D) (ans:Ans):Option (D×Prop):=
 match P.underlying t,x with
 | some .string,.str s=>Wu .i64 s.length ans
 | some (.slice _),.sl _ rows=>Wu .i64 rows.length ans
 | some (.slice _),.lsl _ _ n=>Wu .i64 n ans
 | some (.array n _),_=>Wu .i64 n ans
 | _,_=>none
def Zbq (c a b:D) (ans:Ans):Option (D×Prop):=
 match c with
 | .bool c=>
  match ans with
  | .yes=>some (a,c=true)
  | .no=>some (b,c=false)
  | _=>
   match c with
   | true=>some (a,True)
   | false=>some (b,True)
 | _=>none
def maxD (x y:D) (ans:Ans):Option (D×Prop):=
 match x,y with
 | .int k a,.int _ b=>Wu k (if b>a then b else a) ans
 | _,_=>none
def minD (x y:D) (ans:Ans):Option (D×Prop):=
 match x,y with
 | .int k a,.int _ b=>Wu k (if b<a then b else a) ans
 | _,_=>none
def cloD:List D→Option (List Nat)
 | [] =>some []
 | .lptr b 0 0::r=>match cloD r with
  | some l=>some (b::l)
  | none=>none
 | _=>none
def Q1 (P:Program) (σ:S) (o:Oper) (ans:Ans):Option (D×Prop):=
 match o.op with
 | .move x|.assign x=>some (σ.ev x,True)
 | .pick c a b=>Zbq (σ.ev c) (σ.ev a) (σ.ev b) ans
 | .binOp op xt x y _=>binD P op xt (σ.ev x) (σ.ev y) ans
 | .unOp op _ x=>unD op (σ.ev x) ans
 | .convert src dst x=>Zib P src dst (σ.ev x) ans
 | .load t x=>Ly P σ t (σ.ev x) ans
 | .fieldAddr s x f=>
  match Zlx P s (σ.ev x) f with
  | some d=>some (d,True)
  | none=>none
 | .field s x f=>
  match σ.ev x,Zil P s f with
  | .agg cs,some (off,t)=>
   match Z0k P t cs off with
   | some d=>some (d,True)
   | none=>none
  | _,_=>none
 | .indexAddr t x i=>Z0n P σ t (σ.ev x) (σ.ev i) ans
 | .index t x i=>Zlo P t (σ.ev x) (σ.ev i) ans
 | .slice t x lo e mx=>Z0a P σ t (σ.ev x) (lo.map σ.ev) (e.map σ.ev) (mx.map σ.ev) ans
 | .extract x i=>
  match σ.ev x with
  | .tup vs=>
   match vs[i]? with
   | some d=>some (d,True)
   | none=>none
  | _=>none
 | .nilCheck x=>
  match σ.ev x with
  | .ptr cs=>some (.ptr cs,True)
  | .lptr b i j=>some (.lptr b i j,True)
  | _=>none
 | .call { callee:= .builtin .len,args,argTypes }=>
  match args[0]?,argTypes[0]? with
  | some x,some t=>lenD P t (σ.ev x) ans
  | _,_=>none
 | .call { callee:= .builtin .unsafeSliceData,args:=⟨[x]⟩,.. }=>
  match σ.ev x with
  | .lsl b 0 n=>some (.lptr b 0 0,0<n)
  | _=>none
 | .call { callee:= .builtin .max,args:=⟨[x,y]⟩,.. }=>maxD (σ.ev x) (σ.ev y) ans
 | .call { callee:= .builtin .min,args:=⟨[x,y]⟩,.. }=>minD (σ.ev x) (σ.ev y) ans
 | .makeFunc f first captured=>
  match f,first,cloD (captured.toList.map σ.ev) with
  | .func f,⟨[]⟩,some bs=>some (.clo f bs,True)
  | _,_,_=>none
 | _=>none
end Go.Den
namespace Go.Den
open Go.RowKit
variable {P:Program} {Γ:Ctx} {σ:S} {a:Act} {w:World} {G:Nat→Nat} {β:Nat→Option (Nat×Nat)}
theorem Z9u (s:ByteArray) (l:List UInt8) (h:s.data.toList=l):Zh w G β (.string s) (.str l):=h ▸ .str s
theorem Zph (v:Value):Zh w G β v (Z1p v):=by
 unfold Z1p
 split
 ·exact .bool _
 ·exact .int _ _
 ·exact .str _
 ·exact .slnil _ _
 ·exact .nilptr
 ·exact .fn _
 ·exact .undef _
theorem Y5w (v:Value):Zh w G β v (Za2 v):=by
 unfold Za2
 split
 ·split
  ·rename_i vs e
   refine .agg vs _ (by simp) (λj v b=>?_) (λj v d b c=>?_)
   ·exact List.all_eq_true.1 e v (List.mem_of_getElem? (i:=j) (by simpa using b))
   ·simp only[List.getElem?_map,Array.getElem?_toList,b,Option.map_some,Option.some.injEq] at c
    subst c
    exact Zph v
  ·exact .undef _
 ·exact Zph _
theorem Qf {α β:Type} {o:Option α} {f:α→β} {b:β} (h:o.map f=some b):∃ x,o=some x∧f x=b:=by
 cases o with
 | none=>cases h
 | some x=>exact⟨x,rfl,by injection h⟩
theorem Y47 (h:Z0y w G) (g:Nat):Zh w G β (.pointer (some ⟨g,0,none⟩)) (match Zfo.lookup g with
  | some l=> .ptr (l.map .str)
  | none=> .undef):=by
 split
 ·rename_i l k
  obtain⟨_,p,m⟩:=h g l k
  have hs:∀ j d,(l.map D.str)[j]?=some d→∃ b:ByteArray,d=.str b.data.toList∧w.cell? ⟨g,j,none⟩=some (.string b):=λj d f=>by
   rw[List.getElem?_map] at f
   obtain⟨s,n,rfl⟩:=Qf f
   obtain⟨b,rfl,o⟩:=m j s n
   exact⟨b,rfl,o⟩
  have i:∀ j,j<(l.map D.str).length→∃ b:ByteArray,w.cell? ⟨g,j,none⟩=some (.string b):=λj i=>by
   obtain⟨b,_,e⟩:=hs j _ (List.getElem?_eq_getElem i)
   exact⟨b,e⟩
  refine .ptr g 0 _ (λj=>(w.cell? ⟨g,j,none⟩).getD Go.undef) (λj i=>by rw[List.length_map] at i; omega) (λj c=>?_) (λj c=>?_) (λj d f=>?_) (λj d f=>?_)
  ·obtain⟨b,e⟩:=i j c
   rw[Nat.zero_add,e]; rfl
  ·obtain⟨b,e⟩:=i j c
   rw[e]; rfl
  ·obtain⟨b,rfl,_⟩:=hs j d f; rfl
  ·obtain⟨b,rfl,e⟩:=hs j d f
   rw[e]; exact .str b
 ·exact .undef _
theorem Wc (h:Zk Γ σ a w G β) (x:Operand):Zh w G β (a.eval x) (σ.ev x):=by
 cases x with
 | tmp t=>exact h.tmps t
 | const v=>exact Y5w v
 | global g=>exact Y47 h.glob g
 | func f=>exact .fn f
theorem Ww {v:Value} {k:IntKind} {n:Int} (h:Zh w G β v (.int k n)):v=.int k n:=by cases h; rfl
theorem Z0d {v:Value} {b:Bool} (h:Zh w G β v (.bool b)):v=.bool b:=by cases h; rfl
theorem Z0v {v:Value} {s:List UInt8} (h:Zh w G β v (.str s)):∃ b:ByteArray,v=.string b∧b.data.toList=s:=by cases h; exact⟨_,rfl,rfl⟩
theorem L2 {v:Value} {cs:List D} (h:Zh w G β v (.agg cs)):∃ vs,v=.agg vs∧cs.length=vs.size∧(∀ (j:Nat) v,vs[j]?=some v→one v=true)∧
  (∀ (j:Nat) v d,vs[j]?=some v→cs[j]?=some d→Zh w G β v d):=by cases h; exact⟨_,rfl,‹_›,‹_›,‹_›⟩
theorem U8 {k:IntKind} {n:Int} {ans:Ans} {d:D} {p:Prop} (h:Wu k n ans=some (d,p)) (hp:p):Zh w G β (.int k n) d:=by
 unfold Wu at h
 split at h
 ·cases h; exact .int _ _
 ·split at h
  ·cases h; rw[show n=_ from hp]; rename_i b; subst b; exact .int _ _
  ·cases h
 ·cases h
theorem Mp {b:Bool} {ans:Ans} {d:D} {p:Prop} (h:Lx b ans=some (d,p)) (hp:p):Zh w G β (.bool b) d:=by
 unfold Lx at h
 split at h
 ·cases h; exact .bool _
 ·cases h; rw[show b=_ from hp]; exact .bool _
 ·cases h
theorem Zyb {s:ByteArray} {l:List UInt8} (hs:s.data.toList=l) {ans:Ans} {d:D} {p:Prop} (h:strD l ans=some (d,p)) (hp:p):Zh w G β (.string s) d:=by
 unfold strD at h
 split at h
 ·cases h; exact Z9u _ _ hs
 ·cases h; exact Z9u _ _ (hs.trans hp)
 ·cases h
def W9 (P:Program) (w:World) (G:Nat→Nat) (β:Nat→Option (Nat×Nat)) (s:Sem Value) (d:D):Prop:=∃ v,s.run P w=.ok v w∧Zh w G β v d
theorem Y3f {op:BinOp} (f:op≠ .shl) (g:op≠ .shr) {k:IntKind} {x y:Int} {ans:Ans} {d:D} {p:Prop} (h:Zk3 op k x y ans=some (d,p)) (hp:p) (t:TypeId):
  W9 P w G β (Go.binOp op t (.int k x) (.int k y)) d:=by
 cases op with
 | shl=>exact absurd rfl f
 | shr=>exact absurd rfl g
 | add=>exact⟨_,by simp[binOp,Op.intArith],U8 h hp⟩
 | sub=>exact⟨_,by simp[binOp,Op.intArith],U8 h hp⟩
 | mul=>exact⟨_,by simp[binOp,Op.intArith],U8 h hp⟩
 | quo=>
  obtain⟨z,b,c⟩:=Qf h
  cases c
  obtain⟨e,hp⟩:=hp
  exact⟨_,by simp[binOp,Op.intDiv,e],U8 b hp⟩
 | rem=>
  obtain⟨z,b,c⟩:=Qf h
  cases c
  obtain⟨e,hp⟩:=hp
  exact⟨_,by simp[binOp,Op.intDiv,e],U8 b hp⟩
 | and=>exact⟨_,by simp[binOp,Op.intBits],U8 h hp⟩
 | or=>exact⟨_,by simp[binOp,Op.intBits],U8 h hp⟩
 | xor=>exact⟨_,by simp[binOp,Op.intBits],U8 h hp⟩
 | andNot=>exact⟨_,by simp[binOp,Op.intBits],U8 h hp⟩
 | eql=>exact⟨_,by simp[binOp,Op.intCmp],Mp h hp⟩
 | neq=>exact⟨_,by simp[binOp,Op.intCmp],Mp h hp⟩
 | lss=>exact⟨_,by simp[binOp,Op.intCmp],Mp h hp⟩
 | leq=>exact⟨_,by simp[binOp,Op.intCmp],Mp h hp⟩
 | gtr=>exact⟨_,by simp[binOp,Op.intCmp],Mp h hp⟩
 | geq=>exact⟨_,by simp[binOp,Op.intCmp],Mp h hp⟩
theorem Zyw {op:BinOp} {k f:IntKind} {x y:Int} {ans:Ans} {d:D} {p:Prop} (h:Zk8 op k x y ans=some (d,p)) (hp:p) (t:TypeId):
  W9 P w G β (Go.binOp op t (.int k x) (.int f y)) d:=by
 unfold Zk8 at h
 split at h
 ·obtain⟨z,b,c⟩:=Qf h
  cases c
  obtain⟨e,hp⟩:=hp
  exact⟨_,by simp[binOp,Op.shift,Int.not_lt.2 e],U8 b hp⟩
 ·obtain⟨z,b,c⟩:=Qf h
  cases c
  obtain⟨e,hp⟩:=hp
  exact⟨_,by simp[binOp,Op.shift,Int.not_lt.2 e],U8 b hp⟩
 ·cases h
theorem Y64 {op:BinOp} {x y:ByteArray} {ans:Ans} {d:D} {p:Prop} (h:Zif op x.data.toList y.data.toList ans=some (d,p)) (hp:p) (t:TypeId):
  W9 P w G β (Go.binOp op t (.string x) (.string y)) d:=by
 unfold Zif at h
 split at h
 ·obtain⟨z,c,e⟩:=Qf h
  cases e
  obtain⟨g,hp⟩:=hp
  refine⟨.string (x++y),?_,Zyb (by simp) c hp⟩
  have b: ¬ (((x.size+y.size:Nat):Int)>IntKind.i64.max):=by
   have f:IntKind.i64.max=9223372036854775807:=rfl
   rw[f]
   have i:x.data.toList.length=x.size:=rfl
   have j:y.data.toList.length=y.size:=rfl
   omega
  simp only[binOp,Op.stringOp,if_neg b]
  simp
 all_goals first
  | exact⟨_,by simp[binOp,Op.stringOp,ByteArray.toList_eq],Mp h hp⟩
  | cases h
theorem Z31 {op:BinOp} {t:TypeId} {x y:Operand} {u v:Value} (b:∀ cs,u≠ .agg cs) (c:u≠ .nilIface):(eqGuard op t x y u v).run P w=.ok () w:=by
 cases op <;> first|rfl|(cases u <;> first|rfl|exact absurd rfl (b _)|exact absurd rfl c)
theorem Y4t {op:UnOp} {u:Value} {dx:D} (b:Zh w G β u dx) {ans:Ans} {d:D} {p:Prop} (h:unD op dx ans=some (d,p)) (hp:p):W9 P w G β (Op.unary op u) d:=by
 unfold unD at h
 split at h
 ·rw[Ww b]; exact⟨_,by simp[Op.unary,Op.intArith],U8 h hp⟩
 ·rw[Z0d b]; exact⟨_,by simp[Op.unary],Mp h hp⟩
 ·cases h
theorem Y3v {src dst:TypeId} {u:Value} {dx:D} (e:Zh w G β u dx) {ans:Ans} {d:D} {p:Prop} (h:Zib P src dst dx ans=some (d,p)) (hp:p):W9 P w G β (convert src dst u) d:=by
 unfold Zib at h
 split at h
 ·rename_i b c
  rw[Ww e]; exact⟨_,by simp[convert,run_underlying b,run_underlying c,Conv.intToInt],U8 h hp⟩
 ·rename_i b c
  obtain⟨s,rfl,rfl⟩:=Z0v e
  cases h
  exact⟨_,by simp[convert,run_underlying b,run_underlying c],.str _⟩
 ·rename_i b c
  rw[Ww e]; exact⟨_,by simp[convert,run_underlying b,run_underlying c,Conv.intToString],Zyb rfl h hp⟩
 ·cases h
theorem Y38 {u v x:Value} {dc da db:D} (e:Zh w G β u dc) (b:Zh w G β v da) (c:Zh w G β x db) {ans:Ans} {d:D} {p:Prop} (h:Zbq dc da db ans=some (d,p)) (hp:p):
  W9 P w G β (do pure (if ← asBool u then v else x)) d:=by
 unfold Zbq at h
 split at h
 ·rw[Z0d e]
  split at h
  ·cases h; exact⟨v,by simp[asBool,show _=true from hp],b⟩
  ·cases h; exact⟨x,by simp[asBool,show _=false from hp],c⟩
  ·split at h
   ·cases h; exact⟨v,by simp[asBool],b⟩
   ·cases h; exact⟨x,by simp[asBool],c⟩
 ·cases h
theorem Kd {t:TypeId} {n:Nat} (h:Um P t=some n) (w:World):(sizeOf t).run P w=.ok n w:=by
 unfold Um at h
 obtain⟨i,b,rfl⟩:=Qf h
 simp[sizeOf,typeInfo,b]
theorem Zb7 {t:TypeId} {b:Bool} (h:aggT P t=some b) (w:World):(isAgg t).run P w=.ok b w:=by
 unfold aggT at h
 split at h
 ·cases h; rename_i c; simp[isAgg,run_underlying c]
 ·cases h; rename_i c; simp[isAgg,run_underlying c]
 ·cases h; rename_i d e f c
  simp only[isAgg,Sem.run_bind,run_underlying c,Result.andThen_ok]
  rfl
 ·cases h
def CRep (w:World) (G:Nat→Nat) (β:Nat→Option (Nat×Nat)) (b off:Nat) (cs:List D):Prop:=
 ∀ (j:Nat) d,cs[j]?=some d→∃ v,w.cell? ⟨b,off+j,none⟩=some v∧one v=true∧Zh w G β v d
theorem Addr.add_none (b o n:Nat):(⟨b,o,none⟩:Addr).add n=⟨b,o+n,none⟩:=by
 unfold Addr.add
 split
 ·subst_vars; rfl
 ·rfl
theorem Y5q {t:TypeId} {b off:Nat} {cs:List D} (h:CRep w G β b off cs) {d:D} (g:Z0k P t cs 0=some d):W9 P w G β (loadVar t ⟨b,off,none⟩) d:=by
 unfold Z0k at g
 split at g
 ·rename_i s k n
  split at g
  ·rename_i o
   cases g
   simp only[List.drop_zero] at o ⊢
   have hs:s≤cs.length:=by simp at o; omega
   have i:∀ j,j<s→∃ v,w.cell? ⟨b,off+j,none⟩=some v∧one v=true∧∀ d,cs[j]?=some d→Zh w G β v d:=λj e=>by
    obtain⟨v,a1,a2,l⟩:=h j cs[j] (List.getElem?_eq_getElem (by omega))
    exact⟨v,a1,a2,λd g=>by rw[List.getElem?_eq_getElem (by omega)] at g; cases g; exact l⟩
   let f:Nat→Value:=λj=>if e:j<s then Classical.choose (i j e) else Go.undef
   have m:∀ j,(e:j<s)→w.cell? ⟨b,off+j,none⟩=some (f j)∧one (f j)=true∧∀ d,cs[j]?=some d→Zh w G β (f j) d:=λj e=>by
    have:=Classical.choose_spec (i j e)
    simpa [f,e] using this
   refine⟨.agg ((List.range s).map f).toArray,?_,?_⟩
   ·simp only[loadVar,Sem.run_bind,Zb7 k,Result.andThen_ok,if_true,Kd n]
    have:=run_loadCells (P:=P) w ⟨b,off,none⟩ s f (λj e=>by rw[Addr.add_none]; exact(m j e).1)
    simp[this]
   ·refine .agg _ _ (by simp[hs]) (λj v e=>?_) (λj v d e g=>?_)
    ·by_cases c:j<s
     ·simp[c] at e; subst e; exact(m j c).2.1
     ·simp[c] at e
    ·by_cases c:j<s
     ·simp[c] at e; subst e
      rw[List.getElem?_take_of_lt c] at g
      exact(m j c).2.2 d g
     ·simp[c] at e
  ·cases g
 ·rename_i k n
  obtain⟨v,a1,a2,l⟩:=h 0 d g
  refine⟨v,?_,l⟩
  simp only[loadVar,Sem.run_bind,Zb7 k,Result.andThen_ok]
  simp[show w.cell? ⟨b,off,none⟩=some v from a1]
 ·cases g
theorem Zzs (B:Zk Γ σ a w G β) {u:Value} {x:D} (t:Zh w G β u x) {ans:Ans} {cs:List D} {p:Prop} (h:Mn σ x ans=some (cs,p)) (hp:p):
  ∃ b off,u=.pointer (some ⟨b,off,none⟩)∧CRep w G β b off cs:=by
 unfold Mn at h
 split at h
 ·cases h
  cases t with
  | ptr b off cs val y g l z m=>
   refine⟨b,off,rfl,λj d k=>?_⟩
   have A:j<cs.length:=by
    rcases Nat.lt_or_ge j cs.length with h|h
    ·exact h
    ·rw[List.getElem?_eq_none h] at k; cases k
   exact⟨_,g j A,l j A,m j d k⟩
 ·rename_i b i o
  cases t with
  | lptr _ _ _ c sz q=>
   split at h
   ·rename_i blk n
    rcases B.heap b blk n with ⟨s,-⟩|⟨c',s,hB⟩
    ·rw[s] at q; cases q
    ·rw[s] at q; cases q
     obtain⟨vs,e,fr,C,-,-,f⟩:=hB.cells
     have key:∀ r,blk.rows[i]?=some r→CRep w G β c (i*blk.sz+o) (r.drop o):=λr E j d k=>by
      rw[List.getElem?_drop] at k
      obtain⟨v,F,H,I⟩:=f i (o+j) r d E k
      refine⟨v,?_,H,I⟩
      simp only[World.cell?,C]
      simpa [Nat.add_assoc] using F
     refine⟨c,i*blk.sz+o,rfl,?_⟩
     split at h
     ·cases h; exact key _ hp
     ·split at h
      ·cases h; exact key _ (by assumption)
      ·cases h
   ·cases h
 ·cases h
theorem Y05 (c:Zk Γ σ a w G β) {u:Value} {x:D} (e:Zh w G β u x) {t:TypeId} {ans:Ans} {d:D} {p:Prop} (h:Ly P σ t x ans=some (d,p)) (hp:p):
  W9 P w G β (Instr.loadAt t u) d:=by
 unfold Ly at h
 split at h
 ·rename_i cs q hq
  split at h
  ·rename_i d' f
   cases h
   obtain⟨b,off,rfl,g⟩:=Zzs c e hq hp
   obtain⟨v,i,j⟩:=Y5q g f
   exact⟨v,by simpa [Instr.loadAt,Instr.sureAddr] using i,j⟩
  ·cases h
 ·cases h
theorem Zh.ptr_drop {b off:Nat} {cs:List D} {val:Nat→Value} (e:∀ j,j<cs.length→off+j<G b)
  (c:∀ j,j<cs.length→w.cell? ⟨b,off+j,none⟩=some (val j)) (f:∀ j,j<cs.length→one (val j)=true) (g:∀ (j:Nat) d,cs[j]?=some d→d.dat=true)
  (h:∀ (j:Nat) d,cs[j]?=some d→Zh w G β (val j) d) (n:Nat):Zh w G β (.pointer (some ⟨b,off+n,none⟩)) (.ptr (cs.drop n)):=by
 refine .ptr b (off+n) _ (λj=>val (n+j)) (λj i=>?_) (λj i=>?_) (λj i=>?_) (λj d k=>by rw[List.getElem?_drop] at k; exact g _ d k) (λj d k=>?_)
 ·simp at i; have:=e (n+j) (by omega); omega
 ·simp at i; have:=c (n+j) (by omega); rwa [Nat.add_assoc]
 ·simp at i; exact f _ (by omega)
 ·rw[List.getElem?_drop] at k; exact h _ d k
theorem Y1k {u:Value} {x:D} (o:Zh w G β u x) {s:TypeId} {f:Nat} {d:D} (h:Zlx P s x f=some d):W9 P w G β (Instr.fieldAt s u f) d:=by
 unfold Zlx Zil at h
 split at h
 ·rename_i off t g
  split at g
  ·rename_i fs p
   split at g
   ·rename_i y q
    cases g
    split at h
    ·rename_i n hsz
     have run:∀ ad:Addr,ad.spot=none→(Instr.fieldAt s (.pointer (some ad)) f).run P w=.ok (.pointer (some ⟨ad.block,ad.off+y.offset,none⟩)) w:=λad m=>by
      obtain⟨bb,oo,ss⟩:=ad
      cases m
      simp[Instr.fieldAt,run_underlying p,q,Instr.sureAddr,fieldPlace,Kd hsz,Addr.add_none]
     split at h
     ·cases h
      cases o with
      | ptr b off cs val i e j k l=>
       exact⟨_,run _ rfl,Zh.ptr_drop i e j k l _⟩
     ·cases h
      cases o with
      | lptr _ _ _ c sz r=>exact⟨_,run _ rfl,by simp only[Nat.add_assoc]; exact .lptr _ _ _ c sz r⟩
     ·cases h
    ·cases h
   ·cases g
  ·cases g
 ·cases h
theorem Y6w {α:Type} {l:List α} {i:Int} {x:α} (h:Z4 l i=some x):∃ n:Nat,i=n∧l[n]?=some x∧n<l.length:=by
 unfold Z4 at h
 split at h
 ·rename_i c
  refine⟨i.toNat,by omega,h,?_⟩
  rcases Nat.lt_or_ge i.toNat l.length with b|b
  ·exact b
  ·rw[List.getElem?_eq_none b] at h; cases h
 ·cases h
theorem Zr2 {t e:TypeId} {sz:Nat} (c:P.underlying t=some (.slice e)) (hs:Um P e=some sz) (b o len cap:Nat) (k:IntKind) (i:Int) (d:0≤i) (f:i<len):
  (Instr.indexAt t (.slice (some ⟨b,o,none⟩) len cap) (.int k i)).run P w=.ok (.pointer (some ⟨b,o+i.toNat*sz,none⟩)) w:=by
 simp[Instr.indexAt,asIntOf,run_underlying c,d,f,Kd hs,Addr.add_none]
theorem Zq3 {t e:TypeId} {n sz:Nat} (c:P.underlying t=some (.array n e)) (hs:Um P e=some sz) (b o:Nat) (k:IntKind) (i:Int) (d:0≤i) (f:i<n):
  (Instr.indexAt t (.pointer (some ⟨b,o,none⟩)) (.int k i)).run P w=.ok (.pointer (some ⟨b,o+i.toNat*sz,none⟩)) w:=by
 simp[Instr.indexAt,asIntOf,run_underlying c,d,f,Kd hs,Addr.add_none,Instr.sureAddr]
theorem Y3i (U : Zk Γ σ a w G β) {u v:Value} {x i:D} (K:Zh w G β u x) (V:Zh w G β v i) {t:TypeId} {ans:Ans} {d:D} {p:Prop}
  (h:Z0n P σ t x i ans=some (d,p)) (hp:p):W9 P w G β (Instr.indexAt t u v) d:=by
 unfold Z0n at h
 split at h
 ·rename_i k i
  rw[Ww V]
  split at h
  ·rename_i e E
   split at h
   ·rename_i sz hsz
    split at h
    ·rename_i c rows
     have key:∀ r,Z4 rows i=some r→r.length=sz→W9 P w G β (Instr.indexAt t u (.int k i)) (.ptr r):=λr L N=>by
      obtain⟨n,rfl,O,Q⟩:=Y6w L
      cases K with
      | slnil=>simp at Q
      | sl _ b off m cap sz' _ val X Y F H o f q s y=>
       have:sz'=sz:=by rw[← H n r O]; exact N
       subst this
       refine⟨_,Zr2 E hsz b off m cap k n (by omega) (by omega),?_⟩
       simp only[Int.toNat_natCast]
       refine .ptr b _ r (val n) (λj l=>?_) (λj l=>?_) (λj l=>?_) (λj d z=>s n j r d O z) (λj d z=>y n j r d O z)
       ·exact o n j (by omega) (by omega)
       ·exact f n j (by omega) (by omega)
       ·exact q n j (by omega) (by omega)
     split at h
     ·split at h
      ·cases h; exact key _ hp (by assumption)
      ·cases h
     ·split at h
      ·split at h
       ·cases h; exact key _ (by assumption) (by assumption)
       ·cases h
      ·cases h
    ·rename_i b lo n
     split at h
     ·rename_i blk I
      split at h
      ·rename_i R
       have key:0≤i→i<n→∀ j:Nat,(lo:Int)+i=j→W9 P w G β (Instr.indexAt t u (.int k i)) (.lptr b j 0):=λA M j l=>by
        cases K with
        | lslnil=>simp at M; omega
        | lsl _ _ _ cap c sz' off B F J T=>
         have C:sz'=sz:=by
          rcases U.heap b blk I with ⟨A,-⟩|⟨c',A,hB⟩
          ·rw[A] at B; cases B
          ·rw[A] at B; cases B; exact R
         subst C
         obtain rfl:off=lo*sz':=J.resolve_left (by omega)
         refine⟨_,Zr2 E hsz c _ n cap k i A M,?_⟩
         have:lo*sz'+i.toNat*sz'=j*sz'+0:=by
          rw[← Nat.add_mul]; congr 1; omega
         rw[this]
         exact .lptr b j 0 c sz' B
       split at h
       ·split at h
        ·cases h; rename_i W; subst W; exact key hp.1 hp.2.1 _ hp.2.2
        ·cases h
       ·cases h; exact key hp.1 hp.2 _ (by omega)
      ·cases h
     ·cases h
    ·cases h
   ·cases h
  ·rename_i len e E
   split at h
   ·rename_i sz hsz
    split at h
    ·cases h
     cases K with
     | lptr _ _ _ c sz' B=>exact⟨_,Zq3 E hsz _ _ k i hp.1 hp.2,by simp only[Nat.add_assoc]; exact .lptr _ _ _ c sz' B⟩
    ·rename_i cs
     cases K with
     | ptr b off _ val o f q s y=>
      split at h
      ·rename_i r
       cases h
       obtain⟨A,M,L⟩:=hp
       refine⟨_,Zq3 E hsz _ _ k i A M,?_⟩
       have g:∀ j,j<r.length→i.toNat*sz+j<cs.length∧r[j]?=cs[i.toNat*sz+j]? :=λj l=>by
        have N:=congrArg List.length L
        simp only[List.length_take,List.length_drop] at N
        refine⟨by omega,?_⟩
        conv=>lhs; rw[← L]
        rw[List.getElem?_take,if_pos l,List.getElem?_drop]
       refine .ptr b _ r (λj=>val (i.toNat*sz+j)) (λj l=>?_) (λj l=>?_) (λj l=>q _ (g j l).1) (λj d z=>?_) (λj d z=>?_)
       ·rw[Nat.add_assoc]; exact o _ (g j l).1
       ·rw[Nat.add_assoc]; exact f _ (g j l).1
       ·have l:=(List.getElem?_eq_some_iff.1 z).1
        exact s _ d ((g j l).2 ▸ z)
       ·have l:=(List.getElem?_eq_some_iff.1 z).1
        exact y _ d ((g j l).2 ▸ z)
      ·cases h
       exact⟨_,Zq3 E hsz _ _ k i hp.1 hp.2,Zh.ptr_drop o f q s y _⟩
    ·cases h
   ·cases h
  ·cases h
 ·cases h
theorem Zgy {t:TypeId} {vs:Array Value} {cs:List D} {off:Nat} (p:cs.length=vs.size) (e:∀ (j:Nat) v,vs[j]?=some v→one v=true)
  (c:∀ (j:Nat) v d,vs[j]?=some v→cs[j]?=some d→Zh w G β v d) {d:D} (h:Z0k P t cs off=some d):W9 P w G β (part t vs off) d:=by
 unfold Z0k at h
 split at h
 ·rename_i s i k
  split at h
  ·rename_i l
   cases h
   have hs:off+s≤vs.size∨s=0:=by simp at l; omega
   refine⟨.agg (vs.extract off (off+s)),by simp[part,Zb7 i,Kd k],?_⟩
   refine .agg _ _ (by rw[l]; simp; omega) (λj v b=>?_) (λj v d b m=>?_)
   ·rw[Array.getElem?_extract] at b
    split at b
    ·exact e _ v b
    ·cases b
   ·rw[Array.getElem?_extract] at b
    split at b
    ·rename_i o
     have f:j<s:=by omega
     rw[List.getElem?_take_of_lt f,List.getElem?_drop] at m
     exact c _ v d b m
    ·cases b
  ·cases h
 ·rename_i s i k
  have g:off<vs.size:=by
   rcases Nat.lt_or_ge off cs.length with n|n
   ·omega
   ·rw[List.getElem?_eq_none n] at h; cases h
  refine⟨vs[off],?_,c off _ d (Array.getElem?_eq_getElem g) h⟩
  simp[part,Zb7 i,Array.getElem?_eq_getElem g]
 ·cases h
theorem Zyl {f:TypeId→D→D→Option (Bool×Prop)} {n:Nat} (l:∀ t x y u v r p,f t x y=some (r,p)→p→Zh w G β u x→Zh w G β v y→(Op.equalIn n t u v).run P w=.ok r w)
  {us vs:Array Value} {xs ys:List D} (m:xs.length=us.size) (g:∀ (j:Nat) v,us[j]?=some v→one v=true) (i:∀ (j:Nat) v d,us[j]?=some v→xs[j]?=some d→Zh w G β v d)
  (k:ys.length=vs.size) (c:∀ (j:Nat) v,vs[j]?=some v→one v=true) (e:∀ (j:Nat) v d,vs[j]?=some v→ys[j]?=some d→Zh w G β v d):
  ∀ (fs:List Field) {r:Bool} {p:Prop},Zhf P f xs ys fs=some (r,p)→p→(Op.eqFields n us vs fs).run P w=.ok r w
 | [],r,p,h,_=>by cases h; simp[Op.eqFields]
 | x :: fs,r,p,h,hp=>by
  unfold Zhf at h
  split at h
  ·rename_i a b o q
   split at h
   ·rename_i s J K L z A
    cases h
    obtain⟨u,B,C⟩:=Zgy (P:=P) m g i o
    obtain⟨v,E,F⟩:=Zgy (P:=P) k c e q
    have H:=l _ _ _ _ _ _ _ z hp.2.1 C F
    have I:=Zyl l m g i k c e fs A hp.2.2
    simp only[Op.eqFields,if_pos hp.1,Sem.run_bind,B,E,H,Result.andThen_ok]
    cases s
    ·simp
    ·simpa using I
   ·cases h
  ·cases h
theorem Zo1 (d:Nat):∀ (m:Nat) {t:TypeId} {x y:D} {u v:Value} {r:Bool} {p:Prop},Zbd P m t x y=some (r,p)→p→Zh w G β u x→Zh w G β v y→(Op.equalIn (d+m) t u v).run P w=.ok r w
 | 0,_,_,_,_,_,_,_,h,_,_,_=>by cases h
 | m + 1,t,x,y,u,v,r,p,h,hp,f,g=>by
  unfold Zbd at h
  rw[show d+(m+1)=(d+m)+1 from rfl]
  split at h
  ·rename_i b; cases h; rw[Z0d f,Z0d g]; exact run_equalIn_bool' w _ _ _ _ b
  ·rename_i b
   split at h
   ·rename_i o
    cases h; subst o; rw[Ww f,Ww g]; exact run_equalIn_int w _ _ _ _ _ _ b
   ·cases h
  ·rename_i b
   cases h
   obtain⟨s,rfl,rfl⟩:=Z0v f
   obtain⟨A,rfl,rfl⟩:=Z0v g
   rw[run_equalIn_string w _ _ _ _ b,ByteArray.toList_eq,ByteArray.toList_eq]
  ·rename_i fs _ _ b
   split at h
   ·rename_i B C q
    cases h
    obtain⟨us,rfl,z,i,j⟩:=L2 f
    obtain⟨vs,rfl,l,c,e⟩:=L2 g
    have k:P.fieldsOf t=fs:=by simp[Program.fieldsOf,b]
    rw[run_equalIn_agg w _ _ _ _ (by rw[k]; exact b) hp.1,k]
    exact Zyl (n:=d+m) (λt x y u v r p h hp f g=>Zo1 d m h hp f g) z i j l c e _ q hp.2
   ·cases h
  ·cases h
theorem Zmc {v:Value} (h:Zh w G β v .nilptr):v=.pointer none:=by cases h; rfl
theorem Zm4 {op:BinOp} {xt:TypeId} {x y:Operand} {u v:Option Addr} {same:Bool} {d:D} {p:Prop} (h:ptrD P op xt same=some (d,p))
  (b:∀ te j,P.underlying xt=some (.pointer te)→P.info? te=some j→(∀ d:Nat,(Op.equalIn (d+1) xt (.pointer u) (.pointer v)).run P w=.ok same w)∧(∀ d:Nat,(Op.equalIn (d+1) xt (.pointer u) (.pointer v)).run P w=.ok same w)):
  W9 P w G β (do eqGuard op xt x y (.pointer u) (.pointer v); Go.binOp op xt (.pointer u) (.pointer v)) d:=by
 unfold ptrD at h
 split at h
 ·rename_i te c
  split at h
  ·rename_i j e
   have key:=(b te j c e).1 9999
   split at h
   ·cases h
    exact⟨.bool same,by rw[Sem.run_bind,Z31 (by intro cs h; cases h) (by intro h; cases h)]; simp only[binOp]; simp[Op.equal,Op.maxDepth,key],.bool _⟩
   ·cases h
    exact⟨.bool (!same),by rw[Sem.run_bind,Z31 (by intro cs h; cases h) (by intro h; cases h)]; simp only[binOp]; simp[Op.equal,Op.maxDepth,key],.bool _⟩
   ·cases h
  ·cases h
 ·cases h
theorem Y5c {op:BinOp} {xt:TypeId} {x y:Operand} {u v:Value} {dx dy:D} (B:Zh w G β u dx) (t:Zh w G β v dy) {ans:Ans} {d:D} {p:Prop}
  (h:binD P op xt dx dy ans=some (d,p)) (hp:p):W9 P w G β (do eqGuard op xt x y u v; Go.binOp op xt u v) d:=by
 unfold binD at h
 split at h
 ·rw[Ww B,Ww t]
  have key:∀ k n,(eqGuard op xt x y (.int k n) v).run P w=.ok () w:=λk n=>Z31 (by intro cs h; cases h) (by intro h; cases h)
  rw[Ww t] at key
  split at h
  ·obtain⟨r,l,C⟩:=Zyw h hp xt (P:=P) (w:=w) (G:=G) (β:=β)
   exact⟨r,by rw[Sem.run_bind,key]; exact l,C⟩
  ·obtain⟨r,l,C⟩:=Zyw h hp xt (P:=P) (w:=w) (G:=G) (β:=β)
   exact⟨r,by rw[Sem.run_bind,key]; exact l,C⟩
  ·split at h
   ·rename_i L
    subst L
    obtain⟨r,l,C⟩:=Y3f (by assumption) (by assumption) h hp xt (P:=P) (w:=w) (G:=G) (β:=β)
    exact⟨r,by rw[Sem.run_bind,key]; exact l,C⟩
   ·cases h
 ·obtain⟨s,rfl,rfl⟩:=Z0v B
  obtain⟨M,rfl,rfl⟩:=Z0v t
  obtain⟨r,l,C⟩:=Y64 h hp xt (P:=P) (w:=w) (G:=G) (β:=β)
  exact⟨r,by rw[Sem.run_bind,Z31 (by intro cs h; cases h) (by intro h; cases h)]; exact l,C⟩
 ·rw[Z0d B,Z0d t]
  split at h
  ·rename_i E
   split at h
   ·exact⟨_,by rw[Sem.run_bind,Z31 (by intro cs h; cases h) (by intro h; cases h)]; simp[run_eql_bool _ _ _ _ E],Mp h hp⟩
   ·exact⟨_,by rw[Sem.run_bind,Z31 (by intro cs h; cases h) (by intro h; cases h)]; simp[run_neq_bool _ _ _ _ E],Mp h hp⟩
   ·cases h
  ·cases h
 ·obtain⟨us,rfl,J,z,A⟩:=L2 B
  obtain⟨vs,rfl,H,f,g⟩:=L2 t
  split at h
  ·rename_i r q c l
   split at h
   ·cases h
    have e:=Zo1 9994 6 l hp.2.1 (.agg us _ J z A) (.agg vs _ H f g)
    exact⟨.bool r,by rw[Sem.run_bind,run_eqGuard_agg w _ _ _ _ _ _ hp.1,Result.andThen_ok,run_eql_struct,e]; rfl,by rw[hp.2.2]; exact .bool _⟩
   ·cases h
    have e:=Zo1 9994 6 l hp.2.1 (.agg us _ J z A) (.agg vs _ H f g)
    exact⟨.bool (!r),by rw[Sem.run_bind,run_eqGuard_agg w _ _ _ _ _ _ hp.1,Result.andThen_ok,run_neq_struct,e]; rfl,by rw[hp.2.2]; exact .bool _⟩
   ·cases h
  ·cases h
 ·obtain rfl:=Zmc B
  obtain rfl:=Zmc t
  exact Zm4 h (λte j m F=>⟨λd=>by simp[Op.equalIn,run_underlying m],λd=>by simp[Op.equalIn,run_underlying m]⟩)
 ·obtain rfl:=Zmc t
  cases B with
  | lptr b i o c sz K=>
   exact Zm4 h (λte j m F=>⟨λd=>by simp[Op.equalIn,run_underlying m],λd=>by simp[Op.equalIn,run_underlying m]⟩)
 ·rename_i b i o N O Q
  split at h
  ·rename_i E
   simp only[Bool.and_eq_true] at E
   obtain rfl:=Nat.eq_of_beq_eq_true E.1.1
   obtain rfl:=Nat.eq_of_beq_eq_true E.1.2
   obtain rfl:=Nat.eq_of_beq_eq_true E.2
   cases B with
   | lptr _ _ _ c sz K=>
    cases t with
    | lptr _ _ _ c' sz' I=>
     rw[K] at I; cases I
     have key:∀ te j,P.underlying xt=some (.pointer te)→P.info? te=some j→∀ d:Nat,(Op.equalIn (d+1) xt (.pointer (some ⟨c,i*sz+o,none⟩)) (.pointer (some ⟨c,i*sz+o,none⟩))).run P w=.ok true w:=λte j m F d=>by
      simp[Op.equalIn,run_underlying m,sizeOf,typeInfo,F,run_sameAddr_same]
     exact Zm4 h (λte j m F=>⟨key te j m F,key te j m F⟩)
  ·cases h
 ·cases h
theorem Y2r {u v:Value} {x i:D} (q:Zh w G β u x) (z:Zh w G β v i) {t:TypeId} {ans:Ans} {d:D} {p:Prop}
  (h:Zlo P t x i ans=some (d,p)) (hp:p):W9 P w G β (Instr.index t u v) d:=by
 unfold Zlo at h
 split at h
 ·rename_i k i
  rw[Ww z]
  split at h
  ·rename_i s m
   obtain⟨b,rfl,rfl⟩:=Z0v q
   have key:∀ c,Vx b.data.toList i=some c→W9 P w G β (Instr.index t (.string b) (.int k i)) (.int .u8 c):=λc l=>by
    unfold Vx at l
    split at l
    ·rename_i A
     obtain⟨y,n,rfl⟩:=Qf l
     refine⟨.int .u8 y.toNat,?_,.int _ _⟩
     have f:i.toNat<b.size:=by
      rcases Nat.lt_or_ge i.toNat b.data.toList.length with o|o
      ·exact o
      ·rw[List.getElem?_eq_none o] at n; cases n
     have e:b[i.toNat]?=some y:=by
      have:b[i.toNat]?=b.data[i.toNat]? :=by
       rw[getElem?_pos b i.toNat f,getElem?_pos b.data i.toNat f]; rfl
      rw[this]; simpa using n
     simp[Instr.index,asIntOf,run_underlying m,A,e]
    ·cases l
   split at h
   ·cases h; exact key _ hp
   ·split at h
    ·cases h; exact key _ (by assumption)
    ·cases h
  ·rename_i len e cs m
   obtain⟨vs,rfl,B,g,j⟩:=L2 q
   split at h
   ·rename_i sz hsz
    split at h
    ·rename_i d' C
     cases h
     obtain⟨r,E,F⟩:=Zgy B g j C
     exact⟨r,by simp[Instr.index,asIntOf,run_underlying m,hp.1,hp.2,Kd hsz,E],F⟩
    ·cases h
   ·cases h
  ·cases h
 ·cases h
theorem Zpz {α:Type} {l r:List α} {lo c:Int} (h:sub l lo c=some r):∃ a b:Nat,lo=a∧c=b∧a≤b∧b≤l.length∧r=(l.drop a).take (b - a):=by
 unfold sub at h
 split at h
 ·rename_i d
  cases h
  exact⟨lo.toNat,c.toNat,by omega,by omega,by omega,by omega,rfl⟩
 ·cases h
def BRel (x:Option Value) (n:Int) (dflt:Int):Prop:=(x=none∧n=dflt)∨∃ k,x=some (.int k n)
theorem M5 {x:Option Operand} (c:Zk Γ σ a w G β) {dflt n:Int} (h:Z04 (x.map σ.ev) dflt=some n):BRel (x.map a.eval) n dflt:=by
 cases x with
 | none=>cases h; exact .inl ⟨rfl,rfl⟩
 | some y=>
  simp only[Option.map_some,Z04] at h
  split at h
  ·rename_i b; cases b
  ·rename_i k i b
   cases h
   have b:=Option.some.inj b
   have:=Wc c y
   rw[b] at this
   exact .inr ⟨k,by simp[Ww this]⟩
  ·cases h
theorem Mv (x:Value) {k:IntKind} {n:Int} (b:x=.int k n) (y:Nat) (code:BoundsCode) (c:0≤n) (d:n≤y):(Instr.sliceBound x y code).run P w=.ok n.toNat w:=by
 subst b; simp[Instr.sliceBound,asIntOf,c,d]
theorem Zfl {isS:Bool} {len cap:Nat} {lo b:Option Value} {l h:Int} (i:BRel lo l 0) (j:BRel b h len) (d:0≤l) (m:l≤h) (f:h≤cap):
  (Instr.sliceBounds isS len cap lo b none).run P w=.ok (l.toNat,h.toNat,cap) w:=by
 have o:∀ y:Nat,h≤y→∀ code,(∃ k,b=some (.int k h))→(b=none→False)→∀ v,b=some v→(Instr.sliceBound v y code).run P w=.ok h.toNat w:=λy n code c _ v g=>by
  obtain⟨k,c⟩:=c
  rw[c] at g; cases g
  exact Mv _ rfl _ _ (by omega) n
 rcases i with ⟨rfl,rfl⟩|⟨kl,rfl⟩ <;> rcases j with ⟨rfl,rfl⟩|⟨kh,rfl⟩
 ·simp[Instr.sliceBounds]
 ·simp[Instr.sliceBounds,Mv (P:=P) (w:=w) _ rfl cap _ (by omega:(0:Int)≤h) f]
 ·simp[Instr.sliceBounds,Mv (P:=P) (w:=w) _ rfl len _ d m]
 ·have e:((h.toNat:Nat):Int)=h:=by omega
  simp[Instr.sliceBounds,Mv (P:=P) (w:=w) _ rfl cap _ (by omega:(0:Int)≤h) f,Mv (P:=P) (w:=w) _ rfl h.toNat _ d (by omega:l≤(h.toNat:Nat))]
theorem Y1n {len cap:Nat} {lo b:Option Value} {l h m:Int} {mx:Value} {km:IntKind} (d:mx=.int km m) (e:BRel lo l 0) {kh:IntKind} (f:b=some (.int kh h)) (g:0≤l) (i:l≤h) (j:h≤m) (c:m≤cap):
  (Instr.sliceBounds true len cap lo b (some mx)).run P w=.ok (l.toNat,h.toNat,m.toNat) w:=by
 subst d f
 rcases e with ⟨rfl,rfl⟩|⟨kl,rfl⟩
 ·simp[Instr.sliceBounds,Mv (P:=P) (w:=w) _ rfl cap _ (by omega:(0:Int)≤m) c,Mv (P:=P) (w:=w) _ rfl m.toNat _ (by omega:(0:Int)≤h) (by omega:h≤(m.toNat:Nat))]
 ·simp [Instr.sliceBounds,Mv (P:=P) (w:=w) _ rfl cap _ (by omega:(0:Int)≤m) c,Mv (P:=P) (w:=w) _ rfl m.toNat _ (by omega:(0:Int)≤h) (by omega:h≤(m.toNat:Nat)),
   Mv (P:=P) (w:=w) _ rfl h.toNat _ g (by omega:l≤(h.toNat:Nat))]
theorem Zsa {c c':Bool} {C:Value} {rows:List (List D)} (h:Zh w G β C (.sl c rows)) {a0:Option Addr} {n cap:Nat} (E:C=.slice a0 n cap) (l f m:Nat) (K:l≤f) (L:f≤n) (M:f≤m) (N:m≤cap)
  (H:c'=true→m=f) (size:Nat) (g:∀ r∈rows,r.length=size):
  Zh w G β (.slice (if m=l then a0 else a0.map (·.add (l*size))) (f - l) (m - l)) (.sl c' ((rows.drop l).take (f - l))):=by
 cases h with
 | slnil=>
  cases E
  rw[if_pos (show m=l by omega),show f - l=0 by omega,show m - l=0 by omega]
  simp
  exact .slnil c' _
 | sl _ b off O cap' sz _ val Q I F hsz o k p q s=>
  cases E
  have t:∀ i,i<n→sz=size:=λi A=>by
   have u:i<rows.length:=by omega
   rw[← hsz i rows[i] (List.getElem?_eq_getElem u)]
   exact g _ (List.getElem_mem u)
  have key:∀ ad:Nat,(f - l=0∨ad=off+l*sz)→Zh w G β (.slice (some ⟨b,ad,none⟩) (f - l) (m - l)) (.sl c' ((rows.drop l).take (f - l))):=λad v=>by
   refine .sl c' b ad (f - l) (m - l) sz _ (λi j=>val (l+i) j) (by simp; omega) (λx=>by have:=H x; omega) (by omega) (λi r e=>?_) (λi j A y=>?_) (λi j A y=>?_) (λi j A y=>?_) (λi j r d e B=>?_) (λi j r d e B=>?_)
   ·rw[List.getElem?_take] at e
    split at e
    ·rw[List.getElem?_drop] at e; exact hsz _ r e
    ·cases e
   ·rw[v.resolve_left (by omega)]
    have:=o (l+i) j (by omega) y
    rw[Nat.add_mul] at this; omega
   ·rw[v.resolve_left (by omega)]
    have:=k (l+i) j (by omega) y
    rw[← this,Nat.add_mul]; congr 2; omega
   ·exact p _ j (by omega) y
   ·rw[List.getElem?_take] at e
    split at e
    ·rw[List.getElem?_drop] at e; exact q _ j r d e B
    ·cases e
   ·rw[List.getElem?_take] at e
    split at e
    ·rw[List.getElem?_drop] at e; exact s _ j r d e B
    ·cases e
  by_cases z:m=l
  ·rw[if_pos z]
   exact key off (.inl (by omega))
  ·rw[if_neg z]
   simp only[Option.map_some,Addr.add_none]
   refine key _ ?_
   by_cases J:l<n
   ·rw[t l J]; exact .inr rfl
   ·exact .inl (by omega)
theorem Zjh {c:Bool} {f:Value} {rows:List (List D)} (h:Zh w G β f (.sl c rows)):∃ a0 cap,f=.slice a0 rows.length cap∧rows.length≤cap∧(c=true→cap=rows.length):=by
 cases h with
 | slnil _ x=>exact⟨x,0,rfl,Nat.le_refl _,λ_=>rfl⟩
 | sl _ b off n cap sz _ val g e d=>subst g; exact⟨_,cap,rfl,d,e⟩
theorem Y74 (j:Zk Γ σ a w G β) {u:Value} {x:D} (H:Zh w G β u x) {t:TypeId} {lo E mx:Option Operand} {ans:Ans} {d:D} {p:Prop}
  (h:Z0a P σ t x (lo.map σ.ev) (E.map σ.ev) (mx.map σ.ev) ans=some (d,p)) (hp:p):W9 P w G β (Instr.sliceAt t u (lo.map a.eval) (E.map a.eval) (mx.map a.eval)) d:=by
 unfold Z0a at h
 split at h
 ·rename_i s A
  obtain⟨b,rfl,rfl⟩:=Z0v H
  split at h
  ·rename_i l y f z g
   have i:mx=none:=by cases mx <;> simp at f ⊢
   subst i
   have key:∀ r,sub b.data.toList l y=some r→W9 P w G β (Instr.sliceAt t (.string b) (lo.map a.eval) (E.map a.eval) ((none:Option Operand).map a.eval)) (.str r):=λr I=>by
    obtain⟨l',B,rfl,rfl,J,K,rfl⟩:=Zpz I
    have V:b.data.toList.length=b.size:=rfl
    have:=Zfl (P:=P) (w:=w) (isS:=false) (len:=b.size) (cap:=b.size) (M5 j z) (M5 j g) (by omega) (by omega) (by omega)
    exact⟨.string (b.extract l' B),by simp[Instr.sliceAt,Instr.slice,run_underlying A,this],Z9u _ _ (Lib.extract_data b l' B)⟩
   split at h
   ·cases h; exact key _ hp
   ·split at h
    ·cases h; exact key _ (by assumption)
    ·cases h
  ·cases h
 ·rename_i e c rows A
  split at h
  ·rename_i sz hsz
   obtain⟨a0,cap,rfl,L,W⟩:=Zjh H
   split at h
   ·rename_i l y f z g
    have i:mx=none:=by cases mx <;> simp at f ⊢
    subst i
    have key:∀ r,(∀ x∈rows,x.length=sz)→sub rows l y=some r→W9 P w G β (Instr.sliceAt t (.slice a0 rows.length cap) (lo.map a.eval) (E.map a.eval) ((none:Option Operand).map a.eval)) (.sl false r):=λr q I=>by
     obtain⟨l',B,rfl,rfl,J,K,rfl⟩:=Zpz I
     have:=Zfl (P:=P) (w:=w) (isS:=true) (len:=rows.length) (cap:=cap) (M5 j z) (M5 j g) (by omega) (by omega) (by omega)
     refine⟨_,by simp[Instr.sliceAt,Instr.slice,run_underlying A,this,Kd hsz]; rfl,?_⟩
     have:=Zsa H rfl l' B cap J K (by omega) (by omega) (c':=false) (by intro h; cases h) sz q
     simpa using this
    split at h
    ·cases h; exact key _ hp.1 hp.2
    ·split at h
     ·cases h; exact key _ hp (by assumption)
     ·cases h
   ·rename_i m' l y f z g
    split at h
    ·rename_i ho X m Q Y
     cases mx with
     | none=>cases f
     | some mo=>
      simp only[Option.map_some,Option.some.injEq] at f
      subst f
      obtain ⟨km,R⟩:∃ km,a.eval mo=.int km m:=by
       have:=M5 (x:=some mo) j (dflt:=0) (by simpa using Y)
       rcases this with ⟨o,-⟩|⟨k,o⟩
       ·cases o
       ·exact⟨k,by simpa using o⟩
      have key:∀ r,(∀ x∈rows,x.length=sz)→m=y→sub rows l y=some r→W9 P w G β (Instr.sliceAt t (.slice a0 rows.length cap) (lo.map a.eval) (E.map a.eval) ((some mo:Option Operand).map a.eval)) (.sl true r):=λr q T I=>by
       subst T
       obtain⟨l',B,rfl,rfl,J,K,rfl⟩:=Zpz I
       rcases M5 j g with ⟨o,-⟩|⟨kh,o⟩
       ·cases E with
        | none=>cases Q
        | some _=>cases o
       ·have:=Y1n (P:=P) (w:=w) (len:=rows.length) (cap:=cap) R (M5 j z) o (by omega) (by omega) (by omega) (by omega)
        refine⟨_,by simp[Instr.sliceAt,Instr.slice,run_underlying A,this,Kd hsz]; rfl,?_⟩
        have:=Zsa H rfl l' B B J K (by omega) (by omega) (c':=true) (by intro h; rfl) sz q
        simpa using this
      split at h
      ·cases h; exact key _ hp.1 hp.2.1 hp.2.2
      ·split at h
       ·cases h; exact key _ hp.1 hp.2 (by assumption)
       ·cases h
    ·cases h
   ·cases h
  ·cases h
 ·rename_i e b l0 n A
  split at h
  ·rename_i blk sz M hsz
   split at h
   ·rename_i U
    split at h
    ·rename_i l y f z g
     have i:mx=none:=by cases mx <;> simp at f ⊢
     subst i
     cases h
     obtain⟨o,J,K⟩:=hp
     cases H with
     | lslnil _ ax=>
      have:=Zfl (P:=P) (w:=w) (isS:=true) (len:=0) (cap:=0) (M5 j z) (M5 j g) (by omega) (by omega) (by omega)
      have Z:l=0:=by omega
      have V:y=0:=by omega
      subst Z V
      exact⟨.slice ax 0 0,by simp[Instr.sliceAt,Instr.slice,run_underlying A,this,Kd hsz],.lslnil _ _⟩
     | lsl _ _ _ cap c sz' off F L N v=>
      have C:sz'=sz:=by
       rcases j.heap b blk M with ⟨o,-⟩|⟨c',o,hB⟩
       ·rw[o] at F; cases F
       ·rw[o] at F; cases F; exact U
      subst C
      have:=Zfl (P:=P) (w:=w) (isS:=true) (len:=n) (cap:=cap) (M5 j z) (M5 j g) (by omega) (by omega) (by omega)
      refine⟨_,by simp[Instr.sliceAt,Instr.slice,run_underlying A,this,Kd hsz]; rfl,?_⟩
      by_cases O:cap=l.toNat
      ·rw[if_pos O]
       exact .lsl b _ _ _ c sz' off F (by omega) (.inl (by omega)) (by obtain⟨vs,e,fr,a1,-⟩:=v; exact⟨vs,e,fr,a1,.inl (by omega)⟩)
      ·rw[if_neg O,Addr.add_none]
       refine .lsl b _ _ _ c sz' _ F (by omega) (.inr ?_) ?_
       ·rw[N.resolve_left (by omega),Nat.add_mul]
       ·obtain⟨vs,e,fr,a1,a2⟩:=v
        refine⟨vs,e,fr,a1,.inr ?_⟩
        rw[show l0+l.toNat+(cap - l.toNat)=l0+cap by omega]
        exact a2.resolve_left (by omega)
    ·cases h
   ·cases h
  ·cases h
 ·cases h
theorem Y72 {u:Value} {x:D} (j:Zh w G β u x) {t ty:TypeId} {args:Array Value} {ts:Array TypeId} (g:args[0]?=some u) (i:ts[0]?=some t) {ans:Ans} {d:D} {p:Prop}
  (h:lenD P t x ans=some (d,p)) (hp:p):W9 P w G β (Builtin.len_ ts ty args) d:=by
 unfold lenD at h
 split at h
 ·rename_i f
  obtain⟨b,rfl,rfl⟩:=Z0v j
  exact⟨_,by simp[Builtin.len_,g,i,run_underlying f,goInt],U8 h hp⟩
 ·rename_i e c rows f
  obtain⟨a0,cap,rfl,k,m⟩:=Zjh j
  exact⟨_,by simp[Builtin.len_,g,i,run_underlying f,goInt],U8 h hp⟩
 ·rename_i e b l n f
  have:∃ a0 cap,u=.slice a0 n cap:=by cases j <;> exact⟨_,_,rfl⟩
  obtain⟨a0,cap,rfl⟩:=this
  exact⟨_,by simp[Builtin.len_,g,i,run_underlying f,goInt],U8 h hp⟩
 ·rename_i n e f
  exact⟨_,by simp[Builtin.len_,g,i,run_underlying f,goInt],U8 h hp⟩
 ·cases h
theorem Y2m {s:Sem Value} {v:Value} (h:s.run P w=.ok v w):(do pure (Next.value (← s)):Sem Next).run P w=.ok (.value v) w:=by simp[h]
theorem Y0e:∀ {l:List D} {bs:List Nat},cloD l=some bs→bs.length=l.length∧∀ (j:Nat) b,bs[j]?=some b→l[j]?=some (.lptr b 0 0)
 | [],_,h=>by cases h; exact⟨rfl,λj b c=>by simp at c⟩
 | d :: r,bs,h=>by
  unfold cloD at h
  split at h
  ·cases ‹_::_=[]›
  ·rename_i k m e
   injection e with f g
   subst f g
   split at h
   ·rename_i l i
    cases h
    obtain⟨f,g⟩:=Y0e i
    refine⟨by simp[f],λj b c=>?_⟩
    cases j with
    | zero=>simp at c; subst c; rfl
    | succ j=>simp at c; simpa using g j b c
   ·cases h
  ·cases h
theorem Y3b (Q:Zk Γ σ a w G β) {o:Oper} {ans:Ans} {d:D} {p:Prop} (h:Q1 P σ o ans=some (d,p)) (hp:p):
  ∃ v,(execOp a.eval o).run P w=.ok (.value v) w∧Zh w G β v d:=by
 obtain⟨dst,op,ty,pos,after,guard⟩:=o
 have ev:=Wc Q
 have fin:∀ {s:Sem Value} {d},W9 P w G β s d→∃ v,(do pure (Next.value (← s)):Sem Next).run P w=.ok (.value v) w∧Zh w G β v d:=λ⟨v,z,B⟩=>⟨v,Y2m z,B⟩
 cases op with
 | move x=>cases h; exact⟨_,rfl,ev x⟩
 | assign x=>cases h; exact⟨_,rfl,ev x⟩
 | pick c x y=>
  obtain⟨v,z,B⟩:=Y38 (P:=P) (ev c) (ev x) (ev y) h hp
  refine⟨v,?_,B⟩
  simp only[execOp]
  simp only[Sem.run_bind,Sem.run_pure] at z ⊢
  revert z
  generalize (asBool (a.eval c)).run P w=r
  cases r with
  | ok q w'=>intro z; simp only[Result.andThen_ok,Result.ok.injEq] at z ⊢; exact⟨by rw[z.1],z.2⟩
  | halt e w'=>intro z; cases z
 | binOp op xt x y yt=>exact fin (Y5c (ev x) (ev y) h hp)
 | unOp op t x=>exact fin (Y4t (ev x) h hp)
 | convert s t x=>exact fin (Y3v (ev x) h hp)
 | load t x=>exact fin (Y05 Q (ev x) h hp)
 | fieldAddr s x f=>
  simp only[Q1] at h
  split at h
  ·cases h; exact fin (Y1k (ev x) (by assumption))
  ·cases h
 | field s x f=>
  simp only[Q1] at h
  split at h
  ·rename_i cs off t l E
   split at h
   ·rename_i d' F
    cases h
    have g:=ev x
    rw[l] at g
    obtain⟨vs,H,X,I,A⟩:=L2 g
    obtain⟨v,z,B⟩:=Zgy X I A F
    refine fin ⟨v,?_,B⟩
    unfold Zil at E
    split at E
    ·rename_i fs hu
     split at E
     ·rename_i y C
      cases E
      simp[Instr.field,run_underlying hu,C,H,asAgg,z]
     ·cases E
    ·cases E
   ·cases h
  ·cases h
 | indexAddr t x i=>exact fin (Y3i Q (ev x) (ev i) h hp)
 | index t x i=>exact fin (Y2r (ev x) (ev i) h hp)
 | slice t x lo hi mx=>exact fin (Y74 Q (ev x) h hp)
 | extract x i=>
  simp only[Q1] at h
  split at h
  ·rename_i vs l
   split at h
   ·rename_i d' F
    cases h
    have g:=ev x
    rw[l] at g
    generalize he:a.eval x=u at g
    cases g with
    | tup us ds X A=>
     have J:i<us.size:=by
      rcases Nat.lt_or_ge i vs.length with Y|Y
      ·omega
      ·rw[List.getElem?_eq_none Y] at F; cases F
     refine fin ⟨us[i],?_,A i _ _ (Array.getElem?_eq_getElem J) F⟩
     simp[Instr.extract,he,Array.getElem?_eq_getElem J]
   ·cases h
  ·cases h
 | nilCheck x=>
  simp only[Q1] at h
  split at h
  ·rename_i cs l
   cases h
   have g:=ev x
   rw[l] at g
   refine⟨a.eval x,?_,g⟩
   generalize he:a.eval x=u at g
   cases g with
   | ptr b off cs val=>simp[execOp,he]
  ·rename_i b i j l
   cases h
   have g:=ev x
   rw[l] at g
   refine⟨a.eval x,?_,g⟩
   generalize he:a.eval x=u at g
   cases g with
   | lptr=>simp[execOp,he]
  ·cases h
 | call c=>
  obtain⟨callee,args,ts⟩:=c
  cases callee with
  | builtin b=>
   cases b with
   | len=>
    simp only[Q1] at h
    split at h
    ·rename_i x t l ht
     have:=Y72 (P:=P) (ty:=ty) (args:=args.map a.eval) (ev x) (by simp[l]) ht h hp
     obtain⟨v,z,B⟩:=this
     exact⟨v,by simp[execOp,resolve,invoke,builtin,z],B⟩
    ·cases h
   | unsafeSliceData=>
    match args,h with
    | ⟨[x]⟩,h=>
     simp only[Q1] at h
     have l:=ev x
     split at h
     ·rename_i b n R
      cases h
      rw[R] at l
      generalize he:a.eval x=u at l
      cases l with
      | lslnil=>exact absurd hp (Nat.lt_irrefl 0)
      | lsl _ _ _ cap c sz off T Z K U=>
       have L:cap≠0:=by have:0<n:=hp; omega
       have ho:off=0*sz+0:=by rcases K with h|h; exact absurd h L; omega
       refine⟨.pointer (some ⟨c,off,none⟩),?_,ho ▸ .lptr b 0 0 c sz T⟩
       simp[execOp,resolve,invoke,builtin,he,Lib.run_unsafeSliceData_row w _ _ _ _ _ L]
     ·cases h
    | ⟨[]⟩,h=>cases h
    | ⟨_::_::_⟩,h=>cases h
   | max =>
    match args,h with
    | ⟨[x,y]⟩,h=>
     simp only[Q1] at h
     have l:=ev x
     have C:=ev y
     unfold maxD at h
     split at h
     ·rename_i k m k' n M N
      rw[M] at l
      rw[N] at C
      have ex:=Ww l
      have ey:=Ww C
      obtain⟨r,O⟩:∃ r,r=(if n>m then n else m):=⟨_,rfl⟩
      rw[← O] at h
      refine⟨.int k r,?_,?_⟩
      ·simp[execOp,resolve,invoke,builtin,Builtin.max_,ex,ey,Builtin.max2,O]
      ·exact(U8 h hp)
     ·cases h
    | ⟨[]⟩,h=>cases h
    | ⟨[_]⟩,h=>cases h
    | ⟨_::_::_::_⟩,h=>cases h
   | min =>
    match args,h with
    | ⟨[x,y]⟩,h=>
     simp only[Q1] at h
     have l:=ev x
     have C:=ev y
     unfold minD at h
     split at h
     ·rename_i k m k' n M N
      rw[M] at l
      rw[N] at C
      have ex:=Ww l
      have ey:=Ww C
      obtain⟨r,O⟩:∃ r,r=(if n<m then n else m):=⟨_,rfl⟩
      rw[← O] at h
      refine⟨.int k r,?_,?_⟩
      ·simp[execOp,resolve,invoke,builtin,Builtin.min_,ex,ey,Builtin.min2,O]
      ·exact(U8 h hp)
     ·cases h
    | ⟨[]⟩,h=>cases h
    | ⟨[_]⟩,h=>cases h
    | ⟨_::_::_::_⟩,h=>cases h
   | _=>cases h
  | _=>cases h
 | makeFunc f first captured=>
  simp only[Q1] at h
  split at h
  ·rename_i f' bs R
   cases h
   obtain⟨M,N⟩:=Y0e R
   refine⟨.func (.func f') #[] (captured.map a.eval),by simp[execOp,Instr.makeFunc],.clo f' _ bs (by simp[M]) λj v b H V=>?_⟩
   have e3:=N j b V
   rw[List.getElem?_map] at e3
   obtain⟨x,e4,e5⟩:=Qf e3
   have W:v=a.eval x:=by
    rw[Array.getElem?_map] at H
    rw[Array.getElem?_toList] at e4
    rw[e4] at H
    simpa using H.symm
   have l:=ev x
   rw[e5] at l
   rw[W]
   generalize a.eval x=u at l
   cases l with
   | lptr _ _ _ c sz T=>exact⟨c,sz,T,by simp⟩
  ·cases h
 | _=>cases h
end Go.Den
namespace Go.Den
open Go.RowKit
variable {P:Program} {Γ:Ctx} {σ:S} {a:Act} {w w':World} {G G':Nat→Nat} {β β':Nat→Option (Nat×Nat)}
theorem Jk (w:World) (b o:Nat):w.cell? ⟨b,o,none⟩=match w.heap[b]? with|some (.cells c _ _)=>c[o]?|_=>none:=by
 unfold World.cell?; split <;> simp_all
theorem Z0b {b:Nat} (h:w'.heap[b]?=w.heap[b]?) (o:Nat):w'.cell? ⟨b,o,none⟩=w.cell? ⟨b,o,none⟩:=by rw[Jk,Jk,h]
theorem Zeb {b:Nat} {x:Obj} (h:w.heap[b]?=some x):b<w.heap.size:=by
 rcases Nat.lt_or_ge b w.heap.size with c|c
 ·exact c
 ·simp[Array.getElem?_eq_none c] at h
theorem Ze2 (h:Below w.heap.size w w'):L7 w w':=λc vs e fr b=>⟨vs,fr,by rw[h.block c (Zeb b)]; exact b,rfl⟩
theorem Y4b (h:Below w.heap.size w w') (B:Nat) (X:Nat→Prop) (hB:B≤w.heap.size):Lb B X w w':=
 ⟨h.os,h.tape,h.output,h.size,λk b _=>h.block k (by omega),Ze2 h⟩
theorem Vq.mono {c:Nat} {blk:Blk} (h:Vq w G β Γ c blk) (g:∀ b o,o<G b→w'.cell? ⟨b,o,none⟩=w.cell? ⟨b,o,none⟩) (k:∀ b,G b≤G' b) (l:G' c=G c)
  (m:∀ b x,β b=some x→β' b=some x) (hs:L7 w w') (f:w'.heap[c]?=w.heap[c]?):Vq w' G' β' Γ c blk:=by
 obtain⟨own,pin,ty,frz,top,dat,hsz,vs,e,fr,n,p,q,s⟩:=h
 exact ⟨own,pin,λt u=>by rw[f]; exact ty t u,λo B=>frz o (by omega),top,dat,hsz,vs,e,fr,f.trans n,p,q,λi j r d y z=>by
  obtain⟨v,a1,a2,A⟩:=s i j r d y z
  exact⟨v,a1,a2,A.mono g k m hs⟩⟩
theorem Vq.lt {c:Nat} {blk:Blk} (h:Vq w G β Γ c blk):c<w.heap.size:=by
 obtain⟨vs,e,fr,b,-⟩:=h.cells
 exact Zeb b
theorem Zk.marksLt (h:Zk Γ σ a w G β) {b o:Nat} (d:o<G b):b<w.heap.size:=by
 rcases Nat.lt_or_ge b w.heap.size with c|c
 ·exact c
 ·have:=h.fresh b c; omega
theorem Zk.quiet (h:Zk Γ σ a w G β) (d:Below w.heap.size w w'):Zk Γ σ a w' G β:=by
 have e:∀ b o,o<G b→w'.cell? ⟨b,o,none⟩=w.cell? ⟨b,o,none⟩:=λb o i=>Z0b (d.block b (h.marksLt i)) o
 refine⟨h.defers,h.size,λt=>(h.tmps t).mono e (λ_=>Nat.le_refl _) (λ_ _ h=>h) (Ze2 d),λb blk f=>?_,h.dom,h.inj,h.kept.trans (Y4b d _ _ h.big),h.marks,λc e=>h.fresh c (Nat.le_trans d.size e),Nat.le_trans h.big d.size,h.glob.mono e (λ_=>Nat.le_refl _)⟩
 rcases h.heap b blk f with g|⟨c,g,hB⟩
 ·exact .inl g
 ·exact .inr ⟨c,g,hB.mono e (λ_=>Nat.le_refl _) rfl (λ_ _ h=>h) (Ze2 d) (d.block c hB.lt)⟩
def upd (β:Nat→Option (Nat×Nat)) (b:Nat) (x:Option (Nat×Nat)):Nat→Option (Nat×Nat):=λu=>if u=b then x else β u
theorem Zk.name (h:Zk Γ σ a w G β) {b c:Nat} {blk:Blk} (o:σ.heap b=none) (m:∀ p s,β p≠some (c,s)) (hB:Vq w G β Γ c blk):Zk Γ (σ.setB b (some blk)) a w G (upd β b (some (c,blk.sz))):=by
 have i:β b=none:=by
  cases q:β b with
  | none=>rfl
  | some x=>obtain⟨k,n⟩:=h.dom b x q; rw[o] at n; cases n
 have g:∀ u x,β u=some x→upd β b (some (c,blk.sz)) u=some x:=λu x d=>by
  unfold upd
  split
  ·subst_vars; rw[i] at d; cases d
  ·exact d
 refine⟨h.defers,h.size,λt=>(h.tmps t).mono (λ_ _ _=>rfl) (λ_=>Nat.le_refl _) g (.refl w),λu k d=>?_,λu x d=>?_,λu r c' s v d f=>?_,h.kept,h.marks,h.fresh,h.big,h.glob⟩
 ·simp only[S.setB] at d
  split at d
  ·cases d; rename_i e; subst e
   exact .inr ⟨c,by simp[upd],hB.mono (λ_ _ _=>rfl) (λ_=>Nat.le_refl _) rfl g (.refl w) rfl⟩
  ·rename_i e
   rcases h.heap u k d with ⟨j,y⟩|⟨c',j,l⟩
   ·exact .inl ⟨by simp[upd,e,j],y⟩
   ·exact .inr ⟨c',g _ _ j,l.mono (λ_ _ _=>rfl) (λ_=>Nat.le_refl _) rfl g (.refl w) rfl⟩
 ·simp only[S.setB]
  unfold upd at d
  split at d
  ·rename_i e; simp[e]
  ·rename_i e; simp[e]; exact h.dom u x d
 ·unfold upd at d f
  split at d <;> split at f
  ·subst_vars; rfl
  ·cases d; exact absurd f (m _ _)
  ·cases f; exact absurd d (m _ _)
  ·exact h.inj u r c' s v d f
theorem Zk.nameNil (h:Zk Γ σ a w G β) {b:Nat} {blk:Blk} (g:σ.heap b=none) (i:blk.rows=[]∧blk.frz=0):Zk Γ (σ.setB b (some blk)) a w G β:=by
 have d:β b=none:=by
  cases j:β b with
  | none=>rfl
  | some x=>obtain⟨k,f⟩:=h.dom b x j; rw[g] at f; cases f
 refine⟨h.defers,h.size,h.tmps,λu k c=>?_,λu x c=>?_,h.inj,h.kept,h.marks,h.fresh,h.big,h.glob⟩
 ·simp only[S.setB] at c
  split at c
  ·cases c; rename_i e; subst e; exact .inl ⟨d,i⟩
  ·exact h.heap u k c
 ·simp only[S.setB]
  split
  ·exact⟨_,rfl⟩
  ·exact h.dom u x c
def D.killA (b:Nat):D→D
 | .lptr c i o=>if c=b then .undef else .lptr c i o
 | .lsl c lo n=>if c=b then .undef else .lsl c lo n
 | .clo f bs=>match bs.any λx=>Nat.beq x b with
  | true=> .undef
  | false=> .clo f bs
 | .lsk f c lo n=>if c=b then .undef else .lsk f c lo n
 | d=>d
def D.killB (b:Nat):D→D
 | .agg cs=> .agg (cs.map (D.killA b))
 | .tup _=> .undef
 | d=>d.killA b
def D.kill (b:Nat):D→D
 | .tup vs=> .tup (vs.map (D.killB b))
 | d=>d.killB b
def Blk.kill (b:Nat) (k:Blk):Blk:=if k.pure then k else { k with rows:=k.rows.map (·.map (D.killA b)) }
def S.drop (σ:S) (b:Nat):S:={ σ with tmps:=λt=>(σ.tmps t).kill b,heap:=λu=>if u=b then none else (σ.heap u).map (Blk.kill b) }
theorem Zh.killA {v:Value} {d:D} (h:Zh w G β v d) (b:Nat) (F:∀ cs,d≠ .agg cs) (H:∀ cs,d≠ .tup cs):Zh w G (upd β b none) v (d.killA b):=by
 cases h with
 | undef v=>exact .undef v
 | lptr g i o c sz C=>
  simp only[D.killA]
  split
  ·exact .undef _
  ·rename_i z; exact .lptr g i o c sz (by simp[upd,z,C])
 | lslnil g x=>
  simp only[D.killA]
  split
  ·exact .undef _
  ·exact .lslnil g x
 | lsl g lo n cap c sz off C l r p=>
  simp only[D.killA]
  split
  ·exact .undef _
  ·rename_i z; exact .lsl g lo n cap c sz off (by simp[upd,z,C]) l r p
 | clo f vs bs I m=>
  simp only[D.killA]
  split
  ·exact .undef _
  ·rename_i z
   refine .clo f vs bs I λj v g K E=>?_
   obtain⟨c,sz,L,M⟩:=m j v g K E
   refine⟨c,sz,?_,M⟩
   have:g≠b:=λe=>by
    have:=List.any_eq_false.1 z g (List.mem_of_getElem? E)
    exact this (by rw[e]; exact Nat.beq_refl b)
   simp[upd,this,L]
 | lskn g x=>
  simp only[D.killA]
  split
  ·exact .undef _
  ·exact .lskn g x
 | lsk full g lo n cap c sz off C l A B r p=>
  simp only[D.killA]
  split
  ·exact .undef _
  ·rename_i z; exact .lsk full g lo n cap c sz off (by simp[upd,z,C]) l A B r p
 | agg vs cs=>exact absurd rfl (F cs)
 | tup vs ds=>exact absurd rfl (H ds)
 | bool x=>exact .bool x
 | int k n=>exact .int k n
 | str s=>exact .str s
 | slnil c x=>exact .slnil c x
 | sl c g off n cap sz rows val I J l hsz t q u y m=>exact(Zh.sl c g off n cap sz rows val I J l hsz t q u y m).of_dat (λ_ _ _=>rfl) (λ_=>Nat.le_refl _) rfl
 | ptr g off cs val t q u y m=>exact(Zh.ptr g off cs val t q u y m).of_dat (λ_ _ _=>rfl) (λ_=>Nat.le_refl _) rfl
 | nilptr=>exact .nilptr
 | fn f=>exact .fn f
 | raw v h=>exact .raw v h
theorem Zh.killE {v:Value} {d:D} (h:Zh w G β v d) (c:one v=true) (b:Nat):Zh w G (upd β b none) v (d.killA b):=by
 by_cases f:d=.undef
 ·subst f; exact .undef v
 ·refine h.killA b (λcs e=>?_) (λcs e=>?_)
  ·subst e; cases h; simp[one] at c
  ·subst e; cases h; simp[one] at c
theorem Zh.killB {v:Value} {d:D} (h:Zh w G β v d) (b:Nat):Zh w G (upd β b none) v (d.killB b):=by
 by_cases g:∃ cs,d=.agg cs
 ·obtain⟨cs,rfl⟩:=g
  obtain⟨vs,rfl,n,c,f⟩:=L2 h
  refine .agg vs _ (by simpa using n) c (λj v d l m=>?_)
  rw[List.getElem?_map] at m
  obtain⟨d',i,rfl⟩:=Qf m
  exact(f j v d' l i).killE (c j v l) b
 ·by_cases k:∃ cs,d=.tup cs
  ·obtain⟨cs,rfl⟩:=k
   exact .undef v
  ·have:=h.killA b (λcs e=>g ⟨cs,e⟩) (λcs e=>k ⟨cs,e⟩)
   cases d <;> first|exact this|exact absurd ⟨_,rfl⟩ g|exact absurd ⟨_,rfl⟩ k
theorem Zh.kill {v:Value} {d:D} (h:Zh w G β v d) (b:Nat):Zh w G (upd β b none) v (d.kill b):=by
 cases d with
 | tup ds=>
  cases h with
  | tup vs _ g c=>
   refine .tup vs _ (by simpa using g) (λj v d i f=>?_)
   rw[List.getElem?_map] at f
   obtain⟨d',e,rfl⟩:=Qf f
   exact(c j v d' i e).killB b
 | _=>exact h.killB b
theorem Zk.drop (h:Zk Γ σ a w G β) (b:Nat):Zk Γ (σ.drop b) a w G (upd β b none):=by
 refine⟨h.defers,h.size,λt=>(h.tmps t).kill b,λu k f=>?_,λu x f=>?_,λu J c s K f g=>?_,h.kept,h.marks,h.fresh,h.big,h.glob⟩
 ·simp only[S.drop] at f
  split at f
  ·cases f
  ·rename_i l
   obtain⟨y,z,rfl⟩:=Qf f
   have hsz:(Blk.kill b y).sz=y.sz:=by unfold Blk.kill; split <;> rfl
   rcases h.heap u y z with ⟨A,p⟩|⟨c,A,hB⟩
   ·refine .inl ⟨by simp[upd,l,A],?_⟩
    unfold Blk.kill; split
    ·exact p
    ·simp[p.1,p.2]
   ·refine .inr ⟨c,by simp[upd,l,A,hsz],?_⟩
    obtain⟨own,pin,ty,frz,top,dat,m,vs,e,fr,p,F,H,I⟩:=hB
    unfold Blk.kill
    split
    ·rename_i hp
     exact ⟨own,pin,ty,frz,top,dat,m,vs,e,fr,p,F,H,λi j r d n q=>by
      obtain⟨v,a1,a2,B⟩:=I i j r d n q
      exact⟨v,a1,a2,B.of_dat (λ_ _ _=>rfl) (λ_=>Nat.le_refl _) (dat hp i j r d n q)⟩⟩
    ·rename_i hp
     refine⟨own,pin,ty,frz,by simpa using top,λC=>absurd C hp,λi r n=>?_,vs,e,fr,p,F,by simpa using H,λi j r d n q=>?_⟩
     ·simp only[List.getElem?_map] at n
      obtain⟨D,o,rfl⟩:=Qf n
      simpa using m i D o
     ·simp only[List.getElem?_map] at n
      obtain⟨D,o,rfl⟩:=Qf n
      rw[List.getElem?_map] at q
      obtain⟨d',E,rfl⟩:=Qf q
      obtain⟨v,a1,a2,B⟩:=I i j D d' o E
      exact⟨v,a1,a2,B.killE a2 b⟩
 ·simp only[S.drop]
  unfold upd at f
  split at f
  ·cases f
  ·rename_i l
   obtain⟨k,L⟩:=h.dom u x f
   exact⟨_,by rw[if_neg l,L]; rfl⟩
 ·unfold upd at f g
  split at f
  ·cases f
  ·split at g
   ·cases g
   ·exact h.inj u J c s K f g
structure K9 (Γ:Ctx) (G:Nat→Nat) (c:Nat) (w w':World):Prop where
 os:w'.os=w.os
 tape:w'.tape=w.tape
 output:w'.output=w.output
 size:w'.heap.size=w.heap.size
 other:∀ k,k≠c→w'.heap[k]?=w.heap[k]?
 own:Γ.B≤c∨Γ.X c
 at_:∃ vs e fr vs',w.heap[c]?=some (.cells vs e fr)∧w'.heap[c]?=some (.cells vs' e fr)∧vs'.size=vs.size∧∀ o,o<G c→vs'[o]?=vs[o]?
theorem K9.cells {c:Nat} (h:K9 Γ G c w w'):∀ b o,o<G b→w'.cell? ⟨b,o,none⟩=w.cell? ⟨b,o,none⟩:=λb o f=>by
 by_cases d:b=c
 ·subst d
  obtain⟨vs,e,fr,vs',g,i,k,j⟩:=h.at_
  rw[Jk,Jk,g,i]
  exact j o f
 ·exact Z0b (h.other b d) o
theorem K9.same {c:Nat} (h:K9 Γ G c w w'):L7 w w':=λk vs e fr b=>by
 by_cases d:k=c
 ·subst d
  obtain⟨vs1,j,fr1,vs',f,g,i,l⟩:=h.at_
  rw[f] at b; cases b
  exact⟨vs',_,g,i⟩
 ·exact⟨vs,fr,by rw[h.other k d]; exact b,rfl⟩
theorem K9.kept {c:Nat} (h:K9 Γ G c w w'):Lb Γ.B Γ.X w w':=⟨h.os,h.tape,h.output,by rw[h.size]; exact Nat.le_refl _,λk d b=>h.other k (λe=>by subst e; exact h.own.elim (λf=>by omega) b),h.same⟩
theorem Zk.scratch (h:Zk Γ σ a w G β) {c:Nat} (g:∀ i s,β i≠some (c,s)) (hw:K9 Γ G c w w'):Zk Γ σ a w' G β:=by
 refine⟨h.defers,h.size,λt=>(h.tmps t).mono hw.cells (λ_=>Nat.le_refl _) (λ_ _ h=>h) hw.same,λb blk d=>?_,h.dom,h.inj,h.kept.trans hw.kept,h.marks,λk j=>h.fresh k (by rw[← hw.size]; exact j),by rw[hw.size]; exact h.big,h.glob.mono hw.cells (λ_=>Nat.le_refl _)⟩
 rcases h.heap b blk d with f|⟨k,f,hB⟩
 ·exact .inl f
 ·exact .inr ⟨k,f,hB.mono hw.cells (λ_=>Nat.le_refl _) rfl (λ_ _ h=>h) hw.same (hw.other k (λe=>g b blk.sz (e ▸ f)))⟩
theorem Zk.write (h:Zk Γ σ a w G β) {b c:Nat} {blk blk':Blk} (n:σ.heap b=some blk) (j:β b=some (c,blk.sz)) (hw:K9 Γ G c w w') (hsz:blk'.sz=blk.sz) (i:Vq w' G β Γ c blk'):
  Zk Γ (σ.setB b (some blk')) a w' G β:=by
 refine⟨h.defers,h.size,λt=>(h.tmps t).mono hw.cells (λ_=>Nat.le_refl _) (λ_ _ h=>h) hw.same,λu k f=>?_,λu x f=>?_,h.inj,h.kept.trans hw.kept,h.marks,λk m=>h.fresh k (by rw[← hw.size]; exact m),by rw[hw.size]; exact h.big,h.glob.mono hw.cells (λ_=>Nat.le_refl _)⟩
 ·simp only[S.setB] at f
  split at f
  ·cases f; rename_i d; subst d
   exact .inr ⟨c,by rw[hsz]; exact j,i⟩
  ·rename_i d
   rcases h.heap u k f with g|⟨l,g,hB⟩
   ·exact .inl g
   ·exact .inr ⟨l,g,hB.mono hw.cells (λ_=>Nat.le_refl _) rfl (λ_ _ h=>h) hw.same (hw.other l (λe=>d (h.inj u b c k.sz blk.sz (e ▸ g) j)))⟩
 ·simp only[S.setB]
  split
  ·exact⟨_,rfl⟩
  ·exact h.dom u x f
def Blk.freeze (k:Blk):Blk:={ k with frz:=k.rows.length }
def S.freeze (σ:S) (b:Nat):S:={ σ with heap:=λu=>if u=b then (σ.heap u).map Blk.freeze else σ.heap u }
theorem Zk.freeze (h:Zk Γ σ a w G β) (b:Nat):∃ G',Zk Γ (σ.freeze b) a w G' β∧(∀ k,G k≤G' k)∧
  ∀ blk c,σ.heap b=some blk→β b=some (c,blk.sz)→blk.rows.length*blk.sz≤G' c:=by
 cases s:σ.heap b with
 | none=>
  refine⟨G,⟨h.defers,h.size,h.tmps,λu k f=>?_,λu x f=>?_,h.inj,h.kept,h.marks,h.fresh,h.big,h.glob⟩,λ_=>Nat.le_refl _,λblk c g=>by cases g⟩
  ·simp only[S.freeze] at f
   split at f
   ·subst_vars; rw[s] at f; cases f
   ·exact h.heap u k f
  ·obtain⟨k,l⟩:=h.dom u x f
   simp only[S.freeze]
   split
   ·subst_vars; rw[s] at l; cases l
   ·exact⟨k,l⟩
 | some blk=>
  rcases h.heap b blk s with ⟨q,y⟩|⟨c,q,hB⟩
  ·refine⟨G,⟨h.defers,h.size,h.tmps,λu k f=>?_,λu x f=>?_,h.inj,h.kept,h.marks,h.fresh,h.big,h.glob⟩,λ_=>Nat.le_refl _,λblk' c g z=>by rw[q] at z; cases z⟩
   ·simp only[S.freeze] at f
    split at f
    ·rename_i m; subst m; rw[s] at f; cases f; exact .inl ⟨q,y.1,by simp[Blk.freeze,y.1]⟩
    ·exact h.heap u k f
   ·obtain⟨k,l⟩:=h.dom u x f
    simp only[S.freeze]
    split
    ·exact⟨_,by rw[l]; rfl⟩
    ·exact⟨k,l⟩
  ·have n:∀ k,G k≤(if k=c then max (G c) (blk.rows.length*blk.sz) else G k):=λk=>by
    split
    ·subst_vars; exact Nat.le_max_left _ _
    ·exact Nat.le_refl _
   refine⟨λk=>if k=c then max (G c) (blk.rows.length*blk.sz) else G k,⟨h.defers,h.size,λt=>(h.tmps t).mono (λ_ _ _=>rfl) n (λ_ _ h=>h) (.refl w),λu k f=>?_,λu x f=>?_,h.inj,h.kept,λk l C=>?_,λk l=>?_,h.big,h.glob.mono (λ_ _ _=>rfl) n⟩,n,λblk' c' g z=>?_⟩
   ·simp only[S.freeze] at f
    split at f
    ·rename_i m; subst m; rw[s] at f; cases f
     refine .inr ⟨c,q,?_⟩
     obtain⟨own,pin,ty,frz,top,dat,A,vs,e,fr,y,F,H,I⟩:=hB
     refine⟨own,pin,ty,λo J=>?_,Nat.le_refl _,dat,A,vs,e,fr,y,F,H,λi j r d K L=>?_⟩
     ·simp only[if_true] at J
      show o<blk.rows.length*blk.sz
      rcases Nat.lt_or_ge o (blk.rows.length*blk.sz) with D|D
      ·exact D
      ·have:=frz o (by omega)
       have:=Nat.mul_le_mul_right blk.sz top
       omega
     ·obtain⟨v,a1,a2,M⟩:=I i j r d K L
      exact⟨v,a1,a2,M.mono (λ_ _ _=>rfl) n (λ_ _ h=>h) (.refl w)⟩
    ·rename_i m
     rcases h.heap u k f with p|⟨E,p,B⟩
     ·exact .inl p
     ·refine .inr ⟨E,p,B.mono (λ_ _ _=>rfl) n ?_ (λ_ _ h=>h) (.refl w) rfl⟩
      have:E≠c:=λe=>m (h.inj u b c k.sz blk.sz (e ▸ p) q)
      simp[this]
   ·obtain⟨k,l⟩:=h.dom u x f
    simp only[S.freeze]
    split
    ·exact⟨_,by rw[l]; rfl⟩
    ·exact⟨k,l⟩
   ·have:k≠c:=λe=>by subst e; exact hB.own.elim (λy=>by omega) C
    simp[this,h.marks k l C]
   ·have:k≠c:=λe=>by subst e; have:=hB.lt; omega
    simp[this,h.fresh k l]
   ·cases g; rw[q] at z; cases z
    simp; omega
end Go.Den
namespace Go.Den
open Go.RowKit
structure IO where
 names:List Nat
 fresh:List (Nat×Nat):=[]
 nils:List (Nat×Nat):=[]
 bs:List Blk
 bs':List Blk
 /-- what is known to have no room stays known so -/
 kp:Bool:=false
structure X8 where
 ans:Ans:= .go
 /-- the arguments of a call as data; the rows of a block behind a write -/
 args:List D:=[]
 rows:Option (List (List D)):=none
 row:Option (List D):=none
 io:Option IO:=none
 /-- a box that is never written; a variable whose type is kept in mind -/
 ro:Bool:=false
 /-- a slice literal whose type is kept in mind -/
 mt:Bool:=false
def L5 (P:Program) (f:FuncId):Bool:=
 match P.funcs[f]? with
 | some fn => !(fn.name == "runtime.NumGoroutine") && fn.body.isSome
 | none=>false
structure M7 (w:World) (G:Nat→Nat) (vs:Array Value) (ds:List D):Prop where
 size:ds.length=vs.size
 rep:∀ (j:Nat) v d,vs[j]?=some v→ds[j]?=some d→Zh w G (λ_=>none) v d
def Zi (P:Program) (f:FuncId) (ds:List D) (r:D):Prop:=
 L5 P f=true∧∀ (w:World) (G:Nat→Nat) (vs:Array Value),(∀ c,w.heap.size≤c→G c=0)→Z0y w G→M7 w G vs ds→
  Calls P f vs w λe w'=>∃ v G',e=.returned v∧Below w.heap.size w w'∧(∀ c,c<w.heap.size→G' c=G c)∧(∀ c,w'.heap.size≤c→G' c=0)∧Zh w' G' (λ_=>none) v r
def ExtSpec (P:Program) (f:FuncId) (ds:List D) (r:D):Prop:=
 ∀ (w:World) (G:Nat→Nat) (vs:Array Value),M7 w G vs ds→∃ v,(callFunc f vs).run P w=.ok (.value v) w∧Zh w G (λ_=>none) v r
def Z5v (P:Program) (f:FuncId) (ds:List D) (r:D):Prop:=Zi P f ds r∨ExtSpec P f ds r
def Wy (σ:S):D→Option (D×List Nat×Prop)
 | .lsl b lo n=>
  match σ.heap b with
  | some blk=>match blk.pure with
   | true=>some (.sl false ((blk.rows.drop lo).take n),[b],lo+n≤blk.rows.length)
   | false=>none
  | none=>none
 | .lptr b i o=>
  match σ.heap b with
  | some blk=>
   match blk.rows[i]? with
   | some r=>match r.all D.dat with
    | true=>some (.ptr (r.drop o),[b],True)
    | false=>none
   | none=>none
  | none=>none
 | .sl _ rows=>some (.sl false rows,[],True)
 | d=>match d.dat with
  | true=>some (d,[],True)
  | false=>none
def Lz (σ:S):List D→Option (List D×List Nat×Prop)
 | [] =>some ([],[],True)
 | d::r=>
  match Wy σ d,Lz σ r with
  | some (d',l,p),some (a,l',b)=>some (d'::a,l++l',p∧b)
  | _,_=>none
def Lf (σ:S) (d:D):Option (D×List Nat×Prop):=
 match d with
 | .agg cs=>
  match Lz σ cs with
  | some (cs',l,p)=>some (.agg cs',l,p)
  | none=>none
 | d=>Wy σ d
def W3 (σ:S):List D→Option (List D×List Nat×Prop)
 | [] =>some ([],[],True)
 | d::r=>
  match Lf σ d,W3 σ r with
  | some (d',l,p),some (a,l',b)=>some (d'::a,l++l',p∧b)
  | _,_=>none
def S.freezeL (σ:S) (l:List Nat):S:=l.foldl S.freeze σ
def Kb (P:Program) (t:TypeId):Option (List D):=
 match P.info? t with
 | some i=>
  match i.zero with
  | some v=>match v.cells.toList.all one with
   | true=>some (v.cells.toList.map Z1p)
   | false=>none
  | none=>none
 | none=>none
def Zoi:D→D
 | .sl _ rows=> .sl false rows
 | d=>d
def Z9y (P:Program) (t:TypeId):Option (List D):=match Kb P t with
 | some z=>some (z.map Zoi)
 | none=>none
def cellsOf:D→Option (List D)
 | .agg cs=>some cs
 | .tup _=>none
 | .undef=>none
 | d=>some [d]
def Qu (cells:List D) (off:Nat) (dc:List D):List D:=cells.take off++dc++cells.drop (off+dc.length)
def Z02 (place:Nat→Option (Nat×Nat)) (cells:List D):List (Nat×D)→Option (List D)
 | [] =>some cells
 | (i,d)::V0=>
  match place i,cellsOf d with
  | some (off,size),some dc=>match dc.length==size&&Nat.ble (off+dc.length) cells.length with
   | true=>Z02 place (Qu cells off dc) V0
   | false=>none
  | _,_=>none
def Zhc (P:Program) (t:TypeId):Option (Nat→Option (Nat×Nat)):=
 match P.underlying t with
 | some (.struct fs)=>
  match fs.toList.mapM (λf=>(P.info? f.type).map λi=>(f.offset,i.size)) with
  | some places=>some λi=>places[i]?
  | none=>none
 | some (.array _ e)=>
  match P.info? e with
  | some ie=>some λi=>some (i*ie.size,ie.size)
  | none=>none
 | _=>none
def Ld (sz:Nat):Nat→List D→List (List D)
 | 0,_=>[]
 | n+1,cs=>cs.take sz::Ld sz n (cs.drop sz)
def Xx (σ:S) (o:Oper):Bool:=match o.dst with|some t=>Nat.blt t σ.n|none=>true
def Lg (σ:S):D→Option (List (List D)×Prop)
 | .sl _ rows=>some (rows,True)
 | .lsl b lo n=>
  match σ.heap b with
  | some blk=>match blk.pure with
   | true=>some ((blk.rows.drop lo).take n,lo+n≤blk.rows.length)
   | false=>none
  | none=>none
 | _=>none
def Z1o (P:Program) (σ:S) (t a:TypeId) (x:D):Option (List (List D)×Prop):=
 match x with
 | .str s=>match P.underlying a with
  | some .string=>some (s.map λb=>[.int .u8 b.toNat],True)
  | _=>none
 | x=>match t==a with
  | true=>Lg σ x
  | false=>none
def Ma:List (List D)→Option (List UInt8)
 | [] =>some []
 | [.int .u8 n]::r=>
  match Ma r with
  | some s=>some (UInt8.ofNat n.toNat::s)
  | none=>none
 | _=>none
def tyIs (k:Blk) (e:TypeId):Bool:=match k.ty with
 | some t=>Nat.beq t e
 | none=>false
def Z6e (P:Program) (σ:S) (src dst:TypeId) (b:Nat):Bool:=
 match σ.heap b with
 | some k=>match k.ty with
  | some e=>match P.underlying src,P.underlying dst with
   | some (.pointer t),some .unsafePointer=>match P.info? t with
    | some j=>!Nat.beq j.size 0&&Nat.blt 0 (k.rows.length*k.sz)
    | none=>false
   | some .unsafePointer,some (.pointer u)=>match P.info? u with
    | some _=>Nat.blt 0 (P.cellsOf e)&&Nat.ble (P.cellsOf e) (k.rows.length*k.sz)&&liesAt P P.depth e 1 0 u 1
    | none=>false
   | _,_=>false
  | none=>false
 | none=>false
def Z3f (P:Program) (σ:S) (src dst:TypeId) (x:D):Bool:=
 match x with
 | .lsl b _ n=>match σ.heap b,P.underlying dst with
  | some k,some (.slice e)=>match P.underlying e with
   | some (.int .u8)=>Nat.beq src dst&&Nat.blt 0 n&&k.ty.isSome
   | _=>false
  | _,_=>false
 | _=>false
def Z3h (P:Program) (σ:S) (o:Oper) (src dst:TypeId) (x:D) (told:X8):Option (S×Prop):=
 match x with
 | .lptr b 0 0=>match Z6e P σ src dst b&&Xx σ o with
  | true=>some (σ.put o.dst (.lptr b 0 0),True)
  | false=>none
 | x=>
 match Z3f P σ src dst x&&Xx σ o with
 | true=>some (σ.put o.dst x,True)
 | false=>
 match P.underlying dst,Ls P src with
 | some .string,some e=>
  match P.underlying e,Um P e with
  | some (.int .u8),some 1=>
   match Lg σ x,told.ans,Xx σ o with
   | some (rows,q),.val (.str s),true=>some (σ.put o.dst (.str s),q∧Ma rows=some s)
   | _,_,_=>none
  | _,_=>none
 | _,_=>none
def Jq (σ:S) (o:Oper) (blk:Blk) (v:Nat→D) (p:Prop):Option (S×Prop):=
 match o.dst with
 | some t=>
  match σ.heap t with
  | some _=>none
  | none=>match Nat.blt t σ.n with
   | true=>some ((σ.setB t (some blk)).put (some t) (v t),p)
   | false=>none
 | none=>none
def tyK (a:Option TypeId) (e:TypeId):Option TypeId:=match a with
 | some t=>match Nat.beq t e with
  | true=>some t
  | false=>none
 | none=>none
theorem Y53 {a:Option TypeId} {e t:TypeId} (h:tyK a e=some t):a=some t∧e=t:=by
 unfold tyK at h
 split at h
 ·split at h
  ·rename_i b; cases h; exact⟨rfl,(Nat.eq_of_beq_eq_true b).symm⟩
  ·cases h
 ·cases h
def tyM (m:Bool) (a:Option TypeId) (e:TypeId):Option TypeId:=match m with
 | true=>tyK a e
 | false=>none
theorem Zk4 {m:Bool} {a:Option TypeId} {e t:TypeId} (h:tyM m a e=some t):a=some t∧e=t:=by
 unfold tyM at h
 split at h
 ·exact Y53 h
 ·cases h
def Z2d (P:Program) (σ:S) (o:Oper) (t a:TypeId) (s x:D) (told:X8):Option (S×Prop):=
 match Ls P t with
 | none=>none
 | some e=>
  match P.info? e,Z1o P σ t a x with
  | some ie,some (news,q)=>
   match ie.zero with
   | none=>none
   | some z=>match z.cells.size==ie.size&&Nat.blt 0 ie.size with
    | false=>none
    | true=>
    match s with
    | .lsl b 0 n=>
     match σ.heap b with
     | some blk=>match blk.pure&&blk.sz==ie.size&&Xx σ o with
      | true=>
       let rows:=told.rows.getD (blk.rows++news)
       some (((σ.drop b).setB b (some { blk with rows:=rows,pin:=none,ty:=tyM told.mt blk.ty e })).put o.dst (.lsl b 0 rows.length),
        q∧n=blk.rows.length∧(∀ r∈news,r.length=ie.size)∧blk.rows++news=rows∧rows.length≤9223372036854775807∧rows.length*ie.bytes≤140737488355328)
      | false=>none
     | none=>none
    | .lsk false b lo n=>
     match σ.heap b with
     | some blk=>match blk.pure&&blk.sz==ie.size&&Xx σ o&&news.length==1 with
      | true=>
       let rows:=told.rows.getD (blk.rows++news)
       some (((σ.drop b).setB b (some { blk with rows:=rows,pin:=none,ty:=tyM told.mt blk.ty e })).put o.dst (.lsl b lo (n+1)),
        q∧lo+n=blk.rows.length∧(∀ r∈news,r.length=ie.size)∧blk.rows++news=rows)
      | false=>none
     | none=>none
    | .lsk true b lo n=>
     match σ.heap b with
     | some blk=>match blk.pure&&blk.sz==ie.size&&Xx σ o&&news.length==1 with
      | true=>
       let rows:=told.rows.getD (blk.rows.drop lo++news)
       some (((σ.drop b).setB b (some { sz:=ie.size,rows,frz:=0,pure:=true })).put o.dst (.lsl b 0 (n+1)),
        q∧lo+n=blk.rows.length∧(∀ r∈news,r.length=ie.size)∧blk.rows.drop lo++news=rows∧n+1≤9223372036854775807∧(n+1)*ie.bytes≤140737488355328)
      | false=>none
     | none=>none
    | .sl true olds=>
     let rows:=told.rows.getD (olds++news)
     Jq σ o { sz:=ie.size,rows,frz:=0,pure:=true } (λt=> .lsl t 0 rows.length)
      (q∧(olds=[]∨news≠[])∧(∀ r∈olds,r.length=ie.size)∧(∀ r∈news,r.length=ie.size)∧olds++news=rows∧rows.length≤9223372036854775807∧rows.length*ie.bytes≤140737488355328)
    | _=>none
  | _,_=>none
def Z1y (P:Program) (σ:S) (o:Oper) (t:TypeId) (x:D) (v:D) (told:X8):Option (S×Prop):=
 match x with
 | .lptr b i off=>
  match σ.heap b,cellsOf v,Um P t with
  | some blk,some cs,some sz=>match cs.length==sz&&(!blk.pure||cs.all D.dat)&&Xx σ o with
   | true=>
    match told.row with
    | some r=>
     let rows:=told.rows.getD (blk.rows.set i (Qu r off cs))
     some ((σ.setB b (some { blk with rows:=rows })).put o.dst .undef,blk.frz≤i∧blk.rows[i]?=some r∧off+cs.length≤r.length∧blk.rows.set i (Qu r off cs)=rows)
    | none=>
     match blk.rows[i]? with
     | some r=>
      let rows:=told.rows.getD (blk.rows.set i (Qu r off cs))
      some ((σ.setB b (some { blk with rows:=rows })).put o.dst .undef,blk.frz≤i∧off+cs.length≤r.length∧blk.rows.set i (Qu r off cs)=rows)
     | none=>none
   | false=>none
  | _,_,_=>none
 | _=>none
def Kv (told:X8) (ds:List D):List D:=match told.args with
 | [] =>ds
 | l=>l
def isNoEsc (P : Program) (f : FuncId) : Prop := ∃ fn, P.funcs[f]? = some fn ∧ (fn.name == "runtime.NumGoroutine") = false ∧ fn.body.isNone = true ∧ Extern.findNext fn = none ∧ Extern.find fn = some Extern.AbiNoEscape.same
def Z50 (P:Program) (σ:S) (o:Oper) (f:FuncId) (args:List D) (told:X8):Option (S×Prop):=
 match told.ans with
 | .val r=>
  match W3 σ args with
  | some (ds,l,p)=>match Xx σ o with
   | true=>
    match r.scalar with
    | true=>some (σ.put o.dst r,p∧ds=(Kv told ds)∧Z5v P f (Kv told ds) r)
    | false=>some ((σ.freezeL l).put o.dst r,p∧ds=(Kv told ds)∧Z5v P f (Kv told ds) r)
   | false=>none
  | none=>none
 | .go=>match args,Xx σ o with
  | [.lptr b i off],true=>some (σ.put o.dst (.lptr b i off),isNoEsc P f)
  | _,_=>none
 | _=>none
def unsD (P:Program) (σ:S) (o:Oper) (pt:TypeId) (x n:D) (told:X8):Option (S×Prop):=
 match x,n with
 | .lptr b 0 0,.int .i64 n=>
  match σ.heap b,P.underlying pt,told.ans with
  | some k,some (.pointer e),.val (.str s)=>match Nat.beq k.sz 1&&Nat.beq (P.cellsOf e) 1&&tyIs k e&&Xx σ o with
   | true=>some (((σ.drop b).setB b (some { sz:=1,rows:=[],frz:=0,pure:=true })).put o.dst (.str s),Ma k.rows=some s∧n=(s.length:Int)∧s≠[]∧s.length≤9223372036854775807)
   | false=>none
  | _,_,_=>none
 | _,_=>none
def Vw:Nat→List D→List (Nat×D)
 | _,[] =>[]
 | i,d::r=>(i,d)::Vw (i+1) r
def Vc (b:Nat):List Nat→Option Nat
 | [] =>none
 | x :: r=>match b==x with
  | true=>some 0
  | false=>match Vc b r with
   | some k=>some (k+1)
   | none=>none
def inA (ρ:List Nat):D→Option D
 | .lptr b i o=>match Vc b ρ with
  | some k=>some (.lptr k i o)
  | none=>none
 | .lsl b lo n=>match Vc b ρ with
  | some k=>some (.lsl k lo n)
  | none=>none
 | .undef=>some .undef
 | d=>match d.dat with
  | true=>some d
  | false=>none
def inL (ρ:List Nat):List D→Option (List D)
 | [] =>some []
 | d::r=>match inA ρ d,inL ρ r with
  | some x,some y=>some (x::y)
  | _,_=>none
def inR (ρ:List Nat):List (List D)→Option (List (List D))
 | [] =>some []
 | d::r=>match inL ρ d,inR ρ r with
  | some x,some y=>some (x::y)
  | _,_=>none
def inB (ρ:List Nat) (pin:Option Nat) (k:Blk):Option Blk:=
 match k.pure with
 | true=>some { k with pin:=pin }
 | false=>match inR ρ k.rows with
  | some rows=>some { k with rows:=rows,pin:=pin }
  | none=>none
def Lc (σ:S) (ρ:List Nat) (mark:Option Nat→Nat→Option Nat):Nat→List Nat→Option (List Blk)
 | _,[] =>some []
 | j,b::r=>
  match σ.heap b with
  | some k=>
   match inB ρ (mark k.pin j) k,Lc σ ρ mark (j+1) r with
   | some x,some y=>some (x::y)
   | _,_=>none
  | none=>none
def inRef (ρ:List Nat):D→Option D
 | .lptr b i o=>match Vc b ρ with
  | some k=>some (.lptr k i o)
  | none=>none
 | .lsl b lo n=>match Vc b ρ with
  | some k=>some (.lsl k lo n)
  | none=>none
 | .undef=>some .undef
 | _=>none
def Z2f (σ:S):D→Option (D×List Nat×Prop)
 | .sl c rows=>some (.sl c rows,[],True)
 | d=>Wy σ d
def Z2x (σ:S):List D→Option (List D×List Nat×Prop)
 | [] =>some ([],[],True)
 | d::r=>
  match Z2f σ d,Z2x σ r with
  | some (d',l,p),some (a,l',b)=>some (d'::a,l++l',p∧b)
  | _,_=>none
def Z4l (kp:Bool) (σ:S) (d:D):Option (D×List Nat×Prop):=
 match kp with
 | false=>Lf σ d
 | true=>
  match d with
  | .agg cs=>
   match Z2x σ cs with
   | some (cs',l,p)=>some (.agg cs',l,p)
   | none=>none
  | d=>Z2f σ d
def Ug (kp:Bool) (σ:S) (ρ:List Nat):List D→Option (List D×List Nat×Prop)
 | [] =>some ([],[],True)
 | d :: r=>
  match inRef ρ d with
  | some x=>
   match Ug kp σ ρ r with
   | some (y,l,q)=>some (x::y,l,q)
   | none=>none
  | none=>
   match Z4l kp σ d,Ug kp σ ρ r with
   | some (x,l,p),some (y,l',q)=>some (x::y,l++l',p∧q)
   | _,_=>none
def outA (ρ:List Nat):D→D
 | .lptr k i o=>match ρ[k]? with
  | some b=> .lptr b i o
  | none=> .undef
 | .lsl k lo n=>match ρ[k]? with
  | some b=> .lsl b lo n
  | none=> .undef
 | .agg _|.tup _|.clo .. |.lsk .. => .undef
 | d=>d
def outE (ρ:List Nat):D→D
 | .agg cs=> .agg (cs.map (outA ρ))
 | d=>outA ρ d
def outD (ρ:List Nat):D→D
 | .tup vs=> .tup (vs.map (outE ρ))
 | d=>outE ρ d
def Z05 (ρ:List Nat) (pin:Option Nat) (k:Blk):Blk:=
 match k.pure with
 | true=>{ k with pin:=pin }
 | false=>{ k with rows:=k.rows.map (·.map (outA ρ)),pin:=pin }
def Z24 (j:Nat) (k:Blk):Bool:=
 match k.pin with
 | some i=>match i==j with
  | true=>match k.rows with
   | _::_=>true
   | [] =>false
  | false=>false
 | none=>false
def Jf (σ:S) (ρ:List Nat):Nat→List Nat→List Blk→List Blk
 | j,b::r,k::l=>Z05 ρ (match Z24 j k with
  | true=>(match σ.heap b with
   | some k0=>(match k0.rows with
    | _::_=>k0.pin
    | [] =>none)
   | none=>none)
  | false=>none) k::Jf σ ρ (j+1) r l
 | _,_,_=>[]
def M8:Nat→List Nat→List Blk→List Nat
 | j,b::r,k::l=>match Z24 j k with
  | true=>M8 (j+1) r l
  | false=>b::M8 (j+1) r l
 | _,_,_=>[]
def S.dropL (σ:S):List Nat→S
 | [] =>σ
 | b::l=>(σ.drop b).dropL l
def S.setL (σ:S) (ρ:List Nat) (bs:List Blk):S:={ σ with heap:=λu=>match Vc u ρ with
 | some k=>bs[k]?
 | none=>σ.heap u }
def S.nilL (σ:S):List (Nat×Nat)→Option S
 | [] =>some σ
 | (b,sz)::l=>match σ.heap b with
  | none=>(σ.setB b (some { sz,rows:=[],frz:=0,pure:=true })).nilL l
  | some _=>none
def Zv9:List (Nat×Nat)→Nat→Option Nat
 | [],_=>none
 | (k,b)::r,i=>match i==k with
  | true=>some b
  | false=>Zv9 r i
def K1 (l:List (Nat×Nat)):Nat→List D→List D
 | _,[] =>[]
 | j,d::r=>(match Zv9 l j with
  | some b=>(match d with
   | .sl true [] => .lsl b 0 0
   | d=>d)
  | none=>d)::K1 l (j+1) r
def We:Nat→List Blk→List (Nat×Blk)
 | _,[] =>[]
 | j,k::r=>(j,k)::We (j+1) r
def Ja:List Nat→Bool
 | [] =>true
 | x::r=>(match Vc x r with
  | some _=>false
  | none=>true)&&Ja r
def Kh:List Blk→List Blk→Bool
 | [],[] =>true
 | k::l,a::l'=>k.sz==a.sz&&k.frz==0&&Kh l l'
 | _,_=>false
def Vu (P:Program) (f:FuncId) (ds:List D) (bs:List Blk) (r:D) (bs':List Blk):Prop:=
 L5 P f=true∧∀ (Γ:Ctx) (vs:Array Value) (w:World) (G:Nat→Nat) (β:Nat→Option (Nat×Nat)),
  Zk Γ (mkS ds.length (Vw 0 ds) (We 0 bs)) { tmps:=vs,defers:=[] } w G β→
  Calls P f vs w λe w'=>∃ v G' β',e=.returned v∧Zk Γ (mkS 1 [(0,r)] (We 0 bs')) { tmps:=#[v],defers:=[] } w' G' β'
def Ka (P:Program) (f:FuncId) (ds:List D) (bs:List Blk) (R:D→List Blk→Prop):Prop:=
 L5 P f=true∧∀ (Γ:Ctx) (vs:Array Value) (w:World) (G:Nat→Nat) (β:Nat→Option (Nat×Nat)),
  Zk Γ (mkS ds.length (Vw 0 ds) (We 0 bs)) { tmps:=vs,defers:=[] } w G β→
  Calls P f vs w λe w'=>∃ v G' β' r bs',R r bs'∧e=.returned v∧Zk Γ (mkS 1 [(0,r)] (We 0 bs')) { tmps:=#[v],defers:=[] } w' G' β'
def funA:D→Option (FuncId×List D)
 | .fn f=>some (f,[])
 | .clo f bs=>some (f,bs.map λb=> .lptr b 0 0)
 | _=>none
def Z25 (bs:List Blk) (j:Nat):Option Nat:=
 match bs[j]? with
 | some k=>match k.pin with
  | some i=>match i==j with
   | true=>some j
   | false=>none
  | none=>none
 | none=>none
def Z34 (P:Program) (σ:S) (o:Oper) (f:FuncId) (args:List D) (told:X8) (io:IO):Option (S×Prop):=
 match told.ans with
 | .val r=>
  match σ.nilL io.fresh with
  | some σ0 =>
   match Ug io.kp σ0 io.names (K1 io.nils 0 args) with
   | some (ds,l,p)=>
    match Lc (σ0.freezeL l) io.names (λ_ j=>Z25 io.bs j) 0 io.names with
    | some bs=>match Xx σ o&&Ja io.names&&Kh io.bs io.bs' with
     | true=>some (((((σ0.freezeL l).dropL (M8 0 io.names io.bs')).setL io.names (Jf (σ0.freezeL l) io.names 0 io.names io.bs'))).put o.dst (outD io.names r),
       p∧ds=(Kv told ds)∧bs=io.bs∧Vu P f (Kv told ds) io.bs r io.bs')
     | false=>none
    | none=>none
   | none=>none
  | none=>none
 | _=>none
def tyR (b:Bool) (e:TypeId):Option TypeId:=match b with
 | true=>some e
 | false=>none
def Wa (P : Program) (σ:S) (o:Oper) (told:X8):Option (S×Prop):=
 match o.op with
 | .alloc e=>
  match Kb P e with
  | some cs=>Jq σ o { sz:=cs.length,rows:=[cs],frz:=0,pure:=false,ty:=tyR told.ro e } (λt=> .lptr t 0 0) True
  | none=>none
 | .box _ x=>
  match cellsOf (σ.ev x) with
  | some cs=>match told.ro with
   | true=>(match cs.all D.dat,Xx σ o with
    | true,true=>some (σ.put o.dst (.ptr cs),True)
    | _,_=>none)
   | false=>Jq σ o { sz:=cs.length,rows:=[cs],frz:=0,pure:=false } (λt=> .lptr t 0 0) True
  | none=>none
 | .build t parts=>
  match Kb P t,Zhc P t with
  | some z,some pl=>
   match Z02 pl z (parts.toList.map λx=>(x.1,σ.ev x.2)) with
   | some cs=>match Xx σ o with
    | true=>some (σ.put o.dst (.agg cs),True)
    | false=>none
   | none=>none
  | _,_=>none
 | .buildSlice t len parts=>
  match Ls P t with
  | some e=>
   match P.info? e with
   | some ie =>
    match W3 σ (parts.toList.map λx=>σ.ev x.2) with
    | some (ds,l,p)=>
     match Z02 (λi=>some (i*ie.size,ie.size)) (List.replicate (len*ie.size) .undef) ((parts.toList.map (·.1)).zip ds) with
     | some cs=>match cs.all D.dat&&Nat.ble (len*ie.size) 16777216&&(Kb P e).isSome with
      | true=>match told.ro with
       | true=>(match Xx σ o with
        | true=>(match told.rows with
         | none=>some ((σ.freezeL l).put o.dst (.sl true (Ld ie.size len cs)),p)
         | some rows=>some ((σ.freezeL l).put o.dst (.sl true rows),p∧Ld ie.size len cs=rows))
        | false=>none)
       | false=>Jq (σ.freezeL l) o { sz:=ie.size,rows:=Ld ie.size len cs,frz:=0,pure:=true,ty:=tyR told.mt e } (λt=> .lsl t 0 len) p
      | false=>none
     | none=>none
    | none=>none
   | none=>none
  | none=>none
 | .makeSlice t l c=>
  match Ls P t,σ.ev l,σ.ev c with
  | some e,.int _ l,.int _ c=>
   match P.info? e,Z9y P e with
   | some ie,some z=>match z.length==ie.size&&z.all D.dat with
    | true=>
     let rows:=told.rows.getD (List.replicate l.toNat z)
     Jq σ o { sz:=ie.size,rows,frz:=0,pure:=true } (λt=> .lsl t 0 rows.length) (0≤l∧l≤c∧(ie.bytes:Int)*c≤281474976710656∧c≤9223372036854775807∧List.replicate l.toNat z=rows)
    | false=>none
   | _,_=>none
  | _,_,_=>none
 | .convert src dst x=>Z3h P σ o src dst (σ.ev x) told
 | .store t x v=>Z1y P σ o t (σ.ev x) (σ.ev v) told
 | .call { callee:= .value f,args,.. }=>
  match σ.ev f with
  | .fn f=>match told.io with
   | none=>Z50 P σ o f (args.toList.map σ.ev) told
   | some io=>Z34 P σ o f (args.toList.map σ.ev) told io
  | _=>none
 | .call { callee:= .builtin .append,args,argTypes }=>
  match args,argTypes with
  | ⟨[s,x]⟩,⟨[t,a]⟩=>Z2d P σ o t a (σ.ev s) (σ.ev x) told
  | _,_=>none
 | .call { callee:= .builtin .unsafeString,args,argTypes }=>
  match args,argTypes with
  | ⟨[x,n]⟩,⟨[pt,_]⟩=>unsD P σ o pt (σ.ev x) (σ.ev n) told
  | _,_=>none
 | _=>none
def V1 (P:Program) (σ:S) (o:Oper) (told:X8):Option (S×Prop):=
 match Q1 P σ o told.ans with
 | some (d,p)=>match Xx σ o with
  | true=>some (σ.put o.dst d,p)
  | false=>none
 | none=>Wa P σ o told
end Go.Den
namespace Go.Den
open Go.RowKit
variable {P:Program} {Γ:Ctx} {σ:S} {a:Act} {w w':World} {G G':Nat→Nat} {β β':Nat→Option (Nat×Nat)}
def Reach (P:Program) (Γ:Ctx) (o:Oper) (a:Act) (w:World) (σ':S):Prop:=
 ∀ (next:Act→World→Prop) (Q:Exit→Act→World→Prop),(∀ b w' G' β',Zk Γ σ' b w' G' β'→next b w')→o.wp P a w next Q
theorem Reach.of_value {o:Oper} {σ':S} {v:Value} (h:(execOp a.eval o).run P w=.ok (.value v) w') (b:Zk Γ σ' (a.put o.dst v) w' G' β'):Reach P Γ o a w σ':=λnext Q c=>by
 unfold Oper.wp
 rw[h,Oper.upon_value]
 exact c _ _ _ _ b
theorem Reach.of_skip {o:Oper} {σ':S} (h:(execOp a.eval o).run P w=.ok .skip w') (b:Zk Γ σ' (a.put o.dst Go.undef) w' G' β'):Reach P Γ o a w σ':=λnext Q c=>by
 unfold Oper.wp
 rw[h,Oper.upon_skip]
 exact c _ _ _ _ b
theorem J6 {o:Oper} (h:Xx σ o=true):∀ t,o.dst=some t→t<σ.n:=λt b=>by
 unfold Xx at h; rw[b] at h; exact Nat.le_of_ble_eq_true h
theorem Z2y {s:Sem Value} {v:Value} (h:s.run P w=.ok v w'):(do pure (Next.value (← s)):Sem Next).run P w=.ok (.value v) w':=by simp[h]
theorem M1 (w:World) (x:Obj):Below w.heap.size w (w.alloc x):=(Below.refl _ w).alloc (Nat.le_refl _) x
theorem Zb4 (w:World):Below w.heap.size w w.drew:=(Below.refl _ w).drew
theorem Lm (w:World) (x:Obj):(w.alloc x).heap[w.heap.size]?=some x:=by
 show (w.heap.push x)[w.heap.size]?=_
 simp
theorem Zk.blk' (h:Zk Γ σ a w G β) {b c:Nat} {blk:Blk} (f:σ.heap b=some blk) {sz:Nat} (d:β b=some (c,sz)):Vq w G β Γ c blk:=by
 rcases h.heap b blk f with ⟨e,-⟩|⟨c',e,hB⟩
 ·rw[e] at d; cases d
 ·rw[e] at d; cases d; exact hB
theorem Zk.new (h:Zk Γ σ a w G β) {t:Nat} {blk:Blk} (x:σ.heap t=none) {vs:Array Value} {e:TypeId} {fr:Nat×Nat} (l:∀ o,o<vs.size→ ¬ (fr.1≤o∧o<fr.2))
  (q:blk.frz=0∧blk.pin=none∧∀ t,blk.ty=some t→e=t∧fr.1≤fr.2) (hsz:∀ (i:Nat) (r:List D),blk.rows[i]?=some r→r.length=blk.sz)
  (y:blk.pure=true→∀ (i j:Nat) (r:List D) (d:D),blk.rows[i]?=some r→r[j]?=some d→d.dat=true)
  (z:blk.rows.length*blk.sz≤vs.size)
  (A:∀ (i j:Nat) (r:List D) (d:D),blk.rows[i]?=some r→r[j]?=some d→∃ v,vs[i*blk.sz+j]?=some v∧one v=true∧Zh w G β v d):
  Zk Γ (σ.setB t (some blk)) a (w.alloc (.cells vs e fr)) G (upd β t (some (w.heap.size,blk.sz))):=by
 have B:=h.quiet (M1 w (.cells vs e fr))
 refine B.name x (λu s hs=>?_) ?_
 ·obtain⟨k,f⟩:=h.dom u _ hs
  rcases h.heap u k f with ⟨m,-⟩|⟨c,m,hB⟩
  ·rw[m] at hs; cases hs
  ·rw[m] at hs; cases hs; have:=hB.lt; omega
 ·have n:G w.heap.size=0:=h.fresh _ (Nat.le_refl _)
  refine⟨.inl h.big,(λk f=>by rw[q.2.1] at f; cases f),(λk f=>by obtain⟨rfl,g⟩:=q.2.2 k f; exact⟨_,_,Lm w _,g⟩),(λo p=>by rw[n] at p; omega),by omega,y,hsz,vs,e,fr,Lm w _,l,z,λi j r d C E=>?_⟩
  obtain⟨v,a1,a2,F⟩:=A i j r d C E
  exact⟨v,a1,a2,F.mono (λb o p=>Z0b ((M1 w _).block b (h.marksLt p)) o) (λ_=>Nat.le_refl _) (λ_ _ h=>h) (Ze2 (M1 w _))⟩
theorem Z12 {o:Oper} {blk:Blk} {v:Nat→D} {p q:Prop} {σ':S} (h:Jq σ o blk v p=some (σ',q)):∃ t,o.dst=some t∧σ.heap t=none∧t<σ.n∧σ'=(σ.setB t (some blk)).put (some t) (v t)∧q=p:=by
 unfold Jq at h
 split at h
 ·rename_i t c
  split at h
  ·cases h
  ·split at h
   ·cases h
    rename_i b
    exact⟨t,c,by assumption,Nat.le_of_ble_eq_true b,rfl,rfl⟩
   ·cases h
 ·cases h
theorem Reach.new (h:Zk Γ σ a w G β) {o:Oper} {blk:Blk} {dv:Nat→D} {p q:Prop} {σ':S} (k:Jq σ o blk dv p=some (σ',q)) {vs:Array Value} {e:TypeId} {fr:Nat×Nat} {v:Value}
  (b:(execOp a.eval o).run P w=.ok (.value v) (w.alloc (.cells vs e fr)))
  (l:∀ t,σ.heap t=none→Zh (w.alloc (.cells vs e fr)) G (upd β t (some (w.heap.size,blk.sz))) v (dv t))
  (c:∀ o,o<vs.size→ ¬ (fr.1≤o∧o<fr.2))
  (m:blk.frz=0∧blk.pin=none∧∀ t,blk.ty=some t→e=t∧fr.1≤fr.2) (hsz:∀ (i:Nat) (r:List D),blk.rows[i]?=some r→r.length=blk.sz)
  (n:blk.pure=true→∀ (i j:Nat) (r:List D) (d:D),blk.rows[i]?=some r→r[j]?=some d→d.dat=true)
  (s:blk.rows.length*blk.sz≤vs.size)
  (x:∀ (i j:Nat) (r:List D) (d:D),blk.rows[i]?=some r→r[j]?=some d→∃ v,vs[i*blk.sz+j]?=some v∧one v=true∧Zh w G β v d):Reach P Γ o a w σ':=by
 obtain⟨t,y,g,f,rfl,-⟩:=Z12 k
 have z:=h.new (e:=e) g c m hsz n s x
 refine Reach.of_value b (G':=G) (β':=upd β t (some (w.heap.size,blk.sz))) ?_
 have:=z.put (dst:=some t) (λu A=>by cases A; exact f) (l t g)
 rw[y]
 exact this
theorem Znx {v:Value} {d:D} (h:Zh w G β v d) {cs:List D} (i:cellsOf d=some cs):cs.length=v.cells.size∧(∀ (j:Nat) u,v.cells[j]?=some u→one u=true)∧
  ∀ (j:Nat) u d,v.cells[j]?=some u→cs[j]?=some d→Zh w G β u d:=by
 by_cases k:∃ cs,d=.agg cs
 ·obtain⟨cs',rfl⟩:=k
  cases i
  obtain⟨vs,rfl,m,c,f⟩:=L2 h
  exact⟨m,c,f⟩
 ·have g:cs=[d]∧d≠ .undef∧(∀ cs,d≠ .tup cs):=by
   cases d <;> first
    | exact absurd ⟨_,rfl⟩ k
    | (cases i; exact⟨rfl,by simp,by simp⟩)
    | cases i
  obtain⟨rfl,n,o⟩:=g
  have l:=Zsx h n (λcs e=>k ⟨cs,e⟩) o
  have p:v.cells= #[v] :=by cases v <;> first|rfl|simp[one] at l
  rw[p]
  refine⟨rfl,λj u b=>?_,λj u d' b g=>?_⟩
  ·cases j with
   | zero=>simp at b; subst b; exact l
   | succ j=>simp at b
  ·cases j with
   | zero=>simp at b g; subst b g; exact h
   | succ j=>simp at b
theorem Zbw {t:TypeId} {cs:List D} (h:Kb P t=some cs):∃ i v,P.info? t=some i∧i.zero=some v∧cs.length=v.cells.size∧(∀ (j:Nat) u,v.cells[j]?=some u→one u=true)∧
  ∀ (w:World) (G:Nat→Nat) (β:Nat→Option (Nat×Nat)) (j:Nat) u d,v.cells[j]?=some u→cs[j]?=some d→Zh w G β u d:=by
 unfold Kb at h
 split at h
 ·rename_i i f
  split at h
  ·rename_i v g
   split at h
   ·rename_i b
    cases h
    refine⟨i,v,f,g,by simp,λj u c=>List.all_eq_true.1 b u (List.mem_of_getElem? (i:=j) (by simpa using c)),λw G β j u d c e=>?_⟩
    simp only[List.getElem?_map,Array.getElem?_toList,c,Option.map_some,Option.some.injEq] at e
    subst e
    exact Zph u
   ·cases h
  ·cases h
 ·cases h
theorem Zk.mark (h:Zk Γ σ a w G β) {c0:Nat} (f:∀ b s,β b≠some (c0,s)) (j:Γ.B≤c0) (l:c0<w.heap.size) {k:Nat} (m:G c0≤k):Zk Γ σ a w (λc=>if c=c0 then k else G c) β:=by
 have g:∀ c,G c≤(if c=c0 then k else G c):=λc=>by
  split
  ·rename_i h; subst h; exact m
  ·exact Nat.le_refl _
 refine⟨h.defers,h.size,λt=>(h.tmps t).mono (λ_ _ _=>rfl) g (λ_ _ h=>h) (.refl w),λb blk n=>?_,h.dom,h.inj,h.kept,λc i o=>?_,λc i=>?_,h.big,h.glob.mono (λ_ _ _=>rfl) g⟩
 ·rcases h.heap b blk n with d|⟨c,d,hB⟩
  ·exact .inl d
  ·exact .inr ⟨c,d,hB.mono (λ_ _ _=>rfl) g (if_neg λe=>f b _ (e ▸ d)) (λ_ _ h=>h) (.refl w) rfl⟩
 ·rw[if_neg (by omega)]; exact h.marks c i o
 ·rw[if_neg (by omega)]; exact h.fresh c i
theorem Reach.boxRo (h:Zk Γ σ a w G β) {o:Oper} {cs:List D} (l:∀ t,o.dst=some t→t<σ.n) (g:cs.all D.dat=true)
  {vs:Array Value} {e:TypeId} (m:(execOp a.eval o).run P w=.ok (.value (.pointer (some ⟨w.heap.size,0,none⟩))) (w.alloc (.cells vs e)))
  (I:cs.length=vs.size) (z:∀ (j:Nat) u,vs[j]?=some u→one u=true) (A:∀ (j:Nat) u d,vs[j]?=some u→cs[j]?=some d→Zh w G β u d):Reach P Γ o a w (σ.put o.dst (.ptr cs)):=by
 have hq:=h.quiet (M1 w (.cells vs e))
 have p:w.heap.size<(w.alloc (.cells vs e)).heap.size:=Zeb (Lm w _)
 have q:∀ b s,β b≠some (w.heap.size,s):=λb s v=>by
  obtain⟨k,B⟩:=h.dom b _ v
  have:=(h.blk' B v).lt
  omega
 have r:G w.heap.size=0:=h.fresh _ (Nat.le_refl _)
 have C:=hq.mark q h.big p (k:=vs.size) (by omega)
 refine Reach.of_value m (C.put l ?_)
 refine .ptr w.heap.size 0 cs (λj=>vs.getD j Go.undef) (λj x=>?_) (λj x=>?_) (λj x=>?_) (λj d i=>List.all_eq_true.1 g d (List.mem_of_getElem? i)) (λj d i=>?_)
 ·simp only[if_true]; omega
 ·rw[Jk,Lm]
  have f:j<vs.size:=by omega
  simp[Array.getD_eq_getD_getElem?,f]
 ·have f:j<vs.size:=by omega
  have:=z j vs[j] (Array.getElem?_eq_getElem f)
  simpa [Array.getD_eq_getD_getElem?,f] using this
 ·have f:j<vs.size:=by
   rcases Nat.lt_or_ge j cs.length with y|y
   ·omega
   ·rw[List.getElem?_eq_none y] at i; cases i
  have:=A j vs[j] d (Array.getElem?_eq_getElem f) i
  have E:vs.getD j Go.undef=vs[j] :=by simp[Array.getD_eq_getD_getElem?,f]
  rw[E]
  exact this.of_dat (λb o F=>Z0b ((M1 w _).block b (h.marksLt F)) o) (λc=>by
   show G c≤(if c=w.heap.size then vs.size else G c)
   split
   ·rename_i H; rw[H,r]; exact Nat.zero_le _
   ·exact Nat.le_refl _) (List.all_eq_true.1 g d (List.mem_of_getElem? i))
theorem Reach.box (h:Zk Γ σ a w G β) {o:Oper} {cs:List D} {σ':S} {q:Prop} {ty:Option TypeId} (n:Jq σ o { sz:=cs.length,rows:=[cs],frz:=0,pure:=false,ty } (λt=> .lptr t 0 0) True=some (σ',q))
  {vs:Array Value} {e:TypeId} (c:(execOp a.eval o).run P w=.ok (.value (.pointer (some ⟨w.heap.size,0,none⟩))) (w.alloc (.cells vs e))) (f:∀ t,ty=some t→e=t)
  (p:cs.length=vs.size) (s:∀ (j:Nat) u,vs[j]?=some u→one u=true) (v:∀ (j:Nat) u d,vs[j]?=some u→cs[j]?=some d→Zh w G β u d):Reach P Γ o a w σ':=by
 refine Reach.new h n c (λt l=>?_) (λo x=>by simp) ⟨rfl,rfl,λt l=>⟨f t l,Nat.le_refl _⟩⟩ (λi r b=>?_) (λhp=>by cases hp) (by simp[p]) (λi j r d b g=>?_)
 ·have:=Zh.lptr (w:=w.alloc (.cells vs e)) (G:=G) (β:=upd β t (some (w.heap.size,cs.length))) t 0 0 w.heap.size cs.length (by simp[upd])
  simpa using this
 ·cases i with
  | zero=>simp at b; subst b; rfl
  | succ i=>simp at b
 ·cases i with
  | zero=>
   simp at b; subst b
   have k:j<vs.size:=by
    rcases Nat.lt_or_ge j cs.length with m|m
    ·omega
    ·rw[List.getElem?_eq_none m] at g; cases g
   exact⟨vs[j],by simp[Array.getElem?_eq_getElem k],s j _ (Array.getElem?_eq_getElem k),v j _ d (Array.getElem?_eq_getElem k) g⟩
  | succ i=>simp at b
theorem Zkb (off:Nat):∀ (l:List Value) (i:Nat) (cs:Array Value),((l.zipIdx i).foldl (λcs (c,j)=>cs.setIfInBounds (off+j) c) cs).size=cs.size∧
  ∀ k,off+i+l.length≤cs.size→((l.zipIdx i).foldl (λcs (c,j)=>cs.setIfInBounds (off+j) c) cs)[k]?=if off+i≤k∧k<off+i+l.length then l[k - (off+i)]? else cs[k]?
 | [],i,cs=>⟨rfl,λk _=>by simp; omega⟩
 | c :: l,i,cs=>by
  have ih:=Zkb off l (i+1) (cs.setIfInBounds (off+i) c)
  have hsz:(cs.setIfInBounds (off+i) c).size=cs.size:=by simp
  simp only[List.zipIdx_cons,List.foldl_cons]
  refine⟨by rw[ih.1]; simp,λk e=>?_⟩
  simp only[List.length_cons] at e ⊢
  rw[ih.2 k (by omega)]
  by_cases b:off+i=k
  ·subst b
   rw[if_neg (by omega),if_pos (by omega)]
   simp[show off+i<cs.size by omega]
  ·by_cases d:off+i≤k∧k<off+i+(l.length+1)
   ·rw[if_pos (by omega),if_pos d]
    rw[show k - (off+i)=(k - (off+(i+1)))+1 by omega,List.getElem?_cons_succ]
   ·rw[if_neg (by omega),if_neg d]
    simp[b]
theorem Zm1 (cs dc:List D) (off k:Nat) (h:off+dc.length≤cs.length):(Qu cs off dc)[k]?=if off≤k∧k<off+dc.length then dc[k - off]? else cs[k]? :=by
 unfold Qu
 rw[List.append_assoc,List.getElem?_append,List.length_take,List.getElem?_append,List.getElem?_drop,List.getElem?_take]
 rw[show min off cs.length=off by omega]
 by_cases b:k<off
 ·rw[if_pos b,if_pos b,if_neg (by omega)]
 ·rw[if_neg b]
  by_cases c:k - off<dc.length
  ·rw[if_pos c,if_pos (by omega)]
  ·rw[if_neg c,if_neg (by omega)]
   congr 1; omega
theorem Zt4 (cs dc:List D) (off:Nat) (h:off+dc.length≤cs.length):(Qu cs off dc).length=cs.length:=by
 unfold Qu; simp; omega
def Z7e (w:World) (G:Nat→Nat) (β:Nat→Option (Nat×Nat)) (vs:Array Value) (cs:List D):Prop:=
 cs.length=vs.size∧(∀ (j:Nat) u,vs[j]?=some u→one u=true)∧∀ (j:Nat) u d,vs[j]?=some u→cs[j]?=some d→Zh w G β u d
theorem Zpl {place:Nat→Option (Nat×Nat)}:∀ (ps:List (Nat×D)) (vps:List (Nat×Value)) (cs:List D) (vs:Array Value) (cs':List D),Z7e w G β vs cs→
  ps.map (·.1)=vps.map (·.1)→(∀ (j:Nat) p u,ps[j]?=some p→vps[j]?=some u→Zh w G β u.2 p.2)→Z02 place cs ps=some cs'→∃ vs',Instr.fill place vs vps=some vs'∧Z7e w G β vs' cs'
 | [],vps,cs,vs,cs',e,f,o,h=>by
  cases h
  cases vps with
  | nil=>exact⟨vs,rfl,e⟩
  | cons _ _=>simp at f
 | (i, d) :: ps,vps,cs,vs,cs',e,f,o,h=>by
  cases vps with
  | nil=>simp at f
  | cons x vps=>
   obtain⟨F,v⟩:=x
   simp only[List.map_cons,List.cons.injEq] at f
   obtain⟨rfl,f⟩:=f
   unfold Z02 at h
   split at h
   ·rename_i off size dc hp q
    split at h
    ·rename_i s
     simp only[Bool.and_eq_true,beq_iff_eq,Nat.ble_eq] at s
     obtain⟨t,g⟩:=s
     have y:Zh w G β v d:=o 0 (i,d) (i,v) rfl rfl
     obtain⟨c1,z,A⟩:=Znx y q
     have n:=Zkb off v.cells.toList 0 vs
     simp only[Nat.add_zero,Array.length_toList] at n
     have r:Z7e w G β ((v.cells.toList.zipIdx 0).foldl (λcs (c,j)=>cs.setIfInBounds (off+j) c) vs) (Qu cs off dc):=by
      have k:off+v.cells.size≤vs.size:=by rw[← c1,← e.1]; exact g
      refine⟨by rw[Zt4 _ _ _ g,n.1,e.1],λj u b=>?_,λj u d b l=>?_⟩
      ·rw[n.2 j k] at b
       split at b
       ·exact z _ u (by simpa using b)
       ·exact e.2.1 j u b
      ·rw[n.2 j k] at b
       rw[Zm1 _ _ _ _ g] at l
       split at b
       ·rename_i B
        rw[if_pos (by omega)] at l
        exact A _ u d (by simpa using b) l
       ·rename_i B
        rw[if_neg (by omega)] at l
        exact e.2.2 j u d b l
     obtain⟨vs',C,E⟩:=Zpl ps vps _ _ cs' r f (λj p u hp b=>o (j+1) p u (by simpa using hp) (by simpa using b)) h
     refine⟨vs',?_,E⟩
     unfold Instr.fill
     have m:v.cells.size=size:=by omega
     have k: ¬ (off+v.cells.size>vs.size):=by rw[← c1,← e.1]; omega
     simp only[hp,m,ne_eq,not_true_eq_false,decide_false,Bool.false_or,decide_eq_true_eq]
     rw[if_neg (by omega)]
     rw[← Array.foldl_toList,Array.toList_zipIdx]
     exact C
    ·cases h
   ·cases h
theorem Y4h (a:Act) (parts:Array (Nat×Operand)):(parts.map λ(i,x)=>(i,a.eval x)).toList=parts.toList.map λx=>(x.1,a.eval x.2):=by
 simp
theorem Y2x (l:Zk Γ σ a w G β) {t:TypeId} {parts:Array (Nat×Operand)} {z:List D} {pl:Nat→Option (Nat×Nat)} {cs:List D} (m:Kb P t=some z) (hp:Zhc P t=some pl)
  (o:Z02 pl z (parts.toList.map λx=>(x.1,σ.ev x.2))=some cs):∃ vs,(Instr.build t (parts.map λ(i,x)=>(i,a.eval x))).run P w=.ok (.agg vs) w∧Z7e w G β vs cs:=by
 obtain⟨i,v,g,h,q,r,s⟩:=Zbw m
 obtain ⟨vs',k,y⟩:=Zpl (w:=w) (G:=G) (β:=β) (place:=pl) _ (parts.toList.map λx=>(x.1,a.eval x.2)) z v.cells cs ⟨q,r,λj u d=>s w G β j u d⟩ (by simp) (λj p u hp b=>by
  simp only[List.getElem?_map] at hp b
  obtain⟨x,A,rfl⟩:=Qf hp
  rw[A] at b; cases b
  exact Wc l x.2) o
 refine⟨vs',run_build w t _ vs' ?_,y⟩
 unfold Program.built
 rw[Y4h]
 unfold Zhc at hp
 split at hp
 ·rename_i fs b
  split at hp
  ·rename_i places c
   cases hp
   simp only[g,b,h,c]
   simpa using k
  ·cases hp
 ·rename_i n e b
  split at hp
  ·rename_i ie f
   cases hp
   simp only[g,b,h,f]
   exact k
  ·cases hp
 ·cases hp
end Go.Den
namespace Go.Den
open Go.RowKit
variable {P:Program} {Γ:Ctx} {σ:S} {a:Act} {w w':World} {G G':Nat→Nat} {β β':Nat→Option (Nat×Nat)}
def L6 (σ σ':S):Prop:=∀ b,(σ'.heap b).map (λk=>(k.pure,k.rows))=(σ.heap b).map (λk=>(k.pure,k.rows))
theorem Y5k (σ:S) (b:Nat):L6 σ (σ.freeze b):=λu=>by
 simp only[S.freeze]
 split
 ·cases σ.heap u <;> rfl
 ·rfl
theorem L6.trans {a b c:S} (h:L6 a b) (k:L6 b c):L6 a c:=λu=>(k u).trans (h u)
theorem Z6l:∀ (l:List Nat) (σ:S),L6 σ (σ.freezeL l)
 | [],_=>λ_=>rfl
 | b::l,σ=>(Y5k σ b).trans (Z6l l (σ.freeze b))
theorem Z5d:∀ (l:List Nat) (σ:S),(σ.freezeL l).tmps=σ.tmps∧(σ.freezeL l).n=σ.n
 | [],_=>⟨rfl,rfl⟩
 | b::l,σ=>Z5d l (σ.freeze b)
theorem Zub:∀ (l:List Nat) (σ:S) (t:Nat),(σ.freezeL l).heap t=none↔σ.heap t=none
 | [],_,_=>Iff.rfl
 | b::l,σ,t=>(Zub l (σ.freeze b) t).trans (by simp only[S.freeze]; split <;> simp)
def K8 (σ:S) (G:Nat→Nat) (β:Nat→Option (Nat×Nat)) (b:Nat):Prop:=∀ blk c,σ.heap b=some blk→β b=some (c,blk.sz)→blk.rows.length*blk.sz≤G c
theorem Zyv (σ:S) (b u:Nat) {blk:Blk} (h:σ.heap u=some blk):∃ f,(σ.freeze b).heap u=some { blk with frz:=f }:=by
 simp only[S.freeze]
 split
 ·exact⟨blk.rows.length,by rw[h]; rfl⟩
 ·exact⟨blk.frz,by rw[h]⟩
theorem Zx3:∀ (l:List Nat) (σ:S) (u:Nat) {blk:Blk},σ.heap u=some blk→∃ f,(σ.freezeL l).heap u=some { blk with frz:=f }
 | [],σ,u,blk,h=>⟨blk.frz,h⟩
 | b::l,σ,u,blk,h=>by
  obtain⟨f,d⟩:=Zyv σ b u h
  obtain⟨e,c⟩:=Zx3 l (σ.freeze b) u d
  exact⟨e,c⟩
theorem Zk.freezeL:∀ (l:List Nat) {σ:S} {G:Nat→Nat},Zk Γ σ a w G β→∃ G',Zk Γ (σ.freezeL l) a w G' β∧(∀ k,G k≤G' k)∧∀ b∈l,K8 σ G' β b
 | [],σ,G,h=>⟨G,h,λ_=>Nat.le_refl _,λb d=>by cases d⟩
 | b::l,σ,G,h=>by
  obtain⟨G1,i,j,m⟩:=h.freeze b
  obtain⟨G2,k1,k2,k3⟩:=Zk.freezeL l i
  refine⟨G2,k1,λk=>Nat.le_trans (j k) (k2 k),λu e=>?_⟩
  rcases List.mem_cons.1 e with rfl|e
  ·exact λblk c d g=>Nat.le_trans (m blk c d g) (k2 c)
  ·exact λblk c d g=>by
    obtain⟨f,n⟩:=Zyv σ b u d
    exact k3 u e { blk with frz:=f } c n g
theorem Zk.blk (h:Zk Γ σ a w G β) {b c:Nat} {blk:Blk} (f:σ.heap b=some blk) {sz:Nat} (d:β b=some (c,sz)):sz=blk.sz∧Vq w G β Γ c blk:=by
 rcases h.heap b blk f with ⟨e,-⟩|⟨c',e,hB⟩
 ·rw[e] at d; cases d
 ·rw[e] at d; cases d; exact⟨rfl,hB⟩
theorem Y3m (h:Zk Γ σ a w G β) {v:Value} {b lo n:Nat} {blk:Blk} (J:Zh w G β v (.lsl b lo n)) (F:σ.heap b=some blk) (hp:blk.pure=true) (K:lo+n≤blk.rows.length) (L:K8 σ G β b):
  Zh w G β v (.sl false ((blk.rows.drop lo).take n)):=by
 cases J with
 | lslnil _ x=>simp; exact .slnil false x
 | lsl _ _ _ cap c sz off H q s A=>
  obtain⟨rfl,hB⟩:=h.blk F H
  obtain⟨vs,e,fr,B,Q,R,I⟩:=hB.cells
  have M:=L blk c F H
  have t:∀ i j,i<n→j<blk.sz→(lo+i)*blk.sz+j<blk.rows.length*blk.sz:=λi j g o=>by
   have:(lo+i+1)*blk.sz≤blk.rows.length*blk.sz:=Nat.mul_le_mul_right _ (by omega)
   rw[Nat.add_mul] at this; omega
  have m:∀ i j,lo*blk.sz+i*blk.sz+j=(lo+i)*blk.sz+j:=λi j=>by rw[Nat.add_mul]
  have l:∀ i,i<n→off=lo*blk.sz:=λi g=>s.resolve_left (by omega)
  have y:∀ i,i<n→∃ r,blk.rows[lo+i]?=some r∧((blk.rows.drop lo).take n)[i]?=some r∧r.length=blk.sz:=λi g=>by
   have p:lo+i<blk.rows.length:=by omega
   refine⟨blk.rows[lo+i],List.getElem?_eq_getElem p,?_,hB.hsz (lo+i) _ (List.getElem?_eq_getElem p)⟩
   rw[List.getElem?_take_of_lt g,List.getElem?_drop]
   exact List.getElem?_eq_getElem p
  have z:∀ i j,i<n→j<blk.sz→∃ u,vs[(lo+i)*blk.sz+j]?=some u∧one u=true:=λi j g o=>by
   obtain⟨r,k,-,T⟩:=y i g
   obtain⟨u,a1,a2,-⟩:=I (lo+i) j r r[j] k (List.getElem?_eq_getElem (by omega))
   exact⟨u,a1,a2⟩
  have f:∀ (i:Nat) r,((blk.rows.drop lo).take n)[i]?=some r→blk.rows[lo+i]?=some r∧i<n:=λi r k=>by
   rw[List.getElem?_take] at k
   split at k
   ·rw[List.getElem?_drop] at k; exact⟨k,by assumption⟩
   ·cases k
  refine .sl false c off n cap blk.sz _ (λi j=>vs.getD ((lo+i)*blk.sz+j) Go.undef) (by simp; omega) (λN=>by cases N) q (λi r k=>hB.hsz _ r (f i r k).1) (λi j g o=>?_) (λi j g o=>?_) (λi j g o=>?_)
   (λi j r d k C=>hB.dat hp _ j r d (f i r k).1 C) (λi j r d k C=>?_)
  ·rw[l i g,m]; have:=t i j g o; omega
  ·obtain⟨u,D,-⟩:=z i j g o
   rw[l i g,m,Jk,B]
   simp[D,Array.getD_eq_getD_getElem?]
  ·obtain⟨u,D,B⟩:=z i j g o
   simp[Array.getD_eq_getD_getElem?,D,B]
  ·obtain⟨E,g⟩:=f i r k
   obtain⟨u,a1,a2,O⟩:=I _ j r d E C
   simp only[Array.getD_eq_getD_getElem?,a1,Option.getD_some]
   exact O
theorem Y3h {d d':D} {l:List Nat} {p:Prop} (b:Wy σ d=some (d',l,p)):d'.dat=true:=by
 unfold Wy at b
 repeat' split at b
 all_goals first
  | (cases b; first|rfl|assumption)
  | (cases b; done)
theorem Z68 (h:Zk Γ σ a w G β) {v:Value} {d d':D} {l:List Nat} {p:Prop} (E:Zh w G β v d) (f:Wy σ d=some (d',l,p)) (hp:p) (K:∀ b∈l,K8 σ G β b):
  Zh w G β v d'∧d'.dat=true:=by
 unfold Wy at f
 split at f
 ·rename_i b lo n
  split at f
  ·rename_i blk F
   split at f
   ·rename_i g
    cases f
    exact⟨Y3m h E F g hp (K b (by simp)),rfl⟩
   ·cases f
  ·cases f
 ·rename_i b i o
  split at f
  ·rename_i blk F
   split at f
   ·rename_i r H
    split at f
    ·rename_i s
     cases f
     refine⟨?_,rfl⟩
     cases E with
     | lptr _ _ _ c sz L=>
      obtain⟨rfl,hB⟩:=h.blk F L
      obtain⟨vs,e,fr,M,T,U,N⟩:=hB.cells
      have O:=K b (by simp) blk c F L
      have V:=hB.hsz i r H
      have W:i<blk.rows.length:=by
       rcases Nat.lt_or_ge i blk.rows.length with I|I
       ·exact I
       ·rw[List.getElem?_eq_none I] at H; cases H
      have t:∀ j,j<(r.drop o).length→i*blk.sz+o+j<blk.rows.length*blk.sz:=λj k=>by
       have:(i+1)*blk.sz≤blk.rows.length*blk.sz:=Nat.mul_le_mul_right _ (by omega)
       rw[Nat.add_mul] at this
       simp at k; omega
      have m:∀ j d,(r.drop o)[j]?=some d→∃ u,vs[i*blk.sz+o+j]?=some u∧one u=true∧Zh w G β u d:=λj d f=>by
       rw[List.getElem?_drop] at f
       obtain⟨u,a1,a2,J⟩:=N i (o+j) r d H f
       exact⟨u,by rw[← a1]; congr 1; omega,a2,J⟩
      refine .ptr c _ _ (λj=>vs.getD (i*blk.sz+o+j) Go.undef) (λj k=>by have:=t j k; omega) (λj k=>?_) (λj k=>?_) (λj d f=>?_) (λj d f=>?_)
      ·obtain⟨u,a1,-⟩:=m j _ (List.getElem?_eq_getElem k)
       rw[Jk,M]; simp[a1,Array.getD_eq_getD_getElem?]
      ·obtain⟨u,a1,a2,-⟩:=m j _ (List.getElem?_eq_getElem k)
       simp[a1,a2,Array.getD_eq_getD_getElem?]
      ·rw[List.getElem?_drop] at f
       exact List.all_eq_true.1 s d (List.mem_of_getElem? f)
      ·obtain⟨u,a1,a2,J⟩:=m j d f
       simp only[Array.getD_eq_getD_getElem?,a1,Option.getD_some]
       exact J
    ·cases f
   ·cases f
  ·cases f
 ·cases f
  refine⟨?_,rfl⟩
  cases E with
  | slnil _ x=>exact .slnil false x
  | sl c b off n cap sz rows val Q R y hsz z q A B C=>exact .sl false b off n cap sz _ val Q (λh=>by cases h) y hsz z q A B C
 ·split at f
  ·cases f; exact⟨E,by assumption⟩
  ·cases f
theorem Zz9 (h:Zk Γ σ a w G β):∀ {ds ds':List D} {l:List Nat} {p:Prop},Lz σ ds=some (ds',l,p)→p→(∀ b∈l,K8 σ G β b)→ds'.length=ds.length∧(∀ d∈ds',d.dat=true)∧
  ∀ (j:Nat) v d d',Zh w G β v d→ds[j]?=some d→ds'[j]?=some d'→Zh w G β v d'
 | [],ds',l,p,c,hp,g=>by cases c; exact⟨rfl,by simp,λj v d d' _ h=>by simp at h⟩
 | x :: r,ds',l,p,c,hp,g=>by
  unfold Lz at c
  split at c
  ·rename_i d1 n o q s t k m
   cases c
   obtain⟨k1,k2,k3⟩:=Zz9 h m hp.2 (λb i=>g b (by simp[i]))
   have key:∀ v,Zh w G β v x→Zh w G β v d1∧d1.dat=true:=λv f=>Z68 h f k hp.1 (λb i=>g b (by simp[i]))
   refine⟨by simp[k1],λd c=>?_,λj v d d' f c e=>?_⟩
   ·rcases List.mem_cons.1 c with rfl|c
    ·exact Y3h k
    ·exact k2 d c
   ·cases j with
    | zero=>simp at c e; subst c e; exact(key v f).1
    | succ j=>simp at c e; exact k3 j v d d' f c e
  ·cases c
theorem Z1w {v:Value} {d:D} (h:Zh w G β v d) (b:d.dat=true):Zh w G (λ_=>none) v d:=h.of_dat (λ_ _ _=>rfl) (λ_=>Nat.le_refl _) b
theorem Zt6 (h:Zk Γ σ a w G β) {v:Value} {d d':D} {l:List Nat} {p:Prop} (i:Zh w G β v d) (c:Lf σ d=some (d',l,p)) (hp:p) (k:∀ b∈l,K8 σ G β b):
  Zh w G (λ_=>none) v d':=by
 unfold Lf at c
 split at c
 ·rename_i cs
  split at c
  ·rename_i cs' l' x e
   cases c
   obtain⟨vs,rfl,o,f,g⟩:=L2 i
   obtain⟨k1,k2,k3⟩:=Zz9 h e hp k
   refine .agg vs cs' (by rw[k1]; exact o) f (λj u d q c=>?_)
   have m:j<cs.length:=by
    rcases Nat.lt_or_ge j cs'.length with n|n
    ·omega
    ·rw[List.getElem?_eq_none n] at c; cases c
   have r:=g j u _ q (List.getElem?_eq_getElem m)
   exact Z1w (k3 j u _ d r (List.getElem?_eq_getElem m) c) (k2 d (List.mem_of_getElem? c))
  ·cases c
 ·obtain⟨s,t⟩:=Z68 h i c hp k
  exact Z1w s t
theorem Zz3 (h:Zk Γ σ a w G β) {v:Value} {d d':D} {l:List Nat} {p:Prop} (e:Zh w G β v d) (c:Z2f σ d=some (d',l,p)) (hp:p) (f:∀ b∈l,K8 σ G β b):Zh w G β v d'∧d'.dat=true:=by
 unfold Z2f at c
 split at c
 ·cases c; exact⟨e,rfl⟩
 ·exact Z68 h e c hp f
theorem Zsz (h:Zk Γ σ a w G β):∀ {ds ds':List D} {l:List Nat} {p:Prop},Z2x σ ds=some (ds',l,p)→p→(∀ b∈l,K8 σ G β b)→ds'.length=ds.length∧
  ∀ (j:Nat) v d d',Zh w G β v d→ds[j]?=some d→ds'[j]?=some d'→Zh w G β v d'∧d'.dat=true
 | [],ds',l,p,c,hp,f=>by cases c; exact⟨rfl,λj v d d' _ h=>by simp at h⟩
 | x :: r,ds',l,p,c,hp,f=>by
  unfold Z2x at c
  split at c
  ·rename_i d1 n o q s t k m
   cases c
   obtain⟨k1,k3⟩:=Zsz h m hp.2 (λb g=>f b (by simp[g]))
   refine⟨by simp[k1],λj v d d' i c e=>?_⟩
   cases j with
   | zero=>simp at c e; subst c e; exact Zz3 h i k hp.1 (λb g=>f b (by simp[g]))
   | succ j=>simp at c e; exact k3 j v d d' i c e
  ·cases c
theorem Y3y (h:Zk Γ σ a w G β) {kp:Bool} {v:Value} {d d':D} {l:List Nat} {p:Prop} (i:Zh w G β v d) (c:Z4l kp σ d=some (d',l,p)) (hp:p) (k:∀ b∈l,K8 σ G β b):
  Zh w G (λ_=>none) v d':=by
 unfold Z4l at c
 split at c
 ·exact Zt6 h i c hp k
 ·split at c
  ·rename_i cs
   split at c
   ·rename_i cs' l' z e
    cases c
    obtain⟨vs,rfl,o,f,g⟩:=L2 i
    obtain⟨k1,k3⟩:=Zsz h e hp k
    refine .agg vs cs' (by rw[k1]; exact o) f (λj u d q c=>?_)
    have m:j<cs.length:=by
     rcases Nat.lt_or_ge j cs'.length with n|n
     ·omega
     ·rw[List.getElem?_eq_none n] at c; cases c
    have r:=g j u _ q (List.getElem?_eq_getElem m)
    obtain⟨s,t⟩:=k3 j u _ d r (List.getElem?_eq_getElem m) c
    exact Z1w s t
   ·cases c
  ·obtain⟨x,y⟩:=Zz3 h i c hp k
   exact Z1w x y
theorem Y0s (h:Zk Γ σ a w G β):∀ {ds ds':List D} {l:List Nat} {p:Prop},W3 σ ds=some (ds',l,p)→p→(∀ b∈l,K8 σ G β b)→ds'.length=ds.length∧
  ∀ (j:Nat) v d d',Zh w G β v d→ds[j]?=some d→ds'[j]?=some d'→Zh w G (λ_=>none) v d'
 | [],ds',l,p,c,hp,f=>by cases c; exact⟨rfl,λj v d d' _ h=>by simp at h⟩
 | x :: r,ds',l,p,c,hp,f=>by
  unfold W3 at c
  split at c
  ·rename_i d1 n o q s t k m
   cases c
   obtain⟨k1,k3⟩:=Y0s h m hp.2 (λb g=>f b (by simp[g]))
   refine⟨by simp[k1],λj v d d' i c e=>?_⟩
   cases j with
   | zero=>simp at c e; subst c e; exact Zt6 h i k hp.1 (λb g=>f b (by simp[g]))
   | succ j=>simp at c e; exact k3 j v d d' i c e
  ·cases c
theorem Z7x {σ σ':S} (h:L6 σ σ') (d:D):Wy σ' d=Wy σ d:=by
 have key:∀ b,(∃ k c,σ.heap b=some k∧σ'.heap b=some c∧c.pure=k.pure∧c.rows=k.rows)∨(σ.heap b=none∧σ'.heap b=none):=λb=>by
  have:=h b
  cases l:σ.heap b <;> cases m:σ'.heap b <;> simp[l,m] at this
  ·exact .inr ⟨rfl,rfl⟩
  ·exact .inl ⟨_,_,rfl,rfl,this.1,this.2⟩
 cases d <;> try rfl
 case lptr b i o=>rcases key b with ⟨k,c,e,f,j,g⟩|⟨e,f⟩ <;> simp only[Wy,e,f] <;> rw[g]
 case lsl b lo n=>rcases key b with ⟨k,c,e,f,j,g⟩|⟨e,f⟩ <;> simp only[Wy,e,f] <;> rw[j,g]
theorem Zxw {σ σ':S} (h:L6 σ σ'):∀ ds,Lz σ' ds=Lz σ ds
 | [] =>rfl
 | d::r=>by unfold Lz; rw[Z7x h,Zxw h r]
theorem Y0f {σ σ':S} (h:L6 σ σ') (d:D):Lf σ' d=Lf σ d:=by
 unfold Lf; split
 ·rw[Zxw h]
 ·exact Z7x h _
theorem Y14 {σ σ':S} (h:L6 σ σ') (d:D):Z2f σ' d=Z2f σ d:=by
 unfold Z2f; split
 ·rfl
 ·exact Z7x h _
theorem Zue {σ σ':S} (h:L6 σ σ'):∀ ds,Z2x σ' ds=Z2x σ ds
 | [] =>rfl
 | d::r=>by unfold Z2x; rw[Y14 h,Zue h r]
theorem Y1w {kp:Bool} {σ σ':S} (h:L6 σ σ') (d:D):Z4l kp σ' d=Z4l kp σ d:=by
 unfold Z4l; split
 ·exact Y0f h _
 ·split
  ·rw[Zue h]
  ·exact Y14 h _
theorem Zme {σ σ':S} (h:L6 σ σ'):∀ ds,W3 σ' ds=W3 σ ds
 | [] =>rfl
 | d::r=>by unfold W3; rw[Y0f h,Zme h r]
theorem Zfx (l:List Nat) {b:Nat} (h:K8 σ G β b):K8 (σ.freezeL l) G β b:=by
 intro blk c d e
 cases hs:σ.heap b with
 | none=>rw[(Zub l σ b).2 hs] at d; cases d
 | some k=>
  obtain⟨f,g⟩:=Zx3 l σ b hs
  rw[g] at d; cases d
  exact h k c hs e
theorem Z79 (h:Zk Γ σ a w G β) {ds ds':List D} {l:List Nat} {p:Prop} (c:W3 σ ds=some (ds',l,p)) (hp:p):
  ∃ G',Zk Γ (σ.freezeL l) a w G' β∧(∀ k,G k≤G' k)∧ds'.length=ds.length∧∀ (j:Nat) v d d',Zh w G β v d→ds[j]?=some d→ds'[j]?=some d'→Zh w G' (λ_=>none) v d':=by
 obtain⟨G',e,f,g⟩:=Zk.freezeL l h
 rw[← Zme (Z6l l σ)] at c
 obtain⟨k1,k2⟩:=Y0s e c hp (λb i=>Zfx l (g b i))
 exact⟨G',e,f,k1,λj v d d' m=>k2 j v d d' (m.mono (λ_ _ _=>rfl) f (λ_ _ h=>h) (.refl w))⟩
theorem Zpn {f:FuncId} (h:L5 P f=true) (args:Array Value) (w:World):(callFunc f args).run P w=.ok (.enter f args) w:=by
 unfold L5 at h
 split at h
 ·rename_i fn c
  simp only[Bool.and_eq_true,Bool.not_eq_true'] at h
  have b: ¬ fn.body=none:=by intro b; simp[b] at h
  have d : ¬ fn.name = "runtime.NumGoroutine" := by simpa using h.1
  simp[callFunc,c,d,b]
 ·cases h
theorem Y6y (F:Zk Γ σ a w G β) {o:Oper} {fo:Operand} {args:Array Operand} {ts:Array TypeId} (ho:o.op=.call { callee:= .value fo,args,argTypes:=ts }) {f:FuncId} (N:σ.ev fo=.fn f)
  {told:X8} {σ':S} {q:Prop} (h:Z50 P σ o f (args.toList.map σ.ev) told=some (σ',q)) (hq:q):Reach P Γ o a w σ':=by
 unfold Z50 at h
 split at h
 ·rename_i r hr
  split at h
  ·rename_i ds l p W
   split at h
   ·rename_i z
    have A:=J6 z
    have B:a.eval fo=.func (.func f) #[] #[] :=by
     have:=Wc F fo
     rw[N] at this
     generalize a.eval fo=u at this
     cases this; rfl
    have main:p→ds=(Kv told ds)→Z5v P f (Kv told ds) r→∀ (R:Act→World→Prop) (Q:Exit→Act→World→Prop),
      (∀ G' v w' G2,Zk Γ (σ.freezeL l) a w G' β→(∀ k,G k≤G' k)→Below w.heap.size w w'→(∀ c,c<w.heap.size→G2 c=G' c)→(∀ c,w'.heap.size≤c→G2 c=0)→Zh w' G2 (λ_=>none) v r→R (a.put o.dst v) w')→o.wp P a w R Q:=λhp C m R Q hR=>by
     obtain⟨G',y,K,X,Y⟩:=Z79 F W hp
     have g:M7 w G' (args.map a.eval) (Kv told ds):=by
      rw[← C]
      refine⟨by rw[X]; simp,λj v d hv W=>?_⟩
      simp only[Array.getElem?_map] at hv
      obtain⟨x,H,rfl⟩:=Qf hv
      exact Y j _ (σ.ev x) d (Wc F x) (by simp[H]) W
     have I:(execOp a.eval o).run P w=(callFunc f (args.map a.eval)).run P w:=by
      simp[execOp,ho,resolve,B,Deferred.ofValue,invoke]
     unfold Oper.wp
     rw[I]
     rcases m with ⟨O,J⟩|m
     ·rw[Zpn O,Oper.upon_enter]
      refine(J w G' _ y.fresh y.glob g).mono λe w' he=>?_
      obtain⟨v,G2,rfl,T,L,V,U⟩:=he
      exact hR G' v w' G2 y K T L V U
     ·obtain⟨v,e1,e2⟩:=m w G' _ g
      rw[e1]
      exact hR G' v w G' y K (.refl _ w) (λ_ _=>rfl) y.fresh e2
    split at h
    ·rename_i Z
     cases h
     obtain⟨hp,C,m⟩:=hq
     refine λnext Q hn=>main hp C m next Q λG' v w' G2 y K T L V U=>?_
     exact hn _ _ _ _ ((F.quiet T).put A (U.of_scalar Z))
    ·cases h
     obtain⟨hp,C,m⟩:=hq
     refine λnext Q hn=>main hp C m next Q λG' v w' G2 y K T L V U=>?_
     -- the marks behind the call
     have n:=y.quiet T
     have hG:∀ k,G' k≤G2 k:=λk=>by
      rcases Nat.lt_or_ge k w.heap.size with hk|hk
      ·rw[L k hk]; exact Nat.le_refl _
      ·rw[y.fresh k hk]; exact Nat.zero_le _
     have s:∀ b o,o<G' b→w'.cell? ⟨b,o,none⟩=w'.cell? ⟨b,o,none⟩:=λ_ _ _=>rfl
     have hC2:Zk Γ (σ.freezeL l) a w' G2 β:=by
      refine⟨n.defers,n.size,λt=>(n.tmps t).mono s hG (λ_ _ h=>h) (.refl w'),λb blk hb=>?_,n.dom,n.inj,n.kept,λc hc H=>?_,V,n.big,n.glob.mono s hG⟩
      ·rcases n.heap b blk hb with M|⟨c,M,hB⟩
       ·exact .inl M
       ·rcases y.heap b blk hb with ⟨D,-⟩|⟨c',D,hB'⟩
        ·rw[D] at M; cases M
        ·have hlt:=hB'.lt
         rw[D] at M; cases M
         exact .inr ⟨_,D,hB.mono s hG (L _ hlt) (λ_ _ h=>h) (.refl w') rfl⟩
      ·rw[L c (Nat.lt_of_lt_of_le hc y.big)]; exact y.marks c hc H
     refine hn _ _ _ _ (hC2.put ?_ (U.mono (λ_ _ _=>rfl) (λ_=>Nat.le_refl _) (λb x H=>by cases H) (.refl w')))
     intro t ht
     rw[(Z5d l σ).2]
     exact A t ht
   ·cases h
  ·cases h
 ·-- a pointer that comes back as it is
  split at h
  ·rename_i b i off g z
   cases h
   obtain⟨fn,y,K,X,Y,h5⟩:=hq
   have B:a.eval fo=.func (.func f) #[] #[] :=by
    have:=Wc F fo
    rw[N] at this
    generalize a.eval fo=u at this
    cases this; rfl
   obtain ⟨x,H,hxe⟩:∃ x,args= #[x]∧σ.ev x=.lptr b i off:=by
    obtain⟨l⟩:=args
    match l,g with
    | [x],g=>exact⟨x,rfl,by simpa using g⟩
    | [],g=>simp at g
    | _::_::_,g=>simp at g
   have E:=Wc F x
   rw[hxe] at E
   refine Reach.of_value (v:=a.eval x) ?_ (F.put (J6 z) E)
   subst H
   simp[execOp,ho,resolve,B,Deferred.ofValue,invoke,run_callFunc_extern y K X Y h5,Lib.run_noEscape]
  ·cases h
 ·cases h
end Go.Den
namespace Go.Den
open Go.RowKit
variable {P:Program} {Γ:Ctx} {σ:S} {a:Act} {w w':World} {G G':Nat→Nat} {β β':Nat→Option (Nat×Nat)}
theorem Y5l {v:Value} (h:one v=true):v.oneCell'=true:=by cases v <;> first|rfl|cases h
theorem Zgb (g off:Nat) (e:TypeId) (fr:Nat×Nat):∀ (vs:List Value) (i:Nat) (cur:Array Value) (w:World),w.heap[g]?=some (.cells cur e fr)→
  (∀ o,o<cur.size→ ¬ (fr.1≤o∧o<fr.2))→off+i+vs.length≤cur.size→(∀ v∈vs,one v=true)→
  ∃ cur',(storeCells ⟨g,off,none⟩ vs i).run P w=.ok () (w.setRow g cur')∧cur'.size=cur.size∧∀ k,cur'[k]?=if off+i≤k∧k<off+i+vs.length then vs[k - (off+i)]? else cur[k]?
 | [], i,cur,w,b,_,_,_=>by
  refine⟨cur,?_,rfl,λk=>by simp; omega⟩
  have p:g<w.heap.size:=(Array.getElem?_eq_some_iff.1 b).1
  have n:w.heap[g]=.cells cur e fr:=(Array.getElem?_eq_some_iff.1 b).2
  show Result.ok () w=_
  congr 1
  unfold World.setRow
  cases w with
  | mk heap tape drawn os output=>
   congr 1
   apply Array.ext
   ·simp
   ·intro k d l
    simp only[Array.getElem_modify]
    split
    ·rename_i q; subst q; simp at n; simp[n]
    ·rfl
 | v :: V0,i,cur,w,b,f,r,d=>by
  simp only[List.length_cons] at r
  have m:off+i<cur.size:=by omega
  have c:w.cell? ⟨g,off+i,none⟩=some cur[off+i] :=by simp[World.cell?,b,m]
  have j:w.frozen? ⟨g,off+i,none⟩=false:=by
   simp only[World.frozen?,b]
   have:=f (off+i) m
   simp only[Bool.and_eq_false_iff,decide_eq_false_iff_not]
   by_cases h:fr.1≤off+i
   ·exact .inr (by omega)
   ·exact .inl h
  have hst:(store ((⟨g,off,none⟩:Addr).add i) v).run P w=.ok () (w.setRow g (cur.setIfInBounds (off+i) v)):=by
   rw[Addr.add_none,run_store P w _ v _ (Y5l (d v (by simp))),c]
   simp[j,setCell_eq_setRow w g (off+i) cur e fr v b]
  obtain ⟨cur',s,t,u⟩:=Zgb g off e fr V0 (i+1) (cur.setIfInBounds (off+i) v) (w.setRow g (cur.setIfInBounds (off+i) v)) (setRow_heap w g cur _ e _ b)
   (λo y=>f o (by simpa using y)) (by simp; omega) (λx z=>d x (by simp[z]))
  refine⟨cur',?_,by simpa using t,λk=>?_⟩
  ·simp only[storeCells,Sem.run_bind,hst,Result.andThen_ok,s,setRow_setRow]
  ·rw[u k]
   simp only[List.length_cons]
   by_cases d:off+i=k
   ·subst d
    rw[if_neg (by omega),if_pos (by omega)]
    simp[m]
   ·by_cases l:off+i≤k∧k<off+i+(V0.length+1)
    ·rw[if_pos (by omega),if_pos l,show k - (off+i)=(k - (off+(i+1)))+1 by omega,List.getElem?_cons_succ]
    ·rw[if_neg (by omega),if_neg l]
     simp[d]
theorem Zlz {c:Nat} {cur cur':Array Value} {e:TypeId} {fr:Nat×Nat} (h:w.heap[c]?=some (.cells cur e fr)) (hs:cur'.size=cur.size) (own:Γ.B≤c∨Γ.X c) (b:∀ o,o<G c→cur'[o]?=cur[o]?):
  K9 Γ G c w (w.setRow c cur'):=
 ⟨rfl,rfl,rfl,by simp,λk d=>setRow_other w c k cur' d,own,cur,e,fr,cur',h,setRow_heap w c cur cur' e fr h,hs,b⟩
theorem Y60 (M : Zk Γ σ a w G β) {o:Oper} {t:TypeId} {x y:Operand} (ho:o.op=.store t x y) {told:X8} {σ':S} {q:Prop} (h:Z1y P σ o t (σ.ev x) (σ.ev y) told=some (σ',q)) (hq:q):Reach P Γ o a w σ':=by
 unfold Z1y at h
 have O:=Wc M x
 have hy:=Wc M y
 split at h
 ·rename_i b i off Q
  rw[Q] at O
  split at h
  ·rename_i blk cs sz hb R hsz
   split at h
   ·rename_i z
    simp only[Bool.and_eq_true,beq_iff_eq] at z
    obtain⟨⟨hlen,B⟩,E⟩:=z
    obtain⟨c1,c2,c3⟩:=Znx hy R
    have main : ∀ r,blk.rows[i]?=some r→blk.frz≤i→off+cs.length≤r.length→Reach P Γ o a w ((σ.setB b (some { blk with rows:=blk.rows.set i (Qu r off cs) })).put o.dst .undef):=λr F T C=>by
     generalize hu:a.eval x=u at O
     cases O with
     | lptr _ _ _ c sz' hβ=>
      obtain⟨rfl,hB⟩:=M.blk hb hβ
      obtain⟨vs,e,fr,H,h2,h3,h4⟩:=hB.cells
      have U:=hB.hsz i r F
      have hi:i<blk.rows.length:=by
       rcases Nat.lt_or_ge i blk.rows.length with f|f
       ·exact f
       ·rw[List.getElem?_eq_none f] at F; cases F
      have I:(i+1)*blk.sz≤blk.rows.length*blk.sz:=Nat.mul_le_mul_right _ (by omega)
      rw[Nat.add_mul] at I
      have N:=(a.eval y).cells.toList
      obtain ⟨cur',e1,e2,J⟩:=Zgb (P:=P) c (i*blk.sz+off) e fr (a.eval y).cells.toList 0 vs w H h2 (by simp; omega) (λv N=>by
       obtain⟨j,V⟩:=List.getElem?_of_mem N
       exact c2 j v (by simpa using V))
      simp only[Nat.add_zero,Array.length_toList] at J
      have K:(execOp a.eval o).run P w=.ok .skip (w.setRow c cur'):=by
       simp[execOp,ho,Instr.storeAt,hu,Instr.sureAddr,storeVar,Kd hsz,show (a.eval y).cells.size=sz by omega,e1]
      have W:K9 Γ G c w (w.setRow c cur'):=Zlz H e2 hB.own λk hk=>by
       rw[J k,if_neg]
       intro hcon
       have h5:=hB.frz k hk
       have:blk.frz*blk.sz≤i*blk.sz:=Nat.mul_le_mul_right _ T
       omega
      refine Reach.of_skip K (G':=G) (β':=β) (Zk.put (σ:=σ.setB b (some { blk with rows:=blk.rows.set i (Qu r off cs) })) ?_ (λt X=>J6 E t X) (.undef _))
      refine M.write (c:=c) hb hβ W rfl ?_
      have m:∀ (l:Nat) n,(blk.rows.set i (Qu r off cs))[l]?=some n→(l=i∧n=Qu r off cs)∨(l≠i∧blk.rows[l]?=some n):=λl n f=>by
       rw[List.getElem?_set] at f
       by_cases hh:i=l
       ·subst hh
        simp[hi] at f
        exact .inl ⟨rfl,f.symm⟩
       ·rw[if_neg hh] at f
        exact .inr ⟨by omega,f⟩
      refine⟨hB.own,hB.pin,(λt X=>by obtain⟨vs2,fr2,g,gle⟩:=hB.ty t X; rw[H] at g; cases g; exact⟨_,_,setRow_heap w c vs cur' _ _ H,gle⟩),hB.frz,by simpa using hB.top,λhp l j n d A p=>?_,λl n A=>?_,cur',e,fr,setRow_heap w c vs cur' e fr H,λo ho=>h2 o (by omega),by simpa [e2] using h3,λl j n d A p=>?_⟩
      ·rcases m l n A with ⟨rfl,rfl⟩|⟨_,f⟩
       ·rw[Zm1 _ _ _ _ C] at p
        split at p
        ·have:cs.all D.dat=true:=by simpa [show blk.pure=true from hp] using B
         exact List.all_eq_true.1 this d (List.mem_of_getElem? p)
        ·exact hB.dat hp _ j r d F p
       ·exact hB.dat hp l j n d f p
      ·rcases m l n A with ⟨rfl,rfl⟩|⟨_,f⟩
       ·rw[Zt4 _ _ _ C]; exact U
       ·exact hB.hsz l n f
      ·have s:∀ v d,Zh w G β v d→Zh (w.setRow c cur') G β v d:=λv d N=>N.mono W.cells (λ_=>Nat.le_refl _) (λ_ _ h=>h) W.same
       rcases m l n A with ⟨rfl,rfl⟩|⟨Y,f⟩
       ·rw[Zm1 _ _ _ _ C] at p
        split at p
        ·rename_i V
         have L:j - off<(a.eval y).cells.size:=by omega
         refine⟨(a.eval y).cells[j - off],?_,c2 (j - off) _ (Array.getElem?_eq_getElem L),s _ _ (c3 (j - off) _ d (Array.getElem?_eq_getElem L) p)⟩
         show cur'[l*blk.sz+j]?=_
         rw[J,if_pos (by omega),show l*blk.sz+j - (l*blk.sz+off)=j - off by omega]
         simp
        ·rename_i V
         obtain⟨v,a1,a2,Z⟩:=h4 l j r d F p
         have hjl:j<r.length:=by
          rcases Nat.lt_or_ge j r.length with f|f
          ·exact f
          ·rw[List.getElem?_eq_none f] at p; cases p
         refine⟨v,?_,a2,s _ _ Z⟩
         show cur'[l*blk.sz+j]?=_
         rw[J,if_neg (by omega)]; exact a1
       ·obtain⟨v,a1,a2,Z⟩:=h4 l j n d f p
        have hjl:j<blk.sz:=by
         rw[← hB.hsz l n f]
         rcases Nat.lt_or_ge j n.length with f|f
         ·exact f
         ·rw[List.getElem?_eq_none f] at p; cases p
        refine⟨v,?_,a2,s _ _ Z⟩
        show cur'[l*blk.sz+j]?=_
        rw[J,if_neg ?_]
        ·exact a1
        ·rcases Nat.lt_or_gt_of_ne Y with h6|h6
         ·have:(l+1)*blk.sz≤i*blk.sz:=Nat.mul_le_mul_right _ (by omega)
          rw[Nat.add_mul] at this; omega
         ·have:(i+1)*blk.sz≤l*blk.sz:=Nat.mul_le_mul_right _ (by omega)
          rw[Nat.add_mul] at this; omega
    split at h
    ·cases h
     obtain⟨q1,q2,q3,q4⟩:=hq
     rw[← q4]
     exact main _ q2 q1 q3
    ·split at h
     ·cases h
      obtain⟨q1,q3,q4⟩:=hq
      rw[← q4]
      exact main _ (by assumption) q1 q3
     ·cases h
   ·cases h
  ·cases h
 ·cases h
theorem Ztg {α:Type} (sz:Nat):∀ (n:Nat) (cs:List D) (i:Nat),i<n→(Ld sz n cs)[i]?=some ((cs.drop (i*sz)).take sz)
 | 0,_,i,h=>by omega
 | n+1,cs,0,_=>by simp[Ld]
 | n+1,cs,i+1,h=>by
  simp only[Ld,List.getElem?_cons_succ]
  rw[Ztg (α:=α) sz n (cs.drop sz) i (by omega),List.drop_drop,Nat.add_mul,Nat.one_mul,Nat.add_comm sz]
theorem Zf4 (sz:Nat):∀ (n:Nat) (cs:List D),(Ld sz n cs).length=n
 | 0,_=>rfl
 | n+1,cs=>by simp[Ld,Zf4 sz n]
theorem Z8x {t e:TypeId} (h:Ls P t=some e):P.underlying t=some (.slice e):=by
 unfold Ls at h
 split at h
 ·cases h; assumption
 ·cases h
theorem Zwv {place:Nat→Option (Nat×Nat)}:∀ {ps:List (Nat×Value)} {vs vs':Array Value},Instr.fill place vs ps=some vs'→vs'.size=vs.size
 | [],vs,vs',h=>by simp[Instr.fill] at h; rw[h]
 | (i, v)::ps,vs,vs',h=>by
  unfold Instr.fill at h
  split at h
  ·cases h
  ·split at h
   ·cases h
   ·rename_i off size _ _
    have:=Zwv h
    rw[this,← Array.foldl_toList,Array.toList_zipIdx]
    exact(Zkb off v.cells.toList 0 vs).1
theorem Y3p (hC : Zk Γ σ a w G β) {o:Oper} {t:TypeId} {len:Nat} {parts:Array (Nat×Operand)} (O:o.op=.buildSlice t len parts) {told:X8} {σ':S} {q:Prop}
  (h:Wa P σ o told=some (σ',q)) (hq:q):Reach P Γ o a w σ':=by
 unfold Wa at h
 rw[O] at h
 dsimp only at h
 split at h
 ·rename_i e he
  split at h
  ·rename_i ie I
   split at h
   ·rename_i ds l p m
    split at h
    ·rename_i cs hf
     split at h
     ·rename_i D
      simp only[Bool.and_eq_true,Nat.ble_eq] at D
      obtain⟨⟨B,hlim⟩,V⟩:=D
      obtain⟨z,hz⟩:=Option.isSome_iff_exists.1 V
      obtain⟨i0,zv,Q,W,z1,z2,z3⟩:=Zbw hz
      rw[I] at Q; cases Q
      have hp:p:=by
       split at h
       ·split at h
        ·split at h
         ·cases h; exact hq
         ·cases h; exact hq.1
        ·cases h
       ·obtain⟨-,-,-,-,-,X⟩:=Z12 h
        rw[← X]; exact hq
      obtain⟨G',J,h2,h3,h4⟩:=Z79 hC m hp
      have hsz:Um P e=some ie.size:=by simp[Um,I]
      -- the cells
      have K:Z7e w G' (λ_=>none) ((Array.range (len*ie.size)).map (zv.cells[· % zv.cells.size]!)) (List.replicate (len*ie.size) .undef):=by
       refine⟨by simp,λj u N=>?_,λj u d N m=>?_⟩
       ·simp only[Array.getElem?_map] at N
        obtain⟨k,hk,rfl⟩:=Qf N
        rcases Nat.lt_or_ge (k % zv.cells.size) zv.cells.size with A|A
        ·exact z2 _ _ (by rw[getElem!_pos zv.cells _ A]; exact Array.getElem?_eq_getElem A)
        ·rw[getElem!_neg zv.cells _ (by omega)]; rfl
       ·have:d=.undef:=by
         rw[List.getElem?_replicate] at m
         split at m <;> cases m; rfl
        subst this; exact .undef _
      obtain ⟨vs',Y,F⟩:=Zpl (w:=w) (G:=G') (β:=λ_=>none) _ (parts.toList.map λx=>(x.1,a.eval x.2)) _ _ cs K (by
       rw[List.map_fst_zip]
       ·simp
       ·rw[h3]; simp) (λj p u hp N=>by
       simp only[List.getElem?_map] at N
       obtain⟨x,hx,rfl⟩:=Qf N
       obtain⟨hp1,Z⟩:=List.getElem?_zip_eq_some.1 hp
       exact h4 j _ (σ.ev x.2) p.2 (Wc hC x.2) (by simp[hx]) Z) hf
      have H:(execOp a.eval o).run P w=.ok (.value (.slice (some ⟨w.heap.size,0,none⟩) len len)) (w.alloc (.cells vs' e)):=by
       have L: ¬ (16777216<len*ie.size):=by omega
       simp only[execOp,O]
       refine Z2y ?_
       unfold Instr.buildSlice
       simp only[Sem.run_bind,run_underlying (Z8x he),Result.andThen_ok,Kd hsz]
       rw[if_neg L]
       simp[newRow]
       by_cases h0:len*ie.size=0
       ·have f1':Instr.fill (λi=>some (i*ie.size,ie.size)) (Array.map (λ_=>default) (Array.range (len*ie.size))) (parts.toList.map λx=>(x.1,a.eval x.2))=some vs':=by
         rw[← Y]; congr 1; rw[h0]; simp[Array.range_zero']
        rw[if_pos h0,f1']
        simp
       ·rw[if_neg h0]
        simp[zeroValue,typeInfo,I,W,Y]
      have M:cs.length=len*ie.size:=by rw[F.1,Zwv Y]; simp
      have E:∀ (i:Nat) r,(Ld ie.size len cs)[i]?=some r→i<len∧r=(cs.drop (i*ie.size)).take ie.size:=λi r v=>by
       have C:i<len:=by
        rcases Nat.lt_or_ge i len with A|A
        ·exact A
        ·rw[List.getElem?_eq_none (by rw[Zf4]; exact A)] at v; cases v
       rw[Ztg (α:=Nat) ie.size len cs i C] at v
       cases v
       exact⟨C,rfl⟩
      have y:∀ i,i<len→i*ie.size+ie.size≤len*ie.size:=λi C=>by
       have:(i+1)*ie.size≤len*ie.size:=Nat.mul_le_mul_right _ (by omega)
       rw[Nat.add_mul] at this; omega
      have n:∀ (i j:Nat) r d,(Ld ie.size len cs)[i]?=some r→r[j]?=some d→cs[i*ie.size+j]?=some d∧j<ie.size:=λi j r d v m=>by
       obtain⟨C,rfl⟩:=E i r v
       rw[List.getElem?_take] at m
       split at m
       ·rw[List.getElem?_drop] at m; exact⟨m,by assumption⟩
       ·cases m
      split at h
      ·-- never written
       split at h
       ·rename_i R
        have hR:σ'=(σ.freezeL l).put o.dst (.sl true (Ld ie.size len cs)):=by
         split at h
         ·cases h; rfl
         ·cases h; rw[hq.2]
        subst hR
        have hq:=J.quiet (M1 w (.cells vs' e))
        have hlt:w.heap.size<(w.alloc (.cells vs' e)).heap.size:=Zeb (Lm w _)
        have hnb:∀ b s,β b≠some (w.heap.size,s):=λb s hb=>by
         obtain⟨k,hk⟩:=J.dom b _ hb
         have:=(J.blk' hk hb).lt
         omega
        have hG0:G' w.heap.size=0:=J.fresh _ (Nat.le_refl _)
        have hm:=hq.mark hnb J.big hlt (k:=vs'.size) (by omega)
        have hvs:vs'.size=len*ie.size:=by rw[← F.1,M]
        refine Reach.of_value H (hm.put (λt T=>by rw[(Z5d l σ).2]; exact J6 R t T) ?_)
        refine .sl true w.heap.size 0 len len ie.size _ (λi j=>vs'.getD (i*ie.size+j) Go.undef) (by rw[Zf4]) (λ_=>rfl) (Nat.le_refl _) (λi r v=>?_) (λi j C U=>?_) (λi j C U=>?_) (λi j C U=>?_) (λi j r d v m=>?_) (λi j r d v m=>?_)
        ·obtain⟨C,rfl⟩:=E i r v
         have:=y i C
         simp; omega
        ·have:=y i C
         simp only[if_true]; omega
        ·have:=y i C
         have f:i*ie.size+j<vs'.size:=by omega
         rw[Jk,Lm]
         simp[Array.getD_eq_getD_getElem?,f]
        ·have:=y i C
         have f:i*ie.size+j<vs'.size:=by omega
         have:=F.2.1 (i*ie.size+j) vs'[i*ie.size+j] (Array.getElem?_eq_getElem f)
         simpa [Array.getD_eq_getD_getElem?,f] using this
        ·obtain⟨g,-⟩:=n i j r d v m
         exact List.all_eq_true.1 B d (List.mem_of_getElem? g)
        ·obtain⟨g,U⟩:=n i j r d v m
         have f:i*ie.size+j<vs'.size:=by
          rw[← F.1]
          rcases Nat.lt_or_ge (i*ie.size+j) cs.length with A|A
          ·exact A
          ·rw[List.getElem?_eq_none A] at g; cases g
         have h5:=F.2.2 (i*ie.size+j) vs'[i*ie.size+j] d (Array.getElem?_eq_getElem f) g
         have e1:vs'.getD (i*ie.size+j) Go.undef=vs'[i*ie.size+j] :=by simp[Array.getD_eq_getD_getElem?,f]
         rw[e1]
         exact h5.of_dat (λb o O=>Z0b ((M1 w _).block b (J.marksLt O)) o) (λc=>by
          show G' c≤(if c=w.heap.size then vs'.size else G' c)
          split
          ·rename_i hc; rw[hc,hG0]; exact Nat.zero_le _
          ·exact Nat.le_refl _) (List.all_eq_true.1 B d (List.mem_of_getElem? g))
       ·cases h
      refine Reach.new J h H (λt' ht'=>?_) (λo O=>by simp) ⟨rfl,rfl,λt T=>by unfold tyR at T; split at T <;> cases T; exact⟨rfl,Nat.le_refl _⟩⟩ (λi r v=>?_) (λ_ i j r d v m=>?_) (by rw[Zf4,F.1.symm.trans M]; exact Nat.le_refl _) (λi j r d v m=>?_)
      ·have:=Zh.lsl (w:=w.alloc (.cells vs' e)) (G:=G') (β:=upd β t' (some (w.heap.size,ie.size))) t' 0 len len w.heap.size ie.size 0 (by simp[upd]) (Nat.le_refl _) (.inr (by simp)) ⟨vs',e,(0,0),Lm w _,.inr (by rw[← F.1,M]; simp)⟩
       exact this
      ·obtain⟨C,rfl⟩:=E i r v
       have:=y i C
       show _=ie.size
       simp; omega
      ·obtain⟨g,-⟩:=n i j r d v m
       exact List.all_eq_true.1 B d (List.mem_of_getElem? g)
      ·obtain⟨g,U⟩:=n i j r d v m
       have f:i*ie.size+j<vs'.size:=by
        rw[← F.1]
        rcases Nat.lt_or_ge (i*ie.size+j) cs.length with A|A
        ·exact A
        ·rw[List.getElem?_eq_none A] at g; cases g
       refine⟨vs'[i*ie.size+j],Array.getElem?_eq_getElem f,F.2.1 _ _ (Array.getElem?_eq_getElem f),?_⟩
       exact(F.2.2 _ _ d (Array.getElem?_eq_getElem f) g).of_dat (λ_ _ _=>rfl) (λ_=>Nat.le_refl _) (List.all_eq_true.1 B d (List.mem_of_getElem? g))
     ·cases h
    ·cases h
   ·cases h
  ·cases h
 ·cases h
theorem Y5z {v:Value} {d:D} (h:Zh w G β v d):Zh w G β v (Zoi d):=by
 unfold Zoi
 split
 ·cases h with
  | slnil _ x=>exact .slnil false x
  | sl c b off n cap sz rows val l m f hsz g e i j k=>exact .sl false b off n cap sz _ val l (λh=>by cases h) f hsz g e i j k
 ·exact h
theorem Y2f {t:TypeId} {cs:List D} (h:Z9y P t=some cs):∃ i v,P.info? t=some i∧i.zero=some v∧cs.length=v.cells.size∧(∀ (j:Nat) u,v.cells[j]?=some u→one u=true)∧
  ∀ (w:World) (G:Nat→Nat) (β:Nat→Option (Nat×Nat)) (j:Nat) u d,v.cells[j]?=some u→cs[j]?=some d→Zh w G β u d:=by
 unfold Z9y at h
 split at h
 ·rename_i z e
  cases h
  obtain⟨i,v,f,g,k,l,m⟩:=Zbw e
  refine⟨i,v,f,g,by simpa using k,l,λw G β j u d n c=>?_⟩
  rw[List.getElem?_map] at c
  obtain⟨d0,b,rfl⟩:=Qf c
  exact Y5z (m w G β j u d0 n b)
 ·cases h
theorem Y1l (y:Zk Γ σ a w G β) {o:Oper} {t:TypeId} {l c:Operand} (A:o.op=.makeSlice t l c) {told:X8} {σ':S} {q:Prop}
  (h:Wa P σ o told=some (σ',q)) (hq:q):Reach P Γ o a w σ':=by
 unfold Wa at h
 rw[A] at h
 dsimp only at h
 have N:=Wc y l
 have O:=Wc y c
 split at h
 ·rename_i e kl l' kc c' he B C
  rw[B] at N
  rw[C] at O
  have D:=Ww N
  have E:=Ww O
  split at h
  ·rename_i ie z n R
   split at h
   ·rename_i b
    simp only[Bool.and_eq_true,beq_iff_eq] at b
    obtain⟨m,F⟩:=b
    obtain⟨i0,zv,p,H,T,U,V⟩:=Y2f R
    rw[n] at p; cases p
    obtain⟨tt,ht,hb,W,rfl,I⟩:=Z12 h
    obtain⟨X,Y,q3,q4,q5⟩:0≤l'∧l'≤c'∧(ie.bytes:Int)*c'≤281474976710656∧c'≤9223372036854775807∧List.replicate l'.toNat z=told.rows.getD (List.replicate l'.toNat z):=by rw[← I]; exact hq
    have s:(execOp a.eval o).run P w=.ok (.value (.slice (some ⟨w.heap.size,0,none⟩) l'.toNat c'.toNat)) (w.alloc (.cells (madeCells zv.cells (c'.toNat*ie.size)) e)):=by
     simp only[execOp,A,D,E]
     exact Z2y (run_make w t e ie zv (Z8x he) n H kl kc l' c' X Y q3 q4)
    have f:∀ (i:Nat) r,(told.rows.getD (List.replicate l'.toNat z))[i]?=some r→i<l'.toNat∧r=z:=λi r g=>by
     rw[← q5,List.getElem?_replicate] at g
     split at g
     ·cases g; exact⟨by assumption,rfl⟩
     ·cases g
    have k:(told.rows.getD (List.replicate l'.toNat z)).length=l'.toNat:=by rw[← q5]; simp
    have J:l'.toNat*ie.size≤c'.toNat*ie.size:=Nat.mul_le_mul_right _ (by omega)
    refine Reach.new y h s (λK Z=>?_) (λo A=>by simp) ⟨rfl,rfl,λ_ h=>by cases h⟩ (λi r g=>?_) (λ_ i j r d g u=>?_) (by rw[k,size_madeCells]; exact J) (λi j r d g u=>?_)
    ·have:=Zh.lsl (w:=w.alloc (.cells (madeCells zv.cells (c'.toNat*ie.size)) e)) (G:=G) (β:=upd β K (some (w.heap.size,ie.size))) K 0 l'.toNat c'.toNat w.heap.size ie.size 0 (by simp[upd]) (by omega) (.inr (by simp))
      ⟨_,e,(0,0),Lm w _,.inr (by rw[size_madeCells]; simp)⟩
     show Zh _ _ _ _ (.lsl K 0 (told.rows.getD _).length)
     rw[k]
     exact this
    ·obtain⟨Q,rfl⟩:=f i r g
     exact m
    ·obtain⟨Q,rfl⟩:=f i r g
     exact List.all_eq_true.1 F d (List.mem_of_getElem? u)
    ·obtain⟨Q,rfl⟩:=f i r g
     have hj:j<ie.size:=by
      rw[← m]
      rcases Nat.lt_or_ge j r.length with L|L
      ·exact L
      ·rw[List.getElem?_eq_none L] at u; cases u
     have M:zv.cells.size=ie.size:=by rw[← T]; exact m
     have v:i*ie.size+j<c'.toNat*ie.size:=by
      have:(i+1)*ie.size≤c'.toNat*ie.size:=Nat.mul_le_mul_right _ (by omega)
      rw[Nat.add_mul] at this; omega
     have x:(i*ie.size+j) % zv.cells.size=j:=by
      rw[M,Nat.mul_comm,Nat.mul_add_mod,Nat.mod_eq_of_lt hj]
     refine⟨zv.cells[j]'(by omega),?_,U j _ (Array.getElem?_eq_getElem (by omega)),V w G β j _ d (Array.getElem?_eq_getElem (by omega)) u⟩
     show (madeCells zv.cells (c'.toNat*ie.size))[i*ie.size+j]?=_
     unfold madeCells
     rw[Array.getElem?_map,Array.getElem?_range,if_pos v]
     simp only[Option.map_some,x]
     rw[getElem!_pos zv.cells j (by omega)]
   ·cases h
  ·cases h
 ·cases h
end Go.Den
