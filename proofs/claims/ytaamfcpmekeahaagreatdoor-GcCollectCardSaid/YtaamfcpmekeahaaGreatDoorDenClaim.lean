/-
  Proofs in few words: what is told of a region carries its own proof; the state that a run has come to is not written out.
-/
import Derived.Test.YtaamfcpmekeahaaGreatDoorGcF
import Derived.Lib.SliceRun
import Derived.Test.YtaamfcpmekeahaaGreatDoorDenGc
import Derived.ProofKit
import Derived.OpenShut
import Derived.SizedLaws
set_option linter.unusedVariables false
set_option linter.unusedSimpArgs false
namespace Go.Den
open Go.RowKit
variable {P:Program} {Γ:Ctx} {σ σ':S}
namespace W
theorem a2 {p q:Prop} (hp:p) (hq:q):p∧q:=⟨hp,hq⟩
structure GT where
 t:X8
 g:Option Bool
 /-- it Lx something -/
 o:Bool
 q:Prop
 p:Prop
 hq:q
 hp:p
def GT.of (t:X8) {p:Prop} (h:p):GT:=⟨t,none,true,True∧p,p,⟨trivial,h⟩,h⟩
def g0:GT:=GT.of {} trivial
def bo:GT:=⟨{ ro:=true },none,false,True∧True,True,⟨trivial,trivial⟩,trivial⟩
def gw {b w:Bool} (h:b=w) (x:GT):GT:=⟨x.t,some true,true,((b==w)=true)∧x.p,x.p,⟨by simp[h],x.hp⟩,x.hp⟩
def gs0 {b:Bool} (h:b=true):GT:=⟨{},some false,true,(b==false)=false,True,by simp[h],trivial⟩
def gs1 {b:Bool} (h:b=false):GT:=⟨{},some false,true,(b==true)=false,True,by simp[h],trivial⟩
class Row (α:Type) where
 row:α→List D
 size:Nat
 hs:∀ x,(row x).length=size
instance {α:Type} [R:Row α]:Row (List α):=⟨rSl R.row,1,λ_=>rfl⟩
instance RI64:Row Int:=⟨Z5,1,λ_=>rfl⟩
abbrev RU8:Row Int:=⟨rU8,1,λ_=>rfl⟩
instance:Row Bool:=⟨Zu,1,λ_=>rfl⟩
instance:Row (List UInt8):=⟨Xy,1,λ_=>rfl⟩
def pA:D→Prop
 | .agg cs=>tN cs.length
 | _=>True
def pL:List D→Prop
 | [] =>True
 | d::r=>pA d∧pL r
theorem pLi:∀ l,pL l
 | [] =>trivial
 | d::r=>⟨by cases d <;> first|exact trivial|exact tNi _,pLi r⟩
def pR:D→Prop
 | .tup ds=>pL ds
 | d=>pL [d]
theorem pRi (d:D):pR d:=by cases d <;> exact pLi _
def pN (k:Nat):Nat→Prop
 | 0=>True
 | n+1=>tN k∧pN k n
theorem pNi (k:Nat):∀ n,pN k n
 | 0=>trivial
 | n+1=>⟨tNi k,pNi k n⟩
section
variable {f:FuncId} {A:List D} {r:D}
def k (h:Zi P f A r):GT:=GT.of { ans:= .val r } (p:=cq P (pL A) f A r) (cqi (pLi _) h)
def isRef:D→Bool
 | .lptr .. |.lsl .. |.clo .. |.lsk .. |.undef=>true
 | _=>false
def Znx:List D→List D
 | [] =>[]
 | d::l=>match isRef d with
  | true=>Znx l
  | false=>d::Znx l
def kB {p:Prop} (hp:p) (A1:List D) (a:A1=A) (h:Zi P f A r):GT:=GT.of { ans:= .val r,args:=A } (p:=p∧A1=A∧Z3q P f A r) ⟨hp,a,.inl h⟩
def koB {B B':List Blk} (names:List Nat) {p:Prop} (hp:p) (A1:List D) (a:A1=A) (h:Vs P f A B r B') (fresh nils:List (Nat×Nat):=[]) (kp:Bool:=false):GT:=
 GT.of { ans:= .val r,args:=A,io:=some { names,fresh,nils,bs:=B,bs':=B',kp } } (p:=p∧A1=A∧B=B∧Vs P f A B r B') ⟨hp,a,rfl,h⟩
def ko {B B':List Blk} (names:List Nat) (h:Vs P f A B r B') (fresh nils:List (Nat×Nat):=[]) (kp:Bool:=false):GT:=
 GT.of { ans:= .val r,io:=some { names,fresh,nils,bs:=B,bs':=B',kp } } (p:=cqo P (pL (Znx A)) f A B r B') (cqoi (pLi _) h)
end
def bl (m k:Nat):GT:=GT.of {} (pNi k m)
def br0 (m k:Nat):GT:=GT.of { ro:=true } (pNi k m)
def br2 {A:List (List D)} {p:Prop} (hp:p) (A1:List (List D)) (a:A1=A):GT:=GT.of { ro:=true,rows:=some A } (p:=(p∧True)∧A1=A) ⟨⟨hp,trivial⟩,a⟩
def qs {g q:Prop} (a:g) (hq:q) (e:Bool):GT:=GT.of { ans:= .val (.bool e) } (p:=g∧q∧e=e) ⟨a,hq,rfl⟩
def n {m:Int} {e:Int} (h:some e=some m) (k:IntKind:= .i64):GT:=GT.of { ans:= .val (.int k m) } (p:=e=m) (someE h)
def n8 {m:Int} {e:Int} (h:some e=some m):GT:=n h .u8
def kb {b v:Bool} (h:b=v):GT:=GT.of { ans:= .val (.bool v) } (p:=b=v) h
def py {b:Bool} (h:b=true):GT:=GT.of { ans:= .yes } (p:=b=true) h
def pn {b:Bool} (h:b=false):GT:=GT.of { ans:= .no } (p:=b=false) h
def ct {a b m:List UInt8} (h:Q7 a b=some m):GT:=GT.of { ans:= .val (.str m) } (Y3c h)
def dv {k:IntKind} {a b m:Int} (h:divK k a b=some m):GT:=GT.of { ans:= .val (.int k m) } (Y3w h)
def md {a b m:Int} (h:modK a b=some m) (k:IntKind:= .i64):GT:=GT.of { ans:= .val (.int k m) } (Y5e h)
def sl {k:IntKind} {a y m:Int} (h:M5 k a y=some m):GT:=GT.of { ans:= .val (.int k m) } (Y6h h)
def sr {k:IntKind} {a y m:Int} (h:shrK k a y=some m):GT:=GT.of { ans:= .val (.int k m) } (Y6i h)
def ib {s:List UInt8} {i m:Int} (h:Vw s i=some m):GT:=GT.of { ans:= .val (.int .u8 m) } h
def ss {s r:List UInt8} {lo a:Int} (h:sub s lo a=some r):GT:=GT.of { ans:= .val (.str r) } h
section
variable {α:Type} [R:Row α]
def ln (l:List α):GT:=GT.of { ans:= .val (.int .i64 l.length) } (p:=((l.map R.row).length:Int)=(l.length:Int)) (lenM _ _)
def ix {l:List α} {i:Int} {x:α} (h:Z4 l i=some x):GT:=GT.of { ans:= .row (R.row x) } (p:=Z4 (l.map R.row) i=some (R.row x)) (Y4e _ h)
def lb {l:List α} {j:Nat} {x:α} (h:l[j]?=some x):GT:=GT.of { ans:= .row (R.row x) } (p:=(l.map R.row)[j]?=some (R.row x)) (Mc _ h)
def ia (b:Nat) {l:List α} {i:Int} {j:Nat} (h:X7 i l.length=some j):GT:=
 GT.of { ans:= .val (.lptr b j 0) } (p:=0≤i∧i<(((l.map R.row).length:Nat):Int)∧((0:Nat):Int)+i=j) (Ka h (lenMN _ _))
def ax (i:Int) (m:Nat) (h:(decide (0≤i)&&decide (i<m))=true:=by kernel_rfl):GT:=
 GT.of {} (p:=0≤i∧i<m) (by rw[Bool.and_eq_true,decide_eq_true_eq,decide_eq_true_eq] at h; exact h)
def axs (m:Nat) {l:List (List UInt8)} {i:Int} {x:List UInt8} (h:Z4 l i=some x) (c:l.length=m:=by rfl):GT:=
 GT.of { ans:= .row [.str x] } (p:=0≤i∧i<m∧((l.map D.str).drop (i.toNat*1)).take [D.str x].length=[.str x]) (by
  unfold Z4 at h
  split at h
  ·rename_i b
   have a:=(List.getElem?_eq_some_iff.1 h).1
   refine⟨b,by omega,?_⟩
   rw[Nat.mul_one,← List.map_drop,List.drop_eq_getElem_cons a,(List.getElem?_eq_some_iff.1 h).2]
   rfl
  ·cases h)
def sb {l r:List α} {lo a:Int} (h:sub l lo a=some r):GT:=
 GT.of { ans:= .rows (r.map R.row) } (p:=(∀ x∈l.map R.row,x.length=R.size)∧sub (l.map R.row) lo a=some (r.map R.row)) ⟨szM R.hs _,subM _ h⟩
def sbN {l r:List α} {lo:Int} (h:sub l lo (l.length:Int)=some r):GT:=
 GT.of { ans:= .rows (r.map R.row) } (p:=(∀ x∈l.map R.row,x.length=R.size)∧sub (l.map R.row) lo ((l.map R.row).length:Int)=some (r.map R.row)) ⟨szM R.hs _,by rw[lenM]; exact subM _ h⟩
def rw_ (l:List α):D:= .sl false (((l.map R.row).drop 0).take (l.map R.row).length)
theorem rwE (l:List α):rw_ l=.sl false (l.map R.row):=by unfold rw_; rw[Zz9]
def rp (l:List α):Prop:=0+(l.map R.row).length≤(l.map R.row).length
theorem rpI (l:List α):rp l:=Zut _
def mk {by_:Nat} {l c:Int} {u:Unit} (z:α) (h:W2 by_ l c=some u):GT:=
 GT.of { rows:=some ((List.replicate l.toNat z).map R.row) } (p:=0≤l∧l≤c∧(by_:Int)*c≤281474976710656∧c≤9223372036854775807∧List.replicate l.toNat (R.row z)=(List.replicate l.toNat z).map R.row)
  ⟨(Zi0 h).1,(Zi0 h).2.1,(Zi0 h).2.2.1,(Zi0 h).2.2.2,repM _ _ _⟩
def an {by_:Nat} {l m:List α} {u b:Unit} (a:Zbq l m=some b) (h:Yp by_ (l++m).length=some u):GT:=
 GT.of { rows:=some ((l++m).map R.row) }
  (p:=True∧(l.map R.row=[]∨m.map R.row≠[])∧(∀ r∈l.map R.row,r.length=R.size)∧(∀ r∈m.map R.row,r.length=R.size)∧l.map R.row++m.map R.row=(l++m).map R.row∧((l++m).map R.row).length≤9223372036854775807∧((l++m).map R.row).length*by_≤140737488355328)
  ⟨trivial,freshM R.row a,szM R.hs _,szM R.hs _,appM _ _ _,Zbv h (lenMN _ _)⟩
theorem fr0 {γ β:Type} {m:List β}:Zbq ([]:List γ) m=some ():=rfl
def bsB (l:List Int):GT:=GT.of { ans:= .val (.str (bytesOf l)) } (p:=(0+(l.map rU8).length≤(l.map rU8).length)∧Mp (((l.map rU8).drop 0).take (l.map rU8).length)=some (bytesOf l)) ⟨Zut _,by rw[Zz9]; exact Y63 _⟩
def st {l:List α} {j:Nat} {x:α} (h:l[j]?=some x) (off:Nat) (cs:List D) (y:α) (a:Nat.ble (off+cs.length) (R.row x).length=true:=by kernel_rfl) (b:Qu (R.row x) off cs=R.row y:=by kernel_rfl):GT:=
 GT.of { row:=some (R.row x),rows:=some ((l.set j y).map R.row) }
  (p:=0≤j∧(l.map R.row)[j]?=some (R.row x)∧off+cs.length≤(R.row x).length∧(l.map R.row).set j (Qu (R.row x) off cs)=(l.set j y).map R.row)
  ⟨Nat.zero_le _,Mc _ h,Nat.le_of_ble_eq_true a,by rw[b]; exact setM _ _ _ _⟩
def ap {by_:Nat} {l m:List α} {u:Unit} (h:Yp by_ (l++m).length=some u):GT:=
 GT.of { rows:=some ((l++m).map R.row) }
  (p:=True∧(l.map R.row).length=(l.map R.row).length∧(∀ r∈m.map R.row,r.length=R.size)∧l.map R.row++m.map R.row=(l++m).map R.row∧((l++m).map R.row).length≤9223372036854775807∧((l++m).map R.row).length*by_≤140737488355328)
  ⟨trivial,rfl,szM R.hs _,appM _ _ _,Zbv h (lenMN _ _)⟩
end
structure GR where
 id:Nat
 l:List (Nat×GT)
 ord:List Nat:=[]
 xs:List Nat:=[]
def rg (id:Nat) (l:List (Nat×GT)):GR:={ id,l }
def rgx (id:Nat) (l:List (Nat×GT)) (xs:List Nat):GR:={ id,l,xs }
def rgq (id:Nat) (l:List (Nat×GT)) (ord xs:List Nat):GR:={ id,l,ord,xs }
def bitsN (m:Nat):List Nat:=(List.range 128).filter (m.testBit)
def Ztt:List (Nat×Nat)→Nat→Nat
 | [],_=>0
 | (k,m)::r,i=>match Nat.beq i k with
  | true=>m
  | false=>Ztt r i
def maskL (W:List (Nat×Nat)):List Nat→Nat→Nat
 | [],m=>m
 | c::r,m=>maskL W r (Nat.lor m (Nat.lor (Nat.shiftLeft 1 c) (Ztt W c)))
def Zk1 (ops:Array Oper):List Nat→List (Nat×Nat)→List (Nat×Nat)
 | [],W=>W
 | b::r,W=>match maskL W (K8 ops b) 0 with
  | 0=>Zk1 ops r W
  | m+1=>Zk1 ops r ((b,m+1)::W)
def unW (W:List (Nat×Nat)):List (Nat×List Nat):=W.map λx=>(x.1,bitsN x.2)
def ordF (x:GR) (n:Nat):List Nat:=match x.ord with
 | [] =>List.range n
 | l=>l
def gA {b:Bool} (h:b=true):Nat→Nat→List (Nat×GT)→List (Nat×GT)
 | _,0,l=>l
 | i,n+1,l=>(i,gs0 h)::gA h (i+1) n l
def gB {b:Bool} (h:b=false):Nat→Nat→List (Nat×GT)→List (Nat×GT)
 | _,0,l=>l
 | i,n+1,l=>(i,gs1 h)::gB h (i+1) n l
def gC {b w:Bool} (h:b=w):Nat→Nat→List (Nat×GT)→List (Nat×GT)
 | _,0,l=>l
 | i,n+1,l=>(i,gw h g0)::gC h (i+1) n l
def Zj3:List (Nat×GT)→List (Nat×X8)
 | [] =>[]
 | (i,x)::r=>(i,x.t)::Zj3 r
def gsG:List (Nat×GT)→List (Nat×Bool)
 | [] =>[]
 | (i,x)::r=>match x.g with
  | some b=>(i,b)::gsG r
  | none=>gsG r
def Z3f:List (Nat×GT)→List Prop→List Prop
 | [],q=>q
 | (_,x)::r,q=>match x.o with
  | true=>x.q::Z3f r q
  | false=>Z3f r q
def Lx:List GR→List Prop
 | [] =>[]
 | x::r=>Z3f x.l (Lx r)
theorem Zan:∀ (l:List (Nat×GT)) {q:List Prop},holds q→holds (Z3f l q)
 | [],_,h=>h
 | (_,x)::r,_,h=>by
  unfold Z3f
  split
  ·exact⟨x.hq,Zan r h⟩
  ·exact Zan r h
theorem Zue:∀ l:List GR,holds (Lx l)
 | [] =>trivial
 | x::r=>Zan x.l (Zue r)
def grAt:List GR→Nat→GR
 | [],i=>{ id:=i,l:=[] }
 | x::r,i=>match Nat.beq x.id i with
  | true=>x
  | false=>grAt r i
def Zb1 (o:Oper) (t:X8):Bool:=
 match o.op,t.ans with
 | .binOp .sub ..,.go|.binOp .mul ..,.go|.binOp .and ..,.go|.binOp .or ..,.go|.binOp .xor ..,.go|.binOp .andNot ..,.go=>true
 | _,_=>Jx o t
def Zb2 (σ:S) (o:Oper) (t:X8):Bool:=
 match o.op,t with
 | .store _ x v,{ row:=none,rows:=none,.. }=>
  match σ.ev x,cellsOf (σ.ev v) with
  | .lptr b i off,some cs=>
   match σ.heap b with
   | some blk=>match blk.rows[i]? with
    | some r=>Nat.ble blk.frz i&&Nat.ble (off+cs.length) r.length
    | none=>false
   | none=>false
  | _,_=>false
 | _,_=>false
theorem triv_st {o:Oper} {t:X8} (a:Zb2 σ o t=true) {p:Prop} (h:V1 P σ o t=some (σ',p)):p:=by
 unfold Zb2 at a
 split at a
 ·rename_i ty x v ans args io ro mt c
  split at a
  ·rename_i b i off cs m k
   split at a
   ·rename_i blk j
    split at a
    ·rename_i r l
     rw[Bool.and_eq_true] at a
     unfold V1 at h
     have d:Q1 P σ o ans=none:=by unfold Q1; rw[c]
     dsimp only at h
     rw[d] at h
     dsimp only at h
     unfold W7 at h
     rw[c] at h
     dsimp only at h
     unfold Z29 at h
     rw[m] at h
     dsimp only at h
     rw[j,k] at h
     split at h
     ·rename_i blk' cs' sz e g n
      cases e; cases g
      split at h
      ·rw[l] at h
       cases h
       exact⟨Nat.le_of_ble_eq_true a.1,Nat.le_of_ble_eq_true a.2,rfl⟩
      ·cases h
     ·cases h
    ·cases a
   ·cases a
  ·cases a
 ·cases a
def Zb0 (σ:S) (o:Oper) (t:X8):Bool:=
 match o.op,t.ans with
 | .binOp .add _ x _ _,.go=>(match σ.ev x with|.int .. =>true|_=>false)
 | _,_=>false
theorem triv_ad {o:Oper} {t:X8} (b:Zb0 σ o t=true) {p:Prop} (h:V1 P σ o t=some (σ',p)):p:=by
 unfold Zb0 at b
 split at b
 ·rename_i xt x y yt c e
  split at b
  ·rename_i k a g
   unfold V1 at h
   split at h
   ·rename_i d q hq
    split at h
    ·cases h
     unfold Q1 at hq
     rw[c,e] at hq
     dsimp only at hq
     unfold binD at hq
     rw[g] at hq
     generalize σ.ev y=z at hq
     cases z <;> first
      | (simp only[] at hq; split at hq; exact Z3c hq; cases hq)
      | cases hq
    ·cases h
   ·unfold W7 at h
    rw[c] at h
    cases h
  ·cases b
 ·cases b
theorem Y5j {k:IntKind} {n:Int} {d:D} {p:Prop} (h:U2 k n .go=some (d,p)):p:=by cases h; trivial
theorem Y4s {op:BinOp} (c:op=.add∨op=.sub∨op=.mul∨op=.and∨op=.or∨op=.xor∨op=.andNot) {k:IntKind} {a b:Int} {d:D} {p:Prop} (h:Zl7 op k a b .go=some (d,p)):p:=by
 rcases c with rfl|rfl|rfl|rfl|rfl|rfl|rfl <;> exact Y5j h
theorem Y6w {a b:List UInt8} {op:BinOp} (c:op=.add∨op=.sub∨op=.mul∨op=.and∨op=.or∨op=.xor∨op=.andNot) (e:op≠ .add) {d:D} {p:Prop} (h:Zj2 op a b .go=some (d,p)):p:=by
 rcases c with rfl|rfl|rfl|rfl|rfl|rfl|rfl
 ·exact absurd rfl e
 all_goals cases h
theorem Y72 {o:Oper} {t:X8} (g:Zb1 o t=true) {p:Prop} (h:V1 P σ o t=some (σ',p)):p:=by
 unfold Zb1 at g
 have main : ∀ op xt x y yt,o.op=.binOp op xt x y yt→t.ans=.go→(op=.sub∨op=.mul∨op=.and∨op=.or∨op=.xor∨op=.andNot)→p:=by
  intro op xt x y yt c e a
  have b:op=.add∨op=.sub∨op=.mul∨op=.and∨op=.or∨op=.xor∨op=.andNot:= .inr a
  unfold V1 at h
  split at h
  ·rename_i d q hq
   split at h
   ·cases h
    unfold Q1 at hq
    rw[c,e] at hq
    dsimp only at hq
    unfold binD at hq
    split at hq
    ·split at hq
     ·simp at a
     ·simp at a
     ·split at hq
      ·exact Y4s b hq
      ·cases hq
    ·exact Y6w b (by rintro rfl; simp at a) hq
    ·split at hq
     ·split at hq
      ·simp at a
      ·simp at a
      ·cases hq
     ·cases hq
    ·split at hq
     ·rename_i he; cases he
     ·cases hq
    ·exact Z5o hq
    ·exact Z5o hq
    ·split at hq
     ·exact Z5o hq
     ·cases hq
    ·cases hq
   ·cases h
  ·unfold W7 at h
   rw[c] at h
   cases h
 split at g <;> first
  | exact Y74 g h
  | (rename_i c e; exact main _ _ _ _ _ c e (by simp))
def trivG (ops:Array Oper) (told:List (Nat×X8)) (gs:List (Nat×Bool)) (i:Nat) (σ:S):Bool:=
 match ops[i]? with
 | none=>true
 | some o=>match o.guard with
  | none=>Zb1 o (W5 told i)||(Zb2 σ o (W5 told i)||Zb0 σ o (W5 told i))
  | some _=>match gAt gs i with
   | some _=>false
   | none=>match Uv ops σ o none with
    | some (true,_)=>Zb1 o (W5 told i)||(Zb2 σ o (W5 told i)||Zb0 σ o (W5 told i))
    | _=>true
theorem Zt7 {ops:Array Oper} {o:Oper} {b:Bool} {g:Prop} (h:Uv ops σ o none=some (b,g)):g:=by
 unfold Uv at h
 split at h
 ·cases h; trivial
 ·split at h
  ·split at h
   ·rename_i he; cases he
   ·split at h <;> cases h <;> trivial
  ·cases h; trivial
  ·cases h
theorem Zzd {o:Oper} {t:X8} (a:(Zb1 o t||(Zb2 σ o t||Zb0 σ o t))=true) {p:Prop} (h:V1 P σ o t=some (σ',p)):p:=by
 rw[Bool.or_eq_true] at a
 rw[Bool.or_eq_true] at a
 exact a.elim (λx=>Y72 x h) (λx=>x.elim (λx=>triv_st x h) (λx=>triv_ad x h))
theorem Zzc {ops:Array Oper} {told:List (Nat×X8)} {gs:List (Nat×Bool)} {i:Nat} (a:trivG ops told gs i σ=true) {p:Prop} (h:W3 P ops told gs i σ=some (σ',p)):p:=by
 unfold trivG at a
 unfold W3 at h
 cases d:ops[i]? with
 | none=>rw[d] at h; cases h; trivial
 | some o=>
  rw[d] at h a
  dsimp only at h a
  cases c:o.guard with
  | none=>
   rw[c] at a
   have e:Uv ops σ o (gAt gs i)=some (true,True):=by unfold Uv; rw[c]
   rw[e] at h
   dsimp only at h a
   split at h
   ·rename_i σ1 q hq; cases h; exact⟨trivial,Zzd a hq⟩
   ·cases h
  | some y=>
   rw[c] at a
   dsimp only at a
   split at a
   ·cases a
   ·rename_i j
    rw[j] at h
    split at h
    ·cases h
    ·rename_i g b
     rw[b] at a
     split at h
     ·rename_i σ1 q hq; cases h; exact⟨Zt7 b,Zzd a hq⟩
     ·cases h
    ·rename_i g b
     split at h
     ·cases h; exact Zt7 b
     ·cases h
def Z28 (P:Program) (ops:Array Oper) (told:List (Nat×X8)) (gs:List (Nat×Bool)) (xs:Option (List Nat)):List Nat→S→Option (S×List Prop)
 | [],σ=>some (σ,[])
 | i :: r,σ=>
  match (match xs with
   | none=>W3 P ops told gs i σ
   | some xs=>V5 P ops told gs xs i σ) with
  | some (σ',p)=>
   match Z28 P ops told gs xs r σ' with
   | some (σ'',q)=>match trivG ops told gs i σ with
    | true=>some (σ'',q)
    | false=>some (σ'',p::q)
   | none=>none
  | none=>none
theorem Zau {ops:Array Oper} {told:List (Nat×X8)} {gs:List (Nat×Bool)}:∀ (l:List Nat) {σ:S} {q:List Prop},Z28 P ops told gs none l σ=some (σ',q)→holds q→∃ p,Z0z P ops told gs l σ=some (σ',p)∧p
 | [],σ,q,h,hq=>by cases h; exact⟨True,rfl,trivial⟩
 | i :: r,σ,q,h,hq=>by
  unfold Z28 at h
  unfold Z0z
  dsimp only at h
  split at h
  ·rename_i σ1 c a
   split at h
   ·rename_i σ2 g b
    split at h
    ·rename_i d
     cases h
     obtain⟨p,e,hp⟩:=Zau r b hq
     exact⟨c∧p,by rw[a]; dsimp only; rw[e],Zzc d a,hp⟩
    ·cases h
     obtain⟨p,e,hp⟩:=Zau r b hq.2
     exact⟨c∧p,by rw[a]; dsimp only; rw[e],hq.1,hp⟩
   ·cases h
  ·cases h
theorem Zoe {ops:Array Oper} {told:List (Nat×X8)} {gs:List (Nat×Bool)} {xs:List Nat}:∀ (l:List Nat) {σ:S} {q:List Prop},Z28 P ops told gs (some xs) l σ=some (σ',q)→holds q→∃ p,Ms P ops told gs xs l σ=some (σ',p)∧p
 | [],σ,q,h,hq=>by cases h; exact⟨True,rfl,trivial⟩
 | i :: r,σ,q,h,hq=>by
  unfold Z28 at h
  unfold Ms
  dsimp only at h
  split at h
  ·rename_i σ1 c a
   split at h
   ·rename_i σ2 g b
    split at h
    ·rename_i d
     cases h
     obtain⟨p,e,hp⟩:=Zoe r b hq
     exact⟨c∧p,by rw[a]; dsimp only; rw[e],Zzc d (Zo4 a),hp⟩
    ·cases h
     obtain⟨p,e,hp⟩:=Zoe r b hq.2
     exact⟨c∧p,by rw[a]; dsimp only; rw[e],hq.1,hp⟩
   ·cases h
  ·cases h
def runRG (P:Program) (x:GR) (ops:Array Oper) (draw:Bool) (σ:S):Option (S×List Prop):=
 match draw with
 | false=>Z28 P ops (Zj3 x.l) (gsG x.l) none (List.range ops.size) σ
 | true=>
  match P.follows .mixedOrders&&ordOk ops x.xs (unW (Zk1 ops (ordF x ops.size) [])) (ordF x ops.size) with
  | true=>Z28 P ops (Zj3 x.l) (gsG x.l) (some x.xs) (ordF x ops.size) σ
  | false=>none
theorem Y69 {x:GR} {ops:Array Oper} {draw:Bool} {id:Nat} {q:List Prop} {Q:Exit→S→Prop} (h:runRG P x ops draw σ=some (σ',q)) (hq:holds q) (b:Q .normal σ'):DWP P Γ (.region id ops draw) Q σ:=by
 unfold runRG at h
 split at h
 ·obtain⟨p,e,hp⟩:=Zau _ h hq
  exact DWP.region e hp b
 ·split at h
  ·rename_i a
   simp only[Bool.and_eq_true] at a
   obtain⟨p,e,hp⟩:=Zoe _ h hq
   exact DWP.draw a.1 a.2 e hp b
  ·cases h
abbrev Out:=Option (Ev×S×List Prop)
def Out.s (A:Out):S:=match A with
 | some (_,σ,_)=>σ
 | none=>mkS 0 [] []
def Out.e (A:Out):Ev:=match A with
 | some (e,_,_)=>e
 | none=> .normal
def Out.q (A:Out):Option (List Prop):=match A with
 | some (_,_,q)=>some q
 | none=>none
def run (P:Program) (stops:List Nat) (rs:List GR):Nat→Option Code→List Xz→S→Out
 | 0,_,_,_=>none
 | n+1,none,K,σ=>
  match popN K with
  | some (z,K')=>run P stops rs n (some z) K' σ
  | none=>some (.normal,σ,[])
 | n + 1,some c,K,σ=>
  match c with
  | .skip=>run P stops rs n none K σ
  | .seq x y=>run P stops rs n (some x) (.seq y::K) σ
  | .block id x=>run P stops rs n (some x) (.blk id::K) σ
  | .exit id=>
   match Jv id K with
   | some K'=>run P stops rs n none K' σ
   | none=>some (.exit id,σ,[])
  | .ret=>some (.ret,σ,[])
  | .loop x=>some (.loop x K,σ,[])
  | .cond o x y=>
   match σ.ev o with
   | .bool b=>some (.cond b x y K,σ,[])
   | _=>none
  | .region id ops draw=>
   match Xq id stops with
   | true=>some (.stop c K,σ,[])
   | false=>
    match runRG P (grAt rs id) ops draw σ with
    | some (σ',q)=>
     match run P stops rs n none K σ' with
     | some (ev,σ'',a)=>some (ev,σ'',q++a)
     | none=>none
    | none=>none
  | _=>none
theorem Z3j {stops:List Nat} {rs:List GR} {Q:Exit→S→Prop}:∀ (n:Nat) {c:Option Code} {K:List Xz} {σ:S} {ev:Ev} {σ':S} {q:List Prop},
  run P stops rs n c K σ=some (ev,σ',q)→holds q→EvOk P Γ Q σ' ev→AtO P Γ c K Q σ
 | 0,_,_,_,_,_,_,h,_,_=>by cases h
 | n + 1,none,K,σ,ev,σ',q,h,hq,a=>by
  unfold run at h
  split at h
  ·rename_i z K' hp
   refine Zim (λo K'' d=>?_) (λd=>by rw[hp] at d; cases d)
   rw[hp] at d; cases d
   exact Z3j n h hq a
  ·rename_i hp
   cases h
   exact Zim (λo K'' d=>by rw[hp] at d; cases d) (λ_=>a)
 | n + 1,some c,K,σ,ev,σ',q,h,hq,a=>by
  unfold run at h
  show DWP P Γ c (Wn P Γ K Q) σ
  split at h
  ·exact DWP.skip (Z3j n h hq a)
  ·have:=Z3j n h hq a
   exact DWP.seq (DWP.mono this λe σ1 g=>by cases e <;> exact g)
  ·have:=Z3j n h hq a
   exact DWP.block (DWP.mono this λe σ1 g=>by cases e <;> exact g)
  ·split at h
   ·rename_i K' hp
    refine DWP.exit (Zat (λK'' d=>?_) (λd=>by rw[hp] at d; cases d))
    rw[hp] at d; cases d
    exact Z3j n h hq a
   ·rename_i hp
    cases h
    exact DWP.exit (Zat (λK'' d=>by rw[hp] at d; cases d) (λ_=>a))
  ·cases h; exact DWP.ret (Zin K a)
  ·cases h; exact a
  ·split at h
   ·rename_i b l
    cases h
    exact DWP.cond l a.1 a.2
   ·cases h
  ·rename_i id ops draw
   split at h
   ·cases h; exact a
   ·split at h
    ·rename_i σ1 p m
     split at h
     ·rename_i ev2 σ2 s k
      cases h
      obtain⟨i,j⟩:=Zkz hq
      exact Y69 m i (Z3j n k j a)
     ·cases h
    ·cases h
  ·cases h
theorem Zud {stops:List Nat} {rs:List GR} {Q:Exit→S→Prop} {n:Nat} {c:Option Code} {K:List Xz} (a:(run P stops rs n c K σ).q=some (Lx rs))
  (h:EvOk P Γ Q (run P stops rs n c K σ).s (run P stops rs n c K σ).e):AtO P Γ c K Q σ:=by
 cases b:run P stops rs n c K σ with
 | none=>rw[b] at a; cases a
 | some x=>
  obtain⟨ev,σ',q⟩:=x
  rw[b] at a h
  cases a
  exact Z3j n b (Zue rs) h
structure A (P:Program) (Γ:Ctx) (c:Code) (K:List Xz) (Q:Exit→S→Prop) (σ:S):Prop where
 h:At P Γ c K Q σ
structure E (P:Program) (Γ:Ctx) (Q:Exit→S→Prop) (σ:S) (ev:Ev):Prop where
 h:EvOk P Γ Q σ ev
structure RK (P:Program) (Γ:Ctx) (K:List Xz) (Q:Exit→S→Prop) (σ:S):Prop where
 h:Wn P Γ K Q .normal σ
structure AO (P:Program) (Γ:Ctx) (ops:Array Oper) (l:List Nat) (K:List Xz) (Q:Exit→S→Prop) (σ:S):Prop where
 h:Z62 P Γ ops l K Q σ
theorem go {c:Code} {K:List Xz} {Q:Exit→S→Prop} (stops:List Nat) (rs:List GR) (h:E P Γ Q (run P stops rs 400 (some c) K σ).s (run P stops rs 400 (some c) K σ).e)
  (a:(run P stops rs 400 (some c) K σ).q=some (Lx rs):=by kernel_rfl):A P Γ c K Q σ:=⟨Zud a h.h⟩
theorem goN {K:List Xz} {Q:Exit→S→Prop} (stops:List Nat) (rs:List GR) (h:E P Γ Q (run P stops rs 400 none K σ).s (run P stops rs 400 none K σ).e)
  (a:(run P stops rs 400 none K σ).q=some (Lx rs):=by kernel_rfl):RK P Γ K Q σ:=⟨Zud a h.h⟩
def eb:Ev→Option Bool|.cond b _ _ _=>some b|_=>none
def ex:Ev→Code|.cond _ x _ _=>x|.loop x _=>x|.stop x _=>x|_=> .skip
def ey:Ev→Code|.cond _ _ y _=>y|_=> .skip
def ek:Ev→List Xz|.cond _ _ _ K=>K|.loop _ K=>K|.stop _ K=>K|_=>[]
def et:Ev→Option Exit|.ret=>some .ret|.normal=>some .normal|.exit id=>some (.exit id)|_=>none
theorem br {Q:Exit→S→Prop} {ev:Ev} {β:Type} {b:Bool} {x y r:β} (h:(if b=true then x else y)=r) (T:b=true→x=r→A P Γ (ex ev) (ek ev) Q σ) (F:b=false→y=r→A P Γ (ey ev) (ek ev) Q σ)
  (a:eb ev=some b:=by kernel_rfl):E P Γ Q σ ev:=by
 cases ev <;> cases a
 exact⟨λe=>(T e (iteT e h)).h,λe=>(F e (iteF e h)).h⟩
theorem bT {Q:Exit→S→Prop} {ev:Ev} {b:Bool} (c:b=true) (h:A P Γ (ex ev) (ek ev) Q σ) (a:eb ev=some b:=by kernel_rfl):E P Γ Q σ ev:=by
 subst c
 cases ev <;> cases a
 exact⟨λ_=>h.h,λe=>Bool.noConfusion e⟩
theorem bF {Q:Exit→S→Prop} {ev:Ev} {b:Bool} (c:b=false) (h:A P Γ (ey ev) (ek ev) Q σ) (a:eb ev=some b:=by kernel_rfl):E P Γ Q σ ev:=by
 subst c
 cases ev <;> cases a
 exact⟨λe=>Bool.noConfusion e,λ_=>h.h⟩
theorem sp {p:Prop} {β:Type} {b:Bool} {x y r:β} (h:(if b=true then x else y)=r) (T:b=true→x=r→p) (F:b=false→y=r→p):p:=by
 cases a:b with
 | true=>exact T a (iteT a h)
 | false=>exact F a (iteF a h)
theorem bd {p:Prop} {α β:Type} {o:Option α} {f:α→Option β} {r:β} (h:o.bind f=some r) (k:∀ x,o=some x→f x=some r→p):p:=by
 obtain⟨x,a,b⟩:=bindE h
 exact k x a b
theorem so {Q:Exit→S→Prop} {ev:Ev} (h:A P Γ (ex ev) (ek ev) Q σ) (hs:(match ev with|.stop .. =>true|_=>false)=true:=by kernel_rfl):E P Γ Q σ ev:=by
 cases ev <;> first|exact⟨h.h⟩|cases hs
structure SL where
 n:Nat
 l:List (Nat×D)
 bl:List (Nat×Blk):=[]
def SL.s (x:SL):S:=mkS x.n x.l x.bl
def SL.ps (x:SL):List (Nat×Nat):=x.bl.map λb=>(b.1,b.1)
def SL.ts (x:SL):List Nat:=x.l.map λb=>b.1
def Sub (σ σ':S):Prop:=∀ (Γ:Ctx) a w G β,Zk Γ σ a w G β→∃ G' β',Zk Γ σ' a w G' β'
theorem conv1_n {x:U6} (h:σ.conv1 x=some σ'):σ'.n=σ.n:=by
 cases x <;> simp only[S.conv1] at h <;> repeat' split at h
 all_goals first|(cases h; rfl)|(cases h; done)
theorem Zs2:∀ (l:List U6) {σ:S},σ.conv l=some σ'→σ'.n=σ.n
 | [],_,h=>by cases h; rfl
 | x::l,σ,h=>by
  unfold S.conv at h
  split at h
  ·rename_i σ1 a; exact(Zs2 l h).trans (conv1_n a)
  ·cases h
theorem K1 {cv:List U6} {ps:List (Nat×Nat)} {x:SL} (h:(Uf cv x.ts ps σ,σ.n)=(some (x.l,x.bl),x.n)):Sub σ x.s:=λΓ a w G β e=>by
 have b:Uf cv x.ts ps σ=some (x.l,x.bl):=congrArg Prod.fst h
 have d:σ.n=x.n:=congrArg Prod.snd h
 unfold Uf at b
 split at b
 ·rename_i σ1 c
  have:=(e.conv cv c).gc b
  rw[Zs2 cv c,d] at this
  exact⟨_,_,this⟩
 ·cases b
theorem Sub.at {c:Code} {K:List Xz} {Q:Exit→S→Prop} (h:Sub σ σ') (d:At P Γ c K Q σ'):At P Γ c K Q σ:=λa w G β e=>by
 obtain⟨G',β',b⟩:=h Γ a w G β e
 exact d a w G' β' b
def isJ:Ev→Bool|.cond .. |.loop .. |.stop .. =>true|_=>false
theorem Sub.ev {Q:Exit→S→Prop} {ev:Ev} (h:Sub σ σ') (d:isJ ev=true) (a:EvOk P Γ Q σ' ev):EvOk P Γ Q σ ev:=by
 cases ev with
 | cond b x y K=>exact⟨λe=>h.at (a.1 e),λe=>h.at (a.2 e)⟩
 | loop c K=>exact h.at (c:= .loop c) a
 | stop c K=>exact h.at a
 | _=>cases d
theorem jn {Q:Exit→S→Prop} {ev ev':Ev} {x:SL} (h:E P Γ Q x.s ev') (cv:List U6:=[]) (ps:List (Nat×Nat):=x.ps)
  (a:(Uf cv x.ts ps σ,σ.n,ev,isJ ev')=(some (x.l,x.bl),x.n,ev',true):=by kernel_rfl):E P Γ Q σ ev:=by
 have b:=congrArg Prod.fst a
 have c:=congrArg (λx=>x.2.1) a
 have d:=congrArg (λx=>x.2.2.1) a
 have e:=congrArg (λx=>x.2.2.2) a
 dsimp only at b c d e
 subst d
 exact⟨Sub.ev (K1 (cv:=cv) (ps:=ps) (by rw[b,c])) e h.h⟩
theorem nm {Q:Exit→S→Prop} {ev:Ev} {x y:SL} (he:x=y) (h:E P Γ Q y.s ev) (a:(Uf [] x.ts x.ps σ,σ.n,isJ ev)=(some (x.l,x.bl),x.n,true):=by kernel_rfl):E P Γ Q σ ev:=by
 subst he
 have b:=congrArg Prod.fst a
 have c:=congrArg (λx=>x.2.1) a
 have d:=congrArg (λx=>x.2.2) a
 dsimp only at b c d
 exact⟨Sub.ev (K1 (cv:=[]) (ps:=x.ps) (by rw[b,c])) d h.h⟩
theorem cvE {Q:Exit→S→Prop} {ev:Ev} (l:List U6) (h:E P Γ Q ((σ.conv l).getD σ) ev) (e:((σ.conv l).isSome,isJ ev)=(true,true):=by kernel_rfl):E P Γ Q σ ev:=by
 have b:=congrArg Prod.fst e
 have d:=congrArg Prod.snd e
 dsimp only at b d
 cases c:σ.conv l with
 | none=>rw[c] at b; cases b
 | some σ'=>
  rw[c] at h
  exact⟨Sub.ev (λΓ a w G β g=>⟨G,β,g.conv l c⟩) d h.h⟩
def cutS (σ:S) (b t sz:Nat) (rows:List (List D)):S:=
 { σ with tmps:=λu=>if u=t then .lsl b 0 rows.length else σ.tmps u,heap:=λu=>if u=b then some { sz,rows,frz:=0,pure:=true } else σ.heap u }
theorem cut_sub {b t sz m:Nat} {rows rows':List (List D)} (C:σ.heap b=some { sz,rows,frz:=0,pure:=true }) (F:σ.tmps t=.lsl b 0 m) (g:rows.take m=rows') (E:m=rows'.length):Sub σ (cutS σ b t sz rows'):=λΓ a w G β h=>by
 subst g
 refine⟨G,β,h.defers,h.size,λu=>?_,λu k n=>?_,λu x n=>?_,h.inj,h.kept,h.marks,h.fresh,h.big,h.glob⟩
 ·show Zh w G β _ (if u=t then _ else _)
  split
  ·rename_i n; subst n
   rw[← E,← F]; exact h.tmps u
  ·exact h.tmps u
 ·have l:(if u=b then some { sz,rows:=rows.take m,frz:=0,pure:=true } else σ.heap u)=some k:=n
  split at l
  ·rename_i v; subst v
   cases l
   rcases h.heap u _ C with ⟨o,p,y⟩|⟨c,o,hB⟩
   ·refine .inl ⟨o,?_,rfl⟩
    have q:rows=[] :=p
    simp[q]
   ·refine .inr ⟨c,o,?_⟩
    obtain⟨own,pin,ty,frz,top,dat,hsz,vs,e,fr,p,y,z,B⟩:=hB
    have key:∀ (i:Nat) r,(rows.take m)[i]?=some r→rows[i]?=some r:=λi r g=>by
     rw[List.getElem?_take] at g
     split at g
     ·exact g
     ·cases g
    refine⟨own,pin,ty,frz,Nat.zero_le _,λhp i j r d g s=>dat hp i j r d (key i r g) s,λi r g=>hsz i r (key i r g),vs,e,fr,p,y,?_,λi j r d g s=>B i j r d (key i r g) s⟩
    refine Nat.le_trans (Nat.mul_le_mul_right sz ?_) z
    show (rows.take m).length≤rows.length
    rw[List.length_take]; omega
  ·exact h.heap u k l
 ·show ∃ blk,(if u=b then _ else _)=some blk
  split
  ·exact⟨_,rfl⟩
  ·exact h.dom u x n
def Z3m {α:Type} (l:List α) (a:Int):Option (List α):=if 0≤a∧a≤l.length then some (l.take a.toNat) else none
def ck {α:Type} [R:Row α] {l l':List α} {a:Int} (h:Z3m l a=some l'):GT:=GT.of {} (p:=0≤(0:Int)∧0≤a∧a≤(((l.map R.row).length:Nat):Int)) (by
 unfold Z3m at h
 split at h
 ·rename_i b; exact⟨Int.le_refl _,b.1,by simpa using b.2⟩
 ·cases h)
theorem ctE {Q:Exit→S→Prop} {ev:Ev} (b t:Nat) {α:Type} [R:Row α] {l l':List α} {i:Int} (a:Z3m l i=some l') (h:E P Γ Q (cutS σ b t R.size (l'.map R.row)) ev)
  (c:(σ.heap b,σ.tmps t,isJ ev)=(some { sz:=R.size,rows:=l.map R.row,frz:=0,pure:=true },.lsl b 0 i.toNat,true):=by kernel_rfl):E P Γ Q σ ev:=by
 have d:=congrArg Prod.fst c
 have e:=congrArg (λx=>x.2.1) c
 have g:=congrArg (λx=>x.2.2) c
 dsimp only at d e g
 unfold Z3m at a
 split at a
 ·rename_i j
  cases a
  exact⟨Sub.ev (cut_sub d e (by rw[List.map_take]) (by simp; omega)) g h.h⟩
 ·cases a
def evP (b:Bool):Nat→Nat→Code→List Xz→Ev
 | 0,_,_,_=> .normal
 | n + 1,p,c,K=>
  match Nat.beq p 1 with
  | true=>match c with
   | .loop x=> .loop x K
   | .cond _ x y=> .cond b x y K
   | c=> .stop c K
  | false=>match c,Nat.beq (p % 2) 0 with
   | .seq x y,true=>evP b n (p / 2) x (.seq y::K)
   | .seq _ y,false=>evP b n (p / 2) y K
   | .block id x,_=>evP b n (p / 2) x (.blk id::K)
   | .cond _ x _,true=>evP b n (p / 2) x K
   | .cond _ _ y,false=>evP b n (p / 2) y K
   | .loop x,_=>evP b n (p / 2) x []
   | _,_=> .normal
def Ur (fn:Func):Code:=fn.body.getD .skip
abbrev Jn (P:Program) (fn:Func) (Γ:Ctx) (Q:Exit→S→Prop) (p:Nat) (x:SL) (b:Bool:=true):Prop:=E P Γ Q x.s (evP b 900 p (Ur fn) [])
def lpC (fn:Func) (p:Nat):Code:=ex (evP true 900 p (Ur fn) [])
def fin:Ev→Bool|.ret|.normal=>true|_=>false
theorem rt {fn:Func} {ev:Ev} {α:Type} {x r:α} {R:α→D} (h:some x=some r) (c:(fin ev,Mo P fn σ)=(true,some (R x,tN fn.results.size∧pR (R x))):=by kernel_rfl):E P Γ (Ends P fn (R r)) σ ev:=by
 cases h
 have b:=congrArg Prod.fst c
 have a:=congrArg Prod.snd c
 dsimp only at b a
 cases ev <;> first|cases b|skip
 ·exact⟨⟨.inl rfl,_,a,tNi _,pRi _⟩⟩
 ·exact⟨⟨.inr rfl,_,a,tNi _,pRi _⟩⟩
theorem rtB {fn:Func} {ev:Ev} {α:Type} {x r:α} {R:α→D} (h:some x=some r) (d:D) {p:Prop} (hp:p) (e:d=R x) (c:(fin ev,Mo P fn σ)=(true,some (d,tN fn.results.size∧p)):=by kernel_rfl):E P Γ (Ends P fn (R r)) σ ev:=by
 cases h
 subst e
 have b:=congrArg Prod.fst c
 have a:=congrArg Prod.snd c
 dsimp only at b a
 cases ev <;> first|cases b|skip
 ·exact⟨⟨.inl rfl,_,a,tNi _,hp⟩⟩
 ·exact⟨⟨.inr rfl,_,a,tNi _,hp⟩⟩
theorem rtO {fn:Func} {m:Nat} {keep:List Bool} {ev:Ev} {α:Type} {x r:α} {R:α→D} {B:α→List Blk} (h:some x=some r) (d:D) (bs:List Blk) {p:Prop} (hp:p) (i:d=R x)
  (a:(fin ev,Je (List.range m),Z5r P fn m keep σ,bs)=(true,true,some (d,bs,tN fn.results.size∧p),B x):=by kernel_rfl):E P Γ (Z12 P fn m keep (R r) (B r)) σ ev:=by
 cases h
 subst i
 have g:=congrArg Prod.fst a
 have b:=congrArg (λx=>x.2.1) a
 have c:=congrArg (λx=>x.2.2.1) a
 have e:=congrArg (λx=>x.2.2.2) a
 dsimp only at g b c e
 cases ev <;> first|cases g|skip
 ·exact⟨⟨.inl rfl,b,_,_,c,⟨tNi _,hp⟩,e⟩⟩
 ·exact⟨⟨.inr rfl,b,_,_,c,⟨tNi _,hp⟩,e⟩⟩
theorem cs {f:FuncId} (fn:Func) {ds:List D} {r:D} (h:∀ {Γ:Ctx},A P Γ (Ur fn) [] (Ends P fn r) (mkS fn.ntmps (Vv 0 ds) []))
  (a:(P.funcs[f]?,fn.body,L5 P f,Nat.ble ds.length fn.ntmps)=(some fn,some (Ur fn),true,true):=by kernel_rfl):Zi P f ds r:=by
 have b:=congrArg Prod.fst a
 have c:=congrArg (λx=>x.2.1) a
 have d:=congrArg (λx=>x.2.2.1) a
 have e:=congrArg (λx=>x.2.2.2) a
 exact Zi.at _ b c d (Nat.le_of_ble_eq_true e) λ_=>h.h
theorem csO {f:FuncId} (fn:Func) {m:Nat} {keep:List Bool} {ds:List D} {bs bs':List Blk} {r:D} (h:∀ {Γ:Ctx},A P Γ (Ur fn) [] (Z12 P fn m keep r bs') (mkS fn.ntmps (Vv 0 ds) (We 0 bs)))
  (a:(P.funcs[f]?,fn.body,L5 P f,Nat.ble ds.length fn.ntmps)=(some fn,some (Ur fn),true,true):=by kernel_rfl):Vs P f ds bs r bs':=by
 have b:=congrArg Prod.fst a
 have c:=congrArg (λx=>x.2.1) a
 have d:=congrArg (λx=>x.2.2.1) a
 have e:=congrArg (λx=>x.2.2.2) a
 exact Vs.mk m keep b c d (Nat.le_of_ble_eq_true e) λ_=>h.h
structure JT (R:Type) where
 w:R→Exit→S→Prop
 e:R→Exit→S→Prop
 h:∀ r x σ,w r x σ→∃ σ',Sub σ σ'∧e r x σ'
def je {A:Type} (id:Nat) (st:A→SL):JT A where
 w a e σ:=e=.exit id∧Sub σ (st a).s
 e a e σ:=e=.exit id∧σ=(st a).s
 h _ _ _ h:=⟨_,h.2,h.1,rfl⟩
def jr {R:Type} (P:Program) (fn:Func) (res:R→D):JT R where
 w y e σ:=e=.ret∧Ends P fn (res y) .ret σ
 e y e σ:=e=.ret∧Ends P fn (res y) .ret σ
 h _ _ σ h:=⟨σ,λ_ _ _ G β a=>⟨G,β,a⟩,h⟩
def ju {A B:Type} (J:JT A) (J':JT B):JT (A⊕B) where
 w x:=match x with|.inl a=>J.w a|.inr b=>J'.w b
 e x:=match x with|.inl a=>J.e a|.inr b=>J'.e b
 h x e σ h:=match x with|.inl a=>J.h a e σ h|.inr b=>J'.h b e σ h
def Rd {T R:Type} (st:T→SL) (J:JT R) (x:Ctl T R):Exit→S→Prop:=λe σ=>
 match x with
 | .next t=>e=.normal∧Sub σ (st t).s
 | .done r=>e≠ .normal∧J.w r e σ
structure JQ {R:Type} (P:Program) (Γ:Ctx) (K:List Xz) (Q:Exit→S→Prop) (J:JT R) (r:R):Prop where
 h:∀ e σ,J.e r e σ→Wn P Γ K Q e σ
theorem lp {T R:Type} {Q:Exit→S→Prop} {ev:Ev} {c:Code} {f:T→Option (Ctl T R)} {st:T→SL} {J:JT R} {n:Nat} {t:T} {r:R} (v:Z8 f n t=some r)
  (hw:∀ {t x} {Γ:Ctx},f t=some x→A P Γ c [] (Rd st J x) (st t).s) (q:JQ P Γ (ek ev) Q J r) (cv:List U6:=[]) (ps:List (Nat×Nat):=(st t).ps)
  (g:(Uf cv (st t).ts ps σ,σ.n,ev)=(some ((st t).l,(st t).bl),(st t).n,.loop c (ek ev)):=by kernel_rfl):E P Γ Q σ ev:=by
 have k:=congrArg Prod.fst g
 have m:=congrArg (λx=>x.2.1) g
 have o:=congrArg (λx=>x.2.2) g
 dsimp only at k m o
 have hs:Sub σ (st t).s:=K1 (cv:=cv) (ps:=ps) (by rw[k,m])
 rw[o]
 refine⟨Sub.at (c:= .loop c) hs (DWP.loop (st:=λt=>(st t).s) (K:=J.e) (λt x y a w G β p=>?_) v q.h)⟩
 refine wp_mono ((hw (Γ:=Γ) y).h a w G β p) λe j w' ⟨σ',G',β',k1,k2⟩=>?_
 cases x with
 | next B=>
  obtain⟨rfl,b⟩:=k2
  obtain⟨G2,β2,d⟩:=b Γ j w' G' β' k1
  exact⟨_,G2,β2,d,rfl,rfl⟩
 | done z=>
  obtain⟨i,u⟩:=k2
  obtain⟨σ2,b,he⟩:=J.h _ _ _ u
  obtain⟨G2,β2,d⟩:=b Γ j w' G' β' k1
  exact⟨σ2,G2,β2,d,i,he⟩
theorem qe {Q:Exit→S→Prop} {K:List Xz} {A:Type} {id:Nat} {st:A→SL} {a:A} (h:RK P Γ ((Jv id K).getD []) Q (st a).s) (b:(Jv id K).isSome=true:=by kernel_rfl):JQ P Γ K Q (je id st) a:=by
 refine⟨?_⟩
 rintro e σ ⟨rfl,rfl⟩
 cases hp:Jv id K with
 | none=>rw[hp] at b; cases b
 | some K'=>rw[hp] at h; exact At.exitK hp h.h
theorem qr {K:List Xz} {R:Type} {fn:Func} {res:R→D} {y r:R} (h:some y=some r):JQ P Γ K (Ends P fn (res r)) (jr P fn res) y:=by
 cases h
 refine⟨?_⟩
 rintro e σ ⟨rfl,a⟩
 exact At.retK a
theorem ql {K:List Xz} {A R T:Type} {J:JT A} {J2:JT R} {st:T→SL} {y:A} {r:R} {x:Ctl T R} (h:some (Ctl.done r)=some x) (c:∀ e σ,J.e y e σ→e=.ret∧J2.w r .ret σ):JQ P Γ K (Rd st J2 x) J y:=by
 cases h
 refine⟨?_⟩
 intro e σ b
 obtain⟨rfl,a⟩:=c e σ b
 exact At.retK ⟨neRet,a⟩
theorem j1 {A B:Type} {K:List Xz} {Q:Exit→S→Prop} {J:JT A} {J':JT B} {a:A} (h:JQ P Γ K Q J a):JQ P Γ K Q (ju J J') (.inl a):=⟨h.h⟩
theorem j2 {A B:Type} {K:List Xz} {Q:Exit→S→Prop} {J:JT A} {J':JT B} {b:B} (h:JQ P Γ K Q J' b):JQ P Γ K Q (ju J J') (.inr b):=⟨h.h⟩
theorem nx {T R:Type} {ev:Ev} {st:T→SL} {J:JT R} {t:T} {x:Ctl T R} (h:some (Ctl.next t)=some x) (cv:List U6:=[]) (ps:List (Nat×Nat):=(st t).ps)
  (a:(Uf cv (st t).ts ps σ,σ.n,et ev)=(some ((st t).l,(st t).bl),(st t).n,some .normal):=by kernel_rfl):E P Γ (Rd st J x) σ ev:=by
 cases h
 have b:=congrArg Prod.fst a
 have c:=congrArg (λx=>x.2.1) a
 have d:=congrArg (λx=>x.2.2) a
 dsimp only at b c d
 cases ev <;> cases d
 exact⟨⟨rfl,K1 (cv:=cv) (ps:=ps) (by rw[b,c])⟩⟩
theorem nxE {T R:Type} {ev:Ev} {st:T→SL} {J:JT R} {t:T} {x:Ctl T R} {y:SL} (h:some (Ctl.next t)=some x) (he:y=st t) (ps:List (Nat×Nat):=y.ps)
  (a:(Uf [] y.ts ps σ,σ.n,et ev)=(some (y.l,y.bl),y.n,some .normal):=by kernel_rfl):E P Γ (Rd st J x) σ ev:=by
 cases h
 have b:=congrArg Prod.fst a
 have c:=congrArg (λx=>x.2.1) a
 have d:=congrArg (λx=>x.2.2) a
 dsimp only at b c d
 cases ev <;> cases d
 exact⟨⟨rfl,he ▸ K1 (cv:=[]) (ps:=ps) (by rw[b,c])⟩⟩
def isN:Exit→Bool|.normal=>true|_=>false
theorem dn {T R:Type} {ev:Ev} {st:T→SL} {J:JT R} {r:R} {x:Ctl T R} {e:Exit} (h:some (Ctl.done r)=some x) (g:J.w r e σ) (d:(et ev,isN e)=(some e,false):=by kernel_rfl):E P Γ (Rd st J x) σ ev:=by
 cases h
 have b:=congrArg Prod.fst d
 have c:=congrArg Prod.snd d
 dsimp only at b c
 have a:e≠ .normal:=by rintro rfl; cases c
 cases ev <;> cases b <;> exact⟨⟨a,g⟩⟩
theorem iE {A:Type} {id:Nat} {st:A→SL} {a:A} (cv:List U6:=[]) (ps:List (Nat×Nat):=(st a).ps)
  (b:(Uf cv (st a).ts ps σ,σ.n)=(some ((st a).l,(st a).bl),(st a).n):=by kernel_rfl):(je id st).w a (.exit id) σ:=⟨rfl,K1 b⟩
theorem iEE {A:Type} {id:Nat} {st:A→SL} {a:A} {y:SL} (he:y=st a) (ps:List (Nat×Nat):=y.ps)
  (b:(Uf [] y.ts ps σ,σ.n)=(some (y.l,y.bl),y.n):=by kernel_rfl):(je id st).w a (.exit id) σ:=⟨rfl,he ▸ K1 b⟩
theorem iR {R:Type} {fn:Func} {res:R→D} {y:R} (a:Mo P fn σ=some (res y,tN fn.results.size∧pR (res y)):=by kernel_rfl):(jr P fn res).w y .ret σ:=
 ⟨rfl,.inl rfl,_,a,tNi _,pRi _⟩
theorem i1 {A B:Type} {J:JT A} {J':JT B} {a:A} {e:Exit} (h:J.w a e σ):(ju J J').w (.inl a) e σ:=h
theorem i2 {A B:Type} {J:JT A} {J':JT B} {b:B} {e:Exit} (h:J'.w b e σ):(ju J J').w (.inr b) e σ:=h
theorem iS {R:Type} {fn:Func} {res:R→D} {y:R} {e:Exit} (h:(jr P fn res).e y e σ):e=.ret∧(jr P fn res).w y .ret σ:=⟨h.1,rfl,h.2⟩
def Z3h (P:Program) (ops:Array Oper) (l:List (Nat×GT)) (m:List Nat) (σ:S):Out:=match Z28 P ops (Zj3 l) (gsG l) none m σ with
 | some (σ',q)=>some (.normal,σ',q)
 | none=>none
theorem po {Q:Exit→S→Prop} {ev:Ev} (h:AO P Γ (Z0u (ex ev)) (List.range (Z0u (ex ev)).size) (ek ev) Q σ) (a:(match ev with|.stop c _=>Zl5 c|_=>false)=true:=by kernel_rfl):E P Γ Q σ ev:=by
 cases ev <;> first|cases a; done|exact⟨At.ops a rfl h.h⟩
theorem pr {ops:Array Oper} {l:List Nat} {K:List Xz} {Q:Exit→S→Prop} (m:Nat) (rs:List (Nat×GT)) (h:AO P Γ ops (l.drop m) K Q (Z3h P ops rs (l.take m) σ).s)
  (b:(Z3h P ops rs (l.take m) σ).q=some (Z3f rs []):=by kernel_rfl):AO P Γ ops l K Q σ:=by
 refine⟨?_⟩
 unfold Z3h at b h
 split at b
 ·rename_i σ1 q d
  rw[d] at h
  obtain⟨p,e,hp⟩:=Zau _ d (by cases b; exact Zan rs trivial)
  intro a w G β i
  rw[← List.take_append_drop m l]
  exact Zod _ i e hp λg w' G' β' c=>h.h g w' G' β' c
 ·cases b
theorem pe {ops:Array Oper} {l:List Nat} {K:List Xz} {Q:Exit→S→Prop} (h:RK P Γ K Q σ) (a:l.isEmpty=true:=by kernel_rfl):AO P Γ ops l K Q σ:=by
 cases l with
 | nil=>exact⟨Z62.done h.h⟩
 | cons=>cases a
abbrev Zp {α:Type} (f:α→List D):D:= .sl true (([]:List α).map f)
abbrev slF {α:Type} (f:α→List D) (l:List α):D:= .sl false (l.map f)
abbrev Zc (sz:Nat) (rows:List (List D)):Blk:={ sz,rows,frz:=0,pure:=false }
abbrev Zd (sz:Nat) (rows:List (List D)):Blk:={ sz,rows,frz:=0,pure:=true }
abbrev JnE (P:Program) (fn:Func) (Γ:Ctx) (d:D) (p:Nat) (x:SL) (b:Bool:=true):Prop:=Jn P fn Γ (Ends P fn d) p x b
theorem Z2 {c:Code} {K:List Xz} {Q:Exit→S→Prop} (h:E P Γ Q (run P [] [] 400 (some c) K σ).s (run P [] [] 400 (some c) K σ).e)
  (a:(run P [] [] 400 (some c) K σ).q=some (Lx []):=by kernel_rfl):A P Γ c K Q σ:=go [] [] h a
theorem Z0 {c:Code} {K:List Xz} {Q:Exit→S→Prop} (i:Nat) (l:List (Nat×GT)) (h:E P Γ Q (run P [] [rg i l] 400 (some c) K σ).s (run P [] [rg i l] 400 (some c) K σ).e)
  (a:(run P [] [rg i l] 400 (some c) K σ).q=some (Lx [rg i l]):=by kernel_rfl):A P Γ c K Q σ:=go [] [rg i l] h a
theorem Z3 {fn:Func} {c:Code} {K:List Xz} {α:Type} {x r:α} {R:α→D} (h:some x=some r) (a:(run P [] [] 400 (some c) K σ).q=some (Lx []):=by kernel_rfl)
  (b:(fin (run P [] [] 400 (some c) K σ).e,Mo P fn (run P [] [] 400 (some c) K σ).s)=(true,some (R x,tN fn.results.size∧pR (R x))):=by kernel_rfl):A P Γ c K (Ends P fn (R r)) σ:=go [] [] (rt h b) a
theorem Xs {fn:Func} {K:List Xz} {α:Type} {x r:α} {R:α→D} (h:some x=some r) (a:(run P [] [] 400 none K σ).q=some (Lx []):=by kernel_rfl)
  (b:(fin (run P [] [] 400 none K σ).e,Mo P fn (run P [] [] 400 none K σ).s)=(true,some (R x,tN fn.results.size∧pR (R x))):=by kernel_rfl):RK P Γ K (Ends P fn (R r)) σ:=goN [] [] (rt h b) a
theorem Z9 {ops:Array Oper} {l:List Nat} {K:List Xz} {Q:Exit→S→Prop} (h:E P Γ Q (run P [] [] 400 none K σ).s (run P [] [] 400 none K σ).e)
  (a:(run P [] [] 400 none K σ).q=some (Lx []):=by kernel_rfl) (he:l.isEmpty=true:=by kernel_rfl):AO P Γ ops l K Q σ:=pe (goN [] [] h a) he
theorem Zo {ops:Array Oper} {l:List Nat} {fn:Func} {K:List Xz} {α:Type} {x r:α} {R:α→D} (h:some x=some r) (a:(run P [] [] 400 none K σ).q=some (Lx []):=by kernel_rfl)
  (b:(fin (run P [] [] 400 none K σ).e,Mo P fn (run P [] [] 400 none K σ).s)=(true,some (R x,tN fn.results.size∧pR (R x))):=by kernel_rfl) (he:l.isEmpty=true:=by kernel_rfl):AO P Γ ops l K (Ends P fn (R r)) σ:=pe (Xs h a b) he
end W
end Go.Den
namespace Go.Den
namespace W
open Go.RowKit
variable {P:Program} {Γ:Ctx} {σ:S}
theorem slNil {w:World} {G:Nat→Nat} {β:Nat→Option (Nat×Nat)} {v:Value} {c:Bool} {rows:List (List D)} (h:Zh w G β v (.sl c rows)):∃ a n k,v=.slice a n k∧(a.isNone=true→rows=[]):=by
 cases h with
 | slnil c x=>exact⟨x,0,0,rfl,λ_=>rfl⟩
 | sl=>exact⟨_,_,_,rfl,λh=>by cases h⟩
theorem eN {ops:Array Oper} {l:List Nat} {K:List Xz} {Q:Exit→S→Prop} (i t t4:Nat) (ty ty2 e:TypeId) (c:Bool) (rows:List (List D)) (h:∀ b:Bool,(b=true→rows=[])→AO P Γ ops l.tail K Q (σ.put (some t4) (.bool b)))
  (q:(l.head?,(ops[i]?).map λo=>(o.dst,o.op,o.guard),σ.tmps t,P.underlying ty,Nat.blt t4 σ.n)=(some i,some (some t4,.binOp .eql ty (.tmp t) (.const (.slice none 0 0)) ty2,none),.sl c rows,some (.slice e),true):=by kernel_rfl):AO P Γ ops l K Q σ:=by
 simp only[Prod.mk.injEq,Option.map_eq_some_iff] at q
 obtain⟨m,⟨o,y,z,A,B⟩,C,E,F⟩:=q
 cases l with
 | nil=>cases m
 | cons j l=>
 cases m
 refine⟨λa w G β f=>?_⟩
 have r:=f.tmps t
 rw[C] at r
 obtain⟨x,n,k,L,I⟩:=slNil r
 have d:Zk Γ (σ.put (some t4) (.bool x.isNone)) (a.put (some t4) (.bool x.isNone)) w G β:=f.put (λu J=>by cases J; exact Nat.le_of_ble_eq_true F) (.bool _)
 rw[wpOps_cons]
 unfold wpOp
 rw[y]
 dsimp only
 rw[Zky f (o:=o) (g:=none) (b:=true) (p:=True) (by unfold Uv; rw[B]) trivial]
 refine .inl (Reach.of_value (v:= .bool x.isNone) (w':=w) (σ':=σ.put (some t4) (.bool x.isNone)) ?_ (by rw[z]; exact d) _ _ (λs w' G' β' d=>(h _ I).h s w' G' β' d))
 have hq:(binOp .eql ty (.slice x n k) (.slice none 0 0)).run P w=.ok (.bool x.isNone) w:=Lib.run_eql_slice_nil w _ _ x n k 0 0 E
 have H:a.eval (.tmp t)=.slice x n k:=L
 obtain⟨dst,op,ty',pos,after,guard⟩:=o
 cases A
 refine Z3k ?_
 rw[H]
 show (do eqGuard .eql ty (.tmp t) (.const (.slice none 0 0)) (.slice x n k) (.slice none 0 0); Go.binOp .eql ty (.slice x n k) (.slice none 0 0):Sem Value).run P w=_
 rw[Sem.run_bind,Z2n (by intro cs h; cases h) (by intro h; cases h)]
 exact hq
theorem bC {Q:Exit→S→Prop} {ev:Ev} {b:Bool} (T:b=true→A P Γ (ex ev) (ek ev) Q σ) (F:b=false→A P Γ (ey ev) (ek ev) Q σ) (a:eb ev=some b:=by kernel_rfl):E P Γ Q σ ev:=by
 cases ev <;> cases a
 exact⟨λe=>(T e).h,λe=>(F e).h⟩
theorem rk {K:List Xz} {Q:Exit→S→Prop} (x:SL) (cv:List U6) (ps:List (Nat×Nat)) (h:A P Γ (((popN K).getD (.skip,[])).1) (((popN K).getD (.skip,[])).2) Q x.s)
  (b:(Uf cv x.ts ps σ,σ.n,(popN K).isSome)=(some (x.l,x.bl),x.n,true):=by kernel_rfl):RK P Γ K Q σ:=by
 have c:=congrArg Prod.fst b
 have d:=congrArg (λx=>x.2.1) b
 have a:=congrArg (λx=>x.2.2) b
 dsimp only at c d a
 have hs:Sub σ x.s:=K1 (cv:=cv) (ps:=ps) (by rw[c,d])
 refine⟨Zim (λz K' hp=>?_) λhp=>?_⟩
 ·rw[hp] at h
  exact Sub.at hs h.h
 ·rw[hp] at a; cases a
theorem nilE {α:Type} [R:Row α] {l:List α} (h:l.map R.row=[]):l=[] :=by
 cases l with
 | nil=>rfl
 | cons=>cases h
end W
end Go.Den
namespace Go.Den
open Go.RowKit Go.ChangeShapes Go.WideShapes Go.ChangeAt
variable {P:Program}
def Le (w:World):Nat→Nat:=λb=>match w.heap[b]? with|some (.cells c _ _)=>c.size|_=>0
theorem Y4h (w:World):∀ c,w.heap.size≤c→Le w c=0:=λc a=>by
 unfold Le; rw[Array.getElem?_eq_none a]
theorem Zt5 {w:World} {b o:Nat} {v:Value} (h:w.cell? ⟨b,o,none⟩=some v):o<Le w b:=by
 rw[Jc] at h
 unfold Le
 split at h
 ·rename_i c e fr d
  rw[d]
  rcases Nat.lt_or_ge o c.size with a|a
  ·exact a
  ·rw[Array.getElem?_eq_none a] at h; cases h
 ·cases h
structure Mx (w:World) (vs:List Value) (ds:List D):Prop where
 len:ds.length=vs.length
 rep:∀ (j:Nat) v d,vs[j]?=some v→ds[j]?=some d→one v=true∧d.dat=true∧Zh w (Le w) (λ_=>none) v d
theorem Mx.append {w:World} {vs us:List Value} {ds es:List D} (h:Mx w vs ds) (k:Mx w us es):Mx w (vs++us) (ds++es):=by
 refine⟨by simp[h.len,k.len],λj v d b a=>?_⟩
 rw[List.getElem?_append] at b a
 rw[h.len] at a
 split at b
 ·rename_i c; rw[if_pos c] at a; exact h.rep j v d b a
 ·rename_i c; rw[if_neg c] at a; exact k.rep _ v d b a
structure J7 (P:Program) where
 q:{H:Type}→TypeId→DataW H→Prop
 qe:{H:Type}→List TypeId→List (DataW H)→Prop
 str:Nat
 hstr:∀ {H:Type} {t:TypeId} {s:List UInt8},P.underlying t=some .string→q t (DataW.lit (H:=H) (.string s))→s.length≤str
 hsl:∀ {H:Type} {t e:TypeId} {el sp:List (DataW H)},P.underlying t=some (.slice e)→q t (.slice el sp)→(∀ d∈el,q e d)∧el.length*P.bytesOf e≤reachBytes
 hst:∀ {H:Type} {t:TypeId} {fs:Array Field} {ds:List (DataW H)},P.underlying t=some (.struct fs)→q t (.agg ds)→qe (fs.toList.map (·.type)) ds
 hcons:∀ {H:Type} {t:TypeId} {ts:List TypeId} {d:DataW H} {ds:List (DataW H)},qe (t::ts) (d::ds)→q t d∧qe ts ds
theorem Zzj {H:Type} {e:TypeId}:∀ {l:List (DataW H)} {d:DataW H},d∈l→∀ k∈DataW.weights P e d,k∈DataW.weightsAll P e l
 | x::r,d,h,k,a=>by
  simp only[DataW.weightsAll,List.mem_append]
  rcases List.mem_cons.1 h with rfl|h
  ·exact .inl a
  ·exact .inr (Zzj h k a)
 | [],d,h,_,_=>by cases h
def J7.reach (P:Program):J7 P where
 q t d:=(DataW.weights P t d).all (· ≤reachBytes)=true
 qe ts ds:=(DataW.weightsEach P ts ds).all (· ≤reachBytes)=true
 str:=reachBytes
 hstr:=λ_ a=>by simpa [DataW.weights] using a
 hsl:=λ{H} {t} {e} {el} {sp} b a=>by
  simp only[DataW.weights,b,List.all_cons,Bool.and_eq_true,decide_eq_true_eq,List.all_eq_true] at a
  obtain⟨c,f⟩:=a
  refine⟨λd g=>?_,Nat.le_trans (Nat.mul_le_mul_right _ (by omega)) c⟩
  simp only[List.all_eq_true,decide_eq_true_eq]
  exact λk h=>f k (List.mem_append.2 (.inl (Zzj g k h)))
 hst:=λb a=>by
  simp only[DataW.weights,b] at a
  exact a
 hcons:=λa=>by
  simp only[DataW.weightsEach,List.all_append,Bool.and_eq_true] at a
  exact a
def Lg {T:Type} {P:Program} (M:J7 P) (t:TypeId) (row:T→List D) (wf:T→Prop):Prop:=
 ∀ (H:Type) (enc:TypeId×Value→H) (w:World) (n:Nat) (cs:List Value) (x:DataW H×List MemPlace),DataW.trod enc P w 0 (λ_=>true) true n t cs=some x→
  M.q t x.1→∃ y,Mx w cs (row y)∧wf y
abbrev Zl {T:Type} (P:Program) (t:TypeId) (row:T→List D) (wf:T→Prop):Prop:=Lg (J7.reach P) t row wf
variable {M:J7 P}
theorem Z3y {w:World} {v:Value} {d:D} (b:one v=true) (c:d.dat=true) (h:Zh w (Le w) (λ_=>none) v d):Mx w [v] [d] :=
 ⟨rfl,λj u e a he=>by
  cases j with
  | zero=>simp at a he; subst a he; exact⟨b,c,h⟩
  | succ j=>simp at a⟩
theorem Ze {t:TypeId} {k:IntKind} (a:P.underlying t=some (.int k)):Lg M t (λn:Int=>[.int k n]) (λn=>k.min≤n∧n≤k.max):=by
 intro H enc w n cs x h _
 obtain⟨m,rfl,rfl,hw⟩:=DataW.trod_int a h
 refine⟨m,Z3y rfl rfl (.int k m),?_⟩
 simpa [Lit.wf] using hw
theorem W4 {t:TypeId} (a:P.underlying t=some .bool):Lg M t (λb:Bool=>[.bool b]) (λ_=>True):=by
 intro H enc w n cs x h _
 obtain⟨b,rfl,rfl⟩:=DataW.trod_bool a h
 exact⟨b,Z3y rfl rfl (.bool b),trivial⟩
theorem Yb {t:TypeId} (a:P.underlying t=some .string):Lg M t (λs:List UInt8=>[.str s]) (λs=>s.length≤M.str):=by
 intro H enc w n cs x h b
 obtain⟨s,rfl,rfl,hs⟩:=DataW.trod_string a h
 exact⟨s.data.toList,Z3y rfl rfl (.str s),M.hstr a b⟩
theorem Ztk {T:Type}:∀ (n:Nat) (Q:Nat→T→Prop),(∀ i,i<n→∃ y,Q i y)→∃ ys:List T,ys.length=n∧∀ i y,ys[i]?=some y→Q i y
 | 0,_,_=>⟨[],rfl,λi y h=>by simp at h⟩
 | n + 1,Q,h=>by
  obtain⟨ys,c,d⟩:=Ztk n Q (λi e=>h i (by omega))
  obtain⟨y,f⟩:=h n (by omega)
  refine⟨ys++[y],by simp[c],λi z a=>?_⟩
  rw[List.getElem?_append] at a
  split at a
  ·exact d i z a
  ·rename_i e
   have:i=n:=by
    rcases Nat.lt_or_ge (i - ys.length) 1 with b|b
    ·omega
    ·rw[List.getElem?_eq_none (by simpa using b)] at a; cases a
   subst this
   rw[c,Nat.sub_self] at a
   simp at a; subst a; exact f
theorem Yd {T:Type} {t e:TypeId} {row:T→List D} {wf:T→Prop} (W:P.underlying t=some (.slice e)) (he:Lg M e row wf) (J:0<P.cellsOf e):
  Lg M t (λys:List T=>[.sl false (ys.map row)]) (λys=>(∀ y∈ys,wf y)∧ys.length*P.bytesOf e≤reachBytes):=by
 intro H enc w n cs x h hz
 rcases DataW.trod_slice W h with ⟨rfl,rfl⟩|⟨a,len,cap,elems,V0,m,rfl,rfl,rfl,hb,L,X,Y,s,z,-⟩
 ·exact⟨[],Z3y rfl rfl (.slnil false none),by simp,by simp⟩
 ·obtain⟨R,Q⟩:=M.hsl W hz
  have A:∀ i,i<len→∃ cs',w.cells? 0 (a.add (i*P.cellsOf e)) (P.cellsOf e)=some cs'∧∃ y,Mx w cs' (row y)∧wf y:=λi o=>by
   have g:=s i o
   rw[List.getElem?_eq_getElem (by omega)] at g
   obtain⟨cs',f,l⟩:=Option.bind_eq_some_iff.1 g
   obtain⟨y,F,G⟩:=he H enc w m cs' _ l (R _ (List.mem_map.2 ⟨elems[i],List.getElem_mem _,rfl⟩))
   exact⟨cs',f,y,F,G⟩
  by_cases I:cap=0
  ·subst I
   obtain rfl:len=0:=by omega
   exact⟨[],Z3y rfl rfl (.slnil false (some a)),by simp,by simp⟩
  ·have E:a.spot=none:=by
    have key:∀ cs',w.cells? 0 (a.add 0) (P.cellsOf e)=some cs'→a.spot=none:=λcs' h=>by
     obtain⟨_,g,f⟩:=World.cells?_some h
     have l:=f 0 J
     simp only[Addr.add,if_true] at l
     rw[List.getElem?_eq_getElem (by omega)] at l
     exact World.cell?_spot l
    by_cases Z:len=0
    ·subst Z
     obtain⟨hr1,N⟩:=z rfl
     have g:=N 0 (by omega)
     rw[List.getElem?_eq_getElem (by omega)] at g
     obtain⟨cs',f,-⟩:=Option.bind_eq_some_iff.1 g
     simp only[Nat.zero_add,Nat.zero_mul] at f
     exact key cs' f
    ·obtain⟨cs',f,-⟩:=A 0 (by omega)
     simp only[Nat.zero_mul] at f
     exact key cs' f
   obtain⟨b,off,spot⟩:=a
   cases E
   obtain ⟨ys,O,K⟩:=Ztk len (λi (y:T)=>∃ cs',w.cells? 0 ((⟨b,off,none⟩:Addr).add (i*P.cellsOf e)) (P.cellsOf e)=some cs'∧Mx w cs' (row y)∧wf y)
    (λi o=>by obtain⟨cs',g,y,f,l⟩:=A i o; exact⟨y,cs',g,f,l⟩)
   have c:∀ i y,ys[i]?=some y→(row y).length=P.cellsOf e∧∀ j,j<P.cellsOf e→∃ v d,w.cell? ⟨b,off+i*P.cellsOf e+j,none⟩=some v∧(row y)[j]?=some d∧one v=true∧d.dat=true∧Zh w (Le w) (λ_=>none) v d:=λi y k=>by
    obtain⟨cs',g,f,-⟩:=K i y k
    obtain⟨_,F,G⟩:=World.cells?_some g
    refine⟨f.len.trans F,λj q=>?_⟩
    have V:=G j q
    simp only[Addr.add_none] at V
    have S:cs'[j]?=some cs'[j] :=List.getElem?_eq_getElem (by omega)
    have U:(row y)[j]?=some ((row y)[j]'(by rw[f.len]; omega)):=List.getElem?_eq_getElem (by rw[f.len]; omega)
    obtain⟨k1,k2,k3⟩:=f.rep j _ _ S U
    exact⟨_,_,V.trans S,U,k1,k2,k3⟩
   have p:∀ i,i<len→∃ y,ys[i]?=some y:=λi o=>⟨ys[i],List.getElem?_eq_getElem (by omega)⟩
   refine⟨ys,Z3y rfl rfl ?_,⟨λy k=>?_,?_⟩⟩
   ·refine .sl false b off len cap (P.cellsOf e) _ (λi j=>(w.cell? ⟨b,off+i*P.cellsOf e+j,none⟩).getD Go.undef) (by simp[O]) (λh=>by cases h) L (λi r B=>?_) (λi j o q=>?_) (λi j o q=>?_) (λi j o q=>?_) (λi j r d B u=>?_) (λi j r d B u=>?_)
    ·rw[List.getElem?_map] at B
     obtain⟨y,k,rfl⟩:=Qg B
     exact(c i y k).1
    ·obtain⟨y,k⟩:=p i o
     obtain⟨v,d,g,-⟩:=(c i y k).2 j q
     exact Zt5 g
    ·obtain⟨y,k⟩:=p i o
     obtain⟨v,d,g,-⟩:=(c i y k).2 j q
     rw[g]; rfl
    ·obtain⟨y,k⟩:=p i o
     obtain⟨v,d,g,_,l,-⟩:=(c i y k).2 j q
     rw[g]; exact l
    ·rw[List.getElem?_map] at B
     obtain⟨y,k,rfl⟩:=Qg B
     have q:j<P.cellsOf e:=by
      rw[← (c i y k).1]
      rcases Nat.lt_or_ge j (row y).length with C|C
      ·exact C
      ·rw[List.getElem?_eq_none C] at u; cases u
     obtain⟨v,d',g,f,l,F,G⟩:=(c i y k).2 j q
     rw[f] at u; cases u; exact F
    ·rw[List.getElem?_map] at B
     obtain⟨y,k,rfl⟩:=Qg B
     have q:j<P.cellsOf e:=by
      rw[← (c i y k).1]
      rcases Nat.lt_or_ge j (row y).length with C|C
      ·exact C
      ·rw[List.getElem?_eq_none C] at u; cases u
     obtain⟨v,d',g,f,l,F,G⟩:=(c i y k).2 j q
     rw[f] at u; cases u
     rw[g]; exact G
   ·obtain⟨i,o⟩:=List.getElem?_of_mem k
    obtain⟨_,_,_,l⟩:=K i y o
    exact l
   ·refine Nat.le_trans (Nat.mul_le_mul_right _ ?_) Q
    simp; omega
theorem Lg.map {A B:Type} {t:TypeId} {row:A→List D} {wf:A→Prop} (h:Lg M t row wf) (f:A→B) {row':B→List D} {wf':B→Prop} (d:∀ a,row' (f a)=row a) (hw:∀ a,wf a→wf' (f a)):Lg M t row' wf':=
 fun H enc w n cs x b c=>by
  obtain⟨y,k1,k2⟩:=h H enc w n cs x b c
  exact⟨f y,by rw[d]; exact k1,hw y k2⟩
def Zb7 {T:Type} {P:Program} (M:J7 P) (tot off:Nat) (fs:List Field) (row:T→List D) (wf:T→Prop):Prop:=
 ∀ (H:Type) (enc:TypeId×Value→H) (w:World) (m:Nat) (cs:List Value) (xs:List (DataW H×List MemPlace)),cs.length=tot→xs.length=fs.length→
  (∀ (i:Nat) (f:Field),fs[i]?=some f→DataW.trod enc P w 0 (λ_=>true) true m f.type ((cs.drop f.offset).take (P.cellsOf f.type))=xs[i]?)→
  M.qe (fs.map (·.type)) (xs.map (·.1))→∃ y,Mx w (cs.drop off) (row y)∧wf y
theorem Y2 {tot:Nat}:Zb7 M tot tot [] (λ_:Unit=>[]) (λ_=>True):=by
 intro H enc w m cs xs a _ _ _
 refine⟨(),?_,trivial⟩
 rw[List.drop_eq_nil_of_le (by omega)]
 exact⟨rfl,λj v d h=>by simp at h⟩
theorem Z1 {A B:Type} {tot off n:Nat} {f:Field} {fs:List Field} {rowA:A→List D} {wfA:A→Prop} {rowB:B→List D} {wfB:B→Prop} (q:Lg M f.type rowA wfA) (t:P.cellsOf f.type=n) (hB:Zb7 M tot (off+n) fs rowB wfB)
  (c:f.offset=off):Zb7 M tot off (f::fs) (λp:A×B=>rowA p.1++rowB p.2) (λp=>wfA p.1∧wfB p.2):=by
 intro H enc w m cs xs r j k d
 cases xs with
 | nil=>simp at j
 | cons x xs=>
  replace d:=M.hcons d
  have h:=k 0 f rfl
  simp only[List.getElem?_cons_zero] at h
  obtain⟨a,a1,a2⟩:=q H enc w m _ x h d.1
  obtain⟨b,l,o⟩:=hB H enc w m cs xs r (by simpa using j) (λi g s=>by have:=k (i+1) g (by simpa using s); simpa using this) d.2
  refine⟨(a,b),?_,a2,o⟩
  rw[c,t] at a1
  have e:cs.drop off=(cs.drop off).take n++cs.drop (off+n):=by rw[← List.drop_drop,List.take_append_drop]
  rw[e]
  exact a1.append l
theorem Y3 {T:Type} {t:TypeId} {tot:Nat} {fs:Array Field} {row:T→List D} {wf:T→Prop} (a:P.underlying t=some (.struct fs)) (g:P.cellsOf t=tot) (b:Zb7 M tot 0 fs.toList row wf):Lg M t row wf:=by
 subst g
 intro H enc w n cs x h k
 obtain⟨xs,m,rfl,rfl,c,e,j⟩:=DataW.trod_struct a h
 exact b H enc w m cs xs c (by simpa using e) (λi f d=>j i f (by simpa using d)) (M.hst a k)
theorem Z6g {T:Type} {t:TypeId} {fs:Array Field} {row:T→List D} {wf:T→Prop} (b:P.underlying t=some (.struct fs)) (i:Lg M t row wf) {H:Type} {enc:TypeId×Value→H} {W:World} {r:_root_.Go.Reach} {base:Nat} {v:Value} {d:DataW H} {p:List MemPlace}
  (a:Value.okWide P W r base t v) (k:DataW.Trod enc P W 0 (λ_=>true) true t v d p) (n:M.q t d):∃ y,Zh W (Le W) (λ_=>none) v (.agg (row y))∧wf y:=by
 unfold Value.okWide at a
 rw[b] at a
 obtain⟨cs,rfl,-,-⟩:=a
 obtain⟨fuel,l⟩:=k
 obtain⟨y,c,h⟩:=i H enc W fuel _ _ l n
 have f:(Value.agg cs).cells.toList=cs.toList:=rfl
 rw[f] at c
 refine⟨y,.agg cs (row y) (by have:=c.len; simpa using this) (λj u b=>?_) (λj u e b he=>(c.rep j u e (by simpa using b) he).2.2),h⟩
 have m:j<(row y).length:=by
  have:=c.len
  rcases Nat.lt_or_ge j cs.size with g|g
  ·simp at this; omega
  ·rw[Array.getElem?_eq_none g] at b; cases b
 exact(c.rep j u _ (by simpa using b) (List.getElem?_eq_getElem m)).1
theorem Z6h {T:Type} {t:TypeId} {f:T→D} {wf:T→Prop} (e:Lg M t (λy=>[f y]) wf) {H:Type} {enc:TypeId×Value→H} {W:World} {v:Value} {d:DataW H} {p:List MemPlace}
  (g:v.cells.toList=[v]) (h:DataW.Trod enc P W 0 (λ_=>true) true t v d p) (i:M.q t d):∃ y,Zh W (Le W) (λ_=>none) v (f y)∧wf y:=by
 obtain⟨fuel,a⟩:=h
 rw[g] at a
 obtain⟨y,b,c⟩:=e H enc W fuel _ _ a i
 exact⟨y,(b.rep 0 v _ rfl rfl).2.2,c⟩
theorem Zze {H:Type} {enc:TypeId×Value→H} (g:laidOutB P=true) {W W':World} (f:Below W.heap.size W W'):∀ {ts:List TypeId} {vs:List Value} {ds:List (DataW H)} {ps:List MemPlace},
  ts.all (λt=>P.readableRec t&&decide (t<P.types.size))=true→DataW.TrodAll enc P W 0 (λ_=>true) true ts vs ds ps→(∀ x∈ps,x.block<W.heap.size)→
  DataW.TrodAll enc P W' 0 (λb=>decide (b<W.heap.size)) true ts vs ds ps
 | [],[],[],ps,_,h,_=>h
 | t::ts,v::vs,d::ds,ps,c,h,a=>by
  simp only[List.all_cons,Bool.and_eq_true,decide_eq_true_eq] at c
  obtain⟨p,q,i,j,rfl⟩:=h
  exact⟨p,q,Below.trod g c.1.1 c.1.2 i f (λx e=>a x (by simp[e])),Zze g f (by simpa using c.2) j (λx e=>a x (by simp[e])),rfl⟩
 | [],[],_::_,_,_,h,_=>h.elim
 | [],_::_,_,_,_,h,_=>h.elim
 | _::_,[],_,_,_,h,_=>h.elim
 | _::_,_::_,[],_,_,h,_=>h.elim
theorem Z9a {f:FuncId} {fn:Func} {s:ChangeSpec} {H:Type} {enc:TypeId×Value→H} {W:World} {args:Array Value} {ds:List (DataW H)} {before:List MemPlace} {tb:TypeId} (a:s.vars=[])
  (i:fn.resultTypes= #[tb]) (k:P.underlying tb=some .bool) (w:laidOutB P=true) (l:fn.params.toList.all (λt=>P.readableRec t&&decide (t<P.types.size))=true)
  (n:DataW.Whole enc P fn.params.toList s.vars false W args.toList ds [] before) (b:s.fn H (ds++[])={ results:=[.lit (.bool true)],args:=ds })
  {das:List D} (g:Kr W (Le W) args das) (j:Z00 W (Le W)) (c:Zi P f das (.bool true)):
  Calls P f args W λe W'=>∃ v,e=.returned v∧s.post enc P fn false true false false W args v W':=by
 refine(c.2 W (Le W) args (Y4h W) j g).mono λe W' he=>?_
 obtain⟨v,G',rfl,o,-,-,y⟩:=he
 obtain rfl:=Z0e y
 have d:=n
 obtain⟨p,q,r,m,rfl,u,hnd⟩:=n
 have hq:q=[] :=by
  rw[a] at m; exact m
 subst hq
 refine⟨_,rfl,ds,[],p++[],[],p,[],d,?_,?_,?_,o.frame _,λh=>by cases h⟩
 ·rw[b,i]
  exact trodAll_cons_mk (shut_bool k true) trodAll_mk0
 ·rw[b]
  exact Zze w o l r (λx z=>by simpa using d.lt x (by simp[z]))
 ·rw[a,b]; rfl
end Go.Den
namespace Go.Den
open Go.RowKit
theorem Kr.nil {w:World} {G:Nat→Nat}:Kr w G #[] [] :=⟨rfl,λj v d h=>by simp at h⟩
theorem Kr.cons {w:World} {G:Nat→Nat} {v:Value} {d:D} {l:List Value} {ds:List D} (h:Zh w G (λ_=>none) v d) (t:Kr w G l.toArray ds):Kr w G (v::l).toArray (d::ds):=by
 refine⟨by have:=t.size; simpa using this,λj u e a he=>?_⟩
 cases j with
 | zero=>simp at a he; subst a he; exact h
 | succ j=>exact t.rep j u e (by simpa using a) (by simpa using he)
theorem Mm {n:Nat} (h:n≤reachBytes):(n:Int)≤140737488355328:=by
 have a:n≤140737488351232:=h
 omega
end Go.Den
