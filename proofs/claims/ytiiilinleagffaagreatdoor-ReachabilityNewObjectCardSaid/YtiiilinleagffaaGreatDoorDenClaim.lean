/-
  Proofs in few words: what is told of a region carries its own proof; the state that a run has come to is not written out.
-/
import Derived.Test.YtiiilinleagffaaGreatDoorGcF
import Derived.Test.YtiiilinleagffaaGreatDoorDenGc
import Derived.ProofKit
import Derived.OpenShut
import Derived.SizedLaws
set_option linter.unusedVariables false
set_option linter.unusedSimpArgs false
namespace Go.Den
open Go.RowKit
variable {P:Program} {Γ:Ctx} {σ σ':S}
namespace W
theorem a2 {p q:Prop} (hp:p) (hq:q):p∧q:=⟨hp,hq⟩
structure GT where
 t:Yt
 g:Option Bool
 /-- it owes something -/
 o:Bool
 q:Prop
 p:Prop
 hq:q
 hp:p
def GT.of (t:Yt) {p:Prop} (h:p):GT:=⟨t,none,true,True∧p,p,⟨trivial,h⟩,h⟩
def g0:GT:=GT.of {} trivial
def bo:GT:=⟨{ ro:=true },none,false,True∧True,True,⟨trivial,trivial⟩,trivial⟩
def gw {b w:Bool} (h:b=w) (x:GT):GT:=⟨x.t,some true,true,((b==w)=true)∧x.p,x.p,⟨by simp[h],x.hp⟩,x.hp⟩
def gs0 {b:Bool} (h:b=true):GT:=⟨{},some false,true,(b==false)=false,True,by simp[h],trivial⟩
def gs1 {b:Bool} (h:b=false):GT:=⟨{},some false,true,(b==true)=false,True,by simp[h],trivial⟩
class Row (α:Type) where
 row:α→List D
 size:Nat
 hs:∀ x,(row x).length=size
instance {α:Type} [R:Row α]:Row (List α):=⟨rSl R.row,1,λ_=>rfl⟩
instance RI64:Row Int:=⟨Z1,1,λ_=>rfl⟩
abbrev RU8:Row Int:=⟨rU8,1,λ_=>rfl⟩
instance:Row Bool:=⟨Zk,1,λ_=>rfl⟩
instance:Row (List UInt8):=⟨Q2,1,λ_=>rfl⟩
def pA:D→Prop
 | .agg cs=>tN cs.length
 | _=>True
def pL:List D→Prop
 | [] =>True
 | d::r=>pA d∧pL r
theorem pLi:∀ l,pL l
 | [] =>trivial
 | d::r=>⟨by cases d <;> first|exact trivial|exact tNi _,pLi r⟩
def pR:D→Prop
 | .tup ds=>pL ds
 | d=>pL [d]
theorem pRi (d:D):pR d:=by cases d <;> exact pLi _
def pN (k:Nat):Nat→Prop
 | 0=>True
 | n+1=>tN k∧pN k n
theorem pNi (k:Nat):∀ n,pN k n
 | 0=>trivial
 | n+1=>⟨tNi k,pNi k n⟩
section
variable {f:FuncId} {A:List D} {r:D}
def k (h:Zb P f A r):GT:=GT.of { ans:= .val r } (p:=cq P (pL A) f A r) (cqi (pLi _) h)
def isRef:D→Bool
 | .lptr .. |.lsl .. |.clo .. |.lsk .. |.undef=>true
 | _=>false
def Zh3:List D→List D
 | [] =>[]
 | d::l=>match isRef d with
  | true=>Zh3 l
  | false=>d::Zh3 l
def kB {p:Prop} (hp:p) (A1:List D) (h12:A1=A) (h:Zb P f A r):GT:=GT.of { ans:= .val r,args:=A } (p:=p∧A1=A∧Z2t P f A r) ⟨hp,h12,.inl h⟩
def koB {B B':List Blk} (names:List Nat) {p:Prop} (hp:p) (A1:List D) (h12:A1=A) (h:Vk P f A B r B') (fresh nils:List (Nat×Nat):=[]) (kp:Bool:=false):GT:=
 GT.of { ans:= .val r,args:=A,io:=some { names,fresh,nils,bs:=B,bs':=B',kp } } (p:=p∧A1=A∧B=B∧Vk P f A B r B') ⟨hp,h12,rfl,h⟩
def ko {B B':List Blk} (names:List Nat) (h:Vk P f A B r B') (fresh nils:List (Nat×Nat):=[]) (kp:Bool:=false):GT:=
 GT.of { ans:= .val r,io:=some { names,fresh,nils,bs:=B,bs':=B',kp } } (p:=cqo P (pL (Zh3 A)) f A B r B') (cqoi (pLi _) h)
end
def bl (m k:Nat):GT:=GT.of {} (pNi k m)
def br0 (m k:Nat):GT:=GT.of { ro:=true } (pNi k m)
def br2 {A:List (List D)} {p:Prop} (hp:p) (A1:List (List D)) (h12:A1=A):GT:=GT.of { ro:=true,rows:=some A } (p:=(p∧True)∧A1=A) ⟨⟨hp,trivial⟩,h12⟩
def qs {g q:Prop} (hg:g) (hq:q) (e:Bool):GT:=GT.of { ans:= .val (.bool e) } (p:=g∧q∧e=e) ⟨hg,hq,rfl⟩
def n {m:Int} {e:Int} (h:some e=some m) (k:IntKind:= .i64):GT:=GT.of { ans:= .val (.int k m) } (p:=e=m) (someE h)
def n8 {m:Int} {e:Int} (h:some e=some m):GT:=n h .u8
def kb {b v:Bool} (h:b=v):GT:=GT.of { ans:= .val (.bool v) } (p:=b=v) h
def py {b:Bool} (h:b=true):GT:=GT.of { ans:= .yes } (p:=b=true) h
def pn {b:Bool} (h:b=false):GT:=GT.of { ans:= .no } (p:=b=false) h
def ct {a b m:List UInt8} (h:Xr a b=some m):GT:=GT.of { ans:= .val (.str m) } (Y02 h)
def dv {k:IntKind} {a b m:Int} (h:divK k a b=some m):GT:=GT.of { ans:= .val (.int k m) } (Zxj h)
def md {a b m:Int} (h:modK a b=some m) (k:IntKind:= .i64):GT:=GT.of { ans:= .val (.int k m) } (Zyc h)
def sl {k:IntKind} {a y m:Int} (h:K1 k a y=some m):GT:=GT.of { ans:= .val (.int k m) } (Zyd h)
def sr {k:IntKind} {a y m:Int} (h:shrK k a y=some m):GT:=GT.of { ans:= .val (.int k m) } (Y1p h)
def ib {s:List UInt8} {i m:Int} (h:Vh s i=some m):GT:=GT.of { ans:= .val (.int .u8 m) } h
def ss {s r:List UInt8} {lo hi:Int} (h:sub s lo hi=some r):GT:=GT.of { ans:= .val (.str r) } h
section
variable {α:Type} [R:Row α]
def ln (l:List α):GT:=GT.of { ans:= .val (.int .i64 l.length) } (p:=((l.map R.row).length:Int)=(l.length:Int)) (lenM _ _)
def ix {l:List α} {i:Int} {x:α} (h:Z5 l i=some x):GT:=GT.of { ans:= .row (R.row x) } (p:=Z5 (l.map R.row) i=some (R.row x)) (Zwh _ h)
def lb {l:List α} {j:Nat} {x:α} (h:l[j]?=some x):GT:=GT.of { ans:= .row (R.row x) } (p:=(l.map R.row)[j]?=some (R.row x)) (getM _ h)
def ia (b:Nat) {l:List α} {i:Int} {j:Nat} (h:Xq i l.length=some j):GT:=
 GT.of { ans:= .val (.lptr b j 0) } (p:=0≤i∧i<(((l.map R.row).length:Nat):Int)∧((0:Nat):Int)+i=j) (Lb h (lenMN _ _))
def ax (i:Int) (m:Nat) (h:(decide (0≤i)&&decide (i<m))=true:=by kernel_rfl):GT:=
 GT.of {} (p:=0≤i∧i<m) (by rw[Bool.and_eq_true,decide_eq_true_eq,decide_eq_true_eq] at h; exact h)
def axs (m:Nat) {l:List (List UInt8)} {i:Int} {x:List UInt8} (h:Z5 l i=some x) (hm:l.length=m:=by rfl):GT:=
 GT.of { ans:= .row [.str x] } (p:=0≤i∧i<m∧((l.map D.str).drop (i.toNat*1)).take [D.str x].length=[.str x]) (by
  unfold Z5 at h
  split at h
  ·rename_i h0
   have hlt:=(List.getElem?_eq_some_iff.1 h).1
   refine⟨h0,by omega,?_⟩
   rw[Nat.mul_one,← List.map_drop,List.drop_eq_getElem_cons hlt,(List.getElem?_eq_some_iff.1 h).2]
   rfl
  ·cases h)
def sb {l r:List α} {lo hi:Int} (h:sub l lo hi=some r):GT:=
 GT.of { ans:= .rows (r.map R.row) } (p:=(∀ x∈l.map R.row,x.length=R.size)∧sub (l.map R.row) lo hi=some (r.map R.row)) ⟨szM R.hs _,subM _ h⟩
def sbN {l r:List α} {lo:Int} (h:sub l lo (l.length:Int)=some r):GT:=
 GT.of { ans:= .rows (r.map R.row) } (p:=(∀ x∈l.map R.row,x.length=R.size)∧sub (l.map R.row) lo ((l.map R.row).length:Int)=some (r.map R.row)) ⟨szM R.hs _,by rw[lenM]; exact subM _ h⟩
def rw_ (l:List α):D:= .sl false (((l.map R.row).drop 0).take (l.map R.row).length)
theorem rwE (l:List α):rw_ l=.sl false (l.map R.row):=by unfold rw_; rw[Zv4]
def rp (l:List α):Prop:=0+(l.map R.row).length≤(l.map R.row).length
theorem rpI (l:List α):rp l:=Ztu _
def mk {by_:Nat} {l c:Int} {u:Unit} (z:α) (h:W1 by_ l c=some u):GT:=
 GT.of { rows:=some ((List.replicate l.toNat z).map R.row) } (p:=0≤l∧l≤c∧(by_:Int)*c≤281474976710656∧c≤9223372036854775807∧List.replicate l.toNat (R.row z)=(List.replicate l.toNat z).map R.row)
  ⟨(Zcu h).1,(Zcu h).2.1,(Zcu h).2.2.1,(Zcu h).2.2.2,repM _ _ _⟩
def an {by_:Nat} {l m:List α} {u u0:Unit} (h0:Zb7 l m=some u0) (h:Ye by_ (l++m).length=some u):GT:=
 GT.of { rows:=some ((l++m).map R.row) }
  (p:=True∧(l.map R.row=[]∨m.map R.row≠[])∧(∀ r∈l.map R.row,r.length=R.size)∧(∀ r∈m.map R.row,r.length=R.size)∧l.map R.row++m.map R.row=(l++m).map R.row∧((l++m).map R.row).length≤9223372036854775807∧((l++m).map R.row).length*by_≤140737488355328)
  ⟨trivial,freshM R.row h0,szM R.hs _,szM R.hs _,appM _ _ _,Zeb h (lenMN _ _)⟩
theorem fr0 {γ β:Type} {m:List β}:Zb7 ([]:List γ) m=some ():=rfl
def bsB (l:List Int):GT:=GT.of { ans:= .val (.str (bytesOf l)) } (p:=(0+(l.map rU8).length≤(l.map rU8).length)∧Kl (((l.map rU8).drop 0).take (l.map rU8).length)=some (bytesOf l)) ⟨Ztu _,by rw[Zv4]; exact Zy1 _⟩
def st {l:List α} {j:Nat} {x:α} (h:l[j]?=some x) (off:Nat) (cs:List D) (y:α) (hl:Nat.ble (off+cs.length) (R.row x).length=true:=by kernel_rfl) (hy:Ud (R.row x) off cs=R.row y:=by kernel_rfl):GT:=
 GT.of { row:=some (R.row x),rows:=some ((l.set j y).map R.row) }
  (p:=0≤j∧(l.map R.row)[j]?=some (R.row x)∧off+cs.length≤(R.row x).length∧(l.map R.row).set j (Ud (R.row x) off cs)=(l.set j y).map R.row)
  ⟨Nat.zero_le _,getM _ h,Nat.le_of_ble_eq_true hl,by rw[hy]; exact setM _ _ _ _⟩
def ap {by_:Nat} {l m:List α} {u:Unit} (h:Ye by_ (l++m).length=some u):GT:=
 GT.of { rows:=some ((l++m).map R.row) }
  (p:=True∧(l.map R.row).length=(l.map R.row).length∧(∀ r∈m.map R.row,r.length=R.size)∧l.map R.row++m.map R.row=(l++m).map R.row∧((l++m).map R.row).length≤9223372036854775807∧((l++m).map R.row).length*by_≤140737488355328)
  ⟨trivial,rfl,szM R.hs _,appM _ _ _,Zeb h (lenMN _ _)⟩
end
structure GR where
 id:Nat
 l:List (Nat×GT)
 ord:List Nat:=[]
 xs:List Nat:=[]
def rg (id:Nat) (l:List (Nat×GT)):GR:={ id,l }
def rgx (id:Nat) (l:List (Nat×GT)) (xs:List Nat):GR:={ id,l,xs }
def rgq (id:Nat) (l:List (Nat×GT)) (ord xs:List Nat):GR:={ id,l,ord,xs }
def bitsN (m:Nat):List Nat:=(List.range 128).filter (m.testBit)
def Zqa:List (Nat×Nat)→Nat→Nat
 | [],_=>0
 | (k,m)::r,i=>match Nat.beq i k with
  | true=>m
  | false=>Zqa r i
def maskL (W:List (Nat×Nat)):List Nat→Nat→Nat
 | [],m=>m
 | c::r,m=>maskL W r (Nat.lor m (Nat.lor (Nat.shiftLeft 1 c) (Zqa W c)))
def Zma (ops:Array Oper):List Nat→List (Nat×Nat)→List (Nat×Nat)
 | [],W=>W
 | b::r,W=>match maskL W (Lq ops b) 0 with
  | 0=>Zma ops r W
  | m+1=>Zma ops r ((b,m+1)::W)
def unW (W:List (Nat×Nat)):List (Nat×List Nat):=W.map λx=>(x.1,bitsN x.2)
def ordF (x:GR) (n:Nat):List Nat:=match x.ord with
 | [] =>List.range n
 | l=>l
def gA {b:Bool} (h:b=true):Nat→Nat→List (Nat×GT)→List (Nat×GT)
 | _,0,l=>l
 | i,n+1,l=>(i,gs0 h)::gA h (i+1) n l
def gB {b:Bool} (h:b=false):Nat→Nat→List (Nat×GT)→List (Nat×GT)
 | _,0,l=>l
 | i,n+1,l=>(i,gs1 h)::gB h (i+1) n l
def gC {b w:Bool} (h:b=w):Nat→Nat→List (Nat×GT)→List (Nat×GT)
 | _,0,l=>l
 | i,n+1,l=>(i,gw h g0)::gC h (i+1) n l
def Zcf:List (Nat×GT)→List (Nat×Yt)
 | [] =>[]
 | (i,x)::r=>(i,x.t)::Zcf r
def gsG:List (Nat×GT)→List (Nat×Bool)
 | [] =>[]
 | (i,x)::r=>match x.g with
  | some b=>(i,b)::gsG r
  | none=>gsG r
def Z1w:List (Nat×GT)→List Prop→List Prop
 | [],q=>q
 | (_,x)::r,q=>match x.o with
  | true=>x.q::Z1w r q
  | false=>Z1w r q
def owes:List GR→List Prop
 | [] =>[]
 | x::r=>Z1w x.l (owes r)
theorem Z84:∀ (l:List (Nat×GT)) {q:List Prop},holds q→holds (Z1w l q)
 | [],_,h=>h
 | (_,x)::r,_,h=>by
  unfold Z1w
  split
  ·exact⟨x.hq,Z84 r h⟩
  ·exact Z84 r h
theorem Zra:∀ l:List GR,holds (owes l)
 | [] =>trivial
 | x::r=>Z84 x.l (Zra r)
def grAt:List GR→Nat→GR
 | [],i=>{ id:=i,l:=[] }
 | x::r,i=>match Nat.beq x.id i with
  | true=>x
  | false=>grAt r i
def Z5y (o:Oper) (t:Yt):Bool:=
 match o.op,t.ans with
 | .binOp .sub ..,.go|.binOp .mul ..,.go|.binOp .and ..,.go|.binOp .or ..,.go|.binOp .xor ..,.go|.binOp .andNot ..,.go=>true
 | _,_=>J0 o t
def Z63 (σ:S) (o:Oper) (t:Yt):Bool:=
 match o.op,t with
 | .store _ x v,{ row:=none,rows:=none,.. }=>
  match σ.ev x,cellsOf (σ.ev v) with
  | .lptr b i off,some cs=>
   match σ.heap b with
   | some blk=>match blk.rows[i]? with
    | some r=>Nat.ble blk.frz i&&Nat.ble (off+cs.length) r.length
    | none=>false
   | none=>false
  | _,_=>false
 | _,_=>false
theorem triv_st {o:Oper} {t:Yt} (ht:Z63 σ o t=true) {p:Prop} (h:Qe P σ o t=some (σ',p)):p:=by
 unfold Z63 at ht
 split at ht
 ·rename_i ty x v ans args io ro mt ho
  split at ht
  ·rename_i b i off cs hx hc
   split at ht
   ·rename_i blk hb
    split at ht
    ·rename_i r hr
     rw[Bool.and_eq_true] at ht
     unfold Qe at h
     have e1:Xi P σ o ans=none:=by unfold Xi; rw[ho]
     dsimp only at h
     rw[e1] at h
     dsimp only at h
     unfold Vt at h
     rw[ho] at h
     dsimp only at h
     unfold Z0d at h
     rw[hx] at h
     dsimp only at h
     rw[hb,hc] at h
     split at h
     ·rename_i blk' cs' sz h1 h2 h3
      cases h1; cases h2
      split at h
      ·rw[hr] at h
       cases h
       exact⟨Nat.le_of_ble_eq_true ht.1,Nat.le_of_ble_eq_true ht.2,rfl⟩
      ·cases h
     ·cases h
    ·cases ht
   ·cases ht
  ·cases ht
 ·cases ht
def Z82 (σ:S) (o:Oper) (t:Yt):Bool:=
 match o.op,t.ans with
 | .binOp .add _ x _ _,.go=>(match σ.ev x with|.int .. =>true|_=>false)
 | _,_=>false
theorem triv_ad {o:Oper} {t:Yt} (ht:Z82 σ o t=true) {p:Prop} (h:Qe P σ o t=some (σ',p)):p:=by
 unfold Z82 at ht
 split at ht
 ·rename_i xt x y yt ho ha
  split at ht
  ·rename_i k a hx
   unfold Qe at h
   split at h
   ·rename_i d q hq
    split at h
    ·cases h
     unfold Xi at hq
     rw[ho,ha] at hq
     dsimp only at hq
     unfold binD at hq
     rw[hx] at hq
     generalize σ.ev y=z at hq
     cases z <;> first
      | (simp only[] at hq; split at hq; exact Z24 hq; cases hq)
      | cases hq
    ·cases h
   ·unfold Vt at h
    rw[ho] at h
    cases h
  ·cases ht
 ·cases ht
theorem Zy8 {k:IntKind} {n:Int} {d:D} {p:Prop} (h:W8 k n .go=some (d,p)):p:=by cases h; trivial
theorem Zwl {op:BinOp} (hop:op=.add∨op=.sub∨op=.mul∨op=.and∨op=.or∨op=.xor∨op=.andNot) {k:IntKind} {a b:Int} {d:D} {p:Prop} (h:Zi5 op k a b .go=some (d,p)):p:=by
 rcases hop with rfl|rfl|rfl|rfl|rfl|rfl|rfl <;> exact Zy8 h
theorem Zy2 {a b:List UInt8} {op:BinOp} (hop:op=.add∨op=.sub∨op=.mul∨op=.and∨op=.or∨op=.xor∨op=.andNot) (h1:op≠ .add) {d:D} {p:Prop} (h:Zcc op a b .go=some (d,p)):p:=by
 rcases hop with rfl|rfl|rfl|rfl|rfl|rfl|rfl
 ·exact absurd rfl h1
 all_goals cases h
theorem Zzb {o:Oper} {t:Yt} (ht:Z5y o t=true) {p:Prop} (h:Qe P σ o t=some (σ',p)):p:=by
 unfold Z5y at ht
 have main : ∀ op xt x y yt,o.op=.binOp op xt x y yt→t.ans=.go→(op=.sub∨op=.mul∨op=.and∨op=.or∨op=.xor∨op=.andNot)→p:=by
  intro op xt x y yt ho ha hop
  have hop':op=.add∨op=.sub∨op=.mul∨op=.and∨op=.or∨op=.xor∨op=.andNot:= .inr hop
  unfold Qe at h
  split at h
  ·rename_i d q hq
   split at h
   ·cases h
    unfold Xi at hq
    rw[ho,ha] at hq
    dsimp only at hq
    unfold binD at hq
    split at hq
    ·split at hq
     ·simp at hop
     ·simp at hop
     ·split at hq
      ·exact Zwl hop' hq
      ·cases hq
    ·exact Zy2 hop' (by rintro rfl; simp at hop) hq
    ·split at hq
     ·split at hq
      ·simp at hop
      ·simp at hop
      ·cases hq
     ·cases hq
    ·split at hq
     ·rename_i he; cases he
     ·cases hq
    ·exact Z3d hq
    ·exact Z3d hq
    ·split at hq
     ·exact Z3d hq
     ·cases hq
    ·cases hq
   ·cases h
  ·unfold Vt at h
   rw[ho] at h
   cases h
 split at ht <;> first
  | exact Zx4 ht h
  | (rename_i ho ha; exact main _ _ _ _ _ ho ha (by simp))
def trivG (ops:Array Oper) (told:List (Nat×Yt)) (gs:List (Nat×Bool)) (i:Nat) (σ:S):Bool:=
 match ops[i]? with
 | none=>true
 | some o=>match o.guard with
  | none=>Z5y o (Vj told i)||(Z63 σ o (Vj told i)||Z82 σ o (Vj told i))
  | some _=>match gAt gs i with
   | some _=>false
   | none=>match Ur ops σ o none with
    | some (true,_)=>Z5y o (Vj told i)||(Z63 σ o (Vj told i)||Z82 σ o (Vj told i))
    | _=>true
theorem Zpo {ops:Array Oper} {o:Oper} {b:Bool} {g:Prop} (h:Ur ops σ o none=some (b,g)):g:=by
 unfold Ur at h
 split at h
 ·cases h; trivial
 ·split at h
  ·split at h
   ·rename_i he; cases he
   ·split at h <;> cases h <;> trivial
  ·cases h; trivial
  ·cases h
theorem Zmj {o:Oper} {t:Yt} (ht:(Z5y o t||(Z63 σ o t||Z82 σ o t))=true) {p:Prop} (h:Qe P σ o t=some (σ',p)):p:=by
 rw[Bool.or_eq_true] at ht
 rw[Bool.or_eq_true] at ht
 exact ht.elim (λx=>Zzb x h) (λx=>x.elim (λx=>triv_st x h) (λx=>triv_ad x h))
theorem Zt4 {ops:Array Oper} {told:List (Nat×Yt)} {gs:List (Nat×Bool)} {i:Nat} (ht:trivG ops told gs i σ=true) {p:Prop} (h:Vl P ops told gs i σ=some (σ',p)):p:=by
 unfold trivG at ht
 unfold Vl at h
 cases ho:ops[i]? with
 | none=>rw[ho] at h; cases h; trivial
 | some o=>
  rw[ho] at h ht
  dsimp only at h ht
  cases hg:o.guard with
  | none=>
   rw[hg] at ht
   have e:Ur ops σ o (gAt gs i)=some (true,True):=by unfold Ur; rw[hg]
   rw[e] at h
   dsimp only at h ht
   split at h
   ·rename_i σ1 q hq; cases h; exact⟨trivial,Zmj ht hq⟩
   ·cases h
  | some y=>
   rw[hg] at ht
   dsimp only at ht
   split at ht
   ·cases ht
   ·rename_i hn
    rw[hn] at h
    split at h
    ·cases h
    ·rename_i g h1
     rw[h1] at ht
     split at h
     ·rename_i σ1 q hq; cases h; exact⟨Zpo h1,Zmj ht hq⟩
     ·cases h
    ·rename_i g h1
     split at h
     ·cases h; exact Zpo h1
     ·cases h
def Z0m (P:Program) (ops:Array Oper) (told:List (Nat×Yt)) (gs:List (Nat×Bool)) (xs:Option (List Nat)):List Nat→S→Option (S×List Prop)
 | [],σ=>some (σ,[])
 | i :: r,σ=>
  match (match xs with
   | none=>Vl P ops told gs i σ
   | some xs=>Qp P ops told gs xs i σ) with
  | some (σ',p)=>
   match Z0m P ops told gs xs r σ' with
   | some (σ'',q)=>match trivG ops told gs i σ with
    | true=>some (σ'',q)
    | false=>some (σ'',p::q)
   | none=>none
  | none=>none
theorem Z5g {ops:Array Oper} {told:List (Nat×Yt)} {gs:List (Nat×Bool)}:∀ (l:List Nat) {σ:S} {q:List Prop},Z0m P ops told gs none l σ=some (σ',q)→holds q→∃ p,M4 P ops told gs l σ=some (σ',p)∧p
 | [],σ,q,h,hq=>by cases h; exact⟨True,rfl,trivial⟩
 | i :: r,σ,q,h,hq=>by
  unfold Z0m at h
  unfold M4
  dsimp only at h
  split at h
  ·rename_i σ1 p1 h1
   split at h
   ·rename_i σ2 q2 h2
    split at h
    ·rename_i ht
     cases h
     obtain⟨p,e,hp⟩:=Z5g r h2 hq
     exact⟨p1∧p,by rw[h1]; dsimp only; rw[e],Zt4 ht h1,hp⟩
    ·cases h
     obtain⟨p,e,hp⟩:=Z5g r h2 hq.2
     exact⟨p1∧p,by rw[h1]; dsimp only; rw[e],hq.1,hp⟩
   ·cases h
  ·cases h
theorem Zic {ops:Array Oper} {told:List (Nat×Yt)} {gs:List (Nat×Bool)} {xs:List Nat}:∀ (l:List Nat) {σ:S} {q:List Prop},Z0m P ops told gs (some xs) l σ=some (σ',q)→holds q→∃ p,Ku P ops told gs xs l σ=some (σ',p)∧p
 | [],σ,q,h,hq=>by cases h; exact⟨True,rfl,trivial⟩
 | i :: r,σ,q,h,hq=>by
  unfold Z0m at h
  unfold Ku
  dsimp only at h
  split at h
  ·rename_i σ1 p1 h1
   split at h
   ·rename_i σ2 q2 h2
    split at h
    ·rename_i ht
     cases h
     obtain⟨p,e,hp⟩:=Zic r h2 hq
     exact⟨p1∧p,by rw[h1]; dsimp only; rw[e],Zt4 ht (Zhy h1),hp⟩
    ·cases h
     obtain⟨p,e,hp⟩:=Zic r h2 hq.2
     exact⟨p1∧p,by rw[h1]; dsimp only; rw[e],hq.1,hp⟩
   ·cases h
  ·cases h
def runRG (P:Program) (x:GR) (ops:Array Oper) (draw:Bool) (σ:S):Option (S×List Prop):=
 match draw with
 | false=>Z0m P ops (Zcf x.l) (gsG x.l) none (List.range ops.size) σ
 | true=>
  match P.follows .mixedOrders&&ordOk ops x.xs (unW (Zma ops (ordF x ops.size) [])) (ordF x ops.size) with
  | true=>Z0m P ops (Zcf x.l) (gsG x.l) (some x.xs) (ordF x ops.size) σ
  | false=>none
theorem Zwv {x:GR} {ops:Array Oper} {draw:Bool} {id:Nat} {q:List Prop} {Q:Exit→S→Prop} (h:runRG P x ops draw σ=some (σ',q)) (hq:holds q) (hQ:Q .normal σ'):DWP P Γ (.region id ops draw) Q σ:=by
 unfold runRG at h
 split at h
 ·obtain⟨p,e,hp⟩:=Z5g _ h hq
  exact DWP.region e hp hQ
 ·split at h
  ·rename_i hok
   simp only[Bool.and_eq_true] at hok
   obtain⟨p,e,hp⟩:=Zic _ h hq
   exact DWP.draw hok.1 hok.2 e hp hQ
  ·cases h
abbrev Out:=Option (Ev×S×List Prop)
def Out.s (A:Out):S:=match A with
 | some (_,σ,_)=>σ
 | none=>mkS 0 [] []
def Out.e (A:Out):Ev:=match A with
 | some (e,_,_)=>e
 | none=> .normal
def Out.q (A:Out):Option (List Prop):=match A with
 | some (_,_,q)=>some q
 | none=>none
def run (P:Program) (stops:List Nat) (rs:List GR):Nat→Option Code→List Q0→S→Out
 | 0,_,_,_=>none
 | n+1,none,K,σ=>
  match popN K with
  | some (z,K')=>run P stops rs n (some z) K' σ
  | none=>some (.normal,σ,[])
 | n + 1,some c,K,σ=>
  match c with
  | .skip=>run P stops rs n none K σ
  | .seq x y=>run P stops rs n (some x) (.seq y::K) σ
  | .block id x=>run P stops rs n (some x) (.blk id::K) σ
  | .exit id=>
   match J5 id K with
   | some K'=>run P stops rs n none K' σ
   | none=>some (.exit id,σ,[])
  | .ret=>some (.ret,σ,[])
  | .loop x=>some (.loop x K,σ,[])
  | .cond o x y=>
   match σ.ev o with
   | .bool b=>some (.cond b x y K,σ,[])
   | _=>none
  | .region id ops draw=>
   match X8 id stops with
   | true=>some (.stop c K,σ,[])
   | false=>
    match runRG P (grAt rs id) ops draw σ with
    | some (σ',q)=>
     match run P stops rs n none K σ' with
     | some (ev,σ'',q')=>some (ev,σ'',q++q')
     | none=>none
    | none=>none
  | _=>none
theorem Z2f {stops:List Nat} {rs:List GR} {Q:Exit→S→Prop}:∀ (n:Nat) {c:Option Code} {K:List Q0} {σ:S} {ev:Ev} {σ':S} {q:List Prop},
  run P stops rs n c K σ=some (ev,σ',q)→holds q→EvOk P Γ Q σ' ev→AtO P Γ c K Q σ
 | 0,_,_,_,_,_,_,h,_,_=>by cases h
 | n + 1,none,K,σ,ev,σ',q,h,hq,hev=>by
  unfold run at h
  split at h
  ·rename_i z K' hp
   refine Zbt (λz' K'' h'=>?_) (λh'=>by rw[hp] at h'; cases h')
   rw[hp] at h'; cases h'
   exact Z2f n h hq hev
  ·rename_i hp
   cases h
   exact Zbt (λz' K'' h'=>by rw[hp] at h'; cases h') (λ_=>hev)
 | n + 1,some c,K,σ,ev,σ',q,h,hq,hev=>by
  unfold run at h
  show DWP P Γ c (Vx P Γ K Q) σ
  split at h
  ·exact DWP.skip (Z2f n h hq hev)
  ·have:=Z2f n h hq hev
   exact DWP.seq (DWP.mono this λe σ1 h1=>by cases e <;> exact h1)
  ·have:=Z2f n h hq hev
   exact DWP.block (DWP.mono this λe σ1 h1=>by cases e <;> exact h1)
  ·split at h
   ·rename_i K' hp
    refine DWP.exit (Z8b (λK'' h'=>?_) (λh'=>by rw[hp] at h'; cases h'))
    rw[hp] at h'; cases h'
    exact Z2f n h hq hev
   ·rename_i hp
    cases h
    exact DWP.exit (Z8b (λK'' h'=>by rw[hp] at h'; cases h') (λ_=>hev))
  ·cases h; exact DWP.ret (Za3 K hev)
  ·cases h; exact hev
  ·split at h
   ·rename_i b hb
    cases h
    exact DWP.cond hb hev.1 hev.2
   ·cases h
  ·rename_i id ops draw
   split at h
   ·cases h; exact hev
   ·split at h
    ·rename_i σ1 q1 hr
     split at h
     ·rename_i ev2 σ2 q2 ha
      cases h
      obtain⟨hq1,hq2⟩:=Zjh hq
      exact Zwv hr hq1 (Z2f n ha hq2 hev)
     ·cases h
    ·cases h
  ·cases h
theorem Zve {stops:List Nat} {rs:List GR} {Q:Exit→S→Prop} {n:Nat} {c:Option Code} {K:List Q0} (hk:(run P stops rs n c K σ).q=some (owes rs))
  (h:EvOk P Γ Q (run P stops rs n c K σ).s (run P stops rs n c K σ).e):AtO P Γ c K Q σ:=by
 cases ha:run P stops rs n c K σ with
 | none=>rw[ha] at hk; cases hk
 | some x=>
  obtain⟨ev,σ',q⟩:=x
  rw[ha] at hk h
  cases hk
  exact Z2f n ha (Zra rs) h
structure A (P:Program) (Γ:Ctx) (c:Code) (K:List Q0) (Q:Exit→S→Prop) (σ:S):Prop where
 h:At P Γ c K Q σ
structure E (P:Program) (Γ:Ctx) (Q:Exit→S→Prop) (σ:S) (ev:Ev):Prop where
 h:EvOk P Γ Q σ ev
structure RK (P:Program) (Γ:Ctx) (K:List Q0) (Q:Exit→S→Prop) (σ:S):Prop where
 h:Vx P Γ K Q .normal σ
structure AO (P:Program) (Γ:Ctx) (ops:Array Oper) (l:List Nat) (K:List Q0) (Q:Exit→S→Prop) (σ:S):Prop where
 h:Z73 P Γ ops l K Q σ
theorem go {c:Code} {K:List Q0} {Q:Exit→S→Prop} (stops:List Nat) (rs:List GR) (h:E P Γ Q (run P stops rs 400 (some c) K σ).s (run P stops rs 400 (some c) K σ).e)
  (hk:(run P stops rs 400 (some c) K σ).q=some (owes rs):=by kernel_rfl):A P Γ c K Q σ:=⟨Zve hk h.h⟩
theorem goN {K:List Q0} {Q:Exit→S→Prop} (stops:List Nat) (rs:List GR) (h:E P Γ Q (run P stops rs 400 none K σ).s (run P stops rs 400 none K σ).e)
  (hk:(run P stops rs 400 none K σ).q=some (owes rs):=by kernel_rfl):RK P Γ K Q σ:=⟨Zve hk h.h⟩
def eb:Ev→Option Bool|.cond b _ _ _=>some b|_=>none
def ex:Ev→Code|.cond _ x _ _=>x|.loop x _=>x|.stop x _=>x|_=> .skip
def ey:Ev→Code|.cond _ _ y _=>y|_=> .skip
def ek:Ev→List Q0|.cond _ _ _ K=>K|.loop _ K=>K|.stop _ K=>K|_=>[]
def et:Ev→Option Exit|.ret=>some .ret|.normal=>some .normal|.exit id=>some (.exit id)|_=>none
theorem br {Q:Exit→S→Prop} {ev:Ev} {β:Type} {b:Bool} {x y r:β} (h:(if b=true then x else y)=r) (T:b=true→x=r→A P Γ (ex ev) (ek ev) Q σ) (F:b=false→y=r→A P Γ (ey ev) (ek ev) Q σ)
  (hb:eb ev=some b:=by kernel_rfl):E P Γ Q σ ev:=by
 cases ev <;> cases hb
 exact⟨λe=>(T e (iteT e h)).h,λe=>(F e (iteF e h)).h⟩
theorem bT {Q:Exit→S→Prop} {ev:Ev} {b:Bool} (hf:b=true) (h:A P Γ (ex ev) (ek ev) Q σ) (hb:eb ev=some b:=by kernel_rfl):E P Γ Q σ ev:=by
 subst hf
 cases ev <;> cases hb
 exact⟨λ_=>h.h,λe=>Bool.noConfusion e⟩
theorem bF {Q:Exit→S→Prop} {ev:Ev} {b:Bool} (hf:b=false) (h:A P Γ (ey ev) (ek ev) Q σ) (hb:eb ev=some b:=by kernel_rfl):E P Γ Q σ ev:=by
 subst hf
 cases ev <;> cases hb
 exact⟨λe=>Bool.noConfusion e,λ_=>h.h⟩
theorem sp {p:Prop} {β:Type} {b:Bool} {x y r:β} (h:(if b=true then x else y)=r) (T:b=true→x=r→p) (F:b=false→y=r→p):p:=by
 cases hb:b with
 | true=>exact T hb (iteT hb h)
 | false=>exact F hb (iteF hb h)
theorem bd {p:Prop} {α β:Type} {o:Option α} {f:α→Option β} {r:β} (h:o.bind f=some r) (k:∀ x,o=some x→f x=some r→p):p:=by
 obtain⟨x,h1,h2⟩:=bindE h
 exact k x h1 h2
theorem so {Q:Exit→S→Prop} {ev:Ev} (h:A P Γ (ex ev) (ek ev) Q σ) (hs:(match ev with|.stop .. =>true|_=>false)=true:=by kernel_rfl):E P Γ Q σ ev:=by
 cases ev <;> first|exact⟨h.h⟩|cases hs
structure SL where
 n:Nat
 l:List (Nat×D)
 bl:List (Nat×Blk):=[]
def SL.s (x:SL):S:=mkS x.n x.l x.bl
def SL.ps (x:SL):List (Nat×Nat):=x.bl.map λb=>(b.1,b.1)
def SL.ts (x:SL):List Nat:=x.l.map λb=>b.1
def Sub (σ σ':S):Prop:=∀ (Γ:Ctx) a w G β,Za Γ σ a w G β→∃ G' β',Za Γ σ' a w G' β'
theorem conv1_n {x:Wa} (h:σ.conv1 x=some σ'):σ'.n=σ.n:=by
 cases x <;> simp only[S.conv1] at h <;> repeat' split at h
 all_goals first|(cases h; rfl)|(cases h; done)
theorem Zua:∀ (l:List Wa) {σ:S},σ.conv l=some σ'→σ'.n=σ.n
 | [],_,h=>by cases h; rfl
 | x::l,σ,h=>by
  unfold S.conv at h
  split at h
  ·rename_i σ1 h1; exact(Zua l h).trans (conv1_n h1)
  ·cases h
theorem Jz {cv:List Wa} {ps:List (Nat×Nat)} {x:SL} (h:(Ws cv x.ts ps σ,σ.n)=(some (x.l,x.bl),x.n)):Sub σ x.s:=λΓ a w G β hC=>by
 have h1:Ws cv x.ts ps σ=some (x.l,x.bl):=congrArg Prod.fst h
 have h2:σ.n=x.n:=congrArg Prod.snd h
 unfold Ws at h1
 split at h1
 ·rename_i σ1 hc
  have:=(hC.conv cv hc).gc h1
  rw[Zua cv hc,h2] at this
  exact⟨_,_,this⟩
 ·cases h1
theorem Sub.at {c:Code} {K:List Q0} {Q:Exit→S→Prop} (h:Sub σ σ') (hA:At P Γ c K Q σ'):At P Γ c K Q σ:=λa w G β hC=>by
 obtain⟨G',β',hC'⟩:=h Γ a w G β hC
 exact hA a w G' β' hC'
def isJ:Ev→Bool|.cond .. |.loop .. |.stop .. =>true|_=>false
theorem Sub.ev {Q:Exit→S→Prop} {ev:Ev} (h:Sub σ σ') (hj:isJ ev=true) (hA:EvOk P Γ Q σ' ev):EvOk P Γ Q σ ev:=by
 cases ev with
 | cond b x y K=>exact⟨λe=>h.at (hA.1 e),λe=>h.at (hA.2 e)⟩
 | loop c K=>exact h.at (c:= .loop c) hA
 | stop c K=>exact h.at hA
 | _=>cases hj
theorem jn {Q:Exit→S→Prop} {ev ev':Ev} {x:SL} (h:E P Γ Q x.s ev') (cv:List Wa:=[]) (ps:List (Nat×Nat):=x.ps)
  (hk:(Ws cv x.ts ps σ,σ.n,ev,isJ ev')=(some (x.l,x.bl),x.n,ev',true):=by kernel_rfl):E P Γ Q σ ev:=by
 have h1:=congrArg Prod.fst hk
 have h2:=congrArg (λx=>x.2.1) hk
 have h3:=congrArg (λx=>x.2.2.1) hk
 have h4:=congrArg (λx=>x.2.2.2) hk
 dsimp only at h1 h2 h3 h4
 subst h3
 exact⟨Sub.ev (Jz (cv:=cv) (ps:=ps) (by rw[h1,h2])) h4 h.h⟩
theorem nm {Q:Exit→S→Prop} {ev:Ev} {x y:SL} (he:x=y) (h:E P Γ Q y.s ev) (hk:(Ws [] x.ts x.ps σ,σ.n,isJ ev)=(some (x.l,x.bl),x.n,true):=by kernel_rfl):E P Γ Q σ ev:=by
 subst he
 have h1:=congrArg Prod.fst hk
 have h2:=congrArg (λx=>x.2.1) hk
 have h4:=congrArg (λx=>x.2.2) hk
 dsimp only at h1 h2 h4
 exact⟨Sub.ev (Jz (cv:=[]) (ps:=x.ps) (by rw[h1,h2])) h4 h.h⟩
theorem cvE {Q:Exit→S→Prop} {ev:Ev} (l:List Wa) (h:E P Γ Q ((σ.conv l).getD σ) ev) (hk:((σ.conv l).isSome,isJ ev)=(true,true):=by kernel_rfl):E P Γ Q σ ev:=by
 have h1:=congrArg Prod.fst hk
 have h2:=congrArg Prod.snd hk
 dsimp only at h1 h2
 cases hc:σ.conv l with
 | none=>rw[hc] at h1; cases h1
 | some σ'=>
  rw[hc] at h
  exact⟨Sub.ev (λΓ a w G β hC=>⟨G,β,hC.conv l hc⟩) h2 h.h⟩
def cutS (σ:S) (b t sz:Nat) (rows:List (List D)):S:=
 { σ with tmps:=λu=>if u=t then .lsl b 0 rows.length else σ.tmps u,heap:=λu=>if u=b then some { sz,rows,frz:=0,pure:=true } else σ.heap u }
theorem cut_sub {b t sz m:Nat} {rows rows':List (List D)} (hb:σ.heap b=some { sz,rows,frz:=0,pure:=true }) (ht:σ.tmps t=.lsl b 0 m) (hr:rows.take m=rows') (hm:m=rows'.length):Sub σ (cutS σ b t sz rows'):=λΓ a w G β h=>by
 subst hr
 refine⟨G,β,h.defers,h.size,λu=>?_,λu k hu=>?_,λu x hu=>?_,h.inj,h.kept,h.marks,h.fresh,h.big,h.glob⟩
 ·show Z9 w G β _ (if u=t then _ else _)
  split
  ·rename_i hu; subst hu
   rw[← hm,← ht]; exact h.tmps u
  ·exact h.tmps u
 ·have hu':(if u=b then some { sz,rows:=rows.take m,frz:=0,pure:=true } else σ.heap u)=some k:=hu
  split at hu'
  ·rename_i hub; subst hub
   cases hu'
   rcases h.heap u _ hb with ⟨h0,h1,h2⟩|⟨c,h0,hB⟩
   ·refine .inl ⟨h0,?_,rfl⟩
    have h1':rows=[] :=h1
    simp[h1']
   ·refine .inr ⟨c,h0,?_⟩
    obtain⟨own,pin,ty,frz,top,dat,hsz,vs,e,fr,h1,h2,h3,h4⟩:=hB
    have key:∀ (i:Nat) r,(rows.take m)[i]?=some r→rows[i]?=some r:=λi r hr=>by
     rw[List.getElem?_take] at hr
     split at hr
     ·exact hr
     ·cases hr
    refine⟨own,pin,ty,frz,Nat.zero_le _,λhp i j r d hr hd=>dat hp i j r d (key i r hr) hd,λi r hr=>hsz i r (key i r hr),vs,e,fr,h1,h2,?_,λi j r d hr hd=>h4 i j r d (key i r hr) hd⟩
    refine Nat.le_trans (Nat.mul_le_mul_right sz ?_) h3
    show (rows.take m).length≤rows.length
    rw[List.length_take]; omega
  ·exact h.heap u k hu'
 ·show ∃ blk,(if u=b then _ else _)=some blk
  split
  ·exact⟨_,rfl⟩
  ·exact h.dom u x hu
def Z22 {α:Type} (l:List α) (hi:Int):Option (List α):=if 0≤hi∧hi≤l.length then some (l.take hi.toNat) else none
def ck {α:Type} [R:Row α] {l l':List α} {hi:Int} (h:Z22 l hi=some l'):GT:=GT.of {} (p:=0≤(0:Int)∧0≤hi∧hi≤(((l.map R.row).length:Nat):Int)) (by
 unfold Z22 at h
 split at h
 ·rename_i hc; exact⟨Int.le_refl _,hc.1,by simpa using hc.2⟩
 ·cases h)
theorem ctE {Q:Exit→S→Prop} {ev:Ev} (b t:Nat) {α:Type} [R:Row α] {l l':List α} {hi:Int} (hl:Z22 l hi=some l') (h:E P Γ Q (cutS σ b t R.size (l'.map R.row)) ev)
  (hk:(σ.heap b,σ.tmps t,isJ ev)=(some { sz:=R.size,rows:=l.map R.row,frz:=0,pure:=true },.lsl b 0 hi.toNat,true):=by kernel_rfl):E P Γ Q σ ev:=by
 have h1:=congrArg Prod.fst hk
 have h2:=congrArg (λx=>x.2.1) hk
 have h3:=congrArg (λx=>x.2.2) hk
 dsimp only at h1 h2 h3
 unfold Z22 at hl
 split at hl
 ·rename_i hc
  cases hl
  exact⟨Sub.ev (cut_sub h1 h2 (by rw[List.map_take]) (by simp; omega)) h3 h.h⟩
 ·cases hl
def evP (b:Bool):Nat→Nat→Code→List Q0→Ev
 | 0,_,_,_=> .normal
 | n + 1,p,c,K=>
  match Nat.beq p 1 with
  | true=>match c with
   | .loop x=> .loop x K
   | .cond _ x y=> .cond b x y K
   | c=> .stop c K
  | false=>match c,Nat.beq (p % 2) 0 with
   | .seq x y,true=>evP b n (p / 2) x (.seq y::K)
   | .seq _ y,false=>evP b n (p / 2) y K
   | .block id x,_=>evP b n (p / 2) x (.blk id::K)
   | .cond _ x _,true=>evP b n (p / 2) x K
   | .cond _ _ y,false=>evP b n (p / 2) y K
   | .loop x,_=>evP b n (p / 2) x []
   | _,_=> .normal
def U3 (fn:Func):Code:=fn.body.getD .skip
abbrev Jn (P:Program) (fn:Func) (Γ:Ctx) (Q:Exit→S→Prop) (p:Nat) (x:SL) (b:Bool:=true):Prop:=E P Γ Q x.s (evP b 900 p (U3 fn) [])
def lpC (fn:Func) (p:Nat):Code:=ex (evP true 900 p (U3 fn) [])
def fin:Ev→Bool|.ret|.normal=>true|_=>false
theorem rt {fn:Func} {ev:Ev} {α:Type} {x r:α} {R:α→D} (h:some x=some r) (hk:(fin ev,Z1c P fn σ)=(true,some (R x,tN fn.results.size∧pR (R x))):=by kernel_rfl):E P Γ (Ends P fn (R r)) σ ev:=by
 cases h
 have h1:=congrArg Prod.fst hk
 have h2:=congrArg Prod.snd hk
 dsimp only at h1 h2
 cases ev <;> first|cases h1|skip
 ·exact⟨⟨.inl rfl,_,h2,tNi _,pRi _⟩⟩
 ·exact⟨⟨.inr rfl,_,h2,tNi _,pRi _⟩⟩
theorem rtB {fn:Func} {ev:Ev} {α:Type} {x r:α} {R:α→D} (h:some x=some r) (d:D) {p:Prop} (hp:p) (hd:d=R x) (hk:(fin ev,Z1c P fn σ)=(true,some (d,tN fn.results.size∧p)):=by kernel_rfl):E P Γ (Ends P fn (R r)) σ ev:=by
 cases h
 subst hd
 have h1:=congrArg Prod.fst hk
 have h2:=congrArg Prod.snd hk
 dsimp only at h1 h2
 cases ev <;> first|cases h1|skip
 ·exact⟨⟨.inl rfl,_,h2,tNi _,hp⟩⟩
 ·exact⟨⟨.inr rfl,_,h2,tNi _,hp⟩⟩
theorem rtO {fn:Func} {m:Nat} {keep:List Bool} {ev:Ev} {α:Type} {x r:α} {R:α→D} {B:α→List Blk} (h:some x=some r) (d:D) (bs:List Blk) {p:Prop} (hp:p) (hd:d=R x)
  (hk:(fin ev,Ut (List.range m),Z4a P fn m keep σ,bs)=(true,true,some (d,bs,tN fn.results.size∧p),B x):=by kernel_rfl):E P Γ (Z0w P fn m keep (R r) (B r)) σ ev:=by
 cases h
 subst hd
 have h1:=congrArg Prod.fst hk
 have h2:=congrArg (λx=>x.2.1) hk
 have h3:=congrArg (λx=>x.2.2.1) hk
 have h4:=congrArg (λx=>x.2.2.2) hk
 dsimp only at h1 h2 h3 h4
 cases ev <;> first|cases h1|skip
 ·exact⟨⟨.inl rfl,h2,_,_,h3,⟨tNi _,hp⟩,h4⟩⟩
 ·exact⟨⟨.inr rfl,h2,_,_,h3,⟨tNi _,hp⟩,h4⟩⟩
theorem cs {f:FuncId} (fn:Func) {ds:List D} {r:D} (h:∀ {Γ:Ctx},A P Γ (U3 fn) [] (Ends P fn r) (mkS fn.ntmps (Ve 0 ds) []))
  (hk:(P.funcs[f]?,fn.body,Ji P f,Nat.ble ds.length fn.ntmps)=(some fn,some (U3 fn),true,true):=by kernel_rfl):Zb P f ds r:=by
 have h1:=congrArg Prod.fst hk
 have h2:=congrArg (λx=>x.2.1) hk
 have h3:=congrArg (λx=>x.2.2.1) hk
 have h4:=congrArg (λx=>x.2.2.2) hk
 exact Zb.at _ h1 h2 h3 (Nat.le_of_ble_eq_true h4) λ_=>h.h
theorem csO {f:FuncId} (fn:Func) {m:Nat} {keep:List Bool} {ds:List D} {bs bs':List Blk} {r:D} (h:∀ {Γ:Ctx},A P Γ (U3 fn) [] (Z0w P fn m keep r bs') (mkS fn.ntmps (Ve 0 ds) (W2 0 bs)))
  (hk:(P.funcs[f]?,fn.body,Ji P f,Nat.ble ds.length fn.ntmps)=(some fn,some (U3 fn),true,true):=by kernel_rfl):Vk P f ds bs r bs':=by
 have h1:=congrArg Prod.fst hk
 have h2:=congrArg (λx=>x.2.1) hk
 have h3:=congrArg (λx=>x.2.2.1) hk
 have h4:=congrArg (λx=>x.2.2.2) hk
 exact Vk.mk m keep h1 h2 h3 (Nat.le_of_ble_eq_true h4) λ_=>h.h
structure JT (R:Type) where
 w:R→Exit→S→Prop
 e:R→Exit→S→Prop
 h:∀ r x σ,w r x σ→∃ σ',Sub σ σ'∧e r x σ'
def je {A:Type} (id:Nat) (st:A→SL):JT A where
 w a e σ:=e=.exit id∧Sub σ (st a).s
 e a e σ:=e=.exit id∧σ=(st a).s
 h _ _ _ h:=⟨_,h.2,h.1,rfl⟩
def jr {R:Type} (P:Program) (fn:Func) (res:R→D):JT R where
 w y e σ:=e=.ret∧Ends P fn (res y) .ret σ
 e y e σ:=e=.ret∧Ends P fn (res y) .ret σ
 h _ _ σ h:=⟨σ,λ_ _ _ G β hC=>⟨G,β,hC⟩,h⟩
def ju {A B:Type} (J:JT A) (J':JT B):JT (A⊕B) where
 w x:=match x with|.inl a=>J.w a|.inr b=>J'.w b
 e x:=match x with|.inl a=>J.e a|.inr b=>J'.e b
 h x e σ h:=match x with|.inl a=>J.h a e σ h|.inr b=>J'.h b e σ h
def Rd {T R:Type} (st:T→SL) (J:JT R) (x:Ctl T R):Exit→S→Prop:=λe σ=>
 match x with
 | .next t=>e=.normal∧Sub σ (st t).s
 | .done r=>e≠ .normal∧J.w r e σ
structure JQ {R:Type} (P:Program) (Γ:Ctx) (K:List Q0) (Q:Exit→S→Prop) (J:JT R) (r:R):Prop where
 h:∀ e σ,J.e r e σ→Vx P Γ K Q e σ
theorem lp {T R:Type} {Q:Exit→S→Prop} {ev:Ev} {c:Code} {f:T→Option (Ctl T R)} {st:T→SL} {J:JT R} {n:Nat} {t:T} {r:R} (hm:Z7 f n t=some r)
  (hw:∀ {t x} {Γ:Ctx},f t=some x→A P Γ c [] (Rd st J x) (st t).s) (hQ:JQ P Γ (ek ev) Q J r) (cv:List Wa:=[]) (ps:List (Nat×Nat):=(st t).ps)
  (hk:(Ws cv (st t).ts ps σ,σ.n,ev)=(some ((st t).l,(st t).bl),(st t).n,.loop c (ek ev)):=by kernel_rfl):E P Γ Q σ ev:=by
 have h1:=congrArg Prod.fst hk
 have h2:=congrArg (λx=>x.2.1) hk
 have h3:=congrArg (λx=>x.2.2) hk
 dsimp only at h1 h2 h3
 have hs:Sub σ (st t).s:=Jz (cv:=cv) (ps:=ps) (by rw[h1,h2])
 rw[h3]
 refine⟨Sub.at (c:= .loop c) hs (DWP.loop (st:=λt=>(st t).s) (K:=J.e) (λt x hx a w G β hC=>?_) hm hQ.h)⟩
 refine wp_mono ((hw (Γ:=Γ) hx).h a w G β hC) λe a' w' ⟨σ',G',β',k1,k2⟩=>?_
 cases x with
 | next t'=>
  obtain⟨rfl,hsub⟩:=k2
  obtain⟨G2,β2,hC2⟩:=hsub Γ a' w' G' β' k1
  exact⟨_,G2,β2,hC2,rfl,rfl⟩
 | done r'=>
  obtain⟨hne,hj⟩:=k2
  obtain⟨σ2,hsub,he⟩:=J.h _ _ _ hj
  obtain⟨G2,β2,hC2⟩:=hsub Γ a' w' G' β' k1
  exact⟨σ2,G2,β2,hC2,hne,he⟩
theorem qe {Q:Exit→S→Prop} {K:List Q0} {A:Type} {id:Nat} {st:A→SL} {a:A} (h:RK P Γ ((J5 id K).getD []) Q (st a).s) (hk:(J5 id K).isSome=true:=by kernel_rfl):JQ P Γ K Q (je id st) a:=by
 refine⟨?_⟩
 rintro e σ ⟨rfl,rfl⟩
 cases hp:J5 id K with
 | none=>rw[hp] at hk; cases hk
 | some K'=>rw[hp] at h; exact At.exitK hp h.h
theorem qr {K:List Q0} {R:Type} {fn:Func} {res:R→D} {y r:R} (h:some y=some r):JQ P Γ K (Ends P fn (res r)) (jr P fn res) y:=by
 cases h
 refine⟨?_⟩
 rintro e σ ⟨rfl,hE⟩
 exact At.retK hE
theorem ql {K:List Q0} {A R T:Type} {J:JT A} {J2:JT R} {st:T→SL} {y:A} {r:R} {x:Ctl T R} (h:some (Ctl.done r)=some x) (hj:∀ e σ,J.e y e σ→e=.ret∧J2.w r .ret σ):JQ P Γ K (Rd st J2 x) J y:=by
 cases h
 refine⟨?_⟩
 intro e σ hE
 obtain⟨rfl,h2⟩:=hj e σ hE
 exact At.retK ⟨neRet,h2⟩
theorem j1 {A B:Type} {K:List Q0} {Q:Exit→S→Prop} {J:JT A} {J':JT B} {a:A} (h:JQ P Γ K Q J a):JQ P Γ K Q (ju J J') (.inl a):=⟨h.h⟩
theorem j2 {A B:Type} {K:List Q0} {Q:Exit→S→Prop} {J:JT A} {J':JT B} {b:B} (h:JQ P Γ K Q J' b):JQ P Γ K Q (ju J J') (.inr b):=⟨h.h⟩
theorem nx {T R:Type} {ev:Ev} {st:T→SL} {J:JT R} {t:T} {x:Ctl T R} (h:some (Ctl.next t)=some x) (cv:List Wa:=[]) (ps:List (Nat×Nat):=(st t).ps)
  (hk:(Ws cv (st t).ts ps σ,σ.n,et ev)=(some ((st t).l,(st t).bl),(st t).n,some .normal):=by kernel_rfl):E P Γ (Rd st J x) σ ev:=by
 cases h
 have h1:=congrArg Prod.fst hk
 have h2:=congrArg (λx=>x.2.1) hk
 have h3:=congrArg (λx=>x.2.2) hk
 dsimp only at h1 h2 h3
 cases ev <;> cases h3
 exact⟨⟨rfl,Jz (cv:=cv) (ps:=ps) (by rw[h1,h2])⟩⟩
theorem nxE {T R:Type} {ev:Ev} {st:T→SL} {J:JT R} {t:T} {x:Ctl T R} {y:SL} (h:some (Ctl.next t)=some x) (he:y=st t) (ps:List (Nat×Nat):=y.ps)
  (hk:(Ws [] y.ts ps σ,σ.n,et ev)=(some (y.l,y.bl),y.n,some .normal):=by kernel_rfl):E P Γ (Rd st J x) σ ev:=by
 cases h
 have h1:=congrArg Prod.fst hk
 have h2:=congrArg (λx=>x.2.1) hk
 have h3:=congrArg (λx=>x.2.2) hk
 dsimp only at h1 h2 h3
 cases ev <;> cases h3
 exact⟨⟨rfl,he ▸ Jz (cv:=[]) (ps:=ps) (by rw[h1,h2])⟩⟩
def isN:Exit→Bool|.normal=>true|_=>false
theorem dn {T R:Type} {ev:Ev} {st:T→SL} {J:JT R} {r:R} {x:Ctl T R} {e:Exit} (h:some (Ctl.done r)=some x) (hj:J.w r e σ) (hk:(et ev,isN e)=(some e,false):=by kernel_rfl):E P Γ (Rd st J x) σ ev:=by
 cases h
 have h1:=congrArg Prod.fst hk
 have h2:=congrArg Prod.snd hk
 dsimp only at h1 h2
 have hne:e≠ .normal:=by rintro rfl; cases h2
 cases ev <;> cases h1 <;> exact⟨⟨hne,hj⟩⟩
theorem iE {A:Type} {id:Nat} {st:A→SL} {a:A} (cv:List Wa:=[]) (ps:List (Nat×Nat):=(st a).ps)
  (hk:(Ws cv (st a).ts ps σ,σ.n)=(some ((st a).l,(st a).bl),(st a).n):=by kernel_rfl):(je id st).w a (.exit id) σ:=⟨rfl,Jz hk⟩
theorem iEE {A:Type} {id:Nat} {st:A→SL} {a:A} {y:SL} (he:y=st a) (ps:List (Nat×Nat):=y.ps)
  (hk:(Ws [] y.ts ps σ,σ.n)=(some (y.l,y.bl),y.n):=by kernel_rfl):(je id st).w a (.exit id) σ:=⟨rfl,he ▸ Jz hk⟩
theorem iR {R:Type} {fn:Func} {res:R→D} {y:R} (hk:Z1c P fn σ=some (res y,tN fn.results.size∧pR (res y)):=by kernel_rfl):(jr P fn res).w y .ret σ:=
 ⟨rfl,.inl rfl,_,hk,tNi _,pRi _⟩
theorem i1 {A B:Type} {J:JT A} {J':JT B} {a:A} {e:Exit} (h:J.w a e σ):(ju J J').w (.inl a) e σ:=h
theorem i2 {A B:Type} {J:JT A} {J':JT B} {b:B} {e:Exit} (h:J'.w b e σ):(ju J J').w (.inr b) e σ:=h
theorem iS {R:Type} {fn:Func} {res:R→D} {y:R} {e:Exit} (h:(jr P fn res).e y e σ):e=.ret∧(jr P fn res).w y .ret σ:=⟨h.1,rfl,h.2⟩
def Z2h (P:Program) (ops:Array Oper) (l:List (Nat×GT)) (m:List Nat) (σ:S):Out:=match Z0m P ops (Zcf l) (gsG l) none m σ with
 | some (σ',q)=>some (.normal,σ',q)
 | none=>none
theorem po {Q:Exit→S→Prop} {ev:Ev} (h:AO P Γ (Z00 (ex ev)) (List.range (Z00 (ex ev)).size) (ek ev) Q σ) (hk:(match ev with|.stop c _=>Zl4 c|_=>false)=true:=by kernel_rfl):E P Γ Q σ ev:=by
 cases ev <;> first|cases hk; done|exact⟨At.ops hk rfl h.h⟩
theorem pr {ops:Array Oper} {l:List Nat} {K:List Q0} {Q:Exit→S→Prop} (m:Nat) (rs:List (Nat×GT)) (h:AO P Γ ops (l.drop m) K Q (Z2h P ops rs (l.take m) σ).s)
  (hk:(Z2h P ops rs (l.take m) σ).q=some (Z1w rs []):=by kernel_rfl):AO P Γ ops l K Q σ:=by
 refine⟨?_⟩
 unfold Z2h at hk h
 split at hk
 ·rename_i σ1 q hr
  rw[hr] at h
  obtain⟨p,e,hp⟩:=Z5g _ hr (by cases hk; exact Z84 rs trivial)
  intro a w G β hC
  rw[← List.take_append_drop m l]
  exact Zlt _ hC e hp λa' w' G' β' hC'=>h.h a' w' G' β' hC'
 ·cases hk
theorem cvO {ops:Array Oper} {l:List Nat} {K:List Q0} {Q:Exit→S→Prop} (cv:List Wa) (h:AO P Γ ops l K Q ((σ.conv cv).getD σ)) (hk:(σ.conv cv).isSome=true:=by kernel_rfl):AO P Γ ops l K Q σ:=by
 cases hc:σ.conv cv with
 | none=>rw[hc] at hk; cases hk
 | some σ'=>
  rw[hc] at h
  exact⟨λa w G β hC=>h.h a w G β (hC.conv cv hc)⟩
theorem pe {ops:Array Oper} {l:List Nat} {K:List Q0} {Q:Exit→S→Prop} (h:RK P Γ K Q σ) (hk:l.isEmpty=true:=by kernel_rfl):AO P Γ ops l K Q σ:=by
 cases l with
 | nil=>exact⟨Z73.done h.h⟩
 | cons=>cases hk
end W
end Go.Den
namespace Go.Den
open Go.RowKit Go.ChangeShapes Go.WideShapes Go.ChangeAt
variable {P:Program}
def L0 (w:World):Nat→Nat:=λb=>match w.heap[b]? with|some (.cells c _ _)=>c.size|_=>0
theorem Zwx (w:World):∀ c,w.heap.size≤c→L0 w c=0:=λc hc=>by
 unfold L0; rw[Array.getElem?_eq_none hc]
theorem Zn1 {w:World} {b o:Nat} {v:Value} (h:w.cell? ⟨b,o,none⟩=some v):o<L0 w b:=by
 rw[Uo] at h
 unfold L0
 split at h
 ·rename_i c e fr hb
  rw[hb]
  rcases Nat.lt_or_ge o c.size with h'|h'
  ·exact h'
  ·rw[Array.getElem?_eq_none h'] at h; cases h
 ·cases h
structure Mm (w:World) (vs:List Value) (ds:List D):Prop where
 len:ds.length=vs.length
 rep:∀ (j:Nat) v d,vs[j]?=some v→ds[j]?=some d→one v=true∧d.dat=true∧Z9 w (L0 w) (λ_=>none) v d
theorem Mm.append {w:World} {vs us:List Value} {ds es:List D} (h:Mm w vs ds) (k:Mm w us es):Mm w (vs++us) (ds++es):=by
 refine⟨by simp[h.len,k.len],λj v d hv hd=>?_⟩
 rw[List.getElem?_append] at hv hd
 rw[h.len] at hd
 split at hv
 ·rename_i hj; rw[if_pos hj] at hd; exact h.rep j v d hv hd
 ·rename_i hj; rw[if_neg hj] at hd; exact k.rep _ v d hv hd
structure Jy (P:Program) where
 q:{H:Type}→TypeId→DataW H→Prop
 qe:{H:Type}→List TypeId→List (DataW H)→Prop
 str:Nat
 hstr:∀ {H:Type} {t:TypeId} {s:List UInt8},P.underlying t=some .string→q t (DataW.lit (H:=H) (.string s))→s.length≤str
 hsl:∀ {H:Type} {t e:TypeId} {el sp:List (DataW H)},P.underlying t=some (.slice e)→q t (.slice el sp)→(∀ d∈el,q e d)∧el.length*P.bytesOf e≤reachBytes
 hst:∀ {H:Type} {t:TypeId} {fs:Array Field} {ds:List (DataW H)},P.underlying t=some (.struct fs)→q t (.agg ds)→qe (fs.toList.map (·.type)) ds
 hcons:∀ {H:Type} {t:TypeId} {ts:List TypeId} {d:DataW H} {ds:List (DataW H)},qe (t::ts) (d::ds)→q t d∧qe ts ds
theorem Zrd {H:Type} {e:TypeId}:∀ {l:List (DataW H)} {d:DataW H},d∈l→∀ k∈DataW.weights P e d,k∈DataW.weightsAll P e l
 | x::r,d,h,k,hk=>by
  simp only[DataW.weightsAll,List.mem_append]
  rcases List.mem_cons.1 h with rfl|h
  ·exact .inl hk
  ·exact .inr (Zrd h k hk)
 | [],d,h,_,_=>by cases h
def Jy.reach (P:Program):Jy P where
 q t d:=(DataW.weights P t d).all (· ≤reachBytes)=true
 qe ts ds:=(DataW.weightsEach P ts ds).all (· ≤reachBytes)=true
 str:=reachBytes
 hstr:=λ_ hz=>by simpa [DataW.weights] using hz
 hsl:=λ{H} {t} {e} {el} {sp} hu hz=>by
  simp only[DataW.weights,hu,List.all_cons,Bool.and_eq_true,decide_eq_true_eq,List.all_eq_true] at hz
  obtain⟨hz1,hz2⟩:=hz
  refine⟨λd hd=>?_,Nat.le_trans (Nat.mul_le_mul_right _ (by omega)) hz1⟩
  simp only[List.all_eq_true,decide_eq_true_eq]
  exact λk hk=>hz2 k (List.mem_append.2 (.inl (Zrd hd k hk)))
 hst:=λhu hz=>by
  simp only[DataW.weights,hu] at hz
  exact hz
 hcons:=λhz=>by
  simp only[DataW.weightsEach,List.all_append,Bool.and_eq_true] at hz
  exact hz
def Jo {T:Type} {P:Program} (M:Jy P) (t:TypeId) (row:T→List D) (wf:T→Prop):Prop:=
 ∀ (H:Type) (enc:TypeId×Value→H) (w:World) (n:Nat) (cs:List Value) (x:DataW H×List MemPlace),DataW.trod enc P w 0 (λ_=>true) true n t cs=some x→
  M.q t x.1→∃ y,Mm w cs (row y)∧wf y
abbrev Zd {T:Type} (P:Program) (t:TypeId) (row:T→List D) (wf:T→Prop):Prop:=Jo (Jy.reach P) t row wf
variable {M:Jy P}
theorem Z45 {w:World} {v:Value} {d:D} (h1:one v=true) (h2:d.dat=true) (h:Z9 w (L0 w) (λ_=>none) v d):Mm w [v] [d] :=
 ⟨rfl,λj u e hu he=>by
  cases j with
  | zero=>simp at hu he; subst hu he; exact⟨h1,h2,h⟩
  | succ j=>simp at hu⟩
theorem Zc {t:TypeId} {k:IntKind} (hu:P.underlying t=some (.int k)):Jo M t (λn:Int=>[.int k n]) (λn=>k.min≤n∧n≤k.max):=by
 intro H enc w n cs x h _
 obtain⟨m,rfl,rfl,hw⟩:=DataW.trod_int hu h
 refine⟨m,Z45 rfl rfl (.int k m),?_⟩
 simpa [Lit.wf] using hw
theorem Uf {t:TypeId} (hu:P.underlying t=some .bool):Jo M t (λb:Bool=>[.bool b]) (λ_=>True):=by
 intro H enc w n cs x h _
 obtain⟨b,rfl,rfl⟩:=DataW.trod_bool hu h
 exact⟨b,Z45 rfl rfl (.bool b),trivial⟩
theorem Yc {t:TypeId} (hu:P.underlying t=some .string):Jo M t (λs:List UInt8=>[.str s]) (λs=>s.length≤M.str):=by
 intro H enc w n cs x h hz
 obtain⟨s,rfl,rfl,hs⟩:=DataW.trod_string hu h
 exact⟨s.data.toList,Z45 rfl rfl (.str s),M.hstr hu hz⟩
theorem Ztz {T:Type}:∀ (n:Nat) (Q:Nat→T→Prop),(∀ i,i<n→∃ y,Q i y)→∃ ys:List T,ys.length=n∧∀ i y,ys[i]?=some y→Q i y
 | 0,_,_=>⟨[],rfl,λi y h=>by simp at h⟩
 | n + 1,Q,h=>by
  obtain⟨ys,h1,h2⟩:=Ztz n Q (λi hi=>h i (by omega))
  obtain⟨y,hy⟩:=h n (by omega)
  refine⟨ys++[y],by simp[h1],λi z hz=>?_⟩
  rw[List.getElem?_append] at hz
  split at hz
  ·exact h2 i z hz
  ·rename_i hi
   have:i=n:=by
    rcases Nat.lt_or_ge (i - ys.length) 1 with h'|h'
    ·omega
    ·rw[List.getElem?_eq_none (by simpa using h')] at hz; cases hz
   subst this
   rw[h1,Nat.sub_self] at hz
   simp at hz; subst hz; exact hy
theorem Yg {T:Type} {t e:TypeId} {row:T→List D} {wf:T→Prop} (hu:P.underlying t=some (.slice e)) (he:Jo M e row wf) (hpos:0<P.cellsOf e):
  Jo M t (λys:List T=>[.sl false (ys.map row)]) (λys=>(∀ y∈ys,wf y)∧ys.length*P.bytesOf e≤reachBytes):=by
 intro H enc w n cs x h hz
 rcases DataW.trod_slice hu h with ⟨rfl,rfl⟩|⟨a,len,cap,elems,Qf,m,rfl,rfl,rfl,hb,hlc,hcm,hel,hcells,hspare,-⟩
 ·exact⟨[],Z45 rfl rfl (.slnil false none),by simp,by simp⟩
 ·obtain⟨hz2,hz1⟩:=M.hsl hu hz
  have hone:∀ i,i<len→∃ cs',w.cells? 0 (a.add (i*P.cellsOf e)) (P.cellsOf e)=some cs'∧∃ y,Mm w cs' (row y)∧wf y:=λi hi=>by
   have h1:=hcells i hi
   rw[List.getElem?_eq_getElem (by omega)] at h1
   obtain⟨cs',h2,h3⟩:=Option.bind_eq_some_iff.1 h1
   obtain⟨y,h4,h5⟩:=he H enc w m cs' _ h3 (hz2 _ (List.mem_map.2 ⟨elems[i],List.getElem_mem _,rfl⟩))
   exact⟨cs',h2,y,h4,h5⟩
  by_cases hcap:cap=0
  ·subst hcap
   obtain rfl:len=0:=by omega
   exact⟨[],Z45 rfl rfl (.slnil false (some a)),by simp,by simp⟩
  ·have hspot:a.spot=none:=by
    have key:∀ cs',w.cells? 0 (a.add 0) (P.cellsOf e)=some cs'→a.spot=none:=λcs' h=>by
     obtain⟨_,h1,h2⟩:=World.cells?_some h
     have h3:=h2 0 hpos
     simp only[Addr.add,if_true] at h3
     rw[List.getElem?_eq_getElem (by omega)] at h3
     exact World.cell?_spot h3
    by_cases hl:len=0
    ·subst hl
     obtain⟨hr1,hr2⟩:=hspare rfl
     have h1:=hr2 0 (by omega)
     rw[List.getElem?_eq_getElem (by omega)] at h1
     obtain⟨cs',h2,-⟩:=Option.bind_eq_some_iff.1 h1
     simp only[Nat.zero_add,Nat.zero_mul] at h2
     exact key cs' h2
    ·obtain⟨cs',h2,-⟩:=hone 0 (by omega)
     simp only[Nat.zero_mul] at h2
     exact key cs' h2
   obtain⟨b,off,spot⟩:=a
   cases hspot
   obtain ⟨ys,hyl,hys⟩:=Ztz len (λi (y:T)=>∃ cs',w.cells? 0 ((⟨b,off,none⟩:Addr).add (i*P.cellsOf e)) (P.cellsOf e)=some cs'∧Mm w cs' (row y)∧wf y)
    (λi hi=>by obtain⟨cs',h1,y,h2,h3⟩:=hone i hi; exact⟨y,cs',h1,h2,h3⟩)
   have hcell:∀ i y,ys[i]?=some y→(row y).length=P.cellsOf e∧∀ j,j<P.cellsOf e→∃ v d,w.cell? ⟨b,off+i*P.cellsOf e+j,none⟩=some v∧(row y)[j]?=some d∧one v=true∧d.dat=true∧Z9 w (L0 w) (λ_=>none) v d:=λi y hy=>by
    obtain⟨cs',h1,h2,-⟩:=hys i y hy
    obtain⟨_,h4,h5⟩:=World.cells?_some h1
    refine⟨h2.len.trans h4,λj hj=>?_⟩
    have h6:=h5 j hj
    simp only[Addr.add_none] at h6
    have e1:cs'[j]?=some cs'[j] :=List.getElem?_eq_getElem (by omega)
    have e2:(row y)[j]?=some ((row y)[j]'(by rw[h2.len]; omega)):=List.getElem?_eq_getElem (by rw[h2.len]; omega)
    obtain⟨k1,k2,k3⟩:=h2.rep j _ _ e1 e2
    exact⟨_,_,h6.trans e1,e2,k1,k2,k3⟩
   have hget:∀ i,i<len→∃ y,ys[i]?=some y:=λi hi=>⟨ys[i],List.getElem?_eq_getElem (by omega)⟩
   refine⟨ys,Z45 rfl rfl ?_,⟨λy hy=>?_,?_⟩⟩
   ·refine .sl false b off len cap (P.cellsOf e) _ (λi j=>(w.cell? ⟨b,off+i*P.cellsOf e+j,none⟩).getD Go.undef) (by simp[hyl]) (λh=>by cases h) hlc (λi r hr=>?_) (λi j hi hj=>?_) (λi j hi hj=>?_) (λi j hi hj=>?_) (λi j r d hr hd=>?_) (λi j r d hr hd=>?_)
    ·rw[List.getElem?_map] at hr
     obtain⟨y,hy,rfl⟩:=Xt hr
     exact(hcell i y hy).1
    ·obtain⟨y,hy⟩:=hget i hi
     obtain⟨v,d,h1,-⟩:=(hcell i y hy).2 j hj
     exact Zn1 h1
    ·obtain⟨y,hy⟩:=hget i hi
     obtain⟨v,d,h1,-⟩:=(hcell i y hy).2 j hj
     rw[h1]; rfl
    ·obtain⟨y,hy⟩:=hget i hi
     obtain⟨v,d,h1,_,h3,-⟩:=(hcell i y hy).2 j hj
     rw[h1]; exact h3
    ·rw[List.getElem?_map] at hr
     obtain⟨y,hy,rfl⟩:=Xt hr
     have hj:j<P.cellsOf e:=by
      rw[← (hcell i y hy).1]
      rcases Nat.lt_or_ge j (row y).length with h'|h'
      ·exact h'
      ·rw[List.getElem?_eq_none h'] at hd; cases hd
     obtain⟨v,d',h1,h2,h3,h4,h5⟩:=(hcell i y hy).2 j hj
     rw[h2] at hd; cases hd; exact h4
    ·rw[List.getElem?_map] at hr
     obtain⟨y,hy,rfl⟩:=Xt hr
     have hj:j<P.cellsOf e:=by
      rw[← (hcell i y hy).1]
      rcases Nat.lt_or_ge j (row y).length with h'|h'
      ·exact h'
      ·rw[List.getElem?_eq_none h'] at hd; cases hd
     obtain⟨v,d',h1,h2,h3,h4,h5⟩:=(hcell i y hy).2 j hj
     rw[h2] at hd; cases hd
     rw[h1]; exact h5
   ·obtain⟨i,hi⟩:=List.getElem?_of_mem hy
    obtain⟨_,_,_,h3⟩:=hys i y hi
    exact h3
   ·refine Nat.le_trans (Nat.mul_le_mul_right _ ?_) hz1
    simp; omega
theorem Jo.map {A B:Type} {t:TypeId} {row:A→List D} {wf:A→Prop} (h:Jo M t row wf) (f:A→B) {row':B→List D} {wf':B→Prop} (hr:∀ a,row' (f a)=row a) (hw:∀ a,wf a→wf' (f a)):Jo M t row' wf':=
 fun H enc w n cs x h1 h2=>by
  obtain⟨y,k1,k2⟩:=h H enc w n cs x h1 h2
  exact⟨f y,by rw[hr]; exact k1,hw y k2⟩
def Z9d {T:Type} {P:Program} (M:Jy P) (tot off:Nat) (fs:List Field) (row:T→List D) (wf:T→Prop):Prop:=
 ∀ (H:Type) (enc:TypeId×Value→H) (w:World) (m:Nat) (cs:List Value) (xs:List (DataW H×List MemPlace)),cs.length=tot→xs.length=fs.length→
  (∀ (i:Nat) (f:Field),fs[i]?=some f→DataW.trod enc P w 0 (λ_=>true) true m f.type ((cs.drop f.offset).take (P.cellsOf f.type))=xs[i]?)→
  M.qe (fs.map (·.type)) (xs.map (·.1))→∃ y,Mm w (cs.drop off) (row y)∧wf y
theorem Y2 {tot:Nat}:Z9d M tot tot [] (λ_:Unit=>[]) (λ_=>True):=by
 intro H enc w m cs xs hc _ _ _
 refine⟨(),?_,trivial⟩
 rw[List.drop_eq_nil_of_le (by omega)]
 exact⟨rfl,λj v d h=>by simp at h⟩
theorem Z0 {A B:Type} {tot off n:Nat} {f:Field} {fs:List Field} {rowA:A→List D} {wfA:A→Prop} {rowB:B→List D} {wfB:B→Prop} (hA:Jo M f.type rowA wfA) (hn:P.cellsOf f.type=n) (hB:Z9d M tot (off+n) fs rowB wfB)
  (hoff:f.offset=off):Z9d M tot off (f::fs) (λp:A×B=>rowA p.1++rowB p.2) (λp=>wfA p.1∧wfB p.2):=by
 intro H enc w m cs xs hc hl hx hz
 cases xs with
 | nil=>simp at hl
 | cons x xs=>
  replace hz:=M.hcons hz
  have h0:=hx 0 f rfl
  simp only[List.getElem?_cons_zero] at h0
  obtain⟨a,a1,a2⟩:=hA H enc w m _ x h0 hz.1
  obtain⟨b,b1,b2⟩:=hB H enc w m cs xs hc (by simpa using hl) (λi g hg=>by have:=hx (i+1) g (by simpa using hg); simpa using this) hz.2
  refine⟨(a,b),?_,a2,b2⟩
  rw[hoff,hn] at a1
  have e:cs.drop off=(cs.drop off).take n++cs.drop (off+n):=by rw[← List.drop_drop,List.take_append_drop]
  rw[e]
  exact a1.append b1
theorem Y4 {T:Type} {t:TypeId} {tot:Nat} {fs:Array Field} {row:T→List D} {wf:T→Prop} (hu:P.underlying t=some (.struct fs)) (ht:P.cellsOf t=tot) (hF:Z9d M tot 0 fs.toList row wf):Jo M t row wf:=by
 subst ht
 intro H enc w n cs x h hz
 obtain⟨xs,m,rfl,rfl,hc,hl,hx⟩:=DataW.trod_struct hu h
 exact hF H enc w m cs xs hc (by simpa using hl) (λi f hf=>hx i f (by simpa using hf)) (M.hst hu hz)
theorem Z5i {T:Type} {t:TypeId} {fs:Array Field} {row:T→List D} {wf:T→Prop} (hu:P.underlying t=some (.struct fs)) (hR:Jo M t row wf) {H:Type} {enc:TypeId×Value→H} {W:World} {r:_root_.Go.Reach} {base:Nat} {v:Value} {d:DataW H} {p:List MemPlace}
  (hval:Value.okWide P W r base t v) (hd:DataW.Trod enc P W 0 (λ_=>true) true t v d p) (hz:M.q t d):∃ y,Z9 W (L0 W) (λ_=>none) v (.agg (row y))∧wf y:=by
 unfold Value.okWide at hval
 rw[hu] at hval
 obtain⟨cs,rfl,-,-⟩:=hval
 obtain⟨fuel,hf⟩:=hd
 obtain⟨y,h1,h2⟩:=hR H enc W fuel _ _ hf hz
 have hcs:(Value.agg cs).cells.toList=cs.toList:=rfl
 rw[hcs] at h1
 refine⟨y,.agg cs (row y) (by have:=h1.len; simpa using this) (λj u hu=>?_) (λj u e hu he=>(h1.rep j u e (by simpa using hu) he).2.2),h2⟩
 have hj:j<(row y).length:=by
  have:=h1.len
  rcases Nat.lt_or_ge j cs.size with h'|h'
  ·simp at this; omega
  ·rw[Array.getElem?_eq_none h'] at hu; cases hu
 exact(h1.rep j u _ (by simpa using hu) (List.getElem?_eq_getElem hj)).1
theorem Ztr {H:Type} {enc:TypeId×Value→H} (hl:laidOutB P=true) {W W':World} (hb:Below W.heap.size W W'):∀ {ts:List TypeId} {vs:List Value} {ds:List (DataW H)} {ps:List MemPlace},
  ts.all (λt=>P.readableRec t&&decide (t<P.types.size))=true→DataW.TrodAll enc P W 0 (λ_=>true) true ts vs ds ps→(∀ x∈ps,x.block<W.heap.size)→
  DataW.TrodAll enc P W' 0 (λb=>decide (b<W.heap.size)) true ts vs ds ps
 | [],[],[],ps,_,h,_=>h
 | t::ts,v::vs,d::ds,ps,ht,h,hlt=>by
  simp only[List.all_cons,Bool.and_eq_true,decide_eq_true_eq] at ht
  obtain⟨p,q,h1,h2,rfl⟩:=h
  exact⟨p,q,Below.trod hl ht.1.1 ht.1.2 h1 hb (λx hx=>hlt x (by simp[hx])),Ztr hl hb (by simpa using ht.2) h2 (λx hx=>hlt x (by simp[hx])),rfl⟩
 | [],[],_::_,_,_,h,_=>h.elim
 | [],_::_,_,_,_,h,_=>h.elim
 | _::_,[],_,_,_,h,_=>h.elim
 | _::_,_::_,[],_,_,h,_=>h.elim
theorem Z9n {f:FuncId} {fn:Func} {s:ChangeSpec} {H:Type} {enc:TypeId×Value→H} {W:World} {args:Array Value} {ds:List (DataW H)} {before:List MemPlace} {tb:TypeId} (hvars:s.vars=[])
  (hres:fn.resultTypes= #[tb]) (htb:P.underlying tb=some .bool) (hl:laidOutB P=true) (hts:fn.params.toList.all (λt=>P.readableRec t&&decide (t<P.types.size))=true)
  (hW:DataW.Whole enc P fn.params.toList s.vars false W args.toList ds [] before) (hfn:s.fn H (ds++[])={ results:=[.lit (.bool true)],args:=ds })
  {das:List D} (hrep:Lv W (L0 W) args das) (hgl:Mo W (L0 W)) (hspec:Zb P f das (.bool true)):
  Calls P f args W λe W'=>∃ v,e=.returned v∧s.post enc P fn false true false false W args v W':=by
 refine(hspec.2 W (L0 W) args (Zwx W) hgl hrep).mono λe W' he=>?_
 obtain⟨v,G',rfl,hb,-,-,hv⟩:=he
 obtain rfl:=Ky hv
 have hW':=hW
 obtain⟨p,q,hA,hV,rfl,hfz,hnd⟩:=hW
 have hq:q=[] :=by
  rw[hvars] at hV; exact hV
 subst hq
 refine⟨_,rfl,ds,[],p++[],[],p,[],hW',?_,?_,?_,hb.frame _,λh=>by cases h⟩
 ·rw[hfn,hres]
  exact trodAll_cons_mk (shut_bool htb true) trodAll_mk0
 ·rw[hfn]
  exact Ztr hl hb hts hA (λx hx=>by simpa using hW'.lt x (by simp[hx]))
 ·rw[hvars,hfn]; rfl
end Go.Den
namespace Go.Den
open Go.RowKit
theorem Lv.nil {w:World} {G:Nat→Nat}:Lv w G #[] [] :=⟨rfl,λj v d h=>by simp at h⟩
theorem Lv.cons {w:World} {G:Nat→Nat} {v:Value} {d:D} {l:List Value} {ds:List D} (h:Z9 w G (λ_=>none) v d) (t:Lv w G l.toArray ds):Lv w G (v::l).toArray (d::ds):=by
 refine⟨by have:=t.size; simpa using this,λj u e hu he=>?_⟩
 cases j with
 | zero=>simp at hu he; subst hu he; exact h
 | succ j=>exact t.rep j u e (by simpa using hu) (by simpa using he)
theorem Z03 {n:Nat} (h:n≤reachBytes):(n:Int)≤140737488355328:=by
 have h':n≤140737488351232:=h
 omega
end Go.Den
