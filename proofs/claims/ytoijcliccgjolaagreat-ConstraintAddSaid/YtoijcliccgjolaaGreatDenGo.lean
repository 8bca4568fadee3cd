/-
  Proofs in few words: what is told of a region carries its own proof; the state that a run has come to is not written out.
-/
import Derived.Test.YtoijcliccgjolaaGreatDenMod
namespace Go.Den
open Go.RowKit
variable {P : Program} {Γ : Ctx} {σ σ' : S}
namespace W
theorem a2 {p q : Prop} (hp : p) (hq : q) : p ∧ q:=⟨hp,hq⟩
structure GT where
 t : Z1j
 g : Option Bool
 /-- it owes something -/
 o : Bool
 q : Prop
 p : Prop
 hq : q
 hp : p
def GT.of (t : Z1j) {p : Prop} (h : p) : GT:=⟨t,none,true,True ∧ p,p,⟨trivial,h⟩,h⟩
def g0 : GT:=GT.of {} trivial
def bo : GT:=⟨{ ro:=true },none,false,True ∧ True,True,⟨trivial,trivial⟩,trivial⟩
def gw {b w : Bool} (h : b = w) (x : GT) : GT:=⟨x.t,some true,true,((b == w) = true) ∧ x.p,x.p,⟨by simp [h],x.hp⟩,x.hp⟩
def gs0 {b : Bool} (h : b = true) : GT:=⟨{},some false,true,(b == false) = false,True,by simp [h],trivial⟩
def gs1 {b : Bool} (h : b = false) : GT:=⟨{},some false,true,(b == true) = false,True,by simp [h],trivial⟩
class Row (α : Type) where
 row : α → List D
 size : Nat
 hs : ∀ x,(row x).length = size
instance {α : Type} [R : Row α] : Row (List α):=⟨rSl R.row,1,fun _=>rfl⟩
instance RI64 : Row Int:=⟨Z03,1,fun _=>rfl⟩
abbrev RU8 : Row Int:=⟨rU8,1,fun _=>rfl⟩
instance : Row Bool:=⟨Z3b,1,fun _=>rfl⟩
instance : Row (List UInt8):=⟨Z2s,1,fun _=>rfl⟩
def pA : D → Prop
 | .agg cs=>tN cs.length
 | _=>True
def pL : List D → Prop
 | [] =>True
 | d :: r=>pA d ∧ pL r
theorem pLi : ∀ l,pL l
 | [] =>trivial
 | d :: r=>⟨by cases d <;> first | exact trivial | exact tNi _,pLi r⟩
def pR : D → Prop
 | .tup ds=>pL ds
 | d=>pL [d]
theorem pRi (d : D) : pR d:=by cases d <;> exact pLi _
def pN (k : Nat) : Nat → Prop
 | 0=>True
 | n + 1=>tN k ∧ pN k n
theorem pNi (k : Nat) : ∀ n,pN k n
 | 0=>trivial
 | n + 1=>⟨tNi k,pNi k n⟩
section
variable {f : FuncId} {A : List D} {r : D}
def k (h : Z0c P f A r) : GT:=GT.of { ans:= .val r } (p:=cq P (pL A) f A r) (cqi (pLi _) h)
def isRef : D → Bool
 | .lptr .. | .lsl .. | .undef=>true
 | _=>false
def Zoj : List D → List D
 | [] =>[]
 | d :: l=>match isRef d with
  | true=>Zoj l
  | false=>d :: Zoj l
def kB {p : Prop} (hp : p) (A1 : List D) (h12 : A1 = A) (h : Z0c P f A r) : GT:=GT.of { ans:= .val r,args:=A } (p:=p ∧ A1 = A ∧ Zal P f A r) ⟨hp,h12,.inl h⟩
def koB {B B' : List Blk} (names : List Nat) {p : Prop} (hp : p) (A1 : List D) (h12 : A1 = A) (h : Z3y P f A B r B') (fresh nils : List (Nat × Nat):=[]) (kp : Bool:=false) : GT:=
 GT.of { ans:= .val r,args:=A,io:=some { names,fresh,nils,bs:=B,bs':=B',kp } } (p:=p ∧ A1 = A ∧ B = B ∧ Z3y P f A B r B') ⟨hp,h12,rfl,h⟩
def ko {B B' : List Blk} (names : List Nat) (h : Z3y P f A B r B') (fresh nils : List (Nat × Nat):=[]) (kp : Bool:=false) : GT:=
 GT.of { ans:= .val r,io:=some { names,fresh,nils,bs:=B,bs':=B',kp } } (p:=cqo P (pL (Zoj A)) f A B r B') (cqoi (pLi _) h)
end
def bl (m k : Nat) : GT:=GT.of {} (pNi k m)
def br0 (m k : Nat) : GT:=GT.of { ro:=true } (pNi k m)
def br2 {A : List (List D)} {p : Prop} (hp : p) (A1 : List (List D)) (h12 : A1 = A) : GT:=GT.of { ro:=true,rows:=some A } (p:=(p ∧ True) ∧ A1 = A) ⟨⟨hp,trivial⟩,h12⟩
def qs {g q : Prop} (hg : g) (hq : q) (e : Bool) : GT:=GT.of { ans:= .val (.bool e) } (p:=g ∧ q ∧ e = e) ⟨hg,hq,rfl⟩
def n {m : Int} {e : Int} (h : some e = some m) (k : IntKind:= .i64) : GT:=GT.of { ans:= .val (.int k m) } (p:=e = m) (someE h)
def n8 {m : Int} {e : Int} (h : some e = some m) : GT:=n h .u8
def kb {b v : Bool} (h : b = v) : GT:=GT.of { ans:= .val (.bool v) } (p:=b = v) h
def py {b : Bool} (h : b = true) : GT:=GT.of { ans:= .yes } (p:=b = true) h
def pn {b : Bool} (h : b = false) : GT:=GT.of { ans:= .no } (p:=b = false) h
def ct {a b m : List UInt8} (h : Z21 a b = some m) : GT:=GT.of { ans:= .val (.str m) } (Y43 h)
def dv {k : IntKind} {a b m : Int} (h : divK k a b = some m) : GT:=GT.of { ans:= .val (.int k m) } (Y0x h)
def md {a b m : Int} (h : modK a b = some m) (k : IntKind:= .i64) : GT:=GT.of { ans:= .val (.int k m) } (Y3a h)
def sl {k : IntKind} {a y m : Int} (h : Z6d k a y = some m) : GT:=GT.of { ans:= .val (.int k m) } (Zze h)
def sr {k : IntKind} {a y m : Int} (h : shrK k a y = some m) : GT:=GT.of { ans:= .val (.int k m) } (Y3p h)
def ib {s : List UInt8} {i m : Int} (h : Z2x s i = some m) : GT:=GT.of { ans:= .val (.int .u8 m) } h
def ss {s r : List UInt8} {lo hi : Int} (h : sub s lo hi = some r) : GT:=GT.of { ans:= .val (.str r) } h
section
variable {α : Type} [R : Row α]
def ln (l : List α) : GT:=GT.of { ans:= .val (.int .i64 l.length) } (p:=((l.map R.row).length : Int) = (l.length : Int)) (lenM _ _)
def ix {l : List α} {i : Int} {x : α} (h : Z08 l i = some x) : GT:=GT.of { ans:= .row (R.row x) } (p:=Z08 (l.map R.row) i = some (R.row x)) (Y3j _ h)
def lb {l : List α} {j : Nat} {x : α} (h : l[j]? = some x) : GT:=GT.of { ans:= .row (R.row x) } (p:=(l.map R.row)[j]? = some (R.row x)) (getM _ h)
def ia (b : Nat) {l : List α} {i : Int} {j : Nat} (h : Z3m i l.length = some j) : GT:=
 GT.of { ans:= .val (.lptr b j 0) } (p:=0 ≤ i ∧ i < (((l.map R.row).length : Nat) : Int) ∧ ((0 : Nat) : Int) + i = j) (Zwv h (lenMN _ _))
def ax (i : Int) (m : Nat) (h : (decide (0 ≤ i) && decide (i < m)) = true:=by kernel_rfl) : GT:=
 GT.of {} (p:=0 ≤ i ∧ i < m) (by rw [Bool.and_eq_true,decide_eq_true_eq,decide_eq_true_eq] at h; exact h)
def sb {l r : List α} {lo hi : Int} (h : sub l lo hi = some r) : GT:=
 GT.of { ans:= .rows (r.map R.row) } (p:=(∀ x ∈ l.map R.row,x.length = R.size) ∧ sub (l.map R.row) lo hi = some (r.map R.row)) ⟨szM R.hs _,subM _ h⟩
def rw_ (l : List α) : D:= .sl false (((l.map R.row).drop 0).take (l.map R.row).length)
theorem rwE (l : List α) : rw_ l = .sl false (l.map R.row):=by unfold rw_; rw [Zs6]
def rp (l : List α) : Prop:=0 + (l.map R.row).length ≤ (l.map R.row).length
theorem rpI (l : List α) : rp l:=Zuy _
def mk {by_ : Nat} {l c : Int} {u : Unit} (z : α) (h : Z8w by_ l c = some u) : GT:=
 GT.of { rows:=some ((List.replicate l.toNat z).map R.row) } (p:=0 ≤ l ∧ l ≤ c ∧ (by_ : Int) * c ≤ 281474976710656 ∧ c ≤ 9223372036854775807 ∧ List.replicate l.toNat (R.row z) = (List.replicate l.toNat z).map R.row)
  ⟨(Zgf h).1,(Zgf h).2.1,(Zgf h).2.2.1,(Zgf h).2.2.2,repM _ _ _⟩
def an {by_ : Nat} {l m : List α} {u u0 : Unit} (h0 : Zio l m = some u0) (h : Z20 by_ (l ++ m).length = some u) : GT:=
 GT.of { rows:=some ((l ++ m).map R.row) }
  (p:=True ∧ (l.map R.row = [] ∨ m.map R.row ≠ []) ∧ (∀ r ∈ l.map R.row,r.length = R.size) ∧ (∀ r ∈ m.map R.row,r.length = R.size) ∧ l.map R.row ++ m.map R.row = (l ++ m).map R.row ∧ ((l ++ m).map R.row).length ≤ 9223372036854775807 ∧ ((l ++ m).map R.row).length * by_ ≤ 140737488355328)
  ⟨trivial,freshM R.row h0,szM R.hs _,szM R.hs _,appM _ _ _,Zub h (lenMN _ _)⟩
theorem fr0 {γ β : Type} {m : List β} : Zio ([] : List γ) m = some ():=rfl
def bsB (l : List Int) : GT:=GT.of { ans:= .val (.str (bytesOf l)) } (p:=(0 + (l.map rU8).length ≤ (l.map rU8).length) ∧ Z6y (((l.map rU8).drop 0).take (l.map rU8).length) = some (bytesOf l)) ⟨Zuy _,by rw [Zs6]; exact Y1v _⟩
def st {l : List α} {j : Nat} {x : α} (h : l[j]? = some x) (off : Nat) (cs : List D) (y : α) (hl : Nat.ble (off + cs.length) (R.row x).length = true:=by kernel_rfl) (hy : Z4r (R.row x) off cs = R.row y:=by kernel_rfl) : GT:=
 GT.of { row:=some (R.row x),rows:=some ((l.set j y).map R.row) }
  (p:=0 ≤ j ∧ (l.map R.row)[j]? = some (R.row x) ∧ off + cs.length ≤ (R.row x).length ∧ (l.map R.row).set j (Z4r (R.row x) off cs) = (l.set j y).map R.row)
  ⟨Nat.zero_le _,getM _ h,Nat.le_of_ble_eq_true hl,by rw [hy]; exact setM _ _ _ _⟩
def ap {by_ : Nat} {l m : List α} {u : Unit} (h : Z20 by_ (l ++ m).length = some u) : GT:=
 GT.of { rows:=some ((l ++ m).map R.row) }
  (p:=True ∧ (l.map R.row).length = (l.map R.row).length ∧ (∀ r ∈ m.map R.row,r.length = R.size) ∧ l.map R.row ++ m.map R.row = (l ++ m).map R.row ∧ ((l ++ m).map R.row).length ≤ 9223372036854775807 ∧ ((l ++ m).map R.row).length * by_ ≤ 140737488355328)
  ⟨trivial,rfl,szM R.hs _,appM _ _ _,Zub h (lenMN _ _)⟩
end
structure GR where
 id : Nat
 l : List (Nat × GT)
 ord : Option (List Nat × List Nat × List (Nat × List Nat)):=none
def rg (id : Nat) (l : List (Nat × GT)) : GR:={ id,l }
def rgo (id : Nat) (l : List (Nat × GT)) (ord xs : List Nat) (W : List (Nat × List Nat)) : GR:={ id,l,ord:=some (ord,xs,W) }
def Zim : List (Nat × GT) → List (Nat × Z1j)
 | [] =>[]
 | (i,x) :: r=>(i,x.t) :: Zim r
def gsG : List (Nat × GT) → List (Nat × Bool)
 | [] =>[]
 | (i,x) :: r=>match x.g with
  | some b=>(i,b) :: gsG r
  | none=>gsG r
def Z98 : List (Nat × GT) → List Prop → List Prop
 | [],q=>q
 | (_,x) :: r,q=>match x.o with
  | true=>x.q :: Z98 r q
  | false=>Z98 r q
def owes : List GR → List Prop
 | [] =>[]
 | x :: r=>Z98 x.l (owes r)
theorem Zev : ∀ (l : List (Nat × GT)) {q : List Prop},holds q → holds (Z98 l q)
 | [],_,h=>h
 | (_,x) :: r,_,h=>by
  unfold Z98
  split
  ·exact ⟨x.hq,Zev r h⟩
  ·exact Zev r h
theorem Zwf : ∀ l : List GR,holds (owes l)
 | [] =>trivial
 | x :: r=>Zev x.l (Zwf r)
def grAt : List GR → Nat → GR
 | [],i=>{ id:=i,l:=[] }
 | x :: r,i=>match Nat.beq x.id i with
  | true=>x
  | false=>grAt r i
def Zdp (o : Oper) (t : Z1j) : Bool:=
 match o.op,t.ans with
 | .binOp .sub ..,.go | .binOp .mul ..,.go | .binOp .and ..,.go | .binOp .or ..,.go | .binOp .xor ..,.go | .binOp .andNot ..,.go=>true
 | _,_=>Z51 o t
def Zep (σ : S) (o : Oper) (t : Z1j) : Bool:=
 match o.op,t with
 | .store _ x v,{ row:=none,rows:=none,.. }=>
  match σ.ev x,cellsOf (σ.ev v) with
  | .lptr b i off,some cs=>
   match σ.heap b with
   | some blk=>match blk.rows[i]? with
    | some r=>Nat.ble blk.frz i && Nat.ble (off + cs.length) r.length
    | none=>false
   | none=>false
  | _,_=>false
 | _,_=>false
theorem triv_st {o : Oper} {t : Z1j} (ht : Zep σ o t = true) {p : Prop} (h : Z2k P σ o t = some (σ',p)) : p:=by
 unfold Zep at ht
 split at ht
 ·rename_i ty x v ans args io ro mt ho
  split at ht
  ·rename_i b i off cs hx hc
   split at ht
   ·rename_i blk hb
    split at ht
    ·rename_i r hr
     rw [Bool.and_eq_true] at ht
     unfold Z2k at h
     have e1 : Z1y P σ o ans = none:=by unfold Z1y; rw [ho]
     dsimp only at h
     rw [e1] at h
     dsimp only at h
     unfold Z3g at h
     rw [ho] at h
     dsimp only at h
     unfold Z8c at h
     rw [hx] at h
     dsimp only at h
     rw [hb,hc] at h
     split at h
     ·rename_i blk' cs' sz h1 h2 h3
      cases h1; cases h2
      split at h
      ·rw [hr] at h
       cases h
       exact ⟨Nat.le_of_ble_eq_true ht.1,Nat.le_of_ble_eq_true ht.2,rfl⟩
      ·cases h
     ·cases h
    ·cases ht
   ·cases ht
  ·cases ht
 ·cases ht
def Zcp (σ : S) (o : Oper) (t : Z1j) : Bool:=
 match o.op,t.ans with
 | .binOp .add _ x _ _,.go=>(match σ.ev x with | .int .. =>true | _=>false)
 | _,_=>false
theorem triv_ad {o : Oper} {t : Z1j} (ht : Zcp σ o t = true) {p : Prop} (h : Z2k P σ o t = some (σ',p)) : p:=by
 unfold Zcp at ht
 split at ht
 ·rename_i xt x y yt ho ha
  split at ht
  ·rename_i k a hx
   unfold Z2k at h
   split at h
   ·rename_i d q hq
    split at h
    ·cases h
     unfold Z1y at hq
     rw [ho,ha] at hq
     dsimp only at hq
     unfold binD at hq
     rw [hx] at hq
     generalize σ.ev y = z at hq
     cases z <;> first
      | (simp only [] at hq; split at hq; exact Z9v hq; cases hq)
      | cases hq
    ·cases h
   ·unfold Z3g at h
    rw [ho] at h
    cases h
  ·cases ht
 ·cases ht
theorem Zzd {k : IntKind} {n : Int} {d : D} {p : Prop} (h : Z42 k n .go = some (d,p)) : p:=by cases h; trivial
theorem Y0r {op : BinOp} (hop : op = .add ∨ op = .sub ∨ op = .mul ∨ op = .and ∨ op = .or ∨ op = .xor ∨ op = .andNot) {k : IntKind} {a b : Int} {d : D} {p : Prop} (h : Zp5 op k a b .go = some (d,p)) : p:=by
 rcases hop with rfl | rfl | rfl | rfl | rfl | rfl | rfl <;> exact Zzd h
theorem Y1y {a b : List UInt8} {op : BinOp} (hop : op = .add ∨ op = .sub ∨ op = .mul ∨ op = .and ∨ op = .or ∨ op = .xor ∨ op = .andNot) (h1 : op ≠ .add) {d : D} {p : Prop} (h : Zfo op a b .go = some (d,p)) : p:=by
 rcases hop with rfl | rfl | rfl | rfl | rfl | rfl | rfl
 ·exact absurd rfl h1
 all_goals cases h
theorem Y20 {o : Oper} {t : Z1j} (ht : Zdp o t = true) {p : Prop} (h : Z2k P σ o t = some (σ',p)) : p:=by
 unfold Zdp at ht
 have main : ∀ op xt x y yt,o.op = .binOp op xt x y yt → t.ans = .go → (op = .sub ∨ op = .mul ∨ op = .and ∨ op = .or ∨ op = .xor ∨ op = .andNot) → p:=by
  intro op xt x y yt ho ha hop
  have hop' : op = .add ∨ op = .sub ∨ op = .mul ∨ op = .and ∨ op = .or ∨ op = .xor ∨ op = .andNot:= .inr hop
  unfold Z2k at h
  split at h
  ·rename_i d q hq
   split at h
   ·cases h
    unfold Z1y at hq
    rw [ho,ha] at hq
    dsimp only at hq
    unfold binD at hq
    split at hq
    ·split at hq
     ·simp at hop
     ·simp at hop
     ·split at hq
      ·exact Y0r hop' hq
      ·cases hq
    ·exact Y1y hop' (by rintro rfl; simp at hop) hq
    ·split at hq
     ·split at hq
      ·simp at hop
      ·simp at hop
      ·cases hq
     ·cases hq
    ·split at hq
     ·rename_i he; cases he
     ·cases hq
    ·exact Zap hq
    ·exact Zap hq
    ·split at hq
     ·exact Zap hq
     ·cases hq
    ·cases hq
   ·cases h
  ·unfold Z3g at h
   rw [ho] at h
   cases h
 split at ht <;> first
  | exact Y18 ht h
  | (rename_i ho ha; exact main _ _ _ _ _ ho ha (by simp))
def trivG (ops : Array Oper) (told : List (Nat × Z1j)) (gs : List (Nat × Bool)) (i : Nat) (σ : S) : Bool:=
 match ops[i]? with
 | none=>true
 | some o=>match o.guard with
  | none=>Zdp o (Z3a told i) || (Zep σ o (Z3a told i) || Zcp σ o (Z3a told i))
  | some _=>match gAt gs i with
   | some _=>false
   | none=>match Z4g ops σ o none with
    | some (true,_)=>Zdp o (Z3a told i) || (Zep σ o (Z3a told i) || Zcp σ o (Z3a told i))
    | _=>true
theorem Zv2 {ops : Array Oper} {o : Oper} {b : Bool} {g : Prop} (h : Z4g ops σ o none = some (b,g)) : g:=by
 unfold Z4g at h
 split at h
 ·cases h; trivial
 ·split at h
  ·split at h
   ·rename_i he; cases he
   ·split at h <;> cases h <;> trivial
  ·cases h; trivial
  ·cases h
theorem Zrh {o : Oper} {t : Z1j} (ht : (Zdp o t || (Zep σ o t || Zcp σ o t)) = true) {p : Prop} (h : Z2k P σ o t = some (σ',p)) : p:=by
 rw [Bool.or_eq_true] at ht
 rw [Bool.or_eq_true] at ht
 exact ht.elim (fun x=>Y20 x h) (fun x=>x.elim (fun x=>triv_st x h) (fun x=>triv_ad x h))
theorem Zsf {ops : Array Oper} {told : List (Nat × Z1j)} {gs : List (Nat × Bool)} {i : Nat} (ht : trivG ops told gs i σ = true) {p : Prop} (h : Z3c P ops told gs i σ = some (σ',p)) : p:=by
 unfold trivG at ht
 unfold Z3c at h
 cases ho : ops[i]? with
 | none=>rw [ho] at h; cases h; trivial
 | some o=>
  rw [ho] at h ht
  dsimp only at h ht
  cases hg : o.guard with
  | none=>
   rw [hg] at ht
   have e : Z4g ops σ o (gAt gs i) = some (true,True):=by unfold Z4g; rw [hg]
   rw [e] at h
   dsimp only at h ht
   split at h
   ·rename_i σ1 q hq; cases h; exact ⟨trivial,Zrh ht hq⟩
   ·cases h
  | some y=>
   rw [hg] at ht
   dsimp only at ht
   split at ht
   ·cases ht
   ·rename_i hn
    rw [hn] at h
    split at h
    ·cases h
    ·rename_i g h1
     rw [h1] at ht
     split at h
     ·rename_i σ1 q hq; cases h; exact ⟨Zv2 h1,Zrh ht hq⟩
     ·cases h
    ·rename_i g h1
     split at h
     ·cases h; exact Zv2 h1
     ·cases h
def Z90 (P : Program) (ops : Array Oper) (told : List (Nat × Z1j)) (gs : List (Nat × Bool)) (xs : Option (List Nat)) : List Nat → S → Option (S × List Prop)
 | [],σ=>some (σ,[])
 | i :: r,σ=>
  match (match xs with
   | none=>Z3c P ops told gs i σ
   | some xs=>Z2o P ops told gs xs i σ) with
  | some (σ',p)=>
   match Z90 P ops told gs xs r σ' with
   | some (σ'',q)=>match trivG ops told gs i σ with
    | true=>some (σ'',q)
    | false=>some (σ'',p :: q)
   | none=>none
  | none=>none
theorem Zek {ops : Array Oper} {told : List (Nat × Z1j)} {gs : List (Nat × Bool)} : ∀ (l : List Nat) {σ : S} {q : List Prop},Z90 P ops told gs none l σ = some (σ',q) → holds q → ∃ p,Z7r P ops told gs l σ = some (σ',p) ∧ p
 | [],σ,q,h,hq=>by cases h; exact ⟨True,rfl,trivial⟩
 | i :: r,σ,q,h,hq=>by
  unfold Z90 at h
  unfold Z7r
  dsimp only at h
  split at h
  ·rename_i σ1 p1 h1
   split at h
   ·rename_i σ2 q2 h2
    split at h
    ·rename_i ht
     cases h
     obtain ⟨p,e,hp⟩:=Zek r h2 hq
     exact ⟨p1 ∧ p,by rw [h1]; dsimp only; rw [e],Zsf ht h1,hp⟩
    ·cases h
     obtain ⟨p,e,hp⟩:=Zek r h2 hq.2
     exact ⟨p1 ∧ p,by rw [h1]; dsimp only; rw [e],hq.1,hp⟩
   ·cases h
  ·cases h
theorem Zn1 {ops : Array Oper} {told : List (Nat × Z1j)} {gs : List (Nat × Bool)} {xs : List Nat} : ∀ (l : List Nat) {σ : S} {q : List Prop},Z90 P ops told gs (some xs) l σ = some (σ',q) → holds q → ∃ p,Z75 P ops told gs xs l σ = some (σ',p) ∧ p
 | [],σ,q,h,hq=>by cases h; exact ⟨True,rfl,trivial⟩
 | i :: r,σ,q,h,hq=>by
  unfold Z90 at h
  unfold Z75
  dsimp only at h
  split at h
  ·rename_i σ1 p1 h1
   split at h
   ·rename_i σ2 q2 h2
    split at h
    ·rename_i ht
     cases h
     obtain ⟨p,e,hp⟩:=Zn1 r h2 hq
     exact ⟨p1 ∧ p,by rw [h1]; dsimp only; rw [e],Zsf ht (Zmf h1),hp⟩
    ·cases h
     obtain ⟨p,e,hp⟩:=Zn1 r h2 hq.2
     exact ⟨p1 ∧ p,by rw [h1]; dsimp only; rw [e],hq.1,hp⟩
   ·cases h
  ·cases h
def runRG (P : Program) (x : GR) (ops : Array Oper) (draw : Bool) (σ : S) : Option (S × List Prop):=
 match draw with
 | false=>Z90 P ops (Zim x.l) (gsG x.l) none (List.range ops.size) σ
 | true=>
  match x.ord with
  | none=>none
  | some (ord,xs,W)=>
   match P.follows .mixedOrders && ordOk ops xs W ord with
   | true=>Z90 P ops (Zim x.l) (gsG x.l) (some xs) ord σ
   | false=>none
theorem Y08 {x : GR} {ops : Array Oper} {draw : Bool} {id : Nat} {q : List Prop} {Q : Exit → S → Prop} (h : runRG P x ops draw σ = some (σ',q)) (hq : holds q) (hQ : Q .normal σ') : DWP P Γ (.region id ops draw) Q σ:=by
 unfold runRG at h
 split at h
 ·obtain ⟨p,e,hp⟩:=Zek _ h hq
  exact DWP.region e hp hQ
 ·split at h
  ·cases h
  ·split at h
   ·rename_i hok
    simp only [Bool.and_eq_true] at hok
    obtain ⟨p,e,hp⟩:=Zn1 _ h hq
    exact DWP.draw hok.1 hok.2 e hp hQ
   ·cases h
abbrev Out:=Option (Ev × S × List Prop)
def Out.s (A : Out) : S:=match A with
 | some (_,σ,_)=>σ
 | none=>mkS 0 [] []
def Out.e (A : Out) : Ev:=match A with
 | some (e,_,_)=>e
 | none=> .normal
def Out.q (A : Out) : Option (List Prop):=match A with
 | some (_,_,q)=>some q
 | none=>none
def run (P : Program) (stops : List Nat) (rs : List GR) : Nat → Option Code → List Z2a → S → Out
 | 0,_,_,_=>none
 | n + 1,none,K,σ=>
  match popN K with
  | some (z,K')=>run P stops rs n (some z) K' σ
  | none=>some (.normal,σ,[])
 | n + 1,some c,K,σ=>
  match c with
  | .skip=>run P stops rs n none K σ
  | .seq x y=>run P stops rs n (some x) (.seq y :: K) σ
  | .block id x=>run P stops rs n (some x) (.blk id :: K) σ
  | .exit id=>
   match Z5z id K with
   | some K'=>run P stops rs n none K' σ
   | none=>some (.exit id,σ,[])
  | .ret=>some (.ret,σ,[])
  | .loop x=>some (.loop x K,σ,[])
  | .cond o x y=>
   match σ.ev o with
   | .bool b=>some (.cond b x y K,σ,[])
   | _=>none
  | .region id ops draw=>
   match Z1t id stops with
   | true=>some (.stop c K,σ,[])
   | false=>
    match runRG P (grAt rs id) ops draw σ with
    | some (σ',q)=>
     match run P stops rs n none K σ' with
     | some (ev,σ'',q')=>some (ev,σ'',q ++ q')
     | none=>none
    | none=>none
  | _=>none
theorem Z9m {stops : List Nat} {rs : List GR} {Q : Exit → S → Prop} : ∀ (n : Nat) {c : Option Code} {K : List Z2a} {σ : S} {ev : Ev} {σ' : S} {q : List Prop},
  run P stops rs n c K σ = some (ev,σ',q) → holds q → EvOk P Γ Q σ' ev → AtO P Γ c K Q σ
 | 0,_,_,_,_,_,_,h,_,_=>by cases h
 | n + 1,none,K,σ,ev,σ',q,h,hq,hev=>by
  unfold run at h
  split at h
  ·rename_i z K' hp
   refine Zip (fun z' K'' h'=>?_) (fun h'=>by rw [hp] at h'; cases h')
   rw [hp] at h'; cases h'
   exact Z9m n h hq hev
  ·rename_i hp
   cases h
   exact Zip (fun z' K'' h'=>by rw [hp] at h'; cases h') (fun _=>hev)
 | n + 1,some c,K,σ,ev,σ',q,h,hq,hev=>by
  unfold run at h
  show DWP P Γ c (Z3l P Γ K Q) σ
  split at h
  ·exact DWP.skip (Z9m n h hq hev)
  ·have:=Z9m n h hq hev
   exact DWP.seq (DWP.mono this fun e σ1 h1=>by cases e <;> exact h1)
  ·have:=Z9m n h hq hev
   exact DWP.block (DWP.mono this fun e σ1 h1=>by cases e <;> exact h1)
  ·split at h
   ·rename_i K' hp
    refine DWP.exit (Zdq (fun K'' h'=>?_) (fun h'=>by rw [hp] at h'; cases h'))
    rw [hp] at h'; cases h'
    exact Z9m n h hq hev
   ·rename_i hp
    cases h
    exact DWP.exit (Zdq (fun K'' h'=>by rw [hp] at h'; cases h') (fun _=>hev))
  ·cases h; exact DWP.ret (Zg3 K hev)
  ·cases h; exact hev
  ·split at h
   ·rename_i b hb
    cases h
    exact DWP.cond hb hev.1 hev.2
   ·cases h
  ·rename_i id ops draw
   split at h
   ·cases h; exact hev
   ·split at h
    ·rename_i σ1 q1 hr
     split at h
     ·rename_i ev2 σ2 q2 ha
      cases h
      obtain ⟨hq1,hq2⟩:=Zon hq
      exact Y08 hr hq1 (Z9m n ha hq2 hev)
     ·cases h
    ·cases h
  ·cases h
theorem Zun {stops : List Nat} {rs : List GR} {Q : Exit → S → Prop} {n : Nat} {c : Option Code} {K : List Z2a} (hk : (run P stops rs n c K σ).q = some (owes rs))
  (h : EvOk P Γ Q (run P stops rs n c K σ).s (run P stops rs n c K σ).e) : AtO P Γ c K Q σ:=by
 cases ha : run P stops rs n c K σ with
 | none=>rw [ha] at hk; cases hk
 | some x=>
  obtain ⟨ev,σ',q⟩:=x
  rw [ha] at hk h
  cases hk
  exact Z9m n ha (Zwf rs) h
structure A (P : Program) (Γ : Ctx) (c : Code) (K : List Z2a) (Q : Exit → S → Prop) (σ : S) : Prop where
 h : At P Γ c K Q σ
structure E (P : Program) (Γ : Ctx) (Q : Exit → S → Prop) (σ : S) (ev : Ev) : Prop where
 h : EvOk P Γ Q σ ev
structure RK (P : Program) (Γ : Ctx) (K : List Z2a) (Q : Exit → S → Prop) (σ : S) : Prop where
 h : Z3l P Γ K Q .normal σ
structure AO (P : Program) (Γ : Ctx) (ops : Array Oper) (l : List Nat) (K : List Z2a) (Q : Exit → S → Prop) (σ : S) : Prop where
 h : Zdd P Γ ops l K Q σ
theorem go {c : Code} {K : List Z2a} {Q : Exit → S → Prop} (stops : List Nat) (rs : List GR) (h : E P Γ Q (run P stops rs 400 (some c) K σ).s (run P stops rs 400 (some c) K σ).e)
  (hk : (run P stops rs 400 (some c) K σ).q = some (owes rs):=by kernel_rfl) : A P Γ c K Q σ:=⟨Zun hk h.h⟩
theorem goN {K : List Z2a} {Q : Exit → S → Prop} (stops : List Nat) (rs : List GR) (h : E P Γ Q (run P stops rs 400 none K σ).s (run P stops rs 400 none K σ).e)
  (hk : (run P stops rs 400 none K σ).q = some (owes rs):=by kernel_rfl) : RK P Γ K Q σ:=⟨Zun hk h.h⟩
def eb : Ev → Option Bool | .cond b _ _ _=>some b | _=>none
def ex : Ev → Code | .cond _ x _ _=>x | .loop x _=>x | .stop x _=>x | _=> .skip
def ey : Ev → Code | .cond _ _ y _=>y | _=> .skip
def ek : Ev → List Z2a | .cond _ _ _ K=>K | .loop _ K=>K | .stop _ K=>K | _=>[]
def et : Ev → Option Exit | .ret=>some .ret | .normal=>some .normal | .exit id=>some (.exit id) | _=>none
theorem br {Q : Exit → S → Prop} {ev : Ev} {β : Type} {b : Bool} {x y r : β} (h : (if b = true then x else y) = r) (T : b = true → x = r → A P Γ (ex ev) (ek ev) Q σ) (F : b = false → y = r → A P Γ (ey ev) (ek ev) Q σ)
  (hb : eb ev = some b:=by kernel_rfl) : E P Γ Q σ ev:=by
 cases ev <;> cases hb
 exact ⟨fun e=>(T e (iteT e h)).h,fun e=>(F e (iteF e h)).h⟩
theorem bT {Q : Exit → S → Prop} {ev : Ev} {b : Bool} (hf : b = true) (h : A P Γ (ex ev) (ek ev) Q σ) (hb : eb ev = some b:=by kernel_rfl) : E P Γ Q σ ev:=by
 subst hf
 cases ev <;> cases hb
 exact ⟨fun _=>h.h,fun e=>Bool.noConfusion e⟩
theorem bF {Q : Exit → S → Prop} {ev : Ev} {b : Bool} (hf : b = false) (h : A P Γ (ey ev) (ek ev) Q σ) (hb : eb ev = some b:=by kernel_rfl) : E P Γ Q σ ev:=by
 subst hf
 cases ev <;> cases hb
 exact ⟨fun e=>Bool.noConfusion e,fun _=>h.h⟩
theorem sp {p : Prop} {β : Type} {b : Bool} {x y r : β} (h : (if b = true then x else y) = r) (T : b = true → x = r → p) (F : b = false → y = r → p) : p:=by
 cases hb : b with
 | true=>exact T hb (iteT hb h)
 | false=>exact F hb (iteF hb h)
theorem bd {p : Prop} {α β : Type} {o : Option α} {f : α → Option β} {r : β} (h : o.bind f = some r) (k : ∀ x,o = some x → f x = some r → p) : p:=by
 obtain ⟨x,h1,h2⟩:=bindE h
 exact k x h1 h2
theorem so {Q : Exit → S → Prop} {ev : Ev} (h : A P Γ (ex ev) (ek ev) Q σ) (hs : (match ev with | .stop .. =>true | _=>false) = true:=by kernel_rfl) : E P Γ Q σ ev:=by
 cases ev <;> first | exact ⟨h.h⟩ | cases hs
structure SL where
 n : Nat
 l : List (Nat × D)
 bl : List (Nat × Blk):=[]
def SL.s (x : SL) : S:=mkS x.n x.l x.bl
def SL.ps (x : SL) : List (Nat × Nat):=x.bl.map fun b=>(b.1,b.1)
def SL.ts (x : SL) : List Nat:=x.l.map fun b=>b.1
def Sub (σ σ' : S) : Prop:=∀ (Γ : Ctx) a w G β,Z05 Γ σ a w G β → ∃ G' β',Z05 Γ σ' a w G' β'
theorem conv1_n {x : Z4l} (h : σ.conv1 x = some σ') : σ'.n = σ.n:=by
 cases x <;> simp only [S.conv1] at h <;> repeat' split at h
 all_goals first | (cases h; rfl) | (cases h; done)
theorem Zue : ∀ (l : List Z4l) {σ : S},σ.conv l = some σ' → σ'.n = σ.n
 | [],_,h=>by cases h; rfl
 | x :: l,σ,h=>by
  unfold S.conv at h
  split at h
  ·rename_i σ1 h1; exact (Zue l h).trans (conv1_n h1)
  ·cases h
theorem Z76 {cv : List Z4l} {ps : List (Nat × Nat)} {x : SL} (h : (Z4u cv x.ts ps σ,σ.n) = (some (x.l,x.bl),x.n)) : Sub σ x.s:=fun Γ a w G β hC=>by
 have h1 : Z4u cv x.ts ps σ = some (x.l,x.bl):=congrArg Prod.fst h
 have h2 : σ.n = x.n:=congrArg Prod.snd h
 unfold Z4u at h1
 split at h1
 ·rename_i σ1 hc
  have:=(hC.conv cv hc).gc h1
  rw [Zue cv hc,h2] at this
  exact ⟨_,_,this⟩
 ·cases h1
theorem Sub.at {c : Code} {K : List Z2a} {Q : Exit → S → Prop} (h : Sub σ σ') (hA : At P Γ c K Q σ') : At P Γ c K Q σ:=fun a w G β hC=>by
 obtain ⟨G',β',hC'⟩:=h Γ a w G β hC
 exact hA a w G' β' hC'
def isJ : Ev → Bool | .cond .. | .loop .. | .stop .. =>true | _=>false
theorem Sub.ev {Q : Exit → S → Prop} {ev : Ev} (h : Sub σ σ') (hj : isJ ev = true) (hA : EvOk P Γ Q σ' ev) : EvOk P Γ Q σ ev:=by
 cases ev with
 | cond b x y K=>exact ⟨fun e=>h.at (hA.1 e),fun e=>h.at (hA.2 e)⟩
 | loop c K=>exact h.at (c:= .loop c) hA
 | stop c K=>exact h.at hA
 | _=>cases hj
theorem jn {Q : Exit → S → Prop} {ev ev' : Ev} {x : SL} (h : E P Γ Q x.s ev') (cv : List Z4l:=[]) (ps : List (Nat × Nat):=x.ps)
  (hk : (Z4u cv x.ts ps σ,σ.n,ev,isJ ev') = (some (x.l,x.bl),x.n,ev',true):=by kernel_rfl) : E P Γ Q σ ev:=by
 have h1:=congrArg Prod.fst hk
 have h2:=congrArg (fun x=>x.2.1) hk
 have h3:=congrArg (fun x=>x.2.2.1) hk
 have h4:=congrArg (fun x=>x.2.2.2) hk
 dsimp only at h1 h2 h3 h4
 subst h3
 exact ⟨Sub.ev (Z76 (cv:=cv) (ps:=ps) (by rw [h1,h2])) h4 h.h⟩
theorem nm {Q : Exit → S → Prop} {ev : Ev} {x y : SL} (he : x = y) (h : E P Γ Q y.s ev) (hk : (Z4u [] x.ts x.ps σ,σ.n,isJ ev) = (some (x.l,x.bl),x.n,true):=by kernel_rfl) : E P Γ Q σ ev:=by
 subst he
 have h1:=congrArg Prod.fst hk
 have h2:=congrArg (fun x=>x.2.1) hk
 have h4:=congrArg (fun x=>x.2.2) hk
 dsimp only at h1 h2 h4
 exact ⟨Sub.ev (Z76 (cv:=[]) (ps:=x.ps) (by rw [h1,h2])) h4 h.h⟩
theorem cvE {Q : Exit → S → Prop} {ev : Ev} (l : List Z4l) (h : E P Γ Q ((σ.conv l).getD σ) ev) (hk : ((σ.conv l).isSome,isJ ev) = (true,true):=by kernel_rfl) : E P Γ Q σ ev:=by
 have h1:=congrArg Prod.fst hk
 have h2:=congrArg Prod.snd hk
 dsimp only at h1 h2
 cases hc : σ.conv l with
 | none=>rw [hc] at h1; cases h1
 | some σ'=>
  rw [hc] at h
  exact ⟨Sub.ev (fun Γ a w G β hC=>⟨G,β,hC.conv l hc⟩) h2 h.h⟩
def evP (b : Bool) : Nat → Nat → Code → List Z2a → Ev
 | 0,_,_,_=> .normal
 | n + 1,p,c,K=>
  match Nat.beq p 1 with
  | true=>match c with
   | .loop x=> .loop x K
   | .cond _ x y=> .cond b x y K
   | c=> .stop c K
  | false=>match c,Nat.beq (p % 2) 0 with
   | .seq x y,true=>evP b n (p / 2) x (.seq y :: K)
   | .seq _ y,false=>evP b n (p / 2) y K
   | .block id x,_=>evP b n (p / 2) x (.blk id :: K)
   | .cond _ x _,true=>evP b n (p / 2) x K
   | .cond _ _ y,false=>evP b n (p / 2) y K
   | .loop x,_=>evP b n (p / 2) x []
   | _,_=> .normal
def Z4z (fn : Func) : Code:=fn.body.getD .skip
abbrev Jn (P : Program) (fn : Func) (Γ : Ctx) (Q : Exit → S → Prop) (p : Nat) (x : SL) (b : Bool:=true) : Prop:=E P Γ Q x.s (evP b 900 p (Z4z fn) [])
def lpC (fn : Func) (p : Nat) : Code:=ex (evP true 900 p (Z4z fn) [])
def fin : Ev → Bool | .ret | .normal=>true | _=>false
theorem rt {fn : Func} {ev : Ev} {α : Type} {x r : α} {R : α → D} (h : some x = some r) (hk : (fin ev,Z9o P fn σ) = (true,some (R x,tN fn.results.size ∧ pR (R x))):=by kernel_rfl) : E P Γ (Ends P fn (R r)) σ ev:=by
 cases h
 have h1:=congrArg Prod.fst hk
 have h2:=congrArg Prod.snd hk
 dsimp only at h1 h2
 cases ev <;> first | cases h1 | skip
 ·exact ⟨⟨.inl rfl,_,h2,tNi _,pRi _⟩⟩
 ·exact ⟨⟨.inr rfl,_,h2,tNi _,pRi _⟩⟩
theorem rtB {fn : Func} {ev : Ev} {α : Type} {x r : α} {R : α → D} (h : some x = some r) (d : D) {p : Prop} (hp : p) (hd : d = R x) (hk : (fin ev,Z9o P fn σ) = (true,some (d,tN fn.results.size ∧ p)):=by kernel_rfl) : E P Γ (Ends P fn (R r)) σ ev:=by
 cases h
 subst hd
 have h1:=congrArg Prod.fst hk
 have h2:=congrArg Prod.snd hk
 dsimp only at h1 h2
 cases ev <;> first | cases h1 | skip
 ·exact ⟨⟨.inl rfl,_,h2,tNi _,hp⟩⟩
 ·exact ⟨⟨.inr rfl,_,h2,tNi _,hp⟩⟩
theorem rtO {fn : Func} {m : Nat} {keep : List Bool} {ev : Ev} {α : Type} {x r : α} {R : α → D} {B : α → List Blk} (h : some x = some r) (d : D) (bs : List Blk) {p : Prop} (hp : p) (hd : d = R x)
  (hk : (fin ev,Z6f (List.range m),Zg6 P fn m keep σ,bs) = (true,true,some (d,bs,tN fn.results.size ∧ p),B x):=by kernel_rfl) : E P Γ (Zbt P fn m keep (R r) (B r)) σ ev:=by
 cases h
 subst hd
 have h1:=congrArg Prod.fst hk
 have h2:=congrArg (fun x=>x.2.1) hk
 have h3:=congrArg (fun x=>x.2.2.1) hk
 have h4:=congrArg (fun x=>x.2.2.2) hk
 dsimp only at h1 h2 h3 h4
 cases ev <;> first | cases h1 | skip
 ·exact ⟨⟨.inl rfl,h2,_,_,h3,⟨tNi _,hp⟩,h4⟩⟩
 ·exact ⟨⟨.inr rfl,h2,_,_,h3,⟨tNi _,hp⟩,h4⟩⟩
theorem cs {f : FuncId} (fn : Func) {ds : List D} {r : D} (h : ∀ {Γ : Ctx},A P Γ (Z4z fn) [] (Ends P fn r) (mkS fn.ntmps (Z3s 0 ds) []))
  (hk : (P.funcs[f]?,fn.body,Z6c P f,Nat.ble ds.length fn.ntmps) = (some fn,some (Z4z fn),true,true):=by kernel_rfl) : Z0c P f ds r:=by
 have h1:=congrArg Prod.fst hk
 have h2:=congrArg (fun x=>x.2.1) hk
 have h3:=congrArg (fun x=>x.2.2.1) hk
 have h4:=congrArg (fun x=>x.2.2.2) hk
 exact Z0c.at _ h1 h2 h3 (Nat.le_of_ble_eq_true h4) fun _=>h.h
theorem csO {f : FuncId} (fn : Func) {m : Nat} {keep : List Bool} {ds : List D} {bs bs' : List Blk} {r : D} (h : ∀ {Γ : Ctx},A P Γ (Z4z fn) [] (Zbt P fn m keep r bs') (mkS fn.ntmps (Z3s 0 ds) (Z4e 0 bs)))
  (hk : (P.funcs[f]?,fn.body,Z6c P f,Nat.ble ds.length fn.ntmps) = (some fn,some (Z4z fn),true,true):=by kernel_rfl) : Z3y P f ds bs r bs':=by
 have h1:=congrArg Prod.fst hk
 have h2:=congrArg (fun x=>x.2.1) hk
 have h3:=congrArg (fun x=>x.2.2.1) hk
 have h4:=congrArg (fun x=>x.2.2.2) hk
 exact Z3y.mk m keep h1 h2 h3 (Nat.le_of_ble_eq_true h4) fun _=>h.h
structure JT (R : Type) where
 w : R → Exit → S → Prop
 e : R → Exit → S → Prop
 h : ∀ r x σ,w r x σ → ∃ σ',Sub σ σ' ∧ e r x σ'
def je {A : Type} (id : Nat) (st : A → SL) : JT A where
 w a e σ:=e = .exit id ∧ Sub σ (st a).s
 e a e σ:=e = .exit id ∧ σ = (st a).s
 h _ _ _ h:=⟨_,h.2,h.1,rfl⟩
def jr {R : Type} (P : Program) (fn : Func) (res : R → D) : JT R where
 w y e σ:=e = .ret ∧ Ends P fn (res y) .ret σ
 e y e σ:=e = .ret ∧ Ends P fn (res y) .ret σ
 h _ _ σ h:=⟨σ,fun _ _ _ G β hC=>⟨G,β,hC⟩,h⟩
def ju {A B : Type} (J : JT A) (J' : JT B) : JT (A ⊕ B) where
 w x:=match x with | .inl a=>J.w a | .inr b=>J'.w b
 e x:=match x with | .inl a=>J.e a | .inr b=>J'.e b
 h x e σ h:=match x with | .inl a=>J.h a e σ h | .inr b=>J'.h b e σ h
def Rd {T R : Type} (st : T → SL) (J : JT R) (x : Ctl T R) : Exit → S → Prop:=fun e σ=>
 match x with
 | .next t=>e = .normal ∧ Sub σ (st t).s
 | .done r=>e ≠ .normal ∧ J.w r e σ
structure JQ {R : Type} (P : Program) (Γ : Ctx) (K : List Z2a) (Q : Exit → S → Prop) (J : JT R) (r : R) : Prop where
 h : ∀ e σ,J.e r e σ → Z3l P Γ K Q e σ
theorem lp {T R : Type} {Q : Exit → S → Prop} {ev : Ev} {c : Code} {f : T → Option (Ctl T R)} {st : T → SL} {J : JT R} {n : Nat} {t : T} {r : R} (hm : Z09 f n t = some r)
  (hw : ∀ {t x} {Γ : Ctx},f t = some x → A P Γ c [] (Rd st J x) (st t).s) (hQ : JQ P Γ (ek ev) Q J r) (cv : List Z4l:=[]) (ps : List (Nat × Nat):=(st t).ps)
  (hk : (Z4u cv (st t).ts ps σ,σ.n,ev) = (some ((st t).l,(st t).bl),(st t).n,.loop c (ek ev)):=by kernel_rfl) : E P Γ Q σ ev:=by
 have h1:=congrArg Prod.fst hk
 have h2:=congrArg (fun x=>x.2.1) hk
 have h3:=congrArg (fun x=>x.2.2) hk
 dsimp only at h1 h2 h3
 have hs : Sub σ (st t).s:=Z76 (cv:=cv) (ps:=ps) (by rw [h1,h2])
 rw [h3]
 refine ⟨Sub.at (c:= .loop c) hs (DWP.loop (st:=fun t=>(st t).s) (K:=J.e) (fun t x hx a w G β hC=>?_) hm hQ.h)⟩
 refine wp_mono ((hw (Γ:=Γ) hx).h a w G β hC) fun e a' w' ⟨σ',G',β',k1,k2⟩=>?_
 cases x with
 | next t'=>
  obtain ⟨rfl,hsub⟩:=k2
  obtain ⟨G2,β2,hC2⟩:=hsub Γ a' w' G' β' k1
  exact ⟨_,G2,β2,hC2,rfl,rfl⟩
 | done r'=>
  obtain ⟨hne,hj⟩:=k2
  obtain ⟨σ2,hsub,he⟩:=J.h _ _ _ hj
  obtain ⟨G2,β2,hC2⟩:=hsub Γ a' w' G' β' k1
  exact ⟨σ2,G2,β2,hC2,hne,he⟩
theorem qe {Q : Exit → S → Prop} {K : List Z2a} {A : Type} {id : Nat} {st : A → SL} {a : A} (h : RK P Γ ((Z5z id K).getD []) Q (st a).s) (hk : (Z5z id K).isSome = true:=by kernel_rfl) : JQ P Γ K Q (je id st) a:=by
 refine ⟨?_⟩
 rintro e σ ⟨rfl,rfl⟩
 cases hp : Z5z id K with
 | none=>rw [hp] at hk; cases hk
 | some K'=>rw [hp] at h; exact At.exitK hp h.h
theorem qr {K : List Z2a} {R : Type} {fn : Func} {res : R → D} {y r : R} (h : some y = some r) : JQ P Γ K (Ends P fn (res r)) (jr P fn res) y:=by
 cases h
 refine ⟨?_⟩
 rintro e σ ⟨rfl,hE⟩
 exact At.retK hE
theorem ql {K : List Z2a} {A R T : Type} {J : JT A} {J2 : JT R} {st : T → SL} {y : A} {r : R} {x : Ctl T R} (h : some (Ctl.done r) = some x) (hj : ∀ e σ,J.e y e σ → e = .ret ∧ J2.w r .ret σ) : JQ P Γ K (Rd st J2 x) J y:=by
 cases h
 refine ⟨?_⟩
 intro e σ hE
 obtain ⟨rfl,h2⟩:=hj e σ hE
 exact At.retK ⟨neRet,h2⟩
theorem j1 {A B : Type} {K : List Z2a} {Q : Exit → S → Prop} {J : JT A} {J' : JT B} {a : A} (h : JQ P Γ K Q J a) : JQ P Γ K Q (ju J J') (.inl a):=⟨h.h⟩
theorem j2 {A B : Type} {K : List Z2a} {Q : Exit → S → Prop} {J : JT A} {J' : JT B} {b : B} (h : JQ P Γ K Q J' b) : JQ P Γ K Q (ju J J') (.inr b):=⟨h.h⟩
theorem nx {T R : Type} {ev : Ev} {st : T → SL} {J : JT R} {t : T} {x : Ctl T R} (h : some (Ctl.next t) = some x) (cv : List Z4l:=[]) (ps : List (Nat × Nat):=(st t).ps)
  (hk : (Z4u cv (st t).ts ps σ,σ.n,et ev) = (some ((st t).l,(st t).bl),(st t).n,some .normal):=by kernel_rfl) : E P Γ (Rd st J x) σ ev:=by
 cases h
 have h1:=congrArg Prod.fst hk
 have h2:=congrArg (fun x=>x.2.1) hk
 have h3:=congrArg (fun x=>x.2.2) hk
 dsimp only at h1 h2 h3
 cases ev <;> cases h3
 exact ⟨⟨rfl,Z76 (cv:=cv) (ps:=ps) (by rw [h1,h2])⟩⟩
theorem nxE {T R : Type} {ev : Ev} {st : T → SL} {J : JT R} {t : T} {x : Ctl T R} {y : SL} (h : some (Ctl.next t) = some x) (he : y = st t) (ps : List (Nat × Nat):=y.ps)
  (hk : (Z4u [] y.ts ps σ,σ.n,et ev) = (some (y.l,y.bl),y.n,some .normal):=by kernel_rfl) : E P Γ (Rd st J x) σ ev:=by
 cases h
 have h1:=congrArg Prod.fst hk
 have h2:=congrArg (fun x=>x.2.1) hk
 have h3:=congrArg (fun x=>x.2.2) hk
 dsimp only at h1 h2 h3
 cases ev <;> cases h3
 exact ⟨⟨rfl,he ▸ Z76 (cv:=[]) (ps:=ps) (by rw [h1,h2])⟩⟩
def isN : Exit → Bool | .normal=>true | _=>false
theorem dn {T R : Type} {ev : Ev} {st : T → SL} {J : JT R} {r : R} {x : Ctl T R} {e : Exit} (h : some (Ctl.done r) = some x) (hj : J.w r e σ) (hk : (et ev,isN e) = (some e,false):=by kernel_rfl) : E P Γ (Rd st J x) σ ev:=by
 cases h
 have h1:=congrArg Prod.fst hk
 have h2:=congrArg Prod.snd hk
 dsimp only at h1 h2
 have hne : e ≠ .normal:=by rintro rfl; cases h2
 cases ev <;> cases h1 <;> exact ⟨⟨hne,hj⟩⟩
theorem iE {A : Type} {id : Nat} {st : A → SL} {a : A} (cv : List Z4l:=[]) (ps : List (Nat × Nat):=(st a).ps)
  (hk : (Z4u cv (st a).ts ps σ,σ.n) = (some ((st a).l,(st a).bl),(st a).n):=by kernel_rfl) : (je id st).w a (.exit id) σ:=⟨rfl,Z76 hk⟩
theorem iEE {A : Type} {id : Nat} {st : A → SL} {a : A} {y : SL} (he : y = st a) (ps : List (Nat × Nat):=y.ps)
  (hk : (Z4u [] y.ts ps σ,σ.n) = (some (y.l,y.bl),y.n):=by kernel_rfl) : (je id st).w a (.exit id) σ:=⟨rfl,he ▸ Z76 hk⟩
theorem iR {R : Type} {fn : Func} {res : R → D} {y : R} (hk : Z9o P fn σ = some (res y,tN fn.results.size ∧ pR (res y)):=by kernel_rfl) : (jr P fn res).w y .ret σ:=
 ⟨rfl,.inl rfl,_,hk,tNi _,pRi _⟩
theorem i1 {A B : Type} {J : JT A} {J' : JT B} {a : A} {e : Exit} (h : J.w a e σ) : (ju J J').w (.inl a) e σ:=h
theorem i2 {A B : Type} {J : JT A} {J' : JT B} {b : B} {e : Exit} (h : J'.w b e σ) : (ju J J').w (.inr b) e σ:=h
theorem iS {R : Type} {fn : Func} {res : R → D} {y : R} {e : Exit} (h : (jr P fn res).e y e σ) : e = .ret ∧ (jr P fn res).w y .ret σ:=⟨h.1,rfl,h.2⟩
def Z99 (P : Program) (ops : Array Oper) (l : List (Nat × GT)) (m : List Nat) (σ : S) : Out:=match Z90 P ops (Zim l) (gsG l) none m σ with
 | some (σ',q)=>some (.normal,σ',q)
 | none=>none
theorem po {Q : Exit → S → Prop} {ev : Ev} (h : AO P Γ (Z7q (ex ev)) (List.range (Z7q (ex ev)).size) (ek ev) Q σ) (hk : (match ev with | .stop c _=>Zn4 c | _=>false) = true:=by kernel_rfl) : E P Γ Q σ ev:=by
 cases ev <;> first | cases hk; done | exact ⟨At.ops hk rfl h.h⟩
theorem pr {ops : Array Oper} {l : List Nat} {K : List Z2a} {Q : Exit → S → Prop} (m : Nat) (rs : List (Nat × GT)) (h : AO P Γ ops (l.drop m) K Q (Z99 P ops rs (l.take m) σ).s)
  (hk : (Z99 P ops rs (l.take m) σ).q = some (Z98 rs []):=by kernel_rfl) : AO P Γ ops l K Q σ:=by
 refine ⟨?_⟩
 unfold Z99 at hk h
 split at hk
 ·rename_i σ1 q hr
  rw [hr] at h
  obtain ⟨p,e,hp⟩:=Zek _ hr (by cases hk; exact Zev rs trivial)
  intro a w G β hC
  rw [← List.take_append_drop m l]
  exact Zqb _ hC e hp fun a' w' G' β' hC'=>h.h a' w' G' β' hC'
 ·cases hk
theorem pe {ops : Array Oper} {l : List Nat} {K : List Z2a} {Q : Exit → S → Prop} (h : RK P Γ K Q σ) (hk : l.isEmpty = true:=by kernel_rfl) : AO P Γ ops l K Q σ:=by
 cases l with
 | nil=>exact ⟨Zdd.done h.h⟩
 | cons=>cases hk
end W
end Go.Den
