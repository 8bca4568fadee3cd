/-
  Class spaces: subtypes, as the program and the reference tell them. No condition.
-/
import Derived.Test.YtaamfcpmekeahaaGreatDoorDenRel
import Derived.Test.YtaamfcpmekeahaaGreatDoorGbg10
import Derived.Test.YtaamfcpmekeahaaGreatDoorGcF
import Derived.Test.YtaamfcpmekeahaaGreatDoorDenClaim
set_option linter.unusedVariables false
set_option linter.unusedSimpArgs false
namespace Go.Proofs
open Go.Den Go.Tot
theorem Y4i (w:Zq) (a:Int):Ok (Z5e w a) (λb=>b=decide (0≤a∧a<w.Y6.length)):=by
 unfold Z5e
 exact brD (λh=>ok (by simp; omega)) λh=>ok (by simp; omega)
def In (w:Zq) (a:Int):Prop:=0≤a∧a<w.Y6.length
instance (w:Zq) (a:Int):Decidable (In w a):=by unfold In; infer_instance
theorem Zt8 (w:Zq) (a:Int):Z5e w a=some (decide (In w a)):=by obtain⟨b,e,h⟩:=Y4i w a; rw[e,h]; rfl
theorem two_eq (w:Zq) (a b:Int):Zhd w a b=some (decide (In w a∧In w b)):=by
 unfold Zhd
 by_cases c:a≥0 <;> by_cases d:a<w.Y6.length <;> by_cases e:b≥0 <;> simp[c,d,e,In]
theorem In.get {w:Zq} {a:Int} (h:In w a):∃ c,Z4 w.Y6 a=some c∧c∈w.Y6∧w.Y6[a.toNat]?=some c:=by
 obtain⟨c,e,b,d⟩:=gri h.1 h.2; exact⟨c,e,b,d⟩
def Par (w:Zq) (k j:Int):Prop:=0≤k∧∃ c,w.Y6[k.toNat]?=some c∧((j=c.Ys∧0≤j)∨j∈c.Yc)
inductive Reach (w:Zq) (a:Int):Int→Prop
 | refl:Reach w a a
 | snoc {k j:Int}:Reach w a k→Par w k j→Reach w a j
theorem Par.lt {w:Zq} (d:Vy w) {k j:Int} (h:Par w k j):0≤j∧j<k∧k<w.Y6.length:=by
 obtain⟨e,c,a,h⟩:=h
 have f:=(List.getElem?_eq_some_iff.1 a).1
 have:=d.cls _ c a
 rcases h with h|h
 ·rcases this.sup with b|b <;> omega
 ·have:=this.ifs j h; omega
theorem Reach.le {w:Zq} (b:Vy w) {a j:Int} (h:Reach w a j):j≤a:=by
 induction h with
 | refl=>omega
 | snoc _ h ih=>have:=h.lt b; omega
def UpI (w:Zq) (a i:Int) (l:List Bool):Prop:=l.length=w.Y6.length∧∀ j,Bit l j↔j=a∨∃ k,i<k∧Reach w a k∧Par w k j
theorem inner31 (w:Zq) (c:Xi) (l:List Bool) (a:∀ n∈c.Yc,0≤n∧n<l.length) (k:c.Yc.length≤8):
  Ok (Z8 (Zd0 c) Zb (0,l)) (λq=>q.length=l.length∧∀ j,Bit q j↔j∈c.Yc∨Bit l j):=by
 refine lp (λt=>t.1) c.Yc.length (λt=>t.2.length=l.length∧∀ j,Bit t.2 j↔j∈c.Yc.take t.1.toNat∨Bit l j) (λt e g0 i=>?_) (by omega) ⟨rfl,λj=>by simp⟩
 obtain⟨k1,k2⟩:=e
 unfold Zd0
 refine brD (λg=>bd gri λv b=>bd (ik (by have:=a _ b.1; omega) (by have:=a _ b.1; omega)) λn d=>bd (la (by omega)) λ_ _=>bd wr λ_ hw=>nx ⟨by rw[List.length_set]; exact k1,λj=>?_⟩) λf=>dn ⟨k1,λj=>?_⟩
 ·rw[Bit.set d.2,k2,hw,show (t.1+1).toNat=t.1.toNat+1 by omega,List.take_add_one,b.2]
  simp only[Option.toList,List.mem_append,List.mem_singleton]
  have:=(a _ b.1).1
  have:j=(n:Int)↔j=v:=by rw[d.1]; omega
  rw[this]
  constructor
  ·rintro(h|h|h)
   ·exact .inl (.inr h)
   ·exact .inl (.inl h)
   ·exact .inr h
  ·rintro((h|h)|h)
   ·exact .inr (.inl h)
   ·exact .inl h
   ·exact .inr (.inr h)
 ·have:=k2 j
  rwa [List.take_of_length_le (by omega)] at this
theorem UpI.step {w:Zq} (r:Vy w) {a i:Int} {l l':List Bool} (q:0≤i) (h:UpI w a i l) (m:Bit l i) (o:l'.length=l.length) (f:∀ j,Bit l' j↔Par w i j∨Bit l j):UpI w a (i - 1) l':=by
 refine⟨o.trans h.1,λj=>?_⟩
 have p:Reach w a i:=by
  rcases (h.2 i).1 m with e|⟨k,_,n,hp⟩
  ·rw[e]; exact .refl
  ·exact .snoc n hp
 rw[f,h.2]
 constructor
 ·rintro(g|g|⟨k,d,b⟩)
  ·exact .inr ⟨i,by omega,p,g⟩
  ·exact .inl g
  ·exact .inr ⟨k,by omega,b⟩
 ·rintro(g|⟨k,d,b,c⟩)
  ·exact .inr (.inl g)
  ·by_cases e:k=i
   ·exact .inl (e ▸ c)
   ·exact .inr (.inr ⟨k,by omega,b,c⟩)
theorem Reach.inv {w:Zq} {a j:Int} (h:Reach w a j):j=a∨∃ k,Reach w a k∧Par w k j:=by
 cases h with
 | refl=>exact .inl rfl
 | snoc h g=>exact .inr ⟨_,h,g⟩
theorem UpI.skip {w:Zq} (o:Vy w) {a i:Int} {l:List Bool} (h:UpI w a i l) (f: ¬Bit l i):UpI w a (i - 1) l:=by
 refine⟨h.1,λj=>?_⟩
 rw[h.2]
 constructor
 ·rintro(g|⟨k,c,b⟩)
  ·exact .inl g
  ·exact .inr ⟨k,by omega,b⟩
 ·rintro(g|⟨k,c,b,d⟩)
  ·exact .inl g
  ·by_cases e:k=i
   ·subst e
    refine absurd ((h.2 k).2 ?_) f
    rcases b.inv with e|⟨m,n,hp⟩
    ·exact .inl e
    ·exact .inr ⟨m,(hp.lt o).2.1,n,hp⟩
   ·exact .inr ⟨k,by omega,b,d⟩
theorem l31_ok (w:Zq) (v:Vy w) (B:w.Y6.length≤200) (a:Int) (D:In w a) (l:List Bool) (I:UpI w a a l):
  Ok (Z8 (Zcz w) Zb (a,l)) (λq=>q.length=w.Y6.length∧∀ j,Bit q j↔Reach w a j):=by
 obtain⟨E,F⟩:=D
 refine lp (λt=>a - t.1) (a+1) (λt=>t.1≤a∧ -1≤t.1∧UpI w a t.1 t.2) (λt C g0 K=>?_) (by omega) ⟨by dsimp only; omega,by dsimp only; omega,I⟩
 obtain⟨i0,i1,i2⟩:=C
 have r:=i2.1
 unfold Zcz
 refine brD (λo=>bd ik λn u=>bd (la (by omega)) λb G=>?_) λJ=>dn ⟨r,λj=>?_⟩
 ·have g:Bit t.2 t.1↔b=true:=by
   unfold Bit
   rw[← u.1,G.1]
   simp; omega
  refine br! (λe=>bd wr λk p=>?_) λe=>bd gri λc x=>?_
  ·subst p
   exact nx ⟨by dsimp only; omega,by dsimp only; omega,i2.skip v (by rw[g,e]; simp)⟩
  ·have hB:=g.2 e
   have f:=v.cls _ c x.2
   have i:∀ j,Par w t.1 j↔(j=c.Ys∧0≤j)∨j∈c.Yc:=λj=>by
    unfold Par
    rw[x.2]
    constructor
    ·rintro⟨_,d,H,h⟩
     cases H; exact h
    ·intro h; exact⟨by omega,c,rfl,h⟩
   have y:∀ l':List Bool,l'.length=t.2.length→(∀ j,Bit l' j↔(j=c.Ys∧0≤j)∨Bit t.2 j)→Ok (Z75 t c l') (St (λt=>t.1≤a∧ -1≤t.1∧UpI w a t.1 t.2) (λt=>a - t.1) (a+1) (λq=>q.length=w.Y6.length∧∀ j,Bit q j↔Reach w a j) t):=λl' z A=>by
    unfold Z75
    refine bd (inner31 w c l' (λn u=>by have:=f.ifs n u; omega) f.ifsL) λq hq=>bd wr λk p=>?_
    subst p
    refine nx ⟨by dsimp only; omega,by dsimp only; omega,i2.step v o hB (hq.1.trans z) λj=>?_⟩
    rw[hq.2,A,i]
    constructor
    ·rintro(h|h|h)
     ·exact .inl (.inr h)
     ·exact .inl (.inl h)
     ·exact .inr h
    ·rintro((h|h)|h)
     ·exact .inr (.inl h)
     ·exact .inl h
     ·exact .inr (.inr h)
   refine brD (λhs=>bd (ik (by omega) (by rcases f.sup with h|h <;> omega)) λm s=>bd (la s.2) λ_ _=>y _ (List.length_set) λj=>?_) λhs=>y _ rfl λj=>?_
   ·rw[Bit.set s.2,s.1]
    constructor
    ·rintro(h|h)
     ·exact .inl (by omega)
     ·exact .inr h
    ·rintro(h|h)
     ·exact .inl (by omega)
     ·exact .inr h
   ·constructor
    ·intro h; exact .inr h
    ·rintro(h|h)
     ·exact absurd h.1 (by omega)
     ·exact h
 ·rw[i2.2]
  constructor
  ·rintro(h|⟨k,_,h,hp⟩)
   ·rw[h]; exact .refl
   ·exact .snoc h hp
  ·intro h
   rcases h.inv with h|⟨k,h,hp⟩
   ·exact .inl h
   ·exact .inr ⟨k,by have:=hp.1; omega,h,hp⟩
end Go.Proofs
namespace Go.Proofs
open Go.Den Go.Tot
theorem tk {α:Type} {l:List α} {i:Int} (a:0≤i) (b:i≤l.length):Ok (W.Z3m l i) λr=>r=l.take i.toNat:=⟨_,by unfold W.Z3m; rw[if_pos ⟨a,b⟩],rfl⟩
theorem Zti {α:Type} {l:List α} {v:α} (h:l[l.length - 1]?=some v):l=l.take (l.length - 1)++[v] :=by
 have a:=(List.getElem?_eq_some_iff.1 h).1
 have:l.take (l.length - 1+1)=l.take (l.length - 1)++[v] :=by rw[List.take_add_one,h]; rfl
 rw[← this,show l.length - 1+1=l.length by omega,List.take_length]
structure Z05 (w:Zq) (a b:Int) (t:(List Int)×(List Bool)):Prop where
 len:(t.2.length:Int)=a+1
 rng:∀ v∈t.1,0≤v∧v≤a∧Reach w a v
 bnd:∀ k,Bit t.2 k→k≠b
 clo:∀ j,(j=a∨∃ k,Bit t.2 k∧Par w k j)→j∈t.1∨j<b∨Bit t.2 j
 cnt:t.1.length+9*t.2.count false≤9*(a.toNat+1)+1
theorem count_set {l:List Bool} {n:Nat} (h:l[n]?=some false):(l.set n true).count false+1=l.count false:=by
 have b:=(List.getElem?_eq_some_iff.1 h).1
 have a:l[n]=false:=(List.getElem?_eq_some_iff.1 h).2
 have hp:0<l.count false:=List.count_pos_iff.2 (a ▸ List.getElem_mem b)
 rw[List.count_set b,a]
 simp
 omega
theorem Z05.drop {w:Zq} {a b v:Int} {t:(List Int)×(List Bool)} (h:Z05 w a b t) (d:t.1[t.1.length - 1]?=some v) (f:v<b∨Bit t.2 v):Z05 w a b (t.1.take (t.1.length - 1),t.2):=by
 have e:=Zti d
 refine⟨h.len,λx i=>h.rng x (List.mem_of_mem_take i),h.bnd,λj c=>?_,?_⟩
 ·rcases h.clo j c with g|g
  ·rw[e] at g
   rcases List.mem_append.1 g with g|g
   ·exact .inl g
   ·rw[List.mem_singleton.1 g]; exact .inr f
  ·exact .inr g
 ·have:=h.cnt; simp only[List.length_take]; omega
theorem Z05.push {w:Zq} (B:Vy w) {a b v:Int} {t:(List Int)×(List Bool)} {c:Xi} (F:In w a) (h:Z05 w a b t) (s:t.1[t.1.length - 1]?=some v) (C:v≠b) (hs:t.2[v.toNat]?=some false) (u:w.Y6[v.toNat]?=some c)
  {l:List Int} (z:l.length≤9) (A:∀ j,j∈l↔(j=c.Ys∧0≤j)∨j∈c.Yc):Z05 w a b (t.1.take (t.1.length - 1)++l,t.2.set v.toNat true):=by
 have e:=Zti s
 have r:=h.rng v (by rw[e]; simp)
 have i:∀ j,Par w v j↔j∈l:=λj=>by
  unfold Par
  rw[u,A]
  constructor
  ·rintro⟨_,d,y,h⟩
   cases y; exact h
  ·intro h; exact⟨by omega,c,rfl,h⟩
 have q:v.toNat<t.2.length:=by have:=h.len; omega
 have f:∀ j,Bit (t.2.set v.toNat true) j↔j=v∨Bit t.2 j:=λj=>by rw[Bit.set q]; exact⟨λg=>g.imp (λg=>by omega) id,λg=>g.imp (λg=>by omega) id⟩
 have m:=h.len
 refine⟨by rw[List.length_set]; exact m,λx n=>?_,λk p=>?_,λj o=>?_,?_⟩
 ·rcases List.mem_append.1 n with n|n
  ·exact h.rng x (List.mem_of_mem_take n)
  ·have hp:=(i x).2 n
   have:=hp.lt B
   exact⟨by omega,by omega,.snoc r.2.2 hp⟩
 ·rcases (f k).1 p with g|g
  ·omega
  ·exact h.bnd k g
 ·rw[f]
  have key:(j=a∨∃ k,Bit t.2 k∧Par w k j)∨Par w v j:=by
   rcases o with o|⟨k,p,hp⟩
   ·exact .inl (.inl o)
   ·rcases (f k).1 p with g|g
    ·exact .inr (g ▸ hp)
    ·exact .inl (.inr ⟨k,g,hp⟩)
  rcases key with g|g
  ·rcases h.clo j g with g|g|g
   ·rw[e] at g
    rcases List.mem_append.1 g with g|g
    ·exact .inl (List.mem_append.2 (.inl g))
    ·exact .inr (.inr (.inl (List.mem_singleton.1 g)))
   ·exact .inr (.inl g)
   ·exact .inr (.inr (.inr g))
  ·exact .inl (List.mem_append.2 (.inr ((i j).1 g)))
 ·have D:=h.cnt; have E:=count_set hs
  have:0<t.1.length:=by have:=(List.getElem?_eq_some_iff.1 s).1; omega
  simp only[List.length_append,List.length_take]; omega
theorem Z05.none {w:Zq} (f:Vy w) {a b:Int} {t:(List Int)×(List Bool)} (h:Z05 w a b t) (he:t.1.length=0): ¬Reach w a b:=by
 have c:t.1=[] :=List.length_eq_zero_iff.1 he
 have key:∀ j,Reach w a j→j<b∨Bit t.2 j:=λj e=>by
  induction e with
  | refl=>
   have:=h.clo a (.inl rfl)
   rw[c] at this
   simpa using this
  | @snoc k j i hp ih=>
   rcases ih with g|g
   ·have:=hp.lt f; exact .inl (by omega)
   ·have:=h.clo j (.inr ⟨k,g,hp⟩)
    rw[c] at this
    simpa using this
 intro d
 rcases key b d with g|g
 ·omega
 ·exact h.bnd b g rfl
theorem l28_ok (w:Zq) (A:Vy w) (a b:Int) (H:In w a) (N:In w b):
  Ok (Z8 (Zez w b) Zb ([a],List.replicate (a+1).toNat false)) (λq=>match q with|.inl _=>¬Reach w a b|.inr y=>y=true∧Reach w a b):=by
 obtain⟨i,p⟩:=H
 have F:=A.few
 refine lm (Z05 w a b) (λt=>t.1.length+10*t.2.count false) (λt g=>?_) ⟨?_,?_,?_,?_,?_⟩ ?_
 ·have E:=g.cnt; have G:=g.len
  unfold Zez
  refine brD (λhp=>bd wr λn O=>bd ik λm L=>bd (la L.2) λv f=>bd wr λQ C=>bd (tk (by omega) (by omega)) λr M=>?_) λhe=>ok (g.none A (by omega))
  have em:m=t.1.length - 1:=by omega
  subst em
  have er:r=t.1.take (t.1.length - 1):=by rw[M,C]; congr 1; omega
  subst er
  have x:=g.rng v f.2
  refine brE (λe=>ok ⟨rfl,e ▸ x.2.2⟩) λne=>brD (λB=>ok ⟨g.drop f.1 (.inl B),by simp only[List.length_take]; omega⟩) λJ=>bd ik λk l=>bd (la l.2) λs hs=>br (λe=>ok ⟨g.drop f.1 (.inr ⟨by omega,by rw[← l.1,hs.1,e]⟩),by simp only[List.length_take]; omega⟩) λe=>?_
  obtain⟨c,ec,mc,ic⟩:=(show In w v from ⟨by omega,by omega⟩).get
  have u:=A.cls _ c ic
  have K:=u.ifsL
  have o:t.2[v.toNat]?=some false:=by rw[← l.1,hs.1,e]
  have I:=count_set o
  unfold j83x3
  rw[ec]
  refine bd ik λP d=>bd (la d.2) λ_ _=>bs (brD (λz=>bd (gk (by simp only[List.length_append,List.length_take,List.length_cons,List.length_nil]; omega) (by simp only[List.length_append,List.length_take,List.length_cons,List.length_nil]; omega)) λ_ _=>bs (bd (gk (by simp only[List.length_append,List.length_take,List.length_cons,List.length_nil]; omega) (by simp only[List.length_append,List.length_take,List.length_cons,List.length_nil]; omega)) λ_ _=>ok ⟨?_,?_⟩)) λz=>bs (bd (gk (by simp only[List.length_append,List.length_take]; omega) (by simp only[List.length_append,List.length_take]; omega)) λ_ _=>ok ⟨?_,?_⟩))
  ·rw[List.append_assoc,d.1]
   refine g.push A ⟨i,p⟩ f.1 ne o ic (by simp; omega) λj=>?_
   simp only[List.mem_append,List.mem_singleton]
   constructor
   ·rintro(h|h)
    ·exact .inl ⟨h,by omega⟩
    ·exact .inr h
   ·rintro(h|h)
    ·exact .inl h.1
    ·exact .inr h
  ·rw[d.1]; simp only[List.length_append,List.length_take,List.length_cons,List.length_nil]; omega
  ·rw[d.1]
   refine g.push A ⟨i,p⟩ f.1 ne o ic (by omega) λj=>?_
   constructor
   ·intro h; exact .inr h
   ·rintro(h|h)
    ·omega
    ·exact h
  ·rw[d.1]; simp only[List.length_append,List.length_take]; omega
 ·simp; omega
 ·intro v D
  rw[List.mem_singleton.1 D]; exact⟨i,by omega,.refl⟩
 ·intro k l; exact absurd l Bit.rep
 ·rintro j (h|⟨k,l,_⟩)
  ·exact .inl (by simp[h])
  ·exact absurd l Bit.rep
 ·simp[List.count_replicate]; omega
 ·simp[List.count_replicate,Zb]; omega
theorem sub_eq (w:Zq) (f:Vy w) (a b:Int):∃ r,Zag w a b=some r∧Z56 w a b=some r∧(¬(In w a∧In w b)→r=false):=by
 unfold Zag Z56
 rw[Zt8,Zt8,two_eq]
 by_cases l:In w a <;> by_cases o:In w b <;> simp only[l,o,decide_true,decide_false,Option.bind,and_self,and_true,and_false,false_and,true_and,Bool.not_true,Bool.not_false,Bool.false_eq_true,if_true,if_false,not_true,not_false_eq_true,false_implies]
 ·obtain⟨c,ec,mc,ic⟩:=o.get
  have s:=f.few
  obtain⟨z,A⟩:=id l
  obtain⟨B,C⟩:=id o
  have g:=f.cls _ c ic
  -- both walks
  have hp:Ok (Zcr w a b) (λr=>r=true↔Reach w a b):=by
   unfold Zcr
   refine bd wr λn d=>bd mk λ_ _=>?_
   subst d
   refine bd (l28_ok w f a b l o) λq hq=>?_
   cases q with
   | inl _=>exact ok ⟨λh=>(by cases h),λh=>absurd h hq⟩
   | inr y=>exact ok ⟨λ_=>hq.2,λ_=>hq.1⟩
  have i:Ok (Z74 w a b) (λr=>r=true↔Reach w a b):=by
   unfold Z74
   refine bd mk λ_ _=>bd (ik (by omega) (by simp; omega)) λn d=>bd (la d.2) λ_ _=>bd (l31_ok w f f.few a l _ (And.intro (by simp) λj=>?_)) λq hq=>bd (ik (by omega) (by rw[hq.1]; omega)) λm t=>bd (la t.2) λr i=>ok ?_
   ·rw[Bit.set d.2]
    constructor
    ·rintro(h|h)
     ·exact .inl (by omega)
     ·exact absurd h Bit.rep
    ·rintro(h|⟨k,F,i,_⟩)
     ·exact .inl (by omega)
     ·have:=i.le f; omega
   ·rw[← hq.2]
    unfold Bit
    rw[← t.1,i.1]
    simp; omega
  unfold j83x1 Znp
  by_cases e:a=b
  ·simp[e]
  ·have v:(a==b)=false:=by simpa using e
   simp only[v,Bool.false_eq_true,if_false]
   rw[ec]
   dsimp only[Option.bind]
   by_cases d:(c.Xp.Zn==([108,97,110,103,47,79,98,106,101,99,116]:List UInt8))=true
   ·have x:c.Xn=0:=by
     refine Decidable.byContradiction λh=>?_
     have:=g.lang h
     rw[beq_iff_eq.1 d] at this
     exact absurd this (by decide)
    simp[d,x]
   ·simp only[d,Bool.false_eq_true,if_false]
    obtain⟨p,D,E⟩:=hp
    obtain⟨u,q3,q4⟩:=i
    have:p=u:=by
     rw[← q4] at E
     cases p <;> cases u <;> simp_all
    subst this
    exact⟨p,D,by rw[q3]⟩
 all_goals exact⟨_,rfl,rfl,λ_=>rfl⟩
end Go.Proofs
namespace Go.Proofs
open Go.Den Go.Tot
def Kn (out:List Int) (v:Zf):List Int:=if v.Zj=3∧v.f_N≠0∧v.f_N ∉ out then out++[v.f_N] else out
def vtg (l:List Zf):List Int:=l.foldl Kn []
theorem Y7b (out:List Int) (v:Zf) (n:Int):n∈Kn out v↔n∈out∨(v.Zj=3∧v.f_N≠0∧n=v.f_N):=by
 unfold Kn
 split
 ·rename_i h
  rw[List.mem_append,List.mem_singleton]
  exact⟨λg=>g.imp id λe=>⟨h.1,h.2.1,e⟩,λg=>g.imp id λe=>e.2.2⟩
 ·rename_i h
  refine⟨.inl,λg=>g.elim id λ⟨a,b,c⟩=>?_⟩
  by_cases d:v.f_N∈out
  ·rw[c]; exact d
  ·exact absurd ⟨a,b,d⟩ h
theorem Zzg:∀ (l:List Zf) (out:List Int) (n:Int),n∈l.foldl Kn out↔n∈out∨∃ v∈l,v.Zj=3∧v.f_N≠0∧n=v.f_N
 | [],out,n=>by simp
 | v::l,out,n=>by
  rw[List.foldl_cons,Zzg l,Y7b]
  simp only[List.mem_cons,exists_eq_or_imp,or_assoc]
theorem Zj4 (l:List Zf) (n:Int):n∈vtg l↔∃ v∈l,v.Zj=3∧v.f_N≠0∧n=v.f_N:=by
 unfold vtg; rw[Zzg]; simp
theorem Zzh:∀ (l:List Zf) (out:List Int),out.Nodup→(l.foldl Kn out).Nodup
 | [],out,h=>h
 | v :: l,out,h=>by
  rw[List.foldl_cons]
  refine Zzh l _ ?_
  unfold Kn
  split
  ·rename_i f
   refine List.nodup_append.2 ⟨h,by simp,λa c b d=>?_⟩
   rw[List.mem_singleton.1 d]
   exact λe=>f.2.2 (e ▸ c)
  ·exact h
theorem Y7a (l:List Zf):(vtg l).Nodup:=Zzh l [] List.nodup_nil
def Q9 (m:Z6) (n:Int):Option Zm:=if 1≤n then (m.Z7[(n - 1).toNat]?).bind λo=>if o.Zj=0 then none else some o else none
def IsO (m:Z6) (n:Int):Prop:=∃ o,Q9 m n=some o
def Jp (m:Z6) (n:Int):Prop:=n=0∨IsO m n
def U7 (m:Z6) (v:Zf):Prop:=v.Zj=3→Jp m v.f_N
theorem Jl {m:Z6} {n:Int} {o:Zm}:Q9 m n=some o↔1≤n∧m.Z7[(n - 1).toNat]?=some o∧o.Zj≠0:=by
 unfold Q9
 by_cases h:1≤n
 ·rw[if_pos h]
  cases d:m.Z7[(n - 1).toNat]? with
  | none=>simp
  | some b=>
   simp only[Option.bind_some]
   by_cases a:b.Zj=0
   ·rw[if_pos a]; simp
    intro _ e; subst e; exact a
   ·rw[if_neg a]; simp
    exact⟨λe=>⟨h,e,e ▸ a⟩,λe=>e.2.1⟩
 ·rw[if_neg h]; simp; intro c; omega
theorem IsO.range {m:Z6} {n:Int} (h:IsO m n):1≤n∧n≤m.Z7.length:=by
 obtain⟨o,h⟩:=h
 obtain⟨b,a,_⟩:=Jl.1 h
 have:=(List.getElem?_eq_some_iff.1 a).1
 omega
def lkp (l:List Q2) (s:List UInt8):Option Int:=(l.find? λx=>x.Xn==0&&x.Zn==s).map (·.Zy)
def subB (w:Zq) (a b:Int):Bool:=(Z56 w a b).getD false
def Ld (w:Zq) (c:Int) (s:List UInt8):Bool:=match lkp w.Yr s with|some k=>subB w c k|none=>false
def Zi2:List UInt8:=[108,97,110,103,47,83,111,102,116,82,101,102,101,114,101,110,99,101]
def Zi3:List UInt8:=[108,97,110,103,47,87,101,97,107,82,101,102,101,114,101,110,99,101]
def Zi1:List UInt8:=[108,97,110,103,47,80,104,97,110,116,111,109,82,101,102,101,114,101,110,99,101]
def K0 (w:Zq) (c:Int):Int:=if Ld w c Zi2 then 3 else if Ld w c Zi3 then 2 else if Ld w c Zi1 then 1 else 0
theorem strC_le (w:Zq) (c:Int):0≤K0 w c∧K0 w c≤3:=by unfold K0; split <;> (try split) <;> (try split) <;> omega
def Wr (w:Zq) (o:Zm):Int:=if o.Zj=1 then K0 w o.Zt.Zy else 0
theorem Zpm (w:Zq) (o:Zm):0≤Wr w o∧Wr w o≤3:=by unfold Wr; split; exact strC_le _ _; omega
def refJ (w:Zq) (o:Zm):List Int:=vtg (o.Zw.drop (if 0<Wr w o then 1 else 0))
def toJ (w:Zq) (o:Zm):Int:=if Wr w o=0 then 0 else match o.Zw with|v::_=>if v.Zj=3 then v.f_N else 0|[] =>0
def Ws (m:Z6) (n:Int):Int:=match Q9 m n with|some o=>Wr m.Y0 o|none=>0
def Uc (m:Z6) (n:Int):List Int:=match Q9 m n with|some o=>refJ m.Y0 o|none=>[]
def toO (m:Z6) (n:Int):Int:=match Q9 m n with|some o=>toJ m.Y0 o|none=>0
def mkO (s:List Bool) (n:Int):List Bool:=if 1≤n∧n≤s.length then s.set (n - 1).toNat true else s
def Z0t (s:List Bool) (v:Zf):List Bool:=if v.Zj=3 then mkO s v.f_N else s
def mkV (s:List Bool) (l:List Zf):List Bool:=l.foldl Z0t s
def mkA (s:List Bool) (a:Qb):List Bool:=mkV (mkV (mkO s a.Vo) a.Y1) a.Y5
def mkT (s:List Bool) (t:Xu):List Bool:=t.Yu.foldl mkA (mkV (mkO (mkO (mkO s t.Xj) t.V2) t.Vn) [t.Qr])
def marks (m:Z6):List Bool:=m.X1.foldl (λs x=>mkO s x.Xj) (m.Xb.foldl (λs r=>mkV s r.Qt) (m.Y9.foldl mkT (List.replicate m.Z7.length false)))
def Lq (o:Zm):Bool:=o.Xr !=0||decide (0<o.Xk.length)
def Vl:List Bool→List Zm→Int→List Int
 | b::s,o::l,i=>if b||Lq o then i::Vl s l (i+1) else Vl s l (i+1)
 | _,_,_=>[]
def U3 (m:Z6):List Int:=Vl (marks m) m.Z7 1
theorem Zoa:∀ (s:List Bool) (l:List Zm) (i n:Int),n∈Vl s l i↔i≤n∧∃ b o,s[(n - i).toNat]?=some b∧l[(n - i).toNat]?=some o∧(b||Lq o)=true
 | [],l,i,n=>by simp[Vl]
 | b::s,[],i,n=>by simp[Vl]
 | b :: s,o::l,i,n=>by
  have ih:=Zoa s l (i+1) n
  have m:∀ h:i+1≤n,(n - i).toNat=(n - (i+1)).toNat+1:=λh=>by omega
  unfold Vl
  by_cases q:n=i
  ·subst q
   rw[show (n - n).toNat=0 by omega]
   have k:n ∉ Vl s l (n+1):=λh=>by have:=(ih.1 h).1; omega
   simp only[List.getElem?_cons_zero,Option.some.injEq]
   by_cases g:(b||Lq o)=true
   ·rw[if_pos g]
    exact⟨λ_=>⟨Int.le_refl _,b,o,rfl,rfl,g⟩,λ_=>List.mem_cons_self⟩
   ·rw[if_neg g]
    exact⟨λh=>absurd h k,λ⟨_,f,j,a,c,d⟩=>absurd (by rw[a,c]; exact d) g⟩
  ·have e:(n∈if (b||Lq o)=true then i::Vl s l (i+1) else Vl s l (i+1))↔n∈Vl s l (i+1):=by
    split
    ·rw[List.mem_cons]; exact⟨λh=>h.resolve_left q,.inr⟩
    ·exact Iff.rfl
   rw[e,ih]
   constructor
   ·rintro⟨h,f,j,a,c,d⟩
    refine⟨by omega,f,j,?_,?_,d⟩
    ·rw[m h,List.getElem?_cons_succ]; exact a
    ·rw[m h,List.getElem?_cons_succ]; exact c
   ·rintro⟨h,f,j,a,c,d⟩
    have p:i+1≤n:=by omega
    rw[m p,List.getElem?_cons_succ] at a c
    exact⟨p,f,j,a,c,d⟩
theorem Zuw:∀ (s:List Bool) (l:List Zm) (i:Int),(Vl s l i).Pairwise (· < ·)
 | [],l,i=>by simp[Vl]
 | b::s,[],i=>by simp[Vl]
 | b :: s,o::l,i=>by
  have ih:=Zuw s l (i+1)
  unfold Vl
  split
  ·refine List.pairwise_cons.2 ⟨λn a=>?_,ih⟩
   have:=((Zoa s l (i+1) n).1 a).1
   omega
  ·exact ih
theorem Vt (s:List Bool) (n:Int):(mkO s n).length=s.length:=by unfold mkO; split <;> simp
theorem mkO_bit (s:List Bool) (n x:Int):Bit (mkO s n) x↔Bit s x∨(x=n - 1∧1≤n∧n≤s.length):=by
 unfold mkO
 split
 ·rename_i h
  rw[Bit.set (by omega)]
  constructor
  ·rintro(e|e)
   ·exact .inr ⟨by omega,h⟩
   ·exact .inl e
  ·rintro(e|e)
   ·exact .inr e
   ·exact .inl (by omega)
 ·rename_i h
  exact⟨.inl,λe=>e.elim id λe=>absurd e.2 h⟩
structure MkS (f:List Bool→List Bool) (P:Int→Prop):Prop where
 len:∀ s,(f s).length=s.length
 bit:∀ s x,Bit (f s) x↔Bit s x∨(P (x+1)∧1≤x+1∧x+1≤s.length)
theorem MkS.id:MkS (λs=>s) λ_=>False:=⟨λ_=>rfl,λs x=>by simp⟩
theorem MkS.one (n:Int):MkS (λs=>mkO s n) λx=>x=n:=⟨λs=>Vt s n,λs x=>by
 rw[mkO_bit]
 constructor <;> rintro(e|e)
 ·exact .inl e
 ·exact .inr ⟨by omega,by omega,by omega⟩
 ·exact .inl e
 ·exact .inr ⟨by omega,by omega,by omega⟩⟩
theorem MkS.iff {f:List Bool→List Bool} {P P':Int→Prop} (h:MkS f P) (e:∀ x,P x↔P' x):MkS f P':=⟨h.len,λs x=>by rw[h.bit,e]⟩
theorem MkS.comp {f a:List Bool→List Bool} {P P':Int→Prop} (h:MkS f P) (b:MkS a P'):MkS (λs=>a (f s)) λx=>P x∨P' x:=⟨λs=>by rw[b.len,h.len],λs x=>by
 rw[b.bit,h.bit,h.len]
 constructor
 ·rintro((e|e)|e)
  ·exact .inl e
  ·exact .inr ⟨.inl e.1,e.2⟩
  ·exact .inr ⟨.inr e.1,e.2⟩
 ·rintro(e|⟨e|e,g⟩)
  ·exact .inl (.inl e)
  ·exact .inl (.inr ⟨e,g⟩)
  ·exact .inr ⟨e,g⟩⟩
theorem MkS.fold {α:Type} {f:List Bool→α→List Bool} {P:α→Int→Prop}:∀ (l:List α),(∀ a∈l,MkS (λs=>f s a) (P a))→MkS (λs=>l.foldl f s) λx=>∃ a∈l,P a x
 | [],_=>MkS.id.iff λx=>by simp
 | a::l,h=>((h a (by simp)).comp (MkS.fold l λb c=>h b (by simp[c]))).iff λx=>by simp
def Z23 (v:Zf) (x:Int):Prop:=v.Zj=3∧x=v.f_N
theorem MkS.val (v:Zf):MkS (λs=>Z0t s v) (Z23 v):=by
 unfold Z0t Z23
 split
 ·rename_i h
  exact(MkS.one v.f_N).iff λx=>by simp[h]
 ·rename_i h
  exact MkS.id.iff λx=>by simp[h]
theorem MkS.vals (l:List Zf):MkS (λs=>mkV s l) λx=>∃ v∈l,Z23 v x:=MkS.fold l λv _=>MkS.val v
def refA (a:Qb) (x:Int):Prop:=x=a.Vo∨(∃ v∈a.Y1,Z23 v x)∨∃ v∈a.Y5,Z23 v x
theorem MkS.act (a:Qb):MkS (λs=>mkA s a) (refA a):=(((MkS.one a.Vo).comp (MkS.vals a.Y1)).comp (MkS.vals a.Y5)).iff λx=>by unfold refA; rw[or_assoc]
def refT (t:Xu) (x:Int):Prop:=x=t.Xj∨x=t.V2∨x=t.Vn∨Z23 t.Qr x∨∃ a∈t.Yu,refA a x
theorem MkS.thr (t:Xu):MkS (λs=>mkT s t) (refT t):=
 (((((MkS.one t.Xj).comp (MkS.one t.V2)).comp (MkS.one t.Vn)).comp (MkS.vals [t.Qr])).comp (MkS.fold (f:=mkA) t.Yu λa _=>MkS.act a)).iff λx=>by
  unfold refT
  simp only[List.mem_singleton,exists_eq_left,or_assoc]
def refM (m:Z6) (x:Int):Prop:=(∃ t∈m.Y9,refT t x)∨(∃ r∈m.Xb,∃ v∈r.Qt,Z23 v x)∨∃ y∈m.X1,x=y.Xj
theorem Zaj (m:Z6):(marks m).length=m.Z7.length∧∀ x,Bit (marks m) x↔refM m (x+1)∧1≤x+1∧x+1≤m.Z7.length:=by
 have h:=(((MkS.fold (f:=mkT) m.Y9 λt _=>MkS.thr t).comp (MkS.fold (f:=λs r=>mkV s r.Qt) m.Xb λr _=>MkS.vals r.Qt)).comp (MkS.fold (f:=λs x=>mkO s x.Xj) m.X1 λx _=>MkS.one x.Xj)).iff (P':=refM m) λx=>by unfold refM; rw[or_assoc]
 have b:=h.len (List.replicate m.Z7.length false)
 rw[List.length_replicate] at b
 refine⟨b,λx=>?_⟩
 have a:=h.bit (List.replicate m.Z7.length false) x
 rw[List.length_replicate] at a
 refine Iff.trans a ⟨λg=>g.elim (λg=>(Bit.rep g).elim) id,.inr⟩
theorem Zar (m:Z6) (n:Int):n∈U3 m↔1≤n∧∃ o,m.Z7[(n - 1).toNat]?=some o∧(refM m n∨Lq o=true):=by
 unfold U3
 rw[Zoa]
 obtain⟨j,h⟩:=Zaj m
 refine and_congr_right λg=>?_
 have a:=h (n - 1)
 rw[show n - 1+1=n by omega] at a
 constructor
 ·rintro⟨b,o,f,c,d⟩
  refine⟨o,c,?_⟩
  rcases Bool.or_eq_true_iff.1 d with e|e
  ·subst e
   exact .inl (a.1 ⟨by omega,f⟩).1
  ·exact .inr e
 ·rintro⟨o,c,d⟩
  have i:=(List.getElem?_eq_some_iff.1 c).1
  refine⟨(marks m)[(n - 1).toNat],o,List.getElem?_eq_getElem (by omega),c,?_⟩
  rcases d with e|e
  ·have:=(a.2 ⟨e,g,by omega⟩).2
   rw[List.getElem?_eq_getElem (by omega)] at this
   rw[Option.some.inj this]; rfl
  ·rw[e,Bool.or_true]
structure MSz (m:Z6):Prop where
 ini:m.Y0.Yr.length≤140737488355328
 thr:m.Y9.length≤140737488355328
 act:∀ t∈m.Y9,t.Yu.length≤140737488355328∧∀ a∈t.Yu,a.Y1.length≤140737488355328∧a.Y5.length≤140737488355328
 ini2:m.Xb.length≤140737488355328
 sta:∀ r∈m.Xb,r.Qt.length≤140737488355328
 intr:m.X1.length≤140737488355328
 vals:∀ o∈m.Z7,o.Zw.length≤140737488355328
structure MG (m:Z6):Prop where
 sz:MSz m
 sp:Vy m.Y0
 len:m.Z7.length≤5001
 free:∀ o∈m.Z7,o.Zj=0→Lq o=false
 fval:∀ o∈m.Z7,o.Zj=0→o.Zw=[]
 cls:∀ o∈m.Z7,o.Zj=1→0≤o.Zt.Zy∧o.Zt.Zy<m.Y0.Y6.length
 val:∀ o∈m.Z7,o.Zj≠0→∀ v∈o.Zw,U7 m v
 rt:∀ x,refM m x→Jp m x
def Ua (m:Z6):Gr:={ N:=m.Z7.length,refs:=Uc m,to:=toO m,str:=Ws m,roots:=U3 m }
theorem Zi6 {m:Z6} {n:Int} {o:Zm} (h:Q9 m n=some o):o∈m.Z7∧o.Zj≠0:=by
 obtain⟨_,a,b⟩:=Jl.1 h
 exact⟨List.mem_of_getElem? a,b⟩
theorem Y5x {w:Zq} {o:Zm} {x:Int} (h:x∈refJ w o):x≠0∧∃ v∈o.Zw,v.Zj=3∧x=v.f_N:=by
 obtain⟨v,b,c,d,a⟩:=(Zj4 _ _).1 h
 exact⟨a ▸ d,v,List.mem_of_mem_drop b,c,a⟩
theorem toJ_mem {w:Zq} {o:Zm} (h:toJ w o≠0):∃ v∈o.Zw,v.Zj=3∧toJ w o=v.f_N:=by
 unfold toJ at h ⊢
 split at h
 ·exact absurd rfl h
 ·rename_i hs
  rw[if_neg hs]
  split at h
  ·rename_i v r b
   split at h
   ·rename_i a
    rw[b]
    exact⟨v,by simp,a,by simp[a]⟩
   ·exact absurd rfl h
  ·exact absurd rfl h
theorem MG.refs_is {m:Z6} (h:MG m) {n x:Int} (a:x∈Uc m n):IsO m x:=by
 unfold Uc at a
 split at a
 ·rename_i o g
  obtain⟨b,v,i,f,e⟩:=Y5x a
  obtain⟨c,d⟩:=Zi6 g
  have:=h.val o c d v i f
  rw[← e] at this
  exact this.resolve_left b
 ·exact(List.not_mem_nil a).elim
theorem MG.to_is {m:Z6} (h:MG m) {n:Int} (a:toO m n≠0):IsO m (toO m n):=by
 unfold toO at a ⊢
 split at a
 ·rename_i o f
  obtain⟨v,g,d,e⟩:=toJ_mem a
  obtain⟨b,c⟩:=Zi6 f
  have:=h.val o b c v g d
  rw[← e] at this
  exact this.resolve_left a
 ·exact absurd rfl a
theorem MG.root_is {m:Z6} (h:MG m) {n:Int} (d:n∈U3 m):IsO m n:=by
 obtain⟨c,o,b,a⟩:=(Zar m n).1 d
 rcases a with a|a
 ·exact(h.rt n a).resolve_left (by omega)
 ·refine⟨o,Jl.2 ⟨c,b,λe=>?_⟩⟩
  rw[h.free o (List.mem_of_getElem? b) e] at a
  cases a
theorem strO_le (m:Z6) (n:Int):0≤Ws m n∧Ws m n≤3:=by
 unfold Ws
 split
 ·exact Zpm _ _
 ·omega
theorem MG.ok {m:Z6} (h:MG m):(Ua m).Ok where
 roots:=λn b=>(h.root_is b).range
 refs:=λn _ _ x e=>(h.refs_is e).range
 to:=λn _ _=>by
  by_cases c:toO m n=0
  ·exact .inl c
  ·exact .inr (h.to_is c).range
 str:=strO_le m
 weak:=λn b=>by
  show toO m n=0
  have a:Ws m n=0:=b
  unfold toO
  unfold Ws at a
  split
  ·rename_i o d
   rw[d] at a
   unfold toJ
   rw[if_pos a]
  ·rfl
theorem MG.refs_len {m:Z6} (h:MG m) (n:Int):(Uc m n).length≤m.Z7.length:=by
 refine Zam _ _ ?_ λx a=>(h.refs_is a).range
 unfold Uc
 split
 ·exact Y7a _
 ·exact List.nodup_nil
theorem MG.roots_len {m:Z6} (h:MG m):(U3 m).length≤m.Z7.length:=by
 refine Zam _ _ ?_ λx a=>(h.root_is a).range
 exact(Zuw _ _ _).imp λh=>by omega
end Go.Proofs
namespace Go.Proofs
open Go.Den Go.Tot
theorem lev_ext {N:Nat} {l l':List Int} (h:l.length=N) (c:l'.length=N) (e:∀ n:Int,1≤n→n≤N→l.getD (n - 1).toNat 0=l'.getD (n - 1).toNat 0):l=l':=by
 refine List.ext_getElem (by omega) λi a b=>?_
 have:=e (i+1) (by omega) (by omega)
 rw[show ((i:Int)+1 - 1).toNat=i by omega] at this
 simpa [List.getD_eq_getElem?_getD,a,b] using this
end Go.Proofs
namespace Go.Proofs
open Go.Den Go.Tot
structure LevF (m:Z6) (l:List Int):Prop where
 len:l.length=m.Z7.length
 lev:∀ (t:Int) v,0≤t→l[t.toNat]?=some v→0≤v∧v≤4∧∀ k,1≤k→k≤4→(k≤v↔(Ua m).Re k (t+1))
theorem LevF.of {m:Z6} {l:List Int} (e:l.length=m.Z7.length) (f:Lf (Ua m) λn=>l.getD (n - 1).toNat 0):LevF m l:=⟨e,λt v h d=>by
 have g:=(List.getElem?_eq_some_iff.1 d).1
 obtain⟨a,b,c⟩:=f (t+1) (by omega) (by show t+1≤(m.Z7.length:Int); omega)
 dsimp only at a b c
 rw[show (t+1 - 1).toNat=t.toNat by omega,List.getD_eq_getElem?_getD,d,Option.getD_some] at a b c
 exact⟨a,b,c⟩⟩
theorem LevF.at {m:Z6} {l:List Int} (h:LevF m l) {n v:Int} (b:1≤n) (a:l[(n - 1).toNat]?=some v):0≤v∧v≤4∧∀ k,1≤k→k≤4→(k≤v↔(Ua m).Re k n):=by
 have:=h.lev (n - 1) v (by omega) a
 rwa [show n - 1+1=n by omega] at this
end Go.Proofs
namespace Go.Proofs
open Go.Den Go.Tot
def Qj (s:Bool) (v:Int):Bool:=v==4||(v==3&& !s)
def thr (s:Bool):Int:=if s then 4 else 3
theorem thr_le (s:Bool):3≤thr s∧thr s≤4:=by unfold thr; split <;> omega
theorem ret_iff (s:Bool) {v:Int} (h:v≤4):Qj s v=true↔thr s≤v:=by
 unfold Qj thr
 cases s <;> simp <;> omega
def Q8 (l:List Int) (n:Int):Int:=l.getD (n - 1).toNat 0
def Z1z:Zf:={ Zj:=3,f_N:=0 }
def Z0a (v:Zf):Zf:=if v.Zj=1 then { v with f_N:=1 } else v
def Jd:List Zf→List Zf
 | [] =>[]
 | [_] =>[Z1z]
 | _::w::r=>Z1z::Z0a w::r
def Ue (o:Zm):Zm:={ o with Zw:=Jd o.Zw }
def clB (m:Z6) (l:List Int) (s:Bool) (n:Int):Bool:=toO m n !=0&& !Qj s (Q8 l (toO m n))
def Ko:Zm:={ Zj:=0,Zt:={ Xl:=0,Yw:=0,Zy:=0 },Zw:=[],Yx:=[],Xr:=0,Xd:=0,Xk:=[] }
def Wf (m:Z6) (l:List Int) (s:Bool) (n:Int) (o:Zm):Zm:=
 if o.Zj=0 then o else if Qj s (Q8 l n)=true then if clB m l s n=true then Ue o else o else Ko
def Qe (m:Z6) (l:List Int) (s:Bool):Z6:={ m with Z7:=m.Z7.mapIdx λi o=>Wf m l s ((i:Int)+1) o }
def pick (N:Nat) (c:Int→Bool):List Int:=((List.range N).map λ(i:Nat)=>(i:Int)+1).filter c
def Wb (m:Z6) (l:List Int) (s:Bool):List Int:=pick m.Z7.length λn=>(Q9 m n).isSome&& !Qj s (Q8 l n)
def Ud (m:Z6) (l:List Int) (s:Bool):List Int:=pick m.Z7.length λn=>(Q9 m n).isSome&&Qj s (Q8 l n)&&clB m l s n
theorem Zui {N:Nat} {c:Int→Bool} {n:Int}:n∈pick N c↔1≤n∧n≤N∧c n=true:=by
 unfold pick
 rw[List.mem_filter,List.mem_map]
 constructor
 ·rintro⟨⟨i,b,e⟩,a⟩
  rw[List.mem_range] at b
  exact⟨by omega,by omega,a⟩
 ·rintro⟨d,f,a⟩
  exact⟨⟨(n - 1).toNat,List.mem_range.2 (by omega),by omega⟩,a⟩
theorem Y5q (N:Nat) (c:Int→Bool):pick (N+1) c=pick N c++(if c ((N:Int)+1)=true then [(N:Int)+1] else []):=by
 unfold pick
 rw[List.range_succ,List.map_append,List.filter_append]
 congr 1
 simp only[List.map_cons,List.map_nil,List.filter_cons,List.filter_nil]
theorem Mk (N:Nat) (c:Int→Bool):(pick N c).length≤N:=by
 unfold pick
 refine Nat.le_trans (List.length_filter_le _ _) ?_
 simp
theorem Zuj (N:Nat) (c:Int→Bool):(pick N c).Nodup:=by
 unfold pick
 refine List.Nodup.sublist List.filter_sublist ?_
 induction N with
 | zero=>simp
 | succ n ih=>
  rw[List.range_succ,List.map_append]
  refine List.nodup_append.2 ⟨ih,by simp,λa d b f=>?_⟩
  obtain⟨i,g,e⟩:=List.mem_map.1 d
  rw[List.mem_range] at g
  simp only[List.map_cons,List.map_nil,List.mem_singleton] at f
  omega
theorem Z2j (m:Z6) (l:List Int) (s:Bool):(Qe m l s).Z7.length=m.Z7.length:=by unfold Qe; simp
theorem Z6n (m:Z6) (l:List Int) (s:Bool) {n:Int} (a:1≤n):(Qe m l s).Z7[(n - 1).toNat]?=(m.Z7[(n - 1).toNat]?).map (Wf m l s n):=by
 unfold Qe
 dsimp only
 rw[List.getElem?_mapIdx]
 congr 1
 funext o
 rw[show ((n - 1).toNat:Int)+1=n by omega]
theorem Y3g (o:Zm):(Ue o).Zj=o.Zj:=rfl
theorem Zrz {m:Z6} {l:List Int} {s:Bool} {n:Int} {o:Zm}:(Wf m l s n o).Zj≠0↔o.Zj≠0∧Qj s (Q8 l n)=true:=by
 unfold Wf
 split
 ·rename_i h; simp[h]
 ·rename_i h
  split
  ·rename_i a
   split
   ·rw[Y3g]; simp[h,a]
   ·simp[h,a]
  ·rename_i a
   simp[Ko,a]
theorem Zs1 {m:Z6} {l:List Int} {s:Bool} {n:Int} {f:Zm}:Q9 (Qe m l s) n=some f↔∃ o,Q9 m n=some o∧Qj s (Q8 l n)=true∧f=if clB m l s n=true then Ue o else o:=by
 rw[Jl]
 constructor
 ·rintro⟨b,c,a⟩
  rw[Z6n m l s b,Option.map_eq_some_iff] at c
  obtain⟨o,d,e⟩:=c
  rw[← e,Zrz] at a
  refine⟨o,Jl.2 ⟨b,d,a.1⟩,a.2,?_⟩
  rw[← e]
  unfold Wf
  rw[if_neg a.1,if_pos a.2]
 ·rintro⟨o,d,h,e⟩
  obtain⟨b,c,a⟩:=Jl.1 d
  have g:f=Wf m l s n o:=by
   rw[e]; unfold Wf
   rw[if_neg a,if_pos h]
  refine⟨b,?_,?_⟩
  ·rw[Z6n m l s b,c,g]; rfl
  ·rw[g,Zrz]; exact⟨a,h⟩
theorem Z3x {m:Z6} {l:List Int} {s:Bool} {n:Int} {o:Zm} (a:Q9 m n=some o) (b:Qj s (Q8 l n)=true):Q9 (Qe m l s) n=some (if clB m l s n=true then Ue o else o):=Zs1.2 ⟨o,a,b,rfl⟩
structure Lv (m:Z6) (l:List Int):Prop where
 mg:MG m
 lf:LevF m l
theorem Lv.lev {m:Z6} {l:List Int} (h:Lv m l) {n:Int} (a:1≤n) (b:n≤m.Z7.length):0≤Q8 l n∧Q8 l n≤4∧∀ k,1≤k→k≤4→(k≤Q8 l n↔(Ua m).Re k n):=by
 have c:=h.lf.len
 have e:l[(n - 1).toNat]?=some (Q8 l n):=by
  unfold Q8
  rw[List.getD_eq_getElem?_getD,List.getElem?_eq_getElem (by omega)]
  rfl
 exact h.lf.at a e
theorem Lv.ret {m:Z6} {l:List Int} (h:Lv m l) (s:Bool) {n:Int} (a:1≤n) (d:n≤m.Z7.length):Qj s (Q8 l n)=true↔(Ua m).Re (thr s) n:=by
 obtain⟨_,b,c⟩:=h.lev a d
 have:=thr_le s
 rw[ret_iff s b,c _ (by omega) this.2]
theorem Lv.ret_re {m:Z6} {l:List Int} (h:Lv m l) {s:Bool} {n:Int} (a:(Ua m).Re (thr s) n):Qj s (Q8 l n)=true:=by
 have:=a.range h.mg.ok
 exact(h.ret s this.1 this.2).2 a
theorem Lv.ret_root {m:Z6} {l:List Int} (h:Lv m l) (s:Bool) {n:Int} (a:n∈U3 m):Qj s (Q8 l n)=true:=h.ret_re (.root a)
theorem Z6l {m:Z6} {l:List Int} {s:Bool} {n:Int} {o:Zm} (d:Q9 m n=some o) (h:clB m l s n=true):0<Wr m.Y0 o∧o.Zj=1∧∃ v r,o.Zw=v::r∧v.Zj=3∧v.f_N≠0∧toO m n=v.f_N:=by
 unfold clB at h
 have a:toO m n≠0:=by
  intro e; rw[e] at h; simp at h
 unfold toO at a ⊢
 rw[d] at a ⊢
 dsimp only at a ⊢
 have hs:=Zpm m.Y0 o
 unfold toJ at a ⊢
 split at a
 ·exact absurd rfl a
 ·rename_i b
  refine⟨by omega,?_,?_⟩
  ·refine Classical.byContradiction λc=>?_
   unfold Wr at b
   rw[if_neg c] at b
   exact b rfl
  ·rw[if_neg b]
   split at a
   ·rename_i v r f
    split at a
    ·rename_i c
     refine⟨v,r,f,c,a,?_⟩
     rw[if_pos c]
    ·exact absurd rfl a
   ·exact absurd rfl a
end Go.Proofs
namespace Go.Proofs
open Go.Den Go.Tot
def Z10 (f:Zm→Zm) (h:List Zm) (n:Int):List Zm:=match h[(n - 1).toNat]? with|some o=>h.set (n - 1).toNat (f o)|none=>h
def Kl (f:Zm→Zm) (h:List Zm) (ns:List Int):List Zm:=ns.foldl (Z10 f) h
theorem Y6g (f:Zm→Zm) (h:List Zm) (n:Int):(Z10 f h n).length=h.length:=by unfold Z10; split <;> simp
theorem Z5s (f:Zm→Zm):∀ (ns:List Int) (h:List Zm),(Kl f h ns).length=h.length
 | [],h=>rfl
 | n::ns,h=>by
  show (Kl f (Z10 f h n) ns).length=_
  rw[Z5s f ns,Y6g]
theorem set1_at (f:Zm→Zm) (h:List Zm) {n:Int} (b:1≤n) (i:Nat):(Z10 f h n)[i]?=if n=(i:Int)+1 then (h[i]?).map f else h[i]? :=by
 unfold Z10
 by_cases e:n=(i:Int)+1
 ·rw[if_pos e,show (n - 1).toNat=i by omega]
  cases a:h[i]? with
  | none=>simp only[Option.map_none]; exact a
  | some o=>
   simp only[Option.map_some]
   rw[List.getElem?_set_self (List.getElem?_eq_some_iff.1 a).1]
 ·rw[if_neg e]
  cases a:h[(n - 1).toNat]? with
  | none=>rfl
  | some o=>
   simp only
   rw[List.getElem?_set_ne (by omega)]
theorem Zoj (f:Zm→Zm):∀ (ns:List Int) (h:List Zm),ns.Nodup→(∀ n∈ns,1≤n)→∀ (i:Nat),(Kl f h ns)[i]?=if (i:Int)+1∈ns then (h[i]?).map f else h[i]?
 | [],h,_,_,i=>by simp[Kl]
 | n :: ns,h,a,b,i=>by
  show (Kl f (Z10 f h n) ns)[i]?=_
  obtain⟨c,a⟩:=List.nodup_cons.1 a
  rw[Zoj f ns _ a (λx d=>b x (by simp[d])) i,set1_at f h (b n (by simp))]
  by_cases e:n=(i:Int)+1
  ·subst e
   rw[if_neg c,if_pos rfl,if_pos (by simp)]
  ·rw[if_neg e]
   simp only[List.mem_cons,show ¬((i:Int)+1=n) from λh=>e h.symm,false_or]
theorem Z3n {m:Z6} {l:List Int} {s:Bool} {n:Int}:n∈Wb m l s↔IsO m n∧Qj s (Q8 l n)=false:=by
 unfold Wb
 rw[Zui]
 constructor
 ·rintro⟨c,d,b⟩
  rw[Bool.and_eq_true] at b
  obtain⟨o,a⟩:=Option.isSome_iff_exists.1 b.1
  exact⟨⟨o,a⟩,by simpa using b.2⟩
 ·rintro⟨⟨o,a⟩,h⟩
  have:=IsO.range ⟨o,a⟩
  exact⟨this.1,this.2,by rw[a,h]; rfl⟩
theorem Z14 {m:Z6} {l:List Int} {s:Bool} {n:Int}:n∈Ud m l s↔IsO m n∧Qj s (Q8 l n)=true∧clB m l s n=true:=by
 unfold Ud
 rw[Zui]
 constructor
 ·rintro⟨d,e,a⟩
  rw[Bool.and_eq_true,Bool.and_eq_true] at a
  obtain⟨o,b⟩:=Option.isSome_iff_exists.1 a.1.1
  exact⟨⟨o,b⟩,a.1.2,a.2⟩
 ·rintro⟨⟨o,b⟩,h,c⟩
  have:=IsO.range ⟨o,b⟩
  exact⟨this.1,this.2,by rw[b,h,c]; rfl⟩
theorem Zps {m:Z6} {l:List Int} {s:Bool} {n:Int} (h:n∈Wb m l s):1≤n∧n≤m.Z7.length:=(Z3n.1 h).1.range
theorem Zk3 {m:Z6} {l:List Int} {s:Bool} {n:Int} (h:n∈Ud m l s):1≤n∧n≤m.Z7.length:=(Z14.1 h).1.range
theorem Zk5 (m:Z6) (l:List Int) (s:Bool):Kl (λ_=>Ko) (Kl Ue m.Z7 (Ud m l s)) (Wb m l s)=(Qe m l s).Z7:=by
 apply List.ext_getElem?
 intro i
 have t:(Wb m l s).Nodup:=Zuj _ _
 have u:(Ud m l s).Nodup:=Zuj _ _
 rw[Zoj _ _ _ t (λn e=>(Zps e).1),Zoj _ _ _ u (λn e=>(Zk3 e).1)]
 have p:=Z6n m l s (n:=(i:Int)+1) (by omega)
 rw[show ((i:Int)+1 - 1).toNat=i by omega] at p
 rw[p]
 cases q:m.Z7[i]? with
 | none=>simp
 | some o=>
  have g:o.Zj≠0→Q9 m ((i:Int)+1)=some o:=λc=>Jl.2 ⟨by omega,by rw[show ((i:Int)+1 - 1).toNat=i by omega]; exact q,c⟩
  have b:IsO m ((i:Int)+1)→o.Zj≠0:=λ⟨v,f⟩=>by
   obtain⟨_,j,r⟩:=Jl.1 f
   rw[show ((i:Int)+1 - 1).toNat=i by omega,q] at j
   cases j
   exact r
  simp only[Option.map_some]
  unfold Wf
  by_cases c:o.Zj=0
  ·rw[if_neg λh=>b (Z3n.1 h).1 c,if_neg λh=>b (Z14.1 h).1 c,if_pos c]
  ·rw[if_neg c]
   have k:IsO m ((i:Int)+1):=⟨o,g c⟩
   by_cases d:Qj s (Q8 l ((i:Int)+1))=true
   ·rw[if_pos d,if_neg λh=>by rw[(Z3n.1 h).2] at d; cases d]
    by_cases a:clB m l s ((i:Int)+1)=true
    ·rw[if_pos a,if_pos (Z14.2 ⟨k,d,a⟩)]
    ·rw[if_neg a,if_neg λh=>a (Z14.1 h).2.2]
   ·rw[if_neg d,if_pos (Z3n.2 ⟨k,by simpa using d⟩)]
    split <;> rfl
end Go.Proofs
namespace Go.Proofs
open Tryz
open Go.Den Go.Den.W Go.RowKit
def B16 (r:List Int):List Blk:=[{ sz:=1,rows:=(r.map Z5),frz:=0,pure:=true }]
def R16o (r:List Int):D:= .lsl 0 0 ((r.map Z5).length)
theorem w16O {e r} (h:Z38 e=some r):Vs prog 21 [.agg (Zr e)] [{ sz:=1,rows:=[],frz:=0,pure:=true }] (R16o r) (B16 r):=
 csO f21 (m:=1) (keep:=[false])<|bd h λj f h=>go [] [rg 0 [(0,bo)],rg 1 [(2,ln e.Z7),(3,mk false f)]]<|bd h λq0 g h=>lp (ps:=[(12,3)]) g Y17<|qe<|goN [] []<|bd h λi b h=>lp b Y18<|qe<|goN [] []<|bd h λq4 c h=>lp c Y19<|qe<|goN [] [rg 14 [(0,bl 0 0)]]<|bd h λa d h=>lp (ps:=[(3,3),(57,7)]) d Y1a<|qe<|
  rk ⟨94,[(7,.lsl 0 0 ((a.map Z5).length))],[(0,{ sz:=1,rows:=(a.map Z5),frz:=0,pure:=true })]⟩ [] [(7,0)]<|go [] []<|rtO h (.lsl 0 0 ((a.map Z5).length)) [{ sz:=1,rows:=(a.map Z5),frz:=0,pure:=true }] trivial rfl
def ndR (m:Z6) (n:Int):Option (List Int×Int×Int):=
 (Zhp m n).bind λl=>(Z5a m n).bind λs=>(Zac m n).bind λr=>some (l,r,s)
def Z5b (m:Z6) (k:Int):Option (List Bool):=
 (W2 1 (m.Z7.length:Int) (m.Z7.length:Int)).bind λ_=>(Z38 m).bind λrs=>Z8 (rchF (ndR m) k) Zb (0,List.replicate (m.Z7.length:Int).toNat false,rs)
def R45 (a:List Bool):D:= .sl false (a.map Zu)
def Zxx (a:Z6) (b:Int):Int×List Bool×List Int→SL:=
 λt0=>⟨57,[(1,dI b),(2,.ptr (Zr a)),(5,.lsl 5 0 ((t0.2.1.map Zu).length)),(6,.lsl 6 0 ((t0.2.2.map Z5).length)),(7,dI t0.1)],[(5,{ sz:=1,rows:=(t0.2.1.map Zu),frz:=0,pure:=true }),(6,{ sz:=1,rows:=(t0.2.2.map Z5),frz:=0,pure:=true })]⟩
def J45x1:JT (List Bool):=je 0 λq:List Bool=>⟨57,[(5,.lsl 5 0 ((q.map Zu).length))],[(5,{ sz:=1,rows:=(q.map Zu),frz:=0,pure:=true })]⟩
theorem wl45x1 {d e t0 r Γ} (h:(rchF (ndR d) e) t0=some r):A prog Γ (lpC f45 87) [] (Rd (Zxx d e) J45x1 r) ((Zxx d e) t0).s:=by
 unfold rchF at h
 refine go [] [rg 4 [(2,ln t0.2.2)]]<|br h (λz h=>bd h λjq w h=>bd h λE x h=>bd h λi m h=>bd h λj o h=>bd h λb p h=>?_) λz h=>go [] []<|dn h (iE)
 refine go [] [rg 6 [(2,ia 6 w),(3,lb x)],rg 7 [(2,W.n m),(3,ia 5 o),(4,lb p)]]<|br h (λB h=>bd h λg a h=>go [] [rg 5 [(1,W.n a)]]<|nx h) λB h=>?_
 refine bd h λy ey h=>?_
 unfold ndR at ey
 refine bd ey λl q ey=>bd ey λs t ey=>bd ey λrf u ey=>?_
 obtain rfl:=Option.some.inj ey
 refine bd h λ_ v C=>?_
 refine go [9] [rg 8 [(2,W.n m),(3,ia 5 o),(4,st p 0 [.bool true] true)]]<|nm (congrArg (λnn:Nat=>(⟨57,[(1,dI e),(2,.ptr (Zr d)),(5,.lsl 5 0 nn),(6,.lsl 6 0 ((t0.2.2.map Z5).length)),(7,dI t0.1),(8,dI E)],[(5,{ sz:=1,rows:=((t0.2.1.set j true).map Zu),frz:=0,pure:=true }),(6,{ sz:=1,rows:=(t0.2.2.map Z5),frz:=0,pure:=true })]⟩:SL)) (by simp only[List.length_map,List.length_set]:(t0.2.1.map Zu).length=((t0.2.1.set j true).map Zu).length))<|so<| ?_
 refine sp C (λc h=>?_) λc h=>?_
 ·refine go [] [rg 9 [(3,W.k (w81 q)),(4,ap v)],rg 10 ((2,W.k (w60 t))::gC c 6 2 [(8,gw c (W.k (w32 u))),(9,gw c g0),(10,py c)])]<|br h (λD h=>bd h λ_ f h=>bd h λg a h=>?_) λD h=>bd h λg a h=>?_
  ·exact go [] [rg 11 [(3,W.k (w32 u)),(4,br0 1 0),(5,ap f)],rg 5 [(1,W.n a)]]<|nx h
  ·exact go [] [rg 5 [(1,W.n a)]]<|nx h
 ·refine bd h λg a h=>?_
  exact go [] [rg 9 [(3,W.k (w81 q)),(4,ap v)],rg 10 ((2,W.k (w60 t))::gB c 6 4 [(10,pn c)])]<|bF rfl<|go [] [rg 5 [(1,W.n a)]]<|nx h
theorem w45 {a b r} (h:Z5b a b=some r):Zi prog 45 [.agg (Zr a),dI b] (R45 r):=by
 unfold Z5b at h
 exact cs f45<|bd h λ_ c h=>bd h λrs d h=>go [] [rg 0 [(0,bo)],rg 1 [(2,ln a.Z7),(3,mk false c)],rg 2 [(1,ko [14] (w16O d) (fresh:=[(14,1)]))]]<|lp (ps:=[(12,5),(14,6)]) h wl45x1<|qe<|goN [] []<|rtB (R:=R45) (x:=r) rfl (rw_ r) (a2 (rpI r) trivial) (by unfold R45; simp only[rwE] <;> kernel_rfl)
end Go.Proofs
