/-
  Class spaces: subtypes, as the program and the reference tell them. No condition.
-/
import Derived.Test.YtiiilinleagffaaGreatDoorRchT10
import Derived.Test.YtiiilinleagffaaGreatDoorRch9
import Derived.Test.YtiiilinleagffaaGreatDoorGcF
import Derived.Test.YtiiilinleagffaaGreatDoorRchW
import Derived.Test.YtiiilinleagffaaGreatDoorDenClaim
import Derived.Lib.SliceRun
set_option linter.unusedVariables false
set_option linter.unusedSimpArgs false
namespace Go.Proofs
open Go.Den Go.Tot
theorem Y1e (w:Zj) (a:Int):Ok (Z39 w a) (λb=>b=decide (0≤a∧a<w.Zy.length)):=by
 unfold Z39
 exact brD (λh=>ok (by simp; omega)) λh=>ok (by simp; omega)
def In (w:Zj) (a:Int):Prop:=0≤a∧a<w.Zy.length
instance (w:Zj) (a:Int):Decidable (In w a):=by unfold In; infer_instance
theorem Zna (w:Zj) (a:Int):Z39 w a=some (decide (In w a)):=by obtain⟨b,e,h⟩:=Y1e w a; rw[e,h]; rfl
theorem two_eq (w:Zj) (a b:Int):Ze1 w a b=some (decide (In w a∧In w b)):=by
 unfold Ze1
 by_cases h1:a≥0 <;> by_cases h2:a<w.Zy.length <;> by_cases h3:b≥0 <;> simp[h1,h2,h3,In]
theorem In.get {w:Zj} {a:Int} (h:In w a):∃ c,Z5 w.Zy a=some c∧c∈w.Zy∧w.Zy[a.toNat]?=some c:=by
 obtain⟨c,e,h1,h2⟩:=gri h.1 h.2; exact⟨c,e,h1,h2⟩
def Par (w:Zj) (k j:Int):Prop:=0≤k∧∃ c,w.Zy[k.toNat]?=some c∧((j=c.Yn∧0≤j)∨j∈c.Ya)
inductive Reach (w:Zj) (a:Int):Int→Prop
 | refl:Reach w a a
 | snoc {k j:Int}:Reach w a k→Par w k j→Reach w a j
theorem Par.lt {w:Zj} (hv:Vn w) {k j:Int} (h:Par w k j):0≤j∧j<k∧k<w.Zy.length:=by
 obtain⟨h0,c,hc,h⟩:=h
 have hk:=(List.getElem?_eq_some_iff.1 hc).1
 have:=hv.cls _ c hc
 rcases h with h|h
 ·rcases this.sup with h'|h' <;> omega
 ·have:=this.ifs j h; omega
theorem Reach.le {w:Zj} (hv:Vn w) {a j:Int} (h:Reach w a j):j≤a:=by
 induction h with
 | refl=>omega
 | snoc _ h ih=>have:=h.lt hv; omega
def UpI (w:Zj) (a i:Int) (l:List Bool):Prop:=l.length=w.Zy.length∧∀ j,Bit l j↔j=a∨∃ k,i<k∧Reach w a k∧Par w k j
theorem inner31 (w:Zj) (c:Y7) (l:List Bool) (hifs:∀ n∈c.Ya,0≤n∧n<l.length) (h8:c.Ya.length≤8):
  Ok (Z7 (Zfx c) Z8 (0,l)) (λq=>q.length=l.length∧∀ j,Bit q j↔j∈c.Ya∨Bit l j):=by
 refine lp (λt=>t.1) c.Ya.length (λt=>t.2.length=l.length∧∀ j,Bit t.2 j↔j∈c.Ya.take t.1.toNat∨Bit l j) (λt hI g0 g1=>?_) (by omega) ⟨rfl,λj=>by simp⟩
 obtain⟨k1,k2⟩:=hI
 unfold Zfx
 refine brD (λhlt=>bd gri λv hv=>bd (ik (by have:=hifs _ hv.1; omega) (by have:=hifs _ hv.1; omega)) λn hn=>bd (la (by omega)) λ_ _=>bd wr λ_ hw=>nx ⟨by rw[List.length_set]; exact k1,λj=>?_⟩) λhge=>dn ⟨k1,λj=>?_⟩
 ·rw[Bit.set hn.2,k2,hw,show (t.1+1).toNat=t.1.toNat+1 by omega,List.take_add_one,hv.2]
  simp only[Option.toList,List.mem_append,List.mem_singleton]
  have:=(hifs _ hv.1).1
  have:j=(n:Int)↔j=v:=by rw[hn.1]; omega
  rw[this]
  constructor
  ·rintro(h|h|h)
   ·exact .inl (.inr h)
   ·exact .inl (.inl h)
   ·exact .inr h
  ·rintro((h|h)|h)
   ·exact .inr (.inl h)
   ·exact .inl h
   ·exact .inr (.inr h)
 ·have:=k2 j
  rwa [List.take_of_length_le (by omega)] at this
theorem UpI.step {w:Zj} (hv:Vn w) {a i:Int} {l l':List Bool} (h0:0≤i) (h:UpI w a i l) (hi:Bit l i) (hl:l'.length=l.length) (hb:∀ j,Bit l' j↔Par w i j∨Bit l j):UpI w a (i - 1) l':=by
 refine⟨hl.trans h.1,λj=>?_⟩
 have hr:Reach w a i:=by
  rcases (h.2 i).1 hi with e|⟨k,_,hk,hp⟩
  ·rw[e]; exact .refl
  ·exact .snoc hk hp
 rw[hb,h.2]
 constructor
 ·rintro(g|g|⟨k,g1,g2⟩)
  ·exact .inr ⟨i,by omega,hr,g⟩
  ·exact .inl g
  ·exact .inr ⟨k,by omega,g2⟩
 ·rintro(g|⟨k,g1,g2,g3⟩)
  ·exact .inr (.inl g)
  ·by_cases e:k=i
   ·exact .inl (e ▸ g3)
   ·exact .inr (.inr ⟨k,by omega,g2,g3⟩)
theorem Reach.inv {w:Zj} {a j:Int} (h:Reach w a j):j=a∨∃ k,Reach w a k∧Par w k j:=by
 cases h with
 | refl=>exact .inl rfl
 | snoc h g=>exact .inr ⟨_,h,g⟩
theorem UpI.skip {w:Zj} (hv:Vn w) {a i:Int} {l:List Bool} (h:UpI w a i l) (hi: ¬Bit l i):UpI w a (i - 1) l:=by
 refine⟨h.1,λj=>?_⟩
 rw[h.2]
 constructor
 ·rintro(g|⟨k,g1,g2⟩)
  ·exact .inl g
  ·exact .inr ⟨k,by omega,g2⟩
 ·rintro(g|⟨k,g1,g2,g3⟩)
  ·exact .inl g
  ·by_cases e:k=i
   ·subst e
    refine absurd ((h.2 k).2 ?_) hi
    rcases g2.inv with e|⟨m,hm,hp⟩
    ·exact .inl e
    ·exact .inr ⟨m,(hp.lt hv).2.1,hm,hp⟩
   ·exact .inr ⟨k,by omega,g2,g3⟩
theorem l31_ok (w:Zj) (hv:Vn w) (h40:w.Zy.length≤200) (a:Int) (ha:In w a) (l:List Bool) (hl:UpI w a a l):
  Ok (Z7 (Zdn w) Z8 (a,l)) (λq=>q.length=w.Zy.length∧∀ j,Bit q j↔Reach w a j):=by
 obtain⟨ha0,ha1⟩:=ha
 refine lp (λt=>a - t.1) (a+1) (λt=>t.1≤a∧ -1≤t.1∧UpI w a t.1 t.2) (λt hI g0 g1=>?_) (by omega) ⟨by dsimp only; omega,by dsimp only; omega,hl⟩
 obtain⟨i0,i1,i2⟩:=hI
 have hle:=i2.1
 unfold Zdn
 refine brD (λhge=>bd ik λn hn=>bd (la (by omega)) λb hb=>?_) λhlt=>dn ⟨hle,λj=>?_⟩
 ·have hbit:Bit t.2 t.1↔b=true:=by
   unfold Bit
   rw[← hn.1,hb.1]
   simp; omega
  refine br! (λe=>bd wr λk hk=>?_) λe=>bd gri λc hc=>?_
  ·subst hk
   exact nx ⟨by dsimp only; omega,by dsimp only; omega,i2.skip hv (by rw[hbit,e]; simp)⟩
  ·have hB:=hbit.2 e
   have hcls:=hv.cls _ c hc.2
   have hpar:∀ j,Par w t.1 j↔(j=c.Yn∧0≤j)∨j∈c.Ya:=λj=>by
    unfold Par
    rw[hc.2]
    constructor
    ·rintro⟨_,d,hd,h⟩
     cases hd; exact h
    ·intro h; exact⟨by omega,c,rfl,h⟩
   have hj:∀ l':List Bool,l'.length=t.2.length→(∀ j,Bit l' j↔(j=c.Yn∧0≤j)∨Bit t.2 j)→Ok (Z7w t c l') (St (λt=>t.1≤a∧ -1≤t.1∧UpI w a t.1 t.2) (λt=>a - t.1) (a+1) (λq=>q.length=w.Zy.length∧∀ j,Bit q j↔Reach w a j) t):=λl' h1 h2=>by
    unfold Z7w
    refine bd (inner31 w c l' (λn hn=>by have:=hcls.ifs n hn; omega) hcls.ifsL) λq hq=>bd wr λk hk=>?_
    subst hk
    refine nx ⟨by dsimp only; omega,by dsimp only; omega,i2.step hv hge hB (hq.1.trans h1) λj=>?_⟩
    rw[hq.2,h2,hpar]
    constructor
    ·rintro(h|h|h)
     ·exact .inl (.inr h)
     ·exact .inl (.inl h)
     ·exact .inr h
    ·rintro((h|h)|h)
     ·exact .inr (.inl h)
     ·exact .inl h
     ·exact .inr (.inr h)
   refine brD (λhs=>bd (ik (by omega) (by rcases hcls.sup with h|h <;> omega)) λm hm=>bd (la hm.2) λ_ _=>hj _ (List.length_set) λj=>?_) λhs=>hj _ rfl λj=>?_
   ·rw[Bit.set hm.2,hm.1]
    constructor
    ·rintro(h|h)
     ·exact .inl (by omega)
     ·exact .inr h
    ·rintro(h|h)
     ·exact .inl (by omega)
     ·exact .inr h
   ·constructor
    ·intro h; exact .inr h
    ·rintro(h|h)
     ·exact absurd h.1 (by omega)
     ·exact h
 ·rw[i2.2]
  constructor
  ·rintro(h|⟨k,_,h,hp⟩)
   ·rw[h]; exact .refl
   ·exact .snoc h hp
  ·intro h
   rcases h.inv with h|⟨k,h,hp⟩
   ·exact .inl h
   ·exact .inr ⟨k,by have:=hp.1; omega,h,hp⟩
end Go.Proofs
namespace Go.Proofs
open Go.Den Go.Tot
theorem tk {α:Type} {l:List α} {i:Int} (h0:0≤i) (h1:i≤l.length):Ok (W.Z22 l i) λr=>r=l.take i.toNat:=⟨_,by unfold W.Z22; rw[if_pos ⟨h0,h1⟩],rfl⟩
theorem Zsc {α:Type} {l:List α} {v:α} (h:l[l.length - 1]?=some v):l=l.take (l.length - 1)++[v] :=by
 have hl:=(List.getElem?_eq_some_iff.1 h).1
 have:l.take (l.length - 1+1)=l.take (l.length - 1)++[v] :=by rw[List.take_add_one,h]; rfl
 rw[← this,show l.length - 1+1=l.length by omega,List.take_length]
structure Me (w:Zj) (a b:Int) (t:(List Int)×(List Bool)):Prop where
 len:(t.2.length:Int)=a+1
 rng:∀ v∈t.1,0≤v∧v≤a∧Reach w a v
 bnd:∀ k,Bit t.2 k→k≠b
 clo:∀ j,(j=a∨∃ k,Bit t.2 k∧Par w k j)→j∈t.1∨j<b∨Bit t.2 j
 cnt:t.1.length+9*t.2.count false≤9*(a.toNat+1)+1
theorem count_set {l:List Bool} {n:Nat} (h:l[n]?=some false):(l.set n true).count false+1=l.count false:=by
 have hl:=(List.getElem?_eq_some_iff.1 h).1
 have hg:l[n]=false:=(List.getElem?_eq_some_iff.1 h).2
 have hp:0<l.count false:=List.count_pos_iff.2 (hg ▸ List.getElem_mem hl)
 rw[List.count_set hl,hg]
 simp
 omega
theorem Me.drop {w:Zj} {a b v:Int} {t:(List Int)×(List Bool)} (h:Me w a b t) (hl:t.1[t.1.length - 1]?=some v) (hv:v<b∨Bit t.2 v):Me w a b (t.1.take (t.1.length - 1),t.2):=by
 have e:=Zsc hl
 refine⟨h.len,λx hx=>h.rng x (List.mem_of_mem_take hx),h.bnd,λj hj=>?_,?_⟩
 ·rcases h.clo j hj with g|g
  ·rw[e] at g
   rcases List.mem_append.1 g with g|g
   ·exact .inl g
   ·rw[List.mem_singleton.1 g]; exact .inr hv
  ·exact .inr g
 ·have:=h.cnt; simp only[List.length_take]; omega
theorem Me.push {w:Zj} (hv:Vn w) {a b v:Int} {t:(List Int)×(List Bool)} {c:Y7} (ha:In w a) (h:Me w a b t) (hl:t.1[t.1.length - 1]?=some v) (hvb:v≠b) (hs:t.2[v.toNat]?=some false) (hc:w.Zy[v.toNat]?=some c)
  {l:List Int} (hl9:l.length≤9) (hm:∀ j,j∈l↔(j=c.Yn∧0≤j)∨j∈c.Ya):Me w a b (t.1.take (t.1.length - 1)++l,t.2.set v.toNat true):=by
 have e:=Zsc hl
 have hve:=h.rng v (by rw[e]; simp)
 have hpar:∀ j,Par w v j↔j∈l:=λj=>by
  unfold Par
  rw[hc,hm]
  constructor
  ·rintro⟨_,d,hd,h⟩
   cases hd; exact h
  ·intro h; exact⟨by omega,c,rfl,h⟩
 have hlt:v.toNat<t.2.length:=by have:=h.len; omega
 have hset:∀ j,Bit (t.2.set v.toNat true) j↔j=v∨Bit t.2 j:=λj=>by rw[Bit.set hlt]; exact⟨λg=>g.imp (λg=>by omega) id,λg=>g.imp (λg=>by omega) id⟩
 have hlen:=h.len
 refine⟨by rw[List.length_set]; exact hlen,λx hx=>?_,λk hk=>?_,λj hj=>?_,?_⟩
 ·rcases List.mem_append.1 hx with hx|hx
  ·exact h.rng x (List.mem_of_mem_take hx)
  ·have hp:=(hpar x).2 hx
   have:=hp.lt hv
   exact⟨by omega,by omega,.snoc hve.2.2 hp⟩
 ·rcases (hset k).1 hk with g|g
  ·omega
  ·exact h.bnd k g
 ·rw[hset]
  have key:(j=a∨∃ k,Bit t.2 k∧Par w k j)∨Par w v j:=by
   rcases hj with hj|⟨k,hk,hp⟩
   ·exact .inl (.inl hj)
   ·rcases (hset k).1 hk with g|g
    ·exact .inr (g ▸ hp)
    ·exact .inl (.inr ⟨k,g,hp⟩)
  rcases key with g|g
  ·rcases h.clo j g with g|g|g
   ·rw[e] at g
    rcases List.mem_append.1 g with g|g
    ·exact .inl (List.mem_append.2 (.inl g))
    ·exact .inr (.inr (.inl (List.mem_singleton.1 g)))
   ·exact .inr (.inl g)
   ·exact .inr (.inr (.inr g))
  ·exact .inl (List.mem_append.2 (.inr ((hpar j).1 g)))
 ·have h1:=h.cnt; have h2:=count_set hs
  have:0<t.1.length:=by have:=(List.getElem?_eq_some_iff.1 hl).1; omega
  simp only[List.length_append,List.length_take]; omega
theorem Me.none {w:Zj} (hv:Vn w) {a b:Int} {t:(List Int)×(List Bool)} (h:Me w a b t) (he:t.1.length=0): ¬Reach w a b:=by
 have hn:t.1=[] :=List.length_eq_zero_iff.1 he
 have key:∀ j,Reach w a j→j<b∨Bit t.2 j:=λj hj=>by
  induction hj with
  | refl=>
   have:=h.clo a (.inl rfl)
   rw[hn] at this
   simpa using this
  | @snoc k j hk hp ih=>
   rcases ih with g|g
   ·have:=hp.lt hv; exact .inl (by omega)
   ·have:=h.clo j (.inr ⟨k,g,hp⟩)
    rw[hn] at this
    simpa using this
 intro hb
 rcases key b hb with g|g
 ·omega
 ·exact h.bnd b g rfl
theorem l28_ok (w:Zj) (hv:Vn w) (a b:Int) (ha:In w a) (hb:In w b):
  Ok (Z7 (Zdb w b) Z8 ([a],List.replicate (a+1).toNat false)) (λq=>match q with|.inl _=>¬Reach w a b|.inr y=>y=true∧Reach w a b):=by
 obtain⟨ha0,ha1⟩:=ha
 have hfew:=hv.few
 refine lm (Me w a b) (λt=>t.1.length+10*t.2.count false) (λt hI=>?_) ⟨?_,?_,?_,?_,?_⟩ ?_
 ·have hcnt:=hI.cnt; have hlen:=hI.len
  unfold Zdb
  refine brD (λhp=>bd wr λn hn=>bd ik λm hm=>bd (la hm.2) λv hvv=>bd wr λn' hn'=>bd (tk (by omega) (by omega)) λr hr=>?_) λhe=>ok (hI.none hv (by omega))
  have em:m=t.1.length - 1:=by omega
  subst em
  have er:r=t.1.take (t.1.length - 1):=by rw[hr,hn']; congr 1; omega
  subst er
  have hrng:=hI.rng v hvv.2
  refine brE (λe=>ok ⟨rfl,e ▸ hrng.2.2⟩) λne=>brD (λhlt=>ok ⟨hI.drop hvv.1 (.inl hlt),by simp only[List.length_take]; omega⟩) λhge=>bd ik λk hk=>bd (la hk.2) λs hs=>br (λe=>ok ⟨hI.drop hvv.1 (.inr ⟨by omega,by rw[← hk.1,hs.1,e]⟩),by simp only[List.length_take]; omega⟩) λe=>?_
  obtain⟨c,ec,mc,ic⟩:=(show In w v from ⟨by omega,by omega⟩).get
  have hcls:=hv.cls _ c ic
  have hi8:=hcls.ifsL
  have hs':t.2[v.toNat]?=some false:=by rw[← hk.1,hs.1,e]
  have hcs:=count_set hs'
  unfold j70x3
  rw[ec]
  refine bd ik λk' hk'=>bd (la hk'.2) λ_ _=>bs (brD (λhsup=>bd (gk (by simp only[List.length_append,List.length_take,List.length_cons,List.length_nil]; omega) (by simp only[List.length_append,List.length_take,List.length_cons,List.length_nil]; omega)) λ_ _=>bs (bd (gk (by simp only[List.length_append,List.length_take,List.length_cons,List.length_nil]; omega) (by simp only[List.length_append,List.length_take,List.length_cons,List.length_nil]; omega)) λ_ _=>ok ⟨?_,?_⟩)) λhsup=>bs (bd (gk (by simp only[List.length_append,List.length_take]; omega) (by simp only[List.length_append,List.length_take]; omega)) λ_ _=>ok ⟨?_,?_⟩))
  ·rw[List.append_assoc,hk'.1]
   refine hI.push hv ⟨ha0,ha1⟩ hvv.1 ne hs' ic (by simp; omega) λj=>?_
   simp only[List.mem_append,List.mem_singleton]
   constructor
   ·rintro(h|h)
    ·exact .inl ⟨h,by omega⟩
    ·exact .inr h
   ·rintro(h|h)
    ·exact .inl h.1
    ·exact .inr h
  ·rw[hk'.1]; simp only[List.length_append,List.length_take,List.length_cons,List.length_nil]; omega
  ·rw[hk'.1]
   refine hI.push hv ⟨ha0,ha1⟩ hvv.1 ne hs' ic (by omega) λj=>?_
   constructor
   ·intro h; exact .inr h
   ·rintro(h|h)
    ·omega
    ·exact h
  ·rw[hk'.1]; simp only[List.length_append,List.length_take]; omega
 ·simp; omega
 ·intro v hv'
  rw[List.mem_singleton.1 hv']; exact⟨ha0,by omega,.refl⟩
 ·intro k hk; exact absurd hk Bit.rep
 ·rintro j (h|⟨k,hk,_⟩)
  ·exact .inl (by simp[h])
  ·exact absurd hk Bit.rep
 ·simp[List.count_replicate]; omega
 ·simp[List.count_replicate,Z8]; omega
theorem sub_eq (w:Zj) (hv:Vn w) (a b:Int):∃ r,Z91 w a b=some r∧Z4g w a b=some r∧(¬(In w a∧In w b)→r=false):=by
 unfold Z91 Z4g
 rw[Zna,Zna,two_eq]
 by_cases ha:In w a <;> by_cases hb:In w b <;> simp only[ha,hb,decide_true,decide_false,Option.bind,and_self,and_true,and_false,false_and,true_and,Bool.not_true,Bool.not_false,Bool.false_eq_true,if_true,if_false,not_true,not_false_eq_true,false_implies]
 ·obtain⟨c,ec,mc,ic⟩:=hb.get
  have hfew:=hv.few
  obtain⟨ha0,ha1⟩:=id ha
  obtain⟨hb0,hb1⟩:=id hb
  have hcls:=hv.cls _ c ic
  -- both walks
  have hp:Ok (Zds w a b) (λr=>r=true↔Reach w a b):=by
   unfold Zds
   refine bd wr λn hn=>bd (mk (by omega) (by omega) (by omega) (by omega)) λ_ _=>?_
   subst hn
   refine bd (l28_ok w hv a b ha hb) λq hq=>?_
   cases q with
   | inl _=>exact ok ⟨λh=>(by cases h),λh=>absurd h hq⟩
   | inr y=>exact ok ⟨λ_=>hq.2,λ_=>hq.1⟩
  have hr:Ok (Z5c w a b) (λr=>r=true↔Reach w a b):=by
   unfold Z5c
   refine bd (mk (by omega) (by omega) (by omega) (by omega)) λ_ _=>bd (ik (by omega) (by simp; omega)) λn hn=>bd (la hn.2) λ_ _=>bd (l31_ok w hv hv.few a ha _ (And.intro (by simp) λj=>?_)) λq hq=>bd (ik (by omega) (by rw[hq.1]; omega)) λm hm=>bd (la hm.2) λr hr=>ok ?_
   ·rw[Bit.set hn.2]
    constructor
    ·rintro(h|h)
     ·exact .inl (by omega)
     ·exact absurd h Bit.rep
    ·rintro(h|⟨k,hk,hr,_⟩)
     ·exact .inl (by omega)
     ·have:=hr.le hv; omega
   ·rw[← hq.2]
    unfold Bit
    rw[← hm.1,hr.1]
    simp; omega
  unfold j70x1 Zla
  by_cases e:a=b
  ·simp[e]
  ·have e':(a==b)=false:=by simpa using e
   simp only[e',Bool.false_eq_true,if_false]
   rw[ec]
   dsimp only[Option.bind]
   by_cases hn:(c.Xg.Ze==([108,97,110,103,47,79,98,106,101,99,116]:List UInt8))=true
   ·have hL:c.Xj=0:=by
     refine Decidable.byContradiction λh=>?_
     have:=hcls.lang h
     rw[beq_iff_eq.1 hn] at this
     exact absurd this (by decide)
    simp[hn,hL]
   ·simp only[hn,Bool.false_eq_true,if_false]
    obtain⟨r1,q1,q2⟩:=hp
    obtain⟨r2,q3,q4⟩:=hr
    have:r1=r2:=by
     rw[← q4] at q2
     cases r1 <;> cases r2 <;> simp_all
    subst this
    exact⟨r1,q1,by rw[q3]⟩
 all_goals exact⟨_,rfl,rfl,λ_=>rfl⟩
end Go.Proofs
namespace Go.Proofs
open Go.Den Go.Tot
def Ll (out:List Int) (v:Zg):List Int:=if v.Zn=3∧v.f_N≠0∧v.f_N ∉ out then out++[v.f_N] else out
def vtg (l:List Zg):List Int:=l.foldl Ll []
theorem Zy3 (out:List Int) (v:Zg) (n:Int):n∈Ll out v↔n∈out∨(v.Zn=3∧v.f_N≠0∧n=v.f_N):=by
 unfold Ll
 split
 ·rename_i h
  rw[List.mem_append,List.mem_singleton]
  exact⟨λg=>g.imp id λe=>⟨h.1,h.2.1,e⟩,λg=>g.imp id λe=>e.2.2⟩
 ·rename_i h
  refine⟨.inl,λg=>g.elim id λ⟨a,b,c⟩=>?_⟩
  by_cases hm:v.f_N∈out
  ·rw[c]; exact hm
  ·exact absurd ⟨a,b,hm⟩ h
theorem Zno:∀ (l:List Zg) (out:List Int) (n:Int),n∈l.foldl Ll out↔n∈out∨∃ v∈l,v.Zn=3∧v.f_N≠0∧n=v.f_N
 | [],out,n=>by simp
 | v::l,out,n=>by
  rw[List.foldl_cons,Zno l,Zy3]
  simp only[List.mem_cons,exists_eq_or_imp,or_assoc]
theorem Zvo (l:List Zg) (n:Int):n∈vtg l↔∃ v∈l,v.Zn=3∧v.f_N≠0∧n=v.f_N:=by
 unfold vtg; rw[Zno]; simp
theorem Zq0:∀ (l:List Zg) (out:List Int),out.Nodup→(l.foldl Ll out).Nodup
 | [],out,h=>h
 | v :: l,out,h=>by
  rw[List.foldl_cons]
  refine Zq0 l _ ?_
  unfold Ll
  split
  ·rename_i hc
   refine List.nodup_append.2 ⟨h,by simp,λa ha b hb=>?_⟩
   rw[List.mem_singleton.1 hb]
   exact λe=>hc.2.2 (e ▸ ha)
  ·exact h
theorem Y0t (l:List Zg):(vtg l).Nodup:=Zq0 l [] List.nodup_nil
def Vm (m:Z4) (n:Int):Option Zl:=if 1≤n then (m.Z2[(n - 1).toNat]?).bind λo=>if o.Zn=0 then none else some o else none
def IsO (m:Z4) (n:Int):Prop:=∃ o,Vm m n=some o
def U2 (m:Z4) (n:Int):Prop:=n=0∨IsO m n
def Wj (m:Z4) (v:Zg):Prop:=v.Zn=3→U2 m v.f_N
theorem Jb {m:Z4} {n:Int} {o:Zl}:Vm m n=some o↔1≤n∧m.Z2[(n - 1).toNat]?=some o∧o.Zn≠0:=by
 unfold Vm
 by_cases h:1≤n
 ·rw[if_pos h]
  cases hg:m.Z2[(n - 1).toNat]? with
  | none=>simp
  | some o'=>
   simp only[Option.bind_some]
   by_cases hk:o'.Zn=0
   ·rw[if_pos hk]; simp
    intro _ e; subst e; exact hk
   ·rw[if_neg hk]; simp
    exact⟨λe=>⟨h,e,e ▸ hk⟩,λe=>e.2.1⟩
 ·rw[if_neg h]; simp; intro h'; omega
theorem IsO.range {m:Z4} {n:Int} (h:IsO m n):1≤n∧n≤m.Z2.length:=by
 obtain⟨o,h⟩:=h
 obtain⟨h1,h2,_⟩:=Jb.1 h
 have:=(List.getElem?_eq_some_iff.1 h2).1
 omega
def lkp (l:List Xn) (s:List UInt8):Option Int:=(l.find? λx=>x.Xj==0&&x.Ze==s).map (·.Zq)
def subB (w:Zj) (a b:Int):Bool:=(Z4g w a b).getD false
def Jj (w:Zj) (c:Int) (s:List UInt8):Bool:=match lkp w.X1 s with|some k=>subB w c k|none=>false
def Z9c:List UInt8:=[108,97,110,103,47,83,111,102,116,82,101,102,101,114,101,110,99,101]
def Zdr:List UInt8:=[108,97,110,103,47,87,101,97,107,82,101,102,101,114,101,110,99,101]
def Z9l:List UInt8:=[108,97,110,103,47,80,104,97,110,116,111,109,82,101,102,101,114,101,110,99,101]
def Jq (w:Zj) (c:Int):Int:=if Jj w c Z9c then 3 else if Jj w c Zdr then 2 else if Jj w c Z9l then 1 else 0
theorem strC_le (w:Zj) (c:Int):0≤Jq w c∧Jq w c≤3:=by unfold Jq; split <;> (try split) <;> (try split) <;> omega
def Jm (w:Zj) (o:Zl):Int:=if o.Zn=1 then Jq w o.Zv.Zq else 0
theorem Zlg (w:Zj) (o:Zl):0≤Jm w o∧Jm w o≤3:=by unfold Jm; split; exact strC_le _ _; omega
def refJ (w:Zj) (o:Zl):List Int:=vtg (o.Yj.drop (if 0<Jm w o then 1 else 0))
def toJ (w:Zj) (o:Zl):Int:=if Jm w o=0 then 0 else match o.Yj with|v::_=>if v.Zn=3 then v.f_N else 0|[] =>0
def V3 (m:Z4) (n:Int):Int:=match Vm m n with|some o=>Jm m.Y1 o|none=>0
def V8 (m:Z4) (n:Int):List Int:=match Vm m n with|some o=>refJ m.Y1 o|none=>[]
def toO (m:Z4) (n:Int):Int:=match Vm m n with|some o=>toJ m.Y1 o|none=>0
def mkO (s:List Bool) (n:Int):List Bool:=if 1≤n∧n≤s.length then s.set (n - 1).toNat true else s
def M5 (s:List Bool) (v:Zg):List Bool:=if v.Zn=3 then mkO s v.f_N else s
def mkV (s:List Bool) (l:List Zg):List Bool:=l.foldl M5 s
def mkA (s:List Bool) (a:Q9):List Bool:=mkV (mkV (mkO s a.Vp) a.Zs) a.Zw
def mkT (s:List Bool) (t:Yu):List Bool:=t.Yx.foldl mkA (mkV (mkO (mkO (mkO s t.Xf) t.Qx) t.Vf) [t.Qm])
def marks (m:Z4):List Bool:=m.Xc.foldl (λs x=>mkO s x.Xf) (m.X7.foldl (λs r=>mkV s r.Qu) (m.Zz.foldl mkT (List.replicate m.Z2.length false)))
def Wt (o:Zl):Bool:=o.Qw !=0||decide (0<o.Q7.length)
def Qz:List Bool→List Zl→Int→List Int
 | b::s,o::l,i=>if b||Wt o then i::Qz s l (i+1) else Qz s l (i+1)
 | _,_,_=>[]
def Qy (m:Z4):List Int:=Qz (marks m) m.Z2 1
theorem Zgw:∀ (s:List Bool) (l:List Zl) (i n:Int),n∈Qz s l i↔i≤n∧∃ b o,s[(n - i).toNat]?=some b∧l[(n - i).toNat]?=some o∧(b||Wt o)=true
 | [],l,i,n=>by simp[Qz]
 | b::s,[],i,n=>by simp[Qz]
 | b :: s,o::l,i,n=>by
  have ih:=Zgw s l (i+1) n
  have hz:∀ h:i+1≤n,(n - i).toNat=(n - (i+1)).toNat+1:=λh=>by omega
  unfold Qz
  by_cases hn:n=i
  ·subst hn
   rw[show (n - n).toNat=0 by omega]
   have hno:n ∉ Qz s l (n+1):=λh=>by have:=(ih.1 h).1; omega
   simp only[List.getElem?_cons_zero,Option.some.injEq]
   by_cases hc:(b||Wt o)=true
   ·rw[if_pos hc]
    exact⟨λ_=>⟨Int.le_refl _,b,o,rfl,rfl,hc⟩,λ_=>List.mem_cons_self⟩
   ·rw[if_neg hc]
    exact⟨λh=>absurd h hno,λ⟨_,b',o',e1,e2,e3⟩=>absurd (by rw[e1,e2]; exact e3) hc⟩
  ·have hmem:(n∈if (b||Wt o)=true then i::Qz s l (i+1) else Qz s l (i+1))↔n∈Qz s l (i+1):=by
    split
    ·rw[List.mem_cons]; exact⟨λh=>h.resolve_left hn,.inr⟩
    ·exact Iff.rfl
   rw[hmem,ih]
   constructor
   ·rintro⟨h,b',o',e1,e2,e3⟩
    refine⟨by omega,b',o',?_,?_,e3⟩
    ·rw[hz h,List.getElem?_cons_succ]; exact e1
    ·rw[hz h,List.getElem?_cons_succ]; exact e2
   ·rintro⟨h,b',o',e1,e2,e3⟩
    have h':i+1≤n:=by omega
    rw[hz h',List.getElem?_cons_succ] at e1 e2
    exact⟨h',b',o',e1,e2,e3⟩
theorem Zhb:∀ (s:List Bool) (l:List Zl) (i:Int),(Qz s l i).Pairwise (· < ·)
 | [],l,i=>by simp[Qz]
 | b::s,[],i=>by simp[Qz]
 | b :: s,o::l,i=>by
  have ih:=Zhb s l (i+1)
  unfold Qz
  split
  ·refine List.pairwise_cons.2 ⟨λn hn=>?_,ih⟩
   have:=((Zgw s l (i+1) n).1 hn).1
   omega
  ·exact ih
theorem Vb (s:List Bool) (n:Int):(mkO s n).length=s.length:=by unfold mkO; split <;> simp
theorem mkO_bit (s:List Bool) (n x:Int):Bit (mkO s n) x↔Bit s x∨(x=n - 1∧1≤n∧n≤s.length):=by
 unfold mkO
 split
 ·rename_i h
  rw[Bit.set (by omega)]
  constructor
  ·rintro(e|e)
   ·exact .inr ⟨by omega,h⟩
   ·exact .inl e
  ·rintro(e|e)
   ·exact .inr e
   ·exact .inl (by omega)
 ·rename_i h
  exact⟨.inl,λe=>e.elim id λe=>absurd e.2 h⟩
structure MkS (f:List Bool→List Bool) (P:Int→Prop):Prop where
 len:∀ s,(f s).length=s.length
 bit:∀ s x,Bit (f s) x↔Bit s x∨(P (x+1)∧1≤x+1∧x+1≤s.length)
theorem MkS.id:MkS (λs=>s) λ_=>False:=⟨λ_=>rfl,λs x=>by simp⟩
theorem MkS.one (n:Int):MkS (λs=>mkO s n) λx=>x=n:=⟨λs=>Vb s n,λs x=>by
 rw[mkO_bit]
 constructor <;> rintro(e|e)
 ·exact .inl e
 ·exact .inr ⟨by omega,by omega,by omega⟩
 ·exact .inl e
 ·exact .inr ⟨by omega,by omega,by omega⟩⟩
theorem MkS.iff {f:List Bool→List Bool} {P P':Int→Prop} (h:MkS f P) (e:∀ x,P x↔P' x):MkS f P':=⟨h.len,λs x=>by rw[h.bit,e]⟩
theorem MkS.comp {f f':List Bool→List Bool} {P P':Int→Prop} (h:MkS f P) (h':MkS f' P'):MkS (λs=>f' (f s)) λx=>P x∨P' x:=⟨λs=>by rw[h'.len,h.len],λs x=>by
 rw[h'.bit,h.bit,h.len]
 constructor
 ·rintro((e|e)|e)
  ·exact .inl e
  ·exact .inr ⟨.inl e.1,e.2⟩
  ·exact .inr ⟨.inr e.1,e.2⟩
 ·rintro(e|⟨e|e,g⟩)
  ·exact .inl (.inl e)
  ·exact .inl (.inr ⟨e,g⟩)
  ·exact .inr ⟨e,g⟩⟩
theorem MkS.fold {α:Type} {f:List Bool→α→List Bool} {P:α→Int→Prop}:∀ (l:List α),(∀ a∈l,MkS (λs=>f s a) (P a))→MkS (λs=>l.foldl f s) λx=>∃ a∈l,P a x
 | [],_=>MkS.id.iff λx=>by simp
 | a::l,h=>((h a (by simp)).comp (MkS.fold l λb hb=>h b (by simp[hb]))).iff λx=>by simp
def Z0y (v:Zg) (x:Int):Prop:=v.Zn=3∧x=v.f_N
theorem MkS.val (v:Zg):MkS (λs=>M5 s v) (Z0y v):=by
 unfold M5 Z0y
 split
 ·rename_i h
  exact(MkS.one v.f_N).iff λx=>by simp[h]
 ·rename_i h
  exact MkS.id.iff λx=>by simp[h]
theorem MkS.vals (l:List Zg):MkS (λs=>mkV s l) λx=>∃ v∈l,Z0y v x:=MkS.fold l λv _=>MkS.val v
def refA (a:Q9) (x:Int):Prop:=x=a.Vp∨(∃ v∈a.Zs,Z0y v x)∨∃ v∈a.Zw,Z0y v x
theorem MkS.act (a:Q9):MkS (λs=>mkA s a) (refA a):=(((MkS.one a.Vp).comp (MkS.vals a.Zs)).comp (MkS.vals a.Zw)).iff λx=>by unfold refA; rw[or_assoc]
def refT (t:Yu) (x:Int):Prop:=x=t.Xf∨x=t.Qx∨x=t.Vf∨Z0y t.Qm x∨∃ a∈t.Yx,refA a x
theorem MkS.thr (t:Yu):MkS (λs=>mkT s t) (refT t):=
 (((((MkS.one t.Xf).comp (MkS.one t.Qx)).comp (MkS.one t.Vf)).comp (MkS.vals [t.Qm])).comp (MkS.fold (f:=mkA) t.Yx λa _=>MkS.act a)).iff λx=>by
  unfold refT
  simp only[List.mem_singleton,exists_eq_left,or_assoc]
def refM (m:Z4) (x:Int):Prop:=(∃ t∈m.Zz,refT t x)∨(∃ r∈m.X7,∃ v∈r.Qu,Z0y v x)∨∃ y∈m.Xc,x=y.Xf
theorem Z5j (m:Z4):(marks m).length=m.Z2.length∧∀ x,Bit (marks m) x↔refM m (x+1)∧1≤x+1∧x+1≤m.Z2.length:=by
 have h:=(((MkS.fold (f:=mkT) m.Zz λt _=>MkS.thr t).comp (MkS.fold (f:=λs r=>mkV s r.Qu) m.X7 λr _=>MkS.vals r.Qu)).comp (MkS.fold (f:=λs x=>mkO s x.Xf) m.Xc λx _=>MkS.one x.Xf)).iff (P':=refM m) λx=>by unfold refM; rw[or_assoc]
 have hl:=h.len (List.replicate m.Z2.length false)
 rw[List.length_replicate] at hl
 refine⟨hl,λx=>?_⟩
 have hb:=h.bit (List.replicate m.Z2.length false) x
 rw[List.length_replicate] at hb
 refine Iff.trans hb ⟨λg=>g.elim (λg=>(Bit.rep g).elim) id,.inr⟩
theorem Z40 (m:Z4) (n:Int):n∈Qy m↔1≤n∧∃ o,m.Z2[(n - 1).toNat]?=some o∧(refM m n∨Wt o=true):=by
 unfold Qy
 rw[Zgw]
 obtain⟨hl,hb⟩:=Z5j m
 refine and_congr_right λh1=>?_
 have hb':=hb (n - 1)
 rw[show n - 1+1=n by omega] at hb'
 constructor
 ·rintro⟨b,o,e1,e2,e3⟩
  refine⟨o,e2,?_⟩
  rcases Bool.or_eq_true_iff.1 e3 with e|e
  ·subst e
   exact .inl (hb'.1 ⟨by omega,e1⟩).1
  ·exact .inr e
 ·rintro⟨o,e2,e3⟩
  have hlt:=(List.getElem?_eq_some_iff.1 e2).1
  refine⟨(marks m)[(n - 1).toNat],o,List.getElem?_eq_getElem (by omega),e2,?_⟩
  rcases e3 with e|e
  ·have:=(hb'.2 ⟨e,h1,by omega⟩).2
   rw[List.getElem?_eq_getElem (by omega)] at this
   rw[Option.some.inj this]; rfl
  ·rw[e,Bool.or_true]
structure MSz (m:Z4):Prop where
 ini:m.Y1.X1.length≤140737488355328
 thr:m.Zz.length≤140737488355328
 act:∀ t∈m.Zz,t.Yx.length≤140737488355328∧∀ a∈t.Yx,a.Zs.length≤140737488355328∧a.Zw.length≤140737488355328
 ini2:m.X7.length≤140737488355328
 sta:∀ r∈m.X7,r.Qu.length≤140737488355328
 intr:m.Xc.length≤140737488355328
 vals:∀ o∈m.Z2,o.Yj.length≤140737488355328
structure MG (m:Z4):Prop where
 sz:MSz m
 sp:Vn m.Y1
 len:m.Z2.length≤5001
 free:∀ o∈m.Z2,o.Zn=0→Wt o=false
 fval:∀ o∈m.Z2,o.Zn=0→o.Yj=[]
 cls:∀ o∈m.Z2,o.Zn=1→0≤o.Zv.Zq∧o.Zv.Zq<m.Y1.Zy.length
 val:∀ o∈m.Z2,o.Zn≠0→∀ v∈o.Yj,Wj m v
 rt:∀ x,refM m x→U2 m x
def U7 (m:Z4):Gr:={ N:=m.Z2.length,refs:=V8 m,to:=toO m,str:=V3 m,roots:=Qy m }
theorem Z8o {m:Z4} {n:Int} {o:Zl} (h:Vm m n=some o):o∈m.Z2∧o.Zn≠0:=by
 obtain⟨_,h2,h3⟩:=Jb.1 h
 exact⟨List.mem_of_getElem? h2,h3⟩
theorem Zy6 {w:Zj} {o:Zl} {x:Int} (h:x∈refJ w o):x≠0∧∃ v∈o.Yj,v.Zn=3∧x=v.f_N:=by
 obtain⟨v,h1,h2,h3,h4⟩:=(Zvo _ _).1 h
 exact⟨h4 ▸ h3,v,List.mem_of_mem_drop h1,h2,h4⟩
theorem toJ_mem {w:Zj} {o:Zl} (h:toJ w o≠0):∃ v∈o.Yj,v.Zn=3∧toJ w o=v.f_N:=by
 unfold toJ at h ⊢
 split at h
 ·exact absurd rfl h
 ·rename_i hs
  rw[if_neg hs]
  split at h
  ·rename_i v r hv
   split at h
   ·rename_i hk
    rw[hv]
    exact⟨v,by simp,hk,by simp[hk]⟩
   ·exact absurd rfl h
  ·exact absurd rfl h
theorem MG.refs_is {m:Z4} (h:MG m) {n x:Int} (hx:x∈V8 m n):IsO m x:=by
 unfold V8 at hx
 split at hx
 ·rename_i o ho
  obtain⟨h0,v,hv,hk,e⟩:=Zy6 hx
  obtain⟨h1,h2⟩:=Z8o ho
  have:=h.val o h1 h2 v hv hk
  rw[← e] at this
  exact this.resolve_left h0
 ·exact(List.not_mem_nil hx).elim
theorem MG.to_is {m:Z4} (h:MG m) {n:Int} (hx:toO m n≠0):IsO m (toO m n):=by
 unfold toO at hx ⊢
 split at hx
 ·rename_i o ho
  obtain⟨v,hv,hk,e⟩:=toJ_mem hx
  obtain⟨h1,h2⟩:=Z8o ho
  have:=h.val o h1 h2 v hv hk
  rw[← e] at this
  exact this.resolve_left hx
 ·exact absurd rfl hx
theorem MG.root_is {m:Z4} (h:MG m) {n:Int} (hn:n∈Qy m):IsO m n:=by
 obtain⟨h1,o,h2,h3⟩:=(Z40 m n).1 hn
 rcases h3 with h3|h3
 ·exact(h.rt n h3).resolve_left (by omega)
 ·refine⟨o,Jb.2 ⟨h1,h2,λe=>?_⟩⟩
  rw[h.free o (List.mem_of_getElem? h2) e] at h3
  cases h3
theorem Ztp (m:Z4) (n:Int):0≤V3 m n∧V3 m n≤3:=by
 unfold V3
 split
 ·exact Zlg _ _
 ·omega
theorem MG.ok {m:Z4} (h:MG m):(U7 m).Ok where
 roots:=λn hn=>(h.root_is hn).range
 refs:=λn _ _ x hx=>(h.refs_is hx).range
 to:=λn _ _=>by
  by_cases h0:toO m n=0
  ·exact .inl h0
  ·exact .inr (h.to_is h0).range
 str:=Ztp m
 weak:=λn hn=>by
  show toO m n=0
  have hn':V3 m n=0:=hn
  unfold toO
  unfold V3 at hn'
  split
  ·rename_i o ho
   rw[ho] at hn'
   unfold toJ
   rw[if_pos hn']
  ·rfl
theorem MG.re_is {m:Z4} (h:MG m) {k n:Int} (hr:(U7 m).Re k n):IsO m n:=by
 induction hr with
 | root hn=>exact h.root_is hn
 | ref _ hm _=>exact h.refs_is hm
 | to _ _ h0 _=>exact h.to_is h0
theorem MG.refs_len {m:Z4} (h:MG m) (n:Int):(V8 m n).length≤m.Z2.length:=by
 refine Z7b _ _ ?_ λx hx=>(h.refs_is hx).range
 unfold V8
 split
 ·exact Y0t _
 ·exact List.nodup_nil
theorem MG.roots_len {m:Z4} (h:MG m):(Qy m).length≤m.Z2.length:=by
 refine Z7b _ _ ?_ λx hx=>(h.root_is hx).range
 exact(Zhb _ _ _).imp λh=>by omega
end Go.Proofs
namespace Go.Proofs
open Go.Den Go.Tot
theorem lev_ext {N:Nat} {l l':List Int} (h:l.length=N) (h':l'.length=N) (e:∀ n:Int,1≤n→n≤N→l.getD (n - 1).toNat 0=l'.getD (n - 1).toNat 0):l=l':=by
 refine List.ext_getElem (by omega) λi h1 h2=>?_
 have:=e (i+1) (by omega) (by omega)
 rw[show ((i:Int)+1 - 1).toNat=i by omega] at this
 simpa [List.getD_eq_getElem?_getD,h1,h2] using this
end Go.Proofs
namespace Go.Den
namespace W
open Go.RowKit
variable {P:Program} {Γ:Ctx} {σ:S}
end W
end Go.Den
namespace Go.Proofs
open Go.Den Go.Den.W Go.RowKit
def ndR (m:Z4) (n:Int):Option (List Int×Int×Int):=
 (Z8k m n).bind λl=>(Z1e m n).bind λs=>(Z4z m n).bind λr=>some (l,r,s)
def Z3o (m:Z4) (k:Int):Option (List Bool):=
 (W1 1 (m.Z2.length:Int) (m.Z2.length:Int)).bind λ_=>(Z2g m).bind λrs=>Z7 (rchF (ndR m) k) Z8 (0,List.replicate (m.Z2.length:Int).toNat false,rs)
end Go.Proofs
