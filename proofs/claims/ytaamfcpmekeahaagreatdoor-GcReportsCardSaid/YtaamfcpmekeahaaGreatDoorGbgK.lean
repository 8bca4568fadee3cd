/-
  Objects, what they refer to: the program and the reference. No condition.
-/
import Derived.Test.YtaamfcpmekeahaaGreatDoorGbgX
import Derived.Test.YtaamfcpmekeahaaGreatDoorGbg12
import Derived.Test.YtaamfcpmekeahaaGreatDoorRows
import Derived.Test.YtaamfcpmekeahaaGreatDoorDenClaim
import Derived.LaidMore
import Derived.MakeChecks
import Derived.OpenShut
import Derived.FnData
import Derived.ChangeArms
set_option linter.unusedVariables false
set_option linter.unusedSimpArgs false
namespace Go.Proofs
open Go.Den Go.Tot
theorem Zjm (l:List Int) (x:Int) (s:l.length≤140737488355328):Z5l l x=some (decide (x∈l)):=by
 have h:Ok (Zgq l x) λi=>(0≤i↔x∈l):=by
  unfold Zgq
  refine bd (P:=λq:Unit⊕Int=>match q with|.inl _=>x ∉ l|.inr i=>0≤i∧x∈l) (lp (λt:Int=>t) l.length (λt=>∀ (j:Nat) v,(j:Int)<t→l[j]?=some v→v≠x) (λt f g u=>?_) (by omega) (λj v b _=>by omega) (by omega) (by omega)) λq hq=>?_
  ·unfold l47x1
   refine brD (λc=>bd (gri g c) λv ⟨m,d⟩=>brE (λe=>dn ⟨g,e ▸ m⟩) λne=>bd wr λk n=>?_) λo=>dn λp=>?_
   ·subst n
    refine nx (λj r b a=>?_) (by omega) (by omega)
    by_cases h:(j:Int)<t
    ·exact f j r h a
    ·have:j=t.toNat:=by omega
     subst this
     rw[d] at a; cases a; exact Ne.symm ne
   ·obtain⟨j,b⟩:=List.mem_iff_getElem?.1 p
    have:=(List.getElem?_eq_some_iff.1 b).1
    exact f j x (by omega) b rfl
  ·cases q with
   | inl _=>exact ok ⟨λh=>absurd h (by decide),λh=>absurd h hq⟩
   | inr i=>exact ok ⟨λ_=>hq.2,λ_=>hq.1⟩
 unfold Z5l
 obtain⟨i,e,d⟩:=h
 rw[e]
 show some (decide (i≥0))=_
 congr 1
 exact decide_eq_decide.2 d
theorem in_eq (l:List Int) (x:Int) (f:l.length≤140737488355328):Zdl l x=some (decide (x∈l)):=by
 have h:Ok (Z8 (Z9q l x) Zb 0) λq=>(q=.inl ()∧∀ v∈l,v≠x)∨(q=.inr true∧∃ v∈l,¬v≠x):=by
  refine Go.Tot.allP (l:=l) (p:=λv=>v≠x) (y:=(Sum.inr true:Unit⊕Bool)) (z:=Sum.inl ()) (by omega) (λt v g a i j e=>?_) ?_
  ·unfold Z9q
   rw[if_pos (by simpa using a),e]
   refine bs (brE (λe=>ok (.inr ⟨rfl,λh=>h e⟩)) λne=>bd wr λk b=>?_)
   subst b
   exact ok (.inl ⟨rfl,ne⟩)
  ·unfold Z9q
   exact brD (λh=>absurd h (by omega)) λ_=>ok rfl
 unfold Zdl
 obtain⟨q,e,hq⟩:=h
 rw[e]
 rcases hq with ⟨rfl,h⟩|⟨rfl,v,c,h⟩
 ·show some false=_
  rw[decide_eq_false λd=>h x d rfl]
 ·show some true=_
  rw[decide_eq_true (by have:=Decidable.not_not.1 h; exact this ▸ c)]
def InN (N:Nat) (l:List Zf):Prop:=∀ v∈l,v.Zj=3→v.f_N≠0→1≤v.f_N∧v.f_N≤N
def NdI (N:Nat) (s:List Int):Prop:=s.Nodup∧∀ x∈s,1≤x∧x≤N
theorem NdI.len {N:Nat} {s:List Int} (h:NdI N s):s.length≤N:=Z8u N s h.1 h.2
theorem NdI.step {N:Nat} {s:List Int} {v:Zf} (h:NdI N s) (f:v.Zj=3→v.f_N≠0→1≤v.f_N∧v.f_N≤N):NdI N (Kg s v):=by
 unfold Kg
 split
 ·rename_i d
  refine⟨List.nodup_append.2 ⟨h.1,by simp,λa g b i=>?_⟩,λx c=>?_⟩
  ·rw[List.mem_singleton.1 i]; exact λe=>d.2.2 (e ▸ g)
  ·rcases List.mem_append.1 c with c|c
   ·exact h.2 x c
   ·rw[List.mem_singleton.1 c]; exact f d.1 d.2.1
 ·exact h
theorem wrS {i:Int} (a:0≤i) (b:i≤140737488355328):IntKind.wrap .i64 (i+1)=i+1:=J0 (by omega) (by omega)
theorem gk8 {N:Nat} {s:List Int} (h:NdI N s) (hN:N≤5001) (x:Int):Yp 8 (s++[x]).length=some ():=by
 have:=h.len
 unfold Yp
 rw[if_pos (by simp; omega)]
theorem Y77 {N:Nat} (hN:N≤5001) (l:List Zf) (h:InN N l) (j:l.length≤140737488355328):Zeh l=some (vtg l):=by
 unfold Zeh
 have:=Kq (l:=l) (f:=Z96 l) (λt s=>(t,s)) Kg id (NdI N) (λs x hs d=>hs.step (h x d)) (λt s x g i hs d e=>?_) (λs hs=>?_) (s0:=[]) ⟨List.nodup_nil,λx d=>(List.not_mem_nil d).elim⟩ (by omega)
 ·rw[this]; rfl
 ·unfold Z96
  dsimp only
  rw[if_pos (by simpa using i),e]
  simp only[Option.bind_some]
  have hsl:s.length≤140737488355328:=by have:=hs.len; omega
  rw[wrS g (by omega),Zjm s _ hsl]
  unfold Kg
  by_cases a:x.Zj=3
  ·by_cases b:x.f_N=0
   ·simp[a,b]
   ·by_cases c:x.f_N∈s
    ·simp[a,b,c]
    ·simp only[a,b,c,beq_self_eq_true,if_true,bne_iff_ne,ne_eq,not_false_eq_true,and_self,decide_false,Bool.not_false,Option.bind_some]
     unfold j57x1
     rw[gk8 hs hN]
     simp only[Option.bind_some]
     rw[wrS g (by omega)]
  ·simp[a]
 ·unfold Z96
  dsimp only
  rw[if_neg (by simp)]; rfl
theorem Zu7 {N:Nat} (hN:N≤5001) (g:Zm×Bool) (d:Nat) (j:d≤g.1.Zw.length) (k:InN N g.1.Zw) (n:g.1.Zw.length≤140737488355328):Z1c g d=some (vtg (g.1.Zw.drop d)):=by
 unfold Z1c
 have:=Zy8 (l:=g.1.Zw) (f:=Z1j g) (λt s=>(t,s)) Kg id (NdI N) (λs x hs h=>hs.step (k x h)) (λt s x i m hs h e=>?_) (λs hs=>?_) (g.1.Zw.drop d) (g.1.Zw.take d) [] Zb (by simp) ⟨List.nodup_nil,λx h=>(List.not_mem_nil h).elim⟩ (by simp; unfold Zb; omega)
 ·rw[List.length_take,Nat.min_eq_left j] at this
  rw[this]; rfl
 ·unfold Z1j
  dsimp only
  rw[if_pos (by simpa using m),e]
  simp only[Option.bind_some]
  have hsl:s.length≤140737488355328:=by have:=hs.len; omega
  rw[wrS i (by omega),in_eq s _ hsl]
  unfold Kg
  by_cases a:x.Zj=3
  ·by_cases b:x.f_N=0
   ·simp[a,b]
   ·by_cases c:x.f_N∈s
    ·simp[a,b,c]
    ·simp only[a,b,c,beq_self_eq_true,if_true,bne_iff_ne,ne_eq,not_false_eq_true,and_self,decide_false,Bool.not_false,Option.bind_some]
     unfold j81x2
     rw[gk8 hs hN]
     simp only[Option.bind_some]
     rw[wrS i (by omega)]
  ·simp[a]
 ·unfold Z1j
  dsimp only
  rw[if_neg (by simp)]; rfl
def zeroO:Zm:={ Zj:=0,Zt:={ Xl:=0,Yw:=0,Zy:=0 },Zw:=[],Yy:=[],Xs:=0,Xe:=0,Xk:=[] }
def objP (m:Z6) (n:Int):Zm×Bool:=match Q9 m n with|some o=>(o,true)|none=>(zeroO,false)
theorem Zja (m:Z6) (n:Int) (hH:m.Z7.length≤140737488355328):Uk m n=some (Q9 m n).isSome:=by
 unfold Uk Q9
 by_cases a:n≥1
 ·by_cases d:n≤(m.Z7.length:Int)
  ·have c:(n - 1).toNat<m.Z7.length:=by omega
   rw[if_pos (by simpa using a),if_pos (by simpa using d),if_pos (show 1≤n from a)]
   rw[Option.bind_some,J0 (by omega) (by omega)]
   unfold Z4
   rw[if_pos (by omega),List.getElem?_eq_getElem c]
   simp only[Option.bind_some]
   by_cases b:m.Z7[(n - 1).toNat].Zj=0
   ·rw[if_pos b,b]; rfl
   ·rw[if_neg b,show (m.Z7[(n - 1).toNat].Zj !=0)=true from bne_iff_ne.2 b]; rfl
  ·rw[if_pos (by simpa using a),if_neg (by simpa using d),if_pos (show 1≤n from a),List.getElem?_eq_none (by omega)]; rfl
 ·rw[if_neg (by simpa using a),if_neg (show ¬1≤n from a)]; rfl
theorem Y1z (m:Z6) (n:Int):Zob m n=Uk m n:=rfl
theorem Zrx (m:Z6) (n:Int) (hH:m.Z7.length≤140737488355328):Z1i m n=some (objP m n)∧Z29 m n=some (objP m n):=by
 have key:Z1i m n=some (objP m n):=by
  unfold Z1i objP
  rw[Y1z,Zja m n hH]
  cases b:Q9 m n with
  | none=>rfl
  | some o=>
   obtain⟨d,a,e⟩:=J9.1 b
   have c:=(List.getElem?_eq_some_iff.1 a).1
   simp only[Option.isSome_some,Option.bind_some,Bool.not_true,Bool.false_eq_true,if_false]
   rw[J0 (by omega) (by omega)]
   unfold Z4
   rw[if_pos (by omega),a]; rfl
 refine⟨key,?_⟩
 rw[← key]
 rfl
theorem Y6r (o:Zm) (k:Int) (d:0≤k):Zbg o k=some (o.Zw.drop (if 0<k then 1 else 0),if k=0 then 0 else match o.Zw with|v::_=>if v.Zj=3 then v.f_N else 0|[] =>0):=by
 unfold Zbg
 by_cases h:k=0
 ·subst h; simp
 ·rw[if_neg (by simpa using h),if_neg h,if_pos (show 0<k by omega)]
  cases b:o.Zw with
  | nil=>simp
  | cons v r=>
   rw[if_neg (by simp; omega)]
   unfold j56x1
   rw[b]
   have hs:sub (v::r) 1 ((v::r).length:Int)=some r:=by
    unfold sub
    rw[if_pos (by simp; omega)]
    simp
   have c:Z4 (v::r) 0=some v:=rfl
   rw[c,hs]
   simp only[Option.bind_some,List.drop_succ_cons,List.drop_zero]
   by_cases a:v.Zj=3
   ·simp[a]
   ·simp[a]
end Go.Proofs
namespace Go.Proofs
open Go.Den Go.Tot
def lkR (l:List Q2) (s:List UInt8):Int×Bool:=match lkp l s with|some c=>(c,true)|none=>(0,false)
theorem Y2l {l:List Q2} {s:List UInt8} (h:∀ x∈l,¬(x.Xn=0∧x.Zo=s)):lkp l s=none:=by
 unfold lkp
 rw[List.find?_eq_none.2 λx a=>by have:=h x a; simpa using this]; rfl
theorem lkp_at {l:List Q2} {s:List UInt8} {j:Nat} {x:Q2} (c:l[j]?=some x) (d:x.Xn=0∧x.Zo=s) (h:∀ (i:Nat) y,i<j→l[i]?=some y→ ¬(y.Xn=0∧y.Zo=s)):lkp l s=some x.Zy:=by
 unfold lkp
 have:l.find? (λx=>x.Xn==0&&x.Zo==s)=some x:=by
  refine List.find?_eq_some_iff_getElem.2 ⟨by simp[d.1,d.2],j,(List.getElem?_eq_some_iff.1 c).1,(List.getElem?_eq_some_iff.1 c).2,λi e=>?_⟩
  have f:=(List.getElem?_eq_some_iff.1 c).1
  have:=h i l[i] e (List.getElem?_eq_getElem _)
  simp only[Bool.not_eq_true',Bool.and_eq_false_iff,beq_eq_false_iff_ne,ne_eq]
  by_cases a:l[i].Xn=0
  ·exact .inr λb=>this ⟨a,b⟩
  ·exact .inl a
 rw[this]; rfl
theorem Zu9 {l:List Q2} {s:List UInt8} (u:l.length≤140737488355328) {f:Int→Option (Ctl Int (Unit⊕(Int×Bool)))}
  (h:∀ t x,0≤t→t<(l.length:Int)→Z4 l t=some x→f t=some (if x.Xn=0∧x.Zo=s then .done (.inr (x.Zy,true)) else .next (t+1))) (he:f l.length=some (.done (.inl ()))):
  (Z8 f Zb 0).bind (λq=>match q with|.inl _=>some (0,false)|.inr y=>some y)=some (lkR l s):=by
 have key:Ok (Z8 f Zb 0) λq=>(match q with|.inl _=>some ((0:Int),false)|.inr y=>some y)=some (lkR l s):=by
  refine lp (λt:Int=>t) l.length (λt=>∀ (i:Nat) y,(i:Int)<t→l[i]?=some y→ ¬(y.Xn=0∧y.Zo=s)) (λt c m v=>?_) (by omega) (λi y d _=>by omega) (by omega) (by omega)
  rcases Int.lt_or_le t l.length with a|p
  ·obtain⟨x,e,n,d⟩:=gri (l:=l) m a
   rw[h t x m a e]
   by_cases b:x.Xn=0∧x.Zo=s
   ·rw[if_pos b]
    refine dn ?_
    unfold lkR
    rw[lkp_at d b λi y g=>c i y (by omega)]
   ·rw[if_neg b]
    refine nx (λi y g k=>?_) (by omega) (by omega)
    by_cases r:(i:Int)<t
    ·exact c i y r k
    ·have:i=t.toNat:=by omega
     subst this
     rw[d] at k; cases k; exact b
  ·have:t=l.length:=by omega
   subst this
   rw[he]
   refine dn ?_
   unfold lkR
   rw[Y2l λx n=>?_]
   obtain⟨j,o⟩:=List.mem_iff_getElem?.1 n
   have:=(List.getElem?_eq_some_iff.1 o).1
   exact c j x (by omega) o
 obtain⟨q,e,hq⟩:=key
 rw[e]; exact hq
theorem foundP (w:Zq) (s:List UInt8) (c:w.Yr.length≤140737488355328):Z6d w 0 s=some (lkR w.Yr s):=by
 unfold Z6d
 refine Zu9 c (λt x d f e=>?_) ?_
 ·unfold Zgu
  rw[if_pos (by simpa using f),e]
  simp only[Option.bind_some]
  rw[wrS d (by omega)]
  by_cases a:x.Xn=0
  ·by_cases b:x.Zo=s
   ·simp[a,b]
   ·simp[a,b]
  ·simp[a]
 ·unfold Zgu
  rw[if_neg (by simp)]
theorem foundR (w:Zq) (s:List UInt8) (c:w.Yr.length≤140737488355328):Z2c w 0 s=some (lkR w.Yr s):=by
 unfold Z2c
 have:Z2v w 0 s=some (lkR w.Yr s):=by
  unfold Z2v
  refine Zu9 c (λt x d f e=>?_) ?_
  ·unfold Z97
   rw[if_pos (by simpa using f),e]
   simp only[Option.bind_some]
   rw[wrS d (by omega)]
   by_cases a:x.Xn=0
   ·by_cases b:x.Zo=s
    ·simp[a,b]
    ·simp[a,b]
   ·simp[a]
  ·unfold Z97
   rw[if_neg (by simp)]
 rw[this]; rfl
theorem subP (w:Zq) (c:Vz w) (a b:Int):Z7g w a b=some (subB w a b)∧Z41 w a b=some (subB w a b):=by
 obtain⟨r,d,e,_⟩:=sub_eq w c a b
 unfold subB
 rw[d,e]; exact⟨rfl,rfl⟩
theorem Zo2 (w:Zq) (a:Vz w) (b:w.Yr.length≤140737488355328) (c:Int) (s:List UInt8):Z5q w c s=some (La w c s):=by
 unfold Z5q La
 rw[foundR w s b]
 unfold lkR
 cases lkp w.Yr s with
 | none=>rfl
 | some k=>
  simp only[Option.bind_some,if_true]
  rw[(subP w a c k).2]; rfl
def stK (w:Zq) (t:Int) (c:Int):Int:=if 4≤t∧La w c Zdo=true then 3 else if 3≤t∧La w c Zga=true then 2 else if 2≤t∧La w c Zh2=true then 1 else 0
theorem stK_4 (w:Zq) (c:Int):stK w 4 c=Lh w c:=by unfold stK Lh; simp
def Tbl (w:Zq) (f:Int→Int) (l:List Int):Prop:=l.length=w.Y6.length∧∀ (j:Nat),j<l.length→l[j]?=some (f j)
theorem inner34 {w:Zq} (s:Vz w) {f:Int→Int} {k:Int} {l:List Int} (x:Tbl w f l) {v:Int×Bool}:Ok (Z8 (Z76 (k,l) v w) Zb (0,l)) λq=>Tbl w (λc=>if subB w c v.1=true then k else f c) q:=by
 have u:=s.few
 obtain⟨y,z⟩:=x
 refine lp (λt:Int×List Int=>t.1) l.length (λt=>t.2.length=l.length∧∀ (j:Nat),j<l.length→t.2[j]?=some (if (j:Int)<t.1∧subB w j v.1=true then k else f j)) (λt ⟨b,d⟩ A C=>?_) (by omega) ⟨rfl,λj g=>by dsimp only; rw[if_neg (by omega)]; exact z j g⟩
 unfold Z76
 refine brD (λe=>?_) λm=>dn ⟨b.trans y,λj g=>?_⟩
 ·rw[(subP w s t.1 v.1).1,Option.bind_some]
  refine br (λhs=>bd (ik A (by dsimp only at e; omega)) λn ⟨B,o⟩=>bd (la o) λ_ _=>bd wr λi p=>?_) λhs=>bd wr λi p=>?_
  ·subst p; subst B
   refine nx ⟨by simpa using b,λj g=>?_⟩ (by dsimp only; omega) (by dsimp only at e ⊢; omega)
   dsimp only
   rw[List.getElem?_set]
   by_cases h:t.1.toNat=j
   ·rw[if_pos h,if_pos (by omega)]
    have r:(j:Int)=t.1:=by omega
    rw[r,if_pos ⟨by omega,hs⟩]
   ·rw[if_neg h,d j g]
    congr 1
    by_cases a:(j:Int)<t.1
    ·simp[a,show (j:Int)<t.1+1 by omega]
    ·simp[a,show ¬(j:Int)<t.1+1 by omega]
  ·subst p
   refine nx ⟨b,λj g=>?_⟩ (by dsimp only; omega) (by dsimp only at e ⊢; omega)
   dsimp only
   rw[d j g]
   congr 1
   by_cases h:(j:Int)=t.1
   ·rw[h,hs]; simp
   ·by_cases a:(j:Int)<t.1
    ·simp[a,show (j:Int)<t.1+1 by omega]
    ·simp[a,show ¬(j:Int)<t.1+1 by omega]
 ·dsimp only at m
  rw[d j (by omega)]
  congr 1
  simp[show (j:Int)<t.1 by omega]
theorem Zsy (w:Zq) (p:Vz w) (v:w.Yr.length≤140737488355328):Ok (Z8f w) λq=>Tbl w (Lh w) q:=by
 have r:=p.few
 unfold Z8f
 refine bd mk λ_ _=>?_
 refine bd (P:=λq=>Tbl w (Lh w) q) (lp (λt:Int×List Int=>t.1) 4 (λt=>1≤t.1∧Tbl w (stK w t.1) t.2) (λt ⟨g,d⟩ x y=>?_) (by omega) ⟨by dsimp only; omega,by simp,λj a=>?_⟩) λq hq=>ok hq
 ·obtain⟨k,l⟩:=t
  dsimp only at g d x y
  unfold l52x1
  refine brD (λh=>?_) λi=>dn ?_
  ·dsimp only at h
   have z:k=1∨k=2∨k=3:=by omega
   have main:∀ s:List UInt8,Z4 gl0 k=some s→(∀ c,stK w (k+1) c=if La w c s=true then k else stK w k c)→Ok ((Z4 gl0 (k,l).1).bind λm=>(Z6d w 0 m).bind λf=>
     if (!f.2)=true then ((some (IntKind.wrap .i64 ((k,l).1+(1:Int)))).bind λn=>some (.next (n,(k,l).2))) else
     ((Z8 (Z76 (k,l) f w) Zb (0,(k,l).2)).bind λA=>(some (IntKind.wrap .i64 ((k,l).1+(1:Int)))).bind λo=>some (.next (o,A))))
     (St (λt:Int×List Int=>1≤t.1∧Tbl w (stK w t.1) t.2) (λt=>t.1) 4 (λq:List Int=>Tbl w (Lh w) q) (k,l)):=λs e hs=>by
    dsimp only
    rw[e]
    simp only[Option.bind_some]
    rw[foundP w s v]
    simp only[Option.bind_some]
    unfold lkR
    cases u:lkp w.Yr s with
    | none=>
     simp only[Bool.not_false,if_true]
     rw[wrS (by omega) (by omega)]
     refine nx ⟨by dsimp only; omega,d.1,λj a=>?_⟩
     dsimp only
     rw[d.2 j a,hs]
     unfold La
     rw[u]; rfl
    | some b=>
     simp only[Bool.not_true,Bool.false_eq_true,if_false]
     refine bd (inner34 p d) λq hq=>?_
     rw[wrS (by omega) (by omega)]
     refine nx ⟨by dsimp only; omega,hq.1,λj a=>?_⟩
     dsimp only
     rw[hq.2 j a,hs]
     unfold La
     rw[u]
   rcases z with e|e|e
   ·subst e; exact main Zh2 rfl λc=>by unfold stK; simp
   ·subst e; exact main Zga rfl λc=>by unfold stK; simp
   ·subst e; exact main Zdo rfl λc=>by unfold stK; simp
  ·dsimp only at i ⊢
   have:k=4:=by omega
   subst this
   exact⟨d.1,λj a=>by rw[d.2 j a,stK_4]⟩
 ·dsimp only
  rw[List.getElem?_replicate,if_pos (by simpa using a)]
  unfold stK; simp
theorem Zy5 {w:Zq} {q:List Int} (hq:Tbl w (Lh w) q) (o:Zm) (a:o.Zj=1→0≤o.Zt.Zy∧o.Zt.Zy<w.Y6.length):Z6p q o=some (Wo w o):=by
 unfold Z6p Wo
 by_cases h:o.Zj=1
 ·obtain⟨b,c⟩:=a h
  rw[if_neg (by simpa using h),if_pos h]
  unfold Z4
  rw[if_pos b,hq.2 _ (by rw[hq.1]; omega)]
  rw[show ((o.Zt.Zy.toNat:Nat):Int)=o.Zt.Zy by omega]; rfl
 ·rw[if_pos (by simpa using h),if_neg h]
end Go.Proofs
namespace Go.Proofs
open Go.Den Go.Tot
def InR (N:Nat) (n:Int):Prop:=n=0∨(1≤n∧n≤N)
def InL (N:Nat) (l:List Zf):Prop:=∀ v∈l,v.Zj=3→InR N v.f_N
theorem pObj {s:List Bool} {n:Int} (a:InR s.length n) (hs:s.length≤140737488355328):Ko s n=some (mkO s n):=by
 unfold Ko mkO
 rcases a with e|⟨b,c⟩
 ·subst e
  rw[if_neg (by decide),if_neg (by omega)]
 ·rw[if_pos (by simp; omega),if_pos ⟨b,c⟩,Option.bind_some,J0 (by omega) (by omega)]
  unfold X7
  rw[if_pos (by omega),Option.bind_some,List.getElem?_eq_getElem (by omega)]; rfl
theorem rObj {s:List Bool} {n:Int} (hs:s.length≤140737488355328):Mc s n=some (mkO s n):=by
 unfold Mc mkO
 by_cases a:n≥1
 ·by_cases b:n≤(s.length:Int)
  ·rw[if_pos (by simpa using a),if_pos (by simpa using b),if_pos ⟨a,b⟩]
   unfold j44x1
   rw[Option.bind_some,J0 (by omega) (by omega)]
   unfold X7
   rw[if_pos (by omega),Option.bind_some,List.getElem?_eq_getElem (by omega)]; rfl
  ·rw[if_pos (by simpa using a),if_neg (by simpa using b),if_neg (by omega)]
 ·rw[if_neg (by simpa using a),if_neg (by omega)]
theorem Zwr (s:List Bool) (v:Zf):(Z0j s v).length=s.length:=by unfold Z0j; split; exact Vs _ _; rfl
theorem Z4k (s:List Bool) (l:List Zf):(mkV s l).length=s.length:=(MkS.vals l).len s
theorem Zwz (s:List Bool) (a:Qd):(mkA s a).length=s.length:=(MkS.act a).len s
theorem Zqm (s:List Bool) (t:Xu):(mkT s t).length=s.length:=(MkS.thr t).len s
theorem pVals {N:Nat} {s:List Bool} {l:List Zf} (hN:s.length=N) (b:N≤140737488355328) (c:InL N l) (i:l.length≤140737488355328):Z0q s l=some (mkV s l):=by
 unfold Z0q mkV
 have:=Kq (l:=l) (f:=Z1r l) (λt s=>(t,s)) Z0j id (λs=>s.length=N) (λs x hs _=>(Zwr s x).trans hs) (λt s x d g hs h e=>?_) (λs hs=>?_) hN (by omega)
 ·rw[this]; rfl
 ·unfold Z1r
  dsimp only
  rw[if_pos (by simpa using g),e]
  simp only[Option.bind_some]
  rw[wrS d (by omega)]
  unfold Z0j
  by_cases a:x.Zj=3
  ·rw[if_pos (by simpa using a),if_pos a,pObj (hs ▸ c x h a) (by omega)]; rfl
  ·rw[if_neg (by simpa using a),if_neg a]
 ·unfold Z1r
  dsimp only
  rw[if_neg (by simp)]; rfl
theorem rVals {N:Nat} {s:List Bool} {l:List Zf} (hN:s.length=N) (b:N≤140737488355328) (g:l.length≤140737488355328):Z1g s l=some (mkV s l):=by
 unfold Z1g mkV
 have:=Kq (l:=l) (f:=Z93 l) (λt s=>(t,s)) Z0j id (λs=>s.length=N) (λs x hs _=>(Zwr s x).trans hs) (λt s x c d hs h e=>?_) (λs hs=>?_) hN (by omega)
 ·rw[this]; rfl
 ·unfold Z93
  dsimp only
  rw[if_pos (by simpa using d),e]
  simp only[Option.bind_some]
  rw[wrS c (by omega)]
  unfold Z0j
  by_cases a:x.Zj=3
  ·rw[if_pos (by simpa using a),if_pos a,rObj (by omega)]; rfl
  ·rw[if_neg (by simpa using a),if_neg a]
 ·unfold Z93
  dsimp only
  rw[if_neg (by simp)]; rfl
structure InM (N:Nat) (m:Z6):Prop where
 thr:∀ t∈m.Y9,InR N t.Xi∧InR N t.V2∧InR N t.Vn∧InL N [t.Qr]∧∀ a∈t.Yu,InR N a.Vo∧InL N a.Y1∧InL N a.Y5
 ini:∀ r∈m.Xc,InL N r.Qt
 int:∀ x∈m.X0,InR N x.Xi
theorem InM.of {m:Z6} (h:∀ x,refM m x→InR m.Z7.length x):InM m.Z7.length m where
 thr:=λt c=>⟨h _ (.inl ⟨t,c,.inl rfl⟩),h _ (.inl ⟨t,c,.inr (.inl rfl)⟩),h _ (.inl ⟨t,c,.inr (.inr (.inl rfl))⟩),λv d b=>by
  rw[List.mem_singleton.1 d] at b ⊢
  exact h _ (.inl ⟨t,c,.inr (.inr (.inr (.inl ⟨b,rfl⟩)))⟩),λa e=>
  ⟨h _ (.inl ⟨t,c,.inr (.inr (.inr (.inr ⟨a,e,.inl rfl⟩)))⟩),λv d b=>h _ (.inl ⟨t,c,.inr (.inr (.inr (.inr ⟨a,e,.inr (.inl ⟨v,d,b,rfl⟩)⟩)))⟩),λv d b=>h _ (.inl ⟨t,c,.inr (.inr (.inr (.inr ⟨a,e,.inr (.inr ⟨v,d,b,rfl⟩)⟩)))⟩)⟩⟩
 ini:=λr f v d b=>h _ (.inr (.inl ⟨r,f,v,d,b,rfl⟩))
 int:=λx g=>h _ (.inr (.inr ⟨x,g,rfl⟩))
def mks1 (m:Z6):List Bool:=m.Y9.foldl mkT (List.replicate m.Z7.length false)
def mks2 (m:Z6):List Bool:=m.Xc.foldl (λs r=>mkV s r.Qt) (mks1 m)
theorem Zkd (m:Z6):(mks1 m).length=m.Z7.length:=((MkS.fold (f:=mkT) m.Y9 λt _=>MkS.thr t).len _).trans (by simp)
theorem Zuc (m:Z6):(mks2 m).length=m.Z7.length:=((MkS.fold (f:=λ(s:List Bool) (r:Qn)=>mkV s r.Qt) (P:=λ(r:Qn) x=>∃ v∈r.Qt,Z1e v x) m.Xc λr _=>MkS.vals r.Qt).len _).trans (Zkd m)
theorem Zyx:∀ (s:List Bool) (l:List Zm) (i:Int) (b:Bool) (o:Zm),s.length=l.length→Vi (s++[b]) (l++[o]) i=Vi s l i++(if b||Lp o then [i+l.length] else [])
 | [],[],i,b,o,_=>by
  simp only[List.nil_append,Vi,List.length_nil]
  split <;> simp
 | x::s,y::l,i,b,o,h=>by
  have ih:=Zyx s l (i+1) b o (by simpa using h)
  simp only[List.cons_append,Vi,ih,List.length_cons]
  have e:i+1+(l.length:Int)=i+((l.length+1:Nat):Int):=by omega
  rw[e]
  split <;> simp
 | [],y::l,i,b,o,h=>by simp at h
 | x::s,[],i,b,o,h=>by simp at h
theorem Y3j (s:List Bool) (l:List Zm) (k:Nat) (b:Bool) (o:Zm) (a:s[k]?=some b) (c:l[k]?=some o):Vi (s.take (k+1)) (l.take (k+1)) 1=Vi (s.take k) (l.take k) 1++(if b||Lp o then [(k:Int)+1] else []):=by
 have d:=(List.getElem?_eq_some_iff.1 a).1
 have e:=(List.getElem?_eq_some_iff.1 c).1
 rw[List.take_add_one,List.take_add_one,a,c]
 have:=Zyx (s.take k) (l.take k) 1 b o (by simp; omega)
 rw[List.length_take,Nat.min_eq_left (by omega)] at this
 simp only[Option.toList_some]
 rw[this,Int.add_comm]
theorem Zru:∀ (s:List Bool) (l:List Zm) (i:Int),(Vi s l i).length≤l.length
 | [],l,i=>by simp[Vi]
 | b::s,[],i=>by simp[Vi]
 | b::s,o::l,i=>by
  have:=Zru s l (i+1)
  unfold Vi
  split <;> simp <;> omega
theorem Zxl {m:Z6} {q:List Bool} (hq:q.length=m.Z7.length) (hH:m.Z7.length≤5001) {f:Int×List Int→Option (Ctl (Int×List Int) (List Int))}
  (h:∀ t s b o,0≤t→t<(m.Z7.length:Int)→s.length≤5001→q[t.toNat]?=some b→m.Z7[t.toNat]?=some o→f (t,s)=some (.next (t+1,if b||Lp o then s++[t+1] else s))) (he:∀ s,f (m.Z7.length,s)=some (.done s)):
  Z8 f Zb (0,[])=some (Vi q m.Z7 1):=by
 have key:Ok (Z8 f Zb (0,[])) λr=>r=Vi q m.Z7 1:=by
  refine lp (λt:Int×List Int=>t.1) m.Z7.length (λt=>t.2=Vi (q.take t.1.toNat) (m.Z7.take t.1.toNat) 1) (λt a d j=>?_) (by omega) (by simp[Vi])
  obtain⟨t,s⟩:=t
  dsimp only at a d j
  rcases Int.lt_or_le t m.Z7.length with c|k
  ·have g:q[t.toNat]?=some q[t.toNat] :=List.getElem?_eq_getElem (by omega)
   have i:m.Z7[t.toNat]?=some m.Z7[t.toNat] :=List.getElem?_eq_getElem (by omega)
   rw[h t s _ _ d c (by rw[a]; exact Nat.le_trans (Zru _ _ _) (by simp; omega)) g i]
   refine nx ?_
   dsimp only
   have:=Y3j q m.Z7 t.toNat _ _ g i
   rw[show (t+1).toNat=t.toNat+1 by omega,this,a,show ((t.toNat:Nat):Int)=t by omega]
   split <;> simp
  ·have:t=m.Z7.length:=by omega
   subst this
   rw[he]
   refine dn ?_
   rw[a]
   simp only[Int.toNat_natCast]
   rw[List.take_of_length_le (by omega),List.take_of_length_le (by omega)]
 obtain⟨r,e,l⟩:=key
 rw[e,l]
theorem mkS0 {n:Nat} (h:n≤5001):W5 1 (n:Int) (n:Int)=some ():=by unfold W5; rw[if_pos (by omega)]
theorem gkR {s:List Int} (h:s.length≤5001) (x:Int):Yp 8 (s++[x]).length=some ():=by unfold Yp; rw[if_pos (by simp; omega)]
theorem rootsR {m:Z6} (p:MSz m) (hH:m.Z7.length≤5001):Z2k m=some (U3 m):=by
 unfold Z2k
 rw[mkS0 hH,Option.bind_some]
 have g:∀ (s:List Bool) (n:Int),s.length=m.Z7.length→Mc s n=some (mkO s n):=λs n hs=>rObj (by omega)
 have h:∀ (s:List Bool) (l:List Zf),s.length=m.Z7.length→l.length≤140737488355328→Z1g s l=some (mkV s l):=λs l hs z=>rVals hs (by omega) z
 have u:∀ (s:List Bool) (t:Xu),t∈m.Y9→s.length=m.Z7.length→Zcd s t=some (mkT s t):=λs t v hs=>by
  unfold Zcd mkT
  rw[g _ _ hs,Option.bind_some,g _ _ (by rw[Vs]; exact hs),Option.bind_some,g _ _ (by rw[Vs,Vs]; exact hs),Option.bind_some,h _ _ (by rw[Vs,Vs,Vs]; exact hs) (by simp),Option.bind_some]
  have:=Kq (l:=t.Yu) (f:=Z7i t) (λt s=>(t,s)) mkA id (λs=>s.length=m.Z7.length) (λs x hs _=>(Zwz s x).trans hs) (λk s x j i hs q e=>?_) (λs hs=>?_) (s0:=mkV (mkO (mkO (mkO s t.Xi) t.V2) t.Vn) [t.Qr]) (by rw[Z4k,Vs,Vs,Vs]; exact hs) (by have:=(p.act t v).1; omega)
  ·rw[this]; rfl
  ·have w:=(p.act t v).1
   have y:=(p.act t v).2 x q
   unfold Z7i
   dsimp only
   rw[if_pos (by simpa using i),e]
   simp only[Option.bind_some]
   rw[g _ _ hs,Option.bind_some,h _ _ (by rw[Vs]; exact hs) y.1,Option.bind_some,h _ _ (by rw[Z4k,Vs]; exact hs) y.2,Option.bind_some,wrS j (by omega)]
   rfl
  ·unfold Z7i
   dsimp only
   rw[if_neg (by simp)]; rfl
 have i:=Kq (l:=m.Y9) (f:=Z9v m) (λt s=>(t,s)) mkT id (λs=>s.length=m.Z7.length) (λs x hs _=>(Zqm s x).trans hs) (λt s x j i hs q e=>by
  have:=p.thr
  unfold Z9v
  dsimp only
  rw[if_pos (by simpa using i),e]
  simp only[Option.bind_some]
  rw[u s x q hs,Option.bind_some,wrS j (by omega)]) (λs hs=>by unfold Z9v; dsimp only; rw[if_neg (by simp)]; rfl) (s0:=List.replicate m.Z7.length false) (by simp) (by have:=p.thr; omega)
 have A:=Kq (l:=m.Xc) (f:=Z61 m) (λt s=>(t,s)) (λs r=>mkV s r.Qt) id (λs=>s.length=m.Z7.length) (λs x hs _=>(Z4k s _).trans hs) (λt s x j i hs q e=>by
  have:=p.ini2
  unfold Z61
  dsimp only
  rw[if_pos (by simpa using i),e]
  simp only[Option.bind_some]
  rw[h s _ hs (p.sta x q),Option.bind_some,wrS j (by omega)]) (λs hs=>by unfold Z61; dsimp only; rw[if_neg (by simp)]; rfl) (Zkd m) (by have:=p.ini2; omega)
 have B:=Kq (l:=m.X0) (f:=Z58 m) (λt s=>(t,s)) (λs x=>mkO s x.Xi) id (λs=>s.length=m.Z7.length) (λs x hs _=>(Vs s _).trans hs) (λt s x j i hs q e=>by
  have:=p.intr
  unfold Z58
  dsimp only
  rw[if_pos (by simpa using i),e]
  simp only[Option.bind_some]
  rw[g s _ hs,Option.bind_some,wrS j (by omega)]) (λs hs=>by unfold Z58; dsimp only; rw[if_neg (by simp)]; rfl) (Zuc m) (by have:=p.intr; omega)
 rw[Int.toNat_natCast,i]
 show ((Z8 (Z61 m) Zb (0,mks1 m)).bind _)=_
 rw[A]
 show ((Z8 (Z58 m) Zb (0,mks2 m)).bind _)=_
 rw[B]
 show ((Z8 (Z7d (marks m) m) Zb (0,[])).bind _)=_
 rw[Zxl (Z8i m).1 hH (λt s b o j i hs w C=>?_) λs=>?_]
 ·rfl
 ·have D:Z4 m.Z7 t=some o:=by unfold Z4; rw[if_pos j]; exact C
  have E:X7 t (marks m).length=some t.toNat:=by unfold X7; rw[if_pos ⟨j,by rw[(Z8i m).1]; exact i⟩]
  unfold Z7d Z6b
  dsimp only
  rw[if_pos (by simpa using i),E]
  simp only[Option.bind_some]
  rw[w,D,wrS j (by omega),gkR hs]
  simp only[Option.bind_some]
  unfold Lp
  by_cases a:b=true
  ·simp[a]
  ·by_cases c:o.Xs=0
   ·by_cases d:0<o.Xk.length
    ·simp[a,c,d]
    ·simp[a,c,d]
   ·simp[a,c]
 ·unfold Z7d
  dsimp only
  rw[if_neg (by simp)]
end Go.Proofs
namespace Go.Proofs
open Go.Den Go.Tot
theorem rootsP1 {m:Z6} (p:MSz m) (hH:m.Z7.length≤5001) (v:InM m.Z7.length m):Zb9 m=some (U3 m):=by
 unfold Zb9
 rw[mkS0 hH,Option.bind_some]
 have g:∀ (s:List Bool) (n:Int),s.length=m.Z7.length→InR m.Z7.length n→Ko s n=some (mkO s n):=λs n hs B=>pObj (hs ▸ B) (by omega)
 have h:∀ (s:List Bool) (l:List Zf),s.length=m.Z7.length→InL m.Z7.length l→l.length≤140737488355328→Z0q s l=some (mkV s l):=λs l hs C u=>pVals hs (by omega) C u
 have i:=Kq (l:=m.Y9) (f:=Z9m m) (λt s=>(t,s)) mkT id (λs=>s.length=m.Z7.length) (λs x hs _=>(Zqm s x).trans hs) (λt s x j i hs q e=>by
  have:=p.thr
  obtain⟨i1,i2,D,E,F⟩:=v.thr x q
  unfold Z9m
  dsimp only
  rw[if_pos (by simpa using i),e]
  simp only[Option.bind_some]
  rw[g _ _ hs i1,Option.bind_some,g _ _ (by rw[Vs]; exact hs) i2,Option.bind_some,g _ _ (by rw[Vs,Vs]; exact hs) D,Option.bind_some,h _ _ (by rw[Vs,Vs,Vs]; exact hs) E (by simp),Option.bind_some]
  have w:=Kq (l:=x.Yu) (f:=Z66 x) (λt s=>(t,s)) mkA id (λs=>s.length=m.Z7.length) (λs x hs _=>(Zwz s x).trans hs) (λk s y j i hs z e=>by
   have u:=(p.act x q).1
   have A:=(p.act x q).2 y z
   obtain⟨j1,j2,G⟩:=F y z
   unfold Z66
   dsimp only
   rw[if_pos (by simpa using i),e]
   simp only[Option.bind_some]
   rw[g _ _ hs j1,Option.bind_some,h _ _ (by rw[Vs]; exact hs) j2 A.1,Option.bind_some,h _ _ (by rw[Z4k,Vs]; exact hs) G A.2,Option.bind_some,wrS j (by omega)]
   rfl) (λs hs=>by unfold Z66; dsimp only; rw[if_neg (by simp)]; rfl) (s0:=mkV (mkO (mkO (mkO s x.Xi) x.V2) x.Vn) [x.Qr]) (by rw[Z4k,Vs,Vs,Vs]; exact hs) (by have:=(p.act x q).1; omega)
  rw[w,Option.bind_some,wrS j (by omega)]; rfl) (λs hs=>by unfold Z9m; dsimp only; rw[if_neg (by simp)]; rfl) (s0:=List.replicate m.Z7.length false) (by simp) (by have:=p.thr; omega)
 have w:=Kq (l:=m.Xc) (f:=Z5n m) (λt s=>(t,s)) (λs r=>mkV s r.Qt) id (λs=>s.length=m.Z7.length) (λs x hs _=>(Z4k s _).trans hs) (λt s x j i hs q e=>by
  have:=p.ini2
  unfold Z5n
  dsimp only
  rw[if_pos (by simpa using i),e]
  simp only[Option.bind_some]
  rw[h s _ hs (v.ini x q) (p.sta x q),Option.bind_some,wrS j (by omega)]) (λs hs=>by unfold Z5n; dsimp only; rw[if_neg (by simp)]; rfl) (Zkd m) (by have:=p.ini2; omega)
 have H:=Kq (l:=m.X0) (f:=Z5s m) (λt s=>(t,s)) (λs x=>mkO s x.Xi) id (λs=>s.length=m.Z7.length) (λs x hs _=>(Vs s _).trans hs) (λt s x j i hs q e=>by
  have:=p.intr
  unfold Z5s
  dsimp only
  rw[if_pos (by simpa using i),e]
  simp only[Option.bind_some]
  rw[g s _ hs (v.int x q),Option.bind_some,wrS j (by omega)]) (λs hs=>by unfold Z5s; dsimp only; rw[if_neg (by simp)]; rfl) (Zuc m) (by have:=p.intr; omega)
 rw[Int.toNat_natCast,i]
 show ((Z8 (Z5n m) Zb (0,mks1 m)).bind _)=_
 rw[w]
 show ((Z8 (Z5s m) Zb (0,mks2 m)).bind _)=_
 rw[H]
 show ((Z8 (Z99 (marks m) m) Zb (0,[])).bind _)=_
 rw[Zxl (Z8i m).1 hH (λt s b o j i hs u I=>?_) λs=>?_]
 ·rfl
 ·have J:Z4 m.Z7 t=some o:=by unfold Z4; rw[if_pos j]; exact I
  have K:X7 t (marks m).length=some t.toNat:=by unfold X7; rw[if_pos ⟨j,by rw[(Z8i m).1]; exact i⟩]
  unfold Z99 Z9n
  dsimp only
  rw[if_pos (by simpa using i),J]
  simp only[Option.bind_some]
  rw[K]
  simp only[Option.bind_some]
  rw[u,wrS j (by omega),gkR hs]
  simp only[Option.bind_some]
  unfold Lp
  by_cases a:b=true
  ·simp[a]
  ·by_cases c:o.Xs=0
   ·by_cases d:0<o.Xk.length
    ·simp[a,c,d]
    ·simp[a,c,d]
   ·simp[a,c]
 ·unfold Z99
  dsimp only
  rw[if_neg (by simp)]
theorem z0 {n:Int} (h:InR 0 n):n=0:=h.elim id λh=>by omega
theorem zObj (s:List Bool) {n:Int} (h:InR 0 n):Z1z s n=some ():=by
 rw[z0 h]; rfl
theorem Zao {α:Type} {l:List α} {f:Int→Option (Ctl Int Unit)} (d:l.length≤140737488355328) (h:∀ (t:Int) x,0≤t→t<(l.length:Int)→x∈l→Z4 l t=some x→f t=some (.next (t+1))) (he:f l.length=some (.done ())):Z8 f Zb 0=some ():=
 Kq (l:=l) (S:=Unit) (λt _=>t) (λ_ _=>()) id (λ_=>True) (λ_ _ _ _=>trivial) (λt _ x a b _ c e=>h t x a b c e) (λ_ _=>he) (s0:=()) trivial (by omega)
theorem Zc8 (s:List Bool) {l:List Zf} (h:InL 0 l) (b:l.length≤140737488355328):Z2z s l=some ():=by
 unfold Z2z
 have:=Zao (l:=l) (f:=Z7t s l) b (λt x c d g e=>by
  unfold Z7t
  rw[if_pos (by simpa using d),e]
  simp only[Option.bind_some]
  rw[wrS c (by omega)]
  by_cases a:x.Zj=3
  ·rw[if_pos (by simpa using a),zObj s (h x g a)]; rfl
  ·rw[if_neg (by simpa using a)]) (by
  unfold Z7t
  rw[if_neg (by simp)])
 rw[this]; rfl
theorem rootsP0 {m:Z6} (a:MSz m) (hH:m.Z7=[]) (g:InM 0 m):Zbs m=some [] :=by
 unfold Zbs
 rw[mkS0 (by rw[hH]; simp),Option.bind_some]
 have b:=Zao (l:=m.Y9) (f:=Z8q m) a.thr (λt x d b c e=>by
  have:=a.thr
  obtain⟨i1,i2,n,o,p⟩:=g.thr x c
  unfold Z8q
  rw[if_pos (by simpa using b),e]
  simp only[Option.bind_some]
  rw[zObj _ i1,zObj _ i2,zObj _ n,Zc8 _ o (by simp)]
  simp only[Option.bind_some]
  have q:=(a.act x c).1
  have h:=Zao (l:=x.Yu) (f:=Zb0 x m) q (λk y d b i e=>by
   have j:=(a.act x c).2 y i
   obtain⟨j1,j2,r⟩:=p y i
   unfold Zb0
   rw[if_pos (by simpa using b),e]
   simp only[Option.bind_some]
   rw[zObj _ j1,Zc8 _ j2 j.1,Zc8 _ r j.2,wrS d (by omega)]; rfl) (by unfold Zb0; rw[if_neg (by simp)])
  rw[h,wrS d (by omega)]; rfl) (by unfold Z8q; rw[if_neg (by simp)])
 have h:=Zao (l:=m.Xc) (f:=Z6y m) a.ini2 (λt x d b c e=>by
  have:=a.ini2
  unfold Z6y
  rw[if_pos (by simpa using b),e]
  simp only[Option.bind_some]
  rw[Zc8 _ (g.ini x c) (a.sta x c),wrS d (by omega)]; rfl) (by unfold Z6y; rw[if_neg (by simp)])
 have s:=Zao (l:=m.X0) (f:=Z6q m) a.intr (λt x d b c e=>by
  have:=a.intr
  unfold Z6q
  rw[if_pos (by simpa using b),e]
  simp only[Option.bind_some]
  rw[zObj _ (g.int x c),wrS d (by omega)]; rfl) (by unfold Z6q; rw[if_neg (by simp)])
 rw[b,h,s]
 simp only[Option.bind_some]
 have u:Z8 (Z6x m) Zb (0,([]:List Int))=some [] :=by
  show Z8 (Z6x m) (18446744073709551615+1) (0,[])=some []
  unfold Z8 Z6x
  rw[if_neg (by rw[hH]; simp)]
 rw[u]; rfl
theorem rootsP {m:Z6} (b:MSz m) (hH:m.Z7.length≤5001) (a:InM m.Z7.length m):Z4n m=some (U3 m):=by
 unfold Z4n
 split
 ·rename_i h
  rw[rootsP0 b h (by rw[h] at a; exact a)]
  unfold U3
  rw[h]
  cases marks m <;> rfl
 ·exact rootsP1 b hH a
end Go.Proofs
namespace Go.Proofs
open Go.Den Go.Tot
theorem MG.inR {m:Z6} (h:MG m) {n:Int} (a:Js m n):InR m.Z7.length n:=a.imp id λh=>h.range
theorem MG.inM {m:Z6} (h:MG m):InM m.Z7.length m:=InM.of λx a=>h.inR (h.rt x a)
theorem MG.rootsP {m:Z6} (h:MG m):Z4n m=some (U3 m):=Go.Proofs.rootsP h.sz h.len h.inM
theorem MG.rootsR {m:Z6} (h:MG m):Z2k m=some (U3 m):=Go.Proofs.rootsR h.sz h.len
theorem MG.hH {m:Z6} (h:MG m):m.Z7.length≤140737488355328:=by have:=h.len; omega
theorem MG.objP {m:Z6} (h:MG m) (n:Int):Z1i m n=some (objP m n)∧Z29 m n=some (objP m n):=Zrx m n h.hH
theorem MG.inN {m:Z6} (h:MG m) {o:Zm} (b:o∈m.Z7) (d:Nat):InN m.Z7.length (o.Zw.drop d):=λv e f g=>by
 have a:=List.mem_of_mem_drop e
 by_cases c:o.Zj=0
 ·rw[h.fval o b c] at a; exact(List.not_mem_nil a).elim
 ·exact((h.val o b c v a f).resolve_left g).range
theorem MG.strP {m:Z6} (h:MG m) (n:Int):Zcw m n=some (Wq m n):=by
 unfold Zcw
 rw[(h.objP n).1,Option.bind_some]
 unfold Go.Proofs.objP Wq
 cases a:Q9 m n with
 | none=>rfl
 | some o=>
  obtain⟨q,e,hq⟩:=Zsy m.Y0 h.sp h.sz.ini
  dsimp only
  rw[e]
  simp only[Bool.not_true,Bool.false_eq_true,if_false,Option.bind_some]
  rw[Zy5 hq o (h.cls o (Zfm a).1)]; rfl
theorem MG.ndP {m:Z6} (h:MG m) {q:List Int} (hq:Tbl m.Y0 (Lh m.Y0) q) (n:Int) (e:1≤n) (i:n≤m.Z7.length):ndM q m n=some (U9 m n,toO m n,Wq m n):=by
 have f:=h.len
 have a:m.Z7[(n - 1).toNat]?=some m.Z7[(n - 1).toNat] :=List.getElem?_eq_getElem (by omega)
 generalize m.Z7[(n - 1).toNat]'(by omega)=o at a
 have b:o∈m.Z7:=List.mem_of_getElem? a
 unfold ndM
 rw[Option.bind_some,J0 (by omega) (by omega)]
 unfold Z4
 rw[if_pos (by omega),a,Option.bind_some,Zy5 hq o (h.cls o b),Option.bind_some,Y6r o _ (Zmr _ _).1,Option.bind_some]
 dsimp only
 rw[Y77 h.len _ (h.inN b _) (by have:=h.sz.vals o b; simp; omega),Option.bind_some]
 by_cases c:o.Zj=0
 ·have d:Q9 m n=none:=by unfold Q9; rw[if_pos e,a,Option.bind_some,if_pos c]
  have g:=h.fval o b c
  have hs:Wo m.Y0 o=0:=by unfold Wo; rw[if_neg (by rw[c]; decide)]
  unfold U9 toO Wq
  rw[d,hs,g]; rfl
 ·have d:Q9 m n=some o:=J9.2 ⟨e,a,c⟩
  unfold U9 toO Wq
  rw[d]; rfl
theorem MG.levP {m:Z6} (h:MG m):∃ l,Kc m=some l∧l.length=m.Z7.length∧Ln (Ua m) λn=>l.getD (n - 1).toNat 0:=by
 have c:=h.len
 obtain⟨q,e,hq⟩:=Zsy m.Y0 h.sp h.sz.ini
 obtain⟨l,d,f,i⟩:=Y21 (g:=Ua m) h.ok (by show m.Z7.length≤_; omega) (λn=>by have:=h.refs_len n; show (U9 m n).length≤_; omega) (by have:=h.roots_len; show (U3 m).length≤_; omega) (λn a b=>h.ndP hq n a b)
 refine⟨l,?_,f,i⟩
 unfold Kc
 rw[e,Option.bind_some,show W5 8 (m.Z7.length:Int) (m.Z7.length:Int)=some () by unfold W5; rw[if_pos (by omega)],Option.bind_some,h.rootsP,Option.bind_some,Int.toNat_natCast]
 exact d
theorem Y78 {m:Z6} (h:MG m) (o:Zm) (b:Bool):Ziu (o,b) m=some (Lh m.Y0 o.Zt.Zy):=by
 unfold Ziu Lh
 rw[Zo2 _ h.sp h.sz.ini,Zo2 _ h.sp h.sz.ini,Zo2 _ h.sp h.sz.ini]
 simp only[Option.bind_some]
 show (if La m.Y0 o.Zt.Zy Zdo=true then some 3 else if La m.Y0 o.Zt.Zy Zga=true then some 2 else if La m.Y0 o.Zt.Zy Zh2=true then some 1 else some 0)=_
 split
 ·rfl
 ·split
  ·rfl
  ·split <;> rfl
theorem MG.strR {m:Z6} (h:MG m) (n:Int):Z5i m n=some (Wq m n):=by
 unfold Z5i
 rw[(h.objP n).2,Option.bind_some]
 unfold Go.Proofs.objP Wq
 cases b:Q9 m n with
 | none=>rfl
 | some o=>
  dsimp only
  unfold Wo
  by_cases a:o.Zj=1
  ·rw[if_neg (by simp),if_neg (by simp[a]),if_pos a,Y78 h]
  ·rw[if_neg (by simp),if_pos (by simpa using a),if_neg a]
theorem MG.refsR {m:Z6} (h:MG m) (n:Int):Zcr m n=some (U9 m n):=by
 unfold Zcr
 rw[(h.objP n).2,Option.bind_some,h.strR,Option.bind_some]
 have d:=h.len
 have zero:∀ (a:Zm×Bool) (k:Nat),a.1.Zw=[]→Z1c a k=some [] :=λa k b=>by
  unfold Z1c
  have:Z8 (Z1j a) Zb ((k:Int),([]:List Int))=some [] :=by
   show Z8 (Z1j a) (18446744073709551615+1) ((k:Int),[])=some []
   unfold Z8 Z1j
   dsimp only
   rw[if_neg (by rw[b]; simp)]
  rw[this]; rfl
 unfold U9 Wq Go.Proofs.objP
 cases e:Q9 m n with
 | none=>
  dsimp only
  rw[if_neg (by simp)]
  exact zero _ 0 rfl
 | some o=>
  dsimp only
  have c:=(Zfm e).1
  unfold refJ
  by_cases hs:Wo m.Y0 o>0
  ·rw[if_pos (by simpa using hs),if_pos hs]
   by_cases b:o.Zw=[]
   ·rw[show Z1c (o,true) 1=some [] from zero (o,true) 1 b,b]; rfl
   ·exact Zu7 h.len (o,true) 1 (List.length_pos_iff.2 b) (h.inN c 0) (h.sz.vals o c)
  ·rw[if_neg (by simpa using hs),if_neg hs]
   exact Zu7 h.len (o,true) 0 (Nat.zero_le _) (h.inN c 0) (h.sz.vals o c)
theorem MG.toR {m:Z6} (h:MG m) (n:Int):Z8d m n=some (toO m n):=by
 unfold Z8d
 rw[(h.objP n).2,Option.bind_some,h.strR,Option.bind_some]
 unfold toO Wq Go.Proofs.objP
 cases c:Q9 m n with
 | none=>rfl
 | some o=>
  dsimp only
  unfold toJ
  by_cases hs:Wo m.Y0 o=0
  ·rw[if_pos (by simpa using hs),if_pos hs]
  ·rw[if_neg (by simpa using hs),if_neg hs]
   cases d:o.Zw with
   | nil=>rfl
   | cons v r=>
    have b:Z4 (v::r) 0=some v:=rfl
    rw[if_neg (by simp; omega),b]
    simp only[Option.bind_some]
    by_cases a:v.Zj=3
    ·simp[a]
    ·simp[a]
theorem MG.ndR {m:Z6} (h:MG m) (n:Int):Go.Proofs.ndR m n=some (U9 m n,toO m n,Wq m n):=by
 unfold Go.Proofs.ndR
 rw[h.refsR,h.strR,h.toR]; rfl
theorem MG.rchR {m:Z6} (h:MG m) (k:Int):∃ out,Z4e m k=some out∧out.length=m.Z7.length∧∀ n:Int,1≤n→n≤m.Z7.length→(Bit out (n - 1)↔(Ua m).Re k n):=by
 have a:=h.len
 obtain⟨out,e,b,c⟩:=Y43 (g:=Ua m) h.ok (k:=k) (λn _ _=>h.ndR n) (by show m.Z7.length≤_; omega) (λn=>by have:=h.refs_len n; show (U9 m n).length≤_; omega) (by have:=h.roots_len; show (U3 m).length≤_; omega)
 refine⟨out,?_,b,c⟩
 unfold Z4e
 rw[mkS0 h.len,Option.bind_some,h.rootsR,Option.bind_some,Int.toNat_natCast]
 exact e
end Go.Proofs
namespace Go.Proofs
open Go.Den Go.Tot
def Tr (o:Option Bool) (P:Prop):Prop:=o=some true→P
namespace Tr
variable {P Q:Prop} {α:Type}
theorem no:Tr (some false) P:=λh=>by cases h
theorem yes {b:Bool} (h:b=true→P):Tr (some b) P:=λe=>h (Option.some.inj e)
theorem br {b:Bool} {x y:Option Bool} (T:b=true→Tr x P) (F:b=false→Tr y P):Tr (if b=true then x else y) P:=by
 cases b with
 | true=>exact T rfl
 | false=>exact F rfl
theorem bd {o:Option Bool} {f:Bool→Option Bool} (h:Tr o Q) (T:Q→Tr (f true) P) (F:Tr (f false) P):Tr (o.bind f) P:=λe=>by
 obtain⟨b,c,a⟩:=Option.bind_eq_some_iff.1 e
 cases b with
 | true=>exact T (h c) a
 | false=>exact F a
theorem sk {o:Option α} {f:α→Option Bool} (k:∀ x,o=some x→Tr (f x) P):Tr (o.bind f) P:=λe=>by
 obtain⟨x,a,b⟩:=Option.bind_eq_some_iff.1 e
 exact k x a b
theorem all {l:List α} {p:α→Prop} {f:Int→Option (Ctl Int (Unit⊕Bool))} (B:l.length≤140737488355328)
  (h:∀ t v,0≤t→t<(l.length:Int)→Z4 l t=some v→∀ x,f t=some x→(x=.next (t+1)∧p v)∨x=.done (.inr false)):
  Tr ((Z8 f Zb 0).bind λq=>match q with|.inl _=>some true|.inr y=>some y) (∀ v∈l,p v):=by
 have key:∀ (n:Nat) (t:Int),0≤t→t≤(l.length:Int)→(∀ (j:Nat) v,(j:Int)<t→l[j]?=some v→p v)→∀ q,Z8 f n t=some q→t<(l.length:Int)→q=.inr false∨∀ v∈l,p v:=by
  intro n
  induction n with
  | zero=>intro t _ _ _ q e; cases e
  | succ n ih=>
   intro t g C w q e a
   obtain⟨v,k,s,z⟩:=gri (l:=l) g a
   unfold Z8 at e
   cases o:f t with
   | none=>rw[o] at e; cases e
   | some x=>
    rw[o] at e
    rcases h t v g a k x o with ⟨rfl,hp⟩|rfl
    ·have b:∀ (j:Nat) v,(j:Int)<t+1→l[j]?=some v→p v:=λj u i c=>by
      by_cases r:(j:Int)<t
      ·exact w j u r c
      ·have:j=t.toNat:=by omega
       subst this
       rw[z] at c; cases c; exact hp
     by_cases d:t+1<(l.length:Int)
     ·exact ih (t+1) (by omega) (by omega) b q e d
     ·refine .inr λu c=>?_
      obtain⟨j,i⟩:=List.mem_iff_getElem?.1 c
      have:=(List.getElem?_eq_some_iff.1 i).1
      exact b j u (by omega) i
    ·cases e; exact .inl rfl
 intro e
 obtain⟨q,k,A⟩:=Option.bind_eq_some_iff.1 e
 by_cases g:(0:Int)<l.length
 ·rcases key Zb 0 (by omega) (by omega) (λj v i _=>by omega) q k g with rfl|r
  ·cases A
  ·exact r
 ·intro v s
  have:=List.length_pos_of_mem s
  omega
end Tr
theorem Z53 {α:Type} {l:List α} (h:((l.length:Int)==0)=true):l=[] :=by
 have:l.length=0:=by simpa using h
 exact List.eq_nil_of_length_eq_zero this
section
variable {m:Z6} (hH:m.Z7.length≤140737488355328)
include hH
theorem i_is (n:Int):Tr (Uk m n) (IsO m n):=λe=>by
 rw[Zja m n hH] at e
 exact Option.isSome_iff_exists.1 (Option.some.inj e)
theorem Zgp (n:Int):Tr (Kn m n) (Js m n):=by
 unfold Kn
 exact Tr.br (λh=>Tr.yes λ_=> .inl (by simpa using h)) λ_=>Tr.bd (i_is hH n) (λh=>Tr.yes λ_=> .inr h) Tr.no
theorem Z7z (v:Zf):Tr (Jp m v) (U5 m v):=by
 unfold Jp
 refine Tr.br (λh=>Tr.yes λ_ a=>by rw[a] at h; simp at h) λ_=>Tr.br (λh=>Tr.br (λ_=>Tr.yes λ_ a=>by rw[a] at h; simp at h) λ_=>Tr.no) λ_=>Tr.br (λh=>Tr.yes λ_ a=>by rw[a] at h; simp at h) λ_=>Tr.br (λ_=>Tr.bd (Zgp hH v.f_N) (λh=>Tr.yes λ_ _=>h) Tr.no) λ_=>Tr.no
theorem Zu4 (l w:List Zf) (c:l.length≤140737488355328):Tr (Jd m l w) (∀ v∈l,U5 m v):=by
 unfold Jd
 refine Tr.br (λ_=>Tr.no) λ_=>Tr.all c λt v d f e x a=>?_
 unfold Z43 at a
 rw[if_pos (by simpa using f),e] at a
 simp only[Option.bind_some] at a
 refine W.bd a λu _ a=>W.sp a (λ_ a=>by cases a; exact .inr rfl) λ_ a=>W.bd a λb g a=>?_
 cases b with
 | false=>cases a; exact .inr rfl
 | true=>
  rw[if_neg (by simp),wrS d (by omega)] at a
  cases a
  exact .inl ⟨rfl,Z7z hH v g⟩
theorem Zut (l:List Zf) (b:Bool) (f:l.length≤140737488355328):Tr (Mb m l b) (∀ v∈l,U5 m v):=by
 unfold Mb
 refine Tr.all f λt v g h e x a=>?_
 unfold Z3z at a
 rw[if_pos (by simpa using h),e] at a
 simp only[Option.bind_some] at a
 refine W.bd a λc d a=>?_
 cases c with
 | false=>cases a; exact .inr rfl
 | true=>
  rw[if_neg (by simp),wrS g (by omega)] at a
  refine W.sp a (λ_ a=>W.sp a (λ_ a=>by cases a; exact .inr rfl) λ_ a=>?_) λ_ a=>?_
  ·cases a; exact .inl ⟨rfl,Z7z hH v d⟩
  ·cases a; exact .inl ⟨rfl,Z7z hH v d⟩
theorem i_Act (a:Qd) (c:a.Y1.length≤140737488355328) (d:a.Y5.length≤140737488355328):Tr (L4 m a) (Js m a.Vo∧(∀ v∈a.Y1,U5 m v)∧∀ v∈a.Y5,U5 m v):=by
 unfold L4
 refine Tr.br (λ_=>Tr.no) λ_=>Tr.br (λ_=>Tr.no) λ_=>Tr.bd (Zgp hH a.Vo) (λb=>?_) Tr.no
 have nil:∀ h:((a.Y1.length:Int)==0)=true,Tr (some ((a.Y5.length:Int)==0)) (Js m a.Vo∧(∀ v∈a.Y1,U5 m v)∧∀ v∈a.Y5,U5 m v):=λh=>Tr.yes λe=>
  ⟨b,by rw[Z53 h]; simp,by rw[Z53 e]; simp⟩
 rw[if_neg (by simp)]
 unfold Z7q
 refine Tr.br (λ_=>Tr.br (λ_=>Tr.br (λ_=>Tr.br nil λ_=>Tr.no) λ_=>Tr.no) λ_=>Tr.no) λ_=>Tr.br (λ_=>Tr.br (λ_=>Tr.br (λ_=>Tr.br nil λ_=>Tr.no) λ_=>Tr.no) λ_=>Tr.no) λ_=>?_
 unfold Zau
 refine Tr.sk λi _=>Tr.br (λ_=>Tr.no) λ_=>Tr.br (λ_=>Tr.no) λ_=>Tr.sk λj _=>Tr.br (λ_=>Tr.no) λ_=>?_
 unfold Z95
 refine Tr.sk λk _=>Tr.br (λ_=>Tr.br (λ_=>Tr.br (λ_=>Tr.br (λ_=>Tr.bd (Zut hH a.Y1 true c) (λf=>?_) Tr.no) λ_=>Tr.no) λ_=>Tr.no) λ_=>Tr.no) λ_=>Tr.no
 rw[if_pos rfl]
 exact Tr.bd (Zut hH a.Y5 false d) (λg=>Tr.yes λ_=>⟨b,f,g⟩) Tr.no
theorem i_plain (o:Zm) (a:o.Zw.length≤140737488355328):Tr (Z09 m o) ((0≤o.Zt.Zy∧o.Zt.Zy<m.Y0.Y6.length)∧∀ v∈o.Zw,U5 m v):=by
 unfold Z09
 refine Tr.br (λ_=>Tr.br (λ_=>Tr.br (λc0=>Tr.br (λc1=>Tr.sk λc _=>Tr.sk λd _=>Tr.br (λ_=>Tr.br (λ_=>Tr.sk λb _=>Tr.bd (Zu4 hH _ b a) (λh=>Tr.yes λ_=>⟨⟨by simpa using c0,by simpa using c1⟩,h⟩) Tr.no) λ_=>Tr.no) λ_=>Tr.no) λ_=>Tr.no) λ_=>Tr.no) λ_=>Tr.no) λ_=>Tr.no
theorem i_array (o:Zm) (c:o.Zw.length≤140737488355328):Tr (Z10 m o) (∀ v∈o.Zw,U5 m v):=by
 unfold Z10
 refine Tr.sk λh _=>Tr.sk λi _=>Tr.br (λ_=>Tr.no) λ_=>Tr.br (λ_=>Tr.no) λ_=>Tr.br (λ_=>Tr.no) λ_=>Tr.br (λ_=>Tr.no) λ_=>?_
 unfold Z67
 refine Tr.all c λt v d f e x a=>?_
 unfold Z5u at a
 rw[if_pos (by simpa using f),e] at a
 simp only[Option.bind_some] at a
 refine W.bd a λu _ a=>W.sp a (λ_ a=>by cases a; exact .inr rfl) λ_ a=>W.bd a λb g a=>?_
 cases b with
 | false=>cases a; exact .inr rfl
 | true=>
  rw[if_neg (by simp),wrS d (by omega)] at a
  cases a
  exact .inl ⟨rfl,Z7z hH v g⟩
omit hH in
theorem i_text (o:Zm):Tr (Z5z m o) (o.Zw=[]):=by
 unfold Z5z
 exact Tr.sk λa _=>Tr.br (λ_=>Tr.br (λ_=>Tr.br (λh=>Tr.yes λ_=>Z53 h) λ_=>Tr.no) λ_=>Tr.no) λ_=>Tr.no
def ObjOk (m:Z6) (o:Zm):Prop:=
 (o.Zj=0→Lp o=false∧o.Zw=[])∧(o.Zj=1→0≤o.Zt.Zy∧o.Zt.Zy<m.Y0.Y6.length)∧∀ v∈o.Zw,U5 m v
theorem Y2c (t:Int) (o:Zm) (f:Z4 m.Z7 t=some o) (e:o.Zw.length≤140737488355328):Tr (Uy m t) (ObjOk m o):=by
 unfold Uy
 rw[f,Option.bind_some]
 refine Tr.br (λk0=>?_) λk0=>Tr.br (λk1=>?_) λk1=>Tr.br (λk2=>?_) λk2=>Tr.br (λk3=>?_) λk3=>Tr.no
 ·have b:o.Zj=0:=by simpa using k0
  refine Tr.br (λ_=>Tr.br (λg=>Tr.br (λ_=>Tr.br (λhw=>Tr.br (λ_=>Tr.yes λhs=>?_) λ_=>Tr.no) λ_=>Tr.no) λ_=>Tr.no) λ_=>Tr.no) λ_=>Tr.no
  have c:=Z53 g
  have d:=Z53 hs
  refine⟨λ_=>⟨?_,c⟩,λh=>(by rw[b] at h; cases h),by rw[c]; simp⟩
  unfold Lp
  rw[d]
  have:o.Xs=0:=by simpa using hw
  rw[this]; rfl
 ·have b:o.Zj=1:=by simpa using k1
  refine Tr.bd (i_plain hH o e) (λh=>?_) Tr.no
  exact λ_=>⟨λa=>(by rw[b] at a; cases a),λ_=>h.1,h.2⟩
 ·have b:o.Zj=2:=by simpa using k2
  refine Tr.bd (i_array hH o e) (λh=>?_) Tr.no
  exact λ_=>⟨λa=>(by rw[b] at a; cases a),λa=>(by rw[b] at a; cases a),h⟩
 ·have b:o.Zj=3:=by simpa using k3
  refine Tr.bd (i_text o) (λh=>?_) Tr.no
  exact λ_=>⟨λa=>(by rw[b] at a; cases a),λa=>(by rw[b] at a; cases a),by rw[h]; simp⟩
theorem i_begun (t:Int) (r:Qn) (b:Z4 m.Xc t=some r) (c:r.Qt.length≤140737488355328):Tr (K5 m t) (∀ v∈r.Qt,U5 m v):=by
 have a:Tr (Kr r m t) (∀ v∈r.Qt,U5 m v):=by
  unfold Kr
  exact Tr.br (λ_=>Tr.yes λh=>by rw[Z53 h]; simp) λ_=>Tr.sk λd _=>Tr.bd (Zu4 hH _ d c) (λh=>Tr.yes λ_=>h) Tr.no
 unfold K5
 rw[b,Option.bind_some]
 exact Tr.br (λ_=>Tr.no) λ_=>Tr.br (λ_=>Tr.no) λ_=>Tr.br (λ_=>Tr.sk λe _=>Tr.br (λ_=>Tr.no) λ_=>Tr.br (λ_=>Tr.br (λ_=>Tr.no) λ_=>a) λ_=>a) λ_=>Tr.br (λ_=>Tr.br (λ_=>Tr.no) λ_=>a) λ_=>a
theorem i_state (t:Int) (th:Xu) (a:Z4 m.Y9 t=some th):Tr (Z0f m t) (Js m th.V2):=by
 unfold Z0f
 rw[a,Option.bind_some]
 refine Tr.br (λ_=>Tr.br (λh=>Tr.yes λ_=> .inl (by simpa using h)) λ_=>Tr.no) λ_=>?_
 unfold Z8h
 refine Tr.br (λ_=>Tr.br (λh=>Tr.yes λ_=> .inl (by simpa using h)) λ_=>Tr.no) λ_=>?_
 unfold Z9l
 exact Tr.br (λ_=>Tr.bd (i_is hH _) (λh _=> .inr h) Tr.no) λ_=>Tr.br (λ_=>Tr.bd (i_is hH _) (λh _=> .inr h) Tr.no) λ_=>Tr.br (λ_=>Tr.bd (i_is hH _) (λh _=> .inr h) Tr.no) λ_=>Tr.no
theorem i_runs (t:Int) (th:Xu) (j:Z4 m.Y9 t=some th) (n:th.Yu.length≤140737488355328) (k:∀ a∈th.Yu,a.Y1.length≤140737488355328∧a.Y5.length≤140737488355328):
  Tr (Ki m t) (Js m th.Xi∧Js m th.V2∧Js m th.Vn∧U5 m th.Qr∧∀ a∈th.Yu,Js m a.Vo∧(∀ v∈a.Y1,U5 m v)∧∀ v∈a.Y5,U5 m v):=by
 unfold Ki
 rw[j,Option.bind_some]
 refine Tr.bd (i_state hH t th j) (λh=>?_) Tr.no
 rw[if_neg (by simp)]
 refine Tr.bd (Zgp hH _) (λo=>?_) Tr.no
 rw[if_neg (by simp)]
 refine Tr.bd (Zgp hH _) (λp=>?_) Tr.no
 rw[if_neg (by simp)]
 refine Tr.bd (Z7z hH _) (λq=>?_) Tr.no
 rw[if_neg (by simp)]
 refine Tr.br (λ_=>Tr.no) λ_=>?_
 have g:Tr (Lo th m) (Js m th.Xi∧Js m th.V2∧Js m th.Vn∧U5 m th.Qr∧∀ a∈th.Yu,Js m a.Vo∧(∀ v∈a.Y1,U5 m v)∧∀ v∈a.Y5,U5 m v):=λe=>by
  unfold Lo at e
  refine⟨o,h,p,q,Tr.all (f:=Z5p th m) n (λt a l h e x c=>?_) e⟩
  have d:a∈th.Yu:=by
   unfold Z4 at e; rw[if_pos l] at e; exact List.mem_of_getElem? e
  unfold Z5p at c
  rw[if_pos (by simpa using h),e] at c
  simp only[Option.bind_some] at c
  refine W.bd c λb i c=>?_
  cases b with
  | false=>cases c; exact .inr rfl
  | true=>
   rw[if_neg (by simp),wrS l (by omega)] at c
   cases c
   exact .inl ⟨rfl,i_Act hH a (k a d).1 (k a d).2 i⟩
 unfold Za4
 exact Tr.br (λ_=>Tr.br (λ_=>Tr.no) λ_=>Tr.br (λ_=>Tr.br (λ_=>Tr.no) λ_=>Tr.br (λ_=>Tr.no) λ_=>g) λ_=>g) λ_=>Tr.br (λ_=>Tr.br (λ_=>Tr.no) λ_=>Tr.br (λ_=>Tr.no) λ_=>g) λ_=>g
theorem i_texts (g:m.X0.length≤140737488355328):Tr (Mu m) (∀ x∈m.X0,IsO m x.Xi):=by
 unfold Mu
 refine Tr.all g λt v h i e x a=>?_
 unfold Z5o at a
 rw[if_pos (by simpa using i),e] at a
 simp only[Option.bind_some] at a
 have tail:∀ {x},((Uk m v.Xi).bind λf=>if (!f)=true then some (Ctl.done (S:=Int) (Sum.inr (α:=Unit) false)) else (Z4 m.Z7 (IntKind.wrap .i64 (v.Xi - 1))).bind λc=>if (c.Zj !=3)=true then some (.done (.inr false)) else
   (Z4 m.Z7 (IntKind.wrap .i64 (v.Xi - 1))).bind λd=>if (!(d.Yy==v.Yy))=true then some (.done (.inr false)) else some (.next (IntKind.wrap .i64 (t+1))))=some x→(x=.next (t+1)∧IsO m v.Xi)∨x=.done (.inr false):=λ{x} a=>by
  refine W.bd a λb j a=>?_
  cases b with
  | false=>cases a; exact .inr rfl
  | true=>
   rw[if_neg (by simp),wrS h (by omega)] at a
   exact W.bd a λc _ a=>W.sp a (λ_ a=>by cases a; exact .inr rfl) λ_ a=>W.bd a λd _ a=>W.sp a (λ_ a=>by cases a; exact .inr rfl) λ_ a=>by cases a; exact .inl ⟨rfl,i_is hH _ j⟩
 exact W.sp a (λ_ a=>W.bd a λk _ a=>W.sp a (λ_ a=>by cases a; exact .inr rfl) λ_ a=>tail a) λ_ a=>tail a
end
theorem V6.sz {m:Z6} (h:V6 m):MSz m where
 ini:=by have:=h.sp.iniL; omega
 thr:=h.thrL
 act:=λt b=>⟨(h.thr t b).2,λa c=>⟨((h.thr t b).1 a c).loc,((h.thr t b).1 a c).stk⟩⟩
 ini2:=h.iniL
 sta:=h.ini
 intr:=h.intL
 vals:=λo d=>(h.heap o d).val
theorem Zbi {α:Type} {l:List α} {x:α} (h:x∈l):∃ t:Int,0≤t∧t<l.length∧Z4 l t=some x:=by
 obtain⟨j,a⟩:=List.mem_iff_getElem?.1 h
 have:=(List.getElem?_eq_some_iff.1 a).1
 exact⟨j,by omega,by omega,by unfold Z4; rw[if_pos (by omega)]; simpa using a⟩
theorem Uw.mg {m:Z6} (hw:V6 m) (d:Uw m):MG m:=by
 have hH:=hw.heapL
 have j:∀ o∈m.Z7,ObjOk m o:=λo h=>by
  obtain⟨t,f,g,e⟩:=Zbi h
  exact Y2c hH t o e (hw.heap o h).val (d.obj t f g)
 refine⟨hw.sz,d.vok,by have:=d.heap; omega,λo h k=>((j o h).1 k).1,λo h k=>((j o h).1 k).2,λo h=>(j o h).2.1,λo h _=>(j o h).2.2,λx i=>?_⟩
 rcases i with ⟨t,l,i⟩|⟨r,p,v,b,c,e⟩|⟨y,q,e⟩
 ·obtain⟨k,f,g,e⟩:=Zbi l
  obtain⟨s,u,w,z,A⟩:=i_runs hH k t e (hw.thr t l).2 (λa n=>⟨((hw.thr t l).1 a n).loc,((hw.thr t l).1 a n).stk⟩) (d.run k f g)
  rcases i with rfl|rfl|rfl|⟨c,rfl⟩|⟨a,n,i⟩
  ·exact s
  ·exact u
  ·exact w
  ·exact z c
  ·obtain⟨B,C,D⟩:=A a n
   rcases i with rfl|⟨v,b,c,rfl⟩|⟨v,b,c,rfl⟩
   ·exact B
   ·exact C v b c
   ·exact D v b c
 ·obtain⟨k,f,g,E⟩:=Zbi p
  rw[e]
  exact i_begun hH k r E (hw.ini r p) (d.beg k f g) v b c
 ·rw[e]
  exact .inr (i_texts hH hw.intL d.txt y q)
end Go.Proofs
namespace Go.Proofs
open Go.Den Go.Tot
structure LJ (m:Z6) (k:Int) (l:List Int):Prop where
 len:l.length=m.Z7.length
 rng:∀ (i:Nat) v,l[i]?=some v→0≤v∧v<k∧∀ j,1≤j→j<k→(j≤v↔(Ua m).Re j ((i:Int)+1))
theorem inner21 {k:Int} {l:List Int} {out:List Bool} (u:out.length=l.length) (v:l.length≤5001):Ok (Z8 (Zfq (k,l) out) Zb (0,l)) λq=>q.length=l.length∧∀ (i:Nat),i<l.length→q[i]?=if out[i]?=some true then some k else l[i]? :=by
 refine lp (λt:Int×List Int=>t.1) l.length (λt=>t.2.length=l.length∧∀ (i:Nat),i<l.length→t.2[i]?=if (i:Int)<t.1∧out[i]?=some true then some k else l[i]?) (λt ⟨d,e⟩ o w=>?_) (by omega) ⟨rfl,λi c=>by dsimp only; rw[if_neg (by omega)]⟩
 unfold Zfq
 refine brD (λf=>?_) λr=>dn ⟨d,λi c=>?_⟩
 ·refine bd (gri o f) λb ⟨_,p⟩=>br (λg=>?_) λj=>?_
  ·refine bd (ik o (by omega)) λn ⟨s,m⟩=>bd (la m) λ_ _=>bd wr λi c=>?_
   subst c; subst s; subst g
   refine nx ⟨by simpa using d,λi c=>?_⟩
   dsimp only
   rw[List.getElem?_set]
   by_cases h:t.1.toNat=i
   ·rw[if_pos h,if_pos (by omega),if_pos ⟨by omega,by rw[← h]; exact p⟩]
   ·rw[if_neg h,e i c]
    by_cases a:(i:Int)<t.1
    ·simp[a,show (i:Int)<t.1+1 by omega]
    ·simp[a,show ¬(i:Int)<t.1+1 by omega]
  ·refine bd wr λi c=>?_
   subst c; subst j
   refine nx ⟨d,λi c=>?_⟩
   dsimp only
   rw[e i c]
   by_cases h:t.1.toNat=i
   ·rw[← h,p]; simp
   ·by_cases a:(i:Int)<t.1
    ·simp[a,show (i:Int)<t.1+1 by omega]
    ·simp[a,show ¬(i:Int)<t.1+1 by omega]
 ·rw[e i c]
  simp[show (i:Int)<t.1 by omega]
theorem MG.levR {m:Z6} (h:MG m):∃ l,M2 m=some l∧l.length=m.Z7.length∧Ln (Ua m) λn=>l.getD (n - 1).toNat 0:=by
 have x:=h.len
 have key:Ok (M2 m) λl=>LJ m 5 l:=by
  unfold M2
  refine bd Go.Tot.mk λ_ _=>?_
  refine bd (P:=λl=>LJ m 5 l) (lp (λt:Int×List Int=>t.1) 5 (λt=>1≤t.1∧LJ m t.1 t.2) (λt ⟨g,b⟩ A y=>?_) (by omega) ⟨by dsimp only; omega,by simp,λi v a=>?_⟩) λl c=>Go.Tot.ok c
  ·obtain⟨k,l⟩:=t
   dsimp only at g b A y
   unfold l58x1
   refine brD (λo=>?_) λp=>dn ?_
   ·dsimp only at o
    obtain⟨out,e,B,C⟩:=h.rchR k
    dsimp only
    rw[e,Option.bind_some]
    refine bd (inner21 (by rw[B,b.len]) (by rw[b.len]; omega)) λq ⟨z,D⟩=>bd wr λi E=>?_
    subst E
    refine nx ⟨by dsimp only; omega,z.trans b.len,λi v a=>?_⟩
    have r:i<l.length:=by have:=(List.getElem?_eq_some_iff.1 a).1; rw[← z]; exact this
    dsimp only
    rw[D i r] at a
    have hN:=b.len
    have s:=C ((i:Int)+1) (by omega) (by omega)
    have d:Bit out (((i:Int)+1) - 1)↔out[i]?=some true:=by
     unfold Bit
     rw[show (((i:Int)+1) - 1).toNat=i by omega]
     exact⟨λh=>h.2,λh=>⟨by omega,h⟩⟩
    rw[d] at s
    by_cases f:out[i]?=some true
    ·rw[if_pos f] at a
     cases a
     refine⟨by omega,by omega,λj j1 j2=>⟨λ_=>(s.1 f).mono (by omega),λ_=>by omega⟩⟩
    ·rw[if_neg f] at a
     obtain⟨u,F,w⟩:=b.rng i v a
     refine⟨u,by omega,λj j1 j2=>?_⟩
     by_cases G:j<k
     ·exact w j j1 G
     ·have:j=k:=by omega
      subst this
      exact⟨λh=>by omega,λh=>absurd (s.2 h) f⟩
   ·dsimp only at p ⊢
    have:k=5:=by omega
    subst this
    exact b
  ·dsimp only at a ⊢
   rw[List.getElem?_replicate] at a
   split at a
   ·cases a
    exact⟨by omega,by omega,λj j1 j2=>by omega⟩
   ·cases a
 obtain⟨l,e,c⟩:=key
 refine⟨l,e,c.len,λn y H=>?_⟩
 have hN:=c.len
 have I:n≤(m.Z7.length:Int):=H
 obtain⟨u,F,w⟩:=c.rng (n - 1).toNat _ (List.getElem?_eq_getElem (by omega))
 dsimp only
 rw[List.getD_eq_getElem?_getD,List.getElem?_eq_getElem (by omega),Option.getD_some]
 refine⟨u,by omega,λj j1 j2=>?_⟩
 rw[w j j1 (by omega),show (((n - 1).toNat:Nat):Int)+1=n by omega]
end Go.Proofs
namespace Go.Proofs
open Go.Den Go.Tot
theorem MG.lv {m:Z6} (h:MG m):∃ l,Kc m=some l∧M2 m=some l∧Lv m l:=by
 obtain⟨l,i,f,g⟩:=h.levP
 obtain⟨l',c,d,e⟩:=h.levR
 have:l=l':=lev_ext f d λn a b=>Ln.same g e a b
 subst this
 exact⟨l,i,c,h,LevF.of f g⟩
theorem Zdp (v:Int) (s:Bool):Z2p v s=some (Qk s v):=by
 unfold Z2p Qk
 by_cases a:v=4
 ·subst a; rfl
 ·rw[if_neg (by simpa using a)]
  by_cases b:v=3
  ·subst b; cases s <;> rfl
  ·rw[if_neg (by simpa using b),beq_eq_false_iff_ne.2 a,beq_eq_false_iff_ne.2 b]; rfl
theorem MG.refn {m:Z6} (h:MG m) (n:Int):∃ to,Zgd m n=some (to,toO m n !=0)∧(toO m n≠0→to=toO m n):=by
 unfold Zgd
 rw[(h.objP n).1,Option.bind_some]
 unfold Go.Proofs.objP toO
 cases c:Q9 m n with
 | none=>exact⟨0,rfl,λh=>absurd rfl h⟩
 | some o=>
  have hs:Wq m n=Wo m.Y0 o:=by unfold Wq; rw[c]
  dsimp only
  rw[if_neg (by simp),h.strP,Option.bind_some,hs]
  unfold toJ j31x1
  dsimp only
  by_cases b:Wo m.Y0 o=0
  ·rw[if_pos (by simpa using b),if_pos b]; exact⟨0,rfl,λh=>absurd rfl h⟩
  ·rw[if_neg (by simpa using b),if_neg b]
   cases e:o.Zw with
   | nil=>exact⟨0,rfl,λh=>absurd rfl h⟩
   | cons v r=>
    have d:Z4 (v::r) 0=some v:=rfl
    dsimp only
    rw[if_neg (by simp; omega),d,Option.bind_some]
    by_cases a:v.Zj=3
    ·rw[if_pos (by simpa using a),if_pos a]; exact⟨_,rfl,λ_=>rfl⟩
    ·rw[if_neg (by simpa using a),if_neg a]; exact⟨_,rfl,λh=>absurd rfl h⟩
theorem Zj4 {N:Nat} (hN:N≤5001) (c:Int→Bool) {f:Int×List Int→Option (Ctl (Int×List Int) (List Int))}
  (hs:∀ t:Int×List Int,0≤t.1→t.1<N→t.2.length≤5001→f t=some (.next (t.1+1,if c (t.1+1)=true then t.2++[t.1+1] else t.2)))
  (he:∀ t:Int×List Int,t.1=N→f t=some (.done t.2)):Z8 f Zb (0,([]:List Int))=some (pick N c):=by
 have h:Ok (Z8 f Zb (0,([]:List Int))) λq=>q=pick N c:=by
  refine lp (λt:Int×List Int=>t.1) N (λt=>0≤t.1∧t.2=pick t.1.toNat c) (λt ⟨i0,a⟩ d i=>?_) (by omega) ⟨by dsimp only; omega,rfl⟩
  rcases Int.lt_or_le t.1 N with b|g
  ·rw[hs t d b (by rw[a]; have:=Mi t.1.toNat c; omega)]
   refine nx ⟨by dsimp only; omega,?_⟩
   dsimp only
   rw[show (t.1+1).toNat=t.1.toNat+1 by omega,Y1m,a,show ((t.1.toNat:Nat):Int)=t.1 by omega]
   split <;> simp
  ·rw[he t (by omega)]
   exact dn (by rw[a,show t.1.toNat=N by omega])
 obtain⟨q,e,rfl⟩:=h
 exact e
theorem Lv.place {m:Z6} {l:List Int} (h:Lv m l) {t:Int} (a:0≤t) (e:t<m.Z7.length):
  ∃ o,Z4 l t=some (Qa l (t+1))∧Z4 m.Z7 t=some o∧Q9 m (t+1)=(if o.Zj=0 then none else some o)∧IntKind.wrap .i64 (t+1)=t+1:=by
 have i:=h.lf.len
 have d:=h.mg.len
 obtain⟨v,ev,_,f⟩:=gri (l:=l) a (by omega)
 obtain⟨o,eo,_,g⟩:=gri (l:=m.Z7) a e
 have b:Qa l (t+1)=v:=by
  unfold Qa; rw[show t+1 - 1=t by omega,List.getD_eq_getElem?_getD,f]; rfl
 have c:Q9 m (t+1)=if o.Zj=0 then none else some o:=by
  unfold Q9; rw[if_pos (by omega),show t+1 - 1=t by omega,g]; rfl
 exact⟨o,by rw[b]; exact ev,eo,c,wrS a (by omega)⟩
theorem Lv.lget {m:Z6} {l:List Int} (h:Lv m l) {n:Int} (b:1≤n) (c:n≤m.Z7.length):IntKind.wrap .i64 (n - 1)=n - 1∧Z4 l (n - 1)=some (Qa l n):=by
 have a:=h.mg.len
 obtain⟨o,ev,_⟩:=h.place (t:=n - 1) (by omega) (by omega)
 rw[show n - 1+1=n by omega] at ev
 exact⟨J0 (by omega) (by omega),ev⟩
theorem gk8' {s:List Int} (h:s.length≤5001) (x:Int):Yp 8 (s++[x]).length=some ():=by unfold Yp; rw[if_pos (by simp; omega)]
section
variable {m:Z6} {l:List Int} (h:Lv m l) (s:Bool)
include h
theorem Lv.unrP (e:Kc m=some l):Z2i m s=some (W7 m l s):=by
 have a:=h.mg.len; have i:=h.lf.len
 have key:Z8 (Z9k l m s) Zb (0,([]:List Int))=some (W7 m l s):=by
  refine Zj4 a _ (λt c d f=>?_) λt j=>?_
  ·obtain⟨o,ev,eo,g,hw⟩:=h.place c d
   unfold Z9k j15x1
   rw[if_pos (by simp; omega),ev,Option.bind_some,eo,Option.bind_some,hw,Zdp,g]
   by_cases b:o.Zj=0
   ·rw[if_neg (by simpa using b),if_pos b]; rfl
   ·rw[if_pos (by simpa using b),if_neg b]
    cases Qk s (Qa l (t.1+1)) <;> simp only[Option.bind_some,gk8' f] <;> rfl
  ·unfold Z9k; rw[if_neg (by simp; omega)]
 unfold Z2i
 rw[e,Option.bind_some,key]; rfl
theorem Lv.clrP (e:Kc m=some l):Z2r m s=some (Ui m l s):=by
 have b:=h.mg.len; have p:=h.lf.len
 have key:Z8 (Z74 l m s) Zb (0,([]:List Int))=some (Ui m l s):=by
  refine Zj4 b _ (λt a i j=>?_) λt q=>?_
  ·obtain⟨o,ev,eo,r,hw⟩:=h.place a i
   obtain⟨to,er,c⟩:=h.mg.refn (t.1+1)
   unfold Z74 j13x1 clB
   rw[if_pos (by simp; omega),ev,Option.bind_some,hw,Option.bind_some,er,Option.bind_some,Zdp]
   by_cases a:toO m (t.1+1)=0
   ·rw[a]
    simp
   ·have d:(Q9 m (t.1+1)).isSome=true:=by
     cases f:Q9 m (t.1+1) with
     | none=>unfold toO at a; rw[f] at a; exact absurd rfl a
     | some _=>rfl
    have g:=(h.mg.to_is a).range
    obtain⟨k,n⟩:=h.lget g.1 g.2
    rw[c a,k,d,bne_iff_ne.2 a]
    simp only[Option.bind_some,n,Zdp,gk8' j]
    cases Qk s (Qa l (t.1+1)) <;> cases Qk s (Qa l (toO m (t.1+1))) <;> rfl
  ·unfold Z74; rw[if_neg (by simp; omega)]
 unfold Z2r
 rw[e,Option.bind_some,key]; rfl
theorem Lv.surP (e:Kc m=some l) (n:Int):Z1d m n s=some ((Q9 m n).isSome&&Qk s (Qa l n)):=by
 unfold Z1d
 rw[(h.mg.objP n).1,Option.bind_some]
 unfold objP
 cases b:Q9 m n with
 | none=>rfl
 | some o=>
  have a:=IsO.range ⟨o,b⟩
  obtain⟨c,d⟩:=h.lget a.1 a.2
  rw[if_pos rfl,e,Option.bind_some,c,Option.bind_some,d,Option.bind_some,Zdp]; rfl
end
end Go.Proofs
namespace Go.Proofs
open Go.Den Go.Tot
def kB (m:Z6) (l:List Int) (s:Bool) (n:Int):Bool:=(Q9 m n).isSome&&Qk s (Qa l n)
def M3 (m:Z6) (l:List Int) (s:Bool):List Bool:=(List.range m.Z7.length).map λ(i:Nat)=>kB m l s ((i:Int)+1)
theorem Z81 (m:Z6) (l:List Int) (s:Bool) {t:Int} (a:0≤t) (b:t<m.Z7.length):Z4 (M3 m l s) t=some (kB m l s (t+1)):=by
 unfold Z4 M3
 rw[if_pos a,List.getElem?_map,List.getElem?_range (by omega)]
 simp only[Option.map_some]
 rw[show ((t.toNat:Nat):Int)=t by omega]
theorem Zk9 (m:Z6) (l:List Int) (s:Bool):(M3 m l s).length=m.Z7.length:=by unfold M3; simp
section
variable {m:Z6} {l:List Int} (h:Lv m l) (s:Bool)
include h
theorem Lv.retR (e:M2 m=some l):Z5g m s=some (M3 m l s):=by
 have u:=h.mg.len; have v:=h.lf.len
 have key:Ok (Z8 (Zii l m s) Zb (0,List.replicate l.length false)) λq=>q=M3 m l s:=by
  refine lp (λt:Int×List Bool=>t.1) m.Z7.length (λt=>0≤t.1∧t.2.length=m.Z7.length∧∀ (i:Nat),(i:Int)<t.1→t.2[i]?=(M3 m l s)[i]?) (λt ⟨i0,i1,i2⟩ k E=>?_) (by omega) ⟨by dsimp only; omega,by simp; omega,λi j=>by dsimp only at j; omega⟩
  unfold Zii
  refine brD (λf=>?_) λw=>dn ?_
  ·rw[v] at f
   obtain⟨o,ev,eo,x,hw⟩:=h.place k f
   have d:kB m l s (t.1+1)=((if o.Zj=0 then none else some o).isSome&&Qk s (Qa l (t.1+1))):=by unfold kB; rw[x]
   have fin:∀ b,b=kB m l s (t.1+1)→Ok ((X7 t.1 t.2.length).bind λa=>(t.2[a]?).bind λ_=>(some (IntKind.wrap .i64 (t.1+1))).bind λc=>some (Ctl.next (R:=List Bool) (c,t.2.set a b))) (St (λt=>0≤t.1∧t.2.length=m.Z7.length∧∀ (i:Nat),(i:Int)<t.1→t.2[i]?=(M3 m l s)[i]?) (λt=>t.1) m.Z7.length (λq=>q=M3 m l s) t):=λb y=>by
    refine bd (ik k (by omega)) λn ⟨z,p⟩=>bd (la p) λ_ _=>bd wr λi j=>?_
    subst j; subst z
    refine nx ⟨by dsimp only; omega,by simpa using i1,λi j=>?_⟩
    dsimp only at j ⊢
    rw[List.getElem?_set]
    by_cases r:t.1.toNat=i
    ·have g:=Z81 m l s k f
     unfold Z4 at g
     rw[if_pos k] at g
     rw[if_pos r,if_pos (by omega),← r,g,y]
    ·rw[if_neg r]; exact i2 i (by omega)
   rw[eo,Option.bind_some,ev]
   simp only[Option.bind_some]
   refine brN (λg=>?_) λg=>fin _ (by rw[d,if_pos g]; rfl)
   rw[if_neg g] at d
   refine brE (λA=>fin _ (by rw[d,A]; rfl)) λB=>brE (λC=>fin _ (by rw[d,C]; cases s <;> rfl)) λD=>fin _ ?_
   rw[d]; unfold Qk
   rw[beq_eq_false_iff_ne.2 B,beq_eq_false_iff_ne.2 D]; rfl
  ·refine List.ext_getElem? λi=>?_
   by_cases j:i<m.Z7.length
   ·exact i2 i (by omega)
   ·rw[List.getElem?_eq_none (by omega),List.getElem?_eq_none (by rw[Zk9]; omega)]
 obtain⟨q,eq,rfl⟩:=key
 unfold Z5g
 rw[e,Option.bind_some,show W5 1 (l.length:Int) (l.length:Int)=some () by unfold W5; rw[if_pos (by omega)],Option.bind_some,Int.toNat_natCast,eq]; rfl
theorem Lv.unrR (e:M2 m=some l):Z9b m s=some (W7 m l s):=by
 have a:=h.mg.len; have f:=Zk9 m l s
 have key:Z8 (Zam (M3 m l s) m) Zb (0,([]:List Int))=some (W7 m l s):=by
  refine Zj4 a _ (λt c d g=>?_) λt j=>?_
  ·obtain⟨o,ev,eo,i,hw⟩:=h.place c d
   unfold Zam j16x1
   rw[if_pos (by simp; omega),Z81 m l s c d,eo,hw]
   unfold kB
   rw[i]
   simp only[Option.bind_some,gk8' g]
   by_cases b:o.Zj=0
   ·rw[if_pos b,if_neg (show ¬(o.Zj !=0)=true by simpa using b)]; rfl
   ·rw[if_neg b,if_pos (show (o.Zj !=0)=true by simpa using b)]
    cases Qk s (Qa l (t.1+1)) <;> rfl
  ·unfold Zam; rw[if_neg (by simp; omega)]
 unfold Z9b
 rw[h.retR s e,Option.bind_some,key]; rfl
theorem Lv.clrR (e:M2 m=some l):Z9f m s=some (Ui m l s):=by
 have c:=h.mg.len; have i:=Zk9 m l s
 have key:Z8 (Z9j (M3 m l s) m) Zb (0,([]:List Int))=some (Ui m l s):=by
  refine Zj4 c _ (λt b f j=>?_) λt n=>?_
  ·obtain⟨o,ev,eo,p,hw⟩:=h.place b f
   unfold Z9j j14x1 clB
   rw[if_pos (by simp; omega),hw,Option.bind_some,h.mg.toR,Option.bind_some,Z81 m l s b f,Option.bind_some]
   unfold kB
   by_cases b:toO m (t.1+1)=0
   ·rw[b]
    simp
   ·have a:=h.mg.to_is b
    obtain⟨k,q⟩:=h.lget a.range.1 a.range.2
    have d:=Z81 m l s (t:=toO m (t.1+1) - 1) (by have:=a.range; omega) (by have:=a.range; omega)
    rw[show toO m (t.1+1) - 1+1=toO m (t.1+1) by omega] at d
    unfold kB at d
    obtain⟨x,g⟩:=a
    rw[g] at d
    rw[k,bne_iff_ne.2 b,if_pos (show decide (toO m (t.1+1)>0)=true by have:=IsO.range ⟨x,g⟩; simp; omega)]
    simp only[Option.bind_some,d,gk8' j]
    cases (Q9 m (t.1+1)).isSome <;> cases Qk s (Qa l (t.1+1)) <;> cases Qk s (Qa l (toO m (t.1+1))) <;> rfl
  ·unfold Z9j; rw[if_neg (by simp; omega)]
 unfold Z9f
 rw[h.retR s e,Option.bind_some,key]; rfl
end
theorem Zca {ns:List Int} {g:Zm→Zm} {Q:Zm→Prop} {H:List Zm} {f:Int×List Zm→Option (Ctl (Int×List Zm) (List Zm))} (B:ns.length≤5001)
  (p:∀ n∈ns,1≤n∧n≤H.length) (r:∀ n∈ns,∀ o,H[(n - 1).toNat]?=some o→Q o) (u:∀ o,Q o→Q (g o))
  (hs:∀ (t:Int×List Zm) n o,0≤t.1→t.1<ns.length→Z4 ns t.1=some n→1≤n→n≤t.2.length→t.2.length=H.length→t.2[(n - 1).toNat]?=some o→Q o→f t=some (.next (t.1+1,t.2.set (n - 1).toNat (g o))))
  (he:∀ t:Int×List Zm,t.1=ns.length→f t=some (.done t.2)):Z8 f Zb (0,H)=some (K4 g H ns):=by
 have h:Ok (Z8 f Zb (0,H)) λq=>q=K4 g H ns:=by
  refine lp (λt:Int×List Zm=>t.1) ns.length (λt=>0≤t.1∧t.2=K4 g H (ns.take t.1.toNat)∧∀ n∈ns,∀ o,t.2[(n - 1).toNat]?=some o→Q o) (λt ⟨i0,d,iQ⟩ k C=>?_) (by omega) ⟨by dsimp only; omega,rfl,r⟩
  have v:t.2.length=H.length:=by rw[d,Z46]
  rcases Int.lt_or_le t.1 ns.length with b|w
  ·obtain⟨n,en,i,x⟩:=gri (l:=ns) k b
   obtain⟨y,D⟩:=p n i
   have c:t.2[(n - 1).toNat]?=some t.2[(n - 1).toNat] :=List.getElem?_eq_getElem (by omega)
   rw[hs t n _ k b en y (by omega) v c (iQ n i _ c)]
   refine nx ⟨by dsimp only; omega,?_,λz j A a=>?_⟩
   ·dsimp only
    rw[show (t.1+1).toNat=t.1.toNat+1 by omega,List.take_add_one,x]
    unfold K4
    rw[List.foldl_append]
    show _=Z0z g (K4 g H (ns.take t.1.toNat)) n
    rw[← d]
    unfold Z0z
    rw[c]
   ·dsimp only at a
    rw[List.getElem?_set] at a
    split at a
    ·split at a
     ·cases a; exact u _ (iQ n i _ c)
     ·cases a
    ·exact iQ z j A a
  ·rw[he t (by omega)]
   exact dn (by rw[d,List.take_of_length_le (by omega)])
 obtain⟨q,e,rfl⟩:=h
 exact e
def ClQ (o:Zm):Prop:=o.Zw≠[]∧o.Zw.length*16≤140737488355328
theorem Zna (l:List Zf):(Ji l).length=l.length:=by
 cases l with
 | nil=>rfl
 | cons v r=>cases r <;> rfl
theorem ClQ.clr {o:Zm} (h:ClQ o):ClQ (Un o):=by
 obtain⟨a,b⟩:=h
 refine⟨λe=>a (List.eq_nil_of_length_eq_zero ?_),?_⟩
 ·have:=congrArg List.length e
  rw[show (Un o).Zw=Ji o.Zw from rfl,Zna] at this; exact this
 ·rw[show (Un o).Zw=Ji o.Zw from rfl,Zna]; exact b
theorem Zxa {l:List Zf} (h:l.length*16≤140737488355328):Yp 16 (([]:List Zf)++l).length=some ():=by
 unfold Yp; rw[if_pos (by rw[List.nil_append]; omega)]
theorem Zxg {l:List Zm} (h:l.length≤5001):Yp 112 (([]:List Zm)++l).length=some ():=by
 unfold Yp; rw[if_pos (by rw[List.nil_append]; omega)]
theorem Vc {n:Int} {k:Nat} (a:1≤n) (b:n≤k):X7 (n - 1) k=some (n - 1).toNat:=by unfold X7; rw[if_pos (by omega)]
theorem stepP {ns:List Int} {t:Int×List Zm} {n:Int} {o:Zm} (p:ns.length≤5001) (hH:t.2.length≤5001) (c:0≤t.1) (d:t.1<ns.length) (en:Z4 ns t.1=some n) (e:1≤n) (f:n≤t.2.length) (g:t.2[(n - 1).toNat]?=some o) (hq:ClQ o):
  Z6h ns t=some (.next (t.1+1,t.2.set (n - 1).toNat (Un o))):=by
 obtain⟨i,j⟩:=hq
 unfold Z6h Zom
 rw[if_pos (by simpa using d),en,Option.bind_some,J0 (n:=n - 1) (by omega) (by omega),Option.bind_some,Vc e f,Option.bind_some,g,Option.bind_some,Zxa j,wrS c (by omega)]
 unfold Un
 cases k:o.Zw with
 | nil=>exact absurd k i
 | cons v r=>
  cases r with
  | nil=>rfl
  | cons w r=>
   have b:decide (((v::w::r).length:Int)>1)=true:=by simp; omega
   simp only[Option.bind_some]
   rw[show X7 0 (v::w::r).length=some 0 by unfold X7; rw[if_pos (by simp; omega)]; rfl,Option.bind_some,List.getElem?_cons_zero,Option.bind_some,if_pos b,show X7 1 (v::w::r).length=some 1 by unfold X7; rw[if_pos (by simp; omega)]; rfl,Option.bind_some]
   simp only[List.set_cons_zero,List.getElem?_cons_succ,List.getElem?_cons_zero,Option.bind_some,List.set_cons_succ]
   rw[show Ji (v::w::r)=Z28::Z07 w::r from rfl]
   unfold Z07
   by_cases a:w.Zj=1
   ·rw[if_pos (by simpa using a),if_pos a]; rfl
   ·rw[if_neg (by simpa using a),if_neg a]; rfl
theorem stepP2 {ns:List Int} {t:Int×List Zm} {n:Int} {o:Zm} (f:ns.length≤5001) (hH:t.2.length≤5001) (a:0≤t.1) (b:t.1<ns.length) (en:Z4 ns t.1=some n) (c:1≤n) (d:n≤t.2.length) (e:t.2[(n - 1).toNat]?=some o):
  Z82 ns t=some (.next (t.1+1,t.2.set (n - 1).toNat Kj)):=by
 unfold Z82
 rw[if_pos (by simpa using b),en,Option.bind_some,J0 (n:=n - 1) (by omega) (by omega),Option.bind_some,Vc c d,Option.bind_some,e,Option.bind_some,wrS a (by omega)]; rfl
section
variable {m:Z6} {l:List Int} (h:Lv m l) (hw:V6 m) (s:Bool)
include h hw
omit h in
theorem Zsl {n:Int} (d:n∈Ui m l s) (o:Zm) (a:m.Z7[(n - 1).toNat]?=some o):ClQ o:=by
 obtain⟨⟨x,b⟩,_,e⟩:=Z26.1 d
 obtain⟨_,c,_⟩:=J9.1 b
 rw[c] at a; cases a
 obtain⟨_,_,v,r,f,_⟩:=Z78 b e
 exact⟨by rw[f]; simp,(hw.heap _ (List.mem_of_getElem? c)).val16⟩
theorem Lv.colP (e:Kc m=some l):Mm m s=some (Qe m l s,W7 m l s,0):=by
 have a:=h.mg.len
 have lu:(W7 m l s).length≤m.Z7.length:=Mi _ _
 have lc:(Ui m l s).length≤m.Z7.length:=Mi _ _
 unfold Mm Zp3
 rw[h.unrP s e,Option.bind_some,Zxg a]
 simp only[Option.bind_some]
 rw [h.clrP s e,Option.bind_some,
  Zca (g:=Un) (Q:=ClQ) (by omega) (λn b=>Zky b) (λn b=>Zsl hw s b) (λo hq=>hq.clr) (λt n o d f en i j k c hq=>stepP (by omega) (by omega) d f en i j c hq) (λt p=>by unfold Z6h; rw[if_neg (by simp; omega)]),Option.bind_some,
  Zca (g:=λ_=>Kj) (Q:=λ_=>True) (by omega) (λn b=>by rw[Z46]; exact Zoa b) (λn b o c=>trivial) (λo hq=>trivial) (λt n o d f en i j k c hq=>stepP2 (by omega) (by rw[k,Z46]; exact a) d f en i j c) (λt p=>by unfold Z82; rw[if_neg (by simp; omega)]),Option.bind_some,Zq2]
 rfl
end
end Go.Proofs
namespace Go.Proofs
open Go.Den Go.Tot
namespace Sm
variable {α β:Type} {bad:α→Prop}
end Sm
section
variable {m:Z6} {H:List Zm} (hH:m.Z7.length≤140737488355328) (hH':H.length≤140737488355328)
include hH hH'
end
end Go.Proofs
namespace Go.Proofs
open Go.Den Go.Tot
theorem Zw3 (l:List Zf):(Ji l).length=l.length:=by
 cases l with
 | nil=>rfl
 | cons v r=>cases r <;> rfl
theorem Y5h {m:Z6} {l:List Int} {s:Bool} {n:Int} {o:Zm} (h:Lr o):Lr (Wh m l s n o):=by
 unfold Wh
 split
 ·exact h
 ·split
  ·split
   ·exact⟨by show (Ji o.Zw).length*16≤_; rw[Zw3]; exact h.val16,h.str,h.ws⟩
   ·exact h
  ·exact⟨by simp[Kj],by unfold Str Kj; simp,by simp[Kj]⟩
theorem Zm0 {m:Z6} (l:List Int) (s:Bool) (h:V6 m):V6 (Qe m l s) where
 sp:=h.sp
 heap:=λo a=>by
  unfold Qe at a
  dsimp only at a
  obtain⟨i,b,e⟩:=List.mem_mapIdx.1 a
  rw[← e]
  exact Y5h (h.heap _ (List.getElem_mem ..))
 heapL:=by rw[Z3a]; exact h.heapL
 ini:=h.ini
 iniL:=h.iniL
 int:=h.int
 intL:=h.intL
 thr:=h.thr
 thrL:=h.thrL
 outL:=h.outL
section
variable {m:Z6} {l:List Int} (h:Lv m l) (s:Bool)
include h
end
end Go.Proofs
namespace Go.Proofs
open Go.Den Go.Tot
theorem rfL {α:Type} (l:List α) {f:Int→Option (Ctl Int (Unit⊕Bool))} (g:l.length≤4503599627370496) (h:∀ (t:Int) v,t<l.length→v∈l→Z4 l t=some v→IntKind.wrap .i64 (t+1)=t+1→f t=some (.next (t+1))) (he:∀ t:Int,¬t<l.length→f t=some (.done (.inl ()))):
  Z8 f Zb 0=some (.inl ()):=by
 have:Ok (Z8 f Zb 0) (λq=>q=.inl ()):=by
  refine li l.length (λt b i=>?_) (by omega) (by omega) (by omega)
  rcases Int.lt_or_le t l.length with a|c
  ·obtain⟨v,e,d,_⟩:=gri (l:=l) b a
   rw[h t v a d e (J0 (by omega) (by omega))]
   exact ni (by omega) (by omega)
  ·rw[he t (by omega)]; exact di rfl
 obtain⟨q,e,rfl⟩:=this
 exact e
theorem Zud (l:List (List UInt8)) (h:l.length≤4503599627370496):Z9e l l=some true:=by
 unfold Z9e
 rw[rfL l h (λt v a b e hw=>by unfold Zdu; rw[if_pos (decide_eq_true a),e]; simp[hw]) λt h=>by unfold Zdu; rw[if_neg (by simpa using h)]]
 simp
theorem Zvy (l:List Zz) (h:l.length≤4503599627370496):Z83 l l=some true:=by
 unfold Z83
 rw[rfL l h (λt v a b e hw=>by unfold Zbl; rw[if_pos (decide_eq_true a),e]; simp[hw,Zl8,Zhb]) λt h=>by unfold Zbl; rw[if_neg (by simpa using h)]]
 simp
theorem Y6k (f:V7) (h:Li f):Zio f f=some true:=by
 unfold Zio
 rw[Zvy _ (by have:=h.locL; omega),Zvy _ (by have:=h.stkL; omega)]
 simp
theorem eq_maps (l:List Yi) (h:l.length≤4503599627370496) (a:∀ m∈l,Li m.Xa):Ziw l l=some true:=by
 unfold Ziw
 rw[rfL l h (λt v b c e hw=>by unfold Zbp; rw[if_pos (decide_eq_true b),e]; simp[hw,Y6k _ (a v c)]) λt h=>by unfold Zbp; rw[if_neg (by simpa using h)]]
 simp
theorem Zxh (l:List Int) (h:l.length≤4503599627370496):Z6k l l=some true:=by
 unfold Z6k
 rw[rfL l h (λt v a b e hw=>by unfold Zdy; rw[if_pos (decide_eq_true a),e]; simp[hw]) λt h=>by unfold Zdy; rw[if_neg (by simpa using h)]]
 simp
theorem eq_insn (i:Zg) (h:Qz i):Zd1 i i=some true:=by
 unfold Zd1
 rw[Zxh _ (by have:=h.keys; omega),Zxh _ (by have:=h.tos; omega)]
 simp[Z3q]
theorem eq_code (c:Zx) (h:Wv c):Zbu c c=some true:=by
 unfold Zbu Zmt
 rw [eq_maps _ (by have:=h.mapL; omega) h.map,
  rfL c.Y7 (by have:=h.insL; omega) (λt v a b e hw=>by unfold Zbr; rw[if_pos (decide_eq_true a),e]; simp[hw,eq_insn _ (h.ins v b)]) λt h=>by unfold Zbr; rw[if_neg (by simpa using h)]]
 simp only[Option.bind]
 rw[rfL c.Xm (by have:=h.hndL; omega) (λt v a b e hw=>by unfold Zix; rw[if_pos (decide_eq_true a),e]; simp[hw,Zkh]) λt h=>by unfold Zix; rw[if_neg (by simpa using h)]]
 simp only[]
 rw[rfL c.Xg (by have:=h.linL; omega) (λt v a b e hw=>by unfold Zf5; rw[if_pos (decide_eq_true a),e]; simp[hw,Zot]) λt h=>by unfold Zf5; rw[if_neg (by simpa using h)]]
 simp
theorem Y2k (u:Yj) (h:Wz u):Zih u u=some true:=by
 unfold Zih j88x1
 rw [Zud _ (by have:=h.ifsL; omega),
  rfL u.Yn (by have:=h.fldL; omega) (λt v a b e hw=>by unfold Zcz; rw[if_pos (decide_eq_true a),e]; simp[hw,Zly]) λt h=>by unfold Zcz; rw[if_neg (by simpa using h)]]
 simp only[Option.bind]
 rw[rfL u.Yo (by have:=h.metL; omega) (λt v a b e hw=>by unfold Zdm; rw[if_pos (decide_eq_true a),e]; simp[hw,eq_code _ (h.met v b).code,Zud _ (show v.Wi.length≤_ by have:=(h.met v b).excL; omega)]) λt h=>by unfold Zdm; rw[if_neg (by simpa using h)]]
 simp
theorem Y6l (l:List Xj) (f:l.length≤140737488355328) (h:∀ c∈l,Wz c.Xo∧c.Yc.length≤140737488355328):Zj5 l l=some true:=by
 unfold Zj5
 rw [rfL l (by omega) (λt v a b e hw=>by
  unfold Zi4 j64x1
  have d:Z8 (Z8o v v) Zb 0=some (.inl ()):=rfL v.Yc (by have:=(h v b).2; omega) (λt v a b e hw=>by unfold Z8o; rw[if_pos (decide_eq_true a),e]; simp[hw]) λt h=>by unfold Z8o; rw[if_neg (by simpa using h)]
  rw[if_pos (decide_eq_true a),e]
  simp[hw,Y2k _ (h v b).1,d]) λt h=>by unfold Zi4; rw[if_neg (by simpa using h)]]
 simp
theorem Y1d (l:List Yk) (i:l.length≤140737488355328) (h:∀ c∈l,Jy c):Zce l l=some true:=by
 unfold Zce
 rw [rfL l (by omega) (λt v a b e hw=>by
  unfold Zg5 j63x1
  have f:Z8 (Z8p t l l) Zb 0=some (.inl ()):=rfL v.V8 (by have:=(h v b).delL; omega) (λt v a b d hw=>by unfold Z8p; rw[e]; dsimp only[Option.bind]; rw[if_pos (decide_eq_true a),d]; simp[hw,Zm6]) λt h=>by unfold Z8p; rw[e]; dsimp only[Option.bind]; rw[if_neg (by simpa using h)]
  have g:Z8 (Z7b t l l) Zb 0=some (.inl ()):=rfL v.Qw (by have:=(h v b).stoL; omega) (λt v a b d hw=>by unfold Z7b; rw[e]; dsimp only[Option.bind]; rw[if_pos (decide_eq_true a),d]; simp[hw,Zm9]) λt h=>by unfold Z7b; rw[e]; dsimp only[Option.bind]; rw[if_neg (by simpa using h)]
  rw[if_pos (decide_eq_true a),e]
  simp[hw,f,g]) λt h=>by unfold Zg5; rw[if_neg (by simpa using h)]]
 simp
theorem Y2p (w:Zq) (h:Wp w):Zdq w w=some true:=by
 unfold Zdq j36x1
 rw [Y1d _ h.lodL h.lod,Y6l _ h.clsL h.cls,
  rfL w.Yr (by have:=h.iniL; omega) (λt v a b e hw=>by unfold Zik; rw[if_pos (decide_eq_true a),e]; simp[hw,Zk0]) λt h=>by unfold Zik; rw[if_neg (by simpa using h)]]
 simp only[Option.bind]
 rw[rfL w.Q3 (by have:=h.conL; omega) (λt v a b e hw=>by unfold Zcv; rw[if_pos (decide_eq_true a),e]; simp[hw,Zp1]) λt h=>by unfold Zcv; rw[if_neg (by simpa using h)]]
 simp
end Go.Proofs
namespace Go.Proofs
open Go.Den Go.Tot
theorem Zf8 (l:List Zf) (h:l.length≤140737488355328):Z2t l l=some true:=by
 unfold Z2t
 rw[rfL l (by omega) (λt v a b e hw=>by unfold Zc6 j48x1; rw[if_pos (decide_eq_true a),if_pos (decide_eq_true a),e]; simp[hw,Jh]) λt h=>by unfold Zc6; rw[if_neg (by simpa using h)]]
 simp
theorem eq_wset (l:List Int) (h:l.length≤140737488355328):Zev l l=some true:=by
 unfold Zev
 rw[rfL l (by omega) (λt v a b e hw=>by unfold Zco j49x1; rw[if_pos (decide_eq_true a),if_pos (decide_eq_true a),e]; simp[hw]) λt h=>by unfold Zco; rw[if_neg (by simpa using h)]]
 simp
theorem Zuu (o:Zm) (h:Lr o):Z8m o o=some true:=by
 unfold Z8m
 rw[Zf8 _ h.val,eq_wset _ h.ws]
 simp[Z36]
theorem eq_act (a:Qd) (h:Me a):Zbn a a=some true:=by
 unfold Zbn
 rw[Zf8 _ h.loc,Zf8 _ h.stk]
 simp
theorem Y4x (t:Xu) (h:(∀ a∈t.Yu,Me a)∧t.Yu.length≤140737488355328):Zhm t t=some true:=by
 unfold Zhm j62x1
 rw[rfL t.Yu (by have:=h.2; omega) (λi v b c e hw=>by unfold Zj8; rw[if_pos (decide_eq_true b),e]; simp[hw,eq_act v (h.1 v c)]) λi h=>by unfold Zj8; rw[if_neg (by simpa using h)]]
 simp[Jh]
theorem Y51 (l:List Qn) (d:l.length≤140737488355328) (h:∀ b∈l,b.Qt.length≤140737488355328):Zh5 l l=some true:=by
 unfold Zh5
 rw [rfL l (by omega) (λt v a c e hw=>by
  unfold Zfw Zij Zgi Zd5
  rw[if_pos (decide_eq_true a),if_pos (decide_eq_true a),e]
  simp only[Option.bind_some,decide_eq_true a,if_true,e]
  rw[Zf8 _ (h v c)]
  simp[hw]) λt h=>by unfold Zfw; rw[if_neg (by simpa using h),if_neg (by simpa using h)]]
 rfl
theorem eq_rest (m:Z6) (h:V6 m):Zfd m m=some true:=by
 unfold Zfd j35x1
 rw [Y51 _ h.iniL h.ini,
  rfL m.Z7 (by have:=h.heapL; omega) (λt v a b e hw=>by unfold Zgt; rw[if_pos (decide_eq_true a),e]; simp[hw,Zuu v (h.heap v b)]) λt h=>by unfold Zgt; rw[if_neg (by simpa using h)]]
 simp only[Option.bind]
 rw[rfL m.X0 (by have:=h.intL; omega) (λt v a b e hw=>by unfold Zcb; rw[if_pos (decide_eq_true a),e]; simp[hw,Znr]) λt h=>by unfold Zcb; rw[if_neg (by simpa using h)]]
 simp only[]
 rw[rfL m.Y9 (by have:=h.thrL; omega) (λt v a b e hw=>by unfold Zf9; rw[if_pos (decide_eq_true a),e]; simp[hw,Y4x v (h.thr v b)]) λt h=>by unfold Zf9; rw[if_neg (by simpa using h)]]
 simp only[]
 rw[rfL m.Qp (by have:=h.outL; omega) (λt v a b e hw=>by unfold Zep; rw[if_pos (decide_eq_true a),e]; simp[hw]) λt h=>by unfold Zep; rw[if_neg (by simpa using h)]]
 simp
theorem Zqs (m:Z6) (h:V6 m):Z7s m m=some true:=by
 unfold Z7s
 rw[eq_rest m h,Y2p _ h.sp]
 rfl
end Go.Proofs
namespace Go.Proofs
open Go.Den Go.Tot
theorem Z55:Le=some true:=by kernel_rfl
theorem Zkk (l:List Int) (j:l.length≤140737488355328):Z0g l l=some true:=by
 unfold Z0g
 have h:Ok (Z8 (Zci l l) Zb 0) λq=>q=.inl ():=by
  refine li l.length (λt d m=>?_)
  unfold Zci
  refine brD (λc=>?_) λ_=>di rfl
  refine bd (gri d c) λa ⟨_,g⟩=>bd (gri d c) λb ⟨_,f⟩=>brN (λne=>?_) λ_=>bd wr λk i=>?_
  ·rw[g] at f; cases f; exact absurd rfl ne
  ·subst i; exact ni (by omega) (by omega)
 obtain⟨q,e,rfl⟩:=h
 rw[if_neg (by simp),e]; rfl
theorem Y3u {m:Z6} (h:V6 m):∃ b,Z0r m=some b∧(b=true→Uw m):=by
 obtain⟨c,e,a⟩:=valid36 m h
 unfold Z0r
 rw[e]
 split
 ·split
  ·split
   ·exact⟨c,rfl,a⟩
   ·exact⟨_,rfl,λh=>by cases h⟩
  ·exact⟨_,rfl,λh=>by cases h⟩
 ·exact⟨_,rfl,λh=>by cases h⟩
theorem Z7l {m:Z6} (h:V6 m) {x:Option Bool} (a:Uw m→x=some true):
  ((Z0r m).bind λc=>if (!c)=true then Le.bind λd=>some d else x)=some true:=by
 obtain⟨b,e,f⟩:=Y3u h
 rw[e,Option.bind_some,Z55]
 cases b with
 | false=>rfl
 | true=>exact a (f rfl)
end Go.Proofs
namespace Go.Proofs
open Tryz
open Go.Den Go.RowKit Go.ChangeShapes Go.WideShapes
theorem gRef : prog.globalNamed "armature/reachability.references" = some 0 := by kernel_rfl
theorem tRef:(prog.globals[0]?).map (·.type)=some 121:=by kernel_rfl
theorem c9:prog.cellsOf 9=1:=by kernel_rfl
abbrev Ur : List (String × DataW Unit) := [("armature/reachability.references", YtaamfcpmekeahaaGreatDoor.Rows.laid_armature_reachability_references)]
theorem Y7a:(YtaamfcpmekeahaaGreatDoor.Rows.laid_armature_reachability_references:DataW Unit)=.agg (gl0.map λs=> .lit (.string s)):=rfl
theorem Z7u {W:World} (h:laidMetH prog Ur W):Z0y W (Lj W):=by
 rw[MakeChecks.laidMetH_plain _ _ _ (by kernel_rfl)] at h
 obtain⟨ps,⟨g0,t0,cs0,z,p0,q0,e,f,i,k,_,_⟩,_,_⟩:=h
 obtain rfl:=Option.some.inj (gRef.symm.trans e)
 obtain rfl:=Option.some.inj (tRef.symm.trans f)
 obtain⟨xs,A,rfl,a,o,t,m⟩:=DataW.trod_array underlying121 k
 rw[Y7a] at a
 simp only[Prod.mk.injEq,DataW.agg.injEq] at a
 have key:∀ (j:Nat) s,gl0[j]?=some s→∃ b:ByteArray,b.data.toList=s∧W.cell? ⟨0,j,none⟩=some (.string b):=λj s hs=>by
  have u:j<4:=(List.getElem?_eq_some_iff.1 hs).1
  have p:(xs.map (·.1))[j]?=some (.lit (.string s)):=by rw[← a.1,List.getElem?_map,hs]; rfl
  rw[List.getElem?_map] at p
  obtain⟨x,v,c⟩:=Option.map_eq_some_iff.1 p
  have q:=m j u
  rw[v] at q
  obtain⟨b,r,w,_⟩:=DataW.trod_string underlying9 q
  rw[w] at c
  refine⟨b,by simpa using c,?_⟩
  rw[World.var?_cell gRef i j]
  rw[c9,Nat.mul_one] at r
  have:(cs0.toList.drop j)[0]?=some (.string b):=by
   have:=congrArg (·[0]?) r
   simpa using this
  rw[List.getElem?_drop] at this
  simpa using this
 intro g l d
 have n:g=0∧l=gl0:=by
  unfold Zfo at d
  simp only[List.lookup] at d
  split at d
  ·rename_i he
   exact⟨by simpa using he,(Option.some.inj d).symm⟩
  ·cases d
 obtain⟨rfl,rfl⟩:=n
 refine⟨by decide,?_,key⟩
 obtain⟨b,_,y⟩:=key 3 _ rfl
 exact Zy7 y
theorem Zb5 (os:Os) (args:Array Value):laidMetH prog Ur ((World.doorLaid prog 400 os).forCall (λ_ _=>0) ⟨#[],args,[]⟩).memory:=
 laidMetH_of_parts3 (fuel:=8) (laidMet_of_run' 8 (by kernel_rfl) (by kernel_rfl)) (by kernel_rfl) (by kernel_rfl)
end Go.Proofs
