/-
  Objects, what they refer to: the program and the reference. No condition.
-/
import Derived.Test.YtaamfcpmekeahaaGreatDoorGbgX
import Derived.Test.YtaamfcpmekeahaaGreatDoorGbg12
import Derived.Test.YtaamfcpmekeahaaGreatDoorRows
import Derived.Test.YtaamfcpmekeahaaGreatDoorDenClaim
import Derived.LaidMore
import Derived.MakeChecks
import Derived.OpenShut
import Derived.FnData
import Derived.ChangeArms
set_option linter.unusedVariables false
set_option linter.unusedSimpArgs false
namespace Go.Proofs
open Go.Den Go.Tot
theorem Zk8 (l:List Int) (x:Int) (u:l.length≤140737488355328):Z5g l x=some (decide (x∈l)):=by
 have h:Ok (Zhz l x) λi=>(0≤i↔x∈l):=by
  unfold Zhz
  refine bd (P:=λq:Unit⊕Int=>match q with|.inl _=>x ∉ l|.inr i=>0≤i∧x∈l) (lp (λt:Int=>t) l.length (λt=>∀ (j:Nat) v,(j:Int)<t→l[j]?=some v→v≠x) (λt g f s=>?_) (by omega) (λj v b _=>by omega) (by omega) (by omega)) λq hq=>?_
  ·unfold l47x1
   refine brD (λd=>bd (gri f d) λv ⟨o,c⟩=>brE (λe=>dn ⟨f,e ▸ o⟩) λne=>bd wr λk n=>?_) λm=>dn λp=>?_
   ·subst n
    refine nx (λj r b a=>?_) (by omega) (by omega)
    by_cases h:(j:Int)<t
    ·exact g j r h a
    ·have:j=t.toNat:=by omega
     subst this
     rw[c] at a; cases a; exact Ne.symm ne
   ·obtain⟨j,b⟩:=List.mem_iff_getElem?.1 p
    have:=(List.getElem?_eq_some_iff.1 b).1
    exact g j x (by omega) b rfl
  ·cases q with
   | inl _=>exact ok ⟨λh=>absurd h (by decide),λh=>absurd h hq⟩
   | inr i=>exact ok ⟨λ_=>hq.2,λ_=>hq.1⟩
 unfold Z5g
 obtain⟨i,e,c⟩:=h
 rw[e]
 show some (decide (i≥0))=_
 congr 1
 exact decide_eq_decide.2 c
theorem in_eq (l:List Int) (x:Int) (i:l.length≤140737488355328):Zhr l x=some (decide (x∈l)):=by
 have h:Ok (Z8 (Z8f l x) Zb 0) λq=>(q=.inl ()∧∀ v∈l,v≠x)∨(q=.inr true∧∃ v∈l,¬v≠x):=by
  refine Go.Tot.allP (l:=l) (p:=λv=>v≠x) (y:=(Sum.inr true:Unit⊕Bool)) (z:=Sum.inl ()) (by omega) (λt v f a g j e=>?_) ?_
  ·unfold Z8f
   rw[if_pos (by simpa using a),e]
   refine bs (brE (λe=>ok (.inr ⟨rfl,λh=>h e⟩)) λne=>bd wr λk b=>?_)
   subst b
   exact ok (.inl ⟨rfl,ne⟩)
  ·unfold Z8f
   exact brD (λh=>absurd h (by omega)) λ_=>ok rfl
 unfold Zhr
 obtain⟨q,e,hq⟩:=h
 rw[e]
 rcases hq with ⟨rfl,h⟩|⟨rfl,v,c,h⟩
 ·show some false=_
  rw[decide_eq_false λd=>h x d rfl]
 ·show some true=_
  rw[decide_eq_true (by have:=Decidable.not_not.1 h; exact this ▸ c)]
def InN (N:Nat) (l:List Zf):Prop:=∀ v∈l,v.Zj=3→v.f_N≠0→1≤v.f_N∧v.f_N≤N
def NdI (N:Nat) (s:List Int):Prop:=s.Nodup∧∀ x∈s,1≤x∧x≤N
theorem NdI.len {N:Nat} {s:List Int} (h:NdI N s):s.length≤N:=Zam N s h.1 h.2
theorem NdI.step {N:Nat} {s:List Int} {v:Zf} (h:NdI N s) (i:v.Zj=3→v.f_N≠0→1≤v.f_N∧v.f_N≤N):NdI N (Kn s v):=by
 unfold Kn
 split
 ·rename_i d
  refine⟨List.nodup_append.2 ⟨h.1,by simp,λa f b g=>?_⟩,λx c=>?_⟩
  ·rw[List.mem_singleton.1 g]; exact λe=>d.2.2 (e ▸ f)
  ·rcases List.mem_append.1 c with c|c
   ·exact h.2 x c
   ·rw[List.mem_singleton.1 c]; exact i d.1 d.2.1
 ·exact h
theorem wrS {i:Int} (a:0≤i) (b:i≤140737488355328):IntKind.wrap .i64 (i+1)=i+1:=J5 (by omega) (by omega)
theorem gk8 {N:Nat} {s:List Int} (h:NdI N s) (hN:N≤5001) (x:Int):Yp 8 (s++[x]).length=some ():=by
 have:=h.len
 unfold Yp
 rw[if_pos (by simp; omega)]
theorem Y70 {N:Nat} (hN:N≤5001) (l:List Zf) (i:InN N l) (j:l.length≤140737488355328):Zhy l=some (vtg l):=by
 unfold Zhy
 have:=K9 (l:=l) (f:=Z93 l) (λt s=>(t,s)) Kn id (NdI N) (λs x hs d=>hs.step (i x d)) (λt s x g h hs d e=>?_) (λs hs=>?_) (s0:=[]) ⟨List.nodup_nil,λx d=>(List.not_mem_nil d).elim⟩ (by omega)
 ·rw[this]; rfl
 ·unfold Z93
  dsimp only
  rw[if_pos (by simpa using h),e]
  simp only[Option.bind_some]
  have hsl:s.length≤140737488355328:=by have:=hs.len; omega
  rw[wrS g (by omega),Zk8 s _ hsl]
  unfold Kn
  by_cases a:x.Zj=3
  ·by_cases b:x.f_N=0
   ·simp[a,b]
   ·by_cases c:x.f_N∈s
    ·simp[a,b,c]
    ·simp only[a,b,c,beq_self_eq_true,if_true,bne_iff_ne,ne_eq,not_false_eq_true,and_self,decide_false,Bool.not_false,Option.bind_some]
     unfold j57x1
     rw[gk8 hs hN]
     simp only[Option.bind_some]
     rw[wrS g (by omega)]
  ·simp[a]
 ·unfold Z93
  dsimp only
  rw[if_neg (by simp)]; rfl
theorem Zuo {N:Nat} (hN:N≤5001) (g:Zm×Bool) (d:Nat) (k:d≤g.1.Zw.length) (m:InN N g.1.Zw) (n:g.1.Zw.length≤140737488355328):Z1b g d=some (vtg (g.1.Zw.drop d)):=by
 unfold Z1b
 have:=Zsx (l:=g.1.Zw) (f:=Z1e g) (λt s=>(t,s)) Kn id (NdI N) (λs x hs h=>hs.step (m x h)) (λt s x i j hs h e=>?_) (λs hs=>?_) (g.1.Zw.drop d) (g.1.Zw.take d) [] Zb (by simp) ⟨List.nodup_nil,λx h=>(List.not_mem_nil h).elim⟩ (by simp; unfold Zb; omega)
 ·rw[List.length_take,Nat.min_eq_left k] at this
  rw[this]; rfl
 ·unfold Z1e
  dsimp only
  rw[if_pos (by simpa using j),e]
  simp only[Option.bind_some]
  have hsl:s.length≤140737488355328:=by have:=hs.len; omega
  rw[wrS i (by omega),in_eq s _ hsl]
  unfold Kn
  by_cases a:x.Zj=3
  ·by_cases b:x.f_N=0
   ·simp[a,b]
   ·by_cases c:x.f_N∈s
    ·simp[a,b,c]
    ·simp only[a,b,c,beq_self_eq_true,if_true,bne_iff_ne,ne_eq,not_false_eq_true,and_self,decide_false,Bool.not_false,Option.bind_some]
     unfold j81x2
     rw[gk8 hs hN]
     simp only[Option.bind_some]
     rw[wrS i (by omega)]
  ·simp[a]
 ·unfold Z1e
  dsimp only
  rw[if_neg (by simp)]; rfl
def zeroO:Zm:={ Zj:=0,Zt:={ Xl:=0,Yw:=0,Zy:=0 },Zw:=[],Yx:=[],Xr:=0,Xd:=0,Xk:=[] }
def objP (m:Z6) (n:Int):Zm×Bool:=match Q9 m n with|some o=>(o,true)|none=>(zeroO,false)
theorem Zbx (m:Z6) (n:Int) (hH:m.Z7.length≤140737488355328):Ul m n=some (Q9 m n).isSome:=by
 unfold Ul Q9
 by_cases a:n≥1
 ·by_cases d:n≤(m.Z7.length:Int)
  ·have c:(n - 1).toNat<m.Z7.length:=by omega
   rw[if_pos (by simpa using a),if_pos (by simpa using d),if_pos (show 1≤n from a)]
   rw[Option.bind_some,J5 (by omega) (by omega)]
   unfold Z4
   rw[if_pos (by omega),List.getElem?_eq_getElem c]
   simp only[Option.bind_some]
   by_cases b:m.Z7[(n - 1).toNat].Zj=0
   ·rw[if_pos b,b]; rfl
   ·rw[if_neg b,show (m.Z7[(n - 1).toNat].Zj !=0)=true from bne_iff_ne.2 b]; rfl
  ·rw[if_pos (by simpa using a),if_neg (by simpa using d),if_pos (show 1≤n from a),List.getElem?_eq_none (by omega)]; rfl
 ·rw[if_neg (by simpa using a),if_neg (show ¬1≤n from a)]; rfl
theorem Y49 (m:Z6) (n:Int):Znr m n=Ul m n:=rfl
theorem Zu8 (m:Z6) (n:Int) (hH:m.Z7.length≤140737488355328):Z1v m n=some (objP m n)∧Z1s m n=some (objP m n):=by
 have key:Z1v m n=some (objP m n):=by
  unfold Z1v objP
  rw[Y49,Zbx m n hH]
  cases c:Q9 m n with
  | none=>rfl
  | some o=>
   obtain⟨d,a,e⟩:=Jl.1 c
   have b:=(List.getElem?_eq_some_iff.1 a).1
   simp only[Option.isSome_some,Option.bind_some,Bool.not_true,Bool.false_eq_true,if_false]
   rw[J5 (by omega) (by omega)]
   unfold Z4
   rw[if_pos (by omega),a]; rfl
 refine⟨key,?_⟩
 rw[← key]
 rfl
theorem Y6p (o:Zm) (k:Int) (d:0≤k):Zhx o k=some (o.Zw.drop (if 0<k then 1 else 0),if k=0 then 0 else match o.Zw with|v::_=>if v.Zj=3 then v.f_N else 0|[] =>0):=by
 unfold Zhx
 by_cases h:k=0
 ·subst h; simp
 ·rw[if_neg (by simpa using h),if_neg h,if_pos (show 0<k by omega)]
  cases c:o.Zw with
  | nil=>simp
  | cons v r=>
   rw[if_neg (by simp; omega)]
   unfold j56x1
   rw[c]
   have hs:sub (v::r) 1 ((v::r).length:Int)=some r:=by
    unfold sub
    rw[if_pos (by simp; omega)]
    simp
   have b:Z4 (v::r) 0=some v:=rfl
   rw[b,hs]
   simp only[Option.bind_some,List.drop_succ_cons,List.drop_zero]
   by_cases a:v.Zj=3
   ·simp[a]
   ·simp[a]
end Go.Proofs
namespace Go.Proofs
open Go.Den Go.Tot
def lkR (l:List Q2) (s:List UInt8):Int×Bool:=match lkp l s with|some c=>(c,true)|none=>(0,false)
theorem Y54 {l:List Q2} {s:List UInt8} (h:∀ x∈l,¬(x.Xn=0∧x.Zn=s)):lkp l s=none:=by
 unfold lkp
 rw[List.find?_eq_none.2 λx a=>by have:=h x a; simpa using this]; rfl
theorem lkp_at {l:List Q2} {s:List UInt8} {j:Nat} {x:Q2} (c:l[j]?=some x) (d:x.Xn=0∧x.Zn=s) (h:∀ (i:Nat) y,i<j→l[i]?=some y→ ¬(y.Xn=0∧y.Zn=s)):lkp l s=some x.Zy:=by
 unfold lkp
 have:l.find? (λx=>x.Xn==0&&x.Zn==s)=some x:=by
  refine List.find?_eq_some_iff_getElem.2 ⟨by simp[d.1,d.2],j,(List.getElem?_eq_some_iff.1 c).1,(List.getElem?_eq_some_iff.1 c).2,λi e=>?_⟩
  have f:=(List.getElem?_eq_some_iff.1 c).1
  have:=h i l[i] e (List.getElem?_eq_getElem _)
  simp only[Bool.not_eq_true',Bool.and_eq_false_iff,beq_eq_false_iff_ne,ne_eq]
  by_cases a:l[i].Xn=0
  ·exact .inr λb=>this ⟨a,b⟩
  ·exact .inl a
 rw[this]; rfl
theorem Zsv {l:List Q2} {s:List UInt8} (v:l.length≤140737488355328) {f:Int→Option (Ctl Int (Unit⊕(Int×Bool)))}
  (h:∀ t x,0≤t→t<(l.length:Int)→Z4 l t=some x→f t=some (if x.Xn=0∧x.Zn=s then .done (.inr (x.Zy,true)) else .next (t+1))) (he:f l.length=some (.done (.inl ()))):
  (Z8 f Zb 0).bind (λq=>match q with|.inl _=>some (0,false)|.inr y=>some y)=some (lkR l s):=by
 have key:Ok (Z8 f Zb 0) λq=>(match q with|.inl _=>some ((0:Int),false)|.inr y=>some y)=some (lkR l s):=by
  refine lp (λt:Int=>t) l.length (λt=>∀ (i:Nat) y,(i:Int)<t→l[i]?=some y→ ¬(y.Xn=0∧y.Zn=s)) (λt c m u=>?_) (by omega) (λi y d _=>by omega) (by omega) (by omega)
  rcases Int.lt_or_le t l.length with a|r
  ·obtain⟨x,e,o,d⟩:=gri (l:=l) m a
   rw[h t x m a e]
   by_cases b:x.Xn=0∧x.Zn=s
   ·rw[if_pos b]
    refine dn ?_
    unfold lkR
    rw[lkp_at d b λi y g=>c i y (by omega)]
   ·rw[if_neg b]
    refine nx (λi y g k=>?_) (by omega) (by omega)
    by_cases p:(i:Int)<t
    ·exact c i y p k
    ·have:i=t.toNat:=by omega
     subst this
     rw[d] at k; cases k; exact b
  ·have:t=l.length:=by omega
   subst this
   rw[he]
   refine dn ?_
   unfold lkR
   rw[Y54 λx o=>?_]
   obtain⟨j,n⟩:=List.mem_iff_getElem?.1 o
   have:=(List.getElem?_eq_some_iff.1 n).1
   exact c j x (by omega) n
 obtain⟨q,e,hq⟩:=key
 rw[e]; exact hq
theorem foundP (w:Zq) (s:List UInt8) (f:w.Yr.length≤140737488355328):Zaf w 0 s=some (lkR w.Yr s):=by
 unfold Zaf
 refine Zsv f (λt x c d e=>?_) ?_
 ·unfold Zey
  rw[if_pos (by simpa using d),e]
  simp only[Option.bind_some]
  rw[wrS c (by omega)]
  by_cases a:x.Xn=0
  ·by_cases b:x.Zn=s
   ·simp[a,b]
   ·simp[a,b]
  ·simp[a]
 ·unfold Zey
  rw[if_neg (by simp)]
theorem foundR (w:Zq) (s:List UInt8) (f:w.Yr.length≤140737488355328):Z34 w 0 s=some (lkR w.Yr s):=by
 unfold Z34
 have:Z35 w 0 s=some (lkR w.Yr s):=by
  unfold Z35
  refine Zsv f (λt x c d e=>?_) ?_
  ·unfold Z98
   rw[if_pos (by simpa using d),e]
   simp only[Option.bind_some]
   rw[wrS c (by omega)]
   by_cases a:x.Xn=0
   ·by_cases b:x.Zn=s
    ·simp[a,b]
    ·simp[a,b]
   ·simp[a]
  ·unfold Z98
   rw[if_neg (by simp)]
 rw[this]; rfl
theorem subP (w:Zq) (e:Vy w) (a b:Int):Zag w a b=some (subB w a b)∧Z56 w a b=some (subB w a b):=by
 obtain⟨r,c,d,_⟩:=sub_eq w e a b
 unfold subB
 rw[c,d]; exact⟨rfl,rfl⟩
theorem Zpr (w:Zq) (b:Vy w) (a:w.Yr.length≤140737488355328) (c:Int) (s:List UInt8):Z5c w c s=some (Ld w c s):=by
 unfold Z5c Ld
 rw[foundR w s a]
 unfold lkR
 cases lkp w.Yr s with
 | none=>rfl
 | some k=>
  simp only[Option.bind_some,if_true]
  rw[(subP w b c k).2]; rfl
def stK (w:Zq) (t:Int) (c:Int):Int:=if 4≤t∧Ld w c Zi2=true then 3 else if 3≤t∧Ld w c Zi3=true then 2 else if 2≤t∧Ld w c Zi1=true then 1 else 0
theorem stK_4 (w:Zq) (c:Int):stK w 4 c=K0 w c:=by unfold stK K0; simp
def Tbl (w:Zq) (f:Int→Int) (l:List Int):Prop:=l.length=w.Y6.length∧∀ (j:Nat),j<l.length→l[j]?=some (f j)
theorem inner34 {w:Zq} (u:Vy w) {f:Int→Int} {k:Int} {l:List Int} (y:Tbl w f l) {v:Int×Bool}:Ok (Z8 (Z8u (k,l) v w) Zb (0,l)) λq=>Tbl w (λc=>if subB w c v.1=true then k else f c) q:=by
 have s:=u.few
 obtain⟨A,z⟩:=y
 refine lp (λt:Int×List Int=>t.1) l.length (λt=>t.2.length=l.length∧∀ (j:Nat),j<l.length→t.2[j]?=some (if (j:Int)<t.1∧subB w j v.1=true then k else f j)) (λt ⟨b,d⟩ x C=>?_) (by omega) ⟨rfl,λj g=>by dsimp only; rw[if_neg (by omega)]; exact z j g⟩
 unfold Z8u
 refine brD (λe=>?_) λm=>dn ⟨b.trans A,λj g=>?_⟩
 ·rw[(subP w u t.1 v.1).1,Option.bind_some]
  refine br (λhs=>bd (ik x (by dsimp only at e; omega)) λn ⟨B,r⟩=>bd (la r) λ_ _=>bd wr λi o=>?_) λhs=>bd wr λi o=>?_
  ·subst o; subst B
   refine nx ⟨by simpa using b,λj g=>?_⟩ (by dsimp only; omega) (by dsimp only at e ⊢; omega)
   dsimp only
   rw[List.getElem?_set]
   by_cases h:t.1.toNat=j
   ·rw[if_pos h,if_pos (by omega)]
    have p:(j:Int)=t.1:=by omega
    rw[p,if_pos ⟨by omega,hs⟩]
   ·rw[if_neg h,d j g]
    congr 1
    by_cases a:(j:Int)<t.1
    ·simp[a,show (j:Int)<t.1+1 by omega]
    ·simp[a,show ¬(j:Int)<t.1+1 by omega]
  ·subst o
   refine nx ⟨b,λj g=>?_⟩ (by dsimp only; omega) (by dsimp only at e ⊢; omega)
   dsimp only
   rw[d j g]
   congr 1
   by_cases h:(j:Int)=t.1
   ·rw[h,hs]; simp
   ·by_cases a:(j:Int)<t.1
    ·simp[a,show (j:Int)<t.1+1 by omega]
    ·simp[a,show ¬(j:Int)<t.1+1 by omega]
 ·dsimp only at m
  rw[d j (by omega)]
  congr 1
  simp[show (j:Int)<t.1 by omega]
theorem Zz7 (w:Zq) (u:Vy w) (z:w.Yr.length≤140737488355328):Ok (Zai w) λq=>Tbl w (K0 w) q:=by
 have r:=u.few
 unfold Zai
 refine bd mk λ_ _=>?_
 refine bd (P:=λq=>Tbl w (K0 w) q) (lp (λt:Int×List Int=>t.1) 4 (λt=>1≤t.1∧Tbl w (stK w t.1) t.2) (λt ⟨g,d⟩ v x=>?_) (by omega) ⟨by dsimp only; omega,by simp,λj a=>?_⟩) λq hq=>ok hq
 ·obtain⟨k,l⟩:=t
  dsimp only at g d v x
  unfold l52x1
  refine brD (λi=>?_) λh=>dn ?_
  ·dsimp only at i
   have y:k=1∨k=2∨k=3:=by omega
   have main:∀ s:List UInt8,Z4 gl0 k=some s→(∀ c,stK w (k+1) c=if Ld w c s=true then k else stK w k c)→Ok ((Z4 gl0 (k,l).1).bind λm=>(Zaf w 0 m).bind λf=>
     if (!f.2)=true then ((some (IntKind.wrap .i64 ((k,l).1+(1:Int)))).bind λn=>some (.next (n,(k,l).2))) else
     ((Z8 (Z8u (k,l) f w) Zb (0,(k,l).2)).bind λA=>(some (IntKind.wrap .i64 ((k,l).1+(1:Int)))).bind λo=>some (.next (o,A))))
     (St (λt:Int×List Int=>1≤t.1∧Tbl w (stK w t.1) t.2) (λt=>t.1) 4 (λq:List Int=>Tbl w (K0 w) q) (k,l)):=λs e hs=>by
    dsimp only
    rw[e]
    simp only[Option.bind_some]
    rw[foundP w s z]
    simp only[Option.bind_some]
    unfold lkR
    cases p:lkp w.Yr s with
    | none=>
     simp only[Bool.not_false,if_true]
     rw[wrS (by omega) (by omega)]
     refine nx ⟨by dsimp only; omega,d.1,λj a=>?_⟩
     dsimp only
     rw[d.2 j a,hs]
     unfold Ld
     rw[p]; rfl
    | some b=>
     simp only[Bool.not_true,Bool.false_eq_true,if_false]
     refine bd (inner34 u d) λq hq=>?_
     rw[wrS (by omega) (by omega)]
     refine nx ⟨by dsimp only; omega,hq.1,λj a=>?_⟩
     dsimp only
     rw[hq.2 j a,hs]
     unfold Ld
     rw[p]
   rcases y with e|e|e
   ·subst e; exact main Zi1 rfl λc=>by unfold stK; simp
   ·subst e; exact main Zi3 rfl λc=>by unfold stK; simp
   ·subst e; exact main Zi2 rfl λc=>by unfold stK; simp
  ·dsimp only at h ⊢
   have:k=4:=by omega
   subst this
   exact⟨d.1,λj a=>by rw[d.2 j a,stK_4]⟩
 ·dsimp only
  rw[List.getElem?_replicate,if_pos (by simpa using a)]
  unfold stK; simp
theorem Zz6 {w:Zq} {q:List Int} (hq:Tbl w (K0 w) q) (o:Zm) (b:o.Zj=1→0≤o.Zt.Zy∧o.Zt.Zy<w.Y6.length):Zah q o=some (Wr w o):=by
 unfold Zah Wr
 by_cases h:o.Zj=1
 ·obtain⟨a,c⟩:=b h
  rw[if_neg (by simpa using h),if_pos h]
  unfold Z4
  rw[if_pos a,hq.2 _ (by rw[hq.1]; omega)]
  rw[show ((o.Zt.Zy.toNat:Nat):Int)=o.Zt.Zy by omega]; rfl
 ·rw[if_pos (by simpa using h),if_neg h]
end Go.Proofs
namespace Go.Proofs
open Go.Den Go.Tot
def InR (N:Nat) (n:Int):Prop:=n=0∨(1≤n∧n≤N)
def InL (N:Nat) (l:List Zf):Prop:=∀ v∈l,v.Zj=3→InR N v.f_N
theorem pObj {s:List Bool} {n:Int} (c:InR s.length n) (hs:s.length≤140737488355328):Kc s n=some (mkO s n):=by
 unfold Kc mkO
 rcases c with e|⟨a,b⟩
 ·subst e
  rw[if_neg (by decide),if_neg (by omega)]
 ·rw[if_pos (by simp; omega),if_pos ⟨a,b⟩,Option.bind_some,J5 (by omega) (by omega)]
  unfold X7
  rw[if_pos (by omega),Option.bind_some,List.getElem?_eq_getElem (by omega)]; rfl
theorem rObj {s:List Bool} {n:Int} (hs:s.length≤140737488355328):Mi s n=some (mkO s n):=by
 unfold Mi mkO
 by_cases a:n≥1
 ·by_cases b:n≤(s.length:Int)
  ·rw[if_pos (by simpa using a),if_pos (by simpa using b),if_pos ⟨a,b⟩]
   unfold j44x1
   rw[Option.bind_some,J5 (by omega) (by omega)]
   unfold X7
   rw[if_pos (by omega),Option.bind_some,List.getElem?_eq_getElem (by omega)]; rfl
  ·rw[if_pos (by simpa using a),if_neg (by simpa using b),if_neg (by omega)]
 ·rw[if_neg (by simpa using a),if_neg (by omega)]
theorem Ztx (s:List Bool) (v:Zf):(Z0t s v).length=s.length:=by unfold Z0t; split; exact Vt _ _; rfl
theorem Z5h (s:List Bool) (l:List Zf):(mkV s l).length=s.length:=(MkS.vals l).len s
theorem Ztv (s:List Bool) (a:Qb):(mkA s a).length=s.length:=(MkS.act a).len s
theorem Ztw (s:List Bool) (t:Xu):(mkT s t).length=s.length:=(MkS.thr t).len s
theorem pVals {N:Nat} {s:List Bool} {l:List Zf} (hN:s.length=N) (d:N≤140737488355328) (g:InL N l) (i:l.length≤140737488355328):Z0k s l=some (mkV s l):=by
 unfold Z0k mkV
 have:=K9 (l:=l) (f:=Z1f l) (λt s=>(t,s)) Z0t id (λs=>s.length=N) (λs x hs _=>(Ztx s x).trans hs) (λt s x b c hs h e=>?_) (λs hs=>?_) hN (by omega)
 ·rw[this]; rfl
 ·unfold Z1f
  dsimp only
  rw[if_pos (by simpa using c),e]
  simp only[Option.bind_some]
  rw[wrS b (by omega)]
  unfold Z0t
  by_cases a:x.Zj=3
  ·rw[if_pos (by simpa using a),if_pos a,pObj (hs ▸ g x h a) (by omega)]; rfl
  ·rw[if_neg (by simpa using a),if_neg a]
 ·unfold Z1f
  dsimp only
  rw[if_neg (by simp)]; rfl
theorem rVals {N:Nat} {s:List Bool} {l:List Zf} (hN:s.length=N) (d:N≤140737488355328) (g:l.length≤140737488355328):Z1t s l=some (mkV s l):=by
 unfold Z1t mkV
 have:=K9 (l:=l) (f:=Z8t l) (λt s=>(t,s)) Z0t id (λs=>s.length=N) (λs x hs _=>(Ztx s x).trans hs) (λt s x b c hs h e=>?_) (λs hs=>?_) hN (by omega)
 ·rw[this]; rfl
 ·unfold Z8t
  dsimp only
  rw[if_pos (by simpa using c),e]
  simp only[Option.bind_some]
  rw[wrS b (by omega)]
  unfold Z0t
  by_cases a:x.Zj=3
  ·rw[if_pos (by simpa using a),if_pos a,rObj (by omega)]; rfl
  ·rw[if_neg (by simpa using a),if_neg a]
 ·unfold Z8t
  dsimp only
  rw[if_neg (by simp)]; rfl
structure InM (N:Nat) (m:Z6):Prop where
 thr:∀ t∈m.Y9,InR N t.Xj∧InR N t.V2∧InR N t.Vn∧InL N [t.Qr]∧∀ a∈t.Yu,InR N a.Vo∧InL N a.Y1∧InL N a.Y5
 ini:∀ r∈m.Xb,InL N r.Qt
 int:∀ x∈m.X1,InR N x.Xj
theorem InM.of {m:Z6} (h:∀ x,refM m x→InR m.Z7.length x):InM m.Z7.length m where
 thr:=λt c=>⟨h _ (.inl ⟨t,c,.inl rfl⟩),h _ (.inl ⟨t,c,.inr (.inl rfl)⟩),h _ (.inl ⟨t,c,.inr (.inr (.inl rfl))⟩),λv d b=>by
  rw[List.mem_singleton.1 d] at b ⊢
  exact h _ (.inl ⟨t,c,.inr (.inr (.inr (.inl ⟨b,rfl⟩)))⟩),λa e=>
  ⟨h _ (.inl ⟨t,c,.inr (.inr (.inr (.inr ⟨a,e,.inl rfl⟩)))⟩),λv d b=>h _ (.inl ⟨t,c,.inr (.inr (.inr (.inr ⟨a,e,.inr (.inl ⟨v,d,b,rfl⟩)⟩)))⟩),λv d b=>h _ (.inl ⟨t,c,.inr (.inr (.inr (.inr ⟨a,e,.inr (.inr ⟨v,d,b,rfl⟩)⟩)))⟩)⟩⟩
 ini:=λr f v d b=>h _ (.inr (.inl ⟨r,f,v,d,b,rfl⟩))
 int:=λx g=>h _ (.inr (.inr ⟨x,g,rfl⟩))
def mks1 (m:Z6):List Bool:=m.Y9.foldl mkT (List.replicate m.Z7.length false)
def mks2 (m:Z6):List Bool:=m.Xb.foldl (λs r=>mkV s r.Qt) (mks1 m)
theorem Znu (m:Z6):(mks1 m).length=m.Z7.length:=((MkS.fold (f:=mkT) m.Y9 λt _=>MkS.thr t).len _).trans (by simp)
theorem Zty (m:Z6):(mks2 m).length=m.Z7.length:=((MkS.fold (f:=λ(s:List Bool) (r:Qn)=>mkV s r.Qt) (P:=λ(r:Qn) x=>∃ v∈r.Qt,Z23 v x) m.Xb λr _=>MkS.vals r.Qt).len _).trans (Znu m)
theorem Zuv:∀ (s:List Bool) (l:List Zm) (i:Int) (b:Bool) (o:Zm),s.length=l.length→Vl (s++[b]) (l++[o]) i=Vl s l i++(if b||Lq o then [i+l.length] else [])
 | [],[],i,b,o,_=>by
  simp only[List.nil_append,Vl,List.length_nil]
  split <;> simp
 | x::s,y::l,i,b,o,h=>by
  have ih:=Zuv s l (i+1) b o (by simpa using h)
  simp only[List.cons_append,Vl,ih,List.length_cons]
  have e:i+1+(l.length:Int)=i+((l.length+1:Nat):Int):=by omega
  rw[e]
  split <;> simp
 | [],y::l,i,b,o,h=>by simp at h
 | x::s,[],i,b,o,h=>by simp at h
theorem Y60 (s:List Bool) (l:List Zm) (k:Nat) (b:Bool) (o:Zm) (a:s[k]?=some b) (c:l[k]?=some o):Vl (s.take (k+1)) (l.take (k+1)) 1=Vl (s.take k) (l.take k) 1++(if b||Lq o then [(k:Int)+1] else []):=by
 have d:=(List.getElem?_eq_some_iff.1 a).1
 have e:=(List.getElem?_eq_some_iff.1 c).1
 rw[List.take_add_one,List.take_add_one,a,c]
 have:=Zuv (s.take k) (l.take k) 1 b o (by simp; omega)
 rw[List.length_take,Nat.min_eq_left (by omega)] at this
 simp only[Option.toList_some]
 rw[this,Int.add_comm]
theorem Zuu:∀ (s:List Bool) (l:List Zm) (i:Int),(Vl s l i).length≤l.length
 | [],l,i=>by simp[Vl]
 | b::s,[],i=>by simp[Vl]
 | b::s,o::l,i=>by
  have:=Zuu s l (i+1)
  unfold Vl
  split <;> simp <;> omega
theorem Zth {m:Z6} {q:List Bool} (hq:q.length=m.Z7.length) (hH:m.Z7.length≤5001) {f:Int×List Int→Option (Ctl (Int×List Int) (List Int))}
  (h:∀ t s b o,0≤t→t<(m.Z7.length:Int)→s.length≤5001→q[t.toNat]?=some b→m.Z7[t.toNat]?=some o→f (t,s)=some (.next (t+1,if b||Lq o then s++[t+1] else s))) (he:∀ s,f (m.Z7.length,s)=some (.done s)):
  Z8 f Zb (0,[])=some (Vl q m.Z7 1):=by
 have key:Ok (Z8 f Zb (0,[])) λr=>r=Vl q m.Z7 1:=by
  refine lp (λt:Int×List Int=>t.1) m.Z7.length (λt=>t.2=Vl (q.take t.1.toNat) (m.Z7.take t.1.toNat) 1) (λt a d j=>?_) (by omega) (by simp[Vl])
  obtain⟨t,s⟩:=t
  dsimp only at a d j
  rcases Int.lt_or_le t m.Z7.length with c|k
  ·have g:q[t.toNat]?=some q[t.toNat] :=List.getElem?_eq_getElem (by omega)
   have i:m.Z7[t.toNat]?=some m.Z7[t.toNat] :=List.getElem?_eq_getElem (by omega)
   rw[h t s _ _ d c (by rw[a]; exact Nat.le_trans (Zuu _ _ _) (by simp; omega)) g i]
   refine nx ?_
   dsimp only
   have:=Y60 q m.Z7 t.toNat _ _ g i
   rw[show (t+1).toNat=t.toNat+1 by omega,this,a,show ((t.toNat:Nat):Int)=t by omega]
   split <;> simp
  ·have:t=m.Z7.length:=by omega
   subst this
   rw[he]
   refine dn ?_
   rw[a]
   simp only[Int.toNat_natCast]
   rw[List.take_of_length_le (by omega),List.take_of_length_le (by omega)]
 obtain⟨r,e,l⟩:=key
 rw[e,l]
theorem mkS0 {n:Nat} (h:n≤5001):W2 1 (n:Int) (n:Int)=some ():=by unfold W2; rw[if_pos (by omega)]
theorem gkR {s:List Int} (h:s.length≤5001) (x:Int):Yp 8 (s++[x]).length=some ():=by unfold Yp; rw[if_pos (by simp; omega)]
theorem rootsR {m:Z6} (p:MSz m) (hH:m.Z7.length≤5001):Z38 m=some (U3 m):=by
 unfold Z38
 rw[mkS0 hH,Option.bind_some]
 have g:∀ (s:List Bool) (n:Int),s.length=m.Z7.length→Mi s n=some (mkO s n):=λs n hs=>rObj (by omega)
 have h:∀ (s:List Bool) (l:List Zf),s.length=m.Z7.length→l.length≤140737488355328→Z1t s l=some (mkV s l):=λs l hs D=>rVals hs (by omega) D
 have u:∀ (s:List Bool) (t:Xu),t∈m.Y9→s.length=m.Z7.length→Zhs s t=some (mkT s t):=λs t v hs=>by
  unfold Zhs mkT
  rw[g _ _ hs,Option.bind_some,g _ _ (by rw[Vt]; exact hs),Option.bind_some,g _ _ (by rw[Vt,Vt]; exact hs),Option.bind_some,h _ _ (by rw[Vt,Vt,Vt]; exact hs) (by simp),Option.bind_some]
  have:=K9 (l:=t.Yu) (f:=Z8s t) (λt s=>(t,s)) mkA id (λs=>s.length=m.Z7.length) (λs x hs _=>(Ztv s x).trans hs) (λk s x j i hs q e=>?_) (λs hs=>?_) (s0:=mkV (mkO (mkO (mkO s t.Xj) t.V2) t.Vn) [t.Qr]) (by rw[Z5h,Vt,Vt,Vt]; exact hs) (by have:=(p.act t v).1; omega)
  ·rw[this]; rfl
  ·have y:=(p.act t v).1
   have w:=(p.act t v).2 x q
   unfold Z8s
   dsimp only
   rw[if_pos (by simpa using i),e]
   simp only[Option.bind_some]
   rw[g _ _ hs,Option.bind_some,h _ _ (by rw[Vt]; exact hs) w.1,Option.bind_some,h _ _ (by rw[Z5h,Vt]; exact hs) w.2,Option.bind_some,wrS j (by omega)]
   rfl
  ·unfold Z8s
   dsimp only
   rw[if_neg (by simp)]; rfl
 have i:=K9 (l:=m.Y9) (f:=Z8o m) (λt s=>(t,s)) mkT id (λs=>s.length=m.Z7.length) (λs x hs _=>(Ztw s x).trans hs) (λt s x j i hs q e=>by
  have:=p.thr
  unfold Z8o
  dsimp only
  rw[if_pos (by simpa using i),e]
  simp only[Option.bind_some]
  rw[u s x q hs,Option.bind_some,wrS j (by omega)]) (λs hs=>by unfold Z8o; dsimp only; rw[if_neg (by simp)]; rfl) (s0:=List.replicate m.Z7.length false) (by simp) (by have:=p.thr; omega)
 have z:=K9 (l:=m.Xb) (f:=Z4g m) (λt s=>(t,s)) (λs r=>mkV s r.Qt) id (λs=>s.length=m.Z7.length) (λs x hs _=>(Z5h s _).trans hs) (λt s x j i hs q e=>by
  have:=p.ini2
  unfold Z4g
  dsimp only
  rw[if_pos (by simpa using i),e]
  simp only[Option.bind_some]
  rw[h s _ hs (p.sta x q),Option.bind_some,wrS j (by omega)]) (λs hs=>by unfold Z4g; dsimp only; rw[if_neg (by simp)]; rfl) (Znu m) (by have:=p.ini2; omega)
 have A:=K9 (l:=m.X1) (f:=Z4h m) (λt s=>(t,s)) (λs x=>mkO s x.Xj) id (λs=>s.length=m.Z7.length) (λs x hs _=>(Vt s _).trans hs) (λt s x j i hs q e=>by
  have:=p.intr
  unfold Z4h
  dsimp only
  rw[if_pos (by simpa using i),e]
  simp only[Option.bind_some]
  rw[g s _ hs,Option.bind_some,wrS j (by omega)]) (λs hs=>by unfold Z4h; dsimp only; rw[if_neg (by simp)]; rfl) (Zty m) (by have:=p.intr; omega)
 rw[Int.toNat_natCast,i]
 show ((Z8 (Z4g m) Zb (0,mks1 m)).bind _)=_
 rw[z]
 show ((Z8 (Z4h m) Zb (0,mks2 m)).bind _)=_
 rw[A]
 show ((Z8 (Z8p (marks m) m) Zb (0,[])).bind _)=_
 rw[Zth (Zaj m).1 hH (λt s b o j i hs y E=>?_) λs=>?_]
 ·rfl
 ·have B:Z4 m.Z7 t=some o:=by unfold Z4; rw[if_pos j]; exact E
  have C:X7 t (marks m).length=some t.toNat:=by unfold X7; rw[if_pos ⟨j,by rw[(Zaj m).1]; exact i⟩]
  unfold Z8p Z7w
  dsimp only
  rw[if_pos (by simpa using i),C]
  simp only[Option.bind_some]
  rw[y,B,wrS j (by omega),gkR hs]
  simp only[Option.bind_some]
  unfold Lq
  by_cases a:b=true
  ·simp[a]
  ·by_cases c:o.Xr=0
   ·by_cases d:0<o.Xk.length
    ·simp[a,c,d]
    ·simp[a,c,d]
   ·simp[a,c]
 ·unfold Z8p
  dsimp only
  rw[if_neg (by simp)]
end Go.Proofs
namespace Go.Proofs
open Go.Den Go.Tot
theorem rootsP1 {m:Z6} (p:MSz m) (hH:m.Z7.length≤5001) (w:InM m.Z7.length m):Zfa m=some (U3 m):=by
 unfold Zfa
 rw[mkS0 hH,Option.bind_some]
 have g:∀ (s:List Bool) (n:Int),s.length=m.Z7.length→InR m.Z7.length n→Kc s n=some (mkO s n):=λs n hs F=>pObj (hs ▸ F) (by omega)
 have h:∀ (s:List Bool) (l:List Zf),s.length=m.Z7.length→InL m.Z7.length l→l.length≤140737488355328→Z0k s l=some (mkV s l):=λs l hs E u=>pVals hs (by omega) E u
 have i:=K9 (l:=m.Y9) (f:=Z8v m) (λt s=>(t,s)) mkT id (λs=>s.length=m.Z7.length) (λs x hs _=>(Ztw s x).trans hs) (λt s x j i hs q e=>by
  have:=p.thr
  obtain⟨i1,i2,H,I,J⟩:=w.thr x q
  unfold Z8v
  dsimp only
  rw[if_pos (by simpa using i),e]
  simp only[Option.bind_some]
  rw[g _ _ hs i1,Option.bind_some,g _ _ (by rw[Vt]; exact hs) i2,Option.bind_some,g _ _ (by rw[Vt,Vt]; exact hs) H,Option.bind_some,h _ _ (by rw[Vt,Vt,Vt]; exact hs) I (by simp),Option.bind_some]
  have v:=K9 (l:=x.Yu) (f:=Z8w x) (λt s=>(t,s)) mkA id (λs=>s.length=m.Z7.length) (λs x hs _=>(Ztv s x).trans hs) (λk s y j i hs A e=>by
   have u:=(p.act x q).1
   have z:=(p.act x q).2 y A
   obtain⟨j1,j2,K⟩:=J y A
   unfold Z8w
   dsimp only
   rw[if_pos (by simpa using i),e]
   simp only[Option.bind_some]
   rw[g _ _ hs j1,Option.bind_some,h _ _ (by rw[Vt]; exact hs) j2 z.1,Option.bind_some,h _ _ (by rw[Z5h,Vt]; exact hs) K z.2,Option.bind_some,wrS j (by omega)]
   rfl) (λs hs=>by unfold Z8w; dsimp only; rw[if_neg (by simp)]; rfl) (s0:=mkV (mkO (mkO (mkO s x.Xj) x.V2) x.Vn) [x.Qr]) (by rw[Z5h,Vt,Vt,Vt]; exact hs) (by have:=(p.act x q).1; omega)
  rw[v,Option.bind_some,wrS j (by omega)]; rfl) (λs hs=>by unfold Z8v; dsimp only; rw[if_neg (by simp)]; rfl) (s0:=List.replicate m.Z7.length false) (by simp) (by have:=p.thr; omega)
 have v:=K9 (l:=m.Xb) (f:=Z4k m) (λt s=>(t,s)) (λs r=>mkV s r.Qt) id (λs=>s.length=m.Z7.length) (λs x hs _=>(Z5h s _).trans hs) (λt s x j i hs q e=>by
  have:=p.ini2
  unfold Z4k
  dsimp only
  rw[if_pos (by simpa using i),e]
  simp only[Option.bind_some]
  rw[h s _ hs (w.ini x q) (p.sta x q),Option.bind_some,wrS j (by omega)]) (λs hs=>by unfold Z4k; dsimp only; rw[if_neg (by simp)]; rfl) (Znu m) (by have:=p.ini2; omega)
 have B:=K9 (l:=m.X1) (f:=Z4l m) (λt s=>(t,s)) (λs x=>mkO s x.Xj) id (λs=>s.length=m.Z7.length) (λs x hs _=>(Vt s _).trans hs) (λt s x j i hs q e=>by
  have:=p.intr
  unfold Z4l
  dsimp only
  rw[if_pos (by simpa using i),e]
  simp only[Option.bind_some]
  rw[g s _ hs (w.int x q),Option.bind_some,wrS j (by omega)]) (λs hs=>by unfold Z4l; dsimp only; rw[if_neg (by simp)]; rfl) (Zty m) (by have:=p.intr; omega)
 rw[Int.toNat_natCast,i]
 show ((Z8 (Z4k m) Zb (0,mks1 m)).bind _)=_
 rw[v]
 show ((Z8 (Z4l m) Zb (0,mks2 m)).bind _)=_
 rw[B]
 show ((Z8 (Z8x (marks m) m) Zb (0,[])).bind _)=_
 rw[Zth (Zaj m).1 hH (λt s b o j i hs u G=>?_) λs=>?_]
 ·rfl
 ·have C:Z4 m.Z7 t=some o:=by unfold Z4; rw[if_pos j]; exact G
  have D:X7 t (marks m).length=some t.toNat:=by unfold X7; rw[if_pos ⟨j,by rw[(Zaj m).1]; exact i⟩]
  unfold Z8x Z84
  dsimp only
  rw[if_pos (by simpa using i),C]
  simp only[Option.bind_some]
  rw[D]
  simp only[Option.bind_some]
  rw[u,wrS j (by omega),gkR hs]
  simp only[Option.bind_some]
  unfold Lq
  by_cases a:b=true
  ·simp[a]
  ·by_cases c:o.Xr=0
   ·by_cases d:0<o.Xk.length
    ·simp[a,c,d]
    ·simp[a,c,d]
   ·simp[a,c]
 ·unfold Z8x
  dsimp only
  rw[if_neg (by simp)]
theorem z0 {n:Int} (h:InR 0 n):n=0:=h.elim id λh=>by omega
theorem zObj (s:List Bool) {n:Int} (h:InR 0 n):Z1g s n=some ():=by
 rw[z0 h]; rfl
theorem Zb5 {α:Type} {l:List α} {f:Int→Option (Ctl Int Unit)} (d:l.length≤140737488355328) (h:∀ (t:Int) x,0≤t→t<(l.length:Int)→x∈l→Z4 l t=some x→f t=some (.next (t+1))) (he:f l.length=some (.done ())):Z8 f Zb 0=some ():=
 K9 (l:=l) (S:=Unit) (λt _=>t) (λ_ _=>()) id (λ_=>True) (λ_ _ _ _=>trivial) (λt _ x a b _ c e=>h t x a b c e) (λ_ _=>he) (s0:=()) trivial (by omega)
theorem Zjf (s:List Bool) {l:List Zf} (h:InL 0 l) (d:l.length≤140737488355328):Z2w s l=some ():=by
 unfold Z2w
 have:=Zb5 (l:=l) (f:=Z97 s l) d (λt x b c g e=>by
  unfold Z97
  rw[if_pos (by simpa using c),e]
  simp only[Option.bind_some]
  rw[wrS b (by omega)]
  by_cases a:x.Zj=3
  ·rw[if_pos (by simpa using a),zObj s (h x g a)]; rfl
  ·rw[if_neg (by simpa using a)]) (by
  unfold Z97
  rw[if_neg (by simp)])
 rw[this]; rfl
theorem rootsP0 {m:Z6} (b:MSz m) (hH:m.Z7=[]) (h:InM 0 m):Zf9 m=some [] :=by
 unfold Zf9
 rw[mkS0 (by rw[hH]; simp),Option.bind_some]
 have a:=Zb5 (l:=m.Y9) (f:=Z8y m) b.thr (λt x d a c e=>by
  have:=b.thr
  obtain⟨i1,i2,q,r,s⟩:=h.thr x c
  unfold Z8y
  rw[if_pos (by simpa using a),e]
  simp only[Option.bind_some]
  rw[zObj _ i1,zObj _ i2,zObj _ q,Zjf _ r (by simp)]
  simp only[Option.bind_some]
  have p:=(b.act x c).1
  have g:=Zb5 (l:=x.Yu) (f:=Z8z x m) p (λk y d a j e=>by
   have i:=(b.act x c).2 y j
   obtain⟨j1,j2,u⟩:=s y j
   unfold Z8z
   rw[if_pos (by simpa using a),e]
   simp only[Option.bind_some]
   rw[zObj _ j1,Zjf _ j2 i.1,Zjf _ u i.2,wrS d (by omega)]; rfl) (by unfold Z8z; rw[if_neg (by simp)])
  rw[g,wrS d (by omega)]; rfl) (by unfold Z8y; rw[if_neg (by simp)])
 have g:=Zb5 (l:=m.Xb) (f:=Z90 m) b.ini2 (λt x d a c e=>by
  have:=b.ini2
  unfold Z90
  rw[if_pos (by simpa using a),e]
  simp only[Option.bind_some]
  rw[Zjf _ (h.ini x c) (b.sta x c),wrS d (by omega)]; rfl) (by unfold Z90; rw[if_neg (by simp)])
 have n:=Zb5 (l:=m.X1) (f:=Z91 m) b.intr (λt x d a c e=>by
  have:=b.intr
  unfold Z91
  rw[if_pos (by simpa using a),e]
  simp only[Option.bind_some]
  rw[zObj _ (h.int x c),wrS d (by omega)]; rfl) (by unfold Z91; rw[if_neg (by simp)])
 rw[a,g,n]
 simp only[Option.bind_some]
 have o:Z8 (Z92 m) Zb (0,([]:List Int))=some [] :=by
  show Z8 (Z92 m) (18446744073709551615+1) (0,[])=some []
  unfold Z8 Z92
  rw[if_neg (by rw[hH]; simp)]
 rw[o]; rfl
theorem rootsP {m:Z6} (b:MSz m) (hH:m.Z7.length≤5001) (a:InM m.Z7.length m):Z5f m=some (U3 m):=by
 unfold Z5f
 split
 ·rename_i h
  rw[rootsP0 b h (by rw[h] at a; exact a)]
  unfold U3
  rw[h]
  cases marks m <;> rfl
 ·exact rootsP1 b hH a
end Go.Proofs
namespace Go.Proofs
open Go.Den Go.Tot
theorem MG.inR {m:Z6} (h:MG m) {n:Int} (a:Jp m n):InR m.Z7.length n:=a.imp id λh=>h.range
theorem MG.inM {m:Z6} (h:MG m):InM m.Z7.length m:=InM.of λx a=>h.inR (h.rt x a)
theorem MG.rootsP {m:Z6} (h:MG m):Z5f m=some (U3 m):=Go.Proofs.rootsP h.sz h.len h.inM
theorem MG.rootsR {m:Z6} (h:MG m):Z38 m=some (U3 m):=Go.Proofs.rootsR h.sz h.len
theorem MG.hH {m:Z6} (h:MG m):m.Z7.length≤140737488355328:=by have:=h.len; omega
theorem MG.objP {m:Z6} (h:MG m) (n:Int):Z1v m n=some (objP m n)∧Z1s m n=some (objP m n):=Zu8 m n h.hH
theorem MG.inN {m:Z6} (h:MG m) {o:Zm} (b:o∈m.Z7) (d:Nat):InN m.Z7.length (o.Zw.drop d):=λv g f e=>by
 have a:=List.mem_of_mem_drop g
 by_cases c:o.Zj=0
 ·rw[h.fval o b c] at a; exact(List.not_mem_nil a).elim
 ·exact((h.val o b c v a f).resolve_left e).range
theorem MG.strP {m:Z6} (h:MG m) (n:Int):Zhw m n=some (Ws m n):=by
 unfold Zhw
 rw[(h.objP n).1,Option.bind_some]
 unfold Go.Proofs.objP Ws
 cases a:Q9 m n with
 | none=>rfl
 | some o=>
  obtain⟨q,e,hq⟩:=Zz7 m.Y0 h.sp h.sz.ini
  dsimp only
  rw[e]
  simp only[Bool.not_true,Bool.false_eq_true,if_false,Option.bind_some]
  rw[Zz6 hq o (h.cls o (Zi6 a).1)]; rfl
theorem MG.ndP {m:Z6} (h:MG m) {q:List Int} (hq:Tbl m.Y0 (K0 m.Y0) q) (n:Int) (e:1≤n) (i:n≤m.Z7.length):ndM q m n=some (Uc m n,toO m n,Ws m n):=by
 have f:=h.len
 have a:m.Z7[(n - 1).toNat]?=some m.Z7[(n - 1).toNat] :=List.getElem?_eq_getElem (by omega)
 generalize m.Z7[(n - 1).toNat]'(by omega)=o at a
 have b:o∈m.Z7:=List.mem_of_getElem? a
 unfold ndM
 rw[Option.bind_some,J5 (by omega) (by omega)]
 unfold Z4
 rw[if_pos (by omega),a,Option.bind_some,Zz6 hq o (h.cls o b),Option.bind_some,Y6p o _ (Zpm _ _).1,Option.bind_some]
 dsimp only
 rw[Y70 h.len _ (h.inN b _) (by have:=h.sz.vals o b; simp; omega),Option.bind_some]
 by_cases c:o.Zj=0
 ·have d:Q9 m n=none:=by unfold Q9; rw[if_pos e,a,Option.bind_some,if_pos c]
  have g:=h.fval o b c
  have hs:Wr m.Y0 o=0:=by unfold Wr; rw[if_neg (by rw[c]; decide)]
  unfold Uc toO Ws
  rw[d,hs,g]; rfl
 ·have d:Q9 m n=some o:=Jl.2 ⟨e,a,c⟩
  unfold Uc toO Ws
  rw[d]; rfl
theorem MG.levP {m:Z6} (h:MG m):∃ l,Ki m=some l∧l.length=m.Z7.length∧Lf (Ua m) λn=>l.getD (n - 1).toNat 0:=by
 have c:=h.len
 obtain⟨q,e,hq⟩:=Zz7 m.Y0 h.sp h.sz.ini
 obtain⟨l,d,f,i⟩:=Y53 (g:=Ua m) h.ok (by show m.Z7.length≤_; omega) (λn=>by have:=h.refs_len n; show (Uc m n).length≤_; omega) (by have:=h.roots_len; show (U3 m).length≤_; omega) (λn a b=>h.ndP hq n a b)
 refine⟨l,?_,f,i⟩
 unfold Ki
 rw[e,Option.bind_some,show W2 8 (m.Z7.length:Int) (m.Z7.length:Int)=some () by unfold W2; rw[if_pos (by omega)],Option.bind_some,h.rootsP,Option.bind_some,Int.toNat_natCast]
 exact d
theorem Y6x {m:Z6} (h:MG m) (o:Zm) (b:Bool):Zcn (o,b) m=some (K0 m.Y0 o.Zt.Zy):=by
 unfold Zcn K0
 rw[Zpr _ h.sp h.sz.ini,Zpr _ h.sp h.sz.ini,Zpr _ h.sp h.sz.ini]
 simp only[Option.bind_some]
 show (if Ld m.Y0 o.Zt.Zy Zi2=true then some 3 else if Ld m.Y0 o.Zt.Zy Zi3=true then some 2 else if Ld m.Y0 o.Zt.Zy Zi1=true then some 1 else some 0)=_
 split
 ·rfl
 ·split
  ·rfl
  ·split <;> rfl
theorem MG.strR {m:Z6} (h:MG m) (n:Int):Z5a m n=some (Ws m n):=by
 unfold Z5a
 rw[(h.objP n).2,Option.bind_some]
 unfold Go.Proofs.objP Ws
 cases b:Q9 m n with
 | none=>rfl
 | some o=>
  dsimp only
  unfold Wr
  by_cases a:o.Zj=1
  ·rw[if_neg (by simp),if_neg (by simp[a]),if_pos a,Y6x h]
  ·rw[if_neg (by simp),if_pos (by simpa using a),if_neg a]
theorem MG.refsR {m:Z6} (h:MG m) (n:Int):Zhp m n=some (Uc m n):=by
 unfold Zhp
 rw[(h.objP n).2,Option.bind_some,h.strR,Option.bind_some]
 have d:=h.len
 have zero:∀ (b:Zm×Bool) (k:Nat),b.1.Zw=[]→Z1b b k=some [] :=λb k a=>by
  unfold Z1b
  have:Z8 (Z1e b) Zb ((k:Int),([]:List Int))=some [] :=by
   show Z8 (Z1e b) (18446744073709551615+1) ((k:Int),[])=some []
   unfold Z8 Z1e
   dsimp only
   rw[if_neg (by rw[a]; simp)]
  rw[this]; rfl
 unfold Uc Ws Go.Proofs.objP
 cases e:Q9 m n with
 | none=>
  dsimp only
  rw[if_neg (by simp)]
  exact zero _ 0 rfl
 | some o=>
  dsimp only
  have c:=(Zi6 e).1
  unfold refJ
  by_cases hs:Wr m.Y0 o>0
  ·rw[if_pos (by simpa using hs),if_pos hs]
   by_cases a:o.Zw=[]
   ·rw[show Z1b (o,true) 1=some [] from zero (o,true) 1 a,a]; rfl
   ·exact Zuo h.len (o,true) 1 (List.length_pos_iff.2 a) (h.inN c 0) (h.sz.vals o c)
  ·rw[if_neg (by simpa using hs),if_neg hs]
   exact Zuo h.len (o,true) 0 (Nat.zero_le _) (h.inN c 0) (h.sz.vals o c)
theorem MG.toR {m:Z6} (h:MG m) (n:Int):Zac m n=some (toO m n):=by
 unfold Zac
 rw[(h.objP n).2,Option.bind_some,h.strR,Option.bind_some]
 unfold toO Ws Go.Proofs.objP
 cases c:Q9 m n with
 | none=>rfl
 | some o=>
  dsimp only
  unfold toJ
  by_cases hs:Wr m.Y0 o=0
  ·rw[if_pos (by simpa using hs),if_pos hs]
  ·rw[if_neg (by simpa using hs),if_neg hs]
   cases d:o.Zw with
   | nil=>rfl
   | cons v r=>
    have b:Z4 (v::r) 0=some v:=rfl
    rw[if_neg (by simp; omega),b]
    simp only[Option.bind_some]
    by_cases a:v.Zj=3
    ·simp[a]
    ·simp[a]
theorem MG.ndR {m:Z6} (h:MG m) (n:Int):Go.Proofs.ndR m n=some (Uc m n,toO m n,Ws m n):=by
 unfold Go.Proofs.ndR
 rw[h.refsR,h.strR,h.toR]; rfl
theorem MG.rchR {m:Z6} (h:MG m) (k:Int):∃ out,Z5b m k=some out∧out.length=m.Z7.length∧∀ n:Int,1≤n→n≤m.Z7.length→(Bit out (n - 1)↔(Ua m).Re k n):=by
 have a:=h.len
 obtain⟨out,e,b,c⟩:=Y5w (g:=Ua m) h.ok (k:=k) (λn _ _=>h.ndR n) (by show m.Z7.length≤_; omega) (λn=>by have:=h.refs_len n; show (Uc m n).length≤_; omega) (by have:=h.roots_len; show (U3 m).length≤_; omega)
 refine⟨out,?_,b,c⟩
 unfold Z5b
 rw[mkS0 h.len,Option.bind_some,h.rootsR,Option.bind_some,Int.toNat_natCast]
 exact e
end Go.Proofs
namespace Go.Proofs
open Go.Den Go.Tot
def Tr (o:Option Bool) (P:Prop):Prop:=o=some true→P
namespace Tr
variable {P Q:Prop} {α:Type}
theorem no:Tr (some false) P:=λh=>by cases h
theorem yes {b:Bool} (h:b=true→P):Tr (some b) P:=λe=>h (Option.some.inj e)
theorem br {b:Bool} {x y:Option Bool} (T:b=true→Tr x P) (F:b=false→Tr y P):Tr (if b=true then x else y) P:=by
 cases b with
 | true=>exact T rfl
 | false=>exact F rfl
theorem bd {o:Option Bool} {f:Bool→Option Bool} (h:Tr o Q) (T:Q→Tr (f true) P) (F:Tr (f false) P):Tr (o.bind f) P:=λe=>by
 obtain⟨b,c,a⟩:=Option.bind_eq_some_iff.1 e
 cases b with
 | true=>exact T (h c) a
 | false=>exact F a
theorem sk {o:Option α} {f:α→Option Bool} (k:∀ x,o=some x→Tr (f x) P):Tr (o.bind f) P:=λe=>by
 obtain⟨x,a,b⟩:=Option.bind_eq_some_iff.1 e
 exact k x a b
theorem all {l:List α} {p:α→Prop} {f:Int→Option (Ctl Int (Unit⊕Bool))} (C:l.length≤140737488355328)
  (h:∀ t v,0≤t→t<(l.length:Int)→Z4 l t=some v→∀ x,f t=some x→(x=.next (t+1)∧p v)∨x=.done (.inr false)):
  Tr ((Z8 f Zb 0).bind λq=>match q with|.inl _=>some true|.inr y=>some y) (∀ v∈l,p v):=by
 have key:∀ (n:Nat) (t:Int),0≤t→t≤(l.length:Int)→(∀ (j:Nat) v,(j:Int)<t→l[j]?=some v→p v)→∀ q,Z8 f n t=some q→t<(l.length:Int)→q=.inr false∨∀ v∈l,p v:=by
  intro n
  induction n with
  | zero=>intro t _ _ _ q e; cases e
  | succ n ih=>
   intro t g B z q e b
   obtain⟨v,k,s,A⟩:=gri (l:=l) g b
   unfold Z8 at e
   cases r:f t with
   | none=>rw[r] at e; cases e
   | some x=>
    rw[r] at e
    rcases h t v g b k x r with ⟨rfl,hp⟩|rfl
    ·have a:∀ (j:Nat) v,(j:Int)<t+1→l[j]?=some v→p v:=λj u i d=>by
      by_cases o:(j:Int)<t
      ·exact z j u o d
      ·have:j=t.toNat:=by omega
       subst this
       rw[A] at d; cases d; exact hp
     by_cases c:t+1<(l.length:Int)
     ·exact ih (t+1) (by omega) (by omega) a q e c
     ·refine .inr λu d=>?_
      obtain⟨j,i⟩:=List.mem_iff_getElem?.1 d
      have:=(List.getElem?_eq_some_iff.1 i).1
      exact a j u (by omega) i
    ·cases e; exact .inl rfl
 intro e
 obtain⟨q,k,w⟩:=Option.bind_eq_some_iff.1 e
 by_cases g:(0:Int)<l.length
 ·rcases key Zb 0 (by omega) (by omega) (λj v i _=>by omega) q k g with rfl|o
  ·cases w
  ·exact o
 ·intro v s
  have:=List.length_pos_of_mem s
  omega
end Tr
theorem Z5j {α:Type} {l:List α} (h:((l.length:Int)==0)=true):l=[] :=by
 have:l.length=0:=by simpa using h
 exact List.eq_nil_of_length_eq_zero this
section
variable {m:Z6} (hH:m.Z7.length≤140737488355328)
include hH
theorem i_is (n:Int):Tr (Ul m n) (IsO m n):=λe=>by
 rw[Zbx m n hH] at e
 exact Option.isSome_iff_exists.1 (Option.some.inj e)
theorem Zbw (n:Int):Tr (Kg m n) (Jp m n):=by
 unfold Kg
 exact Tr.br (λh=>Tr.yes λ_=> .inl (by simpa using h)) λ_=>Tr.bd (i_is hH n) (λh=>Tr.yes λ_=> .inr h) Tr.no
theorem Z6y (v:Zf):Tr (Jt m v) (U7 m v):=by
 unfold Jt
 refine Tr.br (λh=>Tr.yes λ_ a=>by rw[a] at h; simp at h) λ_=>Tr.br (λh=>Tr.br (λ_=>Tr.yes λ_ a=>by rw[a] at h; simp at h) λ_=>Tr.no) λ_=>Tr.br (λh=>Tr.yes λ_ a=>by rw[a] at h; simp at h) λ_=>Tr.br (λ_=>Tr.bd (Zbw hH v.f_N) (λh=>Tr.yes λ_ _=>h) Tr.no) λ_=>Tr.no
theorem Zt9 (l w:List Zf) (g:l.length≤140737488355328):Tr (Jj m l w) (∀ v∈l,U7 m v):=by
 unfold Jj
 refine Tr.br (λ_=>Tr.no) λ_=>Tr.all g λt v c d e x a=>?_
 unfold Z4n at a
 rw[if_pos (by simpa using d),e] at a
 simp only[Option.bind_some] at a
 refine W.bd a λu _ a=>W.sp a (λ_ a=>by cases a; exact .inr rfl) λ_ a=>W.bd a λb f a=>?_
 cases b with
 | false=>cases a; exact .inr rfl
 | true=>
  rw[if_neg (by simp),wrS c (by omega)] at a
  cases a
  exact .inl ⟨rfl,Z6y hH v f⟩
theorem Zta (l:List Zf) (b:Bool) (h:l.length≤140737488355328):Tr (Mh m l b) (∀ v∈l,U7 m v):=by
 unfold Mh
 refine Tr.all h λt v f g e x a=>?_
 unfold Z4d at a
 rw[if_pos (by simpa using g),e] at a
 simp only[Option.bind_some] at a
 refine W.bd a λc d a=>?_
 cases c with
 | false=>cases a; exact .inr rfl
 | true=>
  rw[if_neg (by simp),wrS f (by omega)] at a
  refine W.sp a (λ_ a=>W.sp a (λ_ a=>by cases a; exact .inr rfl) λ_ a=>?_) λ_ a=>?_
  ·cases a; exact .inl ⟨rfl,Z6y hH v d⟩
  ·cases a; exact .inl ⟨rfl,Z6y hH v d⟩
theorem i_Act (a:Qb) (f:a.Y1.length≤140737488355328) (g:a.Y5.length≤140737488355328):Tr (La m a) (Jp m a.Vo∧(∀ v∈a.Y1,U7 m v)∧∀ v∈a.Y5,U7 m v):=by
 unfold La
 refine Tr.br (λ_=>Tr.no) λ_=>Tr.br (λ_=>Tr.no) λ_=>Tr.bd (Zbw hH a.Vo) (λb=>?_) Tr.no
 have nil:∀ h:((a.Y1.length:Int)==0)=true,Tr (some ((a.Y5.length:Int)==0)) (Jp m a.Vo∧(∀ v∈a.Y1,U7 m v)∧∀ v∈a.Y5,U7 m v):=λh=>Tr.yes λe=>
  ⟨b,by rw[Z5j h]; simp,by rw[Z5j e]; simp⟩
 rw[if_neg (by simp)]
 unfold Z89
 refine Tr.br (λ_=>Tr.br (λ_=>Tr.br (λ_=>Tr.br nil λ_=>Tr.no) λ_=>Tr.no) λ_=>Tr.no) λ_=>Tr.br (λ_=>Tr.br (λ_=>Tr.br (λ_=>Tr.br nil λ_=>Tr.no) λ_=>Tr.no) λ_=>Tr.no) λ_=>?_
 unfold Z8a
 refine Tr.sk λi _=>Tr.br (λ_=>Tr.no) λ_=>Tr.br (λ_=>Tr.no) λ_=>Tr.sk λj _=>Tr.br (λ_=>Tr.no) λ_=>?_
 unfold Z8b
 refine Tr.sk λk _=>Tr.br (λ_=>Tr.br (λ_=>Tr.br (λ_=>Tr.br (λ_=>Tr.bd (Zta hH a.Y1 true f) (λc=>?_) Tr.no) λ_=>Tr.no) λ_=>Tr.no) λ_=>Tr.no) λ_=>Tr.no
 rw[if_pos rfl]
 exact Tr.bd (Zta hH a.Y5 false g) (λd=>Tr.yes λ_=>⟨b,c,d⟩) Tr.no
theorem i_plain (o:Zm) (a:o.Zw.length≤140737488355328):Tr (Z0q m o) ((0≤o.Zt.Zy∧o.Zt.Zy<m.Y0.Y6.length)∧∀ v∈o.Zw,U7 m v):=by
 unfold Z0q
 refine Tr.br (λ_=>Tr.br (λ_=>Tr.br (λc0=>Tr.br (λc1=>Tr.sk λc _=>Tr.sk λd _=>Tr.br (λ_=>Tr.br (λ_=>Tr.sk λb _=>Tr.bd (Zt9 hH _ b a) (λh=>Tr.yes λ_=>⟨⟨by simpa using c0,by simpa using c1⟩,h⟩) Tr.no) λ_=>Tr.no) λ_=>Tr.no) λ_=>Tr.no) λ_=>Tr.no) λ_=>Tr.no) λ_=>Tr.no
theorem i_array (o:Zm) (g:o.Zw.length≤140737488355328):Tr (Z0o m o) (∀ v∈o.Zw,U7 m v):=by
 unfold Z0o
 refine Tr.sk λh _=>Tr.sk λi _=>Tr.br (λ_=>Tr.no) λ_=>Tr.br (λ_=>Tr.no) λ_=>Tr.br (λ_=>Tr.no) λ_=>Tr.br (λ_=>Tr.no) λ_=>?_
 unfold Z86
 refine Tr.all g λt v c d e x a=>?_
 unfold Z4m at a
 rw[if_pos (by simpa using d),e] at a
 simp only[Option.bind_some] at a
 refine W.bd a λu _ a=>W.sp a (λ_ a=>by cases a; exact .inr rfl) λ_ a=>W.bd a λb f a=>?_
 cases b with
 | false=>cases a; exact .inr rfl
 | true=>
  rw[if_neg (by simp),wrS c (by omega)] at a
  cases a
  exact .inl ⟨rfl,Z6y hH v f⟩
omit hH in
theorem i_text (o:Zm):Tr (Z58 m o) (o.Zw=[]):=by
 unfold Z58
 exact Tr.sk λa _=>Tr.br (λ_=>Tr.br (λ_=>Tr.br (λh=>Tr.yes λ_=>Z5j h) λ_=>Tr.no) λ_=>Tr.no) λ_=>Tr.no
def ObjOk (m:Z6) (o:Zm):Prop:=
 (o.Zj=0→Lq o=false∧o.Zw=[])∧(o.Zj=1→0≤o.Zt.Zy∧o.Zt.Zy<m.Y0.Y6.length)∧∀ v∈o.Zw,U7 m v
theorem Y4j (t:Int) (o:Zm) (f:Z4 m.Z7 t=some o) (e:o.Zw.length≤140737488355328):Tr (Uy m t) (ObjOk m o):=by
 unfold Uy
 rw[f,Option.bind_some]
 refine Tr.br (λk0=>?_) λk0=>Tr.br (λk1=>?_) λk1=>Tr.br (λk2=>?_) λk2=>Tr.br (λk3=>?_) λk3=>Tr.no
 ·have b:o.Zj=0:=by simpa using k0
  refine Tr.br (λ_=>Tr.br (λg=>Tr.br (λ_=>Tr.br (λhw=>Tr.br (λ_=>Tr.yes λhs=>?_) λ_=>Tr.no) λ_=>Tr.no) λ_=>Tr.no) λ_=>Tr.no) λ_=>Tr.no
  have c:=Z5j g
  have d:=Z5j hs
  refine⟨λ_=>⟨?_,c⟩,λh=>(by rw[b] at h; cases h),by rw[c]; simp⟩
  unfold Lq
  rw[d]
  have:o.Xr=0:=by simpa using hw
  rw[this]; rfl
 ·have b:o.Zj=1:=by simpa using k1
  refine Tr.bd (i_plain hH o e) (λh=>?_) Tr.no
  exact λ_=>⟨λa=>(by rw[b] at a; cases a),λ_=>h.1,h.2⟩
 ·have b:o.Zj=2:=by simpa using k2
  refine Tr.bd (i_array hH o e) (λh=>?_) Tr.no
  exact λ_=>⟨λa=>(by rw[b] at a; cases a),λa=>(by rw[b] at a; cases a),h⟩
 ·have b:o.Zj=3:=by simpa using k3
  refine Tr.bd (i_text o) (λh=>?_) Tr.no
  exact λ_=>⟨λa=>(by rw[b] at a; cases a),λa=>(by rw[b] at a; cases a),by rw[h]; simp⟩
theorem i_begun (t:Int) (r:Qn) (c:Z4 m.Xb t=some r) (b:r.Qt.length≤140737488355328):Tr (Kf m t) (∀ v∈r.Qt,U7 m v):=by
 have a:Tr (Kx r m t) (∀ v∈r.Qt,U7 m v):=by
  unfold Kx
  exact Tr.br (λ_=>Tr.yes λh=>by rw[Z5j h]; simp) λ_=>Tr.sk λd _=>Tr.bd (Zt9 hH _ d b) (λh=>Tr.yes λ_=>h) Tr.no
 unfold Kf
 rw[c,Option.bind_some]
 exact Tr.br (λ_=>Tr.no) λ_=>Tr.br (λ_=>Tr.no) λ_=>Tr.br (λ_=>Tr.sk λe _=>Tr.br (λ_=>Tr.no) λ_=>Tr.br (λ_=>Tr.br (λ_=>Tr.no) λ_=>a) λ_=>a) λ_=>Tr.br (λ_=>Tr.br (λ_=>Tr.no) λ_=>a) λ_=>a
theorem i_state (t:Int) (th:Xu) (a:Z4 m.Y9 t=some th):Tr (Z0r m t) (Jp m th.V2):=by
 unfold Z0r
 rw[a,Option.bind_some]
 refine Tr.br (λ_=>Tr.br (λh=>Tr.yes λ_=> .inl (by simpa using h)) λ_=>Tr.no) λ_=>?_
 unfold Z87
 refine Tr.br (λ_=>Tr.br (λh=>Tr.yes λ_=> .inl (by simpa using h)) λ_=>Tr.no) λ_=>?_
 unfold Z88
 exact Tr.br (λ_=>Tr.bd (i_is hH _) (λh _=> .inr h) Tr.no) λ_=>Tr.br (λ_=>Tr.bd (i_is hH _) (λh _=> .inr h) Tr.no) λ_=>Tr.br (λ_=>Tr.bd (i_is hH _) (λh _=> .inr h) Tr.no) λ_=>Tr.no
theorem i_runs (t:Int) (th:Xu) (l:Z4 m.Y9 t=some th) (q:th.Yu.length≤140737488355328) (k:∀ a∈th.Yu,a.Y1.length≤140737488355328∧a.Y5.length≤140737488355328):
  Tr (Kh m t) (Jp m th.Xj∧Jp m th.V2∧Jp m th.Vn∧U7 m th.Qr∧∀ a∈th.Yu,Jp m a.Vo∧(∀ v∈a.Y1,U7 m v)∧∀ v∈a.Y5,U7 m v):=by
 unfold Kh
 rw[l,Option.bind_some]
 refine Tr.bd (i_state hH t th l) (λh=>?_) Tr.no
 rw[if_neg (by simp)]
 refine Tr.bd (Zbw hH _) (λn=>?_) Tr.no
 rw[if_neg (by simp)]
 refine Tr.bd (Zbw hH _) (λo=>?_) Tr.no
 rw[if_neg (by simp)]
 refine Tr.bd (Z6y hH _) (λp=>?_) Tr.no
 rw[if_neg (by simp)]
 refine Tr.br (λ_=>Tr.no) λ_=>?_
 have g:Tr (Lr th m) (Jp m th.Xj∧Jp m th.V2∧Jp m th.Vn∧U7 m th.Qr∧∀ a∈th.Yu,Jp m a.Vo∧(∀ v∈a.Y1,U7 m v)∧∀ v∈a.Y5,U7 m v):=λe=>by
  unfold Lr at e
  refine⟨n,h,o,p,Tr.all (f:=Z4j th m) q (λt a j h e x c=>?_) e⟩
  have d:a∈th.Yu:=by
   unfold Z4 at e; rw[if_pos j] at e; exact List.mem_of_getElem? e
  unfold Z4j at c
  rw[if_pos (by simpa using h),e] at c
  simp only[Option.bind_some] at c
  refine W.bd c λb i c=>?_
  cases b with
  | false=>cases c; exact .inr rfl
  | true=>
   rw[if_neg (by simp),wrS j (by omega)] at c
   cases c
   exact .inl ⟨rfl,i_Act hH a (k a d).1 (k a d).2 i⟩
 unfold Z83
 exact Tr.br (λ_=>Tr.br (λ_=>Tr.no) λ_=>Tr.br (λ_=>Tr.br (λ_=>Tr.no) λ_=>Tr.br (λ_=>Tr.no) λ_=>g) λ_=>g) λ_=>Tr.br (λ_=>Tr.br (λ_=>Tr.no) λ_=>Tr.br (λ_=>Tr.no) λ_=>g) λ_=>g
theorem i_texts (j:m.X1.length≤140737488355328):Tr (Mg m) (∀ x∈m.X1,IsO m x.Xj):=by
 unfold Mg
 refine Tr.all j λt v g h e x a=>?_
 unfold Z4i at a
 rw[if_pos (by simpa using h),e] at a
 simp only[Option.bind_some] at a
 have tail:∀ {x},((Ul m v.Xj).bind λf=>if (!f)=true then some (Ctl.done (S:=Int) (Sum.inr (α:=Unit) false)) else (Z4 m.Z7 (IntKind.wrap .i64 (v.Xj - 1))).bind λc=>if (c.Zj !=3)=true then some (.done (.inr false)) else
   (Z4 m.Z7 (IntKind.wrap .i64 (v.Xj - 1))).bind λd=>if (!(d.Yx==v.Yx))=true then some (.done (.inr false)) else some (.next (IntKind.wrap .i64 (t+1))))=some x→(x=.next (t+1)∧IsO m v.Xj)∨x=.done (.inr false):=λ{x} a=>by
  refine W.bd a λb i a=>?_
  cases b with
  | false=>cases a; exact .inr rfl
  | true=>
   rw[if_neg (by simp),wrS g (by omega)] at a
   exact W.bd a λc _ a=>W.sp a (λ_ a=>by cases a; exact .inr rfl) λ_ a=>W.bd a λd _ a=>W.sp a (λ_ a=>by cases a; exact .inr rfl) λ_ a=>by cases a; exact .inl ⟨rfl,i_is hH _ i⟩
 exact W.sp a (λ_ a=>W.bd a λk _ a=>W.sp a (λ_ a=>by cases a; exact .inr rfl) λ_ a=>tail a) λ_ a=>tail a
end
theorem V4.sz {m:Z6} (h:V4 m):MSz m where
 ini:=by have:=h.sp.iniL; omega
 thr:=h.thrL
 act:=λt b=>⟨(h.thr t b).2,λa c=>⟨((h.thr t b).1 a c).loc,((h.thr t b).1 a c).stk⟩⟩
 ini2:=h.iniL
 sta:=h.ini
 intr:=h.intL
 vals:=λo d=>(h.heap o d).val
theorem Zbt {α:Type} {l:List α} {x:α} (h:x∈l):∃ t:Int,0≤t∧t<l.length∧Z4 l t=some x:=by
 obtain⟨j,a⟩:=List.mem_iff_getElem?.1 h
 have:=(List.getElem?_eq_some_iff.1 a).1
 exact⟨j,by omega,by omega,by unfold Z4; rw[if_pos (by omega)]; simpa using a⟩
theorem Uo.mg {m:Z6} (hw:V4 m) (d:Uo m):MG m:=by
 have hH:=hw.heapL
 have l:∀ o∈m.Z7,ObjOk m o:=λo h=>by
  obtain⟨t,f,g,e⟩:=Zbt h
  exact Y4j hH t o e (hw.heap o h).val (d.obj t f g)
 refine⟨hw.sz,d.vok,by have:=d.heap; omega,λo h k=>((l o h).1 k).1,λo h k=>((l o h).1 k).2,λo h=>(l o h).2.1,λo h _=>(l o h).2.2,λx i=>?_⟩
 rcases i with ⟨t,n,i⟩|⟨r,p,v,b,c,e⟩|⟨y,E,e⟩
 ·obtain⟨k,f,g,e⟩:=Zbt n
  obtain⟨z,A,B,C,D⟩:=i_runs hH k t e (hw.thr t n).2 (λa j=>⟨((hw.thr t n).1 a j).loc,((hw.thr t n).1 a j).stk⟩) (d.run k f g)
  rcases i with rfl|rfl|rfl|⟨c,rfl⟩|⟨a,j,i⟩
  ·exact z
  ·exact A
  ·exact B
  ·exact C c
  ·obtain⟨s,u,w⟩:=D a j
   rcases i with rfl|⟨v,b,c,rfl⟩|⟨v,b,c,rfl⟩
   ·exact s
   ·exact u v b c
   ·exact w v b c
 ·obtain⟨k,f,g,q⟩:=Zbt p
  rw[e]
  exact i_begun hH k r q (hw.ini r p) (d.beg k f g) v b c
 ·rw[e]
  exact .inr (i_texts hH hw.intL d.txt y E)
end Go.Proofs
namespace Go.Proofs
open Go.Den Go.Tot
structure LJ (m:Z6) (k:Int) (l:List Int):Prop where
 len:l.length=m.Z7.length
 rng:∀ (i:Nat) v,l[i]?=some v→0≤v∧v<k∧∀ j,1≤j→j<k→(j≤v↔(Ua m).Re j ((i:Int)+1))
theorem inner21 {k:Int} {l:List Int} {out:List Bool} (w:out.length=l.length) (v:l.length≤5001):Ok (Z8 (Zei (k,l) out) Zb (0,l)) λq=>q.length=l.length∧∀ (i:Nat),i<l.length→q[i]?=if out[i]?=some true then some k else l[i]? :=by
 refine lp (λt:Int×List Int=>t.1) l.length (λt=>t.2.length=l.length∧∀ (i:Nat),i<l.length→t.2[i]?=if (i:Int)<t.1∧out[i]?=some true then some k else l[i]?) (λt ⟨d,e⟩ o u=>?_) (by omega) ⟨rfl,λi c=>by dsimp only; rw[if_neg (by omega)]⟩
 unfold Zei
 refine brD (λj=>?_) λr=>dn ⟨d,λi c=>?_⟩
 ·refine bd (gri o j) λb ⟨_,p⟩=>br (λg=>?_) λf=>?_
  ·refine bd (ik o (by omega)) λn ⟨s,m⟩=>bd (la m) λ_ _=>bd wr λi c=>?_
   subst c; subst s; subst g
   refine nx ⟨by simpa using d,λi c=>?_⟩
   dsimp only
   rw[List.getElem?_set]
   by_cases h:t.1.toNat=i
   ·rw[if_pos h,if_pos (by omega),if_pos ⟨by omega,by rw[← h]; exact p⟩]
   ·rw[if_neg h,e i c]
    by_cases a:(i:Int)<t.1
    ·simp[a,show (i:Int)<t.1+1 by omega]
    ·simp[a,show ¬(i:Int)<t.1+1 by omega]
  ·refine bd wr λi c=>?_
   subst c; subst f
   refine nx ⟨d,λi c=>?_⟩
   dsimp only
   rw[e i c]
   by_cases h:t.1.toNat=i
   ·rw[← h,p]; simp
   ·by_cases a:(i:Int)<t.1
    ·simp[a,show (i:Int)<t.1+1 by omega]
    ·simp[a,show ¬(i:Int)<t.1+1 by omega]
 ·rw[e i c]
  simp[show (i:Int)<t.1 by omega]
theorem MG.levR {m:Z6} (h:MG m):∃ l,M2 m=some l∧l.length=m.Z7.length∧Lf (Ua m) λn=>l.getD (n - 1).toNat 0:=by
 have y:=h.len
 have key:Ok (M2 m) λl=>LJ m 5 l:=by
  unfold M2
  refine bd Go.Tot.mk λ_ _=>?_
  refine bd (P:=λl=>LJ m 5 l) (lp (λt:Int×List Int=>t.1) 5 (λt=>1≤t.1∧LJ m t.1 t.2) (λt ⟨g,b⟩ A x=>?_) (by omega) ⟨by dsimp only; omega,by simp,λi v a=>?_⟩) λl d=>Go.Tot.ok d
  ·obtain⟨k,l⟩:=t
   dsimp only at g b A x
   unfold l58x1
   refine brD (λr=>?_) λo=>dn ?_
   ·dsimp only at r
    obtain⟨out,e,F,G⟩:=h.rchR k
    dsimp only
    rw[e,Option.bind_some]
    refine bd (inner21 (by rw[F,b.len]) (by rw[b.len]; omega)) λq ⟨z,H⟩=>bd wr λi D=>?_
    subst D
    refine nx ⟨by dsimp only; omega,z.trans b.len,λi v a=>?_⟩
    have p:i<l.length:=by have:=(List.getElem?_eq_some_iff.1 a).1; rw[← z]; exact this
    dsimp only
    rw[H i p] at a
    have hN:=b.len
    have s:=G ((i:Int)+1) (by omega) (by omega)
    have c:Bit out (((i:Int)+1) - 1)↔out[i]?=some true:=by
     unfold Bit
     rw[show (((i:Int)+1) - 1).toNat=i by omega]
     exact⟨λh=>h.2,λh=>⟨by omega,h⟩⟩
    rw[c] at s
    by_cases f:out[i]?=some true
    ·rw[if_pos f] at a
     cases a
     refine⟨by omega,by omega,λj j1 j2=>⟨λ_=>(s.1 f).mono (by omega),λ_=>by omega⟩⟩
    ·rw[if_neg f] at a
     obtain⟨u,I,w⟩:=b.rng i v a
     refine⟨u,by omega,λj j1 j2=>?_⟩
     by_cases E:j<k
     ·exact w j j1 E
     ·have:j=k:=by omega
      subst this
      exact⟨λh=>by omega,λh=>absurd (s.2 h) f⟩
   ·dsimp only at o ⊢
    have:k=5:=by omega
    subst this
    exact b
  ·dsimp only at a ⊢
   rw[List.getElem?_replicate] at a
   split at a
   ·cases a
    exact⟨by omega,by omega,λj j1 j2=>by omega⟩
   ·cases a
 obtain⟨l,e,d⟩:=key
 refine⟨l,e,d.len,λn x B=>?_⟩
 have hN:=d.len
 have C:n≤(m.Z7.length:Int):=B
 obtain⟨u,I,w⟩:=d.rng (n - 1).toNat _ (List.getElem?_eq_getElem (by omega))
 dsimp only
 rw[List.getD_eq_getElem?_getD,List.getElem?_eq_getElem (by omega),Option.getD_some]
 refine⟨u,by omega,λj j1 j2=>?_⟩
 rw[w j j1 (by omega),show (((n - 1).toNat:Nat):Int)+1=n by omega]
end Go.Proofs
namespace Go.Proofs
open Go.Den Go.Tot
theorem MG.lv {m:Z6} (h:MG m):∃ l,Ki m=some l∧M2 m=some l∧Lv m l:=by
 obtain⟨l,i,f,g⟩:=h.levP
 obtain⟨l',c,d,e⟩:=h.levR
 have:l=l':=lev_ext f d λn a b=>Lf.same g e a b
 subst this
 exact⟨l,i,c,h,LevF.of f g⟩
theorem Zik (v:Int) (s:Bool):Z3b v s=some (Qj s v):=by
 unfold Z3b Qj
 by_cases b:v=4
 ·subst b; rfl
 ·rw[if_neg (by simpa using b)]
  by_cases a:v=3
  ·subst a; cases s <;> rfl
  ·rw[if_neg (by simpa using a),beq_eq_false_iff_ne.2 b,beq_eq_false_iff_ne.2 a]; rfl
theorem MG.refn {m:Z6} (h:MG m) (n:Int):∃ to,Zhv m n=some (to,toO m n !=0)∧(toO m n≠0→to=toO m n):=by
 unfold Zhv
 rw[(h.objP n).1,Option.bind_some]
 unfold Go.Proofs.objP toO
 cases d:Q9 m n with
 | none=>exact⟨0,rfl,λh=>absurd rfl h⟩
 | some o=>
  have hs:Ws m n=Wr m.Y0 o:=by unfold Ws; rw[d]
  dsimp only
  rw[if_neg (by simp),h.strP,Option.bind_some,hs]
  unfold toJ j31x1
  dsimp only
  by_cases b:Wr m.Y0 o=0
  ·rw[if_pos (by simpa using b),if_pos b]; exact⟨0,rfl,λh=>absurd rfl h⟩
  ·rw[if_neg (by simpa using b),if_neg b]
   cases e:o.Zw with
   | nil=>exact⟨0,rfl,λh=>absurd rfl h⟩
   | cons v r=>
    have c:Z4 (v::r) 0=some v:=rfl
    dsimp only
    rw[if_neg (by simp; omega),c,Option.bind_some]
    by_cases a:v.Zj=3
    ·rw[if_pos (by simpa using a),if_pos a]; exact⟨_,rfl,λ_=>rfl⟩
    ·rw[if_neg (by simpa using a),if_neg a]; exact⟨_,rfl,λh=>absurd rfl h⟩
theorem Zic {N:Nat} (hN:N≤5001) (c:Int→Bool) {f:Int×List Int→Option (Ctl (Int×List Int) (List Int))}
  (hs:∀ t:Int×List Int,0≤t.1→t.1<N→t.2.length≤5001→f t=some (.next (t.1+1,if c (t.1+1)=true then t.2++[t.1+1] else t.2)))
  (he:∀ t:Int×List Int,t.1=N→f t=some (.done t.2)):Z8 f Zb (0,([]:List Int))=some (pick N c):=by
 have h:Ok (Z8 f Zb (0,([]:List Int))) λq=>q=pick N c:=by
  refine lp (λt:Int×List Int=>t.1) N (λt=>0≤t.1∧t.2=pick t.1.toNat c) (λt ⟨i0,a⟩ d i=>?_) (by omega) ⟨by dsimp only; omega,rfl⟩
  rcases Int.lt_or_le t.1 N with b|g
  ·rw[hs t d b (by rw[a]; have:=Mk t.1.toNat c; omega)]
   refine nx ⟨by dsimp only; omega,?_⟩
   dsimp only
   rw[show (t.1+1).toNat=t.1.toNat+1 by omega,Y5q,a,show ((t.1.toNat:Nat):Int)=t.1 by omega]
   split <;> simp
  ·rw[he t (by omega)]
   exact dn (by rw[a,show t.1.toNat=N by omega])
 obtain⟨q,e,rfl⟩:=h
 exact e
theorem Lv.place {m:Z6} {l:List Int} (h:Lv m l) {t:Int} (a:0≤t) (e:t<m.Z7.length):
  ∃ o,Z4 l t=some (Q8 l (t+1))∧Z4 m.Z7 t=some o∧Q9 m (t+1)=(if o.Zj=0 then none else some o)∧IntKind.wrap .i64 (t+1)=t+1:=by
 have i:=h.lf.len
 have d:=h.mg.len
 obtain⟨v,ev,_,g⟩:=gri (l:=l) a (by omega)
 obtain⟨o,eo,_,f⟩:=gri (l:=m.Z7) a e
 have b:Q8 l (t+1)=v:=by
  unfold Q8; rw[show t+1 - 1=t by omega,List.getD_eq_getElem?_getD,g]; rfl
 have c:Q9 m (t+1)=if o.Zj=0 then none else some o:=by
  unfold Q9; rw[if_pos (by omega),show t+1 - 1=t by omega,f]; rfl
 exact⟨o,by rw[b]; exact ev,eo,c,wrS a (by omega)⟩
theorem Lv.lget {m:Z6} {l:List Int} (h:Lv m l) {n:Int} (b:1≤n) (c:n≤m.Z7.length):IntKind.wrap .i64 (n - 1)=n - 1∧Z4 l (n - 1)=some (Q8 l n):=by
 have a:=h.mg.len
 obtain⟨o,ev,_⟩:=h.place (t:=n - 1) (by omega) (by omega)
 rw[show n - 1+1=n by omega] at ev
 exact⟨J5 (by omega) (by omega),ev⟩
theorem gk8' {s:List Int} (h:s.length≤5001) (x:Int):Yp 8 (s++[x]).length=some ():=by unfold Yp; rw[if_pos (by simp; omega)]
section
variable {m:Z6} {l:List Int} (h:Lv m l) (s:Bool)
include h
theorem Lv.unrP (e:Ki m=some l):Z3a m s=some (Wb m l s):=by
 have a:=h.mg.len; have i:=h.lf.len
 have key:Z8 (Z8i l m s) Zb (0,([]:List Int))=some (Wb m l s):=by
  refine Zic a _ (λt c d f=>?_) λt j=>?_
  ·obtain⟨o,ev,eo,g,hw⟩:=h.place c d
   unfold Z8i j15x1
   rw[if_pos (by simp; omega),ev,Option.bind_some,eo,Option.bind_some,hw,Zik,g]
   by_cases b:o.Zj=0
   ·rw[if_neg (by simpa using b),if_pos b]; rfl
   ·rw[if_pos (by simpa using b),if_neg b]
    cases Qj s (Q8 l (t.1+1)) <;> simp only[Option.bind_some,gk8' f] <;> rfl
  ·unfold Z8i; rw[if_neg (by simp; omega)]
 unfold Z3a
 rw[e,Option.bind_some,key]; rfl
theorem Lv.clrP (e:Ki m=some l):Z39 m s=some (Ud m l s):=by
 have b:=h.mg.len; have p:=h.lf.len
 have key:Z8 (Z8g l m s) Zb (0,([]:List Int))=some (Ud m l s):=by
  refine Zic b _ (λt a k n=>?_) λt r=>?_
  ·obtain⟨o,ev,eo,q,hw⟩:=h.place a k
   obtain⟨to,er,f⟩:=h.mg.refn (t.1+1)
   unfold Z8g j13x1 clB
   rw[if_pos (by simp; omega),ev,Option.bind_some,hw,Option.bind_some,er,Option.bind_some,Zik]
   by_cases a:toO m (t.1+1)=0
   ·rw[a]
    simp
   ·have c:(Q9 m (t.1+1)).isSome=true:=by
     cases d:Q9 m (t.1+1) with
     | none=>unfold toO at a; rw[d] at a; exact absurd rfl a
     | some _=>rfl
    have g:=(h.mg.to_is a).range
    obtain⟨i,j⟩:=h.lget g.1 g.2
    rw[f a,i,c,bne_iff_ne.2 a]
    simp only[Option.bind_some,j,Zik,gk8' n]
    cases Qj s (Q8 l (t.1+1)) <;> cases Qj s (Q8 l (toO m (t.1+1))) <;> rfl
  ·unfold Z8g; rw[if_neg (by simp; omega)]
 unfold Z39
 rw[e,Option.bind_some,key]; rfl
theorem Lv.surP (e:Ki m=some l) (n:Int):Z1u m n s=some ((Q9 m n).isSome&&Qj s (Q8 l n)):=by
 unfold Z1u
 rw[(h.mg.objP n).1,Option.bind_some]
 unfold objP
 cases d:Q9 m n with
 | none=>rfl
 | some o=>
  have a:=IsO.range ⟨o,d⟩
  obtain⟨b,c⟩:=h.lget a.1 a.2
  rw[if_pos rfl,e,Option.bind_some,b,Option.bind_some,c,Option.bind_some,Zik]; rfl
end
end Go.Proofs
namespace Go.Proofs
open Go.Den Go.Tot
def kB (m:Z6) (l:List Int) (s:Bool) (n:Int):Bool:=(Q9 m n).isSome&&Qj s (Q8 l n)
def Ky (m:Z6) (l:List Int) (s:Bool):List Bool:=(List.range m.Z7.length).map λ(i:Nat)=>kB m l s ((i:Int)+1)
theorem Z8d (m:Z6) (l:List Int) (s:Bool) {t:Int} (a:0≤t) (b:t<m.Z7.length):Z4 (Ky m l s) t=some (kB m l s (t+1)):=by
 unfold Z4 Ky
 rw[if_pos a,List.getElem?_map,List.getElem?_range (by omega)]
 simp only[Option.map_some]
 rw[show ((t.toNat:Nat):Int)=t by omega]
theorem Zmm (m:Z6) (l:List Int) (s:Bool):(Ky m l s).length=m.Z7.length:=by unfold Ky; simp
section
variable {m:Z6} {l:List Int} (h:Lv m l) (s:Bool)
include h
theorem Lv.retR (e:M2 m=some l):Z5d m s=some (Ky m l s):=by
 have u:=h.mg.len; have z:=h.lf.len
 have key:Ok (Z8 (Ze8 l m s) Zb (0,List.replicate l.length false)) λq=>q=Ky m l s:=by
  refine lp (λt:Int×List Bool=>t.1) m.Z7.length (λt=>0≤t.1∧t.2.length=m.Z7.length∧∀ (i:Nat),(i:Int)<t.1→t.2[i]?=(Ky m l s)[i]?) (λt ⟨i0,i1,i2⟩ k E=>?_) (by omega) ⟨by dsimp only; omega,by simp; omega,λi j=>by dsimp only at j; omega⟩
  unfold Ze8
  refine brD (λg=>?_) λy=>dn ?_
  ·rw[z] at g
   obtain⟨o,ev,eo,B,hw⟩:=h.place k g
   have d:kB m l s (t.1+1)=((if o.Zj=0 then none else some o).isSome&&Qj s (Q8 l (t.1+1))):=by unfold kB; rw[B]
   have fin:∀ b,b=kB m l s (t.1+1)→Ok ((X7 t.1 t.2.length).bind λa=>(t.2[a]?).bind λ_=>(some (IntKind.wrap .i64 (t.1+1))).bind λc=>some (Ctl.next (R:=List Bool) (c,t.2.set a b))) (St (λt=>0≤t.1∧t.2.length=m.Z7.length∧∀ (i:Nat),(i:Int)<t.1→t.2[i]?=(Ky m l s)[i]?) (λt=>t.1) m.Z7.length (λq=>q=Ky m l s) t):=λb x=>by
    refine bd (ik k (by omega)) λn ⟨A,p⟩=>bd (la p) λ_ _=>bd wr λi j=>?_
    subst j; subst A
    refine nx ⟨by dsimp only; omega,by simpa using i1,λi j=>?_⟩
    dsimp only at j ⊢
    rw[List.getElem?_set]
    by_cases r:t.1.toNat=i
    ·have f:=Z8d m l s k g
     unfold Z4 at f
     rw[if_pos k] at f
     rw[if_pos r,if_pos (by omega),← r,f,x]
    ·rw[if_neg r]; exact i2 i (by omega)
   rw[eo,Option.bind_some,ev]
   simp only[Option.bind_some]
   refine brN (λf=>?_) λf=>fin _ (by rw[d,if_pos f]; rfl)
   rw[if_neg f] at d
   refine brE (λw=>fin _ (by rw[d,w]; rfl)) λD=>brE (λv=>fin _ (by rw[d,v]; cases s <;> rfl)) λC=>fin _ ?_
   rw[d]; unfold Qj
   rw[beq_eq_false_iff_ne.2 D,beq_eq_false_iff_ne.2 C]; rfl
  ·refine List.ext_getElem? λi=>?_
   by_cases j:i<m.Z7.length
   ·exact i2 i (by omega)
   ·rw[List.getElem?_eq_none (by omega),List.getElem?_eq_none (by rw[Zmm]; omega)]
 obtain⟨q,eq,rfl⟩:=key
 unfold Z5d
 rw[e,Option.bind_some,show W2 1 (l.length:Int) (l.length:Int)=some () by unfold W2; rw[if_pos (by omega)],Option.bind_some,Int.toNat_natCast,eq]; rfl
theorem Lv.unrR (e:M2 m=some l):Zae m s=some (Wb m l s):=by
 have a:=h.mg.len; have g:=Zmm m l s
 have key:Z8 (Z8j (Ky m l s) m) Zb (0,([]:List Int))=some (Wb m l s):=by
  refine Zic a _ (λt c d f=>?_) λt j=>?_
  ·obtain⟨o,ev,eo,i,hw⟩:=h.place c d
   unfold Z8j j16x1
   rw[if_pos (by simp; omega),Z8d m l s c d,eo,hw]
   unfold kB
   rw[i]
   simp only[Option.bind_some,gk8' f]
   by_cases b:o.Zj=0
   ·rw[if_pos b,if_neg (show ¬(o.Zj !=0)=true by simpa using b)]; rfl
   ·rw[if_neg b,if_pos (show (o.Zj !=0)=true by simpa using b)]
    cases Qj s (Q8 l (t.1+1)) <;> rfl
  ·unfold Z8j; rw[if_neg (by simp; omega)]
 unfold Zae
 rw[h.retR s e,Option.bind_some,key]; rfl
theorem Lv.clrR (e:M2 m=some l):Zad m s=some (Ud m l s):=by
 have c:=h.mg.len; have k:=Zmm m l s
 have key:Z8 (Z8h (Ky m l s) m) Zb (0,([]:List Int))=some (Ud m l s):=by
  refine Zic c _ (λt b f j=>?_) λt q=>?_
  ·obtain⟨o,ev,eo,p,hw⟩:=h.place b f
   unfold Z8h j14x1 clB
   rw[if_pos (by simp; omega),hw,Option.bind_some,h.mg.toR,Option.bind_some,Z8d m l s b f,Option.bind_some]
   unfold kB
   by_cases b:toO m (t.1+1)=0
   ·rw[b]
    simp
   ·have a:=h.mg.to_is b
    obtain⟨i,n⟩:=h.lget a.range.1 a.range.2
    have d:=Z8d m l s (t:=toO m (t.1+1) - 1) (by have:=a.range; omega) (by have:=a.range; omega)
    rw[show toO m (t.1+1) - 1+1=toO m (t.1+1) by omega] at d
    unfold kB at d
    obtain⟨x,g⟩:=a
    rw[g] at d
    rw[i,bne_iff_ne.2 b,if_pos (show decide (toO m (t.1+1)>0)=true by have:=IsO.range ⟨x,g⟩; simp; omega)]
    simp only[Option.bind_some,d,gk8' j]
    cases (Q9 m (t.1+1)).isSome <;> cases Qj s (Q8 l (t.1+1)) <;> cases Qj s (Q8 l (toO m (t.1+1))) <;> rfl
  ·unfold Z8h; rw[if_neg (by simp; omega)]
 unfold Zad
 rw[h.retR s e,Option.bind_some,key]; rfl
end
theorem Zis {ns:List Int} {g:Zm→Zm} {Q:Zm→Prop} {H:List Zm} {f:Int×List Zm→Option (Ctl (Int×List Zm) (List Zm))} (C:ns.length≤5001)
  (x:∀ n∈ns,1≤n∧n≤H.length) (r:∀ n∈ns,∀ o,H[(n - 1).toNat]?=some o→Q o) (u:∀ o,Q o→Q (g o))
  (hs:∀ (t:Int×List Zm) n o,0≤t.1→t.1<ns.length→Z4 ns t.1=some n→1≤n→n≤t.2.length→t.2.length=H.length→t.2[(n - 1).toNat]?=some o→Q o→f t=some (.next (t.1+1,t.2.set (n - 1).toNat (g o))))
  (he:∀ t:Int×List Zm,t.1=ns.length→f t=some (.done t.2)):Z8 f Zb (0,H)=some (Kl g H ns):=by
 have h:Ok (Z8 f Zb (0,H)) λq=>q=Kl g H ns:=by
  refine lp (λt:Int×List Zm=>t.1) ns.length (λt=>0≤t.1∧t.2=Kl g H (ns.take t.1.toNat)∧∀ n∈ns,∀ o,t.2[(n - 1).toNat]?=some o→Q o) (λt ⟨i0,d,iQ⟩ k B=>?_) (by omega) ⟨by dsimp only; omega,rfl,r⟩
  have p:t.2.length=H.length:=by rw[d,Z5s]
  rcases Int.lt_or_le t.1 ns.length with b|v
  ·obtain⟨n,en,i,w⟩:=gri (l:=ns) k b
   obtain⟨z,D⟩:=x n i
   have c:t.2[(n - 1).toNat]?=some t.2[(n - 1).toNat] :=List.getElem?_eq_getElem (by omega)
   rw[hs t n _ k b en z (by omega) p c (iQ n i _ c)]
   refine nx ⟨by dsimp only; omega,?_,λy j A a=>?_⟩
   ·dsimp only
    rw[show (t.1+1).toNat=t.1.toNat+1 by omega,List.take_add_one,w]
    unfold Kl
    rw[List.foldl_append]
    show _=Z10 g (Kl g H (ns.take t.1.toNat)) n
    rw[← d]
    unfold Z10
    rw[c]
   ·dsimp only at a
    rw[List.getElem?_set] at a
    split at a
    ·split at a
     ·cases a; exact u _ (iQ n i _ c)
     ·cases a
    ·exact iQ y j A a
  ·rw[he t (by omega)]
   exact dn (by rw[d,List.take_of_length_le (by omega)])
 obtain⟨q,e,rfl⟩:=h
 exact e
def ClQ (o:Zm):Prop:=o.Zw≠[]∧o.Zw.length*16≤140737488355328
theorem Zk2 (l:List Zf):(Jd l).length=l.length:=by
 cases l with
 | nil=>rfl
 | cons v r=>cases r <;> rfl
theorem ClQ.clr {o:Zm} (h:ClQ o):ClQ (Ue o):=by
 obtain⟨a,b⟩:=h
 refine⟨λe=>a (List.eq_nil_of_length_eq_zero ?_),?_⟩
 ·have:=congrArg List.length e
  rw[show (Ue o).Zw=Jd o.Zw from rfl,Zk2] at this; exact this
 ·rw[show (Ue o).Zw=Jd o.Zw from rfl,Zk2]; exact b
theorem Zrx {l:List Zf} (h:l.length*16≤140737488355328):Yp 16 (([]:List Zf)++l).length=some ():=by
 unfold Yp; rw[if_pos (by rw[List.nil_append]; omega)]
theorem Zrw {l:List Zm} (h:l.length≤5001):Yp 112 (([]:List Zm)++l).length=some ():=by
 unfold Yp; rw[if_pos (by rw[List.nil_append]; omega)]
theorem Vd {n:Int} {k:Nat} (a:1≤n) (b:n≤k):X7 (n - 1) k=some (n - 1).toNat:=by unfold X7; rw[if_pos (by omega)]
theorem stepP {ns:List Int} {t:Int×List Zm} {n:Int} {o:Zm} (p:ns.length≤5001) (hH:t.2.length≤5001) (c:0≤t.1) (d:t.1<ns.length) (en:Z4 ns t.1=some n) (g:1≤n) (i:n≤t.2.length) (e:t.2[(n - 1).toNat]?=some o) (hq:ClQ o):
  Z8k ns t=some (.next (t.1+1,t.2.set (n - 1).toNat (Ue o))):=by
 obtain⟨j,k⟩:=hq
 unfold Z8k Znt
 rw[if_pos (by simpa using d),en,Option.bind_some,J5 (n:=n - 1) (by omega) (by omega),Option.bind_some,Vd g i,Option.bind_some,e,Option.bind_some,Zrx k,wrS c (by omega)]
 unfold Ue
 cases f:o.Zw with
 | nil=>exact absurd f j
 | cons v r=>
  cases r with
  | nil=>rfl
  | cons w r=>
   have b:decide (((v::w::r).length:Int)>1)=true:=by simp; omega
   simp only[Option.bind_some]
   rw[show X7 0 (v::w::r).length=some 0 by unfold X7; rw[if_pos (by simp; omega)]; rfl,Option.bind_some,List.getElem?_cons_zero,Option.bind_some,if_pos b,show X7 1 (v::w::r).length=some 1 by unfold X7; rw[if_pos (by simp; omega)]; rfl,Option.bind_some]
   simp only[List.set_cons_zero,List.getElem?_cons_succ,List.getElem?_cons_zero,Option.bind_some,List.set_cons_succ]
   rw[show Jd (v::w::r)=Z1z::Z0a w::r from rfl]
   unfold Z0a
   by_cases a:w.Zj=1
   ·rw[if_pos (by simpa using a),if_pos a]; rfl
   ·rw[if_neg (by simpa using a),if_neg a]; rfl
theorem stepP2 {ns:List Int} {t:Int×List Zm} {n:Int} {o:Zm} (f:ns.length≤5001) (hH:t.2.length≤5001) (a:0≤t.1) (b:t.1<ns.length) (en:Z4 ns t.1=some n) (d:1≤n) (e:n≤t.2.length) (c:t.2[(n - 1).toNat]?=some o):
  Z8l ns t=some (.next (t.1+1,t.2.set (n - 1).toNat Ko)):=by
 unfold Z8l
 rw[if_pos (by simpa using b),en,Option.bind_some,J5 (n:=n - 1) (by omega) (by omega),Option.bind_some,Vd d e,Option.bind_some,c,Option.bind_some,wrS a (by omega)]; rfl
section
variable {m:Z6} {l:List Int} (h:Lv m l) (hw:V4 m) (s:Bool)
include h hw
omit h in
theorem Zru {n:Int} (e:n∈Ud m l s) (o:Zm) (b:m.Z7[(n - 1).toNat]?=some o):ClQ o:=by
 obtain⟨⟨x,c⟩,_,d⟩:=Z14.1 e
 obtain⟨_,a,_⟩:=Jl.1 c
 rw[a] at b; cases b
 obtain⟨_,_,v,r,f,_⟩:=Z6l c d
 exact⟨by rw[f]; simp,(hw.heap _ (List.mem_of_getElem? a)).val16⟩
theorem Lv.colP (e:Ki m=some l):Mj m s=some (Qe m l s,Wb m l s,0):=by
 have a:=h.mg.len
 have lu:(Wb m l s).length≤m.Z7.length:=Mk _ _
 have lc:(Ud m l s).length≤m.Z7.length:=Mk _ _
 unfold Mj Zns
 rw[h.unrP s e,Option.bind_some,Zrw a]
 simp only[Option.bind_some]
 rw [h.clrP s e,Option.bind_some,
  Zis (g:=Ue) (Q:=ClQ) (by omega) (λn b=>Zk3 b) (λn b=>Zru hw s b) (λo hq=>hq.clr) (λt n o d f en i j k c hq=>stepP (by omega) (by omega) d f en i j c hq) (λt p=>by unfold Z8k; rw[if_neg (by simp; omega)]),Option.bind_some,
  Zis (g:=λ_=>Ko) (Q:=λ_=>True) (by omega) (λn b=>by rw[Z5s]; exact Zps b) (λn b o c=>trivial) (λo hq=>trivial) (λt n o d f en i j k c hq=>stepP2 (by omega) (by rw[k,Z5s]; exact a) d f en i j c) (λt p=>by unfold Z8l; rw[if_neg (by simp; omega)]),Option.bind_some,Zk5]
 rfl
end
end Go.Proofs
namespace Go.Proofs
open Go.Den Go.Tot
namespace Sm
variable {α β:Type} {bad:α→Prop}
end Sm
section
variable {m:Z6} {H:List Zm} (hH:m.Z7.length≤140737488355328) (hH':H.length≤140737488355328)
include hH hH'
end
end Go.Proofs
namespace Go.Proofs
open Go.Den Go.Tot
theorem Zry (l:List Zf):(Jd l).length=l.length:=by
 cases l with
 | nil=>rfl
 | cons v r=>cases r <;> rfl
theorem Y3i {m:Z6} {l:List Int} {s:Bool} {n:Int} {o:Zm} (h:Li o):Li (Wf m l s n o):=by
 unfold Wf
 split
 ·exact h
 ·split
  ·split
   ·exact⟨by show (Jd o.Zw).length*16≤_; rw[Zry]; exact h.val16,h.str,h.ws⟩
   ·exact h
  ·exact⟨by simp[Ko],by unfold Str Ko; simp,by simp[Ko]⟩
theorem Zk6 {m:Z6} (l:List Int) (s:Bool) (h:V4 m):V4 (Qe m l s) where
 sp:=h.sp
 heap:=λo a=>by
  unfold Qe at a
  dsimp only at a
  obtain⟨i,b,e⟩:=List.mem_mapIdx.1 a
  rw[← e]
  exact Y3i (h.heap _ (List.getElem_mem ..))
 heapL:=by rw[Z2j]; exact h.heapL
 ini:=h.ini
 iniL:=h.iniL
 int:=h.int
 intL:=h.intL
 thr:=h.thr
 thrL:=h.thrL
 outL:=h.outL
section
variable {m:Z6} {l:List Int} (h:Lv m l) (s:Bool)
include h
end
end Go.Proofs
namespace Go.Proofs
open Go.Den Go.Tot
theorem rfL {α:Type} (l:List α) {f:Int→Option (Ctl Int (Unit⊕Bool))} (i:l.length≤4503599627370496) (h:∀ (t:Int) v,t<l.length→v∈l→Z4 l t=some v→IntKind.wrap .i64 (t+1)=t+1→f t=some (.next (t+1))) (he:∀ t:Int,¬t<l.length→f t=some (.done (.inl ()))):
  Z8 f Zb 0=some (.inl ()):=by
 have:Ok (Z8 f Zb 0) (λq=>q=.inl ()):=by
  refine li l.length (λt b g=>?_) (by omega) (by omega) (by omega)
  rcases Int.lt_or_le t l.length with a|c
  ·obtain⟨v,e,d,_⟩:=gri (l:=l) b a
   rw[h t v a d e (J5 (by omega) (by omega))]
   exact ni (by omega) (by omega)
  ·rw[he t (by omega)]; exact di rfl
 obtain⟨q,e,rfl⟩:=this
 exact e
theorem Zso (l:List (List UInt8)) (h:l.length≤4503599627370496):Za3 l l=some true:=by
 unfold Za3
 rw[rfL l h (λt v a b e hw=>by unfold Zcv; rw[if_pos (decide_eq_true a),e]; simp[hw]) λt h=>by unfold Zcv; rw[if_neg (by simpa using h)]]
 simp
theorem Zsp (l:List Zz) (h:l.length≤4503599627370496):Za0 l l=some true:=by
 unfold Za0
 rw[rfL l h (λt v a b e hw=>by unfold Zdk; rw[if_pos (decide_eq_true a),e]; simp[hw,Zkm,Zbo]) λt h=>by unfold Zdk; rw[if_neg (by simpa using h)]]
 simp
theorem Y43 (f:V8) (h:Lh f):Zgt f f=some true:=by
 unfold Zgt
 rw[Zsp _ (by have:=h.locL; omega),Zsp _ (by have:=h.stkL; omega)]
 simp
theorem eq_maps (l:List Yi) (h:l.length≤4503599627370496) (b:∀ m∈l,Lh m.Xa):Zgv l l=some true:=by
 unfold Zgv
 rw[rfL l h (λt v a c e hw=>by unfold Zd1; rw[if_pos (decide_eq_true a),e]; simp[hw,Y43 _ (b v c)]) λt h=>by unfold Zd1; rw[if_neg (by simpa using h)]]
 simp
theorem Zsl (l:List Int) (h:l.length≤4503599627370496):Z9j l l=some true:=by
 unfold Z9j
 rw[rfL l h (λt v a b e hw=>by unfold Zdb; rw[if_pos (decide_eq_true a),e]; simp[hw]) λt h=>by unfold Zdb; rw[if_neg (by simpa using h)]]
 simp
theorem eq_insn (i:Zg) (h:Qy i):Zgu i i=some true:=by
 unfold Zgu
 rw[Zsl _ (by have:=h.keys; omega),Zsl _ (by have:=h.tos; omega)]
 simp[Z40]
theorem eq_code (c:Zx) (h:Wu c):Zgs c c=some true:=by
 unfold Zgs Zlc
 rw [eq_maps _ (by have:=h.mapL; omega) h.map,
  rfL c.Y7 (by have:=h.insL; omega) (λt v a b e hw=>by unfold Zcw; rw[if_pos (decide_eq_true a),e]; simp[hw,eq_insn _ (h.ins v b)]) λt h=>by unfold Zcw; rw[if_neg (by simpa using h)]]
 simp only[Option.bind]
 rw[rfL c.Xm (by have:=h.hndL; omega) (λt v a b e hw=>by unfold Zcx; rw[if_pos (decide_eq_true a),e]; simp[hw,Zkh]) λt h=>by unfold Zcx; rw[if_neg (by simpa using h)]]
 simp only[]
 rw[rfL c.Xf (by have:=h.linL; omega) (λt v a b e hw=>by unfold Zcy; rw[if_pos (decide_eq_true a),e]; simp[hw,Zkk]) λt h=>by unfold Zcy; rw[if_neg (by simpa using h)]]
 simp
theorem Y45 (u:Yj) (h:Wv u):Zgq u u=some true:=by
 unfold Zgq j88x1
 rw [Zso _ (by have:=h.ifsL; omega),
  rfL u.Ym (by have:=h.fldL; omega) (λt v a b e hw=>by unfold Zf0; rw[if_pos (decide_eq_true a),e]; simp[hw,Zkg]) λt h=>by unfold Zf0; rw[if_neg (by simpa using h)]]
 simp only[Option.bind]
 rw[rfL u.Yo (by have:=h.metL; omega) (λt v a b e hw=>by unfold Zf1; rw[if_pos (decide_eq_true a),e]; simp[hw,eq_code _ (h.met v b).code,Zso _ (show v.Wg.length≤_ by have:=(h.met v b).excL; omega)]) λt h=>by unfold Zf1; rw[if_neg (by simpa using h)]]
 simp
theorem Y42 (l:List Xi) (f:l.length≤140737488355328) (h:∀ c∈l,Wv c.Xp∧c.Yc.length≤140737488355328):Zh7 l l=some true:=by
 unfold Zh7
 rw [rfL l (by omega) (λt v a b e hw=>by
  unfold Zem j64x1
  have d:Z8 (Z96 v v) Zb 0=some (.inl ()):=rfL v.Yc (by have:=(h v b).2; omega) (λt v a b e hw=>by unfold Z96; rw[if_pos (decide_eq_true a),e]; simp[hw]) λt h=>by unfold Z96; rw[if_neg (by simpa using h)]
  rw[if_pos (decide_eq_true a),e]
  simp[hw,Y45 _ (h v b).1,d]) λt h=>by unfold Zem; rw[if_neg (by simpa using h)]]
 simp
theorem Y44 (l:List Yk) (i:l.length≤140737488355328) (h:∀ c∈l,Jq c):Zh8 l l=some true:=by
 unfold Zh8
 rw [rfL l (by omega) (λt v a b e hw=>by
  unfold Zel j63x1
  have f:Z8 (Z94 t l l) Zb 0=some (.inl ()):=rfL v.Va (by have:=(h v b).delL; omega) (λt v a b d hw=>by unfold Z94; rw[e]; dsimp only[Option.bind]; rw[if_pos (decide_eq_true a),d]; simp[hw,Zkf]) λt h=>by unfold Z94; rw[e]; dsimp only[Option.bind]; rw[if_neg (by simpa using h)]
  have g:Z8 (Z95 t l l) Zb 0=some (.inl ()):=rfL v.Qv (by have:=(h v b).stoL; omega) (λt v a b d hw=>by unfold Z95; rw[e]; dsimp only[Option.bind]; rw[if_pos (decide_eq_true a),d]; simp[hw,Zkl]) λt h=>by unfold Z95; rw[e]; dsimp only[Option.bind]; rw[if_neg (by simpa using h)]
  rw[if_pos (decide_eq_true a),e]
  simp[hw,f,g]) λt h=>by unfold Zel; rw[if_neg (by simpa using h)]]
 simp
theorem Y46 (w:Zq) (h:Wo w):Zh3 w w=some true:=by
 unfold Zh3 j36x1
 rw [Y44 _ h.lodL h.lod,Y42 _ h.clsL h.cls,
  rfL w.Yr (by have:=h.iniL; omega) (λt v a b e hw=>by unfold Zed; rw[if_pos (decide_eq_true a),e]; simp[hw,Zki]) λt h=>by unfold Zed; rw[if_neg (by simpa using h)]]
 simp only[Option.bind]
 rw[rfL w.Q3 (by have:=h.conL; omega) (λt v a b e hw=>by unfold Zee; rw[if_pos (decide_eq_true a),e]; simp[hw,Zke]) λt h=>by unfold Zee; rw[if_neg (by simpa using h)]]
 simp
end Go.Proofs
namespace Go.Proofs
open Go.Den Go.Tot
theorem Zbn (l:List Zf) (h:l.length≤140737488355328):Z36 l l=some true:=by
 unfold Z36
 rw[rfL l (by omega) (λt v a b e hw=>by unfold Zeg j48x1; rw[if_pos (decide_eq_true a),if_pos (decide_eq_true a),e]; simp[hw,Jg]) λt h=>by unfold Zeg; rw[if_neg (by simpa using h)]]
 simp
theorem eq_wset (l:List Int) (h:l.length≤140737488355328):Zhm l l=some true:=by
 unfold Zhm
 rw[rfL l (by omega) (λt v a b e hw=>by unfold Zeh j49x1; rw[if_pos (decide_eq_true a),if_pos (decide_eq_true a),e]; simp[hw]) λt h=>by unfold Zeh; rw[if_neg (by simpa using h)]]
 simp
theorem Zsn (o:Zm) (h:Li o):Zab o o=some true:=by
 unfold Zab
 rw[Zbn _ h.val,eq_wset _ h.ws]
 simp[Z2o]
theorem eq_act (a:Qb) (h:M9 a):Zhk a a=some true:=by
 unfold Zhk
 rw[Zbn _ h.loc,Zbn _ h.stk]
 simp
theorem Y48 (t:Xu) (h:(∀ a∈t.Yu,M9 a)∧t.Yu.length≤140737488355328):Zhl t t=some true:=by
 unfold Zhl j62x1
 rw[rfL t.Yu (by have:=h.2; omega) (λi v b c e hw=>by unfold Zek; rw[if_pos (decide_eq_true b),e]; simp[hw,eq_act v (h.1 v c)]) λi h=>by unfold Zek; rw[if_neg (by simpa using h)]]
 simp[Jg]
theorem Y47 (l:List Qn) (d:l.length≤140737488355328) (h:∀ b∈l,b.Qt.length≤140737488355328):Zhn l l=some true:=by
 unfold Zhn
 rw [rfL l (by omega) (λt v a c e hw=>by
  unfold Zej Zco Zcp Zcq
  rw[if_pos (decide_eq_true a),if_pos (decide_eq_true a),e]
  simp only[Option.bind_some,decide_eq_true a,if_true,e]
  rw[Zbn _ (h v c)]
  simp[hw]) λt h=>by unfold Zej; rw[if_neg (by simpa using h),if_neg (by simpa using h)]]
 rfl
theorem eq_rest (m:Z6) (h:V4 m):Zhj m m=some true:=by
 unfold Zhj j35x1
 rw [Y47 _ h.iniL h.ini,
  rfL m.Z7 (by have:=h.heapL; omega) (λt v a b e hw=>by unfold Ze9; rw[if_pos (decide_eq_true a),e]; simp[hw,Zsn v (h.heap v b)]) λt h=>by unfold Ze9; rw[if_neg (by simpa using h)]]
 simp only[Option.bind]
 rw[rfL m.X1 (by have:=h.intL; omega) (λt v a b e hw=>by unfold Zea; rw[if_pos (decide_eq_true a),e]; simp[hw,Zkj]) λt h=>by unfold Zea; rw[if_neg (by simpa using h)]]
 simp only[]
 rw[rfL m.Y9 (by have:=h.thrL; omega) (λt v a b e hw=>by unfold Zeb; rw[if_pos (decide_eq_true a),e]; simp[hw,Y48 v (h.thr v b)]) λt h=>by unfold Zeb; rw[if_neg (by simpa using h)]]
 simp only[]
 rw[rfL m.Qo (by have:=h.outL; omega) (λt v a b e hw=>by unfold Zec; rw[if_pos (decide_eq_true a),e]; simp[hw]) λt h=>by unfold Zec; rw[if_neg (by simpa using h)]]
 simp
theorem Zsm (m:Z6) (h:V4 m):Zaa m m=some true:=by
 unfold Zaa
 rw[eq_rest m h,Y46 _ h.sp]
 rfl
end Go.Proofs
namespace Go.Proofs
open Go.Den Go.Tot
theorem Z5z:Lu=some true:=by kernel_rfl
theorem Zkr (l:List Int) (m:l.length≤140737488355328):Z0s l l=some true:=by
 unfold Z0s
 have h:Ok (Z8 (Zda l l) Zb 0) λq=>q=.inl ():=by
  refine li l.length (λt d j=>?_)
  unfold Zda
  refine brD (λc=>?_) λ_=>di rfl
  refine bd (gri d c) λa ⟨_,g⟩=>bd (gri d c) λb ⟨_,f⟩=>brN (λne=>?_) λ_=>bd wr λk i=>?_
  ·rw[g] at f; cases f; exact absurd rfl ne
  ·subst i; exact ni (by omega) (by omega)
 obtain⟨q,e,rfl⟩:=h
 rw[if_neg (by simp),e]; rfl
theorem Y6n {m:Z6} (h:V4 m):∃ b,Z0l m=some b∧(b=true→Uo m):=by
 obtain⟨c,e,a⟩:=valid36 m h
 unfold Z0l
 rw[e]
 split
 ·split
  ·split
   ·exact⟨c,rfl,a⟩
   ·exact⟨_,rfl,λh=>by cases h⟩
  ·exact⟨_,rfl,λh=>by cases h⟩
 ·exact⟨_,rfl,λh=>by cases h⟩
theorem Z99 {m:Z6} (h:V4 m) {x:Option Bool} (c:Uo m→x=some true):
  ((Z0l m).bind λd=>if (!d)=true then Lu.bind λf=>some f else x)=some true:=by
 obtain⟨b,e,a⟩:=Y6n h
 rw[e,Option.bind_some,Z5z]
 cases b with
 | false=>rfl
 | true=>exact c (a rfl)
end Go.Proofs
namespace Go.Proofs
open Tryz
open Go.Den Go.RowKit Go.ChangeShapes Go.WideShapes
theorem gRef : prog.globalNamed "armature/reachability.references" = some 0 := by kernel_rfl
theorem tRef:(prog.globals[0]?).map (·.type)=some 121:=by kernel_rfl
theorem c9:prog.cellsOf 9=1:=by kernel_rfl
abbrev Uw : List (String × DataW Unit) := [("armature/reachability.references", YtaamfcpmekeahaaGreatDoor.Rows.laid_armature_reachability_references)]
theorem Y4w:(YtaamfcpmekeahaaGreatDoor.Rows.laid_armature_reachability_references:DataW Unit)=.agg (gl0.map λs=> .lit (.string s)):=rfl
theorem Z6w {W:World} (h:laidMetH prog Uw W):Z00 W (Le W):=by
 rw[MakeChecks.laidMetH_plain _ _ _ (by kernel_rfl)] at h
 obtain⟨ps,⟨g0,t0,cs0,z,p0,q0,i,m,n,e,_,_⟩,_,_⟩:=h
 obtain rfl:=Option.some.inj (gRef.symm.trans i)
 obtain rfl:=Option.some.inj (tRef.symm.trans m)
 obtain⟨xs,A,rfl,a,q,w,f⟩:=DataW.trod_array underlying121 e
 rw[Y4w] at a
 simp only[Prod.mk.injEq,DataW.agg.injEq] at a
 have key:∀ (j:Nat) s,gl0[j]?=some s→∃ b:ByteArray,b.data.toList=s∧W.cell? ⟨0,j,none⟩=some (.string b):=λj s hs=>by
  have v:j<4:=(List.getElem?_eq_some_iff.1 hs).1
  have r:(xs.map (·.1))[j]?=some (.lit (.string s)):=by rw[← a.1,List.getElem?_map,hs]; rfl
  rw[List.getElem?_map] at r
  obtain⟨x,y,d⟩:=Option.map_eq_some_iff.1 r
  have p:=f j v
  rw[y] at p
  obtain⟨b,o,t,_⟩:=DataW.trod_string underlying9 p
  rw[t] at d
  refine⟨b,by simpa using d,?_⟩
  rw[World.var?_cell gRef n j]
  rw[c9,Nat.mul_one] at o
  have:(cs0.toList.drop j)[0]?=some (.string b):=by
   have:=congrArg (·[0]?) o
   simpa using this
  rw[List.getElem?_drop] at this
  simpa using this
 intro g l c
 have k:g=0∧l=gl0:=by
  unfold Zbu at c
  simp only[List.lookup] at c
  split at c
  ·rename_i he
   exact⟨by simpa using he,(Option.some.inj c).symm⟩
  ·cases c
 obtain⟨rfl,rfl⟩:=k
 refine⟨by decide,?_,key⟩
 obtain⟨b,_,u⟩:=key 3 _ rfl
 exact Zt5 u
theorem Z6t (os:Os) (args:Array Value):laidMetH prog Uw ((World.doorLaid prog 400 os).forCall (λ_ _=>0) ⟨#[],args,[]⟩).memory:=
 laidMetH_of_parts3 (fuel:=8) (laidMet_of_run' 8 (by kernel_rfl) (by kernel_rfl)) (by kernel_rfl) (by kernel_rfl)
end Go.Proofs
