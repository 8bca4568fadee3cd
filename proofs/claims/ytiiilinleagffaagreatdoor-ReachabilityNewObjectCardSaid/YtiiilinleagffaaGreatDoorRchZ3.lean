/-
  Objects, what they refer to: the program and the reference. No condition.
-/
import Derived.Test.YtiiilinleagffaaGreatDoorRchX
import Derived.Test.YtiiilinleagffaaGreatDoorRch10
import Derived.Test.YtiiilinleagffaaGreatDoorRows
import Derived.Test.YtiiilinleagffaaGreatDoorDenClaim
import Derived.LaidMore
import Derived.MakeChecks
import Derived.OpenShut
import Derived.FnData
import Derived.ChangeArms
set_option linter.unusedVariables false
set_option linter.unusedSimpArgs false
namespace Go.Proofs
open Go.Den Go.Tot
theorem Y09 (l:List Int) (x:Int) (hl:l.length≤140737488355328):Zc1 l x=some (decide (x∈l)):=by
 have h:Ok (Zep l x) λi=>(0≤i↔x∈l):=by
  unfold Zep
  refine bd (P:=λq:Unit⊕Int=>match q with|.inl _=>x ∉ l|.inr i=>0≤i∧x∈l) (lp (λt:Int=>t) l.length (λt=>∀ (j:Nat) v,(j:Int)<t→l[j]?=some v→v≠x) (λt hI h0 h1=>?_) (by omega) (λj v hj _=>by omega) (by omega) (by omega)) λq hq=>?_
  ·unfold l91x1
   refine brD (λhlt=>bd (gri h0 hlt) λv ⟨hv,hi⟩=>brE (λe=>dn ⟨h0,e ▸ hv⟩) λne=>bd wr λk hk=>?_) λhge=>dn λhx=>?_
   ·subst hk
    refine nx (λj v' hj hj'=>?_) (by omega) (by omega)
    by_cases h:(j:Int)<t
    ·exact hI j v' h hj'
    ·have:j=t.toNat:=by omega
     subst this
     rw[hi] at hj'; cases hj'; exact Ne.symm ne
   ·obtain⟨j,hj⟩:=List.mem_iff_getElem?.1 hx
    have:=(List.getElem?_eq_some_iff.1 hj).1
    exact hI j x (by omega) hj rfl
  ·cases q with
   | inl _=>exact ok ⟨λh=>absurd h (by decide),λh=>absurd h hq⟩
   | inr i=>exact ok ⟨λ_=>hq.2,λ_=>hq.1⟩
 unfold Zc1
 obtain⟨i,e,hi⟩:=h
 rw[e]
 show some (decide (i≥0))=_
 congr 1
 exact decide_eq_decide.2 hi
theorem in_eq (l:List Int) (x:Int) (hl:l.length≤140737488355328):Zai l x=some (decide (x∈l)):=by
 have h:Ok (Z7 (Z65 l x) Z8 0) λq=>(q=.inl ()∧∀ v∈l,v≠x)∨(q=.inr true∧∃ v∈l,¬v≠x):=by
  refine Go.Tot.allP (l:=l) (p:=λv=>v≠x) (y:=(Sum.inr true:Unit⊕Bool)) (z:=Sum.inl ()) (by omega) (λt v h0 h1 hi hm e=>?_) ?_
  ·unfold Z65
   rw[if_pos (by simpa using h1),e]
   refine bs (brE (λe=>ok (.inr ⟨rfl,λh=>h e⟩)) λne=>bd wr λk hk=>?_)
   subst hk
   exact ok (.inl ⟨rfl,ne⟩)
  ·unfold Z65
   exact brD (λh=>absurd h (by omega)) λ_=>ok rfl
 unfold Zai
 obtain⟨q,e,hq⟩:=h
 rw[e]
 rcases hq with ⟨rfl,h⟩|⟨rfl,v,hv,h⟩
 ·show some false=_
  rw[decide_eq_false λhx=>h x hx rfl]
 ·show some true=_
  rw[decide_eq_true (by have:=Decidable.not_not.1 h; exact this ▸ hv)]
def InN (N:Nat) (l:List Zg):Prop:=∀ v∈l,v.Zn=3→v.f_N≠0→1≤v.f_N∧v.f_N≤N
def NdI (N:Nat) (s:List Int):Prop:=s.Nodup∧∀ x∈s,1≤x∧x≤N
theorem NdI.len {N:Nat} {s:List Int} (h:NdI N s):s.length≤N:=Z7b N s h.1 h.2
theorem NdI.step {N:Nat} {s:List Int} {v:Zg} (h:NdI N s) (hv:v.Zn=3→v.f_N≠0→1≤v.f_N∧v.f_N≤N):NdI N (Ll s v):=by
 unfold Ll
 split
 ·rename_i hc
  refine⟨List.nodup_append.2 ⟨h.1,by simp,λa ha b hb=>?_⟩,λx hx=>?_⟩
  ·rw[List.mem_singleton.1 hb]; exact λe=>hc.2.2 (e ▸ ha)
  ·rcases List.mem_append.1 hx with hx|hx
   ·exact h.2 x hx
   ·rw[List.mem_singleton.1 hx]; exact hv hc.1 hc.2.1
 ·exact h
theorem wrS {i:Int} (h0:0≤i) (h1:i≤140737488355328):IntKind.wrap .i64 (i+1)=i+1:=Ub (by omega) (by omega)
theorem gk8 {N:Nat} {s:List Int} (h:NdI N s) (hN:N≤5001) (x:Int):Ye 8 (s++[x]).length=some ():=by
 have:=h.len
 unfold Ye
 rw[if_pos (by simp; omega)]
theorem Zos {N:Nat} (hN:N≤5001) (l:List Zg) (hr:InN N l) (hl:l.length≤140737488355328):Z7n l=some (vtg l):=by
 unfold Z7n
 have:=Lr (l:=l) (f:=Z8q l) (λt s=>(t,s)) Ll id (NdI N) (λs x hs hx=>hs.step (hr x hx)) (λt s x h0 h1 hs hx e=>?_) (λs hs=>?_) (s0:=[]) ⟨List.nodup_nil,λx hx=>(List.not_mem_nil hx).elim⟩ (by omega)
 ·rw[this]; rfl
 ·unfold Z8q
  dsimp only
  rw[if_pos (by simpa using h1),e]
  simp only[Option.bind_some]
  have hsl:s.length≤140737488355328:=by have:=hs.len; omega
  rw[wrS h0 (by omega),Y09 s _ hsl]
  unfold Ll
  by_cases a:x.Zn=3
  ·by_cases b:x.f_N=0
   ·simp[a,b]
   ·by_cases c:x.f_N∈s
    ·simp[a,b,c]
    ·simp only[a,b,c,beq_self_eq_true,if_true,bne_iff_ne,ne_eq,not_false_eq_true,and_self,decide_false,Bool.not_false,Option.bind_some]
     unfold j38x1
     rw[gk8 hs hN]
     simp only[Option.bind_some]
     rw[wrS h0 (by omega)]
  ·simp[a]
 ·unfold Z8q
  dsimp only
  rw[if_neg (by simp)]; rfl
theorem Zo7 {N:Nat} (hN:N≤5001) (v0:Zl×Bool) (d:Nat) (hd:d≤v0.1.Yj.length) (hr:InN N v0.1.Yj) (hl:v0.1.Yj.length≤140737488355328):Z14 v0 d=some (vtg (v0.1.Yj.drop d)):=by
 unfold Z14
 have:=Zrc (l:=v0.1.Yj) (f:=Z0j v0) (λt s=>(t,s)) Ll id (NdI N) (λs x hs hx=>hs.step (hr x hx)) (λt s x h0 h1 hs hx e=>?_) (λs hs=>?_) (v0.1.Yj.drop d) (v0.1.Yj.take d) [] Z8 (by simp) ⟨List.nodup_nil,λx hx=>(List.not_mem_nil hx).elim⟩ (by simp; unfold Z8; omega)
 ·rw[List.length_take,Nat.min_eq_left hd] at this
  rw[this]; rfl
 ·unfold Z0j
  dsimp only
  rw[if_pos (by simpa using h1),e]
  simp only[Option.bind_some]
  have hsl:s.length≤140737488355328:=by have:=hs.len; omega
  rw[wrS h0 (by omega),in_eq s _ hsl]
  unfold Ll
  by_cases a:x.Zn=3
  ·by_cases b:x.f_N=0
   ·simp[a,b]
   ·by_cases c:x.f_N∈s
    ·simp[a,b,c]
    ·simp only[a,b,c,beq_self_eq_true,if_true,bne_iff_ne,ne_eq,not_false_eq_true,and_self,decide_false,Bool.not_false,Option.bind_some]
     unfold j14x2
     rw[gk8 hs hN]
     simp only[Option.bind_some]
     rw[wrS h0 (by omega)]
  ·simp[a]
 ·unfold Z0j
  dsimp only
  rw[if_neg (by simp)]; rfl
def zeroO:Zl:={ Zn:=0,Zv:={ Xh:=0,X0:=0,Zq:=0 },Yj:=[],Xv:=[],Qw:=0,Qh:=0,Q7:=[] }
def objP (m:Z4) (n:Int):Zl×Bool:=match Vm m n with|some o=>(o,true)|none=>(zeroO,false)
theorem Zl3 (m:Z4) (n:Int) (hH:m.Z2.length≤140737488355328):Uk m n=some (Vm m n).isSome:=by
 unfold Uk Vm
 by_cases h1:n≥1
 ·by_cases h2:n≤(m.Z2.length:Int)
  ·have hlt:(n - 1).toNat<m.Z2.length:=by omega
   rw[if_pos (by simpa using h1),if_pos (by simpa using h2),if_pos (show 1≤n from h1)]
   rw[Option.bind_some,Ub (by omega) (by omega)]
   unfold Z5
   rw[if_pos (by omega),List.getElem?_eq_getElem hlt]
   simp only[Option.bind_some]
   by_cases hk:m.Z2[(n - 1).toNat].Zn=0
   ·rw[if_pos hk,hk]; rfl
   ·rw[if_neg hk,show (m.Z2[(n - 1).toNat].Zn !=0)=true from bne_iff_ne.2 hk]; rfl
  ·rw[if_pos (by simpa using h1),if_neg (by simpa using h2),if_pos (show 1≤n from h1),List.getElem?_eq_none (by omega)]; rfl
 ·rw[if_neg (by simpa using h1),if_neg (show ¬1≤n from h1)]; rfl
theorem Y01 (m:Z4) (n:Int):Zkx m n=Uk m n:=rfl
theorem Y0y (m:Z4) (n:Int) (hH:m.Z2.length≤140737488355328):Z1t m n=some (objP m n)∧Z47 m n=some (objP m n):=by
 have key:Z1t m n=some (objP m n):=by
  unfold Z1t objP
  rw[Y01,Zl3 m n hH]
  cases ho:Vm m n with
  | none=>rfl
  | some o=>
   obtain⟨h1,h2,h3⟩:=Jb.1 ho
   have hlt:=(List.getElem?_eq_some_iff.1 h2).1
   simp only[Option.isSome_some,Option.bind_some,Bool.not_true,Bool.false_eq_true,if_false]
   rw[Ub (by omega) (by omega)]
   unfold Z5
   rw[if_pos (by omega),h2]; rfl
 refine⟨key,?_⟩
 rw[← key]
 rfl
theorem Ztj (o:Zl) (k:Int) (hk:0≤k):Z71 o k=some (o.Yj.drop (if 0<k then 1 else 0),if k=0 then 0 else match o.Yj with|v::_=>if v.Zn=3 then v.f_N else 0|[] =>0):=by
 unfold Z71
 by_cases h:k=0
 ·subst h; simp
 ·rw[if_neg (by simpa using h),if_neg h,if_pos (show 0<k by omega)]
  cases hv:o.Yj with
  | nil=>simp
  | cons v r=>
   rw[if_neg (by simp; omega)]
   unfold j37x1
   rw[hv]
   have hs:sub (v::r) 1 ((v::r).length:Int)=some r:=by
    unfold sub
    rw[if_pos (by simp; omega)]
    simp
   have hg:Z5 (v::r) 0=some v:=rfl
   rw[hg,hs]
   simp only[Option.bind_some,List.drop_succ_cons,List.drop_zero]
   by_cases a:v.Zn=3
   ·simp[a]
   ·simp[a]
end Go.Proofs
namespace Go.Proofs
open Go.Den Go.Tot
def lkR (l:List Xn) (s:List UInt8):Int×Bool:=match lkp l s with|some c=>(c,true)|none=>(0,false)
theorem Zxf {l:List Xn} {s:List UInt8} (h:∀ x∈l,¬(x.Xj=0∧x.Ze=s)):lkp l s=none:=by
 unfold lkp
 rw[List.find?_eq_none.2 λx hx=>by have:=h x hx; simpa using this]; rfl
theorem lkp_at {l:List Xn} {s:List UInt8} {j:Nat} {x:Xn} (hj:l[j]?=some x) (hx:x.Xj=0∧x.Ze=s) (h:∀ (i:Nat) y,i<j→l[i]?=some y→ ¬(y.Xj=0∧y.Ze=s)):lkp l s=some x.Zq:=by
 unfold lkp
 have:l.find? (λx=>x.Xj==0&&x.Ze==s)=some x:=by
  refine List.find?_eq_some_iff_getElem.2 ⟨by simp[hx.1,hx.2],j,(List.getElem?_eq_some_iff.1 hj).1,(List.getElem?_eq_some_iff.1 hj).2,λi hi=>?_⟩
  have hlt:=(List.getElem?_eq_some_iff.1 hj).1
  have:=h i l[i] hi (List.getElem?_eq_getElem _)
  simp only[Bool.not_eq_true',Bool.and_eq_false_iff,beq_eq_false_iff_ne,ne_eq]
  by_cases a:l[i].Xj=0
  ·exact .inr λb=>this ⟨a,b⟩
  ·exact .inl a
 rw[this]; rfl
theorem Zuy {l:List Xn} {s:List UInt8} (hl:l.length≤140737488355328) {f:Int→Option (Ctl Int (Unit⊕(Int×Bool)))}
  (h:∀ t x,0≤t→t<(l.length:Int)→Z5 l t=some x→f t=some (if x.Xj=0∧x.Ze=s then .done (.inr (x.Zq,true)) else .next (t+1))) (he:f l.length=some (.done (.inl ()))):
  (Z7 f Z8 0).bind (λq=>match q with|.inl _=>some (0,false)|.inr y=>some y)=some (lkR l s):=by
 have key:Ok (Z7 f Z8 0) λq=>(match q with|.inl _=>some ((0:Int),false)|.inr y=>some y)=some (lkR l s):=by
  refine lp (λt:Int=>t) l.length (λt=>∀ (i:Nat) y,(i:Int)<t→l[i]?=some y→ ¬(y.Xj=0∧y.Ze=s)) (λt hI h0 h1=>?_) (by omega) (λi y hi _=>by omega) (by omega) (by omega)
  rcases Int.lt_or_le t l.length with hlt|hge
  ·obtain⟨x,e,hx,hi⟩:=gri (l:=l) h0 hlt
   rw[h t x h0 hlt e]
   by_cases hc:x.Xj=0∧x.Ze=s
   ·rw[if_pos hc]
    refine dn ?_
    unfold lkR
    rw[lkp_at hi hc λi y hij=>hI i y (by omega)]
   ·rw[if_neg hc]
    refine nx (λi y hij hy=>?_) (by omega) (by omega)
    by_cases h':(i:Int)<t
    ·exact hI i y h' hy
    ·have:i=t.toNat:=by omega
     subst this
     rw[hi] at hy; cases hy; exact hc
  ·have:t=l.length:=by omega
   subst this
   rw[he]
   refine dn ?_
   unfold lkR
   rw[Zxf λx hx=>?_]
   obtain⟨j,hj⟩:=List.mem_iff_getElem?.1 hx
   have:=(List.getElem?_eq_some_iff.1 hj).1
   exact hI j x (by omega) hj
 obtain⟨q,e,hq⟩:=key
 rw[e]; exact hq
theorem foundP (w:Zj) (s:List UInt8) (hl:w.X1.length≤140737488355328):Z4x w 0 s=some (lkR w.X1 s):=by
 unfold Z4x
 refine Zuy hl (λt x h0 h1 e=>?_) ?_
 ·unfold Zf6
  rw[if_pos (by simpa using h1),e]
  simp only[Option.bind_some]
  rw[wrS h0 (by omega)]
  by_cases a:x.Xj=0
  ·by_cases b:x.Ze=s
   ·simp[a,b]
   ·simp[a,b]
  ·simp[a]
 ·unfold Zf6
  rw[if_neg (by simp)]
theorem Zth (w:Zj) (s:List UInt8) (hl:w.X1.length≤140737488355328):Z0v w 0 s=some (lkR w.X1 s):=by
 unfold Z0v
 have:Z1x w 0 s=some (lkR w.X1 s):=by
  unfold Z1x
  refine Zuy hl (λt x h0 h1 e=>?_) ?_
  ·unfold Z92
   rw[if_pos (by simpa using h1),e]
   simp only[Option.bind_some]
   rw[wrS h0 (by omega)]
   by_cases a:x.Xj=0
   ·by_cases b:x.Ze=s
    ·simp[a,b]
    ·simp[a,b]
   ·simp[a]
  ·unfold Z92
   rw[if_neg (by simp)]
 rw[this]; rfl
theorem subP (w:Zj) (hv:Vn w) (a b:Int):Z91 w a b=some (subB w a b)∧Z4g w a b=some (subB w a b):=by
 obtain⟨r,h1,h2,_⟩:=sub_eq w hv a b
 unfold subB
 rw[h1,h2]; exact⟨rfl,rfl⟩
theorem Zhq (w:Zj) (hv:Vn w) (hl:w.X1.length≤140737488355328) (c:Int) (s:List UInt8):Z2x w c s=some (Jj w c s):=by
 unfold Z2x Jj
 rw[Zth w s hl]
 unfold lkR
 cases lkp w.X1 s with
 | none=>rfl
 | some k=>
  simp only[Option.bind_some,if_true]
  rw[(subP w hv c k).2]; rfl
def stK (w:Zj) (t:Int) (c:Int):Int:=if 4≤t∧Jj w c Z9c=true then 3 else if 3≤t∧Jj w c Zdr=true then 2 else if 2≤t∧Jj w c Z9l=true then 1 else 0
theorem stK_4 (w:Zj) (c:Int):stK w 4 c=Jq w c:=by unfold stK Jq; simp
def Tbl (w:Zj) (f:Int→Int) (l:List Int):Prop:=l.length=w.Zy.length∧∀ (j:Nat),j<l.length→l[j]?=some (f j)
theorem inner34 {w:Zj} (hv:Vn w) {f:Int→Int} {k:Int} {l:List Int} (hT:Tbl w f l) {v:Int×Bool}:Ok (Z7 (Z7a (k,l) v w) Z8 (0,l)) λq=>Tbl w (λc=>if subB w c v.1=true then k else f c) q:=by
 have hfew:=hv.few
 obtain⟨hl,hf⟩:=hT
 refine lp (λt:Int×List Int=>t.1) l.length (λt=>t.2.length=l.length∧∀ (j:Nat),j<l.length→t.2[j]?=some (if (j:Int)<t.1∧subB w j v.1=true then k else f j)) (λt ⟨hI1,hI2⟩ h0 h1=>?_) (by omega) ⟨rfl,λj hj=>by dsimp only; rw[if_neg (by omega)]; exact hf j hj⟩
 unfold Z7a
 refine brD (λhlt=>?_) λhge=>dn ⟨hI1.trans hl,λj hj=>?_⟩
 ·rw[(subP w hv t.1 v.1).1,Option.bind_some]
  refine br (λhs=>bd (ik h0 (by dsimp only at hlt; omega)) λn ⟨hn,hnl⟩=>bd (la hnl) λ_ _=>bd wr λi hi=>?_) λhs=>bd wr λi hi=>?_
  ·subst hi; subst hn
   refine nx ⟨by simpa using hI1,λj hj=>?_⟩ (by dsimp only; omega) (by dsimp only at hlt ⊢; omega)
   dsimp only
   rw[List.getElem?_set]
   by_cases h:t.1.toNat=j
   ·rw[if_pos h,if_pos (by omega)]
    have hj':(j:Int)=t.1:=by omega
    rw[hj',if_pos ⟨by omega,hs⟩]
   ·rw[if_neg h,hI2 j hj]
    congr 1
    by_cases a:(j:Int)<t.1
    ·simp[a,show (j:Int)<t.1+1 by omega]
    ·simp[a,show ¬(j:Int)<t.1+1 by omega]
  ·subst hi
   refine nx ⟨hI1,λj hj=>?_⟩ (by dsimp only; omega) (by dsimp only at hlt ⊢; omega)
   dsimp only
   rw[hI2 j hj]
   congr 1
   by_cases h:(j:Int)=t.1
   ·rw[h,hs]; simp
   ·by_cases a:(j:Int)<t.1
    ·simp[a,show (j:Int)<t.1+1 by omega]
    ·simp[a,show ¬(j:Int)<t.1+1 by omega]
 ·dsimp only at hge
  rw[hI2 j (by omega)]
  congr 1
  simp[show (j:Int)<t.1 by omega]
theorem Zkc (w:Zj) (hv:Vn w) (hl:w.X1.length≤140737488355328):Ok (Z2m w) λq=>Tbl w (Jq w) q:=by
 have hfew:=hv.few
 unfold Z2m
 refine bd (mk (by omega) (by omega) (by omega) (by omega)) λ_ _=>?_
 refine bd (P:=λq=>Tbl w (Jq w) q) (lp (λt:Int×List Int=>t.1) 4 (λt=>1≤t.1∧Tbl w (stK w t.1) t.2) (λt ⟨hI0,hI⟩ h0 h1=>?_) (by omega) ⟨by dsimp only; omega,by simp,λj hj=>?_⟩) λq hq=>ok hq
 ·obtain⟨k,l⟩:=t
  dsimp only at hI0 hI h0 h1
  unfold l34x1
  refine brD (λhlt=>?_) λhge=>dn ?_
  ·dsimp only at hlt
   have hk:k=1∨k=2∨k=3:=by omega
   have main:∀ s:List UInt8,Z5 gl0 k=some s→(∀ c,stK w (k+1) c=if Jj w c s=true then k else stK w k c)→Ok ((Z5 gl0 (k,l).1).bind λv10=>(Z4x w 0 v10).bind λv11=>
     if (!v11.2)=true then ((some (IntKind.wrap .i64 ((k,l).1+(1:Int)))).bind λv12=>some (.next (v12,(k,l).2))) else
     ((Z7 (Z7a (k,l) v11 w) Z8 (0,(k,l).2)).bind λq2=>(some (IntKind.wrap .i64 ((k,l).1+(1:Int)))).bind λv21=>some (.next (v21,q2))))
     (St (λt:Int×List Int=>1≤t.1∧Tbl w (stK w t.1) t.2) (λt=>t.1) 4 (λq:List Int=>Tbl w (Jq w) q) (k,l)):=λs e hs=>by
    dsimp only
    rw[e]
    simp only[Option.bind_some]
    rw[foundP w s hl]
    simp only[Option.bind_some]
    unfold lkR
    cases hc:lkp w.X1 s with
    | none=>
     simp only[Bool.not_false,if_true]
     rw[wrS (by omega) (by omega)]
     refine nx ⟨by dsimp only; omega,hI.1,λj hj=>?_⟩
     dsimp only
     rw[hI.2 j hj,hs]
     unfold Jj
     rw[hc]; rfl
    | some b=>
     simp only[Bool.not_true,Bool.false_eq_true,if_false]
     refine bd (inner34 hv hI) λq hq=>?_
     rw[wrS (by omega) (by omega)]
     refine nx ⟨by dsimp only; omega,hq.1,λj hj=>?_⟩
     dsimp only
     rw[hq.2 j hj,hs]
     unfold Jj
     rw[hc]
   rcases hk with e|e|e
   ·subst e; exact main Z9l rfl λc=>by unfold stK; simp
   ·subst e; exact main Zdr rfl λc=>by unfold stK; simp
   ·subst e; exact main Z9c rfl λc=>by unfold stK; simp
  ·dsimp only at hge ⊢
   have:k=4:=by omega
   subst this
   exact⟨hI.1,λj hj=>by rw[hI.2 j hj,stK_4]⟩
 ·dsimp only
  rw[List.getElem?_replicate,if_pos (by simpa using hj)]
  unfold stK; simp
theorem Zin {w:Zj} {q:List Int} (hq:Tbl w (Jq w) q) (o:Zl) (ho:o.Zn=1→0≤o.Zv.Zq∧o.Zv.Zq<w.Zy.length):Z2k q o=some (Jm w o):=by
 unfold Z2k Jm
 by_cases h:o.Zn=1
 ·obtain⟨h0,h1⟩:=ho h
  rw[if_neg (by simpa using h),if_pos h]
  unfold Z5
  rw[if_pos h0,hq.2 _ (by rw[hq.1]; omega)]
  rw[show ((o.Zv.Zq.toNat:Nat):Int)=o.Zv.Zq by omega]; rfl
 ·rw[if_pos (by simpa using h),if_neg h]
end Go.Proofs
namespace Go.Proofs
open Go.Den Go.Tot
def InR (N:Nat) (n:Int):Prop:=n=0∨(1≤n∧n≤N)
def InL (N:Nat) (l:List Zg):Prop:=∀ v∈l,v.Zn=3→InR N v.f_N
theorem pObj {s:List Bool} {n:Int} (hn:InR s.length n) (hs:s.length≤140737488355328):La s n=some (mkO s n):=by
 unfold La mkO
 rcases hn with e|⟨h1,h2⟩
 ·subst e
  rw[if_neg (by decide),if_neg (by omega)]
 ·rw[if_pos (by simp; omega),if_pos ⟨h1,h2⟩,Option.bind_some,Ub (by omega) (by omega)]
  unfold Xq
  rw[if_pos (by omega),Option.bind_some,List.getElem?_eq_getElem (by omega)]; rfl
theorem rObj {s:List Bool} {n:Int} (hs:s.length≤140737488355328):Kq s n=some (mkO s n):=by
 unfold Kq mkO
 by_cases h1:n≥1
 ·by_cases h2:n≤(s.length:Int)
  ·rw[if_pos (by simpa using h1),if_pos (by simpa using h2),if_pos ⟨h1,h2⟩]
   unfold j44x1
   rw[Option.bind_some,Ub (by omega) (by omega)]
   unfold Xq
   rw[if_pos (by omega),Option.bind_some,List.getElem?_eq_getElem (by omega)]; rfl
  ·rw[if_pos (by simpa using h1),if_neg (by simpa using h2),if_neg (by omega)]
 ·rw[if_neg (by simpa using h1),if_neg (by omega)]
theorem Zsr (s:List Bool) (v:Zg):(M5 s v).length=s.length:=by unfold M5; split; exact Vb _ _; rfl
theorem Z3z (s:List Bool) (l:List Zg):(mkV s l).length=s.length:=(MkS.vals l).len s
theorem Zr5 (s:List Bool) (a:Q9):(mkA s a).length=s.length:=(MkS.act a).len s
theorem Zu3 (s:List Bool) (t:Yu):(mkT s t).length=s.length:=(MkS.thr t).len s
theorem pVals {N:Nat} {s:List Bool} {l:List Zg} (hN:s.length=N) (hNb:N≤140737488355328) (hl:InL N l) (hb:l.length≤140737488355328):My s l=some (mkV s l):=by
 unfold My mkV
 have:=Lr (l:=l) (f:=Z17 l) (λt s=>(t,s)) M5 id (λs=>s.length=N) (λs x hs _=>(Zsr s x).trans hs) (λt s x h0 h1 hs hx e=>?_) (λs hs=>?_) hN (by omega)
 ·rw[this]; rfl
 ·unfold Z17
  dsimp only
  rw[if_pos (by simpa using h1),e]
  simp only[Option.bind_some]
  rw[wrS h0 (by omega)]
  unfold M5
  by_cases a:x.Zn=3
  ·rw[if_pos (by simpa using a),if_pos a,pObj (hs ▸ hl x hx a) (by omega)]; rfl
  ·rw[if_neg (by simpa using a),if_neg a]
 ·unfold Z17
  dsimp only
  rw[if_neg (by simp)]; rfl
theorem rVals {N:Nat} {s:List Bool} {l:List Zg} (hN:s.length=N) (hNb:N≤140737488355328) (hb:l.length≤140737488355328):Z0s s l=some (mkV s l):=by
 unfold Z0s mkV
 have:=Lr (l:=l) (f:=Z75 l) (λt s=>(t,s)) M5 id (λs=>s.length=N) (λs x hs _=>(Zsr s x).trans hs) (λt s x h0 h1 hs hx e=>?_) (λs hs=>?_) hN (by omega)
 ·rw[this]; rfl
 ·unfold Z75
  dsimp only
  rw[if_pos (by simpa using h1),e]
  simp only[Option.bind_some]
  rw[wrS h0 (by omega)]
  unfold M5
  by_cases a:x.Zn=3
  ·rw[if_pos (by simpa using a),if_pos a,rObj (by omega)]; rfl
  ·rw[if_neg (by simpa using a),if_neg a]
 ·unfold Z75
  dsimp only
  rw[if_neg (by simp)]; rfl
structure InM (N:Nat) (m:Z4):Prop where
 thr:∀ t∈m.Zz,InR N t.Xf∧InR N t.Qx∧InR N t.Vf∧InL N [t.Qm]∧∀ a∈t.Yx,InR N a.Vp∧InL N a.Zs∧InL N a.Zw
 ini:∀ r∈m.X7,InL N r.Qu
 int:∀ x∈m.Xc,InR N x.Xf
theorem InM.of {m:Z4} (h:∀ x,refM m x→InR m.Z2.length x):InM m.Z2.length m where
 thr:=λt ht=>⟨h _ (.inl ⟨t,ht,.inl rfl⟩),h _ (.inl ⟨t,ht,.inr (.inl rfl)⟩),h _ (.inl ⟨t,ht,.inr (.inr (.inl rfl))⟩),λv hv hk=>by
  rw[List.mem_singleton.1 hv] at hk ⊢
  exact h _ (.inl ⟨t,ht,.inr (.inr (.inr (.inl ⟨hk,rfl⟩)))⟩),λa ha=>
  ⟨h _ (.inl ⟨t,ht,.inr (.inr (.inr (.inr ⟨a,ha,.inl rfl⟩)))⟩),λv hv hk=>h _ (.inl ⟨t,ht,.inr (.inr (.inr (.inr ⟨a,ha,.inr (.inl ⟨v,hv,hk,rfl⟩)⟩)))⟩),λv hv hk=>h _ (.inl ⟨t,ht,.inr (.inr (.inr (.inr ⟨a,ha,.inr (.inr ⟨v,hv,hk,rfl⟩)⟩)))⟩)⟩⟩
 ini:=λr hr v hv hk=>h _ (.inr (.inl ⟨r,hr,v,hv,hk,rfl⟩))
 int:=λx hx=>h _ (.inr (.inr ⟨x,hx,rfl⟩))
def mks1 (m:Z4):List Bool:=m.Zz.foldl mkT (List.replicate m.Z2.length false)
def mks2 (m:Z4):List Bool:=m.X7.foldl (λs r=>mkV s r.Qu) (mks1 m)
theorem Zlc (m:Z4):(mks1 m).length=m.Z2.length:=((MkS.fold (f:=mkT) m.Zz λt _=>MkS.thr t).len _).trans (by simp)
theorem Zvg (m:Z4):(mks2 m).length=m.Z2.length:=((MkS.fold (f:=λ(s:List Bool) (r:Xm)=>mkV s r.Qu) (P:=λ(r:Xm) x=>∃ v∈r.Qu,Z0y v x) m.X7 λr _=>MkS.vals r.Qu).len _).trans (Zlc m)
theorem Znb:∀ (s:List Bool) (l:List Zl) (i:Int) (b:Bool) (o:Zl),s.length=l.length→Qz (s++[b]) (l++[o]) i=Qz s l i++(if b||Wt o then [i+l.length] else [])
 | [],[],i,b,o,_=>by
  simp only[List.nil_append,Qz,List.length_nil]
  split <;> simp
 | x::s,y::l,i,b,o,h=>by
  have ih:=Znb s l (i+1) b o (by simpa using h)
  simp only[List.cons_append,Qz,ih,List.length_cons]
  have e:i+1+(l.length:Int)=i+((l.length+1:Nat):Int):=by omega
  rw[e]
  split <;> simp
 | [],y::l,i,b,o,h=>by simp at h
 | x::s,[],i,b,o,h=>by simp at h
theorem Y0l (s:List Bool) (l:List Zl) (k:Nat) (b:Bool) (o:Zl) (hb:s[k]?=some b) (ho:l[k]?=some o):Qz (s.take (k+1)) (l.take (k+1)) 1=Qz (s.take k) (l.take k) 1++(if b||Wt o then [(k:Int)+1] else []):=by
 have h1:=(List.getElem?_eq_some_iff.1 hb).1
 have h2:=(List.getElem?_eq_some_iff.1 ho).1
 rw[List.take_add_one,List.take_add_one,hb,ho]
 have:=Znb (s.take k) (l.take k) 1 b o (by simp; omega)
 rw[List.length_take,Nat.min_eq_left (by omega)] at this
 simp only[Option.toList_some]
 rw[this,Int.add_comm]
theorem Zt6:∀ (s:List Bool) (l:List Zl) (i:Int),(Qz s l i).length≤l.length
 | [],l,i=>by simp[Qz]
 | b::s,[],i=>by simp[Qz]
 | b::s,o::l,i=>by
  have:=Zt6 s l (i+1)
  unfold Qz
  split <;> simp <;> omega
theorem Zny {m:Z4} {q:List Bool} (hq:q.length=m.Z2.length) (hH:m.Z2.length≤5001) {f:Int×List Int→Option (Ctl (Int×List Int) (List Int))}
  (h:∀ t s b o,0≤t→t<(m.Z2.length:Int)→s.length≤5001→q[t.toNat]?=some b→m.Z2[t.toNat]?=some o→f (t,s)=some (.next (t+1,if b||Wt o then s++[t+1] else s))) (he:∀ s,f (m.Z2.length,s)=some (.done s)):
  Z7 f Z8 (0,[])=some (Qz q m.Z2 1):=by
 have key:Ok (Z7 f Z8 (0,[])) λr=>r=Qz q m.Z2 1:=by
  refine lp (λt:Int×List Int=>t.1) m.Z2.length (λt=>t.2=Qz (q.take t.1.toNat) (m.Z2.take t.1.toNat) 1) (λt hI h0 h1=>?_) (by omega) (by simp[Qz])
  obtain⟨t,s⟩:=t
  dsimp only at hI h0 h1
  rcases Int.lt_or_le t m.Z2.length with hlt|hge
  ·have hb:q[t.toNat]?=some q[t.toNat] :=List.getElem?_eq_getElem (by omega)
   have ho:m.Z2[t.toNat]?=some m.Z2[t.toNat] :=List.getElem?_eq_getElem (by omega)
   rw[h t s _ _ h0 hlt (by rw[hI]; exact Nat.le_trans (Zt6 _ _ _) (by simp; omega)) hb ho]
   refine nx ?_
   dsimp only
   have:=Y0l q m.Z2 t.toNat _ _ hb ho
   rw[show (t+1).toNat=t.toNat+1 by omega,this,hI,show ((t.toNat:Nat):Int)=t by omega]
   split <;> simp
  ·have:t=m.Z2.length:=by omega
   subst this
   rw[he]
   refine dn ?_
   rw[hI]
   simp only[Int.toNat_natCast]
   rw[List.take_of_length_le (by omega),List.take_of_length_le (by omega)]
 obtain⟨r,e,hr⟩:=key
 rw[e,hr]
theorem mkS0 {n:Nat} (h:n≤5001):W1 1 (n:Int) (n:Int)=some ():=by unfold W1; rw[if_pos (by omega)]
theorem gkR {s:List Int} (h:s.length≤5001) (x:Int):Ye 8 (s++[x]).length=some ():=by unfold Ye; rw[if_pos (by simp; omega)]
theorem rootsR {m:Z4} (hz:MSz m) (hH:m.Z2.length≤5001):Z2g m=some (Qy m):=by
 unfold Z2g
 rw[mkS0 hH,Option.bind_some]
 have hone:∀ (s:List Bool) (n:Int),s.length=m.Z2.length→Kq s n=some (mkO s n):=λs n hs=>rObj (by omega)
 have hval:∀ (s:List Bool) (l:List Zg),s.length=m.Z2.length→l.length≤140737488355328→Z0s s l=some (mkV s l):=λs l hs hl=>rVals hs (by omega) hl
 have hthr:∀ (s:List Bool) (t:Yu),t∈m.Zz→s.length=m.Z2.length→Zbp s t=some (mkT s t):=λs t ht hs=>by
  unfold Zbp mkT
  rw[hone _ _ hs,Option.bind_some,hone _ _ (by rw[Vb]; exact hs),Option.bind_some,hone _ _ (by rw[Vb,Vb]; exact hs),Option.bind_some,hval _ _ (by rw[Vb,Vb,Vb]; exact hs) (by simp),Option.bind_some]
  have:=Lr (l:=t.Yx) (f:=Z7y t) (λt s=>(t,s)) mkA id (λs=>s.length=m.Z2.length) (λs x hs _=>(Zr5 s x).trans hs) (λk s x h0 h1 hs hx e=>?_) (λs hs=>?_) (s0:=mkV (mkO (mkO (mkO s t.Xf) t.Qx) t.Vf) [t.Qm]) (by rw[Z3z,Vb,Vb,Vb]; exact hs) (by have:=(hz.act t ht).1; omega)
  ·rw[this]; rfl
  ·have hb:=(hz.act t ht).1
   have ha:=(hz.act t ht).2 x hx
   unfold Z7y
   dsimp only
   rw[if_pos (by simpa using h1),e]
   simp only[Option.bind_some]
   rw[hone _ _ hs,Option.bind_some,hval _ _ (by rw[Vb]; exact hs) ha.1,Option.bind_some,hval _ _ (by rw[Z3z,Vb]; exact hs) ha.2,Option.bind_some,wrS h0 (by omega)]
   rfl
  ·unfold Z7y
   dsimp only
   rw[if_neg (by simp)]; rfl
 have h1:=Lr (l:=m.Zz) (f:=Z6j m) (λt s=>(t,s)) mkT id (λs=>s.length=m.Z2.length) (λs x hs _=>(Zu3 s x).trans hs) (λt s x h0 h1 hs hx e=>by
  have:=hz.thr
  unfold Z6j
  dsimp only
  rw[if_pos (by simpa using h1),e]
  simp only[Option.bind_some]
  rw[hthr s x hx hs,Option.bind_some,wrS h0 (by omega)]) (λs hs=>by unfold Z6j; dsimp only; rw[if_neg (by simp)]; rfl) (s0:=List.replicate m.Z2.length false) (by simp) (by have:=hz.thr; omega)
 have h2:=Lr (l:=m.X7) (f:=Z4m m) (λt s=>(t,s)) (λs r=>mkV s r.Qu) id (λs=>s.length=m.Z2.length) (λs x hs _=>(Z3z s _).trans hs) (λt s x h0 h1 hs hx e=>by
  have:=hz.ini2
  unfold Z4m
  dsimp only
  rw[if_pos (by simpa using h1),e]
  simp only[Option.bind_some]
  rw[hval s _ hs (hz.sta x hx),Option.bind_some,wrS h0 (by omega)]) (λs hs=>by unfold Z4m; dsimp only; rw[if_neg (by simp)]; rfl) (Zlc m) (by have:=hz.ini2; omega)
 have h3:=Lr (l:=m.Xc) (f:=Z4c m) (λt s=>(t,s)) (λs x=>mkO s x.Xf) id (λs=>s.length=m.Z2.length) (λs x hs _=>(Vb s _).trans hs) (λt s x h0 h1 hs hx e=>by
  have:=hz.intr
  unfold Z4c
  dsimp only
  rw[if_pos (by simpa using h1),e]
  simp only[Option.bind_some]
  rw[hone s _ hs,Option.bind_some,wrS h0 (by omega)]) (λs hs=>by unfold Z4c; dsimp only; rw[if_neg (by simp)]; rfl) (Zvg m) (by have:=hz.intr; omega)
 rw[Int.toNat_natCast,h1]
 show ((Z7 (Z4m m) Z8 (0,mks1 m)).bind _)=_
 rw[h2]
 show ((Z7 (Z4c m) Z8 (0,mks2 m)).bind _)=_
 rw[h3]
 show ((Z7 (Z7e (marks m) m) Z8 (0,[])).bind _)=_
 rw[Zny (Z5j m).1 hH (λt s b o h0 h1 hs hb ho=>?_) λs=>?_]
 ·rfl
 ·have hg:Z5 m.Z2 t=some o:=by unfold Z5; rw[if_pos h0]; exact ho
  have hi:Xq t (marks m).length=some t.toNat:=by unfold Xq; rw[if_pos ⟨h0,by rw[(Z5j m).1]; exact h1⟩]
  unfold Z7e Z5u
  dsimp only
  rw[if_pos (by simpa using h1),hi]
  simp only[Option.bind_some]
  rw[hb,hg,wrS h0 (by omega),gkR hs]
  simp only[Option.bind_some]
  unfold Wt
  by_cases a:b=true
  ·simp[a]
  ·by_cases c:o.Qw=0
   ·by_cases d:0<o.Q7.length
    ·simp[a,c,d]
    ·simp[a,c,d]
   ·simp[a,c]
 ·unfold Z7e
  dsimp only
  rw[if_neg (by simp)]
end Go.Proofs
namespace Go.Proofs
open Go.Den Go.Tot
theorem rootsP1 {m:Z4} (hz:MSz m) (hH:m.Z2.length≤5001) (hM:InM m.Z2.length m):Z9f m=some (Qy m):=by
 unfold Z9f
 rw[mkS0 hH,Option.bind_some]
 have hone:∀ (s:List Bool) (n:Int),s.length=m.Z2.length→InR m.Z2.length n→La s n=some (mkO s n):=λs n hs hn=>pObj (hs ▸ hn) (by omega)
 have hval:∀ (s:List Bool) (l:List Zg),s.length=m.Z2.length→InL m.Z2.length l→l.length≤140737488355328→My s l=some (mkV s l):=λs l hs hl hb=>pVals hs (by omega) hl hb
 have h1:=Lr (l:=m.Zz) (f:=Z7q m) (λt s=>(t,s)) mkT id (λs=>s.length=m.Z2.length) (λs x hs _=>(Zu3 s x).trans hs) (λt s x h0 h1 hs hx e=>by
  have:=hz.thr
  obtain⟨i1,i2,i3,i4,i5⟩:=hM.thr x hx
  unfold Z7q
  dsimp only
  rw[if_pos (by simpa using h1),e]
  simp only[Option.bind_some]
  rw[hone _ _ hs i1,Option.bind_some,hone _ _ (by rw[Vb]; exact hs) i2,Option.bind_some,hone _ _ (by rw[Vb,Vb]; exact hs) i3,Option.bind_some,hval _ _ (by rw[Vb,Vb,Vb]; exact hs) i4 (by simp),Option.bind_some]
  have h2:=Lr (l:=x.Yx) (f:=Z56 x) (λt s=>(t,s)) mkA id (λs=>s.length=m.Z2.length) (λs x hs _=>(Zr5 s x).trans hs) (λk s y h0 h1 hs hy e=>by
   have hb:=(hz.act x hx).1
   have ha:=(hz.act x hx).2 y hy
   obtain⟨j1,j2,j3⟩:=i5 y hy
   unfold Z56
   dsimp only
   rw[if_pos (by simpa using h1),e]
   simp only[Option.bind_some]
   rw[hone _ _ hs j1,Option.bind_some,hval _ _ (by rw[Vb]; exact hs) j2 ha.1,Option.bind_some,hval _ _ (by rw[Z3z,Vb]; exact hs) j3 ha.2,Option.bind_some,wrS h0 (by omega)]
   rfl) (λs hs=>by unfold Z56; dsimp only; rw[if_neg (by simp)]; rfl) (s0:=mkV (mkO (mkO (mkO s x.Xf) x.Qx) x.Vf) [x.Qm]) (by rw[Z3z,Vb,Vb,Vb]; exact hs) (by have:=(hz.act x hx).1; omega)
  rw[h2,Option.bind_some,wrS h0 (by omega)]; rfl) (λs hs=>by unfold Z7q; dsimp only; rw[if_neg (by simp)]; rfl) (s0:=List.replicate m.Z2.length false) (by simp) (by have:=hz.thr; omega)
 have h2:=Lr (l:=m.X7) (f:=Z30 m) (λt s=>(t,s)) (λs r=>mkV s r.Qu) id (λs=>s.length=m.Z2.length) (λs x hs _=>(Z3z s _).trans hs) (λt s x h0 h1 hs hx e=>by
  have:=hz.ini2
  unfold Z30
  dsimp only
  rw[if_pos (by simpa using h1),e]
  simp only[Option.bind_some]
  rw[hval s _ hs (hM.ini x hx) (hz.sta x hx),Option.bind_some,wrS h0 (by omega)]) (λs hs=>by unfold Z30; dsimp only; rw[if_neg (by simp)]; rfl) (Zlc m) (by have:=hz.ini2; omega)
 have h3:=Lr (l:=m.Xc) (f:=Z2i m) (λt s=>(t,s)) (λs x=>mkO s x.Xf) id (λs=>s.length=m.Z2.length) (λs x hs _=>(Vb s _).trans hs) (λt s x h0 h1 hs hx e=>by
  have:=hz.intr
  unfold Z2i
  dsimp only
  rw[if_pos (by simpa using h1),e]
  simp only[Option.bind_some]
  rw[hone s _ hs (hM.int x hx),Option.bind_some,wrS h0 (by omega)]) (λs hs=>by unfold Z2i; dsimp only; rw[if_neg (by simp)]; rfl) (Zvg m) (by have:=hz.intr; omega)
 rw[Int.toNat_natCast,h1]
 show ((Z7 (Z30 m) Z8 (0,mks1 m)).bind _)=_
 rw[h2]
 show ((Z7 (Z2i m) Z8 (0,mks2 m)).bind _)=_
 rw[h3]
 show ((Z7 (Z8r (marks m) m) Z8 (0,[])).bind _)=_
 rw[Zny (Z5j m).1 hH (λt s b o h0 h1 hs hb ho=>?_) λs=>?_]
 ·rfl
 ·have hg:Z5 m.Z2 t=some o:=by unfold Z5; rw[if_pos h0]; exact ho
  have hi:Xq t (marks m).length=some t.toNat:=by unfold Xq; rw[if_pos ⟨h0,by rw[(Z5j m).1]; exact h1⟩]
  unfold Z8r Z7r
  dsimp only
  rw[if_pos (by simpa using h1),hg]
  simp only[Option.bind_some]
  rw[hi]
  simp only[Option.bind_some]
  rw[hb,wrS h0 (by omega),gkR hs]
  simp only[Option.bind_some]
  unfold Wt
  by_cases a:b=true
  ·simp[a]
  ·by_cases c:o.Qw=0
   ·by_cases d:0<o.Q7.length
    ·simp[a,c,d]
    ·simp[a,c,d]
   ·simp[a,c]
 ·unfold Z8r
  dsimp only
  rw[if_neg (by simp)]
theorem z0 {n:Int} (h:InR 0 n):n=0:=h.elim id λh=>by omega
theorem zObj (s:List Bool) {n:Int} (h:InR 0 n):Z08 s n=some ():=by
 rw[z0 h]; rfl
theorem Z6u {α:Type} {l:List α} {f:Int→Option (Ctl Int Unit)} (hl:l.length≤140737488355328) (h:∀ (t:Int) x,0≤t→t<(l.length:Int)→x∈l→Z5 l t=some x→f t=some (.next (t+1))) (he:f l.length=some (.done ())):Z7 f Z8 0=some ():=
 Lr (l:=l) (S:=Unit) (λt _=>t) (λ_ _=>()) id (λ_=>True) (λ_ _ _ _=>trivial) (λt _ x h0 h1 _ hx e=>h t x h0 h1 hx e) (λ_ _=>he) (s0:=()) trivial (by omega)
theorem Zdo (s:List Bool) {l:List Zg} (h:InL 0 l) (hl:l.length≤140737488355328):Z2e s l=some ():=by
 unfold Z2e
 have:=Z6u (l:=l) (f:=Z5s s l) hl (λt x h0 h1 hx e=>by
  unfold Z5s
  rw[if_pos (by simpa using h1),e]
  simp only[Option.bind_some]
  rw[wrS h0 (by omega)]
  by_cases a:x.Zn=3
  ·rw[if_pos (by simpa using a),zObj s (h x hx a)]; rfl
  ·rw[if_neg (by simpa using a)]) (by
  unfold Z5s
  rw[if_neg (by simp)])
 rw[this]; rfl
theorem rootsP0 {m:Z4} (hz:MSz m) (hH:m.Z2=[]) (hM:InM 0 m):Zaz m=some [] :=by
 unfold Zaz
 rw[mkS0 (by rw[hH]; simp),Option.bind_some]
 have h1:=Z6u (l:=m.Zz) (f:=Z55 m) hz.thr (λt x h0 h1 hx e=>by
  have:=hz.thr
  obtain⟨i1,i2,i3,i4,i5⟩:=hM.thr x hx
  unfold Z55
  rw[if_pos (by simpa using h1),e]
  simp only[Option.bind_some]
  rw[zObj _ i1,zObj _ i2,zObj _ i3,Zdo _ i4 (by simp)]
  simp only[Option.bind_some]
  have hb:=(hz.act x hx).1
  have h2:=Z6u (l:=x.Yx) (f:=Z6b x m) hb (λk y h0 h1 hy e=>by
   have ha:=(hz.act x hx).2 y hy
   obtain⟨j1,j2,j3⟩:=i5 y hy
   unfold Z6b
   rw[if_pos (by simpa using h1),e]
   simp only[Option.bind_some]
   rw[zObj _ j1,Zdo _ j2 ha.1,Zdo _ j3 ha.2,wrS h0 (by omega)]; rfl) (by unfold Z6b; rw[if_neg (by simp)])
  rw[h2,wrS h0 (by omega)]; rfl) (by unfold Z55; rw[if_neg (by simp)])
 have h2:=Z6u (l:=m.X7) (f:=Z5v m) hz.ini2 (λt x h0 h1 hx e=>by
  have:=hz.ini2
  unfold Z5v
  rw[if_pos (by simpa using h1),e]
  simp only[Option.bind_some]
  rw[Zdo _ (hM.ini x hx) (hz.sta x hx),wrS h0 (by omega)]; rfl) (by unfold Z5v; rw[if_neg (by simp)])
 have h3:=Z6u (l:=m.Xc) (f:=Z4v m) hz.intr (λt x h0 h1 hx e=>by
  have:=hz.intr
  unfold Z4v
  rw[if_pos (by simpa using h1),e]
  simp only[Option.bind_some]
  rw[zObj _ (hM.int x hx),wrS h0 (by omega)]; rfl) (by unfold Z4v; rw[if_neg (by simp)])
 rw[h1,h2,h3]
 simp only[Option.bind_some]
 have h4:Z7 (Z5f m) Z8 (0,([]:List Int))=some [] :=by
  show Z7 (Z5f m) (18446744073709551615+1) (0,[])=some []
  unfold Z7 Z5f
  rw[if_neg (by rw[hH]; simp)]
 rw[h4]; rfl
theorem rootsP {m:Z4} (hz:MSz m) (hH:m.Z2.length≤5001) (hM:InM m.Z2.length m):Ke m=some (Qy m):=by
 unfold Ke
 split
 ·rename_i h
  rw[rootsP0 hz h (by rw[h] at hM; exact hM)]
  unfold Qy
  rw[h]
  cases marks m <;> rfl
 ·exact rootsP1 hz hH hM
end Go.Proofs
namespace Go.Proofs
open Go.Den Go.Tot
theorem MG.inR {m:Z4} (h:MG m) {n:Int} (hn:U2 m n):InR m.Z2.length n:=hn.imp id λh=>h.range
theorem MG.inM {m:Z4} (h:MG m):InM m.Z2.length m:=InM.of λx hx=>h.inR (h.rt x hx)
theorem MG.rootsP {m:Z4} (h:MG m):Ke m=some (Qy m):=Go.Proofs.rootsP h.sz h.len h.inM
theorem MG.rootsR {m:Z4} (h:MG m):Z2g m=some (Qy m):=Go.Proofs.rootsR h.sz h.len
theorem MG.hH {m:Z4} (h:MG m):m.Z2.length≤140737488355328:=by have:=h.len; omega
theorem MG.objP {m:Z4} (h:MG m) (n:Int):Z1t m n=some (objP m n)∧Z47 m n=some (objP m n):=Y0y m n h.hH
theorem MG.inN {m:Z4} (h:MG m) {o:Zl} (ho:o∈m.Z2) (d:Nat):InN m.Z2.length (o.Yj.drop d):=λv hv hk h0=>by
 have hv':=List.mem_of_mem_drop hv
 by_cases hz:o.Zn=0
 ·rw[h.fval o ho hz] at hv'; exact(List.not_mem_nil hv').elim
 ·exact((h.val o ho hz v hv' hk).resolve_left h0).range
theorem MG.strP {m:Z4} (h:MG m) (n:Int):Z1u m n=some (V3 m n):=by
 unfold Z1u
 rw[(h.objP n).1,Option.bind_some]
 unfold Go.Proofs.objP V3
 cases ho:Vm m n with
 | none=>rfl
 | some o=>
  obtain⟨q,e,hq⟩:=Zkc m.Y1 h.sp h.sz.ini
  dsimp only
  rw[e]
  simp only[Bool.not_true,Bool.false_eq_true,if_false,Option.bind_some]
  rw[Zin hq o (h.cls o (Z8o ho).1)]; rfl
theorem MG.refsP {m:Z4} (h:MG m) (n:Int):Z33 m n=some (V8 m n):=by
 unfold Z33
 rw[(h.objP n).1,Option.bind_some]
 unfold Go.Proofs.objP V8
 cases ho:Vm m n with
 | none=>rfl
 | some o=>
  obtain⟨q,e,hq⟩:=Zkc m.Y1 h.sp h.sz.ini
  have hm:=(Z8o ho).1
  dsimp only
  rw[e]
  simp only[Bool.not_true,Bool.false_eq_true,if_false,Option.bind_some]
  rw[Zin hq o (h.cls o hm),Option.bind_some,Ztj o _ (Zlg _ _).1,Option.bind_some]
  dsimp only
  rw[Zos h.len _ (h.inN hm _) (by have:=h.sz.vals o hm; simp; omega)]; rfl
theorem MG.ndP {m:Z4} (h:MG m) {q:List Int} (hq:Tbl m.Y1 (Jq m.Y1) q) (n:Int) (h1:1≤n) (h2:n≤m.Z2.length):ndM q m n=some (V8 m n,toO m n,V3 m n):=by
 have hlen:=h.len
 have ho:m.Z2[(n - 1).toNat]?=some m.Z2[(n - 1).toNat] :=List.getElem?_eq_getElem (by omega)
 generalize m.Z2[(n - 1).toNat]'(by omega)=o at ho
 have hm:o∈m.Z2:=List.mem_of_getElem? ho
 unfold ndM
 rw[Option.bind_some,Ub (by omega) (by omega)]
 unfold Z5
 rw[if_pos (by omega),ho,Option.bind_some,Zin hq o (h.cls o hm),Option.bind_some,Ztj o _ (Zlg _ _).1,Option.bind_some]
 dsimp only
 rw[Zos h.len _ (h.inN hm _) (by have:=h.sz.vals o hm; simp; omega),Option.bind_some]
 by_cases hz:o.Zn=0
 ·have hn:Vm m n=none:=by unfold Vm; rw[if_pos h1,ho,Option.bind_some,if_pos hz]
  have hv:=h.fval o hm hz
  have hs:Jm m.Y1 o=0:=by unfold Jm; rw[if_neg (by rw[hz]; decide)]
  unfold V8 toO V3
  rw[hn,hs,hv]; rfl
 ·have hn:Vm m n=some o:=Jb.2 ⟨h1,ho,hz⟩
  unfold V8 toO V3
  rw[hn]; rfl
theorem MG.levP {m:Z4} (h:MG m):∃ l,Ww m=some l∧l.length=m.Z2.length∧L5 (U7 m) λn=>l.getD (n - 1).toNat 0:=by
 have hlen:=h.len
 obtain⟨q,e,hq⟩:=Zkc m.Y1 h.sp h.sz.ini
 obtain⟨l,e2,h1,h2⟩:=Y1y (g:=U7 m) h.ok (by show m.Z2.length≤_; omega) (λn=>by have:=h.refs_len n; show (V8 m n).length≤_; omega) (by have:=h.roots_len; show (Qy m).length≤_; omega) (λn a b=>h.ndP hq n a b)
 refine⟨l,?_,h1,h2⟩
 unfold Ww
 rw[e,Option.bind_some,show W1 8 (m.Z2.length:Int) (m.Z2.length:Int)=some () by unfold W1; rw[if_pos (by omega)],Option.bind_some,h.rootsP,Option.bind_some,Int.toNat_natCast]
 exact e2
theorem Zyn {m:Z4} (h:MG m) (o:Zl) (b:Bool):Zf9 (o,b) m=some (Jq m.Y1 o.Zv.Zq):=by
 unfold Zf9 Jq
 rw[Zhq _ h.sp h.sz.ini,Zhq _ h.sp h.sz.ini,Zhq _ h.sp h.sz.ini]
 simp only[Option.bind_some]
 show (if Jj m.Y1 o.Zv.Zq Z9c=true then some 3 else if Jj m.Y1 o.Zv.Zq Zdr=true then some 2 else if Jj m.Y1 o.Zv.Zq Z9l=true then some 1 else some 0)=_
 split
 ·rfl
 ·split
  ·rfl
  ·split <;> rfl
theorem MG.strR {m:Z4} (h:MG m) (n:Int):Z1e m n=some (V3 m n):=by
 unfold Z1e
 rw[(h.objP n).2,Option.bind_some]
 unfold Go.Proofs.objP V3
 cases ho:Vm m n with
 | none=>rfl
 | some o=>
  dsimp only
  unfold Jm
  by_cases hk:o.Zn=1
  ·rw[if_neg (by simp),if_neg (by simp[hk]),if_pos hk,Zyn h]
  ·rw[if_neg (by simp),if_pos (by simpa using hk),if_neg hk]
theorem MG.refsR {m:Z4} (h:MG m) (n:Int):Z8k m n=some (V8 m n):=by
 unfold Z8k
 rw[(h.objP n).2,Option.bind_some,h.strR,Option.bind_some]
 have hlen:=h.len
 have zero:∀ (v0:Zl×Bool) (k:Nat),v0.1.Yj=[]→Z14 v0 k=some [] :=λv0 k hv=>by
  unfold Z14
  have:Z7 (Z0j v0) Z8 ((k:Int),([]:List Int))=some [] :=by
   show Z7 (Z0j v0) (18446744073709551615+1) ((k:Int),[])=some []
   unfold Z7 Z0j
   dsimp only
   rw[if_neg (by rw[hv]; simp)]
  rw[this]; rfl
 unfold V8 V3 Go.Proofs.objP
 cases ho:Vm m n with
 | none=>
  dsimp only
  rw[if_neg (by simp)]
  exact zero _ 0 rfl
 | some o=>
  dsimp only
  have hm:=(Z8o ho).1
  unfold refJ
  by_cases hs:Jm m.Y1 o>0
  ·rw[if_pos (by simpa using hs),if_pos hs]
   by_cases hv:o.Yj=[]
   ·rw[show Z14 (o,true) 1=some [] from zero (o,true) 1 hv,hv]; rfl
   ·exact Zo7 h.len (o,true) 1 (List.length_pos_iff.2 hv) (h.inN hm 0) (h.sz.vals o hm)
  ·rw[if_neg (by simpa using hs),if_neg hs]
   exact Zo7 h.len (o,true) 0 (Nat.zero_le _) (h.inN hm 0) (h.sz.vals o hm)
theorem MG.toR {m:Z4} (h:MG m) (n:Int):Z4z m n=some (toO m n):=by
 unfold Z4z
 rw[(h.objP n).2,Option.bind_some,h.strR,Option.bind_some]
 unfold toO V3 Go.Proofs.objP
 cases ho:Vm m n with
 | none=>rfl
 | some o=>
  dsimp only
  unfold toJ
  by_cases hs:Jm m.Y1 o=0
  ·rw[if_pos (by simpa using hs),if_pos hs]
  ·rw[if_neg (by simpa using hs),if_neg hs]
   cases hv:o.Yj with
   | nil=>rfl
   | cons v r=>
    have hg:Z5 (v::r) 0=some v:=rfl
    rw[if_neg (by simp; omega),hg]
    simp only[Option.bind_some]
    by_cases a:v.Zn=3
    ·simp[a]
    ·simp[a]
theorem MG.ndR {m:Z4} (h:MG m) (n:Int):Go.Proofs.ndR m n=some (V8 m n,toO m n,V3 m n):=by
 unfold Go.Proofs.ndR
 rw[h.refsR,h.strR,h.toR]; rfl
theorem MG.rchR {m:Z4} (h:MG m) (k:Int):∃ out,Z3o m k=some out∧out.length=m.Z2.length∧∀ n:Int,1≤n→n≤m.Z2.length→(Bit out (n - 1)↔(U7 m).Re k n):=by
 have hlen:=h.len
 obtain⟨out,e,h1,h2⟩:=Y1w (g:=U7 m) h.ok (k:=k) (λn _ _=>h.ndR n) (by show m.Z2.length≤_; omega) (λn=>by have:=h.refs_len n; show (V8 m n).length≤_; omega) (by have:=h.roots_len; show (Qy m).length≤_; omega)
 refine⟨out,?_,h1,h2⟩
 unfold Z3o
 rw[mkS0 h.len,Option.bind_some,h.rootsR,Option.bind_some,Int.toNat_natCast]
 exact e
end Go.Proofs
namespace Go.Proofs
open Go.Den Go.Tot
def Tr (o:Option Bool) (P:Prop):Prop:=o=some true→P
namespace Tr
variable {P Q:Prop} {α:Type}
theorem no:Tr (some false) P:=λh=>by cases h
theorem yes {b:Bool} (h:b=true→P):Tr (some b) P:=λe=>h (Option.some.inj e)
theorem br {b:Bool} {x y:Option Bool} (T:b=true→Tr x P) (F:b=false→Tr y P):Tr (if b=true then x else y) P:=by
 cases b with
 | true=>exact T rfl
 | false=>exact F rfl
theorem bd {o:Option Bool} {f:Bool→Option Bool} (h:Tr o Q) (T:Q→Tr (f true) P) (F:Tr (f false) P):Tr (o.bind f) P:=λe=>by
 obtain⟨b,e1,e2⟩:=Option.bind_eq_some_iff.1 e
 cases b with
 | true=>exact T (h e1) e2
 | false=>exact F e2
theorem sk {o:Option α} {f:α→Option Bool} (k:∀ x,o=some x→Tr (f x) P):Tr (o.bind f) P:=λe=>by
 obtain⟨x,e1,e2⟩:=Option.bind_eq_some_iff.1 e
 exact k x e1 e2
theorem all {l:List α} {p:α→Prop} {f:Int→Option (Ctl Int (Unit⊕Bool))} (hl:l.length≤140737488355328)
  (h:∀ t v,0≤t→t<(l.length:Int)→Z5 l t=some v→∀ x,f t=some x→(x=.next (t+1)∧p v)∨x=.done (.inr false)):
  Tr ((Z7 f Z8 0).bind λq=>match q with|.inl _=>some true|.inr y=>some y) (∀ v∈l,p v):=by
 have key:∀ (n:Nat) (t:Int),0≤t→t≤(l.length:Int)→(∀ (j:Nat) v,(j:Int)<t→l[j]?=some v→p v)→∀ q,Z7 f n t=some q→t<(l.length:Int)→q=.inr false∨∀ v∈l,p v:=by
  intro n
  induction n with
  | zero=>intro t _ _ _ q e; cases e
  | succ n ih=>
   intro t h0 h1 hI q e hlt
   obtain⟨v,e1,hv,hi⟩:=gri (l:=l) h0 hlt
   unfold Z7 at e
   cases hf:f t with
   | none=>rw[hf] at e; cases e
   | some x=>
    rw[hf] at e
    rcases h t v h0 hlt e1 x hf with ⟨rfl,hp⟩|rfl
    ·have hI':∀ (j:Nat) v,(j:Int)<t+1→l[j]?=some v→p v:=λj u hj hu=>by
      by_cases h':(j:Int)<t
      ·exact hI j u h' hu
      ·have:j=t.toNat:=by omega
       subst this
       rw[hi] at hu; cases hu; exact hp
     by_cases hlt':t+1<(l.length:Int)
     ·exact ih (t+1) (by omega) (by omega) hI' q e hlt'
     ·refine .inr λu hu=>?_
      obtain⟨j,hj⟩:=List.mem_iff_getElem?.1 hu
      have:=(List.getElem?_eq_some_iff.1 hj).1
      exact hI' j u (by omega) hj
    ·cases e; exact .inl rfl
 intro e
 obtain⟨q,e1,e2⟩:=Option.bind_eq_some_iff.1 e
 by_cases h0:(0:Int)<l.length
 ·rcases key Z8 0 (by omega) (by omega) (λj v hj _=>by omega) q e1 h0 with rfl|h'
  ·cases e2
  ·exact h'
 ·intro v hv
  have:=List.length_pos_of_mem hv
  omega
end Tr
theorem Z3m {α:Type} {l:List α} (h:((l.length:Int)==0)=true):l=[] :=by
 have:l.length=0:=by simpa using h
 exact List.eq_nil_of_length_eq_zero this
section
variable {m:Z4} (hH:m.Z2.length≤140737488355328)
include hH
theorem i_is (n:Int):Tr (Uk m n) (IsO m n):=λe=>by
 rw[Zl3 m n hH] at e
 exact Option.isSome_iff_exists.1 (Option.some.inj e)
theorem Ze8 (n:Int):Tr (Mf m n) (U2 m n):=by
 unfold Mf
 exact Tr.br (λh=>Tr.yes λ_=> .inl (by simpa using h)) λ_=>Tr.bd (i_is hH n) (λh=>Tr.yes λ_=> .inr h) Tr.no
theorem Z8g (v:Zg):Tr (Ms m v) (Wj m v):=by
 unfold Ms
 refine Tr.br (λh=>Tr.yes λ_ hk=>by rw[hk] at h; simp at h) λ_=>Tr.br (λh=>Tr.br (λ_=>Tr.yes λ_ hk=>by rw[hk] at h; simp at h) λ_=>Tr.no) λ_=>Tr.br (λh=>Tr.yes λ_ hk=>by rw[hk] at h; simp at h) λ_=>Tr.br (λ_=>Tr.bd (Ze8 hH v.f_N) (λh=>Tr.yes λ_ _=>h) Tr.no) λ_=>Tr.no
theorem Zof (l w:List Zg) (hl:l.length≤140737488355328):Tr (Z1v m l w) (∀ v∈l,Wj m v):=by
 unfold Z1v
 refine Tr.br (λ_=>Tr.no) λ_=>Tr.all hl λt v h0 h1 e x hx=>?_
 unfold Z5p at hx
 rw[if_pos (by simpa using h1),e] at hx
 simp only[Option.bind_some] at hx
 refine W.bd hx λu _ hx=>W.sp hx (λ_ hx=>by cases hx; exact .inr rfl) λ_ hx=>W.bd hx λb hb hx=>?_
 cases b with
 | false=>cases hx; exact .inr rfl
 | true=>
  rw[if_neg (by simp),wrS h0 (by omega)] at hx
  cases hx
  exact .inl ⟨rfl,Z8g hH v hb⟩
theorem Zmy (l:List Zg) (b:Bool) (hl:l.length≤140737488355328):Tr (Z1f m l b) (∀ v∈l,Wj m v):=by
 unfold Z1f
 refine Tr.all hl λt v h0 h1 e x hx=>?_
 unfold Z7l at hx
 rw[if_pos (by simpa using h1),e] at hx
 simp only[Option.bind_some] at hx
 refine W.bd hx λc hc hx=>?_
 cases c with
 | false=>cases hx; exact .inr rfl
 | true=>
  rw[if_neg (by simp),wrS h0 (by omega)] at hx
  refine W.sp hx (λ_ hx=>W.sp hx (λ_ hx=>by cases hx; exact .inr rfl) λ_ hx=>?_) λ_ hx=>?_
  ·cases hx; exact .inl ⟨rfl,Z8g hH v hc⟩
  ·cases hx; exact .inl ⟨rfl,Z8g hH v hc⟩
theorem i_Act (a:Q9) (h1:a.Zs.length≤140737488355328) (h2:a.Zw.length≤140737488355328):Tr (K6 m a) (U2 m a.Vp∧(∀ v∈a.Zs,Wj m v)∧∀ v∈a.Zw,Wj m v):=by
 unfold K6
 refine Tr.br (λ_=>Tr.no) λ_=>Tr.br (λ_=>Tr.no) λ_=>Tr.bd (Ze8 hH a.Vp) (λhr=>?_) Tr.no
 have nil:∀ h:((a.Zs.length:Int)==0)=true,Tr (some ((a.Zw.length:Int)==0)) (U2 m a.Vp∧(∀ v∈a.Zs,Wj m v)∧∀ v∈a.Zw,Wj m v):=λh=>Tr.yes λh'=>
  ⟨hr,by rw[Z3m h]; simp,by rw[Z3m h']; simp⟩
 rw[if_neg (by simp)]
 unfold Zbu
 refine Tr.br (λ_=>Tr.br (λ_=>Tr.br (λ_=>Tr.br nil λ_=>Tr.no) λ_=>Tr.no) λ_=>Tr.no) λ_=>Tr.br (λ_=>Tr.br (λ_=>Tr.br (λ_=>Tr.br nil λ_=>Tr.no) λ_=>Tr.no) λ_=>Tr.no) λ_=>?_
 unfold Zcr
 refine Tr.sk λv1 _=>Tr.br (λ_=>Tr.no) λ_=>Tr.br (λ_=>Tr.no) λ_=>Tr.sk λv2 _=>Tr.br (λ_=>Tr.no) λ_=>?_
 unfold Zer
 refine Tr.sk λv3 _=>Tr.br (λ_=>Tr.br (λ_=>Tr.br (λ_=>Tr.br (λ_=>Tr.bd (Zmy hH a.Zs true h1) (λg1=>?_) Tr.no) λ_=>Tr.no) λ_=>Tr.no) λ_=>Tr.no) λ_=>Tr.no
 rw[if_pos rfl]
 exact Tr.bd (Zmy hH a.Zw false h2) (λg2=>Tr.yes λ_=>⟨hr,g1,g2⟩) Tr.no
theorem i_plain (o:Zl) (ho:o.Yj.length≤140737488355328):Tr (Z4s m o) ((0≤o.Zv.Zq∧o.Zv.Zq<m.Y1.Zy.length)∧∀ v∈o.Yj,Wj m v):=by
 unfold Z4s
 refine Tr.br (λ_=>Tr.br (λ_=>Tr.br (λc0=>Tr.br (λc1=>Tr.sk λv0 _=>Tr.sk λv1 _=>Tr.br (λ_=>Tr.br (λ_=>Tr.sk λv2 _=>Tr.bd (Zof hH _ v2 ho) (λh=>Tr.yes λ_=>⟨⟨by simpa using c0,by simpa using c1⟩,h⟩) Tr.no) λ_=>Tr.no) λ_=>Tr.no) λ_=>Tr.no) λ_=>Tr.no) λ_=>Tr.no) λ_=>Tr.no
theorem i_array (o:Zl) (ho:o.Yj.length≤140737488355328):Tr (Z49 m o) (∀ v∈o.Yj,Wj m v):=by
 unfold Z49
 refine Tr.sk λv0 _=>Tr.sk λv1 _=>Tr.br (λ_=>Tr.no) λ_=>Tr.br (λ_=>Tr.no) λ_=>Tr.br (λ_=>Tr.no) λ_=>Tr.br (λ_=>Tr.no) λ_=>?_
 unfold Zfz
 refine Tr.all ho λt v h0 h1 e x hx=>?_
 unfold Z69 at hx
 rw[if_pos (by simpa using h1),e] at hx
 simp only[Option.bind_some] at hx
 refine W.bd hx λu _ hx=>W.sp hx (λ_ hx=>by cases hx; exact .inr rfl) λ_ hx=>W.bd hx λb hb hx=>?_
 cases b with
 | false=>cases hx; exact .inr rfl
 | true=>
  rw[if_neg (by simp),wrS h0 (by omega)] at hx
  cases hx
  exact .inl ⟨rfl,Z8g hH v hb⟩
omit hH in
theorem i_text (o:Zl):Tr (Z4n m o) (o.Yj=[]):=by
 unfold Z4n
 exact Tr.sk λv0 _=>Tr.br (λ_=>Tr.br (λ_=>Tr.br (λh=>Tr.yes λ_=>Z3m h) λ_=>Tr.no) λ_=>Tr.no) λ_=>Tr.no
def Zcj (m:Z4) (o:Zl):Prop:=
 (o.Zn=0→Wt o=false∧o.Yj=[])∧(o.Zn=1→0≤o.Zv.Zq∧o.Zv.Zq<m.Y1.Zy.length)∧∀ v∈o.Yj,Wj m v
theorem Zsb (t:Int) (o:Zl) (ht:Z5 m.Z2 t=some o) (ho:o.Yj.length≤140737488355328):Tr (Km m t) (Zcj m o):=by
 unfold Km
 rw[ht,Option.bind_some]
 refine Tr.br (λk0=>?_) λk0=>Tr.br (λk1=>?_) λk1=>Tr.br (λk2=>?_) λk2=>Tr.br (λk3=>?_) λk3=>Tr.no
 ·have hk:o.Zn=0:=by simpa using k0
  refine Tr.br (λ_=>Tr.br (λhv=>Tr.br (λ_=>Tr.br (λhw=>Tr.br (λ_=>Tr.yes λhs=>?_) λ_=>Tr.no) λ_=>Tr.no) λ_=>Tr.no) λ_=>Tr.no) λ_=>Tr.no
  have hvn:=Z3m hv
  have hsn:=Z3m hs
  refine⟨λ_=>⟨?_,hvn⟩,λh=>(by rw[hk] at h; cases h),by rw[hvn]; simp⟩
  unfold Wt
  rw[hsn]
  have:o.Qw=0:=by simpa using hw
  rw[this]; rfl
 ·have hk:o.Zn=1:=by simpa using k1
  refine Tr.bd (i_plain hH o ho) (λh=>?_) Tr.no
  exact λ_=>⟨λh'=>(by rw[hk] at h'; cases h'),λ_=>h.1,h.2⟩
 ·have hk:o.Zn=2:=by simpa using k2
  refine Tr.bd (i_array hH o ho) (λh=>?_) Tr.no
  exact λ_=>⟨λh'=>(by rw[hk] at h'; cases h'),λh'=>(by rw[hk] at h'; cases h'),h⟩
 ·have hk:o.Zn=3:=by simpa using k3
  refine Tr.bd (i_text o) (λh=>?_) Tr.no
  exact λ_=>⟨λh'=>(by rw[hk] at h'; cases h'),λh'=>(by rw[hk] at h'; cases h'),by rw[h]; simp⟩
theorem i_begun (t:Int) (r:Xm) (ht:Z5 m.X7 t=some r) (hr:r.Qu.length≤140737488355328):Tr (Z0f m t) (∀ v∈r.Qu,Wj m v):=by
 have hj:Tr (Z0n r m t) (∀ v∈r.Qu,Wj m v):=by
  unfold Z0n
  exact Tr.br (λ_=>Tr.yes λh=>by rw[Z3m h]; simp) λ_=>Tr.sk λv2 _=>Tr.bd (Zof hH _ v2 hr) (λh=>Tr.yes λ_=>h) Tr.no
 unfold Z0f
 rw[ht,Option.bind_some]
 exact Tr.br (λ_=>Tr.no) λ_=>Tr.br (λ_=>Tr.no) λ_=>Tr.br (λ_=>Tr.sk λv1 _=>Tr.br (λ_=>Tr.no) λ_=>Tr.br (λ_=>Tr.br (λ_=>Tr.no) λ_=>hj) λ_=>hj) λ_=>Tr.br (λ_=>Tr.br (λ_=>Tr.no) λ_=>hj) λ_=>hj
theorem i_state (t:Int) (th:Yu) (ht:Z5 m.Zz t=some th):Tr (Z2w m t) (U2 m th.Qx):=by
 unfold Z2w
 rw[ht,Option.bind_some]
 refine Tr.br (λ_=>Tr.br (λh=>Tr.yes λ_=> .inl (by simpa using h)) λ_=>Tr.no) λ_=>?_
 unfold Zag
 refine Tr.br (λ_=>Tr.br (λh=>Tr.yes λ_=> .inl (by simpa using h)) λ_=>Tr.no) λ_=>?_
 unfold Zfy
 exact Tr.br (λ_=>Tr.bd (i_is hH _) (λh _=> .inr h) Tr.no) λ_=>Tr.br (λ_=>Tr.bd (i_is hH _) (λh _=> .inr h) Tr.no) λ_=>Tr.br (λ_=>Tr.bd (i_is hH _) (λh _=> .inr h) Tr.no) λ_=>Tr.no
theorem i_runs (t:Int) (th:Yu) (ht:Z5 m.Zz t=some th) (hb:th.Yx.length≤140737488355328) (ha:∀ a∈th.Yx,a.Zs.length≤140737488355328∧a.Zw.length≤140737488355328):
  Tr (Z0c m t) (U2 m th.Xf∧U2 m th.Qx∧U2 m th.Vf∧Wj m th.Qm∧∀ a∈th.Yx,U2 m a.Vp∧(∀ v∈a.Zs,Wj m v)∧∀ v∈a.Zw,Wj m v):=by
 unfold Z0c
 rw[ht,Option.bind_some]
 refine Tr.bd (i_state hH t th ht) (λh1=>?_) Tr.no
 rw[if_neg (by simp)]
 refine Tr.bd (Ze8 hH _) (λh2=>?_) Tr.no
 rw[if_neg (by simp)]
 refine Tr.bd (Ze8 hH _) (λh3=>?_) Tr.no
 rw[if_neg (by simp)]
 refine Tr.bd (Z8g hH _) (λh4=>?_) Tr.no
 rw[if_neg (by simp)]
 refine Tr.br (λ_=>Tr.no) λ_=>?_
 have hj:Tr (K7 th m) (U2 m th.Xf∧U2 m th.Qx∧U2 m th.Vf∧Wj m th.Qm∧∀ a∈th.Yx,U2 m a.Vp∧(∀ v∈a.Zs,Wj m v)∧∀ v∈a.Zw,Wj m v):=λe=>by
  unfold K7 at e
  refine⟨h2,h1,h3,h4,Tr.all (f:=Z8m th m) hb (λt a h0 h1 e x hx=>?_) e⟩
  have ham:a∈th.Yx:=by
   unfold Z5 at e; rw[if_pos h0] at e; exact List.mem_of_getElem? e
  unfold Z8m at hx
  rw[if_pos (by simpa using h1),e] at hx
  simp only[Option.bind_some] at hx
  refine W.bd hx λb hb' hx=>?_
  cases b with
  | false=>cases hx; exact .inr rfl
  | true=>
   rw[if_neg (by simp),wrS h0 (by omega)] at hx
   cases hx
   exact .inl ⟨rfl,i_Act hH a (ha a ham).1 (ha a ham).2 hb'⟩
 unfold Zfi
 exact Tr.br (λ_=>Tr.br (λ_=>Tr.no) λ_=>Tr.br (λ_=>Tr.br (λ_=>Tr.no) λ_=>Tr.br (λ_=>Tr.no) λ_=>hj) λ_=>hj) λ_=>Tr.br (λ_=>Tr.br (λ_=>Tr.no) λ_=>Tr.br (λ_=>Tr.no) λ_=>hj) λ_=>hj
theorem i_texts (hl:m.Xc.length≤140737488355328):Tr (Z27 m) (∀ x∈m.Xc,IsO m x.Xf):=by
 unfold Z27
 refine Tr.all hl λt v h0 h1 e x hx=>?_
 unfold Z7i at hx
 rw[if_pos (by simpa using h1),e] at hx
 simp only[Option.bind_some] at hx
 have tail:∀ {x},((Uk m v.Xf).bind λv15=>if (!v15)=true then some (Ctl.done (S:=Int) (Sum.inr (α:=Unit) false)) else (Z5 m.Z2 (IntKind.wrap .i64 (v.Xf - 1))).bind λv17=>if (v17.Zn !=3)=true then some (.done (.inr false)) else
   (Z5 m.Z2 (IntKind.wrap .i64 (v.Xf - 1))).bind λv19=>if (!(v19.Xv==v.Xv))=true then some (.done (.inr false)) else some (.next (IntKind.wrap .i64 (t+1))))=some x→(x=.next (t+1)∧IsO m v.Xf)∨x=.done (.inr false):=λ{x} hx=>by
  refine W.bd hx λb hb hx=>?_
  cases b with
  | false=>cases hx; exact .inr rfl
  | true=>
   rw[if_neg (by simp),wrS h0 (by omega)] at hx
   exact W.bd hx λv17 _ hx=>W.sp hx (λ_ hx=>by cases hx; exact .inr rfl) λ_ hx=>W.bd hx λv19 _ hx=>W.sp hx (λ_ hx=>by cases hx; exact .inr rfl) λ_ hx=>by cases hx; exact .inl ⟨rfl,i_is hH _ hb⟩
 exact W.sp hx (λ_ hx=>W.bd hx λv8 _ hx=>W.sp hx (λ_ hx=>by cases hx; exact .inr rfl) λ_ hx=>tail hx) λ_ hx=>tail hx
end
theorem Vr.sz {m:Z4} (h:Vr m):MSz m where
 ini:=by have:=h.sp.iniL; omega
 thr:=h.thrL
 act:=λt ht=>⟨(h.thr t ht).2,λa ha=>⟨((h.thr t ht).1 a ha).loc,((h.thr t ht).1 a ha).stk⟩⟩
 ini2:=h.iniL
 sta:=h.ini
 intr:=h.intL
 vals:=λo ho=>(h.heap o ho).val
theorem Zl9 {α:Type} {l:List α} {x:α} (h:x∈l):∃ t:Int,0≤t∧t<l.length∧Z5 l t=some x:=by
 obtain⟨j,hj⟩:=List.mem_iff_getElem?.1 h
 have:=(List.getElem?_eq_some_iff.1 hj).1
 exact⟨j,by omega,by omega,by unfold Z5; rw[if_pos (by omega)]; simpa using hj⟩
theorem Mx.mg {m:Z4} (hw:Vr m) (hv:Mx m):MG m:=by
 have hH:=hw.heapL
 have ho:∀ o∈m.Z2,Zcj m o:=λo h=>by
  obtain⟨t,h0,h1,e⟩:=Zl9 h
  exact Zsb hH t o e (hw.heap o h).val (hv.obj t h0 h1)
 refine⟨hw.sz,hv.vok,by have:=hv.heap; omega,λo h k=>((ho o h).1 k).1,λo h k=>((ho o h).1 k).2,λo h=>(ho o h).2.1,λo h _=>(ho o h).2.2,λx hx=>?_⟩
 rcases hx with ⟨t,ht,hx⟩|⟨r,hr,v,hv',hk,e⟩|⟨y,hy,e⟩
 ·obtain⟨k,h0,h1,e⟩:=Zl9 ht
  obtain⟨g1,g2,g3,g4,g5⟩:=i_runs hH k t e (hw.thr t ht).2 (λa ha=>⟨((hw.thr t ht).1 a ha).loc,((hw.thr t ht).1 a ha).stk⟩) (hv.run k h0 h1)
  rcases hx with rfl|rfl|rfl|⟨hk,rfl⟩|⟨a,ha,hx⟩
  ·exact g1
  ·exact g2
  ·exact g3
  ·exact g4 hk
  ·obtain⟨f1,f2,f3⟩:=g5 a ha
   rcases hx with rfl|⟨v,hv',hk,rfl⟩|⟨v,hv',hk,rfl⟩
   ·exact f1
   ·exact f2 v hv' hk
   ·exact f3 v hv' hk
 ·obtain⟨k,h0,h1,e'⟩:=Zl9 hr
  rw[e]
  exact i_begun hH k r e' (hw.ini r hr) (hv.beg k h0 h1) v hv' hk
 ·rw[e]
  exact .inr (i_texts hH hw.intL hv.txt y hy)
end Go.Proofs
namespace Go.Proofs
open Go.Den Go.Tot
theorem Lj:J6=some true:=by kernel_rfl
theorem Zel (l:List Int) (hl:l.length≤140737488355328):Kp l l=some true:=by
 unfold Kp
 have h:Ok (Z7 (Zc7 l l) Z8 0) λq=>q=.inl ():=by
  refine li l.length (λt h0 h1=>?_)
  unfold Zc7
  refine brD (λhlt=>?_) λ_=>di rfl
  rw[if_pos (by simpa using hlt)]
  unfold j12x1
  refine bd (gri h0 hlt) λa ⟨_,ha⟩=>bd (gri h0 hlt) λb ⟨_,hb⟩=>brN (λne=>?_) λ_=>bd wr λk hk=>?_
  ·rw[ha] at hb; cases hb; exact absurd rfl ne
  ·subst hk; exact ni (by omega) (by omega)
 obtain⟨q,e,rfl⟩:=h
 rw[e]
 show some (_==_)=_
 simp
theorem Zx9 (l:List Int) (hl:l.length≤5001):Z7 (Z62 l) Z8 (0,([]:List Bool))=some (l.map (· ==4)):=by
 have h:Ok (Z7 (Z62 l) Z8 (0,([]:List Bool))) λq=>q=l.map (· ==4):=by
  refine lp (λt:Int×List Bool=>t.1) l.length (λt=>t.2=(l.take t.1.toNat).map (· ==4)) (λt hI h0 h1=>?_) (by omega) rfl
  unfold Z62
  refine brD (λhlt=>?_) λhge=>dn ?_
  ·refine bd (gri h0 hlt) λv ⟨_,hv⟩=>bd (gk ?_ ?_) λ_ _=>bd wr λk hk=>?_
   ·rw[hI]; simp; omega
   ·rw[hI]; simp; omega
   ·subst hk
    refine nx ?_
    dsimp only
    rw[show (t.1+1).toNat=t.1.toNat+1 by omega,List.take_add_one,hv,hI]
    simp
  ·rw[hI,List.take_of_length_le (by omega)]
 obtain⟨q,e,rfl⟩:=h
 exact e
theorem MG.strongP {m:Z4} (h:MG m) {l:List Int} (hl:Ww m=some l) (hn:l.length=m.Z2.length):Z1z m=some (l.map (· ==4)):=by
 have:=h.len
 unfold Z1z
 rw[hl,Option.bind_some,Zx9 l (by omega)]; rfl
structure LJ (m:Z4) (k:Int) (l:List Int):Prop where
 len:l.length=m.Z2.length
 rng:∀ (i:Nat) v,l[i]?=some v→0≤v∧v<k∧∀ j,1≤j→j<k→(j≤v↔(U7 m).Re j ((i:Int)+1))
theorem inner21 {k:Int} {l:List Int} {out:List Bool} (ho:out.length=l.length) (hl:l.length≤5001):Ok (Z7 (Zcp (k,l) out) Z8 (0,l)) λq=>q.length=l.length∧∀ (i:Nat),i<l.length→q[i]?=if out[i]?=some true then some k else l[i]? :=by
 refine lp (λt:Int×List Int=>t.1) l.length (λt=>t.2.length=l.length∧∀ (i:Nat),i<l.length→t.2[i]?=if (i:Int)<t.1∧out[i]?=some true then some k else l[i]?) (λt ⟨hI1,hI2⟩ h0 h1=>?_) (by omega) ⟨rfl,λi hi=>by dsimp only; rw[if_neg (by omega)]⟩
 unfold Zcp
 refine brD (λhlt=>?_) λhge=>dn ⟨hI1,λi hi=>?_⟩
 ·refine bd (gri h0 hlt) λb ⟨_,hb⟩=>br (λhbt=>?_) λhbf=>?_
  ·refine bd (ik h0 (by omega)) λn ⟨hn,hnl⟩=>bd (la hnl) λ_ _=>bd wr λi hi=>?_
   subst hi; subst hn; subst hbt
   refine nx ⟨by simpa using hI1,λi hi=>?_⟩
   dsimp only
   rw[List.getElem?_set]
   by_cases h:t.1.toNat=i
   ·rw[if_pos h,if_pos (by omega),if_pos ⟨by omega,by rw[← h]; exact hb⟩]
   ·rw[if_neg h,hI2 i hi]
    by_cases a:(i:Int)<t.1
    ·simp[a,show (i:Int)<t.1+1 by omega]
    ·simp[a,show ¬(i:Int)<t.1+1 by omega]
  ·refine bd wr λi hi=>?_
   subst hi; subst hbf
   refine nx ⟨hI1,λi hi=>?_⟩
   dsimp only
   rw[hI2 i hi]
   by_cases h:t.1.toNat=i
   ·rw[← h,hb]; simp
   ·by_cases a:(i:Int)<t.1
    ·simp[a,show (i:Int)<t.1+1 by omega]
    ·simp[a,show ¬(i:Int)<t.1+1 by omega]
 ·rw[hI2 i hi]
  simp[show (i:Int)<t.1 by omega]
theorem MG.levR {m:Z4} (h:MG m):∃ l,Z43 m=some l∧l.length=m.Z2.length∧L5 (U7 m) λn=>l.getD (n - 1).toNat 0:=by
 have hlen:=h.len
 have key:Ok (Z43 m) λl=>LJ m 5 l:=by
  unfold Z43
  refine bd (Go.Tot.mk (by omega) (by omega) (by omega) (by omega)) λ_ _=>?_
  refine bd (P:=λl=>LJ m 5 l) (lp (λt:Int×List Int=>t.1) 5 (λt=>1≤t.1∧LJ m t.1 t.2) (λt ⟨hI0,hI⟩ h0 h1=>?_) (by omega) ⟨by dsimp only; omega,by simp,λi v hv=>?_⟩) λl hl=>Go.Tot.ok hl
  ·obtain⟨k,l⟩:=t
   dsimp only at hI0 hI h0 h1
   unfold l21x1
   refine brD (λhle=>?_) λhgt=>dn ?_
   ·dsimp only at hle
    obtain⟨out,e,o1,o2⟩:=h.rchR k
    dsimp only
    rw[e,Option.bind_some]
    refine bd (inner21 (by rw[o1,hI.len]) (by rw[hI.len]; omega)) λq ⟨q1,q2⟩=>bd wr λi hi=>?_
    subst hi
    refine nx ⟨by dsimp only; omega,q1.trans hI.len,λi v hv=>?_⟩
    have hil:i<l.length:=by have:=(List.getElem?_eq_some_iff.1 hv).1; rw[← q1]; exact this
    dsimp only
    rw[q2 i hil] at hv
    have hN:=hI.len
    have ho:=o2 ((i:Int)+1) (by omega) (by omega)
    have hbit:Bit out (((i:Int)+1) - 1)↔out[i]?=some true:=by
     unfold Bit
     rw[show (((i:Int)+1) - 1).toNat=i by omega]
     exact⟨λh=>h.2,λh=>⟨by omega,h⟩⟩
    rw[hbit] at ho
    by_cases hc:out[i]?=some true
    ·rw[if_pos hc] at hv
     cases hv
     refine⟨by omega,by omega,λj j1 j2=>⟨λ_=>(ho.1 hc).mono (by omega),λ_=>by omega⟩⟩
    ·rw[if_neg hc] at hv
     obtain⟨v0,v1,v2⟩:=hI.rng i v hv
     refine⟨v0,by omega,λj j1 j2=>?_⟩
     by_cases hj:j<k
     ·exact v2 j j1 hj
     ·have:j=k:=by omega
      subst this
      exact⟨λh=>by omega,λh=>absurd (ho.2 h) hc⟩
   ·dsimp only at hgt ⊢
    have:k=5:=by omega
    subst this
    exact hI
  ·dsimp only at hv ⊢
   rw[List.getElem?_replicate] at hv
   split at hv
   ·cases hv
    exact⟨by omega,by omega,λj j1 j2=>by omega⟩
   ·cases hv
 obtain⟨l,e,hl⟩:=key
 refine⟨l,e,hl.len,λn h1 h2=>?_⟩
 have hN:=hl.len
 have h2':n≤(m.Z2.length:Int):=h2
 obtain⟨v0,v1,v2⟩:=hl.rng (n - 1).toNat _ (List.getElem?_eq_getElem (by omega))
 dsimp only
 rw[List.getD_eq_getElem?_getD,List.getElem?_eq_getElem (by omega),Option.getD_some]
 refine⟨v0,by omega,λj j1 j2=>?_⟩
 rw[v2 j j1 (by omega),show (((n - 1).toNat:Nat):Int)+1=n by omega]
theorem MG.lev_same {m:Z4} (h:MG m):∃ l,Ww m=some l∧Z43 m=some l∧l.length=m.Z2.length∧L5 (U7 m) λn=>l.getD (n - 1).toNat 0:=by
 obtain⟨l,e1,h1,h2⟩:=h.levP
 obtain⟨l',e1',h1',h2'⟩:=h.levR
 have:l=l':=lev_ext h1 h1' λn a b=>L5.same h2 h2' a b
 subst this
 exact⟨l,e1,e1',h1,h2⟩
theorem Ze3 (m:Z4):Ok (Z1k m) λ_=>True:=by
 unfold Z1k
 repeat' first
  | with_reducible refine brD (λ_=>?_) λ_=>?_
  | exact sm
end Go.Proofs
namespace Go.Proofs
open Tryz
open Go.Den Go.RowKit Go.ChangeShapes Go.WideShapes
theorem gRef : prog.globalNamed "armature/reachability.references" = some 0 := by kernel_rfl
theorem tRef:(prog.globals[0]?).map (·.type)=some 110:=by kernel_rfl
theorem c9:prog.cellsOf 9=1:=by kernel_rfl
abbrev J9 : List (String × DataW Unit) := [("armature/reachability.references", YtiiilinleagffaaGreatDoor.Rows.laid_armature_reachability_references)]
theorem Y1c:(YtiiilinleagffaaGreatDoor.Rows.laid_armature_reachability_references:DataW Unit)=.agg (gl0.map λs=> .lit (.string s)):=rfl
theorem Zdv {W:World} (h:laidMetH prog J9 W):Mo W (L0 W):=by
 rw[MakeChecks.laidMetH_plain _ _ _ (by kernel_rfl)] at h
 obtain⟨ps,⟨g0,t0,cs0,f0,p0,q0,hg0,ht0,hv0,hd0,_,_⟩,_,_⟩:=h
 obtain rfl:=Option.some.inj (gRef.symm.trans hg0)
 obtain rfl:=Option.some.inj (tRef.symm.trans ht0)
 obtain⟨xs,m1,rfl,hx1,hlen,hn4,hel⟩:=DataW.trod_array underlying110 hd0
 rw[Y1c] at hx1
 simp only[Prod.mk.injEq,DataW.agg.injEq] at hx1
 have key:∀ (j:Nat) s,gl0[j]?=some s→∃ b:ByteArray,b.data.toList=s∧W.cell? ⟨0,j,none⟩=some (.string b):=λj s hs=>by
  have hj:j<4:=(List.getElem?_eq_some_iff.1 hs).1
  have hm:(xs.map (·.1))[j]?=some (.lit (.string s)):=by rw[← hx1.1,List.getElem?_map,hs]; rfl
  rw[List.getElem?_map] at hm
  obtain⟨x,hx,hx'⟩:=Option.map_eq_some_iff.1 hm
  have h1:=hel j hj
  rw[hx] at h1
  obtain⟨b,e1,e2,_⟩:=DataW.trod_string underlying9 h1
  rw[e2] at hx'
  refine⟨b,by simpa using hx',?_⟩
  rw[World.var?_cell gRef hv0 j]
  rw[c9,Nat.mul_one] at e1
  have:(cs0.toList.drop j)[0]?=some (.string b):=by
   have:=congrArg (·[0]?) e1
   simpa using this
  rw[List.getElem?_drop] at this
  simpa using this
 intro g l hl
 have hgl:g=0∧l=gl0:=by
  unfold Zc6 at hl
  simp only[List.lookup] at hl
  split at hl
  ·rename_i he
   exact⟨by simpa using he,(Option.some.inj hl).symm⟩
  ·cases hl
 obtain⟨rfl,rfl⟩:=hgl
 refine⟨by decide,?_,key⟩
 obtain⟨b,_,hb⟩:=key 3 _ rfl
 exact Zn1 hb
theorem Z9b (os:Os) (args:Array Value):laidMetH prog J9 ((World.doorLaid prog 400 os).forCall (λ_ _=>0) ⟨#[],args,[]⟩).memory:=
 laidMetH_of_parts3 (fuel:=8) (laidMet_of_run' 8 (by kernel_rfl) (by kernel_rfl)) (by kernel_rfl) (by kernel_rfl)
end Go.Proofs
namespace Go.Proofs
open Go.Den Go.Tot
structure Jp (m:Z4) (l:List Int):Prop where
 len:l.length=m.Z2.length
 lev:∀ (t:Int) v,0≤t→l[t.toNat]?=some v→0≤v∧v≤4∧∀ k,1≤k→k≤4→(k≤v↔(U7 m).Re k (t+1))
theorem Jp.of {m:Z4} {l:List Int} (h1:l.length=m.Z2.length) (h2:L5 (U7 m) λn=>l.getD (n - 1).toNat 0):Jp m l:=⟨h1,λt v h0 hv=>by
 have hlt:=(List.getElem?_eq_some_iff.1 hv).1
 obtain⟨a,b,c⟩:=h2 (t+1) (by omega) (by show t+1≤(m.Z2.length:Int); omega)
 dsimp only at a b c
 rw[show (t+1 - 1).toNat=t.toNat by omega,List.getD_eq_getElem?_getD,hv,Option.getD_some] at a b c
 exact⟨a,b,c⟩⟩
end Go.Proofs
namespace Go.Proofs
open Go.Den Go.Tot
def Ka (n:Int):Yu:={ Q5:=0,Qx:=0,Qh:=0,Yx:=[],Xf:=n,Vf:=0,Qm:={ Zn:=0,f_N:=0 } }
end Go.Proofs
namespace Go.Proofs
open Go.Den Go.Tot
end Go.Proofs
