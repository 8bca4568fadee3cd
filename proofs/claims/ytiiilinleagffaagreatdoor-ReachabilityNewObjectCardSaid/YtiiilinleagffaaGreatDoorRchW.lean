/-
  That the models come to an answer: machines. No condition.
-/
import Derived.Test.YtiiilinleagffaaGreatDoorRchT10
import Derived.Test.YtiiilinleagffaaGreatDoorRchD
import Derived.Test.YtiiilinleagffaaGreatDoorRch8
import Derived.Test.YtiiilinleagffaaGreatDoorGcF
set_option linter.unusedVariables false
set_option linter.unusedSimpArgs false
namespace Go.Proofs
open Go.Den Go.Tot
structure Z0h (o:Zl):Prop where
 val:o.Yj.length≤140737488355328
 str:Str o.Xv
 ws:o.Q7.length≤140737488355328
structure WAct (a:Q9):Prop where
 loc:a.Zs.length≤140737488355328
 stk:a.Zw.length≤140737488355328
structure Vr (m:Z4):Prop where
 sp:Wn m.Y1
 heap:∀ o∈m.Z2,Z0h o
 heapL:m.Z2.length≤140737488355328
 ini:∀ b∈m.X7,b.Qu.length≤140737488355328
 iniL:m.X7.length≤140737488355328
 int:∀ x∈m.Xc,Str x.Xv
 intL:m.Xc.length≤140737488355328
 thr:∀ t∈m.Zz,(∀ a∈t.Yx,WAct a)∧t.Yx.length≤140737488355328
 thrL:m.Zz.length≤140737488355328
 outL:m.W5.length≤140737488355328
theorem nT {α:Type} {o:Option Bool} {R:Prop} {P:α→Prop} {x y:Option α} (h:Ok o λb=>b=true→R) (F:Ok x P) (T:R→Ok y P):Ok (o.bind λv=>if (!v)=true then x else y) P:=
 bd h λ_ hb=>br! (λ_=>F) λe=>T (hb e)
theorem nF {α:Type} {o:Option Bool} {R:Prop} {P:α→Prop} {x y:Option α} (h:Ok o λb=>b=true→R) (F:Ok x P) (T:R→Ok y P):Ok (o.bind λv=>if v=true then y else x) P:=
 bd h λ_ hb=>br (λe=>T (hb e)) λ_=>F
theorem take4n (s:List UInt8) (hs:Str s):Ok (Z0x s 0) (λr=>Str r.1.Ze):=by
 unfold Z0x
 refine bd (P:=λq:Int×Int=>0≤q.2∧q.2≤(s.length:Int)∧0≤q.1∧q.1≤4503599627370496) (lp (λt=>t.1) s.length (λt=>0≤t.2∧t.2≤t.1) (λt hI g0 g1=>?_) (by omega) ⟨by omega,by omega⟩ (by omega) (by omega)) λq hq=>?_
 ·unfold Zc2 Zb1
  refine brD (λhlt=>bd gs λ_ _=>brE (λ_=>bd wr λ_ _=>bd wr λ_ _=>nx ?_ ?_ ?_) λ_=>dn ?_) λ_=>dn ?_ <;> dsimp only <;> omega
 ·obtain⟨q1,q2⟩:=q
  dsimp only at hq ⊢
  have j2:∀ (v:Int) (p0:List UInt8) (p1:Int),Str p0→Ok (Z1s (q1,q2) v p0 p1) (λr=>Str r.1.Ze):=λv p0 p1 g1=>by
   unfold Z1s
   exact bd (Zau _ g1) λb _=>br! (λ_=>ok (by simp)) λ_=>ok g1
  refine brD (λ_=>ok (by simp)) λ_=>bd gs λv5 _=>bd wr λv6 h6=>brE (λ_=>?_) λ_=>j2 _ _ _ (by simp)
  refine bd (P:=λq:Int=>v6≤q∧q≤(s.length:Int)) (lp (λt=>t) s.length (λt=>v6≤t) (λt hI g0 g1=>?_) (by omega) (by omega) (by omega) (by omega)) λq hq2=>?_
  ·unfold Zc0
   exact brD (λhlt=>bd gs λ_ _=>brN (λ_=>bd wr λ_ _=>nx (by omega) (by omega) (by omega)) λ_=>dn ⟨by omega,by omega⟩) λ_=>dn ⟨by omega,by omega⟩
  ·exact brD (λ_=>ok (by simp)) λ_=>bd (sb (by omega) (by omega) (by omega)) λv11 h11=>bd wr λv12 h12=>j2 _ _ _ (by have:=h11.1; unfold Str at *; omega)
theorem parse4n (s:List UInt8) (hs:Str s):Ok (K4 s) (λr=>Str r.1.Ze):=by
 unfold K4
 exact bd (take4n s hs) λv hv=>brN (λ_=>ok (by simp)) λ_=>ok hv
theorem Zxq (y:Y8) (ht:Str y.Ze):Ok (Zf7 y) (λ_=>True):=by
 unfold Zf7
 repeat' with_reducible first
  | unfold j98x1
  | unfold j98x2
  | refine brD (λ_=>?_) λ_=>?_
  | refine br! (λ_=>?_) λ_=>?_
  | refine brE (λ_=>?_) λ_=>?_
  | refine bd (Zau _ (by first|assumption|omega|exact And.left (by assumption)|(dsimp only; omega))) λ_ _=>?_
  | refine ok ?_
  | exact True.intro
theorem Zva (s:List UInt8) (hs:Str s):Ok (Z7m s) (λ_=>True):=by
 unfold Z7m
 repeat' with_reducible first
  | refine brN (λ_=>?_) λ_=>?_
  | refine bd (parse4n _ (by first|assumption|omega|exact And.left (by assumption)|(dsimp only; omega))) λ_ _=>?_
  | refine bd (Zxq _ (by first|assumption|omega|exact And.left (by assumption)|(dsimp only; omega))) λ_ _=>?_
  | refine ok ?_
  | exact True.intro
theorem Zt1 (w:Zj) (c:Int):Ok (Z5e w c) (λb=>b=true→0≤c∧c<w.Zy.length):=by
 unfold Z5e
 repeat' first
  | with_reducible refine brD (λ_=>?_) λ_=>?_
  | with_reducible refine ok ?_
  | (first|(intro h; cases h; done)|(intro h; have:=of_decide_eq_true h; omega))
def Z3w (w:Zj) (x:Qo):Prop:=0≤x.Zq∧x.Zq<w.Zy.length∧0≤x.Xw∧∀ v,Z5 w.Zy x.Zq=some v→x.Xw<v.Xg.Yl.length
theorem Zux (w:Zj) (hv:Vn w) (c:Int) (s:Bool) (h0:0≤c) (h1:c<w.Zy.length):Ok (Z67 w c s) (λr=>r.length≤64∧∀ x∈r,Z3w w x∧x.Zq=c):=by
 unfold Z67
 refine bdE (gri h0 h1) λv e hc=>?_
 have hf:=(hv.cls _ v hc.2).few.2.1
 refine bd (P:=λq:List Qo=>q.length≤64∧∀ x∈q,Z3w w x∧x.Zq=c) (lp (λt=>t.1) v.Xg.Yl.length (λt=>(t.2.length:Int)≤t.1∧∀ x∈t.2,Z3w w x∧x.Zq=c) (λt hI g0 g1=>?_) (by omega) ⟨by simp,λx hx=>by cases hx⟩ (by omega) (by dsimp only; omega)) λq hq=>ok hq
 obtain⟨i1,i2⟩:=hI
 unfold l96x1
 refine brD (λhlt=>bd (gr (by omega) hlt) λ_ _=>bd sm λ_ _=>br (λ_=>bd gk λ_ _=>bd wr λk hk=>nx ⟨by simp only[List.length_append,List.length_cons,List.length_nil]; omega,λx hx=>?_⟩) λ_=>bd wr λk hk=>nx ⟨by dsimp only; omega,i2⟩) λ_=>dn ⟨by omega,i2⟩
 rcases List.mem_append.1 hx with h|h
 ·exact i2 x h
 ·rcases List.mem_singleton.1 h with rfl
  exact⟨⟨h0,h1,g0,λv' h'=>by rw[e] at h'; cases h'; exact hlt⟩,rfl⟩
theorem Zuk (w:Zj) (hv:Vn w):∀ (nn:Nat) (c:Int),c+2≤nn→1≤nn→c≤1000000→Ok (Z4w nn w c) (λr=>(c<0→r=[])∧(0≤c→(r.length:Int)≤64*(c+1))∧∀ x∈r,Z3w w x)
 | nn+1,c,h,_,hb=>by
  have hfew:=hv.few
  unfold Z4w
  refine bd (Zt1 w c) λb hb=>br! (λ_=>ok ⟨λ_=>rfl,λh=>by simp; omega,λx hx=>by cases hx⟩) λht=>?_
  obtain⟨h0,h1⟩:=hb ht
  refine bdE (gri h0 h1) λv e hc=>?_
  have hs:=(hv.cls _ v hc.2).sup
  refine bd (Zuk w hv nn v.Yn (by omega) (by omega) (by omega)) λl hl=>?_
  obtain⟨l1,l2,l3⟩:=hl
  have hlen:(l.length:Int)≤64*c:=by
   rcases hs with h|h
   ·rw[l1 (by omega)]; simp; omega
   ·have:=l2 h.1; omega
  refine bd (gk (by simp only[List.nil_append]; omega) (by simp only[List.nil_append]; omega)) λ_ _=>bd (Zux w hv c false h0 h1) λo ho=>bd (gk (by simp only[List.nil_append,List.length_append]; omega) (by simp only[List.nil_append,List.length_append]; omega)) λ_ _=>ok ⟨λh=>by omega,λ_=>by simp only[List.nil_append,List.length_append]; omega,λx hx=>?_⟩
  simp only[List.nil_append] at hx
  rcases List.mem_append.1 hx with h|h
  ·exact l3 x h
  ·exact(ho.2 x h).1
theorem Zpx {α:Type} {P:α→Prop} {w:Zj} (hw:Wn w) {x:Qo} (hx:Z3w w x) {f:Y7→Option α} (h:∀ v,v∈w.Zy→x.Xw<v.Xg.Yl.length→Ok (f v) P):Ok ((Z5 w.Zy x.Zq).bind f) P:=
 bdE (gr hx.1 hx.2.1) λv e hm=>h v hm (hx.2.2.2 v e)
theorem Y17 (w:Zj) (c:Int) (hw:Wn w) (hv:Vn w) (hc:c≤1000000):Ok (Z9u w c) (λ_=>True):=by
 unfold Z9u
 have hr:(Z8:Int)=18446744073709551616:=rfl
 refine bd (Zuk w hv Z8 c (by omega) (by unfold Z8; omega) hc) λl hl=>?_
 obtain⟨l1,l2,l3⟩:=hl
 have hlen:(l.length:Int)≤64000064:=by
  rcases Int.lt_or_le c 0 with h|h
  ·rw[l1 h]; simp
  ·have:=l2 h; omega
 refine bd (P:=λ_=>True) (lp (λt=>t.1) l.length (λt=>(t.2.length:Int)≤t.1) (λt hI g0 g1=>?_) (by omega) (by simp) (by omega) (by dsimp only; omega)) λq _=>ok trivial
 unfold l80x1
 refine brD (λhlt=>bdE (gr (by omega) hlt) λs e hs=>Zpx hw (l3 s hs) λv hm hi=>?_) λ_=>dn trivial
 rw[e]
 refine bs (bd (gr (l3 s hs).2.2.1 hi) λf hf=>bd (Zva _ ((hw.cls v hm).1.fld f hf).d) λ_ _=>bd gk λ_ _=>bd wr λk hk=>nx (by simp only[List.length_append,List.length_cons,List.length_nil]; omega))
theorem Y1d (w:Zj) (c:Int) (hw:Wn w) (hv:Vn w):Ok (Z9q w c) (λ_=>True):=by
 unfold Z9q Zhh
 refine bd (P:=λl:List Qo=>l.length≤64∧∀ x∈l,Z3w w x∧x.Zq=c) ?_ λl hl=>?_
 ·refine bd (Zt1 w c) λb hb=>br! (λ_=>ok ⟨by simp,λx hx=>by cases hx⟩) λht=>?_
  exact bd (Zux w hv c true (hb ht).1 (hb ht).2) λr hr=>ok hr
 ·refine bd (P:=λ_=>True) (lp (λt=>t.1) l.length (λt=>(t.2.length:Int)≤t.1) (λt hI g0 g1=>?_) (by omega) (by simp) (by omega) (by dsimp only; omega)) λq _=>ok trivial
  have hl1:=hl.1
  unfold l63x1
  refine brD (λhlt=>?_) λ_=>dn trivial
  obtain⟨s,hs,hsm⟩:=gr (l:=l) g0 hlt
  obtain⟨k1,k2⟩:=hl.2 s hsm
  subst k2
  refine Zpx hw k1 λv hm hi=>?_
  rw[hs]
  refine bs (bd (gr k1.2.2.1 hi) λf hf=>?_)
  have nxt:∀ y:Zg,Ok ((Ye 16 (t.2++[y]).length).bind λ_=>(some (IntKind.wrap .i64 (t.1+1))).bind λv14=>some (Ctl.next (v14,t.2++[y]))) (St (λt:Int×List Zg=>(t.2.length:Int)≤t.1) (λt=>t.1) l.length (λ_:List Zg=>True) t):=λy=>
   bd gk λ_ _=>bd wr λk hk=>nx (by simp only[List.length_append,List.length_cons,List.length_nil]; omega)
  exact br (λ_=>nxt _) λ_=>br (λ_=>nxt _) λ_=>bd (Zva _ ((hw.cls v hm).1.fld f hf).d) λy _=>nxt y
theorem Zkt (m:Z4) (n:Int) (hH:m.Z2.length≤140737488355328):Ok (Uk m n) (λb=>b=true→1≤n∧n≤m.Z2.length):=by
 unfold Uk
 repeat' first
  | with_reducible refine brD (λ_=>?_) λ_=>?_
  | with_reducible refine bd gr λ_ _=>?_
  | with_reducible refine bd wr λ_ _=>?_
  | with_reducible refine ok ?_
  | (first|(intro h; cases h; done)|(intro h; have:=of_decide_eq_true h; omega)|(intro _; omega))
theorem Zb9 (m:Z4) (n:Int) (hH:m.Z2.length≤140737488355328):Ok (Mf m n) (λ_=>True):=by
 unfold Mf
 repeat' with_reducible first
  | refine brE (λ_=>?_) λ_=>?_
  | refine bd (Zkt _ _ (by first|assumption|omega|exact And.left (by assumption)|(dsimp only; omega))) λ_ _=>?_
  | refine ok ?_
  | exact True.intro
theorem Zeg (m:Z4) (v:Zg) (hH:m.Z2.length≤140737488355328):Ok (Ms m v) (λ_=>True):=by
 unfold Ms
 repeat' with_reducible first
  | refine brD (λ_=>?_) λ_=>?_
  | refine brE (λ_=>?_) λ_=>?_
  | refine bd (Zb9 _ _ (by first|assumption|omega|exact And.left (by assumption)|(dsimp only; omega))) λ_ _=>?_
  | refine ok ?_
  | exact True.intro
theorem Zjl (m:Z4) (n:Int):Ok (Z3r m n) (λb=>b=true→0≤n∧n<m.Zz.length):=by
 unfold Z3r
 repeat' first
  | with_reducible refine brD (λ_=>?_) λ_=>?_
  | with_reducible refine ok ?_
  | (first|(intro h; cases h; done)|(intro h; have:=of_decide_eq_true h; omega)|(intro _; omega))
theorem L30x1 (m:Z4) (hH:m.Z2.length≤140737488355328) (hi:m.Xc.length≤140737488355328):Ok (Z7 (Z7i m) Z8 0) (λ_=>True):=by
 refine li (m.Xc.length) (λt _ _=>?_) (by omega) (by omega) (by omega)
 unfold Z7i
 repeat' first
  | with_reducible refine nT (Zkt _ _ (by assumption)) ?_ λ_=>?_
  | with_reducible refine ni ?_ ?_
  | with_reducible refine di ?_
  | with_reducible refine brD (λ_=>?_) λ_=>?_
  | with_reducible refine br (λ_=>?_) λ_=>?_
  | with_reducible refine bd gr λ_ _=>?_
  | with_reducible refine bd wr λ_ _=>?_
  | exact True.intro
  | omega
theorem Zxo (m:Z4) (hH:m.Z2.length≤140737488355328) (hi:m.Xc.length≤140737488355328):Ok (Z27 m) (λ_=>True):=by
 unfold Z27
 repeat' first
  | with_reducible refine bd (L30x1 _ (by first|assumption|omega|exact And.left (by assumption)|(dsimp only; omega)) (by first|assumption|omega|exact And.left (by assumption)|(dsimp only; omega))) λ_ _=>?_
  | with_reducible refine ok ?_
  | split
  | assumption
theorem L67x1 (m:Z4) (x y:List Zg) (hH:m.Z2.length≤140737488355328) (hx:x.length≤140737488355328) (e:(x.length:Int)=y.length):Ok (Z7 (Z5p m x y) Z8 0) (λ_=>True):=by
 refine li (x.length) (λt _ _=>?_) (by omega) (by omega) (by omega)
 unfold Z5p
 repeat' first
  | with_reducible refine ni ?_ ?_
  | with_reducible refine di ?_
  | with_reducible refine brD (λ_=>?_) λ_=>?_
  | with_reducible refine br! (λ_=>?_) λ_=>?_
  | with_reducible refine brN (λ_=>?_) λ_=>?_
  | with_reducible refine bd gr λ_ _=>?_
  | with_reducible refine bd wr λ_ _=>?_
  | with_reducible refine bd (Zeg _ _ (by first|assumption|omega|exact And.left (by assumption)|(dsimp only; omega))) λ_ _=>?_
  | exact True.intro
  | omega
theorem Znk (m:Z4) (x y:List Zg) (hH:m.Z2.length≤140737488355328) (hx:x.length≤140737488355328):Ok (Z1v m x y) (λ_=>True):=by
 unfold Z1v
 repeat' with_reducible first
  | refine brN (λ_=>?_) λ_=>?_
  | refine bd (L67x1 _ _ _ (by first|assumption|omega|exact And.left (by assumption)|(dsimp only; omega)) (by first|assumption|omega|exact And.left (by assumption)|(dsimp only; omega)) (by first|assumption|omega|exact And.left (by assumption)|(dsimp only; omega))) λ_ _=>?_
  | refine ok ?_
  | split
  | exact True.intro
theorem L63x2 (k:Int) (o:Zl) (a:Int) (h0:0≤k) (h1:k<o.Q7.length) (hl:o.Q7.length≤140737488355328):Ok (Z7 (Zfl k o a) Z8 0) (λ_=>True):=by
 refine li (k) (λt _ _=>?_) (by omega) (by omega) (by omega)
 unfold Zfl
 repeat' first
  | with_reducible refine ni ?_ ?_
  | with_reducible refine di ?_
  | with_reducible refine brD (λ_=>?_) λ_=>?_
  | with_reducible refine brE (λ_=>?_) λ_=>?_
  | with_reducible refine bd gr λ_ _=>?_
  | with_reducible refine bd wr λ_ _=>?_
  | exact True.intro
  | omega
theorem L63x1 (o:Zl) (m:Z4) (n:Int) (hl:o.Q7.length≤140737488355328):Ok (Z7 (Za5 o m n) Z8 0) (λ_=>True):=by
 refine li (o.Q7.length) (λt h0 h1=>?_) (by omega) (by omega) (by omega)
 unfold Za5 j58x2
 exact brD (λhlt=>bd (gr h0 hlt) λk hk=>nT (Zjl _ _) (di trivial) λht=>bd (gr ht.1 ht.2) λ_ _=>brN (λ_=>di trivial) λ_=>bd (gr ht.1 ht.2) λ_ _=>bd sm λ_ _=>brN (λ_=>di trivial) λ_=>bd (L63x2 t o k h0 (by omega) hl) λq _=>match q with
  | .inl _=>bd wr λ_ _=>ni (by omega) (by omega)
  | .inr _=>di trivial) λ_=>di trivial
theorem Zym (m:Z4) (n:Int) (h:Vr m) (h0:0≤n) (h1:n<m.Z2.length):Ok (Z2n m n) (λ_=>True):=by
 have hj:∀ o∈m.Z2,Ok (Kz o m n) (λ_=>True):=λo ho=>by
  unfold Kz
  exact bd (L63x1 o m n (h.heap o ho).ws) λq _=>match q with
   | .inl _=>ok trivial
   | .inr _=>ok trivial
 unfold Z2n
 refine bd (gr h0 h1) λo ho=>?_
 have k2:Ok (if (o.Qw==0)=true then (if (o.Qh !=0)=true then some false else Kz o m n) else Kz o m n) (λ_=>True):=brE (λ_=>brN (λ_=>ok trivial) λ_=>hj o ho) λ_=>hj o ho
 exact brN (λ_=>bd sm λ_ _=>bd (Zjl _ _) λ_ _=>br! (λ_=>ok trivial) λ_=>brD (λ_=>ok trivial) λ_=>k2) λ_=>k2
theorem Y13 (m:Z4) (o:Zl) (h:Vr m) (hv:Vn m.Y1) (ho:Z0h o):Ok (Z4s m o) (λ_=>True):=by
 have hH:=h.heapL; have hw:=h.sp; have:=hv.few; have:=ho.val
 unfold Z4s
 repeat' with_reducible first
  | refine brD (λ_=>?_) λ_=>?_
  | refine br (λ_=>?_) λ_=>?_
  | refine bd gr λ_ _=>?_
  | refine bd (Y17 _ _ (by first|assumption|omega|exact And.left (by assumption)|(dsimp only; omega)) (by first|assumption|omega|exact And.left (by assumption)|(dsimp only; omega)) (by first|assumption|omega|exact And.left (by assumption)|(dsimp only; omega))) λ_ _=>?_
  | refine bd (Znk _ _ _ (by first|assumption|omega|exact And.left (by assumption)|(dsimp only; omega)) (by first|assumption|omega|exact And.left (by assumption)|(dsimp only; omega))) λ_ _=>?_
  | refine bs ?_
  | refine ok ?_
  | exact True.intro
theorem Zyb (t:X5):Ok (Zcw t) (λ_=>True):=by
 unfold Zcw
 repeat' with_reducible first
  | refine bd sm λ_ _=>?_
  | refine brD (λ_=>?_) λ_=>?_
  | refine ok ?_
  | exact True.intro
theorem Zzj (w:Zj) (t:X5):Ok (Zd8 w t) (λ_=>True):=by
 unfold Zd8
 repeat' with_reducible first
  | unfold j82x1
  | refine brD (λ_=>?_) λ_=>?_
  | refine brE (λ_=>?_) λ_=>?_
  | refine ok ?_
  | exact True.intro
theorem Zxh (t:X5):Ok (Zdm t) (λ_=>True):=by
 unfold Zdm
 repeat' with_reducible first
  | unfold Ze2
  | refine brE (λ_=>?_) λ_=>?_
  | refine ok ?_
  | exact True.intro
theorem L64x1 (e:X5×Bool) (m:Z4) (o:Zl) (hH:m.Z2.length≤140737488355328) (ho:o.Yj.length≤140737488355328):Ok (Z7 (Z69 e m o) Z8 0) (λ_=>True):=by
 refine li (o.Yj.length) (λt _ _=>?_) (by omega) (by omega) (by omega)
 unfold Z69
 repeat' first
  | with_reducible refine ni ?_ ?_
  | with_reducible refine di ?_
  | with_reducible refine brD (λ_=>?_) λ_=>?_
  | with_reducible refine br! (λ_=>?_) λ_=>?_
  | with_reducible refine brN (λ_=>?_) λ_=>?_
  | with_reducible refine bd gr λ_ _=>?_
  | with_reducible refine bd wr λ_ _=>?_
  | with_reducible refine bd (Zxh _) λ_ _=>?_
  | with_reducible refine bd (Zeg _ _ (by first|assumption|omega|exact And.left (by assumption)|(dsimp only; omega))) λ_ _=>?_
  | exact True.intro
  | omega
theorem Y1a (m:Z4) (o:Zl) (h:Vr m) (ho:Z0h o):Ok (Z49 m o) (λ_=>True):=by
 have hH:=h.heapL; have:=ho.val
 unfold Z49
 repeat' first
  | unfold Zfz
  | with_reducible refine bd (Zyb _) λ_ _=>?_
  | with_reducible refine bd (Zzj _ _) λ_ _=>?_
  | with_reducible refine bd (L64x1 _ _ _ (by first|assumption|omega|exact And.left (by assumption)|(dsimp only; omega)) (by first|assumption|omega|exact And.left (by assumption)|(dsimp only; omega))) λ_ _=>?_
  | with_reducible refine ok ?_
  | split
  | assumption
theorem Zx1 (w:Zj) (l:Int) (s:List UInt8) (hw:Wn w):Ok (Z0v w l s) (λ_=>True):=by
 unfold Z0v
 repeat' first
  | with_reducible refine bd (Zqw _ _ _ (by first|assumption|omega|exact And.left (by assumption)|(dsimp only; omega))) λ_ _=>?_
  | with_reducible refine ok ?_
  | assumption
theorem Zwr (m:Z4) (o:Zl) (h:Vr m):Ok (Z4n m o) (λ_=>True):=by
 have hw:=h.sp
 unfold Z4n
 repeat' first
  | with_reducible refine br (λ_=>?_) λ_=>?_
  | with_reducible refine bd (Zx1 _ _ _ (by first|assumption|omega|exact And.left (by assumption)|(dsimp only; omega))) λ_ _=>?_
  | with_reducible refine ok ?_
  | assumption
theorem Zub (m:Z4) (n:Int) (h:Vr m) (hv:Vn m.Y1) (h0:0≤n) (h1:n<m.Z2.length):Ok (Km m n) (λ_=>True):=by
 unfold Km
 repeat' with_reducible first
  | refine bd (Y13 _ _ h hv (h.heap _ (by assumption))) λ_ _=>?_
  | refine bd (Y1a _ _ h (h.heap _ (by assumption))) λ_ _=>?_
  | refine br (λ_=>?_) λ_=>?_
  | refine bd gr λ_ _=>?_
  | refine bd (Zym _ _ (by first|assumption|omega|exact And.left (by assumption)|(dsimp only; omega)) (by first|assumption|omega|exact And.left (by assumption)|(dsimp only; omega)) (by first|assumption|omega|exact And.left (by assumption)|(dsimp only; omega))) λ_ _=>?_
  | refine bd (Zwr _ _ (by first|assumption|omega|exact And.left (by assumption)|(dsimp only; omega))) λ_ _=>?_
  | refine ok ?_
  | exact True.intro
theorem Zwc (m:Z4) (n:Int) (h:Vr m) (hv:Vn m.Y1) (h0:0≤n) (h1:n<m.X7.length):Ok (Z0f m n) (λ_=>True):=by
 have hH:=h.heapL; have hw:=h.sp
 unfold Z0f
 repeat' with_reducible first
  | unfold Z0n
  | refine brD (λ_=>?_) λ_=>?_
  | refine br! (λ_=>?_) λ_=>?_
  | refine brE (λ_=>?_) λ_=>?_
  | refine brN (λ_=>?_) λ_=>?_
  | refine bd gr λ_ _=>?_
  | refine bd (Zjl _ _) λ_ _=>?_
  | refine bd (Y1d _ _ (by first|assumption|omega|exact And.left (by assumption)|(dsimp only; omega)) (by first|assumption|omega|exact And.left (by assumption)|(dsimp only; omega))) λ_ _=>?_
  | refine bd (Znk _ _ _ (by first|assumption|exact h.ini _ (by assumption)) (by first|assumption|exact h.ini _ (by assumption))) λ_ _=>?_
  | refine ok ?_
  | exact True.intro
theorem L100x1 (l:List Int) (n:Int) (hl:l.length≤140737488355328):Ok (Z7 (Zbi l n) Z8 0) (λ_=>True):=by
 refine li (l.length) (λt _ _=>?_) (by omega) (by omega) (by omega)
 unfold Zbi
 repeat' first
  | with_reducible refine ni ?_ ?_
  | with_reducible refine di ?_
  | with_reducible refine brD (λ_=>?_) λ_=>?_
  | with_reducible refine brE (λ_=>?_) λ_=>?_
  | with_reducible refine bd gr λ_ _=>?_
  | with_reducible refine bd wr λ_ _=>?_
  | exact True.intro
  | omega
theorem Y04 (l:List Int) (n:Int) (hl:l.length≤140737488355328):Ok (Z9r l n) (λ_=>True):=by
 unfold Z9r
 repeat' first
  | with_reducible refine bd (L100x1 _ _ (by first|assumption|omega|exact And.left (by assumption)|(dsimp only; omega))) λ_ _=>?_
  | with_reducible refine ok ?_
  | split
  | assumption
theorem Zzy (m:Z4) (n:Int) (h:Vr m) (h0:0≤n) (h1:n<m.Zz.length):Ok (Z2w m n) (λ_=>True):=by
 have hH:=h.heapL
 unfold Z2w
 repeat' with_reducible first
  | refine nF (Zkt _ _ (by assumption)) ?_ λ_=>?_
  | unfold Zag
  | unfold Zfy
  | refine brD (λ_=>?_) λ_=>?_
  | refine brE (λ_=>?_) λ_=>?_
  | refine bd gr λ_ _=>?_
  | refine bd wr λ_ _=>?_
  | refine bd (Y04 _ _ (by exact(h.heap _ (by assumption)).ws)) λ_ _=>?_
  | refine ok ?_
  | exact True.intro
theorem L83x1 (m:Z4) (x:List Zg) (b:Bool) (hH:m.Z2.length≤140737488355328) (hx:x.length≤140737488355328):Ok (Z7 (Z7l m x b) Z8 0) (λ_=>True):=by
 refine li (x.length) (λt _ _=>?_) (by omega) (by omega) (by omega)
 unfold Z7l
 repeat' first
  | with_reducible refine ni ?_ ?_
  | with_reducible refine di ?_
  | with_reducible refine brD (λ_=>?_) λ_=>?_
  | with_reducible refine br! (λ_=>?_) λ_=>?_
  | with_reducible refine brE (λ_=>?_) λ_=>?_
  | with_reducible refine bd gr λ_ _=>?_
  | with_reducible refine bd wr λ_ _=>?_
  | with_reducible refine bd (Zeg _ _ (by first|assumption|omega|exact And.left (by assumption)|(dsimp only; omega))) λ_ _=>?_
  | exact True.intro
  | omega
theorem Zx7 (m:Z4) (x:List Zg) (b:Bool) (hH:m.Z2.length≤140737488355328) (hx:x.length≤140737488355328):Ok (Z1f m x b) (λ_=>True):=by
 unfold Z1f
 repeat' first
  | with_reducible refine bd (L83x1 _ _ _ (by first|assumption|omega|exact And.left (by assumption)|(dsimp only; omega)) (by first|assumption|omega|exact And.left (by assumption)|(dsimp only; omega))) λ_ _=>?_
  | with_reducible refine ok ?_
  | split
  | assumption
theorem Zwm (m:Z4) (a:Q9) (hH:m.Z2.length≤140737488355328) (ha:WAct a):Ok (K6 m a) (λ_=>True):=by
 have:=ha.loc; have:=ha.stk
 unfold K6
 repeat' with_reducible first
  | unfold Zbu
  | unfold Zcr
  | unfold Zer
  | refine brD (λ_=>?_) λ_=>?_
  | refine br (λ_=>?_) λ_=>?_
  | refine bd gr λ_ _=>?_
  | refine bd (Zb9 _ _ (by first|assumption|omega|exact And.left (by assumption)|(dsimp only; omega))) λ_ _=>?_
  | refine bd (Zx7 _ _ _ (by first|assumption|omega|exact And.left (by assumption)|(dsimp only; omega)) (by first|assumption|omega|exact And.left (by assumption)|(dsimp only; omega))) λ_ _=>?_
  | refine ok ?_
  | exact True.intro
theorem allL {n:Nat} (hn:n≤140737488355328) (g:Int→Option Bool) {f:Int→Option (Ctl Int (Unit⊕Bool))} (hg:∀ t:Int,0≤t→t<n→Ok (g t) λ_=>True)
  (hf:∀ t,f t=if decide (t<(n:Int))=true then ((g t).bind λv=>if (!v)=true then some (.done (.inr false)) else ((some (IntKind.wrap .i64 (t+1))).bind λk=>some (.next k))) else some (.done (.inl ()))):
  Ok (Z7 f Z8 0) (λq=>(q=.inl ()∧∀ t:Int,0≤t→t<n→g t=some true)∨(q=.inr false∧∃ t:Int,0≤t∧t<n∧g t=some false)):=by
 refine lp (λt=>t) n (λt=>∀ j:Int,0≤j→j<t→g j=some true) (λt hI h0 h1=>?_) (by omega) (λj h h'=>by omega) (by omega) (by omega)
 rw[hf]
 refine brD (λhlt=>?_) λhge=>dn (.inl ⟨rfl,λj h h'=>hI j h (by omega)⟩)
 obtain⟨b,hb,_⟩:=hg t h0 hlt
 rw[hb]
 cases b with
 | false=>exact⟨_,rfl,.inr ⟨rfl,t,h0,hlt,hb⟩⟩
 | true=>
  refine bs (br! (λh=>by cases h) λ_=>bd wr λk hk=>nx (λj hj hj'=>?_) (by omega) (by omega))
  rcases Int.lt_or_le j t with h|h
  ·exact hI j hj h
  ·rw[show j=t by omega]; exact hb
theorem acts_ok (m:Z4) (t:Yu) (hH:m.Z2.length≤140737488355328) (ha:∀ a∈t.Yx,WAct a) (hl:t.Yx.length≤140737488355328):
  Ok (K7 t m) (λb=>b=true→∀ a∈t.Yx,K6 m a=some true):=by
 unfold K7
 refine bd (allL hl (λi=>(Z5 t.Yx i).bind (K6 m)) (λi h0 h1=>bd (gr h0 h1) λa hm=>Zwm m a hH (ha a hm)) λi=>?_) λq hq=>?_
 ·unfold Z8m
  split
  ·rw[Option.bind_assoc]
  ·rfl
 ·rcases hq with ⟨rfl,h⟩|⟨rfl,_⟩
  ·refine ok λ_ a hm=>?_
   obtain⟨i,hi⟩:=List.getElem?_of_mem hm
   have hlt:i<t.Yx.length:=(List.getElem?_eq_some_iff.1 hi).1
   have:=h i (by omega) (by omega)
   obtain⟨a',e,_,hx⟩:=gri (l:=t.Yx) (i:=(i:Int)) (by omega) (by omega)
   rw[e] at this
   simp only[Int.toNat_natCast] at hx
   rw[hi] at hx
   cases hx
   exact this
  ·exact ok λh=>by cases h
theorem Y0f (m:Z4) (n:Int) (h:Vr m) (h0:0≤n) (h1:n<m.Zz.length):Ok (Z0c m n) (λb=>b=true→∀ t,Z5 m.Zz n=some t→t.Yx.length≤64∧∀ a∈t.Yx,K6 m a=some true):=by
 have hH:=h.heapL
 unfold Z0c
 refine bdE (gr h0 h1) λt e hm=>bd (Zzy m n h h0 h1) λ_ _=>br! (λ_=>ok λh=>by cases h) λ_=>bd (Zb9 _ _ hH) λ_ _=>br! (λ_=>ok λh=>by cases h) λ_=>bd (Zb9 _ _ hH) λ_ _=>br! (λ_=>ok λh=>by cases h) λ_=>bd (Zeg _ _ hH) λ_ _=>br! (λ_=>ok λh=>by cases h) λ_=>brD (λ_=>ok λh=>by cases h) λhle=>?_
 have hj:Ok (K7 t m) (λb=>b=true→∀ t',Z5 m.Zz n=some t'→t'.Yx.length≤64∧∀ a∈t'.Yx,K6 m a=some true):=
  (acts_ok m t hH (h.thr t hm).1 (h.thr t hm).2).mono λb hb hbt t' ht'=>by
   rw[e] at ht'; cases ht'
   exact⟨by omega,hb hbt⟩
 have hf:Ok (some false) (λb=>b=true→∀ t',Z5 m.Zz n=some t'→t'.Yx.length≤64∧∀ a∈t'.Yx,K6 m a=some true):=ok λh=>by cases h
 unfold Zfi
 exact brE (λ_=>brD (λ_=>hf) λ_=>brN (λ_=>brN (λ_=>hf) λ_=>br! (λ_=>hf) λ_=>hj) λ_=>hj) λ_=>brN (λ_=>brN (λ_=>hf) λ_=>br! (λ_=>hf) λ_=>hj) λ_=>hj
structure Mx (m:Z4):Prop where
 sp:Z5k m.Y1=some true
 vok:Vn m.Y1
 max0:0≤m.V6
 max1:m.V6≤5000
 heap:m.Z2.length≤5000
 init:m.X7.length≤m.Y1.Zy.length
 thr:m.Zz.length≤8
 txt:Z27 m=some true
 obj:∀ t,0≤t→t<(m.Z2.length:Int)→Km m t=some true
 beg:∀ t,0≤t→t<(m.X7.length:Int)→Z0f m t=some true
 run:∀ t,0≤t→t<(m.Zz.length:Int)→Z0c m t=some true
theorem Z8x (m:Z4) (h:Vr m):Ok (Mz m) (λb=>b=true→Mx m):=by
 have hf:Ok (some false) (λb=>b=true→Mx m):=ok λh=>by cases h
 unfold Mz
 refine bdE (Zxr m.Y1 h.sp) λb e hb=>?_
 cases b with
 | false=>exact hf
 | true=>
 have hv:=hb rfl
 refine br! (λ_=>hf) λ_=>brD (λ_=>hf) λk1=>brD (λ_=>hf) λk2=>brD (λ_=>hf) λk3=>brD (λ_=>hf) λk4=>brD (λ_=>hf) λk5=>bdE (Zxo m h.heapL h.intL) λb2 e2 _=>?_
 cases b2 with
 | false=>exact hf
 | true=>
 refine br! (λ_=>hf) λ_=>?_
 unfold j8x1
 refine bd (allL h.heapL (Km m) (λt a b=>(Zub m t h hv a b).mono λ_ _=>trivial) λt=>by unfold l8x1; rfl) λq1 hq1=>?_
 rcases hq1 with ⟨rfl,o1⟩|⟨rfl,_⟩
 rotate_left
 ·exact hf
 refine bd (allL h.iniL (Z0f m) (λt a b=>(Zwc m t h hv a b).mono λ_ _=>trivial) λt=>by unfold l8x2; rfl) λq2 hq2=>?_
 rcases hq2 with ⟨rfl,o2⟩|⟨rfl,_⟩
 rotate_left
 ·exact hf
 refine bd (allL h.thrL (Z0c m) (λt a b=>(Y0f m t h a b).mono λ_ _=>trivial) λt=>by unfold l8x3; rfl) λq3 hq3=>?_
 rcases hq3 with ⟨rfl,o3⟩|⟨rfl,_⟩
 rotate_left
 ·exact hf
 exact ok λ_=>⟨e,hv,by omega,by omega,by omega,by omega,by omega,e2,o1,o2,o3⟩
end Go.Proofs
namespace Go.Den
open Go.RowKit
variable {P:Program} {Γ:Ctx} {σ σ':S} {a:Act} {w:World} {G:Nat→Nat} {β:Nat→Option (Nat×Nat)}
def Zg2 (σ:S) (b0 o:Nat) (full:Bool):S:=
 match σ.heap b0 with
 | some k=>match k.rows with
  | [r] =>match r[o]? with
   | some (.lsl b lo n)=>{ σ with heap:=λu=>if u=b0 then some { k with rows:=[r.set o (.lsk full b lo n)] } else σ.heap u }
   | _=>σ
  | _=>σ
 | none=>σ
theorem Z9.know {v:Value} {b lo n:Nat} (h:Z9 w G β v (.lsl b lo n)):∃ full,Z9 w G β v (.lsk full b lo n):=by
 cases h with
 | lslnil _ x=>exact⟨true,.lskn b x⟩
 | lsl _ _ _ cap c sz off hβ hcap hoff hroom=>
  by_cases hc:cap=n
  ·exact⟨true,.lsk true b lo n cap c sz off hβ hcap (λ_=>hc) (λh=>by cases h) hoff hroom⟩
  ·exact⟨false,.lsk false b lo n cap c sz off hβ hcap (λh=>by cases h) (λ_=>by omega) hoff hroom⟩
theorem Za.know (h:Za Γ σ a w G β) {b0 o:Nat} (hp:∀ k,σ.heap b0=some k→k.pure=false):∃ full,Za Γ (Zg2 σ b0 o full) a w G β:=by
 unfold Zg2
 cases hk:σ.heap b0 with
 | none=>exact⟨true,h⟩
 | some k=>
  dsimp only
  match hr:k.rows with
  | [] =>exact⟨true,h⟩
  | _::_::_=>exact⟨true,h⟩
  | [r] =>
   dsimp only
   match hd:r[o]? with
   | some (.lsl b lo n)=>
    dsimp only
    rcases h.heap b0 k hk with ⟨g0,g1,g2⟩|⟨c,g0,hB⟩
    ·rw[hr] at g1; cases g1
    ·obtain⟨own,pin,ty',frz,top,dat,hsz',vs,e,fr,e1,e2,e3,e4⟩:=hB
     rw[hr] at e3 hsz' e4 top dat
     obtain⟨v,a1,a2,a3⟩:=e4 0 o r _ rfl hd
     obtain⟨full,a4⟩:=a3.know
     refine⟨full,{ h with heap:=λu blk hu=>?_,dom:=λu x hu=>?_ }⟩
     ·dsimp only at hu
      split at hu
      ·rename_i hub; subst hub
       cases hu
       refine .inr ⟨c,g0,own,pin,ty',frz,by simpa using top,(λhp'=>?_),(λi r' hr'=>?_),vs,e,fr,e1,e2,by simpa using e3,(λi j r' d' hr' hd'=>?_)⟩
       ·have:=hp k hk
        rw[this] at hp'; cases hp'
       ·cases i with
        | zero=>simp at hr'; subst hr'; simpa using hsz' 0 r rfl
        | succ i=>simp at hr'
       ·cases i with
        | zero=>
         simp at hr'; subst hr'
         rw[List.getElem?_set] at hd'
         split at hd'
         ·rename_i hij; subst hij
          split at hd'
          ·cases hd'
           exact⟨v,a1,a2,a4⟩
          ·cases hd'
         ·exact e4 0 j r d' rfl hd'
        | succ i=>simp at hr'
      ·exact h.heap u blk hu
     ·dsimp only
      split
      ·exact⟨_,rfl⟩
      ·exact h.dom u x hu
   | none=>exact⟨true,h⟩
   | some .undef=>exact⟨true,h⟩
   | some (.bool _)=>exact⟨true,h⟩
   | some (.int _ _)=>exact⟨true,h⟩
   | some (.str _)=>exact⟨true,h⟩
   | some (.sl _ _)=>exact⟨true,h⟩
   | some (.agg _)=>exact⟨true,h⟩
   | some (.ptr _)=>exact⟨true,h⟩
   | some .nilptr=>exact⟨true,h⟩
   | some (.lptr _ _ _)=>exact⟨true,h⟩
   | some (.tup _)=>exact⟨true,h⟩
   | some (.fn _)=>exact⟨true,h⟩
   | some (.clo _ _)=>exact⟨true,h⟩
   | some (.lsk _ _ _ _)=>exact⟨true,h⟩
   | some (.raw _)=>exact⟨true,h⟩
def Zbl (P:Program) (fn:Func) (m:Nat) (keep:List Bool) (R:D→List Blk→Prop):Exit→S→Prop:=λe σ=>∃ r bs',R r bs'∧Z0w P fn m keep r bs' e σ
theorem Lk.mk {f:FuncId} {fn:Func} {c:Code} {ds:List D} {bs:List Blk} {R:D→List Blk→Prop} (m:Nat) (keep:List Bool) (hf:P.funcs[f]?=some fn) (hb:fn.body=some c) (hent:Ji P f=true) (hn:ds.length≤fn.ntmps)
  (h:∀ Γ:Ctx,DWP P Γ c (Zbl P fn m keep R) (mkS fn.ntmps (Ve 0 ds) (W2 0 bs))):Lk P f ds bs R:=by
 refine⟨hent,λΓ vs w G β hC0=>?_⟩
 have hsz:vs.size=ds.length:=hC0.size
 have hC : Za Γ (mkS fn.ntmps (Ve 0 ds) (W2 0 bs)) { tmps:=vs++Array.replicate (fn.ntmps - vs.size) Go.undef,defers:=[] } w G β:=by
  refine { hC0 with size:=?_,tmps:=λt=>?_,defers:=rfl }
  ·simp only[Array.size_append,Array.size_replicate,mkS]; omega
  ·show Z9 w G _ _ (ofL (Ve 0 ds) t)
   rcases Nat.lt_or_ge t vs.size with ht'|ht
   ·have:=hC0.tmps t
    have e2:(vs++Array.replicate (fn.ntmps - vs.size) Go.undef).getD t Go.undef=vs.getD t Go.undef:=by
     rw[Array.getD_eq_getD_getElem?,Array.getElem?_append_left ht',Array.getD_eq_getD_getElem?]
    rw[e2]; exact this
   ·rw[Z3t,if_pos (Nat.zero_le _),Nat.sub_zero]
    have e1:ds.getD t .undef=.undef:=by simp[List.getD,List.getElem?_eq_none (show ds.length≤t by omega)]
    rw[e1]; exact .undef _
 refine calls_of_wp hf hb (wp_mono (h Γ _ w G _ hC) λe a' w' ⟨σ',G',β',hC',r,bs',hR,he,hm,bs1,p,hr,hp,hbe⟩=>?_)
 subst hbe
 obtain⟨v,G2,β2,e1,e2⟩:=Zph hC' hm hr hp
 rcases he with rfl|rfl
 ·exact⟨hC'.defers,v,e1,v,G2,β2,r,bs1,hR,rfl,e2⟩
 ·exact⟨hC'.defers,v,e1,v,G2,β2,r,bs1,hR,rfl,e2⟩
theorem Y07 (ds:List D):Jt [] 0 ds=ds:=by
 have:∀ (l:List D) (j:Nat),Jt [] j l=l:=λl=>by
  induction l with
  | nil=>intro j; rfl
  | cons d r ih=>intro j; unfold Jt; rw[ih]; rfl
 exact this ds 0
namespace W
theorem kn {Q:Exit→S→Prop} {ev:Ev} (b0 o:Nat) (h:∀ full,E P Γ Q (Zg2 σ b0 o full) ev) (hk:((σ.heap b0).map Blk.pure,isJ ev)=(some false,true):=by kernel_rfl):E P Γ Q σ ev:=by
 have h1:=congrArg Prod.fst hk
 have h2:=congrArg Prod.snd hk
 dsimp only at h1 h2
 have hp:∀ k,σ.heap b0=some k→k.pure=false:=λk hk=>by rw[hk] at h1; simpa using h1
 have key:∀ {c:Code} {K:List Q0},(∀ full,At P Γ c K Q (Zg2 σ b0 o full))→At P Γ c K Q σ:=λhA a w G β hC=>by
  obtain⟨full,hC'⟩:=hC.know (o:=o) hp
  exact hA full a w G β hC'
 cases ev with
 | cond b x y K=>exact⟨⟨λe=>key λfull=>(h full).h.1 e,λe=>key λfull=>(h full).h.2 e⟩⟩
 | loop c K=>exact⟨key (c:= .loop c) λfull=>(h full).h⟩
 | stop c K=>exact⟨key λfull=>(h full).h⟩
 | _=>cases h2
theorem csR {f:FuncId} (fn:Func) {m:Nat} {keep:List Bool} {ds:List D} {bs:List Blk} {R:D→List Blk→Prop} (h:∀ {Γ:Ctx},A P Γ (U3 fn) [] (Zbl P fn m keep R) (mkS fn.ntmps (Ve 0 ds) (W2 0 bs)))
  (hk:(P.funcs[f]?,fn.body,Ji P f,Nat.ble ds.length fn.ntmps)=(some fn,some (U3 fn),true,true):=by kernel_rfl):Lk P f ds bs R:=by
 have h1:=congrArg Prod.fst hk
 have h2:=congrArg (λx=>x.2.1) hk
 have h3:=congrArg (λx=>x.2.2.1) hk
 have h4:=congrArg (λx=>x.2.2.2) hk
 exact Lk.mk m keep h1 h2 h3 (Nat.le_of_ble_eq_true h4) λ_=>h.h
theorem rtR {fn:Func} {m:Nat} {keep:List Bool} {ev:Ev} {R:D→List Blk→Prop} (d:D) (bs bs':List Blk) {p:Prop} (hp:p) (hR:R d bs)
  (hk:(fin ev,Ut (List.range m),Z4a P fn m keep σ,bs')=(true,true,some (d,bs',tN fn.results.size∧p),bs):=by kernel_rfl):E P Γ (Zbl P fn m keep R) σ ev:=by
 have h1:=congrArg Prod.fst hk
 have h2:=congrArg (λx=>x.2.1) hk
 have h3:=congrArg (λx=>x.2.2.1) hk
 have h4:=congrArg (λx=>x.2.2.2) hk
 dsimp only at h1 h2 h3 h4
 subst h4
 cases ev <;> first|cases h1|skip
 ·exact⟨⟨d,_,hR,.inl rfl,h2,_,_,h3,⟨tNi _,hp⟩,rfl⟩⟩
 ·exact⟨⟨d,_,hR,.inr rfl,h2,_,_,h3,⟨tNi _,hp⟩,rfl⟩⟩
def Zgy (ops:Array Oper) (i:Nat):Option (Operand×Array Operand):=
 match ops[i]? with
 | some o=>match o.guard,o.op with
  | none,.call { callee:= .value fo,args,.. }=>some (fo,args)
  | _,_=>none
 | none=>none
def Zf2 (ops:Array Oper) (i:Nat):Option Nat:=(ops[i]?).bind (·.dst)
def clS (σ:S) (names:List Nat) (l0:List Nat) (dst:Option Nat) (bs':List Blk) (r:D):S:=
 (((σ.freezeL l0).dropL (Kn 0 names bs')).setL names (Ui (σ.freezeL l0) names 0 names bs')).put dst (outD names r)
theorem pcR {ops:Array Oper} {i:Nat} {l:List Nat} {K:List Q0} {Q:Exit→S→Prop} {fo:Operand} {args:Array Operand} {f:FuncId} {es ds:List D} {bs:List Blk} {R:D→List Blk→Prop} {p:Prop} {l0:List Nat} (names:List Nat)
  (hR:Lk P f ds bs R) (hp:p) (hsz:∀ r bs',R r bs'→Ls bs bs'=true) (hn:∀ r bs',R r bs'→AO P Γ ops l K Q (clS σ names l0 (Zf2 ops i) bs' r))
  (hk:(Zgy ops i,funA (σ.ev fo),U0 false σ names (args.toList.map σ.ev++es),Jk (σ.freezeL l0) names (λ_ j=>Z0r bs j) 0 names,(ops[i]?).map (Xe σ),Ut names,bs.all λb=>Nat.beq b.frz 0)=
   (some (fo,args),some (f,es),some (ds,l0,p),some bs,some true,true,true):=by kernel_rfl):AO P Γ ops (i::l) K Q σ:=by
 have h1:=congrArg Prod.fst hk
 have h2:=congrArg (λx=>x.2.1) hk
 have h3:=congrArg (λx=>x.2.2.1) hk
 have h4:=congrArg (λx=>x.2.2.2.1) hk
 have h5:=congrArg (λx=>x.2.2.2.2.1) hk
 have h6:=congrArg (λx=>x.2.2.2.2.2.1) hk
 have h7:=congrArg (λx=>x.2.2.2.2.2.2) hk
 dsimp only at h1 h2 h3 h4 h5 h6 h7
 refine⟨λa w G β hC=>?_⟩
 unfold Zgy at h1
 split at h1
 ·rename_i o hi
  split at h1
  ·rename_i fo' args' ts hg hop
   cases h1
   rw[hi] at h5
   have hdst:Xe σ o=true:=by simpa using h5
   have hda:Zf2 ops i=o.dst:=by unfold Zf2; rw[hi]; rfl
   obtain⟨vs,hrun0,hlv,hrep⟩:=Zms (P:=P) hC hop h2
   rw[wpOps_cons]
   unfold wpOp
   rw[hi]
   have hw:Region.wanted o (yielded ops a.tmps)=true:=by unfold Region.wanted; rw[hg]
   dsimp only
   rw[hw]
   refine .inl (Zst (fresh:=[]) (nils:=[]) hC hrun0 hlv hrep rfl (by rw[Y07]; exact h3) hp h4 hdst h6 hsz (λk b hb=>?_) hR _ _ λr bs' a' w' G' β' hr hC'=>?_)
   ·exact Nat.eq_of_beq_eq_true (List.all_eq_true.1 h7 b (List.mem_of_getElem? hb))
   ·exact(hn r bs' hr).h a' w' G' β' (by rw[hda]; exact hC')
  ·cases h1
 ·cases h1
end W
end Go.Den
namespace Go.Proofs
open Go.Den Go.Den.W Go.RowKit
abbrev QG:=Int→List Int×Nat×Nat
def VQ (s:LS) (u:QG):Prop:=∀ k,1≤k→k≤4→(u k).2.1+(u k).2.2=(u k).1.length∧(u k).1.drop (u k).2.1=s.q k
def Zad (u:QG) (b:Nat) (k:Int):D:= .lsl b (u k).2.1 (u k).2.2
def rowQ (u:QG) (b1 b2 b3 b4:Nat):List D:=[.sl true [],Zad u b1 1,Zad u b2 2,Zad u b3 3,Zad u b4 4]
def Ly (l:List Int):Blk:={ sz:=1,rows:=l.map Z1,frz:=0,pure:=true }
def bks (N:Nat) (s:LS) (u:QG):List Blk:=
 [{ sz:=1,rows:=[[.lsl 1 0 N]],frz:=0,pure:=false,pin:=some 0 },Ly s.lev,{ sz:=5,rows:=[rowQ u 3 4 5 6],frz:=0,pure:=false,pin:=some 2 },
  Ly (u 1).1,Ly (u 2).1,Ly (u 3).1,Ly (u 4).1]
def Uz (u:QG) (k:Int) (v:List Int×Nat×Nat):QG:=λj=>if j=k then v else u j
theorem VQ.n {s:LS} {u:QG} (h:VQ s u) {k:Int} (h1:1≤k) (h4:k≤4):(u k).2.2=(s.q k).length:=by
 obtain⟨a,b⟩:=h k h1 h4
 rw[← b,List.length_drop]; omega
theorem VQ.upd {s:LS} {u:QG} (h:VQ s u) {k:Int} {l:List Int} {v:List Int×Nat×Nat} {q:List Int} (hv:v.2.1+v.2.2=v.1.length) (hq:v.1.drop v.2.1=q):VQ ⟨l,V2 s.q k q⟩ (Uz u k v):=λj h1 h4=>by
 by_cases e:j=k
 ·subst e
  simp only[Uz,if_pos]
  refine⟨hv,?_⟩
  rw[hq]; exact Z4d.symm
 ·simp only[Uz,if_neg e]
  obtain⟨a,b⟩:=h j h1 h4
  exact⟨a,b.trans (Z25 e).symm⟩
def iaL (b lo N:Nat) {i:Int} {j:Nat} (h:0≤i∧i<(N:Int)∧((lo:Nat):Int)+i=j):GT:=GT.of { ans:= .val (.lptr b j 0) } (p:=0≤i∧i<(N:Int)∧((lo:Nat):Int)+i=j) h
def apR {a:List Int} {lo n:Nat} (x:Int) (h:lo+n=a.length):GT:=
 GT.of { rows:=some ((a++[x]).map Z1) } (p:=True∧lo+n=(a.map Z1).length∧(∀ r∈[[D.int .i64 x]],r.length=1)∧a.map Z1++[[D.int .i64 x]]=(a++[x]).map Z1)
  ⟨trivial,by simpa using h,by simp,by simp[Z1]⟩
def apF {a:List Int} {lo n m:Nat} {u:Unit} (x:Int) (h:lo+n=a.length) (hg:Ye 8 (m+1)=some u) (hm:n=m):GT:=
 GT.of { rows:=some ((a.drop lo++[x]).map Z1) } (p:=True∧lo+n=(a.map Z1).length∧(∀ r∈[[D.int .i64 x]],r.length=1)∧(a.map Z1).drop lo++[[D.int .i64 x]]=(a.drop lo++[x]).map Z1∧n+1≤9223372036854775807∧(n+1)*8≤140737488355328)
  ⟨trivial,by simpa using h,by simp,by simp[Z1,List.map_drop],hm ▸ (Zeb hg rfl).1,hm ▸ (Zeb hg rfl).2⟩
end Go.Proofs
namespace Go.Proofs
open Tryz
open Go.Den Go.Den.W Go.RowKit
def Z5n:List Bool:=[true,false,true,false,false,false,false]
def R46 (N:Nat) (s':LS) (r:D) (bs':List Blk):Prop:=∃ u',VQ s' u'∧r=.tup []∧bs'=bks N s' u'
theorem rtS {P:Program} {Γ:Ctx} {σ:S} {fn:Func} {m:Nat} {keep:List Bool} {ev:Ev} {R:D→List Blk→Prop} (d:D) (bs:List Blk) {p:Prop} (hp:p) (hR:R d bs)
  (hk:(W.fin ev,Ut (List.range m),Z4a P fn m keep σ)=(true,true,some (d,bs,tN fn.results.size∧p)):=by kernel_rfl):E P Γ (Zbl P fn m keep R) σ ev:=
 rtR d bs bs hp hR (by
  have h1:=congrArg Prod.fst hk
  have h2:=congrArg (λx=>x.2.1) hk
  have h3:=congrArg (λx=>x.2.2) hk
  dsimp only at h1 h2 h3
  rw[h1,h2,h3])
theorem w46_1 {n:Int} {N:Nat} {s s':LS} {u:QG} (h:J3 n 1 s=some s') (hV:VQ s u) (hN:s.lev.length=N):Lk prog 46 [dI n,dI 1,.lptr 0 0 0,.lptr 2 0 0] (bks N s u) (R46 N s'):=by
 unfold J3 at h
 refine csR f46 (m:=7) (keep:=Z5n) ?_
 refine sp h (λh0 h=>bd h λi ei h=>bd h λj ej h=>bd h λx ex h=>?_) λh0 h=>?_
 ·have hi:0≤i∧i<(N:Int)∧((0:Nat):Int)+i=j:=hN ▸ Lb ej rfl
  refine go [] [rg 0 (gC h0 3 2 [(5,gw h0 (W.n ei)),(6,gw h0 (iaL 1 0 N hi)),(7,gw h0 (lb ex)),(8,gw h0 g0),(9,gw h0 g0),(10,py h0)])] ?_
  refine br h (λh1 h=>?_) λh1 h=>?_
  ·rw[if_pos (by decide)] at h
   refine bd h λ_ eg h=>?_
   cases h
   refine go [2] [rg 1 [(2,W.n ei),(4,iaL 1 0 N hi),(5,st ex 0 [dI 1] 1)]] ?_
   refine kn 2 1 λfull=>?_
   have hl:=(hV 1 (by decide) (by decide)).1
   have hq:=(hV 1 (by decide) (by decide)).2
   cases full with
   | false=>
    refine so<|go [] [rg 2 [(2,ax 1 5),(5,br0 1 0),(6,apR n hl),(7,ax 1 5)]] ?_
    exact rtS (.tup []) (bks N ⟨s.lev.set j 1,V2 s.q 1 (s.q 1++[n])⟩ (Uz u 1 ((u 1).1++[n],(u 1).2.1,(u 1).2.2+1))) trivial ⟨_,hV.upd (by simp; omega) (by
     show List.drop (u 1).2.1 ((u 1).1++[n])=s.q 1++[n]
     rw[List.drop_append_of_le_length (by omega),hq]),rfl,rfl⟩
   | true=>
    refine so<|go [] [rg 2 [(2,ax 1 5),(5,br0 1 0),(6,apF n hl eg (hV.n (by decide) (by decide))),(7,ax 1 5)]] ?_
    exact rtS (.tup []) (bks N ⟨s.lev.set j 1,V2 s.q 1 (s.q 1++[n])⟩ (Uz u 1 ((u 1).1.drop (u 1).2.1++[n],0,(u 1).2.2+1))) trivial ⟨_,hV.upd (by simp; omega) (by
     show List.drop 0 _=_
     rw[List.drop_zero,hq]),rfl,rfl⟩
  ·cases h
   exact go [] []<|rtS (.tup []) (bks N s u) trivial ⟨u,hV,rfl,rfl⟩
 ·cases h
  exact go [] [rg 0 (gB h0 3 7 [(10,pn h0)])]<|bF rfl<|go [] []<|rtS (.tup []) (bks N s u) trivial ⟨u,hV,rfl,rfl⟩
theorem w46_2 {n:Int} {N:Nat} {s s':LS} {u:QG} (h:J3 n 2 s=some s') (hV:VQ s u) (hN:s.lev.length=N):Lk prog 46 [dI n,dI 2,.lptr 0 0 0,.lptr 2 0 0] (bks N s u) (R46 N s'):=by
 unfold J3 at h
 refine csR f46 (m:=7) (keep:=Z5n) ?_
 refine sp h (λh0 h=>bd h λi ei h=>bd h λj ej h=>bd h λx ex h=>?_) λh0 h=>?_
 ·have hi:0≤i∧i<(N:Int)∧((0:Nat):Int)+i=j:=hN ▸ Lb ej rfl
  refine go [] [rg 0 (gC h0 3 2 [(5,gw h0 (W.n ei)),(6,gw h0 (iaL 1 0 N hi)),(7,gw h0 (lb ex)),(8,gw h0 g0),(9,gw h0 g0),(10,py h0)])] ?_
  refine br h (λh1 h=>?_) λh1 h=>?_
  ·rw[if_pos (by decide)] at h
   refine bd h λ_ eg h=>?_
   cases h
   refine go [2] [rg 1 [(2,W.n ei),(4,iaL 1 0 N hi),(5,st ex 0 [dI 2] 2)]] ?_
   refine kn 2 2 λfull=>?_
   have hl:=(hV 2 (by decide) (by decide)).1
   have hq:=(hV 2 (by decide) (by decide)).2
   cases full with
   | false=>
    refine so<|go [] [rg 2 [(2,ax 2 5),(5,br0 1 0),(6,apR n hl),(7,ax 2 5)]] ?_
    exact rtS (.tup []) (bks N ⟨s.lev.set j 2,V2 s.q 2 (s.q 2++[n])⟩ (Uz u 2 ((u 2).1++[n],(u 2).2.1,(u 2).2.2+1))) trivial ⟨_,hV.upd (by simp; omega) (by
     show List.drop (u 2).2.1 ((u 2).1++[n])=s.q 2++[n]
     rw[List.drop_append_of_le_length (by omega),hq]),rfl,rfl⟩
   | true=>
    refine so<|go [] [rg 2 [(2,ax 2 5),(5,br0 1 0),(6,apF n hl eg (hV.n (by decide) (by decide))),(7,ax 2 5)]] ?_
    exact rtS (.tup []) (bks N ⟨s.lev.set j 2,V2 s.q 2 (s.q 2++[n])⟩ (Uz u 2 ((u 2).1.drop (u 2).2.1++[n],0,(u 2).2.2+1))) trivial ⟨_,hV.upd (by simp; omega) (by
     show List.drop 0 _=_
     rw[List.drop_zero,hq]),rfl,rfl⟩
  ·cases h
   exact go [] []<|rtS (.tup []) (bks N s u) trivial ⟨u,hV,rfl,rfl⟩
 ·cases h
  exact go [] [rg 0 (gB h0 3 7 [(10,pn h0)])]<|bF rfl<|go [] []<|rtS (.tup []) (bks N s u) trivial ⟨u,hV,rfl,rfl⟩
theorem w46_3 {n:Int} {N:Nat} {s s':LS} {u:QG} (h:J3 n 3 s=some s') (hV:VQ s u) (hN:s.lev.length=N):Lk prog 46 [dI n,dI 3,.lptr 0 0 0,.lptr 2 0 0] (bks N s u) (R46 N s'):=by
 unfold J3 at h
 refine csR f46 (m:=7) (keep:=Z5n) ?_
 refine sp h (λh0 h=>bd h λi ei h=>bd h λj ej h=>bd h λx ex h=>?_) λh0 h=>?_
 ·have hi:0≤i∧i<(N:Int)∧((0:Nat):Int)+i=j:=hN ▸ Lb ej rfl
  refine go [] [rg 0 (gC h0 3 2 [(5,gw h0 (W.n ei)),(6,gw h0 (iaL 1 0 N hi)),(7,gw h0 (lb ex)),(8,gw h0 g0),(9,gw h0 g0),(10,py h0)])] ?_
  refine br h (λh1 h=>?_) λh1 h=>?_
  ·rw[if_pos (by decide)] at h
   refine bd h λ_ eg h=>?_
   cases h
   refine go [2] [rg 1 [(2,W.n ei),(4,iaL 1 0 N hi),(5,st ex 0 [dI 3] 3)]] ?_
   refine kn 2 3 λfull=>?_
   have hl:=(hV 3 (by decide) (by decide)).1
   have hq:=(hV 3 (by decide) (by decide)).2
   cases full with
   | false=>
    refine so<|go [] [rg 2 [(2,ax 3 5),(5,br0 1 0),(6,apR n hl),(7,ax 3 5)]] ?_
    exact rtS (.tup []) (bks N ⟨s.lev.set j 3,V2 s.q 3 (s.q 3++[n])⟩ (Uz u 3 ((u 3).1++[n],(u 3).2.1,(u 3).2.2+1))) trivial ⟨_,hV.upd (by simp; omega) (by
     show List.drop (u 3).2.1 ((u 3).1++[n])=s.q 3++[n]
     rw[List.drop_append_of_le_length (by omega),hq]),rfl,rfl⟩
   | true=>
    refine so<|go [] [rg 2 [(2,ax 3 5),(5,br0 1 0),(6,apF n hl eg (hV.n (by decide) (by decide))),(7,ax 3 5)]] ?_
    exact rtS (.tup []) (bks N ⟨s.lev.set j 3,V2 s.q 3 (s.q 3++[n])⟩ (Uz u 3 ((u 3).1.drop (u 3).2.1++[n],0,(u 3).2.2+1))) trivial ⟨_,hV.upd (by simp; omega) (by
     show List.drop 0 _=_
     rw[List.drop_zero,hq]),rfl,rfl⟩
  ·cases h
   exact go [] []<|rtS (.tup []) (bks N s u) trivial ⟨u,hV,rfl,rfl⟩
 ·cases h
  exact go [] [rg 0 (gB h0 3 7 [(10,pn h0)])]<|bF rfl<|go [] []<|rtS (.tup []) (bks N s u) trivial ⟨u,hV,rfl,rfl⟩
theorem w46_4 {n:Int} {N:Nat} {s s':LS} {u:QG} (h:J3 n 4 s=some s') (hV:VQ s u) (hN:s.lev.length=N):Lk prog 46 [dI n,dI 4,.lptr 0 0 0,.lptr 2 0 0] (bks N s u) (R46 N s'):=by
 unfold J3 at h
 refine csR f46 (m:=7) (keep:=Z5n) ?_
 refine sp h (λh0 h=>bd h λi ei h=>bd h λj ej h=>bd h λx ex h=>?_) λh0 h=>?_
 ·have hi:0≤i∧i<(N:Int)∧((0:Nat):Int)+i=j:=hN ▸ Lb ej rfl
  refine go [] [rg 0 (gC h0 3 2 [(5,gw h0 (W.n ei)),(6,gw h0 (iaL 1 0 N hi)),(7,gw h0 (lb ex)),(8,gw h0 g0),(9,gw h0 g0),(10,py h0)])] ?_
  refine br h (λh1 h=>?_) λh1 h=>?_
  ·rw[if_pos (by decide)] at h
   refine bd h λ_ eg h=>?_
   cases h
   refine go [2] [rg 1 [(2,W.n ei),(4,iaL 1 0 N hi),(5,st ex 0 [dI 4] 4)]] ?_
   refine kn 2 4 λfull=>?_
   have hl:=(hV 4 (by decide) (by decide)).1
   have hq:=(hV 4 (by decide) (by decide)).2
   cases full with
   | false=>
    refine so<|go [] [rg 2 [(2,ax 4 5),(5,br0 1 0),(6,apR n hl),(7,ax 4 5)]] ?_
    exact rtS (.tup []) (bks N ⟨s.lev.set j 4,V2 s.q 4 (s.q 4++[n])⟩ (Uz u 4 ((u 4).1++[n],(u 4).2.1,(u 4).2.2+1))) trivial ⟨_,hV.upd (by simp; omega) (by
     show List.drop (u 4).2.1 ((u 4).1++[n])=s.q 4++[n]
     rw[List.drop_append_of_le_length (by omega),hq]),rfl,rfl⟩
   | true=>
    refine so<|go [] [rg 2 [(2,ax 4 5),(5,br0 1 0),(6,apF n hl eg (hV.n (by decide) (by decide))),(7,ax 4 5)]] ?_
    exact rtS (.tup []) (bks N ⟨s.lev.set j 4,V2 s.q 4 (s.q 4++[n])⟩ (Uz u 4 ((u 4).1.drop (u 4).2.1++[n],0,(u 4).2.2+1))) trivial ⟨_,hV.upd (by simp; omega) (by
     show List.drop 0 _=_
     rw[List.drop_zero,hq]),rfl,rfl⟩
  ·cases h
   exact go [] []<|rtS (.tup []) (bks N s u) trivial ⟨u,hV,rfl,rfl⟩
 ·cases h
  exact go [] [rg 0 (gB h0 3 7 [(10,pn h0)])]<|bF rfl<|go [] []<|rtS (.tup []) (bks N s u) trivial ⟨u,hV,rfl,rfl⟩
theorem w46 {n k:Int} {N:Nat} {s s':LS} {u:QG} (h:J3 n k s=some s') (hV:VQ s u) (hN:s.lev.length=N):Lk prog 46 [dI n,dI k,.lptr 0 0 0,.lptr 2 0 0] (bks N s u) (R46 N s'):=by
 by_cases hk:1≤k∧k≤4
 ·have:k=1∨k=2∨k=3∨k=4:=by omega
  rcases this with e|e|e|e <;> subst e
  ·exact w46_1 h hV hN
  ·exact w46_2 h hV hN
  ·exact w46_3 h hV hN
  ·exact w46_4 h hV hN
 unfold J3 at h
 refine csR f46 (m:=7) (keep:=Z5n) ?_
 refine sp h (λh0 h=>bd h λi ei h=>bd h λj ej h=>bd h λx ex h=>?_) λh0 h=>?_
 ·have hi:0≤i∧i<(N:Int)∧((0:Nat):Int)+i=j:=hN ▸ Lb ej rfl
  refine go [] [rg 0 (gC h0 3 2 [(5,gw h0 (W.n ei)),(6,gw h0 (iaL 1 0 N hi)),(7,gw h0 (lb ex)),(8,gw h0 g0),(9,gw h0 g0),(10,py h0)])] ?_
  refine br h (λh1 h=>?_) λh1 h=>?_
  ·rw[if_neg hk] at h; cases h
  ·cases h
   exact go [] []<|rtS (.tup []) (bks N s u) trivial ⟨u,hV,rfl,rfl⟩
 ·cases h
  exact go [] [rg 0 (gB h0 3 7 [(10,pn h0)])]<|bF rfl<|go [] []<|rtS (.tup []) (bks N s u) trivial ⟨u,hV,rfl,rfl⟩
end Go.Proofs
namespace Go.Proofs
open Tryz
open Go.Den Go.Den.W Go.RowKit
section
variable {P:Program} {Γ:Ctx} {σ σ':S} {a:Act} {w:World} {G:Nat→Nat} {β:Nat→Option (Nat×Nat)}
def RdX {T U R U':Type} (V:T→U→Prop) (st:T→U→SL) (id:Nat) (W:R→U'→Prop) (stJ:R→U'→SL) (x:Ctl T R):Exit→S→Prop:=λe σ=>
 match x with
 | .next t=>e=.normal∧∃ u,V t u∧Sub σ (st t u).s
 | .done r=>e=.exit id∧∃ u,W r u∧Sub σ (stJ r u).s
theorem lpX {T U R U':Type} {Q:Exit→S→Prop} {ev:Ev} {c:Code} {f:T→Option (Ctl T R)} {V:T→U→Prop} {st:T→U→SL} {id:Nat} {W:R→U'→Prop} {stJ:R→U'→SL} {n:Nat} {t:T} {u:U} {r:R} (hm:Z7 f n t=some r) (hu:V t u)
  (hw:∀ {t u x} {Γ:Ctx},f t=some x→V t u→A P Γ c [] (RdX V st id W stJ x) (st t u).s) (hQ:∀ u,W r u→RK P Γ ((J5 id (ek ev)).getD []) Q (stJ r u).s) (cv:List Wa:=[]) (ps:List (Nat×Nat):=(st t u).ps)
  (hk:(Ws cv (st t u).ts ps σ,σ.n,ev,(J5 id (ek ev)).isSome)=(some ((st t u).l,(st t u).bl),(st t u).n,.loop c (ek ev),true):=by kernel_rfl):E P Γ Q σ ev:=by
 have h1:=congrArg Prod.fst hk
 have h2:=congrArg (λx=>x.2.1) hk
 have h3:=congrArg (λx=>x.2.2.1) hk
 have h4:=congrArg (λx=>x.2.2.2) hk
 dsimp only at h1 h2 h3 h4
 have hs:Sub σ (st t u).s:=Jz (cv:=cv) (ps:=ps) (by rw[h1,h2])
 have hQ':∀ u,W r u→Vx P Γ (ek ev) Q (.exit id) (stJ r u).s:=λu hu=>by
  have hq:=(hQ u hu).h
  cases hp:J5 id (ek ev) with
  | none=>rw[hp] at h4; cases h4
  | some K'=>rw[hp] at hq; exact At.exitK hp hq
 rw[h3]
 refine⟨Sub.at (c:= .loop c) hs λa w G β hC=>?_⟩
 refine Zl1 (λn a w=>∃ t u G β,V t u∧Z7 f n t=some r∧Za Γ (st t u).s a w G β) ?_ n a w ⟨t,u,G,β,hu,hm,hC⟩
 rintro n a w ⟨t,u,G,β,hu,h,hC⟩
 cases n with
 | zero=>cases h
 | succ m=>
  refine⟨m,rfl,?_⟩
  unfold Z7 at h
  cases hf:f t with
  | none=>rw[hf] at h; cases h
  | some x=>
   rw[hf] at h
   refine wp_mono ((hw (Γ:=Γ) hf hu).h a w G β hC) λe a' w' ⟨σ',G',β',k1,k2⟩=>?_
   cases x with
   | next t'=>
    obtain⟨rfl,u',hu',hsub⟩:=k2
    obtain⟨G2,β2,hC2⟩:=hsub Γ a' w' G' β' k1
    exact⟨t',u',G2,β2,hu',h,hC2⟩
   | done r'=>
    cases h
    obtain⟨rfl,u',hu',hsub⟩:=k2
    obtain⟨G2,β2,hC2⟩:=hsub Γ a' w' G' β' k1
    exact⟨(stJ r u').s,G2,β2,hC2,hQ' u' hu'⟩
theorem nxX {T U R U':Type} {ev:Ev} {V:T→U→Prop} {st:T→U→SL} {id:Nat} {W:R→U'→Prop} {stJ:R→U'→SL} {t:T} {x:Ctl T R} (h:some (Ctl.next t)=some x) (u:U) (hu:V t u) (cv:List Wa:=[]) (ps:List (Nat×Nat):=(st t u).ps)
  (hk:(Ws cv (st t u).ts ps σ,σ.n,et ev)=(some ((st t u).l,(st t u).bl),(st t u).n,some .normal):=by kernel_rfl):E P Γ (RdX V st id W stJ x) σ ev:=by
 cases h
 have h1:=congrArg Prod.fst hk
 have h2:=congrArg (λx=>x.2.1) hk
 have h3:=congrArg (λx=>x.2.2) hk
 dsimp only at h1 h2 h3
 cases ev <;> cases h3
 exact⟨⟨rfl,u,hu,Jz (cv:=cv) (ps:=ps) (by rw[h1,h2])⟩⟩
theorem dnX {T U R U':Type} {ev:Ev} {V:T→U→Prop} {st:T→U→SL} {id:Nat} {W:R→U'→Prop} {stJ:R→U'→SL} {r:R} {x:Ctl T R} (h:some (Ctl.done r)=some x) (u:U') (hu:W r u) (cv:List Wa:=[]) (ps:List (Nat×Nat):=(stJ r u).ps)
  (hk:(Ws cv (stJ r u).ts ps σ,σ.n,et ev)=(some ((stJ r u).l,(stJ r u).bl),(stJ r u).n,some (.exit id)):=by kernel_rfl):E P Γ (RdX V st id W stJ x) σ ev:=by
 cases h
 have h1:=congrArg Prod.fst hk
 have h2:=congrArg (λx=>x.2.1) hk
 have h3:=congrArg (λx=>x.2.2) hk
 dsimp only at h1 h2 h3
 cases ev <;> cases h3
 exact⟨⟨rfl,u,hu,Jz (cv:=cv) (ps:=ps) (by rw[h1,h2])⟩⟩
def M7 (σ:S) (ops:Array Oper) (i:Nat) (names:List Nat):Option (FuncId×List D×List Nat×Prop):=
 match Zgy ops i with
 | some (fo,args)=>match funA (σ.ev fo) with
  | some (f,es)=>match U0 false σ names (args.toList.map σ.ev++es) with
   | some (ds,l0,p)=>some (f,ds,l0,p)
   | none=>none
  | none=>none
 | none=>none
theorem pcX {ops:Array Oper} {l:List Nat} {K:List Q0} {Q:Exit→S→Prop} {f:FuncId} {ds:List D} {bs:List Blk} {R:D→List Blk→Prop} {p:Prop} (names:List Nat)
  (hR:Lk P f ds bs R) (hp:p) (hsz:∀ r bs',R r bs'→Ls bs bs'=true) (hn:∀ r bs',R r bs'→AO P Γ ops l.tail K Q (clS σ names [] (Zf2 ops (l.headD 0)) bs' r))
  (hk:(l.isEmpty,M7 σ ops (l.headD 0) names,Jk (σ.freezeL []) names (λ_ j=>Z0r bs j) 0 names,(ops[l.headD 0]?).map (Xe σ),Ut names,bs.all λb=>Nat.beq b.frz 0)=
   (false,some (f,ds,[],p),some bs,some true,true,true):=by kernel_rfl):AO P Γ ops l K Q σ:=by
 have h0:=congrArg Prod.fst hk
 have h1:=congrArg (λx=>x.2.1) hk
 have h2:=congrArg (λx=>x.2.2.1) hk
 have h3:=congrArg (λx=>x.2.2.2.1) hk
 have h4:=congrArg (λx=>x.2.2.2.2.1) hk
 have h5:=congrArg (λx=>x.2.2.2.2.2) hk
 dsimp only at h0 h1 h2 h3 h4 h5
 cases l with
 | nil=>cases h0
 | cons i l=>
  dsimp only[List.headD_cons,List.tail_cons] at h1 h3 hn
  unfold M7 at h1
  split at h1
  ·rename_i fo args hc
   split at h1
   ·rename_i f' es hf
    split at h1
    ·rename_i ds' l0' p' hv
     cases h1
     exact pcR (fo:=fo) (args:=args) (es:=es) (l0:=[]) names hR hp hsz hn (by rw[hc,hf,hv,h2,h3,h4,h5])
    ·cases h1
   ·cases h1
  ·cases h1
end
def lnU (n m:Nat) (h:n=m):GT:=GT.of { ans:= .val (.int .i64 m) } (p:=(n:Int)=(m:Int)) (by rw[h])
def sl1 (n:Nat) (h:0<n):GT:=GT.of {} (p:=0≤(1:Int)∧(1:Int)≤(n:Int)∧(n:Int)≤(n:Int)) ⟨by decide,by omega,Int.le_refl _⟩
def ndM (cl:List Int) (m:Z4) (n:Int):Option (List Int×Int×Int):=
 (some (IntKind.wrap .i64 (n - 1))).bind λi=>(Z5 m.Z2 i).bind λo=>(Z2k cl o).bind λk=>(Z71 o k).bind λy=>(Z7n y.1).bind λl=>some (l,y.2,k)
def nmQ:List Nat:=[4,23,5,1001,1002,1003,1004]
def blkQ (N:Nat) (s:LS) (u:QG):List (Nat×Blk):=
 [(4,{ sz:=1,rows:=[[.lsl 23 0 N]],frz:=0,pure:=false }),(5,{ sz:=5,rows:=[rowQ u 1001 1002 1003 1004],frz:=0,pure:=false }),(23,Ly s.lev),
  (1001,Ly (u 1).1),(1002,Ly (u 2).1),(1003,Ly (u 3).1),(1004,Ly (u 4).1)]
def VN (N:Nat) (s:LS) (u:QG):Prop:=VQ s u∧s.lev.length=N
theorem Z2v {n k:Int} {s s':LS} (h:J3 n k s=some s'):s'.lev.length=s.lev.length:=by
 unfold J3 at h
 refine sp h (λ_ h=>W.bd h λ_ _ h=>W.bd h λ_ _ h=>W.bd h λ_ _ h=>sp h (λ_ h=>?_) λ_ h=>?_) λ_ h=>?_
 ·split at h
  ·refine W.bd h λ_ _ h=>?_
   cases h; exact List.length_set
  ·cases h
 ·cases h; rfl
 ·cases h; rfl
theorem sz46 {N:Nat} {s s':LS} {u:QG}:∀ r bs',R46 N s' r bs'→Ls (bks N s u) bs'=true:=by
 rintro _ _ ⟨u',_,rfl,rfl⟩; rfl
def tsQ (m:Z4) (cl:List Int):List (Nat×D):=[(1,.ptr (Zo m)),(3,.sl false (cl.map Z1)),(4,.lptr 4 0 0),(5,.lptr 5 0 0),(6,.clo 46 [4,5])]
def st20a (m:Z4) (cl rs:List Int) (N:Nat):Int×LS→QG→SL:=
 λt u=>⟨97,[(1,.ptr (Zo m)),(3,.sl false (cl.map Z1)),(4,.lptr 4 0 0),(5,.lptr 5 0 0),(6,.clo 46 [4,5]),(26,.sl false (rs.map Z1)),(27,dI (rs.length:Int)),(28,dI t.1)],blkQ N t.2 u⟩
def sj20a (m:Z4) (cl:List Int) (N:Nat):LS→QG→SL:=λs u=>⟨97,tsQ m cl,blkQ N s u⟩
theorem wl20a {m:Z4} {cl rs:List Int} {N:Nat} {t:Int×LS} {u:QG} {x} {Γ:Ctx} (h:stR rs 4 t=some x) (hV:VN N t.2 u):
  A prog Γ (lpC f20 351) [] (RdX (λ(t:Int×LS) u=>VN N t.2 u) (st20a m cl rs N) 0 (VN N) (sj20a m cl N) x) (st20a m cl rs N t u).s:=by
 unfold stR at h
 refine go [] []<|br h (λh0 h=>bd h λn0 e0 h=>bd h λs' e1 h=>bd h λi e2 h=>?_) λh0 h=>?_
 ·refine go [8] [rg 7 [(0,ix e0)]]<|po<|pr 2 []<|pcX (p:=True∧True∧True) nmQ (w46 e1 hV.1 hV.2) ⟨trivial,trivial,trivial⟩ sz46 λr bs' hr=>?_
  obtain⟨u',hV',rfl,rfl⟩:=hr
  exact pe<|goN [] [rg 9 [(0,W.n e2)]]<|nxX h u' ⟨hV',(Z2v e1).trans hV.2⟩
 ·exact go [] []<|dnX h u hV
end Go.Proofs
namespace Go.Proofs
open Tryz
open Go.Den Go.Den.W Go.RowKit
def Z46 (m:Z4) (cl:List Int) (N:Nat) (L kk rf:Int) (l:List Int):Int×LS→QG→SL:=
 λt u=>⟨97,[(1,.ptr (Zo m)),(3,.sl false (cl.map Z1)),(4,.lptr 4 0 0),(5,.lptr 5 0 0),(6,.clo 46 [4,5]),(9,dI L),(12,dI kk),(14,dI rf),(79,.sl false (l.map Z1)),(80,dI (l.length:Int)),(81,dI t.1)],blkQ N t.2 u⟩
def Z76 (m:Z4) (cl:List Int) (N:Nat) (L kk rf:Int):LS→QG→SL:=
 λs u=>⟨97,[(1,.ptr (Zo m)),(3,.sl false (cl.map Z1)),(4,.lptr 4 0 0),(5,.lptr 5 0 0),(6,.clo 46 [4,5]),(9,dI L),(12,dI kk),(14,dI rf)],blkQ N s u⟩
theorem Z9h {m:Z4} {cl:List Int} {N:Nat} {L kk rf:Int} {l:List Int} {t:Int×LS} {u:QG} {x} {Γ:Ctx} (h:stR l L t=some x) (hV:VN N t.2 u):
  A prog Γ (lpC f20 92177599) [] (RdX (λ(t:Int×LS) u=>VN N t.2 u) (Z46 m cl N L kk rf l) 6 (VN N) (Z76 m cl N L kk rf) x) (Z46 m cl N L kk rf l t u).s:=by
 unfold stR at h
 refine go [] []<|br h (λh0 h=>bd h λn0 e0 h=>bd h λs' e1 h=>bd h λi e2 h=>?_) λh0 h=>?_
 ·refine go [23] [rg 22 [(0,ix e0)]]<|po<|pr 3 []<|pcX (p:=True∧True∧True) nmQ (w46 e1 hV.1 hV.2) ⟨trivial,trivial,trivial⟩ sz46 λr bs' hr=>?_
  obtain⟨u',hV',rfl,rfl⟩:=hr
  exact pe<|goN [] [rg 24 [(0,W.n e2)]]<|nxX h u' ⟨hV',(Z2v e1).trans hV.2⟩
 ·exact go [] []<|dnX h u hV
def W6 (m:Z4) (cl:List Int) (N:Nat) (L:Int):LS→QG→SL:=
 λs u=>⟨97,[(1,.ptr (Zo m)),(3,.sl false (cl.map Z1)),(4,.lptr 4 0 0),(5,.lptr 5 0 0),(6,.clo 46 [4,5]),(9,dI L)],blkQ N s u⟩
theorem wl20p_1 {m:Z4} {cl:List Int} {N:Nat} {s:LS} {u:QG} {x} {Γ:Ctx} (h:Kk (ndM cl m) 1 s=some x) (hV:VN N s u):
  A prog Γ (lpC f20 17599) [] (RdX (VN N) (W6 m cl N 1) 4 (VN N) (W6 m cl N 1) x) (W6 m cl N 1 s u).s:=by
 unfold Kk at h
 have hn:=hV.1.n (k:=1) (by decide) (by decide)
 obtain⟨hl,hq⟩:=hV.1 1 (by decide) (by decide)
 refine go [] [rg 13 [(1,ax 1 5),(3,lnU (u 1).2.2 (s.q 1).length hn)]]<|br h (λh0 h=>?_) λh0 h=>go [] []<|dnX h u hV
 have hpos:0<(u 1).2.2:=by have:=of_decide_eq_true h0; omega
 refine bd h λn0 e0 h=>bd h λi e1 h=>bd h λj e2 h=>bd h λx0 e3 h=>?_
 have hx:(u 1).1[(u 1).2.1]?=some n0:=by rw[← hq,List.getElem?_drop] at e0; exact e0
 have hi:0≤i∧i<(N:Int)∧((0:Nat):Int)+i=j:=hV.2 ▸ Lb e2 rfl
 have hV1:VN N ⟨s.lev,V2 s.q 1 ((s.q 1).drop 1)⟩ (Uz u 1 ((u 1).1,(u 1).2.1+1,(u 1).2.2 - 1)):=⟨hV.1.upd (by dsimp only; omega) (by
  show List.drop ((u 1).2.1+1) (u 1).1=_
  rw[← hq,List.drop_drop]),hV.2⟩
 refine go [] [rg 14 [(1,ax 1 5),(3,iaL 1001 (u 1).2.1 (u 1).2.2 (i:=0) (j:=(u 1).2.1) ⟨by decide,by omega,by omega⟩),(4,lb hx)],rg 15 [(2,ax 1 5),(4,sl1 (u 1).2.2 hpos),(5,ax 1 5)],rg 16 [(2,W.n e1),(3,iaL 23 0 N hi),(4,lb e3)]]<|br h (λh1 h=>?_) λh1 h=>?_
 ·exact go [] []<|nxX h _ hV1
 ·refine bd h λy ey h=>?_
  unfold ndM at ey
  refine bd ey λi' e4 ey=>bd ey λo e5 ey=>bd ey λkk e6 ey=>bd ey λyv e7 ey=>bd ey λl e8 ey=>?_
  obtain rfl:=Option.some.inj ey
  refine bd h λs2 es2 h=>bd h λmn emn h=>bd h λs3 es3 h=>?_
  refine go [] [rg 17 [(3,W.n e4),(4,ix e5)],rg 18 [(2,W.k (w33 e6))],rg 19 [(2,W.k (w37 e7))],rg 20 [(1,W.k (w38 e8)),(2,ln l)]]<|lpX (V:=λ(t:Int×LS) u=>VN N t.2 u) (st:=Z46 m cl N 1 kk yv.2 l) (id:=6) (W:=VN N) (stJ:=Z76 m cl N 1 kk yv.2) es2 hV1 (λhf hv=>Z9h hf hv) λu2 hu2=>?_
  refine goN [25] []<|po<|pr 5 [(4,W.n emn)]<|pcX (p:=True∧True∧True) nmQ (w46 es3 hu2.1 hu2.2) ⟨trivial,trivial,trivial⟩ sz46 λr bs' hr=>?_
  obtain⟨u3,hV3,rfl,rfl⟩:=hr
  exact pe<|goN [] []<|nxX h u3 ⟨hV3,(Z2v es3).trans hu2.2⟩
theorem wl20p_2 {m:Z4} {cl:List Int} {N:Nat} {s:LS} {u:QG} {x} {Γ:Ctx} (h:Kk (ndM cl m) 2 s=some x) (hV:VN N s u):
  A prog Γ (lpC f20 17599) [] (RdX (VN N) (W6 m cl N 2) 4 (VN N) (W6 m cl N 2) x) (W6 m cl N 2 s u).s:=by
 unfold Kk at h
 have hn:=hV.1.n (k:=2) (by decide) (by decide)
 obtain⟨hl,hq⟩:=hV.1 2 (by decide) (by decide)
 refine go [] [rg 13 [(1,ax 2 5),(3,lnU (u 2).2.2 (s.q 2).length hn)]]<|br h (λh0 h=>?_) λh0 h=>go [] []<|dnX h u hV
 have hpos:0<(u 2).2.2:=by have:=of_decide_eq_true h0; omega
 refine bd h λn0 e0 h=>bd h λi e1 h=>bd h λj e2 h=>bd h λx0 e3 h=>?_
 have hx:(u 2).1[(u 2).2.1]?=some n0:=by rw[← hq,List.getElem?_drop] at e0; exact e0
 have hi:0≤i∧i<(N:Int)∧((0:Nat):Int)+i=j:=hV.2 ▸ Lb e2 rfl
 have hV1:VN N ⟨s.lev,V2 s.q 2 ((s.q 2).drop 1)⟩ (Uz u 2 ((u 2).1,(u 2).2.1+1,(u 2).2.2 - 1)):=⟨hV.1.upd (by dsimp only; omega) (by
  show List.drop ((u 2).2.1+1) (u 2).1=_
  rw[← hq,List.drop_drop]),hV.2⟩
 refine go [] [rg 14 [(1,ax 2 5),(3,iaL 1002 (u 2).2.1 (u 2).2.2 (i:=0) (j:=(u 2).2.1) ⟨by decide,by omega,by omega⟩),(4,lb hx)],rg 15 [(2,ax 2 5),(4,sl1 (u 2).2.2 hpos),(5,ax 2 5)],rg 16 [(2,W.n e1),(3,iaL 23 0 N hi),(4,lb e3)]]<|br h (λh1 h=>?_) λh1 h=>?_
 ·exact go [] []<|nxX h _ hV1
 ·refine bd h λy ey h=>?_
  unfold ndM at ey
  refine bd ey λi' e4 ey=>bd ey λo e5 ey=>bd ey λkk e6 ey=>bd ey λyv e7 ey=>bd ey λl e8 ey=>?_
  obtain rfl:=Option.some.inj ey
  refine bd h λs2 es2 h=>bd h λmn emn h=>bd h λs3 es3 h=>?_
  refine go [] [rg 17 [(3,W.n e4),(4,ix e5)],rg 18 [(2,W.k (w33 e6))],rg 19 [(2,W.k (w37 e7))],rg 20 [(1,W.k (w38 e8)),(2,ln l)]]<|lpX (V:=λ(t:Int×LS) u=>VN N t.2 u) (st:=Z46 m cl N 2 kk yv.2 l) (id:=6) (W:=VN N) (stJ:=Z76 m cl N 2 kk yv.2) es2 hV1 (λhf hv=>Z9h hf hv) λu2 hu2=>?_
  refine goN [25] []<|po<|pr 5 [(4,W.n emn)]<|pcX (p:=True∧True∧True) nmQ (w46 es3 hu2.1 hu2.2) ⟨trivial,trivial,trivial⟩ sz46 λr bs' hr=>?_
  obtain⟨u3,hV3,rfl,rfl⟩:=hr
  exact pe<|goN [] []<|nxX h u3 ⟨hV3,(Z2v es3).trans hu2.2⟩
theorem wl20p_3 {m:Z4} {cl:List Int} {N:Nat} {s:LS} {u:QG} {x} {Γ:Ctx} (h:Kk (ndM cl m) 3 s=some x) (hV:VN N s u):
  A prog Γ (lpC f20 17599) [] (RdX (VN N) (W6 m cl N 3) 4 (VN N) (W6 m cl N 3) x) (W6 m cl N 3 s u).s:=by
 unfold Kk at h
 have hn:=hV.1.n (k:=3) (by decide) (by decide)
 obtain⟨hl,hq⟩:=hV.1 3 (by decide) (by decide)
 refine go [] [rg 13 [(1,ax 3 5),(3,lnU (u 3).2.2 (s.q 3).length hn)]]<|br h (λh0 h=>?_) λh0 h=>go [] []<|dnX h u hV
 have hpos:0<(u 3).2.2:=by have:=of_decide_eq_true h0; omega
 refine bd h λn0 e0 h=>bd h λi e1 h=>bd h λj e2 h=>bd h λx0 e3 h=>?_
 have hx:(u 3).1[(u 3).2.1]?=some n0:=by rw[← hq,List.getElem?_drop] at e0; exact e0
 have hi:0≤i∧i<(N:Int)∧((0:Nat):Int)+i=j:=hV.2 ▸ Lb e2 rfl
 have hV1:VN N ⟨s.lev,V2 s.q 3 ((s.q 3).drop 1)⟩ (Uz u 3 ((u 3).1,(u 3).2.1+1,(u 3).2.2 - 1)):=⟨hV.1.upd (by dsimp only; omega) (by
  show List.drop ((u 3).2.1+1) (u 3).1=_
  rw[← hq,List.drop_drop]),hV.2⟩
 refine go [] [rg 14 [(1,ax 3 5),(3,iaL 1003 (u 3).2.1 (u 3).2.2 (i:=0) (j:=(u 3).2.1) ⟨by decide,by omega,by omega⟩),(4,lb hx)],rg 15 [(2,ax 3 5),(4,sl1 (u 3).2.2 hpos),(5,ax 3 5)],rg 16 [(2,W.n e1),(3,iaL 23 0 N hi),(4,lb e3)]]<|br h (λh1 h=>?_) λh1 h=>?_
 ·exact go [] []<|nxX h _ hV1
 ·refine bd h λy ey h=>?_
  unfold ndM at ey
  refine bd ey λi' e4 ey=>bd ey λo e5 ey=>bd ey λkk e6 ey=>bd ey λyv e7 ey=>bd ey λl e8 ey=>?_
  obtain rfl:=Option.some.inj ey
  refine bd h λs2 es2 h=>bd h λmn emn h=>bd h λs3 es3 h=>?_
  refine go [] [rg 17 [(3,W.n e4),(4,ix e5)],rg 18 [(2,W.k (w33 e6))],rg 19 [(2,W.k (w37 e7))],rg 20 [(1,W.k (w38 e8)),(2,ln l)]]<|lpX (V:=λ(t:Int×LS) u=>VN N t.2 u) (st:=Z46 m cl N 3 kk yv.2 l) (id:=6) (W:=VN N) (stJ:=Z76 m cl N 3 kk yv.2) es2 hV1 (λhf hv=>Z9h hf hv) λu2 hu2=>?_
  refine goN [25] []<|po<|pr 5 [(4,W.n emn)]<|pcX (p:=True∧True∧True) nmQ (w46 es3 hu2.1 hu2.2) ⟨trivial,trivial,trivial⟩ sz46 λr bs' hr=>?_
  obtain⟨u3,hV3,rfl,rfl⟩:=hr
  exact pe<|goN [] []<|nxX h u3 ⟨hV3,(Z2v es3).trans hu2.2⟩
theorem wl20p_4 {m:Z4} {cl:List Int} {N:Nat} {s:LS} {u:QG} {x} {Γ:Ctx} (h:Kk (ndM cl m) 4 s=some x) (hV:VN N s u):
  A prog Γ (lpC f20 17599) [] (RdX (VN N) (W6 m cl N 4) 4 (VN N) (W6 m cl N 4) x) (W6 m cl N 4 s u).s:=by
 unfold Kk at h
 have hn:=hV.1.n (k:=4) (by decide) (by decide)
 obtain⟨hl,hq⟩:=hV.1 4 (by decide) (by decide)
 refine go [] [rg 13 [(1,ax 4 5),(3,lnU (u 4).2.2 (s.q 4).length hn)]]<|br h (λh0 h=>?_) λh0 h=>go [] []<|dnX h u hV
 have hpos:0<(u 4).2.2:=by have:=of_decide_eq_true h0; omega
 refine bd h λn0 e0 h=>bd h λi e1 h=>bd h λj e2 h=>bd h λx0 e3 h=>?_
 have hx:(u 4).1[(u 4).2.1]?=some n0:=by rw[← hq,List.getElem?_drop] at e0; exact e0
 have hi:0≤i∧i<(N:Int)∧((0:Nat):Int)+i=j:=hV.2 ▸ Lb e2 rfl
 have hV1:VN N ⟨s.lev,V2 s.q 4 ((s.q 4).drop 1)⟩ (Uz u 4 ((u 4).1,(u 4).2.1+1,(u 4).2.2 - 1)):=⟨hV.1.upd (by dsimp only; omega) (by
  show List.drop ((u 4).2.1+1) (u 4).1=_
  rw[← hq,List.drop_drop]),hV.2⟩
 refine go [] [rg 14 [(1,ax 4 5),(3,iaL 1004 (u 4).2.1 (u 4).2.2 (i:=0) (j:=(u 4).2.1) ⟨by decide,by omega,by omega⟩),(4,lb hx)],rg 15 [(2,ax 4 5),(4,sl1 (u 4).2.2 hpos),(5,ax 4 5)],rg 16 [(2,W.n e1),(3,iaL 23 0 N hi),(4,lb e3)]]<|br h (λh1 h=>?_) λh1 h=>?_
 ·exact go [] []<|nxX h _ hV1
 ·refine bd h λy ey h=>?_
  unfold ndM at ey
  refine bd ey λi' e4 ey=>bd ey λo e5 ey=>bd ey λkk e6 ey=>bd ey λyv e7 ey=>bd ey λl e8 ey=>?_
  obtain rfl:=Option.some.inj ey
  refine bd h λs2 es2 h=>bd h λmn emn h=>bd h λs3 es3 h=>?_
  refine go [] [rg 17 [(3,W.n e4),(4,ix e5)],rg 18 [(2,W.k (w33 e6))],rg 19 [(2,W.k (w37 e7))],rg 20 [(1,W.k (w38 e8)),(2,ln l)]]<|lpX (V:=λ(t:Int×LS) u=>VN N t.2 u) (st:=Z46 m cl N 4 kk yv.2 l) (id:=6) (W:=VN N) (stJ:=Z76 m cl N 4 kk yv.2) es2 hV1 (λhf hv=>Z9h hf hv) λu2 hu2=>?_
  refine goN [25] []<|po<|pr 5 [(4,W.n emn)]<|pcX (p:=True∧True∧True) nmQ (w46 es3 hu2.1 hu2.2) ⟨trivial,trivial,trivial⟩ sz46 λr bs' hr=>?_
  obtain⟨u3,hV3,rfl,rfl⟩:=hr
  exact pe<|goN [] []<|nxX h u3 ⟨hV3,(Z2v es3).trans hu2.2⟩
def st20l (m:Z4) (cl:List Int) (N:Nat):Int×LS→QG→SL:=λt u=>W6 m cl N t.1 t.2 u
def V20l (N:Nat) (t:Int×LS) (u:QG):Prop:=VN N t.2 u∧0≤t.1∧t.1≤4
def sj20l (N:Nat):List Int→Unit→SL:=λl _=>⟨97,[(4,.lptr 4 0 0)],[(4,{ sz:=1,rows:=[[.lsl 23 0 N]],frz:=0,pure:=false }),(23,Ly l)]⟩
theorem wl20l {m:Z4} {cl:List Int} {N:Nat} {t:Int×LS} {u:QG} {x} {Γ:Ctx} (h:levF (ndM cl m) t=some x) (hV:V20l N t u):
  A prog Γ (lpC f20 703) [] (RdX (V20l N) (st20l m cl N) 2 (λl (_:Unit)=>l.length=N) (sj20l N) x) (st20l m cl N t u).s:=by
 obtain⟨L,s⟩:=t
 unfold levF at h
 obtain⟨hV,b0,b4⟩:=hV
 refine go [] []<|br h (λh0 h=>bd h λs' es h=>bd h λi ei h2=>?_) λh0 h=>go [] []<|dnX h () hV.2
 dsimp only at h0 es ei hV b0 b4
 have hb:0≤i∧i≤4:=by
  cases ei
  rw[Tot.Ub (by have:=of_decide_eq_true h0; omega) (by omega)]
  have:=of_decide_eq_true h0
  omega
 have hL:L=1∨L=2∨L=3∨L=4:=by have:=of_decide_eq_true h0; omega
 rcases hL with e|e|e|e <;> subst e
 ·exact go [] []<|lpX (V:=VN N) (st:=W6 m cl N 1) (id:=4) (W:=VN N) (stJ:=W6 m cl N 1) es hV (λhf hv=>wl20p_1 hf hv) λu' hu'=>goN [] [rg 12 [(1,W.n ei)]]<|nxX h2 u' ⟨hu',hb⟩
 ·exact go [] []<|lpX (V:=VN N) (st:=W6 m cl N 2) (id:=4) (W:=VN N) (stJ:=W6 m cl N 2) es hV (λhf hv=>wl20p_2 hf hv) λu' hu'=>goN [] [rg 12 [(1,W.n ei)]]<|nxX h2 u' ⟨hu',hb⟩
 ·exact go [] []<|lpX (V:=VN N) (st:=W6 m cl N 3) (id:=4) (W:=VN N) (stJ:=W6 m cl N 3) es hV (λhf hv=>wl20p_3 hf hv) λu' hu'=>goN [] [rg 12 [(1,W.n ei)]]<|nxX h2 u' ⟨hu',hb⟩
 ·exact go [] []<|lpX (V:=VN N) (st:=W6 m cl N 4) (id:=4) (W:=VN N) (stJ:=W6 m cl N 4) es hV (λhf hv=>wl20p_4 hf hv) λu' hu'=>goN [] [rg 12 [(1,W.n ei)]]<|nxX h2 u' ⟨hu',hb⟩
end Go.Proofs
namespace Go.Proofs
open Tryz
open Go.Den Go.Den.W Go.RowKit
def Ww (m:Z4):Option (List Int):=
 (Z2m m.Y1).bind λcl=>
 (W1 8 (m.Z2.length:Int) (m.Z2.length:Int)).bind λ_=>
 (Ke m).bind λrs=>Zgs (m.Z2.length:Int).toNat rs (ndM cl m)
def R20 (y0:List Int):D:= .sl false (y0.map Z1)
theorem w20 {x0 r} (h:Ww x0=some r):Zb prog 20 [.agg (Zo x0)] (R20 r):=by
 unfold Ww Zgs at h
 refine cs f20<|bd h λcl e0 h=>bd h λ_ e1 h=>bd h λrs e2 h=>bd h λs es h=>?_
 have hu0:VN ((List.replicate (x0.Z2.length:Int).toNat (0:Int)).map Z1).length ⟨List.replicate (x0.Z2.length:Int).toNat 0,λ_=>[]⟩ (λ_=>([],0,0)):=⟨λk _ _=>⟨rfl,rfl⟩,by simp⟩
 refine go [] [rg 0 [(0,bo)],rg 1 [(2,W.k (w34 e0))],rg 2 [(2,ln x0.Z2),(3,mk (0:Int) e1)],rg 4 [(0,g0)],rg 5 [(1,W.k (w15 e2)),(2,ln rs)]]<|
  lpX (V:=λ(t:Int×LS) u=>VN ((List.replicate (x0.Z2.length:Int).toNat (0:Int)).map Z1).length t.2 u) (st:=st20a x0 cl rs ((List.replicate (x0.Z2.length:Int).toNat (0:Int)).map Z1).length) (id:=0) (W:=VN ((List.replicate (x0.Z2.length:Int).toNat (0:Int)).map Z1).length) (stJ:=sj20a x0 cl ((List.replicate (x0.Z2.length:Int).toNat (0:Int)).map Z1).length) es hu0 (λhf hv=>wl20a hf hv) (λu hu=>?_) (cv:=[.blk 5 1 1001 1,.blk 5 2 1002 1,.blk 5 3 1003 1,.blk 5 4 1004 1])
 refine goN [] []<|lpX (V:=V20l ((List.replicate (x0.Z2.length:Int).toNat (0:Int)).map Z1).length) (st:=st20l x0 cl ((List.replicate (x0.Z2.length:Int).toNat (0:Int)).map Z1).length) (id:=2) (W:=λl (_:Unit)=>l.length=((List.replicate (x0.Z2.length:Int).toNat (0:Int)).map Z1).length) (stJ:=sj20l ((List.replicate (x0.Z2.length:Int).toNat (0:Int)).map Z1).length) h ⟨hu,show (0:Int)≤4 by decide,show (4:Int)≤4 by decide⟩ (λhf hv=>wl20l hf hv) λ_ hl=>?_
 refine goN [] []<|rtB (R:=R20) (x:=r) rfl (.sl false (((r.map Z1).drop 0).take ((List.replicate (x0.Z2.length:Int).toNat (0:Int)).map Z1).length)) (p:=(0+((List.replicate (x0.Z2.length:Int).toNat (0:Int)).map Z1).length≤(r.map Z1).length)∧True) ⟨by rw[← hl]; simp,trivial⟩ ?_
 show D.sl false _=D.sl false _
 rw[List.drop_zero,← hl,List.take_of_length_le (by simp)]
end Go.Proofs
