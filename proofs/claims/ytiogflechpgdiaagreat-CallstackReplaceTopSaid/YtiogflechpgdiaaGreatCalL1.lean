/-
  That the models come to an answer: machines. No condition.
-/
import Derived.Test.YtiogflechpgdiaaGreatCalT10
set_option linter.unusedVariables false
namespace Go.Proofs
open Go.Den Go.Tot
structure WObj (o:Z2c):Prop where
 val:o.Z4s.length≤140737488355328
 str:Str o.Z3r
 ws:o.Z57.length≤140737488355328
structure Z73 (a:Z0x):Prop where
 loc:a.Z0d.length≤140737488355328
 stk:a.Z0i.length≤140737488355328
structure Z41 (m:Z09):Prop where
 sp:Z5f m.Z1l
 heap:∀ o∈m.Z1j,WObj o
 heapL:m.Z1j.length≤140737488355328
 ini:∀ b∈m.Z3n,b.Z84.length≤140737488355328
 iniL:m.Z3n.length≤140737488355328
 int:∀ x∈m.Z38,Str x.Z3r
 intL:m.Z38.length≤140737488355328
 thr:∀ t∈m.Z0r,(∀ a∈t.Z0w,Z73 a)∧t.Z0w.length≤140737488355328
 thrL:m.Z0r.length≤140737488355328
 outL:m.Z4d.length≤140737488355328
theorem nT {α:Type} {o:Option Bool} {R:Prop} {P:α→Prop} {x y:Option α} (h:Ok o fun b=>b=true→R) (F:Ok x P) (T:R→Ok y P):Ok (o.bind fun v=>if (!v)=true then x else y) P:=
 bd h fun _ hb=>br! (fun _=>F) fun e=>T (hb e)
theorem nF {α:Type} {o:Option Bool} {R:Prop} {P:α→Prop} {x y:Option α} (h:Ok o fun b=>b=true→R) (F:Ok x P) (T:R→Ok y P):Ok (o.bind fun v=>if v=true then y else x) P:=
 bd h fun _ hb=>br (fun e=>T (hb e)) fun _=>F
theorem take4n (s:List UInt8) (hs:Str s):Ok (Z9x s 0) (fun r=>Str r.1.Z0f):=by
 unfold Z9x
 refine bd (P:=fun q:Int×Int=>0≤q.2∧q.2≤(s.length:Int)∧0≤q.1∧q.1≤4503599627370496) (lp (fun t=>t.1) s.length (fun t=>0≤t.2∧t.2≤t.1) (fun t hI g0 g1=>?_) (by omega) ⟨by omega,by omega⟩ (by omega) (by omega)) fun q hq=>?_
 ·unfold Zku Zlc
  refine brD (fun hlt=>bd gs fun _ _=>brE (fun _=>bd wr fun _ _=>bd wr fun _ _=>nx ?_ ?_ ?_) fun _=>dn ?_) fun _=>dn ?_ <;> dsimp only <;> omega
 ·obtain ⟨q1,q2⟩:=q
  dsimp only at hq ⊢
  have j2:∀ (v:Int) (p0:List UInt8) (p1:Int),Str p0→Ok (Zbh (q1,q2) v p0 p1) (fun r=>Str r.1.Z0f):=fun v p0 p1 g1=>by
   unfold Zbh
   exact bd (Zo2 _ g1) fun b _=>br! (fun _=>ok (by simp)) fun _=>ok g1
  refine brD (fun _=>ok (by simp)) fun _=>bd gs fun v5 _=>bd wr fun v6 h6=>brE (fun _=>?_) fun _=>j2 _ _ _ (by simp)
  refine bd (P:=fun q:Int=>v6≤q∧q≤(s.length:Int)) (lp (fun t=>t) s.length (fun t=>v6≤t) (fun t hI g0 g1=>?_) (by omega) (by omega) (by omega) (by omega)) fun q hq2=>?_
  ·unfold Zh5
   exact brD (fun hlt=>bd gs fun _ _=>brN (fun _=>bd wr fun _ _=>nx (by omega) (by omega) (by omega)) fun _=>dn ⟨by omega,by omega⟩) fun _=>dn ⟨by omega,by omega⟩
  ·exact brD (fun _=>ok (by simp)) fun _=>bd (sb (by omega) (by omega) (by omega)) fun v11 h11=>bd wr fun v12 h12=>j2 _ _ _ (by have:=h11.1; unfold Str at *; omega)
theorem parse4n (s:List UInt8) (hs:Str s):Ok (Z7n s) (fun r=>Str r.1.Z0f):=by
 unfold Z7n
 exact bd (take4n s hs) fun v hv=>brN (fun _=>ok (by simp)) fun _=>ok hv
theorem Y4r (y:Z0j) (ht:Str y.Z0f):Ok (Zjt y) (fun _=>True):=by
 unfold Zjt
 repeat' with_reducible first
  | unfold j82x1
  | unfold j82x2
  | refine brD (fun _=>?_) fun _=>?_
  | refine br! (fun _=>?_) fun _=>?_
  | refine brE (fun _=>?_) fun _=>?_
  | refine bd (Zo2 _ (by first|assumption|omega|exact And.left (by assumption)|(dsimp only; omega))) fun _ _=>?_
  | refine ok ?_
  | exact True.intro
theorem Y3p (s:List UInt8) (hs:Str s):Ok (Zgn s) (fun _=>True):=by
 unfold Zgn
 repeat' with_reducible first
  | refine brN (fun _=>?_) fun _=>?_
  | refine bd (parse4n _ (by first|assumption|omega|exact And.left (by assumption)|(dsimp only; omega))) fun _ _=>?_
  | refine bd (Y4r _ (by first|assumption|omega|exact And.left (by assumption)|(dsimp only; omega))) fun _ _=>?_
  | refine ok ?_
  | exact True.intro
theorem Y0f (w:Z0v) (c:Int):Ok (Zgo w c) (fun b=>b=true→0≤c∧c<w.Z1a.length):=by
 unfold Zgo
 repeat' first
  | with_reducible refine brD (fun _=>?_) fun _=>?_
  | with_reducible refine ok ?_
  | (first|(intro h; cases h; done)|(intro h; have:=of_decide_eq_true h; omega))
def Zcs (w:Z0v) (x:Z33):Prop:=0≤x.Z0s∧x.Z0s<w.Z1a.length∧0≤x.Z2o∧∀ v,Z01 w.Z1a x.Z0s=some v→x.Z2o<v.Z25.Z15.length
theorem Zv6 (w:Z0v) (hv:Z7w w) (c:Int) (s:Bool) (h0:0≤c) (h1:c<w.Z1a.length):Ok (Zgq w c s) (fun r=>r.length≤64∧∀ x∈r,Zcs w x∧x.Z0s=c):=by
 unfold Zgq
 refine bdE (gri h0 h1) fun v e hc=>?_
 have hf:=(hv.cls _ v hc.2).few.2.1
 refine bd (P:=fun q:List Z33=>q.length≤64∧∀ x∈q,Zcs w x∧x.Z0s=c) (lp (fun t=>t.1) v.Z25.Z15.length (fun t=>(t.2.length:Int)≤t.1∧∀ x∈t.2,Zcs w x∧x.Z0s=c) (fun t hI g0 g1=>?_) (by omega) ⟨by simp,fun x hx=>by cases hx⟩ (by omega) (by dsimp only; omega)) fun q hq=>ok hq
 obtain ⟨i1,i2⟩:=hI
 unfold Zq1
 refine brD (fun hlt=>bd (gr (by omega) hlt) fun _ _=>bd sm fun _ _=>br (fun _=>bd gk fun _ _=>bd wr fun k hk=>nx ⟨by simp only [List.length_append,List.length_cons,List.length_nil]; omega,fun x hx=>?_⟩) fun _=>bd wr fun k hk=>nx ⟨by dsimp only; omega,i2⟩) fun _=>dn ⟨by omega,i2⟩
 rcases List.mem_append.1 hx with h|h
 ·exact i2 x h
 ·rcases List.mem_singleton.1 h with rfl
  exact ⟨⟨h0,h1,g0,fun v' h'=>by rw [e] at h'; cases h'; exact hlt⟩,rfl⟩
theorem Zxt (w:Z0v) (hv:Z7w w):∀ (nn:Nat) (c:Int),c+2≤nn→1≤nn→c≤1000000→Ok (Zfn nn w c) (fun r=>(c<0→r=[])∧(0≤c→(r.length:Int)≤64*(c+1))∧∀ x∈r,Zcs w x)
 | nn+1,c,h,_,hb=>by
  have hfew:=hv.few
  unfold Zfn
  refine bd (Y0f w c) fun b hb=>br! (fun _=>ok ⟨fun _=>rfl,fun h=>by simp; omega,fun x hx=>by cases hx⟩) fun ht=>?_
  obtain ⟨h0,h1⟩:=hb ht
  refine bdE (gri h0 h1) fun v e hc=>?_
  have hs:=(hv.cls _ v hc.2).sup
  refine bd (Zxt w hv nn v.Z21 (by omega) (by omega) (by omega)) fun l hl=>?_
  obtain ⟨l1,l2,l3⟩:=hl
  have hlen:(l.length:Int)≤64*c:=by
   rcases hs with h|h
   ·rw [l1 (by omega)]; simp; omega
   ·have:=l2 h.1; omega
  refine bd (gk (by simp only [List.nil_append]; omega) (by simp only [List.nil_append]; omega)) fun _ _=>bd (Zv6 w hv c false h0 h1) fun o ho=>bd (gk (by simp only [List.nil_append,List.length_append]; omega) (by simp only [List.nil_append,List.length_append]; omega)) fun _ _=>ok ⟨fun h=>by omega,fun _=>by simp only [List.nil_append,List.length_append]; omega,fun x hx=>?_⟩
  simp only [List.nil_append] at hx
  rcases List.mem_append.1 hx with h|h
  ·exact l3 x h
  ·exact (ho.2 x h).1
theorem Y1c {α:Type} {P:α→Prop} {w:Z0v} (hw:Z5f w) {x:Z33} (hx:Zcs w x) {f:Z1s→Option α} (h:∀ v,v∈w.Z1a→x.Z2o<v.Z25.Z15.length→Ok (f v) P):Ok ((Z01 w.Z1a x.Z0s).bind f) P:=
 bdE (gr hx.1 hx.2.1) fun v e hm=>h v hm (hx.2.2.2 v e)
theorem Y5v (w:Z0v) (c:Int) (hw:Z5f w) (hv:Z7w w) (hc:c≤1000000):Ok (Zm5 w c) (fun _=>True):=by
 unfold Zm5
 have hr:(Z08:Int)=18446744073709551616:=rfl
 refine bd (Zxt w hv Z08 c (by omega) (by unfold Z08; omega) hc) fun l hl=>?_
 obtain ⟨l1,l2,l3⟩:=hl
 have hlen:(l.length:Int)≤64000064:=by
  rcases Int.lt_or_le c 0 with h|h
  ·rw [l1 h]; simp
  ·have:=l2 h; omega
 refine bd (P:=fun _=>True) (lp (fun t=>t.1) l.length (fun t=>(t.2.length:Int)≤t.1) (fun t hI g0 g1=>?_) (by omega) (by simp) (by omega) (by dsimp only; omega)) fun q _=>ok trivial
 unfold l93x1
 refine brD (fun hlt=>bdE (gr (by omega) hlt) fun s e hs=>Y1c hw (l3 s hs) fun v hm hi=>?_) fun _=>dn trivial
 rw [e]
 refine bs (bd (gr (l3 s hs).2.2.1 hi) fun f hf=>bd (Y3p _ ((hw.cls v hm).1.fld f hf).d) fun _ _=>bd gk fun _ _=>bd wr fun k hk=>nx (by simp only [List.length_append,List.length_cons,List.length_nil]; omega))
theorem Yac (w:Z0v) (c:Int) (hw:Z5f w) (hv:Z7w w):Ok (Zhl w c) (fun _=>True):=by
 unfold Zhl Zs1
 refine bd (P:=fun l:List Z33=>l.length≤64∧∀ x∈l,Zcs w x∧x.Z0s=c) ?_ fun l hl=>?_
 ·refine bd (Y0f w c) fun b hb=>br! (fun _=>ok ⟨by simp,fun x hx=>by cases hx⟩) fun ht=>?_
  exact bd (Zv6 w hv c true (hb ht).1 (hb ht).2) fun r hr=>ok hr
 ·refine bd (P:=fun _=>True) (lp (fun t=>t.1) l.length (fun t=>(t.2.length:Int)≤t.1) (fun t hI g0 g1=>?_) (by omega) (by simp) (by omega) (by dsimp only; omega)) fun q _=>ok trivial
  have hl1:=hl.1
  unfold l68x1
  refine brD (fun hlt=>?_) fun _=>dn trivial
  obtain ⟨s,hs,hsm⟩:=gr (l:=l) g0 hlt
  obtain ⟨k1,k2⟩:=hl.2 s hsm
  subst k2
  refine Y1c hw k1 fun v hm hi=>?_
  rw [hs]
  refine bs (bd (gr k1.2.2.1 hi) fun f hf=>?_)
  have nxt:∀ y:Z0h,Ok ((Z1k 16 (t.2++[y]).length).bind fun _=>(some (IntKind.wrap .i64 (t.1+1))).bind fun v14=>some (Ctl.next (v14,t.2++[y]))) (St (fun t:Int×List Z0h=>(t.2.length:Int)≤t.1) (fun t=>t.1) l.length (fun _:List Z0h=>True) t):=fun y=>
   bd gk fun _ _=>bd wr fun k hk=>nx (by simp only [List.length_append,List.length_cons,List.length_nil]; omega)
  exact br (fun _=>nxt _) fun _=>br (fun _=>nxt _) fun _=>bd (Y3p _ ((hw.cls v hm).1.fld f hf).d) fun y _=>nxt y
theorem Zk3 (m:Z09) (n:Int) (hH:m.Z1j.length≤140737488355328):Ok (Z7o m n) (fun b=>b=true→1≤n∧n≤m.Z1j.length):=by
 unfold Z7o
 repeat' first
  | with_reducible refine brD (fun _=>?_) fun _=>?_
  | with_reducible refine bd gr fun _ _=>?_
  | with_reducible refine bd wr fun _ _=>?_
  | with_reducible refine ok ?_
  | (first|(intro h; cases h; done)|(intro h; have:=of_decide_eq_true h; omega)|(intro _; omega))
theorem Zhf (m:Z09) (n:Int) (hH:m.Z1j.length≤140737488355328):Ok (Z7l m n) (fun _=>True):=by
 unfold Z7l
 repeat' with_reducible first
  | refine brE (fun _=>?_) fun _=>?_
  | refine bd (Zk3 _ _ (by first|assumption|omega|exact And.left (by assumption)|(dsimp only; omega))) fun _ _=>?_
  | refine ok ?_
  | exact True.intro
theorem Zck (m:Z09) (v:Z0h) (hH:m.Z1j.length≤140737488355328):Ok (Z6g m v) (fun _=>True):=by
 unfold Z6g
 repeat' with_reducible first
  | refine brD (fun _=>?_) fun _=>?_
  | refine brE (fun _=>?_) fun _=>?_
  | refine bd (Zhf _ _ (by first|assumption|omega|exact And.left (by assumption)|(dsimp only; omega))) fun _ _=>?_
  | refine ok ?_
  | exact True.intro
theorem Zp5 (m:Z09) (n:Int):Ok (Z8h m n) (fun b=>b=true→0≤n∧n<m.Z0r.length):=by
 unfold Z8h
 repeat' first
  | with_reducible refine brD (fun _=>?_) fun _=>?_
  | with_reducible refine ok ?_
  | (first|(intro h; cases h; done)|(intro h; have:=of_decide_eq_true h; omega)|(intro _; omega))
theorem L30x1 (m:Z09) (hH:m.Z1j.length≤140737488355328) (hi:m.Z38.length≤140737488355328):Ok (Z07 (Zmu m) Z08 0) (fun _=>True):=by
 refine li (m.Z38.length) (fun t _ _=>?_) (by omega) (by omega) (by omega)
 unfold Zmu
 repeat' first
  | with_reducible refine nT (Zk3 _ _ (by assumption)) ?_ fun _=>?_
  | with_reducible refine ni ?_ ?_
  | with_reducible refine di ?_
  | with_reducible refine brD (fun _=>?_) fun _=>?_
  | with_reducible refine br (fun _=>?_) fun _=>?_
  | with_reducible refine bd gr fun _ _=>?_
  | with_reducible refine bd wr fun _ _=>?_
  | exact True.intro
  | omega
theorem Y4y (m:Z09) (hH:m.Z1j.length≤140737488355328) (hi:m.Z38.length≤140737488355328):Ok (Zgp m) (fun _=>True):=by
 unfold Zgp
 repeat' first
  | with_reducible refine bd (L30x1 _ (by first|assumption|omega|exact And.left (by assumption)|(dsimp only; omega)) (by first|assumption|omega|exact And.left (by assumption)|(dsimp only; omega))) fun _ _=>?_
  | with_reducible refine ok ?_
  | split
  | assumption
theorem L67x1 (m:Z09) (x y:List Z0h) (hH:m.Z1j.length≤140737488355328) (hx:x.length≤140737488355328) (e:(x.length:Int)=y.length):Ok (Z07 (Zk0 m x y) Z08 0) (fun _=>True):=by
 refine li (x.length) (fun t _ _=>?_) (by omega) (by omega) (by omega)
 unfold Zk0
 repeat' first
  | with_reducible refine ni ?_ ?_
  | with_reducible refine di ?_
  | with_reducible refine brD (fun _=>?_) fun _=>?_
  | with_reducible refine br! (fun _=>?_) fun _=>?_
  | with_reducible refine brN (fun _=>?_) fun _=>?_
  | with_reducible refine bd gr fun _ _=>?_
  | with_reducible refine bd wr fun _ _=>?_
  | with_reducible refine bd (Zck _ _ (by first|assumption|omega|exact And.left (by assumption)|(dsimp only; omega))) fun _ _=>?_
  | exact True.intro
  | omega
theorem Y0n (m:Z09) (x y:List Z0h) (hH:m.Z1j.length≤140737488355328) (hx:x.length≤140737488355328):Ok (Zeg m x y) (fun _=>True):=by
 unfold Zeg
 repeat' with_reducible first
  | refine brN (fun _=>?_) fun _=>?_
  | refine bd (L67x1 _ _ _ (by first|assumption|omega|exact And.left (by assumption)|(dsimp only; omega)) (by first|assumption|omega|exact And.left (by assumption)|(dsimp only; omega)) (by first|assumption|omega|exact And.left (by assumption)|(dsimp only; omega))) fun _ _=>?_
  | refine ok ?_
  | split
  | exact True.intro
theorem L63x2 (k:Int) (o:Z2c) (a:Int) (h0:0≤k) (h1:k<o.Z57.length) (hl:o.Z57.length≤140737488355328):Ok (Z07 (Zh7 k o a) Z08 0) (fun _=>True):=by
 refine li (k) (fun t _ _=>?_) (by omega) (by omega) (by omega)
 unfold Zh7
 repeat' first
  | with_reducible refine ni ?_ ?_
  | with_reducible refine di ?_
  | with_reducible refine brD (fun _=>?_) fun _=>?_
  | with_reducible refine brE (fun _=>?_) fun _=>?_
  | with_reducible refine bd gr fun _ _=>?_
  | with_reducible refine bd wr fun _ _=>?_
  | exact True.intro
  | omega
theorem L63x1 (o:Z2c) (m:Z09) (n:Int) (hl:o.Z57.length≤140737488355328):Ok (Z07 (Zbb o m n) Z08 0) (fun _=>True):=by
 refine li (o.Z57.length) (fun t h0 h1=>?_) (by omega) (by omega) (by omega)
 unfold Zbb j63x2
 exact brD (fun hlt=>bd (gr h0 hlt) fun k hk=>nT (Zp5 _ _) (di trivial) fun ht=>bd (gr ht.1 ht.2) fun _ _=>brN (fun _=>di trivial) fun _=>bd (gr ht.1 ht.2) fun _ _=>bd sm fun _ _=>brN (fun _=>di trivial) fun _=>bd (L63x2 t o k h0 (by omega) hl) fun q _=>match q with
  | .inl _=>bd wr fun _ _=>ni (by omega) (by omega)
  | .inr _=>di trivial) fun _=>di trivial
theorem Y7a (m:Z09) (n:Int) (h:Z41 m) (h0:0≤n) (h1:n<m.Z1j.length):Ok (Z8u m n) (fun _=>True):=by
 have hj:∀ o∈m.Z1j,Ok (Z78 o m n) (fun _=>True):=fun o ho=>by
  unfold Z78
  exact bd (L63x1 o m n (h.heap o ho).ws) fun q _=>match q with
   | .inl _=>ok trivial
   | .inr _=>ok trivial
 unfold Z8u
 refine bd (gr h0 h1) fun o ho=>?_
 have k2:Ok (if (o.Z7p==0)=true then (if (o.Z3g !=0)=true then some false else Z78 o m n) else Z78 o m n) (fun _=>True):=brE (fun _=>brN (fun _=>ok trivial) fun _=>hj o ho) fun _=>hj o ho
 exact brN (fun _=>bd sm fun _ _=>bd (Zp5 _ _) fun _ _=>br! (fun _=>ok trivial) fun _=>brD (fun _=>ok trivial) fun _=>k2) fun _=>k2
theorem Y6n (m:Z09) (o:Z2c) (h:Z41 m) (hv:Z7w m.Z1l) (ho:WObj o):Ok (Zc7 m o) (fun _=>True):=by
 have hH:=h.heapL; have hw:=h.sp; have:=hv.few; have:=ho.val
 unfold Zc7
 repeat' with_reducible first
  | refine brD (fun _=>?_) fun _=>?_
  | refine br (fun _=>?_) fun _=>?_
  | refine bd gr fun _ _=>?_
  | refine bd (Y5v _ _ (by first|assumption|omega|exact And.left (by assumption)|(dsimp only; omega)) (by first|assumption|omega|exact And.left (by assumption)|(dsimp only; omega)) (by first|assumption|omega|exact And.left (by assumption)|(dsimp only; omega))) fun _ _=>?_
  | refine bd (Y0n _ _ _ (by first|assumption|omega|exact And.left (by assumption)|(dsimp only; omega)) (by first|assumption|omega|exact And.left (by assumption)|(dsimp only; omega))) fun _ _=>?_
  | refine bs ?_
  | refine ok ?_
  | exact True.intro
theorem Y5h (t:Z3f):Ok (Zm9 t) (fun _=>True):=by
 unfold Zm9
 repeat' with_reducible first
  | refine bd sm fun _ _=>?_
  | refine brD (fun _=>?_) fun _=>?_
  | refine ok ?_
  | exact True.intro
theorem Y81 (w:Z0v) (t:Z3f):Ok (Zjh w t) (fun _=>True):=by
 unfold Zjh
 repeat' with_reducible first
  | unfold j95x1
  | refine brD (fun _=>?_) fun _=>?_
  | refine brE (fun _=>?_) fun _=>?_
  | refine ok ?_
  | exact True.intro
theorem Y59 (t:Z3f):Ok (Zle t) (fun _=>True):=by
 unfold Zle
 repeat' with_reducible first
  | unfold Zii
  | refine brE (fun _=>?_) fun _=>?_
  | refine ok ?_
  | exact True.intro
theorem L64x1 (e:Z3f×Bool) (m:Z09) (o:Z2c) (hH:m.Z1j.length≤140737488355328) (ho:o.Z4s.length≤140737488355328):Ok (Z07 (Zji e m o) Z08 0) (fun _=>True):=by
 refine li (o.Z4s.length) (fun t _ _=>?_) (by omega) (by omega) (by omega)
 unfold Zji
 repeat' first
  | with_reducible refine ni ?_ ?_
  | with_reducible refine di ?_
  | with_reducible refine brD (fun _=>?_) fun _=>?_
  | with_reducible refine br! (fun _=>?_) fun _=>?_
  | with_reducible refine brN (fun _=>?_) fun _=>?_
  | with_reducible refine bd gr fun _ _=>?_
  | with_reducible refine bd wr fun _ _=>?_
  | with_reducible refine bd (Y59 _) fun _ _=>?_
  | with_reducible refine bd (Zck _ _ (by first|assumption|omega|exact And.left (by assumption)|(dsimp only; omega))) fun _ _=>?_
  | exact True.intro
  | omega
theorem Y83 (m:Z09) (o:Z2c) (h:Z41 m) (ho:WObj o):Ok (Zdc m o) (fun _=>True):=by
 have hH:=h.heapL; have:=ho.val
 unfold Zdc
 repeat' first
  | unfold j64x1
  | with_reducible refine bd (Y5h _) fun _ _=>?_
  | with_reducible refine bd (Y81 _ _) fun _ _=>?_
  | with_reducible refine bd (L64x1 _ _ _ (by first|assumption|omega|exact And.left (by assumption)|(dsimp only; omega)) (by first|assumption|omega|exact And.left (by assumption)|(dsimp only; omega))) fun _ _=>?_
  | with_reducible refine ok ?_
  | split
  | assumption
theorem Y4z (w:Z0v) (l:Int) (s:List UInt8) (hw:Z5f w):Ok (Zk2 w l s) (fun _=>True):=by
 unfold Zk2
 repeat' first
  | with_reducible refine bd (Y4o _ _ _ (by first|assumption|omega|exact And.left (by assumption)|(dsimp only; omega))) fun _ _=>?_
  | with_reducible refine ok ?_
  | assumption
theorem Y5b (m:Z09) (o:Z2c) (h:Z41 m):Ok (Zh6 m o) (fun _=>True):=by
 have hw:=h.sp
 unfold Zh6
 repeat' first
  | with_reducible refine br (fun _=>?_) fun _=>?_
  | with_reducible refine bd (Y4z _ _ _ (by first|assumption|omega|exact And.left (by assumption)|(dsimp only; omega))) fun _ _=>?_
  | with_reducible refine ok ?_
  | assumption
theorem Y5x (m:Z09) (n:Int) (h:Z41 m) (hv:Z7w m.Z1l) (h0:0≤n) (h1:n<m.Z1j.length):Ok (Z7u m n) (fun _=>True):=by
 unfold Z7u
 repeat' with_reducible first
  | refine bd (Y6n _ _ h hv (h.heap _ (by assumption))) fun _ _=>?_
  | refine bd (Y83 _ _ h (h.heap _ (by assumption))) fun _ _=>?_
  | refine br (fun _=>?_) fun _=>?_
  | refine bd gr fun _ _=>?_
  | refine bd (Y7a _ _ (by first|assumption|omega|exact And.left (by assumption)|(dsimp only; omega)) (by first|assumption|omega|exact And.left (by assumption)|(dsimp only; omega)) (by first|assumption|omega|exact And.left (by assumption)|(dsimp only; omega))) fun _ _=>?_
  | refine bd (Y5b _ _ (by first|assumption|omega|exact And.left (by assumption)|(dsimp only; omega))) fun _ _=>?_
  | refine ok ?_
  | exact True.intro
theorem Y6e (m:Z09) (n:Int) (h:Z41 m) (hv:Z7w m.Z1l) (h0:0≤n) (h1:n<m.Z3n.length):Ok (Z7t m n) (fun _=>True):=by
 have hH:=h.heapL; have hw:=h.sp
 unfold Z7t
 repeat' with_reducible first
  | unfold Z9l
  | refine brD (fun _=>?_) fun _=>?_
  | refine br! (fun _=>?_) fun _=>?_
  | refine brE (fun _=>?_) fun _=>?_
  | refine brN (fun _=>?_) fun _=>?_
  | refine bd gr fun _ _=>?_
  | refine bd (Zp5 _ _) fun _ _=>?_
  | refine bd (Yac _ _ (by first|assumption|omega|exact And.left (by assumption)|(dsimp only; omega)) (by first|assumption|omega|exact And.left (by assumption)|(dsimp only; omega))) fun _ _=>?_
  | refine bd (Y0n _ _ _ (by first|assumption|exact h.ini _ (by assumption)) (by first|assumption|exact h.ini _ (by assumption))) fun _ _=>?_
  | refine ok ?_
  | exact True.intro
theorem L100x1 (l:List Int) (n:Int) (hl:l.length≤140737488355328):Ok (Z07 (Zke l n) Z08 0) (fun _=>True):=by
 refine li (l.length) (fun t _ _=>?_) (by omega) (by omega) (by omega)
 unfold Zke
 repeat' first
  | with_reducible refine ni ?_ ?_
  | with_reducible refine di ?_
  | with_reducible refine brD (fun _=>?_) fun _=>?_
  | with_reducible refine brE (fun _=>?_) fun _=>?_
  | with_reducible refine bd gr fun _ _=>?_
  | with_reducible refine bd wr fun _ _=>?_
  | exact True.intro
  | omega
theorem Y66 (l:List Int) (n:Int) (hl:l.length≤140737488355328):Ok (Zhe l n) (fun _=>True):=by
 unfold Zhe
 repeat' first
  | with_reducible refine bd (L100x1 _ _ (by first|assumption|omega|exact And.left (by assumption)|(dsimp only; omega))) fun _ _=>?_
  | with_reducible refine ok ?_
  | split
  | assumption
theorem Y6g (m:Z09) (n:Int) (h:Z41 m) (h0:0≤n) (h1:n<m.Z0r.length):Ok (Zb8 m n) (fun _=>True):=by
 have hH:=h.heapL
 unfold Zb8
 repeat' with_reducible first
  | refine nF (Zk3 _ _ (by assumption)) ?_ fun _=>?_
  | unfold j69x1
  | unfold j69x2
  | refine brD (fun _=>?_) fun _=>?_
  | refine brE (fun _=>?_) fun _=>?_
  | refine bd gr fun _ _=>?_
  | refine bd wr fun _ _=>?_
  | refine bd (Y66 _ _ (by exact (h.heap _ (by assumption)).ws)) fun _ _=>?_
  | refine ok ?_
  | exact True.intro
theorem L83x1 (m:Z09) (x:List Z0h) (b:Bool) (hH:m.Z1j.length≤140737488355328) (hx:x.length≤140737488355328):Ok (Z07 (Z8e m x b) Z08 0) (fun _=>True):=by
 refine li (x.length) (fun t _ _=>?_) (by omega) (by omega) (by omega)
 unfold Z8e
 repeat' first
  | with_reducible refine ni ?_ ?_
  | with_reducible refine di ?_
  | with_reducible refine brD (fun _=>?_) fun _=>?_
  | with_reducible refine br! (fun _=>?_) fun _=>?_
  | with_reducible refine brE (fun _=>?_) fun _=>?_
  | with_reducible refine bd gr fun _ _=>?_
  | with_reducible refine bd wr fun _ _=>?_
  | with_reducible refine bd (Zck _ _ (by first|assumption|omega|exact And.left (by assumption)|(dsimp only; omega))) fun _ _=>?_
  | exact True.intro
  | omega
theorem Y9u (m:Z09) (x:List Z0h) (b:Bool) (hH:m.Z1j.length≤140737488355328) (hx:x.length≤140737488355328):Ok (Za8 m x b) (fun _=>True):=by
 unfold Za8
 repeat' first
  | with_reducible refine bd (L83x1 _ _ _ (by first|assumption|omega|exact And.left (by assumption)|(dsimp only; omega)) (by first|assumption|omega|exact And.left (by assumption)|(dsimp only; omega))) fun _ _=>?_
  | with_reducible refine ok ?_
  | split
  | assumption
theorem Y2m (m:Z09) (a:Z0x) (hH:m.Z1j.length≤140737488355328) (ha:Z73 a):Ok (Z4e m a) (fun _=>True):=by
 have:=ha.loc; have:=ha.stk
 unfold Z4e
 repeat' with_reducible first
  | unfold Zfm
  | unfold Zf2
  | unfold Zi1
  | refine brD (fun _=>?_) fun _=>?_
  | refine br (fun _=>?_) fun _=>?_
  | refine bd gr fun _ _=>?_
  | refine bd (Zhf _ _ (by first|assumption|omega|exact And.left (by assumption)|(dsimp only; omega))) fun _ _=>?_
  | refine bd (Y9u _ _ _ (by first|assumption|omega|exact And.left (by assumption)|(dsimp only; omega)) (by first|assumption|omega|exact And.left (by assumption)|(dsimp only; omega))) fun _ _=>?_
  | refine ok ?_
  | exact True.intro
theorem allL {n:Nat} (hn:n≤140737488355328) (g:Int→Option Bool) {f:Int→Option (Ctl Int (Unit⊕Bool))} (hg:∀ t:Int,0≤t→t<n→Ok (g t) fun _=>True)
  (hf:∀ t,f t=if decide (t<(n:Int))=true then ((g t).bind fun v=>if (!v)=true then some (.done (.inr false)) else ((some (IntKind.wrap .i64 (t+1))).bind fun k=>some (.next k))) else some (.done (.inl ()))):
  Ok (Z07 f Z08 0) (fun q=>(q=.inl ()∧∀ t:Int,0≤t→t<n→g t=some true)∨(q=.inr false∧∃ t:Int,0≤t∧t<n∧g t=some false)):=by
 refine lp (fun t=>t) n (fun t=>∀ j:Int,0≤j→j<t→g j=some true) (fun t hI h0 h1=>?_) (by omega) (fun j h h'=>by omega) (by omega) (by omega)
 rw [hf]
 refine brD (fun hlt=>?_) fun hge=>dn (.inl ⟨rfl,fun j h h'=>hI j h (by omega)⟩)
 obtain ⟨b,hb,_⟩:=hg t h0 hlt
 rw [hb]
 cases b with
 | false=>exact ⟨_,rfl,.inr ⟨rfl,t,h0,hlt,hb⟩⟩
 | true=>
  refine bs (br! (fun h=>by cases h) fun _=>bd wr fun k hk=>nx (fun j hj hj'=>?_) (by omega) (by omega))
  rcases Int.lt_or_le j t with h|h
  ·exact hI j hj h
  ·rw [show j=t by omega]; exact hb
theorem Zlu {n:Nat} (hn:n≤140737488355328) (g:Int→Option Bool) {f:Int→Option (Ctl Int (Unit⊕Bool))} (hg:∀ t:Int,0≤t→t<n→g t=some true)
  (hf:∀ t,f t=if decide (t<(n:Int))=true then ((g t).bind fun v=>if (!v)=true then some (.done (.inr false)) else ((some (IntKind.wrap .i64 (t+1))).bind fun k=>some (.next k))) else some (.done (.inl ()))):
  Z07 f Z08 0=some (.inl ()):=by
 obtain ⟨q,e,h⟩:=allL hn g (fun t h h'=>ok' (hg t h h') trivial) hf
 rcases h with ⟨rfl,_⟩|⟨_,t,h0,h1,h2⟩
 ·exact e
 ·rw [hg t h0 h1] at h2; cases h2
theorem acts_ok (m:Z09) (t:Z1i) (hH:m.Z1j.length≤140737488355328) (ha:∀ a∈t.Z0w,Z73 a) (hl:t.Z0w.length≤140737488355328):
  Ok (Z7s t m) (fun b=>b=true→∀ a∈t.Z0w,Z4e m a=some true):=by
 unfold Z7s
 refine bd (allL hl (fun i=>(Z01 t.Z0w i).bind (Z4e m)) (fun i h0 h1=>bd (gr h0 h1) fun a hm=>Y2m m a hH (ha a hm)) fun i=>?_) fun q hq=>?_
 ·unfold Zhb
  split
  ·rw [Option.bind_assoc]
  ·rfl
 ·rcases hq with ⟨rfl,h⟩|⟨rfl,_⟩
  ·refine ok fun _ a hm=>?_
   obtain ⟨i,hi⟩:=List.getElem?_of_mem hm
   have hlt:i<t.Z0w.length:=(List.getElem?_eq_some_iff.1 hi).1
   have:=h i (by omega) (by omega)
   obtain ⟨a',e,_,hx⟩:=gri (l:=t.Z0w) (i:=(i:Int)) (by omega) (by omega)
   rw [e] at this
   simp only [Int.toNat_natCast] at hx
   rw [hi] at hx
   cases hx
   exact this
  ·exact ok fun h=>by cases h
theorem Zzi (m:Z09) (n:Int) (h:Z41 m) (h0:0≤n) (h1:n<m.Z0r.length):Ok (Z7j m n) (fun b=>b=true→∀ t,Z01 m.Z0r n=some t→t.Z0w.length≤64∧∀ a∈t.Z0w,Z4e m a=some true):=by
 have hH:=h.heapL
 unfold Z7j
 refine bdE (gr h0 h1) fun t e hm=>bd (Y6g m n h h0 h1) fun _ _=>br! (fun _=>ok fun h=>by cases h) fun _=>bd (Zhf _ _ hH) fun _ _=>br! (fun _=>ok fun h=>by cases h) fun _=>bd (Zhf _ _ hH) fun _ _=>br! (fun _=>ok fun h=>by cases h) fun _=>bd (Zck _ _ hH) fun _ _=>br! (fun _=>ok fun h=>by cases h) fun _=>brD (fun _=>ok fun h=>by cases h) fun hle=>?_
 have hj:Ok (Z7s t m) (fun b=>b=true→∀ t',Z01 m.Z0r n=some t'→t'.Z0w.length≤64∧∀ a∈t'.Z0w,Z4e m a=some true):=
  (acts_ok m t hH (h.thr t hm).1 (h.thr t hm).2).mono fun b hb hbt t' ht'=>by
   rw [e] at ht'; cases ht'
   exact ⟨by omega,hb hbt⟩
 have hf:Ok (some false) (fun b=>b=true→∀ t',Z01 m.Z0r n=some t'→t'.Z0w.length≤64∧∀ a∈t'.Z0w,Z4e m a=some true):=ok fun h=>by cases h
 unfold Zd0
 exact brE (fun _=>brD (fun _=>hf) fun _=>brN (fun _=>brN (fun _=>hf) fun _=>br! (fun _=>hf) fun _=>hj) fun _=>hj) fun _=>brN (fun _=>brN (fun _=>hf) fun _=>br! (fun _=>hf) fun _=>hj) fun _=>hj
structure Z5u (m:Z09):Prop where
 sp:Zea m.Z1l=some true
 vok:Z7w m.Z1l
 max0:0≤m.Z5a
 max1:m.Z5a≤5000
 heap:m.Z1j.length≤5000
 init:m.Z3n.length≤m.Z1l.Z1a.length
 thr:m.Z0r.length≤8
 txt:Zgp m=some true
 obj:∀ t,0≤t→t<(m.Z1j.length:Int)→Z7u m t=some true
 beg:∀ t,0≤t→t<(m.Z3n.length:Int)→Z7t m t=some true
 run:∀ t,0≤t→t<(m.Z0r.length:Int)→Z7j m t=some true
theorem valid36 (m:Z09) (h:Z41 m):Ok (Zai m) (fun b=>b=true→Z5u m):=by
 have hf:Ok (some false) (fun b=>b=true→Z5u m):=ok fun h=>by cases h
 unfold Zai
 refine bdE (Y92 m.Z1l h.sp) fun b e hb=>?_
 cases b with
 | false=>exact hf
 | true=>
 have hv:=hb rfl
 refine br! (fun _=>hf) fun _=>brD (fun _=>hf) fun k1=>brD (fun _=>hf) fun k2=>brD (fun _=>hf) fun k3=>brD (fun _=>hf) fun k4=>brD (fun _=>hf) fun k5=>bdE (Y4y m h.heapL h.intL) fun b2 e2 _=>?_
 cases b2 with
 | false=>exact hf
 | true=>
 refine br! (fun _=>hf) fun _=>?_
 unfold j9x1
 refine bd (allL h.heapL (Z7u m) (fun t a b=>(Y5x m t h hv a b).mono fun _ _=>trivial) fun t=>by unfold l9x1; rfl) fun q1 hq1=>?_
 rcases hq1 with ⟨rfl,o1⟩|⟨rfl,_⟩
 rotate_left
 ·exact hf
 refine bd (allL h.iniL (Z7t m) (fun t a b=>(Y6e m t h hv a b).mono fun _ _=>trivial) fun t=>by unfold l9x2; rfl) fun q2 hq2=>?_
 rcases hq2 with ⟨rfl,o2⟩|⟨rfl,_⟩
 rotate_left
 ·exact hf
 refine bd (allL h.thrL (Z7j m) (fun t a b=>(Zzi m t h a b).mono fun _ _=>trivial) fun t=>by unfold l9x3; rfl) fun q3 hq3=>?_
 rcases hq3 with ⟨rfl,o3⟩|⟨rfl,_⟩
 rotate_left
 ·exact hf
 exact ok fun _=>⟨e,hv,by omega,by omega,by omega,by omega,by omega,e2,o1,o2,o3⟩
theorem Z5u.valid {m:Z09} (h:Z41 m) (v:Z5u m):Zai m=some true:=by
 unfold Zai j9x1
 rw [v.sp,v.txt,Zlu h.heapL (Z7u m) v.obj (fun t=>by unfold l9x1; rfl),Zlu h.iniL (Z7t m) v.beg (fun t=>by unfold l9x2; rfl),Zlu h.thrL (Z7j m) v.run (fun t=>by unfold l9x3; rfl)]
 have:=v.max0; have:=v.max1; have:=v.heap; have:=v.init; have:=v.thr
 simp only [Option.bind_some,Bool.not_true,Bool.false_eq_true,if_false]
 rw [if_neg (by simpa using v.max0),if_neg (by simpa using v.max1),if_neg (by simp; omega),if_neg (by simp; omega),if_neg (by simp; omega)]
theorem Z5u.acts {m:Z09} (h:Z41 m) (v:Z5u m) {n:Int} {t:Z1i} (h0:0≤n) (ht:Z01 m.Z0r n=some t) (h1:n<m.Z0r.length):t.Z0w.length≤64∧∀ a∈t.Z0w,Z4e m a=some true:=by
 obtain ⟨b,e,hb⟩:=Zzi m n h h0 h1
 rw [v.run n h0 h1] at e
 cases e
 exact hb rfl t ht
end Go.Proofs
namespace Go.Proofs
open Go.Den
end Go.Proofs
namespace Go.Proofs
open Go.Den
theorem Zxb {n:Nat} (b:Nat) (h:n*b≤140737488355328) (hb:1≤b):Z1k b n=some ():=by
 unfold Z1k
 have:n≤n*b:=Nat.le_mul_of_pos_right n hb
 rw [if_pos ⟨by omega,h⟩]
end Go.Proofs
namespace Go.Proofs
open Go.Den Go.Tot
namespace I
variable {α β:Type} {P:α→Prop} {Q:β→Prop}
end I
theorem Zmk {α:Type} {l:List α} {i:Int} {v:α} (h:Z01 l i=some v):v∈l∧0≤i∧l[i.toNat]?=some v:=by
 unfold Z01 at h
 split at h
 ·exact ⟨List.mem_of_getElem? h,by assumption,h⟩
 ·cases h
end Go.Proofs
namespace Go.Proofs
open Go.Den Go.Tot
theorem Y6m (m:Z09) (n:Int):Zs2 m n=Z7o m n:=rfl
theorem Zyi (m:Z09) (n:Int) (hH:m.Z1j.length≤140737488355328):∃ b o,Z7o m n=some b∧Zbq m n=some (o,b):=by
 obtain ⟨b,e,hb⟩:=Zk3 m n hH
 unfold Zbq
 rw [Y6m,e]
 cases b with
 | false=>exact ⟨_,_,rfl,rfl⟩
 | true=>
  obtain ⟨h1,h2⟩:=hb rfl
  simp only [Option.bind_some,Bool.not_true,Bool.false_eq_true,if_false]
  rw [Zax (by omega) (by omega)]
  obtain ⟨o,e2,_⟩:=gr (l:=m.Z1j) (i:=n - 1) (by omega) (by omega)
  simp only [Option.bind_some,e2]
  exact ⟨_,_,rfl,rfl⟩
theorem wrap32 (n:Int):IntKind.wrap .i32 n=(n+2147483648) % 4294967296 - 2147483648:=by
 show (if (true&&decide (n % 4294967296≥2147483648))=true then n % 4294967296 - 4294967296 else n % 4294967296)=_
 rw [Bool.true_and]
 by_cases h:n % 4294967296≥2147483648
 ·rw [if_pos (decide_eq_true h)]; omega
 ·rw [if_neg (by simpa using h)]; omega
theorem Y20 (m:Z09) (v:Z0h) (hH:m.Z1j.length≤140737488355328):Zcb m v=Z6g m v:=by
 unfold Zcb Z6g
 split
 ·rfl
 split
 ·simp only [Option.bind_some]
  rw [wrap32,Zax (by omega) (by omega)]
  by_cases h1:v.f_N≥ -2147483648
  ·rw [if_pos (decide_eq_true h1)]
   congr 1
   by_cases h2:v.f_N<2147483648
   ·rw [decide_eq_true h2,beq_iff_eq]; omega
   ·rw [decide_eq_false h2,beq_eq_false_iff_ne]; omega
  ·rw [if_neg (by simpa using h1)]
   congr 1
   rw [beq_eq_false_iff_ne]; omega
 split
 ·rfl
 obtain ⟨b,o,e1,e2⟩:=Zyi m v.f_N hH
 rw [e2]
 simp only [Option.bind_some]
 split
 ·unfold Z7l
  rw [e1]
  cases b with
  | true=>by_cases h:v.f_N=0 <;> simp [h]
  | false=>by_cases h:v.f_N=0 <;> simp [h]
 ·rfl
end Go.Proofs
