/-
  That the models come to an answer: machines. No condition.
-/
import Derived.Test.YtiogflechpgdiaaGreatCalT10
set_option linter.unusedVariables false
namespace Go.Proofs
open Go.Den Go.Tot
structure WObj (o:Z2j):Prop where
 val:o.Z55.length≤140737488355328
 str:Str o.Z49
 ws:o.Z5t.length≤140737488355328
structure WAct (a:Z1b):Prop where
 loc:a.Z0g.length≤140737488355328
 stk:a.Z0e.length≤140737488355328
structure Z57 (m:Z0b):Prop where
 sp:Z5b m.Z1e
 heap:∀ o∈m.Z1y,WObj o
 heapL:m.Z1y.length≤140737488355328
 ini:∀ b∈m.Z3v,b.Zbv.length≤140737488355328
 iniL:m.Z3v.length≤140737488355328
 int:∀ x∈m.Z44,Str x.Z49
 intL:m.Z44.length≤140737488355328
 thr:∀ t∈m.Z11,(∀ a∈t.Z1v,WAct a)∧t.Z1v.length≤140737488355328
 thrL:m.Z11.length≤140737488355328
 outL:m.Z74.length≤140737488355328
theorem nT {α:Type} {o:Option Bool} {R:Prop} {P:α→Prop} {x y:Option α} (h:Ok o fun b=>b=true→R) (F:Ok x P) (T:R→Ok y P):Ok (o.bind fun v=>if (!v)=true then x else y) P:=
 bd h fun _ hb=>br! (fun _=>F) fun e=>T (hb e)
theorem nF {α:Type} {o:Option Bool} {R:Prop} {P:α→Prop} {x y:Option α} (h:Ok o fun b=>b=true→R) (F:Ok x P) (T:R→Ok y P):Ok (o.bind fun v=>if v=true then y else x) P:=
 bd h fun _ hb=>br (fun e=>T (hb e)) fun _=>F
theorem take4n (s:List UInt8) (hs:Str s):Ok (Z8e s 0) (fun r=>Str r.1.Z0f):=by
 unfold Z8e
 refine bd (P:=fun q:Int×Int=>0≤q.2∧q.2≤(s.length:Int)∧0≤q.1∧q.1≤4503599627370496) (lp (fun t=>t.1) s.length (fun t=>0≤t.2∧t.2≤t.1) (fun t hI g0 g1=>?_) (by omega) ⟨by omega,by omega⟩ (by omega) (by omega)) fun q hq=>?_
 ·unfold Zc0 Zg3
  refine brD (fun hlt=>bd gs fun _ _=>brE (fun _=>bd wr fun _ _=>bd wr fun _ _=>nx ?_ ?_ ?_) fun _=>dn ?_) fun _=>dn ?_ <;> dsimp only <;> omega
 ·obtain ⟨q1,q2⟩:=q
  dsimp only at hq ⊢
  have j2:∀ (v:Int) (p0:List UInt8) (p1:Int),Str p0→Ok (Z93 (q1,q2) v p0 p1) (fun r=>Str r.1.Z0f):=fun v p0 p1 g1=>by
   unfold Z93
   exact bd (Zj6 _ g1) fun b _=>br! (fun _=>ok (by simp)) fun _=>ok g1
  refine brD (fun _=>ok (by simp)) fun _=>bd gs fun v5 _=>bd wr fun v6 h6=>brE (fun _=>?_) fun _=>j2 _ _ _ (by simp)
  refine bd (P:=fun q:Int=>v6≤q∧q≤(s.length:Int)) (lp (fun t=>t) s.length (fun t=>v6≤t) (fun t hI g0 g1=>?_) (by omega) (by omega) (by omega) (by omega)) fun q hq2=>?_
  ·unfold Zb9
   exact brD (fun hlt=>bd gs fun _ _=>brN (fun _=>bd wr fun _ _=>nx (by omega) (by omega) (by omega)) fun _=>dn ⟨by omega,by omega⟩) fun _=>dn ⟨by omega,by omega⟩
  ·exact brD (fun _=>ok (by simp)) fun _=>bd (sb (by omega) (by omega) (by omega)) fun v11 h11=>bd wr fun v12 h12=>j2 _ _ _ (by have:=h11.1; unfold Str at *; omega)
theorem parse4n (s:List UInt8) (hs:Str s):Ok (Z7i s) (fun r=>Str r.1.Z0f):=by
 unfold Z7i
 exact bd (take4n s hs) fun v hv=>brN (fun _=>ok (by simp)) fun _=>ok hv
theorem Y7n (y:Z0i) (ht:Str y.Z0f):Ok (Z9p y) (fun _=>True):=by
 unfold Z9p
 repeat' with_reducible first
  | unfold Zmz
  | unfold Zj9
  | refine brD (fun _=>?_) fun _=>?_
  | refine br! (fun _=>?_) fun _=>?_
  | refine brE (fun _=>?_) fun _=>?_
  | refine bd (Zj6 _ (by first|assumption|omega|exact And.left (by assumption)|(dsimp only; omega))) fun _ _=>?_
  | refine ok ?_
  | exact True.intro
theorem Zxu (s:List UInt8) (hs:Str s):Ok (Zfq s) (fun _=>True):=by
 unfold Zfq
 repeat' with_reducible first
  | refine brN (fun _=>?_) fun _=>?_
  | refine bd (parse4n _ (by first|assumption|omega|exact And.left (by assumption)|(dsimp only; omega))) fun _ _=>?_
  | refine bd (Y7n _ (by first|assumption|omega|exact And.left (by assumption)|(dsimp only; omega))) fun _ _=>?_
  | refine ok ?_
  | exact True.intro
theorem Y0f (w:Z0w) (c:Int):Ok (Zhn w c) (fun b=>b=true→0≤c∧c<w.Z0x.length):=by
 unfold Zhn
 repeat' first
  | with_reducible refine brD (fun _=>?_) fun _=>?_
  | with_reducible refine ok ?_
  | (first|(intro h; cases h; done)|(intro h; have:=of_decide_eq_true h; omega))
def Zcd (w:Z0w) (x:Z2z):Prop:=0≤x.Z0u∧x.Z0u<w.Z0x.length∧0≤x.Z2m∧∀ v,Z02 w.Z0x x.Z0u=some v→x.Z2m<v.Z1j.Z1d.length
theorem Zuw (w:Z0w) (hv:Z7x w) (c:Int) (s:Bool) (h0:0≤c) (h1:c<w.Z0x.length):Ok (Zfm w c s) (fun r=>r.length≤64∧∀ x∈r,Zcd w x∧x.Z0u=c):=by
 unfold Zfm
 refine bdE (gri h0 h1) fun v e hc=>?_
 have hf:=(hv.cls _ v hc.2).few.2.1
 refine bd (P:=fun q:List Z2z=>q.length≤64∧∀ x∈q,Zcd w x∧x.Z0u=c) (lp (fun t=>t.1) v.Z1j.Z1d.length (fun t=>(t.2.length:Int)≤t.1∧∀ x∈t.2,Zcd w x∧x.Z0u=c) (fun t hI g0 g1=>?_) (by omega) ⟨by simp,fun x hx=>by cases hx⟩ (by omega) (by dsimp only; omega)) fun q hq=>ok hq
 obtain ⟨i1,i2⟩:=hI
 unfold Zpu
 refine brD (fun hlt=>bd (gr (by omega) hlt) fun _ _=>bd sm fun _ _=>br (fun _=>bd gk fun _ _=>bd wr fun k hk=>nx ⟨by simp only [List.length_append,List.length_cons,List.length_nil]; omega,fun x hx=>?_⟩) fun _=>bd wr fun k hk=>nx ⟨by dsimp only; omega,i2⟩) fun _=>dn ⟨by omega,i2⟩
 rcases List.mem_append.1 hx with h|h
 ·exact i2 x h
 ·rcases List.mem_singleton.1 h with rfl
  exact ⟨⟨h0,h1,g0,fun v' h'=>by rw [e] at h'; cases h'; exact hlt⟩,rfl⟩
theorem Y2q (w:Z0w) (hv:Z7x w):∀ (nn:Nat) (c:Int),c+2≤nn→1≤nn→c≤1000000→Ok (Zf0 nn w c) (fun r=>(c<0→r=[])∧(0≤c→(r.length:Int)≤64*(c+1))∧∀ x∈r,Zcd w x)
 | nn+1,c,h,_,hb=>by
  have hfew:=hv.few
  unfold Zf0
  refine bd (Y0f w c) fun b hb=>br! (fun _=>ok ⟨fun _=>rfl,fun h=>by simp; omega,fun x hx=>by cases hx⟩) fun ht=>?_
  obtain ⟨h0,h1⟩:=hb ht
  refine bdE (gri h0 h1) fun v e hc=>?_
  have hs:=(hv.cls _ v hc.2).sup
  refine bd (Y2q w hv nn v.Z21 (by omega) (by omega) (by omega)) fun l hl=>?_
  obtain ⟨l1,l2,l3⟩:=hl
  have hlen:(l.length:Int)≤64*c:=by
   rcases hs with h|h
   ·rw [l1 (by omega)]; simp; omega
   ·have:=l2 h.1; omega
  refine bd (gk (by simp only [List.nil_append]; omega) (by simp only [List.nil_append]; omega)) fun _ _=>bd (Zuw w hv c false h0 h1) fun o ho=>bd (gk (by simp only [List.nil_append,List.length_append]; omega) (by simp only [List.nil_append,List.length_append]; omega)) fun _ _=>ok ⟨fun h=>by omega,fun _=>by simp only [List.nil_append,List.length_append]; omega,fun x hx=>?_⟩
  simp only [List.nil_append] at hx
  rcases List.mem_append.1 hx with h|h
  ·exact l3 x h
  ·exact (ho.2 x h).1
theorem Y00 {α:Type} {P:α→Prop} {w:Z0w} (hw:Z5b w) {x:Z2z} (hx:Zcd w x) {f:Z26→Option α} (h:∀ v,v∈w.Z0x→x.Z2m<v.Z1j.Z1d.length→Ok (f v) P):Ok ((Z02 w.Z0x x.Z0u).bind f) P:=
 bdE (gr hx.1 hx.2.1) fun v e hm=>h v hm (hx.2.2.2 v e)
theorem Y8d (w:Z0w) (c:Int) (hw:Z5b w) (hv:Z7x w) (hc:c≤1000000):Ok (Zki w c) (fun _=>True):=by
 unfold Zki
 have hr:(Z07:Int)=18446744073709551616:=rfl
 refine bd (Y2q w hv Z07 c (by omega) (by unfold Z07; omega) hc) fun l hl=>?_
 obtain ⟨l1,l2,l3⟩:=hl
 have hlen:(l.length:Int)≤64000064:=by
  rcases Int.lt_or_le c 0 with h|h
  ·rw [l1 h]; simp
  ·have:=l2 h; omega
 refine bd (P:=fun _=>True) (lp (fun t=>t.1) l.length (fun t=>(t.2.length:Int)≤t.1) (fun t hI g0 g1=>?_) (by omega) (by simp) (by omega) (by dsimp only; omega)) fun q _=>ok trivial
 unfold l93x1
 refine brD (fun hlt=>bdE (gr (by omega) hlt) fun s e hs=>Y00 hw (l3 s hs) fun v hm hi=>?_) fun _=>dn trivial
 rw [e]
 refine bs (bd (gr (l3 s hs).2.2.1 hi) fun f hf=>bd (Zxu _ ((hw.cls v hm).1.fld f hf).d) fun _ _=>bd gk fun _ _=>bd wr fun k hk=>nx (by simp only [List.length_append,List.length_cons,List.length_nil]; omega))
theorem Y3x (w:Z0w) (c:Int) (hw:Z5b w) (hv:Z7x w):Ok (Zoq w c) (fun _=>True):=by
 unfold Zoq Zu6
 refine bd (P:=fun l:List Z2z=>l.length≤64∧∀ x∈l,Zcd w x∧x.Z0u=c) ?_ fun l hl=>?_
 ·refine bd (Y0f w c) fun b hb=>br! (fun _=>ok ⟨by simp,fun x hx=>by cases hx⟩) fun ht=>?_
  exact bd (Zuw w hv c true (hb ht).1 (hb ht).2) fun r hr=>ok hr
 ·refine bd (P:=fun _=>True) (lp (fun t=>t.1) l.length (fun t=>(t.2.length:Int)≤t.1) (fun t hI g0 g1=>?_) (by omega) (by simp) (by omega) (by dsimp only; omega)) fun q _=>ok trivial
  have hl1:=hl.1
  unfold l68x1
  refine brD (fun hlt=>?_) fun _=>dn trivial
  obtain ⟨s,hs,hsm⟩:=gr (l:=l) g0 hlt
  obtain ⟨k1,k2⟩:=hl.2 s hsm
  subst k2
  refine Y00 hw k1 fun v hm hi=>?_
  rw [hs]
  refine bs (bd (gr k1.2.2.1 hi) fun f hf=>?_)
  have nxt:∀ y:Z0d,Ok ((Z0y 16 (t.2++[y]).length).bind fun _=>(some (IntKind.wrap .i64 (t.1+1))).bind fun v14=>some (Ctl.next (v14,t.2++[y]))) (St (fun t:Int×List Z0d=>(t.2.length:Int)≤t.1) (fun t=>t.1) l.length (fun _:List Z0d=>True) t):=fun y=>
   bd gk fun _ _=>bd wr fun k hk=>nx (by simp only [List.length_append,List.length_cons,List.length_nil]; omega)
  exact br (fun _=>nxt _) fun _=>br (fun _=>nxt _) fun _=>bd (Zxu _ ((hw.cls v hm).1.fld f hf).d) fun y _=>nxt y
theorem Zk6 (m:Z0b) (n:Int) (hH:m.Z1y.length≤140737488355328):Ok (Z6u m n) (fun b=>b=true→1≤n∧n≤m.Z1y.length):=by
 unfold Z6u
 repeat' first
  | with_reducible refine brD (fun _=>?_) fun _=>?_
  | with_reducible refine bd gr fun _ _=>?_
  | with_reducible refine bd wr fun _ _=>?_
  | with_reducible refine ok ?_
  | (first|(intro h; cases h; done)|(intro h; have:=of_decide_eq_true h; omega)|(intro _; omega))
theorem Zkm (m:Z0b) (n:Int) (hH:m.Z1y.length≤140737488355328):Ok (Z9z m n) (fun _=>True):=by
 unfold Z9z
 repeat' with_reducible first
  | refine brE (fun _=>?_) fun _=>?_
  | refine bd (Zk6 _ _ (by first|assumption|omega|exact And.left (by assumption)|(dsimp only; omega))) fun _ _=>?_
  | refine ok ?_
  | exact True.intro
theorem Zgm (m:Z0b) (v:Z0d) (hH:m.Z1y.length≤140737488355328):Ok (Z6x m v) (fun _=>True):=by
 unfold Z6x
 repeat' with_reducible first
  | refine brD (fun _=>?_) fun _=>?_
  | refine brE (fun _=>?_) fun _=>?_
  | refine bd (Zkm _ _ (by first|assumption|omega|exact And.left (by assumption)|(dsimp only; omega))) fun _ _=>?_
  | refine ok ?_
  | exact True.intro
theorem Ztk (m:Z0b) (n:Int):Ok (Zdk m n) (fun b=>b=true→0≤n∧n<m.Z11.length):=by
 unfold Zdk
 repeat' first
  | with_reducible refine brD (fun _=>?_) fun _=>?_
  | with_reducible refine ok ?_
  | (first|(intro h; cases h; done)|(intro h; have:=of_decide_eq_true h; omega)|(intro _; omega))
theorem L30x1 (m:Z0b) (hH:m.Z1y.length≤140737488355328) (hi:m.Z44.length≤140737488355328):Ok (Z06 (Zln m) Z07 0) (fun _=>True):=by
 refine li (m.Z44.length) (fun t _ _=>?_) (by omega) (by omega) (by omega)
 unfold Zln
 repeat' first
  | with_reducible refine nT (Zk6 _ _ (by assumption)) ?_ fun _=>?_
  | with_reducible refine ni ?_ ?_
  | with_reducible refine di ?_
  | with_reducible refine brD (fun _=>?_) fun _=>?_
  | with_reducible refine br (fun _=>?_) fun _=>?_
  | with_reducible refine bd gr fun _ _=>?_
  | with_reducible refine bd wr fun _ _=>?_
  | exact True.intro
  | omega
theorem Y50 (m:Z0b) (hH:m.Z1y.length≤140737488355328) (hi:m.Z44.length≤140737488355328):Ok (Zeu m) (fun _=>True):=by
 unfold Zeu
 repeat' first
  | with_reducible refine bd (L30x1 _ (by first|assumption|omega|exact And.left (by assumption)|(dsimp only; omega)) (by first|assumption|omega|exact And.left (by assumption)|(dsimp only; omega))) fun _ _=>?_
  | with_reducible refine ok ?_
  | split
  | assumption
theorem L67x1 (m:Z0b) (x y:List Z0d) (hH:m.Z1y.length≤140737488355328) (hx:x.length≤140737488355328) (e:(x.length:Int)=y.length):Ok (Z06 (Zmd m x y) Z07 0) (fun _=>True):=by
 refine li (x.length) (fun t _ _=>?_) (by omega) (by omega) (by omega)
 unfold Zmd
 repeat' first
  | with_reducible refine ni ?_ ?_
  | with_reducible refine di ?_
  | with_reducible refine brD (fun _=>?_) fun _=>?_
  | with_reducible refine br! (fun _=>?_) fun _=>?_
  | with_reducible refine brN (fun _=>?_) fun _=>?_
  | with_reducible refine bd gr fun _ _=>?_
  | with_reducible refine bd wr fun _ _=>?_
  | with_reducible refine bd (Zgm _ _ (by first|assumption|omega|exact And.left (by assumption)|(dsimp only; omega))) fun _ _=>?_
  | exact True.intro
  | omega
theorem Zxv (m:Z0b) (x y:List Z0d) (hH:m.Z1y.length≤140737488355328) (hx:x.length≤140737488355328):Ok (Zgp m x y) (fun _=>True):=by
 unfold Zgp
 repeat' with_reducible first
  | refine brN (fun _=>?_) fun _=>?_
  | refine bd (L67x1 _ _ _ (by first|assumption|omega|exact And.left (by assumption)|(dsimp only; omega)) (by first|assumption|omega|exact And.left (by assumption)|(dsimp only; omega)) (by first|assumption|omega|exact And.left (by assumption)|(dsimp only; omega))) fun _ _=>?_
  | refine ok ?_
  | split
  | exact True.intro
theorem L63x2 (k:Int) (o:Z2j) (a:Int) (h0:0≤k) (h1:k<o.Z5t.length) (hl:o.Z5t.length≤140737488355328):Ok (Z06 (Zlc k o a) Z07 0) (fun _=>True):=by
 refine li (k) (fun t _ _=>?_) (by omega) (by omega) (by omega)
 unfold Zlc
 repeat' first
  | with_reducible refine ni ?_ ?_
  | with_reducible refine di ?_
  | with_reducible refine brD (fun _=>?_) fun _=>?_
  | with_reducible refine brE (fun _=>?_) fun _=>?_
  | with_reducible refine bd gr fun _ _=>?_
  | with_reducible refine bd wr fun _ _=>?_
  | exact True.intro
  | omega
theorem L63x1 (o:Z2j) (m:Z0b) (n:Int) (hl:o.Z5t.length≤140737488355328):Ok (Z06 (Zlv o m n) Z07 0) (fun _=>True):=by
 refine li (o.Z5t.length) (fun t h0 h1=>?_) (by omega) (by omega) (by omega)
 unfold Zlv j63x2
 exact brD (fun hlt=>bd (gr h0 hlt) fun k hk=>nT (Ztk _ _) (di trivial) fun ht=>bd (gr ht.1 ht.2) fun _ _=>brN (fun _=>di trivial) fun _=>bd (gr ht.1 ht.2) fun _ _=>bd sm fun _ _=>brN (fun _=>di trivial) fun _=>bd (L63x2 t o k h0 (by omega) hl) fun q _=>match q with
  | .inl _=>bd wr fun _ _=>ni (by omega) (by omega)
  | .inr _=>di trivial) fun _=>di trivial
theorem Y4l (m:Z0b) (n:Int) (h:Z57 m) (h0:0≤n) (h1:n<m.Z1y.length):Ok (Ze5 m n) (fun _=>True):=by
 have hj:∀ o∈m.Z1y,Ok (Z91 o m n) (fun _=>True):=fun o ho=>by
  unfold Z91
  exact bd (L63x1 o m n (h.heap o ho).ws) fun q _=>match q with
   | .inl _=>ok trivial
   | .inr _=>ok trivial
 unfold Ze5
 refine bd (gr h0 h1) fun o ho=>?_
 have k2:Ok (if (o.Z8j==0)=true then (if (o.Z3b !=0)=true then some false else Z91 o m n) else Z91 o m n) (fun _=>True):=brE (fun _=>brN (fun _=>ok trivial) fun _=>hj o ho) fun _=>hj o ho
 exact brN (fun _=>bd sm fun _ _=>bd (Ztk _ _) fun _ _=>br! (fun _=>ok trivial) fun _=>brD (fun _=>ok trivial) fun _=>k2) fun _=>k2
theorem Y89 (m:Z0b) (o:Z2j) (h:Z57 m) (hv:Z7x m.Z1e) (ho:WObj o):Ok (Znd m o) (fun _=>True):=by
 have hH:=h.heapL; have hw:=h.sp; have:=hv.few; have:=ho.val
 unfold Znd
 repeat' with_reducible first
  | refine brD (fun _=>?_) fun _=>?_
  | refine br (fun _=>?_) fun _=>?_
  | refine bd gr fun _ _=>?_
  | refine bd (Y8d _ _ (by first|assumption|omega|exact And.left (by assumption)|(dsimp only; omega)) (by first|assumption|omega|exact And.left (by assumption)|(dsimp only; omega)) (by first|assumption|omega|exact And.left (by assumption)|(dsimp only; omega))) fun _ _=>?_
  | refine bd (Zxv _ _ _ (by first|assumption|omega|exact And.left (by assumption)|(dsimp only; omega)) (by first|assumption|omega|exact And.left (by assumption)|(dsimp only; omega))) fun _ _=>?_
  | refine bs ?_
  | refine ok ?_
  | exact True.intro
theorem Y7b (t:Z37):Ok (Zo0 t) (fun _=>True):=by
 unfold Zo0
 repeat' with_reducible first
  | refine bd sm fun _ _=>?_
  | refine brD (fun _=>?_) fun _=>?_
  | refine ok ?_
  | exact True.intro
theorem Y6e (w:Z0w) (t:Z37):Ok (Zlg w t) (fun _=>True):=by
 unfold Zlg
 repeat' with_reducible first
  | unfold j95x1
  | refine brD (fun _=>?_) fun _=>?_
  | refine brE (fun _=>?_) fun _=>?_
  | refine ok ?_
  | exact True.intro
theorem Y5s (t:Z37):Ok (Zos t) (fun _=>True):=by
 unfold Zos
 repeat' with_reducible first
  | unfold Zo9
  | refine brE (fun _=>?_) fun _=>?_
  | refine ok ?_
  | exact True.intro
theorem L64x1 (e:Z37×Bool) (m:Z0b) (o:Z2j) (hH:m.Z1y.length≤140737488355328) (ho:o.Z55.length≤140737488355328):Ok (Z06 (Zj4 e m o) Z07 0) (fun _=>True):=by
 refine li (o.Z55.length) (fun t _ _=>?_) (by omega) (by omega) (by omega)
 unfold Zj4
 repeat' first
  | with_reducible refine ni ?_ ?_
  | with_reducible refine di ?_
  | with_reducible refine brD (fun _=>?_) fun _=>?_
  | with_reducible refine br! (fun _=>?_) fun _=>?_
  | with_reducible refine brN (fun _=>?_) fun _=>?_
  | with_reducible refine bd gr fun _ _=>?_
  | with_reducible refine bd wr fun _ _=>?_
  | with_reducible refine bd (Y5s _) fun _ _=>?_
  | with_reducible refine bd (Zgm _ _ (by first|assumption|omega|exact And.left (by assumption)|(dsimp only; omega))) fun _ _=>?_
  | exact True.intro
  | omega
theorem Y8e (m:Z0b) (o:Z2j) (h:Z57 m) (ho:WObj o):Ok (Zom m o) (fun _=>True):=by
 have hH:=h.heapL; have:=ho.val
 unfold Zom
 repeat' first
  | unfold j64x1
  | with_reducible refine bd (Y7b _) fun _ _=>?_
  | with_reducible refine bd (Y6e _ _) fun _ _=>?_
  | with_reducible refine bd (L64x1 _ _ _ (by first|assumption|omega|exact And.left (by assumption)|(dsimp only; omega)) (by first|assumption|omega|exact And.left (by assumption)|(dsimp only; omega))) fun _ _=>?_
  | with_reducible refine ok ?_
  | split
  | assumption
theorem Y9d (w:Z0w) (l:Int) (s:List UInt8) (hw:Z5b w):Ok (Zjl w l s) (fun _=>True):=by
 unfold Zjl
 repeat' first
  | with_reducible refine bd (Zzo _ _ _ (by first|assumption|omega|exact And.left (by assumption)|(dsimp only; omega))) fun _ _=>?_
  | with_reducible refine ok ?_
  | assumption
theorem Y9b (m:Z0b) (o:Z2j) (h:Z57 m):Ok (Zmi m o) (fun _=>True):=by
 have hw:=h.sp
 unfold Zmi
 repeat' first
  | with_reducible refine br (fun _=>?_) fun _=>?_
  | with_reducible refine bd (Y9d _ _ _ (by first|assumption|omega|exact And.left (by assumption)|(dsimp only; omega))) fun _ _=>?_
  | with_reducible refine ok ?_
  | assumption
theorem Y54 (m:Z0b) (n:Int) (h:Z57 m) (hv:Z7x m.Z1e) (h0:0≤n) (h1:n<m.Z1y.length):Ok (Zdd m n) (fun _=>True):=by
 unfold Zdd
 repeat' with_reducible first
  | refine bd (Y89 _ _ h hv (h.heap _ (by assumption))) fun _ _=>?_
  | refine bd (Y8e _ _ h (h.heap _ (by assumption))) fun _ _=>?_
  | refine br (fun _=>?_) fun _=>?_
  | refine bd gr fun _ _=>?_
  | refine bd (Y4l _ _ (by first|assumption|omega|exact And.left (by assumption)|(dsimp only; omega)) (by first|assumption|omega|exact And.left (by assumption)|(dsimp only; omega)) (by first|assumption|omega|exact And.left (by assumption)|(dsimp only; omega))) fun _ _=>?_
  | refine bd (Y9b _ _ (by first|assumption|omega|exact And.left (by assumption)|(dsimp only; omega))) fun _ _=>?_
  | refine ok ?_
  | exact True.intro
theorem Y6t (m:Z0b) (n:Int) (h:Z57 m) (hv:Z7x m.Z1e) (h0:0≤n) (h1:n<m.Z3v.length):Ok (Zds m n) (fun _=>True):=by
 have hH:=h.heapL; have hw:=h.sp
 unfold Zds
 repeat' with_reducible first
  | unfold Zdo
  | refine brD (fun _=>?_) fun _=>?_
  | refine br! (fun _=>?_) fun _=>?_
  | refine brE (fun _=>?_) fun _=>?_
  | refine brN (fun _=>?_) fun _=>?_
  | refine bd gr fun _ _=>?_
  | refine bd (Ztk _ _) fun _ _=>?_
  | refine bd (Y3x _ _ (by first|assumption|omega|exact And.left (by assumption)|(dsimp only; omega)) (by first|assumption|omega|exact And.left (by assumption)|(dsimp only; omega))) fun _ _=>?_
  | refine bd (Zxv _ _ _ (by first|assumption|exact h.ini _ (by assumption)) (by first|assumption|exact h.ini _ (by assumption))) fun _ _=>?_
  | refine ok ?_
  | exact True.intro
theorem L100x1 (l:List Int) (n:Int) (hl:l.length≤140737488355328):Ok (Z06 (Zit l n) Z07 0) (fun _=>True):=by
 refine li (l.length) (fun t _ _=>?_) (by omega) (by omega) (by omega)
 unfold Zit
 repeat' first
  | with_reducible refine ni ?_ ?_
  | with_reducible refine di ?_
  | with_reducible refine brD (fun _=>?_) fun _=>?_
  | with_reducible refine brE (fun _=>?_) fun _=>?_
  | with_reducible refine bd gr fun _ _=>?_
  | with_reducible refine bd wr fun _ _=>?_
  | exact True.intro
  | omega
theorem Y5u (l:List Int) (n:Int) (hl:l.length≤140737488355328):Ok (Zms l n) (fun _=>True):=by
 unfold Zms
 repeat' first
  | with_reducible refine bd (L100x1 _ _ (by first|assumption|omega|exact And.left (by assumption)|(dsimp only; omega))) fun _ _=>?_
  | with_reducible refine ok ?_
  | split
  | assumption
theorem Y7h (m:Z0b) (n:Int) (h:Z57 m) (h0:0≤n) (h1:n<m.Z11.length):Ok (Znk m n) (fun _=>True):=by
 have hH:=h.heapL
 unfold Znk
 repeat' with_reducible first
  | refine nF (Zk6 _ _ (by assumption)) ?_ fun _=>?_
  | unfold j69x1
  | unfold j69x2
  | refine brD (fun _=>?_) fun _=>?_
  | refine brE (fun _=>?_) fun _=>?_
  | refine bd gr fun _ _=>?_
  | refine bd wr fun _ _=>?_
  | refine bd (Y5u _ _ (by exact (h.heap _ (by assumption)).ws)) fun _ _=>?_
  | refine ok ?_
  | exact True.intro
theorem L83x1 (m:Z0b) (x:List Z0d) (b:Bool) (hH:m.Z1y.length≤140737488355328) (hx:x.length≤140737488355328):Ok (Z06 (Zm3 m x b) Z07 0) (fun _=>True):=by
 refine li (x.length) (fun t _ _=>?_) (by omega) (by omega) (by omega)
 unfold Zm3
 repeat' first
  | with_reducible refine ni ?_ ?_
  | with_reducible refine di ?_
  | with_reducible refine brD (fun _=>?_) fun _=>?_
  | with_reducible refine br! (fun _=>?_) fun _=>?_
  | with_reducible refine brE (fun _=>?_) fun _=>?_
  | with_reducible refine bd gr fun _ _=>?_
  | with_reducible refine bd wr fun _ _=>?_
  | with_reducible refine bd (Zgm _ _ (by first|assumption|omega|exact And.left (by assumption)|(dsimp only; omega))) fun _ _=>?_
  | exact True.intro
  | omega
theorem Y7u (m:Z0b) (x:List Z0d) (b:Bool) (hH:m.Z1y.length≤140737488355328) (hx:x.length≤140737488355328):Ok (Zi0 m x b) (fun _=>True):=by
 unfold Zi0
 repeat' first
  | with_reducible refine bd (L83x1 _ _ _ (by first|assumption|omega|exact And.left (by assumption)|(dsimp only; omega)) (by first|assumption|omega|exact And.left (by assumption)|(dsimp only; omega))) fun _ _=>?_
  | with_reducible refine ok ?_
  | split
  | assumption
theorem Y5m (m:Z0b) (a:Z1b) (hH:m.Z1y.length≤140737488355328) (ha:WAct a):Ok (Z9c m a) (fun _=>True):=by
 have:=ha.loc; have:=ha.stk
 unfold Z9c
 repeat' with_reducible first
  | unfold j54x1
  | unfold j54x2
  | unfold j54x3
  | refine brD (fun _=>?_) fun _=>?_
  | refine br (fun _=>?_) fun _=>?_
  | refine bd gr fun _ _=>?_
  | refine bd (Zkm _ _ (by first|assumption|omega|exact And.left (by assumption)|(dsimp only; omega))) fun _ _=>?_
  | refine bd (Y7u _ _ _ (by first|assumption|omega|exact And.left (by assumption)|(dsimp only; omega)) (by first|assumption|omega|exact And.left (by assumption)|(dsimp only; omega))) fun _ _=>?_
  | refine ok ?_
  | exact True.intro
theorem allL {n:Nat} (hn:n≤140737488355328) (g:Int→Option Bool) {f:Int→Option (Ctl Int (Unit⊕Bool))} (hg:∀ t:Int,0≤t→t<n→Ok (g t) fun _=>True)
  (hf:∀ t,f t=if decide (t<(n:Int))=true then ((g t).bind fun v=>if (!v)=true then some (.done (.inr false)) else ((some (IntKind.wrap .i64 (t+1))).bind fun k=>some (.next k))) else some (.done (.inl ()))):
  Ok (Z06 f Z07 0) (fun q=>(q=.inl ()∧∀ t:Int,0≤t→t<n→g t=some true)∨(q=.inr false∧∃ t:Int,0≤t∧t<n∧g t=some false)):=by
 refine lp (fun t=>t) n (fun t=>∀ j:Int,0≤j→j<t→g j=some true) (fun t hI h0 h1=>?_) (by omega) (fun j h h'=>by omega) (by omega) (by omega)
 rw [hf]
 refine brD (fun hlt=>?_) fun hge=>dn (.inl ⟨rfl,fun j h h'=>hI j h (by omega)⟩)
 obtain ⟨b,hb,_⟩:=hg t h0 hlt
 rw [hb]
 cases b with
 | false=>exact ⟨_,rfl,.inr ⟨rfl,t,h0,hlt,hb⟩⟩
 | true=>
  refine bs (br! (fun h=>by cases h) fun _=>bd wr fun k hk=>nx (fun j hj hj'=>?_) (by omega) (by omega))
  rcases Int.lt_or_le j t with h|h
  ·exact hI j hj h
  ·rw [show j=t by omega]; exact hb
theorem acts_ok (m:Z0b) (t:Z1n) (hH:m.Z1y.length≤140737488355328) (ha:∀ a∈t.Z1v,WAct a) (hl:t.Z1v.length≤140737488355328):
  Ok (Zao t m) (fun b=>b=true→∀ a∈t.Z1v,Z9c m a=some true):=by
 unfold Zao
 refine bd (allL hl (fun i=>(Z02 t.Z1v i).bind (Z9c m)) (fun i h0 h1=>bd (gr h0 h1) fun a hm=>Y5m m a hH (ha a hm)) fun i=>?_) fun q hq=>?_
 ·unfold l33x1
  split
  ·rw [Option.bind_assoc]
  ·rfl
 ·rcases hq with ⟨rfl,h⟩|⟨rfl,_⟩
  ·refine ok fun _ a hm=>?_
   obtain ⟨i,hi⟩:=List.getElem?_of_mem hm
   have hlt:i<t.Z1v.length:=(List.getElem?_eq_some_iff.1 hi).1
   have:=h i (by omega) (by omega)
   obtain ⟨a',e,_,hx⟩:=gri (l:=t.Z1v) (i:=(i:Int)) (by omega) (by omega)
   rw [e] at this
   simp only [Int.toNat_natCast] at hx
   rw [hi] at hx
   cases hx
   exact this
  ·exact ok fun h=>by cases h
theorem Y9i (m:Z0b) (n:Int) (h:Z57 m) (h0:0≤n) (h1:n<m.Z11.length):Ok (Zed m n) (fun b=>b=true→∀ t,Z02 m.Z11 n=some t→t.Z1v.length≤64∧∀ a∈t.Z1v,Z9c m a=some true):=by
 have hH:=h.heapL
 unfold Zed
 refine bdE (gr h0 h1) fun t e hm=>bd (Y7h m n h h0 h1) fun _ _=>br! (fun _=>ok fun h=>by cases h) fun _=>bd (Zkm _ _ hH) fun _ _=>br! (fun _=>ok fun h=>by cases h) fun _=>bd (Zkm _ _ hH) fun _ _=>br! (fun _=>ok fun h=>by cases h) fun _=>bd (Zgm _ _ hH) fun _ _=>br! (fun _=>ok fun h=>by cases h) fun _=>brD (fun _=>ok fun h=>by cases h) fun hle=>?_
 have hj:Ok (Zao t m) (fun b=>b=true→∀ t',Z02 m.Z11 n=some t'→t'.Z1v.length≤64∧∀ a∈t'.Z1v,Z9c m a=some true):=
  (acts_ok m t hH (h.thr t hm).1 (h.thr t hm).2).mono fun b hb hbt t' ht'=>by
   rw [e] at ht'; cases ht'
   exact ⟨by omega,hb hbt⟩
 have hf:Ok (some false) (fun b=>b=true→∀ t',Z02 m.Z11 n=some t'→t'.Z1v.length≤64∧∀ a∈t'.Z1v,Z9c m a=some true):=ok fun h=>by cases h
 unfold j33x1
 exact brE (fun _=>brD (fun _=>hf) fun _=>brN (fun _=>brN (fun _=>hf) fun _=>br! (fun _=>hf) fun _=>hj) fun _=>hj) fun _=>brN (fun _=>brN (fun _=>hf) fun _=>br! (fun _=>hf) fun _=>hj) fun _=>hj
structure MVal (m:Z0b):Prop where
 sp:Zbt m.Z1e=some true
 vok:Z7x m.Z1e
 max0:0≤m.Z5v
 max1:m.Z5v≤5000
 heap:m.Z1y.length≤5000
 init:m.Z3v.length≤m.Z1e.Z0x.length
 thr:m.Z11.length≤8
 txt:Zeu m=some true
 obj:∀ t,0≤t→t<(m.Z1y.length:Int)→Zdd m t=some true
 beg:∀ t,0≤t→t<(m.Z3v.length:Int)→Zds m t=some true
 run:∀ t,0≤t→t<(m.Z11.length:Int)→Zed m t=some true
theorem valid36 (m:Z0b) (h:Z57 m):Ok (Ziq m) (fun b=>b=true→MVal m):=by
 have hf:Ok (some false) (fun b=>b=true→MVal m):=ok fun h=>by cases h
 unfold Ziq
 refine bdE (Y8r m.Z1e h.sp) fun b e hb=>?_
 cases b with
 | false=>exact hf
 | true=>
 have hv:=hb rfl
 refine br! (fun _=>hf) fun _=>brD (fun _=>hf) fun k1=>brD (fun _=>hf) fun k2=>brD (fun _=>hf) fun k3=>brD (fun _=>hf) fun k4=>brD (fun _=>hf) fun k5=>bdE (Y50 m h.heapL h.intL) fun b2 e2 _=>?_
 cases b2 with
 | false=>exact hf
 | true=>
 refine br! (fun _=>hf) fun _=>?_
 unfold j9x1
 refine bd (allL h.heapL (Zdd m) (fun t a b=>(Y54 m t h hv a b).mono fun _ _=>trivial) fun t=>by unfold l9x1; rfl) fun q1 hq1=>?_
 rcases hq1 with ⟨rfl,o1⟩|⟨rfl,_⟩
 rotate_left
 ·exact hf
 refine bd (allL h.iniL (Zds m) (fun t a b=>(Y6t m t h hv a b).mono fun _ _=>trivial) fun t=>by unfold l9x2; rfl) fun q2 hq2=>?_
 rcases hq2 with ⟨rfl,o2⟩|⟨rfl,_⟩
 rotate_left
 ·exact hf
 refine bd (allL h.thrL (Zed m) (fun t a b=>(Y9i m t h a b).mono fun _ _=>trivial) fun t=>by unfold l9x3; rfl) fun q3 hq3=>?_
 rcases hq3 with ⟨rfl,o3⟩|⟨rfl,_⟩
 rotate_left
 ·exact hf
 exact ok fun _=>⟨e,hv,by omega,by omega,by omega,by omega,by omega,e2,o1,o2,o3⟩
end Go.Proofs
namespace Go.Proofs
open Go.Den
theorem Zo3 (n:Int):IntKind.wrap .i64 n=(n+9223372036854775808) % 18446744073709551616 - 9223372036854775808:=by
 show (if (true&&decide (n % 18446744073709551616≥9223372036854775808))=true then n % 18446744073709551616 - 18446744073709551616 else n % 18446744073709551616)=_
 rw [Bool.true_and]
 by_cases h:n % 18446744073709551616≥9223372036854775808
 ·rw [if_pos (decide_eq_true h)]; omega
 ·rw [if_neg (by simpa using h)]; omega
theorem Zrx {s:List UInt8} {i:Int} (h0:0≤i) (h1:i<s.length):∃ c:UInt8,s[i.toNat]?=some c∧Z2s s i=some (c.toNat:Int):=by
 have hlt:i.toNat<s.length:=by omega
 refine ⟨s[i.toNat],List.getElem?_eq_getElem hlt,?_⟩
 unfold Z2s; rw [if_pos h0,List.getElem?_eq_getElem hlt]; rfl
def Zq8 (n:Nat):Bool:=(decide (97≤n)&&decide (n≤122))||(decide (65≤n)&&decide (n≤90))||n==95||n==36
def Zjd (n:Nat):Bool:=decide (48≤n)&&decide (n≤57)
def Zac (c:UInt8):Bool:=Zq8 c.toNat
def Z8t (c:UInt8):Bool:=Zjd c.toNat
theorem Zz7:∀ n:Fin 256,Zes ((n.val:Nat):Int)=some (if Zq8 n.val then 1 else if Zjd n.val then 2 else 0):=by decide+kernel
theorem Y5r:∀ n:Fin 256,Zcs ((n.val:Nat):Int)=some (Zq8 n.val):=by decide+kernel
theorem Zmu (c:UInt8):Zes (c.toNat:Int)=some (if Zac c then 1 else if Z8t c then 2 else 0):=Zz7 ⟨c.toNat,c.toNat_lt⟩
theorem Zhz (c:UInt8):Zcs (c.toNat:Int)=some (Zac c):=Y5r ⟨c.toNat,c.toNat_lt⟩
theorem Zzl:Zes 47=some 0:=Zz7 47
def okP:Bool→List UInt8→Bool
 | b,[] =>!b
 | b,c::l=>if Zac c then okP false l else if Z8t c then !b&&okP false l else false
def okC:Bool→List UInt8→Bool
 | b,[] =>!b
 | b,c::l=>if c=47 then !b&&okC true l else if Zac c then okC false l else if Z8t c then !b&&okC false l else false
theorem Y2f:∀ (p r:List UInt8) (b:Bool),(47:UInt8) ∉ p→okC b (p++47::r)=(okP b p&&okC true r)
 | [],r,b,_=>by simp [okC,okP]
 | c::p,r,b,h=>by
  have hc:c≠47:=fun e=>h (by simp [e])
  have hp:(47:UInt8) ∉ p:=fun e=>h (by simp [e])
  simp only [List.cons_append,okC,okP,if_neg hc,Y2f p r _ hp]
  by_cases h1:Zac c=true
  ·simp [h1]
  ·by_cases h2:Z8t c=true <;> simp [h1,h2,Bool.and_assoc]
theorem Y23:∀ (p:List UInt8) (b:Bool),(47:UInt8) ∉ p→okC b p=okP b p
 | [],b,_=>rfl
 | c::p,b,h=>by
  have hc:c≠47:=fun e=>h (by simp [e])
  have hp:(47:UInt8) ∉ p:=fun e=>h (by simp [e])
  simp only [okC,okP,if_neg hc,Y23 p _ hp]
theorem Ztu {α:Type} {s:List α} {i:Nat} {c:α} (h:s[i]?=some c):s.drop i=c::s.drop (i+1):=by
 have hlt:=(List.getElem?_eq_some_iff.1 h).1
 rw [List.drop_eq_getElem_cons hlt]
 congr 1
 exact (List.getElem?_eq_some_iff.1 h).2
theorem Zrg (s:List UInt8) (hl:(s.length:Int)≤140737488355328):Zaj s=some (okP true s):=by
 obtain ⟨q,hq,hp⟩:=Z9l (f:=Zcr s) (fun t:Int=>0≤t∧t≤s.length∧okP true s=okP (t==0) (s.drop t.toNat)) (fun t=>((s.length:Int) - t).toNat)
  (fun q=>match q with
   | .inl _=>okP true s=decide (s.length>0)
   | .inr r=>okP true s=r)
  (fun t ht =>by
   obtain ⟨h0,h1,h2⟩:=ht
   unfold Zcr
   by_cases h:t<s.length
   ·obtain ⟨c,hc,hg⟩:=Zrx h0 h
    have e1:IntKind.wrap .i64 (t+1)=t+1:=by rw [Zo3]; omega
    have hd:s.drop t.toNat=c::s.drop (t+1).toNat:=by rw [Ztu hc]; congr 2; omega
    rw [hd] at h2
    have hz:(t+1==0)=false:=by simp; omega
    by_cases hL:Zac c=true
    ·refine ⟨.next (t+1),by simp [h,hg,Zhz,hL,e1],⟨by omega,by omega,?_⟩,by omega⟩
     rw [h2,hz]; simp [okP,hL]
    ·by_cases ht0:t=0
     ·subst ht0
      refine ⟨.done (.inr false),by simp only [h,hg,Zhz,hL,decide_true,if_true,Option.bind_some,Bool.not_false,beq_self_eq_true,Bool.false_eq_true,if_false],?_⟩
      show okP true s=false
      rw [h2]; simp [okP,hL]
     ·by_cases hD:Z8t c=true
      ·have hD':48≤c.toNat∧c.toNat≤57:=by simpa [Z8t,Zjd] using hD
       have a1: ¬ ((c.toNat:Int)<48):=by omega
       have a2: ¬ ((c.toNat:Int)>57):=by omega
       refine ⟨.next (t+1),?_,⟨by omega,by omega,?_⟩,by omega⟩
       ·simp only [h,hg,Zhz,hL,e1,ht0,a1,a2,decide_true,decide_false,if_true,Option.bind_some,Bool.not_false,beq_iff_eq,Bool.false_eq_true,if_false]
       ·rw [h2,hz]; simp [okP,hL,hD,ht0]
      ·refine ⟨.done (.inr false),?_,?_⟩
       ·have hD': ¬ (48≤c.toNat∧c.toNat≤57):=by simpa [Z8t,Zjd] using hD
        by_cases a1:(c.toNat:Int)<48
        ·simp only [h,hg,Zhz,hL,ht0,a1,decide_true,if_true,Option.bind_some,Bool.not_false,beq_iff_eq,Bool.false_eq_true,if_false]
        ·have a2:(c.toNat:Int)>57:=by omega
         simp only [h,hg,Zhz,hL,ht0,a1,a2,decide_true,decide_false,if_true,Option.bind_some,Bool.not_false,beq_iff_eq,Bool.false_eq_true,if_false]
       ·show okP true s=false
        rw [h2]; simp [okP,hL,hD]
   ·refine ⟨.done (.inl ()),by simp [h],?_⟩
    show okP true s=decide (s.length>0)
    rw [h2,List.drop_eq_nil_of_le (by omega)]
    by_cases hs:s.length>0
    ·simp [okP,hs,show ¬ t=0 by omega]
    ·have:t=0:=by omega
     simp [okP,hs,this])
  Z07 0 ⟨by omega,by omega,by simp⟩ (by unfold Z07; omega)
 unfold Zaj
 cases q with
 | inl u=>simp only [hq,Option.bind_some,hp]; congr 1; simp
 | inr r=>simp only [hq,Option.bind_some,hp]
theorem Y6l (s:List UInt8) (hl:(s.length:Int)≤140737488355328):Zll s=some (okC true s):=by
 obtain ⟨q,hq,hp⟩:=Z9l (f:=Zm6 s) (fun t:Bool×Int=>0≤t.2∧t.2≤s.length∧okC true s=okC t.1 (s.drop t.2.toNat)) (fun t=>((s.length:Int) - t.2).toNat)
  (fun q=>match q with
   | .inl b=>okC true s= !b
   | .inr r=>okC true s=r)
  (fun t ht =>by
   obtain ⟨b,t⟩:=t
   obtain ⟨h0,h1,h2⟩:=ht
   dsimp only at h0 h1 h2
   unfold Zm6
   by_cases h:t<s.length
   ·obtain ⟨c,hc,hg⟩:=Zrx h0 h
    have e1:IntKind.wrap .i64 (t+1)=t+1:=by rw [Zo3]; omega
    have hd:s.drop t.toNat=c::s.drop (t+1).toNat:=by rw [Ztu hc]; congr 2; omega
    rw [hd] at h2
    have h47:((c.toNat:Int)=47)↔c=47:=⟨fun e=>UInt8.toNat_inj.1 (by show c.toNat=47; omega),fun e=>by subst e; rfl⟩
    by_cases hs:c=47
    ·subst hs
     have hcl:Zac 47=false∧Z8t 47=false:=by decide
     cases b with
     | false=>
      refine ⟨.next (true,t+1),by simp [h,hg,Zzl,Zq0,e1],⟨by dsimp only; omega,by dsimp only; omega,?_⟩,by dsimp only; omega⟩
      rw [h2]; simp [okC]
     | true=>
      refine ⟨.done (.inr false),by simp [h,hg,Zzl,Z9o],?_⟩
      show okC true s=false
      rw [h2]; simp [okC]
    ·have hn: ¬ ((c.toNat:Int)=47):=fun e=>hs (h47.1 e)
     by_cases hL:Zac c=true
     ·refine ⟨.next (false,t+1),by simp [h,hg,Zmu,hn,Z9o,Zeo,hL,e1],⟨by dsimp only; omega,by dsimp only; omega,?_⟩,by dsimp only; omega⟩
      rw [h2]; simp [okC,hs,hL]
     ·by_cases hD:Z8t c=true
      ·cases b with
       | false=>
        refine ⟨.next (false,t+1),by simp [h,hg,Zmu,hn,Z9o,Zig,Zeo,hL,hD,e1],⟨by dsimp only; omega,by dsimp only; omega,?_⟩,by dsimp only; omega⟩
        rw [h2]; simp [okC,hs,hL,hD]
       | true=>
        refine ⟨.done (.inr false),by simp [h,hg,Zmu,hn,Z9o,Zig,hL,hD],?_⟩
        show okC true s=false
        rw [h2]; simp [okC,hs,hL,hD]
      ·refine ⟨.done (.inr false),by simp [h,hg,Zmu,hn,Z9o,hL,hD],?_⟩
       show okC true s=false
       rw [h2]; simp [okC,hs,hL,hD]
   ·refine ⟨.done (.inl b),by simp [h],?_⟩
    show okC true s= !b
    rw [h2,List.drop_eq_nil_of_le (by omega)]; rfl)
  Z07 (true,0) ⟨by dsimp only; omega,by dsimp only; omega,by simp⟩ (by unfold Z07; dsimp only; omega)
 unfold Zll
 cases q with
 | inl u=>simp only [hq,Option.bind_some]; exact congrArg some hp.symm
 | inr r=>simp only [hq,Option.bind_some]; exact congrArg some hp.symm
theorem isClass (s:List UInt8) (hl:(s.length:Int)≤140737488355328):Zmb s=some (decide (s.length≤64)&&okC true s):=by
 unfold Zmb
 by_cases h:s=[]
 ·subst h; rfl
 ·rw [if_neg (by simpa using h)]
  by_cases h64:(s.length:Int)>64
  ·rw [if_pos (decide_eq_true h64)]
   have:decide (s.length≤64)=false:=decide_eq_false (by omega)
   rw [this]; rfl
  ·rw [if_neg (by simpa using h64),Y6l s hl]
   have:decide (s.length≤64)=true:=decide_eq_true (by omega)
   rw [this]; rfl
theorem Y7o (s:List UInt8) (hl:(s.length:Int)≤140737488355328):Z8x s=some (decide (s.length≤64)&&okC true s):=by
 unfold Z8x
 by_cases h64:(s.length:Int)>64
 ·rw [if_pos (decide_eq_true h64)]
  have:decide (s.length≤64)=false:=decide_eq_false (by omega)
  rw [this]; rfl
 rw [if_neg (by simpa using h64)]
 have h64':decide (s.length≤64)=true:=decide_eq_true (by omega)
 rw [h64',Bool.true_and]
 obtain ⟨q,hq,hp⟩:=Z9l (f:=Zec s) (fun t:Int×Int=>0≤t.1∧t.1≤t.2∧t.2≤s.length∧(∀ j:Nat,t.1≤j→(j:Int)<t.2→s[j]?≠some 47)∧okC true s=okC true (s.drop t.1.toNat)) (fun t=>((s.length:Int) - t.2).toNat)
  (fun q=>match q with
   | .inl a=>0≤a∧a≤(s.length:Int)∧(∀ j:Nat,a≤j→s[j]?≠some 47)∧okC true s=okC true (s.drop a.toNat)
   | .inr r=>okC true s=r)
  (fun t ht =>by
   obtain ⟨a,i⟩:=t
   obtain ⟨h0,h1,h2,h3,h4⟩:=ht
   dsimp only at h0 h1 h2 h3 h4
   unfold Zec
   by_cases h:i<s.length
   ·obtain ⟨c,hc,hg⟩:=Zrx (by omega) h
    have e1:IntKind.wrap .i64 (i+1)=i+1:=by rw [Zo3]; omega
    by_cases hs:c=47
    ·subst hs
     have hsub:sub s a i=some ((s.drop a.toNat).take (i.toNat - a.toNat)):=by
      unfold sub; rw [if_pos (by omega)]
     obtain ⟨p,hpd⟩:∃ p,p=(s.drop a.toNat).take (i.toNat - a.toNat):=⟨_,rfl⟩
     have hpl:(p.length:Int)≤140737488355328:=by rw [hpd]; simp; omega
     have hsplit:s.drop a.toNat=p++47::s.drop (i+1).toNat:=by
      have e2:(s.drop a.toNat).drop (i.toNat - a.toNat)=47::s.drop (i+1).toNat:=by
       rw [List.drop_drop,show a.toNat+(i.toNat - a.toNat)=i.toNat by omega,Ztu hc]
       congr 2; omega
      rw [← e2,hpd,List.take_append_drop]
     have hno:(47:UInt8) ∉ p:=fun hm=>by
      obtain ⟨k,hk⟩:=List.getElem?_of_mem hm
      rw [hpd,List.getElem?_take] at hk
      split at hk
      ·rw [List.getElem?_drop] at hk
       exact h3 (a.toNat+k) (by omega) (by omega) hk
      ·cases hk
     have hpart:=Y2f p (s.drop (i+1).toNat) true hno
     rw [hsplit,hpart] at h4
     cases hok:okP true p with
     | false=>
      refine ⟨.done (.inr false),?_,?_⟩
      ·simp [h,hg,hsub,← hpd,Zrg p hpl,hok]
      ·show okC true s=false
       rw [h4,hok]; rfl
     | true=>
      refine ⟨.next (i+1,i+1),?_,⟨by dsimp only; omega,by dsimp only; omega,by dsimp only; omega,fun j hj hj2=>?_,?_⟩,by dsimp only; omega⟩
      ·simp [h,hg,hsub,← hpd,Zrg p hpl,hok,e1]
      ·dsimp only at hj hj2; omega
      ·dsimp only; rw [h4,hok,Bool.true_and]
    ·have hn: ¬ ((c.toNat:Int)=47):=fun e=>hs (UInt8.toNat_inj.1 (by show c.toNat=47; omega))
     refine ⟨.next (a,i+1),by simp [h,hg,hn,e1],⟨by dsimp only; omega,by dsimp only; omega,by dsimp only; omega,fun j hj hj2=>?_,h4⟩,by dsimp only; omega⟩
     dsimp only at hj hj2
     by_cases hji:(j:Int)=i
     ·rw [show j=i.toNat by omega,hc]; simpa using hs
     ·exact h3 j hj (by omega)
   ·refine ⟨.done (.inl a),by simp [h],h0,by omega,fun j hj=>?_,h4⟩
    by_cases hji:(j:Int)<i
    ·exact h3 j hj hji
    ·rw [List.getElem?_eq_none (by omega)]; simp)
  Z07 (0,0) ⟨by dsimp only; omega,by dsimp only; omega,by dsimp only; omega,fun j hj hj2=>by dsimp only at hj hj2; omega,by simp⟩ (by unfold Z07; dsimp only; omega)
 cases q with
 | inl a=>
  obtain ⟨k0,k1,k2,k3⟩:=hp
  have hsub:sub s a (s.length:Int)=some (s.drop a.toNat):=by
   unfold sub; rw [if_pos (by omega)]
   congr 1
   rw [List.take_of_length_le (by simp)]
  have hno:(47:UInt8) ∉ s.drop a.toNat:=fun hm=>by
   obtain ⟨k,hk⟩:=List.getElem?_of_mem hm
   rw [List.getElem?_drop] at hk
   exact k2 (a.toNat+k) (by omega) hk
  have hpl:((s.drop a.toNat).length:Int)≤140737488355328:=by simp; omega
  simp only [hq,Option.bind_some,hsub,Zrg _ hpl]
  rw [k3,Y23 _ true hno]
 | inr r=>simp only [hq,Option.bind_some]; exact congrArg some hp.symm
theorem Y1q:∀ (l:List UInt8) (c:UInt8),(Lib.indexByte l c<0)↔c ∉ l
 | [],c=>by simp [Lib.indexByte]
 | b :: l,c=>by
  have ih:=Y1q l c
  have hge:=Lib.indexByte_ge l c
  unfold Lib.indexByte
  by_cases hb:b=c
  ·subst hb; simp
  ·have hb':(b==c)=false:=by simpa using hb
   have hne: ¬ c=b:=fun e=>hb e.symm
   rw [hb']
   simp only [Bool.false_eq_true,if_false,List.mem_cons,hne,false_or]
   rw [← ih]
   by_cases h1:Lib.indexByte l c= -1
   ·rw [h1]; simp
   ·rw [if_neg (by simpa using h1)]; omega
end Go.Proofs
namespace Go.Proofs
open Go.Den
def clsB (s:List UInt8):Bool:=decide (s.length≤64)&&okC true s
def Z6l (t:Z0i):Bool:=
 decide (0≤t.Z0v)&&decide (t.Z0v≤8)&&
 ((t.Z12==73||t.Z12==74)&&(t.Z0f==[])||t.Z12==86&&(t.Z0f==[])&&t.Z0v==0||t.Z12==76&&clsB t.Z0f)
theorem Zux (t:Z0i) (hl:(t.Z0f.length:Int)≤140737488355328):Zcl t=some (Z6l t):=by
 unfold Zcl Zqe Zpr Zs2 Z6l clsB
 rw [isClass _ hl]
 by_cases h1:t.Z0v<0
 ·simp [h1,show ¬ 0≤t.Z0v by omega]
 ·by_cases h2:t.Z0v>8
  ·simp [h1,h2,show ¬ t.Z0v≤8 by omega]
  ·by_cases b1:t.Z12=73
   ·simp [h1,b1,show ¬ 8<t.Z0v by omega,show 0≤t.Z0v by omega,show t.Z0v≤8 by omega]
   ·by_cases b2:t.Z12=74
    ·simp [h1,b2,show ¬ 8<t.Z0v by omega,show 0≤t.Z0v by omega,show t.Z0v≤8 by omega]
    ·by_cases b3:t.Z12=86
     ·by_cases b4:t.Z0v=0
      ·simp [b3,b4]
      ·simp [h1,b3,b4,show ¬ 8<t.Z0v by omega,show 0≤t.Z0v by omega,show t.Z0v≤8 by omega]
     ·by_cases b5:t.Z12=76
      ·simp [h1,b5,show ¬ 8<t.Z0v by omega,show 0≤t.Z0v by omega,show t.Z0v≤8 by omega]
      ·simp [h1,b1,b2,b3,b5,show ¬ 8<t.Z0v by omega]
theorem Y3h (t:Z0i) (hl:(t.Z0f.length:Int)≤140737488355328):Z92 t=some (Z6l t):=by
 unfold Z92 Znj Zme Zke Z6l clsB
 rw [Y7o _ hl]
 by_cases h1:t.Z0v<0
 ·simp [h1,show ¬ 0≤t.Z0v by omega]
 ·by_cases h2:t.Z0v>8
  ·simp [h1,h2,show ¬ t.Z0v≤8 by omega]
  ·by_cases b1:t.Z12=73
   ·simp [h1,b1,show ¬ 8<t.Z0v by omega,show 0≤t.Z0v by omega,show t.Z0v≤8 by omega]
   ·by_cases b2:t.Z12=74
    ·simp [h1,b2,show ¬ 8<t.Z0v by omega,show 0≤t.Z0v by omega,show t.Z0v≤8 by omega]
    ·by_cases b3:t.Z12=86
     ·by_cases b4:t.Z0v=0
      ·by_cases b6:t.Z0f=[] <;> simp [b3,b4,b6]
      ·by_cases b6:t.Z0f=[] <;> simp [h1,b3,b4,b6,show ¬ 8<t.Z0v by omega,show 0≤t.Z0v by omega,show t.Z0v≤8 by omega]
     ·by_cases b5:t.Z12=76
      ·simp [h1,b5,show ¬ 8<t.Z0v by omega,show 0≤t.Z0v by omega,show t.Z0v≤8 by omega]
      ·simp [h1,b1,b2,b3,b5,show ¬ 8<t.Z0v by omega]
theorem Zn7 {t:Z0i} (h:Z6l t=true):0≤t.Z0v∧t.Z0v≤8∧((t.Z12=73∧t.Z0f=[])∨(t.Z12=74∧t.Z0f=[])∨(t.Z12=86∧t.Z0f=[]∧t.Z0v=0)∨(t.Z12=76∧clsB t.Z0f=true))∧t.Z0f.length≤64:=by
 simp only [Z6l,Bool.and_eq_true,Bool.or_eq_true,decide_eq_true_eq,beq_iff_eq] at h
 obtain ⟨⟨h1,h2⟩,h3⟩:=h
 refine ⟨h1,h2,?_,?_⟩
 ·rcases h3 with (⟨h3|h3,h4⟩|⟨⟨h3,h4⟩,h5⟩)|⟨h3,h4⟩
  ·exact .inl ⟨h3,h4⟩
  ·exact .inr (.inl ⟨h3,h4⟩)
  ·exact .inr (.inr (.inl ⟨h3,h4,h5⟩))
  ·exact .inr (.inr (.inr ⟨h3,h4⟩))
 ·rcases h3 with (⟨_,h4⟩|⟨⟨_,h4⟩,_⟩)|⟨_,h4⟩
  ·rw [h4]; simp
  ·rw [h4]; simp
  ·simp only [clsB,Bool.and_eq_true,decide_eq_true_eq] at h4; exact h4.1
def fmt (t:Z0i):List UInt8:=List.replicate t.Z0v.toNat 91++UInt8.ofNat t.Z12.toNat::(if t.Z12=76 then t.Z0f++[59] else [])
theorem Zpj {t:Z0i} (h:Z6l t=true):(fmt t).length≤74∧1≤(fmt t).length:=by
 obtain ⟨h1,h2,-,h4⟩:=Zn7 h
 unfold fmt
 split <;> simp <;> omega
theorem Z78 {n:Nat} (b:Nat) (h:n*b≤140737488355328) (hb:1≤b):Z0y b n=some ():=by
 unfold Z0y
 have:n≤n*b:=Nat.le_mul_of_pos_right n hb
 rw [if_pos ⟨by omega,h⟩]
theorem Zam {n:Int} (h0: -9223372036854775808≤n) (h1:n<9223372036854775808):IntKind.wrap .i64 n=n:=by
 rw [Zo3]; omega
def cut:List UInt8→Option (List UInt8×List UInt8)
 | [] =>none
 | c::r=>if c=59 then some ([],r) else (cut r).map fun x=>(c::x.1,x.2)
def Z28:List UInt8→Nat
 | [] =>0
 | c::r=>if c=91 then Z28 r+1 else 0
def mkT (d:Nat) (b:Int) (n:List UInt8):Z0i:={ Z0v:=d,Z12:=b,Z0f:=n }
def chk (t:Z0i) (r:List UInt8):Option (Z0i×List UInt8):=if Z6l t=true then some (t,r) else none
def rd (s:List UInt8):Option (Z0i×List UInt8):=
 match s.drop (Z28 s) with
 | [] =>none
 | c :: r=>
  if c=76 then
   match cut r with
   | none=>none
   | some (nm,r')=>chk (mkT (Z28 s) 76 nm) r'
  else chk (mkT (Z28 s) (c.toNat:Int) []) r
theorem Zff:∀ l,match cut l with
  | none=>Lib.indexByte l 59<0∧(59:UInt8) ∉ l
  | some (a,b)=>Lib.indexByte l 59=a.length∧l=a++59::b∧(59:UInt8) ∉ a
 | [] =>by simp [cut,Lib.indexByte]
 | c :: r=>by
  have ih:=Zff r
  unfold cut
  by_cases hc:c=59
  ·rw [if_pos hc]; subst hc; simp [Lib.indexByte]
  ·rw [if_neg hc]
   cases h:cut r with
   | none=>
    rw [h] at ih
    have h1:=(Y1q (c::r) 59).2 (by simp only [List.mem_cons,not_or]; exact ⟨fun e=>hc e.symm,ih.2⟩)
    exact ⟨h1,by simp only [List.mem_cons,not_or]; exact ⟨fun e=>hc e.symm,ih.2⟩⟩
   | some x=>
    obtain ⟨a,b⟩:=x
    rw [h] at ih
    obtain ⟨i1,i2,i3⟩:=ih
    refine ⟨?_,by show c::r=c::a++59::b; rw [i2]; rfl,by simp only [List.mem_cons,not_or]; exact ⟨fun e=>hc e.symm,i3⟩⟩
    have: ¬ Lib.indexByte r 59<0:=by omega
    simp [Lib.indexByte,hc,i1]
theorem Zfg:∀ s,Z28 s≤s.length
 | [] =>by simp [Z28]
 | c::r=>by
  have:=Zfg r
  unfold Z28; split <;> simp; omega
theorem Zso:∀ (s:List UInt8) (i:Nat),i<Z28 s→s[i]?=some 91
 | [],i,h=>by simp [Z28] at h
 | c :: r,i,h=>by
  unfold Z28 at h
  split at h
  ·rename_i hc
   cases i with
   | zero=>simp [hc]
   | succ i=>simpa using Zso r i (by omega)
  ·omega
theorem Zpt:∀ (s:List UInt8),s[Z28 s]?≠some 91
 | [] =>by simp
 | c::r=>by
  unfold Z28
  split
  ·simpa using Zpt r
  ·rename_i hc; simpa using hc
theorem Zxt:∀ s:List UInt8,s=List.replicate (Z28 s) 91++s.drop (Z28 s)
 | [] =>rfl
 | c :: r=>by
  have ih:=Zxt r
  unfold Z28
  split
  ·rename_i hc
   subst hc
   rw [List.replicate_succ,List.drop_succ_cons,List.cons_append,← ih]
  ·simp
theorem i8_eq (c d:UInt8):((c.toNat:Int)=(d.toNat:Int))↔c=d:=by
 constructor
 ·intro h; exact UInt8.toNat_inj.1 (by omega)
 ·intro h; rw [h]
theorem Z9k (c d:UInt8):((c.toNat:Int)==(d.toNat:Int))=(c==d):=by
 rw [Bool.eq_iff_iff]; simp only [beq_iff_eq]; exact i8_eq c d
theorem Zd8 {α:Type} (l:List α) (n:Nat) (h:n≤l.length):sub l (n:Int) (l.length:Int)=some (l.drop n):=by
 unfold sub
 rw [if_pos (by omega)]
 simp [List.take_of_length_le]
theorem Zsm {α:Type} (l:List α) (n m:Nat) (h:n≤m) (hm:m≤l.length):sub l (n:Int) (m:Int)=some ((l.drop n).take (m - n)):=by
 unfold sub
 rw [if_pos (by omega)]
 simp
theorem Zzi {s r:List UInt8} {t:Z0i} (h:rd s=some (t,r)):Z6l t=true∧s=fmt t++r∧r.length<s.length∧t.Z0f.length≤64:=by
 have hs:=Zxt s
 unfold rd at h
 cases hd:s.drop (Z28 s) with
 | nil=>rw [hd] at h; cases h
 | cons c q=>
  rw [hd] at h hs
  dsimp only at h
  have key:∀ (nm r':List UInt8) (b:Int),chk (mkT (Z28 s) b nm) r'=some (t,r)→Z6l t=true∧t=mkT (Z28 s) b nm∧r'=r:=fun nm r' b hc=>by
   unfold chk at hc
   split at hc
   ·rename_i hv; cases hc; exact ⟨hv,rfl,rfl⟩
   ·cases hc
  split at h
  ·rename_i hc
   subst hc
   have hcut:=Zff q
   cases hq:cut q with
   | none=>rw [hq] at h; cases h
   | some x=>
    obtain ⟨nm,r'⟩:=x
    rw [hq] at h hcut
    obtain ⟨k1,k2,k3⟩:=key _ _ _ h
    subst k3
    have hf:s=fmt t++r':=by
     rw [k2]
     unfold fmt mkT
     dsimp only
     rw [if_pos rfl,show ((Z28 s:Nat):Int).toNat=Z28 s from rfl]
     have hq2:q=nm++59::r':=hcut.2.1
     conv=>lhs; rw [hs,hq2]
     simp
    refine ⟨k1,hf,?_,(Zn7 k1).2.2.2⟩
    have:=(Zpj k1).2
    have hl:=congrArg List.length hf
    rw [List.length_append] at hl; omega
  ·rename_i hc
   obtain ⟨k1,k2,k3⟩:=key _ _ _ h
   subst k3
   have hf:s=fmt t++q:=by
    rw [k2]
    unfold fmt mkT
    dsimp only
    rw [if_neg (fun e:(c.toNat:Int)=76=>hc ((i8_eq c 76).1 e))]
    rw [show ((Z28 s:Nat):Int).toNat=Z28 s from rfl,show ((c.toNat:Nat):Int).toNat=c.toNat from rfl]
    conv=>lhs; rw [hs]
    simp
   refine ⟨k1,hf,?_,(Zn7 k1).2.2.2⟩
   have:=(Zpj k1).2
   have hl:=congrArg List.length hf
   rw [List.length_append] at hl; omega
theorem Ze1 {s:List UInt8} {i:Nat} {c:UInt8} (h:s[i]?=some c):Z2s s (i:Int)=some (c.toNat:Int):=by
 unfold Z2s
 rw [if_pos (by omega),Int.toNat_natCast,h]; rfl
theorem getS0 {c:UInt8} {r:List UInt8}:Z2s (c::r) 0=some (c.toNat:Int):=rfl
theorem Y6x (s:List UInt8) (hl:(s.length:Int)≤140737488355328):Z06 (Zg9 s) Z07 0=some (Z28 s:Int):=by
 have hle:=Zfg s
 have:∃ r,Z06 (Zg9 s) Z07 0=some r∧r=(Z28 s:Int):=by
  refine Z9l (fun i:Int=>0≤i∧i≤Z28 s) (fun i:Int=>((s.length:Int) - i).toNat) (fun r=>r=(Z28 s:Int)) ?_ Z07 0 ⟨by omega,by omega⟩ ?_
  ·intro i ⟨i0,i1⟩
   obtain ⟨n,rfl⟩:=Int.eq_ofNat_of_zero_le i0
   unfold Zg9
   by_cases hlt:n<s.length
   ·have hc:s[n]?=some s[n] :=List.getElem?_eq_getElem hlt
    rw [if_pos (by simpa using hlt),Ze1 hc]
    try simp only [Option.bind_some]
    rw [show (91:Int)=((91:UInt8).toNat:Int) from rfl,Z9k]
    by_cases h91:s[n]=91
    ·rw [if_pos (by simpa using h91),Zam (by omega) (by omega)]
     have hn:n≠Z28 s:=by
      intro e
      apply Zpt s
      rw [← e,hc,h91]
     exact ⟨_,rfl,⟨by omega,by omega⟩,by omega⟩
    ·rw [if_neg (by simpa using h91)]
     refine ⟨_,rfl,?_⟩
     show (n:Int)=Z28 s
     rcases Nat.lt_or_ge n (Z28 s) with h'|h'
     ·have:=Zso s n h'
      rw [hc] at this
      exact absurd (by simpa using this) h91
     ·omega
   ·rw [if_neg (by simpa using hlt)]
    exact ⟨_,rfl,by show (n:Int)=Z28 s; omega⟩
  ·show ((s.length:Int) - 0).toNat<18446744073709551616
   omega
 obtain ⟨r,h1,h2⟩:=this
 rw [h1,h2]
theorem index59 (s:List UInt8):Zt5 s 59=some (Lib.indexByte s 59):=rfl
theorem Znl (t:Z0i) (r:List UInt8) (hl:(t.Z0f.length:Int)≤140737488355328):∃ b,Zcl t=some b∧Z92 t=some b∧chk t r=if b=true then some (t,r) else none:=
 ⟨Z6l t,Zux t hl,Y3h t hl,rfl⟩
theorem Y03 (s:List UInt8) (hl:(s.length:Int)≤140737488355328):∃ v,Zfx s=some v∧match rd s with
  | some (t,r)=>v=(t,r,true)
  | none=>v.2.2=false:=by
 have hle:=Zfg s
 unfold Zfx rd
 rw [Y6x s hl]
 try simp only [Option.bind_some]
 rw [Zd8 s _ hle]
 try simp only [Option.bind_some]
 have hlen:(s.drop (Z28 s)).length≤s.length:=by rw [List.length_drop]; omega
 cases hd:s.drop (Z28 s) with
 | nil=>exact ⟨_,rfl,rfl⟩
 | cons c q=>
  rw [hd] at hlen
  simp only [List.length_cons] at hlen
  rw [if_neg (by simp),getS0]
  try simp only [Option.bind_some]
  rw [show (1:Int)=((1:Nat):Int) from rfl,Zd8 (c::q) 1 (by simp)]
  simp only [Option.bind_some,List.drop_succ_cons,List.drop_zero]
  rw [show (76:Int)=((76:UInt8).toNat:Int) from rfl,Z9k]
  by_cases hc:c=76
  ·rw [if_pos (by simpa using hc),if_pos hc,index59]
   try simp only [Option.bind_some]
   have hcut:=Zff q
   cases hq:cut q with
   | none=>
    rw [hq] at hcut
    rw [if_pos (decide_eq_true hcut.1)]
    exact ⟨_,rfl,rfl⟩
   | some x=>
    obtain ⟨nm,r'⟩:=x
    rw [hq] at hcut
    obtain ⟨h1,h2,h3⟩:=hcut
    have hql:q.length=nm.length+1+r'.length:=by rw [h2]; simp; omega
    rw [h1,if_neg (by simp)]
    rw [show (0:Int)=((0:Nat):Int) from rfl,Zsm q 0 nm.length (by omega) (by omega)]
    try simp only [Option.bind_some]
    rw [Zam (by omega) (by omega)]
    try simp only [Option.bind_some]
    rw [show (nm.length:Int)+((1:Nat):Int)=((nm.length+1:Nat):Int) by omega,Zd8 q _ (by omega)]
    try simp only [Option.bind_some]
    have e1:(q.drop 0).take (nm.length - 0)=nm:=by rw [h2]; simp
    have e2:q.drop (nm.length+1)=r':=by rw [h2,List.drop_append]; simp
    rw [e1,e2,hc]
    unfold Zh2
    obtain ⟨b,k1,-,k3⟩:=Znl (mkT (Z28 s) 76 nm) r' (by show (nm.length:Int)≤_; omega)
    unfold mkT at k1
    rw [show (((76:UInt8).toNat:Nat):Int)=76 from rfl,k1]
    rw [k3]
    cases b with
    | true=>exact ⟨_,rfl,rfl⟩
    | false=>exact ⟨_,rfl,rfl⟩
  ·rw [if_neg (by simpa using hc),if_neg hc]
   unfold Zh2
   obtain ⟨b,k1,-,k3⟩:=Znl (mkT (Z28 s) (c.toNat:Int) []) q (by show (([]:List UInt8).length:Int)≤_; simp)
   unfold mkT at k1
   rw [k1]
   rw [k3]
   cases b with
   | true=>exact ⟨_,rfl,rfl⟩
   | false=>exact ⟨_,rfl,rfl⟩
def zeroT:Z0i:={ Z0v:=0,Z12:=0,Z0f:=[] }
def Zox (s:List UInt8):Z0i×Int:=match rd s with
 | some (t,[])=>(t,0)
 | _=>(zeroT,13)
theorem Y9h (s:List UInt8) (hl:(s.length:Int)≤140737488355328):Zlx s=some (Zox s):=by
 obtain ⟨v,h1,h2⟩:=Y03 s hl
 unfold Zlx Zox
 rw [h1]
 try simp only [Option.bind_some]
 cases hr:rd s with
 | none=>rw [hr] at h2; dsimp only at h2; rw [h2]; rfl
 | some x=>
  obtain ⟨t,r⟩:=x
  rw [hr] at h2
  dsimp only at h2
  subst h2
  cases r with
  | nil=>rfl
  | cons c r=>rfl
theorem Y7v (s:List UInt8) (hl:(s.length:Int)≤140737488355328) (at_:Nat) (h:at_≤s.length):Z06 (Zc0 s) Z07 ((at_:Int),0)=some ((Z28 (s.drop at_):Int),((at_+Z28 (s.drop at_):Nat):Int)):=by
 have hle:=Zfg (s.drop at_)
 rw [List.length_drop] at hle
 have hget:∀ k,(s.drop at_)[k]?=s[at_+k]? :=fun k=>by rw [List.getElem?_drop]
 have : ∃ r, Z06 (Zc0 s) Z07 ((at_:Int),0)=some r∧r=((Z28 (s.drop at_):Int),((at_+Z28 (s.drop at_):Nat):Int)):=by
  refine Z9l (fun p=>∃ k:Nat,k≤Z28 (s.drop at_)∧p=(((at_+k:Nat):Int),(k:Int))) (fun p=>((s.length:Int) - p.1).toNat) (fun r=>r=((Z28 (s.drop at_):Int),((at_+Z28 (s.drop at_):Nat):Int))) ?_ Z07 _ ⟨0,by omega,by simp⟩ ?_
  ·rintro p ⟨k,hk,rfl⟩
   unfold Zc0
   dsimp only
   by_cases hlt:at_+k<s.length
   ·have hc:s[at_+k]?=some s[at_+k] :=List.getElem?_eq_getElem hlt
    rw [if_pos (decide_eq_true (by omega)),Ze1 hc]
    try simp only [Option.bind_some]
    rw [show (91:Int)=((91:UInt8).toNat:Int) from rfl,Z9k]
    by_cases h91:s[at_+k]=91
    ·rw [if_pos (by simpa using h91)]
     unfold Zg3
     dsimp only
     rw [Zam (by omega) (by omega)]
     try simp only [Option.bind_some]
     rw [Zam (by omega) (by omega)]
     try simp only [Option.bind_some]
     have hn:k≠Z28 (s.drop at_):=by
      intro e
      apply Zpt (s.drop at_)
      rw [← e,hget,hc,h91]
     exact ⟨_,rfl,⟨k+1,by omega,by simp; omega⟩,by dsimp only; omega⟩
    ·rw [if_neg (by simpa using h91)]
     refine ⟨_,rfl,?_⟩
     have hn:k=Z28 (s.drop at_):=by
      rcases Nat.lt_or_ge k (Z28 (s.drop at_)) with h'|h'
      ·have:=Zso _ k h'
       rw [hget,hc] at this
       exact absurd (by simpa using this) h91
      ·omega
     show ((k:Int),((at_+k:Nat):Int))=_
     rw [← hn]
   ·rw [if_neg (by simp; omega)]
    refine ⟨_,rfl,?_⟩
    show ((k:Int),((at_+k:Nat):Int))=_
    rw [show k=Z28 (s.drop at_) by omega]
  ·show ((s.length:Int) - (at_:Int)).toNat<18446744073709551616
   omega
 obtain ⟨r,h1,h2⟩:=this
 rw [h1,h2]
theorem Y4z (s:List UInt8) (hl:(s.length:Int)≤140737488355328) (at_:Nat) (h:at_≤s.length):Z06 (Zb9 s) Z07 (at_:Int)=some (match cut (s.drop at_) with
  | some (a,_)=>((at_+a.length:Nat):Int)
  | none=>(s.length:Int)):=by
 have hcut:=Zff (s.drop at_)
 have hlen:(s.drop at_).length=s.length - at_:=List.length_drop
 have hget:∀ k,(s.drop at_)[k]?=s[at_+k]? :=fun k=>by rw [List.getElem?_drop]
 -- how far it goes
 obtain ⟨m,hm,hno,hend⟩:∃ m:Nat,(match cut (s.drop at_) with
   | some (a,_)=>((at_+a.length:Nat):Int)
   | none=>(s.length:Int))=((at_+m:Nat):Int)∧(∀ k,k<m→∃ c,s[at_+k]?=some c∧c≠59)∧(at_+m=s.length∨s[at_+m]?=some 59):=by
  cases hq:cut (s.drop at_) with
  | none=>
   rw [hq] at hcut
   refine ⟨s.length - at_,by dsimp only; omega,fun k hk=>?_,.inl (by omega)⟩
   have hlt:at_+k<s.length:=by omega
   refine ⟨s[at_+k],List.getElem?_eq_getElem hlt,fun e=>hcut.2 ?_⟩
   have:(s.drop at_)[k]?=some 59:=by rw [hget,List.getElem?_eq_getElem hlt,e]
   exact List.mem_of_getElem? this
  | some x=>
   obtain ⟨a,b⟩:=x
   rw [hq] at hcut
   obtain ⟨-,h2,h3⟩:=hcut
   refine ⟨a.length,rfl,fun k hk=>?_,.inr ?_⟩
   ·have:(s.drop at_)[k]?=some a[k] :=by rw [h2,List.getElem?_append_left hk,List.getElem?_eq_getElem hk]
    rw [hget] at this
    exact ⟨_,this,fun e=>h3 (e ▸ List.getElem_mem hk)⟩
   ·rw [← hget,h2,List.getElem?_append_right (Nat.le_refl _)]; simp
 rw [hm]
 have hms:at_+m≤s.length:=by
  rcases hend with h'|h'
  ·omega
  ·rcases Nat.lt_or_ge (at_+m) s.length with h2|h2
   ·omega
   ·rw [List.getElem?_eq_none h2] at h'; cases h'
 have:∃ r,Z06 (Zb9 s) Z07 (at_:Int)=some r∧r=((at_+m:Nat):Int):=by
  refine Z9l (fun p=>∃ k:Nat,k≤m∧p=((at_+k:Nat):Int)) (fun p=>((s.length:Int) - p).toNat) (fun r=>r=((at_+m:Nat):Int)) ?_ Z07 _ ⟨0,by omega,by simp⟩ ?_
  ·rintro p ⟨k,hk,rfl⟩
   unfold Zb9
   by_cases hkm:k<m
   ·obtain ⟨c,hc,hne⟩:=hno k hkm
    rw [if_pos (decide_eq_true (by omega)),Ze1 hc]
    try simp only [Option.bind_some]
    rw [show (59:Int)=((59:UInt8).toNat:Int) from rfl,bne,Z9k]
    rw [if_pos (by simpa using hne),Zam (by omega) (by omega)]
    exact ⟨_,rfl,⟨k+1,by omega,by simp; omega⟩,by omega⟩
   ·obtain rfl:k=m:=by omega
    rcases hend with h'|h'
    ·rw [if_neg (by simp; omega)]
     exact ⟨_,rfl,rfl⟩
    ·have hlt:at_+k<s.length:=by
      rcases Nat.lt_or_ge (at_+k) s.length with h2|h2
      ·exact h2
      ·rw [List.getElem?_eq_none h2] at h'; cases h'
     rw [if_pos (decide_eq_true (by omega)),Ze1 h']
     try simp only [Option.bind_some]
     rw [show (59:Int)=((59:UInt8).toNat:Int) from rfl,bne,Z9k]
     exact ⟨_,rfl,rfl⟩
  ·show ((s.length:Int) - (at_:Int)).toNat<18446744073709551616
   omega
 obtain ⟨r,h1,h2⟩:=this
 rw [h1,h2]
theorem Zxo (s:List UInt8) (hl:(s.length:Int)≤140737488355328) (at_:Nat) (h:at_≤s.length):Z8e s (at_:Int)=some (match rd (s.drop at_) with
  | some (t,r)=>(t,((s.length - r.length:Nat):Int))
  | none=>(zeroT,-1)):=by
 have hle:=Zfg (s.drop at_)
 rw [List.length_drop] at hle
 unfold Z8e rd
 rw [Y7v s hl at_ h]
 try simp only [Option.bind_some]
 have hdd:(s.drop at_).drop (Z28 (s.drop at_))=s.drop (at_+Z28 (s.drop at_)):=by rw [List.drop_drop]
 rw [hdd]
 generalize hk:at_+Z28 (s.drop at_)=k
 have hks:k≤s.length:=by omega
 cases hd:s.drop k with
 | nil=>
  have:s.length≤k:=by simpa using hd
  rw [if_pos (decide_eq_true (by omega))]; rfl
 | cons c q=>
  have hlt:k<s.length:=by
   rcases Nat.lt_or_ge k s.length with h'|h'
   ·exact h'
   ·rw [List.drop_eq_nil_of_le h'] at hd; cases hd
  have hc:s[k]?=some c:=by
   have:=congrArg (fun l=>l[0]?) hd
   simpa using this
  have hq:s.drop (k+1)=q:=by
   have:=congrArg List.tail hd
   simpa [List.tail_drop] using this
  have hql:q.length=s.length - (k+1):=by rw [← hq,List.length_drop]
  rw [if_neg (by simp; omega),Ze1 hc]
  try simp only [Option.bind_some]
  rw [Zam (by omega) (by omega)]
  try simp only [Option.bind_some]
  rw [show (76:Int)=((76:UInt8).toNat:Int) from rfl,Z9k,show (k:Int)+1=((k+1:Nat):Int) by omega]
  by_cases h76:c=76
  ·rw [if_pos (by simpa using h76),if_pos h76,Y4z s hl (k+1) (by omega),hq]
   try simp only [Option.bind_some]
   have hcut:=Zff q
   cases hcq:cut q with
   | none=>rw [if_pos (decide_eq_true (by simp))]; rfl
   | some x=>
    obtain ⟨nm,r'⟩:=x
    rw [hcq] at hcut
    obtain ⟨-,e2,e3⟩:=hcut
    have hl2:q.length=nm.length+1+r'.length:=by rw [e2]; simp; omega
    rw [if_neg (by simp; omega),Zsm s (k+1) (k+1+nm.length) (by omega) (by omega)]
    try simp only [Option.bind_some]
    rw [Zam (by omega) (by omega)]
    try simp only [Option.bind_some]
    have e4:(s.drop (k+1)).take (k+1+nm.length - (k+1))=nm:=by
     rw [hq,show k+1+nm.length - (k+1)=nm.length by omega,e2]; simp
    rw [e4,h76]
    unfold Z93
    obtain ⟨b,-,k2,k3⟩:=Znl (mkT (Z28 (s.drop at_)) 76 nm) r' (by show (nm.length:Int)≤_; omega)
    unfold mkT at k2
    dsimp only
    rw [show (((76:UInt8).toNat:Nat):Int)=76 from rfl,k2,k3]
    cases b with
    | false=>rfl
    | true=>
     simp only [Option.bind_some,Bool.not_true,Bool.false_eq_true,if_false,if_true,Option.some.injEq,Prod.mk.injEq]
     exact ⟨rfl,by omega⟩
  ·rw [if_neg (by simpa using h76),if_neg h76]
   unfold Z93
   obtain ⟨b,-,k2,k3⟩:=Znl (mkT (Z28 (s.drop at_)) (c.toNat:Int) []) q (by show (([]:List UInt8).length:Int)≤_; simp)
   unfold mkT at k2
   dsimp only
   rw [k2,k3]
   cases b with
   | false=>rfl
   | true=>
    simp only [Option.bind_some,Bool.not_true,Bool.false_eq_true,if_false,if_true,Option.some.injEq,Prod.mk.injEq]
    exact ⟨rfl,by omega⟩
def okP1 (t:Z0i):Bool:=Z6l t&&t.Z12 !=86
theorem Zxq {T T' R R':Type} {f:T→Option (Ctl T R)} {f':T'→Option (Ctl T' R')} (I:T→T'→Prop) (μ:T→Nat) (Post:R→R'→Prop)
  (step:∀ t t',I t t'→∃ x x',f t=some x∧f' t'=some x'∧match x,x' with
   | .next a,.next b=>I a b∧μ a<μ t
   | .done a,.done b=>Post a b
   | _,_=>False):∀ (n:Nat) (t:T) (t':T'),I t t'→μ t<n→∃ r r',Z06 f n t=some r∧Z06 f' n t'=some r'∧Post r r'
 | 0,t,t',_,h=>absurd h (Nat.not_lt_zero _)
 | n + 1,t,t',hI,h=>by
  obtain ⟨x,x',hx,hx',hp⟩:=step t t' hI
  cases x with
  | next a=>
   cases x' with
   | next b=>
    obtain ⟨r,r',h1,h2,h3⟩:=Zxq I μ Post step n a b hp.1 (by have:=hp.2; omega)
    exact ⟨r,r',by rw [Z06,hx]; exact h1,by rw [Z06,hx']; exact h2,h3⟩
   | done b=>exact absurd hp id
  | done a=>
   cases x' with
   | next b=>exact absurd hp id
   | done b=>exact ⟨a,b,by rw [Z06,hx],by rw [Z06,hx'],hp⟩
def zeroG:Z24:={ Z3z:=[],Z3e:=zeroT }
theorem Y97 (s:List UInt8) (hl:s.length≤2000000) (h1:1≤s.length):∃ r r',Z06 Zmj Z07 (s.drop 1,[])=some r∧Z06 (Zgh s) Z07 (1,[])=some r'∧match r,r' with
  | .inl a,.inl b=>a.1=b.1∧a.1.all okP1=true∧a.1.length≤2000000∧(∃ k:Nat,b.2=(k:Int)∧k≤s.length∧a.2=s.drop k)∧a.1.flatMap fmt++a.2=s.drop 1∧(a.2=[]∨∃ q,a.2=41::q)
  | .inr a,.inr b=>a=(zeroG,13)∧b=(zeroG,13)
  | _,_=>False:=by
 refine Zxq (fun p p'=>p.2=p'.2∧p.2.all okP1=true∧(∃ k:Nat,p'.1=(k:Int)∧k≤s.length∧p.1=s.drop k∧p.2.length≤k)∧p.2.flatMap fmt++p.1=s.drop 1) (fun p=>p.1.length) _ ?_ Z07 _ _
  ⟨rfl,by simp,⟨1,rfl,h1,rfl,by simp⟩,by simp⟩ ?_
 ·rintro ⟨s',acc⟩ ⟨at_,acc'⟩ ⟨e1,hok,⟨k,e2,hk,e3,hac⟩,hcat⟩
  dsimp only at e1 e2 e3 hok hac hcat
  subst e1 e2 e3
  unfold Zmj Zgh
  dsimp only
  cases hd:s.drop k with
  | nil=>
   have:s.length≤k:=by simpa using hd
   rw [if_neg (by simp),if_neg (by simp; omega)]
   refine ⟨_,_,rfl,rfl,?_⟩
   exact ⟨rfl,hok,by show acc.length≤2000000; omega,⟨k,rfl,hk,hd.symm⟩,by rw [← hd]; exact hcat,.inl rfl⟩
  | cons c q=>
   have hlt:k<s.length:=by
    rcases Nat.lt_or_ge k s.length with h'|h'
    ·exact h'
    ·rw [List.drop_eq_nil_of_le h'] at hd; cases hd
   have hc:s[k]?=some c:=by
    have:=congrArg (fun l=>l[0]?) hd
    simpa using this
   rw [if_pos (by simp),if_pos (decide_eq_true (by omega)),getS0,Ze1 hc]
   simp only [Option.bind_some]
   rw [show (41:Int)=((41:UInt8).toNat:Int) from rfl,bne,Z9k]
   by_cases h41:c=41
   ·rw [if_neg (by simpa using h41),if_neg (by simpa using h41)]
    refine ⟨_,_,rfl,rfl,?_⟩
    exact ⟨rfl,hok,by show acc.length≤2000000; omega,⟨k,rfl,hk,hd.symm⟩,by rw [← hd]; exact hcat,.inr ⟨q,by rw [h41]⟩⟩
   ·rw [if_pos (by simpa using h41),if_pos (by simpa using h41)]
    unfold j78x2 Zna
    dsimp only
    rw [← hd]
    obtain ⟨v,hv,hrd⟩:=Y03 (s.drop k) (by rw [List.length_drop]; omega)
    rw [hv,Zxo s (by omega) k hk]
    simp only [Option.bind_some]
    cases hr:rd (s.drop k) with
    | none=>
     rw [hr] at hrd
     dsimp only at hrd ⊢
     rw [hrd]
     exact ⟨_,_,rfl,rfl,rfl,rfl⟩
    | some x=>
     obtain ⟨t,r⟩:=x
     rw [hr] at hrd
     dsimp only at hrd ⊢
     subst hrd
     obtain ⟨g1,g2,g3,g4⟩:=Zzi hr
     dsimp only
     rw [if_neg (show ¬ ((!true)=true) by decide),if_neg (show ¬ (decide (((s.length - r.length:Nat):Int)<0)=true) by simp)]
     by_cases h86:t.Z12=86
     ·rw [if_pos (by simpa using h86),if_pos (by simpa using h86)]
      exact ⟨_,_,rfl,rfl,rfl,rfl⟩
     ·rw [if_neg (by simpa using h86),if_neg (by simpa using h86)]
      unfold j78x3 Zmv
      dsimp only
      have hrl:r.length<s.length - k:=by rw [← List.length_drop]; exact g3
      rw [Z78 32 (by simp; omega) (by omega)]
      simp only [Option.bind_some]
      refine ⟨_,_,rfl,rfl,⟨rfl,?_,⟨s.length - r.length,rfl,by omega,?_,?_⟩,?_⟩,g3⟩
      ·rw [List.all_append,hok]
       show (true&&([t].all okP1))=true
       simp [okP1,g1,h86]
      ·dsimp only
       have hf:=(Zpj g1).2
       have e5:s.drop k=fmt t++r:=g2
       have e6:(fmt t).length+r.length=s.length - k:=by rw [← List.length_append,← e5,List.length_drop]
       have e7:s.drop (s.length - r.length)=(s.drop k).drop (fmt t).length:=by rw [List.drop_drop]; congr 1; omega
       rw [e7,e5,List.drop_left]
      ·dsimp only
       rw [List.length_append]
       simp only [List.length_singleton]
       omega
      ·dsimp only
       rw [List.flatMap_append,List.append_assoc]
       show List.flatMap fmt acc++([t].flatMap fmt++r)=_
       rw [show [t].flatMap fmt=fmt t by simp,← g2]; exact hcat
 ·show (s.drop 1).length<18446744073709551616
  rw [List.length_drop]; omega
theorem Y5v (s:List UInt8) (hl:s.length≤2000000):∃ v,Zn2 s=some v∧Z8u s=some v∧(v.2=0→Z6l v.1.Z3e=true∧∃ q,s=40::q)∧v.1.Z3z.all okP1=true∧v.1.Z3z.length≤16:=by
 unfold Zn2 Z8u
 cases s with
 | nil=>exact ⟨_,rfl,rfl,(fun h=>absurd h (by decide)),rfl,by decide⟩
 | cons c q=>
  rw [if_neg (by simp),if_neg (by simp),getS0]
  simp only [Option.bind_some]
  rw [show (40:Int)=((40:UInt8).toNat:Int) from rfl,bne,Z9k]
  by_cases h40:c=40
  ·rw [if_neg (by simpa using h40),if_neg (by simpa using h40)]
   unfold j78x1 Zkh
   obtain ⟨r,r',h1,h2,h3⟩:=Y97 (c::q) hl (by simp)
   rw [show sub (c::q) 1 ((c::q).length:Int)=some ((c::q).drop 1) from Zd8 (c::q) 1 (by simp),h2]
   simp only [Option.bind_some]
   rw [h1]
   simp only [Option.bind_some]
   cases r with
   | inr a=>
    cases r' with
    | inl b=>exact absurd h3 id
    | inr b=>
     dsimp only at h3 ⊢
     obtain ⟨rfl,rfl⟩:=h3
     exact ⟨_,rfl,rfl,(fun h=>absurd h (by decide)),rfl,by decide⟩
   | inl a =>
    cases r' with
    | inr b=>exact absurd h3 id
    | inl b =>
     obtain ⟨acc,s'⟩:=a
     obtain ⟨acc',at_⟩:=b
     dsimp only at h3 ⊢
     obtain ⟨e1,hok,hacc,⟨k,e2,hk,e3⟩,hcat,hend⟩:=h3
     have hlc:(c::q).length=q.length+1:=List.length_cons
     subst e1 e2
     rcases hend with hnil|⟨q',hq'⟩
     ·subst hnil
      have:(c::q).length≤k:=by
       have:=congrArg List.length e3
       rw [List.length_drop] at this
       simp only [List.length_nil] at this
       omega
      rw [if_pos (by simp),if_pos (decide_eq_true (by omega))]
      exact ⟨_,rfl,rfl,(fun h=>absurd h (by decide)),rfl,by decide⟩
     ·have hlen:q'.length+1=(c::q).length - k:=by
       have:=congrArg List.length e3
       rw [List.length_drop,hq'] at this
       simpa using this
      have hdrop:(c::q).drop (k+1)=q':=by
       rw [← List.drop_drop,← e3,hq']; rfl
      rw [hq',if_neg (by simp),if_neg (by simp; omega)]
      rw [show sub (41::q') 1 ((41::q').length:Int)=some ((41::q').drop 1) from Zd8 (41::q') 1 (by simp)]
      simp only [Option.bind_some]
      rw [Zam (by omega) (by omega)]
      simp only [Option.bind_some,List.drop_succ_cons,List.drop_zero]
      rw [Y9h q' (by omega),show (k:Int)+1=((k+1:Nat):Int) by omega,Zxo (c::q) (by omega) (k+1) (by omega),hdrop]
      simp only [Option.bind_some]
      unfold Zox
      cases hr:rd q' with
      | none=>
       dsimp only
       rw [if_pos (by decide),if_pos (by simp <;> omega)]
       exact ⟨_,rfl,rfl,(fun h=>absurd h (by decide)),rfl,by decide⟩
      | some x=>
       obtain ⟨t,r⟩:=x
       obtain ⟨g1,g2,g3,g4⟩:=Zzi hr
       cases r with
       | cons c2 r2=>
        have hne:(((c::q).length - (c2::r2).length:Nat):Int)≠((c::q).length:Int):=by
         simp only [List.length_cons] at g3 hlen ⊢; omega
        dsimp only
        rw [if_pos (by decide),if_pos (bne_iff_ne.2 hne)]
        exact ⟨_,rfl,rfl,(fun h=>absurd h (by decide)),rfl,by decide⟩
       | nil=>
        dsimp only
        rw [if_neg (show ¬ (((0:Int)!=0)=true) by decide),if_neg (show ¬ ((((c::q).length - ([]:List UInt8).length:Nat):Int)!=((c::q).length:Int))=true by simp)]
        by_cases h16:(acc.length:Int)>16
        ·rw [if_pos (decide_eq_true h16)]
         exact ⟨_,rfl,rfl,(fun h=>absurd h (by decide)),rfl,by decide⟩
        ·rw [if_neg (by simpa using h16)]
         exact ⟨_,rfl,rfl,(fun _=>⟨g1,q,by rw [h40]⟩),hok,by dsimp only; omega⟩
  ·rw [if_pos (by simpa using h40),if_pos (by simpa using h40)]
   exact ⟨_,rfl,rfl,(fun h=>absurd h (by decide)),rfl,by decide⟩
end Go.Proofs
namespace Go.Proofs
open Go.Den Go.Tot
def Im {α:Type} (o:Option α) (P:α→Prop):Prop:=∀ r,o=some r→P r
namespace I
variable {α β:Type} {P:α→Prop} {Q:β→Prop}
theorem ok {x:α} (h:P x):Im (some x) P:=fun r e=>by cases e; exact h
theorem bd {o:Option α} {f:α→Option β} (h:Im o P) (k:∀ x,P x→Im (f x) Q):Im (o.bind f) Q:=fun r e=>by
 obtain ⟨x,e1,e2⟩:=Option.bind_eq_some_iff.1 e
 exact k x (h x e1) r e2
theorem sk {o:Option α} {f:α→Option β} (k:∀ x,o=some x→Im (f x) Q):Im (o.bind f) Q:=fun r e=>by
 obtain ⟨x,e1,e2⟩:=Option.bind_eq_some_iff.1 e
 exact k x e1 r e2
theorem br {b:Bool} {x y:Option α} (T:b=true→Im x P) (F:b=false→Im y P):Im (if b=true then x else y) P:=by
 cases b with
 | true=>exact T rfl
 | false=>exact F rfl
theorem mono {P':α→Prop} {o:Option α} (h:Im o P) (k:∀ x,P x→P' x):Im o P':=fun r e=>k r (h r e)
def Ct {T R:Type} (I:T→Prop) (Q:R→Prop):Ctl T R→Prop
 | .next t=>I t
 | .done r=>Q r
theorem nx {T R:Type} {I:T→Prop} {Q:R→Prop} {t:T} (h:I t):Im (some (Ctl.next t:Ctl T R)) (Ct I Q):=ok h
theorem dn {T R:Type} {I:T→Prop} {Q:R→Prop} {r:R} (h:Q r):Im (some (Ctl.done r:Ctl T R)) (Ct I Q):=ok h
theorem lp {T R:Type} {f:T→Option (Ctl T R)} (I:T→Prop) {Q:R→Prop} (h:∀ t,I t→Im (f t) (Ct I Q)):∀ {n:Nat} {t:T},I t→Im (Z06 f n t) Q
 | 0,t,_,r,e=>by cases e
 | n + 1,t,ht,r,e=>by
  unfold Z06 at e
  have:=h t ht
  split at e
  ·rename_i s' hs
   exact lp I h (this _ hs) r e
  ·rename_i r' hs
   cases e
   exact this _ hs
  ·cases e
end I
theorem Z6w {α:Type} {l:List α} {i:Int} {v:α} (h:Z02 l i=some v):v∈l∧0≤i∧l[i.toNat]?=some v:=by
 unfold Z02 at h
 split at h
 ·exact ⟨List.mem_of_getElem? h,by assumption,h⟩
 ·cases h
def Sb (P Q:List Z00):Prop:=∀ c∈P,c∈Q
def In1 (s:List UInt8) (P:List Z00):Prop:=∃ c∈P,c.Z2b=1∧c.f_S=s
theorem Sb.trans {P Q R:List Z00} (h:Sb P Q) (k:Sb Q R):Sb P R:=fun c hc=>k c (h c hc)
theorem Zet (P:List Z00) (c:Z00):Im (Z6o P c) (fun r=>Sb P r.1∧(r.2.2=0→c∈r.1)):=by
 unfold Z6o
 refine I.bd (I.lp (fun _=>True) (Q:=fun q=>match q with|.inl _=>True|.inr r=>Sb P r.1∧c∈r.1) (fun t _=>?_) trivial) fun q hq=>?_
 ·unfold Zfi
  refine I.br (fun _=>I.sk fun v e=>I.br (fun h=>I.sk fun _ _=>I.dn ⟨fun c h=>h,?_⟩) fun _=>I.sk fun _ _=>I.nx trivial) fun _=>I.dn trivial
  have:v=c:=by
   unfold Zq4 at h
   simp only [Bool.and_eq_true,beq_iff_eq,and_true] at h
   obtain ⟨a1,a2,a3,a4,a5⟩:=h
   cases v; cases c; simp_all
  subst this
  exact (Z6w e).1
 ·cases q with
  | inr r=>exact I.ok ⟨hq.1,fun _=>hq.2⟩
  | inl _=>exact I.br (fun _=>I.ok ⟨fun c h=>h,fun h=>by cases h⟩) fun _=>I.sk fun _ _=>I.sk fun _ _=>I.sk fun _ _=>I.ok ⟨fun c h=>by simp [h],fun _=>by simp⟩
theorem Zia (P:List Z00) (s:List UInt8):Im (Z7j P s) (fun r=>Sb P r.1∧(r.2.2=0→In1 s r.1)):=by
 unfold Z7j
 exact I.bd (Zet _ _) fun v h=>I.ok ⟨h.1,fun e=>⟨_,h.2 e,rfl,rfl⟩⟩
theorem i_Add' (P:List Z00) (c:Z00):Im (Z6o P c) (fun r=>Sb P r.1):=I.mono (Zet P c) fun _ h=>h.1
theorem i_UTF8' (P:List Z00) (s:List UInt8):Im (Z7j P s) (fun r=>Sb P r.1):=I.mono (Zia P s) fun _ h=>h.1
theorem Zx1 (P:List Z00) (t:Int) (s:List UInt8):Im (Zbz P t s) (fun r=>Sb P r.1):=by
 unfold Zbz
 exact I.bd (Zia _ _) fun v h=>I.br (fun _=>I.ok fun c h=>h) fun _=>I.bd (Zet _ _) fun v' h'=>I.br (fun _=>I.ok fun c h=>h) fun _=>I.ok (h.1.trans h'.1)
theorem Zqx (P:List Z00) (s:List UInt8):Im (Zah P s) (fun r=>Sb P r.1):=by
 unfold Zah
 exact I.bd (Zx1 _ _ _) fun v h=>I.ok h
theorem Y5o (P:List Z00) (s:List UInt8):Im (Zb0 P s) (fun r=>Sb P r.1):=by
 unfold Zb0
 exact I.bd (Zx1 _ _ _) fun v h=>I.ok h
theorem Y82 (P:List Z00) (t:Int) (x:Z1t):Im (Z9t P t x) (fun r=>Sb P r.1):=by
 unfold Z9t
 exact I.bd (Zqx _ _) fun v h=>I.br (fun _=>I.ok fun c h=>h) fun _=>I.bd (Zia _ _) fun v1 h1=>I.br (fun _=>I.ok fun c h=>h) fun _=>I.bd (Zia _ _) fun v2 h2=>I.br (fun _=>I.ok fun c h=>h) fun _=>
  I.bd (Zet _ _) fun v3 h3=>I.br (fun _=>I.ok fun c h=>h) fun _=>I.bd (Zet _ _) fun v4 h4=>I.br (fun _=>I.ok fun c h=>h) fun _=>I.ok ((((h.trans h1.1).trans h2.1).trans h3.1).trans h4.1)
theorem i_place (P:List Z00) (x:Z01):Im (Zdm P x) (fun r=>Sb P r.1):=by
 unfold Zdm Zhq Zld Zfp Zoa
 repeat' first
  | refine I.br (fun _=>?_) fun _=>?_
  | refine I.bd (Y82 _ _ _) fun _ _=>?_
  | refine I.bd (Y5o _ _) fun _ _=>?_
  | refine I.bd (Zqx _ _) fun _ _=>?_
  | refine I.bd (i_UTF8' _ _) fun _ _=>?_
  | refine I.bd (i_Add' _ _) fun _ _=>?_
  | refine I.sk fun _ _=>?_
  | refine I.ok ?_
  | assumption
theorem i_raw (P:List Z00) (x:Z01):Im (Zdl P x) (fun r=>Sb P r.1):=by
 unfold Zdl Zen Zcy
 repeat' first
  | refine I.br (fun _=>?_) fun _=>?_
  | refine I.bd (i_place _ _) fun _ _=>?_
  | refine I.sk fun _ _=>?_
  | refine I.ok ?_
  | assumption
  | exact fun c h=>h
def Gr (p:Z0n) (P:List Z00) (E:Int):Prop:=(E=0→p.f_E=0)∧Sb p.f_P P
theorem Gr.refl (p:Z0n):Gr p p.f_P p.f_E:=⟨fun h=>h,fun c h=>h⟩
theorem Gr.trans {p:Z0n} {P Q:List Z00} {E F:Int} (h:Gr p P E) (k:Gr { f_P:=P,f_E:=E } Q F):Gr p Q F:=⟨fun e=>h.1 (k.1 e),h.2.trans k.2⟩
theorem Zba (p:Z0n) (s:List UInt8):Im (Z5u p s) (fun r=>Gr p r.1.f_P r.1.f_E∧(r.1.f_E=0→In1 s r.1.f_P)):=by
 unfold Z5u
 exact I.br (fun h=>I.ok ⟨Gr.refl p,fun e=>absurd e (by simpa using h)⟩) fun h=>I.bd (Zia _ _) fun v hv=>I.ok ⟨⟨fun _=>by simpa using h,hv.1⟩,hv.2⟩
theorem Y1d (p:Z0n) (s:List UInt8):Im (Z7z p s) (fun r=>Gr p r.1.f_P r.1.f_E):=by
 unfold Z7z
 exact I.br (fun h=>I.ok (Gr.refl p)) fun h=>I.bd (Zqx _ _) fun v hv=>I.ok ⟨fun _=>by simpa using h,hv⟩
theorem i_insn (p:Z0n) (x:Z01):Im (Zck p x) (fun r=>Gr p r.1.f_P r.1.f_E):=by
 unfold Zck
 exact I.br (fun h=>I.ok (Gr.refl p)) fun h=>I.bd (i_raw _ _) fun v hv=>I.ok ⟨fun _=>by simpa using h,hv⟩
theorem i_vts (p:Z0n) (l:List Z0l):Im (Zbu p l) (fun r=>Gr p r.1.f_P r.1.f_E):=by
 unfold Zbu
 refine I.bd (I.lp (fun t=>Gr p t.2.1 t.2.2.1) (Q:=fun q=>Gr p q.1 q.2.1) (fun t ht=>?_) (Gr.refl p)) fun q hq=>I.ok hq
 have h1:t.2.2.1=0→∀ v,Im (Zb7 t v) (I.Ct (fun t=>Gr p t.2.1 t.2.2.1) fun q=>Gr p q.1 q.2.1):=fun h0 v=>by
  unfold Zb7 Z7t
  exact I.sk fun _ _=>I.bd (Zba _ _) fun w hw=>I.sk fun _ _=>I.sk fun _ _=>I.nx ⟨fun _=>ht.1 h0,ht.2.trans hw.1.2⟩
 have h2:∀ v a b c d,Im (Z7t t v t.2.1 t.2.2.1 a b c d) (I.Ct (fun t=>Gr p t.2.1 t.2.2.1) fun q=>Gr p q.1 q.2.1):=fun v a b c d=>by
  unfold Z7t
  exact I.sk fun _ _=>I.sk fun _ _=>I.nx ht
 unfold Zg0
 repeat' first
  | refine I.br (fun _=>?_) fun _=>?_
  | exact h2 _ _ _ _ _
  | exact h1 (by simpa using ‹(t.2.2.1==0)=true›) _
  | exact I.dn ht
  | refine I.sk fun _ _=>?_
theorem i_code (p:Z0n) (c:Z0a):Im (Zc6 p c) (fun r=>Gr p r.1.f_P r.1.f_E∧r.2.Z0g=c.Z0g):=by
 unfold Zc6
 refine I.bd (I.lp (fun t=>Gr p t.2.1 t.2.2.1) (Q:=fun q=>Gr p q.1 q.2.1) (fun t ht=>?_) (Gr.refl p)) fun q0 h0=>I.bd (I.lp (fun t=>Gr p t.2.1 t.2.2.1) (Q:=fun q=>Gr p q.1 q.2.1) (fun t ht=>?_) h0) fun q2 h2=>
  I.bd (I.lp (fun t=>Gr p t.2.1 t.2.2.1) (Q:=fun q=>Gr p q.1 q.2.1) (fun t ht=>?_) h2) fun q4 h4=>I.ok ⟨h4,rfl⟩
 ·unfold Zhy
  exact I.br (fun _=>I.sk fun _ _=>I.bd (i_insn _ _) fun v hv=>I.sk fun _ _=>I.sk fun _ _=>I.nx (ht.trans hv)) fun _=>I.dn ht
 ·unfold Zhg Zhk
  exact I.br (fun _=>I.sk fun _ _=>I.br (fun _=>I.bd (Y1d _ _) fun v hv=>I.sk fun _ _=>I.sk fun _ _=>I.nx (ht.trans hv)) fun _=>I.sk fun _ _=>I.sk fun _ _=>I.nx ht) fun _=>I.dn ht
 ·unfold Zgt
  exact I.br (fun _=>I.sk fun _ _=>I.sk fun _ _=>I.bd (i_vts _ _) fun v hv=>I.bd (i_vts _ _) fun w hw=>I.sk fun _ _=>I.sk fun _ _=>I.nx ((ht.trans hv).trans hw)) fun _=>I.dn ht
structure Ms (u:Z0t) (n:Int) (P:List Z00) (E:Int) (cs:List Z0a):Prop where
 len:(cs.length:Int)=n
 pos:0≤n
 desc:E=0→∀ (j:Nat) m,(j:Int)<n→u.Z0m[j]?=some m→In1 m.Z2d P
 loc:∀ (j:Nat) m c,(j:Int)<n→u.Z0m[j]?=some m→m.Z40=true→cs[j]?=some c→c.Z0g=m.Z1f.Z0g
theorem In1.mono {s:List UInt8} {P Q:List Z00} (h:In1 s P) (k:Sb P Q):In1 s Q:=by
 obtain ⟨c,hc,h2⟩:=h
 exact ⟨c,k c hc,h2⟩
theorem Ms.grow {u:Z0t} {n:Int} {P Q:List Z00} {E F:Int} {cs:List Z0a} (h:Ms u n P E cs) (k:Gr { f_P:=P,f_E:=E } Q F):Ms u n Q F cs:=
 ⟨h.len,h.pos,fun e j m hj hm=>(h.desc (k.1 e) j m hj hm).mono k.2,h.loc⟩
abbrev MT:=Int×(List Z00)×Int×(List Z0j)×(List Z0a)×(List (List Int))×(List Z2a)
abbrev MR:=(List Z00)×Int×(List Z0j)×(List Z0a)×(List (List Int))×(List Z2a)
structure MI (p:Z0n) (u:Z0t) (t:MT):Prop where
 g:Gr p t.2.1 t.2.2.1
 m:Ms u t.1 t.2.1 t.2.2.1 t.2.2.2.2.1
 n:t.1≤u.Z0m.length
 l:(t.2.2.2.1.length:Int)=t.1
structure MQ (p:Z0n) (u:Z0t) (q:MR):Prop where
 g:Gr p q.1 q.2.1
 m:Ms u u.Z0m.length q.1 q.2.1 q.2.2.2.1
 l:q.2.2.1.length=u.Z0m.length
theorem Ms.nil (u:Z0t) (P:List Z00) (E:Int):Ms u 0 P E [] :=⟨rfl,by omega,fun _ j m hj=>by omega,fun j m c hj=>by omega⟩
theorem Ms.snoc {u:Z0t} {n:Int} {P:List Z00} {E:Int} {cs:List Z0a} (h:Ms u n P E cs) {m:Z1o} {c:Z0a} (hm:u.Z0m[n.toNat]?=some m) (hd:E=0→In1 m.Z2d P) (hc:m.Z40=true→c.Z0g=m.Z1f.Z0g):Ms u (n+1) P E (cs++[c]):=by
 have hlen:=h.len
 have hpos:=h.pos
 refine ⟨by simp only [List.length_append,List.length_cons,List.length_nil]; omega,by omega,fun e j m' hj hm'=>?_,fun j m' c' hj hm' hh hc'=>?_⟩
 ·rcases Int.lt_or_le (j:Int) n with h'|h'
  ·exact h.desc e j m' h' hm'
  ·have:j=n.toNat:=by omega
   subst this
   rw [hm] at hm'; cases hm'
   exact hd e
 ·rcases Int.lt_or_le (j:Int) n with h'|h'
  ·rw [List.getElem?_append_left (by omega)] at hc'
   exact h.loc j m' c' h' hm' hh hc'
  ·have:j=n.toNat:=by omega
   subst this
   rw [hm] at hm'; cases hm'
   rw [List.getElem?_append_right (by omega),show n.toNat - cs.length=0 by omega] at hc'
   cases hc'
   exact hc hh
theorem Zzn {p:Z0n} {u:Z0t} {t:MT} (hu:u.Z0m.length≤140737488355328) (hI:MI p u t) {m:Z1o} (hlt:t.1<u.Z0m.length) (hm:u.Z0m[t.1.toNat]?=some m) {v35 v36:Z0n×Int}
  (g:Gr { f_P:=t.2.1,f_E:=t.2.2.1 } v36.1.f_P v36.1.f_E) (d:v36.1.f_E=0→In1 m.Z2d v36.1.f_P) {a b c:Int} {i h s l} (hc:m.Z40=true→c=m.Z1f.Z0g) {P:List Z00} {E y:Int} (hg:Gr v36.1 P E):
  Im (Zb1 a b c i h s l t m v35 v36 P E y) (I.Ct (MI p u) (MQ p u)):=by
 unfold Zb1
 refine I.bd (I.lp (fun t=>Gr v36.1 t.2.1 t.2.2.1) (Q:=fun q=>Gr v36.1 q.1 q.2.1) (fun t ht=>?_) hg) fun q hq=>I.sk fun _ _=>I.sk fun _ _=>I.sk fun _ _=>I.sk fun _ _=>?_
 ·unfold Zev
  exact I.br (fun _=>I.sk fun _ _=>I.bd (Y1d _ _) fun v hv=>I.sk fun _ _=>I.sk fun _ _=>I.nx (ht.trans hv)) fun _=>I.dn ht
 ·have hpos:=hI.m.pos
  have hl:=hI.l
  rw [Z76 (n:=t.1+1) (by omega) (by omega)]
  refine I.sk fun k hk=>?_
  cases hk
  have g2:=g.trans hq
  refine I.nx ⟨hI.g.trans g2,(hI.m.grow g2).snoc hm (fun e=>(d (hq.1 e)).mono hq.2) hc,by dsimp only; omega,by simp only [List.length_append,List.length_cons,List.length_nil]; omega⟩
theorem Zwy {p:Z0n} {u:Z0t} {t:MT} (hu:u.Z0m.length≤140737488355328) (hI:MI p u t) {m:Z1o} (hlt:t.1<u.Z0m.length) (hm:u.Z0m[t.1.toNat]?=some m) {v35 v36:Z0n×Int}
  (g:Gr { f_P:=t.2.1,f_E:=t.2.2.1 } v36.1.f_P v36.1.f_E) (d:v36.1.f_E=0→In1 m.Z2d v36.1.f_P) {a b c:Int} {i h s l} (hc:m.Z40=true→c=m.Z1f.Z0g) {P:List Z00} {E:Int} (hg:Gr v36.1 P E):
  Im (Zbx t m v35 v36 P E a b c i h s l) (I.Ct (MI p u) (MQ p u)):=by
 unfold Zbx
 exact I.br (fun _=>I.bd (Zba _ _) fun v hv=>Zzn hu hI hlt hm g d hc (hg.trans hv.1)) fun _=>Zzn hu hI hlt hm g d hc hg
theorem Y7y (p:Z0n) (u:Z0t) (hu:u.Z0m.length≤140737488355328) (x:Z2p):Im (Zcg p u x) (fun r=>Gr p r.1.f_P r.1.f_E∧Ms u u.Z0m.length r.1.f_P r.1.f_E r.2.Z8q∧r.2.f_F.Z0m.length=u.Z0m.length):=by
 unfold Zcg
 have h0:MI p u (0,p.f_P,p.f_E,[],[],[],[]):=⟨Gr.refl p,Ms.nil u _ _,by dsimp only; omega,rfl⟩
 refine I.bd (I.lp (MI p u) (Q:=MQ p u) (fun t ht=>?_) h0) fun q hq=>I.ok ⟨hq.g,hq.m,hq.l⟩
 have hn:=ht.n
 have hl:=ht.l
 unfold Zhl
 refine I.br (fun hlt=>I.sk fun m e=>I.bd (Zba _ _) fun v35 h35=>I.bd (Zba _ _) fun v36 h36=>?_) fun hge=>I.dn ?_
 ·have hlt':=of_decide_eq_true hlt
  obtain ⟨_,_,hm⟩:=Z6w e
  have g2:=h35.1.trans h36.1
  exact I.br (fun hh=>I.bd (Zba _ _) fun v37 h37=>I.bd (i_code _ _) fun v38 h38=>Zwy hu ht hlt' hm g2 h36.2 (fun _=>h38.2) (h37.1.trans h38.1)) fun hh=>Zwy hu ht hlt' hm g2 h36.2 (fun h=>by rw [hh] at h; cases h) (Gr.refl _)
 ·have:t.1=u.Z0m.length:=by have:=of_decide_eq_false hge; omega
  exact ⟨ht.g,this ▸ ht.m,by dsimp only; omega⟩
def Short (P:List Z00):Prop:=∀ c∈P,c.Z2b=1→c.f_S.length≤1024
theorem Y7c (P:List Z00) (c:Z00):Im (Zdn P c) (fun e=>e=0→c.Z2b=1→c.f_S.length≤1024):=by
 unfold Zdn
 refine I.sk fun _ _=>I.br (fun _=>I.ok fun h=>by cases h) fun _=>I.sk fun _ _=>I.br (fun _=>I.ok fun h=>by cases h) fun _=>I.br (fun _=>I.br (fun _=>I.ok fun h=>by cases h) fun h=>fun r _ _ _=>by have:=of_decide_eq_false h; omega) fun h r _ _ h'=>by simp [h'] at h
theorem ne0 {n:Int} (h:(n !=0)=true):n≠0:=by simpa using h
theorem eq0 {n:Int} (h:(n !=0)=false):n=0:=by simpa using h
theorem Y8q (P:List Z00):Im (Zbj P) (fun r=>r.2=0→Short P):=by
 unfold Zbj
 refine I.br (fun _=>I.ok fun h=>by cases h) fun hl=>I.bd (I.lp (fun t=>0≤t∧∀ (j:Nat) c,(j:Int)<t→P[j]?=some c→c.Z2b=1→c.f_S.length≤1024) (Q:=fun q=>match q with|.inl _=>Short P|.inr r=>r.2≠0) (fun t ht=>?_) ⟨by omega,fun j c hj=>by omega⟩) fun q hq=>?_
 ·have hl':=of_decide_eq_false hl
  unfold Zlz
  refine I.br (fun hlt=>I.sk fun c e=>I.bd (Y7c P c) fun v hv=>I.br (fun h=>I.sk fun _ _=>I.dn (ne0 h)) fun h=>?_) fun hge=>I.dn ?_
  ·have hlt':=of_decide_eq_true hlt
   obtain ⟨_,h0,hc⟩:=Z6w e
   rw [Z76 (n:=t+1) (by omega) (by omega)]
   refine I.sk fun k hk=>?_
   cases hk
   refine I.nx ⟨by omega,fun j c' hj hc'=>?_⟩
   rcases Int.lt_or_le (j:Int) t with h'|h'
   ·exact ht.2 j c' h' hc'
   ·have:j=t.toNat:=by omega
    subst this
    rw [hc] at hc'; cases hc'
    exact hv (eq0 h)
  ·have:=of_decide_eq_false hge
   intro c hc
   obtain ⟨j,hj⟩:=List.getElem?_of_mem hc
   have:j<P.length:=(List.getElem?_eq_some_iff.1 hj).1
   exact ht.2 j c (by omega) hj
 ·cases q with
  | inl _=>exact I.ok fun _=>hq
  | inr r=>exact I.ok fun h=>absurd h hq
theorem Y6f (f:Z18):Im (Zct f) (fun r=>r.2=0→Short f.Z2i):=by
 unfold Zct
 refine I.bd (Y8q _) fun v hv=>I.br (fun h=>I.ok fun e=>absurd e (ne0 h)) fun h r _ _=>hv (eq0 h)
def Loc (c:Z0a):Prop:=0≤c.Z0g∧c.Z0g≤32
theorem i_head (P:List Z00) (c:Z0a):Im (Zcb P c) (fun e=>e=0→Loc c):=by
 unfold Zcb
 exact I.sk fun v _=>I.br (fun h=>I.ok fun e=>absurd e (ne0 h)) fun _=>I.br (fun _=>I.ok fun h=>by cases h) fun _=>I.br (fun _=>I.ok fun h=>by cases h) fun _=>I.br (fun _=>I.ok fun h=>by cases h) fun h1=>I.br (fun _=>I.ok fun h=>by cases h) fun h2 r _ _=>
  ⟨by have:=of_decide_eq_false h1; omega,by have:=of_decide_eq_false h2; omega⟩
theorem Y6r (P:List Z00) (c:Z0a):Im (Zb8 P c) (fun r=>r.2=0→Loc c):=by
 unfold Zb8
 exact I.bd (i_head P c) fun v hv=>I.br (fun h=>I.ok fun e=>absurd e (ne0 h)) fun h r _ _=>hv (eq0 h)
theorem Y4j (P:List Z00) (c:Z0a):Im (Zcu P c) (fun r=>r.2=0→Loc c):=by
 unfold Zcu
 exact I.bd (Y6r P c) fun v hv=>I.br (fun h=>I.ok fun e=>absurd e (ne0 h)) fun h r _ _=>hv (eq0 h)
theorem i_half (p:Z0n) (u:Z0t) (hu:u.Z0m.length≤140737488355328):Im (Zca p u) (fun r=>Ms u u.Z0m.length r.1.f_P r.1.f_E r.2.Z8q∧r.2.f_F.Z2i=r.1.f_P∧r.2.f_F.Z0m.length=u.Z0m.length):=by
 have hj:∀ v a b c,Im (Zc4 v u a b c) (fun r=>Ms u u.Z0m.length r.1.f_P r.1.f_E r.2.Z8q∧r.2.f_F.Z2i=r.1.f_P∧r.2.f_F.Z0m.length=u.Z0m.length):=fun v a b c=>by
  unfold Zc4 Zde
  exact I.sk fun _ _=>I.sk fun _ _=>I.bd (Y7y _ u hu _) fun w hw=>I.br (fun _=>I.bd (Zba _ _) fun x hx=>I.bd (Zba _ _) fun y hy=>I.sk fun _ _=>I.ok ⟨(hw.2.1.grow hx.1).grow hy.1,rfl,hw.2.2⟩) fun _=>I.ok ⟨hw.2.1,rfl,hw.2.2⟩
 unfold Zca
 exact I.sk fun _ _=>I.br (fun _=>I.sk fun _ _=>hj _ _ _ _) fun _=>hj _ _ _ _
def MOk (u:Z0t):Prop:=∀ m∈u.Z0m,m.Z2d.length≤1024∧(m.Z40=true→Loc m.Z1f)
theorem Y4h (u:Z0t) (hu:u.Z0m.length≤140737488355328):Im (Zdx u) (fun r=>r.2=0→MOk u):=by
 unfold Zdx
 refine I.sk fun _ _=>I.br (fun _=>I.ok fun h=>by cases h) fun _=>I.bd (i_half _ u hu) fun v hv=>I.br (fun h=>I.ok fun e=>absurd e (ne0 h)) fun hE=>?_
 have hE':=eq0 hE
 obtain ⟨hM,hP,hL⟩:=hv
 refine I.bd (I.lp (fun t=>0≤t.1∧∀ (j:Nat) m,(j:Int)<t.1→u.Z0m[j]?=some m→m.Z40=true→Loc m.Z1f) (Q:=fun q=>match q with|.inl _=>∀ m∈u.Z0m,m.Z40=true→Loc m.Z1f|.inr y=>y.2≠0) (fun t ht=>?_) ⟨by dsimp only; omega,fun j m hj=>by dsimp only at hj; omega⟩) fun q1 hq1=>?_
 ·unfold Zno
  refine I.br (fun hlt=>I.sk fun m e=>?_) fun hge=>I.dn ?_
  ·have hlt':=of_decide_eq_true hlt
   obtain ⟨_,h0,hm⟩:=Z6w e
   have nxt:∀ s x,(x=0→m.Z40=true→Loc m.Z1f)→Im (Zay t s x) (I.Ct (fun t=>0≤t.1∧∀ (j:Nat) m,(j:Int)<t.1→u.Z0m[j]?=some m→m.Z40=true→Loc m.Z1f) (fun q=>match q with|.inl _=>∀ m∈u.Z0m,m.Z40=true→Loc m.Z1f|.inr y=>y.2≠0)):=fun s x hx=>by
    unfold Zay
    refine I.br (fun h=>I.dn (ne0 h)) fun h=>I.sk fun _ _=>?_
    rw [Z76 (n:=t.1+1) (by omega) (by omega)]
    refine I.sk fun k hk=>?_
    cases hk
    refine I.nx ⟨by dsimp only; omega,fun j m' hj hm'=>?_⟩
    dsimp only at hj
    rcases Int.lt_or_le (j:Int) t.1 with h'|h'
    ·exact ht.2 j m' h' hm'
    ·have:j=t.1.toNat:=by omega
     subst this
     rw [hm] at hm'; cases hm'
     exact hx (eq0 h)
   refine I.br (fun hh=>I.sk fun c ec=>I.bd (Y4j _ _) fun w hw=>nxt _ _ fun h0' _=>?_) fun hh=>nxt _ _ fun _ h=>by rw [hh] at h; cases h
   obtain ⟨_,_,hc⟩:=Z6w ec
   have hl:=hM.loc t.1.toNat m c (by omega) hm hh hc
   have:=hw h0'
   unfold Loc at this ⊢
   rw [← hl]; exact this
  ·have:=of_decide_eq_false hge
   intro m hm
   obtain ⟨j,hj⟩:=List.getElem?_of_mem hm
   have:j<u.Z0m.length:=(List.getElem?_eq_some_iff.1 hj).1
   exact ht.2 j m (by omega) hj
 ·cases q1 with
  | inr y=>exact I.ok fun h=>absurd h hq1
  | inl q0=>
   refine I.bd (I.lp (fun _=>True) (Q:=fun q=>match q with|.inl _=>True|.inr y=>y.2≠0) (fun t _=>?_) trivial) fun q3 hq3=>?_
   ·have h3:∀ a,Im (Zaz t v a) (I.Ct (fun _=>True) (fun q=>match q with|.inl _=>True|.inr y=>y.2≠0)):=fun a=>by
     unfold Zaz
     exact I.sk fun _ _=>I.sk fun _ _=>I.sk fun _ _=>I.nx trivial
    have h2:∀ a,Im (Zbr t v a) (I.Ct (fun _=>True) (fun q=>match q with|.inl _=>True|.inr y=>y.2≠0)):=fun a=>by
     unfold Zbr
     exact I.sk fun _ _=>I.br (fun _=>I.sk fun _ _=>I.sk fun _ _=>I.br (fun h=>I.dn (ne0 h)) fun _=>I.sk fun _ _=>I.sk fun _ _=>h3 _) fun _=>h3 _
    unfold Zj2
    exact I.br (fun _=>I.sk fun _ _=>I.br (fun _=>I.sk fun _ _=>I.sk fun _ _=>I.sk fun _ _=>I.sk fun _ _=>h2 _) fun _=>h2 _) fun _=>I.dn trivial
   ·cases q3 with
    | inr y=>exact I.ok fun h=>absurd h hq3
    | inl q2=>
     refine I.bd (Y6f _) fun w hw=>I.br (fun h=>I.ok fun e=>absurd e (ne0 h)) fun h=>I.ok fun _ m hm=>⟨?_,hq1 m hm⟩
     have hs:=hw (eq0 h)
     obtain ⟨j,hj⟩:=List.getElem?_of_mem hm
     have:j<u.Z0m.length:=(List.getElem?_eq_some_iff.1 hj).1
     obtain ⟨c,hc,h1,h2⟩:=hM.desc hE' j m (by omega) hj
     rw [← h2]
     exact hs c (by dsimp only; rw [hP]; exact hc) h1
theorem Y8f (u:Z0t) (hu:u.Z0m.length≤140737488355328):Im (Zi4 u) (fun e=>e=0→MOk u):=by
 unfold Zi4
 exact I.bd (Y4h u hu) fun v hv=>I.ok hv
theorem i_cls (w:Z0w) (i:Int) (hw:∀ c∈w.Z0x,c.Z1j.Z0m.length≤140737488355328):Im (Zd6 w i) (fun b=>b=true→∀ c,Z02 w.Z0x i=some c→MOk c.Z1j):=by
 unfold Zd6
 have hf:∀ Q:Prop,Im (some false) (fun b=>b=true→Q):=fun Q=>I.ok fun h=>by cases h
 exact I.sk fun c e=>I.br (fun _=>hf _) fun _=>I.br (fun _=>hf _) fun _=>I.bd (Y8f _ (hw c (Z6w e).1)) fun v hv=>I.br (fun _=>hf _) fun h=>fun r _ _ c' hc'=>by
  rw [e] at hc'; cases hc'
  exact hv (eq0 h)
theorem Y6s (w:Z0w) (hl:w.Z0x.length≤140737488355328) (hw:∀ c∈w.Z0x,c.Z1j.Z0m.length≤140737488355328):Im (Zbt w) (fun b=>b=true→∀ c∈w.Z0x,MOk c.Z1j):=by
 have hf:Im (some false) (fun b=>b=true→∀ c∈w.Z0x,MOk c.Z1j):=I.ok fun h=>by cases h
 have hj : Im (Zhb w) (fun b=>b=true→∀ c∈w.Z0x,MOk c.Z1j):=by
  unfold Zhb
  refine I.bd (I.lp (fun _=>True) (Q:=fun q=>match q with|.inl _=>True|.inr y=>y=false) (fun t _=>?_) trivial) fun q1 h1=>?_
  ·unfold Zfw
   exact I.br (fun _=>I.sk fun _ _=>I.br (fun _=>I.dn rfl) fun _=>I.br (fun _=>I.dn rfl) fun _=>I.br (fun _=>I.dn rfl) fun _=>I.br (fun _=>I.dn rfl) fun _=>I.sk fun _ _=>I.br (fun _=>I.dn rfl) fun _=>I.sk fun _ _=>I.nx trivial) fun _=>I.dn trivial
  cases q1 with
  | inr y=>exact I.ok fun h=>by cases h1.symm.trans h
  | inl _=>
  refine I.bd (I.lp (fun _=>True) (Q:=fun q=>match q with|.inl _=>True|.inr y=>y=false) (fun t _=>?_) trivial) fun q2 h2=>?_
  ·unfold Zkr
   exact I.br (fun _=>I.sk fun _ _=>I.br (fun _=>I.dn rfl) fun _=>I.sk fun _ _=>I.br (fun _=>I.dn rfl) fun _=>I.sk fun _ _=>I.nx trivial) fun _=>I.dn trivial
  cases q2 with
  | inr y=>exact I.ok fun h=>by cases h2.symm.trans h
  | inl _=>
  refine I.bd (I.lp (fun t=>0≤t∧∀ (j:Nat) c,(j:Int)<t→w.Z0x[j]?=some c→MOk c.Z1j) (Q:=fun q=>match q with|.inl _=>∀ c∈w.Z0x,MOk c.Z1j|.inr y=>y=false) (fun t ht=>?_) ⟨by omega,fun j c hj=>by omega⟩) fun q3 h3=>?_
  ·unfold Zni
   refine I.br (fun hlt=>I.bd (i_cls w t hw) fun v hv=>I.br (fun _=>I.dn rfl) fun h=>?_) fun hge=>I.dn ?_
   ·have hlt':=of_decide_eq_true hlt
    rw [Z76 (n:=t+1) (by omega) (by omega)]
    refine I.sk fun k hk=>?_
    cases hk
    refine I.nx ⟨by omega,fun j c hj hc=>?_⟩
    rcases Int.lt_or_le (j:Int) t with h'|h'
    ·exact ht.2 j c h' hc
    ·have:j=t.toNat:=by omega
     subst this
     exact hv (by simpa using h) c (by unfold Z02; rw [if_pos ht.1]; exact hc)
   ·have:=of_decide_eq_false hge
    intro c hc
    obtain ⟨j,hj⟩:=List.getElem?_of_mem hc
    have:j<w.Z0x.length:=(List.getElem?_eq_some_iff.1 hj).1
    exact ht.2 j c (by omega) hj
  cases q3 with
  | inr y=>exact I.ok fun h=>by cases h3.symm.trans h
  | inl _=>exact I.ok fun _=>h3
 unfold Zbt
 exact I.sk fun _ _=>I.br (fun _=>hf) fun _=>I.br (fun _=>hf) fun _=>I.br (fun _=>hf) fun _=>hj
theorem MVal.mok {m:Z0b} (h:Z57 m) (v:MVal m):∀ c∈m.Z1e.Z0x,MOk c.Z1j:=
 Y6s _ h.sp.clsL (fun c hc=>by have:=(h.sp.cls c hc).1.metL; omega) true v.sp rfl
end Go.Proofs
namespace Go.Proofs
open Go.Den Go.Tot
theorem Y9l (m:Z0b) (n:Int):Zta m n=Z6u m n:=rfl
theorem Y7s (m:Z0b) (t:Int):Z99 m t=Y08 m t:=rfl
theorem Y1w (m:Z0b) (n:Int) (hH:m.Z1y.length≤140737488355328):∃ b o,Z6u m n=some b∧Zhf m n=some (o,b):=by
 obtain ⟨b,e,hb⟩:=Zk6 m n hH
 unfold Zhf
 rw [Y9l,e]
 cases b with
 | false=>exact ⟨_,_,rfl,rfl⟩
 | true=>
  obtain ⟨h1,h2⟩:=hb rfl
  simp only [Option.bind_some,Bool.not_true,Bool.false_eq_true,if_false]
  rw [Z76 (by omega) (by omega)]
  obtain ⟨o,e2,_⟩:=gr (l:=m.Z1y) (i:=n - 1) (by omega) (by omega)
  simp only [Option.bind_some,e2]
  exact ⟨_,_,rfl,rfl⟩
theorem wrap32 (n:Int):IntKind.wrap .i32 n=(n+2147483648) % 4294967296 - 2147483648:=by
 show (if (true&&decide (n % 4294967296≥2147483648))=true then n % 4294967296 - 4294967296 else n % 4294967296)=_
 rw [Bool.true_and]
 by_cases h:n % 4294967296≥2147483648
 ·rw [if_pos (decide_eq_true h)]; omega
 ·rw [if_neg (by simpa using h)]; omega
theorem Y6g (m:Z0b) (v:Z0d) (hH:m.Z1y.length≤140737488355328):Zjm m v=Z6x m v:=by
 unfold Zjm Z6x
 split
 ·rfl
 split
 ·simp only [Option.bind_some]
  rw [wrap32,Z76 (by omega) (by omega)]
  by_cases h1:v.f_N≥ -2147483648
  ·rw [if_pos (decide_eq_true h1)]
   congr 1
   by_cases h2:v.f_N<2147483648
   ·rw [decide_eq_true h2,beq_iff_eq]; omega
   ·rw [decide_eq_false h2,beq_eq_false_iff_ne]; omega
  ·rw [if_neg (by simpa using h1)]
   congr 1
   rw [beq_eq_false_iff_ne]; omega
 split
 ·rfl
 obtain ⟨b,o,e1,e2⟩:=Y1w m v.f_N hH
 rw [e2]
 simp only [Option.bind_some]
 split
 ·unfold Z9z
  rw [e1]
  cases b with
  | true=>by_cases h:v.f_N=0 <;> simp [h]
  | false=>by_cases h:v.f_N=0 <;> simp [h]
 ·rfl
theorem Y8c {t:Z0i} (h:okP1 t=true):Zb6 t=Z9p t∧∃ k,Zb6 t=some k:=by
 unfold okP1 at h
 simp only [Bool.and_eq_true,bne_iff_ne,ne_eq] at h
 obtain ⟨hv,hb⟩:=h
 obtain ⟨_,_,hc,hl⟩:=Zn7 hv
 unfold Zb6 Z9p
 rw [Zux t (by omega),Y3h t (by omega),hv]
 simp only [Option.bind_some,Bool.not_true,Bool.false_eq_true,if_false]
 rw [if_neg (by simpa using hb),if_neg (by simpa using hb)]
 unfold j79x1 Zmz j79x2 Zj9
 rcases hc with ⟨h1,_⟩|⟨h1,_⟩|⟨h1,_⟩|⟨h1,_⟩
 ·rw [h1]; constructor
  ·split <;> rfl
  ·split <;> exact ⟨_,rfl⟩
 ·rw [h1]; constructor
  ·split <;> rfl
  ·split <;> exact ⟨_,rfl⟩
 ·exact absurd h1 hb
 ·rw [h1]; constructor
  ·split <;> rfl
  ·split <;> exact ⟨_,rfl⟩
def Zo8 (x:Z1o):Option (List Int):=
 (some (Z27 .i64 x.Z0s (8:Int))).bind fun v2=>
 if (v2==0)=true then
  ((Z0y 8 (([]:List Int)++[3]).length).bind fun v3=>
  (Zdy x) (([]:List Int)++[3])) else
 ((Zdy x) ([]:List Int))
theorem Zxi (m:Z0b) (c w:Int) {k:Z26} {x:Z1o} (hk:Z02 m.Z1e.Z0x c=some k) (hx:Z02 k.Z1j.Z0m w=some x):Znf m c w=Zo8 x:=by
 unfold Znf Zo8
 rw [hk]
 simp only [Option.bind_some,hx]
theorem Y26 (x:Z1o) (hd:x.Z2d.length≤1024):∃ l,Z9m x=some l∧Zo8 x=some l∧l.length≤17∧((Z27 .i64 x.Z0s 8==0)=true→1≤l.length):=by
 obtain ⟨v,s1,s2,_,hok,h16⟩:=Y5v x.Z2d (by omega)
 have hk:∀ t∈v.1.Z3z,Zb6 t=Z9p t∧∃ k,Zb6 t=some k:=fun t ht=>Y8c (List.all_eq_true.1 hok t ht)
 have hl:Znp v=Zfa v:=by
  funext t
  unfold Znp Zfa
  split
  ·cases e:Z02 v.1.Z3z t.1 with
   | none=>rfl
   | some y=>
    simp only [Option.bind_some]
    rw [(hk y (Z6w e).1).1]
  ·rfl
 have hj:∀ p:List Int,p.length≤1→∃ l,Zi3 x p=some l∧Zdy x p=some l∧l.length≤17∧p.length≤l.length:=fun p hp=>by
  have ht:Ok (Z06 (Zfa v) Z07 (0,p)) (fun l=>l.length≤17∧p.length≤l.length):=by
   refine lp (fun t=>t.1) v.1.Z3z.length (fun t=>(t.2.length:Int)=p.length+t.1) (fun t hI g0 g1=>?_) (by omega) (by dsimp only; omega)
   unfold Zfa
   refine brD (fun hlt=>bd (gr g0 hlt) fun y hy=>?_) fun hge=>dn (by omega)
   obtain ⟨e1,k,e2⟩:=hk y hy
   rw [← e1,e2]
   exact bs (bd gk fun _ _=>bd wr fun z hz=>nx (by simp only [List.length_append,List.length_cons,List.length_nil]; omega))
  obtain ⟨l,e,h1,h2⟩:=ht
  refine ⟨l,?_,?_,h1,h2⟩
  ·unfold Zi3
   rw [s1]
   simp only [Option.bind_some]
   rw [hl,e]; rfl
  ·unfold Zdy
   rw [s2]
   simp only [Option.bind_some]
   rw [e]; rfl
 have hg:Z0y 8 (([]:List Int)++[3]).length=some ():=Z78 8 (by decide) (by decide)
 unfold Z9m Zo8
 simp only [Option.bind_some]
 by_cases h:(Z27 .i64 x.Z0s 8==0)=true
 ·rw [if_pos h,if_pos h,hg]
  obtain ⟨l,e1,e2,h1,h2⟩:=hj ([]++[3]) (by simp)
  exact ⟨l,e1,e2,h1,fun _=>h2⟩
 ·rw [if_neg h,if_neg h]
  obtain ⟨l,e1,e2,h1,h2⟩:=hj [] (by simp)
  exact ⟨l,e1,e2,h1,fun h'=>absurd h' h⟩
def HasM (m:Z0b) (c w:Int) (k:Z26) (x:Z1o):Prop:=Z02 m.Z1e.Z0x c=some k∧Z02 k.Z1j.Z0m w=some x
theorem Y1x (m:Z0b) (c w:Int):(Z85 m c w=some false∧∃ x,Zbe m.Z1e { Z0u:=c,Z2m:=w }=some (x,false))∨
  (Z85 m c w=some true∧∃ k x,HasM m c w k x∧Zbe m.Z1e { Z0u:=c,Z2m:=w }=some (x,true)):=by
 unfold Z85 Zbe Zrf
 dsimp only
 by_cases h1:c≥0
 ·rw [if_pos (decide_eq_true h1),if_pos (decide_eq_true h1)]
  by_cases h2:c<(m.Z1e.Z0x.length:Int)
  ·rw [if_pos (decide_eq_true h2),decide_eq_true h2]
   obtain ⟨k,ek,_⟩:=gr (l:=m.Z1e.Z0x) (i:=c) h1 h2
   simp only [Option.bind_some,Bool.not_true,Bool.false_eq_true,if_false]
   by_cases h3:w≥0
   ·rw [if_pos (decide_eq_true h3),if_neg (by simpa using h3),ek]
    simp only [Option.bind_some]
    by_cases h4:w<(k.Z1j.Z0m.length:Int)
    ·obtain ⟨x,ex,_⟩:=gr (l:=k.Z1j.Z0m) (i:=w) h3 h4
     rw [if_neg (by simpa using h4),ex]
     exact .inr ⟨by rw [decide_eq_true h4],k,x,⟨ek,ex⟩,rfl⟩
    ·rw [if_pos (decide_eq_true (by omega))]
     exact .inl ⟨by rw [decide_eq_false h4],_,rfl⟩
   ·rw [if_neg (by simpa using h3),if_pos (decide_eq_true (by omega))]
    exact .inl ⟨rfl,_,rfl⟩
  ·rw [if_neg (by simpa using h2),decide_eq_false h2]
   exact .inl ⟨rfl,_,rfl⟩
 ·rw [if_neg (by simpa using h1),if_neg (by simpa using h1)]
  exact .inl ⟨rfl,_,rfl⟩
end Go.Proofs
