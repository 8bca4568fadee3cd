/-
  That the models come to an answer: machines. No condition.
-/
import Derived.Test.YtiogflechpgdiaaGreatCalT10
set_option linter.unusedVariables false
namespace Go.Proofs
open Go.Den Go.Tot
structure WObj (o:Z2h):Prop where
 val:o.Z4x.length≤140737488355328
 str:Str o.Z3q
 ws:o.Z57.length≤140737488355328
structure Z6h (a:Z0v):Prop where
 loc:a.Z0d.length≤140737488355328
 stk:a.Z0g.length≤140737488355328
structure Z48 (m:Z0a):Prop where
 sp:Z5d m.Z0x
 heap:∀ o∈m.Z1n,WObj o
 heapL:m.Z1n.length≤140737488355328
 ini:∀ b∈m.Z3l,b.Z7p.length≤140737488355328
 iniL:m.Z3l.length≤140737488355328
 int:∀ x∈m.Z31,Str x.Z3q
 intL:m.Z31.length≤140737488355328
 thr:∀ t∈m.Z13,(∀ a∈t.Z12,Z6h a)∧t.Z12.length≤140737488355328
 thrL:m.Z13.length≤140737488355328
 outL:m.Z42.length≤140737488355328
theorem nT {α:Type} {o:Option Bool} {R:Prop} {P:α→Prop} {x y:Option α} (h:Ok o fun b=>b=true→R) (F:Ok x P) (T:R→Ok y P):Ok (o.bind fun v=>if (!v)=true then x else y) P:=
 bd h fun _ hb=>br! (fun _=>F) fun e=>T (hb e)
theorem nF {α:Type} {o:Option Bool} {R:Prop} {P:α→Prop} {x y:Option α} (h:Ok o fun b=>b=true→R) (F:Ok x P) (T:R→Ok y P):Ok (o.bind fun v=>if v=true then y else x) P:=
 bd h fun _ hb=>br (fun e=>T (hb e)) fun _=>F
theorem take4n (s:List UInt8) (hs:Str s):Ok (Zab s 0) (fun r=>Str r.1.Z0f):=by
 unfold Zab
 refine bd (P:=fun q:Int×Int=>0≤q.2∧q.2≤(s.length:Int)∧0≤q.1∧q.1≤4503599627370496) (lp (fun t=>t.1) s.length (fun t=>0≤t.2∧t.2≤t.1) (fun t hI g0 g1=>?_) (by omega) ⟨by omega,by omega⟩ (by omega) (by omega)) fun q hq=>?_
 ·unfold Zj9 Zh6
  refine brD (fun hlt=>bd gs fun _ _=>brE (fun _=>bd wr fun _ _=>bd wr fun _ _=>nx ?_ ?_ ?_) fun _=>dn ?_) fun _=>dn ?_ <;> dsimp only <;> omega
 ·obtain ⟨q1,q2⟩:=q
  dsimp only at hq ⊢
  have j2:∀ (v:Int) (p0:List UInt8) (p1:Int),Str p0→Ok (Zar (q1,q2) v p0 p1) (fun r=>Str r.1.Z0f):=fun v p0 p1 g1=>by
   unfold Zar
   exact bd (Zl1 _ g1) fun b _=>br! (fun _=>ok (by simp)) fun _=>ok g1
  refine brD (fun _=>ok (by simp)) fun _=>bd gs fun v5 _=>bd wr fun v6 h6=>brE (fun _=>?_) fun _=>j2 _ _ _ (by simp)
  refine bd (P:=fun q:Int=>v6≤q∧q≤(s.length:Int)) (lp (fun t=>t) s.length (fun t=>v6≤t) (fun t hI g0 g1=>?_) (by omega) (by omega) (by omega) (by omega)) fun q hq2=>?_
  ·unfold Zmk
   exact brD (fun hlt=>bd gs fun _ _=>brN (fun _=>bd wr fun _ _=>nx (by omega) (by omega) (by omega)) fun _=>dn ⟨by omega,by omega⟩) fun _=>dn ⟨by omega,by omega⟩
  ·exact brD (fun _=>ok (by simp)) fun _=>bd (sb (by omega) (by omega) (by omega)) fun v11 h11=>bd wr fun v12 h12=>j2 _ _ _ (by have:=h11.1; unfold Str at *; omega)
theorem parse4n (s:List UInt8) (hs:Str s):Ok (Z7a s) (fun r=>Str r.1.Z0f):=by
 unfold Z7a
 exact bd (take4n s hs) fun v hv=>brN (fun _=>ok (by simp)) fun _=>ok hv
theorem Y6l (y:Z0j) (ht:Str y.Z0f):Ok (Zhg y) (fun _=>True):=by
 unfold Zhg
 repeat' with_reducible first
  | unfold j82x1
  | unfold j82x2
  | refine brD (fun _=>?_) fun _=>?_
  | refine br! (fun _=>?_) fun _=>?_
  | refine brE (fun _=>?_) fun _=>?_
  | refine bd (Zl1 _ (by first|assumption|omega|exact And.left (by assumption)|(dsimp only; omega))) fun _ _=>?_
  | refine ok ?_
  | exact True.intro
theorem Zwd (s:List UInt8) (hs:Str s):Ok (Zg9 s) (fun _=>True):=by
 unfold Zg9
 repeat' with_reducible first
  | refine brN (fun _=>?_) fun _=>?_
  | refine bd (parse4n _ (by first|assumption|omega|exact And.left (by assumption)|(dsimp only; omega))) fun _ _=>?_
  | refine bd (Y6l _ (by first|assumption|omega|exact And.left (by assumption)|(dsimp only; omega))) fun _ _=>?_
  | refine ok ?_
  | exact True.intro
theorem Y1o (w:Z0u) (c:Int):Ok (Zg7 w c) (fun b=>b=true→0≤c∧c<w.Z11.length):=by
 unfold Zg7
 repeat' first
  | with_reducible refine brD (fun _=>?_) fun _=>?_
  | with_reducible refine ok ?_
  | (first|(intro h; cases h; done)|(intro h; have:=of_decide_eq_true h; omega))
def Zcg (w:Z0u) (x:Z33):Prop:=0≤x.Z0p∧x.Z0p<w.Z11.length∧0≤x.Z2j∧∀ v,Z01 w.Z11 x.Z0p=some v→x.Z2j<v.Z1v.Z17.length
theorem Zwq (w:Z0u) (hv:Z87 w) (c:Int) (s:Bool) (h0:0≤c) (h1:c<w.Z11.length):Ok (Zem w c s) (fun r=>r.length≤64∧∀ x∈r,Zcg w x∧x.Z0p=c):=by
 unfold Zem
 refine bdE (gri h0 h1) fun v e hc=>?_
 have hf:=(hv.cls _ v hc.2).few.2.1
 refine bd (P:=fun q:List Z33=>q.length≤64∧∀ x∈q,Zcg w x∧x.Z0p=c) (lp (fun t=>t.1) v.Z1v.Z17.length (fun t=>(t.2.length:Int)≤t.1∧∀ x∈t.2,Zcg w x∧x.Z0p=c) (fun t hI g0 g1=>?_) (by omega) ⟨by simp,fun x hx=>by cases hx⟩ (by omega) (by dsimp only; omega)) fun q hq=>ok hq
 obtain ⟨i1,i2⟩:=hI
 unfold Zrd
 refine brD (fun hlt=>bd (gr (by omega) hlt) fun _ _=>bd sm fun _ _=>br (fun _=>bd gk fun _ _=>bd wr fun k hk=>nx ⟨by simp only [List.length_append,List.length_cons,List.length_nil]; omega,fun x hx=>?_⟩) fun _=>bd wr fun k hk=>nx ⟨by dsimp only; omega,i2⟩) fun _=>dn ⟨by omega,i2⟩
 rcases List.mem_append.1 hx with h|h
 ·exact i2 x h
 ·rcases List.mem_singleton.1 h with rfl
  exact ⟨⟨h0,h1,g0,fun v' h'=>by rw [e] at h'; cases h'; exact hlt⟩,rfl⟩
theorem Y2x (w:Z0u) (hv:Z87 w):∀ (nn:Nat) (c:Int),c+2≤nn→1≤nn→c≤1000000→Ok (Zeu nn w c) (fun r=>(c<0→r=[])∧(0≤c→(r.length:Int)≤64*(c+1))∧∀ x∈r,Zcg w x)
 | nn+1,c,h,_,hb=>by
  have hfew:=hv.few
  unfold Zeu
  refine bd (Y1o w c) fun b hb=>br! (fun _=>ok ⟨fun _=>rfl,fun h=>by simp; omega,fun x hx=>by cases hx⟩) fun ht=>?_
  obtain ⟨h0,h1⟩:=hb ht
  refine bdE (gri h0 h1) fun v e hc=>?_
  have hs:=(hv.cls _ v hc.2).sup
  refine bd (Y2x w hv nn v.Z24 (by omega) (by omega) (by omega)) fun l hl=>?_
  obtain ⟨l1,l2,l3⟩:=hl
  have hlen:(l.length:Int)≤64*c:=by
   rcases hs with h|h
   ·rw [l1 (by omega)]; simp; omega
   ·have:=l2 h.1; omega
  refine bd (gk (by simp only [List.nil_append]; omega) (by simp only [List.nil_append]; omega)) fun _ _=>bd (Zwq w hv c false h0 h1) fun o ho=>bd (gk (by simp only [List.nil_append,List.length_append]; omega) (by simp only [List.nil_append,List.length_append]; omega)) fun _ _=>ok ⟨fun h=>by omega,fun _=>by simp only [List.nil_append,List.length_append]; omega,fun x hx=>?_⟩
  simp only [List.nil_append] at hx
  rcases List.mem_append.1 hx with h|h
  ·exact l3 x h
  ·exact (ho.2 x h).1
theorem Y2h {α:Type} {P:α→Prop} {w:Z0u} (hw:Z5d w) {x:Z33} (hx:Zcg w x) {f:Z1s→Option α} (h:∀ v,v∈w.Z11→x.Z2j<v.Z1v.Z17.length→Ok (f v) P):Ok ((Z01 w.Z11 x.Z0p).bind f) P:=
 bdE (gr hx.1 hx.2.1) fun v e hm=>h v hm (hx.2.2.2 v e)
theorem Y7j (w:Z0u) (c:Int) (hw:Z5d w) (hv:Z87 w) (hc:c≤1000000):Ok (Zkq w c) (fun _=>True):=by
 unfold Zkq
 have hr:(Z08:Int)=18446744073709551616:=rfl
 refine bd (Y2x w hv Z08 c (by omega) (by unfold Z08; omega) hc) fun l hl=>?_
 obtain ⟨l1,l2,l3⟩:=hl
 have hlen:(l.length:Int)≤64000064:=by
  rcases Int.lt_or_le c 0 with h|h
  ·rw [l1 h]; simp
  ·have:=l2 h; omega
 refine bd (P:=fun _=>True) (lp (fun t=>t.1) l.length (fun t=>(t.2.length:Int)≤t.1) (fun t hI g0 g1=>?_) (by omega) (by simp) (by omega) (by dsimp only; omega)) fun q _=>ok trivial
 unfold l93x1
 refine brD (fun hlt=>bdE (gr (by omega) hlt) fun s e hs=>Y2h hw (l3 s hs) fun v hm hi=>?_) fun _=>dn trivial
 rw [e]
 refine bs (bd (gr (l3 s hs).2.2.1 hi) fun f hf=>bd (Zwd _ ((hw.cls v hm).1.fld f hf).d) fun _ _=>bd gk fun _ _=>bd wr fun k hk=>nx (by simp only [List.length_append,List.length_cons,List.length_nil]; omega))
theorem Y8e (w:Z0u) (c:Int) (hw:Z5d w) (hv:Z87 w):Ok (Zi4 w c) (fun _=>True):=by
 unfold Zi4 Zs1
 refine bd (P:=fun l:List Z33=>l.length≤64∧∀ x∈l,Zcg w x∧x.Z0p=c) ?_ fun l hl=>?_
 ·refine bd (Y1o w c) fun b hb=>br! (fun _=>ok ⟨by simp,fun x hx=>by cases hx⟩) fun ht=>?_
  exact bd (Zwq w hv c true (hb ht).1 (hb ht).2) fun r hr=>ok hr
 ·refine bd (P:=fun _=>True) (lp (fun t=>t.1) l.length (fun t=>(t.2.length:Int)≤t.1) (fun t hI g0 g1=>?_) (by omega) (by simp) (by omega) (by dsimp only; omega)) fun q _=>ok trivial
  have hl1:=hl.1
  unfold l68x1
  refine brD (fun hlt=>?_) fun _=>dn trivial
  obtain ⟨s,hs,hsm⟩:=gr (l:=l) g0 hlt
  obtain ⟨k1,k2⟩:=hl.2 s hsm
  subst k2
  refine Y2h hw k1 fun v hm hi=>?_
  rw [hs]
  refine bs (bd (gr k1.2.2.1 hi) fun f hf=>?_)
  have nxt:∀ y:Z0i,Ok ((Z1q 16 (t.2++[y]).length).bind fun _=>(some (IntKind.wrap .i64 (t.1+1))).bind fun v14=>some (Ctl.next (v14,t.2++[y]))) (St (fun t:Int×List Z0i=>(t.2.length:Int)≤t.1) (fun t=>t.1) l.length (fun _:List Z0i=>True) t):=fun y=>
   bd gk fun _ _=>bd wr fun k hk=>nx (by simp only [List.length_append,List.length_cons,List.length_nil]; omega)
  exact br (fun _=>nxt _) fun _=>br (fun _=>nxt _) fun _=>bd (Zwd _ ((hw.cls v hm).1.fld f hf).d) fun y _=>nxt y
theorem Zop (m:Z0a) (n:Int) (hH:m.Z1n.length≤140737488355328):Ok (Z7e m n) (fun b=>b=true→1≤n∧n≤m.Z1n.length):=by
 unfold Z7e
 repeat' first
  | with_reducible refine brD (fun _=>?_) fun _=>?_
  | with_reducible refine bd gr fun _ _=>?_
  | with_reducible refine bd wr fun _ _=>?_
  | with_reducible refine ok ?_
  | (first|(intro h; cases h; done)|(intro h; have:=of_decide_eq_true h; omega)|(intro _; omega))
theorem Zkb (m:Z0a) (n:Int) (hH:m.Z1n.length≤140737488355328):Ok (Z8u m n) (fun _=>True):=by
 unfold Z8u
 repeat' with_reducible first
  | refine brE (fun _=>?_) fun _=>?_
  | refine bd (Zop _ _ (by first|assumption|omega|exact And.left (by assumption)|(dsimp only; omega))) fun _ _=>?_
  | refine ok ?_
  | exact True.intro
theorem Zd4 (m:Z0a) (v:Z0i) (hH:m.Z1n.length≤140737488355328):Ok (Z7f m v) (fun _=>True):=by
 unfold Z7f
 repeat' with_reducible first
  | refine brD (fun _=>?_) fun _=>?_
  | refine brE (fun _=>?_) fun _=>?_
  | refine bd (Zkb _ _ (by first|assumption|omega|exact And.left (by assumption)|(dsimp only; omega))) fun _ _=>?_
  | refine ok ?_
  | exact True.intro
theorem Zrb (m:Z0a) (n:Int):Ok (Zd8 m n) (fun b=>b=true→0≤n∧n<m.Z13.length):=by
 unfold Zd8
 repeat' first
  | with_reducible refine brD (fun _=>?_) fun _=>?_
  | with_reducible refine ok ?_
  | (first|(intro h; cases h; done)|(intro h; have:=of_decide_eq_true h; omega)|(intro _; omega))
theorem L30x1 (m:Z0a) (hH:m.Z1n.length≤140737488355328) (hi:m.Z31.length≤140737488355328):Ok (Z07 (Zi5 m) Z08 0) (fun _=>True):=by
 refine li (m.Z31.length) (fun t _ _=>?_) (by omega) (by omega) (by omega)
 unfold Zi5
 repeat' first
  | with_reducible refine nT (Zop _ _ (by assumption)) ?_ fun _=>?_
  | with_reducible refine ni ?_ ?_
  | with_reducible refine di ?_
  | with_reducible refine brD (fun _=>?_) fun _=>?_
  | with_reducible refine br (fun _=>?_) fun _=>?_
  | with_reducible refine bd gr fun _ _=>?_
  | with_reducible refine bd wr fun _ _=>?_
  | exact True.intro
  | omega
theorem Y5p (m:Z0a) (hH:m.Z1n.length≤140737488355328) (hi:m.Z31.length≤140737488355328):Ok (Zfe m) (fun _=>True):=by
 unfold Zfe
 repeat' first
  | with_reducible refine bd (L30x1 _ (by first|assumption|omega|exact And.left (by assumption)|(dsimp only; omega)) (by first|assumption|omega|exact And.left (by assumption)|(dsimp only; omega))) fun _ _=>?_
  | with_reducible refine ok ?_
  | split
  | assumption
theorem L67x1 (m:Z0a) (x y:List Z0i) (hH:m.Z1n.length≤140737488355328) (hx:x.length≤140737488355328) (e:(x.length:Int)=y.length):Ok (Z07 (Zjd m x y) Z08 0) (fun _=>True):=by
 refine li (x.length) (fun t _ _=>?_) (by omega) (by omega) (by omega)
 unfold Zjd
 repeat' first
  | with_reducible refine ni ?_ ?_
  | with_reducible refine di ?_
  | with_reducible refine brD (fun _=>?_) fun _=>?_
  | with_reducible refine br! (fun _=>?_) fun _=>?_
  | with_reducible refine brN (fun _=>?_) fun _=>?_
  | with_reducible refine bd gr fun _ _=>?_
  | with_reducible refine bd wr fun _ _=>?_
  | with_reducible refine bd (Zd4 _ _ (by first|assumption|omega|exact And.left (by assumption)|(dsimp only; omega))) fun _ _=>?_
  | exact True.intro
  | omega
theorem Zz9 (m:Z0a) (x y:List Z0i) (hH:m.Z1n.length≤140737488355328) (hx:x.length≤140737488355328):Ok (Zeo m x y) (fun _=>True):=by
 unfold Zeo
 repeat' with_reducible first
  | refine brN (fun _=>?_) fun _=>?_
  | refine bd (L67x1 _ _ _ (by first|assumption|omega|exact And.left (by assumption)|(dsimp only; omega)) (by first|assumption|omega|exact And.left (by assumption)|(dsimp only; omega)) (by first|assumption|omega|exact And.left (by assumption)|(dsimp only; omega))) fun _ _=>?_
  | refine ok ?_
  | split
  | exact True.intro
theorem L63x2 (k:Int) (o:Z2h) (a:Int) (h0:0≤k) (h1:k<o.Z57.length) (hl:o.Z57.length≤140737488355328):Ok (Z07 (Znw k o a) Z08 0) (fun _=>True):=by
 refine li (k) (fun t _ _=>?_) (by omega) (by omega) (by omega)
 unfold Znw
 repeat' first
  | with_reducible refine ni ?_ ?_
  | with_reducible refine di ?_
  | with_reducible refine brD (fun _=>?_) fun _=>?_
  | with_reducible refine brE (fun _=>?_) fun _=>?_
  | with_reducible refine bd gr fun _ _=>?_
  | with_reducible refine bd wr fun _ _=>?_
  | exact True.intro
  | omega
theorem L63x1 (o:Z2h) (m:Z0a) (n:Int) (hl:o.Z57.length≤140737488355328):Ok (Z07 (Zjf o m n) Z08 0) (fun _=>True):=by
 refine li (o.Z57.length) (fun t h0 h1=>?_) (by omega) (by omega) (by omega)
 unfold Zjf j63x2
 exact brD (fun hlt=>bd (gr h0 hlt) fun k hk=>nT (Zrb _ _) (di trivial) fun ht=>bd (gr ht.1 ht.2) fun _ _=>brN (fun _=>di trivial) fun _=>bd (gr ht.1 ht.2) fun _ _=>bd sm fun _ _=>brN (fun _=>di trivial) fun _=>bd (L63x2 t o k h0 (by omega) hl) fun q _=>match q with
  | .inl _=>bd wr fun _ _=>ni (by omega) (by omega)
  | .inr _=>di trivial) fun _=>di trivial
theorem Y7e (m:Z0a) (n:Int) (h:Z48 m) (h0:0≤n) (h1:n<m.Z1n.length):Ok (Zcn m n) (fun _=>True):=by
 have hj:∀ o∈m.Z1n,Ok (Z8y o m n) (fun _=>True):=fun o ho=>by
  unfold Z8y
  exact bd (L63x1 o m n (h.heap o ho).ws) fun q _=>match q with
   | .inl _=>ok trivial
   | .inr _=>ok trivial
 unfold Zcn
 refine bd (gr h0 h1) fun o ho=>?_
 have k2:Ok (if (o.Z7g==0)=true then (if (o.Z36 !=0)=true then some false else Z8y o m n) else Z8y o m n) (fun _=>True):=brE (fun _=>brN (fun _=>ok trivial) fun _=>hj o ho) fun _=>hj o ho
 exact brN (fun _=>bd sm fun _ _=>bd (Zrb _ _) fun _ _=>br! (fun _=>ok trivial) fun _=>brD (fun _=>ok trivial) fun _=>k2) fun _=>k2
theorem Y6a (m:Z0a) (o:Z2h) (h:Z48 m) (hv:Z87 m.Z0x) (ho:WObj o):Ok (Zkk m o) (fun _=>True):=by
 have hH:=h.heapL; have hw:=h.sp; have:=hv.few; have:=ho.val
 unfold Zkk
 repeat' with_reducible first
  | refine brD (fun _=>?_) fun _=>?_
  | refine br (fun _=>?_) fun _=>?_
  | refine bd gr fun _ _=>?_
  | refine bd (Y7j _ _ (by first|assumption|omega|exact And.left (by assumption)|(dsimp only; omega)) (by first|assumption|omega|exact And.left (by assumption)|(dsimp only; omega)) (by first|assumption|omega|exact And.left (by assumption)|(dsimp only; omega))) fun _ _=>?_
  | refine bd (Zz9 _ _ _ (by first|assumption|omega|exact And.left (by assumption)|(dsimp only; omega)) (by first|assumption|omega|exact And.left (by assumption)|(dsimp only; omega))) fun _ _=>?_
  | refine bs ?_
  | refine ok ?_
  | exact True.intro
theorem Y9e (t:Z3m):Ok (Zir t) (fun _=>True):=by
 unfold Zir
 repeat' with_reducible first
  | refine bd sm fun _ _=>?_
  | refine brD (fun _=>?_) fun _=>?_
  | refine ok ?_
  | exact True.intro
theorem Y93 (w:Z0u) (t:Z3m):Ok (Zlx w t) (fun _=>True):=by
 unfold Zlx
 repeat' with_reducible first
  | unfold j95x1
  | refine brD (fun _=>?_) fun _=>?_
  | refine brE (fun _=>?_) fun _=>?_
  | refine ok ?_
  | exact True.intro
theorem Y8u (t:Z3m):Ok (Zm4 t) (fun _=>True):=by
 unfold Zm4
 repeat' with_reducible first
  | unfold Zng
  | refine brE (fun _=>?_) fun _=>?_
  | refine ok ?_
  | exact True.intro
theorem L64x1 (e:Z3m×Bool) (m:Z0a) (o:Z2h) (hH:m.Z1n.length≤140737488355328) (ho:o.Z4x.length≤140737488355328):Ok (Z07 (Znz e m o) Z08 0) (fun _=>True):=by
 refine li (o.Z4x.length) (fun t _ _=>?_) (by omega) (by omega) (by omega)
 unfold Znz
 repeat' first
  | with_reducible refine ni ?_ ?_
  | with_reducible refine di ?_
  | with_reducible refine brD (fun _=>?_) fun _=>?_
  | with_reducible refine br! (fun _=>?_) fun _=>?_
  | with_reducible refine brN (fun _=>?_) fun _=>?_
  | with_reducible refine bd gr fun _ _=>?_
  | with_reducible refine bd wr fun _ _=>?_
  | with_reducible refine bd (Y8u _) fun _ _=>?_
  | with_reducible refine bd (Zd4 _ _ (by first|assumption|omega|exact And.left (by assumption)|(dsimp only; omega))) fun _ _=>?_
  | exact True.intro
  | omega
theorem Y5m (m:Z0a) (o:Z2h) (h:Z48 m) (ho:WObj o):Ok (Zl4 m o) (fun _=>True):=by
 have hH:=h.heapL; have:=ho.val
 unfold Zl4
 repeat' first
  | unfold j64x1
  | with_reducible refine bd (Y9e _) fun _ _=>?_
  | with_reducible refine bd (Y93 _ _) fun _ _=>?_
  | with_reducible refine bd (L64x1 _ _ _ (by first|assumption|omega|exact And.left (by assumption)|(dsimp only; omega)) (by first|assumption|omega|exact And.left (by assumption)|(dsimp only; omega))) fun _ _=>?_
  | with_reducible refine ok ?_
  | split
  | assumption
theorem Y7s (w:Z0u) (l:Int) (s:List UInt8) (hw:Z5d w):Ok (Zjs w l s) (fun _=>True):=by
 unfold Zjs
 repeat' first
  | with_reducible refine bd (Y21 _ _ _ (by first|assumption|omega|exact And.left (by assumption)|(dsimp only; omega))) fun _ _=>?_
  | with_reducible refine ok ?_
  | assumption
theorem Y70 (m:Z0a) (o:Z2h) (h:Z48 m):Ok (Zjy m o) (fun _=>True):=by
 have hw:=h.sp
 unfold Zjy
 repeat' first
  | with_reducible refine br (fun _=>?_) fun _=>?_
  | with_reducible refine bd (Y7s _ _ _ (by first|assumption|omega|exact And.left (by assumption)|(dsimp only; omega))) fun _ _=>?_
  | with_reducible refine ok ?_
  | assumption
theorem Y8k (m:Z0a) (n:Int) (h:Z48 m) (hv:Z87 m.Z0x) (h0:0≤n) (h1:n<m.Z1n.length):Ok (Zbg m n) (fun _=>True):=by
 unfold Zbg
 repeat' with_reducible first
  | refine bd (Y6a _ _ h hv (h.heap _ (by assumption))) fun _ _=>?_
  | refine bd (Y5m _ _ h (h.heap _ (by assumption))) fun _ _=>?_
  | refine br (fun _=>?_) fun _=>?_
  | refine bd gr fun _ _=>?_
  | refine bd (Y7e _ _ (by first|assumption|omega|exact And.left (by assumption)|(dsimp only; omega)) (by first|assumption|omega|exact And.left (by assumption)|(dsimp only; omega)) (by first|assumption|omega|exact And.left (by assumption)|(dsimp only; omega))) fun _ _=>?_
  | refine bd (Y70 _ _ (by first|assumption|omega|exact And.left (by assumption)|(dsimp only; omega))) fun _ _=>?_
  | refine ok ?_
  | exact True.intro
theorem Y6u (m:Z0a) (n:Int) (h:Z48 m) (hv:Z87 m.Z0x) (h0:0≤n) (h1:n<m.Z3l.length):Ok (Zd7 m n) (fun _=>True):=by
 have hH:=h.heapL; have hw:=h.sp
 unfold Zd7
 repeat' with_reducible first
  | unfold Zcq
  | refine brD (fun _=>?_) fun _=>?_
  | refine br! (fun _=>?_) fun _=>?_
  | refine brE (fun _=>?_) fun _=>?_
  | refine brN (fun _=>?_) fun _=>?_
  | refine bd gr fun _ _=>?_
  | refine bd (Zrb _ _) fun _ _=>?_
  | refine bd (Y8e _ _ (by first|assumption|omega|exact And.left (by assumption)|(dsimp only; omega)) (by first|assumption|omega|exact And.left (by assumption)|(dsimp only; omega))) fun _ _=>?_
  | refine bd (Zz9 _ _ _ (by first|assumption|exact h.ini _ (by assumption)) (by first|assumption|exact h.ini _ (by assumption))) fun _ _=>?_
  | refine ok ?_
  | exact True.intro
theorem L100x1 (l:List Int) (n:Int) (hl:l.length≤140737488355328):Ok (Z07 (Zhz l n) Z08 0) (fun _=>True):=by
 refine li (l.length) (fun t _ _=>?_) (by omega) (by omega) (by omega)
 unfold Zhz
 repeat' first
  | with_reducible refine ni ?_ ?_
  | with_reducible refine di ?_
  | with_reducible refine brD (fun _=>?_) fun _=>?_
  | with_reducible refine brE (fun _=>?_) fun _=>?_
  | with_reducible refine bd gr fun _ _=>?_
  | with_reducible refine bd wr fun _ _=>?_
  | exact True.intro
  | omega
theorem Yah (l:List Int) (n:Int) (hl:l.length≤140737488355328):Ok (Zns l n) (fun _=>True):=by
 unfold Zns
 repeat' first
  | with_reducible refine bd (L100x1 _ _ (by first|assumption|omega|exact And.left (by assumption)|(dsimp only; omega))) fun _ _=>?_
  | with_reducible refine ok ?_
  | split
  | assumption
theorem Y6v (m:Z0a) (n:Int) (h:Z48 m) (h0:0≤n) (h1:n<m.Z13.length):Ok (Zhl m n) (fun _=>True):=by
 have hH:=h.heapL
 unfold Zhl
 repeat' with_reducible first
  | refine nF (Zop _ _ (by assumption)) ?_ fun _=>?_
  | unfold j69x1
  | unfold j69x2
  | refine brD (fun _=>?_) fun _=>?_
  | refine brE (fun _=>?_) fun _=>?_
  | refine bd gr fun _ _=>?_
  | refine bd wr fun _ _=>?_
  | refine bd (Yah _ _ (by exact (h.heap _ (by assumption)).ws)) fun _ _=>?_
  | refine ok ?_
  | exact True.intro
theorem L83x1 (m:Z0a) (x:List Z0i) (b:Bool) (hH:m.Z1n.length≤140737488355328) (hx:x.length≤140737488355328):Ok (Z07 (Z7x m x b) Z08 0) (fun _=>True):=by
 refine li (x.length) (fun t _ _=>?_) (by omega) (by omega) (by omega)
 unfold Z7x
 repeat' first
  | with_reducible refine ni ?_ ?_
  | with_reducible refine di ?_
  | with_reducible refine brD (fun _=>?_) fun _=>?_
  | with_reducible refine br! (fun _=>?_) fun _=>?_
  | with_reducible refine brE (fun _=>?_) fun _=>?_
  | with_reducible refine bd gr fun _ _=>?_
  | with_reducible refine bd wr fun _ _=>?_
  | with_reducible refine bd (Zd4 _ _ (by first|assumption|omega|exact And.left (by assumption)|(dsimp only; omega))) fun _ _=>?_
  | exact True.intro
  | omega
theorem Y71 (m:Z0a) (x:List Z0i) (b:Bool) (hH:m.Z1n.length≤140737488355328) (hx:x.length≤140737488355328):Ok (Za6 m x b) (fun _=>True):=by
 unfold Za6
 repeat' first
  | with_reducible refine bd (L83x1 _ _ _ (by first|assumption|omega|exact And.left (by assumption)|(dsimp only; omega)) (by first|assumption|omega|exact And.left (by assumption)|(dsimp only; omega))) fun _ _=>?_
  | with_reducible refine ok ?_
  | split
  | assumption
theorem Y0h (m:Z0a) (a:Z0v) (hH:m.Z1n.length≤140737488355328) (ha:Z6h a):Ok (Z5c m a) (fun _=>True):=by
 have:=ha.loc; have:=ha.stk
 unfold Z5c
 repeat' with_reducible first
  | unfold Zc3
  | unfold Zce
  | unfold Zft
  | refine brD (fun _=>?_) fun _=>?_
  | refine br (fun _=>?_) fun _=>?_
  | refine bd gr fun _ _=>?_
  | refine bd (Zkb _ _ (by first|assumption|omega|exact And.left (by assumption)|(dsimp only; omega))) fun _ _=>?_
  | refine bd (Y71 _ _ _ (by first|assumption|omega|exact And.left (by assumption)|(dsimp only; omega)) (by first|assumption|omega|exact And.left (by assumption)|(dsimp only; omega))) fun _ _=>?_
  | refine ok ?_
  | exact True.intro
theorem allL {n:Nat} (hn:n≤140737488355328) (g:Int→Option Bool) {f:Int→Option (Ctl Int (Unit⊕Bool))} (hg:∀ t:Int,0≤t→t<n→Ok (g t) fun _=>True)
  (hf:∀ t,f t=if decide (t<(n:Int))=true then ((g t).bind fun v=>if (!v)=true then some (.done (.inr false)) else ((some (IntKind.wrap .i64 (t+1))).bind fun k=>some (.next k))) else some (.done (.inl ()))):
  Ok (Z07 f Z08 0) (fun q=>(q=.inl ()∧∀ t:Int,0≤t→t<n→g t=some true)∨(q=.inr false∧∃ t:Int,0≤t∧t<n∧g t=some false)):=by
 refine lp (fun t=>t) n (fun t=>∀ j:Int,0≤j→j<t→g j=some true) (fun t hI h0 h1=>?_) (by omega) (fun j h h'=>by omega) (by omega) (by omega)
 rw [hf]
 refine brD (fun hlt=>?_) fun hge=>dn (.inl ⟨rfl,fun j h h'=>hI j h (by omega)⟩)
 obtain ⟨b,hb,_⟩:=hg t h0 hlt
 rw [hb]
 cases b with
 | false=>exact ⟨_,rfl,.inr ⟨rfl,t,h0,hlt,hb⟩⟩
 | true=>
  refine bs (br! (fun h=>by cases h) fun _=>bd wr fun k hk=>nx (fun j hj hj'=>?_) (by omega) (by omega))
  rcases Int.lt_or_le j t with h|h
  ·exact hI j hj h
  ·rw [show j=t by omega]; exact hb
theorem acts_ok (m:Z0a) (t:Z1h) (hH:m.Z1n.length≤140737488355328) (ha:∀ a∈t.Z12,Z6h a) (hl:t.Z12.length≤140737488355328):
  Ok (Z9u t m) (fun b=>b=true→∀ a∈t.Z12,Z5c m a=some true):=by
 unfold Z9u
 refine bd (allL hl (fun i=>(Z01 t.Z12 i).bind (Z5c m)) (fun i h0 h1=>bd (gr h0 h1) fun a hm=>Y0h m a hH (ha a hm)) fun i=>?_) fun q hq=>?_
 ·unfold l33x1
  split
  ·rw [Option.bind_assoc]
  ·rfl
 ·rcases hq with ⟨rfl,h⟩|⟨rfl,_⟩
  ·refine ok fun _ a hm=>?_
   obtain ⟨i,hi⟩:=List.getElem?_of_mem hm
   have hlt:i<t.Z12.length:=(List.getElem?_eq_some_iff.1 hi).1
   have:=h i (by omega) (by omega)
   obtain ⟨a',e,_,hx⟩:=gri (l:=t.Z12) (i:=(i:Int)) (by omega) (by omega)
   rw [e] at this
   simp only [Int.toNat_natCast] at hx
   rw [hi] at hx
   cases hx
   exact this
  ·exact ok fun h=>by cases h
theorem Y0o (m:Z0a) (n:Int) (h:Z48 m) (h0:0≤n) (h1:n<m.Z13.length):Ok (Zcw m n) (fun b=>b=true→∀ t,Z01 m.Z13 n=some t→t.Z12.length≤64∧∀ a∈t.Z12,Z5c m a=some true):=by
 have hH:=h.heapL
 unfold Zcw
 refine bdE (gr h0 h1) fun t e hm=>bd (Y6v m n h h0 h1) fun _ _=>br! (fun _=>ok fun h=>by cases h) fun _=>bd (Zkb _ _ hH) fun _ _=>br! (fun _=>ok fun h=>by cases h) fun _=>bd (Zkb _ _ hH) fun _ _=>br! (fun _=>ok fun h=>by cases h) fun _=>bd (Zd4 _ _ hH) fun _ _=>br! (fun _=>ok fun h=>by cases h) fun _=>brD (fun _=>ok fun h=>by cases h) fun hle=>?_
 have hj:Ok (Z9u t m) (fun b=>b=true→∀ t',Z01 m.Z13 n=some t'→t'.Z12.length≤64∧∀ a∈t'.Z12,Z5c m a=some true):=
  (acts_ok m t hH (h.thr t hm).1 (h.thr t hm).2).mono fun b hb hbt t' ht'=>by
   rw [e] at ht'; cases ht'
   exact ⟨by omega,hb hbt⟩
 have hf:Ok (some false) (fun b=>b=true→∀ t',Z01 m.Z13 n=some t'→t'.Z12.length≤64∧∀ a∈t'.Z12,Z5c m a=some true):=ok fun h=>by cases h
 unfold j33x1
 exact brE (fun _=>brD (fun _=>hf) fun _=>brN (fun _=>brN (fun _=>hf) fun _=>br! (fun _=>hf) fun _=>hj) fun _=>hj) fun _=>brN (fun _=>brN (fun _=>hf) fun _=>br! (fun _=>hf) fun _=>hj) fun _=>hj
structure Z9q (m:Z0a):Prop where
 sp:Zee m.Z0x=some true
 vok:Z87 m.Z0x
 max0:0≤m.Z4s
 max1:m.Z4s≤5000
 heap:m.Z1n.length≤5000
 init:m.Z3l.length≤m.Z0x.Z11.length
 thr:m.Z13.length≤8
 txt:Zfe m=some true
 obj:∀ t,0≤t→t<(m.Z1n.length:Int)→Zbg m t=some true
 beg:∀ t,0≤t→t<(m.Z3l.length:Int)→Zd7 m t=some true
 run:∀ t,0≤t→t<(m.Z13.length:Int)→Zcw m t=some true
theorem valid36 (m:Z0a) (h:Z48 m):Ok (Ziv m) (fun b=>b=true→Z9q m):=by
 have hf:Ok (some false) (fun b=>b=true→Z9q m):=ok fun h=>by cases h
 unfold Ziv
 refine bdE (Y6r m.Z0x h.sp) fun b e hb=>?_
 cases b with
 | false=>exact hf
 | true=>
 have hv:=hb rfl
 refine br! (fun _=>hf) fun _=>brD (fun _=>hf) fun k1=>brD (fun _=>hf) fun k2=>brD (fun _=>hf) fun k3=>brD (fun _=>hf) fun k4=>brD (fun _=>hf) fun k5=>bdE (Y5p m h.heapL h.intL) fun b2 e2 _=>?_
 cases b2 with
 | false=>exact hf
 | true=>
 refine br! (fun _=>hf) fun _=>?_
 unfold j9x1
 refine bd (allL h.heapL (Zbg m) (fun t a b=>(Y8k m t h hv a b).mono fun _ _=>trivial) fun t=>by unfold l9x1; rfl) fun q1 hq1=>?_
 rcases hq1 with ⟨rfl,o1⟩|⟨rfl,_⟩
 rotate_left
 ·exact hf
 refine bd (allL h.iniL (Zd7 m) (fun t a b=>(Y6u m t h hv a b).mono fun _ _=>trivial) fun t=>by unfold l9x2; rfl) fun q2 hq2=>?_
 rcases hq2 with ⟨rfl,o2⟩|⟨rfl,_⟩
 rotate_left
 ·exact hf
 refine bd (allL h.thrL (Zcw m) (fun t a b=>(Y0o m t h a b).mono fun _ _=>trivial) fun t=>by unfold l9x3; rfl) fun q3 hq3=>?_
 rcases hq3 with ⟨rfl,o3⟩|⟨rfl,_⟩
 rotate_left
 ·exact hf
 exact ok fun _=>⟨e,hv,by omega,by omega,by omega,by omega,by omega,e2,o1,o2,o3⟩
theorem Z9q.acts {m:Z0a} (h:Z48 m) (v:Z9q m) {n:Int} {t:Z1h} (h0:0≤n) (ht:Z01 m.Z13 n=some t) (h1:n<m.Z13.length):t.Z12.length≤64∧∀ a∈t.Z12,Z5c m a=some true:=by
 obtain ⟨b,e,hb⟩:=Y0o m n h h0 h1
 rw [v.run n h0 h1] at e
 cases e
 exact hb rfl t ht
end Go.Proofs
namespace Go.Proofs
open Go.Den
end Go.Proofs
namespace Go.Proofs
open Go.Den
theorem Y1g {n:Nat} (b:Nat) (h:n*b≤140737488355328) (hb:1≤b):Z1q b n=some ():=by
 unfold Z1q
 have:n≤n*b:=Nat.le_mul_of_pos_right n hb
 rw [if_pos ⟨by omega,h⟩]
end Go.Proofs
namespace Go.Proofs
open Go.Den Go.Tot
def Im {α:Type} (o:Option α) (P:α→Prop):Prop:=∀ r,o=some r→P r
namespace I
variable {α β:Type} {P:α→Prop} {Q:β→Prop}
theorem ok {x:α} (h:P x):Im (some x) P:=fun r e=>by cases e; exact h
theorem sk {o:Option α} {f:α→Option β} (k:∀ x,o=some x→Im (f x) Q):Im (o.bind f) Q:=fun r e=>by
 obtain ⟨x,e1,e2⟩:=Option.bind_eq_some_iff.1 e
 exact k x e1 r e2
theorem br {b:Bool} {x y:Option α} (T:b=true→Im x P) (F:b=false→Im y P):Im (if b=true then x else y) P:=by
 cases b with
 | true=>exact T rfl
 | false=>exact F rfl
end I
theorem Zaf {α:Type} {l:List α} {i:Int} {v:α} (h:Z01 l i=some v):v∈l∧0≤i∧l[i.toNat]?=some v:=by
 unfold Z01 at h
 split at h
 ·exact ⟨List.mem_of_getElem? h,by assumption,h⟩
 ·cases h
end Go.Proofs
namespace Go.Proofs
open Go.Den Go.Tot
theorem Y5b (m:Z0a) (n:Int):Zp9 m n=Z7e m n:=rfl
theorem Y17 (m:Z0a) (n:Int) (hH:m.Z1n.length≤140737488355328):∃ b o,Z7e m n=some b∧Zbs m n=some (o,b):=by
 obtain ⟨b,e,hb⟩:=Zop m n hH
 unfold Zbs
 rw [Y5b,e]
 cases b with
 | false=>exact ⟨_,_,rfl,rfl⟩
 | true=>
  obtain ⟨h1,h2⟩:=hb rfl
  simp only [Option.bind_some,Bool.not_true,Bool.false_eq_true,if_false]
  rw [Zag (by omega) (by omega)]
  obtain ⟨o,e2,_⟩:=gr (l:=m.Z1n) (i:=n - 1) (by omega) (by omega)
  simp only [Option.bind_some,e2]
  exact ⟨_,_,rfl,rfl⟩
theorem wrap32 (n:Int):IntKind.wrap .i32 n=(n+2147483648) % 4294967296 - 2147483648:=by
 show (if (true&&decide (n % 4294967296≥2147483648))=true then n % 4294967296 - 4294967296 else n % 4294967296)=_
 rw [Bool.true_and]
 by_cases h:n % 4294967296≥2147483648
 ·rw [if_pos (decide_eq_true h)]; omega
 ·rw [if_neg (by simpa using h)]; omega
theorem Y4d (m:Z0a) (v:Z0i) (hH:m.Z1n.length≤140737488355328):Zco m v=Z7f m v:=by
 unfold Zco Z7f
 split
 ·rfl
 split
 ·simp only [Option.bind_some]
  rw [wrap32,Zag (by omega) (by omega)]
  by_cases h1:v.f_N≥ -2147483648
  ·rw [if_pos (decide_eq_true h1)]
   congr 1
   by_cases h2:v.f_N<2147483648
   ·rw [decide_eq_true h2,beq_iff_eq]; omega
   ·rw [decide_eq_false h2,beq_eq_false_iff_ne]; omega
  ·rw [if_neg (by simpa using h1)]
   congr 1
   rw [beq_eq_false_iff_ne]; omega
 split
 ·rfl
 obtain ⟨b,o,e1,e2⟩:=Y17 m v.f_N hH
 rw [e2]
 simp only [Option.bind_some]
 split
 ·unfold Z8u
  rw [e1]
  cases b with
  | true=>by_cases h:v.f_N=0 <;> simp [h]
  | false=>by_cases h:v.f_N=0 <;> simp [h]
 ·rfl
def HasM (m:Z0a) (c w:Int) (k:Z1s) (x:Z2f):Prop:=Z01 m.Z0x.Z11 c=some k∧Z01 k.Z1v.Z0z w=some x
theorem Y87 (m:Z0a) (c w:Int):(Zhn m c w=some false∧∃ x,Z82 m.Z0x { Z0p:=c,Z2j:=w }=some (x,false))∨
  (Zhn m c w=some true∧∃ k x,HasM m c w k x∧Z82 m.Z0x { Z0p:=c,Z2j:=w }=some (x,true)):=by
 unfold Zhn Z82 Zen
 dsimp only
 by_cases h1:c≥0
 ·rw [if_pos (decide_eq_true h1),if_pos (decide_eq_true h1)]
  by_cases h2:c<(m.Z0x.Z11.length:Int)
  ·rw [if_pos (decide_eq_true h2),decide_eq_true h2]
   obtain ⟨k,ek,_⟩:=gr (l:=m.Z0x.Z11) (i:=c) h1 h2
   simp only [Option.bind_some,Bool.not_true,Bool.false_eq_true,if_false]
   by_cases h3:w≥0
   ·rw [if_pos (decide_eq_true h3),if_neg (by simpa using h3),ek]
    simp only [Option.bind_some]
    by_cases h4:w<(k.Z1v.Z0z.length:Int)
    ·obtain ⟨x,ex,_⟩:=gr (l:=k.Z1v.Z0z) (i:=w) h3 h4
     rw [if_neg (by simpa using h4),ex]
     exact .inr ⟨by rw [decide_eq_true h4],k,x,⟨ek,ex⟩,rfl⟩
    ·rw [if_pos (decide_eq_true (by omega))]
     exact .inl ⟨by rw [decide_eq_false h4],_,rfl⟩
   ·rw [if_neg (by simpa using h3),if_pos (decide_eq_true (by omega))]
    exact .inl ⟨rfl,_,rfl⟩
  ·rw [if_neg (by simpa using h2),decide_eq_false h2]
   exact .inl ⟨rfl,_,rfl⟩
 ·rw [if_neg (by simpa using h1),if_neg (by simpa using h1)]
  exact .inl ⟨rfl,_,rfl⟩
end Go.Proofs
