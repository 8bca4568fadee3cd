/-
  That the models come to an answer: machines. No condition.
-/
import Derived.Test.YtiogflechpgdiaaGreatCalT10
set_option linter.unusedVariables false
namespace Go.Proofs
open Go.Den Go.Tot
structure WObj (o:Z2j):Prop where
 val:o.Z4x.length≤140737488355328
 str:Str o.Z3u
 ws:o.Z5j.length≤140737488355328
structure Z9k (a:Z19):Prop where
 loc:a.Z0c.length≤140737488355328
 stk:a.Z0m.length≤140737488355328
structure Z3l (m:Z0a):Prop where
 sp:Z5d m.Z1m
 heap:∀ o∈m.Z1u,WObj o
 heapL:m.Z1u.length≤140737488355328
 ini:∀ b∈m.Z3w,b.Z8n.length≤140737488355328
 iniL:m.Z3w.length≤140737488355328
 int:∀ x∈m.Z3c,Str x.Z3u
 intL:m.Z3c.length≤140737488355328
 thr:∀ t∈m.Z0v,(∀ a∈t.Z0s,Z9k a)∧t.Z0s.length≤140737488355328
 thrL:m.Z0v.length≤140737488355328
 outL:m.Z4r.length≤140737488355328
theorem nT {α:Type} {o:Option Bool} {R:Prop} {P:α→Prop} {x y:Option α} (h:Ok o fun b=>b=true→R) (F:Ok x P) (T:R→Ok y P):Ok (o.bind fun v=>if (!v)=true then x else y) P:=
 bd h fun _ hb=>br! (fun _=>F) fun e=>T (hb e)
theorem nF {α:Type} {o:Option Bool} {R:Prop} {P:α→Prop} {x y:Option α} (h:Ok o fun b=>b=true→R) (F:Ok x P) (T:R→Ok y P):Ok (o.bind fun v=>if v=true then y else x) P:=
 bd h fun _ hb=>br (fun e=>T (hb e)) fun _=>F
theorem take4n (s:List UInt8) (hs:Str s):Ok (Z8i s 0) (fun r=>Str r.1.Z0e):=by
 unfold Z8i
 refine bd (P:=fun q:Int×Int=>0≤q.2∧q.2≤(s.length:Int)∧0≤q.1∧q.1≤4503599627370496) (lp (fun t=>t.1) s.length (fun t=>0≤t.2∧t.2≤t.1) (fun t hI g0 g1=>?_) (by omega) ⟨by omega,by omega⟩ (by omega) (by omega)) fun q hq=>?_
 ·unfold Zbg Zi6
  refine brD (fun hlt=>bd gs fun _ _=>brE (fun _=>bd wr fun _ _=>bd wr fun _ _=>nx ?_ ?_ ?_) fun _=>dn ?_) fun _=>dn ?_ <;> dsimp only <;> omega
 ·obtain ⟨q1,q2⟩:=q
  dsimp only at hq ⊢
  have j2:∀ (v:Int) (p0:List UInt8) (p1:Int),Str p0→Ok (Z9i (q1,q2) v p0 p1) (fun r=>Str r.1.Z0e):=fun v p0 p1 g1=>by
   unfold Z9i
   exact bd (Zp1 _ g1) fun b _=>br! (fun _=>ok (by simp)) fun _=>ok g1
  refine brD (fun _=>ok (by simp)) fun _=>bd gs fun v5 _=>bd wr fun v6 h6=>brE (fun _=>?_) fun _=>j2 _ _ _ (by simp)
  refine bd (P:=fun q:Int=>v6≤q∧q≤(s.length:Int)) (lp (fun t=>t) s.length (fun t=>v6≤t) (fun t hI g0 g1=>?_) (by omega) (by omega) (by omega) (by omega)) fun q hq2=>?_
  ·unfold Zbj
   exact brD (fun hlt=>bd gs fun _ _=>brN (fun _=>bd wr fun _ _=>nx (by omega) (by omega) (by omega)) fun _=>dn ⟨by omega,by omega⟩) fun _=>dn ⟨by omega,by omega⟩
  ·exact brD (fun _=>ok (by simp)) fun _=>bd (sb (by omega) (by omega) (by omega)) fun v11 h11=>bd wr fun v12 h12=>j2 _ _ _ (by have:=h11.1; unfold Str at *; omega)
theorem parse4n (s:List UInt8) (hs:Str s):Ok (Z7r s) (fun r=>Str r.1.Z0e):=by
 unfold Z7r
 exact bd (take4n s hs) fun v hv=>brN (fun _=>ok (by simp)) fun _=>ok hv
theorem Y6r (y:Z0i) (ht:Str y.Z0e):Ok (Zac y) (fun _=>True):=by
 unfold Zac
 repeat' with_reducible first
  | unfold Zqa
  | unfold Zmc
  | refine brD (fun _=>?_) fun _=>?_
  | refine br! (fun _=>?_) fun _=>?_
  | refine brE (fun _=>?_) fun _=>?_
  | refine bd (Zp1 _ (by first|assumption|omega|exact And.left (by assumption)|(dsimp only; omega))) fun _ _=>?_
  | refine ok ?_
  | exact True.intro
theorem Y12 (s:List UInt8) (hs:Str s):Ok (Zgy s) (fun _=>True):=by
 unfold Zgy
 repeat' with_reducible first
  | refine brN (fun _=>?_) fun _=>?_
  | refine bd (parse4n _ (by first|assumption|omega|exact And.left (by assumption)|(dsimp only; omega))) fun _ _=>?_
  | refine bd (Y6r _ (by first|assumption|omega|exact And.left (by assumption)|(dsimp only; omega))) fun _ _=>?_
  | refine ok ?_
  | exact True.intro
theorem Zyy (w:Z0w) (c:Int):Ok (Zjb w c) (fun b=>b=true→0≤c∧c<w.Z0z.length):=by
 unfold Zjb
 repeat' first
  | with_reducible refine brD (fun _=>?_) fun _=>?_
  | with_reducible refine ok ?_
  | (first|(intro h; cases h; done)|(intro h; have:=of_decide_eq_true h; omega))
def Zex (w:Z0w) (x:Z33):Prop:=0≤x.Z0y∧x.Z0y<w.Z0z.length∧0≤x.Z2o∧∀ v,Z01 w.Z0z x.Z0y=some v→x.Z2o<v.Z1f.Z18.length
theorem Y69 (w:Z0w) (hv:Z8o w) (c:Int) (s:Bool) (h0:0≤c) (h1:c<w.Z0z.length):Ok (Zhb w c s) (fun r=>r.length≤64∧∀ x∈r,Zex w x∧x.Z0y=c):=by
 unfold Zhb
 refine bdE (gri h0 h1) fun v e hc=>?_
 have hf:=(hv.cls _ v hc.2).few.2.1
 refine bd (P:=fun q:List Z33=>q.length≤64∧∀ x∈q,Zex w x∧x.Z0y=c) (lp (fun t=>t.1) v.Z1f.Z18.length (fun t=>(t.2.length:Int)≤t.1∧∀ x∈t.2,Zex w x∧x.Z0y=c) (fun t hI g0 g1=>?_) (by omega) ⟨by simp,fun x hx=>by cases hx⟩ (by omega) (by dsimp only; omega)) fun q hq=>ok hq
 obtain ⟨i1,i2⟩:=hI
 unfold Zvv
 refine brD (fun hlt=>bd (gr (by omega) hlt) fun _ _=>bd sm fun _ _=>br (fun _=>bd gk fun _ _=>bd wr fun k hk=>nx ⟨by simp only [List.length_append,List.length_cons,List.length_nil]; omega,fun x hx=>?_⟩) fun _=>bd wr fun k hk=>nx ⟨by dsimp only; omega,i2⟩) fun _=>dn ⟨by omega,i2⟩
 rcases List.mem_append.1 hx with h|h
 ·exact i2 x h
 ·rcases List.mem_singleton.1 h with rfl
  exact ⟨⟨h0,h1,g0,fun v' h'=>by rw [e] at h'; cases h'; exact hlt⟩,rfl⟩
theorem Zy6 (w:Z0w) (hv:Z8o w):∀ (nn:Nat) (c:Int),c+2≤nn→1≤nn→c≤1000000→Ok (Zgh nn w c) (fun r=>(c<0→r=[])∧(0≤c→(r.length:Int)≤64*(c+1))∧∀ x∈r,Zex w x)
 | nn+1,c,h,_,hb=>by
  have hfew:=hv.few
  unfold Zgh
  refine bd (Zyy w c) fun b hb=>br! (fun _=>ok ⟨fun _=>rfl,fun h=>by simp; omega,fun x hx=>by cases hx⟩) fun ht=>?_
  obtain ⟨h0,h1⟩:=hb ht
  refine bdE (gri h0 h1) fun v e hc=>?_
  have hs:=(hv.cls _ v hc.2).sup
  refine bd (Zy6 w hv nn v.Z28 (by omega) (by omega) (by omega)) fun l hl=>?_
  obtain ⟨l1,l2,l3⟩:=hl
  have hlen:(l.length:Int)≤64*c:=by
   rcases hs with h|h
   ·rw [l1 (by omega)]; simp; omega
   ·have:=l2 h.1; omega
  refine bd (gk (by simp only [List.nil_append]; omega) (by simp only [List.nil_append]; omega)) fun _ _=>bd (Y69 w hv c false h0 h1) fun o ho=>bd (gk (by simp only [List.nil_append,List.length_append]; omega) (by simp only [List.nil_append,List.length_append]; omega)) fun _ _=>ok ⟨fun h=>by omega,fun _=>by simp only [List.nil_append,List.length_append]; omega,fun x hx=>?_⟩
  simp only [List.nil_append] at hx
  rcases List.mem_append.1 hx with h|h
  ·exact l3 x h
  ·exact (ho.2 x h).1
theorem Y2d {α:Type} {P:α→Prop} {w:Z0w} (hw:Z5d w) {x:Z33} (hx:Zex w x) {f:Z1x→Option α} (h:∀ v,v∈w.Z0z→x.Z2o<v.Z1f.Z18.length→Ok (f v) P):Ok ((Z01 w.Z0z x.Z0y).bind f) P:=
 bdE (gr hx.1 hx.2.1) fun v e hm=>h v hm (hx.2.2.2 v e)
theorem Y7h (w:Z0w) (c:Int) (hw:Z5d w) (hv:Z8o w) (hc:c≤1000000):Ok (Zmo w c) (fun _=>True):=by
 unfold Zmo
 have hr:(Z05:Int)=18446744073709551616:=rfl
 refine bd (Zy6 w hv Z05 c (by omega) (by unfold Z05; omega) hc) fun l hl=>?_
 obtain ⟨l1,l2,l3⟩:=hl
 have hlen:(l.length:Int)≤64000064:=by
  rcases Int.lt_or_le c 0 with h|h
  ·rw [l1 h]; simp
  ·have:=l2 h; omega
 refine bd (P:=fun _=>True) (lp (fun t=>t.1) l.length (fun t=>(t.2.length:Int)≤t.1) (fun t hI g0 g1=>?_) (by omega) (by simp) (by omega) (by dsimp only; omega)) fun q _=>ok trivial
 unfold l93x1
 refine brD (fun hlt=>bdE (gr (by omega) hlt) fun s e hs=>Y2d hw (l3 s hs) fun v hm hi=>?_) fun _=>dn trivial
 rw [e]
 refine bs (bd (gr (l3 s hs).2.2.1 hi) fun f hf=>bd (Y12 _ ((hw.cls v hm).1.fld f hf).d) fun _ _=>bd gk fun _ _=>bd wr fun k hk=>nx (by simp only [List.length_append,List.length_cons,List.length_nil]; omega))
theorem Y6q (w:Z0w) (c:Int) (hw:Z5d w) (hv:Z8o w):Ok (Zqs w c) (fun _=>True):=by
 unfold Zqs Zti
 refine bd (P:=fun l:List Z33=>l.length≤64∧∀ x∈l,Zex w x∧x.Z0y=c) ?_ fun l hl=>?_
 ·refine bd (Zyy w c) fun b hb=>br! (fun _=>ok ⟨by simp,fun x hx=>by cases hx⟩) fun ht=>?_
  exact bd (Y69 w hv c true (hb ht).1 (hb ht).2) fun r hr=>ok hr
 ·refine bd (P:=fun _=>True) (lp (fun t=>t.1) l.length (fun t=>(t.2.length:Int)≤t.1) (fun t hI g0 g1=>?_) (by omega) (by simp) (by omega) (by dsimp only; omega)) fun q _=>ok trivial
  have hl1:=hl.1
  unfold l68x1
  refine brD (fun hlt=>?_) fun _=>dn trivial
  obtain ⟨s,hs,hsm⟩:=gr (l:=l) g0 hlt
  obtain ⟨k1,k2⟩:=hl.2 s hsm
  subst k2
  refine Y2d hw k1 fun v hm hi=>?_
  rw [hs]
  refine bs (bd (gr k1.2.2.1 hi) fun f hf=>?_)
  have nxt:∀ y:Z0f,Ok ((Z1a 16 (t.2++[y]).length).bind fun _=>(some (IntKind.wrap .i64 (t.1+1))).bind fun v14=>some (Ctl.next (v14,t.2++[y]))) (St (fun t:Int×List Z0f=>(t.2.length:Int)≤t.1) (fun t=>t.1) l.length (fun _:List Z0f=>True) t):=fun y=>
   bd gk fun _ _=>bd wr fun k hk=>nx (by simp only [List.length_append,List.length_cons,List.length_nil]; omega)
  exact br (fun _=>nxt _) fun _=>br (fun _=>nxt _) fun _=>bd (Y12 _ ((hw.cls v hm).1.fld f hf).d) fun y _=>nxt y
theorem Zkm (m:Z0a) (n:Int) (hH:m.Z1u.length≤140737488355328):Ok (Z7q m n) (fun b=>b=true→1≤n∧n≤m.Z1u.length):=by
 unfold Z7q
 repeat' first
  | with_reducible refine brD (fun _=>?_) fun _=>?_
  | with_reducible refine bd gr fun _ _=>?_
  | with_reducible refine bd wr fun _ _=>?_
  | with_reducible refine ok ?_
  | (first|(intro h; cases h; done)|(intro h; have:=of_decide_eq_true h; omega)|(intro _; omega))
theorem Zm7 (m:Z0a) (n:Int) (hH:m.Z1u.length≤140737488355328):Ok (Z7y m n) (fun _=>True):=by
 unfold Z7y
 repeat' with_reducible first
  | refine brE (fun _=>?_) fun _=>?_
  | refine bd (Zkm _ _ (by first|assumption|omega|exact And.left (by assumption)|(dsimp only; omega))) fun _ _=>?_
  | refine ok ?_
  | exact True.intro
theorem Zgd (m:Z0a) (v:Z0f) (hH:m.Z1u.length≤140737488355328):Ok (Z56 m v) (fun _=>True):=by
 unfold Z56
 repeat' with_reducible first
  | refine brD (fun _=>?_) fun _=>?_
  | refine brE (fun _=>?_) fun _=>?_
  | refine bd (Zm7 _ _ (by first|assumption|omega|exact And.left (by assumption)|(dsimp only; omega))) fun _ _=>?_
  | refine ok ?_
  | exact True.intro
theorem Zr3 (m:Z0a) (n:Int):Ok (Z8z m n) (fun b=>b=true→0≤n∧n<m.Z0v.length):=by
 unfold Z8z
 repeat' first
  | with_reducible refine brD (fun _=>?_) fun _=>?_
  | with_reducible refine ok ?_
  | (first|(intro h; cases h; done)|(intro h; have:=of_decide_eq_true h; omega)|(intro _; omega))
theorem L30x1 (m:Z0a) (hH:m.Z1u.length≤140737488355328) (hi:m.Z3c.length≤140737488355328):Ok (Z04 (Zll m) Z05 0) (fun _=>True):=by
 refine li (m.Z3c.length) (fun t _ _=>?_) (by omega) (by omega) (by omega)
 unfold Zll
 repeat' first
  | with_reducible refine nT (Zkm _ _ (by assumption)) ?_ fun _=>?_
  | with_reducible refine ni ?_ ?_
  | with_reducible refine di ?_
  | with_reducible refine brD (fun _=>?_) fun _=>?_
  | with_reducible refine br (fun _=>?_) fun _=>?_
  | with_reducible refine bd gr fun _ _=>?_
  | with_reducible refine bd wr fun _ _=>?_
  | exact True.intro
  | omega
theorem Yc1 (m:Z0a) (hH:m.Z1u.length≤140737488355328) (hi:m.Z3c.length≤140737488355328):Ok (Ziu m) (fun _=>True):=by
 unfold Ziu
 repeat' first
  | with_reducible refine bd (L30x1 _ (by first|assumption|omega|exact And.left (by assumption)|(dsimp only; omega)) (by first|assumption|omega|exact And.left (by assumption)|(dsimp only; omega))) fun _ _=>?_
  | with_reducible refine ok ?_
  | split
  | assumption
theorem L67x1 (m:Z0a) (x y:List Z0f) (hH:m.Z1u.length≤140737488355328) (hx:x.length≤140737488355328) (e:(x.length:Int)=y.length):Ok (Z04 (Zni m x y) Z05 0) (fun _=>True):=by
 refine li (x.length) (fun t _ _=>?_) (by omega) (by omega) (by omega)
 unfold Zni
 repeat' first
  | with_reducible refine ni ?_ ?_
  | with_reducible refine di ?_
  | with_reducible refine brD (fun _=>?_) fun _=>?_
  | with_reducible refine br! (fun _=>?_) fun _=>?_
  | with_reducible refine brN (fun _=>?_) fun _=>?_
  | with_reducible refine bd gr fun _ _=>?_
  | with_reducible refine bd wr fun _ _=>?_
  | with_reducible refine bd (Zgd _ _ (by first|assumption|omega|exact And.left (by assumption)|(dsimp only; omega))) fun _ _=>?_
  | exact True.intro
  | omega
theorem Y2u (m:Z0a) (x y:List Z0f) (hH:m.Z1u.length≤140737488355328) (hx:x.length≤140737488355328):Ok (Zhc m x y) (fun _=>True):=by
 unfold Zhc
 repeat' with_reducible first
  | refine brN (fun _=>?_) fun _=>?_
  | refine bd (L67x1 _ _ _ (by first|assumption|omega|exact And.left (by assumption)|(dsimp only; omega)) (by first|assumption|omega|exact And.left (by assumption)|(dsimp only; omega)) (by first|assumption|omega|exact And.left (by assumption)|(dsimp only; omega))) fun _ _=>?_
  | refine ok ?_
  | split
  | exact True.intro
theorem L63x2 (k:Int) (o:Z2j) (a:Int) (h0:0≤k) (h1:k<o.Z5j.length) (hl:o.Z5j.length≤140737488355328):Ok (Z04 (Zq2 k o a) Z05 0) (fun _=>True):=by
 refine li (k) (fun t _ _=>?_) (by omega) (by omega) (by omega)
 unfold Zq2
 repeat' first
  | with_reducible refine ni ?_ ?_
  | with_reducible refine di ?_
  | with_reducible refine brD (fun _=>?_) fun _=>?_
  | with_reducible refine brE (fun _=>?_) fun _=>?_
  | with_reducible refine bd gr fun _ _=>?_
  | with_reducible refine bd wr fun _ _=>?_
  | exact True.intro
  | omega
theorem L63x1 (o:Z2j) (m:Z0a) (n:Int) (hl:o.Z5j.length≤140737488355328):Ok (Z04 (Zcy o m n) Z05 0) (fun _=>True):=by
 refine li (o.Z5j.length) (fun t h0 h1=>?_) (by omega) (by omega) (by omega)
 unfold Zcy j63x2
 exact brD (fun hlt=>bd (gr h0 hlt) fun k hk=>nT (Zr3 _ _) (di trivial) fun ht=>bd (gr ht.1 ht.2) fun _ _=>brN (fun _=>di trivial) fun _=>bd (gr ht.1 ht.2) fun _ _=>bd sm fun _ _=>brN (fun _=>di trivial) fun _=>bd (L63x2 t o k h0 (by omega) hl) fun q _=>match q with
  | .inl _=>bd wr fun _ _=>ni (by omega) (by omega)
  | .inr _=>di trivial) fun _=>di trivial
theorem Y90 (m:Z0a) (n:Int) (h:Z3l m) (h0:0≤n) (h1:n<m.Z1u.length):Ok (Z99 m n) (fun _=>True):=by
 have hj:∀ o∈m.Z1u,Ok (Z7k o m n) (fun _=>True):=fun o ho=>by
  unfold Z7k
  exact bd (L63x1 o m n (h.heap o ho).ws) fun q _=>match q with
   | .inl _=>ok trivial
   | .inr _=>ok trivial
 unfold Z99
 refine bd (gr h0 h1) fun o ho=>?_
 have k2:Ok (if (o.Z80==0)=true then (if (o.Z3g !=0)=true then some false else Z7k o m n) else Z7k o m n) (fun _=>True):=brE (fun _=>brN (fun _=>ok trivial) fun _=>hj o ho) fun _=>hj o ho
 exact brN (fun _=>bd sm fun _ _=>bd (Zr3 _ _) fun _ _=>br! (fun _=>ok trivial) fun _=>brD (fun _=>ok trivial) fun _=>k2) fun _=>k2
theorem Y9u (m:Z0a) (o:Z2j) (h:Z3l m) (hv:Z8o m.Z1m) (ho:WObj o):Ok (Ze3 m o) (fun _=>True):=by
 have hH:=h.heapL; have hw:=h.sp; have:=hv.few; have:=ho.val
 unfold Ze3
 repeat' with_reducible first
  | refine brD (fun _=>?_) fun _=>?_
  | refine br (fun _=>?_) fun _=>?_
  | refine bd gr fun _ _=>?_
  | refine bd (Y7h _ _ (by first|assumption|omega|exact And.left (by assumption)|(dsimp only; omega)) (by first|assumption|omega|exact And.left (by assumption)|(dsimp only; omega)) (by first|assumption|omega|exact And.left (by assumption)|(dsimp only; omega))) fun _ _=>?_
  | refine bd (Y2u _ _ _ (by first|assumption|omega|exact And.left (by assumption)|(dsimp only; omega)) (by first|assumption|omega|exact And.left (by assumption)|(dsimp only; omega))) fun _ _=>?_
  | refine bs ?_
  | refine ok ?_
  | exact True.intro
theorem Yaq (t:Z3f):Ok (Zop t) (fun _=>True):=by
 unfold Zop
 repeat' with_reducible first
  | refine bd sm fun _ _=>?_
  | refine brD (fun _=>?_) fun _=>?_
  | refine ok ?_
  | exact True.intro
theorem Yax (w:Z0w) (t:Z3f):Ok (Zqm w t) (fun _=>True):=by
 unfold Zqm
 repeat' with_reducible first
  | unfold j95x1
  | refine brD (fun _=>?_) fun _=>?_
  | refine brE (fun _=>?_) fun _=>?_
  | refine ok ?_
  | exact True.intro
theorem Y7g (t:Z3f):Ok (Zmm t) (fun _=>True):=by
 unfold Zmm
 repeat' with_reducible first
  | unfold Zk7
  | refine brE (fun _=>?_) fun _=>?_
  | refine ok ?_
  | exact True.intro
theorem L64x1 (e:Z3f×Bool) (m:Z0a) (o:Z2j) (hH:m.Z1u.length≤140737488355328) (ho:o.Z4x.length≤140737488355328):Ok (Z04 (Zqe e m o) Z05 0) (fun _=>True):=by
 refine li (o.Z4x.length) (fun t _ _=>?_) (by omega) (by omega) (by omega)
 unfold Zqe
 repeat' first
  | with_reducible refine ni ?_ ?_
  | with_reducible refine di ?_
  | with_reducible refine brD (fun _=>?_) fun _=>?_
  | with_reducible refine br! (fun _=>?_) fun _=>?_
  | with_reducible refine brN (fun _=>?_) fun _=>?_
  | with_reducible refine bd gr fun _ _=>?_
  | with_reducible refine bd wr fun _ _=>?_
  | with_reducible refine bd (Y7g _) fun _ _=>?_
  | with_reducible refine bd (Zgd _ _ (by first|assumption|omega|exact And.left (by assumption)|(dsimp only; omega))) fun _ _=>?_
  | exact True.intro
  | omega
theorem Yct (m:Z0a) (o:Z2j) (h:Z3l m) (ho:WObj o):Ok (Zei m o) (fun _=>True):=by
 have hH:=h.heapL; have:=ho.val
 unfold Zei
 repeat' first
  | unfold j64x1
  | with_reducible refine bd (Yaq _) fun _ _=>?_
  | with_reducible refine bd (Yax _ _) fun _ _=>?_
  | with_reducible refine bd (L64x1 _ _ _ (by first|assumption|omega|exact And.left (by assumption)|(dsimp only; omega)) (by first|assumption|omega|exact And.left (by assumption)|(dsimp only; omega))) fun _ _=>?_
  | with_reducible refine ok ?_
  | split
  | assumption
theorem Y8t (w:Z0w) (l:Int) (s:List UInt8) (hw:Z5d w):Ok (Zml w l s) (fun _=>True):=by
 unfold Zml
 repeat' first
  | with_reducible refine bd (Y3c _ _ _ (by first|assumption|omega|exact And.left (by assumption)|(dsimp only; omega))) fun _ _=>?_
  | with_reducible refine ok ?_
  | assumption
theorem Ya4 (m:Z0a) (o:Z2j) (h:Z3l m):Ok (Zjr m o) (fun _=>True):=by
 have hw:=h.sp
 unfold Zjr
 repeat' first
  | with_reducible refine br (fun _=>?_) fun _=>?_
  | with_reducible refine bd (Y8t _ _ _ (by first|assumption|omega|exact And.left (by assumption)|(dsimp only; omega))) fun _ _=>?_
  | with_reducible refine ok ?_
  | assumption
theorem Yaa (m:Z0a) (n:Int) (h:Z3l m) (hv:Z8o m.Z1m) (h0:0≤n) (h1:n<m.Z1u.length):Ok (Z8s m n) (fun _=>True):=by
 unfold Z8s
 repeat' with_reducible first
  | refine bd (Y9u _ _ h hv (h.heap _ (by assumption))) fun _ _=>?_
  | refine bd (Yct _ _ h (h.heap _ (by assumption))) fun _ _=>?_
  | refine br (fun _=>?_) fun _=>?_
  | refine bd gr fun _ _=>?_
  | refine bd (Y90 _ _ (by first|assumption|omega|exact And.left (by assumption)|(dsimp only; omega)) (by first|assumption|omega|exact And.left (by assumption)|(dsimp only; omega)) (by first|assumption|omega|exact And.left (by assumption)|(dsimp only; omega))) fun _ _=>?_
  | refine bd (Ya4 _ _ (by first|assumption|omega|exact And.left (by assumption)|(dsimp only; omega))) fun _ _=>?_
  | refine ok ?_
  | exact True.intro
theorem Y9a (m:Z0a) (n:Int) (h:Z3l m) (hv:Z8o m.Z1m) (h0:0≤n) (h1:n<m.Z3w.length):Ok (Z8q m n) (fun _=>True):=by
 have hH:=h.heapL; have hw:=h.sp
 unfold Z8q
 repeat' with_reducible first
  | unfold Zad
  | refine brD (fun _=>?_) fun _=>?_
  | refine br! (fun _=>?_) fun _=>?_
  | refine brE (fun _=>?_) fun _=>?_
  | refine brN (fun _=>?_) fun _=>?_
  | refine bd gr fun _ _=>?_
  | refine bd (Zr3 _ _) fun _ _=>?_
  | refine bd (Y6q _ _ (by first|assumption|omega|exact And.left (by assumption)|(dsimp only; omega)) (by first|assumption|omega|exact And.left (by assumption)|(dsimp only; omega))) fun _ _=>?_
  | refine bd (Y2u _ _ _ (by first|assumption|exact h.ini _ (by assumption)) (by first|assumption|exact h.ini _ (by assumption))) fun _ _=>?_
  | refine ok ?_
  | exact True.intro
theorem L100x1 (l:List Int) (n:Int) (hl:l.length≤140737488355328):Ok (Z04 (Zq0 l n) Z05 0) (fun _=>True):=by
 refine li (l.length) (fun t _ _=>?_) (by omega) (by omega) (by omega)
 unfold Zq0
 repeat' first
  | with_reducible refine ni ?_ ?_
  | with_reducible refine di ?_
  | with_reducible refine brD (fun _=>?_) fun _=>?_
  | with_reducible refine brE (fun _=>?_) fun _=>?_
  | with_reducible refine bd gr fun _ _=>?_
  | with_reducible refine bd wr fun _ _=>?_
  | exact True.intro
  | omega
theorem Y91 (l:List Int) (n:Int) (hl:l.length≤140737488355328):Ok (Zl3 l n) (fun _=>True):=by
 unfold Zl3
 repeat' first
  | with_reducible refine bd (L100x1 _ _ (by first|assumption|omega|exact And.left (by assumption)|(dsimp only; omega))) fun _ _=>?_
  | with_reducible refine ok ?_
  | split
  | assumption
theorem Ycw (m:Z0a) (n:Int) (h:Z3l m) (h0:0≤n) (h1:n<m.Z0v.length):Ok (Zbu m n) (fun _=>True):=by
 have hH:=h.heapL
 unfold Zbu
 repeat' with_reducible first
  | refine nF (Zkm _ _ (by assumption)) ?_ fun _=>?_
  | unfold j69x1
  | unfold j69x2
  | refine brD (fun _=>?_) fun _=>?_
  | refine brE (fun _=>?_) fun _=>?_
  | refine bd gr fun _ _=>?_
  | refine bd wr fun _ _=>?_
  | refine bd (Y91 _ _ (by exact (h.heap _ (by assumption)).ws)) fun _ _=>?_
  | refine ok ?_
  | exact True.intro
theorem L83x1 (m:Z0a) (x:List Z0f) (b:Bool) (hH:m.Z1u.length≤140737488355328) (hx:x.length≤140737488355328):Ok (Z04 (Ziq m x b) Z05 0) (fun _=>True):=by
 refine li (x.length) (fun t _ _=>?_) (by omega) (by omega) (by omega)
 unfold Ziq
 repeat' first
  | with_reducible refine ni ?_ ?_
  | with_reducible refine di ?_
  | with_reducible refine brD (fun _=>?_) fun _=>?_
  | with_reducible refine br! (fun _=>?_) fun _=>?_
  | with_reducible refine brE (fun _=>?_) fun _=>?_
  | with_reducible refine bd gr fun _ _=>?_
  | with_reducible refine bd wr fun _ _=>?_
  | with_reducible refine bd (Zgd _ _ (by first|assumption|omega|exact And.left (by assumption)|(dsimp only; omega))) fun _ _=>?_
  | exact True.intro
  | omega
theorem Y79 (m:Z0a) (x:List Z0f) (b:Bool) (hH:m.Z1u.length≤140737488355328) (hx:x.length≤140737488355328):Ok (Zbc m x b) (fun _=>True):=by
 unfold Zbc
 repeat' first
  | with_reducible refine bd (L83x1 _ _ _ (by first|assumption|omega|exact And.left (by assumption)|(dsimp only; omega)) (by first|assumption|omega|exact And.left (by assumption)|(dsimp only; omega))) fun _ _=>?_
  | with_reducible refine ok ?_
  | split
  | assumption
theorem Y8y (m:Z0a) (a:Z19) (hH:m.Z1u.length≤140737488355328) (ha:Z9k a):Ok (Z5n m a) (fun _=>True):=by
 have:=ha.loc; have:=ha.stk
 unfold Z5n
 repeat' with_reducible first
  | unfold Zl2
  | unfold Zk1
  | unfold Zl1
  | refine brD (fun _=>?_) fun _=>?_
  | refine br (fun _=>?_) fun _=>?_
  | refine bd gr fun _ _=>?_
  | refine bd (Zm7 _ _ (by first|assumption|omega|exact And.left (by assumption)|(dsimp only; omega))) fun _ _=>?_
  | refine bd (Y79 _ _ _ (by first|assumption|omega|exact And.left (by assumption)|(dsimp only; omega)) (by first|assumption|omega|exact And.left (by assumption)|(dsimp only; omega))) fun _ _=>?_
  | refine ok ?_
  | exact True.intro
theorem allL {n:Nat} (hn:n≤140737488355328) (g:Int→Option Bool) {f:Int→Option (Ctl Int (Unit⊕Bool))} (hg:∀ t:Int,0≤t→t<n→Ok (g t) fun _=>True)
  (hf:∀ t,f t=if decide (t<(n:Int))=true then ((g t).bind fun v=>if (!v)=true then some (.done (.inr false)) else ((some (IntKind.wrap .i64 (t+1))).bind fun k=>some (.next k))) else some (.done (.inl ()))):
  Ok (Z04 f Z05 0) (fun q=>(q=.inl ()∧∀ t:Int,0≤t→t<n→g t=some true)∨(q=.inr false∧∃ t:Int,0≤t∧t<n∧g t=some false)):=by
 refine lp (fun t=>t) n (fun t=>∀ j:Int,0≤j→j<t→g j=some true) (fun t hI h0 h1=>?_) (by omega) (fun j h h'=>by omega) (by omega) (by omega)
 rw [hf]
 refine brD (fun hlt=>?_) fun hge=>dn (.inl ⟨rfl,fun j h h'=>hI j h (by omega)⟩)
 obtain ⟨b,hb,_⟩:=hg t h0 hlt
 rw [hb]
 cases b with
 | false=>exact ⟨_,rfl,.inr ⟨rfl,t,h0,hlt,hb⟩⟩
 | true=>
  refine bs (br! (fun h=>by cases h) fun _=>bd wr fun k hk=>nx (fun j hj hj'=>?_) (by omega) (by omega))
  rcases Int.lt_or_le j t with h|h
  ·exact hI j hj h
  ·rw [show j=t by omega]; exact hb
theorem Zj3 {n:Nat} (hn:n≤140737488355328) (g:Int→Option Bool) {f:Int→Option (Ctl Int (Unit⊕Bool))} (hg:∀ t:Int,0≤t→t<n→g t=some true)
  (hf:∀ t,f t=if decide (t<(n:Int))=true then ((g t).bind fun v=>if (!v)=true then some (.done (.inr false)) else ((some (IntKind.wrap .i64 (t+1))).bind fun k=>some (.next k))) else some (.done (.inl ()))):
  Z04 f Z05 0=some (.inl ()):=by
 obtain ⟨q,e,h⟩:=allL hn g (fun t h h'=>ok' (hg t h h') trivial) hf
 rcases h with ⟨rfl,_⟩|⟨_,t,h0,h1,h2⟩
 ·exact e
 ·rw [hg t h0 h1] at h2; cases h2
theorem acts_ok (m:Z0a) (t:Z1o) (hH:m.Z1u.length≤140737488355328) (ha:∀ a∈t.Z0s,Z9k a) (hl:t.Z0s.length≤140737488355328):
  Ok (Z83 t m) (fun b=>b=true→∀ a∈t.Z0s,Z5n m a=some true):=by
 unfold Z83
 refine bd (allL hl (fun i=>(Z01 t.Z0s i).bind (Z5n m)) (fun i h0 h1=>bd (gr h0 h1) fun a hm=>Y8y m a hH (ha a hm)) fun i=>?_) fun q hq=>?_
 ·unfold Zmw
  split
  ·rw [Option.bind_assoc]
  ·rfl
 ·rcases hq with ⟨rfl,h⟩|⟨rfl,_⟩
  ·refine ok fun _ a hm=>?_
   obtain ⟨i,hi⟩:=List.getElem?_of_mem hm
   have hlt:i<t.Z0s.length:=(List.getElem?_eq_some_iff.1 hi).1
   have:=h i (by omega) (by omega)
   obtain ⟨a',e,_,hx⟩:=gri (l:=t.Z0s) (i:=(i:Int)) (by omega) (by omega)
   rw [e] at this
   simp only [Int.toNat_natCast] at hx
   rw [hi] at hx
   cases hx
   exact this
  ·exact ok fun h=>by cases h
theorem Zyc (m:Z0a) (n:Int) (h:Z3l m) (h0:0≤n) (h1:n<m.Z0v.length):Ok (Z8w m n) (fun b=>b=true→∀ t,Z01 m.Z0v n=some t→t.Z0s.length≤64∧∀ a∈t.Z0s,Z5n m a=some true):=by
 have hH:=h.heapL
 unfold Z8w
 refine bdE (gr h0 h1) fun t e hm=>bd (Ycw m n h h0 h1) fun _ _=>br! (fun _=>ok fun h=>by cases h) fun _=>bd (Zm7 _ _ hH) fun _ _=>br! (fun _=>ok fun h=>by cases h) fun _=>bd (Zm7 _ _ hH) fun _ _=>br! (fun _=>ok fun h=>by cases h) fun _=>bd (Zgd _ _ hH) fun _ _=>br! (fun _=>ok fun h=>by cases h) fun _=>brD (fun _=>ok fun h=>by cases h) fun hle=>?_
 have hj:Ok (Z83 t m) (fun b=>b=true→∀ t',Z01 m.Z0v n=some t'→t'.Z0s.length≤64∧∀ a∈t'.Z0s,Z5n m a=some true):=
  (acts_ok m t hH (h.thr t hm).1 (h.thr t hm).2).mono fun b hb hbt t' ht'=>by
   rw [e] at ht'; cases ht'
   exact ⟨by omega,hb hbt⟩
 have hf:Ok (some false) (fun b=>b=true→∀ t',Z01 m.Z0v n=some t'→t'.Z0s.length≤64∧∀ a∈t'.Z0s,Z5n m a=some true):=ok fun h=>by cases h
 unfold Zjd
 exact brE (fun _=>brD (fun _=>hf) fun _=>brN (fun _=>brN (fun _=>hf) fun _=>br! (fun _=>hf) fun _=>hj) fun _=>hj) fun _=>brN (fun _=>brN (fun _=>hf) fun _=>br! (fun _=>hf) fun _=>hj) fun _=>hj
structure Z5h (m:Z0a):Prop where
 sp:Zcv m.Z1m=some true
 vok:Z8o m.Z1m
 max0:0≤m.Z5o
 max1:m.Z5o≤5000
 heap:m.Z1u.length≤5000
 init:m.Z3w.length≤m.Z1m.Z0z.length
 thr:m.Z0v.length≤8
 txt:Ziu m=some true
 obj:∀ t,0≤t→t<(m.Z1u.length:Int)→Z8s m t=some true
 beg:∀ t,0≤t→t<(m.Z3w.length:Int)→Z8q m t=some true
 run:∀ t,0≤t→t<(m.Z0v.length:Int)→Z8w m t=some true
theorem valid36 (m:Z0a) (h:Z3l m):Ok (Zbq m) (fun b=>b=true→Z5h m):=by
 have hf:Ok (some false) (fun b=>b=true→Z5h m):=ok fun h=>by cases h
 unfold Zbq
 refine bdE (Yay m.Z1m h.sp) fun b e hb=>?_
 cases b with
 | false=>exact hf
 | true=>
 have hv:=hb rfl
 refine br! (fun _=>hf) fun _=>brD (fun _=>hf) fun k1=>brD (fun _=>hf) fun k2=>brD (fun _=>hf) fun k3=>brD (fun _=>hf) fun k4=>brD (fun _=>hf) fun k5=>bdE (Yc1 m h.heapL h.intL) fun b2 e2 _=>?_
 cases b2 with
 | false=>exact hf
 | true=>
 refine br! (fun _=>hf) fun _=>?_
 unfold j9x1
 refine bd (allL h.heapL (Z8s m) (fun t a b=>(Yaa m t h hv a b).mono fun _ _=>trivial) fun t=>by unfold l9x1; rfl) fun q1 hq1=>?_
 rcases hq1 with ⟨rfl,o1⟩|⟨rfl,_⟩
 rotate_left
 ·exact hf
 refine bd (allL h.iniL (Z8q m) (fun t a b=>(Y9a m t h hv a b).mono fun _ _=>trivial) fun t=>by unfold l9x2; rfl) fun q2 hq2=>?_
 rcases hq2 with ⟨rfl,o2⟩|⟨rfl,_⟩
 rotate_left
 ·exact hf
 refine bd (allL h.thrL (Z8w m) (fun t a b=>(Zyc m t h a b).mono fun _ _=>trivial) fun t=>by unfold l9x3; rfl) fun q3 hq3=>?_
 rcases hq3 with ⟨rfl,o3⟩|⟨rfl,_⟩
 rotate_left
 ·exact hf
 exact ok fun _=>⟨e,hv,by omega,by omega,by omega,by omega,by omega,e2,o1,o2,o3⟩
theorem Z5h.valid {m:Z0a} (h:Z3l m) (v:Z5h m):Zbq m=some true:=by
 unfold Zbq j9x1
 rw [v.sp,v.txt,Zj3 h.heapL (Z8s m) v.obj (fun t=>by unfold l9x1; rfl),Zj3 h.iniL (Z8q m) v.beg (fun t=>by unfold l9x2; rfl),Zj3 h.thrL (Z8w m) v.run (fun t=>by unfold l9x3; rfl)]
 have:=v.max0; have:=v.max1; have:=v.heap; have:=v.init; have:=v.thr
 simp only [Option.bind_some,Bool.not_true,Bool.false_eq_true,if_false]
 rw [if_neg (by simpa using v.max0),if_neg (by simpa using v.max1),if_neg (by simp; omega),if_neg (by simp; omega),if_neg (by simp; omega)]
theorem Z5h.acts {m:Z0a} (h:Z3l m) (v:Z5h m) {n:Int} {t:Z1o} (h0:0≤n) (ht:Z01 m.Z0v n=some t) (h1:n<m.Z0v.length):t.Z0s.length≤64∧∀ a∈t.Z0s,Z5n m a=some true:=by
 obtain ⟨b,e,hb⟩:=Zyc m n h h0 h1
 rw [v.run n h0 h1] at e
 cases e
 exact hb rfl t ht
end Go.Proofs
namespace Go.Proofs
open Go.Den
theorem Zme (n:Int):IntKind.wrap .i64 n=(n+9223372036854775808) % 18446744073709551616 - 9223372036854775808:=by
 show (if (true&&decide (n % 18446744073709551616≥9223372036854775808))=true then n % 18446744073709551616 - 18446744073709551616 else n % 18446744073709551616)=_
 rw [Bool.true_and]
 by_cases h:n % 18446744073709551616≥9223372036854775808
 ·rw [if_pos (decide_eq_true h)]; omega
 ·rw [if_neg (by simpa using h)]; omega
theorem Zsd {s:List UInt8} {i:Int} (h0:0≤i) (h1:i<s.length):∃ c:UInt8,s[i.toNat]?=some c∧Z2v s i=some (c.toNat:Int):=by
 have hlt:i.toNat<s.length:=by omega
 refine ⟨s[i.toNat],List.getElem?_eq_getElem hlt,?_⟩
 unfold Z2v; rw [if_pos h0,List.getElem?_eq_getElem hlt]; rfl
def Ztu (n:Nat):Bool:=(decide (97≤n)&&decide (n≤122))||(decide (65≤n)&&decide (n≤90))||n==95||n==36
def Zmr (n:Nat):Bool:=decide (48≤n)&&decide (n≤57)
def Zaz (c:UInt8):Bool:=Ztu c.toNat
def Z92 (c:UInt8):Bool:=Zmr c.toNat
theorem Zxh:∀ n:Fin 256,Zfx ((n.val:Nat):Int)=some (if Ztu n.val then 1 else if Zmr n.val then 2 else 0):=by decide+kernel
theorem Y84:∀ n:Fin 256,Zet ((n.val:Nat):Int)=some (Ztu n.val):=by decide+kernel
theorem Zkx (c:UInt8):Zfx (c.toNat:Int)=some (if Zaz c then 1 else if Z92 c then 2 else 0):=Zxh ⟨c.toNat,c.toNat_lt⟩
theorem Zi5 (c:UInt8):Zet (c.toNat:Int)=some (Zaz c):=Y84 ⟨c.toNat,c.toNat_lt⟩
theorem Y35:Zfx 47=some 0:=Zxh 47
def okP:Bool→List UInt8→Bool
 | b,[] =>!b
 | b,c::l=>if Zaz c then okP false l else if Z92 c then !b&&okP false l else false
def okC:Bool→List UInt8→Bool
 | b,[] =>!b
 | b,c::l=>if c=47 then !b&&okC true l else if Zaz c then okC false l else if Z92 c then !b&&okC false l else false
theorem Zxj:∀ (p r:List UInt8) (b:Bool),(47:UInt8) ∉ p→okC b (p++47::r)=(okP b p&&okC true r)
 | [],r,b,_=>by simp [okC,okP]
 | c::p,r,b,h=>by
  have hc:c≠47:=fun e=>h (by simp [e])
  have hp:(47:UInt8) ∉ p:=fun e=>h (by simp [e])
  simp only [List.cons_append,okC,okP,if_neg hc,Zxj p r _ hp]
  by_cases h1:Zaz c=true
  ·simp [h1]
  ·by_cases h2:Z92 c=true <;> simp [h1,h2,Bool.and_assoc]
theorem Y14:∀ (p:List UInt8) (b:Bool),(47:UInt8) ∉ p→okC b p=okP b p
 | [],b,_=>rfl
 | c::p,b,h=>by
  have hc:c≠47:=fun e=>h (by simp [e])
  have hp:(47:UInt8) ∉ p:=fun e=>h (by simp [e])
  simp only [okC,okP,if_neg hc,Y14 p _ hp]
theorem Zvf {α:Type} {s:List α} {i:Nat} {c:α} (h:s[i]?=some c):s.drop i=c::s.drop (i+1):=by
 have hlt:=(List.getElem?_eq_some_iff.1 h).1
 rw [List.drop_eq_getElem_cons hlt]
 congr 1
 exact (List.getElem?_eq_some_iff.1 h).2
theorem Zua (s:List UInt8) (hl:(s.length:Int)≤140737488355328):Za2 s=some (okP true s):=by
 obtain ⟨q,hq,hp⟩:=Zap (f:=Zdl s) (fun t:Int=>0≤t∧t≤s.length∧okP true s=okP (t==0) (s.drop t.toNat)) (fun t=>((s.length:Int) - t).toNat)
  (fun q=>match q with
   | .inl _=>okP true s=decide (s.length>0)
   | .inr r=>okP true s=r)
  (fun t ht =>by
   obtain ⟨h0,h1,h2⟩:=ht
   unfold Zdl
   by_cases h:t<s.length
   ·obtain ⟨c,hc,hg⟩:=Zsd h0 h
    have e1:IntKind.wrap .i64 (t+1)=t+1:=by rw [Zme]; omega
    have hd:s.drop t.toNat=c::s.drop (t+1).toNat:=by rw [Zvf hc]; congr 2; omega
    rw [hd] at h2
    have hz:(t+1==0)=false:=by simp; omega
    by_cases hL:Zaz c=true
    ·refine ⟨.next (t+1),by simp [h,hg,Zi5,hL,e1],⟨by omega,by omega,?_⟩,by omega⟩
     rw [h2,hz]; simp [okP,hL]
    ·by_cases ht0:t=0
     ·subst ht0
      refine ⟨.done (.inr false),by simp only [h,hg,Zi5,hL,decide_true,if_true,Option.bind_some,Bool.not_false,beq_self_eq_true,Bool.false_eq_true,if_false],?_⟩
      show okP true s=false
      rw [h2]; simp [okP,hL]
     ·by_cases hD:Z92 c=true
      ·have hD':48≤c.toNat∧c.toNat≤57:=by simpa [Z92,Zmr] using hD
       have a1: ¬ ((c.toNat:Int)<48):=by omega
       have a2: ¬ ((c.toNat:Int)>57):=by omega
       refine ⟨.next (t+1),?_,⟨by omega,by omega,?_⟩,by omega⟩
       ·simp only [h,hg,Zi5,hL,e1,ht0,a1,a2,decide_true,decide_false,if_true,Option.bind_some,Bool.not_false,beq_iff_eq,Bool.false_eq_true,if_false]
       ·rw [h2,hz]; simp [okP,hL,hD,ht0]
      ·refine ⟨.done (.inr false),?_,?_⟩
       ·have hD': ¬ (48≤c.toNat∧c.toNat≤57):=by simpa [Z92,Zmr] using hD
        by_cases a1:(c.toNat:Int)<48
        ·simp only [h,hg,Zi5,hL,ht0,a1,decide_true,if_true,Option.bind_some,Bool.not_false,beq_iff_eq,Bool.false_eq_true,if_false]
        ·have a2:(c.toNat:Int)>57:=by omega
         simp only [h,hg,Zi5,hL,ht0,a1,a2,decide_true,decide_false,if_true,Option.bind_some,Bool.not_false,beq_iff_eq,Bool.false_eq_true,if_false]
       ·show okP true s=false
        rw [h2]; simp [okP,hL,hD]
   ·refine ⟨.done (.inl ()),by simp [h],?_⟩
    show okP true s=decide (s.length>0)
    rw [h2,List.drop_eq_nil_of_le (by omega)]
    by_cases hs:s.length>0
    ·simp [okP,hs,show ¬ t=0 by omega]
    ·have:t=0:=by omega
     simp [okP,hs,this])
  Z05 0 ⟨by omega,by omega,by simp⟩ (by unfold Z05; omega)
 unfold Za2
 cases q with
 | inl u=>simp only [hq,Option.bind_some,hp]; congr 1; simp
 | inr r=>simp only [hq,Option.bind_some,hp]
theorem Y8e (s:List UInt8) (hl:(s.length:Int)≤140737488355328):Zlv s=some (okC true s):=by
 obtain ⟨q,hq,hp⟩:=Zap (f:=Zkg s) (fun t:Bool×Int=>0≤t.2∧t.2≤s.length∧okC true s=okC t.1 (s.drop t.2.toNat)) (fun t=>((s.length:Int) - t.2).toNat)
  (fun q=>match q with
   | .inl b=>okC true s= !b
   | .inr r=>okC true s=r)
  (fun t ht =>by
   obtain ⟨b,t⟩:=t
   obtain ⟨h0,h1,h2⟩:=ht
   dsimp only at h0 h1 h2
   unfold Zkg
   by_cases h:t<s.length
   ·obtain ⟨c,hc,hg⟩:=Zsd h0 h
    have e1:IntKind.wrap .i64 (t+1)=t+1:=by rw [Zme]; omega
    have hd:s.drop t.toNat=c::s.drop (t+1).toNat:=by rw [Zvf hc]; congr 2; omega
    rw [hd] at h2
    have h47:((c.toNat:Int)=47)↔c=47:=⟨fun e=>UInt8.toNat_inj.1 (by show c.toNat=47; omega),fun e=>by subst e; rfl⟩
    by_cases hs:c=47
    ·subst hs
     have hcl:Zaz 47=false∧Z92 47=false:=by decide
     cases b with
     | false=>
      refine ⟨.next (true,t+1),by simp [h,hg,Y35,Zs7,e1],⟨by dsimp only; omega,by dsimp only; omega,?_⟩,by dsimp only; omega⟩
      rw [h2]; simp [okC]
     | true=>
      refine ⟨.done (.inr false),by simp [h,hg,Y35,Zau],?_⟩
      show okC true s=false
      rw [h2]; simp [okC]
    ·have hn: ¬ ((c.toNat:Int)=47):=fun e=>hs (h47.1 e)
     by_cases hL:Zaz c=true
     ·refine ⟨.next (false,t+1),by simp [h,hg,Zkx,hn,Zau,Zhj,hL,e1],⟨by dsimp only; omega,by dsimp only; omega,?_⟩,by dsimp only; omega⟩
      rw [h2]; simp [okC,hs,hL]
     ·by_cases hD:Z92 c=true
      ·cases b with
       | false=>
        refine ⟨.next (false,t+1),by simp [h,hg,Zkx,hn,Zau,Zlq,Zhj,hL,hD,e1],⟨by dsimp only; omega,by dsimp only; omega,?_⟩,by dsimp only; omega⟩
        rw [h2]; simp [okC,hs,hL,hD]
       | true=>
        refine ⟨.done (.inr false),by simp [h,hg,Zkx,hn,Zau,Zlq,hL,hD],?_⟩
        show okC true s=false
        rw [h2]; simp [okC,hs,hL,hD]
      ·refine ⟨.done (.inr false),by simp [h,hg,Zkx,hn,Zau,hL,hD],?_⟩
       show okC true s=false
       rw [h2]; simp [okC,hs,hL,hD]
   ·refine ⟨.done (.inl b),by simp [h],?_⟩
    show okC true s= !b
    rw [h2,List.drop_eq_nil_of_le (by omega)]; rfl)
  Z05 (true,0) ⟨by dsimp only; omega,by dsimp only; omega,by simp⟩ (by unfold Z05; dsimp only; omega)
 unfold Zlv
 cases q with
 | inl u=>simp only [hq,Option.bind_some]; exact congrArg some hp.symm
 | inr r=>simp only [hq,Option.bind_some]; exact congrArg some hp.symm
theorem isClass (s:List UInt8) (hl:(s.length:Int)≤140737488355328):Zkd s=some (decide (s.length≤64)&&okC true s):=by
 unfold Zkd
 by_cases h:s=[]
 ·subst h; rfl
 ·rw [if_neg (by simpa using h)]
  by_cases h64:(s.length:Int)>64
  ·rw [if_pos (decide_eq_true h64)]
   have:decide (s.length≤64)=false:=decide_eq_false (by omega)
   rw [this]; rfl
  ·rw [if_neg (by simpa using h64),Y8e s hl]
   have:decide (s.length≤64)=true:=decide_eq_true (by omega)
   rw [this]; rfl
theorem Ybg (s:List UInt8) (hl:(s.length:Int)≤140737488355328):Z98 s=some (decide (s.length≤64)&&okC true s):=by
 unfold Z98
 by_cases h64:(s.length:Int)>64
 ·rw [if_pos (decide_eq_true h64)]
  have:decide (s.length≤64)=false:=decide_eq_false (by omega)
  rw [this]; rfl
 rw [if_neg (by simpa using h64)]
 have h64':decide (s.length≤64)=true:=decide_eq_true (by omega)
 rw [h64',Bool.true_and]
 obtain ⟨q,hq,hp⟩:=Zap (f:=Zen s) (fun t:Int×Int=>0≤t.1∧t.1≤t.2∧t.2≤s.length∧(∀ j:Nat,t.1≤j→(j:Int)<t.2→s[j]?≠some 47)∧okC true s=okC true (s.drop t.1.toNat)) (fun t=>((s.length:Int) - t.2).toNat)
  (fun q=>match q with
   | .inl a=>0≤a∧a≤(s.length:Int)∧(∀ j:Nat,a≤j→s[j]?≠some 47)∧okC true s=okC true (s.drop a.toNat)
   | .inr r=>okC true s=r)
  (fun t ht =>by
   obtain ⟨a,i⟩:=t
   obtain ⟨h0,h1,h2,h3,h4⟩:=ht
   dsimp only at h0 h1 h2 h3 h4
   unfold Zen
   by_cases h:i<s.length
   ·obtain ⟨c,hc,hg⟩:=Zsd (by omega) h
    have e1:IntKind.wrap .i64 (i+1)=i+1:=by rw [Zme]; omega
    by_cases hs:c=47
    ·subst hs
     have hsub:sub s a i=some ((s.drop a.toNat).take (i.toNat - a.toNat)):=by
      unfold sub; rw [if_pos (by omega)]
     obtain ⟨p,hpd⟩:∃ p,p=(s.drop a.toNat).take (i.toNat - a.toNat):=⟨_,rfl⟩
     have hpl:(p.length:Int)≤140737488355328:=by rw [hpd]; simp; omega
     have hsplit:s.drop a.toNat=p++47::s.drop (i+1).toNat:=by
      have e2:(s.drop a.toNat).drop (i.toNat - a.toNat)=47::s.drop (i+1).toNat:=by
       rw [List.drop_drop,show a.toNat+(i.toNat - a.toNat)=i.toNat by omega,Zvf hc]
       congr 2; omega
      rw [← e2,hpd,List.take_append_drop]
     have hno:(47:UInt8) ∉ p:=fun hm=>by
      obtain ⟨k,hk⟩:=List.getElem?_of_mem hm
      rw [hpd,List.getElem?_take] at hk
      split at hk
      ·rw [List.getElem?_drop] at hk
       exact h3 (a.toNat+k) (by omega) (by omega) hk
      ·cases hk
     have hpart:=Zxj p (s.drop (i+1).toNat) true hno
     rw [hsplit,hpart] at h4
     cases hok:okP true p with
     | false=>
      refine ⟨.done (.inr false),?_,?_⟩
      ·simp [h,hg,hsub,← hpd,Zua p hpl,hok]
      ·show okC true s=false
       rw [h4,hok]; rfl
     | true=>
      refine ⟨.next (i+1,i+1),?_,⟨by dsimp only; omega,by dsimp only; omega,by dsimp only; omega,fun j hj hj2=>?_,?_⟩,by dsimp only; omega⟩
      ·simp [h,hg,hsub,← hpd,Zua p hpl,hok,e1]
      ·dsimp only at hj hj2; omega
      ·dsimp only; rw [h4,hok,Bool.true_and]
    ·have hn: ¬ ((c.toNat:Int)=47):=fun e=>hs (UInt8.toNat_inj.1 (by show c.toNat=47; omega))
     refine ⟨.next (a,i+1),by simp [h,hg,hn,e1],⟨by dsimp only; omega,by dsimp only; omega,by dsimp only; omega,fun j hj hj2=>?_,h4⟩,by dsimp only; omega⟩
     dsimp only at hj hj2
     by_cases hji:(j:Int)=i
     ·rw [show j=i.toNat by omega,hc]; simpa using hs
     ·exact h3 j hj (by omega)
   ·refine ⟨.done (.inl a),by simp [h],h0,by omega,fun j hj=>?_,h4⟩
    by_cases hji:(j:Int)<i
    ·exact h3 j hj hji
    ·rw [List.getElem?_eq_none (by omega)]; simp)
  Z05 (0,0) ⟨by dsimp only; omega,by dsimp only; omega,by dsimp only; omega,fun j hj hj2=>by dsimp only at hj hj2; omega,by simp⟩ (by unfold Z05; dsimp only; omega)
 cases q with
 | inl a=>
  obtain ⟨k0,k1,k2,k3⟩:=hp
  have hsub:sub s a (s.length:Int)=some (s.drop a.toNat):=by
   unfold sub; rw [if_pos (by omega)]
   congr 1
   rw [List.take_of_length_le (by simp)]
  have hno:(47:UInt8) ∉ s.drop a.toNat:=fun hm=>by
   obtain ⟨k,hk⟩:=List.getElem?_of_mem hm
   rw [List.getElem?_drop] at hk
   exact k2 (a.toNat+k) (by omega) hk
  have hpl:((s.drop a.toNat).length:Int)≤140737488355328:=by simp; omega
  simp only [hq,Option.bind_some,hsub,Zua _ hpl]
  rw [k3,Y14 _ true hno]
 | inr r=>simp only [hq,Option.bind_some]; exact congrArg some hp.symm
theorem Y5t:∀ (l:List UInt8) (c:UInt8),(Lib.indexByte l c<0)↔c ∉ l
 | [],c=>by simp [Lib.indexByte]
 | b :: l,c=>by
  have ih:=Y5t l c
  have hge:=Lib.indexByte_ge l c
  unfold Lib.indexByte
  by_cases hb:b=c
  ·subst hb; simp
  ·have hb':(b==c)=false:=by simpa using hb
   have hne: ¬ c=b:=fun e=>hb e.symm
   rw [hb']
   simp only [Bool.false_eq_true,if_false,List.mem_cons,hne,false_or]
   rw [← ih]
   by_cases h1:Lib.indexByte l c= -1
   ·rw [h1]; simp
   ·rw [if_neg (by simpa using h1)]; omega
end Go.Proofs
namespace Go.Proofs
open Go.Den
def clsB (s:List UInt8):Bool:=decide (s.length≤64)&&okC true s
def Z6s (t:Z0i):Bool:=
 decide (0≤t.Z11)&&decide (t.Z11≤8)&&
 ((t.Z15==73||t.Z15==74)&&(t.Z0e==[])||t.Z15==86&&(t.Z0e==[])&&t.Z11==0||t.Z15==76&&clsB t.Z0e)
theorem Zzv (t:Z0i) (hl:(t.Z0e.length:Int)≤140737488355328):Zdt t=some (Z6s t):=by
 unfold Zdt Zvr Zvo Zsj Z6s clsB
 rw [isClass _ hl]
 by_cases h1:t.Z11<0
 ·simp [h1,show ¬ 0≤t.Z11 by omega]
 ·by_cases h2:t.Z11>8
  ·simp [h1,h2,show ¬ t.Z11≤8 by omega]
  ·by_cases b1:t.Z15=73
   ·simp [h1,b1,show ¬ 8<t.Z11 by omega,show 0≤t.Z11 by omega,show t.Z11≤8 by omega]
   ·by_cases b2:t.Z15=74
    ·simp [h1,b2,show ¬ 8<t.Z11 by omega,show 0≤t.Z11 by omega,show t.Z11≤8 by omega]
    ·by_cases b3:t.Z15=86
     ·by_cases b4:t.Z11=0
      ·simp [b3,b4]
      ·simp [h1,b3,b4,show ¬ 8<t.Z11 by omega,show 0≤t.Z11 by omega,show t.Z11≤8 by omega]
     ·by_cases b5:t.Z15=76
      ·simp [h1,b5,show ¬ 8<t.Z11 by omega,show 0≤t.Z11 by omega,show t.Z11≤8 by omega]
      ·simp [h1,b1,b2,b3,b5,show ¬ 8<t.Z11 by omega]
theorem Zyv (t:Z0i) (hl:(t.Z0e.length:Int)≤140737488355328):Z93 t=some (Z6s t):=by
 unfold Z93 Zm5 Zkn Znx Z6s clsB
 rw [Ybg _ hl]
 by_cases h1:t.Z11<0
 ·simp [h1,show ¬ 0≤t.Z11 by omega]
 ·by_cases h2:t.Z11>8
  ·simp [h1,h2,show ¬ t.Z11≤8 by omega]
  ·by_cases b1:t.Z15=73
   ·simp [h1,b1,show ¬ 8<t.Z11 by omega,show 0≤t.Z11 by omega,show t.Z11≤8 by omega]
   ·by_cases b2:t.Z15=74
    ·simp [h1,b2,show ¬ 8<t.Z11 by omega,show 0≤t.Z11 by omega,show t.Z11≤8 by omega]
    ·by_cases b3:t.Z15=86
     ·by_cases b4:t.Z11=0
      ·by_cases b6:t.Z0e=[] <;> simp [b3,b4,b6]
      ·by_cases b6:t.Z0e=[] <;> simp [h1,b3,b4,b6,show ¬ 8<t.Z11 by omega,show 0≤t.Z11 by omega,show t.Z11≤8 by omega]
     ·by_cases b5:t.Z15=76
      ·simp [h1,b5,show ¬ 8<t.Z11 by omega,show 0≤t.Z11 by omega,show t.Z11≤8 by omega]
      ·simp [h1,b1,b2,b3,b5,show ¬ 8<t.Z11 by omega]
theorem Zmn {t:Z0i} (h:Z6s t=true):0≤t.Z11∧t.Z11≤8∧((t.Z15=73∧t.Z0e=[])∨(t.Z15=74∧t.Z0e=[])∨(t.Z15=86∧t.Z0e=[]∧t.Z11=0)∨(t.Z15=76∧clsB t.Z0e=true))∧t.Z0e.length≤64:=by
 simp only [Z6s,Bool.and_eq_true,Bool.or_eq_true,decide_eq_true_eq,beq_iff_eq] at h
 obtain ⟨⟨h1,h2⟩,h3⟩:=h
 refine ⟨h1,h2,?_,?_⟩
 ·rcases h3 with (⟨h3|h3,h4⟩|⟨⟨h3,h4⟩,h5⟩)|⟨h3,h4⟩
  ·exact .inl ⟨h3,h4⟩
  ·exact .inr (.inl ⟨h3,h4⟩)
  ·exact .inr (.inr (.inl ⟨h3,h4,h5⟩))
  ·exact .inr (.inr (.inr ⟨h3,h4⟩))
 ·rcases h3 with (⟨_,h4⟩|⟨⟨_,h4⟩,_⟩)|⟨_,h4⟩
  ·rw [h4]; simp
  ·rw [h4]; simp
  ·simp only [clsB,Bool.and_eq_true,decide_eq_true_eq] at h4; exact h4.1
def fmt (t:Z0i):List UInt8:=List.replicate t.Z11.toNat 91++UInt8.ofNat t.Z15.toNat::(if t.Z15=76 then t.Z0e++[59] else [])
theorem Zu5 {t:Z0i} (h:Z6s t=true):(fmt t).length≤74∧1≤(fmt t).length:=by
 obtain ⟨h1,h2,-,h4⟩:=Zmn h
 unfold fmt
 split <;> simp <;> omega
theorem Za3 {n:Nat} (b:Nat) (h:n*b≤140737488355328) (hb:1≤b):Z1a b n=some ():=by
 unfold Z1a
 have:n≤n*b:=Nat.le_mul_of_pos_right n hb
 rw [if_pos ⟨by omega,h⟩]
theorem Zal {n:Int} (h0: -9223372036854775808≤n) (h1:n<9223372036854775808):IntKind.wrap .i64 n=n:=by
 rw [Zme]; omega
def cut:List UInt8→Option (List UInt8×List UInt8)
 | [] =>none
 | c::r=>if c=59 then some ([],r) else (cut r).map fun x=>(c::x.1,x.2)
def Z2d:List UInt8→Nat
 | [] =>0
 | c::r=>if c=91 then Z2d r+1 else 0
def mkT (d:Nat) (b:Int) (n:List UInt8):Z0i:={ Z11:=d,Z15:=b,Z0e:=n }
def chk (t:Z0i) (r:List UInt8):Option (Z0i×List UInt8):=if Z6s t=true then some (t,r) else none
def rd (s:List UInt8):Option (Z0i×List UInt8):=
 match s.drop (Z2d s) with
 | [] =>none
 | c :: r=>
  if c=76 then
   match cut r with
   | none=>none
   | some (nm,r')=>chk (mkT (Z2d s) 76 nm) r'
  else chk (mkT (Z2d s) (c.toNat:Int) []) r
theorem Zja:∀ l,match cut l with
  | none=>Lib.indexByte l 59<0∧(59:UInt8) ∉ l
  | some (a,b)=>Lib.indexByte l 59=a.length∧l=a++59::b∧(59:UInt8) ∉ a
 | [] =>by simp [cut,Lib.indexByte]
 | c :: r=>by
  have ih:=Zja r
  unfold cut
  by_cases hc:c=59
  ·rw [if_pos hc]; subst hc; simp [Lib.indexByte]
  ·rw [if_neg hc]
   cases h:cut r with
   | none=>
    rw [h] at ih
    have h1:=(Y5t (c::r) 59).2 (by simp only [List.mem_cons,not_or]; exact ⟨fun e=>hc e.symm,ih.2⟩)
    exact ⟨h1,by simp only [List.mem_cons,not_or]; exact ⟨fun e=>hc e.symm,ih.2⟩⟩
   | some x=>
    obtain ⟨a,b⟩:=x
    rw [h] at ih
    obtain ⟨i1,i2,i3⟩:=ih
    refine ⟨?_,by show c::r=c::a++59::b; rw [i2]; rfl,by simp only [List.mem_cons,not_or]; exact ⟨fun e=>hc e.symm,i3⟩⟩
    have: ¬ Lib.indexByte r 59<0:=by omega
    simp [Lib.indexByte,hc,i1]
theorem Zhd:∀ s,Z2d s≤s.length
 | [] =>by simp [Z2d]
 | c::r=>by
  have:=Zhd r
  unfold Z2d; split <;> simp; omega
theorem Ztg:∀ (s:List UInt8) (i:Nat),i<Z2d s→s[i]?=some 91
 | [],i,h=>by simp [Z2d] at h
 | c :: r,i,h=>by
  unfold Z2d at h
  split at h
  ·rename_i hc
   cases i with
   | zero=>simp [hc]
   | succ i=>simpa using Ztg r i (by omega)
  ·omega
theorem Zu3:∀ (s:List UInt8),s[Z2d s]?≠some 91
 | [] =>by simp
 | c::r=>by
  unfold Z2d
  split
  ·simpa using Zu3 r
  ·rename_i hc; simpa using hc
theorem Y1u:∀ s:List UInt8,s=List.replicate (Z2d s) 91++s.drop (Z2d s)
 | [] =>rfl
 | c :: r=>by
  have ih:=Y1u r
  unfold Z2d
  split
  ·rename_i hc
   subst hc
   rw [List.replicate_succ,List.drop_succ_cons,List.cons_append,← ih]
  ·simp
theorem i8_eq (c d:UInt8):((c.toNat:Int)=(d.toNat:Int))↔c=d:=by
 constructor
 ·intro h; exact UInt8.toNat_inj.1 (by omega)
 ·intro h; rw [h]
theorem Za6 (c d:UInt8):((c.toNat:Int)==(d.toNat:Int))=(c==d):=by
 rw [Bool.eq_iff_iff]; simp only [beq_iff_eq]; exact i8_eq c d
theorem Zha {α:Type} (l:List α) (n:Nat) (h:n≤l.length):sub l (n:Int) (l.length:Int)=some (l.drop n):=by
 unfold sub
 rw [if_pos (by omega)]
 simp [List.take_of_length_le]
theorem Y31 {α:Type} (l:List α) (n m:Nat) (h:n≤m) (hm:m≤l.length):sub l (n:Int) (m:Int)=some ((l.drop n).take (m - n)):=by
 unfold sub
 rw [if_pos (by omega)]
 simp
theorem Zx8 {s r:List UInt8} {t:Z0i} (h:rd s=some (t,r)):Z6s t=true∧s=fmt t++r∧r.length<s.length∧t.Z0e.length≤64:=by
 have hs:=Y1u s
 unfold rd at h
 cases hd:s.drop (Z2d s) with
 | nil=>rw [hd] at h; cases h
 | cons c q=>
  rw [hd] at h hs
  dsimp only at h
  have key:∀ (nm r':List UInt8) (b:Int),chk (mkT (Z2d s) b nm) r'=some (t,r)→Z6s t=true∧t=mkT (Z2d s) b nm∧r'=r:=fun nm r' b hc=>by
   unfold chk at hc
   split at hc
   ·rename_i hv; cases hc; exact ⟨hv,rfl,rfl⟩
   ·cases hc
  split at h
  ·rename_i hc
   subst hc
   have hcut:=Zja q
   cases hq:cut q with
   | none=>rw [hq] at h; cases h
   | some x=>
    obtain ⟨nm,r'⟩:=x
    rw [hq] at h hcut
    obtain ⟨k1,k2,k3⟩:=key _ _ _ h
    subst k3
    have hf:s=fmt t++r':=by
     rw [k2]
     unfold fmt mkT
     dsimp only
     rw [if_pos rfl,show ((Z2d s:Nat):Int).toNat=Z2d s from rfl]
     have hq2:q=nm++59::r':=hcut.2.1
     conv=>lhs; rw [hs,hq2]
     simp
    refine ⟨k1,hf,?_,(Zmn k1).2.2.2⟩
    have:=(Zu5 k1).2
    have hl:=congrArg List.length hf
    rw [List.length_append] at hl; omega
  ·rename_i hc
   obtain ⟨k1,k2,k3⟩:=key _ _ _ h
   subst k3
   have hf:s=fmt t++q:=by
    rw [k2]
    unfold fmt mkT
    dsimp only
    rw [if_neg (fun e:(c.toNat:Int)=76=>hc ((i8_eq c 76).1 e))]
    rw [show ((Z2d s:Nat):Int).toNat=Z2d s from rfl,show ((c.toNat:Nat):Int).toNat=c.toNat from rfl]
    conv=>lhs; rw [hs]
    simp
   refine ⟨k1,hf,?_,(Zmn k1).2.2.2⟩
   have:=(Zu5 k1).2
   have hl:=congrArg List.length hf
   rw [List.length_append] at hl; omega
theorem Zfa {s:List UInt8} {i:Nat} {c:UInt8} (h:s[i]?=some c):Z2v s (i:Int)=some (c.toNat:Int):=by
 unfold Z2v
 rw [if_pos (by omega),Int.toNat_natCast,h]; rfl
theorem getS0 {c:UInt8} {r:List UInt8}:Z2v (c::r) 0=some (c.toNat:Int):=rfl
theorem Y7o (s:List UInt8) (hl:(s.length:Int)≤140737488355328):Z04 (Zge s) Z05 0=some (Z2d s:Int):=by
 have hle:=Zhd s
 have:∃ r,Z04 (Zge s) Z05 0=some r∧r=(Z2d s:Int):=by
  refine Zap (fun i:Int=>0≤i∧i≤Z2d s) (fun i:Int=>((s.length:Int) - i).toNat) (fun r=>r=(Z2d s:Int)) ?_ Z05 0 ⟨by omega,by omega⟩ ?_
  ·intro i ⟨i0,i1⟩
   obtain ⟨n,rfl⟩:=Int.eq_ofNat_of_zero_le i0
   unfold Zge
   by_cases hlt:n<s.length
   ·have hc:s[n]?=some s[n] :=List.getElem?_eq_getElem hlt
    rw [if_pos (by simpa using hlt),Zfa hc]
    try simp only [Option.bind_some]
    rw [show (91:Int)=((91:UInt8).toNat:Int) from rfl,Za6]
    by_cases h91:s[n]=91
    ·rw [if_pos (by simpa using h91),Zal (by omega) (by omega)]
     have hn:n≠Z2d s:=by
      intro e
      apply Zu3 s
      rw [← e,hc,h91]
     exact ⟨_,rfl,⟨by omega,by omega⟩,by omega⟩
    ·rw [if_neg (by simpa using h91)]
     refine ⟨_,rfl,?_⟩
     show (n:Int)=Z2d s
     rcases Nat.lt_or_ge n (Z2d s) with h'|h'
     ·have:=Ztg s n h'
      rw [hc] at this
      exact absurd (by simpa using this) h91
     ·omega
   ·rw [if_neg (by simpa using hlt)]
    exact ⟨_,rfl,by show (n:Int)=Z2d s; omega⟩
  ·show ((s.length:Int) - 0).toNat<18446744073709551616
   omega
 obtain ⟨r,h1,h2⟩:=this
 rw [h1,h2]
theorem index59 (s:List UInt8):Zv1 s 59=some (Lib.indexByte s 59):=rfl
theorem Zky (t:Z0i) (r:List UInt8) (hl:(t.Z0e.length:Int)≤140737488355328):∃ b,Zdt t=some b∧Z93 t=some b∧chk t r=if b=true then some (t,r) else none:=
 ⟨Z6s t,Zzv t hl,Zyv t hl,rfl⟩
theorem Zx7 (s:List UInt8) (hl:(s.length:Int)≤140737488355328):∃ v,Zht s=some v∧match rd s with
  | some (t,r)=>v=(t,r,true)
  | none=>v.2.2=false:=by
 have hle:=Zhd s
 unfold Zht rd
 rw [Y7o s hl]
 try simp only [Option.bind_some]
 rw [Zha s _ hle]
 try simp only [Option.bind_some]
 have hlen:(s.drop (Z2d s)).length≤s.length:=by rw [List.length_drop]; omega
 cases hd:s.drop (Z2d s) with
 | nil=>exact ⟨_,rfl,rfl⟩
 | cons c q=>
  rw [hd] at hlen
  simp only [List.length_cons] at hlen
  rw [if_neg (by simp),getS0]
  try simp only [Option.bind_some]
  rw [show (1:Int)=((1:Nat):Int) from rfl,Zha (c::q) 1 (by simp)]
  simp only [Option.bind_some,List.drop_succ_cons,List.drop_zero]
  rw [show (76:Int)=((76:UInt8).toNat:Int) from rfl,Za6]
  by_cases hc:c=76
  ·rw [if_pos (by simpa using hc),if_pos hc,index59]
   try simp only [Option.bind_some]
   have hcut:=Zja q
   cases hq:cut q with
   | none=>
    rw [hq] at hcut
    rw [if_pos (decide_eq_true hcut.1)]
    exact ⟨_,rfl,rfl⟩
   | some x=>
    obtain ⟨nm,r'⟩:=x
    rw [hq] at hcut
    obtain ⟨h1,h2,h3⟩:=hcut
    have hql:q.length=nm.length+1+r'.length:=by rw [h2]; simp; omega
    rw [h1,if_neg (by simp)]
    rw [show (0:Int)=((0:Nat):Int) from rfl,Y31 q 0 nm.length (by omega) (by omega)]
    try simp only [Option.bind_some]
    rw [Zal (by omega) (by omega)]
    try simp only [Option.bind_some]
    rw [show (nm.length:Int)+((1:Nat):Int)=((nm.length+1:Nat):Int) by omega,Zha q _ (by omega)]
    try simp only [Option.bind_some]
    have e1:(q.drop 0).take (nm.length - 0)=nm:=by rw [h2]; simp
    have e2:q.drop (nm.length+1)=r':=by rw [h2,List.drop_append]; simp
    rw [e1,e2,hc]
    unfold Zfo
    obtain ⟨b,k1,-,k3⟩:=Zky (mkT (Z2d s) 76 nm) r' (by show (nm.length:Int)≤_; omega)
    unfold mkT at k1
    rw [show (((76:UInt8).toNat:Nat):Int)=76 from rfl,k1]
    rw [k3]
    cases b with
    | true=>exact ⟨_,rfl,rfl⟩
    | false=>exact ⟨_,rfl,rfl⟩
  ·rw [if_neg (by simpa using hc),if_neg hc]
   unfold Zfo
   obtain ⟨b,k1,-,k3⟩:=Zky (mkT (Z2d s) (c.toNat:Int) []) q (by show (([]:List UInt8).length:Int)≤_; simp)
   unfold mkT at k1
   rw [k1]
   rw [k3]
   cases b with
   | true=>exact ⟨_,rfl,rfl⟩
   | false=>exact ⟨_,rfl,rfl⟩
def zeroT:Z0i:={ Z11:=0,Z15:=0,Z0e:=[] }
def Zrx (s:List UInt8):Z0i×Int:=match rd s with
 | some (t,[])=>(t,0)
 | _=>(zeroT,13)
theorem Ya3 (s:List UInt8) (hl:(s.length:Int)≤140737488355328):Zlg s=some (Zrx s):=by
 obtain ⟨v,h1,h2⟩:=Zx7 s hl
 unfold Zlg Zrx
 rw [h1]
 try simp only [Option.bind_some]
 cases hr:rd s with
 | none=>rw [hr] at h2; dsimp only at h2; rw [h2]; rfl
 | some x=>
  obtain ⟨t,r⟩:=x
  rw [hr] at h2
  dsimp only at h2
  subst h2
  cases r with
  | nil=>rfl
  | cons c r=>rfl
theorem Ycc (s:List UInt8) (hl:(s.length:Int)≤140737488355328) (at_:Nat) (h:at_≤s.length):Z04 (Zbg s) Z05 ((at_:Int),0)=some ((Z2d (s.drop at_):Int),((at_+Z2d (s.drop at_):Nat):Int)):=by
 have hle:=Zhd (s.drop at_)
 rw [List.length_drop] at hle
 have hget:∀ k,(s.drop at_)[k]?=s[at_+k]? :=fun k=>by rw [List.getElem?_drop]
 have : ∃ r, Z04 (Zbg s) Z05 ((at_:Int),0)=some r∧r=((Z2d (s.drop at_):Int),((at_+Z2d (s.drop at_):Nat):Int)):=by
  refine Zap (fun p=>∃ k:Nat,k≤Z2d (s.drop at_)∧p=(((at_+k:Nat):Int),(k:Int))) (fun p=>((s.length:Int) - p.1).toNat) (fun r=>r=((Z2d (s.drop at_):Int),((at_+Z2d (s.drop at_):Nat):Int))) ?_ Z05 _ ⟨0,by omega,by simp⟩ ?_
  ·rintro p ⟨k,hk,rfl⟩
   unfold Zbg
   dsimp only
   by_cases hlt:at_+k<s.length
   ·have hc:s[at_+k]?=some s[at_+k] :=List.getElem?_eq_getElem hlt
    rw [if_pos (decide_eq_true (by omega)),Zfa hc]
    try simp only [Option.bind_some]
    rw [show (91:Int)=((91:UInt8).toNat:Int) from rfl,Za6]
    by_cases h91:s[at_+k]=91
    ·rw [if_pos (by simpa using h91)]
     unfold Zi6
     dsimp only
     rw [Zal (by omega) (by omega)]
     try simp only [Option.bind_some]
     rw [Zal (by omega) (by omega)]
     try simp only [Option.bind_some]
     have hn:k≠Z2d (s.drop at_):=by
      intro e
      apply Zu3 (s.drop at_)
      rw [← e,hget,hc,h91]
     exact ⟨_,rfl,⟨k+1,by omega,by simp; omega⟩,by dsimp only; omega⟩
    ·rw [if_neg (by simpa using h91)]
     refine ⟨_,rfl,?_⟩
     have hn:k=Z2d (s.drop at_):=by
      rcases Nat.lt_or_ge k (Z2d (s.drop at_)) with h'|h'
      ·have:=Ztg _ k h'
       rw [hget,hc] at this
       exact absurd (by simpa using this) h91
      ·omega
     show ((k:Int),((at_+k:Nat):Int))=_
     rw [← hn]
   ·rw [if_neg (by simp; omega)]
    refine ⟨_,rfl,?_⟩
    show ((k:Int),((at_+k:Nat):Int))=_
    rw [show k=Z2d (s.drop at_) by omega]
  ·show ((s.length:Int) - (at_:Int)).toNat<18446744073709551616
   omega
 obtain ⟨r,h1,h2⟩:=this
 rw [h1,h2]
theorem Ya1 (s:List UInt8) (hl:(s.length:Int)≤140737488355328) (at_:Nat) (h:at_≤s.length):Z04 (Zbj s) Z05 (at_:Int)=some (match cut (s.drop at_) with
  | some (a,_)=>((at_+a.length:Nat):Int)
  | none=>(s.length:Int)):=by
 have hcut:=Zja (s.drop at_)
 have hlen:(s.drop at_).length=s.length - at_:=List.length_drop
 have hget:∀ k,(s.drop at_)[k]?=s[at_+k]? :=fun k=>by rw [List.getElem?_drop]
 -- how far it goes
 obtain ⟨m,hm,hno,hend⟩:∃ m:Nat,(match cut (s.drop at_) with
   | some (a,_)=>((at_+a.length:Nat):Int)
   | none=>(s.length:Int))=((at_+m:Nat):Int)∧(∀ k,k<m→∃ c,s[at_+k]?=some c∧c≠59)∧(at_+m=s.length∨s[at_+m]?=some 59):=by
  cases hq:cut (s.drop at_) with
  | none=>
   rw [hq] at hcut
   refine ⟨s.length - at_,by dsimp only; omega,fun k hk=>?_,.inl (by omega)⟩
   have hlt:at_+k<s.length:=by omega
   refine ⟨s[at_+k],List.getElem?_eq_getElem hlt,fun e=>hcut.2 ?_⟩
   have:(s.drop at_)[k]?=some 59:=by rw [hget,List.getElem?_eq_getElem hlt,e]
   exact List.mem_of_getElem? this
  | some x=>
   obtain ⟨a,b⟩:=x
   rw [hq] at hcut
   obtain ⟨-,h2,h3⟩:=hcut
   refine ⟨a.length,rfl,fun k hk=>?_,.inr ?_⟩
   ·have:(s.drop at_)[k]?=some a[k] :=by rw [h2,List.getElem?_append_left hk,List.getElem?_eq_getElem hk]
    rw [hget] at this
    exact ⟨_,this,fun e=>h3 (e ▸ List.getElem_mem hk)⟩
   ·rw [← hget,h2,List.getElem?_append_right (Nat.le_refl _)]; simp
 rw [hm]
 have hms:at_+m≤s.length:=by
  rcases hend with h'|h'
  ·omega
  ·rcases Nat.lt_or_ge (at_+m) s.length with h2|h2
   ·omega
   ·rw [List.getElem?_eq_none h2] at h'; cases h'
 have:∃ r,Z04 (Zbj s) Z05 (at_:Int)=some r∧r=((at_+m:Nat):Int):=by
  refine Zap (fun p=>∃ k:Nat,k≤m∧p=((at_+k:Nat):Int)) (fun p=>((s.length:Int) - p).toNat) (fun r=>r=((at_+m:Nat):Int)) ?_ Z05 _ ⟨0,by omega,by simp⟩ ?_
  ·rintro p ⟨k,hk,rfl⟩
   unfold Zbj
   by_cases hkm:k<m
   ·obtain ⟨c,hc,hne⟩:=hno k hkm
    rw [if_pos (decide_eq_true (by omega)),Zfa hc]
    try simp only [Option.bind_some]
    rw [show (59:Int)=((59:UInt8).toNat:Int) from rfl,bne,Za6]
    rw [if_pos (by simpa using hne),Zal (by omega) (by omega)]
    exact ⟨_,rfl,⟨k+1,by omega,by simp; omega⟩,by omega⟩
   ·obtain rfl:k=m:=by omega
    rcases hend with h'|h'
    ·rw [if_neg (by simp; omega)]
     exact ⟨_,rfl,rfl⟩
    ·have hlt:at_+k<s.length:=by
      rcases Nat.lt_or_ge (at_+k) s.length with h2|h2
      ·exact h2
      ·rw [List.getElem?_eq_none h2] at h'; cases h'
     rw [if_pos (decide_eq_true (by omega)),Zfa h']
     try simp only [Option.bind_some]
     rw [show (59:Int)=((59:UInt8).toNat:Int) from rfl,bne,Za6]
     exact ⟨_,rfl,rfl⟩
  ·show ((s.length:Int) - (at_:Int)).toNat<18446744073709551616
   omega
 obtain ⟨r,h1,h2⟩:=this
 rw [h1,h2]
theorem Y51 (s:List UInt8) (hl:(s.length:Int)≤140737488355328) (at_:Nat) (h:at_≤s.length):Z8i s (at_:Int)=some (match rd (s.drop at_) with
  | some (t,r)=>(t,((s.length - r.length:Nat):Int))
  | none=>(zeroT,-1)):=by
 have hle:=Zhd (s.drop at_)
 rw [List.length_drop] at hle
 unfold Z8i rd
 rw [Ycc s hl at_ h]
 try simp only [Option.bind_some]
 have hdd:(s.drop at_).drop (Z2d (s.drop at_))=s.drop (at_+Z2d (s.drop at_)):=by rw [List.drop_drop]
 rw [hdd]
 generalize hk:at_+Z2d (s.drop at_)=k
 have hks:k≤s.length:=by omega
 cases hd:s.drop k with
 | nil=>
  have:s.length≤k:=by simpa using hd
  rw [if_pos (decide_eq_true (by omega))]; rfl
 | cons c q=>
  have hlt:k<s.length:=by
   rcases Nat.lt_or_ge k s.length with h'|h'
   ·exact h'
   ·rw [List.drop_eq_nil_of_le h'] at hd; cases hd
  have hc:s[k]?=some c:=by
   have:=congrArg (fun l=>l[0]?) hd
   simpa using this
  have hq:s.drop (k+1)=q:=by
   have:=congrArg List.tail hd
   simpa [List.tail_drop] using this
  have hql:q.length=s.length - (k+1):=by rw [← hq,List.length_drop]
  rw [if_neg (by simp; omega),Zfa hc]
  try simp only [Option.bind_some]
  rw [Zal (by omega) (by omega)]
  try simp only [Option.bind_some]
  rw [show (76:Int)=((76:UInt8).toNat:Int) from rfl,Za6,show (k:Int)+1=((k+1:Nat):Int) by omega]
  by_cases h76:c=76
  ·rw [if_pos (by simpa using h76),if_pos h76,Ya1 s hl (k+1) (by omega),hq]
   try simp only [Option.bind_some]
   have hcut:=Zja q
   cases hcq:cut q with
   | none=>rw [if_pos (decide_eq_true (by simp))]; rfl
   | some x=>
    obtain ⟨nm,r'⟩:=x
    rw [hcq] at hcut
    obtain ⟨-,e2,e3⟩:=hcut
    have hl2:q.length=nm.length+1+r'.length:=by rw [e2]; simp; omega
    rw [if_neg (by simp; omega),Y31 s (k+1) (k+1+nm.length) (by omega) (by omega)]
    try simp only [Option.bind_some]
    rw [Zal (by omega) (by omega)]
    try simp only [Option.bind_some]
    have e4:(s.drop (k+1)).take (k+1+nm.length - (k+1))=nm:=by
     rw [hq,show k+1+nm.length - (k+1)=nm.length by omega,e2]; simp
    rw [e4,h76]
    unfold Z9i
    obtain ⟨b,-,k2,k3⟩:=Zky (mkT (Z2d (s.drop at_)) 76 nm) r' (by show (nm.length:Int)≤_; omega)
    unfold mkT at k2
    dsimp only
    rw [show (((76:UInt8).toNat:Nat):Int)=76 from rfl,k2,k3]
    cases b with
    | false=>rfl
    | true=>
     simp only [Option.bind_some,Bool.not_true,Bool.false_eq_true,if_false,if_true,Option.some.injEq,Prod.mk.injEq]
     exact ⟨rfl,by omega⟩
  ·rw [if_neg (by simpa using h76),if_neg h76]
   unfold Z9i
   obtain ⟨b,-,k2,k3⟩:=Zky (mkT (Z2d (s.drop at_)) (c.toNat:Int) []) q (by show (([]:List UInt8).length:Int)≤_; simp)
   unfold mkT at k2
   dsimp only
   rw [k2,k3]
   cases b with
   | false=>rfl
   | true=>
    simp only [Option.bind_some,Bool.not_true,Bool.false_eq_true,if_false,if_true,Option.some.injEq,Prod.mk.injEq]
    exact ⟨rfl,by omega⟩
def okP1 (t:Z0i):Bool:=Z6s t&&t.Z15 !=86
theorem Y1j {T T' R R':Type} {f:T→Option (Ctl T R)} {f':T'→Option (Ctl T' R')} (I:T→T'→Prop) (μ:T→Nat) (Post:R→R'→Prop)
  (step:∀ t t',I t t'→∃ x x',f t=some x∧f' t'=some x'∧match x,x' with
   | .next a,.next b=>I a b∧μ a<μ t
   | .done a,.done b=>Post a b
   | _,_=>False):∀ (n:Nat) (t:T) (t':T'),I t t'→μ t<n→∃ r r',Z04 f n t=some r∧Z04 f' n t'=some r'∧Post r r'
 | 0,t,t',_,h=>absurd h (Nat.not_lt_zero _)
 | n + 1,t,t',hI,h=>by
  obtain ⟨x,x',hx,hx',hp⟩:=step t t' hI
  cases x with
  | next a=>
   cases x' with
   | next b=>
    obtain ⟨r,r',h1,h2,h3⟩:=Y1j I μ Post step n a b hp.1 (by have:=hp.2; omega)
    exact ⟨r,r',by rw [Z04,hx]; exact h1,by rw [Z04,hx']; exact h2,h3⟩
   | done b=>exact absurd hp id
  | done a=>
   cases x' with
   | next b=>exact absurd hp id
   | done b=>exact ⟨a,b,by rw [Z04,hx],by rw [Z04,hx'],hp⟩
def zeroG:Z26:={ Z3b:=[],Z3h:=zeroT }
theorem Y9k (s:List UInt8) (hl:s.length≤2000000) (h1:1≤s.length):∃ r r',Z04 Zno Z05 (s.drop 1,[])=some r∧Z04 (Zgv s) Z05 (1,[])=some r'∧match r,r' with
  | .inl a,.inl b=>a.1=b.1∧a.1.all okP1=true∧a.1.length≤2000000∧(∃ k:Nat,b.2=(k:Int)∧k≤s.length∧a.2=s.drop k)∧a.1.flatMap fmt++a.2=s.drop 1∧(a.2=[]∨∃ q,a.2=41::q)
  | .inr a,.inr b=>a=(zeroG,13)∧b=(zeroG,13)
  | _,_=>False:=by
 refine Y1j (fun p p'=>p.2=p'.2∧p.2.all okP1=true∧(∃ k:Nat,p'.1=(k:Int)∧k≤s.length∧p.1=s.drop k∧p.2.length≤k)∧p.2.flatMap fmt++p.1=s.drop 1) (fun p=>p.1.length) _ ?_ Z05 _ _
  ⟨rfl,by simp,⟨1,rfl,h1,rfl,by simp⟩,by simp⟩ ?_
 ·rintro ⟨s',acc⟩ ⟨at_,acc'⟩ ⟨e1,hok,⟨k,e2,hk,e3,hac⟩,hcat⟩
  dsimp only at e1 e2 e3 hok hac hcat
  subst e1 e2 e3
  unfold Zno Zgv
  dsimp only
  cases hd:s.drop k with
  | nil=>
   have:s.length≤k:=by simpa using hd
   rw [if_neg (by simp),if_neg (by simp; omega)]
   refine ⟨_,_,rfl,rfl,?_⟩
   exact ⟨rfl,hok,by show acc.length≤2000000; omega,⟨k,rfl,hk,hd.symm⟩,by rw [← hd]; exact hcat,.inl rfl⟩
  | cons c q=>
   have hlt:k<s.length:=by
    rcases Nat.lt_or_ge k s.length with h'|h'
    ·exact h'
    ·rw [List.drop_eq_nil_of_le h'] at hd; cases hd
   have hc:s[k]?=some c:=by
    have:=congrArg (fun l=>l[0]?) hd
    simpa using this
   rw [if_pos (by simp),if_pos (decide_eq_true (by omega)),getS0,Zfa hc]
   simp only [Option.bind_some]
   rw [show (41:Int)=((41:UInt8).toNat:Int) from rfl,bne,Za6]
   by_cases h41:c=41
   ·rw [if_neg (by simpa using h41),if_neg (by simpa using h41)]
    refine ⟨_,_,rfl,rfl,?_⟩
    exact ⟨rfl,hok,by show acc.length≤2000000; omega,⟨k,rfl,hk,hd.symm⟩,by rw [← hd]; exact hcat,.inr ⟨q,by rw [h41]⟩⟩
   ·rw [if_pos (by simpa using h41),if_pos (by simpa using h41)]
    unfold j78x2 Zl0
    dsimp only
    rw [← hd]
    obtain ⟨v,hv,hrd⟩:=Zx7 (s.drop k) (by rw [List.length_drop]; omega)
    rw [hv,Y51 s (by omega) k hk]
    simp only [Option.bind_some]
    cases hr:rd (s.drop k) with
    | none=>
     rw [hr] at hrd
     dsimp only at hrd ⊢
     rw [hrd]
     exact ⟨_,_,rfl,rfl,rfl,rfl⟩
    | some x=>
     obtain ⟨t,r⟩:=x
     rw [hr] at hrd
     dsimp only at hrd ⊢
     subst hrd
     obtain ⟨g1,g2,g3,g4⟩:=Zx8 hr
     dsimp only
     rw [if_neg (show ¬ ((!true)=true) by decide),if_neg (show ¬ (decide (((s.length - r.length:Nat):Int)<0)=true) by simp)]
     by_cases h86:t.Z15=86
     ·rw [if_pos (by simpa using h86),if_pos (by simpa using h86)]
      exact ⟨_,_,rfl,rfl,rfl,rfl⟩
     ·rw [if_neg (by simpa using h86),if_neg (by simpa using h86)]
      unfold j78x3 Zoi
      dsimp only
      have hrl:r.length<s.length - k:=by rw [← List.length_drop]; exact g3
      rw [Za3 32 (by simp; omega) (by omega)]
      simp only [Option.bind_some]
      refine ⟨_,_,rfl,rfl,⟨rfl,?_,⟨s.length - r.length,rfl,by omega,?_,?_⟩,?_⟩,g3⟩
      ·rw [List.all_append,hok]
       show (true&&([t].all okP1))=true
       simp [okP1,g1,h86]
      ·dsimp only
       have hf:=(Zu5 g1).2
       have e5:s.drop k=fmt t++r:=g2
       have e6:(fmt t).length+r.length=s.length - k:=by rw [← List.length_append,← e5,List.length_drop]
       have e7:s.drop (s.length - r.length)=(s.drop k).drop (fmt t).length:=by rw [List.drop_drop]; congr 1; omega
       rw [e7,e5,List.drop_left]
      ·dsimp only
       rw [List.length_append]
       simp only [List.length_singleton]
       omega
      ·dsimp only
       rw [List.flatMap_append,List.append_assoc]
       show List.flatMap fmt acc++([t].flatMap fmt++r)=_
       rw [show [t].flatMap fmt=fmt t by simp,← g2]; exact hcat
 ·show (s.drop 1).length<18446744073709551616
  rw [List.length_drop]; omega
theorem Y4a (s:List UInt8) (hl:s.length≤2000000):∃ v,Zm3 s=some v∧Z5m s=some v∧(v.2=0→Z6s v.1.Z3h=true∧∃ q,s=40::q)∧v.1.Z3b.all okP1=true∧v.1.Z3b.length≤16:=by
 unfold Zm3 Z5m
 cases s with
 | nil=>exact ⟨_,rfl,rfl,(fun h=>absurd h (by decide)),rfl,by decide⟩
 | cons c q=>
  rw [if_neg (by simp),if_neg (by simp),getS0]
  simp only [Option.bind_some]
  rw [show (40:Int)=((40:UInt8).toNat:Int) from rfl,bne,Za6]
  by_cases h40:c=40
  ·rw [if_neg (by simpa using h40),if_neg (by simpa using h40)]
   unfold j78x1 Zo5
   obtain ⟨r,r',h1,h2,h3⟩:=Y9k (c::q) hl (by simp)
   rw [show sub (c::q) 1 ((c::q).length:Int)=some ((c::q).drop 1) from Zha (c::q) 1 (by simp),h2]
   simp only [Option.bind_some]
   rw [h1]
   simp only [Option.bind_some]
   cases r with
   | inr a=>
    cases r' with
    | inl b=>exact absurd h3 id
    | inr b=>
     dsimp only at h3 ⊢
     obtain ⟨rfl,rfl⟩:=h3
     exact ⟨_,rfl,rfl,(fun h=>absurd h (by decide)),rfl,by decide⟩
   | inl a =>
    cases r' with
    | inr b=>exact absurd h3 id
    | inl b =>
     obtain ⟨acc,s'⟩:=a
     obtain ⟨acc',at_⟩:=b
     dsimp only at h3 ⊢
     obtain ⟨e1,hok,hacc,⟨k,e2,hk,e3⟩,hcat,hend⟩:=h3
     have hlc:(c::q).length=q.length+1:=List.length_cons
     subst e1 e2
     rcases hend with hnil|⟨q',hq'⟩
     ·subst hnil
      have:(c::q).length≤k:=by
       have:=congrArg List.length e3
       rw [List.length_drop] at this
       simp only [List.length_nil] at this
       omega
      rw [if_pos (by simp),if_pos (decide_eq_true (by omega))]
      exact ⟨_,rfl,rfl,(fun h=>absurd h (by decide)),rfl,by decide⟩
     ·have hlen:q'.length+1=(c::q).length - k:=by
       have:=congrArg List.length e3
       rw [List.length_drop,hq'] at this
       simpa using this
      have hdrop:(c::q).drop (k+1)=q':=by
       rw [← List.drop_drop,← e3,hq']; rfl
      rw [hq',if_neg (by simp),if_neg (by simp; omega)]
      rw [show sub (41::q') 1 ((41::q').length:Int)=some ((41::q').drop 1) from Zha (41::q') 1 (by simp)]
      simp only [Option.bind_some]
      rw [Zal (by omega) (by omega)]
      simp only [Option.bind_some,List.drop_succ_cons,List.drop_zero]
      rw [Ya3 q' (by omega),show (k:Int)+1=((k+1:Nat):Int) by omega,Y51 (c::q) (by omega) (k+1) (by omega),hdrop]
      simp only [Option.bind_some]
      unfold Zrx
      cases hr:rd q' with
      | none=>
       dsimp only
       rw [if_pos (by decide),if_pos (by simp <;> omega)]
       exact ⟨_,rfl,rfl,(fun h=>absurd h (by decide)),rfl,by decide⟩
      | some x=>
       obtain ⟨t,r⟩:=x
       obtain ⟨g1,g2,g3,g4⟩:=Zx8 hr
       cases r with
       | cons c2 r2=>
        have hne:(((c::q).length - (c2::r2).length:Nat):Int)≠((c::q).length:Int):=by
         simp only [List.length_cons] at g3 hlen ⊢; omega
        dsimp only
        rw [if_pos (by decide),if_pos (bne_iff_ne.2 hne)]
        exact ⟨_,rfl,rfl,(fun h=>absurd h (by decide)),rfl,by decide⟩
       | nil=>
        dsimp only
        rw [if_neg (show ¬ (((0:Int)!=0)=true) by decide),if_neg (show ¬ ((((c::q).length - ([]:List UInt8).length:Nat):Int)!=((c::q).length:Int))=true by simp)]
        by_cases h16:(acc.length:Int)>16
        ·rw [if_pos (decide_eq_true h16)]
         exact ⟨_,rfl,rfl,(fun h=>absurd h (by decide)),rfl,by decide⟩
        ·rw [if_neg (by simpa using h16)]
         exact ⟨_,rfl,rfl,(fun _=>⟨g1,q,by rw [h40]⟩),hok,by dsimp only; omega⟩
  ·rw [if_pos (by simpa using h40),if_pos (by simpa using h40)]
   exact ⟨_,rfl,rfl,(fun h=>absurd h (by decide)),rfl,by decide⟩
end Go.Proofs
namespace Go.Proofs
open Go.Den Go.Tot
def Im {α:Type} (o:Option α) (P:α→Prop):Prop:=∀ r,o=some r→P r
namespace I
variable {α β:Type} {P:α→Prop} {Q:β→Prop}
theorem ok {x:α} (h:P x):Im (some x) P:=fun r e=>by cases e; exact h
theorem bd {o:Option α} {f:α→Option β} (h:Im o P) (k:∀ x,P x→Im (f x) Q):Im (o.bind f) Q:=fun r e=>by
 obtain ⟨x,e1,e2⟩:=Option.bind_eq_some_iff.1 e
 exact k x (h x e1) r e2
theorem sk {o:Option α} {f:α→Option β} (k:∀ x,o=some x→Im (f x) Q):Im (o.bind f) Q:=fun r e=>by
 obtain ⟨x,e1,e2⟩:=Option.bind_eq_some_iff.1 e
 exact k x e1 r e2
theorem br {b:Bool} {x y:Option α} (T:b=true→Im x P) (F:b=false→Im y P):Im (if b=true then x else y) P:=by
 cases b with
 | true=>exact T rfl
 | false=>exact F rfl
theorem mono {P':α→Prop} {o:Option α} (h:Im o P) (k:∀ x,P x→P' x):Im o P':=fun r e=>k r (h r e)
def Ct {T R:Type} (I:T→Prop) (Q:R→Prop):Ctl T R→Prop
 | .next t=>I t
 | .done r=>Q r
theorem nx {T R:Type} {I:T→Prop} {Q:R→Prop} {t:T} (h:I t):Im (some (Ctl.next t:Ctl T R)) (Ct I Q):=ok h
theorem dn {T R:Type} {I:T→Prop} {Q:R→Prop} {r:R} (h:Q r):Im (some (Ctl.done r:Ctl T R)) (Ct I Q):=ok h
theorem lp {T R:Type} {f:T→Option (Ctl T R)} (I:T→Prop) {Q:R→Prop} (h:∀ t,I t→Im (f t) (Ct I Q)):∀ {n:Nat} {t:T},I t→Im (Z04 f n t) Q
 | 0,t,_,r,e=>by cases e
 | n + 1,t,ht,r,e=>by
  unfold Z04 at e
  have:=h t ht
  split at e
  ·rename_i s' hs
   exact lp I h (this _ hs) r e
  ·rename_i r' hs
   cases e
   exact this _ hs
  ·cases e
end I
theorem Z4f {α:Type} {l:List α} {i:Int} {v:α} (h:Z01 l i=some v):v∈l∧0≤i∧l[i.toNat]?=some v:=by
 unfold Z01 at h
 split at h
 ·exact ⟨List.mem_of_getElem? h,by assumption,h⟩
 ·cases h
def Sb (P Q:List Z00):Prop:=P <+: Q
theorem Sb.refl (P:List Z00):Sb P P:=List.prefix_refl P
theorem Sb.trans {P Q R:List Z00} (h:Sb P Q) (k:Sb Q R):Sb P R:=List.IsPrefix.trans h k
def At1 (s:List UInt8) (P:List Z00) (i:Int):Prop:=P.length≤1000→∃ c,1≤i∧P[i.toNat - 1]?=some c∧c.Z2g=1∧c.f_S=s
theorem At1.mono {s:List UInt8} {P Q:List Z00} {i:Int} (h:At1 s P i) (k:Sb P Q):At1 s Q i:=fun hq=>by
 obtain ⟨r,rfl⟩:=k
 obtain ⟨c,h1,h2,h3⟩:=h (by rw [List.length_append] at hq; omega)
 exact ⟨c,h1,by rw [List.getElem?_append_left (List.getElem?_eq_some_iff.1 h2).1]; exact h2,h3⟩
theorem Zie (P:List Z00) (c:Z00):Im (Z7h P c) (fun r=>Sb P r.1∧(r.2.2=0→r.1.length≤1000→1≤r.2.1∧r.1[r.2.1.toNat - 1]?=some c)):=by
 unfold Z7h
 refine I.bd (I.lp (fun _=>True) (Q:=fun q=>match q with|.inl _=>True|.inr r=>Sb P r.1∧(r.1.length≤1000→1≤r.2.1∧r.1[r.2.1.toNat - 1]?=some c)) (fun t _=>?_) trivial) fun q hq=>?_
 ·unfold Zi1
  refine I.br (fun _=>I.sk fun v e=>I.br (fun h=>I.sk fun k hk=>I.dn ⟨Sb.refl _,fun hl=>?_⟩) fun _=>I.sk fun _ _=>I.nx trivial) fun _=>I.dn trivial
  have:v=c:=by
   unfold Zw5 at h
   simp only [Bool.and_eq_true,beq_iff_eq,and_true] at h
   obtain ⟨a1,a2,a3,a4,a5⟩:=h
   cases v; cases c; simp_all
  subst this
  obtain ⟨_,h0,hx⟩:=Z4f e
  have hlt:=(List.getElem?_eq_some_iff.1 hx).1
  dsimp only at hl
  rw [Z46 (n:=t+1) (by omega) (by omega)] at hk
  cases hk
  exact ⟨by dsimp only; omega,by dsimp only; rw [show (t+1).toNat - 1=t.toNat by omega]; exact hx⟩
 ·cases q with
  | inr r=>exact I.ok ⟨hq.1,fun _=>hq.2⟩
  | inl _=>
   refine I.br (fun _=>I.ok ⟨Sb.refl _,fun h=>by cases h⟩) fun hlt=>I.sk fun k hk=>I.sk fun _ _=>I.sk fun _ _=>I.ok ⟨⟨[c],by simp⟩,fun _ hl=>?_⟩
   have:=of_decide_eq_false hlt
   rw [Z46 (n:=(P.length:Int)+1) (by omega) (by omega)] at hk
   cases hk
   exact ⟨by dsimp only; omega,by dsimp only; rw [show ((P.length:Int)+1).toNat - 1=P.length by omega]; simp⟩
theorem Ziz (P:List Z00) (s:List UInt8):Im (Z7m P s) (fun r=>Sb P r.1∧(r.2.2=0→At1 s r.1 r.2.1)):=by
 unfold Z7m
 exact I.bd (Zie _ _) fun v h=>I.ok ⟨h.1,fun e hl=>⟨_,(h.2 e hl).1,(h.2 e hl).2,rfl,rfl⟩⟩
theorem i_Add' (P:List Z00) (c:Z00):Im (Z7h P c) (fun r=>Sb P r.1):=I.mono (Zie P c) fun _ h=>h.1
theorem i_UTF8' (P:List Z00) (s:List UInt8):Im (Z7m P s) (fun r=>Sb P r.1):=I.mono (Ziz P s) fun _ h=>h.1
theorem Zya (P:List Z00) (t:Int) (s:List UInt8):Im (Zbz P t s) (fun r=>Sb P r.1):=by
 unfold Zbz
 exact I.bd (Ziz _ _) fun v h=>I.br (fun _=>I.ok (Sb.refl _)) fun _=>I.bd (Zie _ _) fun v' h'=>I.br (fun _=>I.ok (Sb.refl _)) fun _=>I.ok (h.1.trans h'.1)
theorem Zs8 (P:List Z00) (s:List UInt8):Im (Za7 P s) (fun r=>Sb P r.1):=by
 unfold Za7
 exact I.bd (Zya _ _ _) fun v h=>I.ok h
theorem Y8f (P:List Z00) (s:List UInt8):Im (Zbw P s) (fun r=>Sb P r.1):=by
 unfold Zbw
 exact I.bd (Zya _ _ _) fun v h=>I.ok h
theorem Y78 (P:List Z00) (t:Int) (x:Z20):Im (Zbb P t x) (fun r=>Sb P r.1):=by
 unfold Zbb
 exact I.bd (Zs8 _ _) fun v h=>I.br (fun _=>I.ok (Sb.refl _)) fun _=>I.bd (Ziz _ _) fun v1 h1=>I.br (fun _=>I.ok (Sb.refl _)) fun _=>I.bd (Ziz _ _) fun v2 h2=>I.br (fun _=>I.ok (Sb.refl _)) fun _=>
  I.bd (Zie _ _) fun v3 h3=>I.br (fun _=>I.ok (Sb.refl _)) fun _=>I.bd (Zie _ _) fun v4 h4=>I.br (fun _=>I.ok (Sb.refl _)) fun _=>I.ok ((((h.trans h1.1).trans h2.1).trans h3.1).trans h4.1)
theorem i_place (P:List Z00) (x:Z02):Im (Zd7 P x) (fun r=>Sb P r.1):=by
 unfold Zd7 Ziv Zoy Zh8 Znm
 repeat' first
  | refine I.br (fun _=>?_) fun _=>?_
  | refine I.bd (Y78 _ _ _) fun _ _=>?_
  | refine I.bd (Y8f _ _) fun _ _=>?_
  | refine I.bd (Zs8 _ _) fun _ _=>?_
  | refine I.bd (i_UTF8' _ _) fun _ _=>?_
  | refine I.bd (i_Add' _ _) fun _ _=>?_
  | refine I.sk fun _ _=>?_
  | refine I.ok ?_
  | assumption
  | exact Sb.refl _
theorem i_raw (P:List Z00) (x:Z02):Im (Zdp P x) (fun r=>Sb P r.1):=by
 unfold Zdp Zif Zdc
 repeat' first
  | refine I.br (fun _=>?_) fun _=>?_
  | refine I.bd (i_place _ _) fun _ _=>?_
  | refine I.sk fun _ _=>?_
  | refine I.ok ?_
  | assumption
  | exact Sb.refl _
def Gr (p:Z0p) (P:List Z00) (E:Int):Prop:=(E=0→p.f_E=0)∧Sb p.f_P P
theorem Gr.refl (p:Z0p):Gr p p.f_P p.f_E:=⟨fun h=>h,Sb.refl _⟩
theorem Gr.trans {p:Z0p} {P Q:List Z00} {E F:Int} (h:Gr p P E) (k:Gr { f_P:=P,f_E:=E } Q F):Gr p Q F:=⟨fun e=>h.1 (k.1 e),h.2.trans k.2⟩
theorem Zbk (p:Z0p) (s:List UInt8):Im (Z6a p s) (fun r=>Gr p r.1.f_P r.1.f_E∧(r.1.f_E=0→At1 s r.1.f_P r.2)):=by
 unfold Z6a
 exact I.br (fun h=>I.ok ⟨Gr.refl p,fun e=>absurd e (by simpa using h)⟩) fun h=>I.bd (Ziz _ _) fun v hv=>I.ok ⟨⟨fun _=>by simpa using h,hv.1⟩,hv.2⟩
theorem Zyx (p:Z0p) (s:List UInt8):Im (Z8j p s) (fun r=>Gr p r.1.f_P r.1.f_E):=by
 unfold Z8j
 exact I.br (fun h=>I.ok (Gr.refl p)) fun h=>I.bd (Zs8 _ _) fun v hv=>I.ok ⟨fun _=>by simpa using h,hv⟩
theorem i_insn (p:Z0p) (x:Z02):Im (Zdm p x) (fun r=>Gr p r.1.f_P r.1.f_E):=by
 unfold Zdm
 exact I.br (fun h=>I.ok (Gr.refl p)) fun h=>I.bd (i_raw _ _) fun v hv=>I.ok ⟨fun _=>by simpa using h,hv⟩
theorem i_vts (p:Z0p) (l:List Z0l):Im (Zbm p l) (fun r=>Gr p r.1.f_P r.1.f_E):=by
 unfold Zbm
 refine I.bd (I.lp (fun t=>Gr p t.2.1 t.2.2.1) (Q:=fun q=>Gr p q.1 q.2.1) (fun t ht=>?_) (Gr.refl p)) fun q hq=>I.ok hq
 have h1:t.2.2.1=0→∀ v,Im (Zci t v) (I.Ct (fun t=>Gr p t.2.1 t.2.2.1) fun q=>Gr p q.1 q.2.1):=fun h0 v=>by
  unfold Zci Z8g
  exact I.sk fun _ _=>I.bd (Zbk _ _) fun w hw=>I.sk fun _ _=>I.sk fun _ _=>I.nx ⟨fun _=>ht.1 h0,ht.2.trans hw.1.2⟩
 have h2:∀ v a b c d,Im (Z8g t v t.2.1 t.2.2.1 a b c d) (I.Ct (fun t=>Gr p t.2.1 t.2.2.1) fun q=>Gr p q.1 q.2.1):=fun v a b c d=>by
  unfold Z8g
  exact I.sk fun _ _=>I.sk fun _ _=>I.nx ht
 unfold Zj1
 repeat' first
  | refine I.br (fun _=>?_) fun _=>?_
  | exact h2 _ _ _ _ _
  | exact h1 (by simpa using ‹(t.2.2.1==0)=true›) _
  | exact I.dn ht
  | refine I.sk fun _ _=>?_
theorem i_code (p:Z0p) (c:Z09) (hc:c.Z0k.length≤140737488355328):Im (Zdy p c) (fun r=>Gr p r.1.f_P r.1.f_E∧r.2.Z0c=c.Z0c∧r.2.Z0k.length=c.Z0k.length∧r.2.Z0m=c.Z0m):=by
 unfold Zdy
 refine I.bd (I.lp (fun t:Int×(List Z00)×Int×(List Z02)=>Gr p t.2.1 t.2.2.1∧0≤t.1∧t.1≤(c.Z0k.length:Int)∧(t.2.2.2.length:Int)=t.1) (Q:=fun q=>Gr p q.1 q.2.1∧q.2.2.length=c.Z0k.length) (fun t ht=>?_) ⟨Gr.refl p,by dsimp only; omega,by dsimp only; omega,rfl⟩) fun q0 h0=>I.bd (I.lp (fun t=>Gr p t.2.1 t.2.2.1) (Q:=fun q=>Gr p q.1 q.2.1) (fun t ht=>?_) h0.1) fun q2 h2=>
  I.bd (I.lp (fun t=>Gr p t.2.1 t.2.2.1) (Q:=fun q=>Gr p q.1 q.2.1) (fun t ht=>?_) h2) fun q4 h4=>I.ok ⟨h4,rfl,h0.2,rfl⟩
 ·unfold Zfs
  refine I.br (fun hlt=>I.sk fun _ _=>I.bd (i_insn _ _) fun v hv=>I.sk fun _ _=>I.sk fun k hk=>?_) fun hge=>I.dn ⟨ht.1,by have:=of_decide_eq_false hge; have:=ht.2; dsimp only; omega⟩
  have:=of_decide_eq_true hlt
  rw [Z46 (n:=t.1+1) (by omega) (by omega)] at hk
  cases hk
  exact I.nx ⟨ht.1.trans hv,by dsimp only; omega,by dsimp only; omega,by have:=ht.2.2.2; simp only [List.length_append,List.length_cons,List.length_nil]; omega⟩
 ·unfold Zhe Zh7
  exact I.br (fun _=>I.sk fun _ _=>I.br (fun _=>I.bd (Zyx _ _) fun v hv=>I.sk fun _ _=>I.sk fun _ _=>I.nx (ht.trans hv)) fun _=>I.sk fun _ _=>I.sk fun _ _=>I.nx ht) fun _=>I.dn ht
 ·unfold Zh5
  exact I.br (fun _=>I.sk fun _ _=>I.sk fun _ _=>I.bd (i_vts _ _) fun v hv=>I.bd (i_vts _ _) fun w hw=>I.sk fun _ _=>I.sk fun _ _=>I.nx ((ht.trans hv).trans hw)) fun _=>I.dn ht
structure MM (m:Z1r) (P:List Z00) (f:Z0h) (c:Z09) (a:Z24):Prop where
 fl:f.Z0o=m.Z0o
 ds:At1 m.Z1p P f.Z1p
 cd:m.Z3y=true→At1 [67,111,100,101] P a.a0∧c.Z0c=m.Z13.Z0c∧c.Z0k.length=m.Z13.Z0k.length∧c.Z0m=m.Z13.Z0m
theorem MM.mono {m:Z1r} {P Q:List Z00} {f:Z0h} {c:Z09} {a:Z24} (h:MM m P f c a) (k:Sb P Q):MM m Q f c a:=⟨h.fl,h.ds.mono k,fun hc=>⟨(h.cd hc).1.mono k,(h.cd hc).2⟩⟩
structure Ms (u:Z0u) (n:Int) (P:List Z00) (E:Int) (fm:List Z0h) (cs:List Z09) (ns:List Z24):Prop where
 lenF:(fm.length:Int)=n
 len:(cs.length:Int)=n
 lenN:(ns.length:Int)=n
 ok:E=0→∀ (j:Nat) m,(j:Int)<n→u.Z0j[j]?=some m→∃ f c a,fm[j]?=some f∧cs[j]?=some c∧ns[j]?=some a∧MM m P f c a
theorem Ms.grow {u:Z0u} {n:Int} {P Q:List Z00} {E F:Int} {fm cs ns} (h:Ms u n P E fm cs ns) (k:Gr { f_P:=P,f_E:=E } Q F):Ms u n Q F fm cs ns:=
 ⟨h.lenF,h.len,h.lenN,fun e j m hj hm=>by
  obtain ⟨f,c,a,h1,h2,h3,h4⟩:=h.ok (k.1 e) j m hj hm
  exact ⟨f,c,a,h1,h2,h3,h4.mono k.2⟩⟩
abbrev MT:=Int×(List Z00)×Int×(List Z0h)×(List Z09)×(List (List Int))×(List Z24)
abbrev MR:=(List Z00)×Int×(List Z0h)×(List Z09)×(List (List Int))×(List Z24)
structure MI (p:Z0p) (u:Z0u) (t:MT):Prop where
 g:Gr p t.2.1 t.2.2.1
 m:Ms u t.1 t.2.1 t.2.2.1 t.2.2.2.1 t.2.2.2.2.1 t.2.2.2.2.2.2
 n:t.1≤u.Z0j.length
structure MQ (p:Z0p) (u:Z0u) (q:MR):Prop where
 g:Gr p q.1 q.2.1
 m:Ms u u.Z0j.length q.1 q.2.1 q.2.2.1 q.2.2.2.1 q.2.2.2.2.2
theorem Ms.nil (u:Z0u) (P:List Z00) (E:Int):Ms u 0 P E [] [] [] :=⟨rfl,rfl,rfl,fun _ j m hj=>by omega⟩
theorem Ms.snoc {u:Z0u} {n:Int} {P:List Z00} {E:Int} {fm cs ns} (h:Ms u n P E fm cs ns) {m:Z1r} {f:Z0h} {c:Z09} {a:Z24} (hm:u.Z0j[n.toNat]?=some m) (hd:E=0→MM m P f c a):Ms u (n+1) P E (fm++[f]) (cs++[c]) (ns++[a]):=by
 have h1:=h.lenF
 have h2:=h.len
 have h3:=h.lenN
 refine ⟨by simp only [List.length_append,List.length_cons,List.length_nil]; omega,by simp only [List.length_append,List.length_cons,List.length_nil]; omega,by simp only [List.length_append,List.length_cons,List.length_nil]; omega,fun e j m' hj hm'=>?_⟩
 rcases Int.lt_or_le (j:Int) n with h'|h'
 ·obtain ⟨f',c',a',e1,e2,e3,e4⟩:=h.ok e j m' h' hm'
  exact ⟨f',c',a',by rw [List.getElem?_append_left (by omega)]; exact e1,by rw [List.getElem?_append_left (by omega)]; exact e2,by rw [List.getElem?_append_left (by omega)]; exact e3,e4⟩
 ·have:j=n.toNat:=by omega
  subst this
  rw [hm] at hm'; cases hm'
  exact ⟨f,c,a,by rw [List.getElem?_append_right (by omega),show n.toNat - fm.length=0 by omega]; rfl,by rw [List.getElem?_append_right (by omega),show n.toNat - cs.length=0 by omega]; rfl,by rw [List.getElem?_append_right (by omega),show n.toNat - ns.length=0 by omega]; rfl,hd e⟩
def MB (u:Z0u):Prop:=u.Z0j.length≤140737488355328∧∀ m∈u.Z0j,m.Z13.Z0k.length≤140737488355328
theorem Y3b {p:Z0p} {u:Z0u} {t:MT} (hu:u.Z0j.length≤140737488355328) (hI:MI p u t) {m:Z1r} (hlt:t.1<u.Z0j.length) (hm:u.Z0j[t.1.toNat]?=some m) {v35 v36:Z0p×Int}
  (g:Gr { f_P:=t.2.1,f_E:=t.2.2.1 } v36.1.f_P v36.1.f_E) {P:List Z00} {E y:Int} (hg:Gr v36.1 P E) {a b c:Int} {i h s l} (hc:E=0→∀ y,MM m P { Z0o:=m.Z0o,Z0e:=v35.2,Z1p:=v36.2,Z1v:=[] } { Z0m:=b,Z0c:=c,Z0k:=i,Z21:=h,Z1s:=s,Z1y:=l } { a0:=a,a1:=y }):
  Im (Zc0 a b c i h s l t m v35 v36 P E y) (I.Ct (MI p u) (MQ p u)):=by
 unfold Zc0
 refine I.bd (I.lp (fun t=>Gr { f_P:=P,f_E:=E } t.2.1 t.2.2.1) (Q:=fun q=>Gr { f_P:=P,f_E:=E } q.1 q.2.1) (fun t ht=>?_) (Gr.refl _)) fun q hq=>I.sk fun _ _=>I.sk fun _ _=>I.sk fun _ _=>I.sk fun _ _=>?_
 ·unfold Zi8
  exact I.br (fun _=>I.sk fun _ _=>I.bd (Zyx _ _) fun v hv=>I.sk fun _ _=>I.sk fun _ _=>I.nx (ht.trans hv)) fun _=>I.dn ht
 ·have hl:=hI.m.lenF
  rw [Z46 (n:=t.1+1) (by omega) (by omega)]
  refine I.sk fun k hk=>?_
  cases hk
  have g2:=(g.trans hg).trans hq
  refine I.nx ⟨hI.g.trans g2,(hI.m.grow g2).snoc hm (fun e=>(hc (hq.1 e) y).mono hq.2),by dsimp only; omega⟩
theorem Y0t {p:Z0p} {u:Z0u} {t:MT} (hu:u.Z0j.length≤140737488355328) (hI:MI p u t) {m:Z1r} (hlt:t.1<u.Z0j.length) (hm:u.Z0j[t.1.toNat]?=some m) {v35 v36:Z0p×Int}
  (g:Gr { f_P:=t.2.1,f_E:=t.2.2.1 } v36.1.f_P v36.1.f_E) {P:List Z00} {E:Int} (hg:Gr v36.1 P E) {a b c:Int} {i h s l} (hc:E=0→∀ y,MM m P { Z0o:=m.Z0o,Z0e:=v35.2,Z1p:=v36.2,Z1v:=[] } { Z0m:=b,Z0c:=c,Z0k:=i,Z21:=h,Z1s:=s,Z1y:=l } { a0:=a,a1:=y }):
  Im (Zbo t m v35 v36 P E a b c i h s l) (I.Ct (MI p u) (MQ p u)):=by
 unfold Zbo
 exact I.br (fun _=>I.bd (Zbk _ _) fun v hv=>Y3b hu hI hlt hm g (hg.trans hv.1) fun e y=>(hc (hv.1.1 e) y).mono hv.1.2) fun _=>Y3b hu hI hlt hm g hg hc
theorem Yc4 (p:Z0p) (u:Z0u) (hu:MB u) (x:Z2z):Im (Zec p u x) (fun r=>Gr p r.1.f_P r.1.f_E∧Ms u u.Z0j.length r.1.f_P r.1.f_E r.2.f_F.Z0j r.2.Z6p r.2.Z4z):=by
 unfold Zec
 have h0:MI p u (0,p.f_P,p.f_E,[],[],[],[]):=⟨Gr.refl p,Ms.nil u _ _,by dsimp only; omega⟩
 refine I.bd (I.lp (MI p u) (Q:=MQ p u) (fun t ht=>?_) h0) fun q hq=>I.ok ⟨hq.g,hq.m⟩
 have hn:=ht.n
 have hl:=ht.m.lenF
 unfold Zi3
 refine I.br (fun hlt=>I.sk fun m e=>I.bd (Zbk _ _) fun v35 h35=>I.bd (Zbk _ _) fun v36 h36=>?_) fun hge=>I.dn ?_
 ·have hlt':=of_decide_eq_true hlt
  obtain ⟨hin,_,hm⟩:=Z4f e
  have g2:=h35.1.trans h36.1
  refine I.br (fun hh=>I.bd (Zbk _ _) fun v37 h37=>I.bd (i_code _ _ (hu.2 m hin)) fun v38 h38=>Y0t hu.1 ht hlt' hm g2 (h37.1.trans h38.1) fun E0 y=>⟨rfl,?_,fun _=>⟨?_,h38.2⟩⟩) fun hh=>Y0t hu.1 ht hlt' hm g2 (Gr.refl _) fun E0 y=>⟨rfl,h36.2 E0,fun h=>by rw [hh] at h; cases h⟩
  ·exact (h36.2 ((h37.1.trans h38.1).1 E0)).mono (h37.1.trans h38.1).2
  ·exact (h37.2 (h38.1.1 E0)).mono h38.1.2
 ·have:t.1=u.Z0j.length:=by have:=of_decide_eq_false hge; omega
  exact ⟨ht.g,this ▸ ht.m⟩
end Go.Proofs
namespace Go.Proofs
open Go.Den Go.Tot
theorem ne0 {n:Int} (h:(n !=0)=true):n≠0:=by simpa using h
theorem eq0 {n:Int} (h:(n !=0)=false):n=0:=by simpa using h
theorem Y1i {n:Int} (h0:0≤n) (h1:n≤32):Z4o n=some [0,UInt8.ofNat n.toNat] :=by
 have key:((List.range 33).all fun k=>Z4o (k:Int)==some [0,UInt8.ofNat k])=true:=by kernel_rfl
 have:=List.all_eq_true.1 key n.toNat (by rw [List.mem_range]; omega)
 rw [Int.toNat_of_nonneg h0] at this
 simpa using this
theorem i_uns (s l:UInt8) (rest:List UInt8) (hl:l.toNat≤32):Im (Z6v ([0,s]++[0,l]++rest) 2 2) (fun v=>v.2=0→v.1=l.toNat):=by
 have e2:Z2v ([0,s]++[0,l]++rest) 2=some 0:=rfl
 have e3:Z2v ([0,s]++[0,l]++rest) 3=some (l.toNat:Int):=rfl
 have w0:IntKind.wrap .i64 0=0:=by decide
 have hj:Im (Zco ([0,s]++[0,l]++rest) 2 2 0) (fun v=>v.1=l.toNat∧v.2=0):=by
  unfold Zco
  refine I.bd (I.lp (fun t:Int×Int=>(t.2=1∧t.1=0)∨(t.2=2∧t.1=l.toNat)) (Q:=fun q=>q=(l.toNat:Int)) (fun t ht=>?_) (.inl ⟨rfl,rfl⟩)) fun q hq=>I.ok ⟨hq,rfl⟩
  obtain ⟨a,b⟩:=t
  unfold Zj2
  dsimp only at ht ⊢
  rcases ht with ⟨rfl,rfl⟩|⟨rfl,rfl⟩
  ·refine I.br (fun _=>I.sk fun v9 h9=>I.sk fun v10 h10=>I.sk fun v11 h11=>I.sk fun v12 h12=>I.sk fun v13 h13=>I.sk fun v14 h14=>I.nx (.inr ?_)) fun h=>by cases h
   have h9':v9=0:=by cases h9; decide
   have h10':v10=3:=by cases h10; decide
   have h14':v14=2:=by cases h14; decide
   subst h9' h10' h14'
   rw [e3] at h11
   cases h11
   rw [Z46 (by omega) (by omega)] at h12
   cases h12
   rw [Z46 (by omega) (by omega)] at h13
   cases h13
   exact ⟨rfl,by omega⟩
  ·exact I.br (fun h=>by cases h) fun _=>I.dn rfl
 have hs:Im (Zcn ([0,s]++[0,l]++rest) 2 2) (fun v=>v.2=0→v.1=l.toNat):=by
  unfold Zcn
  refine I.sk fun v0 _=>I.br (fun h=>I.ok fun e=>absurd e (ne0 h)) fun _=>I.sk fun v1 h1=>I.sk fun v2 h2=>?_
  rw [e2] at h1
  cases h1
  rw [w0] at h2
  cases h2
  exact I.br (fun h=>by cases h) fun _=>I.mono hj fun v hv _=>hv.1
 unfold Z6v
 refine I.bd hs fun v hv=>I.br (fun h=>I.br (fun _=>I.br (fun hn=>?_) fun _=>I.ok hv) fun _=>I.ok hv) fun _=>I.ok hv
 have:=of_decide_eq_true hn
 have:=hv (by simpa using h)
 omega
theorem i_num (x:Z1h) (k:Int):Im (Z3v x k) (fun r=>r.2.f_S=x.f_S∧(r.2.Z48=false→x.Z48=false∧r.2.f_At=IntKind.wrap .i64 (x.f_At+k)∧∃ v,Z6v x.f_S x.f_At k=some v∧v.2=0∧r.1=v.1)):=by
 unfold Z3v
 exact I.sk fun v hv=>I.br (fun h=>I.ok ⟨rfl,fun e=>by cases e⟩) fun h=>I.br (fun _=>I.ok ⟨rfl,fun e=>by cases e⟩) fun h2=>I.sk fun k hk=>I.ok ⟨rfl,fun _=>⟨h,by cases hk; rfl,v,hv,eq0 h2,rfl⟩⟩
theorem i_read (b:List UInt8):Im (Zdh b) (fun r=>r.2.Z48=false→∃ v,Z6v b 2 2=some v∧v.2=0∧r.1.f_C.Z0c=v.1):=by
 unfold Zdh
 refine I.bd (i_num _ _) fun v0 h0=>I.bd (i_num _ _) fun v1 h1=>I.bd (i_num _ _) fun v2 h2=>I.br (fun _=>?_) fun hb=>I.sk fun _ _=>I.br (fun _=>?_) fun _=>?_
 ·unfold Zcr
  exact I.ok fun e=>by cases e
 ·unfold Zcr
  exact I.ok fun e=>by cases e
 ·unfold Zm4
  refine I.sk fun _ _=>I.sk fun _ _=>I.sk fun _ _=>I.sk fun _ _=>I.sk fun _ _=>I.sk fun _ _=>I.sk fun _ _=>I.sk fun _ _=>I.sk fun _ _=>I.ok fun _=>?_
  obtain ⟨b1,_⟩:=h2.2 hb
  obtain ⟨b0,_,v,hv,hv0,hvv⟩:=h1.2 b1
  obtain ⟨_,ha,_⟩:=h0.2 b0
  refine ⟨v,?_,hv0,hvv⟩
  rw [h0.1,ha] at hv
  exact hv
theorem Ycr (x:Z4a) (l:List Int):Im (Zeo x l) (fun r=>r.2=0→r.1.Z0c=x.f_C.Z0c):=by
 unfold Zeo
 have z1:∀ (R:Type) (c:Z09) (k:Int),k≠0→(fun q:R⊕(Z09×Int)=>match q with|.inl _=>True|.inr y=>y.2≠0) (.inr (c,k)):=fun _ _ _ h=>h
 refine I.bd (I.lp (fun _=>True) (Q:=fun q=>match q with|.inl _=>True|.inr y=>y.2≠0) (fun t _=>?_) trivial) fun q1 h1=>?_
 ·unfold Zkl Zk5
  exact I.br (fun _=>I.sk fun _ _=>I.sk fun _ _=>I.sk fun _ _=>I.sk fun _ _=>I.br (fun _=>I.dn (by decide)) fun _=>I.br (fun _=>I.dn (by decide)) fun _=>I.br (fun _=>I.dn (by decide)) fun _=>I.sk fun _ _=>I.sk fun _ _=>I.nx trivial) fun _=>I.dn trivial
 cases q1 with
 | inr y=>exact I.ok fun e=>absurd e h1
 | inl q0=>
 refine I.bd (I.lp (fun _=>True) (Q:=fun q=>match q with|.inl _=>True|.inr y=>y.2≠0) (fun t _=>?_) trivial) fun q3 h3=>?_
 ·unfold Zmk Zo1
  exact I.br (fun _=>I.sk fun _ _=>I.sk fun _ _=>I.sk fun _ _=>I.sk fun _ _=>I.br (fun _=>I.dn (by decide)) fun _=>I.br (fun _=>I.dn (by decide)) fun _=>I.br (fun _=>I.dn (by decide)) fun _=>I.sk fun _ _=>I.br (fun _=>I.dn (by decide)) fun _=>I.sk fun _ _=>I.sk fun _ _=>I.nx trivial) fun _=>I.dn trivial
 cases q3 with
 | inr y=>exact I.ok fun e=>absurd e h3
 | inl q2=>
 refine I.bd (I.lp (fun _=>True) (Q:=fun q=>match q with|.inl _=>True|.inr y=>y.2≠0) (fun t _=>?_) trivial) fun q5 h5=>?_
 ·unfold Zoc
  exact I.br (fun _=>I.sk fun _ _=>I.sk fun _ _=>I.br (fun _=>I.dn (by decide)) fun _=>I.sk fun _ _=>I.sk fun _ _=>I.nx trivial) fun _=>I.dn trivial
 cases q5 with
 | inr y=>exact I.ok fun e=>absurd e h5
 | inl q4=>exact I.ok fun _=>rfl
theorem Yag (P:List Z00) (b:List UInt8):Im (Zcm P b) (fun r=>r.2=0→∃ v,Z6v b 2 2=some v∧v.2=0∧r.1.Z0c=v.1):=by
 unfold Zcm
 refine I.bd (i_read b) fun v0 h0=>I.br (fun _=>I.ok fun e=>by cases e) fun hb=>I.sk fun _ _=>I.br (fun h=>I.ok fun e=>absurd e (ne0 h)) fun _=>I.sk fun _ _=>I.br (fun h=>I.ok fun e=>absurd e (ne0 h)) fun _=>I.bd (Ycr _ _) fun v3 h3=>I.br (fun h=>I.ok fun e=>absurd e (ne0 h)) fun hz=>I.br (fun _=>I.ok fun e=>by cases e) fun _=>I.sk fun _ _=>I.br (fun h=>I.ok fun e=>absurd e (ne0 h)) fun _=>I.ok fun _=>?_
 obtain ⟨v,e1,e2,e3⟩:=h0 hb
 exact ⟨v,e1,e2,(h3 (eq0 hz)).trans e3⟩
def Loc (c:Z09):Prop:=0≤c.Z0c∧c.Z0c≤32
structure LocX (c:Z09):Prop where
 loc:Loc c
 s0:0≤c.Z0m
 s1:c.Z0m≤32
 ins:c.Z0k.length≠0
theorem i_head (P:List Z00) (c:Z09):Im (Zes P c) (fun e=>e=0→LocX c):=by
 unfold Zes Zgm
 exact I.sk fun v _=>I.br (fun h=>I.ok fun e=>absurd e (ne0 h)) fun _=>I.br (fun _=>I.ok fun h=>by cases h) fun h3=>I.br (fun _=>I.ok fun h=>by cases h) fun h4=>I.br (fun _=>I.ok fun h=>by cases h) fun h1=>I.br (fun _=>I.ok fun h=>by cases h) fun h2=>I.br (fun _=>I.ok fun h=>by cases h) fun h5 r _ _=>
  ⟨⟨by have:=of_decide_eq_false h1; omega,by have:=of_decide_eq_false h2; omega⟩,by have:=of_decide_eq_false h3; omega,by have:=of_decide_eq_false h4; omega,fun e=>by rw [e] at h5; cases h5⟩
theorem Y9c (P:List Z00) (c:Z09):Im (Zbr P c) (fun r=>r.2=0→LocX c):=by
 unfold Zbr
 exact I.bd (i_head P c) fun v hv=>I.br (fun h=>I.ok fun e=>absurd e (ne0 h)) fun h r _ _=>hv (eq0 h)
def Enc (c:Z09) (b:List UInt8):Prop:=LocX c∧∃ rest,b=[0,UInt8.ofNat c.Z0m.toNat]++[0,UInt8.ofNat c.Z0c.toNat]++rest
theorem Z5p {a b:List UInt8}:Im (Z2e a b) (fun r=>r=a++b):=fun r e=>(Y1d e).2.symm
theorem Y8n (P:List Z00) (c:Z09):Im (Zf8 P c) (fun r=>r.2=0→Enc c r.1):=by
 unfold Zf8
 refine I.bd (Y9c P c) fun v hv=>I.br (fun h=>I.ok fun e=>absurd e (ne0 h)) fun h=>I.sk fun _ _=>I.sk fun _ _=>I.sk fun v3 _=>I.sk fun v4 h4=>I.sk fun v5 h5=>I.bd Z5p fun v6 h6=>I.bd Z5p fun v7 h7=>I.bd Z5p fun v8 h8=>I.sk fun v9 _=>I.bd Z5p fun v10 h10=>?_
 have hx:=hv (eq0 h)
 rw [Y1i hx.s0 hx.s1] at h4
 cases h4
 rw [Y1i hx.loc.1 hx.loc.2] at h5
 cases h5
 have hp:v6 <+: v10:=by rw [h10,h8,h7]; simp only [List.append_assoc]; exact List.prefix_append ..
 have pc:∀ {a b r:List UInt8},v6 <+: a→r=a++b→v6 <+: r:=fun h e=>e ▸ h.trans (List.prefix_append ..)
 refine I.bd (I.lp (fun t=>v6 <+: t.1) (Q:=fun q=>v6 <+: q) (fun t ht=>?_) hp) fun q0 g0=>I.sk fun _ _=>I.bd Z5p fun v37 g37=>I.bd (I.lp (fun t=>v6 <+: t.1) (Q:=fun q=>v6 <+: q) (fun t ht=>?_) (pc g0 g37)) fun q2 g2=>I.sk fun _ _=>I.bd Z5p fun v60 g60=>I.bd (I.lp (fun t=>v6 <+: t.1) (Q:=fun q=>v6 <+: q) (fun t ht=>?_) (pc g2 g60)) fun q4 g4=>I.ok fun _=>?_
 ·unfold Zpw
  exact I.br (fun _=>I.sk fun _ _=>I.sk fun _ _=>I.sk fun _ _=>I.bd Z5p fun _ a1=>I.sk fun _ _=>I.sk fun _ _=>I.bd Z5p fun _ a2=>I.sk fun _ _=>I.sk fun _ _=>I.bd Z5p fun _ a3=>I.sk fun _ _=>I.bd Z5p fun _ a4=>I.sk fun _ _=>I.nx (pc (pc (pc (pc ht a1) a2) a3) a4)) fun _=>I.dn ht
 ·have hj:∀ w x k,Im (Zc4 t w x k) (I.Ct (fun t=>v6 <+: t.1) fun q=>v6 <+: q):=fun w x k=>by
   unfold Zc4
   exact I.sk fun _ _=>I.sk fun _ _=>I.bd Z5p fun _ a1=>I.sk fun _ _=>I.bd Z5p fun _ a2=>I.sk fun _ _=>I.bd Z5p fun _ a3=>I.sk fun _ _=>I.bd Z5p fun _ a4=>I.sk fun _ _=>I.nx (pc (pc (pc (pc ht a1) a2) a3) a4)
  unfold Zlu
  exact I.br (fun _=>I.sk fun _ _=>I.br (fun _=>hj _ _ _) fun _=>hj _ _ _) fun _=>I.dn ht
 ·unfold Zlm
  exact I.br (fun _=>I.sk fun _ _=>I.sk fun _ _=>I.sk fun _ _=>I.bd Z5p fun _ a1=>I.sk fun _ _=>I.sk fun _ _=>I.bd Z5p fun _ a2=>I.sk fun _ _=>I.nx (pc (pc ht a1) a2)) fun _=>I.dn ht
 ·obtain ⟨rest,hr⟩:=g4
  exact ⟨hx,rest,by rw [← hr,h6]⟩
theorem i_again (P:List Z00) (c:Z09) (b:List UInt8) (hb:Enc c b):Im (Zcm P b) (fun r=>r.2=0→r.1.Z0c=c.Z0c):=I.mono (Yag P b) fun r hr e=>by
 obtain ⟨hx,rest,rfl⟩:=hb
 obtain ⟨v,e1,e2,e3⟩:=hr e
 have hl1:=hx.loc.1
 have hl2:=hx.loc.2
 have hn:(UInt8.ofNat c.Z0c.toNat).toNat=c.Z0c.toNat:=by simp [UInt8.toNat_ofNat]; omega
 have:=i_uns _ _ rest (by omega) v e1 e2
 omega
end Go.Proofs
namespace Go.Proofs
open Go.Den Go.Tot
def Short (P:List Z00):Prop:=∀ c∈P,c.Z2g=1→c.f_S.length≤1024
theorem Ya9 (P:List Z00) (c:Z00):Im (Zey P c) (fun e=>e=0→c.Z2g=1→c.f_S.length≤1024):=by
 unfold Zey
 refine I.sk fun _ _=>I.br (fun _=>I.ok fun h=>by cases h) fun _=>I.sk fun _ _=>I.br (fun _=>I.ok fun h=>by cases h) fun _=>I.br (fun _=>I.br (fun _=>I.ok fun h=>by cases h) fun h=>fun r _ _ _=>by have:=of_decide_eq_false h; omega) fun h r _ _ h'=>by simp [h'] at h
theorem Yc2 (P:List Z00):Im (Zd2 P) (fun r=>r.2=0→P.length≤1000∧Short P):=by
 unfold Zd2
 refine I.br (fun _=>I.ok fun h=>by cases h) fun hl=>I.bd (I.lp (fun t=>0≤t∧∀ (j:Nat) c,(j:Int)<t→P[j]?=some c→c.Z2g=1→c.f_S.length≤1024) (Q:=fun q=>match q with|.inl _=>Short P|.inr r=>r.2≠0) (fun t ht=>?_) ⟨by omega,fun j c hj=>by omega⟩) fun q hq=>?_
 ·have hl':=of_decide_eq_false hl
  unfold Zjw
  refine I.br (fun hlt=>I.sk fun c e=>I.bd (Ya9 P c) fun v hv=>I.br (fun h=>I.sk fun _ _=>I.dn (ne0 h)) fun h=>?_) fun hge=>I.dn ?_
  ·have hlt':=of_decide_eq_true hlt
   obtain ⟨_,h0,hc⟩:=Z4f e
   rw [Z46 (n:=t+1) (by omega) (by omega)]
   refine I.sk fun k hk=>?_
   cases hk
   refine I.nx ⟨by omega,fun j c' hj hc'=>?_⟩
   rcases Int.lt_or_le (j:Int) t with h'|h'
   ·exact ht.2 j c' h' hc'
   ·have:j=t.toNat:=by omega
    subst this
    rw [hc] at hc'; cases hc'
    exact hv (eq0 h)
  ·have:=of_decide_eq_false hge
   intro c hc
   obtain ⟨j,hj⟩:=List.getElem?_of_mem hc
   have:j<P.length:=(List.getElem?_eq_some_iff.1 hj).1
   exact ht.2 j c (by omega) hj
 ·cases q with
  | inl _=>exact I.ok fun _=>⟨by have:=of_decide_eq_false hl; omega,hq⟩
  | inr r=>exact I.ok fun h=>absurd h hq
theorem Y2l {P:List Z00} (hP:P.length≤1000) {s:List UInt8} {i:Int} (h:At1 s P i):Z3j P i=some (s,0):=by
 obtain ⟨c,h1,h2,h3,h4⟩:=h hP
 have hlt:=(List.getElem?_eq_some_iff.1 h2).1
 unfold Z3j Zax Z9p
 rw [if_neg (by simp; omega),if_neg (by simp; omega),Z46 (by omega) (by omega)]
 have:Z01 P (i - 1)=some c:=by unfold Z01; rw [if_pos (by omega),show (i - 1).toNat=i.toNat - 1 by omega]; exact h2
 simp only [Option.bind_some,this]
 simp [h3,h4]
theorem is_at {P:List Z00} (hP:P.length≤1000) {s:List UInt8} {a:Z1j} (h:At1 s P a.Zce):Z9e P a s=some true:=by
 unfold Z9e
 rw [Y2l hP h]
 simp
theorem i_part {P:List Z00} {l:List Z1j} {s:List UInt8} {x:Z1j} (hx:l[0]?=some x) (his:Z9e P x s=some true) (hl:l.length≤1000):Im (Zcw P l s) (fun r=>1≤r.2∧(r.2=1→r.1=x.Z2q)):=by
 unfold Zcw
 have hpos:0<l.length:=(List.getElem?_eq_some_iff.1 hx).1
 refine I.bd (I.lp (fun t:List UInt8×Int×Int=>0≤t.2.2∧t.2.2≤(l.length:Int)∧0≤t.2.1∧t.2.1≤t.2.2∧(0<t.2.2→1≤t.2.1∧(t.2.1=1→t.1=x.Z2q))) (Q:=fun q=>1≤q.2∧(q.2=1→q.1=x.Z2q)) (fun t ht=>?_) ⟨by decide,by dsimp only; omega,by decide,by decide,fun h=>by cases h⟩) fun q hq=>I.ok hq
 obtain ⟨b,n,k⟩:=t
 dsimp only at ht
 obtain ⟨k0,k1,n0,nk,hk⟩:=ht
 unfold Zjl
 dsimp only
 refine I.br (fun hlt=>I.sk fun v3 e3=>I.sk fun v4 e4=>I.br (fun hy=>I.sk fun v5 e5=>I.sk fun v6 e6=>I.sk fun v7 e7=>?_) fun hn=>I.sk fun v8 e8=>?_) fun hge=>I.dn (hk (by have:=of_decide_eq_false hge; omega))
 ·have hlt':=of_decide_eq_true hlt
  rw [Z46 (by omega) (by omega)] at e6 e7
  cases e6; cases e7
  refine I.nx ⟨by dsimp only; omega,by dsimp only; omega,by dsimp only; omega,by dsimp only; omega,fun _=>⟨by dsimp only; omega,fun h1=>?_⟩⟩
  dsimp only at h1 ⊢
  by_cases hz:0<k
  ·have:=(hk hz).1; omega
  ·have hk0:k=0:=by omega
   subst hk0
   have:=(Z4f e5).2.2
   rw [show (0:Int).toNat=0 from rfl,hx] at this
   cases this; rfl
 ·have hlt':=of_decide_eq_true hlt
  rw [Z46 (by omega) (by omega)] at e8
  cases e8
  have hz:0<k:=Classical.byContradiction fun h=>by
   have hk0:k=0:=by omega
   subst hk0
   have:=(Z4f e3).2.2
   rw [show (0:Int).toNat=0 from rfl,hx] at this
   cases this
   rw [his] at e4
   cases e4
   cases hn
  exact I.nx ⟨by dsimp only; omega,by dsimp only; omega,n0,by dsimp only; omega,fun _=>hk hz⟩
theorem Yca (f:Z1d) (g:Z0h):Im (Zf6 f g) (fun r=>r.2.2=0→∃ s e,Z3j f.Z2f g.Z1p=some (s,e)∧Z5m s=some (r.2.1,0)):=by
 have hj:∀ v,Im (Zbi v f g) (fun r=>r.2.2=0→∃ s e,Z3j f.Z2f g.Z1p=some (s,e)∧Z5m s=some (r.2.1,0)):=fun v=>by
  unfold Zbi
  refine I.sk fun v3 e3=>I.br (fun _=>I.ok fun h=>by cases h) fun _=>I.sk fun v4 e4=>I.br (fun _=>I.ok fun h=>by cases h) fun hz=>?_
  have key:∃ s e,Z3j f.Z2f g.Z1p=some (s,e)∧Z5m s=some (v4.1,0):=⟨v3.1,v3.2,e3,by rw [e4]; obtain ⟨a,b⟩:=v4; have:b=0:=eq0 hz; subst this; rfl⟩
  have hk:Im (some (v.1,v4.1,(0:Int))) (fun r:List UInt8×Z26×Int=>r.2.2=0→∃ s e,Z3j f.Z2f g.Z1p=some (s,e)∧Z5m s=some (r.2.1,0)):=I.ok fun _=>key
  exact I.br (fun _=>I.br (fun _=>I.ok fun h=>by cases h) fun _=>I.br (fun _=>I.br (fun _=>I.ok fun h=>by cases h) fun _=>hk) fun _=>hk) fun _=>I.br (fun _=>I.br (fun _=>I.ok fun h=>by cases h) fun _=>hk) fun _=>hk
 unfold Zf6
 exact I.sk fun _ _=>I.br (fun _=>I.ok fun h=>by cases h) fun _=>I.sk fun _ _=>I.br (fun _=>I.ok fun h=>by cases h) fun _=>I.br (fun _=>I.sk fun _ _=>I.br (fun _=>I.ok fun h=>by cases h) fun _=>hj _) fun _=>hj _
def Zba (fl:Int) (sg:Z26):Int:=(sg.Z3b.length:Int)+if (Z2c .i64 fl 8==0)=true then 1 else 0
theorem i_body {P:List Z00} (hP:P.length≤1000) {g:Z0h} {sg:Z26} {x:Z1j} (hx:g.Z1v[0]?=some x) (hn:At1 [67,111,100,101] P x.Zce) (hl:g.Z1v.length≤1000) (hs:sg.Z3b.length≤1000) {c:Z09} (hc:Enc c x.Z2q):
  Im (Zck P g sg) (fun e=>e=0→Zba g.Z0o sg≤c.Z0c):=by
 unfold Zck
 refine I.bd (i_part hx (is_at hP hn) hl) fun v0 h0=>I.sk fun v1 _=>I.sk fun v2 _=>I.br (fun _=>I.ok fun h=>by cases h) fun hle=>I.br (fun _=>I.ok fun h=>by cases h) fun _=>I.sk fun _ _=>I.br (fun _=>I.ok fun h=>by cases h) fun _=>I.br (fun _=>I.ok fun h=>by cases h) fun hb=>?_
 have h1:v0.2=1:=by have:=of_decide_eq_false hle; have:=h0.1; omega
 have hbytes:=h0.2 h1
 have hz:(v2==0)=true:=by rw [h1] at hb; cases e:(v2==0) with|true=>rfl|false=>rw [e] at hb; cases hb
 have j4:∀ a b:Int,Im (Zcs a b) (fun e=>e=0→a≤b):=fun a b=>by
  unfold Zcs
  exact I.br (fun _=>I.ok fun h=>by cases h) fun h=>fun _ _ _=>by have:=of_decide_eq_false h; omega
 have j3:∀ a b:Int,Im (Zcz a v1 P b) (fun e=>e=0→a≤b):=fun a b=>by
  unfold Zcz
  refine I.br (fun _=>I.sk fun v7 _=>I.br (fun h=>I.ok fun e=>absurd e (ne0 h)) fun _=>I.bd (I.lp (fun _=>True) (Q:=fun q=>match q with|.inl _=>True|.inr y=>y≠0) (fun t _=>?_) trivial) fun q hq=>?_) fun _=>j4 a b
  ·unfold Znf
   exact I.br (fun _=>I.sk fun _ _=>I.sk fun _ _=>I.br (fun _=>I.dn (by decide)) fun _=>I.sk fun _ _=>I.nx trivial) fun _=>I.dn trivial
  ·cases q with
   | inl _=>exact j4 a b
   | inr y=>exact I.ok fun e=>absurd e hq
 have j2:∀ a:Int,Im (Zdx v0 v1 v2 P a) (fun e=>e=0→a≤c.Z0c):=fun a=>by
  unfold Zdx
  rw [if_pos hz,hbytes]
  exact I.bd (i_again P c _ hc) fun v6 h6=>I.br (fun h=>I.ok fun e=>absurd e (ne0 h)) fun h=>I.mono (j3 a _) fun e he h0=>by have:=he h0; rw [h6 (eq0 h)] at this; exact this
 unfold Zn5
 refine I.sk fun v4 e4=>I.br (fun h=>I.sk fun v5 e5=>I.mono (j2 v5) fun e he h0=>?_) fun h=>I.mono (j2 _) fun e he h0=>?_
 ·rw [Z46 (by omega) (by omega)] at e5
  cases e5; cases e4
  unfold Zba
  rw [if_pos h]
  exact he h0
 ·cases e4
  unfold Zba
  rw [if_neg (by simp [h])]
  have:=he h0
  omega
theorem Ybc (f:Z1d) (j:Int):Im (Z9t f j) (fun e=>e=0→∀ g,Z01 f.Z0j j=some g→∃ s k sg,Z3j f.Z2f g.Z1p=some (s,k)∧Z5m s=some (sg,0)∧Zck f.Z2f g sg=some 0):=by
 unfold Z9t
 refine I.sk fun v0 e0=>I.bd (Yca f v0) fun v1 h1=>I.br (fun h=>I.ok fun e=>absurd e (ne0 h)) fun h=>I.sk fun _ _=>I.br (fun _=>I.ok fun h=>by cases h) fun _=>I.sk fun _ _=>I.br (fun _=>I.ok fun h=>by cases h) fun _=>I.sk fun v4 e4=>I.ok fun hz g hg=>?_
 rw [e0] at hg
 cases hg
 obtain ⟨s,k,a1,a2⟩:=h1 (eq0 h)
 exact ⟨s,k,v1.2.1,a1,a2,by rw [e4,hz]⟩
theorem Yd0 (f:Z1d) (hf:f.Z0j.length≤140737488355328):Im (Zdw f) (fun r=>r.2=0→f.Z2f.length≤1000∧Short f.Z2f∧∀ j:Int,0≤j→j<f.Z0j.length→Z9t f j=some 0):=by
 unfold Zdw
 refine I.bd (Yc2 _) fun v hv=>I.br (fun h=>I.ok fun e=>absurd e (ne0 h)) fun h=>I.sk fun _ _=>I.br (fun h=>I.ok fun e=>absurd e (ne0 h)) fun _=>I.bd (I.lp (fun _=>True) (Q:=fun q=>match q with|.inl _=>True|.inr y=>y.2≠0) (fun t _=>?_) trivial) fun q1 h1=>?_
 ·unfold Zox
  exact I.br (fun _=>I.sk fun _ _=>I.br (fun h=>I.sk fun _ _=>I.dn (ne0 h)) fun _=>I.sk fun _ _=>I.nx trivial) fun _=>I.dn trivial
 cases q1 with
 | inr y=>exact I.ok fun e=>absurd e h1
 | inl _=>
 refine I.bd (I.lp (fun _=>True) (Q:=fun q=>match q with|.inl _=>True|.inr y=>y.2≠0) (fun t _=>?_) trivial) fun q3 h3=>?_
 ·unfold Zon
  exact I.br (fun _=>I.sk fun _ _=>I.br (fun h=>I.sk fun _ _=>I.dn (ne0 h)) fun _=>I.sk fun _ _=>I.nx trivial) fun _=>I.dn trivial
 cases q3 with
 | inr y=>exact I.ok fun e=>absurd e h3
 | inl _=>
 refine I.bd (I.lp (fun t:Int=>0≤t∧∀ j:Int,0≤j→j<t→Z9t f j=some 0) (Q:=fun q=>match q with|.inl _=>∀ j:Int,0≤j→j<f.Z0j.length→Z9t f j=some 0|.inr y=>y.2≠0) (fun t ht=>?_) ⟨by omega,fun j h h'=>by omega⟩) fun q5 h5=>?_
 ·unfold Zpo
  refine I.br (fun hlt=>I.sk fun v14 e14=>I.br (fun h=>I.sk fun _ _=>I.dn (ne0 h)) fun hz=>I.sk fun k hk=>?_) fun hge=>I.dn fun j h h'=>ht.2 j h (by have:=of_decide_eq_false hge; omega)
  have:=of_decide_eq_true hlt
  rw [Z46 (by omega) (by omega)] at hk
  cases hk
  refine I.nx ⟨by omega,fun j h h'=>?_⟩
  rcases Int.lt_or_le j t with h2|h2
  ·exact ht.2 j h h2
  ·rw [show j=t by omega,e14,eq0 hz]
 cases q5 with
 | inr y=>exact I.ok fun e=>absurd e h5
 | inl _=>exact I.sk fun _ _=>I.br (fun _=>I.ok fun h=>by cases h) fun _=>I.ok fun _=>⟨(hv (eq0 h)).1,(hv (eq0 h)).2,h5⟩
theorem i_half (p:Z0p) (u:Z0u) (hu:MB u):Im (Zev p u) (fun r=>Ms u u.Z0j.length r.1.f_P r.1.f_E r.2.f_F.Z0j r.2.Z6p r.2.Z4z∧r.2.f_F.Z2f=r.1.f_P):=by
 have hj:∀ v a b c,Im (Zbx v u a b c) (fun r=>Ms u u.Z0j.length r.1.f_P r.1.f_E r.2.f_F.Z0j r.2.Z6p r.2.Z4z∧r.2.f_F.Z2f=r.1.f_P):=fun v a b c=>by
  unfold Zbx Zel
  exact I.sk fun _ _=>I.sk fun _ _=>I.bd (Yc4 _ u hu _) fun w hw=>I.br (fun _=>I.bd (Zbk _ _) fun x hx=>I.bd (Zbk _ _) fun y hy=>I.sk fun _ _=>I.ok ⟨(hw.2.grow hx.1).grow hy.1,rfl⟩) fun _=>I.ok ⟨hw.2,rfl⟩
 unfold Zev
 exact I.sk fun _ _=>I.br (fun _=>I.sk fun _ _=>hj _ _ _ _) fun _=>hj _ _ _ _
def MOk (u:Z0u):Prop:=∀ m∈u.Z0j,m.Z1p.length≤1024∧(m.Z3y=true→Loc m.Z13)
def MOx (u:Z0u):Prop:=∀ m∈u.Z0j,m.Z3y=true→(m.Z13.Z0k.length≠0∧0≤m.Z13.Z0m)∧∃ sg,Z5m m.Z1p=some (sg,0)∧(sg.Z3b.length≤1000→Zba m.Z0o sg≤m.Z13.Z0c)
end Go.Proofs
namespace Go.Proofs
open Go.Den Go.Tot
def Cs (u:Z0u) (n:Int) (cs:List Z09) (q:List (List UInt8)):Prop:=(q.length:Int)=n∧∀ (j:Nat) m c,(j:Int)<n→u.Z0j[j]?=some m→m.Z3y=true→cs[j]?=some c→∃ b,q[j]?=some b∧Enc c b
def Fm (m:Z1r) (f g:Z0h) (a:Z24) (b:Option (List UInt8)):Prop:=g.Z0o=f.Z0o∧g.Z1p=f.Z1p∧g.Z1v.length≤1000∧(m.Z3y=true→∃ x,g.Z1v[0]?=some x∧x.Zce=a.a0∧b=some x.Z2q)
def Gs (u:Z0u) (n:Int) (fm:List Z0h) (ns:List Z24) (q:List (List UInt8)) (l:List Z0h):Prop:=(l.length:Int)=n∧∀ (j:Nat) m f a,(j:Int)<n→u.Z0j[j]?=some m→fm[j]?=some f→ns[j]?=some a→∃ g,l[j]?=some g∧Fm m f g a q[j]?
theorem Y70 (u:Z0u) (hu:MB u):Im (Zfb u) (fun r=>r.2=0→MOk u∧MOx u):=by
 unfold Zfb
 refine I.sk fun _ _=>I.br (fun _=>I.ok fun h=>by cases h) fun _=>I.bd (i_half _ u hu) fun v hv=>I.br (fun h=>I.ok fun e=>absurd e (ne0 h)) fun hE=>?_
 have hE':=eq0 hE
 have hub:=hu.1
 obtain ⟨hM,hP⟩:=hv
 have hL:(v.2.f_F.Z0j.length:Int)=u.Z0j.length:=hM.lenF
 refine I.bd (I.lp (fun t:Int×List (List UInt8)=>0≤t.1∧t.1≤(u.Z0j.length:Int)∧Cs u t.1 v.2.Z6p t.2) (Q:=fun q=>match q with|.inl l=>Cs u u.Z0j.length v.2.Z6p l|.inr y=>y.2≠0) (fun t ht=>?_) ⟨by decide,by dsimp only; omega,rfl,fun j m c hj=>by dsimp only at hj; omega⟩) fun q1 hq1=>?_
 ·obtain ⟨t0,t1,tl,tc⟩:=ht
  unfold Zow
  refine I.br (fun hlt=>I.sk fun m e=>?_) fun hge=>I.dn ?_
  ·have hlt':=of_decide_eq_true hlt
   obtain ⟨_,h0,hm⟩:=Z4f e
   have nxt:∀ s x,(x=0→m.Z3y=true→∀ c,v.2.Z6p[t.1.toNat]?=some c→Enc c s)→Im (Zbe t s x) (I.Ct (fun t:Int×List (List UInt8)=>0≤t.1∧t.1≤(u.Z0j.length:Int)∧Cs u t.1 v.2.Z6p t.2) (fun q=>match q with|.inl l=>Cs u u.Z0j.length v.2.Z6p l|.inr y=>y.2≠0)):=fun s x hx=>by
    unfold Zbe
    refine I.br (fun h=>I.dn (ne0 h)) fun h=>I.sk fun _ _=>?_
    rw [Z46 (n:=t.1+1) (by omega) (by omega)]
    refine I.sk fun k hk=>?_
    cases hk
    refine I.nx ⟨by dsimp only; omega,by dsimp only; omega,by simp only [List.length_append,List.length_cons,List.length_nil]; omega,fun j m' c hj hm' hh hc=>?_⟩
    dsimp only at hj
    rcases Int.lt_or_le (j:Int) t.1 with h'|h'
    ·obtain ⟨b,b1,b2⟩:=tc j m' c h' hm' hh hc
     exact ⟨b,by rw [List.getElem?_append_left (by omega)]; exact b1,b2⟩
    ·have:j=t.1.toNat:=by omega
     subst this
     rw [hm] at hm'; cases hm'
     exact ⟨s,by rw [List.getElem?_append_right (by omega),show t.1.toNat - t.2.length=0 by omega]; rfl,hx (eq0 h) hh c hc⟩
   refine I.br (fun hh=>I.sk fun c ec=>I.bd (Y8n _ _) fun w hw=>nxt _ _ fun h0' _ c' hc'=>?_) fun hh=>nxt _ _ fun _ h=>by rw [hh] at h; cases h
   obtain ⟨_,_,hc⟩:=Z4f ec
   rw [hc] at hc'; cases hc'
   exact hw h0'
  ·have:=of_decide_eq_false hge
   have hn:t.1=u.Z0j.length:=by omega
   rw [hn] at tl tc
   exact ⟨tl,tc⟩
 cases q1 with
 | inr y=>exact I.ok fun h=>absurd h hq1
 | inl q0=>
 refine I.bd (I.lp (fun t:Int×List Z0h=>0≤t.1∧t.1≤(u.Z0j.length:Int)∧Gs u t.1 v.2.f_F.Z0j v.2.Z4z q0 t.2) (Q:=fun q=>match q with|.inl l=>Gs u u.Z0j.length v.2.f_F.Z0j v.2.Z4z q0 l|.inr y=>y.2≠0) (fun t ht=>?_) ⟨by decide,by dsimp only; omega,rfl,fun j m f a hj=>by dsimp only at hj; omega⟩) fun q3 hq3=>?_
 ·obtain ⟨t0,t1,tl,tg⟩:=ht
  unfold Zph
  refine I.br (fun hlt=>I.sk fun m e=>?_) fun hge=>I.dn ?_
  ·have hlt':=of_decide_eq_true hlt
   obtain ⟨_,h0,hm⟩:=Z4f e
   have nxt3:∀ p,p.length≤2→(m.Z3y=true→∀ a,v.2.Z4z[t.1.toNat]?=some a→∃ x,p[0]?=some x∧x.Zce=a.a0∧q0[t.1.toNat]?=some x.Z2q)→Im (Zbf t v p) (I.Ct (fun t:Int×List Z0h=>0≤t.1∧t.1≤(u.Z0j.length:Int)∧Gs u t.1 v.2.f_F.Z0j v.2.Z4z q0 t.2) (fun q=>match q with|.inl l=>Gs u u.Z0j.length v.2.f_F.Z0j v.2.Z4z q0 l|.inr y=>y.2≠0)):=fun p hp hx=>by
    unfold Zbf
    refine I.sk fun f ef=>I.sk fun _ _=>?_
    obtain ⟨_,_,hf⟩:=Z4f ef
    rw [Z46 (n:=t.1+1) (by omega) (by omega)]
    refine I.sk fun k hk=>?_
    cases hk
    refine I.nx ⟨by dsimp only; omega,by dsimp only; omega,by simp only [List.length_append,List.length_cons,List.length_nil]; omega,fun j m' f' a hj hm' hf' ha=>?_⟩
    dsimp only at hj
    rcases Int.lt_or_le (j:Int) t.1 with h'|h'
    ·obtain ⟨g,g1,g2⟩:=tg j m' f' a h' hm' hf' ha
     exact ⟨g,by rw [List.getElem?_append_left (by omega)]; exact g1,g2⟩
    ·have:j=t.1.toNat:=by omega
     subst this
     rw [hm] at hm'; cases hm'
     rw [hf] at hf'; cases hf'
     exact ⟨{ Z0o:=f.Z0o,Z0e:=f.Z0e,Z1p:=f.Z1p,Z1v:=p },by rw [List.getElem?_append_right (by omega),show t.1.toNat - t.2.length=0 by omega]; rfl,rfl,rfl,by dsimp only; omega,fun hh=>hx hh a ha⟩
   have nxt2:∀ p,p.length≤1→(m.Z3y=true→∀ a,v.2.Z4z[t.1.toNat]?=some a→∃ x,p[0]?=some x∧x.Zce=a.a0∧q0[t.1.toNat]?=some x.Z2q)→Im (Zc8 t v p) (I.Ct (fun t:Int×List Z0h=>0≤t.1∧t.1≤(u.Z0j.length:Int)∧Gs u t.1 v.2.f_F.Z0j v.2.Z4z q0 t.2) (fun q=>match q with|.inl l=>Gs u u.Z0j.length v.2.f_F.Z0j v.2.Z4z q0 l|.inr y=>y.2≠0)):=fun p hp hx=>by
    unfold Zc8
    refine I.sk fun _ _=>I.br (fun _=>I.sk fun _ _=>I.sk fun _ _=>I.br (fun h=>I.dn (ne0 h)) fun _=>I.sk fun _ _=>I.sk fun _ _=>nxt3 _ (by simp only [List.length_append,List.length_cons,List.length_nil]; omega) fun hh a ha=>?_) fun _=>nxt3 p (by omega) hx
    obtain ⟨x,x1,x2⟩:=hx hh a ha
    exact ⟨x,by rw [List.getElem?_append_left (List.getElem?_eq_some_iff.1 x1).1]; exact x1,x2⟩
   refine I.br (fun hh=>I.sk fun a ea=>I.sk fun i ei=>I.sk fun b eb=>I.sk fun _ _=>nxt2 _ (by simp) fun _ a' ha'=>?_) fun hh=>nxt2 [] (by simp) fun h=>by rw [hh] at h; cases h
   obtain ⟨_,_,ha⟩:=Z4f ea
   rw [ha] at ha'; cases ha'
   have hi:i=t.1.toNat:=by
    unfold Z3q at ei
    split at ei
    ·cases ei; rfl
    ·cases ei
   subst hi
   exact ⟨_,rfl,rfl,eb⟩
  ·have:=of_decide_eq_false hge
   have hn:t.1=u.Z0j.length:=by omega
   rw [hn] at tl tg
   exact ⟨tl,tg⟩
 cases q3 with
 | inr y=>exact I.ok fun h=>absurd h hq3
 | inl q2=>
 have hlen:(q2.length:Int)=u.Z0j.length:=hq3.1
 refine I.bd (Yd0 _ (by dsimp only; omega)) fun w hw=>I.br (fun h=>I.ok fun e=>absurd e (ne0 h)) fun h=>I.ok fun _=>?_
 obtain ⟨p1,p2,p3⟩:=hw (eq0 h)
 dsimp only at p1 p2 p3
 rw [hP] at p1 p2
 -- one method
 have one:∀ m∈u.Z0j,(m.Z1p.length≤1024)∧(m.Z3y=true→Loc m.Z13∧(m.Z13.Z0k.length≠0∧0≤m.Z13.Z0m)∧∃ sg,Z5m m.Z1p=some (sg,0)∧(sg.Z3b.length≤1000→Zba m.Z0o sg≤m.Z13.Z0c)):=fun m hm=>by
  obtain ⟨j,hj⟩:=List.getElem?_of_mem hm
  have hlt:j<u.Z0j.length:=(List.getElem?_eq_some_iff.1 hj).1
  obtain ⟨f,c,a,e1,e2,e3,e4⟩:=hM.ok hE' j m (by omega) hj
  obtain ⟨g,g1,g2,g3,g4,g5⟩:=hq3.2 j m f a (by omega) hj e1 e3
  obtain ⟨k,k1,k2,k3,k4⟩:=e4.ds p1
  refine ⟨by rw [← k4]; exact p2 k (List.mem_of_getElem? k2) k3,fun hh=>?_⟩
  obtain ⟨c1,c2,c3,c4⟩:=e4.cd hh
  obtain ⟨b,b1,b2⟩:=hq1.2 j m c (by omega) hj hh e2
  obtain ⟨x,x1,x2,x3⟩:=g5 hh
  rw [b1] at x3
  cases x3
  refine ⟨⟨by rw [← c2]; exact b2.1.loc.1,by rw [← c2]; exact b2.1.loc.2⟩,⟨by rw [← c3]; exact b2.1.ins,by rw [← c4]; exact b2.1.s0⟩,?_⟩
  have hg:Z01 q2 (j:Int)=some g:=by unfold Z01; rw [if_pos (by omega),Int.toNat_natCast]; exact g1
  obtain ⟨s,k,sg,s1,s2,s3⟩:=Ybc _ (j:Int) 0 (p3 (j:Int) (by omega) (by omega)) rfl g hg
  dsimp only at s1 s3
  rw [hP] at s1 s3
  rw [g3,Y2l p1 e4.ds] at s1
  cases s1
  refine ⟨sg,s2,fun hs=>?_⟩
  have:=i_body p1 x1 (by rw [x2]; exact c1) g4 hs b2 0 s3 rfl
  rw [g2,e4.fl,c2] at this
  exact this
 exact ⟨fun m hm=>⟨(one m hm).1,fun hh=>((one m hm).2 hh).1⟩,fun m hm hh=>((one m hm).2 hh).2⟩
theorem Y9x (u:Z0u) (hu:MB u):Im (Zcx u) (fun e=>e=0→MOk u∧MOx u):=by
 unfold Zcx
 exact I.bd (Y70 u hu) fun v hv=>I.ok hv
theorem i_cls (w:Z0w) (i:Int) {Q:Z0u→Prop} (hw:∀ c∈w.Z0z,Im (Zcx c.Z1f) fun e=>e=0→Q c.Z1f):Im (Zf4 w i) (fun b=>b=true→∀ c,Z01 w.Z0z i=some c→Q c.Z1f):=by
 unfold Zf4
 have hf:∀ Q:Prop,Im (some false) (fun b=>b=true→Q):=fun Q=>I.ok fun h=>by cases h
 exact I.sk fun c e=>I.br (fun _=>hf _) fun _=>I.br (fun _=>hf _) fun _=>I.bd (hw c (Z4f e).1) fun v hv=>I.br (fun _=>hf _) fun h=>fun r _ _ c' hc'=>by
  rw [e] at hc'; cases hc'
  exact hv (eq0 h)
theorem Y6v (w:Z0w) (hl:w.Z0z.length≤140737488355328) {Q:Z0u→Prop} (hw:∀ c∈w.Z0z,Im (Zcx c.Z1f) fun e=>e=0→Q c.Z1f):Im (Zcv w) (fun b=>b=true→∀ c∈w.Z0z,Q c.Z1f):=by
 have hf:Im (some false) (fun b=>b=true→∀ c∈w.Z0z,Q c.Z1f):=I.ok fun h=>by cases h
 have hj : Im (Zfy w) (fun b=>b=true→∀ c∈w.Z0z,Q c.Z1f):=by
  unfold Zfy
  refine I.bd (I.lp (fun _=>True) (Q:=fun q=>match q with|.inl _=>True|.inr y=>y=false) (fun t _=>?_) trivial) fun q1 h1=>?_
  ·unfold Zh1
   exact I.br (fun _=>I.sk fun _ _=>I.br (fun _=>I.dn rfl) fun _=>I.br (fun _=>I.dn rfl) fun _=>I.br (fun _=>I.dn rfl) fun _=>I.br (fun _=>I.dn rfl) fun _=>I.sk fun _ _=>I.br (fun _=>I.dn rfl) fun _=>I.sk fun _ _=>I.nx trivial) fun _=>I.dn trivial
  cases q1 with
  | inr y=>exact I.ok fun h=>by cases h1.symm.trans h
  | inl _=>
  refine I.bd (I.lp (fun _=>True) (Q:=fun q=>match q with|.inl _=>True|.inr y=>y=false) (fun t _=>?_) trivial) fun q2 h2=>?_
  ·unfold Zpu
   exact I.br (fun _=>I.sk fun _ _=>I.br (fun _=>I.dn rfl) fun _=>I.sk fun _ _=>I.br (fun _=>I.dn rfl) fun _=>I.sk fun _ _=>I.nx trivial) fun _=>I.dn trivial
  cases q2 with
  | inr y=>exact I.ok fun h=>by cases h2.symm.trans h
  | inl _=>
  refine I.bd (I.lp (fun t=>0≤t∧∀ (j:Nat) c,(j:Int)<t→w.Z0z[j]?=some c→Q c.Z1f) (Q:=fun q=>match q with|.inl _=>∀ c∈w.Z0z,Q c.Z1f|.inr y=>y=false) (fun t ht=>?_) ⟨by omega,fun j c hj=>by omega⟩) fun q3 h3=>?_
  ·unfold Zoe
   refine I.br (fun hlt=>I.bd (i_cls w t hw) fun v hv=>I.br (fun _=>I.dn rfl) fun h=>?_) fun hge=>I.dn ?_
   ·have hlt':=of_decide_eq_true hlt
    rw [Z46 (n:=t+1) (by omega) (by omega)]
    refine I.sk fun k hk=>?_
    cases hk
    refine I.nx ⟨by omega,fun j c hj hc=>?_⟩
    rcases Int.lt_or_le (j:Int) t with h'|h'
    ·exact ht.2 j c h' hc
    ·have:j=t.toNat:=by omega
     subst this
     exact hv (by simpa using h) c (by unfold Z01; rw [if_pos ht.1]; exact hc)
   ·have:=of_decide_eq_false hge
    intro c hc
    obtain ⟨j,hj⟩:=List.getElem?_of_mem hc
    have:j<w.Z0z.length:=(List.getElem?_eq_some_iff.1 hj).1
    exact ht.2 j c (by omega) hj
  cases q3 with
  | inr y=>exact I.ok fun h=>by cases h3.symm.trans h
  | inl _=>exact I.ok fun _=>h3
 unfold Zcv
 exact I.sk fun _ _=>I.br (fun _=>hf) fun _=>I.br (fun _=>hf) fun _=>I.br (fun _=>hf) fun _=>hj
theorem Z5h.mo2 {m:Z0a} (h:Z3l m) (v:Z5h m):∀ c∈m.Z1m.Z0z,MOk c.Z1f∧MOx c.Z1f:=
 Y6v (Q:=fun u=>MOk u∧MOx u) _ h.sp.clsL (fun c hc=>Y9x _ ⟨by have:=(h.sp.cls c hc).1.metL; omega,fun x hx=>by have:=(((h.sp.cls c hc).1.met x hx).code.insL); omega⟩) true v.sp rfl
theorem Z5h.mok {m:Z0a} (h:Z3l m) (v:Z5h m):∀ c∈m.Z1m.Z0z,MOk c.Z1f:=fun c hc=>(v.mo2 h c hc).1
end Go.Proofs
namespace Go.Proofs
open Go.Den Go.Tot
theorem Y9z (m:Z0a) (n:Int):Zr9 m n=Z7q m n:=rfl
theorem Ybt (m:Z0a) (t:Int):Z7o m t=Zuc m t:=rfl
theorem Y6y (m:Z0a) (n:Int) (hH:m.Z1u.length≤140737488355328):∃ b o,Z7q m n=some b∧Zfu m n=some (o,b):=by
 obtain ⟨b,e,hb⟩:=Zkm m n hH
 unfold Zfu
 rw [Y9z,e]
 cases b with
 | false=>exact ⟨_,_,rfl,rfl⟩
 | true=>
  obtain ⟨h1,h2⟩:=hb rfl
  simp only [Option.bind_some,Bool.not_true,Bool.false_eq_true,if_false]
  rw [Z46 (by omega) (by omega)]
  obtain ⟨o,e2,_⟩:=gr (l:=m.Z1u) (i:=n - 1) (by omega) (by omega)
  simp only [Option.bind_some,e2]
  exact ⟨_,_,rfl,rfl⟩
theorem wrap32 (n:Int):IntKind.wrap .i32 n=(n+2147483648) % 4294967296 - 2147483648:=by
 show (if (true&&decide (n % 4294967296≥2147483648))=true then n % 4294967296 - 4294967296 else n % 4294967296)=_
 rw [Bool.true_and]
 by_cases h:n % 4294967296≥2147483648
 ·rw [if_pos (decide_eq_true h)]; omega
 ·rw [if_neg (by simpa using h)]; omega
theorem Y9g (m:Z0a) (v:Z0f) (hH:m.Z1u.length≤140737488355328):Zka m v=Z56 m v:=by
 unfold Zka Z56
 split
 ·rfl
 split
 ·simp only [Option.bind_some]
  rw [wrap32,Z46 (by omega) (by omega)]
  by_cases h1:v.f_N≥ -2147483648
  ·rw [if_pos (decide_eq_true h1)]
   congr 1
   by_cases h2:v.f_N<2147483648
   ·rw [decide_eq_true h2,beq_iff_eq]; omega
   ·rw [decide_eq_false h2,beq_eq_false_iff_ne]; omega
  ·rw [if_neg (by simpa using h1)]
   congr 1
   rw [beq_eq_false_iff_ne]; omega
 split
 ·rfl
 obtain ⟨b,o,e1,e2⟩:=Y6y m v.f_N hH
 rw [e2]
 simp only [Option.bind_some]
 split
 ·unfold Z7y
  rw [e1]
  cases b with
  | true=>by_cases h:v.f_N=0 <;> simp [h]
  | false=>by_cases h:v.f_N=0 <;> simp [h]
 ·rfl
theorem Yao {t:Z0i} (h:okP1 t=true):Zc2 t=Zac t∧∃ k,Zc2 t=some k:=by
 unfold okP1 at h
 simp only [Bool.and_eq_true,bne_iff_ne,ne_eq] at h
 obtain ⟨hv,hb⟩:=h
 obtain ⟨_,_,hc,hl⟩:=Zmn hv
 unfold Zc2 Zac
 rw [Zzv t (by omega),Zyv t (by omega),hv]
 simp only [Option.bind_some,Bool.not_true,Bool.false_eq_true,if_false]
 rw [if_neg (by simpa using hb),if_neg (by simpa using hb)]
 unfold j79x1 Zqa j79x2 Zmc
 rcases hc with ⟨h1,_⟩|⟨h1,_⟩|⟨h1,_⟩|⟨h1,_⟩
 ·rw [h1]; constructor
  ·split <;> rfl
  ·split <;> exact ⟨_,rfl⟩
 ·rw [h1]; constructor
  ·split <;> rfl
  ·split <;> exact ⟨_,rfl⟩
 ·exact absurd h1 hb
 ·rw [h1]; constructor
  ·split <;> rfl
  ·split <;> exact ⟨_,rfl⟩
def Zb7 (x:Z1r):Option (List Int):=
 (some (Z2c .i64 x.Z0o (8:Int))).bind fun v2=>
 if (v2==0)=true then
  ((Z1a 8 (([]:List Int)++[3]).length).bind fun v3=>
  (Zb0 x) (([]:List Int)++[3])) else
 ((Zb0 x) ([]:List Int))
theorem Y75 (m:Z0a) (c w:Int) {k:Z1x} {x:Z1r} (hk:Z01 m.Z1m.Z0z c=some k) (hx:Z01 k.Z1f.Z0j w=some x):Zvg m c w=Zb7 x:=by
 unfold Zvg Zb7
 rw [hk]
 simp only [Option.bind_some,hx]
theorem Zzz (x:Z1r) (hd:x.Z1p.length≤1024):∃ l,Zcb x=some l∧Zb7 x=some l∧l.length≤17∧((Z2c .i64 x.Z0o 8==0)=true→1≤l.length):=by
 obtain ⟨v,s1,s2,_,hok,h16⟩:=Y4a x.Z1p (by omega)
 have hk:∀ t∈v.1.Z3b,Zc2 t=Zac t∧∃ k,Zc2 t=some k:=fun t ht=>Yao (List.all_eq_true.1 hok t ht)
 have hl:Zny v=Zeu v:=by
  funext t
  unfold Zny Zeu
  split
  ·cases e:Z01 v.1.Z3b t.1 with
   | none=>rfl
   | some y=>
    simp only [Option.bind_some]
    rw [(hk y (Z4f e).1).1]
  ·rfl
 have hj:∀ p:List Int,p.length≤1→∃ l,Zih x p=some l∧Zb0 x p=some l∧l.length≤17∧p.length≤l.length:=fun p hp=>by
  have ht:Ok (Z04 (Zeu v) Z05 (0,p)) (fun l=>l.length≤17∧p.length≤l.length):=by
   refine lp (fun t=>t.1) v.1.Z3b.length (fun t=>(t.2.length:Int)=p.length+t.1) (fun t hI g0 g1=>?_) (by omega) (by dsimp only; omega)
   unfold Zeu
   refine brD (fun hlt=>bd (gr g0 hlt) fun y hy=>?_) fun hge=>dn (by omega)
   obtain ⟨e1,k,e2⟩:=hk y hy
   rw [← e1,e2]
   exact bs (bd gk fun _ _=>bd wr fun z hz=>nx (by simp only [List.length_append,List.length_cons,List.length_nil]; omega))
  obtain ⟨l,e,h1,h2⟩:=ht
  refine ⟨l,?_,?_,h1,h2⟩
  ·unfold Zih
   rw [s1]
   simp only [Option.bind_some]
   rw [hl,e]; rfl
  ·unfold Zb0
   rw [s2]
   simp only [Option.bind_some]
   rw [e]; rfl
 have hg:Z1a 8 (([]:List Int)++[3]).length=some ():=Za3 8 (by decide) (by decide)
 unfold Zcb Zb7
 simp only [Option.bind_some]
 by_cases h:(Z2c .i64 x.Z0o 8==0)=true
 ·rw [if_pos h,if_pos h,hg]
  obtain ⟨l,e1,e2,h1,h2⟩:=hj ([]++[3]) (by simp)
  exact ⟨l,e1,e2,h1,fun _=>h2⟩
 ·rw [if_neg h,if_neg h]
  obtain ⟨l,e1,e2,h1,h2⟩:=hj [] (by simp)
  exact ⟨l,e1,e2,h1,fun h'=>absurd h' h⟩
def HasM (m:Z0a) (c w:Int) (k:Z1x) (x:Z1r):Prop:=Z01 m.Z1m.Z0z c=some k∧Z01 k.Z1f.Z0j w=some x
theorem Y87 (m:Z0a) (c w:Int):(Zi7 m c w=some false∧∃ x,Zcu m.Z1m { Z0y:=c,Z2o:=w }=some (x,false))∨
  (Zi7 m c w=some true∧∃ k x,HasM m c w k x∧Zcu m.Z1m { Z0y:=c,Z2o:=w }=some (x,true)):=by
 unfold Zi7 Zcu Zw0
 dsimp only
 by_cases h1:c≥0
 ·rw [if_pos (decide_eq_true h1),if_pos (decide_eq_true h1)]
  by_cases h2:c<(m.Z1m.Z0z.length:Int)
  ·rw [if_pos (decide_eq_true h2),decide_eq_true h2]
   obtain ⟨k,ek,_⟩:=gr (l:=m.Z1m.Z0z) (i:=c) h1 h2
   simp only [Option.bind_some,Bool.not_true,Bool.false_eq_true,if_false]
   by_cases h3:w≥0
   ·rw [if_pos (decide_eq_true h3),if_neg (by simpa using h3),ek]
    simp only [Option.bind_some]
    by_cases h4:w<(k.Z1f.Z0j.length:Int)
    ·obtain ⟨x,ex,_⟩:=gr (l:=k.Z1f.Z0j) (i:=w) h3 h4
     rw [if_neg (by simpa using h4),ex]
     exact .inr ⟨by rw [decide_eq_true h4],k,x,⟨ek,ex⟩,rfl⟩
    ·rw [if_pos (decide_eq_true (by omega))]
     exact .inl ⟨by rw [decide_eq_false h4],_,rfl⟩
   ·rw [if_neg (by simpa using h3),if_pos (decide_eq_true (by omega))]
    exact .inl ⟨rfl,_,rfl⟩
  ·rw [if_neg (by simpa using h2),decide_eq_false h2]
   exact .inl ⟨rfl,_,rfl⟩
 ·rw [if_neg (by simpa using h1),if_neg (by simpa using h1)]
  exact .inl ⟨rfl,_,rfl⟩
end Go.Proofs
