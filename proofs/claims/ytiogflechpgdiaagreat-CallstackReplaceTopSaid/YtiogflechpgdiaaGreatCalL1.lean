/-
  That the models come to an answer: machines. No condition.
-/
import Derived.Test.YtiogflechpgdiaaGreatCalT10
set_option linter.unusedVariables false
namespace Go.Proofs
open Go.Den Go.Tot
structure WObj (o:Z2a):Prop where
 val:o.Z4t.length≤140737488355328
 str:Str o.Z3n
 ws:o.Z5c.length≤140737488355328
structure Z76 (a:Z0x):Prop where
 loc:a.Z0d.length≤140737488355328
 stk:a.Z0i.length≤140737488355328
structure Z43 (m:Z09):Prop where
 sp:Z5b m.Z1j
 heap:∀ o∈m.Z1k,WObj o
 heapL:m.Z1k.length≤140737488355328
 ini:∀ b∈m.Z3p,b.Z8e.length≤140737488355328
 iniL:m.Z3p.length≤140737488355328
 int:∀ x∈m.Z39,Str x.Z3n
 intL:m.Z39.length≤140737488355328
 thr:∀ t∈m.Z0r,(∀ a∈t.Z0w,Z76 a)∧t.Z0w.length≤140737488355328
 thrL:m.Z0r.length≤140737488355328
 outL:m.Z4d.length≤140737488355328
theorem nT {α:Type} {o:Option Bool} {R:Prop} {P:α→Prop} {x y:Option α} (h:Ok o fun b=>b=true→R) (F:Ok x P) (T:R→Ok y P):Ok (o.bind fun v=>if (!v)=true then x else y) P:=
 bd h fun _ hb=>br! (fun _=>F) fun e=>T (hb e)
theorem nF {α:Type} {o:Option Bool} {R:Prop} {P:α→Prop} {x y:Option α} (h:Ok o fun b=>b=true→R) (F:Ok x P) (T:R→Ok y P):Ok (o.bind fun v=>if v=true then y else x) P:=
 bd h fun _ hb=>br (fun e=>T (hb e)) fun _=>F
theorem take4n (s:List UInt8) (hs:Str s):Ok (Zad s 0) (fun r=>Str r.1.Z0f):=by
 unfold Zad
 refine bd (P:=fun q:Int×Int=>0≤q.2∧q.2≤(s.length:Int)∧0≤q.1∧q.1≤4503599627370496) (lp (fun t=>t.1) s.length (fun t=>0≤t.2∧t.2≤t.1) (fun t hI g0 g1=>?_) (by omega) ⟨by omega,by omega⟩ (by omega) (by omega)) fun q hq=>?_
 ·unfold Zj6 Zmh
  refine brD (fun hlt=>bd gs fun _ _=>brE (fun _=>bd wr fun _ _=>bd wr fun _ _=>nx ?_ ?_ ?_) fun _=>dn ?_) fun _=>dn ?_ <;> dsimp only <;> omega
 ·obtain ⟨q1,q2⟩:=q
  dsimp only at hq ⊢
  have j2:∀ (v:Int) (p0:List UInt8) (p1:Int),Str p0→Ok (Zaq (q1,q2) v p0 p1) (fun r=>Str r.1.Z0f):=fun v p0 p1 g1=>by
   unfold Zaq
   exact bd (Zm4 _ g1) fun b _=>br! (fun _=>ok (by simp)) fun _=>ok g1
  refine brD (fun _=>ok (by simp)) fun _=>bd gs fun v5 _=>bd wr fun v6 h6=>brE (fun _=>?_) fun _=>j2 _ _ _ (by simp)
  refine bd (P:=fun q:Int=>v6≤q∧q≤(s.length:Int)) (lp (fun t=>t) s.length (fun t=>v6≤t) (fun t hI g0 g1=>?_) (by omega) (by omega) (by omega) (by omega)) fun q hq2=>?_
  ·unfold Zj5
   exact brD (fun hlt=>bd gs fun _ _=>brN (fun _=>bd wr fun _ _=>nx (by omega) (by omega) (by omega)) fun _=>dn ⟨by omega,by omega⟩) fun _=>dn ⟨by omega,by omega⟩
  ·exact brD (fun _=>ok (by simp)) fun _=>bd (sb (by omega) (by omega) (by omega)) fun v11 h11=>bd wr fun v12 h12=>j2 _ _ _ (by have:=h11.1; unfold Str at *; omega)
theorem parse4n (s:List UInt8) (hs:Str s):Ok (Z7n s) (fun r=>Str r.1.Z0f):=by
 unfold Z7n
 exact bd (take4n s hs) fun v hv=>brN (fun _=>ok (by simp)) fun _=>ok hv
theorem Y73 (y:Z0j) (ht:Str y.Z0f):Ok (Znd y) (fun _=>True):=by
 unfold Znd
 repeat' with_reducible first
  | unfold j82x1
  | unfold j82x2
  | refine brD (fun _=>?_) fun _=>?_
  | refine br! (fun _=>?_) fun _=>?_
  | refine brE (fun _=>?_) fun _=>?_
  | refine bd (Zm4 _ (by first|assumption|omega|exact And.left (by assumption)|(dsimp only; omega))) fun _ _=>?_
  | refine ok ?_
  | exact True.intro
theorem Zvx (s:List UInt8) (hs:Str s):Ok (Zgc s) (fun _=>True):=by
 unfold Zgc
 repeat' with_reducible first
  | refine brN (fun _=>?_) fun _=>?_
  | refine bd (parse4n _ (by first|assumption|omega|exact And.left (by assumption)|(dsimp only; omega))) fun _ _=>?_
  | refine bd (Y73 _ (by first|assumption|omega|exact And.left (by assumption)|(dsimp only; omega))) fun _ _=>?_
  | refine ok ?_
  | exact True.intro
theorem Zus (w:Z0v) (c:Int):Ok (Zfx w c) (fun b=>b=true→0≤c∧c<w.Z1a.length):=by
 unfold Zfx
 repeat' first
  | with_reducible refine brD (fun _=>?_) fun _=>?_
  | with_reducible refine ok ?_
  | (first|(intro h; cases h; done)|(intro h; have:=of_decide_eq_true h; omega))
def Zc3 (w:Z0v) (x:Z31):Prop:=0≤x.Z0s∧x.Z0s<w.Z1a.length∧0≤x.Z2o∧∀ v,Z01 w.Z1a x.Z0s=some v→x.Z2o<v.Z24.Z15.length
theorem Zva (w:Z0v) (hv:Z8d w) (c:Int) (s:Bool) (h0:0≤c) (h1:c<w.Z1a.length):Ok (Zf9 w c s) (fun r=>r.length≤64∧∀ x∈r,Zc3 w x∧x.Z0s=c):=by
 unfold Zf9
 refine bdE (gri h0 h1) fun v e hc=>?_
 have hf:=(hv.cls _ v hc.2).few.2.1
 refine bd (P:=fun q:List Z31=>q.length≤64∧∀ x∈q,Zc3 w x∧x.Z0s=c) (lp (fun t=>t.1) v.Z24.Z15.length (fun t=>(t.2.length:Int)≤t.1∧∀ x∈t.2,Zc3 w x∧x.Z0s=c) (fun t hI g0 g1=>?_) (by omega) ⟨by simp,fun x hx=>by cases hx⟩ (by omega) (by dsimp only; omega)) fun q hq=>ok hq
 obtain ⟨i1,i2⟩:=hI
 unfold Zq4
 refine brD (fun hlt=>bd (gr (by omega) hlt) fun _ _=>bd sm fun _ _=>br (fun _=>bd gk fun _ _=>bd wr fun k hk=>nx ⟨by simp only [List.length_append,List.length_cons,List.length_nil]; omega,fun x hx=>?_⟩) fun _=>bd wr fun k hk=>nx ⟨by dsimp only; omega,i2⟩) fun _=>dn ⟨by omega,i2⟩
 rcases List.mem_append.1 hx with h|h
 ·exact i2 x h
 ·rcases List.mem_singleton.1 h with rfl
  exact ⟨⟨h0,h1,g0,fun v' h'=>by rw [e] at h'; cases h'; exact hlt⟩,rfl⟩
theorem Y20 (w:Z0v) (hv:Z8d w):∀ (nn:Nat) (c:Int),c+2≤nn→1≤nn→c≤1000000→Ok (Zfw nn w c) (fun r=>(c<0→r=[])∧(0≤c→(r.length:Int)≤64*(c+1))∧∀ x∈r,Zc3 w x)
 | nn+1,c,h,_,hb=>by
  have hfew:=hv.few
  unfold Zfw
  refine bd (Zus w c) fun b hb=>br! (fun _=>ok ⟨fun _=>rfl,fun h=>by simp; omega,fun x hx=>by cases hx⟩) fun ht=>?_
  obtain ⟨h0,h1⟩:=hb ht
  refine bdE (gri h0 h1) fun v e hc=>?_
  have hs:=(hv.cls _ v hc.2).sup
  refine bd (Y20 w hv nn v.Z1z (by omega) (by omega) (by omega)) fun l hl=>?_
  obtain ⟨l1,l2,l3⟩:=hl
  have hlen:(l.length:Int)≤64*c:=by
   rcases hs with h|h
   ·rw [l1 (by omega)]; simp; omega
   ·have:=l2 h.1; omega
  refine bd (gk (by simp only [List.nil_append]; omega) (by simp only [List.nil_append]; omega)) fun _ _=>bd (Zva w hv c false h0 h1) fun o ho=>bd (gk (by simp only [List.nil_append,List.length_append]; omega) (by simp only [List.nil_append,List.length_append]; omega)) fun _ _=>ok ⟨fun h=>by omega,fun _=>by simp only [List.nil_append,List.length_append]; omega,fun x hx=>?_⟩
  simp only [List.nil_append] at hx
  rcases List.mem_append.1 hx with h|h
  ·exact l3 x h
  ·exact (ho.2 x h).1
theorem Zz1 {α:Type} {P:α→Prop} {w:Z0v} (hw:Z5b w) {x:Z31} (hx:Zc3 w x) {f:Z1s→Option α} (h:∀ v,v∈w.Z1a→x.Z2o<v.Z24.Z15.length→Ok (f v) P):Ok ((Z01 w.Z1a x.Z0s).bind f) P:=
 bdE (gr hx.1 hx.2.1) fun v e hm=>h v hm (hx.2.2.2 v e)
theorem Y6v (w:Z0v) (c:Int) (hw:Z5b w) (hv:Z8d w) (hc:c≤1000000):Ok (Zja w c) (fun _=>True):=by
 unfold Zja
 have hr:(Z08:Int)=18446744073709551616:=rfl
 refine bd (Y20 w hv Z08 c (by omega) (by unfold Z08; omega) hc) fun l hl=>?_
 obtain ⟨l1,l2,l3⟩:=hl
 have hlen:(l.length:Int)≤64000064:=by
  rcases Int.lt_or_le c 0 with h|h
  ·rw [l1 h]; simp
  ·have:=l2 h; omega
 refine bd (P:=fun _=>True) (lp (fun t=>t.1) l.length (fun t=>(t.2.length:Int)≤t.1) (fun t hI g0 g1=>?_) (by omega) (by simp) (by omega) (by dsimp only; omega)) fun q _=>ok trivial
 unfold l93x1
 refine brD (fun hlt=>bdE (gr (by omega) hlt) fun s e hs=>Zz1 hw (l3 s hs) fun v hm hi=>?_) fun _=>dn trivial
 rw [e]
 refine bs (bd (gr (l3 s hs).2.2.1 hi) fun f hf=>bd (Zvx _ ((hw.cls v hm).1.fld f hf).d) fun _ _=>bd gk fun _ _=>bd wr fun k hk=>nx (by simp only [List.length_append,List.length_cons,List.length_nil]; omega))
theorem Y86 (w:Z0v) (c:Int) (hw:Z5b w) (hv:Z8d w):Ok (Znz w c) (fun _=>True):=by
 unfold Znz Zoo
 refine bd (P:=fun l:List Z31=>l.length≤64∧∀ x∈l,Zc3 w x∧x.Z0s=c) ?_ fun l hl=>?_
 ·refine bd (Zus w c) fun b hb=>br! (fun _=>ok ⟨by simp,fun x hx=>by cases hx⟩) fun ht=>?_
  exact bd (Zva w hv c true (hb ht).1 (hb ht).2) fun r hr=>ok hr
 ·refine bd (P:=fun _=>True) (lp (fun t=>t.1) l.length (fun t=>(t.2.length:Int)≤t.1) (fun t hI g0 g1=>?_) (by omega) (by simp) (by omega) (by dsimp only; omega)) fun q _=>ok trivial
  have hl1:=hl.1
  unfold l68x1
  refine brD (fun hlt=>?_) fun _=>dn trivial
  obtain ⟨s,hs,hsm⟩:=gr (l:=l) g0 hlt
  obtain ⟨k1,k2⟩:=hl.2 s hsm
  subst k2
  refine Zz1 hw k1 fun v hm hi=>?_
  rw [hs]
  refine bs (bd (gr k1.2.2.1 hi) fun f hf=>?_)
  have nxt:∀ y:Z0h,Ok ((Z1l 16 (t.2++[y]).length).bind fun _=>(some (IntKind.wrap .i64 (t.1+1))).bind fun v14=>some (Ctl.next (v14,t.2++[y]))) (St (fun t:Int×List Z0h=>(t.2.length:Int)≤t.1) (fun t=>t.1) l.length (fun _:List Z0h=>True) t):=fun y=>
   bd gk fun _ _=>bd wr fun k hk=>nx (by simp only [List.length_append,List.length_cons,List.length_nil]; omega)
  exact br (fun _=>nxt _) fun _=>br (fun _=>nxt _) fun _=>bd (Zvx _ ((hw.cls v hm).1.fld f hf).d) fun y _=>nxt y
theorem Zhg (m:Z09) (n:Int) (hH:m.Z1k.length≤140737488355328):Ok (Z7i m n) (fun b=>b=true→1≤n∧n≤m.Z1k.length):=by
 unfold Z7i
 repeat' first
  | with_reducible refine brD (fun _=>?_) fun _=>?_
  | with_reducible refine bd gr fun _ _=>?_
  | with_reducible refine bd wr fun _ _=>?_
  | with_reducible refine ok ?_
  | (first|(intro h; cases h; done)|(intro h; have:=of_decide_eq_true h; omega)|(intro _; omega))
theorem Zif (m:Z09) (n:Int) (hH:m.Z1k.length≤140737488355328):Ok (Z7h m n) (fun _=>True):=by
 unfold Z7h
 repeat' with_reducible first
  | refine brE (fun _=>?_) fun _=>?_
  | refine bd (Zhg _ _ (by first|assumption|omega|exact And.left (by assumption)|(dsimp only; omega))) fun _ _=>?_
  | refine ok ?_
  | exact True.intro
theorem Zc6 (m:Z09) (v:Z0h) (hH:m.Z1k.length≤140737488355328):Ok (Z6g m v) (fun _=>True):=by
 unfold Z6g
 repeat' with_reducible first
  | refine brD (fun _=>?_) fun _=>?_
  | refine brE (fun _=>?_) fun _=>?_
  | refine bd (Zif _ _ (by first|assumption|omega|exact And.left (by assumption)|(dsimp only; omega))) fun _ _=>?_
  | refine ok ?_
  | exact True.intro
theorem Zrr (m:Z09) (n:Int):Ok (Z8q m n) (fun b=>b=true→0≤n∧n<m.Z0r.length):=by
 unfold Z8q
 repeat' first
  | with_reducible refine brD (fun _=>?_) fun _=>?_
  | with_reducible refine ok ?_
  | (first|(intro h; cases h; done)|(intro h; have:=of_decide_eq_true h; omega)|(intro _; omega))
theorem L30x1 (m:Z09) (hH:m.Z1k.length≤140737488355328) (hi:m.Z39.length≤140737488355328):Ok (Z07 (Znc m) Z08 0) (fun _=>True):=by
 refine li (m.Z39.length) (fun t _ _=>?_) (by omega) (by omega) (by omega)
 unfold Znc
 repeat' first
  | with_reducible refine nT (Zhg _ _ (by assumption)) ?_ fun _=>?_
  | with_reducible refine ni ?_ ?_
  | with_reducible refine di ?_
  | with_reducible refine brD (fun _=>?_) fun _=>?_
  | with_reducible refine br (fun _=>?_) fun _=>?_
  | with_reducible refine bd gr fun _ _=>?_
  | with_reducible refine bd wr fun _ _=>?_
  | exact True.intro
  | omega
theorem Y66 (m:Z09) (hH:m.Z1k.length≤140737488355328) (hi:m.Z39.length≤140737488355328):Ok (Zek m) (fun _=>True):=by
 unfold Zek
 repeat' first
  | with_reducible refine bd (L30x1 _ (by first|assumption|omega|exact And.left (by assumption)|(dsimp only; omega)) (by first|assumption|omega|exact And.left (by assumption)|(dsimp only; omega))) fun _ _=>?_
  | with_reducible refine ok ?_
  | split
  | assumption
theorem L67x1 (m:Z09) (x y:List Z0h) (hH:m.Z1k.length≤140737488355328) (hx:x.length≤140737488355328) (e:(x.length:Int)=y.length):Ok (Z07 (Zhp m x y) Z08 0) (fun _=>True):=by
 refine li (x.length) (fun t _ _=>?_) (by omega) (by omega) (by omega)
 unfold Zhp
 repeat' first
  | with_reducible refine ni ?_ ?_
  | with_reducible refine di ?_
  | with_reducible refine brD (fun _=>?_) fun _=>?_
  | with_reducible refine br! (fun _=>?_) fun _=>?_
  | with_reducible refine brN (fun _=>?_) fun _=>?_
  | with_reducible refine bd gr fun _ _=>?_
  | with_reducible refine bd wr fun _ _=>?_
  | with_reducible refine bd (Zc6 _ _ (by first|assumption|omega|exact And.left (by assumption)|(dsimp only; omega))) fun _ _=>?_
  | exact True.intro
  | omega
theorem Zyq (m:Z09) (x y:List Z0h) (hH:m.Z1k.length≤140737488355328) (hx:x.length≤140737488355328):Ok (Zh0 m x y) (fun _=>True):=by
 unfold Zh0
 repeat' with_reducible first
  | refine brN (fun _=>?_) fun _=>?_
  | refine bd (L67x1 _ _ _ (by first|assumption|omega|exact And.left (by assumption)|(dsimp only; omega)) (by first|assumption|omega|exact And.left (by assumption)|(dsimp only; omega)) (by first|assumption|omega|exact And.left (by assumption)|(dsimp only; omega))) fun _ _=>?_
  | refine ok ?_
  | split
  | exact True.intro
theorem L63x2 (k:Int) (o:Z2a) (a:Int) (h0:0≤k) (h1:k<o.Z5c.length) (hl:o.Z5c.length≤140737488355328):Ok (Z07 (Ziq k o a) Z08 0) (fun _=>True):=by
 refine li (k) (fun t _ _=>?_) (by omega) (by omega) (by omega)
 unfold Ziq
 repeat' first
  | with_reducible refine ni ?_ ?_
  | with_reducible refine di ?_
  | with_reducible refine brD (fun _=>?_) fun _=>?_
  | with_reducible refine brE (fun _=>?_) fun _=>?_
  | with_reducible refine bd gr fun _ _=>?_
  | with_reducible refine bd wr fun _ _=>?_
  | exact True.intro
  | omega
theorem L63x1 (o:Z2a) (m:Z09) (n:Int) (hl:o.Z5c.length≤140737488355328):Ok (Z07 (Zb1 o m n) Z08 0) (fun _=>True):=by
 refine li (o.Z5c.length) (fun t h0 h1=>?_) (by omega) (by omega) (by omega)
 unfold Zb1 j63x2
 exact brD (fun hlt=>bd (gr h0 hlt) fun k hk=>nT (Zrr _ _) (di trivial) fun ht=>bd (gr ht.1 ht.2) fun _ _=>brN (fun _=>di trivial) fun _=>bd (gr ht.1 ht.2) fun _ _=>bd sm fun _ _=>brN (fun _=>di trivial) fun _=>bd (L63x2 t o k h0 (by omega) hl) fun q _=>match q with
  | .inl _=>bd wr fun _ _=>ni (by omega) (by omega)
  | .inr _=>di trivial) fun _=>di trivial
theorem Y7x (m:Z09) (n:Int) (h:Z43 m) (h0:0≤n) (h1:n<m.Z1k.length):Ok (Z96 m n) (fun _=>True):=by
 have hj:∀ o∈m.Z1k,Ok (Z6w o m n) (fun _=>True):=fun o ho=>by
  unfold Z6w
  exact bd (L63x1 o m n (h.heap o ho).ws) fun q _=>match q with
   | .inl _=>ok trivial
   | .inr _=>ok trivial
 unfold Z96
 refine bd (gr h0 h1) fun o ho=>?_
 have k2:Ok (if (o.Z7o==0)=true then (if (o.Z3f !=0)=true then some false else Z6w o m n) else Z6w o m n) (fun _=>True):=brE (fun _=>brN (fun _=>ok trivial) fun _=>hj o ho) fun _=>hj o ho
 exact brN (fun _=>bd sm fun _ _=>bd (Zrr _ _) fun _ _=>br! (fun _=>ok trivial) fun _=>brD (fun _=>ok trivial) fun _=>k2) fun _=>k2
theorem Y8i (m:Z09) (o:Z2a) (h:Z43 m) (hv:Z8d m.Z1j) (ho:WObj o):Ok (Zcd m o) (fun _=>True):=by
 have hH:=h.heapL; have hw:=h.sp; have:=hv.few; have:=ho.val
 unfold Zcd
 repeat' with_reducible first
  | refine brD (fun _=>?_) fun _=>?_
  | refine br (fun _=>?_) fun _=>?_
  | refine bd gr fun _ _=>?_
  | refine bd (Y6v _ _ (by first|assumption|omega|exact And.left (by assumption)|(dsimp only; omega)) (by first|assumption|omega|exact And.left (by assumption)|(dsimp only; omega)) (by first|assumption|omega|exact And.left (by assumption)|(dsimp only; omega))) fun _ _=>?_
  | refine bd (Zyq _ _ _ (by first|assumption|omega|exact And.left (by assumption)|(dsimp only; omega)) (by first|assumption|omega|exact And.left (by assumption)|(dsimp only; omega))) fun _ _=>?_
  | refine bs ?_
  | refine ok ?_
  | exact True.intro
theorem Y8c (t:Z3g):Ok (Zmm t) (fun _=>True):=by
 unfold Zmm
 repeat' with_reducible first
  | refine bd sm fun _ _=>?_
  | refine brD (fun _=>?_) fun _=>?_
  | refine ok ?_
  | exact True.intro
theorem Y7c (w:Z0v) (t:Z3g):Ok (Zoh w t) (fun _=>True):=by
 unfold Zoh
 repeat' with_reducible first
  | unfold j95x1
  | refine brD (fun _=>?_) fun _=>?_
  | refine brE (fun _=>?_) fun _=>?_
  | refine ok ?_
  | exact True.intro
theorem Y81 (t:Z3g):Ok (Zms t) (fun _=>True):=by
 unfold Zms
 repeat' with_reducible first
  | unfold Zhb
  | refine brE (fun _=>?_) fun _=>?_
  | refine ok ?_
  | exact True.intro
theorem L64x1 (e:Z3g×Bool) (m:Z09) (o:Z2a) (hH:m.Z1k.length≤140737488355328) (ho:o.Z4t.length≤140737488355328):Ok (Z07 (Zkh e m o) Z08 0) (fun _=>True):=by
 refine li (o.Z4t.length) (fun t _ _=>?_) (by omega) (by omega) (by omega)
 unfold Zkh
 repeat' first
  | with_reducible refine ni ?_ ?_
  | with_reducible refine di ?_
  | with_reducible refine brD (fun _=>?_) fun _=>?_
  | with_reducible refine br! (fun _=>?_) fun _=>?_
  | with_reducible refine brN (fun _=>?_) fun _=>?_
  | with_reducible refine bd gr fun _ _=>?_
  | with_reducible refine bd wr fun _ _=>?_
  | with_reducible refine bd (Y81 _) fun _ _=>?_
  | with_reducible refine bd (Zc6 _ _ (by first|assumption|omega|exact And.left (by assumption)|(dsimp only; omega))) fun _ _=>?_
  | exact True.intro
  | omega
theorem Y7s (m:Z09) (o:Z2a) (h:Z43 m) (ho:WObj o):Ok (Zcg m o) (fun _=>True):=by
 have hH:=h.heapL; have:=ho.val
 unfold Zcg
 repeat' first
  | unfold j64x1
  | with_reducible refine bd (Y8c _) fun _ _=>?_
  | with_reducible refine bd (Y7c _ _) fun _ _=>?_
  | with_reducible refine bd (L64x1 _ _ _ (by first|assumption|omega|exact And.left (by assumption)|(dsimp only; omega)) (by first|assumption|omega|exact And.left (by assumption)|(dsimp only; omega))) fun _ _=>?_
  | with_reducible refine ok ?_
  | split
  | assumption
theorem Y62 (w:Z0v) (l:Int) (s:List UInt8) (hw:Z5b w):Ok (Zo3 w l s) (fun _=>True):=by
 unfold Zo3
 repeat' first
  | with_reducible refine bd (Y42 _ _ _ (by first|assumption|omega|exact And.left (by assumption)|(dsimp only; omega))) fun _ _=>?_
  | with_reducible refine ok ?_
  | assumption
theorem Y9a (m:Z09) (o:Z2a) (h:Z43 m):Ok (Zlb m o) (fun _=>True):=by
 have hw:=h.sp
 unfold Zlb
 repeat' first
  | with_reducible refine br (fun _=>?_) fun _=>?_
  | with_reducible refine bd (Y62 _ _ _ (by first|assumption|omega|exact And.left (by assumption)|(dsimp only; omega))) fun _ _=>?_
  | with_reducible refine ok ?_
  | assumption
theorem Y70 (m:Z09) (n:Int) (h:Z43 m) (hv:Z8d m.Z1j) (h0:0≤n) (h1:n<m.Z1k.length):Ok (Z87 m n) (fun _=>True):=by
 unfold Z87
 repeat' with_reducible first
  | refine bd (Y8i _ _ h hv (h.heap _ (by assumption))) fun _ _=>?_
  | refine bd (Y7s _ _ h (h.heap _ (by assumption))) fun _ _=>?_
  | refine br (fun _=>?_) fun _=>?_
  | refine bd gr fun _ _=>?_
  | refine bd (Y7x _ _ (by first|assumption|omega|exact And.left (by assumption)|(dsimp only; omega)) (by first|assumption|omega|exact And.left (by assumption)|(dsimp only; omega)) (by first|assumption|omega|exact And.left (by assumption)|(dsimp only; omega))) fun _ _=>?_
  | refine bd (Y9a _ _ (by first|assumption|omega|exact And.left (by assumption)|(dsimp only; omega))) fun _ _=>?_
  | refine ok ?_
  | exact True.intro
theorem Y78 (m:Z09) (n:Int) (h:Z43 m) (hv:Z8d m.Z1j) (h0:0≤n) (h1:n<m.Z3p.length):Ok (Z7z m n) (fun _=>True):=by
 have hH:=h.heapL; have hw:=h.sp
 unfold Z7z
 repeat' with_reducible first
  | unfold Z9u
  | refine brD (fun _=>?_) fun _=>?_
  | refine br! (fun _=>?_) fun _=>?_
  | refine brE (fun _=>?_) fun _=>?_
  | refine brN (fun _=>?_) fun _=>?_
  | refine bd gr fun _ _=>?_
  | refine bd (Zrr _ _) fun _ _=>?_
  | refine bd (Y86 _ _ (by first|assumption|omega|exact And.left (by assumption)|(dsimp only; omega)) (by first|assumption|omega|exact And.left (by assumption)|(dsimp only; omega))) fun _ _=>?_
  | refine bd (Zyq _ _ _ (by first|assumption|exact h.ini _ (by assumption)) (by first|assumption|exact h.ini _ (by assumption))) fun _ _=>?_
  | refine ok ?_
  | exact True.intro
theorem L100x1 (l:List Int) (n:Int) (hl:l.length≤140737488355328):Ok (Z07 (Zlh l n) Z08 0) (fun _=>True):=by
 refine li (l.length) (fun t _ _=>?_) (by omega) (by omega) (by omega)
 unfold Zlh
 repeat' first
  | with_reducible refine ni ?_ ?_
  | with_reducible refine di ?_
  | with_reducible refine brD (fun _=>?_) fun _=>?_
  | with_reducible refine brE (fun _=>?_) fun _=>?_
  | with_reducible refine bd gr fun _ _=>?_
  | with_reducible refine bd wr fun _ _=>?_
  | exact True.intro
  | omega
theorem Y5o (l:List Int) (n:Int) (hl:l.length≤140737488355328):Ok (Zhk l n) (fun _=>True):=by
 unfold Zhk
 repeat' first
  | with_reducible refine bd (L100x1 _ _ (by first|assumption|omega|exact And.left (by assumption)|(dsimp only; omega))) fun _ _=>?_
  | with_reducible refine ok ?_
  | split
  | assumption
theorem Y4y (m:Z09) (n:Int) (h:Z43 m) (h0:0≤n) (h1:n<m.Z0r.length):Ok (Zaw m n) (fun _=>True):=by
 have hH:=h.heapL
 unfold Zaw
 repeat' with_reducible first
  | refine nF (Zhg _ _ (by assumption)) ?_ fun _=>?_
  | unfold j69x1
  | unfold j69x2
  | refine brD (fun _=>?_) fun _=>?_
  | refine brE (fun _=>?_) fun _=>?_
  | refine bd gr fun _ _=>?_
  | refine bd wr fun _ _=>?_
  | refine bd (Y5o _ _ (by exact (h.heap _ (by assumption)).ws)) fun _ _=>?_
  | refine ok ?_
  | exact True.intro
theorem L83x1 (m:Z09) (x:List Z0h) (b:Bool) (hH:m.Z1k.length≤140737488355328) (hx:x.length≤140737488355328):Ok (Z07 (Z89 m x b) Z08 0) (fun _=>True):=by
 refine li (x.length) (fun t _ _=>?_) (by omega) (by omega) (by omega)
 unfold Z89
 repeat' first
  | with_reducible refine ni ?_ ?_
  | with_reducible refine di ?_
  | with_reducible refine brD (fun _=>?_) fun _=>?_
  | with_reducible refine br! (fun _=>?_) fun _=>?_
  | with_reducible refine brE (fun _=>?_) fun _=>?_
  | with_reducible refine bd gr fun _ _=>?_
  | with_reducible refine bd wr fun _ _=>?_
  | with_reducible refine bd (Zc6 _ _ (by first|assumption|omega|exact And.left (by assumption)|(dsimp only; omega))) fun _ _=>?_
  | exact True.intro
  | omega
theorem Y7i (m:Z09) (x:List Z0h) (b:Bool) (hH:m.Z1k.length≤140737488355328) (hx:x.length≤140737488355328):Ok (Z9k m x b) (fun _=>True):=by
 unfold Z9k
 repeat' first
  | with_reducible refine bd (L83x1 _ _ _ (by first|assumption|omega|exact And.left (by assumption)|(dsimp only; omega)) (by first|assumption|omega|exact And.left (by assumption)|(dsimp only; omega))) fun _ _=>?_
  | with_reducible refine ok ?_
  | split
  | assumption
theorem Zve (m:Z09) (a:Z0x) (hH:m.Z1k.length≤140737488355328) (ha:Z76 a):Ok (Z4f m a) (fun _=>True):=by
 have:=ha.loc; have:=ha.stk
 unfold Z4f
 repeat' with_reducible first
  | unfold Zfe
  | unfold Zgy
  | unfold Znl
  | refine brD (fun _=>?_) fun _=>?_
  | refine br (fun _=>?_) fun _=>?_
  | refine bd gr fun _ _=>?_
  | refine bd (Zif _ _ (by first|assumption|omega|exact And.left (by assumption)|(dsimp only; omega))) fun _ _=>?_
  | refine bd (Y7i _ _ _ (by first|assumption|omega|exact And.left (by assumption)|(dsimp only; omega)) (by first|assumption|omega|exact And.left (by assumption)|(dsimp only; omega))) fun _ _=>?_
  | refine ok ?_
  | exact True.intro
theorem allL {n:Nat} (hn:n≤140737488355328) (g:Int→Option Bool) {f:Int→Option (Ctl Int (Unit⊕Bool))} (hg:∀ t:Int,0≤t→t<n→Ok (g t) fun _=>True)
  (hf:∀ t,f t=if decide (t<(n:Int))=true then ((g t).bind fun v=>if (!v)=true then some (.done (.inr false)) else ((some (IntKind.wrap .i64 (t+1))).bind fun k=>some (.next k))) else some (.done (.inl ()))):
  Ok (Z07 f Z08 0) (fun q=>(q=.inl ()∧∀ t:Int,0≤t→t<n→g t=some true)∨(q=.inr false∧∃ t:Int,0≤t∧t<n∧g t=some false)):=by
 refine lp (fun t=>t) n (fun t=>∀ j:Int,0≤j→j<t→g j=some true) (fun t hI h0 h1=>?_) (by omega) (fun j h h'=>by omega) (by omega) (by omega)
 rw [hf]
 refine brD (fun hlt=>?_) fun hge=>dn (.inl ⟨rfl,fun j h h'=>hI j h (by omega)⟩)
 obtain ⟨b,hb,_⟩:=hg t h0 hlt
 rw [hb]
 cases b with
 | false=>exact ⟨_,rfl,.inr ⟨rfl,t,h0,hlt,hb⟩⟩
 | true=>
  refine bs (br! (fun h=>by cases h) fun _=>bd wr fun k hk=>nx (fun j hj hj'=>?_) (by omega) (by omega))
  rcases Int.lt_or_le j t with h|h
  ·exact hI j hj h
  ·rw [show j=t by omega]; exact hb
theorem Zks {n:Nat} (hn:n≤140737488355328) (g:Int→Option Bool) {f:Int→Option (Ctl Int (Unit⊕Bool))} (hg:∀ t:Int,0≤t→t<n→g t=some true)
  (hf:∀ t,f t=if decide (t<(n:Int))=true then ((g t).bind fun v=>if (!v)=true then some (.done (.inr false)) else ((some (IntKind.wrap .i64 (t+1))).bind fun k=>some (.next k))) else some (.done (.inl ()))):
  Z07 f Z08 0=some (.inl ()):=by
 obtain ⟨q,e,h⟩:=allL hn g (fun t h h'=>ok' (hg t h h') trivial) hf
 rcases h with ⟨rfl,_⟩|⟨_,t,h0,h1,h2⟩
 ·exact e
 ·rw [hg t h0 h1] at h2; cases h2
theorem acts_ok (m:Z09) (t:Z1i) (hH:m.Z1k.length≤140737488355328) (ha:∀ a∈t.Z0w,Z76 a) (hl:t.Z0w.length≤140737488355328):
  Ok (Z7j t m) (fun b=>b=true→∀ a∈t.Z0w,Z4f m a=some true):=by
 unfold Z7j
 refine bd (allL hl (fun i=>(Z01 t.Z0w i).bind (Z4f m)) (fun i h0 h1=>bd (gr h0 h1) fun a hm=>Zve m a hH (ha a hm)) fun i=>?_) fun q hq=>?_
 ·unfold Zlt
  split
  ·rw [Option.bind_assoc]
  ·rfl
 ·rcases hq with ⟨rfl,h⟩|⟨rfl,_⟩
  ·refine ok fun _ a hm=>?_
   obtain ⟨i,hi⟩:=List.getElem?_of_mem hm
   have hlt:i<t.Z0w.length:=(List.getElem?_eq_some_iff.1 hi).1
   have:=h i (by omega) (by omega)
   obtain ⟨a',e,_,hx⟩:=gri (l:=t.Z0w) (i:=(i:Int)) (by omega) (by omega)
   rw [e] at this
   simp only [Int.toNat_natCast] at hx
   rw [hi] at hx
   cases hx
   exact this
  ·exact ok fun h=>by cases h
theorem Y1r (m:Z09) (n:Int) (h:Z43 m) (h0:0≤n) (h1:n<m.Z0r.length):Ok (Z7f m n) (fun b=>b=true→∀ t,Z01 m.Z0r n=some t→t.Z0w.length≤64∧∀ a∈t.Z0w,Z4f m a=some true):=by
 have hH:=h.heapL
 unfold Z7f
 refine bdE (gr h0 h1) fun t e hm=>bd (Y4y m n h h0 h1) fun _ _=>br! (fun _=>ok fun h=>by cases h) fun _=>bd (Zif _ _ hH) fun _ _=>br! (fun _=>ok fun h=>by cases h) fun _=>bd (Zif _ _ hH) fun _ _=>br! (fun _=>ok fun h=>by cases h) fun _=>bd (Zc6 _ _ hH) fun _ _=>br! (fun _=>ok fun h=>by cases h) fun _=>brD (fun _=>ok fun h=>by cases h) fun hle=>?_
 have hj:Ok (Z7j t m) (fun b=>b=true→∀ t',Z01 m.Z0r n=some t'→t'.Z0w.length≤64∧∀ a∈t'.Z0w,Z4f m a=some true):=
  (acts_ok m t hH (h.thr t hm).1 (h.thr t hm).2).mono fun b hb hbt t' ht'=>by
   rw [e] at ht'; cases ht'
   exact ⟨by omega,hb hbt⟩
 have hf:Ok (some false) (fun b=>b=true→∀ t',Z01 m.Z0r n=some t'→t'.Z0w.length≤64∧∀ a∈t'.Z0w,Z4f m a=some true):=ok fun h=>by cases h
 unfold Zd1
 exact brE (fun _=>brD (fun _=>hf) fun _=>brN (fun _=>brN (fun _=>hf) fun _=>br! (fun _=>hf) fun _=>hj) fun _=>hj) fun _=>brN (fun _=>brN (fun _=>hf) fun _=>br! (fun _=>hf) fun _=>hj) fun _=>hj
structure Z5v (m:Z09):Prop where
 sp:Zei m.Z1j=some true
 vok:Z8d m.Z1j
 max0:0≤m.Z57
 max1:m.Z57≤5000
 heap:m.Z1k.length≤5000
 init:m.Z3p.length≤m.Z1j.Z1a.length
 thr:m.Z0r.length≤8
 txt:Zek m=some true
 obj:∀ t,0≤t→t<(m.Z1k.length:Int)→Z87 m t=some true
 beg:∀ t,0≤t→t<(m.Z3p.length:Int)→Z7z m t=some true
 run:∀ t,0≤t→t<(m.Z0r.length:Int)→Z7f m t=some true
theorem valid36 (m:Z09) (h:Z43 m):Ok (Zbj m) (fun b=>b=true→Z5v m):=by
 have hf:Ok (some false) (fun b=>b=true→Z5v m):=ok fun h=>by cases h
 unfold Zbj
 refine bdE (Y6k m.Z1j h.sp) fun b e hb=>?_
 cases b with
 | false=>exact hf
 | true=>
 have hv:=hb rfl
 refine br! (fun _=>hf) fun _=>brD (fun _=>hf) fun k1=>brD (fun _=>hf) fun k2=>brD (fun _=>hf) fun k3=>brD (fun _=>hf) fun k4=>brD (fun _=>hf) fun k5=>bdE (Y66 m h.heapL h.intL) fun b2 e2 _=>?_
 cases b2 with
 | false=>exact hf
 | true=>
 refine br! (fun _=>hf) fun _=>?_
 unfold j9x1
 refine bd (allL h.heapL (Z87 m) (fun t a b=>(Y70 m t h hv a b).mono fun _ _=>trivial) fun t=>by unfold l9x1; rfl) fun q1 hq1=>?_
 rcases hq1 with ⟨rfl,o1⟩|⟨rfl,_⟩
 rotate_left
 ·exact hf
 refine bd (allL h.iniL (Z7z m) (fun t a b=>(Y78 m t h hv a b).mono fun _ _=>trivial) fun t=>by unfold l9x2; rfl) fun q2 hq2=>?_
 rcases hq2 with ⟨rfl,o2⟩|⟨rfl,_⟩
 rotate_left
 ·exact hf
 refine bd (allL h.thrL (Z7f m) (fun t a b=>(Y1r m t h a b).mono fun _ _=>trivial) fun t=>by unfold l9x3; rfl) fun q3 hq3=>?_
 rcases hq3 with ⟨rfl,o3⟩|⟨rfl,_⟩
 rotate_left
 ·exact hf
 exact ok fun _=>⟨e,hv,by omega,by omega,by omega,by omega,by omega,e2,o1,o2,o3⟩
theorem Z5v.valid {m:Z09} (h:Z43 m) (v:Z5v m):Zbj m=some true:=by
 unfold Zbj j9x1
 rw [v.sp,v.txt,Zks h.heapL (Z87 m) v.obj (fun t=>by unfold l9x1; rfl),Zks h.iniL (Z7z m) v.beg (fun t=>by unfold l9x2; rfl),Zks h.thrL (Z7f m) v.run (fun t=>by unfold l9x3; rfl)]
 have:=v.max0; have:=v.max1; have:=v.heap; have:=v.init; have:=v.thr
 simp only [Option.bind_some,Bool.not_true,Bool.false_eq_true,if_false]
 rw [if_neg (by simpa using v.max0),if_neg (by simpa using v.max1),if_neg (by simp; omega),if_neg (by simp; omega),if_neg (by simp; omega)]
theorem Z5v.acts {m:Z09} (h:Z43 m) (v:Z5v m) {n:Int} {t:Z1i} (h0:0≤n) (ht:Z01 m.Z0r n=some t) (h1:n<m.Z0r.length):t.Z0w.length≤64∧∀ a∈t.Z0w,Z4f m a=some true:=by
 obtain ⟨b,e,hb⟩:=Y1r m n h h0 h1
 rw [v.run n h0 h1] at e
 cases e
 exact hb rfl t ht
end Go.Proofs
namespace Go.Proofs
open Go.Den
end Go.Proofs
namespace Go.Proofs
open Go.Den
theorem Y2p {n:Nat} (b:Nat) (h:n*b≤140737488355328) (hb:1≤b):Z1l b n=some ():=by
 unfold Z1l
 have:n≤n*b:=Nat.le_mul_of_pos_right n hb
 rw [if_pos ⟨by omega,h⟩]
end Go.Proofs
namespace Go.Proofs
open Go.Den Go.Tot
namespace I
variable {α β:Type} {P:α→Prop} {Q:β→Prop}
end I
theorem Zn1 {α:Type} {l:List α} {i:Int} {v:α} (h:Z01 l i=some v):v∈l∧0≤i∧l[i.toNat]?=some v:=by
 unfold Z01 at h
 split at h
 ·exact ⟨List.mem_of_getElem? h,by assumption,h⟩
 ·cases h
end Go.Proofs
namespace Go.Proofs
open Go.Den Go.Tot
theorem Y5i (m:Z09) (n:Int):Zrx m n=Z7i m n:=rfl
theorem Y4e (m:Z09) (n:Int) (hH:m.Z1k.length≤140737488355328):∃ b o,Z7i m n=some b∧Zcp m n=some (o,b):=by
 obtain ⟨b,e,hb⟩:=Zhg m n hH
 unfold Zcp
 rw [Y5i,e]
 cases b with
 | false=>exact ⟨_,_,rfl,rfl⟩
 | true=>
  obtain ⟨h1,h2⟩:=hb rfl
  simp only [Option.bind_some,Bool.not_true,Bool.false_eq_true,if_false]
  rw [Zal (by omega) (by omega)]
  obtain ⟨o,e2,_⟩:=gr (l:=m.Z1k) (i:=n - 1) (by omega) (by omega)
  simp only [Option.bind_some,e2]
  exact ⟨_,_,rfl,rfl⟩
theorem wrap32 (n:Int):IntKind.wrap .i32 n=(n+2147483648) % 4294967296 - 2147483648:=by
 show (if (true&&decide (n % 4294967296≥2147483648))=true then n % 4294967296 - 4294967296 else n % 4294967296)=_
 rw [Bool.true_and]
 by_cases h:n % 4294967296≥2147483648
 ·rw [if_pos (decide_eq_true h)]; omega
 ·rw [if_neg (by simpa using h)]; omega
theorem Zv0 (m:Z09) (v:Z0h) (hH:m.Z1k.length≤140737488355328):Zbv m v=Z6g m v:=by
 unfold Zbv Z6g
 split
 ·rfl
 split
 ·simp only [Option.bind_some]
  rw [wrap32,Zal (by omega) (by omega)]
  by_cases h1:v.f_N≥ -2147483648
  ·rw [if_pos (decide_eq_true h1)]
   congr 1
   by_cases h2:v.f_N<2147483648
   ·rw [decide_eq_true h2,beq_iff_eq]; omega
   ·rw [decide_eq_false h2,beq_eq_false_iff_ne]; omega
  ·rw [if_neg (by simpa using h1)]
   congr 1
   rw [beq_eq_false_iff_ne]; omega
 split
 ·rfl
 obtain ⟨b,o,e1,e2⟩:=Y4e m v.f_N hH
 rw [e2]
 simp only [Option.bind_some]
 split
 ·unfold Z7h
  rw [e1]
  cases b with
  | true=>by_cases h:v.f_N=0 <;> simp [h]
  | false=>by_cases h:v.f_N=0 <;> simp [h]
 ·rfl
end Go.Proofs
