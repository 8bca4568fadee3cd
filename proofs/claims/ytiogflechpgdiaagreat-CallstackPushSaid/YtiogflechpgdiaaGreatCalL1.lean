/-
  That the models come to an answer: machines. No condition.
-/
import Derived.Test.YtiogflechpgdiaaGreatCalT10
set_option linter.unusedVariables false
namespace Go.Proofs
open Go.Den Go.Tot
structure WObj (o:Z2d):Prop where
 val:o.Z4y.length≤140737488355328
 str:Str o.Z3t
 ws:o.Z5h.length≤140737488355328
structure Z9a (a:Z10):Prop where
 loc:a.Z0f.length≤140737488355328
 stk:a.Z0g.length≤140737488355328
structure Z3n (m:Z09):Prop where
 sp:Z5e m.Z12
 heap:∀ o∈m.Z1n,WObj o
 heapL:m.Z1n.length≤140737488355328
 ini:∀ b∈m.Z3i,b.Z85.length≤140737488355328
 iniL:m.Z3i.length≤140737488355328
 int:∀ x∈m.Z34,Str x.Z3t
 intL:m.Z34.length≤140737488355328
 thr:∀ t∈m.Z0n,(∀ a∈t.Z0y,Z9a a)∧t.Z0y.length≤140737488355328
 thrL:m.Z0n.length≤140737488355328
 outL:m.Z3s.length≤140737488355328
theorem nT {α:Type} {o:Option Bool} {R:Prop} {P:α→Prop} {x y:Option α} (h:Ok o fun b=>b=true→R) (F:Ok x P) (T:R→Ok y P):Ok (o.bind fun v=>if (!v)=true then x else y) P:=
 bd h fun _ hb=>br! (fun _=>F) fun e=>T (hb e)
theorem nF {α:Type} {o:Option Bool} {R:Prop} {P:α→Prop} {x y:Option α} (h:Ok o fun b=>b=true→R) (F:Ok x P) (T:R→Ok y P):Ok (o.bind fun v=>if v=true then y else x) P:=
 bd h fun _ hb=>br (fun e=>T (hb e)) fun _=>F
theorem take4n (s:List UInt8) (hs:Str s):Ok (Z8i s 0) (fun r=>Str r.1.Z0e):=by
 unfold Z8i
 refine bd (P:=fun q:Int×Int=>0≤q.2∧q.2≤(s.length:Int)∧0≤q.1∧q.1≤4503599627370496) (lp (fun t=>t.1) s.length (fun t=>0≤t.2∧t.2≤t.1) (fun t hI g0 g1=>?_) (by omega) ⟨by omega,by omega⟩ (by omega) (by omega)) fun q hq=>?_
 ·unfold Zbt Zgm
  refine brD (fun hlt=>bd gs fun _ _=>brE (fun _=>bd wr fun _ _=>bd wr fun _ _=>nx ?_ ?_ ?_) fun _=>dn ?_) fun _=>dn ?_ <;> dsimp only <;> omega
 ·obtain ⟨q1,q2⟩:=q
  dsimp only at hq ⊢
  have j2:∀ (v:Int) (p0:List UInt8) (p1:Int),Str p0→Ok (Z9f (q1,q2) v p0 p1) (fun r=>Str r.1.Z0e):=fun v p0 p1 g1=>by
   unfold Z9f
   exact bd (Zq0 _ g1) fun b _=>br! (fun _=>ok (by simp)) fun _=>ok g1
  refine brD (fun _=>ok (by simp)) fun _=>bd gs fun v5 _=>bd wr fun v6 h6=>brE (fun _=>?_) fun _=>j2 _ _ _ (by simp)
  refine bd (P:=fun q:Int=>v6≤q∧q≤(s.length:Int)) (lp (fun t=>t) s.length (fun t=>v6≤t) (fun t hI g0 g1=>?_) (by omega) (by omega) (by omega) (by omega)) fun q hq2=>?_
  ·unfold Zbp
   exact brD (fun hlt=>bd gs fun _ _=>brN (fun _=>bd wr fun _ _=>nx (by omega) (by omega) (by omega)) fun _=>dn ⟨by omega,by omega⟩) fun _=>dn ⟨by omega,by omega⟩
  ·exact brD (fun _=>ok (by simp)) fun _=>bd (sb (by omega) (by omega) (by omega)) fun v11 h11=>bd wr fun v12 h12=>j2 _ _ _ (by have:=h11.1; unfold Str at *; omega)
theorem parse4n (s:List UInt8) (hs:Str s):Ok (Z7n s) (fun r=>Str r.1.Z0e):=by
 unfold Z7n
 exact bd (take4n s hs) fun v hv=>brN (fun _=>ok (by simp)) fun _=>ok hv
theorem Yak (y:Z0i) (ht:Str y.Z0e):Ok (Zad y) (fun _=>True):=by
 unfold Zad
 repeat' with_reducible first
  | unfold Zjv
  | unfold Zow
  | refine brD (fun _=>?_) fun _=>?_
  | refine br! (fun _=>?_) fun _=>?_
  | refine brE (fun _=>?_) fun _=>?_
  | refine bd (Zq0 _ (by first|assumption|omega|exact And.left (by assumption)|(dsimp only; omega))) fun _ _=>?_
  | refine ok ?_
  | exact True.intro
theorem Y5o (s:List UInt8) (hs:Str s):Ok (Zh8 s) (fun _=>True):=by
 unfold Zh8
 repeat' with_reducible first
  | refine brN (fun _=>?_) fun _=>?_
  | refine bd (parse4n _ (by first|assumption|omega|exact And.left (by assumption)|(dsimp only; omega))) fun _ _=>?_
  | refine bd (Yak _ (by first|assumption|omega|exact And.left (by assumption)|(dsimp only; omega))) fun _ _=>?_
  | refine ok ?_
  | exact True.intro
theorem Y67 (w:Z0w) (c:Int):Ok (Zf5 w c) (fun b=>b=true→0≤c∧c<w.Z11.length):=by
 unfold Zf5
 repeat' first
  | with_reducible refine brD (fun _=>?_) fun _=>?_
  | with_reducible refine ok ?_
  | (first|(intro h; cases h; done)|(intro h; have:=of_decide_eq_true h; omega))
def Zco (w:Z0w) (x:Z3c):Prop:=0≤x.Z0z∧x.Z0z<w.Z11.length∧0≤x.Z2o∧∀ v,Z01 w.Z11 x.Z0z=some v→x.Z2o<v.Z1m.Z1d.length
theorem Y1v (w:Z0w) (hv:Z86 w) (c:Int) (s:Bool) (h0:0≤c) (h1:c<w.Z11.length):Ok (Ziz w c s) (fun r=>r.length≤64∧∀ x∈r,Zco w x∧x.Z0z=c):=by
 unfold Ziz
 refine bdE (gri h0 h1) fun v e hc=>?_
 have hf:=(hv.cls _ v hc.2).few.2.1
 refine bd (P:=fun q:List Z3c=>q.length≤64∧∀ x∈q,Zco w x∧x.Z0z=c) (lp (fun t=>t.1) v.Z1m.Z1d.length (fun t=>(t.2.length:Int)≤t.1∧∀ x∈t.2,Zco w x∧x.Z0z=c) (fun t hI g0 g1=>?_) (by omega) ⟨by simp,fun x hx=>by cases hx⟩ (by omega) (by dsimp only; omega)) fun q hq=>ok hq
 obtain ⟨i1,i2⟩:=hI
 unfold Ztp
 refine brD (fun hlt=>bd (gr (by omega) hlt) fun _ _=>bd sm fun _ _=>br (fun _=>bd gk fun _ _=>bd wr fun k hk=>nx ⟨by simp only [List.length_append,List.length_cons,List.length_nil]; omega,fun x hx=>?_⟩) fun _=>bd wr fun k hk=>nx ⟨by dsimp only; omega,i2⟩) fun _=>dn ⟨by omega,i2⟩
 rcases List.mem_append.1 hx with h|h
 ·exact i2 x h
 ·rcases List.mem_singleton.1 h with rfl
  exact ⟨⟨h0,h1,g0,fun v' h'=>by rw [e] at h'; cases h'; exact hlt⟩,rfl⟩
theorem Y07 (w:Z0w) (hv:Z86 w):∀ (nn:Nat) (c:Int),c+2≤nn→1≤nn→c≤1000000→Ok (Zih nn w c) (fun r=>(c<0→r=[])∧(0≤c→(r.length:Int)≤64*(c+1))∧∀ x∈r,Zco w x)
 | nn+1,c,h,_,hb=>by
  have hfew:=hv.few
  unfold Zih
  refine bd (Y67 w c) fun b hb=>br! (fun _=>ok ⟨fun _=>rfl,fun h=>by simp; omega,fun x hx=>by cases hx⟩) fun ht=>?_
  obtain ⟨h0,h1⟩:=hb ht
  refine bdE (gri h0 h1) fun v e hc=>?_
  have hs:=(hv.cls _ v hc.2).sup
  refine bd (Y07 w hv nn v.Z26 (by omega) (by omega) (by omega)) fun l hl=>?_
  obtain ⟨l1,l2,l3⟩:=hl
  have hlen:(l.length:Int)≤64*c:=by
   rcases hs with h|h
   ·rw [l1 (by omega)]; simp; omega
   ·have:=l2 h.1; omega
  refine bd (gk (by simp only [List.nil_append]; omega) (by simp only [List.nil_append]; omega)) fun _ _=>bd (Y1v w hv c false h0 h1) fun o ho=>bd (gk (by simp only [List.nil_append,List.length_append]; omega) (by simp only [List.nil_append,List.length_append]; omega)) fun _ _=>ok ⟨fun h=>by omega,fun _=>by simp only [List.nil_append,List.length_append]; omega,fun x hx=>?_⟩
  simp only [List.nil_append] at hx
  rcases List.mem_append.1 hx with h|h
  ·exact l3 x h
  ·exact (ho.2 x h).1
theorem Y1c {α:Type} {P:α→Prop} {w:Z0w} (hw:Z5e w) {x:Z3c} (hx:Zco w x) {f:Z1r→Option α} (h:∀ v,v∈w.Z11→x.Z2o<v.Z1m.Z1d.length→Ok (f v) P):Ok ((Z01 w.Z11 x.Z0z).bind f) P:=
 bdE (gr hx.1 hx.2.1) fun v e hm=>h v hm (hx.2.2.2 v e)
theorem Yah (w:Z0w) (c:Int) (hw:Z5e w) (hv:Z86 w) (hc:c≤1000000):Ok (Zkc w c) (fun _=>True):=by
 unfold Zkc
 have hr:(Z05:Int)=18446744073709551616:=rfl
 refine bd (Y07 w hv Z05 c (by omega) (by unfold Z05; omega) hc) fun l hl=>?_
 obtain ⟨l1,l2,l3⟩:=hl
 have hlen:(l.length:Int)≤64000064:=by
  rcases Int.lt_or_le c 0 with h|h
  ·rw [l1 h]; simp
  ·have:=l2 h; omega
 refine bd (P:=fun _=>True) (lp (fun t=>t.1) l.length (fun t=>(t.2.length:Int)≤t.1) (fun t hI g0 g1=>?_) (by omega) (by simp) (by omega) (by dsimp only; omega)) fun q _=>ok trivial
 unfold l93x1
 refine brD (fun hlt=>bdE (gr (by omega) hlt) fun s e hs=>Y1c hw (l3 s hs) fun v hm hi=>?_) fun _=>dn trivial
 rw [e]
 refine bs (bd (gr (l3 s hs).2.2.1 hi) fun f hf=>bd (Y5o _ ((hw.cls v hm).1.fld f hf).d) fun _ _=>bd gk fun _ _=>bd wr fun k hk=>nx (by simp only [List.length_append,List.length_cons,List.length_nil]; omega))
theorem Y7w (w:Z0w) (c:Int) (hw:Z5e w) (hv:Z86 w):Ok (Zjq w c) (fun _=>True):=by
 unfold Zjq Zr0
 refine bd (P:=fun l:List Z3c=>l.length≤64∧∀ x∈l,Zco w x∧x.Z0z=c) ?_ fun l hl=>?_
 ·refine bd (Y67 w c) fun b hb=>br! (fun _=>ok ⟨by simp,fun x hx=>by cases hx⟩) fun ht=>?_
  exact bd (Y1v w hv c true (hb ht).1 (hb ht).2) fun r hr=>ok hr
 ·refine bd (P:=fun _=>True) (lp (fun t=>t.1) l.length (fun t=>(t.2.length:Int)≤t.1) (fun t hI g0 g1=>?_) (by omega) (by simp) (by omega) (by dsimp only; omega)) fun q _=>ok trivial
  have hl1:=hl.1
  unfold l68x1
  refine brD (fun hlt=>?_) fun _=>dn trivial
  obtain ⟨s,hs,hsm⟩:=gr (l:=l) g0 hlt
  obtain ⟨k1,k2⟩:=hl.2 s hsm
  subst k2
  refine Y1c hw k1 fun v hm hi=>?_
  rw [hs]
  refine bs (bd (gr k1.2.2.1 hi) fun f hf=>?_)
  have nxt:∀ y:Z0b,Ok ((Z17 16 (t.2++[y]).length).bind fun _=>(some (IntKind.wrap .i64 (t.1+1))).bind fun v14=>some (Ctl.next (v14,t.2++[y]))) (St (fun t:Int×List Z0b=>(t.2.length:Int)≤t.1) (fun t=>t.1) l.length (fun _:List Z0b=>True) t):=fun y=>
   bd gk fun _ _=>bd wr fun k hk=>nx (by simp only [List.length_append,List.length_cons,List.length_nil]; omega)
  exact br (fun _=>nxt _) fun _=>br (fun _=>nxt _) fun _=>bd (Y5o _ ((hw.cls v hm).1.fld f hf).d) fun y _=>nxt y
theorem Zmm (m:Z09) (n:Int) (hH:m.Z1n.length≤140737488355328):Ok (Z6x m n) (fun b=>b=true→1≤n∧n≤m.Z1n.length):=by
 unfold Z6x
 repeat' first
  | with_reducible refine brD (fun _=>?_) fun _=>?_
  | with_reducible refine bd gr fun _ _=>?_
  | with_reducible refine bd wr fun _ _=>?_
  | with_reducible refine ok ?_
  | (first|(intro h; cases h; done)|(intro h; have:=of_decide_eq_true h; omega)|(intro _; omega))
theorem Zmw (m:Z09) (n:Int) (hH:m.Z1n.length≤140737488355328):Ok (Zav m n) (fun _=>True):=by
 unfold Zav
 repeat' with_reducible first
  | refine brE (fun _=>?_) fun _=>?_
  | refine bd (Zmm _ _ (by first|assumption|omega|exact And.left (by assumption)|(dsimp only; omega))) fun _ _=>?_
  | refine ok ?_
  | exact True.intro
theorem Zja (m:Z09) (v:Z0b) (hH:m.Z1n.length≤140737488355328):Ok (Z7a m v) (fun _=>True):=by
 unfold Z7a
 repeat' with_reducible first
  | refine brD (fun _=>?_) fun _=>?_
  | refine brE (fun _=>?_) fun _=>?_
  | refine bd (Zmw _ _ (by first|assumption|omega|exact And.left (by assumption)|(dsimp only; omega))) fun _ _=>?_
  | refine ok ?_
  | exact True.intro
theorem Zv8 (m:Z09) (n:Int):Ok (Zcx m n) (fun b=>b=true→0≤n∧n<m.Z0n.length):=by
 unfold Zcx
 repeat' first
  | with_reducible refine brD (fun _=>?_) fun _=>?_
  | with_reducible refine ok ?_
  | (first|(intro h; cases h; done)|(intro h; have:=of_decide_eq_true h; omega)|(intro _; omega))
theorem L30x1 (m:Z09) (hH:m.Z1n.length≤140737488355328) (hi:m.Z34.length≤140737488355328):Ok (Z04 (Zlo m) Z05 0) (fun _=>True):=by
 refine li (m.Z34.length) (fun t _ _=>?_) (by omega) (by omega) (by omega)
 unfold Zlo
 repeat' first
  | with_reducible refine nT (Zmm _ _ (by assumption)) ?_ fun _=>?_
  | with_reducible refine ni ?_ ?_
  | with_reducible refine di ?_
  | with_reducible refine brD (fun _=>?_) fun _=>?_
  | with_reducible refine br (fun _=>?_) fun _=>?_
  | with_reducible refine bd gr fun _ _=>?_
  | with_reducible refine bd wr fun _ _=>?_
  | exact True.intro
  | omega
theorem Y9x (m:Z09) (hH:m.Z1n.length≤140737488355328) (hi:m.Z34.length≤140737488355328):Ok (Zfb m) (fun _=>True):=by
 unfold Zfb
 repeat' first
  | with_reducible refine bd (L30x1 _ (by first|assumption|omega|exact And.left (by assumption)|(dsimp only; omega)) (by first|assumption|omega|exact And.left (by assumption)|(dsimp only; omega))) fun _ _=>?_
  | with_reducible refine ok ?_
  | split
  | assumption
theorem L67x1 (m:Z09) (x y:List Z0b) (hH:m.Z1n.length≤140737488355328) (hx:x.length≤140737488355328) (e:(x.length:Int)=y.length):Ok (Z04 (Zpp m x y) Z05 0) (fun _=>True):=by
 refine li (x.length) (fun t _ _=>?_) (by omega) (by omega) (by omega)
 unfold Zpp
 repeat' first
  | with_reducible refine ni ?_ ?_
  | with_reducible refine di ?_
  | with_reducible refine brD (fun _=>?_) fun _=>?_
  | with_reducible refine br! (fun _=>?_) fun _=>?_
  | with_reducible refine brN (fun _=>?_) fun _=>?_
  | with_reducible refine bd gr fun _ _=>?_
  | with_reducible refine bd wr fun _ _=>?_
  | with_reducible refine bd (Zja _ _ (by first|assumption|omega|exact And.left (by assumption)|(dsimp only; omega))) fun _ _=>?_
  | exact True.intro
  | omega
theorem Zyg (m:Z09) (x y:List Z0b) (hH:m.Z1n.length≤140737488355328) (hx:x.length≤140737488355328):Ok (Zit m x y) (fun _=>True):=by
 unfold Zit
 repeat' with_reducible first
  | refine brN (fun _=>?_) fun _=>?_
  | refine bd (L67x1 _ _ _ (by first|assumption|omega|exact And.left (by assumption)|(dsimp only; omega)) (by first|assumption|omega|exact And.left (by assumption)|(dsimp only; omega)) (by first|assumption|omega|exact And.left (by assumption)|(dsimp only; omega))) fun _ _=>?_
  | refine ok ?_
  | split
  | exact True.intro
theorem L63x2 (k:Int) (o:Z2d) (a:Int) (h0:0≤k) (h1:k<o.Z5h.length) (hl:o.Z5h.length≤140737488355328):Ok (Z04 (Znb k o a) Z05 0) (fun _=>True):=by
 refine li (k) (fun t _ _=>?_) (by omega) (by omega) (by omega)
 unfold Znb
 repeat' first
  | with_reducible refine ni ?_ ?_
  | with_reducible refine di ?_
  | with_reducible refine brD (fun _=>?_) fun _=>?_
  | with_reducible refine brE (fun _=>?_) fun _=>?_
  | with_reducible refine bd gr fun _ _=>?_
  | with_reducible refine bd wr fun _ _=>?_
  | exact True.intro
  | omega
theorem L63x1 (o:Z2d) (m:Z09) (n:Int) (hl:o.Z5h.length≤140737488355328):Ok (Z04 (Zl8 o m n) Z05 0) (fun _=>True):=by
 refine li (o.Z5h.length) (fun t h0 h1=>?_) (by omega) (by omega) (by omega)
 unfold Zl8 j63x2
 exact brD (fun hlt=>bd (gr h0 hlt) fun k hk=>nT (Zv8 _ _) (di trivial) fun ht=>bd (gr ht.1 ht.2) fun _ _=>brN (fun _=>di trivial) fun _=>bd (gr ht.1 ht.2) fun _ _=>bd sm fun _ _=>brN (fun _=>di trivial) fun _=>bd (L63x2 t o k h0 (by omega) hl) fun q _=>match q with
  | .inl _=>bd wr fun _ _=>ni (by omega) (by omega)
  | .inr _=>di trivial) fun _=>di trivial
theorem Y7l (m:Z09) (n:Int) (h:Z3n m) (h0:0≤n) (h1:n<m.Z1n.length):Ok (Ze9 m n) (fun _=>True):=by
 have hj:∀ o∈m.Z1n,Ok (Z9l o m n) (fun _=>True):=fun o ho=>by
  unfold Z9l
  exact bd (L63x1 o m n (h.heap o ho).ws) fun q _=>match q with
   | .inl _=>ok trivial
   | .inr _=>ok trivial
 unfold Ze9
 refine bd (gr h0 h1) fun o ho=>?_
 have k2:Ok (if (o.Z7m==0)=true then (if (o.Z39 !=0)=true then some false else Z9l o m n) else Z9l o m n) (fun _=>True):=brE (fun _=>brN (fun _=>ok trivial) fun _=>hj o ho) fun _=>hj o ho
 exact brN (fun _=>bd sm fun _ _=>bd (Zv8 _ _) fun _ _=>br! (fun _=>ok trivial) fun _=>brD (fun _=>ok trivial) fun _=>k2) fun _=>k2
theorem Ycl (m:Z09) (o:Z2d) (h:Z3n m) (hv:Z86 m.Z12) (ho:WObj o):Ok (Zm0 m o) (fun _=>True):=by
 have hH:=h.heapL; have hw:=h.sp; have:=hv.few; have:=ho.val
 unfold Zm0
 repeat' with_reducible first
  | refine brD (fun _=>?_) fun _=>?_
  | refine br (fun _=>?_) fun _=>?_
  | refine bd gr fun _ _=>?_
  | refine bd (Yah _ _ (by first|assumption|omega|exact And.left (by assumption)|(dsimp only; omega)) (by first|assumption|omega|exact And.left (by assumption)|(dsimp only; omega)) (by first|assumption|omega|exact And.left (by assumption)|(dsimp only; omega))) fun _ _=>?_
  | refine bd (Zyg _ _ _ (by first|assumption|omega|exact And.left (by assumption)|(dsimp only; omega)) (by first|assumption|omega|exact And.left (by assumption)|(dsimp only; omega))) fun _ _=>?_
  | refine bs ?_
  | refine ok ?_
  | exact True.intro
theorem Y9h (t:Z3o):Ok (Zp4 t) (fun _=>True):=by
 unfold Zp4
 repeat' with_reducible first
  | refine bd sm fun _ _=>?_
  | refine brD (fun _=>?_) fun _=>?_
  | refine ok ?_
  | exact True.intro
theorem Yab (w:Z0w) (t:Z3o):Ok (Zoc w t) (fun _=>True):=by
 unfold Zoc
 repeat' with_reducible first
  | unfold j95x1
  | refine brD (fun _=>?_) fun _=>?_
  | refine brE (fun _=>?_) fun _=>?_
  | refine ok ?_
  | exact True.intro
theorem Y9p (t:Z3o):Ok (Zmo t) (fun _=>True):=by
 unfold Zmo
 repeat' with_reducible first
  | unfold Zle
  | refine brE (fun _=>?_) fun _=>?_
  | refine ok ?_
  | exact True.intro
theorem L64x1 (e:Z3o×Bool) (m:Z09) (o:Z2d) (hH:m.Z1n.length≤140737488355328) (ho:o.Z4y.length≤140737488355328):Ok (Z04 (Zje e m o) Z05 0) (fun _=>True):=by
 refine li (o.Z4y.length) (fun t _ _=>?_) (by omega) (by omega) (by omega)
 unfold Zje
 repeat' first
  | with_reducible refine ni ?_ ?_
  | with_reducible refine di ?_
  | with_reducible refine brD (fun _=>?_) fun _=>?_
  | with_reducible refine br! (fun _=>?_) fun _=>?_
  | with_reducible refine brN (fun _=>?_) fun _=>?_
  | with_reducible refine bd gr fun _ _=>?_
  | with_reducible refine bd wr fun _ _=>?_
  | with_reducible refine bd (Y9p _) fun _ _=>?_
  | with_reducible refine bd (Zja _ _ (by first|assumption|omega|exact And.left (by assumption)|(dsimp only; omega))) fun _ _=>?_
  | exact True.intro
  | omega
theorem Y8b (m:Z09) (o:Z2d) (h:Z3n m) (ho:WObj o):Ok (Zpc m o) (fun _=>True):=by
 have hH:=h.heapL; have:=ho.val
 unfold Zpc
 repeat' first
  | unfold j64x1
  | with_reducible refine bd (Y9h _) fun _ _=>?_
  | with_reducible refine bd (Yab _ _) fun _ _=>?_
  | with_reducible refine bd (L64x1 _ _ _ (by first|assumption|omega|exact And.left (by assumption)|(dsimp only; omega)) (by first|assumption|omega|exact And.left (by assumption)|(dsimp only; omega))) fun _ _=>?_
  | with_reducible refine ok ?_
  | split
  | assumption
theorem Y72 (w:Z0w) (l:Int) (s:List UInt8) (hw:Z5e w):Ok (Zmf w l s) (fun _=>True):=by
 unfold Zmf
 repeat' first
  | with_reducible refine bd (Y0c _ _ _ (by first|assumption|omega|exact And.left (by assumption)|(dsimp only; omega))) fun _ _=>?_
  | with_reducible refine ok ?_
  | assumption
theorem Ycm (m:Z09) (o:Z2d) (h:Z3n m):Ok (Zqb m o) (fun _=>True):=by
 have hw:=h.sp
 unfold Zqb
 repeat' first
  | with_reducible refine br (fun _=>?_) fun _=>?_
  | with_reducible refine bd (Y72 _ _ _ (by first|assumption|omega|exact And.left (by assumption)|(dsimp only; omega))) fun _ _=>?_
  | with_reducible refine ok ?_
  | assumption
theorem Yc7 (m:Z09) (n:Int) (h:Z3n m) (hv:Z86 m.Z12) (h0:0≤n) (h1:n<m.Z1n.length):Ok (Zdw m n) (fun _=>True):=by
 unfold Zdw
 repeat' with_reducible first
  | refine bd (Ycl _ _ h hv (h.heap _ (by assumption))) fun _ _=>?_
  | refine bd (Y8b _ _ h (h.heap _ (by assumption))) fun _ _=>?_
  | refine br (fun _=>?_) fun _=>?_
  | refine bd gr fun _ _=>?_
  | refine bd (Y7l _ _ (by first|assumption|omega|exact And.left (by assumption)|(dsimp only; omega)) (by first|assumption|omega|exact And.left (by assumption)|(dsimp only; omega)) (by first|assumption|omega|exact And.left (by assumption)|(dsimp only; omega))) fun _ _=>?_
  | refine bd (Ycm _ _ (by first|assumption|omega|exact And.left (by assumption)|(dsimp only; omega))) fun _ _=>?_
  | refine ok ?_
  | exact True.intro
theorem Y8f (m:Z09) (n:Int) (h:Z3n m) (hv:Z86 m.Z12) (h0:0≤n) (h1:n<m.Z3i.length):Ok (Zew m n) (fun _=>True):=by
 have hH:=h.heapL; have hw:=h.sp
 unfold Zew
 repeat' with_reducible first
  | unfold Zev
  | refine brD (fun _=>?_) fun _=>?_
  | refine br! (fun _=>?_) fun _=>?_
  | refine brE (fun _=>?_) fun _=>?_
  | refine brN (fun _=>?_) fun _=>?_
  | refine bd gr fun _ _=>?_
  | refine bd (Zv8 _ _) fun _ _=>?_
  | refine bd (Y7w _ _ (by first|assumption|omega|exact And.left (by assumption)|(dsimp only; omega)) (by first|assumption|omega|exact And.left (by assumption)|(dsimp only; omega))) fun _ _=>?_
  | refine bd (Zyg _ _ _ (by first|assumption|exact h.ini _ (by assumption)) (by first|assumption|exact h.ini _ (by assumption))) fun _ _=>?_
  | refine ok ?_
  | exact True.intro
theorem L100x1 (l:List Int) (n:Int) (hl:l.length≤140737488355328):Ok (Z04 (Zml l n) Z05 0) (fun _=>True):=by
 refine li (l.length) (fun t _ _=>?_) (by omega) (by omega) (by omega)
 unfold Zml
 repeat' first
  | with_reducible refine ni ?_ ?_
  | with_reducible refine di ?_
  | with_reducible refine brD (fun _=>?_) fun _=>?_
  | with_reducible refine brE (fun _=>?_) fun _=>?_
  | with_reducible refine bd gr fun _ _=>?_
  | with_reducible refine bd wr fun _ _=>?_
  | exact True.intro
  | omega
theorem Yb8 (l:List Int) (n:Int) (hl:l.length≤140737488355328):Ok (Zql l n) (fun _=>True):=by
 unfold Zql
 repeat' first
  | with_reducible refine bd (L100x1 _ _ (by first|assumption|omega|exact And.left (by assumption)|(dsimp only; omega))) fun _ _=>?_
  | with_reducible refine ok ?_
  | split
  | assumption
theorem Ych (m:Z09) (n:Int) (h:Z3n m) (h0:0≤n) (h1:n<m.Z0n.length):Ok (Zno m n) (fun _=>True):=by
 have hH:=h.heapL
 unfold Zno
 repeat' with_reducible first
  | refine nF (Zmm _ _ (by assumption)) ?_ fun _=>?_
  | unfold j69x1
  | unfold j69x2
  | refine brD (fun _=>?_) fun _=>?_
  | refine brE (fun _=>?_) fun _=>?_
  | refine bd gr fun _ _=>?_
  | refine bd wr fun _ _=>?_
  | refine bd (Yb8 _ _ (by exact (h.heap _ (by assumption)).ws)) fun _ _=>?_
  | refine ok ?_
  | exact True.intro
theorem L83x1 (m:Z09) (x:List Z0b) (b:Bool) (hH:m.Z1n.length≤140737488355328) (hx:x.length≤140737488355328):Ok (Z04 (Zkf m x b) Z05 0) (fun _=>True):=by
 refine li (x.length) (fun t _ _=>?_) (by omega) (by omega) (by omega)
 unfold Zkf
 repeat' first
  | with_reducible refine ni ?_ ?_
  | with_reducible refine di ?_
  | with_reducible refine brD (fun _=>?_) fun _=>?_
  | with_reducible refine br! (fun _=>?_) fun _=>?_
  | with_reducible refine brE (fun _=>?_) fun _=>?_
  | with_reducible refine bd gr fun _ _=>?_
  | with_reducible refine bd wr fun _ _=>?_
  | with_reducible refine bd (Zja _ _ (by first|assumption|omega|exact And.left (by assumption)|(dsimp only; omega))) fun _ _=>?_
  | exact True.intro
  | omega
theorem Yc1 (m:Z09) (x:List Z0b) (b:Bool) (hH:m.Z1n.length≤140737488355328) (hx:x.length≤140737488355328):Ok (Zgp m x b) (fun _=>True):=by
 unfold Zgp
 repeat' first
  | with_reducible refine bd (L83x1 _ _ _ (by first|assumption|omega|exact And.left (by assumption)|(dsimp only; omega)) (by first|assumption|omega|exact And.left (by assumption)|(dsimp only; omega))) fun _ _=>?_
  | with_reducible refine ok ?_
  | split
  | assumption
theorem Y9f (m:Z09) (a:Z10) (hH:m.Z1n.length≤140737488355328) (ha:Z9a a):Ok (Z8a m a) (fun _=>True):=by
 have:=ha.loc; have:=ha.stk
 unfold Z8a
 repeat' with_reducible first
  | unfold j54x1
  | unfold j54x2
  | unfold j54x3
  | refine brD (fun _=>?_) fun _=>?_
  | refine br (fun _=>?_) fun _=>?_
  | refine bd gr fun _ _=>?_
  | refine bd (Zmw _ _ (by first|assumption|omega|exact And.left (by assumption)|(dsimp only; omega))) fun _ _=>?_
  | refine bd (Yc1 _ _ _ (by first|assumption|omega|exact And.left (by assumption)|(dsimp only; omega)) (by first|assumption|omega|exact And.left (by assumption)|(dsimp only; omega))) fun _ _=>?_
  | refine ok ?_
  | exact True.intro
theorem allL {n:Nat} (hn:n≤140737488355328) (g:Int→Option Bool) {f:Int→Option (Ctl Int (Unit⊕Bool))} (hg:∀ t:Int,0≤t→t<n→Ok (g t) fun _=>True)
  (hf:∀ t,f t=if decide (t<(n:Int))=true then ((g t).bind fun v=>if (!v)=true then some (.done (.inr false)) else ((some (IntKind.wrap .i64 (t+1))).bind fun k=>some (.next k))) else some (.done (.inl ()))):
  Ok (Z04 f Z05 0) (fun q=>(q=.inl ()∧∀ t:Int,0≤t→t<n→g t=some true)∨(q=.inr false∧∃ t:Int,0≤t∧t<n∧g t=some false)):=by
 refine lp (fun t=>t) n (fun t=>∀ j:Int,0≤j→j<t→g j=some true) (fun t hI h0 h1=>?_) (by omega) (fun j h h'=>by omega) (by omega) (by omega)
 rw [hf]
 refine brD (fun hlt=>?_) fun hge=>dn (.inl ⟨rfl,fun j h h'=>hI j h (by omega)⟩)
 obtain ⟨b,hb,_⟩:=hg t h0 hlt
 rw [hb]
 cases b with
 | false=>exact ⟨_,rfl,.inr ⟨rfl,t,h0,hlt,hb⟩⟩
 | true=>
  refine bs (br! (fun h=>by cases h) fun _=>bd wr fun k hk=>nx (fun j hj hj'=>?_) (by omega) (by omega))
  rcases Int.lt_or_le j t with h|h
  ·exact hI j hj h
  ·rw [show j=t by omega]; exact hb
theorem acts_ok (m:Z09) (t:Z13) (hH:m.Z1n.length≤140737488355328) (ha:∀ a∈t.Z0y,Z9a a) (hl:t.Z0y.length≤140737488355328):
  Ok (Zaz t m) (fun b=>b=true→∀ a∈t.Z0y,Z8a m a=some true):=by
 unfold Zaz
 refine bd (allL hl (fun i=>(Z01 t.Z0y i).bind (Z8a m)) (fun i h0 h1=>bd (gr h0 h1) fun a hm=>Y9f m a hH (ha a hm)) fun i=>?_) fun q hq=>?_
 ·unfold l33x1
  split
  ·rw [Option.bind_assoc]
  ·rfl
 ·rcases hq with ⟨rfl,h⟩|⟨rfl,_⟩
  ·refine ok fun _ a hm=>?_
   obtain ⟨i,hi⟩:=List.getElem?_of_mem hm
   have hlt:i<t.Z0y.length:=(List.getElem?_eq_some_iff.1 hi).1
   have:=h i (by omega) (by omega)
   obtain ⟨a',e,_,hx⟩:=gri (l:=t.Z0y) (i:=(i:Int)) (by omega) (by omega)
   rw [e] at this
   simp only [Int.toNat_natCast] at hx
   rw [hi] at hx
   cases hx
   exact this
  ·exact ok fun h=>by cases h
theorem Zz8 (m:Z09) (n:Int) (h:Z3n m) (h0:0≤n) (h1:n<m.Z0n.length):Ok (Zdg m n) (fun b=>b=true→∀ t,Z01 m.Z0n n=some t→t.Z0y.length≤64∧∀ a∈t.Z0y,Z8a m a=some true):=by
 have hH:=h.heapL
 unfold Zdg
 refine bdE (gr h0 h1) fun t e hm=>bd (Ych m n h h0 h1) fun _ _=>br! (fun _=>ok fun h=>by cases h) fun _=>bd (Zmw _ _ hH) fun _ _=>br! (fun _=>ok fun h=>by cases h) fun _=>bd (Zmw _ _ hH) fun _ _=>br! (fun _=>ok fun h=>by cases h) fun _=>bd (Zja _ _ hH) fun _ _=>br! (fun _=>ok fun h=>by cases h) fun _=>brD (fun _=>ok fun h=>by cases h) fun hle=>?_
 have hj:Ok (Zaz t m) (fun b=>b=true→∀ t',Z01 m.Z0n n=some t'→t'.Z0y.length≤64∧∀ a∈t'.Z0y,Z8a m a=some true):=
  (acts_ok m t hH (h.thr t hm).1 (h.thr t hm).2).mono fun b hb hbt t' ht'=>by
   rw [e] at ht'; cases ht'
   exact ⟨by omega,hb hbt⟩
 have hf:Ok (some false) (fun b=>b=true→∀ t',Z01 m.Z0n n=some t'→t'.Z0y.length≤64∧∀ a∈t'.Z0y,Z8a m a=some true):=ok fun h=>by cases h
 unfold j33x1
 exact brE (fun _=>brD (fun _=>hf) fun _=>brN (fun _=>brN (fun _=>hf) fun _=>br! (fun _=>hf) fun _=>hj) fun _=>hj) fun _=>brN (fun _=>brN (fun _=>hf) fun _=>br! (fun _=>hf) fun _=>hj) fun _=>hj
structure Z9d (m:Z09):Prop where
 sp:Zbu m.Z12=some true
 vok:Z86 m.Z12
 max0:0≤m.Z4h
 max1:m.Z4h≤5000
 heap:m.Z1n.length≤5000
 init:m.Z3i.length≤m.Z12.Z11.length
 thr:m.Z0n.length≤8
 txt:Zfb m=some true
 obj:∀ t,0≤t→t<(m.Z1n.length:Int)→Zdw m t=some true
 beg:∀ t,0≤t→t<(m.Z3i.length:Int)→Zew m t=some true
 run:∀ t,0≤t→t<(m.Z0n.length:Int)→Zdg m t=some true
theorem valid36 (m:Z09) (h:Z3n m):Ok (Zo6 m) (fun b=>b=true→Z9d m):=by
 have hf:Ok (some false) (fun b=>b=true→Z9d m):=ok fun h=>by cases h
 unfold Zo6
 refine bdE (Y7f m.Z12 h.sp) fun b e hb=>?_
 cases b with
 | false=>exact hf
 | true=>
 have hv:=hb rfl
 refine br! (fun _=>hf) fun _=>brD (fun _=>hf) fun k1=>brD (fun _=>hf) fun k2=>brD (fun _=>hf) fun k3=>brD (fun _=>hf) fun k4=>brD (fun _=>hf) fun k5=>bdE (Y9x m h.heapL h.intL) fun b2 e2 _=>?_
 cases b2 with
 | false=>exact hf
 | true=>
 refine br! (fun _=>hf) fun _=>?_
 unfold j9x1
 refine bd (allL h.heapL (Zdw m) (fun t a b=>(Yc7 m t h hv a b).mono fun _ _=>trivial) fun t=>by unfold l9x1; rfl) fun q1 hq1=>?_
 rcases hq1 with ⟨rfl,o1⟩|⟨rfl,_⟩
 rotate_left
 ·exact hf
 refine bd (allL h.iniL (Zew m) (fun t a b=>(Y8f m t h hv a b).mono fun _ _=>trivial) fun t=>by unfold l9x2; rfl) fun q2 hq2=>?_
 rcases hq2 with ⟨rfl,o2⟩|⟨rfl,_⟩
 rotate_left
 ·exact hf
 refine bd (allL h.thrL (Zdg m) (fun t a b=>(Zz8 m t h a b).mono fun _ _=>trivial) fun t=>by unfold l9x3; rfl) fun q3 hq3=>?_
 rcases hq3 with ⟨rfl,o3⟩|⟨rfl,_⟩
 rotate_left
 ·exact hf
 exact ok fun _=>⟨e,hv,by omega,by omega,by omega,by omega,by omega,e2,o1,o2,o3⟩
theorem Z9d.acts {m:Z09} (h:Z3n m) (v:Z9d m) {n:Int} {t:Z13} (h0:0≤n) (ht:Z01 m.Z0n n=some t) (h1:n<m.Z0n.length):t.Z0y.length≤64∧∀ a∈t.Z0y,Z8a m a=some true:=by
 obtain ⟨b,e,hb⟩:=Zz8 m n h h0 h1
 rw [v.run n h0 h1] at e
 cases e
 exact hb rfl t ht
end Go.Proofs
namespace Go.Proofs
open Go.Den
theorem Zqe (n:Int):IntKind.wrap .i64 n=(n+9223372036854775808) % 18446744073709551616 - 9223372036854775808:=by
 show (if (true&&decide (n % 18446744073709551616≥9223372036854775808))=true then n % 18446744073709551616 - 18446744073709551616 else n % 18446744073709551616)=_
 rw [Bool.true_and]
 by_cases h:n % 18446744073709551616≥9223372036854775808
 ·rw [if_pos (decide_eq_true h)]; omega
 ·rw [if_neg (by simpa using h)]; omega
theorem Zts {s:List UInt8} {i:Int} (h0:0≤i) (h1:i<s.length):∃ c:UInt8,s[i.toNat]?=some c∧Z33 s i=some (c.toNat:Int):=by
 have hlt:i.toNat<s.length:=by omega
 refine ⟨s[i.toNat],List.getElem?_eq_getElem hlt,?_⟩
 unfold Z33; rw [if_pos h0,List.getElem?_eq_getElem hlt]; rfl
def Zur (n:Nat):Bool:=(decide (97≤n)&&decide (n≤122))||(decide (65≤n)&&decide (n≤90))||n==95||n==36
def Zjc (n:Nat):Bool:=decide (48≤n)&&decide (n≤57)
def Zb0 (c:UInt8):Bool:=Zur c.toNat
def Z94 (c:UInt8):Bool:=Zjc c.toNat
theorem Y1s:∀ n:Fin 256,Zhy ((n.val:Nat):Int)=some (if Zur n.val then 1 else if Zjc n.val then 2 else 0):=by decide+kernel
theorem Y9v:∀ n:Fin 256,Zdz ((n.val:Nat):Int)=some (Zur n.val):=by decide+kernel
theorem Zkt (c:UInt8):Zhy (c.toNat:Int)=some (if Zb0 c then 1 else if Z94 c then 2 else 0):=Y1s ⟨c.toNat,c.toNat_lt⟩
theorem Zfg (c:UInt8):Zdz (c.toNat:Int)=some (Zb0 c):=Y9v ⟨c.toNat,c.toNat_lt⟩
theorem Y1e:Zhy 47=some 0:=Y1s 47
def okP:Bool→List UInt8→Bool
 | b,[] =>!b
 | b,c::l=>if Zb0 c then okP false l else if Z94 c then !b&&okP false l else false
def okC:Bool→List UInt8→Bool
 | b,[] =>!b
 | b,c::l=>if c=47 then !b&&okC true l else if Zb0 c then okC false l else if Z94 c then !b&&okC false l else false
theorem Zxe:∀ (p r:List UInt8) (b:Bool),(47:UInt8) ∉ p→okC b (p++47::r)=(okP b p&&okC true r)
 | [],r,b,_=>by simp [okC,okP]
 | c::p,r,b,h=>by
  have hc:c≠47:=fun e=>h (by simp [e])
  have hp:(47:UInt8) ∉ p:=fun e=>h (by simp [e])
  simp only [List.cons_append,okC,okP,if_neg hc,Zxe p r _ hp]
  by_cases h1:Zb0 c=true
  ·simp [h1]
  ·by_cases h2:Z94 c=true <;> simp [h1,h2,Bool.and_assoc]
theorem Y2y:∀ (p:List UInt8) (b:Bool),(47:UInt8) ∉ p→okC b p=okP b p
 | [],b,_=>rfl
 | c::p,b,h=>by
  have hc:c≠47:=fun e=>h (by simp [e])
  have hp:(47:UInt8) ∉ p:=fun e=>h (by simp [e])
  simp only [okC,okP,if_neg hc,Y2y p _ hp]
theorem Zuy {α:Type} {s:List α} {i:Nat} {c:α} (h:s[i]?=some c):s.drop i=c::s.drop (i+1):=by
 have hlt:=(List.getElem?_eq_some_iff.1 h).1
 rw [List.drop_eq_getElem_cons hlt]
 congr 1
 exact (List.getElem?_eq_some_iff.1 h).2
theorem Zsb (s:List UInt8) (hl:(s.length:Int)≤140737488355328):Z9t s=some (okP true s):=by
 obtain ⟨q,hq,hp⟩:=Zaf (f:=Zd3 s) (fun t:Int=>0≤t∧t≤s.length∧okP true s=okP (t==0) (s.drop t.toNat)) (fun t=>((s.length:Int) - t).toNat)
  (fun q=>match q with
   | .inl _=>okP true s=decide (s.length>0)
   | .inr r=>okP true s=r)
  (fun t ht =>by
   obtain ⟨h0,h1,h2⟩:=ht
   unfold Zd3
   by_cases h:t<s.length
   ·obtain ⟨c,hc,hg⟩:=Zts h0 h
    have e1:IntKind.wrap .i64 (t+1)=t+1:=by rw [Zqe]; omega
    have hd:s.drop t.toNat=c::s.drop (t+1).toNat:=by rw [Zuy hc]; congr 2; omega
    rw [hd] at h2
    have hz:(t+1==0)=false:=by simp; omega
    by_cases hL:Zb0 c=true
    ·refine ⟨.next (t+1),by simp [h,hg,Zfg,hL,e1],⟨by omega,by omega,?_⟩,by omega⟩
     rw [h2,hz]; simp [okP,hL]
    ·by_cases ht0:t=0
     ·subst ht0
      refine ⟨.done (.inr false),by simp only [h,hg,Zfg,hL,decide_true,if_true,Option.bind_some,Bool.not_false,beq_self_eq_true,Bool.false_eq_true,if_false],?_⟩
      show okP true s=false
      rw [h2]; simp [okP,hL]
     ·by_cases hD:Z94 c=true
      ·have hD':48≤c.toNat∧c.toNat≤57:=by simpa [Z94,Zjc] using hD
       have a1: ¬ ((c.toNat:Int)<48):=by omega
       have a2: ¬ ((c.toNat:Int)>57):=by omega
       refine ⟨.next (t+1),?_,⟨by omega,by omega,?_⟩,by omega⟩
       ·simp only [h,hg,Zfg,hL,e1,ht0,a1,a2,decide_true,decide_false,if_true,Option.bind_some,Bool.not_false,beq_iff_eq,Bool.false_eq_true,if_false]
       ·rw [h2,hz]; simp [okP,hL,hD,ht0]
      ·refine ⟨.done (.inr false),?_,?_⟩
       ·have hD': ¬ (48≤c.toNat∧c.toNat≤57):=by simpa [Z94,Zjc] using hD
        by_cases a1:(c.toNat:Int)<48
        ·simp only [h,hg,Zfg,hL,ht0,a1,decide_true,if_true,Option.bind_some,Bool.not_false,beq_iff_eq,Bool.false_eq_true,if_false]
        ·have a2:(c.toNat:Int)>57:=by omega
         simp only [h,hg,Zfg,hL,ht0,a1,a2,decide_true,decide_false,if_true,Option.bind_some,Bool.not_false,beq_iff_eq,Bool.false_eq_true,if_false]
       ·show okP true s=false
        rw [h2]; simp [okP,hL,hD]
   ·refine ⟨.done (.inl ()),by simp [h],?_⟩
    show okP true s=decide (s.length>0)
    rw [h2,List.drop_eq_nil_of_le (by omega)]
    by_cases hs:s.length>0
    ·simp [okP,hs,show ¬ t=0 by omega]
    ·have:t=0:=by omega
     simp [okP,hs,this])
  Z05 0 ⟨by omega,by omega,by simp⟩ (by unfold Z05; omega)
 unfold Z9t
 cases q with
 | inl u=>simp only [hq,Option.bind_some,hp]; congr 1; simp
 | inr r=>simp only [hq,Option.bind_some,hp]
theorem Y6z (s:List UInt8) (hl:(s.length:Int)≤140737488355328):Zn0 s=some (okC true s):=by
 obtain ⟨q,hq,hp⟩:=Zaf (f:=Zk0 s) (fun t:Bool×Int=>0≤t.2∧t.2≤s.length∧okC true s=okC t.1 (s.drop t.2.toNat)) (fun t=>((s.length:Int) - t.2).toNat)
  (fun q=>match q with
   | .inl b=>okC true s= !b
   | .inr r=>okC true s=r)
  (fun t ht =>by
   obtain ⟨b,t⟩:=t
   obtain ⟨h0,h1,h2⟩:=ht
   dsimp only at h0 h1 h2
   unfold Zk0
   by_cases h:t<s.length
   ·obtain ⟨c,hc,hg⟩:=Zts h0 h
    have e1:IntKind.wrap .i64 (t+1)=t+1:=by rw [Zqe]; omega
    have hd:s.drop t.toNat=c::s.drop (t+1).toNat:=by rw [Zuy hc]; congr 2; omega
    rw [hd] at h2
    have h47:((c.toNat:Int)=47)↔c=47:=⟨fun e=>UInt8.toNat_inj.1 (by show c.toNat=47; omega),fun e=>by subst e; rfl⟩
    by_cases hs:c=47
    ·subst hs
     have hcl:Zb0 47=false∧Z94 47=false:=by decide
     cases b with
     | false=>
      refine ⟨.next (true,t+1),by simp [h,hg,Y1e,Zvp,e1],⟨by dsimp only; omega,by dsimp only; omega,?_⟩,by dsimp only; omega⟩
      rw [h2]; simp [okC]
     | true=>
      refine ⟨.done (.inr false),by simp [h,hg,Y1e,Zab],?_⟩
      show okC true s=false
      rw [h2]; simp [okC]
    ·have hn: ¬ ((c.toNat:Int)=47):=fun e=>hs (h47.1 e)
     by_cases hL:Zb0 c=true
     ·refine ⟨.next (false,t+1),by simp [h,hg,Zkt,hn,Zab,Zfv,hL,e1],⟨by dsimp only; omega,by dsimp only; omega,?_⟩,by dsimp only; omega⟩
      rw [h2]; simp [okC,hs,hL]
     ·by_cases hD:Z94 c=true
      ·cases b with
       | false=>
        refine ⟨.next (false,t+1),by simp [h,hg,Zkt,hn,Zab,Znp,Zfv,hL,hD,e1],⟨by dsimp only; omega,by dsimp only; omega,?_⟩,by dsimp only; omega⟩
        rw [h2]; simp [okC,hs,hL,hD]
       | true=>
        refine ⟨.done (.inr false),by simp [h,hg,Zkt,hn,Zab,Znp,hL,hD],?_⟩
        show okC true s=false
        rw [h2]; simp [okC,hs,hL,hD]
      ·refine ⟨.done (.inr false),by simp [h,hg,Zkt,hn,Zab,hL,hD],?_⟩
       show okC true s=false
       rw [h2]; simp [okC,hs,hL,hD]
   ·refine ⟨.done (.inl b),by simp [h],?_⟩
    show okC true s= !b
    rw [h2,List.drop_eq_nil_of_le (by omega)]; rfl)
  Z05 (true,0) ⟨by dsimp only; omega,by dsimp only; omega,by simp⟩ (by unfold Z05; dsimp only; omega)
 unfold Zn0
 cases q with
 | inl u=>simp only [hq,Option.bind_some]; exact congrArg some hp.symm
 | inr r=>simp only [hq,Option.bind_some]; exact congrArg some hp.symm
theorem isClass (s:List UInt8) (hl:(s.length:Int)≤140737488355328):Zka s=some (decide (s.length≤64)&&okC true s):=by
 unfold Zka
 by_cases h:s=[]
 ·subst h; rfl
 ·rw [if_neg (by simpa using h)]
  by_cases h64:(s.length:Int)>64
  ·rw [if_pos (decide_eq_true h64)]
   have:decide (s.length≤64)=false:=decide_eq_false (by omega)
   rw [this]; rfl
  ·rw [if_neg (by simpa using h64),Y6z s hl]
   have:decide (s.length≤64)=true:=decide_eq_true (by omega)
   rw [this]; rfl
theorem Y7u (s:List UInt8) (hl:(s.length:Int)≤140737488355328):Z98 s=some (decide (s.length≤64)&&okC true s):=by
 unfold Z98
 by_cases h64:(s.length:Int)>64
 ·rw [if_pos (decide_eq_true h64)]
  have:decide (s.length≤64)=false:=decide_eq_false (by omega)
  rw [this]; rfl
 rw [if_neg (by simpa using h64)]
 have h64':decide (s.length≤64)=true:=decide_eq_true (by omega)
 rw [h64',Bool.true_and]
 obtain ⟨q,hq,hp⟩:=Zaf (f:=Zdr s) (fun t:Int×Int=>0≤t.1∧t.1≤t.2∧t.2≤s.length∧(∀ j:Nat,t.1≤j→(j:Int)<t.2→s[j]?≠some 47)∧okC true s=okC true (s.drop t.1.toNat)) (fun t=>((s.length:Int) - t.2).toNat)
  (fun q=>match q with
   | .inl a=>0≤a∧a≤(s.length:Int)∧(∀ j:Nat,a≤j→s[j]?≠some 47)∧okC true s=okC true (s.drop a.toNat)
   | .inr r=>okC true s=r)
  (fun t ht =>by
   obtain ⟨a,i⟩:=t
   obtain ⟨h0,h1,h2,h3,h4⟩:=ht
   dsimp only at h0 h1 h2 h3 h4
   unfold Zdr
   by_cases h:i<s.length
   ·obtain ⟨c,hc,hg⟩:=Zts (by omega) h
    have e1:IntKind.wrap .i64 (i+1)=i+1:=by rw [Zqe]; omega
    by_cases hs:c=47
    ·subst hs
     have hsub:sub s a i=some ((s.drop a.toNat).take (i.toNat - a.toNat)):=by
      unfold sub; rw [if_pos (by omega)]
     obtain ⟨p,hpd⟩:∃ p,p=(s.drop a.toNat).take (i.toNat - a.toNat):=⟨_,rfl⟩
     have hpl:(p.length:Int)≤140737488355328:=by rw [hpd]; simp; omega
     have hsplit:s.drop a.toNat=p++47::s.drop (i+1).toNat:=by
      have e2:(s.drop a.toNat).drop (i.toNat - a.toNat)=47::s.drop (i+1).toNat:=by
       rw [List.drop_drop,show a.toNat+(i.toNat - a.toNat)=i.toNat by omega,Zuy hc]
       congr 2; omega
      rw [← e2,hpd,List.take_append_drop]
     have hno:(47:UInt8) ∉ p:=fun hm=>by
      obtain ⟨k,hk⟩:=List.getElem?_of_mem hm
      rw [hpd,List.getElem?_take] at hk
      split at hk
      ·rw [List.getElem?_drop] at hk
       exact h3 (a.toNat+k) (by omega) (by omega) hk
      ·cases hk
     have hpart:=Zxe p (s.drop (i+1).toNat) true hno
     rw [hsplit,hpart] at h4
     cases hok:okP true p with
     | false=>
      refine ⟨.done (.inr false),?_,?_⟩
      ·simp [h,hg,hsub,← hpd,Zsb p hpl,hok]
      ·show okC true s=false
       rw [h4,hok]; rfl
     | true=>
      refine ⟨.next (i+1,i+1),?_,⟨by dsimp only; omega,by dsimp only; omega,by dsimp only; omega,fun j hj hj2=>?_,?_⟩,by dsimp only; omega⟩
      ·simp [h,hg,hsub,← hpd,Zsb p hpl,hok,e1]
      ·dsimp only at hj hj2; omega
      ·dsimp only; rw [h4,hok,Bool.true_and]
    ·have hn: ¬ ((c.toNat:Int)=47):=fun e=>hs (UInt8.toNat_inj.1 (by show c.toNat=47; omega))
     refine ⟨.next (a,i+1),by simp [h,hg,hn,e1],⟨by dsimp only; omega,by dsimp only; omega,by dsimp only; omega,fun j hj hj2=>?_,h4⟩,by dsimp only; omega⟩
     dsimp only at hj hj2
     by_cases hji:(j:Int)=i
     ·rw [show j=i.toNat by omega,hc]; simpa using hs
     ·exact h3 j hj (by omega)
   ·refine ⟨.done (.inl a),by simp [h],h0,by omega,fun j hj=>?_,h4⟩
    by_cases hji:(j:Int)<i
    ·exact h3 j hj hji
    ·rw [List.getElem?_eq_none (by omega)]; simp)
  Z05 (0,0) ⟨by dsimp only; omega,by dsimp only; omega,by dsimp only; omega,fun j hj hj2=>by dsimp only at hj hj2; omega,by simp⟩ (by unfold Z05; dsimp only; omega)
 cases q with
 | inl a=>
  obtain ⟨k0,k1,k2,k3⟩:=hp
  have hsub:sub s a (s.length:Int)=some (s.drop a.toNat):=by
   unfold sub; rw [if_pos (by omega)]
   congr 1
   rw [List.take_of_length_le (by simp)]
  have hno:(47:UInt8) ∉ s.drop a.toNat:=fun hm=>by
   obtain ⟨k,hk⟩:=List.getElem?_of_mem hm
   rw [List.getElem?_drop] at hk
   exact k2 (a.toNat+k) (by omega) hk
  have hpl:((s.drop a.toNat).length:Int)≤140737488355328:=by simp; omega
  simp only [hq,Option.bind_some,hsub,Zsb _ hpl]
  rw [k3,Y2y _ true hno]
 | inr r=>simp only [hq,Option.bind_some]; exact congrArg some hp.symm
theorem Zwq:∀ (l:List UInt8) (c:UInt8),(Lib.indexByte l c<0)↔c ∉ l
 | [],c=>by simp [Lib.indexByte]
 | b :: l,c=>by
  have ih:=Zwq l c
  have hge:=Lib.indexByte_ge l c
  unfold Lib.indexByte
  by_cases hb:b=c
  ·subst hb; simp
  ·have hb':(b==c)=false:=by simpa using hb
   have hne: ¬ c=b:=fun e=>hb e.symm
   rw [hb']
   simp only [Bool.false_eq_true,if_false,List.mem_cons,hne,false_or]
   rw [← ih]
   by_cases h1:Lib.indexByte l c= -1
   ·rw [h1]; simp
   ·rw [if_neg (by simpa using h1)]; omega
end Go.Proofs
namespace Go.Proofs
open Go.Den
def clsB (s:List UInt8):Bool:=decide (s.length≤64)&&okC true s
def Z6l (t:Z0i):Bool:=
 decide (0≤t.Z14)&&decide (t.Z14≤8)&&
 ((t.Z18==73||t.Z18==74)&&(t.Z0e==[])||t.Z18==86&&(t.Z0e==[])&&t.Z14==0||t.Z18==76&&clsB t.Z0e)
theorem Y33 (t:Z0i) (hl:(t.Z0e.length:Int)≤140737488355328):Zcn t=some (Z6l t):=by
 unfold Zcn Zsg Zu9 Zwd Z6l clsB
 rw [isClass _ hl]
 by_cases h1:t.Z14<0
 ·simp [h1,show ¬ 0≤t.Z14 by omega]
 ·by_cases h2:t.Z14>8
  ·simp [h1,h2,show ¬ t.Z14≤8 by omega]
  ·by_cases b1:t.Z18=73
   ·simp [h1,b1,show ¬ 8<t.Z14 by omega,show 0≤t.Z14 by omega,show t.Z14≤8 by omega]
   ·by_cases b2:t.Z18=74
    ·simp [h1,b2,show ¬ 8<t.Z14 by omega,show 0≤t.Z14 by omega,show t.Z14≤8 by omega]
    ·by_cases b3:t.Z18=86
     ·by_cases b4:t.Z14=0
      ·simp [b3,b4]
      ·simp [h1,b3,b4,show ¬ 8<t.Z14 by omega,show 0≤t.Z14 by omega,show t.Z14≤8 by omega]
     ·by_cases b5:t.Z18=76
      ·simp [h1,b5,show ¬ 8<t.Z14 by omega,show 0≤t.Z14 by omega,show t.Z14≤8 by omega]
      ·simp [h1,b1,b2,b3,b5,show ¬ 8<t.Z14 by omega]
theorem Y10 (t:Z0i) (hl:(t.Z0e.length:Int)≤140737488355328):Z97 t=some (Z6l t):=by
 unfold Z97 Zky Zmg Zqg Z6l clsB
 rw [Y7u _ hl]
 by_cases h1:t.Z14<0
 ·simp [h1,show ¬ 0≤t.Z14 by omega]
 ·by_cases h2:t.Z14>8
  ·simp [h1,h2,show ¬ t.Z14≤8 by omega]
  ·by_cases b1:t.Z18=73
   ·simp [h1,b1,show ¬ 8<t.Z14 by omega,show 0≤t.Z14 by omega,show t.Z14≤8 by omega]
   ·by_cases b2:t.Z18=74
    ·simp [h1,b2,show ¬ 8<t.Z14 by omega,show 0≤t.Z14 by omega,show t.Z14≤8 by omega]
    ·by_cases b3:t.Z18=86
     ·by_cases b4:t.Z14=0
      ·by_cases b6:t.Z0e=[] <;> simp [b3,b4,b6]
      ·by_cases b6:t.Z0e=[] <;> simp [h1,b3,b4,b6,show ¬ 8<t.Z14 by omega,show 0≤t.Z14 by omega,show t.Z14≤8 by omega]
     ·by_cases b5:t.Z18=76
      ·simp [h1,b5,show ¬ 8<t.Z14 by omega,show 0≤t.Z14 by omega,show t.Z14≤8 by omega]
      ·simp [h1,b1,b2,b3,b5,show ¬ 8<t.Z14 by omega]
theorem Zni {t:Z0i} (h:Z6l t=true):0≤t.Z14∧t.Z14≤8∧((t.Z18=73∧t.Z0e=[])∨(t.Z18=74∧t.Z0e=[])∨(t.Z18=86∧t.Z0e=[]∧t.Z14=0)∨(t.Z18=76∧clsB t.Z0e=true))∧t.Z0e.length≤64:=by
 simp only [Z6l,Bool.and_eq_true,Bool.or_eq_true,decide_eq_true_eq,beq_iff_eq] at h
 obtain ⟨⟨h1,h2⟩,h3⟩:=h
 refine ⟨h1,h2,?_,?_⟩
 ·rcases h3 with (⟨h3|h3,h4⟩|⟨⟨h3,h4⟩,h5⟩)|⟨h3,h4⟩
  ·exact .inl ⟨h3,h4⟩
  ·exact .inr (.inl ⟨h3,h4⟩)
  ·exact .inr (.inr (.inl ⟨h3,h4,h5⟩))
  ·exact .inr (.inr (.inr ⟨h3,h4⟩))
 ·rcases h3 with (⟨_,h4⟩|⟨⟨_,h4⟩,_⟩)|⟨_,h4⟩
  ·rw [h4]; simp
  ·rw [h4]; simp
  ·simp only [clsB,Bool.and_eq_true,decide_eq_true_eq] at h4; exact h4.1
def fmt (t:Z0i):List UInt8:=List.replicate t.Z14.toNat 91++UInt8.ofNat t.Z18.toNat::(if t.Z18=76 then t.Z0e++[59] else [])
theorem Zvn {t:Z0i} (h:Z6l t=true):(fmt t).length≤74∧1≤(fmt t).length:=by
 obtain ⟨h1,h2,-,h4⟩:=Zni h
 unfold fmt
 split <;> simp <;> omega
theorem Z7h {n:Nat} (b:Nat) (h:n*b≤140737488355328) (hb:1≤b):Z17 b n=some ():=by
 unfold Z17
 have:n≤n*b:=Nat.le_mul_of_pos_right n hb
 rw [if_pos ⟨by omega,h⟩]
theorem Z9y {n:Int} (h0: -9223372036854775808≤n) (h1:n<9223372036854775808):IntKind.wrap .i64 n=n:=by
 rw [Zqe]; omega
def cut:List UInt8→Option (List UInt8×List UInt8)
 | [] =>none
 | c::r=>if c=59 then some ([],r) else (cut r).map fun x=>(c::x.1,x.2)
def Z2g:List UInt8→Nat
 | [] =>0
 | c::r=>if c=91 then Z2g r+1 else 0
def mkT (d:Nat) (b:Int) (n:List UInt8):Z0i:={ Z14:=d,Z18:=b,Z0e:=n }
def chk (t:Z0i) (r:List UInt8):Option (Z0i×List UInt8):=if Z6l t=true then some (t,r) else none
def rd (s:List UInt8):Option (Z0i×List UInt8):=
 match s.drop (Z2g s) with
 | [] =>none
 | c :: r=>
  if c=76 then
   match cut r with
   | none=>none
   | some (nm,r')=>chk (mkT (Z2g s) 76 nm) r'
  else chk (mkT (Z2g s) (c.toNat:Int) []) r
theorem Zi9:∀ l,match cut l with
  | none=>Lib.indexByte l 59<0∧(59:UInt8) ∉ l
  | some (a,b)=>Lib.indexByte l 59=a.length∧l=a++59::b∧(59:UInt8) ∉ a
 | [] =>by simp [cut,Lib.indexByte]
 | c :: r=>by
  have ih:=Zi9 r
  unfold cut
  by_cases hc:c=59
  ·rw [if_pos hc]; subst hc; simp [Lib.indexByte]
  ·rw [if_neg hc]
   cases h:cut r with
   | none=>
    rw [h] at ih
    have h1:=(Zwq (c::r) 59).2 (by simp only [List.mem_cons,not_or]; exact ⟨fun e=>hc e.symm,ih.2⟩)
    exact ⟨h1,by simp only [List.mem_cons,not_or]; exact ⟨fun e=>hc e.symm,ih.2⟩⟩
   | some x=>
    obtain ⟨a,b⟩:=x
    rw [h] at ih
    obtain ⟨i1,i2,i3⟩:=ih
    refine ⟨?_,by show c::r=c::a++59::b; rw [i2]; rfl,by simp only [List.mem_cons,not_or]; exact ⟨fun e=>hc e.symm,i3⟩⟩
    have: ¬ Lib.indexByte r 59<0:=by omega
    simp [Lib.indexByte,hc,i1]
theorem Zgv:∀ s,Z2g s≤s.length
 | [] =>by simp [Z2g]
 | c::r=>by
  have:=Zgv r
  unfold Z2g; split <;> simp; omega
theorem Zrw:∀ (s:List UInt8) (i:Nat),i<Z2g s→s[i]?=some 91
 | [],i,h=>by simp [Z2g] at h
 | c :: r,i,h=>by
  unfold Z2g at h
  split at h
  ·rename_i hc
   cases i with
   | zero=>simp [hc]
   | succ i=>simpa using Zrw r i (by omega)
  ·omega
theorem Zw6:∀ (s:List UInt8),s[Z2g s]?≠some 91
 | [] =>by simp
 | c::r=>by
  unfold Z2g
  split
  ·simpa using Zw6 r
  ·rename_i hc; simpa using hc
theorem Y00:∀ s:List UInt8,s=List.replicate (Z2g s) 91++s.drop (Z2g s)
 | [] =>rfl
 | c :: r=>by
  have ih:=Y00 r
  unfold Z2g
  split
  ·rename_i hc
   subst hc
   rw [List.replicate_succ,List.drop_succ_cons,List.cons_append,← ih]
  ·simp
theorem i8_eq (c d:UInt8):((c.toNat:Int)=(d.toNat:Int))↔c=d:=by
 constructor
 ·intro h; exact UInt8.toNat_inj.1 (by omega)
 ·intro h; rw [h]
theorem Zau (c d:UInt8):((c.toNat:Int)==(d.toNat:Int))=(c==d):=by
 rw [Bool.eq_iff_iff]; simp only [beq_iff_eq]; exact i8_eq c d
theorem Zdq {α:Type} (l:List α) (n:Nat) (h:n≤l.length):sub l (n:Int) (l.length:Int)=some (l.drop n):=by
 unfold sub
 rw [if_pos (by omega)]
 simp [List.take_of_length_le]
theorem Zwe {α:Type} (l:List α) (n m:Nat) (h:n≤m) (hm:m≤l.length):sub l (n:Int) (m:Int)=some ((l.drop n).take (m - n)):=by
 unfold sub
 rw [if_pos (by omega)]
 simp
theorem Y5z {s r:List UInt8} {t:Z0i} (h:rd s=some (t,r)):Z6l t=true∧s=fmt t++r∧r.length<s.length∧t.Z0e.length≤64:=by
 have hs:=Y00 s
 unfold rd at h
 cases hd:s.drop (Z2g s) with
 | nil=>rw [hd] at h; cases h
 | cons c q=>
  rw [hd] at h hs
  dsimp only at h
  have key:∀ (nm r':List UInt8) (b:Int),chk (mkT (Z2g s) b nm) r'=some (t,r)→Z6l t=true∧t=mkT (Z2g s) b nm∧r'=r:=fun nm r' b hc=>by
   unfold chk at hc
   split at hc
   ·rename_i hv; cases hc; exact ⟨hv,rfl,rfl⟩
   ·cases hc
  split at h
  ·rename_i hc
   subst hc
   have hcut:=Zi9 q
   cases hq:cut q with
   | none=>rw [hq] at h; cases h
   | some x=>
    obtain ⟨nm,r'⟩:=x
    rw [hq] at h hcut
    obtain ⟨k1,k2,k3⟩:=key _ _ _ h
    subst k3
    have hf:s=fmt t++r':=by
     rw [k2]
     unfold fmt mkT
     dsimp only
     rw [if_pos rfl,show ((Z2g s:Nat):Int).toNat=Z2g s from rfl]
     have hq2:q=nm++59::r':=hcut.2.1
     conv=>lhs; rw [hs,hq2]
     simp
    refine ⟨k1,hf,?_,(Zni k1).2.2.2⟩
    have:=(Zvn k1).2
    have hl:=congrArg List.length hf
    rw [List.length_append] at hl; omega
  ·rename_i hc
   obtain ⟨k1,k2,k3⟩:=key _ _ _ h
   subst k3
   have hf:s=fmt t++q:=by
    rw [k2]
    unfold fmt mkT
    dsimp only
    rw [if_neg (fun e:(c.toNat:Int)=76=>hc ((i8_eq c 76).1 e))]
    rw [show ((Z2g s:Nat):Int).toNat=Z2g s from rfl,show ((c.toNat:Nat):Int).toNat=c.toNat from rfl]
    conv=>lhs; rw [hs]
    simp
   refine ⟨k1,hf,?_,(Zni k1).2.2.2⟩
   have:=(Zvn k1).2
   have hl:=congrArg List.length hf
   rw [List.length_append] at hl; omega
theorem Zcm {s:List UInt8} {i:Nat} {c:UInt8} (h:s[i]?=some c):Z33 s (i:Int)=some (c.toNat:Int):=by
 unfold Z33
 rw [if_pos (by omega),Int.toNat_natCast,h]; rfl
theorem getS0 {c:UInt8} {r:List UInt8}:Z33 (c::r) 0=some (c.toNat:Int):=rfl
theorem Y6t (s:List UInt8) (hl:(s.length:Int)≤140737488355328):Z04 (Zho s) Z05 0=some (Z2g s:Int):=by
 have hle:=Zgv s
 have:∃ r,Z04 (Zho s) Z05 0=some r∧r=(Z2g s:Int):=by
  refine Zaf (fun i:Int=>0≤i∧i≤Z2g s) (fun i:Int=>((s.length:Int) - i).toNat) (fun r=>r=(Z2g s:Int)) ?_ Z05 0 ⟨by omega,by omega⟩ ?_
  ·intro i ⟨i0,i1⟩
   obtain ⟨n,rfl⟩:=Int.eq_ofNat_of_zero_le i0
   unfold Zho
   by_cases hlt:n<s.length
   ·have hc:s[n]?=some s[n] :=List.getElem?_eq_getElem hlt
    rw [if_pos (by simpa using hlt),Zcm hc]
    try simp only [Option.bind_some]
    rw [show (91:Int)=((91:UInt8).toNat:Int) from rfl,Zau]
    by_cases h91:s[n]=91
    ·rw [if_pos (by simpa using h91),Z9y (by omega) (by omega)]
     have hn:n≠Z2g s:=by
      intro e
      apply Zw6 s
      rw [← e,hc,h91]
     exact ⟨_,rfl,⟨by omega,by omega⟩,by omega⟩
    ·rw [if_neg (by simpa using h91)]
     refine ⟨_,rfl,?_⟩
     show (n:Int)=Z2g s
     rcases Nat.lt_or_ge n (Z2g s) with h'|h'
     ·have:=Zrw s n h'
      rw [hc] at this
      exact absurd (by simpa using this) h91
     ·omega
   ·rw [if_neg (by simpa using hlt)]
    exact ⟨_,rfl,by show (n:Int)=Z2g s; omega⟩
  ·show ((s.length:Int) - 0).toNat<18446744073709551616
   omega
 obtain ⟨r,h1,h2⟩:=this
 rw [h1,h2]
theorem index59 (s:List UInt8):Zv0 s 59=some (Lib.indexByte s 59):=rfl
theorem Zov (t:Z0i) (r:List UInt8) (hl:(t.Z0e.length:Int)≤140737488355328):∃ b,Zcn t=some b∧Z97 t=some b∧chk t r=if b=true then some (t,r) else none:=
 ⟨Z6l t,Y33 t hl,Y10 t hl,rfl⟩
theorem Y5u (s:List UInt8) (hl:(s.length:Int)≤140737488355328):∃ v,Zh9 s=some v∧match rd s with
  | some (t,r)=>v=(t,r,true)
  | none=>v.2.2=false:=by
 have hle:=Zgv s
 unfold Zh9 rd
 rw [Y6t s hl]
 try simp only [Option.bind_some]
 rw [Zdq s _ hle]
 try simp only [Option.bind_some]
 have hlen:(s.drop (Z2g s)).length≤s.length:=by rw [List.length_drop]; omega
 cases hd:s.drop (Z2g s) with
 | nil=>exact ⟨_,rfl,rfl⟩
 | cons c q=>
  rw [hd] at hlen
  simp only [List.length_cons] at hlen
  rw [if_neg (by simp),getS0]
  try simp only [Option.bind_some]
  rw [show (1:Int)=((1:Nat):Int) from rfl,Zdq (c::q) 1 (by simp)]
  simp only [Option.bind_some,List.drop_succ_cons,List.drop_zero]
  rw [show (76:Int)=((76:UInt8).toNat:Int) from rfl,Zau]
  by_cases hc:c=76
  ·rw [if_pos (by simpa using hc),if_pos hc,index59]
   try simp only [Option.bind_some]
   have hcut:=Zi9 q
   cases hq:cut q with
   | none=>
    rw [hq] at hcut
    rw [if_pos (decide_eq_true hcut.1)]
    exact ⟨_,rfl,rfl⟩
   | some x=>
    obtain ⟨nm,r'⟩:=x
    rw [hq] at hcut
    obtain ⟨h1,h2,h3⟩:=hcut
    have hql:q.length=nm.length+1+r'.length:=by rw [h2]; simp; omega
    rw [h1,if_neg (by simp)]
    rw [show (0:Int)=((0:Nat):Int) from rfl,Zwe q 0 nm.length (by omega) (by omega)]
    try simp only [Option.bind_some]
    rw [Z9y (by omega) (by omega)]
    try simp only [Option.bind_some]
    rw [show (nm.length:Int)+((1:Nat):Int)=((nm.length+1:Nat):Int) by omega,Zdq q _ (by omega)]
    try simp only [Option.bind_some]
    have e1:(q.drop 0).take (nm.length - 0)=nm:=by rw [h2]; simp
    have e2:q.drop (nm.length+1)=r':=by rw [h2,List.drop_append]; simp
    rw [e1,e2,hc]
    unfold Ziq
    obtain ⟨b,k1,-,k3⟩:=Zov (mkT (Z2g s) 76 nm) r' (by show (nm.length:Int)≤_; omega)
    unfold mkT at k1
    rw [show (((76:UInt8).toNat:Nat):Int)=76 from rfl,k1]
    rw [k3]
    cases b with
    | true=>exact ⟨_,rfl,rfl⟩
    | false=>exact ⟨_,rfl,rfl⟩
  ·rw [if_neg (by simpa using hc),if_neg hc]
   unfold Ziq
   obtain ⟨b,k1,-,k3⟩:=Zov (mkT (Z2g s) (c.toNat:Int) []) q (by show (([]:List UInt8).length:Int)≤_; simp)
   unfold mkT at k1
   rw [k1]
   rw [k3]
   cases b with
   | true=>exact ⟨_,rfl,rfl⟩
   | false=>exact ⟨_,rfl,rfl⟩
def zeroT:Z0i:={ Z14:=0,Z18:=0,Z0e:=[] }
def Zt2 (s:List UInt8):Z0i×Int:=match rd s with
 | some (t,[])=>(t,0)
 | _=>(zeroT,13)
theorem Y7o (s:List UInt8) (hl:(s.length:Int)≤140737488355328):Zks s=some (Zt2 s):=by
 obtain ⟨v,h1,h2⟩:=Y5u s hl
 unfold Zks Zt2
 rw [h1]
 try simp only [Option.bind_some]
 cases hr:rd s with
 | none=>rw [hr] at h2; dsimp only at h2; rw [h2]; rfl
 | some x=>
  obtain ⟨t,r⟩:=x
  rw [hr] at h2
  dsimp only at h2
  subst h2
  cases r with
  | nil=>rfl
  | cons c r=>rfl
theorem Yb2 (s:List UInt8) (hl:(s.length:Int)≤140737488355328) (at_:Nat) (h:at_≤s.length):Z04 (Zbt s) Z05 ((at_:Int),0)=some ((Z2g (s.drop at_):Int),((at_+Z2g (s.drop at_):Nat):Int)):=by
 have hle:=Zgv (s.drop at_)
 rw [List.length_drop] at hle
 have hget:∀ k,(s.drop at_)[k]?=s[at_+k]? :=fun k=>by rw [List.getElem?_drop]
 have : ∃ r, Z04 (Zbt s) Z05 ((at_:Int),0)=some r∧r=((Z2g (s.drop at_):Int),((at_+Z2g (s.drop at_):Nat):Int)):=by
  refine Zaf (fun p=>∃ k:Nat,k≤Z2g (s.drop at_)∧p=(((at_+k:Nat):Int),(k:Int))) (fun p=>((s.length:Int) - p.1).toNat) (fun r=>r=((Z2g (s.drop at_):Int),((at_+Z2g (s.drop at_):Nat):Int))) ?_ Z05 _ ⟨0,by omega,by simp⟩ ?_
  ·rintro p ⟨k,hk,rfl⟩
   unfold Zbt
   dsimp only
   by_cases hlt:at_+k<s.length
   ·have hc:s[at_+k]?=some s[at_+k] :=List.getElem?_eq_getElem hlt
    rw [if_pos (decide_eq_true (by omega)),Zcm hc]
    try simp only [Option.bind_some]
    rw [show (91:Int)=((91:UInt8).toNat:Int) from rfl,Zau]
    by_cases h91:s[at_+k]=91
    ·rw [if_pos (by simpa using h91)]
     unfold Zgm
     dsimp only
     rw [Z9y (by omega) (by omega)]
     try simp only [Option.bind_some]
     rw [Z9y (by omega) (by omega)]
     try simp only [Option.bind_some]
     have hn:k≠Z2g (s.drop at_):=by
      intro e
      apply Zw6 (s.drop at_)
      rw [← e,hget,hc,h91]
     exact ⟨_,rfl,⟨k+1,by omega,by simp; omega⟩,by dsimp only; omega⟩
    ·rw [if_neg (by simpa using h91)]
     refine ⟨_,rfl,?_⟩
     have hn:k=Z2g (s.drop at_):=by
      rcases Nat.lt_or_ge k (Z2g (s.drop at_)) with h'|h'
      ·have:=Zrw _ k h'
       rw [hget,hc] at this
       exact absurd (by simpa using this) h91
      ·omega
     show ((k:Int),((at_+k:Nat):Int))=_
     rw [← hn]
   ·rw [if_neg (by simp; omega)]
    refine ⟨_,rfl,?_⟩
    show ((k:Int),((at_+k:Nat):Int))=_
    rw [show k=Z2g (s.drop at_) by omega]
  ·show ((s.length:Int) - (at_:Int)).toNat<18446744073709551616
   omega
 obtain ⟨r,h1,h2⟩:=this
 rw [h1,h2]
theorem Yci (s:List UInt8) (hl:(s.length:Int)≤140737488355328) (at_:Nat) (h:at_≤s.length):Z04 (Zbp s) Z05 (at_:Int)=some (match cut (s.drop at_) with
  | some (a,_)=>((at_+a.length:Nat):Int)
  | none=>(s.length:Int)):=by
 have hcut:=Zi9 (s.drop at_)
 have hlen:(s.drop at_).length=s.length - at_:=List.length_drop
 have hget:∀ k,(s.drop at_)[k]?=s[at_+k]? :=fun k=>by rw [List.getElem?_drop]
 -- how far it goes
 obtain ⟨m,hm,hno,hend⟩:∃ m:Nat,(match cut (s.drop at_) with
   | some (a,_)=>((at_+a.length:Nat):Int)
   | none=>(s.length:Int))=((at_+m:Nat):Int)∧(∀ k,k<m→∃ c,s[at_+k]?=some c∧c≠59)∧(at_+m=s.length∨s[at_+m]?=some 59):=by
  cases hq:cut (s.drop at_) with
  | none=>
   rw [hq] at hcut
   refine ⟨s.length - at_,by dsimp only; omega,fun k hk=>?_,.inl (by omega)⟩
   have hlt:at_+k<s.length:=by omega
   refine ⟨s[at_+k],List.getElem?_eq_getElem hlt,fun e=>hcut.2 ?_⟩
   have:(s.drop at_)[k]?=some 59:=by rw [hget,List.getElem?_eq_getElem hlt,e]
   exact List.mem_of_getElem? this
  | some x=>
   obtain ⟨a,b⟩:=x
   rw [hq] at hcut
   obtain ⟨-,h2,h3⟩:=hcut
   refine ⟨a.length,rfl,fun k hk=>?_,.inr ?_⟩
   ·have:(s.drop at_)[k]?=some a[k] :=by rw [h2,List.getElem?_append_left hk,List.getElem?_eq_getElem hk]
    rw [hget] at this
    exact ⟨_,this,fun e=>h3 (e ▸ List.getElem_mem hk)⟩
   ·rw [← hget,h2,List.getElem?_append_right (Nat.le_refl _)]; simp
 rw [hm]
 have hms:at_+m≤s.length:=by
  rcases hend with h'|h'
  ·omega
  ·rcases Nat.lt_or_ge (at_+m) s.length with h2|h2
   ·omega
   ·rw [List.getElem?_eq_none h2] at h'; cases h'
 have:∃ r,Z04 (Zbp s) Z05 (at_:Int)=some r∧r=((at_+m:Nat):Int):=by
  refine Zaf (fun p=>∃ k:Nat,k≤m∧p=((at_+k:Nat):Int)) (fun p=>((s.length:Int) - p).toNat) (fun r=>r=((at_+m:Nat):Int)) ?_ Z05 _ ⟨0,by omega,by simp⟩ ?_
  ·rintro p ⟨k,hk,rfl⟩
   unfold Zbp
   by_cases hkm:k<m
   ·obtain ⟨c,hc,hne⟩:=hno k hkm
    rw [if_pos (decide_eq_true (by omega)),Zcm hc]
    try simp only [Option.bind_some]
    rw [show (59:Int)=((59:UInt8).toNat:Int) from rfl,bne,Zau]
    rw [if_pos (by simpa using hne),Z9y (by omega) (by omega)]
    exact ⟨_,rfl,⟨k+1,by omega,by simp; omega⟩,by omega⟩
   ·obtain rfl:k=m:=by omega
    rcases hend with h'|h'
    ·rw [if_neg (by simp; omega)]
     exact ⟨_,rfl,rfl⟩
    ·have hlt:at_+k<s.length:=by
      rcases Nat.lt_or_ge (at_+k) s.length with h2|h2
      ·exact h2
      ·rw [List.getElem?_eq_none h2] at h'; cases h'
     rw [if_pos (decide_eq_true (by omega)),Zcm h']
     try simp only [Option.bind_some]
     rw [show (59:Int)=((59:UInt8).toNat:Int) from rfl,bne,Zau]
     exact ⟨_,rfl,rfl⟩
  ·show ((s.length:Int) - (at_:Int)).toNat<18446744073709551616
   omega
 obtain ⟨r,h1,h2⟩:=this
 rw [h1,h2]
theorem Zzc (s:List UInt8) (hl:(s.length:Int)≤140737488355328) (at_:Nat) (h:at_≤s.length):Z8i s (at_:Int)=some (match rd (s.drop at_) with
  | some (t,r)=>(t,((s.length - r.length:Nat):Int))
  | none=>(zeroT,-1)):=by
 have hle:=Zgv (s.drop at_)
 rw [List.length_drop] at hle
 unfold Z8i rd
 rw [Yb2 s hl at_ h]
 try simp only [Option.bind_some]
 have hdd:(s.drop at_).drop (Z2g (s.drop at_))=s.drop (at_+Z2g (s.drop at_)):=by rw [List.drop_drop]
 rw [hdd]
 generalize hk:at_+Z2g (s.drop at_)=k
 have hks:k≤s.length:=by omega
 cases hd:s.drop k with
 | nil=>
  have:s.length≤k:=by simpa using hd
  rw [if_pos (decide_eq_true (by omega))]; rfl
 | cons c q=>
  have hlt:k<s.length:=by
   rcases Nat.lt_or_ge k s.length with h'|h'
   ·exact h'
   ·rw [List.drop_eq_nil_of_le h'] at hd; cases hd
  have hc:s[k]?=some c:=by
   have:=congrArg (fun l=>l[0]?) hd
   simpa using this
  have hq:s.drop (k+1)=q:=by
   have:=congrArg List.tail hd
   simpa [List.tail_drop] using this
  have hql:q.length=s.length - (k+1):=by rw [← hq,List.length_drop]
  rw [if_neg (by simp; omega),Zcm hc]
  try simp only [Option.bind_some]
  rw [Z9y (by omega) (by omega)]
  try simp only [Option.bind_some]
  rw [show (76:Int)=((76:UInt8).toNat:Int) from rfl,Zau,show (k:Int)+1=((k+1:Nat):Int) by omega]
  by_cases h76:c=76
  ·rw [if_pos (by simpa using h76),if_pos h76,Yci s hl (k+1) (by omega),hq]
   try simp only [Option.bind_some]
   have hcut:=Zi9 q
   cases hcq:cut q with
   | none=>rw [if_pos (decide_eq_true (by simp))]; rfl
   | some x=>
    obtain ⟨nm,r'⟩:=x
    rw [hcq] at hcut
    obtain ⟨-,e2,e3⟩:=hcut
    have hl2:q.length=nm.length+1+r'.length:=by rw [e2]; simp; omega
    rw [if_neg (by simp; omega),Zwe s (k+1) (k+1+nm.length) (by omega) (by omega)]
    try simp only [Option.bind_some]
    rw [Z9y (by omega) (by omega)]
    try simp only [Option.bind_some]
    have e4:(s.drop (k+1)).take (k+1+nm.length - (k+1))=nm:=by
     rw [hq,show k+1+nm.length - (k+1)=nm.length by omega,e2]; simp
    rw [e4,h76]
    unfold Z9f
    obtain ⟨b,-,k2,k3⟩:=Zov (mkT (Z2g (s.drop at_)) 76 nm) r' (by show (nm.length:Int)≤_; omega)
    unfold mkT at k2
    dsimp only
    rw [show (((76:UInt8).toNat:Nat):Int)=76 from rfl,k2,k3]
    cases b with
    | false=>rfl
    | true=>
     simp only [Option.bind_some,Bool.not_true,Bool.false_eq_true,if_false,if_true,Option.some.injEq,Prod.mk.injEq]
     exact ⟨rfl,by omega⟩
  ·rw [if_neg (by simpa using h76),if_neg h76]
   unfold Z9f
   obtain ⟨b,-,k2,k3⟩:=Zov (mkT (Z2g (s.drop at_)) (c.toNat:Int) []) q (by show (([]:List UInt8).length:Int)≤_; simp)
   unfold mkT at k2
   dsimp only
   rw [k2,k3]
   cases b with
   | false=>rfl
   | true=>
    simp only [Option.bind_some,Bool.not_true,Bool.false_eq_true,if_false,if_true,Option.some.injEq,Prod.mk.injEq]
    exact ⟨rfl,by omega⟩
def okP1 (t:Z0i):Bool:=Z6l t&&t.Z18 !=86
theorem Y2s {T T' R R':Type} {f:T→Option (Ctl T R)} {f':T'→Option (Ctl T' R')} (I:T→T'→Prop) (μ:T→Nat) (Post:R→R'→Prop)
  (step:∀ t t',I t t'→∃ x x',f t=some x∧f' t'=some x'∧match x,x' with
   | .next a,.next b=>I a b∧μ a<μ t
   | .done a,.done b=>Post a b
   | _,_=>False):∀ (n:Nat) (t:T) (t':T'),I t t'→μ t<n→∃ r r',Z04 f n t=some r∧Z04 f' n t'=some r'∧Post r r'
 | 0,t,t',_,h=>absurd h (Nat.not_lt_zero _)
 | n + 1,t,t',hI,h=>by
  obtain ⟨x,x',hx,hx',hp⟩:=step t t' hI
  cases x with
  | next a=>
   cases x' with
   | next b=>
    obtain ⟨r,r',h1,h2,h3⟩:=Y2s I μ Post step n a b hp.1 (by have:=hp.2; omega)
    exact ⟨r,r',by rw [Z04,hx]; exact h1,by rw [Z04,hx']; exact h2,h3⟩
   | done b=>exact absurd hp id
  | done a=>
   cases x' with
   | next b=>exact absurd hp id
   | done b=>exact ⟨a,b,by rw [Z04,hx],by rw [Z04,hx'],hp⟩
def zeroG:Z29:={ Z4a:=[],Z37:=zeroT }
theorem Y8x (s:List UInt8) (hl:s.length≤2000000) (h1:1≤s.length):∃ r r',Z04 Zl4 Z05 (s.drop 1,[])=some r∧Z04 (Zhk s) Z05 (1,[])=some r'∧match r,r' with
  | .inl a,.inl b=>a.1=b.1∧a.1.all okP1=true∧a.1.length≤2000000∧(∃ k:Nat,b.2=(k:Int)∧k≤s.length∧a.2=s.drop k)∧a.1.flatMap fmt++a.2=s.drop 1∧(a.2=[]∨∃ q,a.2=41::q)
  | .inr a,.inr b=>a=(zeroG,13)∧b=(zeroG,13)
  | _,_=>False:=by
 refine Y2s (fun p p'=>p.2=p'.2∧p.2.all okP1=true∧(∃ k:Nat,p'.1=(k:Int)∧k≤s.length∧p.1=s.drop k∧p.2.length≤k)∧p.2.flatMap fmt++p.1=s.drop 1) (fun p=>p.1.length) _ ?_ Z05 _ _
  ⟨rfl,by simp,⟨1,rfl,h1,rfl,by simp⟩,by simp⟩ ?_
 ·rintro ⟨s',acc⟩ ⟨at_,acc'⟩ ⟨e1,hok,⟨k,e2,hk,e3,hac⟩,hcat⟩
  dsimp only at e1 e2 e3 hok hac hcat
  subst e1 e2 e3
  unfold Zl4 Zhk
  dsimp only
  cases hd:s.drop k with
  | nil=>
   have:s.length≤k:=by simpa using hd
   rw [if_neg (by simp),if_neg (by simp; omega)]
   refine ⟨_,_,rfl,rfl,?_⟩
   exact ⟨rfl,hok,by show acc.length≤2000000; omega,⟨k,rfl,hk,hd.symm⟩,by rw [← hd]; exact hcat,.inl rfl⟩
  | cons c q=>
   have hlt:k<s.length:=by
    rcases Nat.lt_or_ge k s.length with h'|h'
    ·exact h'
    ·rw [List.drop_eq_nil_of_le h'] at hd; cases hd
   have hc:s[k]?=some c:=by
    have:=congrArg (fun l=>l[0]?) hd
    simpa using this
   rw [if_pos (by simp),if_pos (decide_eq_true (by omega)),getS0,Zcm hc]
   simp only [Option.bind_some]
   rw [show (41:Int)=((41:UInt8).toNat:Int) from rfl,bne,Zau]
   by_cases h41:c=41
   ·rw [if_neg (by simpa using h41),if_neg (by simpa using h41)]
    refine ⟨_,_,rfl,rfl,?_⟩
    exact ⟨rfl,hok,by show acc.length≤2000000; omega,⟨k,rfl,hk,hd.symm⟩,by rw [← hd]; exact hcat,.inr ⟨q,by rw [h41]⟩⟩
   ·rw [if_pos (by simpa using h41),if_pos (by simpa using h41)]
    unfold j78x2 Zk2
    dsimp only
    rw [← hd]
    obtain ⟨v,hv,hrd⟩:=Y5u (s.drop k) (by rw [List.length_drop]; omega)
    rw [hv,Zzc s (by omega) k hk]
    simp only [Option.bind_some]
    cases hr:rd (s.drop k) with
    | none=>
     rw [hr] at hrd
     dsimp only at hrd ⊢
     rw [hrd]
     exact ⟨_,_,rfl,rfl,rfl,rfl⟩
    | some x=>
     obtain ⟨t,r⟩:=x
     rw [hr] at hrd
     dsimp only at hrd ⊢
     subst hrd
     obtain ⟨g1,g2,g3,g4⟩:=Y5z hr
     dsimp only
     rw [if_neg (show ¬ ((!true)=true) by decide),if_neg (show ¬ (decide (((s.length - r.length:Nat):Int)<0)=true) by simp)]
     by_cases h86:t.Z18=86
     ·rw [if_pos (by simpa using h86),if_pos (by simpa using h86)]
      exact ⟨_,_,rfl,rfl,rfl,rfl⟩
     ·rw [if_neg (by simpa using h86),if_neg (by simpa using h86)]
      unfold j78x3 Zk1
      dsimp only
      have hrl:r.length<s.length - k:=by rw [← List.length_drop]; exact g3
      rw [Z7h 32 (by simp; omega) (by omega)]
      simp only [Option.bind_some]
      refine ⟨_,_,rfl,rfl,⟨rfl,?_,⟨s.length - r.length,rfl,by omega,?_,?_⟩,?_⟩,g3⟩
      ·rw [List.all_append,hok]
       show (true&&([t].all okP1))=true
       simp [okP1,g1,h86]
      ·dsimp only
       have hf:=(Zvn g1).2
       have e5:s.drop k=fmt t++r:=g2
       have e6:(fmt t).length+r.length=s.length - k:=by rw [← List.length_append,← e5,List.length_drop]
       have e7:s.drop (s.length - r.length)=(s.drop k).drop (fmt t).length:=by rw [List.drop_drop]; congr 1; omega
       rw [e7,e5,List.drop_left]
      ·dsimp only
       rw [List.length_append]
       simp only [List.length_singleton]
       omega
      ·dsimp only
       rw [List.flatMap_append,List.append_assoc]
       show List.flatMap fmt acc++([t].flatMap fmt++r)=_
       rw [show [t].flatMap fmt=fmt t by simp,← g2]; exact hcat
 ·show (s.drop 1).length<18446744073709551616
  rw [List.length_drop]; omega
theorem Ycv (s:List UInt8) (hl:s.length≤2000000):∃ v,Zpj s=some v∧Z9b s=some v∧(v.2=0→Z6l v.1.Z37=true∧∃ q,s=40::q)∧v.1.Z4a.all okP1=true∧v.1.Z4a.length≤16:=by
 unfold Zpj Z9b
 cases s with
 | nil=>exact ⟨_,rfl,rfl,(fun h=>absurd h (by decide)),rfl,by decide⟩
 | cons c q=>
  rw [if_neg (by simp),if_neg (by simp),getS0]
  simp only [Option.bind_some]
  rw [show (40:Int)=((40:UInt8).toNat:Int) from rfl,bne,Zau]
  by_cases h40:c=40
  ·rw [if_neg (by simpa using h40),if_neg (by simpa using h40)]
   unfold j78x1 Zkm
   obtain ⟨r,r',h1,h2,h3⟩:=Y8x (c::q) hl (by simp)
   rw [show sub (c::q) 1 ((c::q).length:Int)=some ((c::q).drop 1) from Zdq (c::q) 1 (by simp),h2]
   simp only [Option.bind_some]
   rw [h1]
   simp only [Option.bind_some]
   cases r with
   | inr a=>
    cases r' with
    | inl b=>exact absurd h3 id
    | inr b=>
     dsimp only at h3 ⊢
     obtain ⟨rfl,rfl⟩:=h3
     exact ⟨_,rfl,rfl,(fun h=>absurd h (by decide)),rfl,by decide⟩
   | inl a =>
    cases r' with
    | inr b=>exact absurd h3 id
    | inl b =>
     obtain ⟨acc,s'⟩:=a
     obtain ⟨acc',at_⟩:=b
     dsimp only at h3 ⊢
     obtain ⟨e1,hok,hacc,⟨k,e2,hk,e3⟩,hcat,hend⟩:=h3
     have hlc:(c::q).length=q.length+1:=List.length_cons
     subst e1 e2
     rcases hend with hnil|⟨q',hq'⟩
     ·subst hnil
      have:(c::q).length≤k:=by
       have:=congrArg List.length e3
       rw [List.length_drop] at this
       simp only [List.length_nil] at this
       omega
      rw [if_pos (by simp),if_pos (decide_eq_true (by omega))]
      exact ⟨_,rfl,rfl,(fun h=>absurd h (by decide)),rfl,by decide⟩
     ·have hlen:q'.length+1=(c::q).length - k:=by
       have:=congrArg List.length e3
       rw [List.length_drop,hq'] at this
       simpa using this
      have hdrop:(c::q).drop (k+1)=q':=by
       rw [← List.drop_drop,← e3,hq']; rfl
      rw [hq',if_neg (by simp),if_neg (by simp; omega)]
      rw [show sub (41::q') 1 ((41::q').length:Int)=some ((41::q').drop 1) from Zdq (41::q') 1 (by simp)]
      simp only [Option.bind_some]
      rw [Z9y (by omega) (by omega)]
      simp only [Option.bind_some,List.drop_succ_cons,List.drop_zero]
      rw [Y7o q' (by omega),show (k:Int)+1=((k+1:Nat):Int) by omega,Zzc (c::q) (by omega) (k+1) (by omega),hdrop]
      simp only [Option.bind_some]
      unfold Zt2
      cases hr:rd q' with
      | none=>
       dsimp only
       rw [if_pos (by decide),if_pos (by simp <;> omega)]
       exact ⟨_,rfl,rfl,(fun h=>absurd h (by decide)),rfl,by decide⟩
      | some x=>
       obtain ⟨t,r⟩:=x
       obtain ⟨g1,g2,g3,g4⟩:=Y5z hr
       cases r with
       | cons c2 r2=>
        have hne:(((c::q).length - (c2::r2).length:Nat):Int)≠((c::q).length:Int):=by
         simp only [List.length_cons] at g3 hlen ⊢; omega
        dsimp only
        rw [if_pos (by decide),if_pos (bne_iff_ne.2 hne)]
        exact ⟨_,rfl,rfl,(fun h=>absurd h (by decide)),rfl,by decide⟩
       | nil=>
        dsimp only
        rw [if_neg (show ¬ (((0:Int)!=0)=true) by decide),if_neg (show ¬ ((((c::q).length - ([]:List UInt8).length:Nat):Int)!=((c::q).length:Int))=true by simp)]
        by_cases h16:(acc.length:Int)>16
        ·rw [if_pos (decide_eq_true h16)]
         exact ⟨_,rfl,rfl,(fun h=>absurd h (by decide)),rfl,by decide⟩
        ·rw [if_neg (by simpa using h16)]
         exact ⟨_,rfl,rfl,(fun _=>⟨g1,q,by rw [h40]⟩),hok,by dsimp only; omega⟩
  ·rw [if_pos (by simpa using h40),if_pos (by simpa using h40)]
   exact ⟨_,rfl,rfl,(fun h=>absurd h (by decide)),rfl,by decide⟩
end Go.Proofs
namespace Go.Proofs
open Go.Den Go.Tot
def Im {α:Type} (o:Option α) (P:α→Prop):Prop:=∀ r,o=some r→P r
namespace I
variable {α β:Type} {P:α→Prop} {Q:β→Prop}
theorem ok {x:α} (h:P x):Im (some x) P:=fun r e=>by cases e; exact h
theorem bd {o:Option α} {f:α→Option β} (h:Im o P) (k:∀ x,P x→Im (f x) Q):Im (o.bind f) Q:=fun r e=>by
 obtain ⟨x,e1,e2⟩:=Option.bind_eq_some_iff.1 e
 exact k x (h x e1) r e2
theorem sk {o:Option α} {f:α→Option β} (k:∀ x,o=some x→Im (f x) Q):Im (o.bind f) Q:=fun r e=>by
 obtain ⟨x,e1,e2⟩:=Option.bind_eq_some_iff.1 e
 exact k x e1 r e2
theorem br {b:Bool} {x y:Option α} (T:b=true→Im x P) (F:b=false→Im y P):Im (if b=true then x else y) P:=by
 cases b with
 | true=>exact T rfl
 | false=>exact F rfl
theorem mono {P':α→Prop} {o:Option α} (h:Im o P) (k:∀ x,P x→P' x):Im o P':=fun r e=>k r (h r e)
def Ct {T R:Type} (I:T→Prop) (Q:R→Prop):Ctl T R→Prop
 | .next t=>I t
 | .done r=>Q r
theorem nx {T R:Type} {I:T→Prop} {Q:R→Prop} {t:T} (h:I t):Im (some (Ctl.next t:Ctl T R)) (Ct I Q):=ok h
theorem dn {T R:Type} {I:T→Prop} {Q:R→Prop} {r:R} (h:Q r):Im (some (Ctl.done r:Ctl T R)) (Ct I Q):=ok h
theorem lp {T R:Type} {f:T→Option (Ctl T R)} (I:T→Prop) {Q:R→Prop} (h:∀ t,I t→Im (f t) (Ct I Q)):∀ {n:Nat} {t:T},I t→Im (Z04 f n t) Q
 | 0,t,_,r,e=>by cases e
 | n + 1,t,ht,r,e=>by
  unfold Z04 at e
  have:=h t ht
  split at e
  ·rename_i s' hs
   exact lp I h (this _ hs) r e
  ·rename_i r' hs
   cases e
   exact this _ hs
  ·cases e
end I
theorem Z58 {α:Type} {l:List α} {i:Int} {v:α} (h:Z01 l i=some v):v∈l∧0≤i∧l[i.toNat]?=some v:=by
 unfold Z01 at h
 split at h
 ·exact ⟨List.mem_of_getElem? h,by assumption,h⟩
 ·cases h
def Sb (P Q:List Z00):Prop:=∀ c∈P,c∈Q
def In1 (s:List UInt8) (P:List Z00):Prop:=∃ c∈P,c.Z2h=1∧c.f_S=s
theorem Sb.trans {P Q R:List Z00} (h:Sb P Q) (k:Sb Q R):Sb P R:=fun c hc=>k c (h c hc)
theorem Zgz (P:List Z00) (c:Z00):Im (Z75 P c) (fun r=>Sb P r.1∧(r.2.2=0→c∈r.1)):=by
 unfold Z75
 refine I.bd (I.lp (fun _=>True) (Q:=fun q=>match q with|.inl _=>True|.inr r=>Sb P r.1∧c∈r.1) (fun t _=>?_) trivial) fun q hq=>?_
 ·unfold Zhp
  refine I.br (fun _=>I.sk fun v e=>I.br (fun h=>I.sk fun _ _=>I.dn ⟨fun c h=>h,?_⟩) fun _=>I.sk fun _ _=>I.nx trivial) fun _=>I.dn trivial
  have:v=c:=by
   unfold Zut at h
   simp only [Bool.and_eq_true,beq_iff_eq,and_true] at h
   obtain ⟨a1,a2,a3,a4,a5⟩:=h
   cases v; cases c; simp_all
  subst this
  exact (Z58 e).1
 ·cases q with
  | inr r=>exact I.ok ⟨hq.1,fun _=>hq.2⟩
  | inl _=>exact I.br (fun _=>I.ok ⟨fun c h=>h,fun h=>by cases h⟩) fun _=>I.sk fun _ _=>I.sk fun _ _=>I.sk fun _ _=>I.ok ⟨fun c h=>by simp [h],fun _=>by simp⟩
theorem Zik (P:List Z00) (s:List UInt8):Im (Z7t P s) (fun r=>Sb P r.1∧(r.2.2=0→In1 s r.1)):=by
 unfold Z7t
 exact I.bd (Zgz _ _) fun v h=>I.ok ⟨h.1,fun e=>⟨_,h.2 e,rfl,rfl⟩⟩
theorem i_Add' (P:List Z00) (c:Z00):Im (Z75 P c) (fun r=>Sb P r.1):=I.mono (Zgz P c) fun _ h=>h.1
theorem i_UTF8' (P:List Z00) (s:List UInt8):Im (Z7t P s) (fun r=>Sb P r.1):=I.mono (Zik P s) fun _ h=>h.1
theorem Zxf (P:List Z00) (t:Int) (s:List UInt8):Im (Zbm P t s) (fun r=>Sb P r.1):=by
 unfold Zbm
 exact I.bd (Zik _ _) fun v h=>I.br (fun _=>I.ok fun c h=>h) fun _=>I.bd (Zgz _ _) fun v' h'=>I.br (fun _=>I.ok fun c h=>h) fun _=>I.ok (h.1.trans h'.1)
theorem Zso (P:List Z00) (s:List UInt8):Im (Za2 P s) (fun r=>Sb P r.1):=by
 unfold Za2
 exact I.bd (Zxf _ _ _) fun v h=>I.ok h
theorem Yav (P:List Z00) (s:List UInt8):Im (Zc5 P s) (fun r=>Sb P r.1):=by
 unfold Zc5
 exact I.bd (Zxf _ _ _) fun v h=>I.ok h
theorem Y8l (P:List Z00) (t:Int) (x:Z21):Im (Zb1 P t x) (fun r=>Sb P r.1):=by
 unfold Zb1
 exact I.bd (Zso _ _) fun v h=>I.br (fun _=>I.ok fun c h=>h) fun _=>I.bd (Zik _ _) fun v1 h1=>I.br (fun _=>I.ok fun c h=>h) fun _=>I.bd (Zik _ _) fun v2 h2=>I.br (fun _=>I.ok fun c h=>h) fun _=>
  I.bd (Zgz _ _) fun v3 h3=>I.br (fun _=>I.ok fun c h=>h) fun _=>I.bd (Zgz _ _) fun v4 h4=>I.br (fun _=>I.ok fun c h=>h) fun _=>I.ok ((((h.trans h1.1).trans h2.1).trans h3.1).trans h4.1)
theorem i_place (P:List Z00) (x:Z02):Im (Zdb P x) (fun r=>Sb P r.1):=by
 unfold Zdb Zhq Zk4 Zim Zn9
 repeat' first
  | refine I.br (fun _=>?_) fun _=>?_
  | refine I.bd (Y8l _ _ _) fun _ _=>?_
  | refine I.bd (Yav _ _) fun _ _=>?_
  | refine I.bd (Zso _ _) fun _ _=>?_
  | refine I.bd (i_UTF8' _ _) fun _ _=>?_
  | refine I.bd (i_Add' _ _) fun _ _=>?_
  | refine I.sk fun _ _=>?_
  | refine I.ok ?_
  | assumption
theorem i_raw (P:List Z00) (x:Z02):Im (Zcy P x) (fun r=>Sb P r.1):=by
 unfold Zcy Zfo Zd1
 repeat' first
  | refine I.br (fun _=>?_) fun _=>?_
  | refine I.bd (i_place _ _) fun _ _=>?_
  | refine I.sk fun _ _=>?_
  | refine I.ok ?_
  | assumption
  | exact fun c h=>h
def Gr (p:Z0q) (P:List Z00) (E:Int):Prop:=(E=0→p.f_E=0)∧Sb p.f_P P
theorem Gr.refl (p:Z0q):Gr p p.f_P p.f_E:=⟨fun h=>h,fun c h=>h⟩
theorem Gr.trans {p:Z0q} {P Q:List Z00} {E F:Int} (h:Gr p P E) (k:Gr { f_P:=P,f_E:=E } Q F):Gr p Q F:=⟨fun e=>h.1 (k.1 e),h.2.trans k.2⟩
theorem Zbn (p:Z0q) (s:List UInt8):Im (Z5y p s) (fun r=>Gr p r.1.f_P r.1.f_E∧(r.1.f_E=0→In1 s r.1.f_P)):=by
 unfold Z5y
 exact I.br (fun h=>I.ok ⟨Gr.refl p,fun e=>absurd e (by simpa using h)⟩) fun h=>I.bd (Zik _ _) fun v hv=>I.ok ⟨⟨fun _=>by simpa using h,hv.1⟩,hv.2⟩
theorem Y6a (p:Z0q) (s:List UInt8):Im (Z87 p s) (fun r=>Gr p r.1.f_P r.1.f_E):=by
 unfold Z87
 exact I.br (fun h=>I.ok (Gr.refl p)) fun h=>I.bd (Zso _ _) fun v hv=>I.ok ⟨fun _=>by simpa using h,hv⟩
theorem i_insn (p:Z0q) (x:Z02):Im (Zee p x) (fun r=>Gr p r.1.f_P r.1.f_E):=by
 unfold Zee
 exact I.br (fun h=>I.ok (Gr.refl p)) fun h=>I.bd (i_raw _ _) fun v hv=>I.ok ⟨fun _=>by simpa using h,hv⟩
theorem i_vts (p:Z0q) (l:List Z0l):Im (Zb9 p l) (fun r=>Gr p r.1.f_P r.1.f_E):=by
 unfold Zb9
 refine I.bd (I.lp (fun t=>Gr p t.2.1 t.2.2.1) (Q:=fun q=>Gr p q.1 q.2.1) (fun t ht=>?_) (Gr.refl p)) fun q hq=>I.ok hq
 have h1:t.2.2.1=0→∀ v,Im (Zbs t v) (I.Ct (fun t=>Gr p t.2.1 t.2.2.1) fun q=>Gr p q.1 q.2.1):=fun h0 v=>by
  unfold Zbs Z84
  exact I.sk fun _ _=>I.bd (Zbn _ _) fun w hw=>I.sk fun _ _=>I.sk fun _ _=>I.nx ⟨fun _=>ht.1 h0,ht.2.trans hw.1.2⟩
 have h2:∀ v a b c d,Im (Z84 t v t.2.1 t.2.2.1 a b c d) (I.Ct (fun t=>Gr p t.2.1 t.2.2.1) fun q=>Gr p q.1 q.2.1):=fun v a b c d=>by
  unfold Z84
  exact I.sk fun _ _=>I.sk fun _ _=>I.nx ht
 unfold Zhx
 repeat' first
  | refine I.br (fun _=>?_) fun _=>?_
  | exact h2 _ _ _ _ _
  | exact h1 (by simpa using ‹(t.2.2.1==0)=true›) _
  | exact I.dn ht
  | refine I.sk fun _ _=>?_
theorem i_code (p:Z0q) (c:Z0a):Im (Ze0 p c) (fun r=>Gr p r.1.f_P r.1.f_E∧r.2.Z0f=c.Z0f):=by
 unfold Ze0
 refine I.bd (I.lp (fun t=>Gr p t.2.1 t.2.2.1) (Q:=fun q=>Gr p q.1 q.2.1) (fun t ht=>?_) (Gr.refl p)) fun q0 h0=>I.bd (I.lp (fun t=>Gr p t.2.1 t.2.2.1) (Q:=fun q=>Gr p q.1 q.2.1) (fun t ht=>?_) h0) fun q2 h2=>
  I.bd (I.lp (fun t=>Gr p t.2.1 t.2.2.1) (Q:=fun q=>Gr p q.1 q.2.1) (fun t ht=>?_) h2) fun q4 h4=>I.ok ⟨h4,rfl⟩
 ·unfold Zg8
  exact I.br (fun _=>I.sk fun _ _=>I.bd (i_insn _ _) fun v hv=>I.sk fun _ _=>I.sk fun _ _=>I.nx (ht.trans hv)) fun _=>I.dn ht
 ·unfold Zg1 Zh4
  exact I.br (fun _=>I.sk fun _ _=>I.br (fun _=>I.bd (Y6a _ _) fun v hv=>I.sk fun _ _=>I.sk fun _ _=>I.nx (ht.trans hv)) fun _=>I.sk fun _ _=>I.sk fun _ _=>I.nx ht) fun _=>I.dn ht
 ·unfold Zgd
  exact I.br (fun _=>I.sk fun _ _=>I.sk fun _ _=>I.bd (i_vts _ _) fun v hv=>I.bd (i_vts _ _) fun w hw=>I.sk fun _ _=>I.sk fun _ _=>I.nx ((ht.trans hv).trans hw)) fun _=>I.dn ht
structure Ms (u:Z0u) (n:Int) (P:List Z00) (E:Int) (cs:List Z0a):Prop where
 len:(cs.length:Int)=n
 pos:0≤n
 desc:E=0→∀ (j:Nat) m,(j:Int)<n→u.Z0k[j]?=some m→In1 m.Z2b P
 loc:∀ (j:Nat) m c,(j:Int)<n→u.Z0k[j]?=some m→m.Z3y=true→cs[j]?=some c→c.Z0f=m.Z1k.Z0f
theorem In1.mono {s:List UInt8} {P Q:List Z00} (h:In1 s P) (k:Sb P Q):In1 s Q:=by
 obtain ⟨c,hc,h2⟩:=h
 exact ⟨c,k c hc,h2⟩
theorem Ms.grow {u:Z0u} {n:Int} {P Q:List Z00} {E F:Int} {cs:List Z0a} (h:Ms u n P E cs) (k:Gr { f_P:=P,f_E:=E } Q F):Ms u n Q F cs:=
 ⟨h.len,h.pos,fun e j m hj hm=>(h.desc (k.1 e) j m hj hm).mono k.2,h.loc⟩
abbrev MT:=Int×(List Z00)×Int×(List Z0j)×(List Z0a)×(List (List Int))×(List Z2j)
abbrev MR:=(List Z00)×Int×(List Z0j)×(List Z0a)×(List (List Int))×(List Z2j)
structure MI (p:Z0q) (u:Z0u) (t:MT):Prop where
 g:Gr p t.2.1 t.2.2.1
 m:Ms u t.1 t.2.1 t.2.2.1 t.2.2.2.2.1
 n:t.1≤u.Z0k.length
 l:(t.2.2.2.1.length:Int)=t.1
structure MQ (p:Z0q) (u:Z0u) (q:MR):Prop where
 g:Gr p q.1 q.2.1
 m:Ms u u.Z0k.length q.1 q.2.1 q.2.2.2.1
 l:q.2.2.1.length=u.Z0k.length
theorem Ms.nil (u:Z0u) (P:List Z00) (E:Int):Ms u 0 P E [] :=⟨rfl,by omega,fun _ j m hj=>by omega,fun j m c hj=>by omega⟩
theorem Ms.snoc {u:Z0u} {n:Int} {P:List Z00} {E:Int} {cs:List Z0a} (h:Ms u n P E cs) {m:Z1u} {c:Z0a} (hm:u.Z0k[n.toNat]?=some m) (hd:E=0→In1 m.Z2b P) (hc:m.Z3y=true→c.Z0f=m.Z1k.Z0f):Ms u (n+1) P E (cs++[c]):=by
 have hlen:=h.len
 have hpos:=h.pos
 refine ⟨by simp only [List.length_append,List.length_cons,List.length_nil]; omega,by omega,fun e j m' hj hm'=>?_,fun j m' c' hj hm' hh hc'=>?_⟩
 ·rcases Int.lt_or_le (j:Int) n with h'|h'
  ·exact h.desc e j m' h' hm'
  ·have:j=n.toNat:=by omega
   subst this
   rw [hm] at hm'; cases hm'
   exact hd e
 ·rcases Int.lt_or_le (j:Int) n with h'|h'
  ·rw [List.getElem?_append_left (by omega)] at hc'
   exact h.loc j m' c' h' hm' hh hc'
  ·have:j=n.toNat:=by omega
   subst this
   rw [hm] at hm'; cases hm'
   rw [List.getElem?_append_right (by omega),show n.toNat - cs.length=0 by omega] at hc'
   cases hc'
   exact hc hh
theorem Zxg {p:Z0q} {u:Z0u} {t:MT} (hu:u.Z0k.length≤140737488355328) (hI:MI p u t) {m:Z1u} (hlt:t.1<u.Z0k.length) (hm:u.Z0k[t.1.toNat]?=some m) {v35 v36:Z0q×Int}
  (g:Gr { f_P:=t.2.1,f_E:=t.2.2.1 } v36.1.f_P v36.1.f_E) (d:v36.1.f_E=0→In1 m.Z2b v36.1.f_P) {a b c:Int} {i h s l} (hc:m.Z3y=true→c=m.Z1k.Z0f) {P:List Z00} {E y:Int} (hg:Gr v36.1 P E):
  Im (Zb8 a b c i h s l t m v35 v36 P E y) (I.Ct (MI p u) (MQ p u)):=by
 unfold Zb8
 refine I.bd (I.lp (fun t=>Gr v36.1 t.2.1 t.2.2.1) (Q:=fun q=>Gr v36.1 q.1 q.2.1) (fun t ht=>?_) hg) fun q hq=>I.sk fun _ _=>I.sk fun _ _=>I.sk fun _ _=>I.sk fun _ _=>?_
 ·unfold Zgy
  exact I.br (fun _=>I.sk fun _ _=>I.bd (Y6a _ _) fun v hv=>I.sk fun _ _=>I.sk fun _ _=>I.nx (ht.trans hv)) fun _=>I.dn ht
 ·have hpos:=hI.m.pos
  have hl:=hI.l
  rw [Z6f (n:=t.1+1) (by omega) (by omega)]
  refine I.sk fun k hk=>?_
  cases hk
  have g2:=g.trans hq
  refine I.nx ⟨hI.g.trans g2,(hI.m.grow g2).snoc hm (fun e=>(d (hq.1 e)).mono hq.2) hc,by dsimp only; omega,by simp only [List.length_append,List.length_cons,List.length_nil]; omega⟩
theorem Y6d {p:Z0q} {u:Z0u} {t:MT} (hu:u.Z0k.length≤140737488355328) (hI:MI p u t) {m:Z1u} (hlt:t.1<u.Z0k.length) (hm:u.Z0k[t.1.toNat]?=some m) {v35 v36:Z0q×Int}
  (g:Gr { f_P:=t.2.1,f_E:=t.2.2.1 } v36.1.f_P v36.1.f_E) (d:v36.1.f_E=0→In1 m.Z2b v36.1.f_P) {a b c:Int} {i h s l} (hc:m.Z3y=true→c=m.Z1k.Z0f) {P:List Z00} {E:Int} (hg:Gr v36.1 P E):
  Im (Zcc t m v35 v36 P E a b c i h s l) (I.Ct (MI p u) (MQ p u)):=by
 unfold Zcc
 exact I.br (fun _=>I.bd (Zbn _ _) fun v hv=>Zxg hu hI hlt hm g d hc (hg.trans hv.1)) fun _=>Zxg hu hI hlt hm g d hc hg
theorem Ya9 (p:Z0q) (u:Z0u) (hu:u.Z0k.length≤140737488355328) (x:Z30):Im (Zcs p u x) (fun r=>Gr p r.1.f_P r.1.f_E∧Ms u u.Z0k.length r.1.f_P r.1.f_E r.2.Z8p∧r.2.f_F.Z0k.length=u.Z0k.length):=by
 unfold Zcs
 have h0:MI p u (0,p.f_P,p.f_E,[],[],[],[]):=⟨Gr.refl p,Ms.nil u _ _,by dsimp only; omega,rfl⟩
 refine I.bd (I.lp (MI p u) (Q:=MQ p u) (fun t ht=>?_) h0) fun q hq=>I.ok ⟨hq.g,hq.m,hq.l⟩
 have hn:=ht.n
 have hl:=ht.l
 unfold Zi4
 refine I.br (fun hlt=>I.sk fun m e=>I.bd (Zbn _ _) fun v35 h35=>I.bd (Zbn _ _) fun v36 h36=>?_) fun hge=>I.dn ?_
 ·have hlt':=of_decide_eq_true hlt
  obtain ⟨_,_,hm⟩:=Z58 e
  have g2:=h35.1.trans h36.1
  exact I.br (fun hh=>I.bd (Zbn _ _) fun v37 h37=>I.bd (i_code _ _) fun v38 h38=>Y6d hu ht hlt' hm g2 h36.2 (fun _=>h38.2) (h37.1.trans h38.1)) fun hh=>Y6d hu ht hlt' hm g2 h36.2 (fun h=>by rw [hh] at h; cases h) (Gr.refl _)
 ·have:t.1=u.Z0k.length:=by have:=of_decide_eq_false hge; omega
  exact ⟨ht.g,this ▸ ht.m,by dsimp only; omega⟩
def Short (P:List Z00):Prop:=∀ c∈P,c.Z2h=1→c.f_S.length≤1024
theorem Y7b (P:List Z00) (c:Z00):Im (Zd2 P c) (fun e=>e=0→c.Z2h=1→c.f_S.length≤1024):=by
 unfold Zd2
 refine I.sk fun _ _=>I.br (fun _=>I.ok fun h=>by cases h) fun _=>I.sk fun _ _=>I.br (fun _=>I.ok fun h=>by cases h) fun _=>I.br (fun _=>I.br (fun _=>I.ok fun h=>by cases h) fun h=>fun r _ _ _=>by have:=of_decide_eq_false h; omega) fun h r _ _ h'=>by simp [h'] at h
theorem ne0 {n:Int} (h:(n !=0)=true):n≠0:=by simpa using h
theorem eq0 {n:Int} (h:(n !=0)=false):n=0:=by simpa using h
theorem Yao (P:List Z00):Im (Zbz P) (fun r=>r.2=0→Short P):=by
 unfold Zbz
 refine I.br (fun _=>I.ok fun h=>by cases h) fun hl=>I.bd (I.lp (fun t=>0≤t∧∀ (j:Nat) c,(j:Int)<t→P[j]?=some c→c.Z2h=1→c.f_S.length≤1024) (Q:=fun q=>match q with|.inl _=>Short P|.inr r=>r.2≠0) (fun t ht=>?_) ⟨by omega,fun j c hj=>by omega⟩) fun q hq=>?_
 ·have hl':=of_decide_eq_false hl
  unfold Zm4
  refine I.br (fun hlt=>I.sk fun c e=>I.bd (Y7b P c) fun v hv=>I.br (fun h=>I.sk fun _ _=>I.dn (ne0 h)) fun h=>?_) fun hge=>I.dn ?_
  ·have hlt':=of_decide_eq_true hlt
   obtain ⟨_,h0,hc⟩:=Z58 e
   rw [Z6f (n:=t+1) (by omega) (by omega)]
   refine I.sk fun k hk=>?_
   cases hk
   refine I.nx ⟨by omega,fun j c' hj hc'=>?_⟩
   rcases Int.lt_or_le (j:Int) t with h'|h'
   ·exact ht.2 j c' h' hc'
   ·have:j=t.toNat:=by omega
    subst this
    rw [hc] at hc'; cases hc'
    exact hv (eq0 h)
  ·have:=of_decide_eq_false hge
   intro c hc
   obtain ⟨j,hj⟩:=List.getElem?_of_mem hc
   have:j<P.length:=(List.getElem?_eq_some_iff.1 hj).1
   exact ht.2 j c (by omega) hj
 ·cases q with
  | inl _=>exact I.ok fun _=>hq
  | inr r=>exact I.ok fun h=>absurd h hq
theorem Ybs (f:Z1i):Im (Zd7 f) (fun r=>r.2=0→Short f.Z2p):=by
 unfold Zd7
 refine I.bd (Yao _) fun v hv=>I.br (fun h=>I.ok fun e=>absurd e (ne0 h)) fun h r _ _=>hv (eq0 h)
def Loc (c:Z0a):Prop:=0≤c.Z0f∧c.Z0f≤32
theorem i_head (P:List Z00) (c:Z0a):Im (Zd5 P c) (fun e=>e=0→Loc c):=by
 unfold Zd5
 exact I.sk fun v _=>I.br (fun h=>I.ok fun e=>absurd e (ne0 h)) fun _=>I.br (fun _=>I.ok fun h=>by cases h) fun _=>I.br (fun _=>I.ok fun h=>by cases h) fun _=>I.br (fun _=>I.ok fun h=>by cases h) fun h1=>I.br (fun _=>I.ok fun h=>by cases h) fun h2 r _ _=>
  ⟨by have:=of_decide_eq_false h1; omega,by have:=of_decide_eq_false h2; omega⟩
theorem Y7z (P:List Z00) (c:Z0a):Im (Zbj P c) (fun r=>r.2=0→Loc c):=by
 unfold Zbj
 exact I.bd (i_head P c) fun v hv=>I.br (fun h=>I.ok fun e=>absurd e (ne0 h)) fun h r _ _=>hv (eq0 h)
theorem Y7k (P:List Z00) (c:Z0a):Im (Zek P c) (fun r=>r.2=0→Loc c):=by
 unfold Zek
 exact I.bd (Y7z P c) fun v hv=>I.br (fun h=>I.ok fun e=>absurd e (ne0 h)) fun h r _ _=>hv (eq0 h)
theorem i_half (p:Z0q) (u:Z0u) (hu:u.Z0k.length≤140737488355328):Im (Zdu p u) (fun r=>Ms u u.Z0k.length r.1.f_P r.1.f_E r.2.Z8p∧r.2.f_F.Z2p=r.1.f_P∧r.2.f_F.Z0k.length=u.Z0k.length):=by
 have hj:∀ v a b c,Im (Zb3 v u a b c) (fun r=>Ms u u.Z0k.length r.1.f_P r.1.f_E r.2.Z8p∧r.2.f_F.Z2p=r.1.f_P∧r.2.f_F.Z0k.length=u.Z0k.length):=fun v a b c=>by
  unfold Zb3 Zcu
  exact I.sk fun _ _=>I.sk fun _ _=>I.bd (Ya9 _ u hu _) fun w hw=>I.br (fun _=>I.bd (Zbn _ _) fun x hx=>I.bd (Zbn _ _) fun y hy=>I.sk fun _ _=>I.ok ⟨(hw.2.1.grow hx.1).grow hy.1,rfl,hw.2.2⟩) fun _=>I.ok ⟨hw.2.1,rfl,hw.2.2⟩
 unfold Zdu
 exact I.sk fun _ _=>I.br (fun _=>I.sk fun _ _=>hj _ _ _ _) fun _=>hj _ _ _ _
def MOk (u:Z0u):Prop:=∀ m∈u.Z0k,m.Z2b.length≤1024∧(m.Z3y=true→Loc m.Z1k)
theorem Y7h (u:Z0u) (hu:u.Z0k.length≤140737488355328):Im (Zdp u) (fun r=>r.2=0→MOk u):=by
 unfold Zdp
 refine I.sk fun _ _=>I.br (fun _=>I.ok fun h=>by cases h) fun _=>I.bd (i_half _ u hu) fun v hv=>I.br (fun h=>I.ok fun e=>absurd e (ne0 h)) fun hE=>?_
 have hE':=eq0 hE
 obtain ⟨hM,hP,hL⟩:=hv
 refine I.bd (I.lp (fun t=>0≤t.1∧∀ (j:Nat) m,(j:Int)<t.1→u.Z0k[j]?=some m→m.Z3y=true→Loc m.Z1k) (Q:=fun q=>match q with|.inl _=>∀ m∈u.Z0k,m.Z3y=true→Loc m.Z1k|.inr y=>y.2≠0) (fun t ht=>?_) ⟨by dsimp only; omega,fun j m hj=>by dsimp only at hj; omega⟩) fun q1 hq1=>?_
 ·unfold Zkw
  refine I.br (fun hlt=>I.sk fun m e=>?_) fun hge=>I.dn ?_
  ·have hlt':=of_decide_eq_true hlt
   obtain ⟨_,h0,hm⟩:=Z58 e
   have nxt:∀ s x,(x=0→m.Z3y=true→Loc m.Z1k)→Im (Zc2 t s x) (I.Ct (fun t=>0≤t.1∧∀ (j:Nat) m,(j:Int)<t.1→u.Z0k[j]?=some m→m.Z3y=true→Loc m.Z1k) (fun q=>match q with|.inl _=>∀ m∈u.Z0k,m.Z3y=true→Loc m.Z1k|.inr y=>y.2≠0)):=fun s x hx=>by
    unfold Zc2
    refine I.br (fun h=>I.dn (ne0 h)) fun h=>I.sk fun _ _=>?_
    rw [Z6f (n:=t.1+1) (by omega) (by omega)]
    refine I.sk fun k hk=>?_
    cases hk
    refine I.nx ⟨by dsimp only; omega,fun j m' hj hm'=>?_⟩
    dsimp only at hj
    rcases Int.lt_or_le (j:Int) t.1 with h'|h'
    ·exact ht.2 j m' h' hm'
    ·have:j=t.1.toNat:=by omega
     subst this
     rw [hm] at hm'; cases hm'
     exact hx (eq0 h)
   refine I.br (fun hh=>I.sk fun c ec=>I.bd (Y7k _ _) fun w hw=>nxt _ _ fun h0' _=>?_) fun hh=>nxt _ _ fun _ h=>by rw [hh] at h; cases h
   obtain ⟨_,_,hc⟩:=Z58 ec
   have hl:=hM.loc t.1.toNat m c (by omega) hm hh hc
   have:=hw h0'
   unfold Loc at this ⊢
   rw [← hl]; exact this
  ·have:=of_decide_eq_false hge
   intro m hm
   obtain ⟨j,hj⟩:=List.getElem?_of_mem hm
   have:j<u.Z0k.length:=(List.getElem?_eq_some_iff.1 hj).1
   exact ht.2 j m (by omega) hj
 ·cases q1 with
  | inr y=>exact I.ok fun h=>absurd h hq1
  | inl q0=>
   refine I.bd (I.lp (fun _=>True) (Q:=fun q=>match q with|.inl _=>True|.inr y=>y.2≠0) (fun t _=>?_) trivial) fun q3 hq3=>?_
   ·have h3:∀ a,Im (Zb2 t v a) (I.Ct (fun _=>True) (fun q=>match q with|.inl _=>True|.inr y=>y.2≠0)):=fun a=>by
     unfold Zb2
     exact I.sk fun _ _=>I.sk fun _ _=>I.sk fun _ _=>I.nx trivial
    have h2:∀ a,Im (Zbb t v a) (I.Ct (fun _=>True) (fun q=>match q with|.inl _=>True|.inr y=>y.2≠0)):=fun a=>by
     unfold Zbb
     exact I.sk fun _ _=>I.br (fun _=>I.sk fun _ _=>I.sk fun _ _=>I.br (fun h=>I.dn (ne0 h)) fun _=>I.sk fun _ _=>I.sk fun _ _=>h3 _) fun _=>h3 _
    unfold Zoe
    exact I.br (fun _=>I.sk fun _ _=>I.br (fun _=>I.sk fun _ _=>I.sk fun _ _=>I.sk fun _ _=>I.sk fun _ _=>h2 _) fun _=>h2 _) fun _=>I.dn trivial
   ·cases q3 with
    | inr y=>exact I.ok fun h=>absurd h hq3
    | inl q2=>
     refine I.bd (Ybs _) fun w hw=>I.br (fun h=>I.ok fun e=>absurd e (ne0 h)) fun h=>I.ok fun _ m hm=>⟨?_,hq1 m hm⟩
     have hs:=hw (eq0 h)
     obtain ⟨j,hj⟩:=List.getElem?_of_mem hm
     have:j<u.Z0k.length:=(List.getElem?_eq_some_iff.1 hj).1
     obtain ⟨c,hc,h1,h2⟩:=hM.desc hE' j m (by omega) hj
     rw [← h2]
     exact hs c (by dsimp only; rw [hP]; exact hc) h1
theorem Ycj (u:Z0u) (hu:u.Z0k.length≤140737488355328):Im (Zg6 u) (fun e=>e=0→MOk u):=by
 unfold Zg6
 exact I.bd (Y7h u hu) fun v hv=>I.ok hv
theorem i_cls (w:Z0w) (i:Int) (hw:∀ c∈w.Z11,c.Z1m.Z0k.length≤140737488355328):Im (Zen w i) (fun b=>b=true→∀ c,Z01 w.Z11 i=some c→MOk c.Z1m):=by
 unfold Zen
 have hf:∀ Q:Prop,Im (some false) (fun b=>b=true→Q):=fun Q=>I.ok fun h=>by cases h
 exact I.sk fun c e=>I.br (fun _=>hf _) fun _=>I.br (fun _=>hf _) fun _=>I.bd (Ycj _ (hw c (Z58 e).1)) fun v hv=>I.br (fun _=>hf _) fun h=>fun r _ _ c' hc'=>by
  rw [e] at hc'; cases hc'
  exact hv (eq0 h)
theorem Yct (w:Z0w) (hl:w.Z11.length≤140737488355328) (hw:∀ c∈w.Z11,c.Z1m.Z0k.length≤140737488355328):Im (Zbu w) (fun b=>b=true→∀ c∈w.Z11,MOk c.Z1m):=by
 have hf:Im (some false) (fun b=>b=true→∀ c∈w.Z11,MOk c.Z1m):=I.ok fun h=>by cases h
 have hj : Im (Zj4 w) (fun b=>b=true→∀ c∈w.Z11,MOk c.Z1m):=by
  unfold Zj4
  refine I.bd (I.lp (fun _=>True) (Q:=fun q=>match q with|.inl _=>True|.inr y=>y=false) (fun t _=>?_) trivial) fun q1 h1=>?_
  ·unfold Ziy
   exact I.br (fun _=>I.sk fun _ _=>I.br (fun _=>I.dn rfl) fun _=>I.br (fun _=>I.dn rfl) fun _=>I.br (fun _=>I.dn rfl) fun _=>I.br (fun _=>I.dn rfl) fun _=>I.sk fun _ _=>I.br (fun _=>I.dn rfl) fun _=>I.sk fun _ _=>I.nx trivial) fun _=>I.dn trivial
  cases q1 with
  | inr y=>exact I.ok fun h=>by cases h1.symm.trans h
  | inl _=>
  refine I.bd (I.lp (fun _=>True) (Q:=fun q=>match q with|.inl _=>True|.inr y=>y=false) (fun t _=>?_) trivial) fun q2 h2=>?_
  ·unfold Zoj
   exact I.br (fun _=>I.sk fun _ _=>I.br (fun _=>I.dn rfl) fun _=>I.sk fun _ _=>I.br (fun _=>I.dn rfl) fun _=>I.sk fun _ _=>I.nx trivial) fun _=>I.dn trivial
  cases q2 with
  | inr y=>exact I.ok fun h=>by cases h2.symm.trans h
  | inl _=>
  refine I.bd (I.lp (fun t=>0≤t∧∀ (j:Nat) c,(j:Int)<t→w.Z11[j]?=some c→MOk c.Z1m) (Q:=fun q=>match q with|.inl _=>∀ c∈w.Z11,MOk c.Z1m|.inr y=>y=false) (fun t ht=>?_) ⟨by omega,fun j c hj=>by omega⟩) fun q3 h3=>?_
  ·unfold Zob
   refine I.br (fun hlt=>I.bd (i_cls w t hw) fun v hv=>I.br (fun _=>I.dn rfl) fun h=>?_) fun hge=>I.dn ?_
   ·have hlt':=of_decide_eq_true hlt
    rw [Z6f (n:=t+1) (by omega) (by omega)]
    refine I.sk fun k hk=>?_
    cases hk
    refine I.nx ⟨by omega,fun j c hj hc=>?_⟩
    rcases Int.lt_or_le (j:Int) t with h'|h'
    ·exact ht.2 j c h' hc
    ·have:j=t.toNat:=by omega
     subst this
     exact hv (by simpa using h) c (by unfold Z01; rw [if_pos ht.1]; exact hc)
   ·have:=of_decide_eq_false hge
    intro c hc
    obtain ⟨j,hj⟩:=List.getElem?_of_mem hc
    have:j<w.Z11.length:=(List.getElem?_eq_some_iff.1 hj).1
    exact ht.2 j c (by omega) hj
  cases q3 with
  | inr y=>exact I.ok fun h=>by cases h3.symm.trans h
  | inl _=>exact I.ok fun _=>h3
 unfold Zbu
 exact I.sk fun _ _=>I.br (fun _=>hf) fun _=>I.br (fun _=>hf) fun _=>I.br (fun _=>hf) fun _=>hj
theorem Z9d.mok {m:Z09} (h:Z3n m) (v:Z9d m):∀ c∈m.Z12.Z11,MOk c.Z1m:=
 Yct _ h.sp.clsL (fun c hc=>by have:=(h.sp.cls c hc).1.metL; omega) true v.sp rfl
end Go.Proofs
namespace Go.Proofs
open Go.Den Go.Tot
theorem Ybh (m:Z09) (n:Int):Zw3 m n=Z6x m n:=rfl
theorem Y79 (m:Z09) (t:Int):Z89 m t=Zmx m t:=rfl
theorem Y2k (m:Z09) (n:Int) (hH:m.Z1n.length≤140737488355328):∃ b o,Z6x m n=some b∧Zid m n=some (o,b):=by
 obtain ⟨b,e,hb⟩:=Zmm m n hH
 unfold Zid
 rw [Ybh,e]
 cases b with
 | false=>exact ⟨_,_,rfl,rfl⟩
 | true=>
  obtain ⟨h1,h2⟩:=hb rfl
  simp only [Option.bind_some,Bool.not_true,Bool.false_eq_true,if_false]
  rw [Z6f (by omega) (by omega)]
  obtain ⟨o,e2,_⟩:=gr (l:=m.Z1n) (i:=n - 1) (by omega) (by omega)
  simp only [Option.bind_some,e2]
  exact ⟨_,_,rfl,rfl⟩
theorem wrap32 (n:Int):IntKind.wrap .i32 n=(n+2147483648) % 4294967296 - 2147483648:=by
 show (if (true&&decide (n % 4294967296≥2147483648))=true then n % 4294967296 - 4294967296 else n % 4294967296)=_
 rw [Bool.true_and]
 by_cases h:n % 4294967296≥2147483648
 ·rw [if_pos (decide_eq_true h)]; omega
 ·rw [if_neg (by simpa using h)]; omega
theorem Yba (m:Z09) (v:Z0b) (hH:m.Z1n.length≤140737488355328):Zlb m v=Z7a m v:=by
 unfold Zlb Z7a
 split
 ·rfl
 split
 ·simp only [Option.bind_some]
  rw [wrap32,Z6f (by omega) (by omega)]
  by_cases h1:v.f_N≥ -2147483648
  ·rw [if_pos (decide_eq_true h1)]
   congr 1
   by_cases h2:v.f_N<2147483648
   ·rw [decide_eq_true h2,beq_iff_eq]; omega
   ·rw [decide_eq_false h2,beq_eq_false_iff_ne]; omega
  ·rw [if_neg (by simpa using h1)]
   congr 1
   rw [beq_eq_false_iff_ne]; omega
 split
 ·rfl
 obtain ⟨b,o,e1,e2⟩:=Y2k m v.f_N hH
 rw [e2]
 simp only [Option.bind_some]
 split
 ·unfold Zav
  rw [e1]
  cases b with
  | true=>by_cases h:v.f_N=0 <;> simp [h]
  | false=>by_cases h:v.f_N=0 <;> simp [h]
 ·rfl
theorem Y76 {t:Z0i} (h:okP1 t=true):Zce t=Zad t∧∃ k,Zce t=some k:=by
 unfold okP1 at h
 simp only [Bool.and_eq_true,bne_iff_ne,ne_eq] at h
 obtain ⟨hv,hb⟩:=h
 obtain ⟨_,_,hc,hl⟩:=Zni hv
 unfold Zce Zad
 rw [Y33 t (by omega),Y10 t (by omega),hv]
 simp only [Option.bind_some,Bool.not_true,Bool.false_eq_true,if_false]
 rw [if_neg (by simpa using hb),if_neg (by simpa using hb)]
 unfold j79x1 Zjv j79x2 Zow
 rcases hc with ⟨h1,_⟩|⟨h1,_⟩|⟨h1,_⟩|⟨h1,_⟩
 ·rw [h1]; constructor
  ·split <;> rfl
  ·split <;> exact ⟨_,rfl⟩
 ·rw [h1]; constructor
  ·split <;> rfl
  ·split <;> exact ⟨_,rfl⟩
 ·exact absurd h1 hb
 ·rw [h1]; constructor
  ·split <;> rfl
  ·split <;> exact ⟨_,rfl⟩
def Zo0 (x:Z1u):Option (List Int):=
 (some (Z2f .i64 x.Z0v (8:Int))).bind fun v2=>
 if (v2==0)=true then
  ((Z17 8 (([]:List Int)++[3]).length).bind fun v3=>
  (Zbo x) (([]:List Int)++[3])) else
 ((Zbo x) ([]:List Int))
theorem Y2t (m:Z09) (c w:Int) {k:Z1r} {x:Z1u} (hk:Z01 m.Z12.Z11 c=some k) (hx:Z01 k.Z1m.Z0k w=some x):Zgf m c w=Zo0 x:=by
 unfold Zgf Zo0
 rw [hk]
 simp only [Option.bind_some,hx]
theorem Y4m (x:Z1u) (hd:x.Z2b.length≤1024):∃ l,Zaw x=some l∧Zo0 x=some l∧l.length≤17∧((Z2f .i64 x.Z0v 8==0)=true→1≤l.length):=by
 obtain ⟨v,s1,s2,_,hok,h16⟩:=Ycv x.Z2b (by omega)
 have hk:∀ t∈v.1.Z4a,Zce t=Zad t∧∃ k,Zce t=some k:=fun t ht=>Y76 (List.all_eq_true.1 hok t ht)
 have hl:Zlq v=Zcp v:=by
  funext t
  unfold Zlq Zcp
  split
  ·cases e:Z01 v.1.Z4a t.1 with
   | none=>rfl
   | some y=>
    simp only [Option.bind_some]
    rw [(hk y (Z58 e).1).1]
  ·rfl
 have hj:∀ p:List Int,p.length≤1→∃ l,Zht x p=some l∧Zbo x p=some l∧l.length≤17∧p.length≤l.length:=fun p hp=>by
  have ht:Ok (Z04 (Zcp v) Z05 (0,p)) (fun l=>l.length≤17∧p.length≤l.length):=by
   refine lp (fun t=>t.1) v.1.Z4a.length (fun t=>(t.2.length:Int)=p.length+t.1) (fun t hI g0 g1=>?_) (by omega) (by dsimp only; omega)
   unfold Zcp
   refine brD (fun hlt=>bd (gr g0 hlt) fun y hy=>?_) fun hge=>dn (by omega)
   obtain ⟨e1,k,e2⟩:=hk y hy
   rw [← e1,e2]
   exact bs (bd gk fun _ _=>bd wr fun z hz=>nx (by simp only [List.length_append,List.length_cons,List.length_nil]; omega))
  obtain ⟨l,e,h1,h2⟩:=ht
  refine ⟨l,?_,?_,h1,h2⟩
  ·unfold Zht
   rw [s1]
   simp only [Option.bind_some]
   rw [hl,e]; rfl
  ·unfold Zbo
   rw [s2]
   simp only [Option.bind_some]
   rw [e]; rfl
 have hg:Z17 8 (([]:List Int)++[3]).length=some ():=Z7h 8 (by decide) (by decide)
 unfold Zaw Zo0
 simp only [Option.bind_some]
 by_cases h:(Z2f .i64 x.Z0v 8==0)=true
 ·rw [if_pos h,if_pos h,hg]
  obtain ⟨l,e1,e2,h1,h2⟩:=hj ([]++[3]) (by simp)
  exact ⟨l,e1,e2,h1,fun _=>h2⟩
 ·rw [if_neg h,if_neg h]
  obtain ⟨l,e1,e2,h1,h2⟩:=hj [] (by simp)
  exact ⟨l,e1,e2,h1,fun h'=>absurd h' h⟩
def HasM (m:Z09) (c w:Int) (k:Z1r) (x:Z1u):Prop:=Z01 m.Z12.Z11 c=some k∧Z01 k.Z1m.Z0k w=some x
theorem Zyv (m:Z09) (c w:Int):(Zbv m c w=some false∧∃ x,Zbw m.Z12 { Z0z:=c,Z2o:=w }=some (x,false))∨
  (Zbv m c w=some true∧∃ k x,HasM m c w k x∧Zbw m.Z12 { Z0z:=c,Z2o:=w }=some (x,true)):=by
 unfold Zbv Zbw Zte
 dsimp only
 by_cases h1:c≥0
 ·rw [if_pos (decide_eq_true h1),if_pos (decide_eq_true h1)]
  by_cases h2:c<(m.Z12.Z11.length:Int)
  ·rw [if_pos (decide_eq_true h2),decide_eq_true h2]
   obtain ⟨k,ek,_⟩:=gr (l:=m.Z12.Z11) (i:=c) h1 h2
   simp only [Option.bind_some,Bool.not_true,Bool.false_eq_true,if_false]
   by_cases h3:w≥0
   ·rw [if_pos (decide_eq_true h3),if_neg (by simpa using h3),ek]
    simp only [Option.bind_some]
    by_cases h4:w<(k.Z1m.Z0k.length:Int)
    ·obtain ⟨x,ex,_⟩:=gr (l:=k.Z1m.Z0k) (i:=w) h3 h4
     rw [if_neg (by simpa using h4),ex]
     exact .inr ⟨by rw [decide_eq_true h4],k,x,⟨ek,ex⟩,rfl⟩
    ·rw [if_pos (decide_eq_true (by omega))]
     exact .inl ⟨by rw [decide_eq_false h4],_,rfl⟩
   ·rw [if_neg (by simpa using h3),if_pos (decide_eq_true (by omega))]
    exact .inl ⟨rfl,_,rfl⟩
  ·rw [if_neg (by simpa using h2),decide_eq_false h2]
   exact .inl ⟨rfl,_,rfl⟩
 ·rw [if_neg (by simpa using h1),if_neg (by simpa using h1)]
  exact .inl ⟨rfl,_,rfl⟩
end Go.Proofs
