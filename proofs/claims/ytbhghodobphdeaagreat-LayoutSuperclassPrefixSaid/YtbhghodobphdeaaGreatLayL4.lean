/-
  Slots of fields, in plain lists: Z5o slot stands once, where it is found, and which classes have it. No condition.
-/
import Derived.Test.YtbhghodobphdeaaGreatLayK
set_option linter.unusedVariables false
namespace Go.Proofs
open Go.Den Go.Tot
def Z7o (f:Z1b):Bool:=(Z2b .i64 f.Z0r 8)!=0
theorem Zpp (c:Int) (st:Bool) (x:FS):∀ (l:List Z1b) (k:Int),x∈Z2s c st k l↔x.Z0p=c∧∃ j:Nat,x.Z0w=k+j∧∃ f,l[j]?=some f∧(Z7o f==st)=true
 | [],k=>by simp [Z2s]
 | f :: l,k=>by
  have h:=Zpp c st x l (k+1)
  have key:(∃ j:Nat,x.Z0w=k+j∧∃ g,(f::l)[j]?=some g∧(Z7o g==st)=true)↔(x.Z0w=k∧(Z7o f==st)=true)∨(∃ j:Nat,x.Z0w=k+1+j∧∃ g,l[j]?=some g∧(Z7o g==st)=true):=by
   constructor
   ·rintro ⟨j,h1,g,h2,h3⟩
    cases j with
    | zero=>simp at h2; subst h2; exact .inl ⟨by simpa using h1,h3⟩
    | succ j=>exact .inr ⟨j,by omega,g,by simpa using h2,h3⟩
   ·rintro (⟨h1,h2⟩|⟨j,h1,g,h2,h3⟩)
    ·exact ⟨0,by simpa using h1,f,rfl,h2⟩
    ·exact ⟨j+1,by omega,g,by simpa using h2,h3⟩
  rw [key]
  unfold Z2s
  split
  ·rename_i hs
   rw [List.mem_cons,h]
   constructor
   ·rintro (rfl|⟨h1,h2⟩)
    ·exact ⟨rfl,.inl ⟨rfl,hs⟩⟩
    ·exact ⟨h1,.inr h2⟩
   ·rintro ⟨h1,⟨h2,_⟩|h2⟩
    ·left; cases x; simp_all
    ·exact .inr ⟨h1,h2⟩
  ·rename_i hs
   rw [h]
   constructor
   ·rintro ⟨h1,h2⟩; exact ⟨h1,.inr h2⟩
   ·rintro ⟨h1,⟨_,h2⟩|h2⟩
    ·exact absurd h2 hs
    ·exact ⟨h1,h2⟩
theorem Ztr (c:Int) (st:Bool):∀ (l:List Z1b) (k:Int),(Z2s c st k l).Nodup
 | [],k=>by simp [Z2s]
 | f :: l,k=>by
  have h:=Ztr c st l (k+1)
  unfold Z2s
  split
  ·refine List.nodup_cons.2 ⟨fun hm=>?_,h⟩
   obtain ⟨_,j,hj,_⟩:=(Zpp c st _ l (k+1)).1 hm
   dsimp only at hj
   omega
  ·exact h
theorem Zv8 (c:Int):∀ (l:List Z1b) (k:Int),(Z2s c false k l).length+(Z2s c true k l).length=l.length
 | [],k=>by simp [Z2s]
 | f::l,k=>by
  have h:=Zv8 c l (k+1)
  unfold Z2s
  cases ((Z2b .i64 f.Z0r 8)!=0) <;> simp <;> omega
theorem Zls {w:Z0c} {c:Int} {st:Bool} {x:FS}:x∈Z2r w c st↔x.Z0p=c∧∃ v f,Z05 w.Z0n c=some v∧Z05 v.Z12.Z0g x.Z0w=some f∧(Z7o f==st)=true:=by
 unfold Z2r
 cases e:Z05 w.Z0n c with
 | none=>simp
 | some v=>
  dsimp only
  rw [Zpp]
  refine and_congr_right fun _=>?_
  constructor
  ·rintro ⟨j,h1,f,h2,h3⟩
   refine ⟨v,f,rfl,?_,h3⟩
   unfold Z05
   rw [if_pos (by omega),show x.Z0w.toNat=j by omega]
   exact h2
  ·rintro ⟨v',f,hv,h2,h3⟩
   cases hv
   unfold Z05 at h2
   split at h2
   ·exact ⟨x.Z0w.toNat,by omega,f,h2,h3⟩
   ·cases h2
theorem Zsj (w:Z0c) (c:Int) (st:Bool):(Z2r w c st).Nodup:=by
 unfold Z2r
 cases Z05 w.Z0n c with
 | none=>simp
 | some v=>exact Ztr c st _ 0
theorem Zl0 {w:Z0c} (hv:Z2y w):∀ (n:Nat) (c k:Int),k∈Z3y w n c→k≤c∧0≤k∧k<w.Z0n.length
 | 0,c,k,h=>by simp [Z3y] at h
 | n + 1,c,k,h=>by
  unfold Z3y at h
  cases e:Z05 w.Z0n c with
  | none=>rw [e] at h; simp at h
  | some v=>
   rw [e] at h
   obtain ⟨h0,h1,hs⟩:=Z8p hv e
   rcases List.mem_cons.1 h with rfl|h
   ·exact ⟨by omega,h0,h1⟩
   ·have:=Zl0 hv n v.Z17 k h
    omega
theorem Zsu {w:Z0c} {n:Nat} {c:Int} {x:FS}:x∈Z43 w n c↔x.Z0p∈Z3y w n c∧x∈Z2r w x.Z0p false:=by
 unfold Z43
 rw [List.mem_flatten]
 constructor
 ·rintro ⟨l,hl,hx⟩
  obtain ⟨k,hk,rfl⟩:=List.mem_map.1 hl
  have:=(Zls.1 hx).1
  subst this
  exact ⟨List.mem_reverse.1 hk,hx⟩
 ·rintro ⟨h1,h2⟩
  exact ⟨_,List.mem_map.2 ⟨_,List.mem_reverse.2 h1,rfl⟩,h2⟩
theorem Zxj {w:Z0c} (hv:Z2y w):∀ (n:Nat) (c:Int),(Z43 w n c).Nodup
 | 0,c=>by simp [Z43,Z3y]
 | n + 1,c=>by
  cases e:Z05 w.Z0n c with
  | none=>rw [Zjg e]; simp
  | some v=>
   rw [Zmd e]
   refine List.nodup_append.2 ⟨Zxj hv n _,Zsj _ _ _,fun a ha b hb hab=>?_⟩
   subst hab
   have h1:=(Zls.1 hb).1
   have h2:=(Zl0 hv n _ _ (Zsu.1 ha).1).1
   have:=(Z8p hv e).2.2
   omega
theorem inst_st {w:Z0c} (hv:Z2y w) {n m:Nat} {c:Int} (h1:c+2≤n) (h2:1≤n) (h3:c+2≤m) (h4:1≤m):Z43 w n c=Z43 w m c:=by
 unfold Z43
 rw [Zp1 hv n m c h1 h2 h3 h4]
end Go.Proofs
namespace Go.Proofs
open Go.Den Go.Tot
def Z2t (a b:Int):Int→List FS→Option Int
 | _,[] =>none
 | k,x::r=>if (x.Z0p==a&&x.Z0w==b)=true then some k else Z2t a b (k+1) r
theorem Zvk (a b:Int) (r:List FS):∀ (l:List FS) (k:Int),Z2t a b k (l++r)=match Z2t a b k l with
  | some i=>some i
  | none=>Z2t a b (k+l.length) r
 | [],k=>by simp [Z2t]
 | x::l,k=>by
  simp only [List.cons_append]
  rw [Z2t,Z2t]
  split
  ·rfl
  ·rw [Zvk a b r l (k+1),show k+1+(l.length:Int)=k+((x::l).length:Nat) by simp only [List.length_cons]; omega]
theorem Zw9 (a b:Int):∀ (l:List FS) (k:Int),Z2t a b k l=none↔({ Z0p:=a,Z0w:=b }:FS) ∉ l
 | [],k=>by simp [Z2t]
 | x :: l,k=>by
  have h:=Zw9 a b l (k+1)
  unfold Z2t
  by_cases hx:(x.Z0p==a&&x.Z0w==b)=true
  ·rw [if_pos hx]
   simp only [Bool.and_eq_true,beq_iff_eq] at hx
   obtain ⟨rfl,rfl⟩:=hx
   simp
  ·rw [if_neg hx,h,List.mem_cons,not_or]
   refine ⟨fun hm=>⟨fun e=>?_,hm⟩,fun hm=>hm.2⟩
   subst e
   simp at hx
theorem Zrb (a b:Int):∀ (l:List FS) (k i:Int),Z2t a b k l=some i→k≤i∧i<k+l.length
 | [],k,i,h=>by simp [Z2t] at h
 | x :: l,k,i,h=>by
  unfold Z2t at h
  split at h
  ·cases h; simp only [List.length_cons]; omega
  ·have:=Zrb a b l (k+1) i h
   simp only [List.length_cons]; omega
theorem Zqf (l:List FS) (hn:l.Nodup) {i:Nat} {x:FS} (h:l[i]?=some x):Z2t x.Z0p x.Z0w 0 l=some (i:Int):=by
 have hlt:=(List.getElem?_eq_some_iff.1 h).1
 have hs:l=l.take i++x::l.drop (i+1):=by
  have h1:=(List.take_append_drop i l).symm
  rw [List.drop_eq_getElem_cons hlt,(List.getElem?_eq_some_iff.1 h).2] at h1
  exact h1
 have hnot:x ∉ l.take i:=fun hm=>by
  rw [hs] at hn
  exact (List.nodup_append.1 hn).2.2 x hm x (by simp) rfl
 rw [hs,Zvk,(Zw9 _ _ _ _).2 hnot]
 dsimp only
 unfold Z2t
 rw [if_pos (by simp),List.length_take]
 congr 1
 omega
theorem Y2t {R:Type} {l:List FS} (hn:l.length≤140737488355328) (a b:Int) (ret:Int→R) {f:Int→Option (Ctl Int (Unit⊕R))}
  (h1:∀ (t:Int) x,0≤t→t<l.length→Z05 l t=some x→f t=if (x.Z0p==a&&x.Z0w==b)=true then some (.done (.inr (ret t))) else (some (IntKind.wrap .i64 (t+1))).bind fun k=>some (.next k))
  (h2:∀ t:Int,¬ t<l.length→f t=some (.done (.inl ()))):
  Z07 f Z09 0=some (match Z2t a b 0 l with
   | some i=> .inr (ret i)
   | none=> .inl ()):=by
 have:Ok (Z07 f Z09 0) (fun q=>q=match Z2t a b 0 l with
   | some i=> .inr (ret i)
   | none=> .inl ()):=by
  refine lp (fun t=>t) l.length (fun t=>Z2t a b 0 l=Z2t a b t (l.drop t.toNat)) (fun t hI g0 g1=>?_) (by omega) (by simp) (by omega) (by omega)
  by_cases hlt:t<l.length
  ·obtain ⟨x,e,_,hx⟩:=gri (l:=l) g0 hlt
   have hd:l.drop t.toNat=x::l.drop (t.toNat+1):=by
    rw [List.drop_eq_getElem_cons (by omega)]
    rw [(List.getElem?_eq_some_iff.1 hx).2]
   rw [h1 t x g0 hlt e]
   rw [hd,show Z2t a b t (x::l.drop (t.toNat+1))=if (x.Z0p==a&&x.Z0w==b)=true then some t else Z2t a b (t+1) (l.drop (t.toNat+1)) by rw [Z2t]] at hI
   refine br (fun h=>dn ?_) fun h=>?_
   ·rw [if_pos h] at hI
    rw [hI]
   ·rw [if_neg (by simp [h])] at hI
    refine bd wr fun k hk=>nx ?_ (by omega) (by omega)
    rw [hI,hk,show (t+1).toNat=t.toNat+1 by omega]
  ·rw [h2 t hlt]
   refine dn ?_
   rw [hI,List.drop_eq_nil_of_le (by omega)]
   rfl
 obtain ⟨r,e,rfl⟩:=this
 exact e
end Go.Proofs
namespace Go.Proofs
open Go.Den
theorem Y3t {α:Type} (l:List α) (n:Nat) (h:n≤l.length):sub l 0 (n:Int)=some (l.take n):=by
 unfold sub
 rw [if_pos ⟨by omega,by omega,by omega⟩]; simp
end Go.Proofs
namespace Go.Proofs
open Go.Den
end Go.Proofs
namespace Go.Proofs
open Go.Den Go.Tot
theorem rfL {α:Type} (l:List α) {R:Type} {f:Int→Option (Ctl Int (Unit⊕R))} (hm:l.length≤4503599627370496) (h:∀ (t:Int) v,0≤t→t<l.length→Z05 l t=some v→IntKind.wrap .i64 (t+1)=t+1→f t=some (.next (t+1))) (he:∀ t:Int,¬t<l.length→f t=some (.done (.inl ()))):
  Z07 f Z09 0=some (.inl ()):=by
 have:Ok (Z07 f Z09 0) (fun q=>q=.inl ()):=by
  refine lp (fun t=>t) l.length (fun _=>True) (fun t _ h0 h1=>?_) (by omega) trivial (by omega) (by omega)
  rcases Int.lt_or_le t l.length with hlt|hge
  ·obtain ⟨v,e,_⟩:=gr (l:=l) h0 hlt
   rw [h t v h0 hlt e (Z4v (by omega) (by omega))]
   exact nx trivial (by omega) (by omega)
  ·rw [he t (by omega)]; exact dn rfl
 obtain ⟨q,e,rfl⟩:=this
 exact e
theorem Y01 (l:List FS) (h:l.length≤4503599627370496):Zcd l l=some true:=by
 unfold Zcd
 rw [rfL l h (fun t v _ h1 e hw=>by unfold Zhf j11x1; rw [if_pos (decide_eq_true h1),e]; simp [hw,h1,Zai]) fun t h=>by unfold Zhf; rw [if_neg (by simpa using h)]]
 simp
theorem Zqz (w:Z0c) (c:Int):Zla w c=some (decide (0≤c∧c<w.Z0n.length)):=Zmr w c
theorem Zul {w:Z0c} (hv:Z2y w):∀ (n:Nat) (c:Int),c+2≤n→1≤n→(0≤c→((Z3y w n c).length:Int)≤c+1)∧(c<0→Z3y w n c=[])
 | n + 1,c,h,_=>by
  unfold Z3y
  cases e:Z05 w.Z0n c with
  | none=>exact ⟨fun _=>by simp; omega,fun _=>rfl⟩
  | some k=>
   obtain ⟨h0,_,hs⟩:=Z8p hv e
   obtain ⟨a,b⟩:=Zul hv n k.Z17 (by omega) (by omega)
   refine ⟨fun _=>?_,fun _=>by omega⟩
   simp only [List.length_cons]
   by_cases hk:0≤k.Z17
   ·have:=a hk; omega
   ·rw [b (by omega)]; simp; omega
def Z6o (w:Z0c) (c:Int):List Int:=Z3y w 300 c
theorem Y2a {w:Z0c} (hv:Z2y w) (c:Int):(Z6o w c).length≤200:=by
 have hf:=hv.few
 unfold Z6o
 by_cases h:0≤c∧c<w.Z0n.length
 ·have:=(Zul hv 300 c (by omega) (by omega)).1 h.1; omega
 ·unfold Z3y; rw [Z75 h]; simp
theorem Y0g {w:Z0c} {c:Int} (h: ¬(0≤c∧c<w.Z0n.length)):Z6o w c=[] :=by
 unfold Z6o Z3y; rw [Z75 h]
theorem Y1e {w:Z0c} (hv:Z2y w) {c:Int} {k:Z1s} (e:Z05 w.Z0n c=some k):Z6o w c=c::Z6o w k.Z17:=by
 have hf:=hv.few
 have:=Z8p hv e
 unfold Z6o
 rw [show (300:Nat)=299+1 from rfl,Z3y,e]
 dsimp only
 rw [Zp1 hv 299 (299+1) k.Z17 (by omega) (by omega) (by omega) (by omega)]
theorem Y2w {w:Z0c} (hv:Z2y w) {f:Int×List Int→Option (Ctl (Int×List Int) (List Int))} (h1:∀ (c:Int) l k,Z1n 8 (l++[c]).length=some ()→0≤c→c<w.Z0n.length→Z05 w.Z0n c=some k→f (c,l)=some (.next (k.Z17,l++[c])))
  (h2:∀ (c:Int) l,¬(0≤c∧c<w.Z0n.length)→c<w.Z0n.length∨l=[]→f (c,l)=some (.done l)) (c:Int):Z07 f Z09 (c,[])=some (Z6o w c):=by
 have hf:=hv.few
 have:∀ (n m:Nat) (c:Int) (l:List Int),(0≤c→c<m∨l=[])→m<n→(l.length:Int)+m≤400→(c<w.Z0n.length∨l=[])→(l=[]→m=201)→Z07 f n (c,l)=some (l++Z6o w c):=by
  intro n
  induction n with
  | zero=>intro m c l _ h; omega
  | succ n ih=>
   intro m c l h h' hl hl2 hm
   rw [Z07]
   by_cases ht:0≤c∧c<w.Z0n.length
   ·obtain ⟨k,e,_⟩:=gr (l:=w.Z0n) ht.1 ht.2
    have hs:=(Z8p hv e).2.2
    have hcm:c<m:=by
     rcases h ht.1 with h|h
     ·exact h
     ·have:=hm h; omega
    rw [h1 c l k (growI (by simp only [List.length_append,List.length_cons,List.length_nil]; omega) (by simp only [List.length_append,List.length_cons,List.length_nil]; omega)) ht.1 ht.2 e]
    dsimp only
    rw [ih (m - 1) k.Z17 (l++[c]) (fun _=> .inl (by omega)) (by omega) (by simp only [List.length_append,List.length_cons,List.length_nil]; omega) (.inl (by omega)) (fun h=>by simp at h),Y1e hv e]
    simp
   ·rw [h2 c l ht hl2,Y0g ht]
    simp
 exact this Z09 201 c [] (fun _=> .inr rfl) (by unfold Z09; omega) (by simp) (.inr rfl) fun _=>rfl
theorem Zzq {w:Z0c} (hv:Z2y w) (c:Int):Zhx w c=some (Z6o w c):=by
 unfold Zhx
 rw [Y2w hv (fun c l k hg h0 h1 e=>?_) (fun c l h _=>?_)]
 ·rfl
 ·unfold Zhc
  dsimp only
  rw [Zqz,decide_eq_true ⟨h0,h1⟩]
  simp only [Option.bind_some,if_true]
  rw [hg,e]
  rfl
 ·unfold Zhc
  dsimp only
  rw [Zqz,decide_eq_false h]
  rfl
end Go.Proofs
namespace Go.Proofs
open Go.Den Go.Tot
def Im {α:Type} (o:Option α) (P:α→Prop):Prop:=∀ r,o=some r→P r
namespace I
variable {α β:Type} {P:α→Prop} {Q:β→Prop}
theorem ok {x:α} (h:P x):Im (some x) P:=fun r e=>by cases e; exact h
theorem bd {o:Option α} {f:α→Option β} (h:Im o P) (k:∀ x,P x→Im (f x) Q):Im (o.bind f) Q:=fun r e=>by
 obtain ⟨x,e1,e2⟩:=Option.bind_eq_some_iff.1 e
 exact k x (h x e1) r e2
theorem sk {o:Option α} {f:α→Option β} (k:∀ x,o=some x→Im (f x) Q):Im (o.bind f) Q:=fun r e=>by
 obtain ⟨x,e1,e2⟩:=Option.bind_eq_some_iff.1 e
 exact k x e1 r e2
theorem br {b:Bool} {x y:Option α} (T:b=true→Im x P) (F:b=false→Im y P):Im (if b=true then x else y) P:=by
 cases b with
 | true=>exact T rfl
 | false=>exact F rfl
theorem mono {P':α→Prop} {o:Option α} (h:Im o P) (k:∀ x,P x→P' x):Im o P':=fun r e=>k r (h r e)
def Ct {T R:Type} (I:T→Prop) (Q:R→Prop):Ctl T R→Prop
 | .next t=>I t
 | .done r=>Q r
theorem nx {T R:Type} {I:T→Prop} {Q:R→Prop} {t:T} (h:I t):Im (some (Ctl.next t:Ctl T R)) (Ct I Q):=ok h
theorem dn {T R:Type} {I:T→Prop} {Q:R→Prop} {r:R} (h:Q r):Im (some (Ctl.done r:Ctl T R)) (Ct I Q):=ok h
theorem lp {T R:Type} {f:T→Option (Ctl T R)} (I:T→Prop) {Q:R→Prop} (h:∀ t,I t→Im (f t) (Ct I Q)):∀ {n:Nat} {t:T},I t→Im (Z07 f n t) Q
 | 0,t,_,r,e=>by cases e
 | n + 1,t,ht,r,e=>by
  unfold Z07 at e
  have:=h t ht
  split at e
  ·rename_i s' hs
   exact lp I h (this _ hs) r e
  ·rename_i r' hs
   cases e
   exact this _ hs
  ·cases e
end I
theorem Zb9 {α:Type} {l:List α} {i:Int} {v:α} (h:Z05 l i=some v):v∈l∧0≤i∧l[i.toNat]?=some v:=by
 unfold Z05 at h
 split at h
 ·exact ⟨List.mem_of_getElem? h,by assumption,h⟩
 ·cases h
def Sb (P Q:List Z00):Prop:=P <+: Q
theorem Sb.refl (P:List Z00):Sb P P:=List.prefix_refl P
theorem Sb.trans {P Q R:List Z00} (h:Sb P Q) (k:Sb Q R):Sb P R:=List.IsPrefix.trans h k
def At1 (s:List UInt8) (P:List Z00) (i:Int):Prop:=P.length≤1000→∃ c,1≤i∧P[i.toNat - 1]?=some c∧c.Z1o=1∧c.f_S=s
theorem At1.mono {s:List UInt8} {P Q:List Z00} {i:Int} (h:At1 s P i) (k:Sb P Q):At1 s Q i:=fun hq=>by
 obtain ⟨r,rfl⟩:=k
 obtain ⟨c,h1,h2,h3⟩:=h (by rw [List.length_append] at hq; omega)
 exact ⟨c,h1,by rw [List.getElem?_append_left (List.getElem?_eq_some_iff.1 h2).1]; exact h2,h3⟩
theorem Zbb (P:List Z00) (c:Z00):Im (Z5z P c) (fun r=>Sb P r.1∧(r.2.2=0→r.1.length≤1000→1≤r.2.1∧r.1[r.2.1.toNat - 1]?=some c)):=by
 unfold Z5z
 refine I.bd (I.lp (fun _=>True) (Q:=fun q=>match q with|.inl _=>True|.inr r=>Sb P r.1∧(r.1.length≤1000→1≤r.2.1∧r.1[r.2.1.toNat - 1]?=some c)) (fun t _=>?_) trivial) fun q hq=>?_
 ·unfold Zdv
  refine I.br (fun _=>I.sk fun v e=>I.br (fun h=>I.sk fun k hk=>I.dn ⟨Sb.refl _,fun hl=>?_⟩) fun _=>I.sk fun _ _=>I.nx trivial) fun _=>I.dn trivial
  have:v=c:=by
   unfold Zp7 at h
   simp only [Bool.and_eq_true,beq_iff_eq,and_true] at h
   obtain ⟨a1,a2,a3,a4,a5⟩:=h
   cases v; cases c; simp_all
  subst this
  obtain ⟨_,h0,hx⟩:=Zb9 e
  have hlt:=(List.getElem?_eq_some_iff.1 hx).1
  dsimp only at hl
  rw [Z4v (n:=t+1) (by omega) (by omega)] at hk
  cases hk
  exact ⟨by dsimp only; omega,by dsimp only; rw [show (t+1).toNat - 1=t.toNat by omega]; exact hx⟩
 ·cases q with
  | inr r=>exact I.ok ⟨hq.1,fun _=>hq.2⟩
  | inl _=>
   refine I.br (fun _=>I.ok ⟨Sb.refl _,fun h=>by cases h⟩) fun hlt=>I.sk fun k hk=>I.sk fun _ _=>I.sk fun _ _=>I.ok ⟨⟨[c],by simp⟩,fun _ hl=>?_⟩
   have:=of_decide_eq_false hlt
   rw [Z4v (n:=(P.length:Int)+1) (by omega) (by omega)] at hk
   cases hk
   exact ⟨by dsimp only; omega,by dsimp only; rw [show ((P.length:Int)+1).toNat - 1=P.length by omega]; simp⟩
theorem Zfm (P:List Z00) (s:List UInt8):Im (Z6i P s) (fun r=>Sb P r.1∧(r.2.2=0→At1 s r.1 r.2.1)):=by
 unfold Z6i
 exact I.bd (Zbb _ _) fun v h=>I.ok ⟨h.1,fun e hl=>⟨_,(h.2 e hl).1,(h.2 e hl).2,rfl,rfl⟩⟩
theorem i_Add' (P:List Z00) (c:Z00):Im (Z5z P c) (fun r=>Sb P r.1):=I.mono (Zbb P c) fun _ h=>h.1
theorem i_UTF8' (P:List Z00) (s:List UInt8):Im (Z6i P s) (fun r=>Sb P r.1):=I.mono (Zfm P s) fun _ h=>h.1
theorem Zrw (P:List Z00) (t:Int) (s:List UInt8):Im (Za5 P t s) (fun r=>Sb P r.1):=by
 unfold Za5
 exact I.bd (Zfm _ _) fun v h=>I.br (fun _=>I.ok (Sb.refl _)) fun _=>I.bd (Zbb _ _) fun v' h'=>I.br (fun _=>I.ok (Sb.refl _)) fun _=>I.ok (h.1.trans h'.1)
theorem Zmt (P:List Z00) (s:List UInt8):Im (Z9a P s) (fun r=>Sb P r.1):=by
 unfold Z9a
 exact I.bd (Zrw _ _ _) fun v h=>I.ok h
theorem Zxs (P:List Z00) (s:List UInt8):Im (Zae P s) (fun r=>Sb P r.1):=by
 unfold Zae
 exact I.bd (Zrw _ _ _) fun v h=>I.ok h
theorem Y4n (P:List Z00) (t:Int) (x:Z22):Im (Z91 P t x) (fun r=>Sb P r.1):=by
 unfold Z91
 exact I.bd (Zmt _ _) fun v h=>I.br (fun _=>I.ok (Sb.refl _)) fun _=>I.bd (Zfm _ _) fun v1 h1=>I.br (fun _=>I.ok (Sb.refl _)) fun _=>I.bd (Zfm _ _) fun v2 h2=>I.br (fun _=>I.ok (Sb.refl _)) fun _=>
  I.bd (Zbb _ _) fun v3 h3=>I.br (fun _=>I.ok (Sb.refl _)) fun _=>I.bd (Zbb _ _) fun v4 h4=>I.br (fun _=>I.ok (Sb.refl _)) fun _=>I.ok ((((h.trans h1.1).trans h2.1).trans h3.1).trans h4.1)
theorem i_place (P:List Z00) (x:Z01):Im (Zb1 P x) (fun r=>Sb P r.1):=by
 unfold Zb1 Zcz Zi4 Ze9 Zjc
 repeat' first
  | refine I.br (fun _=>?_) fun _=>?_
  | refine I.bd (Y4n _ _ _) fun _ _=>?_
  | refine I.bd (Zxs _ _) fun _ _=>?_
  | refine I.bd (Zmt _ _) fun _ _=>?_
  | refine I.bd (i_UTF8' _ _) fun _ _=>?_
  | refine I.bd (i_Add' _ _) fun _ _=>?_
  | refine I.sk fun _ _=>?_
  | refine I.ok ?_
  | assumption
  | exact Sb.refl _
theorem i_raw (P:List Z00) (x:Z01):Im (Zbc P x) (fun r=>Sb P r.1):=by
 unfold Zbc Ze4 Zbw
 repeat' first
  | refine I.br (fun _=>?_) fun _=>?_
  | refine I.bd (i_place _ _) fun _ _=>?_
  | refine I.sk fun _ _=>?_
  | refine I.ok ?_
  | assumption
  | exact Sb.refl _
def Gr (p:Z0i) (P:List Z00) (E:Int):Prop:=(E=0→p.f_E=0)∧Sb p.f_P P
theorem Gr.refl (p:Z0i):Gr p p.f_P p.f_E:=⟨fun h=>h,Sb.refl _⟩
theorem Gr.trans {p:Z0i} {P Q:List Z00} {E F:Int} (h:Gr p P E) (k:Gr { f_P:=P,f_E:=E } Q F):Gr p Q F:=⟨fun e=>h.1 (k.1 e),h.2.trans k.2⟩
theorem Z6t (p:Z0i) (s:List UInt8):Im (Z53 p s) (fun r=>Gr p r.1.f_P r.1.f_E∧(r.1.f_E=0→At1 s r.1.f_P r.2)):=by
 unfold Z53
 exact I.br (fun h=>I.ok ⟨Gr.refl p,fun e=>absurd e (by simpa using h)⟩) fun h=>I.bd (Zfm _ _) fun v hv=>I.ok ⟨⟨fun _=>by simpa using h,hv.1⟩,hv.2⟩
theorem Ztb (p:Z0i) (s:List UInt8):Im (Z6q p s) (fun r=>Gr p r.1.f_P r.1.f_E):=by
 unfold Z6q
 exact I.br (fun h=>I.ok (Gr.refl p)) fun h=>I.bd (Zmt _ _) fun v hv=>I.ok ⟨fun _=>by simpa using h,hv⟩
theorem i_insn (p:Z0i) (x:Z01):Im (Zax p x) (fun r=>Gr p r.1.f_P r.1.f_E):=by
 unfold Zax
 exact I.br (fun h=>I.ok (Gr.refl p)) fun h=>I.bd (i_raw _ _) fun v hv=>I.ok ⟨fun _=>by simpa using h,hv⟩
theorem i_vts (p:Z0i) (l:List Z0h):Im (Zaa p l) (fun r=>Gr p r.1.f_P r.1.f_E):=by
 unfold Zaa
 refine I.bd (I.lp (fun t=>Gr p t.2.1 t.2.2.1) (Q:=fun q=>Gr p q.1 q.2.1) (fun t ht=>?_) (Gr.refl p)) fun q hq=>I.ok hq
 have h1:t.2.2.1=0→∀ v,Im (Z9n t v) (I.Ct (fun t=>Gr p t.2.1 t.2.2.1) fun q=>Gr p q.1 q.2.1):=fun h0 v=>by
  unfold Z9n Z6v
  exact I.sk fun _ _=>I.bd (Z6t _ _) fun w hw=>I.sk fun _ _=>I.sk fun _ _=>I.nx ⟨fun _=>ht.1 h0,ht.2.trans hw.1.2⟩
 have h2:∀ v a b c d,Im (Z6v t v t.2.1 t.2.2.1 a b c d) (I.Ct (fun t=>Gr p t.2.1 t.2.2.1) fun q=>Gr p q.1 q.2.1):=fun v a b c d=>by
  unfold Z6v
  exact I.sk fun _ _=>I.sk fun _ _=>I.nx ht
 unfold Zex
 repeat' first
  | refine I.br (fun _=>?_) fun _=>?_
  | exact h2 _ _ _ _ _
  | exact h1 (by simpa using ‹(t.2.2.1==0)=true›) _
  | exact I.dn ht
  | refine I.sk fun _ _=>?_
theorem i_code (p:Z0i) (c:Z0a) (hc:c.Z0j.length≤140737488355328):Im (Zc5 p c) (fun r=>Gr p r.1.f_P r.1.f_E∧r.2.Z0u=c.Z0u∧r.2.Z0j.length=c.Z0j.length∧r.2.Z0x=c.Z0x):=by
 unfold Zc5
 refine I.bd (I.lp (fun t:Int×(List Z00)×Int×(List Z01)=>Gr p t.2.1 t.2.2.1∧0≤t.1∧t.1≤(c.Z0j.length:Int)∧(t.2.2.2.length:Int)=t.1) (Q:=fun q=>Gr p q.1 q.2.1∧q.2.2.length=c.Z0j.length) (fun t ht=>?_) ⟨Gr.refl p,by dsimp only; omega,by dsimp only; omega,rfl⟩) fun q0 h0=>I.bd (I.lp (fun t=>Gr p t.2.1 t.2.2.1) (Q:=fun q=>Gr p q.1 q.2.1) (fun t ht=>?_) h0.1) fun q2 h2=>
  I.bd (I.lp (fun t=>Gr p t.2.1 t.2.2.1) (Q:=fun q=>Gr p q.1 q.2.1) (fun t ht=>?_) h2) fun q4 h4=>I.ok ⟨h4,rfl,h0.2,rfl⟩
 ·unfold Zem
  refine I.br (fun hlt=>I.sk fun _ _=>I.bd (i_insn _ _) fun v hv=>I.sk fun _ _=>I.sk fun k hk=>?_) fun hge=>I.dn ⟨ht.1,by have:=of_decide_eq_false hge; have:=ht.2; dsimp only; omega⟩
  have:=of_decide_eq_true hlt
  rw [Z4v (n:=t.1+1) (by omega) (by omega)] at hk
  cases hk
  exact I.nx ⟨ht.1.trans hv,by dsimp only; omega,by dsimp only; omega,by have:=ht.2.2.2; simp only [List.length_append,List.length_cons,List.length_nil]; omega⟩
 ·unfold Zd0 Zcp
  exact I.br (fun _=>I.sk fun _ _=>I.br (fun _=>I.bd (Ztb _ _) fun v hv=>I.sk fun _ _=>I.sk fun _ _=>I.nx (ht.trans hv)) fun _=>I.sk fun _ _=>I.sk fun _ _=>I.nx ht) fun _=>I.dn ht
 ·unfold Ze2
  exact I.br (fun _=>I.sk fun _ _=>I.sk fun _ _=>I.bd (i_vts _ _) fun v hv=>I.bd (i_vts _ _) fun w hw=>I.sk fun _ _=>I.sk fun _ _=>I.nx ((ht.trans hv).trans hw)) fun _=>I.dn ht
structure MM (m:Z2m) (P:List Z00) (f:Z0d) (c:Z0a) (a:Z1r):Prop where
 fl:f.Z0r=m.Z0r
 ds:At1 m.Z1p P f.Z1p
 cd:m.Z8m=true→At1 [67,111,100,101] P a.a0∧c.Z0u=m.Z25.Z0u∧c.Z0j.length=m.Z25.Z0j.length∧c.Z0x=m.Z25.Z0x
theorem MM.mono {m:Z2m} {P Q:List Z00} {f:Z0d} {c:Z0a} {a:Z1r} (h:MM m P f c a) (k:Sb P Q):MM m Q f c a:=⟨h.fl,h.ds.mono k,fun hc=>⟨(h.cd hc).1.mono k,(h.cd hc).2⟩⟩
structure Ms (u:Z0l) (n:Int) (P:List Z00) (E:Int) (fm:List Z0d) (cs:List Z0a) (ns:List Z1r):Prop where
 lenF:(fm.length:Int)=n
 len:(cs.length:Int)=n
 lenN:(ns.length:Int)=n
 ok:E=0→∀ (j:Nat) m,(j:Int)<n→u.Z11[j]?=some m→∃ f c a,fm[j]?=some f∧cs[j]?=some c∧ns[j]?=some a∧MM m P f c a
theorem Ms.grow {u:Z0l} {n:Int} {P Q:List Z00} {E F:Int} {fm cs ns} (h:Ms u n P E fm cs ns) (k:Gr { f_P:=P,f_E:=E } Q F):Ms u n Q F fm cs ns:=
 ⟨h.lenF,h.len,h.lenN,fun e j m hj hm=>by
  obtain ⟨f,c,a,h1,h2,h3,h4⟩:=h.ok (k.1 e) j m hj hm
  exact ⟨f,c,a,h1,h2,h3,h4.mono k.2⟩⟩
abbrev MT:=Int×(List Z00)×Int×(List Z0d)×(List Z0a)×(List (List Int))×(List Z1r)
abbrev MR:=(List Z00)×Int×(List Z0d)×(List Z0a)×(List (List Int))×(List Z1r)
structure MI (p:Z0i) (u:Z0l) (t:MT):Prop where
 g:Gr p t.2.1 t.2.2.1
 m:Ms u t.1 t.2.1 t.2.2.1 t.2.2.2.1 t.2.2.2.2.1 t.2.2.2.2.2.2
 n:t.1≤u.Z11.length
structure MQ (p:Z0i) (u:Z0l) (q:MR):Prop where
 g:Gr p q.1 q.2.1
 m:Ms u u.Z11.length q.1 q.2.1 q.2.2.1 q.2.2.2.1 q.2.2.2.2.2
theorem Ms.nil (u:Z0l) (P:List Z00) (E:Int):Ms u 0 P E [] [] [] :=⟨rfl,rfl,rfl,fun _ j m hj=>by omega⟩
theorem Ms.snoc {u:Z0l} {n:Int} {P:List Z00} {E:Int} {fm cs ns} (h:Ms u n P E fm cs ns) {m:Z2m} {f:Z0d} {c:Z0a} {a:Z1r} (hm:u.Z11[n.toNat]?=some m) (hd:E=0→MM m P f c a):Ms u (n+1) P E (fm++[f]) (cs++[c]) (ns++[a]):=by
 have h1:=h.lenF
 have h2:=h.len
 have h3:=h.lenN
 refine ⟨by simp only [List.length_append,List.length_cons,List.length_nil]; omega,by simp only [List.length_append,List.length_cons,List.length_nil]; omega,by simp only [List.length_append,List.length_cons,List.length_nil]; omega,fun e j m' hj hm'=>?_⟩
 rcases Int.lt_or_le (j:Int) n with h'|h'
 ·obtain ⟨f',c',a',e1,e2,e3,e4⟩:=h.ok e j m' h' hm'
  exact ⟨f',c',a',by rw [List.getElem?_append_left (by omega)]; exact e1,by rw [List.getElem?_append_left (by omega)]; exact e2,by rw [List.getElem?_append_left (by omega)]; exact e3,e4⟩
 ·have:j=n.toNat:=by omega
  subst this
  rw [hm] at hm'; cases hm'
  exact ⟨f,c,a,by rw [List.getElem?_append_right (by omega),show n.toNat - fm.length=0 by omega]; rfl,by rw [List.getElem?_append_right (by omega),show n.toNat - cs.length=0 by omega]; rfl,by rw [List.getElem?_append_right (by omega),show n.toNat - ns.length=0 by omega]; rfl,hd e⟩
def MB (u:Z0l):Prop:=u.Z11.length≤140737488355328∧∀ m∈u.Z11,m.Z25.Z0j.length≤140737488355328
theorem Zu9 {p:Z0i} {u:Z0l} {t:MT} (hu:u.Z11.length≤140737488355328) (hI:MI p u t) {m:Z2m} (hlt:t.1<u.Z11.length) (hm:u.Z11[t.1.toNat]?=some m) {v35 v36:Z0i×Int}
  (g:Gr { f_P:=t.2.1,f_E:=t.2.2.1 } v36.1.f_P v36.1.f_E) {P:List Z00} {E y:Int} (hg:Gr v36.1 P E) {a b c:Int} {i h s l} (hc:E=0→∀ y,MM m P { Z0r:=m.Z0r,Z0f:=v35.2,Z1p:=v36.2,Z1g:=[] } { Z0x:=b,Z0u:=c,Z0j:=i,Z1w:=h,Z1f:=s,Z1q:=l } { a0:=a,a1:=y }):
  Im (Zal a b c i h s l t m v35 v36 P E y) (I.Ct (MI p u) (MQ p u)):=by
 unfold Zal
 refine I.bd (I.lp (fun t=>Gr { f_P:=P,f_E:=E } t.2.1 t.2.2.1) (Q:=fun q=>Gr { f_P:=P,f_E:=E } q.1 q.2.1) (fun t ht=>?_) (Gr.refl _)) fun q hq=>I.sk fun _ _=>I.sk fun _ _=>I.sk fun _ _=>I.sk fun _ _=>?_
 ·unfold Zez
  exact I.br (fun _=>I.sk fun _ _=>I.bd (Ztb _ _) fun v hv=>I.sk fun _ _=>I.sk fun _ _=>I.nx (ht.trans hv)) fun _=>I.dn ht
 ·have hl:=hI.m.lenF
  rw [Z4v (n:=t.1+1) (by omega) (by omega)]
  refine I.sk fun k hk=>?_
  cases hk
  have g2:=(g.trans hg).trans hq
  refine I.nx ⟨hI.g.trans g2,(hI.m.grow g2).snoc hm (fun e=>(hc (hq.1 e) y).mono hq.2),by dsimp only; omega⟩
theorem Zsa {p:Z0i} {u:Z0l} {t:MT} (hu:u.Z11.length≤140737488355328) (hI:MI p u t) {m:Z2m} (hlt:t.1<u.Z11.length) (hm:u.Z11[t.1.toNat]?=some m) {v35 v36:Z0i×Int}
  (g:Gr { f_P:=t.2.1,f_E:=t.2.2.1 } v36.1.f_P v36.1.f_E) {P:List Z00} {E:Int} (hg:Gr v36.1 P E) {a b c:Int} {i h s l} (hc:E=0→∀ y,MM m P { Z0r:=m.Z0r,Z0f:=v35.2,Z1p:=v36.2,Z1g:=[] } { Z0x:=b,Z0u:=c,Z0j:=i,Z1w:=h,Z1f:=s,Z1q:=l } { a0:=a,a1:=y }):
  Im (Za0 t m v35 v36 P E a b c i h s l) (I.Ct (MI p u) (MQ p u)):=by
 unfold Za0
 exact I.br (fun _=>I.bd (Z6t _ _) fun v hv=>Zu9 hu hI hlt hm g (hg.trans hv.1) fun e y=>(hc (hv.1.1 e) y).mono hv.1.2) fun _=>Zu9 hu hI hlt hm g hg hc
theorem Y31 (p:Z0i) (u:Z0l) (hu:MB u) (x:Z28):Im (Z8g p u x) (fun r=>Gr p r.1.f_P r.1.f_E∧Ms u u.Z11.length r.1.f_P r.1.f_E r.2.f_F.Z11 r.2.Zab r.2.Z80):=by
 unfold Z8g
 have h0:MI p u (0,p.f_P,p.f_E,[],[],[],[]):=⟨Gr.refl p,Ms.nil u _ _,by dsimp only; omega⟩
 refine I.bd (I.lp (MI p u) (Q:=MQ p u) (fun t ht=>?_) h0) fun q hq=>I.ok ⟨hq.g,hq.m⟩
 have hn:=ht.n
 have hl:=ht.m.lenF
 unfold Zdq
 refine I.br (fun hlt=>I.sk fun m e=>I.bd (Z6t _ _) fun v35 h35=>I.bd (Z6t _ _) fun v36 h36=>?_) fun hge=>I.dn ?_
 ·have hlt':=of_decide_eq_true hlt
  obtain ⟨hin,_,hm⟩:=Zb9 e
  have g2:=h35.1.trans h36.1
  refine I.br (fun hh=>I.bd (Z6t _ _) fun v37 h37=>I.bd (i_code _ _ (hu.2 m hin)) fun v38 h38=>Zsa hu.1 ht hlt' hm g2 (h37.1.trans h38.1) fun E0 y=>⟨rfl,?_,fun _=>⟨?_,h38.2⟩⟩) fun hh=>Zsa hu.1 ht hlt' hm g2 (Gr.refl _) fun E0 y=>⟨rfl,h36.2 E0,fun h=>by rw [hh] at h; cases h⟩
  ·exact (h36.2 ((h37.1.trans h38.1).1 E0)).mono (h37.1.trans h38.1).2
  ·exact (h37.2 (h38.1.1 E0)).mono h38.1.2
 ·have:t.1=u.Z11.length:=by have:=of_decide_eq_false hge; omega
  exact ⟨ht.g,this ▸ ht.m⟩
end Go.Proofs
namespace Go.Proofs
open Go.Den Go.Tot
theorem ne0 {n:Int} (h:(n !=0)=true):n≠0:=by simpa using h
theorem eq0 {n:Int} (h:(n !=0)=false):n=0:=by simpa using h
end Go.Proofs
namespace Go.Proofs
open Go.Den Go.Tot
def Short (P:List Z00):Prop:=∀ c∈P,c.Z1o=1→c.f_S.length≤1024
theorem Y08 (P:List Z00) (c:Z00):Im (Zbt P c) (fun e=>e=0→c.Z1o=1→c.f_S.length≤1024):=by
 unfold Zbt
 refine I.sk fun _ _=>I.br (fun _=>I.ok fun h=>by cases h) fun _=>I.sk fun _ _=>I.br (fun _=>I.ok fun h=>by cases h) fun _=>I.br (fun _=>I.br (fun _=>I.ok fun h=>by cases h) fun h=>fun r _ _ _=>by have:=of_decide_eq_false h; omega) fun h r _ _ h'=>by simp [h'] at h
theorem Y13 (P:List Z00):Im (Zad P) (fun r=>r.2=0→P.length≤1000∧Short P):=by
 unfold Zad
 refine I.br (fun _=>I.ok fun h=>by cases h) fun hl=>I.bd (I.lp (fun t=>0≤t∧∀ (j:Nat) c,(j:Int)<t→P[j]?=some c→c.Z1o=1→c.f_S.length≤1024) (Q:=fun q=>match q with|.inl _=>Short P|.inr r=>r.2≠0) (fun t ht=>?_) ⟨by omega,fun j c hj=>by omega⟩) fun q hq=>?_
 ·have hl':=of_decide_eq_false hl
  unfold Zj6
  refine I.br (fun hlt=>I.sk fun c e=>I.bd (Y08 P c) fun v hv=>I.br (fun h=>I.sk fun _ _=>I.dn (ne0 h)) fun h=>?_) fun hge=>I.dn ?_
  ·have hlt':=of_decide_eq_true hlt
   obtain ⟨_,h0,hc⟩:=Zb9 e
   rw [Z4v (n:=t+1) (by omega) (by omega)]
   refine I.sk fun k hk=>?_
   cases hk
   refine I.nx ⟨by omega,fun j c' hj hc'=>?_⟩
   rcases Int.lt_or_le (j:Int) t with h'|h'
   ·exact ht.2 j c' h' hc'
   ·have:j=t.toNat:=by omega
    subst this
    rw [hc] at hc'; cases hc'
    exact hv (eq0 h)
  ·have:=of_decide_eq_false hge
   intro c hc
   obtain ⟨j,hj⟩:=List.getElem?_of_mem hc
   have:j<P.length:=(List.getElem?_eq_some_iff.1 hj).1
   exact ht.2 j c (by omega) hj
 ·cases q with
  | inl _=>exact I.ok fun _=>⟨by have:=of_decide_eq_false hl; omega,hq⟩
  | inr r=>exact I.ok fun h=>absurd h hq
theorem utf_at {P:List Z00} (hP:P.length≤1000) {s:List UInt8} {i:Int} (h:At1 s P i):Z36 P i=some (s,0):=by
 obtain ⟨c,h1,h2,h3,h4⟩:=h hP
 have hlt:=(List.getElem?_eq_some_iff.1 h2).1
 unfold Z36 Z8q Z7a
 rw [if_neg (by simp; omega),if_neg (by simp; omega),Z4v (by omega) (by omega)]
 have:Z05 P (i - 1)=some c:=by unfold Z05; rw [if_pos (by omega),show (i - 1).toNat=i.toNat - 1 by omega]; exact h2
 simp only [Option.bind_some,this]
 simp [h3,h4]
end Go.Proofs
namespace Go.Proofs
open Go.Den Go.Tot
theorem i_cls (w:Z0c) (i:Int) {Q:Z0l→Prop} (hw:∀ c∈w.Z0n,Im (Z9c c.Z12) fun e=>e=0→Q c.Z12):Im (Zbn w i) (fun b=>b=true→∀ c,Z05 w.Z0n i=some c→Q c.Z12):=by
 unfold Zbn
 have hf:∀ Q:Prop,Im (some false) (fun b=>b=true→Q):=fun Q=>I.ok fun h=>by cases h
 exact I.sk fun c e=>I.br (fun _=>hf _) fun _=>I.br (fun _=>hf _) fun _=>I.bd (hw c (Zb9 e).1) fun v hv=>I.br (fun _=>hf _) fun h=>fun r _ _ c' hc'=>by
  rw [e] at hc'; cases hc'
  exact hv (eq0 h)
theorem Y4b (w:Z0c) (hl:w.Z0n.length≤140737488355328) {Q:Z0l→Prop} (hw:∀ c∈w.Z0n,Im (Z9c c.Z12) fun e=>e=0→Q c.Z12):Im (Z90 w) (fun b=>b=true→∀ c∈w.Z0n,Q c.Z12):=by
 have hf:Im (some false) (fun b=>b=true→∀ c∈w.Z0n,Q c.Z12):=I.ok fun h=>by cases h
 have hj : Im (j9x1 w) (fun b=>b=true→∀ c∈w.Z0n,Q c.Z12):=by
  unfold j9x1
  refine I.bd (I.lp (fun _=>True) (Q:=fun q=>match q with|.inl _=>True|.inr y=>y=false) (fun t _=>?_) trivial) fun q1 h1=>?_
  ·unfold l9x1
   exact I.br (fun _=>I.sk fun _ _=>I.br (fun _=>I.dn rfl) fun _=>I.br (fun _=>I.dn rfl) fun _=>I.br (fun _=>I.dn rfl) fun _=>I.br (fun _=>I.dn rfl) fun _=>I.sk fun _ _=>I.br (fun _=>I.dn rfl) fun _=>I.sk fun _ _=>I.nx trivial) fun _=>I.dn trivial
  cases q1 with
  | inr y=>exact I.ok fun h=>by cases h1.symm.trans h
  | inl _=>
  refine I.bd (I.lp (fun _=>True) (Q:=fun q=>match q with|.inl _=>True|.inr y=>y=false) (fun t _=>?_) trivial) fun q2 h2=>?_
  ·unfold l9x2
   exact I.br (fun _=>I.sk fun _ _=>I.br (fun _=>I.dn rfl) fun _=>I.sk fun _ _=>I.br (fun _=>I.dn rfl) fun _=>I.sk fun _ _=>I.nx trivial) fun _=>I.dn trivial
  cases q2 with
  | inr y=>exact I.ok fun h=>by cases h2.symm.trans h
  | inl _=>
  refine I.bd (I.lp (fun t=>0≤t∧∀ (j:Nat) c,(j:Int)<t→w.Z0n[j]?=some c→Q c.Z12) (Q:=fun q=>match q with|.inl _=>∀ c∈w.Z0n,Q c.Z12|.inr y=>y=false) (fun t ht=>?_) ⟨by omega,fun j c hj=>by omega⟩) fun q3 h3=>?_
  ·unfold l9x3
   refine I.br (fun hlt=>I.bd (i_cls w t hw) fun v hv=>I.br (fun _=>I.dn rfl) fun h=>?_) fun hge=>I.dn ?_
   ·have hlt':=of_decide_eq_true hlt
    rw [Z4v (n:=t+1) (by omega) (by omega)]
    refine I.sk fun k hk=>?_
    cases hk
    refine I.nx ⟨by omega,fun j c hj hc=>?_⟩
    rcases Int.lt_or_le (j:Int) t with h'|h'
    ·exact ht.2 j c h' hc
    ·have:j=t.toNat:=by omega
     subst this
     exact hv (by simpa using h) c (by unfold Z05; rw [if_pos ht.1]; exact hc)
   ·have:=of_decide_eq_false hge
    intro c hc
    obtain ⟨j,hj⟩:=List.getElem?_of_mem hc
    have:j<w.Z0n.length:=(List.getElem?_eq_some_iff.1 hj).1
    exact ht.2 j c (by omega) hj
  cases q3 with
  | inr y=>exact I.ok fun h=>by cases h3.symm.trans h
  | inl _=>exact I.ok fun _=>h3
 unfold Z90
 exact I.sk fun _ _=>I.br (fun _=>hf) fun _=>I.br (fun _=>hf) fun _=>I.br (fun _=>hf) fun _=>hj
end Go.Proofs
namespace Go.Proofs
open Go.Den Go.Tot
theorem Y3g {n:Int} (h0:0≤n) (h1:n≤1000) {b:List UInt8} (h:Z88 n=some b):Z73 b 0 2=some (n,0):=by
 have key:((List.range 1001).all fun k=>((Z88 (k:Int)).bind fun b=>Z73 b 0 2)==some ((k:Int),0))=true:=by kernel_rfl
 have:=List.all_eq_true.1 key n.toNat (by rw [List.mem_range]; omega)
 rw [Int.toNat_of_nonneg h0,h] at this
 simpa using this
def AtC (f:Z1b) (P:List Z00) (i:Int):Prop:=P.length≤1000→1≤i∧i≤1000∧∃ c,P[i.toNat - 1]?=some c∧c.Z1o=f.Z3c
theorem AtC.mono {f:Z1b} {P Q:List Z00} {i:Int} (h:AtC f P i) (k:Sb P Q):AtC f Q i:=fun hq=>by
 obtain ⟨r,rfl⟩:=k
 obtain ⟨h1,h2,c,h3,h4⟩:=h (by rw [List.length_append] at hq; omega)
 exact ⟨h1,h2,c,by rw [List.getElem?_append_left (List.getElem?_eq_some_iff.1 h3).1]; exact h3,h4⟩
theorem Y3n (p:Z0i) (f:Z1b):Im (Zcl p f) (fun r=>Gr p r.1.f_P r.1.f_E∧(r.1.f_E=0→f.Z3c≠8→AtC f r.1.f_P r.2)):=by
 unfold Zcl Zeu
 refine I.br (fun h=>I.ok ⟨Gr.refl p,fun e=>absurd e (by simpa using h)⟩) fun h=>I.br (fun h8=>I.bd (Zxs _ _) fun v hv=>I.ok ⟨⟨fun _=>by simpa using h,hv⟩,fun _ hne=>absurd (by simpa using h8) hne⟩) fun _=>I.bd (Zbb _ _) fun v hv=>I.ok ⟨⟨fun _=>by simpa using h,hv.1⟩,fun e _ hl=>?_⟩
 obtain ⟨h1,h2⟩:=hv.2 e hl
 have hlt:=(List.getElem?_eq_some_iff.1 h2).1
 dsimp only at hl ⊢
 exact ⟨h1,by omega,_,h2,rfl⟩
structure FM (f:Z1b) (P:List Z00) (g:Z0d):Prop where
 ds:At1 f.Z1p P g.Z1p
 ct:f.Z3c≠0→f.Z3c≠8→∃ x i,g.Z1g=[x]∧Z88 i=some x.Z2e∧AtC f P i
theorem FM.mono {f:Z1b} {P Q:List Z00} {g:Z0d} (h:FM f P g) (k:Sb P Q):FM f Q g:=⟨h.ds.mono k,fun a b=>by
 obtain ⟨x,i,h1,h2,h3⟩:=h.ct a b
 exact ⟨x,i,h1,h2,h3.mono k⟩⟩
structure Fs (u:Z0l) (n:Int) (P:List Z00) (E:Int) (fm:List Z0d):Prop where
 len:(fm.length:Int)=n
 ok:E=0→∀ (j:Nat) f,(j:Int)<n→u.Z0g[j]?=some f→∃ g,fm[j]?=some g∧FM f P g
theorem Fs.grow {u:Z0l} {n:Int} {P Q:List Z00} {E F:Int} {fm} (h:Fs u n P E fm) (k:Gr { f_P:=P,f_E:=E } Q F):Fs u n Q F fm:=
 ⟨h.len,fun e j f hj hf=>by
  obtain ⟨g,h1,h2⟩:=h.ok (k.1 e) j f hj hf
  exact ⟨g,h1,h2.mono k.2⟩⟩
theorem Fs.snoc {u:Z0l} {n:Int} {P:List Z00} {E:Int} {fm} (h:Fs u n P E fm) (h0:0≤n) {f:Z1b} {g:Z0d} (hf:u.Z0g[n.toNat]?=some f) (hd:E=0→FM f P g):Fs u (n+1) P E (fm++[g]):=by
 have h1:=h.len
 refine ⟨by simp only [List.length_append,List.length_cons,List.length_nil]; omega,fun e j f' hj hf'=>?_⟩
 rcases Int.lt_or_le (j:Int) n with h'|h'
 ·obtain ⟨g',e1,e2⟩:=h.ok e j f' h' hf'
  exact ⟨g',by rw [List.getElem?_append_left (by omega)]; exact e1,e2⟩
 ·have:j=n.toNat:=by omega
  subst this
  rw [hf] at hf'; cases hf'
  exact ⟨g,by rw [List.getElem?_append_right (by omega),show n.toNat - fm.length=0 by omega]; rfl,hd e⟩
theorem i_halfF (p:Z0i) (u:Z0l) (hu:MB u) (hF:u.Z0g.length≤140737488355328):Im (Zbx p u) (fun r=>Fs u u.Z0g.length r.1.f_P r.1.f_E r.2.f_F.Z0g∧r.2.f_F.Z1v=r.1.f_P):=by
 have hmf:∀ p x,Im (Z8g p u x) (fun r=>Gr p r.1.f_P r.1.f_E∧r.2.f_F.Z0g=x.f_F.Z0g):=fun p x=>by
  have:=Y31 p u hu x
  intro r hr
  refine ⟨(this r hr).1,?_⟩
  unfold Z8g at hr
  obtain ⟨q,_,e⟩:=Option.bind_eq_some_iff.1 hr
  cases e
  rfl
 have hj : ∀ v a b c,Im (Za9 v u a b c) (fun r=>Fs u u.Z0g.length r.1.f_P r.1.f_E r.2.f_F.Z0g∧r.2.f_F.Z1v=r.1.f_P):=fun v a b c=>by
  unfold Za9 Zaq
  refine I.sk fun q0 _=>I.bd (I.lp (fun t:Int×(List Z00)×Int×(List Z0d)=>0≤t.1∧t.1≤(u.Z0g.length:Int)∧Fs u t.1 t.2.1 t.2.2.1 t.2.2.2) (Q:=fun q=>Fs u u.Z0g.length q.1 q.2.1 q.2.2) (fun t ht=>?_) ⟨by dsimp only; omega,by dsimp only; omega,rfl,fun _ j f hj=>by dsimp only at hj; omega⟩) fun q2 h2=>I.bd (hmf _ _) fun w hw=>?_
  ·obtain ⟨t0,t1,tf⟩:=ht
   unfold Zfc
   refine I.br (fun hlt=>I.sk fun f e=>I.bd (Z6t _ _) fun v27 h27=>I.bd (Z6t _ _) fun v28 h28=>?_) fun hge=>I.dn ?_
   ·have hlt':=of_decide_eq_true hlt
    obtain ⟨_,_,hf⟩:=Zb9 e
    have g2:=h27.1.trans h28.1
    have nxt:∀ P E (l:List Z18),Gr v28.1 P E→(E=0→FM f P { Z0r:=f.Z0r,Z0f:=v27.2,Z1p:=v28.2,Z1g:=l })→Im (Z9j t f v27 v28 P E l) (I.Ct (fun t:Int×(List Z00)×Int×(List Z0d)=>0≤t.1∧t.1≤(u.Z0g.length:Int)∧Fs u t.1 t.2.1 t.2.2.1 t.2.2.2) fun q=>Fs u u.Z0g.length q.1 q.2.1 q.2.2):=fun P E l hg hd=>by
     unfold Z9j
     refine I.sk fun _ _=>I.sk fun k hk=>?_
     rw [Z4v (n:=t.1+1) (by omega) (by omega)] at hk
     cases hk
     exact I.nx ⟨by dsimp only; omega,by dsimp only; omega,(tf.grow (g2.trans hg)).snoc t0 hf hd⟩
    refine I.br (fun _=>I.bd (Z6t _ _) fun v29 h29=>I.bd (Y3n _ _) fun v30 h30=>I.sk fun v31 e31=>nxt _ _ _ (h29.1.trans h30.1) fun E0=>⟨(h28.2 ((h29.1.trans h30.1).1 E0)).mono (h29.1.trans h30.1).2,fun _ h8=>⟨_,v30.2,rfl,e31,h30.2 E0 h8⟩⟩) fun hc=>nxt _ _ [] (Gr.refl _) fun E0=>⟨h28.2 E0,fun h=>absurd (by simpa using hc) h⟩
   ·have:t.1=u.Z0g.length:=by have:=of_decide_eq_false hge; omega
    exact this ▸ tf
  ·have hw2:Fs u u.Z0g.length w.1.f_P w.1.f_E w.2.f_F.Z0g:=by
    rw [hw.2]
    exact h2.grow hw.1
   exact I.br (fun _=>I.bd (Z6t _ _) fun x hx=>I.bd (Z6t _ _) fun y hy=>I.sk fun _ _=>I.ok ⟨(hw2.grow hx.1).grow hy.1,rfl⟩) fun _=>I.ok ⟨hw2,rfl⟩
 unfold Zbx
 exact I.sk fun _ _=>I.br (fun _=>I.sk fun _ _=>hj _ _ _ _) fun _=>hj _ _ _ _
theorem i_suits (P:List Z00) (i:Int) (d:List UInt8):Im (Zch P i d) (fun b=>b=true→∀ c,1≤i→i≤1000→P[i.toNat - 1]?=some c→(c.Z1o=3→d=[73])∧(c.Z1o=5→d=[74])):=by
 unfold Zch
 refine I.sk fun v0 e0=>I.br (fun _=>I.ok fun h=>by cases h) fun hz=>?_
 have hat:∀ c,1≤i→i≤1000→P[i.toNat - 1]?=some c→v0.1=c:=fun c h1 h2 hc=>by
  have hlt:=(List.getElem?_eq_some_iff.1 hc).1
  unfold Z7a at e0
  rw [if_neg (by simp; omega),if_neg (by simp; omega),Z4v (by omega) (by omega)] at e0
  have:Z05 P (i - 1)=some c:=by unfold Z05; rw [if_pos (by omega),show (i - 1).toNat=i.toNat - 1 by omega]; exact hc
  simp only [Option.bind_some,this] at e0
  cases e0
  rfl
 intro r hr hrt c h1 h2 hc
 have hv:=hat c h1 h2 hc
 subst hrt
 rw [hv] at hr
 refine ⟨fun h3=>?_,fun h5=>?_⟩
 ·rw [h3] at hr
  by_cases hd:d=[73]
  ·exact hd
  ·exfalso
   have:(d==([73]:List UInt8))=false:=by simpa using hd
   simp [this] at hr
 ·rw [h5] at hr
  by_cases hd:d=[74]
  ·exact hd
  ·exfalso
   have:(d==([74]:List UInt8))=false:=by simpa using hd
   simp [this] at hr
theorem Y2i {P:List Z00} {g:Z0d} {d:List UInt8} {x:Z18} {i:Int} (hg:g.Z1g=[x]) (hi:Z88 i=some x.Z2e) (h1:1≤i) (h2:i≤1000) {c:Z00} (hc:P[i.toNat - 1]?=some c):Im (Z7v P g d) (fun b=>b=true→(c.Z1o=3→d=[73])∧(c.Z1o=5→d=[74])):=by
 unfold Z7v Zg5
 rw [hg]
 refine I.br (fun h=>by cases h) fun _=>I.sk fun v0 e0=>I.br (fun _=>I.ok fun h=>by cases h) fun _=>I.sk fun _ _=>I.br (fun _=>I.ok fun h=>by cases h) fun _=>I.sk fun _ _=>I.br (fun _=>I.ok fun h=>by cases h) fun _=>I.br (fun _=>I.ok fun h=>by cases h) fun _=>I.sk fun v3 e3=>I.bd (i_suits _ _ _) fun b hb=>I.ok fun hbt=>?_
 have:v0=x:=by
  have:=(Zb9 e0).2.2
  simpa using this.symm
 subst this
 rw [Y3g (by omega) h2 hi] at e3
 cases e3
 exact hb hbt c h1 h2 hc
theorem i_field (f:Z14) (j:Int):Im (Z7d f j) (fun e=>e=0→∀ g,Z05 f.Z0g j=some g→∃ s k t,Z36 f.Z1v g.Z1p=some (s,k)∧Z6z s=some (t,0)∧t.Z1z≠86∧Z7v f.Z1v g s=some true):=by
 unfold Z7d
 refine I.sk fun v0 e0=>I.sk fun _ _=>I.br (fun _=>I.ok fun h=>by cases h) fun _=>I.sk fun _ _=>I.br (fun _=>I.ok fun h=>by cases h) fun _=>I.sk fun _ _=>I.br (fun _=>I.ok fun h=>by cases h) fun _=>?_
 unfold Zic
 refine I.sk fun v4 e4=>I.br (fun _=>I.ok fun h=>by cases h) fun _=>I.sk fun v5 e5=>I.br (fun _=>I.ok fun h=>by cases h) fun hz=>I.br (fun _=>I.ok fun h=>by cases h) fun hb=>?_
 have j3:∀ p,Im (Z9s v0 v4 f j p) (fun e=>e=0→Z7v f.Z1v v0 v4.1=some true):=fun p=>by
  unfold Z9s
  refine I.sk fun _ _=>I.br (fun _=>I.ok fun h=>by cases h) fun _=>I.sk fun _ _=>I.br (fun _=>I.ok fun h=>by cases h) fun _=>I.sk fun v9 e9=>I.br (fun _=>I.ok fun h=>by cases h) fun h9=>I.ok fun _=>?_
  rw [e9]
  simpa using h9
 have j2:Im (Zdu v0 v4 f j) (fun e=>e=0→Z7v f.Z1v v0 v4.1=some true):=by
  unfold Zdu
  exact I.sk fun _ _=>I.br (fun _=>j3 _) fun _=>j3 _
 refine I.mono j2 fun e he h0 g hg=>?_
 rw [e0] at hg
 cases hg
 exact ⟨v4.1,v4.2,v5.1,e4,by rw [e5]; obtain ⟨a,b⟩:=v5; have:b=0:=eq0 hz; subst this; rfl,by simpa using hb,he h0⟩
theorem Y3f (f:Z14) (hf:f.Z0g.length≤140737488355328):Im (Zc7 f) (fun r=>r.2=0→f.Z1v.length≤1000∧Short f.Z1v∧∀ j:Int,0≤j→j<f.Z0g.length→Z7d f j=some 0):=by
 unfold Zc7
 refine I.bd (Y13 _) fun v hv=>I.br (fun h=>I.ok fun e=>absurd e (ne0 h)) fun h=>I.sk fun _ _=>I.br (fun h=>I.ok fun e=>absurd e (ne0 h)) fun _=>I.bd (I.lp (fun _=>True) (Q:=fun q=>match q with|.inl _=>True|.inr y=>y.2≠0) (fun t _=>?_) trivial) fun q1 h1=>?_
 ·unfold Zkl
  exact I.br (fun _=>I.sk fun _ _=>I.br (fun h=>I.sk fun _ _=>I.dn (ne0 h)) fun _=>I.sk fun _ _=>I.nx trivial) fun _=>I.dn trivial
 cases q1 with
 | inr y=>exact I.ok fun e=>absurd e h1
 | inl _=>
 refine I.bd (I.lp (fun t:Int=>0≤t∧∀ j:Int,0≤j→j<t→Z7d f j=some 0) (Q:=fun q=>match q with|.inl _=>∀ j:Int,0≤j→j<f.Z0g.length→Z7d f j=some 0|.inr y=>y.2≠0) (fun t ht=>?_) ⟨by omega,fun j h h'=>by omega⟩) fun q3 h3=>?_
 ·unfold Zht
  refine I.br (fun hlt=>I.sk fun v14 e14=>I.br (fun h=>I.sk fun _ _=>I.dn (ne0 h)) fun hz=>I.sk fun k hk=>?_) fun hge=>I.dn fun j h h'=>ht.2 j h (by have:=of_decide_eq_false hge; omega)
  have:=of_decide_eq_true hlt
  rw [Z4v (by omega) (by omega)] at hk
  cases hk
  refine I.nx ⟨by omega,fun j h h'=>?_⟩
  rcases Int.lt_or_le j t with h2|h2
  ·exact ht.2 j h h2
  ·rw [show j=t by omega,e14,eq0 hz]
 cases q3 with
 | inr y=>exact I.ok fun e=>absurd e h3
 | inl _=>
 refine I.bd (I.lp (fun _=>True) (Q:=fun q=>match q with|.inl _=>True|.inr y=>y.2≠0) (fun t _=>?_) trivial) fun q5 h5=>?_
 ·unfold Zgk
  exact I.br (fun _=>I.sk fun _ _=>I.br (fun h=>I.sk fun _ _=>I.dn (ne0 h)) fun _=>I.sk fun _ _=>I.nx trivial) fun _=>I.dn trivial
 cases q5 with
 | inr y=>exact I.ok fun e=>absurd e h5
 | inl _=>exact I.sk fun _ _=>I.br (fun _=>I.ok fun h=>by cases h) fun _=>I.ok fun _=>⟨(hv (eq0 h)).1,(hv (eq0 h)).2,h3⟩
def FOk (u:Z0l):Prop:=∀ f∈u.Z0g,f.Z1p.length≤1024∧∃ t,Z6z f.Z1p=some (t,0)∧t.Z1z≠86∧(f.Z3c=3→f.Z1p=[73])∧(f.Z3c=5→f.Z1p=[74])
theorem Y2v (u:Z0l) (hu:MB u) (hF:u.Z0g.length≤140737488355328):Im (Zbi u) (fun r=>r.2=0→FOk u):=by
 unfold Zbi
 refine I.sk fun _ _=>I.br (fun _=>I.ok fun h=>by cases h) fun _=>I.bd (i_halfF _ u hu hF) fun v hv=>I.br (fun h=>I.ok fun e=>absurd e (ne0 h)) fun hE=>?_
 have hE':=eq0 hE
 obtain ⟨hM,hP⟩:=hv
 have hL:(v.2.f_F.Z0g.length:Int)=u.Z0g.length:=hM.len
 refine I.bd (I.lp (fun _=>True) (Q:=fun q=>match q with|.inl _=>True|.inr y=>y.2≠0) (fun t _=>?_) trivial) fun q1 h1=>?_
 ·have j1:∀ s x,Im (Zam t s x) (I.Ct (fun _=>True) fun q=>match q with|.inl _=>True|.inr y=>y.2≠0):=fun s x=>by
   unfold Zam
   exact I.br (fun h=>I.dn (ne0 h)) fun _=>I.sk fun _ _=>I.sk fun _ _=>I.nx trivial
  unfold Zkv
  exact I.br (fun _=>I.sk fun _ _=>I.br (fun _=>I.sk fun _ _=>I.sk fun _ _=>j1 _ _) fun _=>j1 _ _) fun _=>I.dn trivial
 cases q1 with
 | inr y=>exact I.ok fun e=>absurd e h1
 | inl q0=>
 refine I.bd (I.lp (fun _=>True) (Q:=fun q=>match q with|.inl _=>True|.inr y=>y.2≠0) (fun t _=>?_) trivial) fun q3 h3=>?_
 ·have j3:∀ p,Im (Zac t v p) (I.Ct (fun _=>True) fun q=>match q with|.inl _=>True|.inr y=>y.2≠0):=fun p=>by
   unfold Zac
   exact I.sk fun _ _=>I.sk fun _ _=>I.sk fun _ _=>I.nx trivial
  have j2:∀ p,Im (Zaj t v p) (I.Ct (fun _=>True) fun q=>match q with|.inl _=>True|.inr y=>y.2≠0):=fun p=>by
   unfold Zaj
   exact I.sk fun _ _=>I.br (fun _=>I.sk fun _ _=>I.sk fun _ _=>I.br (fun h=>I.dn (ne0 h)) fun _=>I.sk fun _ _=>I.sk fun _ _=>j3 _) fun _=>j3 _
  unfold Zh9
  exact I.br (fun _=>I.sk fun _ _=>I.br (fun _=>I.sk fun _ _=>I.sk fun _ _=>I.sk fun _ _=>I.sk fun _ _=>j2 _) fun _=>j2 _) fun _=>I.dn trivial
 cases q3 with
 | inr y=>exact I.ok fun e=>absurd e h3
 | inl q2=>
 refine I.bd (Y3f _ (by dsimp only; omega)) fun w hw=>I.br (fun h=>I.ok fun e=>absurd e (ne0 h)) fun h=>I.ok fun _ f hf=>?_
 obtain ⟨p1,p2,p3⟩:=hw (eq0 h)
 dsimp only at p1 p2 p3
 rw [hP] at p1 p2
 obtain ⟨j,hj⟩:=List.getElem?_of_mem hf
 have hlt:j<u.Z0g.length:=(List.getElem?_eq_some_iff.1 hj).1
 obtain ⟨g,g1,g2⟩:=hM.ok hE' j f (by omega) hj
 have hg:Z05 v.2.f_F.Z0g (j:Int)=some g:=by unfold Z05; rw [if_pos (by omega),Int.toNat_natCast]; exact g1
 obtain ⟨s,k,t,s1,s2,s3,s4⟩:=i_field _ (j:Int) 0 (p3 (j:Int) (by omega) (by omega)) rfl g hg
 dsimp only at s1 s4
 rw [hP] at s1 s4
 rw [utf_at p1 g2.ds] at s1
 cases s1
 have hcc:∀ n:Int,n≠0→n≠8→f.Z3c=n→(n=3→f.Z1p=[73])∧(n=5→f.Z1p=[74]):=fun n n0 n8 hn=>by
  obtain ⟨x,i,x1,x2,x3⟩:=g2.ct (by omega) (by omega)
  obtain ⟨i1,i2,c,i3,i4⟩:=x3 p1
  have:=Y2i x1 x2 i1 i2 i3 true s4 rfl
  rw [i4,hn] at this
  exact this
 obtain ⟨k',k1',k2',k3',k4'⟩:=g2.ds p1
 exact ⟨by rw [← k4']; exact p2 k' (List.mem_of_getElem? k2') k3',t,s2,s3,fun h3=>(hcc 3 (by decide) (by decide) h3).1 rfl,fun h5=>(hcc 5 (by decide) (by decide) h5).2 rfl⟩
theorem Zzm (u:Z0l) (hu:MB u) (hF:u.Z0g.length≤140737488355328):Im (Z9c u) (fun e=>e=0→FOk u):=by
 unfold Z9c
 exact I.bd (Y2v u hu hF) fun v hv=>I.ok hv
theorem Y3b {w:Z0c} (h:Z55 w) (v:Z90 w=some true):∀ c∈w.Z0n,FOk c.Z12:=
 Y4b (Q:=FOk) _ h.clsL (fun c hc=>Zzm _ ⟨by have:=(h.cls c hc).1.metL; omega,fun x hx=>by have:=(((h.cls c hc).1.met x hx).code.insL); omega⟩ (by have:=(h.cls c hc).1.fldL; omega)) true v rfl
end Go.Proofs
namespace Go.Proofs
open Go.Den Go.Tot
def Z3s (w:Z0c) (c:Int):List FS:=Z43 w 300 c
theorem Y3m {w:Z0c} {c:Int} (h: ¬(0≤c∧c<w.Z0n.length)):Z3s w c=[] :=Zjg (Z75 h)
theorem Zzj {w:Z0c} (hv:Z2y w) {c:Int} {k:Z1s} (e:Z05 w.Z0n c=some k):Z3s w c=Z3s w k.Z17++Z2r w c false:=by
 have hf:=hv.few
 have:=Z8p hv e
 unfold Z3s
 rw [show (300:Nat)=299+1 from rfl,Zmd e,inst_st hv (n:=299) (m:=299+1) (by omega) (by omega) (by omega) (by omega)]
theorem Zlu {w:Z0c} (hv:Z2y w) (c:Int):(Z3s w c).length≤12800:=by
 have hf:=hv.few
 by_cases h:0≤c∧c<w.Z0n.length
 ·have:=(Zxv w hv 300 c (by omega) (by omega) (by omega)).2 h.1
  unfold Z3s; omega
 ·rw [Y3m h]; simp
theorem Zgp {w:Z0c} (hv:Z2y w) (c:Int) (s:Bool):(Z2r w c s).length≤64:=by
 by_cases h:0≤c∧c<w.Z0n.length
 ·exact (Zna w hv c s h.1 h.2).2
 ·unfold Z2r; rw [Z75 h]; simp
theorem Zvl {w:Z0c} (hv:Z2y w) (c:Int) (s:Bool) (h:0≤c∧c<w.Z0n.length):Zd8 w c s=some (Z2r w c s):=(show Zd8 w c s=Zj0 w c s from rfl).trans (Zna w hv c s h.1 h.2).1
theorem Zxg {w:Z0c} (hv:Z2y w) (c:Int):Z9m w c=some (Z2r w c true):=by
 unfold Z9m j14x1
 by_cases h:0≤c∧c<w.Z0n.length
 ·rw [if_neg (by simpa using h.1),if_neg (by simpa using h.2),Zvl hv c true h]; rfl
 ·unfold Z2r; rw [Z75 h]
  by_cases h1:c<0
  ·rw [if_pos (decide_eq_true h1)]
  ·rw [if_neg (by simpa using h1),if_pos (decide_eq_true (by omega))]
theorem Zqo {w:Z0c} (hv:Z2y w):∀ l:List Int,(∀ c∈l,0≤c∧c<w.Z0n.length)→ovs w l=some ((l.map fun c=>Z2r w c false).flatten)
 | [],_=>rfl
 | c::l,h=>by
  unfold ovs ov
  have hl:=Zgp hv c false
  rw [Zvl hv c false (h c (by simp)),Zqo hv l fun x hx=>h x (by simp [hx])]
  simp only [Option.bind_some]
  rw [if_pos (by omega)]
  rfl
theorem Znq {w:Z0c} (hv:Z2y w) (c:Int):Z7h w c=some (Z3s w c):=by
 unfold Z7h
 have hl:=Y2a hv c
 rw [Zzq hv]
 simp only [Option.bind_some]
 rw [if_pos (by omega),Zqo hv (Z6o w c).reverse fun x hx=>(Zl0 hv 300 c x (List.mem_reverse.1 hx)).2]
 rfl
def fieldAt (w:Z0c) (c i:Int):Option Z1b:=(Z05 w.Z0n c).bind fun v=>Z05 v.Z12.Z0g i
theorem Zuc {w:Z0c} {c:Int} {st:Bool} {x:FS} (h:x∈Z2r w c st):∃ v f,Z05 w.Z0n x.Z0p=some v∧Z05 v.Z12.Z0g x.Z0w=some f∧x.Z0p=c∧(Z7o f==st)=true:=by
 obtain ⟨h1,v,f,e1,e2,e3⟩:=Zls.1 h
 exact ⟨v,f,by rw [h1]; exact e1,e2,h1,e3⟩
theorem Y3h {w:Z0c} {c:Int} {x:FS} (h:x∈Z3s w c):∃ v f,Z05 w.Z0n x.Z0p=some v∧Z05 v.Z12.Z0g x.Z0w=some f∧Z7o f=false:=by
 obtain ⟨v,f,e1,e2,_,e3⟩:=Zuc (Zsu.1 h).2
 exact ⟨v,f,e1,e2,by simpa using e3⟩
structure Good (w:Z0c):Prop where
 v:Z2y w
 f:∀ c∈w.Z0n,FOk c.Z12
end Go.Proofs
namespace Go.Proofs
open Go.Den Go.Tot
def noField:Z1b:={ Z0r:=0,Z0f:=[],Z1p:=[],Z3c:=0,f_N:=0,f_S:=[] }
theorem get_is (w:Z0c) (f:Z4k):Zp5 w f=some (match fieldAt w f.Z0p f.Z0w with
  | some x=>(x,true)
  | none=>(noField,false)):=by
 unfold Zp5
 rw [show Zrg w f.Z0p=Zg2 w f.Z0p from rfl,Zmr]
 unfold fieldAt
 by_cases h:0≤f.Z0p∧f.Z0p<w.Z0n.length
 ·obtain ⟨k,e,_⟩:=gr (l:=w.Z0n) h.1 h.2
  rw [decide_eq_true h,e]
  simp only [Option.bind_some,Bool.not_true,Bool.false_eq_true,if_false]
  by_cases h1:f.Z0w<0
  ·rw [if_pos (decide_eq_true h1),Z75 (by omega)]
   rfl
  ·rw [if_neg (by simpa using h1)]
   by_cases h2:f.Z0w≥(k.Z12.Z0g.length:Int)
   ·rw [if_pos (decide_eq_true h2),Z75 (by omega)]
    rfl
   ·rw [if_neg (by simpa using h2)]
    obtain ⟨x,e2,_⟩:=gr (l:=k.Z12.Z0g) (i:=f.Z0w) (by omega) (by omega)
    rw [e2]
    rfl
 ·rw [decide_eq_false h,Z75 h]
  rfl
theorem get_pro (w:Z0c) (f:Z4k):Zlf w f=Zp5 w f:=rfl
def Z7i (w:Z0c) (c:Int) (f:Z4k) (x:Z1b):List FS:=if Z7o x=true then (if c=f.Z0p then Z2r w c true else []) else Z3s w c
def Zas (w:Z0c) (c:Int) (f:Z4k):Int×Bool:=match fieldAt w f.Z0p f.Z0w with
 | some x=>match Z2t f.Z0p f.Z0w 0 (Z7i w c f x) with
  | some i=>(i,true)
  | none=>(0,false)
 | none=>(0,false)
theorem Y1k {w:Z0c} (hv:Z2y w) (c:Int) (f:Z4k) (x:Z1b):(Z7i w c f x).length≤12800:=by
 have h1:=Zlu hv c
 have h2:=Zgp hv c true
 unfold Z7i
 repeat' split
 all_goals first|omega|simp
theorem Y4h (l:List FS) (hl:l.length≤100000) (a b:Int):Zgm l { Z0p:=a,Z0w:=b }=some (match Z2t a b 0 l with
  | some i=>i
  | none=>-1):=by
 unfold Zgm
 rw [Y2t (l:=l) (by omega) a b (fun t=>t) (fun t x h0 h1 e=>?_) (fun t h=>?_)]
 ·cases Z2t a b 0 l <;> rfl
 ·unfold Zfw
  rw [if_pos (decide_eq_true h1),e]
  have:Zai { Z0p:=a,Z0w:=b } x=(x.Z0p==a&&x.Z0w==b):=by
   unfold Zai
   rw [Bool.and_true,Bool.beq_comm (a:=a),Bool.beq_comm (a:=b)]
  simp only [Option.bind_some,this]
 ·unfold Zfw
  rw [if_neg (by simpa using h)]
theorem Zy1 {w:Z0c} (hv:Z2y w) (c:Int) (f:Z4k):Zag w c f=some (Zas w c f):=by
 unfold Zag Zas
 rw [get_pro,get_is]
 cases e:fieldAt w f.Z0p f.Z0w with
 | none=>rfl
 | some x=>
  have hj:∀ l:List FS,l.length≤100000→Zcf f l=some (match Z2t f.Z0p f.Z0w 0 l with
    | some i=>(i,true)
    | none=>(0,false)):=fun l hl=>by
   unfold Zcf
   rw [Y4h l hl]
   cases ep:Z2t f.Z0p f.Z0w 0 l with
   | none=>rfl
   | some i=>
    have:=Zrb _ _ _ _ _ ep
    rw [Option.bind_some,if_neg (show ¬(0>i) by omega),Option.bind_some]
    dsimp only
    rw [decide_eq_true (show i≥0 by omega)]
  have hal:=Y1k hv c f x
  simp only [Option.bind_some,Bool.not_true,Bool.false_eq_true,if_false]
  have hs:Z7o x=(Z2b .i64 x.Z0r 8 !=0):=rfl
  by_cases h:Z2b .i64 x.Z0r 8=0
  ·have ha:Z7i w c f x=Z3s w c:=by unfold Z7i; rw [hs,h]; rfl
   rw [if_pos (by simpa using h),Znq hv,ha]
   rw [ha] at hal
   exact hj _ (by omega)
  ·rw [if_neg (by simpa using h)]
   have ha:Z7i w c f x=if c=f.Z0p then Z2r w c true else [] :=by unfold Z7i; rw [hs,if_pos (by simpa using h)]
   by_cases hc:c=f.Z0p
   ·rw [if_pos (by simpa using hc),Zxg hv,ha,if_pos hc]
    have:=Zgp hv c true
    exact hj _ (by omega)
   ·rw [if_neg (by simpa using hc),ha,if_neg hc]
    exact hj _ (by simp)
theorem Zrx:Zjs=some true:=by kernel_rfl
theorem good_of {w:Z0c} (hw:Z55 w):Ok (Z90 w) (fun b=>b=true→Good w):=by
 obtain ⟨b,e,hb⟩:=Y3w w hw
 refine ⟨b,e,fun h=>?_⟩
 subst h
 exact ⟨hb rfl,Y3b hw e⟩
end Go.Proofs
namespace Go.Proofs
open Go.Den Go.Tot
theorem sub_pre {α:Type} (a b:List α):sub (a++b) 0 (a.length:Int)=some a:=by
 rw [Y3t _ _ (by simp)]
 simp
theorem slot_at {w:Z0c} (hv:Z2y w) {c:Int} {i:Nat} {x:FS} (h:(Z3s w c)[i]?=some x):Zas w c { Z0p:=x.Z0p,Z0w:=x.Z0w }=((i:Int),true):=by
 obtain ⟨v,f,e1,e2,e3⟩:=Y3h (List.mem_of_getElem? h)
 unfold Zas
 have:fieldAt w x.Z0p x.Z0w=some f:=by unfold fieldAt; rw [e1]; exact e2
 simp only [this]
 unfold Z7i
 rw [if_neg (by rw [e3]; decide),Zqf (Z3s w c) (Zxj hv 300 c) h]
theorem Y42 {w:Z0c} (hv:Z2y w) {c:Int} {i:Nat} {x:FS} (h:(Z2r w c true)[i]?=some x):x.Z0p=c∧Zas w c { Z0p:=x.Z0p,Z0w:=x.Z0w }=((i:Int),true):=by
 obtain ⟨v,f,e1,e2,hc,e3⟩:=Zuc (List.mem_of_getElem? h)
 refine ⟨hc,?_⟩
 unfold Zas
 have:fieldAt w x.Z0p x.Z0w=some f:=by unfold fieldAt; rw [e1]; exact e2
 simp only [this]
 unfold Z7i
 rw [if_pos (by simpa using e3),if_pos hc.symm,Zqf _ (Zsj w c true) h]
theorem Zwn {α:Type} {l:List α} {t:Int} {x:α} (h0:0≤t) (h:Z05 l t=some x):l[t.toNat]?=some x:=by
 unfold Z05 at h
 rw [if_pos h0] at h
 exact h
theorem Y2p (w:Z0c) (c:Int) (hw:Z55 w):Zny w c=some true:=by
 have hq:j5x3=some true:=by unfold j5x3; rw [Zrx]; rfl
 unfold Zny Zmf
 simp only [Option.bind_some]
 split
 ·exact hq
 obtain ⟨b,e,hb⟩:=good_of hw
 rw [e]
 cases b with
 | false=>exact hq
 | true=>
  have g:=hb rfl
  simp only [Option.bind_some,Bool.not_true,Bool.false_eq_true,if_false]
  split
  ·exact hq
  split
  ·exact hq
  rename_i h0 h1
  obtain ⟨k,ek,hk⟩:=gr (l:=w.Z0n) (i:=c) (by simp at h0; omega) (by simp at h1; omega)
  have l1:=Zlu g.v c
  have l2:=Zgp g.v c true
  have l3:=Zlu g.v k.Z17
  unfold j5x1
  rw [Znq g.v,Zxg g.v,ek]
  simp only [Option.bind_some]
  rw [Znq g.v]
  simp only [Option.bind_some]
  have hs:=Zzj g.v ek
  have hn:(Z3s w c).length=(Z3s w k.Z17).length+(Z2r w c false).length:=by rw [hs,List.length_append]
  have hp:(Z2r w c false).length+(Z2r w c true).length=k.Z12.Z0g.length:=by unfold Z2r; rw [ek]; exact Zv8 c _ 0
  rw [if_neg (by simp; omega),hs,sub_pre]
  simp only [Option.bind_some]
  rw [Y01 _ (by omega)]
  simp only [Option.bind_some,Bool.not_true,Bool.false_eq_true,if_false]
  rw [← hs,Z4v (n:=((Z3s w c).length:Int) - ((Z3s w k.Z17).length:Int)) (by omega) (by omega),Z4v (by omega) (by omega),if_neg (by simp; omega)]
  unfold j5x2
  rw [rfL (Z3s w c) (by omega) (fun t x ht h1 e hk=>?_) (fun t h=>by unfold l5x1; rw [if_neg (by simpa using h)])]
  ·simp only [Option.bind_some]
   rw [rfL (Z2r w c true) (by omega) (fun t x ht h1 e hk=>?_) (fun t h=>by unfold l5x2; rw [if_neg (by simpa using h)])]
   ·simp only [Option.bind_some]
    rw [Zrx]
    rfl
   ·obtain ⟨hc,hsl⟩:=Y42 g.v (Zwn ht e)
    rw [Int.toNat_of_nonneg ht] at hsl
    unfold l5x2
    rw [if_pos (decide_eq_true h1),e]
    simp only [Option.bind_some]
    rw [Zy1 g.v,hsl]
    simp [hc,hk]
  ·have hsl:=slot_at g.v (Zwn ht e)
   rw [Int.toNat_of_nonneg ht] at hsl
   unfold l5x1
   rw [if_pos (decide_eq_true h1),e]
   simp only [Option.bind_some]
   rw [Zy1 g.v,hsl]
   simp [hk]
end Go.Proofs
