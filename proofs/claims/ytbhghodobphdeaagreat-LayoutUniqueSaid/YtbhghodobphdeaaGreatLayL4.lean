/-
  Slots of fields, in plain lists: Z5q slot stands once, where it is found, and which classes have it. No condition.
-/
import Derived.Test.YtbhghodobphdeaaGreatLayK
set_option linter.unusedVariables false
namespace Go.Proofs
open Go.Den Go.Tot
def Z7u (f:Z1b):Bool:=(Z2b .i64 f.Z0r 8)!=0
theorem Zxu (c:Int) (st:Bool) (x:FS):∀ (l:List Z1b) (k:Int),x∈Z3s c st k l↔x.Z0k=c∧∃ j:Nat,x.Z0x=k+j∧∃ f,l[j]?=some f∧(Z7u f==st)=true
 | [],k=>by simp [Z3s]
 | f :: l,k=>by
  have h:=Zxu c st x l (k+1)
  have key:(∃ j:Nat,x.Z0x=k+j∧∃ g,(f::l)[j]?=some g∧(Z7u g==st)=true)↔(x.Z0x=k∧(Z7u f==st)=true)∨(∃ j:Nat,x.Z0x=k+1+j∧∃ g,l[j]?=some g∧(Z7u g==st)=true):=by
   constructor
   ·rintro ⟨j,h1,g,h2,h3⟩
    cases j with
    | zero=>simp at h2; subst h2; exact .inl ⟨by simpa using h1,h3⟩
    | succ j=>exact .inr ⟨j,by omega,g,by simpa using h2,h3⟩
   ·rintro (⟨h1,h2⟩|⟨j,h1,g,h2,h3⟩)
    ·exact ⟨0,by simpa using h1,f,rfl,h2⟩
    ·exact ⟨j+1,by omega,g,by simpa using h2,h3⟩
  rw [key]
  unfold Z3s
  split
  ·rename_i hs
   rw [List.mem_cons,h]
   constructor
   ·rintro (rfl|⟨h1,h2⟩)
    ·exact ⟨rfl,.inl ⟨rfl,hs⟩⟩
    ·exact ⟨h1,.inr h2⟩
   ·rintro ⟨h1,⟨h2,_⟩|h2⟩
    ·left; cases x; simp_all
    ·exact .inr ⟨h1,h2⟩
  ·rename_i hs
   rw [h]
   constructor
   ·rintro ⟨h1,h2⟩; exact ⟨h1,.inr h2⟩
   ·rintro ⟨h1,⟨_,h2⟩|h2⟩
    ·exact absurd h2 hs
    ·exact ⟨h1,h2⟩
theorem Zs2 {w:Z0c} {c:Int} {st:Bool} {x:FS}:x∈Z40 w c st↔x.Z0k=c∧∃ v f,Z05 w.Z0o c=some v∧Z05 v.Z13.Z0g x.Z0x=some f∧(Z7u f==st)=true:=by
 unfold Z40
 cases e:Z05 w.Z0o c with
 | none=>simp
 | some v=>
  dsimp only
  rw [Zxu]
  refine and_congr_right fun _=>?_
  constructor
  ·rintro ⟨j,h1,f,h2,h3⟩
   refine ⟨v,f,rfl,?_,h3⟩
   unfold Z05
   rw [if_pos (by omega),show x.Z0x.toNat=j by omega]
   exact h2
  ·rintro ⟨v',f,hv,h2,h3⟩
   cases hv
   unfold Z05 at h2
   split at h2
   ·exact ⟨x.Z0x.toNat,by omega,f,h2,h3⟩
   ·cases h2
theorem Zlk {w:Z0c} (hv:Z2w w):∀ (n:Nat) (c k:Int),k∈Z3m w n c→k≤c∧0≤k∧k<w.Z0o.length
 | 0,c,k,h=>by simp [Z3m] at h
 | n + 1,c,k,h=>by
  unfold Z3m at h
  cases e:Z05 w.Z0o c with
  | none=>rw [e] at h; simp at h
  | some v=>
   rw [e] at h
   obtain ⟨h0,h1,hs⟩:=Z8q hv e
   rcases List.mem_cons.1 h with rfl|h
   ·exact ⟨by omega,h0,h1⟩
   ·have:=Zlk hv n v.Z16 k h
    omega
theorem Y2t {w:Z0c} {n:Nat} {c:Int} {x:FS}:x∈Z3w w n c↔x.Z0k∈Z3m w n c∧x∈Z40 w x.Z0k false:=by
 unfold Z3w
 rw [List.mem_flatten]
 constructor
 ·rintro ⟨l,hl,hx⟩
  obtain ⟨k,hk,rfl⟩:=List.mem_map.1 hl
  have:=(Zs2.1 hx).1
  subst this
  exact ⟨List.mem_reverse.1 hk,hx⟩
 ·rintro ⟨h1,h2⟩
  exact ⟨_,List.mem_map.2 ⟨_,List.mem_reverse.2 h1,rfl⟩,h2⟩
theorem inst_st {w:Z0c} (hv:Z2w w) {n m:Nat} {c:Int} (h1:c+2≤n) (h2:1≤n) (h3:c+2≤m) (h4:1≤m):Z3w w n c=Z3w w m c:=by
 unfold Z3w
 rw [Zm9 hv n m c h1 h2 h3 h4]
theorem Zy4 {w:Z0c} (hv:Z2w w):∀ (n:Nat) (c k:Int),c+2≤n→k∈Z3m w n c→∃ r,Z3w w n c=Z3w w n k++r
 | 0,c,k,_,h=>by simp [Z3m] at h
 | n + 1,c,k,hn,h=>by
  unfold Z3m at h
  cases e:Z05 w.Z0o c with
  | none=>rw [e] at h; simp at h
  | some v=>
   rw [e] at h
   obtain ⟨h0,h1,hs⟩:=Z8q hv e
   rcases List.mem_cons.1 h with rfl|h
   ·exact ⟨[],by simp⟩
   ·obtain ⟨r,hr⟩:=Zy4 hv n v.Z16 k (by omega) h
    have hk:=Zlk hv n _ _ h
    refine ⟨r++Z40 w c false,?_⟩
    rw [Ztu e,hr,List.append_assoc,inst_st hv (n:=n) (m:=n+1) (c:=k) (by omega) (by omega) (by omega) (by omega)]
end Go.Proofs
namespace Go.Proofs
open Go.Den Go.Tot
def Z2m (a b:Int):Int→List FS→Option Int
 | _,[] =>none
 | k,x::r=>if (x.Z0k==a&&x.Z0x==b)=true then some k else Z2m a b (k+1) r
theorem Zrm (a b:Int) (r:List FS):∀ (l:List FS) (k:Int),Z2m a b k (l++r)=match Z2m a b k l with
  | some i=>some i
  | none=>Z2m a b (k+l.length) r
 | [],k=>by simp [Z2m]
 | x::l,k=>by
  simp only [List.cons_append]
  rw [Z2m,Z2m]
  split
  ·rfl
  ·rw [Zrm a b r l (k+1),show k+1+(l.length:Int)=k+((x::l).length:Nat) by simp only [List.length_cons]; omega]
theorem Zyy (a b:Int):∀ (l:List FS) (k:Int),Z2m a b k l=none↔({ Z0k:=a,Z0x:=b }:FS) ∉ l
 | [],k=>by simp [Z2m]
 | x :: l,k=>by
  have h:=Zyy a b l (k+1)
  unfold Z2m
  by_cases hx:(x.Z0k==a&&x.Z0x==b)=true
  ·rw [if_pos hx]
   simp only [Bool.and_eq_true,beq_iff_eq] at hx
   obtain ⟨rfl,rfl⟩:=hx
   simp
  ·rw [if_neg hx,h,List.mem_cons,not_or]
   refine ⟨fun hm=>⟨fun e=>?_,hm⟩,fun hm=>hm.2⟩
   subst e
   simp at hx
theorem Zvp (a b:Int):∀ (l:List FS) (k i:Int),Z2m a b k l=some i→k≤i∧i<k+l.length
 | [],k,i,h=>by simp [Z2m] at h
 | x :: l,k,i,h=>by
  unfold Z2m at h
  split at h
  ·cases h; simp only [List.length_cons]; omega
  ·have:=Zvp a b l (k+1) i h
   simp only [List.length_cons]; omega
theorem Y04 {R:Type} {l:List FS} (hn:l.length≤140737488355328) (a b:Int) (ret:Int→R) {f:Int→Option (Ctl Int (Unit⊕R))}
  (h1:∀ (t:Int) x,0≤t→t<l.length→Z05 l t=some x→f t=if (x.Z0k==a&&x.Z0x==b)=true then some (.done (.inr (ret t))) else (some (IntKind.wrap .i64 (t+1))).bind fun k=>some (.next k))
  (h2:∀ t:Int,¬ t<l.length→f t=some (.done (.inl ()))):
  Z07 f Z09 0=some (match Z2m a b 0 l with
   | some i=> .inr (ret i)
   | none=> .inl ()):=by
 have:Ok (Z07 f Z09 0) (fun q=>q=match Z2m a b 0 l with
   | some i=> .inr (ret i)
   | none=> .inl ()):=by
  refine lp (fun t=>t) l.length (fun t=>Z2m a b 0 l=Z2m a b t (l.drop t.toNat)) (fun t hI g0 g1=>?_) (by omega) (by simp) (by omega) (by omega)
  by_cases hlt:t<l.length
  ·obtain ⟨x,e,_,hx⟩:=gri (l:=l) g0 hlt
   have hd:l.drop t.toNat=x::l.drop (t.toNat+1):=by
    rw [List.drop_eq_getElem_cons (by omega)]
    rw [(List.getElem?_eq_some_iff.1 hx).2]
   rw [h1 t x g0 hlt e]
   rw [hd,show Z2m a b t (x::l.drop (t.toNat+1))=if (x.Z0k==a&&x.Z0x==b)=true then some t else Z2m a b (t+1) (l.drop (t.toNat+1)) by rw [Z2m]] at hI
   refine br (fun h=>dn ?_) fun h=>?_
   ·rw [if_pos h] at hI
    rw [hI]
   ·rw [if_neg (by simp [h])] at hI
    refine bd wr fun k hk=>nx ?_ (by omega) (by omega)
    rw [hI,hk,show (t+1).toNat=t.toNat+1 by omega]
  ·rw [h2 t hlt]
   refine dn ?_
   rw [hI,List.drop_eq_nil_of_le (by omega)]
   rfl
 obtain ⟨r,e,rfl⟩:=this
 exact e
end Go.Proofs
namespace Go.Proofs
open Go.Den
end Go.Proofs
namespace Go.Proofs
open Go.Den
end Go.Proofs
namespace Go.Proofs
open Go.Den Go.Tot
theorem Zu9 (w:Z0c) (c:Int):Znq w c=some (decide (0≤c∧c<w.Z0o.length)):=Zme w c
theorem Ztn {w:Z0c} (hv:Z2w w):∀ (n:Nat) (c:Int),c+2≤n→1≤n→(0≤c→((Z3m w n c).length:Int)≤c+1)∧(c<0→Z3m w n c=[])
 | n + 1,c,h,_=>by
  unfold Z3m
  cases e:Z05 w.Z0o c with
  | none=>exact ⟨fun _=>by simp; omega,fun _=>rfl⟩
  | some k=>
   obtain ⟨h0,_,hs⟩:=Z8q hv e
   obtain ⟨a,b⟩:=Ztn hv n k.Z16 (by omega) (by omega)
   refine ⟨fun _=>?_,fun _=>by omega⟩
   simp only [List.length_cons]
   by_cases hk:0≤k.Z16
   ·have:=a hk; omega
   ·rw [b (by omega)]; simp; omega
def Z41 (w:Z0c) (c:Int):List Int:=Z3m w 300 c
theorem Zqv {w:Z0c} (hv:Z2w w) (c:Int):(Z41 w c).length≤200:=by
 have hf:=hv.few
 unfold Z41
 by_cases h:0≤c∧c<w.Z0o.length
 ·have:=(Ztn hv 300 c (by omega) (by omega)).1 h.1; omega
 ·unfold Z3m; rw [Z6z h]; simp
theorem Zey {w:Z0c} {c:Int} (h: ¬(0≤c∧c<w.Z0o.length)):Z41 w c=[] :=by
 unfold Z41 Z3m; rw [Z6z h]
theorem Zm6 {w:Z0c} (hv:Z2w w) {c:Int} {k:Z1s} (e:Z05 w.Z0o c=some k):Z41 w c=c::Z41 w k.Z16:=by
 have hf:=hv.few
 have:=Z8q hv e
 unfold Z41
 rw [show (300:Nat)=299+1 from rfl,Z3m,e]
 dsimp only
 rw [Zm9 hv 299 (299+1) k.Z16 (by omega) (by omega) (by omega) (by omega)]
theorem Y3a {w:Z0c} (hv:Z2w w) {f:Int×List Int→Option (Ctl (Int×List Int) (List Int))} (h1:∀ (c:Int) l k,Z1l 8 (l++[c]).length=some ()→0≤c→c<w.Z0o.length→Z05 w.Z0o c=some k→f (c,l)=some (.next (k.Z16,l++[c])))
  (h2:∀ (c:Int) l,¬(0≤c∧c<w.Z0o.length)→c<w.Z0o.length∨l=[]→f (c,l)=some (.done l)) (c:Int):Z07 f Z09 (c,[])=some (Z41 w c):=by
 have hf:=hv.few
 have:∀ (n m:Nat) (c:Int) (l:List Int),(0≤c→c<m∨l=[])→m<n→(l.length:Int)+m≤400→(c<w.Z0o.length∨l=[])→(l=[]→m=201)→Z07 f n (c,l)=some (l++Z41 w c):=by
  intro n
  induction n with
  | zero=>intro m c l _ h; omega
  | succ n ih=>
   intro m c l h h' hl hl2 hm
   rw [Z07]
   by_cases ht:0≤c∧c<w.Z0o.length
   ·obtain ⟨k,e,_⟩:=gr (l:=w.Z0o) ht.1 ht.2
    have hs:=(Z8q hv e).2.2
    have hcm:c<m:=by
     rcases h ht.1 with h|h
     ·exact h
     ·have:=hm h; omega
    rw [h1 c l k (Ziu (by simp only [List.length_append,List.length_cons,List.length_nil]; omega) (by simp only [List.length_append,List.length_cons,List.length_nil]; omega)) ht.1 ht.2 e]
    dsimp only
    rw [ih (m - 1) k.Z16 (l++[c]) (fun _=> .inl (by omega)) (by omega) (by simp only [List.length_append,List.length_cons,List.length_nil]; omega) (.inl (by omega)) (fun h=>by simp at h),Zm6 hv e]
    simp
   ·rw [h2 c l ht hl2,Zey ht]
    simp
 exact this Z09 201 c [] (fun _=> .inr rfl) (by unfold Z09; omega) (by simp) (.inr rfl) fun _=>rfl
theorem Y2z {w:Z0c} (hv:Z2w w) (c:Int):Zgj w c=some (Z41 w c):=by
 unfold Zgj
 rw [Y3a hv (fun c l k hg h0 h1 e=>?_) (fun c l h _=>?_)]
 ·rfl
 ·unfold Zhh
  dsimp only
  rw [Zu9,decide_eq_true ⟨h0,h1⟩]
  simp only [Option.bind_some,if_true]
  rw [hg,e]
  rfl
 ·unfold Zhh
  dsimp only
  rw [Zu9,decide_eq_false h]
  rfl
theorem ups_is {w:Z0c} (hv:Z2w w) (c:Int):Zhz w c=some (Z41 w c):=by
 unfold Zhz
 by_cases h1:c<0
 ·rw [if_pos (decide_eq_true h1),Zey (by omega)]
 rw [if_neg (by simpa using h1)]
 by_cases h2:c≥(w.Z0o.length:Int)
 ·rw [if_pos (decide_eq_true h2),Zey (by omega)]
 rw [if_neg (by simpa using h2)]
 unfold j27x1 Zpo
 have:∀ (n m:Nat) (c:Int) (l:List Int),(0≤c→c<m)→m<n→(l.length:Int)+m≤400→c<w.Z0o.length→Z07 (Z9d w) n (c,l)=some (l++Z41 w c):=by
  intro n
  induction n with
  | zero=>intro m c l _ h; omega
  | succ n ih=>
   intro m c l h h' hl hl2
   rw [Z07]
   by_cases ht:0≤c
   ·obtain ⟨k,e,_⟩:=gr (l:=w.Z0o) ht hl2
    have hs:=(Z8q hv e).2.2
    have:=h ht
    have e1:Z9d w (c,l)=some (.next (k.Z16,l++[c])):=by
     unfold Z9d
     dsimp only
     rw [if_pos (decide_eq_true ht),Ziu (by simp only [List.length_append,List.length_cons,List.length_nil]; omega) (by simp only [List.length_append,List.length_cons,List.length_nil]; omega),e]
     rfl
    rw [e1]
    dsimp only
    rw [ih (m - 1) k.Z16 (l++[c]) (by omega) (by omega) (by simp only [List.length_append,List.length_cons,List.length_nil]; omega) (by omega),Zm6 hv e]
    simp
   ·have e1:Z9d w (c,l)=some (.done l):=by
     unfold Z9d
     rw [if_neg (by simpa using ht)]
    rw [e1,Zey (by omega)]
    simp
 have hf:=hv.few
 rw [this Z09 201 c [] (by omega) (by unfold Z09; omega) (by simp) (by omega)]
 rfl
end Go.Proofs
namespace Go.Proofs
open Go.Den Go.Tot
def Im {α:Type} (o:Option α) (P:α→Prop):Prop:=∀ r,o=some r→P r
namespace I
variable {α β:Type} {P:α→Prop} {Q:β→Prop}
theorem ok {x:α} (h:P x):Im (some x) P:=fun r e=>by cases e; exact h
theorem bd {o:Option α} {f:α→Option β} (h:Im o P) (k:∀ x,P x→Im (f x) Q):Im (o.bind f) Q:=fun r e=>by
 obtain ⟨x,e1,e2⟩:=Option.bind_eq_some_iff.1 e
 exact k x (h x e1) r e2
theorem sk {o:Option α} {f:α→Option β} (k:∀ x,o=some x→Im (f x) Q):Im (o.bind f) Q:=fun r e=>by
 obtain ⟨x,e1,e2⟩:=Option.bind_eq_some_iff.1 e
 exact k x e1 r e2
theorem br {b:Bool} {x y:Option α} (T:b=true→Im x P) (F:b=false→Im y P):Im (if b=true then x else y) P:=by
 cases b with
 | true=>exact T rfl
 | false=>exact F rfl
theorem mono {P':α→Prop} {o:Option α} (h:Im o P) (k:∀ x,P x→P' x):Im o P':=fun r e=>k r (h r e)
def Ct {T R:Type} (I:T→Prop) (Q:R→Prop):Ctl T R→Prop
 | .next t=>I t
 | .done r=>Q r
theorem nx {T R:Type} {I:T→Prop} {Q:R→Prop} {t:T} (h:I t):Im (some (Ctl.next t:Ctl T R)) (Ct I Q):=ok h
theorem dn {T R:Type} {I:T→Prop} {Q:R→Prop} {r:R} (h:Q r):Im (some (Ctl.done r:Ctl T R)) (Ct I Q):=ok h
theorem lp {T R:Type} {f:T→Option (Ctl T R)} (I:T→Prop) {Q:R→Prop} (h:∀ t,I t→Im (f t) (Ct I Q)):∀ {n:Nat} {t:T},I t→Im (Z07 f n t) Q
 | 0,t,_,r,e=>by cases e
 | n + 1,t,ht,r,e=>by
  unfold Z07 at e
  have:=h t ht
  split at e
  ·rename_i s' hs
   exact lp I h (this _ hs) r e
  ·rename_i r' hs
   cases e
   exact this _ hs
  ·cases e
end I
theorem Zau {α:Type} {l:List α} {i:Int} {v:α} (h:Z05 l i=some v):v∈l∧0≤i∧l[i.toNat]?=some v:=by
 unfold Z05 at h
 split at h
 ·exact ⟨List.mem_of_getElem? h,by assumption,h⟩
 ·cases h
def Sb (P Q:List Z00):Prop:=P <+: Q
theorem Sb.refl (P:List Z00):Sb P P:=List.prefix_refl P
theorem Sb.trans {P Q R:List Z00} (h:Sb P Q) (k:Sb Q R):Sb P R:=List.IsPrefix.trans h k
def At1 (s:List UInt8) (P:List Z00) (i:Int):Prop:=P.length≤1000→∃ c,1≤i∧P[i.toNat - 1]?=some c∧c.Z1p=1∧c.f_S=s
theorem At1.mono {s:List UInt8} {P Q:List Z00} {i:Int} (h:At1 s P i) (k:Sb P Q):At1 s Q i:=fun hq=>by
 obtain ⟨r,rfl⟩:=k
 obtain ⟨c,h1,h2,h3⟩:=h (by rw [List.length_append] at hq; omega)
 exact ⟨c,h1,by rw [List.getElem?_append_left (List.getElem?_eq_some_iff.1 h2).1]; exact h2,h3⟩
theorem Zbf (P:List Z00) (c:Z00):Im (Z5w P c) (fun r=>Sb P r.1∧(r.2.2=0→r.1.length≤1000→1≤r.2.1∧r.1[r.2.1.toNat - 1]?=some c)):=by
 unfold Z5w
 refine I.bd (I.lp (fun _=>True) (Q:=fun q=>match q with|.inl _=>True|.inr r=>Sb P r.1∧(r.1.length≤1000→1≤r.2.1∧r.1[r.2.1.toNat - 1]?=some c)) (fun t _=>?_) trivial) fun q hq=>?_
 ·unfold Zf2
  refine I.br (fun _=>I.sk fun v e=>I.br (fun h=>I.sk fun k hk=>I.dn ⟨Sb.refl _,fun hl=>?_⟩) fun _=>I.sk fun _ _=>I.nx trivial) fun _=>I.dn trivial
  have:v=c:=by
   unfold Zl1 at h
   simp only [Bool.and_eq_true,beq_iff_eq,and_true] at h
   obtain ⟨a1,a2,a3,a4,a5⟩:=h
   cases v; cases c; simp_all
  subst this
  obtain ⟨_,h0,hx⟩:=Zau e
  have hlt:=(List.getElem?_eq_some_iff.1 hx).1
  dsimp only at hl
  rw [Z68 (n:=t+1) (by omega) (by omega)] at hk
  cases hk
  exact ⟨by dsimp only; omega,by dsimp only; rw [show (t+1).toNat - 1=t.toNat by omega]; exact hx⟩
 ·cases q with
  | inr r=>exact I.ok ⟨hq.1,fun _=>hq.2⟩
  | inl _=>
   refine I.br (fun _=>I.ok ⟨Sb.refl _,fun h=>by cases h⟩) fun hlt=>I.sk fun k hk=>I.sk fun _ _=>I.sk fun _ _=>I.ok ⟨⟨[c],by simp⟩,fun _ hl=>?_⟩
   have:=of_decide_eq_false hlt
   rw [Z68 (n:=(P.length:Int)+1) (by omega) (by omega)] at hk
   cases hk
   exact ⟨by dsimp only; omega,by dsimp only; rw [show ((P.length:Int)+1).toNat - 1=P.length by omega]; simp⟩
theorem Zdw (P:List Z00) (s:List UInt8):Im (Z6f P s) (fun r=>Sb P r.1∧(r.2.2=0→At1 s r.1 r.2.1)):=by
 unfold Z6f
 exact I.bd (Zbf _ _) fun v h=>I.ok ⟨h.1,fun e hl=>⟨_,(h.2 e hl).1,(h.2 e hl).2,rfl,rfl⟩⟩
theorem i_Add' (P:List Z00) (c:Z00):Im (Z5w P c) (fun r=>Sb P r.1):=I.mono (Zbf P c) fun _ h=>h.1
theorem i_UTF8' (P:List Z00) (s:List UInt8):Im (Z6f P s) (fun r=>Sb P r.1):=I.mono (Zdw P s) fun _ h=>h.1
theorem Zro (P:List Z00) (t:Int) (s:List UInt8):Im (Zac P t s) (fun r=>Sb P r.1):=by
 unfold Zac
 exact I.bd (Zdw _ _) fun v h=>I.br (fun _=>I.ok (Sb.refl _)) fun _=>I.bd (Zbf _ _) fun v' h'=>I.br (fun _=>I.ok (Sb.refl _)) fun _=>I.ok (h.1.trans h'.1)
theorem Zl8 (P:List Z00) (s:List UInt8):Im (Z8c P s) (fun r=>Sb P r.1):=by
 unfold Z8c
 exact I.bd (Zro _ _ _) fun v h=>I.ok h
theorem Zww (P:List Z00) (s:List UInt8):Im (Z9v P s) (fun r=>Sb P r.1):=by
 unfold Z9v
 exact I.bd (Zro _ _ _) fun v h=>I.ok h
theorem Y1p (P:List Z00) (t:Int) (x:Z22):Im (Z92 P t x) (fun r=>Sb P r.1):=by
 unfold Z92
 exact I.bd (Zl8 _ _) fun v h=>I.br (fun _=>I.ok (Sb.refl _)) fun _=>I.bd (Zdw _ _) fun v1 h1=>I.br (fun _=>I.ok (Sb.refl _)) fun _=>I.bd (Zdw _ _) fun v2 h2=>I.br (fun _=>I.ok (Sb.refl _)) fun _=>
  I.bd (Zbf _ _) fun v3 h3=>I.br (fun _=>I.ok (Sb.refl _)) fun _=>I.bd (Zbf _ _) fun v4 h4=>I.br (fun _=>I.ok (Sb.refl _)) fun _=>I.ok ((((h.trans h1.1).trans h2.1).trans h3.1).trans h4.1)
theorem i_place (P:List Z00) (x:Z01):Im (Zaq P x) (fun r=>Sb P r.1):=by
 unfold Zaq Zdy Zkv Zeb Zke
 repeat' first
  | refine I.br (fun _=>?_) fun _=>?_
  | refine I.bd (Y1p _ _ _) fun _ _=>?_
  | refine I.bd (Zww _ _) fun _ _=>?_
  | refine I.bd (Zl8 _ _) fun _ _=>?_
  | refine I.bd (i_UTF8' _ _) fun _ _=>?_
  | refine I.bd (i_Add' _ _) fun _ _=>?_
  | refine I.sk fun _ _=>?_
  | refine I.ok ?_
  | assumption
  | exact Sb.refl _
theorem i_raw (P:List Z00) (x:Z01):Im (Zb5 P x) (fun r=>Sb P r.1):=by
 unfold Zb5 Zew Zar
 repeat' first
  | refine I.br (fun _=>?_) fun _=>?_
  | refine I.bd (i_place _ _) fun _ _=>?_
  | refine I.sk fun _ _=>?_
  | refine I.ok ?_
  | assumption
  | exact Sb.refl _
def Gr (p:Z0i) (P:List Z00) (E:Int):Prop:=(E=0→p.f_E=0)∧Sb p.f_P P
theorem Gr.refl (p:Z0i):Gr p p.f_P p.f_E:=⟨fun h=>h,Sb.refl _⟩
theorem Gr.trans {p:Z0i} {P Q:List Z00} {E F:Int} (h:Gr p P E) (k:Gr { f_P:=P,f_E:=E } Q F):Gr p Q F:=⟨fun e=>h.1 (k.1 e),h.2.trans k.2⟩
theorem Z6t (p:Z0i) (s:List UInt8):Im (Z4x p s) (fun r=>Gr p r.1.f_P r.1.f_E∧(r.1.f_E=0→At1 s r.1.f_P r.2)):=by
 unfold Z4x
 exact I.br (fun h=>I.ok ⟨Gr.refl p,fun e=>absurd e (by simpa using h)⟩) fun h=>I.bd (Zdw _ _) fun v hv=>I.ok ⟨⟨fun _=>by simpa using h,hv.1⟩,hv.2⟩
theorem Ztx (p:Z0i) (s:List UInt8):Im (Z76 p s) (fun r=>Gr p r.1.f_P r.1.f_E):=by
 unfold Z76
 exact I.br (fun h=>I.ok (Gr.refl p)) fun h=>I.bd (Zl8 _ _) fun v hv=>I.ok ⟨fun _=>by simpa using h,hv⟩
theorem i_insn (p:Z0i) (x:Z01):Im (Zba p x) (fun r=>Gr p r.1.f_P r.1.f_E):=by
 unfold Zba
 exact I.br (fun h=>I.ok (Gr.refl p)) fun h=>I.bd (i_raw _ _) fun v hv=>I.ok ⟨fun _=>by simpa using h,hv⟩
theorem i_vts (p:Z0i) (l:List Z0h):Im (Zad p l) (fun r=>Gr p r.1.f_P r.1.f_E):=by
 unfold Zad
 refine I.bd (I.lp (fun t=>Gr p t.2.1 t.2.2.1) (Q:=fun q=>Gr p q.1 q.2.1) (fun t ht=>?_) (Gr.refl p)) fun q hq=>I.ok hq
 have h1:t.2.2.1=0→∀ v,Im (Z9o t v) (I.Ct (fun t=>Gr p t.2.1 t.2.2.1) fun q=>Gr p q.1 q.2.1):=fun h0 v=>by
  unfold Z9o Z7b
  exact I.sk fun _ _=>I.bd (Z6t _ _) fun w hw=>I.sk fun _ _=>I.sk fun _ _=>I.nx ⟨fun _=>ht.1 h0,ht.2.trans hw.1.2⟩
 have h2:∀ v a b c d,Im (Z7b t v t.2.1 t.2.2.1 a b c d) (I.Ct (fun t=>Gr p t.2.1 t.2.2.1) fun q=>Gr p q.1 q.2.1):=fun v a b c d=>by
  unfold Z7b
  exact I.sk fun _ _=>I.sk fun _ _=>I.nx ht
 unfold Zd8
 repeat' first
  | refine I.br (fun _=>?_) fun _=>?_
  | exact h2 _ _ _ _ _
  | exact h1 (by simpa using ‹(t.2.2.1==0)=true›) _
  | exact I.dn ht
  | refine I.sk fun _ _=>?_
theorem i_code (p:Z0i) (c:Z0a) (hc:c.Z0j.length≤140737488355328):Im (Zb3 p c) (fun r=>Gr p r.1.f_P r.1.f_E∧r.2.Z0u=c.Z0u∧r.2.Z0j.length=c.Z0j.length∧r.2.Z0z=c.Z0z):=by
 unfold Zb3
 refine I.bd (I.lp (fun t:Int×(List Z00)×Int×(List Z01)=>Gr p t.2.1 t.2.2.1∧0≤t.1∧t.1≤(c.Z0j.length:Int)∧(t.2.2.2.length:Int)=t.1) (Q:=fun q=>Gr p q.1 q.2.1∧q.2.2.length=c.Z0j.length) (fun t ht=>?_) ⟨Gr.refl p,by dsimp only; omega,by dsimp only; omega,rfl⟩) fun q0 h0=>I.bd (I.lp (fun t=>Gr p t.2.1 t.2.2.1) (Q:=fun q=>Gr p q.1 q.2.1) (fun t ht=>?_) h0.1) fun q2 h2=>
  I.bd (I.lp (fun t=>Gr p t.2.1 t.2.2.1) (Q:=fun q=>Gr p q.1 q.2.1) (fun t ht=>?_) h2) fun q4 h4=>I.ok ⟨h4,rfl,h0.2,rfl⟩
 ·unfold Zfl
  refine I.br (fun hlt=>I.sk fun _ _=>I.bd (i_insn _ _) fun v hv=>I.sk fun _ _=>I.sk fun k hk=>?_) fun hge=>I.dn ⟨ht.1,by have:=of_decide_eq_false hge; have:=ht.2; dsimp only; omega⟩
  have:=of_decide_eq_true hlt
  rw [Z68 (n:=t.1+1) (by omega) (by omega)] at hk
  cases hk
  exact I.nx ⟨ht.1.trans hv,by dsimp only; omega,by dsimp only; omega,by have:=ht.2.2.2; simp only [List.length_append,List.length_cons,List.length_nil]; omega⟩
 ·unfold Zfv Zfn
  exact I.br (fun _=>I.sk fun _ _=>I.br (fun _=>I.bd (Ztx _ _) fun v hv=>I.sk fun _ _=>I.sk fun _ _=>I.nx (ht.trans hv)) fun _=>I.sk fun _ _=>I.sk fun _ _=>I.nx ht) fun _=>I.dn ht
 ·unfold Zel
  exact I.br (fun _=>I.sk fun _ _=>I.sk fun _ _=>I.bd (i_vts _ _) fun v hv=>I.bd (i_vts _ _) fun w hw=>I.sk fun _ _=>I.sk fun _ _=>I.nx ((ht.trans hv).trans hw)) fun _=>I.dn ht
structure MM (m:Z2n) (P:List Z00) (f:Z0d) (c:Z0a) (a:Z1q):Prop where
 fl:f.Z0r=m.Z0r
 ds:At1 m.Z1o P f.Z1o
 cd:m.Z8u=true→At1 [67,111,100,101] P a.a0∧c.Z0u=m.Z27.Z0u∧c.Z0j.length=m.Z27.Z0j.length∧c.Z0z=m.Z27.Z0z
theorem MM.mono {m:Z2n} {P Q:List Z00} {f:Z0d} {c:Z0a} {a:Z1q} (h:MM m P f c a) (k:Sb P Q):MM m Q f c a:=⟨h.fl,h.ds.mono k,fun hc=>⟨(h.cd hc).1.mono k,(h.cd hc).2⟩⟩
structure Ms (u:Z0m) (n:Int) (P:List Z00) (E:Int) (fm:List Z0d) (cs:List Z0a) (ns:List Z1q):Prop where
 lenF:(fm.length:Int)=n
 len:(cs.length:Int)=n
 lenN:(ns.length:Int)=n
 ok:E=0→∀ (j:Nat) m,(j:Int)<n→u.Z10[j]?=some m→∃ f c a,fm[j]?=some f∧cs[j]?=some c∧ns[j]?=some a∧MM m P f c a
theorem Ms.grow {u:Z0m} {n:Int} {P Q:List Z00} {E F:Int} {fm cs ns} (h:Ms u n P E fm cs ns) (k:Gr { f_P:=P,f_E:=E } Q F):Ms u n Q F fm cs ns:=
 ⟨h.lenF,h.len,h.lenN,fun e j m hj hm=>by
  obtain ⟨f,c,a,h1,h2,h3,h4⟩:=h.ok (k.1 e) j m hj hm
  exact ⟨f,c,a,h1,h2,h3,h4.mono k.2⟩⟩
abbrev MT:=Int×(List Z00)×Int×(List Z0d)×(List Z0a)×(List (List Int))×(List Z1q)
abbrev MR:=(List Z00)×Int×(List Z0d)×(List Z0a)×(List (List Int))×(List Z1q)
structure MI (p:Z0i) (u:Z0m) (t:MT):Prop where
 g:Gr p t.2.1 t.2.2.1
 m:Ms u t.1 t.2.1 t.2.2.1 t.2.2.2.1 t.2.2.2.2.1 t.2.2.2.2.2.2
 n:t.1≤u.Z10.length
structure MQ (p:Z0i) (u:Z0m) (q:MR):Prop where
 g:Gr p q.1 q.2.1
 m:Ms u u.Z10.length q.1 q.2.1 q.2.2.1 q.2.2.2.1 q.2.2.2.2.2
theorem Ms.nil (u:Z0m) (P:List Z00) (E:Int):Ms u 0 P E [] [] [] :=⟨rfl,rfl,rfl,fun _ j m hj=>by omega⟩
theorem Ms.snoc {u:Z0m} {n:Int} {P:List Z00} {E:Int} {fm cs ns} (h:Ms u n P E fm cs ns) {m:Z2n} {f:Z0d} {c:Z0a} {a:Z1q} (hm:u.Z10[n.toNat]?=some m) (hd:E=0→MM m P f c a):Ms u (n+1) P E (fm++[f]) (cs++[c]) (ns++[a]):=by
 have h1:=h.lenF
 have h2:=h.len
 have h3:=h.lenN
 refine ⟨by simp only [List.length_append,List.length_cons,List.length_nil]; omega,by simp only [List.length_append,List.length_cons,List.length_nil]; omega,by simp only [List.length_append,List.length_cons,List.length_nil]; omega,fun e j m' hj hm'=>?_⟩
 rcases Int.lt_or_le (j:Int) n with h'|h'
 ·obtain ⟨f',c',a',e1,e2,e3,e4⟩:=h.ok e j m' h' hm'
  exact ⟨f',c',a',by rw [List.getElem?_append_left (by omega)]; exact e1,by rw [List.getElem?_append_left (by omega)]; exact e2,by rw [List.getElem?_append_left (by omega)]; exact e3,e4⟩
 ·have:j=n.toNat:=by omega
  subst this
  rw [hm] at hm'; cases hm'
  exact ⟨f,c,a,by rw [List.getElem?_append_right (by omega),show n.toNat - fm.length=0 by omega]; rfl,by rw [List.getElem?_append_right (by omega),show n.toNat - cs.length=0 by omega]; rfl,by rw [List.getElem?_append_right (by omega),show n.toNat - ns.length=0 by omega]; rfl,hd e⟩
def MB (u:Z0m):Prop:=u.Z10.length≤140737488355328∧∀ m∈u.Z10,m.Z27.Z0j.length≤140737488355328
theorem Zx5 {p:Z0i} {u:Z0m} {t:MT} (hu:u.Z10.length≤140737488355328) (hI:MI p u t) {m:Z2n} (hlt:t.1<u.Z10.length) (hm:u.Z10[t.1.toNat]?=some m) {v35 v36:Z0i×Int}
  (g:Gr { f_P:=t.2.1,f_E:=t.2.2.1 } v36.1.f_P v36.1.f_E) {P:List Z00} {E y:Int} (hg:Gr v36.1 P E) {a b c:Int} {i h s l} (hc:E=0→∀ y,MM m P { Z0r:=m.Z0r,Z0f:=v35.2,Z1o:=v36.2,Z1g:=[] } { Z0z:=b,Z0u:=c,Z0j:=i,Z1w:=h,Z1f:=s,Z1r:=l } { a0:=a,a1:=y }):
  Im (Z9w a b c i h s l t m v35 v36 P E y) (I.Ct (MI p u) (MQ p u)):=by
 unfold Z9w
 refine I.bd (I.lp (fun t=>Gr { f_P:=P,f_E:=E } t.2.1 t.2.2.1) (Q:=fun q=>Gr { f_P:=P,f_E:=E } q.1 q.2.1) (fun t ht=>?_) (Gr.refl _)) fun q hq=>I.sk fun _ _=>I.sk fun _ _=>I.sk fun _ _=>I.sk fun _ _=>?_
 ·unfold Zfc
  exact I.br (fun _=>I.sk fun _ _=>I.bd (Ztx _ _) fun v hv=>I.sk fun _ _=>I.sk fun _ _=>I.nx (ht.trans hv)) fun _=>I.dn ht
 ·have hl:=hI.m.lenF
  rw [Z68 (n:=t.1+1) (by omega) (by omega)]
  refine I.sk fun k hk=>?_
  cases hk
  have g2:=(g.trans hg).trans hq
  refine I.nx ⟨hI.g.trans g2,(hI.m.grow g2).snoc hm (fun e=>(hc (hq.1 e) y).mono hq.2),by dsimp only; omega⟩
theorem Zwl {p:Z0i} {u:Z0m} {t:MT} (hu:u.Z10.length≤140737488355328) (hI:MI p u t) {m:Z2n} (hlt:t.1<u.Z10.length) (hm:u.Z10[t.1.toNat]?=some m) {v35 v36:Z0i×Int}
  (g:Gr { f_P:=t.2.1,f_E:=t.2.2.1 } v36.1.f_P v36.1.f_E) {P:List Z00} {E:Int} (hg:Gr v36.1 P E) {a b c:Int} {i h s l} (hc:E=0→∀ y,MM m P { Z0r:=m.Z0r,Z0f:=v35.2,Z1o:=v36.2,Z1g:=[] } { Z0z:=b,Z0u:=c,Z0j:=i,Z1w:=h,Z1f:=s,Z1r:=l } { a0:=a,a1:=y }):
  Im (Zam t m v35 v36 P E a b c i h s l) (I.Ct (MI p u) (MQ p u)):=by
 unfold Zam
 exact I.br (fun _=>I.bd (Z6t _ _) fun v hv=>Zx5 hu hI hlt hm g (hg.trans hv.1) fun e y=>(hc (hv.1.1 e) y).mono hv.1.2) fun _=>Zx5 hu hI hlt hm g hg hc
theorem Y3e (p:Z0i) (u:Z0m) (hu:MB u) (x:Z28):Im (Z99 p u x) (fun r=>Gr p r.1.f_P r.1.f_E∧Ms u u.Z10.length r.1.f_P r.1.f_E r.2.f_F.Z10 r.2.Zaj r.2.Z7k):=by
 unfold Z99
 have h0:MI p u (0,p.f_P,p.f_E,[],[],[],[]):=⟨Gr.refl p,Ms.nil u _ _,by dsimp only; omega⟩
 refine I.bd (I.lp (MI p u) (Q:=MQ p u) (fun t ht=>?_) h0) fun q hq=>I.ok ⟨hq.g,hq.m⟩
 have hn:=ht.n
 have hl:=ht.m.lenF
 unfold Zdc
 refine I.br (fun hlt=>I.sk fun m e=>I.bd (Z6t _ _) fun v35 h35=>I.bd (Z6t _ _) fun v36 h36=>?_) fun hge=>I.dn ?_
 ·have hlt':=of_decide_eq_true hlt
  obtain ⟨hin,_,hm⟩:=Zau e
  have g2:=h35.1.trans h36.1
  refine I.br (fun hh=>I.bd (Z6t _ _) fun v37 h37=>I.bd (i_code _ _ (hu.2 m hin)) fun v38 h38=>Zwl hu.1 ht hlt' hm g2 (h37.1.trans h38.1) fun E0 y=>⟨rfl,?_,fun _=>⟨?_,h38.2⟩⟩) fun hh=>Zwl hu.1 ht hlt' hm g2 (Gr.refl _) fun E0 y=>⟨rfl,h36.2 E0,fun h=>by rw [hh] at h; cases h⟩
  ·exact (h36.2 ((h37.1.trans h38.1).1 E0)).mono (h37.1.trans h38.1).2
  ·exact (h37.2 (h38.1.1 E0)).mono h38.1.2
 ·have:t.1=u.Z10.length:=by have:=of_decide_eq_false hge; omega
  exact ⟨ht.g,this ▸ ht.m⟩
end Go.Proofs
namespace Go.Proofs
open Go.Den Go.Tot
theorem ne0 {n:Int} (h:(n !=0)=true):n≠0:=by simpa using h
theorem eq0 {n:Int} (h:(n !=0)=false):n=0:=by simpa using h
end Go.Proofs
namespace Go.Proofs
open Go.Den Go.Tot
def Short (P:List Z00):Prop:=∀ c∈P,c.Z1p=1→c.f_S.length≤1024
theorem Y2i (P:List Z00) (c:Z00):Im (Zcb P c) (fun e=>e=0→c.Z1p=1→c.f_S.length≤1024):=by
 unfold Zcb
 refine I.sk fun _ _=>I.br (fun _=>I.ok fun h=>by cases h) fun _=>I.sk fun _ _=>I.br (fun _=>I.ok fun h=>by cases h) fun _=>I.br (fun _=>I.br (fun _=>I.ok fun h=>by cases h) fun h=>fun r _ _ _=>by have:=of_decide_eq_false h; omega) fun h r _ _ h'=>by simp [h'] at h
theorem Y14 (P:List Z00):Im (Za4 P) (fun r=>r.2=0→P.length≤1000∧Short P):=by
 unfold Za4
 refine I.br (fun _=>I.ok fun h=>by cases h) fun hl=>I.bd (I.lp (fun t=>0≤t∧∀ (j:Nat) c,(j:Int)<t→P[j]?=some c→c.Z1p=1→c.f_S.length≤1024) (Q:=fun q=>match q with|.inl _=>Short P|.inr r=>r.2≠0) (fun t ht=>?_) ⟨by omega,fun j c hj=>by omega⟩) fun q hq=>?_
 ·have hl':=of_decide_eq_false hl
  unfold Zin
  refine I.br (fun hlt=>I.sk fun c e=>I.bd (Y2i P c) fun v hv=>I.br (fun h=>I.sk fun _ _=>I.dn (ne0 h)) fun h=>?_) fun hge=>I.dn ?_
  ·have hlt':=of_decide_eq_true hlt
   obtain ⟨_,h0,hc⟩:=Zau e
   rw [Z68 (n:=t+1) (by omega) (by omega)]
   refine I.sk fun k hk=>?_
   cases hk
   refine I.nx ⟨by omega,fun j c' hj hc'=>?_⟩
   rcases Int.lt_or_le (j:Int) t with h'|h'
   ·exact ht.2 j c' h' hc'
   ·have:j=t.toNat:=by omega
    subst this
    rw [hc] at hc'; cases hc'
    exact hv (eq0 h)
  ·have:=of_decide_eq_false hge
   intro c hc
   obtain ⟨j,hj⟩:=List.getElem?_of_mem hc
   have:j<P.length:=(List.getElem?_eq_some_iff.1 hj).1
   exact ht.2 j c (by omega) hj
 ·cases q with
  | inl _=>exact I.ok fun _=>⟨by have:=of_decide_eq_false hl; omega,hq⟩
  | inr r=>exact I.ok fun h=>absurd h hq
theorem utf_at {P:List Z00} (hP:P.length≤1000) {s:List UInt8} {i:Int} (h:At1 s P i):Z37 P i=some (s,0):=by
 obtain ⟨c,h1,h2,h3,h4⟩:=h hP
 have hlt:=(List.getElem?_eq_some_iff.1 h2).1
 unfold Z37 Z8j Z6s
 rw [if_neg (by simp; omega),if_neg (by simp; omega),Z68 (by omega) (by omega)]
 have:Z05 P (i - 1)=some c:=by unfold Z05; rw [if_pos (by omega),show (i - 1).toNat=i.toNat - 1 by omega]; exact h2
 simp only [Option.bind_some,this]
 simp [h3,h4]
end Go.Proofs
namespace Go.Proofs
open Go.Den Go.Tot
theorem i_cls (w:Z0c) (i:Int) {Q:Z0m→Prop} (hw:∀ c∈w.Z0o,Im (Z9t c.Z13) fun e=>e=0→Q c.Z13):Im (Zax w i) (fun b=>b=true→∀ c,Z05 w.Z0o i=some c→Q c.Z13):=by
 unfold Zax
 have hf:∀ Q:Prop,Im (some false) (fun b=>b=true→Q):=fun Q=>I.ok fun h=>by cases h
 exact I.sk fun c e=>I.br (fun _=>hf _) fun _=>I.br (fun _=>hf _) fun _=>I.bd (hw c (Zau e).1) fun v hv=>I.br (fun _=>hf _) fun h=>fun r _ _ c' hc'=>by
  rw [e] at hc'; cases hc'
  exact hv (eq0 h)
theorem Y3o (w:Z0c) (hl:w.Z0o.length≤140737488355328) {Q:Z0m→Prop} (hw:∀ c∈w.Z0o,Im (Z9t c.Z13) fun e=>e=0→Q c.Z13):Im (Z8d w) (fun b=>b=true→∀ c∈w.Z0o,Q c.Z13):=by
 have hf:Im (some false) (fun b=>b=true→∀ c∈w.Z0o,Q c.Z13):=I.ok fun h=>by cases h
 have hj : Im (j9x1 w) (fun b=>b=true→∀ c∈w.Z0o,Q c.Z13):=by
  unfold j9x1
  refine I.bd (I.lp (fun _=>True) (Q:=fun q=>match q with|.inl _=>True|.inr y=>y=false) (fun t _=>?_) trivial) fun q1 h1=>?_
  ·unfold l9x1
   exact I.br (fun _=>I.sk fun _ _=>I.br (fun _=>I.dn rfl) fun _=>I.br (fun _=>I.dn rfl) fun _=>I.br (fun _=>I.dn rfl) fun _=>I.br (fun _=>I.dn rfl) fun _=>I.sk fun _ _=>I.br (fun _=>I.dn rfl) fun _=>I.sk fun _ _=>I.nx trivial) fun _=>I.dn trivial
  cases q1 with
  | inr y=>exact I.ok fun h=>by cases h1.symm.trans h
  | inl _=>
  refine I.bd (I.lp (fun _=>True) (Q:=fun q=>match q with|.inl _=>True|.inr y=>y=false) (fun t _=>?_) trivial) fun q2 h2=>?_
  ·unfold l9x2
   exact I.br (fun _=>I.sk fun _ _=>I.br (fun _=>I.dn rfl) fun _=>I.sk fun _ _=>I.br (fun _=>I.dn rfl) fun _=>I.sk fun _ _=>I.nx trivial) fun _=>I.dn trivial
  cases q2 with
  | inr y=>exact I.ok fun h=>by cases h2.symm.trans h
  | inl _=>
  refine I.bd (I.lp (fun t=>0≤t∧∀ (j:Nat) c,(j:Int)<t→w.Z0o[j]?=some c→Q c.Z13) (Q:=fun q=>match q with|.inl _=>∀ c∈w.Z0o,Q c.Z13|.inr y=>y=false) (fun t ht=>?_) ⟨by omega,fun j c hj=>by omega⟩) fun q3 h3=>?_
  ·unfold l9x3
   refine I.br (fun hlt=>I.bd (i_cls w t hw) fun v hv=>I.br (fun _=>I.dn rfl) fun h=>?_) fun hge=>I.dn ?_
   ·have hlt':=of_decide_eq_true hlt
    rw [Z68 (n:=t+1) (by omega) (by omega)]
    refine I.sk fun k hk=>?_
    cases hk
    refine I.nx ⟨by omega,fun j c hj hc=>?_⟩
    rcases Int.lt_or_le (j:Int) t with h'|h'
    ·exact ht.2 j c h' hc
    ·have:j=t.toNat:=by omega
     subst this
     exact hv (by simpa using h) c (by unfold Z05; rw [if_pos ht.1]; exact hc)
   ·have:=of_decide_eq_false hge
    intro c hc
    obtain ⟨j,hj⟩:=List.getElem?_of_mem hc
    have:j<w.Z0o.length:=(List.getElem?_eq_some_iff.1 hj).1
    exact ht.2 j c (by omega) hj
  cases q3 with
  | inr y=>exact I.ok fun h=>by cases h3.symm.trans h
  | inl _=>exact I.ok fun _=>h3
 unfold Z8d
 exact I.sk fun _ _=>I.br (fun _=>hf) fun _=>I.br (fun _=>hf) fun _=>I.br (fun _=>hf) fun _=>hj
end Go.Proofs
namespace Go.Proofs
open Go.Den Go.Tot
theorem Y42 {n:Int} (h0:0≤n) (h1:n≤1000) {b:List UInt8} (h:Z8x n=some b):Z78 b 0 2=some (n,0):=by
 have key:((List.range 1001).all fun k=>((Z8x (k:Int)).bind fun b=>Z78 b 0 2)==some ((k:Int),0))=true:=by kernel_rfl
 have:=List.all_eq_true.1 key n.toNat (by rw [List.mem_range]; omega)
 rw [Int.toNat_of_nonneg h0,h] at this
 simpa using this
def AtC (f:Z1b) (P:List Z00) (i:Int):Prop:=P.length≤1000→1≤i∧i≤1000∧∃ c,P[i.toNat - 1]?=some c∧c.Z1p=f.Z3g
theorem AtC.mono {f:Z1b} {P Q:List Z00} {i:Int} (h:AtC f P i) (k:Sb P Q):AtC f Q i:=fun hq=>by
 obtain ⟨r,rfl⟩:=k
 obtain ⟨h1,h2,c,h3,h4⟩:=h (by rw [List.length_append] at hq; omega)
 exact ⟨h1,h2,c,by rw [List.getElem?_append_left (List.getElem?_eq_some_iff.1 h3).1]; exact h3,h4⟩
theorem Zzv (p:Z0i) (f:Z1b):Im (Zc3 p f) (fun r=>Gr p r.1.f_P r.1.f_E∧(r.1.f_E=0→f.Z3g≠8→AtC f r.1.f_P r.2)):=by
 unfold Zc3 Zdv
 refine I.br (fun h=>I.ok ⟨Gr.refl p,fun e=>absurd e (by simpa using h)⟩) fun h=>I.br (fun h8=>I.bd (Zww _ _) fun v hv=>I.ok ⟨⟨fun _=>by simpa using h,hv⟩,fun _ hne=>absurd (by simpa using h8) hne⟩) fun _=>I.bd (Zbf _ _) fun v hv=>I.ok ⟨⟨fun _=>by simpa using h,hv.1⟩,fun e _ hl=>?_⟩
 obtain ⟨h1,h2⟩:=hv.2 e hl
 have hlt:=(List.getElem?_eq_some_iff.1 h2).1
 dsimp only at hl ⊢
 exact ⟨h1,by omega,_,h2,rfl⟩
structure FM (f:Z1b) (P:List Z00) (g:Z0d):Prop where
 ds:At1 f.Z1o P g.Z1o
 ct:f.Z3g≠0→f.Z3g≠8→∃ x i,g.Z1g=[x]∧Z8x i=some x.Z2g∧AtC f P i
theorem FM.mono {f:Z1b} {P Q:List Z00} {g:Z0d} (h:FM f P g) (k:Sb P Q):FM f Q g:=⟨h.ds.mono k,fun a b=>by
 obtain ⟨x,i,h1,h2,h3⟩:=h.ct a b
 exact ⟨x,i,h1,h2,h3.mono k⟩⟩
structure Fs (u:Z0m) (n:Int) (P:List Z00) (E:Int) (fm:List Z0d):Prop where
 len:(fm.length:Int)=n
 ok:E=0→∀ (j:Nat) f,(j:Int)<n→u.Z0g[j]?=some f→∃ g,fm[j]?=some g∧FM f P g
theorem Fs.grow {u:Z0m} {n:Int} {P Q:List Z00} {E F:Int} {fm} (h:Fs u n P E fm) (k:Gr { f_P:=P,f_E:=E } Q F):Fs u n Q F fm:=
 ⟨h.len,fun e j f hj hf=>by
  obtain ⟨g,h1,h2⟩:=h.ok (k.1 e) j f hj hf
  exact ⟨g,h1,h2.mono k.2⟩⟩
theorem Fs.snoc {u:Z0m} {n:Int} {P:List Z00} {E:Int} {fm} (h:Fs u n P E fm) (h0:0≤n) {f:Z1b} {g:Z0d} (hf:u.Z0g[n.toNat]?=some f) (hd:E=0→FM f P g):Fs u (n+1) P E (fm++[g]):=by
 have h1:=h.len
 refine ⟨by simp only [List.length_append,List.length_cons,List.length_nil]; omega,fun e j f' hj hf'=>?_⟩
 rcases Int.lt_or_le (j:Int) n with h'|h'
 ·obtain ⟨g',e1,e2⟩:=h.ok e j f' h' hf'
  exact ⟨g',by rw [List.getElem?_append_left (by omega)]; exact e1,e2⟩
 ·have:j=n.toNat:=by omega
  subst this
  rw [hf] at hf'; cases hf'
  exact ⟨g,by rw [List.getElem?_append_right (by omega),show n.toNat - fm.length=0 by omega]; rfl,hd e⟩
theorem i_halfF (p:Z0i) (u:Z0m) (hu:MB u) (hF:u.Z0g.length≤140737488355328):Im (Zcm p u) (fun r=>Fs u u.Z0g.length r.1.f_P r.1.f_E r.2.f_F.Z0g∧r.2.f_F.Z1v=r.1.f_P):=by
 have hmf:∀ p x,Im (Z99 p u x) (fun r=>Gr p r.1.f_P r.1.f_E∧r.2.f_F.Z0g=x.f_F.Z0g):=fun p x=>by
  have:=Y3e p u hu x
  intro r hr
  refine ⟨(this r hr).1,?_⟩
  unfold Z99 at hr
  obtain ⟨q,_,e⟩:=Option.bind_eq_some_iff.1 hr
  cases e
  rfl
 have hj : ∀ v a b c,Im (Z9r v u a b c) (fun r=>Fs u u.Z0g.length r.1.f_P r.1.f_E r.2.f_F.Z0g∧r.2.f_F.Z1v=r.1.f_P):=fun v a b c=>by
  unfold Z9r Zbu
  refine I.sk fun q0 _=>I.bd (I.lp (fun t:Int×(List Z00)×Int×(List Z0d)=>0≤t.1∧t.1≤(u.Z0g.length:Int)∧Fs u t.1 t.2.1 t.2.2.1 t.2.2.2) (Q:=fun q=>Fs u u.Z0g.length q.1 q.2.1 q.2.2) (fun t ht=>?_) ⟨by dsimp only; omega,by dsimp only; omega,rfl,fun _ j f hj=>by dsimp only at hj; omega⟩) fun q2 h2=>I.bd (hmf _ _) fun w hw=>?_
  ·obtain ⟨t0,t1,tf⟩:=ht
   unfold Zds
   refine I.br (fun hlt=>I.sk fun f e=>I.bd (Z6t _ _) fun v27 h27=>I.bd (Z6t _ _) fun v28 h28=>?_) fun hge=>I.dn ?_
   ·have hlt':=of_decide_eq_true hlt
    obtain ⟨_,_,hf⟩:=Zau e
    have g2:=h27.1.trans h28.1
    have nxt:∀ P E (l:List Z17),Gr v28.1 P E→(E=0→FM f P { Z0r:=f.Z0r,Z0f:=v27.2,Z1o:=v28.2,Z1g:=l })→Im (Z9s t f v27 v28 P E l) (I.Ct (fun t:Int×(List Z00)×Int×(List Z0d)=>0≤t.1∧t.1≤(u.Z0g.length:Int)∧Fs u t.1 t.2.1 t.2.2.1 t.2.2.2) fun q=>Fs u u.Z0g.length q.1 q.2.1 q.2.2):=fun P E l hg hd=>by
     unfold Z9s
     refine I.sk fun _ _=>I.sk fun k hk=>?_
     rw [Z68 (n:=t.1+1) (by omega) (by omega)] at hk
     cases hk
     exact I.nx ⟨by dsimp only; omega,by dsimp only; omega,(tf.grow (g2.trans hg)).snoc t0 hf hd⟩
    refine I.br (fun _=>I.bd (Z6t _ _) fun v29 h29=>I.bd (Zzv _ _) fun v30 h30=>I.sk fun v31 e31=>nxt _ _ _ (h29.1.trans h30.1) fun E0=>⟨(h28.2 ((h29.1.trans h30.1).1 E0)).mono (h29.1.trans h30.1).2,fun _ h8=>⟨_,v30.2,rfl,e31,h30.2 E0 h8⟩⟩) fun hc=>nxt _ _ [] (Gr.refl _) fun E0=>⟨h28.2 E0,fun h=>absurd (by simpa using hc) h⟩
   ·have:t.1=u.Z0g.length:=by have:=of_decide_eq_false hge; omega
    exact this ▸ tf
  ·have hw2:Fs u u.Z0g.length w.1.f_P w.1.f_E w.2.f_F.Z0g:=by
    rw [hw.2]
    exact h2.grow hw.1
   exact I.br (fun _=>I.bd (Z6t _ _) fun x hx=>I.bd (Z6t _ _) fun y hy=>I.sk fun _ _=>I.ok ⟨(hw2.grow hx.1).grow hy.1,rfl⟩) fun _=>I.ok ⟨hw2,rfl⟩
 unfold Zcm
 exact I.sk fun _ _=>I.br (fun _=>I.sk fun _ _=>hj _ _ _ _) fun _=>hj _ _ _ _
theorem i_suits (P:List Z00) (i:Int) (d:List UInt8):Im (Zbo P i d) (fun b=>b=true→∀ c,1≤i→i≤1000→P[i.toNat - 1]?=some c→(c.Z1p=3→d=[73])∧(c.Z1p=5→d=[74])):=by
 unfold Zbo
 refine I.sk fun v0 e0=>I.br (fun _=>I.ok fun h=>by cases h) fun hz=>?_
 have hat:∀ c,1≤i→i≤1000→P[i.toNat - 1]?=some c→v0.1=c:=fun c h1 h2 hc=>by
  have hlt:=(List.getElem?_eq_some_iff.1 hc).1
  unfold Z6s at e0
  rw [if_neg (by simp; omega),if_neg (by simp; omega),Z68 (by omega) (by omega)] at e0
  have:Z05 P (i - 1)=some c:=by unfold Z05; rw [if_pos (by omega),show (i - 1).toNat=i.toNat - 1 by omega]; exact hc
  simp only [Option.bind_some,this] at e0
  cases e0
  rfl
 intro r hr hrt c h1 h2 hc
 have hv:=hat c h1 h2 hc
 subst hrt
 rw [hv] at hr
 refine ⟨fun h3=>?_,fun h5=>?_⟩
 ·rw [h3] at hr
  by_cases hd:d=[73]
  ·exact hd
  ·exfalso
   have:(d==([73]:List UInt8))=false:=by simpa using hd
   simp [this] at hr
 ·rw [h5] at hr
  by_cases hd:d=[74]
  ·exact hd
  ·exfalso
   have:(d==([74]:List UInt8))=false:=by simpa using hd
   simp [this] at hr
theorem Y3n {P:List Z00} {g:Z0d} {d:List UInt8} {x:Z17} {i:Int} (hg:g.Z1g=[x]) (hi:Z8x i=some x.Z2g) (h1:1≤i) (h2:i≤1000) {c:Z00} (hc:P[i.toNat - 1]?=some c):Im (Z7z P g d) (fun b=>b=true→(c.Z1p=3→d=[73])∧(c.Z1p=5→d=[74])):=by
 unfold Z7z Zg8
 rw [hg]
 refine I.br (fun h=>by cases h) fun _=>I.sk fun v0 e0=>I.br (fun _=>I.ok fun h=>by cases h) fun _=>I.sk fun _ _=>I.br (fun _=>I.ok fun h=>by cases h) fun _=>I.sk fun _ _=>I.br (fun _=>I.ok fun h=>by cases h) fun _=>I.br (fun _=>I.ok fun h=>by cases h) fun _=>I.sk fun v3 e3=>I.bd (i_suits _ _ _) fun b hb=>I.ok fun hbt=>?_
 have:v0=x:=by
  have:=(Zau e0).2.2
  simpa using this.symm
 subst this
 rw [Y42 (by omega) h2 hi] at e3
 cases e3
 exact hb hbt c h1 h2 hc
theorem i_field (f:Z12) (j:Int):Im (Z7t f j) (fun e=>e=0→∀ g,Z05 f.Z0g j=some g→∃ s k t,Z37 f.Z1v g.Z1o=some (s,k)∧Z72 s=some (t,0)∧t.Z1z≠86∧Z7z f.Z1v g s=some true):=by
 unfold Z7t
 refine I.sk fun v0 e0=>I.sk fun _ _=>I.br (fun _=>I.ok fun h=>by cases h) fun _=>I.sk fun _ _=>I.br (fun _=>I.ok fun h=>by cases h) fun _=>I.sk fun _ _=>I.br (fun _=>I.ok fun h=>by cases h) fun _=>?_
 unfold Zgd
 refine I.sk fun v4 e4=>I.br (fun _=>I.ok fun h=>by cases h) fun _=>I.sk fun v5 e5=>I.br (fun _=>I.ok fun h=>by cases h) fun hz=>I.br (fun _=>I.ok fun h=>by cases h) fun hb=>?_
 have j3:∀ p,Im (Z9x v0 v4 f j p) (fun e=>e=0→Z7z f.Z1v v0 v4.1=some true):=fun p=>by
  unfold Z9x
  refine I.sk fun _ _=>I.br (fun _=>I.ok fun h=>by cases h) fun _=>I.sk fun _ _=>I.br (fun _=>I.ok fun h=>by cases h) fun _=>I.sk fun v9 e9=>I.br (fun _=>I.ok fun h=>by cases h) fun h9=>I.ok fun _=>?_
  rw [e9]
  simpa using h9
 have j2:Im (Zej v0 v4 f j) (fun e=>e=0→Z7z f.Z1v v0 v4.1=some true):=by
  unfold Zej
  exact I.sk fun _ _=>I.br (fun _=>j3 _) fun _=>j3 _
 refine I.mono j2 fun e he h0 g hg=>?_
 rw [e0] at hg
 cases hg
 exact ⟨v4.1,v4.2,v5.1,e4,by rw [e5]; obtain ⟨a,b⟩:=v5; have:b=0:=eq0 hz; subst this; rfl,by simpa using hb,he h0⟩
theorem Y1e (f:Z12) (hf:f.Z0g.length≤140737488355328):Im (Zbe f) (fun r=>r.2=0→f.Z1v.length≤1000∧Short f.Z1v∧∀ j:Int,0≤j→j<f.Z0g.length→Z7t f j=some 0):=by
 unfold Zbe
 refine I.bd (Y14 _) fun v hv=>I.br (fun h=>I.ok fun e=>absurd e (ne0 h)) fun h=>I.sk fun _ _=>I.br (fun h=>I.ok fun e=>absurd e (ne0 h)) fun _=>I.bd (I.lp (fun _=>True) (Q:=fun q=>match q with|.inl _=>True|.inr y=>y.2≠0) (fun t _=>?_) trivial) fun q1 h1=>?_
 ·unfold Zjk
  exact I.br (fun _=>I.sk fun _ _=>I.br (fun h=>I.sk fun _ _=>I.dn (ne0 h)) fun _=>I.sk fun _ _=>I.nx trivial) fun _=>I.dn trivial
 cases q1 with
 | inr y=>exact I.ok fun e=>absurd e h1
 | inl _=>
 refine I.bd (I.lp (fun t:Int=>0≤t∧∀ j:Int,0≤j→j<t→Z7t f j=some 0) (Q:=fun q=>match q with|.inl _=>∀ j:Int,0≤j→j<f.Z0g.length→Z7t f j=some 0|.inr y=>y.2≠0) (fun t ht=>?_) ⟨by omega,fun j h h'=>by omega⟩) fun q3 h3=>?_
 ·unfold Zhn
  refine I.br (fun hlt=>I.sk fun v14 e14=>I.br (fun h=>I.sk fun _ _=>I.dn (ne0 h)) fun hz=>I.sk fun k hk=>?_) fun hge=>I.dn fun j h h'=>ht.2 j h (by have:=of_decide_eq_false hge; omega)
  have:=of_decide_eq_true hlt
  rw [Z68 (by omega) (by omega)] at hk
  cases hk
  refine I.nx ⟨by omega,fun j h h'=>?_⟩
  rcases Int.lt_or_le j t with h2|h2
  ·exact ht.2 j h h2
  ·rw [show j=t by omega,e14,eq0 hz]
 cases q3 with
 | inr y=>exact I.ok fun e=>absurd e h3
 | inl _=>
 refine I.bd (I.lp (fun _=>True) (Q:=fun q=>match q with|.inl _=>True|.inr y=>y.2≠0) (fun t _=>?_) trivial) fun q5 h5=>?_
 ·unfold Zk6
  exact I.br (fun _=>I.sk fun _ _=>I.br (fun h=>I.sk fun _ _=>I.dn (ne0 h)) fun _=>I.sk fun _ _=>I.nx trivial) fun _=>I.dn trivial
 cases q5 with
 | inr y=>exact I.ok fun e=>absurd e h5
 | inl _=>exact I.sk fun _ _=>I.br (fun _=>I.ok fun h=>by cases h) fun _=>I.ok fun _=>⟨(hv (eq0 h)).1,(hv (eq0 h)).2,h3⟩
def FOk (u:Z0m):Prop:=∀ f∈u.Z0g,f.Z1o.length≤1024∧∃ t,Z72 f.Z1o=some (t,0)∧t.Z1z≠86∧(f.Z3g=3→f.Z1o=[73])∧(f.Z3g=5→f.Z1o=[74])
theorem Y0l (u:Z0m) (hu:MB u) (hF:u.Z0g.length≤140737488355328):Im (Zcj u) (fun r=>r.2=0→FOk u):=by
 unfold Zcj
 refine I.sk fun _ _=>I.br (fun _=>I.ok fun h=>by cases h) fun _=>I.bd (i_halfF _ u hu hF) fun v hv=>I.br (fun h=>I.ok fun e=>absurd e (ne0 h)) fun hE=>?_
 have hE':=eq0 hE
 obtain ⟨hM,hP⟩:=hv
 have hL:(v.2.f_F.Z0g.length:Int)=u.Z0g.length:=hM.len
 refine I.bd (I.lp (fun _=>True) (Q:=fun q=>match q with|.inl _=>True|.inr y=>y.2≠0) (fun t _=>?_) trivial) fun q1 h1=>?_
 ·have j1:∀ s x,Im (Za6 t s x) (I.Ct (fun _=>True) fun q=>match q with|.inl _=>True|.inr y=>y.2≠0):=fun s x=>by
   unfold Za6
   exact I.br (fun h=>I.dn (ne0 h)) fun _=>I.sk fun _ _=>I.sk fun _ _=>I.nx trivial
  unfold Zil
  exact I.br (fun _=>I.sk fun _ _=>I.br (fun _=>I.sk fun _ _=>I.sk fun _ _=>j1 _ _) fun _=>j1 _ _) fun _=>I.dn trivial
 cases q1 with
 | inr y=>exact I.ok fun e=>absurd e h1
 | inl q0=>
 refine I.bd (I.lp (fun _=>True) (Q:=fun q=>match q with|.inl _=>True|.inr y=>y.2≠0) (fun t _=>?_) trivial) fun q3 h3=>?_
 ·have j3:∀ p,Im (Zah t v p) (I.Ct (fun _=>True) fun q=>match q with|.inl _=>True|.inr y=>y.2≠0):=fun p=>by
   unfold Zah
   exact I.sk fun _ _=>I.sk fun _ _=>I.sk fun _ _=>I.nx trivial
  have j2:∀ p,Im (Za9 t v p) (I.Ct (fun _=>True) fun q=>match q with|.inl _=>True|.inr y=>y.2≠0):=fun p=>by
   unfold Za9
   exact I.sk fun _ _=>I.br (fun _=>I.sk fun _ _=>I.sk fun _ _=>I.br (fun h=>I.dn (ne0 h)) fun _=>I.sk fun _ _=>I.sk fun _ _=>j3 _) fun _=>j3 _
  unfold Zi9
  exact I.br (fun _=>I.sk fun _ _=>I.br (fun _=>I.sk fun _ _=>I.sk fun _ _=>I.sk fun _ _=>I.sk fun _ _=>j2 _) fun _=>j2 _) fun _=>I.dn trivial
 cases q3 with
 | inr y=>exact I.ok fun e=>absurd e h3
 | inl q2=>
 refine I.bd (Y1e _ (by dsimp only; omega)) fun w hw=>I.br (fun h=>I.ok fun e=>absurd e (ne0 h)) fun h=>I.ok fun _ f hf=>?_
 obtain ⟨p1,p2,p3⟩:=hw (eq0 h)
 dsimp only at p1 p2 p3
 rw [hP] at p1 p2
 obtain ⟨j,hj⟩:=List.getElem?_of_mem hf
 have hlt:j<u.Z0g.length:=(List.getElem?_eq_some_iff.1 hj).1
 obtain ⟨g,g1,g2⟩:=hM.ok hE' j f (by omega) hj
 have hg:Z05 v.2.f_F.Z0g (j:Int)=some g:=by unfold Z05; rw [if_pos (by omega),Int.toNat_natCast]; exact g1
 obtain ⟨s,k,t,s1,s2,s3,s4⟩:=i_field _ (j:Int) 0 (p3 (j:Int) (by omega) (by omega)) rfl g hg
 dsimp only at s1 s4
 rw [hP] at s1 s4
 rw [utf_at p1 g2.ds] at s1
 cases s1
 have hcc:∀ n:Int,n≠0→n≠8→f.Z3g=n→(n=3→f.Z1o=[73])∧(n=5→f.Z1o=[74]):=fun n n0 n8 hn=>by
  obtain ⟨x,i,x1,x2,x3⟩:=g2.ct (by omega) (by omega)
  obtain ⟨i1,i2,c,i3,i4⟩:=x3 p1
  have:=Y3n x1 x2 i1 i2 i3 true s4 rfl
  rw [i4,hn] at this
  exact this
 obtain ⟨k',k1',k2',k3',k4'⟩:=g2.ds p1
 exact ⟨by rw [← k4']; exact p2 k' (List.mem_of_getElem? k2') k3',t,s2,s3,fun h3=>(hcc 3 (by decide) (by decide) h3).1 rfl,fun h5=>(hcc 5 (by decide) (by decide) h5).2 rfl⟩
theorem Zzt (u:Z0m) (hu:MB u) (hF:u.Z0g.length≤140737488355328):Im (Z9t u) (fun e=>e=0→FOk u):=by
 unfold Z9t
 exact I.bd (Y0l u hu hF) fun v hv=>I.ok hv
theorem Y4g {w:Z0c} (h:Z5f w) (v:Z8d w=some true):∀ c∈w.Z0o,FOk c.Z13:=
 Y3o (Q:=FOk) _ h.clsL (fun c hc=>Zzt _ ⟨by have:=(h.cls c hc).1.metL; omega,fun x hx=>by have:=(((h.cls c hc).1.met x hx).code.insL); omega⟩ (by have:=(h.cls c hc).1.fldL; omega)) true v rfl
end Go.Proofs
namespace Go.Proofs
open Go.Den Go.Tot
def Z46 (w:Z0c) (c:Int):List FS:=Z3w w 300 c
theorem Y22 {w:Z0c} {c:Int} (h: ¬(0≤c∧c<w.Z0o.length)):Z46 w c=[] :=Zoj (Z6z h)
theorem Y3b {w:Z0c} (hv:Z2w w) (c:Int):(Z46 w c).length≤12800:=by
 have hf:=hv.few
 by_cases h:0≤c∧c<w.Z0o.length
 ·have:=(Zxv w hv 300 c (by omega) (by omega) (by omega)).2 h.1
  unfold Z46; omega
 ·rw [Y22 h]; simp
theorem Zoy {w:Z0c} (hv:Z2w w) (c:Int) (s:Bool):(Z40 w c s).length≤64:=by
 by_cases h:0≤c∧c<w.Z0o.length
 ·exact (Zpp w hv c s h.1 h.2).2
 ·unfold Z40; rw [Z6z h]; simp
theorem Zqq {w:Z0c} (hv:Z2w w) (c:Int) (s:Bool) (h:0≤c∧c<w.Z0o.length):Zf9 w c s=some (Z40 w c s):=(show Zf9 w c s=Zj5 w c s from rfl).trans (Zpp w hv c s h.1 h.2).1
theorem Y1q {w:Z0c} (hv:Z2w w) (c:Int):Zcc w c=some (Z40 w c true):=by
 unfold Zcc j14x1
 by_cases h:0≤c∧c<w.Z0o.length
 ·rw [if_neg (by simpa using h.1),if_neg (by simpa using h.2),Zqq hv c true h]; rfl
 ·unfold Z40; rw [Z6z h]
  by_cases h1:c<0
  ·rw [if_pos (decide_eq_true h1)]
  ·rw [if_neg (by simpa using h1),if_pos (decide_eq_true (by omega))]
theorem Zwa {w:Z0c} (hv:Z2w w):∀ l:List Int,(∀ c∈l,0≤c∧c<w.Z0o.length)→ovs w l=some ((l.map fun c=>Z40 w c false).flatten)
 | [],_=>rfl
 | c::l,h=>by
  unfold ovs ov
  have hl:=Zoy hv c false
  rw [Zqq hv c false (h c (by simp)),Zwa hv l fun x hx=>h x (by simp [hx])]
  simp only [Option.bind_some]
  rw [if_pos (by omega)]
  rfl
theorem Y01 {w:Z0c} (hv:Z2w w) (c:Int):Z9u w c=some (Z46 w c):=by
 unfold Z9u
 have hl:=Zqv hv c
 rw [Y2z hv]
 simp only [Option.bind_some]
 rw [if_pos (by omega),Zwa hv (Z41 w c).reverse fun x hx=>(Zlk hv 300 c x (List.mem_reverse.1 hx)).2]
 rfl
def fieldAt (w:Z0c) (c i:Int):Option Z1b:=(Z05 w.Z0o c).bind fun v=>Z05 v.Z13.Z0g i
structure Good (w:Z0c):Prop where
 v:Z2w w
 f:∀ c∈w.Z0o,FOk c.Z13
end Go.Proofs
namespace Go.Proofs
open Go.Den Go.Tot
def noField:Z1b:={ Z0r:=0,Z0f:=[],Z1o:=[],Z3g:=0,f_N:=0,f_S:=[] }
theorem Zyz (w:Z0c) (f:Z36):Zec w f=some (match fieldAt w f.Z0k f.Z0x with
  | some x=>(x,true)
  | none=>(noField,false)):=by
 unfold Zec
 rw [show Zo8 w f.Z0k=Zh7 w f.Z0k from rfl,Zme]
 unfold fieldAt
 by_cases h:0≤f.Z0k∧f.Z0k<w.Z0o.length
 ·obtain ⟨k,e,_⟩:=gr (l:=w.Z0o) h.1 h.2
  rw [decide_eq_true h,e]
  simp only [Option.bind_some,Bool.not_true,Bool.false_eq_true,if_false]
  by_cases h1:f.Z0x<0
  ·rw [if_pos (decide_eq_true h1),Z6z (by omega)]
   rfl
  ·rw [if_neg (by simpa using h1)]
   by_cases h2:f.Z0x≥(k.Z13.Z0g.length:Int)
   ·rw [if_pos (decide_eq_true h2),Z6z (by omega)]
    rfl
   ·rw [if_neg (by simpa using h2)]
    obtain ⟨x,e2,_⟩:=gr (l:=k.Z13.Z0g) (i:=f.Z0x) (by omega) (by omega)
    rw [e2]
    rfl
 ·rw [decide_eq_false h,Z6z h]
  rfl
theorem get_pro (w:Z0c) (f:Z36):Zob w f=Zec w f:=rfl
def Z95 (w:Z0c) (c:Int) (f:Z36) (x:Z1b):List FS:=if Z7u x=true then (if c=f.Z0k then Z40 w c true else []) else Z46 w c
def Zim (w:Z0c) (c:Int) (f:Z36):Int×Bool:=match fieldAt w f.Z0k f.Z0x with
 | some x=>match Z2m f.Z0k f.Z0x 0 (Z95 w c f x) with
  | some i=>(i,true)
  | none=>(0,false)
 | none=>(0,false)
theorem Y30 {w:Z0c} (hv:Z2w w) (c:Int) (f:Z36) (x:Z1b):(Z95 w c f x).length≤12800:=by
 have h1:=Y3b hv c
 have h2:=Zoy hv c true
 unfold Z95
 repeat' split
 all_goals first|omega|simp
theorem Y05 (l:List FS) (hl:l.length≤100000) (a b:Int):Zhe l { Z0k:=a,Z0x:=b }=some (match Z2m a b 0 l with
  | some i=>i
  | none=>-1):=by
 unfold Zhe
 rw [Y04 (l:=l) (by omega) a b (fun t=>t) (fun t x h0 h1 e=>?_) (fun t h=>?_)]
 ·cases Z2m a b 0 l <;> rfl
 ·unfold Zgn
  rw [if_pos (decide_eq_true h1),e]
  have:Zbz { Z0k:=a,Z0x:=b } x=(x.Z0k==a&&x.Z0x==b):=by
   unfold Zbz
   rw [Bool.and_true,Bool.beq_comm (a:=a),Bool.beq_comm (a:=b)]
  simp only [Option.bind_some,this]
 ·unfold Zgn
  rw [if_neg (by simpa using h)]
theorem Zxe {w:Z0c} (hv:Z2w w) (c:Int) (f:Z36):Za5 w c f=some (Zim w c f):=by
 unfold Za5 Zim
 rw [get_pro,Zyz]
 cases e:fieldAt w f.Z0k f.Z0x with
 | none=>rfl
 | some x=>
  have hj:∀ l:List FS,l.length≤100000→Zbt f l=some (match Z2m f.Z0k f.Z0x 0 l with
    | some i=>(i,true)
    | none=>(0,false)):=fun l hl=>by
   unfold Zbt
   rw [Y05 l hl]
   cases ep:Z2m f.Z0k f.Z0x 0 l with
   | none=>rfl
   | some i=>
    have:=Zvp _ _ _ _ _ ep
    rw [Option.bind_some,if_neg (show ¬(0>i) by omega),Option.bind_some]
    dsimp only
    rw [decide_eq_true (show i≥0 by omega)]
  have hal:=Y30 hv c f x
  simp only [Option.bind_some,Bool.not_true,Bool.false_eq_true,if_false]
  have hs:Z7u x=(Z2b .i64 x.Z0r 8 !=0):=rfl
  by_cases h:Z2b .i64 x.Z0r 8=0
  ·have ha:Z95 w c f x=Z46 w c:=by unfold Z95; rw [hs,h]; rfl
   rw [if_pos (by simpa using h),Y01 hv,ha]
   rw [ha] at hal
   exact hj _ (by omega)
  ·rw [if_neg (by simpa using h)]
   have ha:Z95 w c f x=if c=f.Z0k then Z40 w c true else [] :=by unfold Z95; rw [hs,if_pos (by simpa using h)]
   by_cases hc:c=f.Z0k
   ·rw [if_pos (by simpa using hc),Y1q hv,ha,if_pos hc]
    have:=Zoy hv c true
    exact hj _ (by omega)
   ·rw [if_neg (by simpa using hc),ha,if_neg hc]
    exact hj _ (by simp)
theorem Znd:Zfp=some true:=by kernel_rfl
theorem good_of {w:Z0c} (hw:Z5f w):Ok (Z8d w) (fun b=>b=true→Good w):=by
 obtain ⟨b,e,hb⟩:=Y32 w hw
 refine ⟨b,e,fun h=>?_⟩
 subst h
 exact ⟨hb rfl,Y4g hw e⟩
end Go.Proofs
namespace Go.Proofs
open Go.Den Go.Tot
theorem Zzg (x:Int) (v:Z36) (l:List Int) (hl:l.length≤1000):Z07 (l7x1 l v) Z09 (false,0)=some (decide (v.Z0k∈l)):=by
 have:Ok (Z07 (l7x1 l v) Z09 (false,0)) (fun r=>r=decide (v.Z0k∈l)):=by
  refine lp (fun t=>t.2) l.length (fun t=>t.1=decide (v.Z0k∈l.take t.2.toNat)) (fun t hI g0 g1=>?_) (by omega) (by simp) (by omega) (by dsimp only; omega)
  obtain ⟨b,i⟩:=t
  dsimp only at hI g0 g1
  unfold l7x1
  dsimp only
  refine brD (fun hlt=>?_) fun hge=>dn (by rw [hI,List.take_of_length_le (by omega)])
  obtain ⟨y,e,_,hy⟩:=gri (l:=l) g0 hlt
  have ht:l.take (i+1).toNat=l.take i.toNat++[y] :=by rw [show (i+1).toNat=i.toNat+1 by omega,List.take_add_one,hy]; rfl
  refine br (fun hb=>bd wr fun k hk=>nx ?_) fun hb=>?_
  ·dsimp only
   rw [hk,ht]
   rw [hb] at hI
   have:=of_decide_eq_true hI.symm
   simp [this]
  ·rw [e]
   refine bs (bd wr fun k hk=>nx ?_)
   dsimp only
   rw [hk,ht]
   rw [hb] at hI
   have:=of_decide_eq_false hI.symm
   simp only [List.mem_append,this,false_or,List.mem_singleton]
   rw [Bool.eq_iff_iff,beq_iff_eq,decide_eq_true_iff]
   exact eq_comm
 obtain ⟨r,e,rfl⟩:=this
 exact e
theorem Zzf {w:Z0c} (hv:Z2w w) {c k:Int} (h:k∈Z41 w c):∃ r,Z46 w c=Z46 w k++r:=by
 have hf:=hv.few
 by_cases hc:0≤c∧c<w.Z0o.length
 ·exact Zy4 hv 300 c k (by omega) h
 ·rw [Zey hc] at h; cases h
theorem Zz1 (w:Z0c) (c d:Int) (f:Z36) (hw:Z5f w):Zn8 w c d f=some true:=by
 have hq:j7x4=some true:=by unfold j7x4; rw [Znd]; rfl
 have hq3:j7x3=some true:=by unfold j7x3; rw [Znd]; rfl
 unfold Zn8 Zla
 simp only [Option.bind_some]
 split
 ·exact hq
 obtain ⟨b,e,hb⟩:=good_of hw
 rw [e]
 cases b with
 | false=>exact hq
 | true=>
  have g:=hb rfl
  simp only [Option.bind_some,Bool.not_true,Bool.false_eq_true,if_false]
  unfold j7x1
  rw [Zyz]
  cases ef:fieldAt w f.Z0k f.Z0x with
  | none=>exact hq3
  | some x=>
   simp only [Option.bind_some,Bool.not_true,Bool.false_eq_true,if_false]
   split
   ·exact hq3
   rename_i hst
   have hs:Z7u x=false:=by unfold Z7u; simpa using hst
   obtain ⟨v,e1,e2⟩:=Option.bind_eq_some_iff.1 ef
   have hin:∀ c,Z2m f.Z0k f.Z0x 0 (Z46 w c)=none↔f.Z0k ∉ Z41 w c:=fun c=>by
    rw [Zyy]
    refine not_congr ?_
    rw [show Z46 w c=Z3w w 300 c from rfl,Y2t]
    refine ⟨fun h=>h.1,fun h=>⟨h,Zs2.2 ⟨rfl,v,x,e1,e2,by rw [hs]; rfl⟩⟩⟩
   have hsl:∀ c,Zim w c f=match Z2m f.Z0k f.Z0x 0 (Z46 w c) with
     | some i=>(i,true)
     | none=>(0,false):=fun c=>by
    unfold Zim
    rw [ef]
    dsimp only
    unfold Z95
    rw [if_neg (by rw [hs]; decide)]
    try rfl
   have hup:∀ c,f.Z0k∈Z41 w c→Z2m f.Z0k f.Z0x 0 (Z46 w c)=Z2m f.Z0k f.Z0x 0 (Z46 w f.Z0k):=fun c hc=>by
    obtain ⟨r,hr⟩:=Zzf g.v hc
    have hh:=hin f.Z0k
    have hself:f.Z0k∈Z41 w f.Z0k:=by rw [Zm6 g.v e1]; simp
    rw [hr,Zrm]
    cases ep:Z2m f.Z0k f.Z0x 0 (Z46 w f.Z0k) with
    | none=>exact absurd hself (hh.1 ep)
    | some i=>rfl
   unfold j7x2
   rw [Zxe g.v,Zxe g.v,ups_is g.v]
   simp only [Option.bind_some]
   rw [Zzg 0 f _ (by have:=Zqv g.v c; omega),Znd]
   simp only [Option.bind_some,if_true]
   rw [hsl c,hsl d]
   by_cases h1:f.Z0k∈Z41 w c
   ·rw [hup c h1]
    cases ep:Z2m f.Z0k f.Z0x 0 (Z46 w f.Z0k) with
    | none=>exact absurd ((hup c h1).trans ep) (fun h=>(hin c).1 h h1)
    | some i=>
     by_cases h2:f.Z0k∈Z41 w d
     ·rw [hup d h2,ep]
      simp [h1]
     ·rw [(hin d).2 h2]
      simp [h1]
   ·rw [(hin c).2 h1]
    simp [h1]
end Go.Proofs
