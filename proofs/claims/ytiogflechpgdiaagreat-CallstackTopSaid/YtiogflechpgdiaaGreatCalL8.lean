/-
  Threads and activations: the program and the reference alike. No condition.
-/
import Derived.Test.YtiogflechpgdiaaGreatCalL1
import Derived.Test.YtiogflechpgdiaaGreatCal10
set_option linter.unusedVariables false
namespace Go.Proofs
open Go.Den Go.Tot
def setA (m:Z0a) (t:Int) (th:Z1h) (l:List Z0v):Z0a:={ m with Z13:=m.Z13.set t.toNat { th with Z12:=l } }
theorem Zq2 {α:Type} {l:List α} {t:Int} {x:α} (h:Z01 l t=some x):Z3k t l.length=some t.toNat∧l[t.toNat]?=some x∧0≤t∧t<l.length:=by
 obtain ⟨_,h0,hx⟩:=Zaf h
 have hlt:t.toNat<l.length:=(List.getElem?_eq_some_iff.1 hx).1
 have:t<l.length:=by omega
 exact ⟨by unfold Z3k; rw [if_pos ⟨h0,this⟩],hx,h0,this⟩
theorem Y5u (m:Z0a) (t:Int) (l:List Z0v) (hL:m.Z13.length≤1000) {th:Z1h} (ht:Z01 m.Z13 t=some th):
  Zcm m t l=some (setA m t th l)∧Zhb m t l=some (setA m t th l):=by
 obtain ⟨h1,h2,_,_⟩:=Zq2 ht
 have hg:Z1q 80 (([]:List Z1h)++m.Z13).length=some ():=Y1g 80 (by simp only [List.nil_append]; omega) (by decide)
 unfold Zcm Zhb Zrn
 rw [hg]
 simp only [Option.bind_some,List.nil_append,h1,h2]
 exact ⟨rfl,rfl⟩
theorem Zpo (m:Z0a) (t:Int):Z5o m t=Zdp m t:=rfl
def Zeg:Z0v:={ Z0p:=0,Z34:=0,f_PC:=0,Z0d:=([]:List Z0i),Z0g:=([]:List Z0i),Z62:=0,Z6e:=false,Z85:=false }
theorem Zu7 (m:Z0a) (t:Int) (hA:∀ th∈m.Z13,th.Z12.length≤64):
  (Z5o m t=some (Zeg,2)∧Zff m t=some false)∨
  (∃ th,Z01 m.Z13 t=some th∧th.Z12=[]∧Z5o m t=some (Zeg,61))∨
  (∃ th l a,Z01 m.Z13 t=some th∧th.Z12=l++[a]∧Z5o m t=some (a,0)):=by
 unfold Z5o Zff
 by_cases h1:t≥0
 ·rw [if_pos (decide_eq_true h1)]
  by_cases h2:t<(m.Z13.length:Int)
  ·obtain ⟨th,e,hm⟩:=gr (l:=m.Z13) (i:=t) h1 h2
   have h64:=hA th hm
   rw [decide_eq_true h2,e]
   simp only [Option.bind_some,Bool.not_true,Bool.false_eq_true,if_false]
   rcases List.eq_nil_or_concat th.Z12 with h|⟨l,a,h⟩
   ·rw [h]
    exact .inr (.inl ⟨th,rfl,h,rfl⟩)
   ·rw [List.concat_eq_append] at h
    have hlen:th.Z12.length=l.length+1:=by rw [h]; simp
    rw [if_neg (by rw [hlen]; simp; omega),Zag (by omega) (by omega)]
    have:Z01 th.Z12 ((th.Z12.length:Int) - 1)=some a:=by
     unfold Z01
     rw [if_pos (by omega),hlen,h,show ((l.length+1:Nat):Int) - 1=(l.length:Int) by omega,Int.toNat_natCast]
     simp
    simp only [Option.bind_some,this]
    exact .inr (.inr ⟨th,l,a,rfl,h,rfl⟩)
  ·rw [decide_eq_false h2]
   exact .inl ⟨rfl,rfl⟩
 ·rw [if_neg (by simpa using h1)]
  exact .inl ⟨rfl,rfl⟩
end Go.Proofs
namespace Go.Proofs
open Go.Den Go.Tot
theorem allD {R:Type} {n:Nat} (hn:n≤140737488355328) (d:R) (g:Int→Option Bool) {f:Int→Option (Ctl Int (Unit⊕R))} (hg:∀ t:Int,0≤t→t<n→∃ b,g t=some b)
  (hf:∀ t:Int,0≤t→t≤n→f t=if decide (t<(n:Int))=true then ((g t).bind fun v=>if (!v)=true then some (.done (.inr d)) else ((some (IntKind.wrap .i64 (t+1))).bind fun k=>some (.next k))) else some (.done (.inl ()))):
  (Z07 f Z08 0=some (.inl ())∧∀ t:Int,0≤t→t<n→g t=some true)∨(Z07 f Z08 0=some (.inr d)∧∃ t:Int,0≤t∧t<n∧g t=some false):=by
 have h:Ok (Z07 f Z08 0) (fun q=>(q=.inl ()∧∀ t:Int,0≤t→t<n→g t=some true)∨(q=.inr d∧∃ t:Int,0≤t∧t<n∧g t=some false)):=by
  refine lp (fun t=>t) n (fun t=>∀ j:Int,0≤j→j<t→g j=some true) (fun t hI h0 h1=>?_) (by omega) (fun j h h'=>by omega) (by omega) (by omega)
  rw [hf t h0 h1]
  refine brD (fun hlt=>?_) fun hge=>dn (.inl ⟨rfl,fun j h h'=>hI j h (by omega)⟩)
  obtain ⟨b,hb⟩:=hg t h0 hlt
  rw [hb]
  cases b with
  | false=>exact ⟨_,rfl,.inr ⟨rfl,t,h0,hlt,hb⟩⟩
  | true=>
   refine bs (br! (fun h=>by cases h) fun _=>bd wr fun k hk=>nx (fun j hj hj'=>?_) (by omega) (by omega))
   rcases Int.lt_or_le j t with h|h
   ·exact hI j hj h
   ·rw [show j=t by omega]; exact hb
 obtain ⟨q,e,h⟩:=h
 rcases h with ⟨rfl,h⟩|⟨rfl,h⟩
 ·exact .inl ⟨e,h⟩
 ·exact .inr ⟨e,h⟩
end Go.Proofs
namespace Go.Proofs
open Go.Den Go.Tot
end Go.Proofs
namespace Go.Proofs
open Go.Den Go.Tot
def gV (m:Z0a) (l:List Z0i) (b:Bool) (t:Int):Option Bool:=(Z01 l t).bind fun y=>(Z7f m y).bind fun v=>some (v&&(b|| !(y.Z1g==0)))
theorem f83 (m:Z0a) (l:List Z0i) (b:Bool) (hH:m.Z1n.length≤140737488355328):
  (∀ t:Int,0≤t→t<(l.length:Nat)→∃ r,gV m l b t=some r)∧
  (∀ t:Int,0≤t→t≤(l.length:Nat)→Z7x m l b t=if decide (t<((l.length:Nat):Int))=true then ((gV m l b t).bind fun v=>if (!v)=true then some (.done (.inr false)) else ((some (IntKind.wrap .i64 (t+1))).bind fun k=>some (.next k))) else some (.done (.inl ()))):=by
 have key:∀ t:Int,0≤t→t<(l.length:Nat)→∃ y v,Z01 l t=some y∧Z7f m y=some v:=fun t p q=>by
  obtain ⟨y,ey,_⟩:=gr (l:=l) (i:=t) p q
  obtain ⟨v,ev,_⟩:=Zd4 m y hH
  exact ⟨y,v,ey,ev⟩
 refine ⟨fun t p q=>?_,fun t p q=>?_⟩
 ·obtain ⟨y,v,ey,ev⟩:=key t p q
  unfold gV
  simp only [ey,Option.bind_some,ev]
  exact ⟨_,rfl⟩
 ·unfold Z7x gV
  by_cases hlt:t<((l.length:Nat):Int)
  ·obtain ⟨y,v,ey,ev⟩:=key t p hlt
   rw [if_pos (decide_eq_true hlt),if_pos (decide_eq_true hlt)]
   simp only [ey,Option.bind_some,ev]
   cases v <;> cases b <;> cases (y.Z1g==0) <;> rfl
  ·rw [if_neg (by simpa using hlt),if_neg (by simpa using hlt)]
theorem Y5k (m:Z0a) (a:Z0v) (hH:m.Z1n.length≤140737488355328):Zi0 m a=Z7x m a.Z0d true:=by
 funext t
 unfold Zi0 Z7x
 split
 ·cases e:Z01 a.Z0d t with
  | none=>rfl
  | some y=>
   simp only [Option.bind_some,Y4d m y hH]
   rfl
 ·rfl
theorem Y9s (m:Z0a) (a:Z0v) (hH:m.Z1n.length≤140737488355328):Zof m a=Z7x m a.Z0g false:=by
 funext t
 unfold Zof Z7x
 split
 ·cases e:Z01 a.Z0g t with
  | none=>rfl
  | some y=>
   obtain ⟨v,ev,_⟩:=Zd4 m y hH
   simp only [Option.bind_some,Y4d m y hH,ev]
   cases v <;> cases (y.Z1g==0) <;> rfl
 ·rfl
theorem Y8i (m:Z0a) (a:Z0v) (h:Z48 m) (ha:Z6h a):
  Ziy m a=(Za6 m a.Z0d true).bind fun v4=>if v4=true then (Za6 m a.Z0g false).bind fun v5=>some v5 else some false:=by
 have hH:=h.heapL
 unfold Ziy Za6
 rw [Y5k m a hH,Y9s m a hH]
 obtain ⟨g1,g2⟩:=f83 m a.Z0d true hH
 obtain ⟨g3,g4⟩:=f83 m a.Z0g false hH
 rcases allD ha.loc _ _ g1 g2 with ⟨q,_⟩|⟨q,_⟩
 ·rcases allD ha.stk _ _ g3 g4 with ⟨r,_⟩|⟨r,_⟩
  ·rw [q,r]; rfl
  ·rw [q,r]; rfl
 ·rw [q]; rfl
theorem Y83 (m:Z0a) (a:Z0v) (h:Z48 m) (ha:Z6h a):Zif m a=Z5c m a:=by
 have hH:=h.heapL
 unfold Zif Z5c
 by_cases h1:a.Z0p<0
 ·simp only [decide_eq_true h1,if_true]
 simp only [decide_eq_false h1,Bool.false_eq_true,if_false]
 by_cases h2:a.Z0p≥(m.Z0x.Z11.length:Int)
 ·simp only [decide_eq_true h2,if_true]
 simp only [decide_eq_false h2,Bool.false_eq_true,if_false]
 obtain ⟨k,ek,_⟩:=gr (l:=m.Z0x.Z11) (i:=a.Z0p) (by omega) (by omega)
 have h3:Zko m a=Zce m a:=by
  unfold Zko Zce Z82 Zen
  dsimp only
  rw [if_pos (decide_eq_true (by omega)),decide_eq_true (show a.Z0p<(m.Z0x.Z11.length:Int) by omega),ek]
  simp only [Option.bind_some,Bool.not_true,Bool.false_eq_true,if_false]
  by_cases h4:a.Z34<0
  ·simp only [decide_eq_true h4,if_true]; rfl
  simp only [decide_eq_false h4,Bool.false_eq_true,if_false]
  by_cases h5:a.Z34≥(k.Z1v.Z0z.length:Int)
  ·simp only [decide_eq_true h5,if_true]; rfl
  simp only [decide_eq_false h5,Bool.false_eq_true,if_false]
  obtain ⟨x,ex,_⟩:=gr (l:=k.Z1v.Z0z) (i:=a.Z34) (by omega) (by omega)
  simp only [ex,Option.bind_some,Bool.not_true,Bool.false_eq_true,if_false]
  cases hc:x.Z6c with
  | false=>rfl
  | true=>
  unfold Zft
  rw [ex,Y8i m a h ha]
  simp only [Option.bind_some,Bool.not_true,Bool.false_eq_true,if_false]
  by_cases p1:a.f_PC<0
  ·simp only [decide_eq_true p1,decide_eq_false (show ¬a.f_PC≥0 by omega),Bool.false_eq_true,if_true,if_false]
  simp only [decide_eq_false p1,decide_eq_true (show a.f_PC≥0 by omega),Bool.false_eq_true,if_true,if_false]
  by_cases p2:a.f_PC≥(x.Z1u.Z0k.length:Int)
  ·simp only [decide_eq_true p2,decide_eq_false (show ¬a.f_PC<(x.Z1u.Z0k.length:Int) by omega),Bool.false_eq_true,if_true,if_false]
  simp only [decide_eq_false p2,decide_eq_true (show a.f_PC<(x.Z1u.Z0k.length:Int) by omega),Bool.false_eq_true,if_true,if_false]
  by_cases p3:(a.Z0d.length:Int)=x.Z1u.Z0d
  ·simp only [show ((a.Z0d.length:Int)!=x.Z1u.Z0d)=false by simpa using p3,show ((a.Z0d.length:Int)==x.Z1u.Z0d)=true by simpa using p3,Bool.false_eq_true,if_true,if_false]
   by_cases p4:(a.Z0g.length:Int)>x.Z1u.Z0g
   ·simp only [decide_eq_true p4,decide_eq_false (show ¬(a.Z0g.length:Int)≤x.Z1u.Z0g by omega),Bool.false_eq_true,if_true,if_false]
   ·simp only [decide_eq_false p4,decide_eq_true (show (a.Z0g.length:Int)≤x.Z1u.Z0g by omega),Bool.false_eq_true,if_true,if_false]
  ·simp only [show ((a.Z0d.length:Int)!=x.Z1u.Z0d)=true by simpa using p3,show ((a.Z0d.length:Int)==x.Z1u.Z0d)=false by simpa using p3,Bool.false_eq_true,if_true,if_false]
 have hj:Zfv m a=Zc3 m a:=by
  unfold Zfv Zc3
  rw [h3]
 obtain ⟨b,o,e1,e2⟩:=Y17 m a.Z62 hH
 unfold j52x1 Z8u
 rw [e2,e1,hj]
 simp only [Option.bind_some]
 by_cases h0:a.Z62=0
 ·simp [h0]
 ·cases b <;> simp [h0]
end Go.Proofs
namespace Go.Proofs
open Go.Den Go.Tot
theorem i_act (m : Z0a) (a : Z0v) : Im (Z5c m a) (fun b=>b=true→(0≤a.Z0p∧a.Z0p<m.Z0x.Z11.length)∧(0≤a.Z34→∃ k x,HasM m a.Z0p a.Z34 k x∧x.Z6c=true∧0≤a.f_PC∧a.f_PC<x.Z1u.Z0k.length)):=by
 have hf:∀ Q:Prop,Im (some false) (fun b=>b=true→Q):=fun Q=>I.ok fun h=>by cases h
 unfold Z5c Zc3 Zce Zft
 refine I.br (fun _=>hf _) fun h1=>I.br (fun _=>hf _) fun h2=>I.sk fun _ _=>I.br (fun _=>hf _) fun _=>?_
 have h1':=of_decide_eq_false h1
 have h2':=of_decide_eq_false h2
 have hr:0≤a.Z0p∧a.Z0p<m.Z0x.Z11.length:=⟨by omega,by omega⟩
 refine I.br (fun h r _ _ => ⟨hr, fun hge => by have:a.Z34= -1:=by simpa using h
                                                omega⟩) fun _ => I.br (fun h r _ _ => ⟨hr, fun hge => by have:a.Z34= -2:=by simpa using h
                                                                                                         omega⟩) fun _=>I.sk fun k ek=>I.br (fun _=>hf _) fun _=>I.br (fun _=>hf _) fun _=>I.sk fun x ex=>I.br (fun _=>hf _) fun hc=>I.sk fun x' ex'=>
  I.br (fun p1=>I.br (fun p2=>fun r _ _=>⟨hr,fun _=>⟨k,x,⟨ek,ex⟩,by simpa using hc,of_decide_eq_true p1,?_⟩⟩) fun _=>hf _) fun _=>hf _
 rw [ex] at ex'
 cases ex'
 exact of_decide_eq_true p2
theorem Y9x (m:Z0a) (h:Z48 m) (v:Z9q m) (t:Int):∃ r,Zgj m t=some r∧Zk3 m t=some r∧r.1.Z0w.length≤140737488355328∧r.1.Z0c.length≤140737488355328:=by
 have hA:∀ th∈m.Z13,th.Z12.length≤64:=fun th hth=>by
  obtain ⟨i,hi⟩:=List.getElem?_of_mem hth
  have hlt:i<m.Z13.length:=(List.getElem?_eq_some_iff.1 hi).1
  exact (v.acts h (n:=(i:Int)) (by omega) (by unfold Z01; rw [if_pos (by omega),Int.toNat_natCast]; exact hi) (by omega)).1
 unfold Zgj Zk3
 rw [← Zpo]
 rcases Zu7 m t hA with ⟨e,_⟩|⟨th,_,_,e⟩|⟨th,l,a,ht,hl,e⟩
 ·rw [e]; exact ⟨_,rfl,rfl,by simp,by simp⟩
 ·rw [e]; exact ⟨_,rfl,rfl,by simp,by simp⟩
 ·obtain ⟨_,_,h0,h1⟩:=Zq2 ht
  have hact:=(v.acts h h0 ht h1).2 a (by rw [hl]; simp)
  obtain ⟨hr,hm⟩:=i_act m a true hact rfl
  rw [e]
  simp only [Option.bind_some,show ((0:Int)!=0)=false from rfl,Bool.false_eq_true,if_false]
  by_cases hM:a.Z34<0
  ·obtain ⟨k,ek,_⟩:=gr (l:=m.Z0x.Z11) (i:=a.Z0p) hr.1 hr.2
   unfold Z82 Zen
   dsimp only
   rw [if_pos (decide_eq_true hr.1),decide_eq_true hr.2]
   simp only [Option.bind_some,decide_eq_true hM,Bool.not_true,Bool.not_false,Bool.false_eq_true,if_false,if_true]
   exact ⟨_,rfl,rfl,by simp,by simp⟩
  ·obtain ⟨k,x,hk,hc,p1,p2⟩:=hm (by omega)
   obtain ⟨i,ei,him⟩:=gr (l:=x.Z1u.Z0k) (i:=a.f_PC) p1 p2
   rcases Y87 m a.Z0p a.Z34 with ⟨e1,_⟩|⟨e1,k',x',hm',e2⟩
   ·exfalso
    unfold Zhn at e1
    have hw:a.Z34<(k.Z1v.Z0z.length:Int):=(Zq2 hk.2).2.2.2
    simp only [decide_eq_true (show a.Z0p≥0 from hr.1),decide_eq_true hr.2,decide_eq_true (show a.Z34≥0 by omega),if_true,hk.1,Option.bind_some,decide_eq_true hw] at e1
    cases e1
   ·have q1:=hm'.1; rw [hk.1] at q1; cases q1
    have q2:=hm'.2; rw [hk.2] at q2; cases q2
    rw [e2]
    simp only [Option.bind_some,Bool.not_true,Bool.false_eq_true,if_false,decide_eq_false hM,hk.1,hk.2,ei]
    have wi:=((h.sp.cls k (Zaf hk.1).1).1.met x (Zaf hk.2).1).code.ins i him
    exact ⟨_,rfl,rfl,by have:=wi.keys; dsimp only; omega,by have:=wi.tos; dsimp only; omega⟩
theorem Ya9 (m:Z0a) (h:Z48 m) (v:Z9q m) (t:Int) (a:Z0v) (ha:Z6h a):
  (∃ e,e≠0∧((∃ x,Z5o m t=some (x,e))∨(Z5c m a=some false∧∃ x,Z5o m t=some (x,0)))∧Zbk m t a=some (m,e)∧Zdb m t a=some (m,e))∨
  ∃ th l old,Z01 m.Z13 t=some th∧th.Z12=l++[old]∧Z5o m t=some (old,0)∧Z5c m a=some true∧
   Zbk m t a=some (setA m t th (l++[a]),0)∧Zdb m t a=some (setA m t th (l++[a]),0):=by
 have hA:∀ th∈m.Z13,th.Z12.length≤64:=fun th hth=>by
  obtain ⟨i,hi⟩:=List.getElem?_of_mem hth
  have hlt:i<m.Z13.length:=(List.getElem?_eq_some_iff.1 hi).1
  exact (v.acts h (n:=(i:Int)) (by omega) (by unfold Z01; rw [if_pos (by omega),Int.toNat_natCast]; exact hi) (by omega)).1
 obtain ⟨b,eb,_⟩:=Y0h m a h.heapL ha
 unfold Zbk Zdb
 rw [← Zpo,Y83 m a h ha,eb]
 rcases Zu7 m t hA with ⟨e,_⟩|⟨th,_,_,e⟩|⟨th,l,old,ht,hl,e⟩
 ·rw [e]; exact .inl ⟨2,by decide,.inl ⟨_,rfl⟩,rfl,rfl⟩
 ·rw [e]; exact .inl ⟨61,by decide,.inl ⟨_,rfl⟩,rfl,rfl⟩
 ·rw [e]
  simp only [Option.bind_some,show ((0:Int)!=0)=false from rfl,Bool.false_eq_true,if_false]
  cases b with
  | false=>exact .inl ⟨1,by decide,.inr ⟨rfl,_,rfl⟩,rfl,rfl⟩
  | true=>
  have h64:=hA th (Zaf ht).1
  have hlen:th.Z12.length=l.length+1:=by rw [hl]; simp
  have hg:Z1q 88 th.Z12.length=some ():=Y1g 88 (by omega) (by decide)
  have hc:Zk7 th.Z12=some th.Z12:=by
   unfold Zk7
   simp only [List.nil_append,hg,Option.bind_some]
  have hi:Z3k ((l.length:Nat):Int) th.Z12.length=some l.length:=by
   unfold Z3k; rw [if_pos ⟨by omega,by omega⟩,Int.toNat_natCast]
  have hx:th.Z12[l.length]?=some old:=by rw [hl]; simp
  have hs:th.Z12.set l.length a=l++[a] :=by rw [hl]; simp
  have hw:IntKind.wrap .i64 ((th.Z12.length:Int) - 1)=((l.length:Nat):Int):=by rw [Zag (by omega) (by omega)]; omega
  obtain ⟨k1,k2⟩:=Y5u m t (l++[a]) (by have:=v.thr; omega) ht
  refine .inr ⟨th,l,old,ht,hl,rfl,rfl,?_,?_⟩
  ·rw [ht]
   simp only [Option.bind_some,Bool.not_true,Bool.false_eq_true,if_false,hc,hw,hi,hx,hs,k1]
  ·rw [ht]
   simp only [Option.bind_some,Bool.not_true,Bool.false_eq_true,if_false,List.nil_append,hg,hw,hi,hx,hs,k2]
end Go.Proofs
namespace Go.Proofs
open Go.Den Go.Tot
theorem rfL {α:Type} (l:List α) {f:Int→Option (Ctl Int (Unit⊕Bool))} (hm:l.length≤4503599627370496) (h:∀ (t:Int) v,t<l.length→v∈l→Z01 l t=some v→IntKind.wrap .i64 (t+1)=t+1→f t=some (.next (t+1))) (he:∀ t:Int,¬t<l.length→f t=some (.done (.inl ()))):
  Z07 f Z08 0=some (.inl ()):=by
 have:Ok (Z07 f Z08 0) (fun q=>q=.inl ()):=by
  refine li l.length (fun t h0 h1=>?_) (by omega) (by omega) (by omega)
  rcases Int.lt_or_le t l.length with hlt|hge
  ·obtain ⟨v,e,hv,_⟩:=gri (l:=l) h0 hlt
   rw [h t v hlt hv e (Zag (by omega) (by omega))]
   exact ni (by omega) (by omega)
  ·rw [he t (by omega)]; exact di rfl
 obtain ⟨q,e,rfl⟩:=this
 exact e
theorem Zvy (l:List (List UInt8)) (h:l.length≤4503599627370496):Zgz l l=some true:=by
 unfold Zgz
 rw [rfL l h (fun t v h1 hv e hw=>by unfold Zj7; rw [if_pos (decide_eq_true h1),e]; simp [hw]) fun t h=>by unfold Zj7; rw [if_neg (by simpa using h)]]
 simp
theorem Y3v (l:List Z0l) (h:l.length≤4503599627370496):Zeb l l=some true:=by
 unfold Zeb
 rw [rfL l h (fun t v h1 hv e hw=>by unfold Zog; rw [if_pos (decide_eq_true h1),e]; simp [hw,Zh4,Zii]) fun t h=>by unfold Zog; rw [if_neg (by simpa using h)]]
 simp
theorem Y6i (f:Z5g) (h:Z96 f):Zkw f f=some true:=by
 unfold Zkw
 rw [Y3v _ (by have:=h.locL; omega),Y3v _ (by have:=h.stkL; omega)]
 simp
theorem eq_maps (l:List Z0r) (h:l.length≤4503599627370496) (hf:∀ m∈l,Z96 m.Z1o):Zkd l l=some true:=by
 unfold Zkd
 rw [rfL l h (fun t v h1 hv e hw=>by unfold Zlm; rw [if_pos (decide_eq_true h1),e]; simp [hw,Y6i _ (hf v hv)]) fun t h=>by unfold Zlm; rw [if_neg (by simpa using h)]]
 simp
theorem Y26 (l:List Int) (h:l.length≤4503599627370496):Zf2 l l=some true:=by
 unfold Zf2
 rw [rfL l h (fun t v h1 hv e hw=>by unfold Zhq; rw [if_pos (decide_eq_true h1),e]; simp [hw]) fun t h=>by unfold Zhq; rw [if_neg (by simpa using h)]]
 simp
theorem eq_insn (i:Z02) (h:Z39 i):Zki i i=some true:=by
 unfold Zki
 rw [Y26 _ (by have:=h.keys; omega),Y26 _ (by have:=h.tos; omega)]
 simp [Z8w]
theorem eq_code (c:Z09) (h:Z5m c):Zo0 c c=some true:=by
 unfold Zo0 Zqa
 rw [eq_maps _ (by have:=h.mapL; omega) h.map,
  rfL c.Z0k (by have:=h.insL; omega) (fun t v h1 hv e hw=>by unfold Znr; rw [if_pos (decide_eq_true h1),e]; simp [hw,eq_insn _ (h.ins v hv)]) fun t h=>by unfold Znr; rw [if_neg (by simpa using h)]]
 simp only [Option.bind]
 rw [rfL c.Z1r (by have:=h.hndL; omega) (fun t v h1 hv e hw=>by unfold Zn3; rw [if_pos (decide_eq_true h1),e]; simp [hw,Zfm]) fun t h=>by unfold Zn3; rw [if_neg (by simpa using h)]]
 simp only []
 rw [rfL c.Z1k (by have:=h.linL; omega) (fun t v h1 hv e hw=>by unfold Zh7; rw [if_pos (decide_eq_true h1),e]; simp [hw,Zgd]) fun t h=>by unfold Zh7; rw [if_neg (by simpa using h)]]
 simp
theorem Y9q (u:Z0y) (h:Z5f u):Zm9 u u=some true:=by
 unfold Zm9 Zr2
 rw [Zvy _ (by have:=h.ifsL; omega),
  rfL u.Z17 (by have:=h.fldL; omega) (fun t v h1 hv e hw=>by unfold Zkz; rw [if_pos (decide_eq_true h1),e]; simp [hw,Zqq]) fun t h=>by unfold Zkz; rw [if_neg (by simpa using h)]]
 simp only [Option.bind]
 rw [rfL u.Z0z (by have:=h.metL; omega) (fun t v h1 hv e hw=>by unfold Zo8; rw [if_pos (decide_eq_true h1),e]; simp [hw,eq_code _ (h.met v hv).code,Zvy _ (show v.Z6b.length≤_ by have:=(h.met v hv).excL; omega)]) fun t h=>by unfold Zo8; rw [if_neg (by simpa using h)]]
 simp
theorem Y5e (l:List Z1s) (hl:l.length≤140737488355328) (h:∀ c∈l,Z5f c.Z1v∧c.Z19.length≤140737488355328):Zn7 l l=some true:=by
 unfold Zn7
 rw [rfL l (by omega) (fun t v h1 hv e hw=>by
  unfold Zm0 j76x1
  have hi:Z07 (Zev v v) Z08 0=some (.inl ()):=rfL v.Z19 (by have:=(h v hv).2; omega) (fun t v h1 hv e hw=>by unfold Zev; rw [if_pos (decide_eq_true h1),e]; simp [hw]) fun t h=>by unfold Zev; rw [if_neg (by simpa using h)]
  rw [if_pos (decide_eq_true h1),e]
  simp [hw,Y9q _ (h v hv).1,hi]) fun t h=>by unfold Zm0; rw [if_neg (by simpa using h)]]
 simp
theorem Y8s (l:List Z18) (hl:l.length≤140737488355328) (h:∀ c∈l,Z78 c):Zmi l l=some true:=by
 unfold Zmi
 rw [rfL l (by omega) (fun t v h1 hv e hw=>by
  unfold Zo6 j75x1
  have h2:Z07 (Zfd t l l) Z08 0=some (.inl ()):=rfL v.Z3x (by have:=(h v hv).delL; omega) (fun t v h1 hv e' hw=>by unfold Zfd; rw [e]; dsimp only [Option.bind]; rw [if_pos (decide_eq_true h1),e']; simp [hw,Zsi]) fun t h=>by unfold Zfd; rw [e]; dsimp only [Option.bind]; rw [if_neg (by simpa using h)]
  have h3:Z07 (Zfg t l l) Z08 0=some (.inl ()):=rfL v.Z3i (by have:=(h v hv).stoL; omega) (fun t v h1 hv e' hw=>by unfold Zfg; rw [e]; dsimp only [Option.bind]; rw [if_pos (decide_eq_true h1),e']; simp [hw,Ztq]) fun t h=>by unfold Zfg; rw [e]; dsimp only [Option.bind]; rw [if_neg (by simpa using h)]
  rw [if_pos (decide_eq_true h1),e]
  simp [hw,h2,h3]) fun t h=>by unfold Zo6; rw [if_neg (by simpa using h)]]
 simp
theorem Ya6 (w:Z0u) (h:Z5d w):Zme w w=some true:=by
 unfold Zme j39x1
 rw [Y8s _ h.lodL h.lod,Y5e _ h.clsL h.cls,
  rfL w.Z28 (by have:=h.iniL; omega) (fun t v h1 hv e hw=>by unfold Zn5; rw [if_pos (decide_eq_true h1),e]; simp [hw,Zpl]) fun t h=>by unfold Zn5; rw [if_neg (by simpa using h)]]
 simp only [Option.bind]
 rw [rfL w.Z2x (by have:=h.conL; omega) (fun t v h1 hv e hw=>by unfold Zmf; rw [if_pos (decide_eq_true h1),e]; simp [hw,Zua]) fun t h=>by unfold Zmf; rw [if_neg (by simpa using h)]]
 simp
end Go.Proofs
namespace Go.Proofs
open Go.Den Go.Tot
theorem Zl3 (l:List Z0i) (h:l.length≤140737488355328):Z9p l l=some true:=by
 unfold Z9p
 rw [rfL l (by omega) (fun t v h1 hv e hw=>by unfold Zo5 j21x1; rw [if_pos (decide_eq_true h1),if_pos (decide_eq_true h1),e]; simp [hw,Z38]) fun t h=>by unfold Zo5; rw [if_neg (by simpa using h)]]
 simp
theorem eq_wset (l:List Int) (h:l.length≤140737488355328):Zmb l l=some true:=by
 unfold Zmb
 rw [rfL l (by omega) (fun t v h1 hv e hw=>by unfold Zlc Zsj; rw [if_pos (decide_eq_true h1),if_pos (decide_eq_true h1),e]; simp [hw]) fun t h=>by unfold Zlc; rw [if_neg (by simpa using h)]]
 simp
theorem eq_obj (o:Z2h) (h:WObj o):Zkn o o=some true:=by
 unfold Zkn
 rw [Zl3 _ h.val,eq_wset _ h.ws]
 simp [Zai]
theorem Y01 (a:Z0v) (h:Z6h a):Zfu a a=some true:=by
 unfold Zfu
 rw [Zl3 _ h.loc,Zl3 _ h.stk]
 simp
theorem Y5r (t:Z1h) (h:(∀ a∈t.Z12,Z6h a)∧t.Z12.length≤140737488355328):Zls t t=some true:=by
 unfold Zls j74x1
 rw [rfL t.Z12 (by have:=h.2; omega) (fun i v h1 hv e hw=>by unfold Zix; rw [if_pos (decide_eq_true h1),e]; simp [hw,Y01 v (h.1 v hv)]) fun i h=>by unfold Zix; rw [if_neg (by simpa using h)]]
 simp [Z38]
theorem Yad (l:List Z3j) (hl:l.length≤140737488355328) (h:∀ b∈l,b.Z7p.length≤140737488355328):Zoo l l=some true:=by
 unfold Zoo
 rw [rfL l (by omega) (fun t v h1 hv e hw=>by
  unfold Zk4 Zmw Zk2 Zk6
  rw [if_pos (decide_eq_true h1),if_pos (decide_eq_true h1),e]
  simp only [Option.bind_some,decide_eq_true h1,if_true,e]
  rw [Zl3 _ (h v hv)]
  simp [hw]) fun t h=>by unfold Zk4; rw [if_neg (by simpa using h),if_neg (by simpa using h)]]
 rfl
theorem eq_rest (m:Z0a) (h:Z48 m):Zll m m=some true:=by
 unfold Zll j38x1
 rw [Yad _ h.iniL h.ini,
  rfL m.Z1n (by have:=h.heapL; omega) (fun t v h1 hv e hw=>by unfold Zhv; rw [if_pos (decide_eq_true h1),e]; simp [hw,eq_obj v (h.heap v hv)]) fun t h=>by unfold Zhv; rw [if_neg (by simpa using h)]]
 simp only [Option.bind]
 rw [rfL m.Z31 (by have:=h.intL; omega) (fun t v h1 hv e hw=>by unfold Zje; rw [if_pos (decide_eq_true h1),e]; simp [hw,Zs7]) fun t h=>by unfold Zje; rw [if_neg (by simpa using h)]]
 simp only []
 rw [rfL m.Z13 (by have:=h.thrL; omega) (fun t v h1 hv e hw=>by unfold Zkj; rw [if_pos (decide_eq_true h1),e]; simp [hw,Y5r v (h.thr v hv)]) fun t h=>by unfold Zkj; rw [if_neg (by simpa using h)]]
 simp only []
 rw [rfL m.Z42 (by have:=h.outL; omega) (fun t v h1 hv e hw=>by unfold Zma; rw [if_pos (decide_eq_true h1),e]; simp [hw]) fun t h=>by unfold Zma; rw [if_neg (by simpa using h)]]
 simp
theorem eq_mach (m:Z0a) (h:Z48 m):Zjt m m=some true:=by
 unfold Zjt
 rw [eq_rest m h,Ya6 _ h.sp]
 rfl
theorem Z48.set {m:Z0a} (h:Z48 m) {t:Int} {th:Z1h} (ht:Z01 m.Z13 t=some th) {l:List Z0v} (hl:l.length≤1000) (ha:∀ a∈l,Z6h a):Z48 (setA m t th l):=
 ⟨h.sp,h.heap,h.heapL,h.ini,h.iniL,h.int,h.intL,fun x hx=>by
  rcases List.mem_or_eq_of_mem_set hx with hx|rfl
  ·exact h.thr x hx
  ·exact ⟨ha,by dsimp only; omega⟩,by unfold setA; simp only [List.length_set]; exact h.thrL,h.outL⟩
theorem Zzk:Ze0=some true:=by kernel_rfl
end Go.Proofs
namespace Go.Proofs
open Go.Den Go.Tot
theorem few_ok (m:Z0a):∃ b,Zoc m=some b:=by
 unfold Zoc
 repeat' split
 all_goals exact ⟨_,rfl⟩
theorem Z9q.len64 {m:Z0a} (h:Z48 m) (v:Z9q m):∀ th∈m.Z13,th.Z12.length≤64:=fun th hth=>by
 obtain ⟨i,hi⟩:=List.getElem?_of_mem hth
 have hlt:i<m.Z13.length:=(List.getElem?_eq_some_iff.1 hi).1
 exact (v.acts h (n:=(i:Int)) (by omega) (by unfold Z01; rw [if_pos (by omega),Int.toNat_natCast]; exact hi) (by omega)).1
theorem Y32:Z6h Zeg:=⟨by simp [Zeg],by simp [Zeg]⟩
theorem Zx9 (l:List Int) (h:l.length≤140737488355328):Ze9 l l=some true:=by
 unfold Ze9
 rw [rfL l (by omega) (fun t v h1 hv e hw=>by unfold Zji j84x1; rw [if_pos (decide_eq_true h1),if_pos (decide_eq_true h1),e]; simp [hw]) fun t h=>by unfold Zji; rw [if_neg (by simpa using h)]]
 simp
theorem eq_one (i:Z02) (hk:i.Z0w.length≤140737488355328) (ht:i.Z0c.length≤140737488355328):
  Zig { Z0g:=0,Z0d:=0,Z0k:=[i],Z1r:=[],Z1f:=[],Z1k:=[] } { Z0g:=0,Z0d:=0,Z0k:=[i],Z1r:=[],Z1f:=[],Z1k:=[] }=some true:=by
 unfold Zig Zqn j28x1
 dsimp only
 rw [rfL [i] (by simp) (fun t v h1 hv e hw=>by
   rcases List.mem_singleton.1 hv with rfl
   unfold Zk1; rw [if_pos (decide_eq_true h1),e]; simp [hw,Z8w,Zx9 _ hk,Zx9 _ ht]) fun t h=>by unfold Zk1; rw [if_neg (by simpa using h)]]
 simp only [Option.bind]
 rw [rfL ([]:List Z0o) (by simp) (fun t v h1 hv e hw=>by cases hv) fun t h=>by unfold l28x1; rw [if_neg (by simpa using h)]]
 simp only []
 rw [rfL ([]:List Z0r) (by simp) (fun t v h1 hv e hw=>by cases hv) fun t h=>by unfold l28x2; rw [if_neg (by simpa using h)]]
 simp only []
 rw [rfL ([]:List Z1a) (by simp) (fun t v h1 hv e hw=>by cases hv) fun t h=>by unfold l28x3; rw [if_neg (by simpa using h)]]
 simp
theorem Y61 (m:Z0a) (hm:Z48 m) (t:Int) (a:Z0v):Zts m t a=some true:=by
 have hj:j6x2=some true:=by unfold j6x2; rw [Zzk]; rfl
 obtain ⟨b,eb⟩:=few_ok m
 unfold Zts
 rw [eb]
 simp only [Option.bind_some]
 cases b with
 | false=>exact hj
 | true=>
 simp only [Bool.not_true,Bool.false_eq_true,if_false]
 by_cases h2:(a.Z0g.length:Int)>60
 ·simp only [decide_eq_true h2,if_true]; exact hj
 by_cases h3:(a.Z0d.length:Int)>60
 ·simp only [decide_eq_false h2,decide_eq_true h3,Bool.false_eq_true,if_false,if_true]; exact hj
 simp only [decide_eq_false h2,decide_eq_false h3,Bool.false_eq_true,if_false]
 obtain ⟨b,e,hb⟩:=valid36 m hm
 rw [e]
 simp only [Option.bind_some]
 cases b with
 | false=>exact hj
 | true=>
 have v:=hb rfl
 have h64:=v.len64 hm
 have ha:Z6h a:=⟨by omega,by omega⟩
 simp only [Bool.not_true,Bool.false_eq_true,if_false]
 have htop:∃ r,Z5o m t=some r∧Z6h r.1:=by
  rcases Zu7 m t h64 with ⟨e,_⟩|⟨_,_,_,e⟩|⟨th,l,x,ht,hl,e⟩
  ·exact ⟨_,e,Y32⟩
  ·exact ⟨_,e,Y32⟩
  ·exact ⟨_,e,(hm.thr th (Zaf ht).1).1 x (by rw [hl]; simp)⟩
 obtain ⟨r,e1,hr⟩:=htop
 obtain ⟨q,c1,c2,c3,c4⟩:=Y9x m hm v t
 have hrep:∃ p,Zbk m t a=some p∧Zdb m t a=some p∧Z48 p.1:=by
  rcases Ya9 m hm v t a ha with ⟨e,_,_,p1,p2⟩|⟨th,l,old,ht,hl,_,_,p1,p2⟩
  ·exact ⟨_,p1,p2,hm⟩
  ·have hw:=(hm.thr th (Zaf ht).1).1
   have h64':=h64 th (Zaf ht).1
   rw [hl] at h64'
   simp only [List.length_append,List.length_cons,List.length_nil] at h64'
   refine ⟨_,p1,p2,hm.set ht (by simp only [List.length_append,List.length_cons,List.length_nil]; omega) fun y hy=>?_⟩
   rcases List.mem_append.1 hy with hy|hy
   ·exact hw y (by rw [hl]; simp [hy])
   ·rcases List.mem_singleton.1 hy with rfl
    exact ha
 obtain ⟨p,p1,p2,hp⟩:=hrep
 unfold j6x1
 rw [← Zpo,e1,c1,c2,p1,p2,Zzk]
 simp only [Option.bind_some,beq_self_eq_true,if_true]
 rw [Y01 _ hr]
 simp only [Option.bind_some,if_true]
 rw [eq_one _ c3 c4]
 simp only [Option.bind_some,if_true]
 rw [eq_mach _ hp]
 rfl
end Go.Proofs
