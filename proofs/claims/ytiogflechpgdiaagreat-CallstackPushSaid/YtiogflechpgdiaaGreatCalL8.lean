/-
  Threads and activations: the program and the reference alike. No condition.
-/
import Derived.Test.YtiogflechpgdiaaGreatCalL1
import Derived.Test.YtiogflechpgdiaaGreatCal10
set_option linter.unusedVariables false
namespace Go.Proofs
open Go.Den Go.Tot
def Z90 (m:Z09) (t:Int) (th:Z13) (l:List Z10):Z09:={ m with Z0n:=m.Z0n.set t.toNat { th with Z0y:=l } }
theorem idx_of {α:Type} {l:List α} {t:Int} {x:α} (h:Z01 l t=some x):Z3u t l.length=some t.toNat∧l[t.toNat]?=some x∧0≤t∧t<l.length:=by
 obtain ⟨_,h0,hx⟩:=Z58 h
 have hlt:t.toNat<l.length:=(List.getElem?_eq_some_iff.1 hx).1
 have:t<l.length:=by omega
 exact ⟨by unfold Z3u; rw [if_pos ⟨h0,this⟩],hx,h0,this⟩
theorem Zuj (m:Z09) (t:Int) (l:List Z10) (hL:m.Z0n.length≤1000) {th:Z13} (ht:Z01 m.Z0n t=some th):
  Zgj m t l=some (Z90 m t th l)∧Zf2 m t l=some (Z90 m t th l):=by
 obtain ⟨h1,h2,_,_⟩:=idx_of ht
 have hg:Z17 80 (([]:List Z13)++m.Z0n).length=some ():=Z7h 80 (by simp only [List.nil_append]; omega) (by decide)
 unfold Zgj Zf2 Zsh
 rw [hg]
 simp only [Option.bind_some,List.nil_append,h1,h2]
 exact ⟨rfl,rfl⟩
theorem Y8t (m:Z09) (t:Int):Z71 m t=Ztg m t:=rfl
def Za1:Z10:={ Z0z:=0,Z53:=0,f_PC:=0,Z0f:=([]:List Z0b),Z0g:=([]:List Z0b),Z6y:=0,Z6q:=false,Z7l:=false }
theorem Ybq (m:Z09) (t:Int) (hA:∀ th∈m.Z0n,th.Z0y.length≤64):
  (Z71 m t=some (Za1,2)∧Z89 m t=some false)∨
  (∃ th,Z01 m.Z0n t=some th∧th.Z0y=[]∧Z71 m t=some (Za1,61))∨
  (∃ th l a,Z01 m.Z0n t=some th∧th.Z0y=l++[a]∧Z71 m t=some (a,0)):=by
 unfold Z71 Z89
 by_cases h1:t≥0
 ·rw [if_pos (decide_eq_true h1)]
  by_cases h2:t<(m.Z0n.length:Int)
  ·obtain ⟨th,e,hm⟩:=gr (l:=m.Z0n) (i:=t) h1 h2
   have h64:=hA th hm
   rw [decide_eq_true h2,e]
   simp only [Option.bind_some,Bool.not_true,Bool.false_eq_true,if_false]
   rcases List.eq_nil_or_concat th.Z0y with h|⟨l,a,h⟩
   ·rw [h]
    exact .inr (.inl ⟨th,rfl,h,rfl⟩)
   ·rw [List.concat_eq_append] at h
    have hlen:th.Z0y.length=l.length+1:=by rw [h]; simp
    rw [if_neg (by rw [hlen]; simp; omega),Z6f (by omega) (by omega)]
    have:Z01 th.Z0y ((th.Z0y.length:Int) - 1)=some a:=by
     unfold Z01
     rw [if_pos (by omega),hlen,h,show ((l.length+1:Nat):Int) - 1=(l.length:Int) by omega,Int.toNat_natCast]
     simp
    simp only [Option.bind_some,this]
    exact .inr (.inr ⟨th,l,a,rfl,h,rfl⟩)
  ·rw [decide_eq_false h2]
   exact .inl ⟨rfl,rfl⟩
 ·rw [if_neg (by simpa using h1)]
  exact .inl ⟨rfl,rfl⟩
theorem Y6x (m:Z09) (t:Int) (hL:m.Z0n.length≤1000) (hA:∀ th∈m.Z0n,th.Z0y.length≤64):
  (∃ e,e≠0∧Z71 m t=some (Za1,e)∧Zdf m t=some (m,Za1,e)∧Zig m t=some (m,Za1,e))∨
  ∃ th l a,Z01 m.Z0n t=some th∧th.Z0y=l++[a]∧Z71 m t=some (a,0)∧Zdf m t=some (Z90 m t th l,a,0)∧Zig m t=some (Z90 m t th l,a,0):=by
 unfold Zdf Zig
 rw [← Y8t]
 rcases Ybq m t hA with ⟨h,_⟩|⟨th,_,_,h⟩|⟨th,l,a,ht,hl,h⟩
 ·rw [h]; exact .inl ⟨2,by decide,rfl,rfl,rfl⟩
 ·rw [h]; exact .inl ⟨61,by decide,rfl,rfl,rfl⟩
 ·refine .inr ⟨th,l,a,ht,hl,h,?_⟩
  have h64:=hA th (Z58 ht).1
  have hlen:th.Z0y.length=l.length+1:=by rw [hl]; simp
  rw [h]
  simp only [Option.bind_some]
  rw [if_neg (by decide),if_neg (by decide),ht]
  simp only [Option.bind_some]
  rw [Z6f (by omega) (by omega)]
  have hs:sub th.Z0y 0 ((th.Z0y.length:Int) - 1)=some l:=by
   unfold sub
   rw [if_pos ⟨by omega,by omega,by omega⟩,hlen,show ((l.length+1:Nat):Int) - 1=(l.length:Int) by omega,hl]
   simp
  have hc:Zcb l=some l:=by
   unfold Zcb
   have:sub l 0 (l.length:Int)=some l:=by unfold sub; rw [if_pos ⟨by omega,by omega,by omega⟩]; simp
   rw [this]; rfl
  have hg:Z17 88 l.length=some ():=Z7h 88 (by omega) (by decide)
  obtain ⟨k1,k2⟩:=Zuj m t l hL ht
  simp only [Option.bind_some,hs,hc,hg,List.nil_append,k1,k2]
  trivial
def addT (m:Z09) (obj:Int):Z09:={ m with Z0n:=m.Z0n++[{ Z2m:=0,Z3x:=0,Z39:=0,Z0y:=([]:List Z10),Z3f:=obj,Z4l:=0,Z37:=({ Z1e:=0,f_N:=0 }:Z0b) }] }
theorem Ycr (m:Z09) (obj:Int) (hH:m.Z1n.length≤140737488355328) (hL:m.Z0n.length≤8):
  ∃ r,Zfj m obj=some r∧Zk3 m obj=some r∧((r.2.2≠0∧r.1=m)∨(r.2.2=0∧r.1=addT m obj∧r.2.1=m.Z0n.length)):=by
 obtain ⟨b,o,e1,e2⟩:=Y2k m obj hH
 have hj:∃ r,Zfk m obj=some r∧Zfa m obj=some r∧((r.2.2≠0∧r.1=m)∨(r.2.2=0∧r.1=addT m obj∧r.2.1=m.Z0n.length)):=by
  unfold Zfk Zfa
  by_cases h:(m.Z0n.length:Int)≥8
  ·rw [if_pos (decide_eq_true h),if_pos (decide_eq_true h)]
   exact ⟨_,rfl,rfl,.inl ⟨by simp,rfl⟩⟩
  ·rw [if_neg (by simpa using h),if_neg (by simpa using h)]
   have hc:Zmc m.Z0n=some m.Z0n:=by
    unfold Zmc
    have:sub m.Z0n 0 (m.Z0n.length:Int)=some m.Z0n:=by unfold sub; rw [if_pos ⟨by omega,by omega,by omega⟩]; simp
    rw [this]; rfl
   have hg:∀ x:Z13,Z17 80 (m.Z0n++[x]).length=some ():=fun x=>Z7h 80 (by simp only [List.length_append,List.length_cons,List.length_nil]; omega) (by decide)
   have hg0:Z17 80 m.Z0n.length=some ():=Z7h 80 (by omega) (by decide)
   have hf:∀ x:Z13,Z8c m.Z0n [x]=some ():=fun x=>by
    unfold Z8c
    rw [if_pos (.inr (by simp))]
   simp only [hc,Option.bind_some,hg,hg0,hf,List.nil_append]
   exact ⟨_,rfl,rfl,.inr ⟨rfl,rfl,rfl⟩⟩
 obtain ⟨r,j1,j2,j3⟩:=hj
 unfold Zfj Zk3
 rw [e2,e1]
 simp only [Option.bind_some]
 by_cases h0:(obj !=0)=true
 ·rw [if_pos h0,if_pos h0]
  cases b with
  | false=>exact ⟨_,rfl,rfl,.inl ⟨by simp,rfl⟩⟩
  | true=>exact ⟨r,j1,j2,j3⟩
 ·rw [if_neg h0,if_neg h0]
  exact ⟨r,j1,j2,j3⟩
end Go.Proofs
namespace Go.Proofs
open Go.Den Go.Tot
theorem allD {R:Type} {n:Nat} (hn:n≤140737488355328) (d:R) (g:Int→Option Bool) {f:Int→Option (Ctl Int (Unit⊕R))} (hg:∀ t:Int,0≤t→t<n→∃ b,g t=some b)
  (hf:∀ t:Int,0≤t→t≤n→f t=if decide (t<(n:Int))=true then ((g t).bind fun v=>if (!v)=true then some (.done (.inr d)) else ((some (IntKind.wrap .i64 (t+1))).bind fun k=>some (.next k))) else some (.done (.inl ()))):
  (Z04 f Z05 0=some (.inl ())∧∀ t:Int,0≤t→t<n→g t=some true)∨(Z04 f Z05 0=some (.inr d)∧∃ t:Int,0≤t∧t<n∧g t=some false):=by
 have h:Ok (Z04 f Z05 0) (fun q=>(q=.inl ()∧∀ t:Int,0≤t→t<n→g t=some true)∨(q=.inr d∧∃ t:Int,0≤t∧t<n∧g t=some false)):=by
  refine lp (fun t=>t) n (fun t=>∀ j:Int,0≤j→j<t→g j=some true) (fun t hI h0 h1=>?_) (by omega) (fun j h h'=>by omega) (by omega) (by omega)
  rw [hf t h0 h1]
  refine brD (fun hlt=>?_) fun hge=>dn (.inl ⟨rfl,fun j h h'=>hI j h (by omega)⟩)
  obtain ⟨b,hb⟩:=hg t h0 hlt
  rw [hb]
  cases b with
  | false=>exact ⟨_,rfl,.inr ⟨rfl,t,h0,hlt,hb⟩⟩
  | true=>
   refine bs (br! (fun h=>by cases h) fun _=>bd wr fun k hk=>nx (fun j hj hj'=>?_) (by omega) (by omega))
   rcases Int.lt_or_le j t with h|h
   ·exact hI j hj h
   ·rw [show j=t by omega]; exact hb
 obtain ⟨q,e,h⟩:=h
 rcases h with ⟨rfl,h⟩|⟨rfl,h⟩
 ·exact .inl ⟨e,h⟩
 ·exact .inr ⟨e,h⟩
def gP (l:List Int) (n:Int) (s:List Z0b) (t:Int):Option Bool:=(Z01 l t).bind fun k=>(Z01 s (n+t)).bind fun y=>some (y.Z1e==k)
theorem f19 (l:List Int) (n:Int) (a:Z10) (h0:0≤n) (h1:n+l.length=a.Z0g.length) (hs:a.Z0g.length≤1000):
  (∀ t:Int,0≤t→t<(l.length:Nat)→∃ b,gP l n a.Z0g t=some b)∧
  (∀ t:Int,0≤t→t≤(l.length:Nat)→Zo5 l n a t=if decide (t<((l.length:Nat):Int))=true then ((gP l n a.Z0g t).bind fun v=>if (!v)=true then some (.done (.inr (([]:List Z0b),a,(22:Int)))) else ((some (IntKind.wrap .i64 (t+1))).bind fun k=>some (.next k))) else some (.done (.inl ())))∧
  (∀ t:Int,0≤t→t≤(l.length:Nat)→Zn1 l n a t=if decide (t<((l.length:Nat):Int))=true then ((gP l n a.Z0g t).bind fun v=>if (!v)=true then some (.done (.inr (([]:List Z0b),a,(22:Int)))) else ((some (IntKind.wrap .i64 (t+1))).bind fun k=>some (.next k))) else some (.done (.inl ()))):=by
 have key:∀ t:Int,0≤t→t<(l.length:Nat)→∃ k y,Z01 l t=some k∧Z01 a.Z0g (n+t)=some y:=fun t p q=>by
  obtain ⟨k,ek,_⟩:=gr (l:=l) (i:=t) p q
  obtain ⟨y,ey,_⟩:=gr (l:=a.Z0g) (i:=n+t) (by omega) (by omega)
  exact ⟨k,y,ek,ey⟩
 refine ⟨fun t p q=>?_,fun t p q=>?_,fun t p q=>?_⟩
 ·obtain ⟨k,y,ek,ey⟩:=key t p q
  unfold gP
  rw [ek]; simp only [Option.bind_some,ey]
  exact ⟨_,rfl⟩
 ·unfold Zo5 gP
  by_cases hlt:t<((l.length:Nat):Int)
  ·obtain ⟨k,y,ek,ey⟩:=key t p hlt
   rw [if_pos (decide_eq_true hlt),if_pos (decide_eq_true hlt),ek,Z6f (n:=n+t) (by omega) (by omega)]
   simp only [Option.bind_some,ey]
   rfl
  ·rw [if_neg (by simpa using hlt),if_neg (by simpa using hlt)]
 ·unfold Zn1 gP
  by_cases hlt:t<((l.length:Nat):Int)
  ·obtain ⟨k,y,ek,ey⟩:=key t p hlt
   rw [if_pos (decide_eq_true hlt),if_pos (decide_eq_true hlt),ek,Z6f (n:=n+t) (by omega) (by omega)]
   simp only [Option.bind_some,ey]
   rfl
  ·rw [if_neg (by simpa using hlt),if_neg (by simpa using hlt)]
theorem Zyk (l:List Z0b) (h:l.length≤1000):Zhv l=some l∧Z17 16 (([]:List Z0b)++l).length=some ():=by
 have hg:Z17 16 (([]:List Z0b)++l).length=some ():=Z7h 16 (by simp only [List.nil_append]; omega) (by decide)
 unfold Zhv
 rw [hg]
 exact ⟨rfl,rfl⟩
theorem Y8g (m:Z09) (h:Z3n m) (v:Z9d m) (c w:Int) (a:Z10) (hs:a.Z0g.length≤1000):
  (∃ e,e≠0∧Zcq m c w a=some ([],a,e)∧Zgl m c w a=some ([],a,e))∨
  ∃ k x l n,HasM m c w k x∧Zaw x=some l∧(n:Nat)+l.length=a.Z0g.length∧(∀ t:Int,0≤t→t<(l.length:Nat)→gP l n a.Z0g t=some true)∧
   Zcq m c w a=some (a.Z0g.drop n,{ a with Z0g:=a.Z0g.take n },0)∧Zgl m c w a=some (a.Z0g.drop n,{ a with Z0g:=a.Z0g.take n },0):=by
 unfold Zcq Zgl
 rcases Zyv m c w with ⟨e1,x,e2⟩|⟨e1,k,x,hm,e2⟩
 ·rw [e1,e2]
  exact .inl ⟨2,by decide,rfl,rfl⟩
 ·have hx :=(v.mok h) k (Z58 hm.1).1 x (Z58 hm.2).1
  obtain ⟨l,k1,k2,h17,_⟩:=Y4m x hx.1
  rw [e1,e2,Y2t m c w hm.1 hm.2]
  simp only [Option.bind_some,Bool.not_true,Bool.false_eq_true,if_false,k1,k2]
  rw [Z6f (by omega) (by omega)]
  by_cases hn:(a.Z0g.length:Int) - l.length<0
  ·rw [if_pos (decide_eq_true hn),if_pos (decide_eq_true hn)]
   exact .inl ⟨20,by decide,rfl,rfl⟩
  ·rw [if_neg (by simpa using hn),if_neg (by simpa using hn)]
   obtain ⟨g1,g2,g3⟩:=f19 l ((a.Z0g.length:Int) - l.length) a (by omega) (by omega) hs
   rcases allD (by omega) _ _ g1 g2 with ⟨q1,q2⟩|⟨q1,t,t0,t1,t2⟩
   ·rcases allD (by omega) _ _ g1 g3 with ⟨r1,r2⟩|⟨r1,t,t0,t1,t2⟩
    ·rw [q1,r1]
     have hnn:(a.Z0g.length:Int) - l.length=((a.Z0g.length - l.length:Nat):Int):=by omega
     have s1:sub a.Z0g ((a.Z0g.length:Int) - l.length) (a.Z0g.length:Int)=some (a.Z0g.drop (a.Z0g.length - l.length)):=by
      rw [hnn]; exact Zdq _ _ (by omega)
     have s2:sub a.Z0g 0 ((a.Z0g.length:Int) - l.length)=some (a.Z0g.take (a.Z0g.length - l.length)):=by
      rw [hnn]
      have:=Zwe a.Z0g 0 (a.Z0g.length - l.length) (by omega) (by omega)
      simpa using this
     obtain ⟨c1,c2⟩:=Zyk (a.Z0g.drop (a.Z0g.length - l.length)) (by rw [List.length_drop]; omega)
     obtain ⟨c3,c4⟩:=Zyk (a.Z0g.take (a.Z0g.length - l.length)) (by rw [List.length_take]; omega)
     refine .inr ⟨k,x,l,a.Z0g.length - l.length,hm,k1,by omega,fun t a b=>by rw [← hnn]; exact q2 t a b,?_,?_⟩
     ·simp only [Option.bind_some,s1,s2,c1,c3]
     ·simp only [Option.bind_some,s1,s2]
      rw [c2,c4]
      rfl
    ·rw [q2 t t0 t1] at t2; cases t2
   ·rcases allD (by omega) _ _ g1 g3 with ⟨r1,r2⟩|⟨r1,_⟩
    ·rw [r2 t t0 t1] at t2; cases t2
    ·rw [q1,r1]
     exact .inl ⟨22,by decide,rfl,rfl⟩
end Go.Proofs
namespace Go.Proofs
open Go.Den Go.Tot
theorem Y02 (m:Z09) (t:Int):Z89 m t=some false∨(Z89 m t=some true∧∃ th,Z01 m.Z0n t=some th):=by
 unfold Z89
 by_cases h1:t≥0
 ·rw [if_pos (decide_eq_true h1)]
  by_cases h2:t<(m.Z0n.length:Int)
  ·obtain ⟨th,e,_⟩:=gr (l:=m.Z0n) (i:=t) h1 h2
   exact .inr ⟨by rw [decide_eq_true h2],th,e⟩
  ·exact .inl (by rw [decide_eq_false h2])
 ·exact .inl (by rw [if_neg (by simpa using h1)])
def Z7p:Z0b:={ Z1e:=0,f_N:=0 }
def Z9j (c w:Int) (l:List Z0b):Z10:={ Z0z:=c,Z53:=w,f_PC:=0,Z0f:=l,Z0g:=([]:List Z0b),Z6y:=0,Z6q:=false,Z7l:=false }
def gA (l:List Int) (m:Z09) (s:List Z0b) (t:Int):Option Bool:=(Z01 s t).bind fun a=>(Z01 l t).bind fun k=>if (a.Z1e !=k)=true then some false else Z7a m a
def gB (z:Bool) (l:List Int) (m:Z09) (s:List Z0b) (t:Int):Option Bool:=(gA l m s t).bind fun b=>if (!b)=true then some false else if (t==0)=true then (if z=true then (Z01 s t).bind fun a=>some (!(a.f_N==0)) else some true) else some true
theorem f14 (x:Z1u) (l:List Int) (m:Z09) (s:List Z0b) (hH:m.Z1n.length≤140737488355328) (h1:s.length=l.length):
  (∀ t:Int,0≤t→t<(s.length:Nat)→∃ b,gA l m s t=some b)∧(∀ t:Int,0≤t→t<(s.length:Nat)→∃ b,gB (Z2f .i64 x.Z0v 8==0) l m s t=some b)∧
  (∀ t:Int,0≤t→t≤(s.length:Nat)→Zpw l m s t=if decide (t<((s.length:Nat):Int))=true then ((gA l m s t).bind fun v=>if (!v)=true then some (.done (.inr (m,(22:Int)))) else ((some (IntKind.wrap .i64 (t+1))).bind fun k=>some (.next k))) else some (.done (.inl ())))∧
  (∀ t:Int,0≤t→t≤(s.length:Nat)→Zcj x l m s t=if decide (t<((s.length:Nat):Int))=true then ((gB (Z2f .i64 x.Z0v 8==0) l m s t).bind fun v=>if (!v)=true then some (.done (.inr (m,(22:Int)))) else ((some (IntKind.wrap .i64 (t+1))).bind fun k=>some (.next k))) else some (.done (.inl ()))):=by
 have key:∀ t:Int,0≤t→t<(s.length:Nat)→∃ a k b,Z01 s t=some a∧Z01 l t=some k∧Z7a m a=some b:=fun t p q=>by
  obtain ⟨a,ea,_⟩:=gr (l:=s) (i:=t) p q
  obtain ⟨k,ek,_⟩:=gr (l:=l) (i:=t) p (by omega)
  obtain ⟨b,eb,_⟩:=Zja m a hH
  exact ⟨a,k,b,ea,ek,eb⟩
 refine ⟨fun t p q=>?_,fun t p q=>?_,fun t p q=>?_,fun t p q=>?_⟩
 ·obtain ⟨a,k,b,ea,ek,eb⟩:=key t p q
  unfold gA
  simp only [ea,ek,Option.bind_some,eb]
  split <;> exact ⟨_,rfl⟩
 ·obtain ⟨a,k,b,ea,ek,eb⟩:=key t p q
  unfold gB gA
  simp only [ea,ek,Option.bind_some,eb]
  cases (a.Z1e !=k) <;> cases b <;> cases (t==0) <;> cases (Z2f .i64 x.Z0v 8==0) <;> exact ⟨_,rfl⟩
 ·unfold Zpw gA
  by_cases hlt:t<((s.length:Nat):Int)
  ·obtain ⟨a,k,b,ea,ek,eb⟩:=key t p hlt
   rw [if_pos (decide_eq_true hlt),if_pos (decide_eq_true hlt)]
   simp only [ea,ek,Option.bind_some,Yba m a hH,eb]
   cases (a.Z1e !=k) <;> cases b <;> rfl
  ·rw [if_neg (by simpa using hlt),if_neg (by simpa using hlt)]
 ·unfold Zcj gB gA
  by_cases hlt:t<((s.length:Nat):Int)
  ·obtain ⟨a,k,b,ea,ek,eb⟩:=key t p hlt
   rw [if_pos (decide_eq_true hlt),if_pos (decide_eq_true hlt)]
   simp only [ea,ek,Option.bind_some,eb]
   cases (a.Z1e !=k) <;> cases b <;> cases (t==0) <;> cases (Z2f .i64 x.Z0v 8==0) <;> cases (a.f_N==0) <;> rfl
  ·rw [if_neg (by simpa using hlt),if_neg (by simpa using hlt)]
theorem Y97 (x:Z1u) (s:List Z0b) (hs:s.length≤1000) (hx:0≤x.Z1k.Z0f∧x.Z1k.Z0f≤32):Z04 (Zft x) Z05 s=some (s++List.replicate (x.Z1k.Z0f.toNat - s.length) Z7p):=by
 have h:Ok (Z04 (Zft x) Z05 s) (fun r=>r=s++List.replicate (x.Z1k.Z0f.toNat - s.length) Z7p):=by
  refine lp (fun t=>t.length) (s.length+32) (fun t=>∃ k,t=s++List.replicate k Z7p∧(0<k→(s.length+k:Int)≤x.Z1k.Z0f)) (fun t hI g0 g1=>?_) (by omega) ⟨0,by simp,by omega⟩ (by omega) (by omega)
  obtain ⟨k,rfl,hk⟩:=hI
  have hlen:(s++List.replicate k Z7p).length=s.length+k:=by simp
  unfold Zft
  refine brD (fun hlt=>?_) fun hge=>dn ?_
  ·refine bd (gk (by simp only [List.length_append,List.length_cons,List.length_nil,List.length_replicate]; omega) (by simp only [List.length_append,List.length_cons,List.length_nil,List.length_replicate]; omega)) fun _ _=>nx ⟨k+1,?_,fun _=>by omega⟩ (by simp only [List.length_append,List.length_cons,List.length_nil,List.length_replicate]; omega) (by simp only [List.length_append,List.length_cons,List.length_nil,List.length_replicate]; omega)
   rw [List.replicate_succ',List.append_assoc]; rfl
  ·congr 2
   by_cases h0:0<k
   ·have:=hk h0; omega
   ·omega
 obtain ⟨r,e,rfl⟩:=h
 exact e
inductive Zao (m:Z09) (t c w:Int) (s:List Z0b):Int→Prop
 | no (h:Zbv m c w=some false):Zao m t c w s 2
 | nt (h:Z89 m t=some false):Zao m t c w s 2
 | dead (th:Z13) (h:Z01 m.Z0n t=some th) (h4:th.Z2m=4):Zao m t c w s 61
 | ab:Zao m t c w s 38
 | many (k:Z1r) (x:Z1u) (l:List Int) (h:HasM m c w k x) (hk:Zaw x=some l) (hl:s.length≠l.length):Zao m t c w s 5
 | bad:Zao m t c w s 22
 | deep (th:Z13) (h:Z01 m.Z0n t=some th) (h64:64≤th.Z0y.length):Zao m t c w s 58
theorem Ybf (m:Z09) (h:Z3n m) (mk:∀ c∈m.Z12.Z11,MOk c.Z1m) (h100:m.Z0n.length≤1000) (t c w:Int) (s:List Z0b) (hs:s.length≤1000):
  (∃ e,e≠0∧Zao m t c w s e∧Zdj m t c w s=some (m,e)∧Zhh m t c w s=some (m,e))∨
  ∃ k x th l,HasM m c w k x∧Z01 m.Z0n t=some th∧x.Z3y=true∧th.Z2m≠4∧Zaw x=some l∧s.length=l.length∧(∀ j:Int,0≤j→j<(s.length:Nat)→gA l m s j=some true)∧
   ((Z2f .i64 x.Z0v 8==0)=true→∃ a,Z01 s 0=some a∧a.f_N≠0)∧th.Z0y.length<64∧
   Zdj m t c w s=some (Z90 m t th (th.Z0y++[Z9j c w (s++List.replicate (x.Z1k.Z0f.toNat - s.length) Z7p)]),0)∧
   Zhh m t c w s=some (Z90 m t th (th.Z0y++[Z9j c w (s++List.replicate (x.Z1k.Z0f.toNat - s.length) Z7p)]),0):=by
 have hH:=h.heapL
 unfold Zdj Zhh
 rw [← Y79]
 rcases Zyv m c w with ⟨e1,x,e2⟩|⟨e1,k,x,hm,e2⟩
 ·rw [e1,e2]
  rcases Y02 m t with ht|⟨ht,_⟩
  ·rw [ht]; exact .inl ⟨2,by decide,.no e1,rfl,rfl⟩
  ·rw [ht]; exact .inl ⟨2,by decide,.no e1,rfl,rfl⟩
 rw [e1,e2]
 rcases Y02 m t with ht|⟨ht,th,hth⟩
 ·rw [ht]; exact .inl ⟨2,by decide,.nt ht,rfl,rfl⟩
 rw [ht]
 simp only [Option.bind_some,Bool.not_true,Bool.false_eq_true,if_false]
 unfold j14x1 j15x1
 rw [hth,hm.1]
 simp only [Option.bind_some]
 rw [hm.2]
 by_cases hst:(th.Z2m==4)=true
 ·rw [if_pos hst,if_pos hst]; exact .inl ⟨61,by decide,.dead th hth (by simpa using hst),rfl,rfl⟩
 rw [if_neg hst,if_neg hst]
 simp only [Option.bind_some]
 cases hc:x.Z3y with
 | false=>exact .inl ⟨38,by decide,.ab,rfl,rfl⟩
 | true=>
 simp only [Bool.not_true,Bool.false_eq_true,if_false]
 obtain ⟨hx1,hx2⟩:=mk k (Z58 hm.1).1 x (Z58 hm.2).1
 have hloc:=hx2 hc
 obtain ⟨l,k1,k2,h17,hl1⟩:=Y4m x hx1
 rw [Y2t m c w hm.1 hm.2,k1,k2]
 simp only [Option.bind_some]
 by_cases hn:((s.length:Int)!=(l.length:Int))=true
 ·rw [if_pos hn,if_pos hn]; exact .inl ⟨5,by decide,.many k x l hm k1 (fun he=>by rw [he] at hn; simp at hn),rfl,rfl⟩
 rw [if_neg hn,if_neg hn]
 have hlen:s.length=l.length:=by
  have:(s.length:Int)=l.length:=by simpa using hn
  omega
 obtain ⟨g1,g2,g3,g4⟩:=f14 x l m s hH hlen
 rcases allD (by omega) _ _ g1 g3 with ⟨q1,q2⟩|⟨q1,j,j0,j1,j2⟩
 rotate_left
 ·rcases allD (by omega) _ _ g2 g4 with ⟨r1,r2⟩|⟨r1,_⟩
  ·have:=r2 j j0 j1
   unfold gB at this
   rw [j2] at this
   cases this
  ·rw [q1,r1]; exact .inl ⟨22,by decide,.bad,rfl,rfl⟩
 -- the arguments are of their kinds
 have hnull:(Z2f .i64 x.Z0v 8==0)=true→∃ a,Z01 s 0=some a:=fun hz=>by
  have:=hl1 hz
  obtain ⟨a,ea,_⟩:=gr (l:=s) (i:=0) (by omega) (by omega)
  exact ⟨a,ea⟩
 have hB:∀ j:Int,0≤j→j<(s.length:Nat)→((Z2f .i64 x.Z0v 8==0)=true→∃ a,Z01 s 0=some a∧a.f_N≠0)→gB (Z2f .i64 x.Z0v 8==0) l m s j=some true:=fun j j0 j1 hz=>by
  unfold gB
  rw [q2 j j0 j1]
  simp only [Option.bind_some,Bool.not_true,Bool.false_eq_true,if_false]
  by_cases hj:(j==0)=true
  ·rw [if_pos hj]
   by_cases hzz:(Z2f .i64 x.Z0v 8==0)=true
   ·rw [if_pos hzz]
    obtain ⟨a,ea,ha⟩:=hz hzz
    have:j=0:=by simpa using hj
    rw [this,ea]
    simp [ha]
   ·rw [if_neg hzz]
  ·rw [if_neg hj]
 have hbad:(Z2f .i64 x.Z0v 8==0)=true→∀ a,Z01 s 0=some a→a.f_N=0→Z04 (Zcj x l m s) Z05 0=some (.inr (m,22)):=fun hz a ea ha=>by
  rcases allD (by omega) _ _ g2 g4 with ⟨r1,r2⟩|⟨r1,_⟩
  ·have hpos:=hl1 hz
   have:=r2 0 (by omega) (by omega)
   unfold gB at this
   rw [q2 0 (by omega) (by omega)] at this
   simp only [Option.bind_some,Bool.not_true,Bool.false_eq_true,if_false] at this
   rw [if_pos (by rfl),if_pos hz,ea] at this
   simp [ha] at this
  ·exact r1
 have hloop:((Z2f .i64 x.Z0v 8==0)=true→∃ a,Z01 s 0=some a∧a.f_N≠0)→Z04 (Zcj x l m s) Z05 0=some (.inl ()):=fun hz=>by
  rcases allD (by omega) _ _ g2 g4 with ⟨r1,_⟩|⟨_,j,j0,j1,j2⟩
  ·exact r1
  ·rw [hB j j0 j1 hz] at j2; cases j2
 rw [q1]
 simp only [Option.bind_some]
 by_cases hg:(Z2f .i64 x.Z0v 8==0)=true→∃ a,Z01 s 0=some a∧a.f_N≠0
 ·have hp:∀ F:Option (Z09×Int),(if (Z2f .i64 x.Z0v 8==0)=true then (Z01 s 0).bind (fun v12=>if (v12.f_N==0)=true then some (m,22) else F) else F)=F:=fun F=>by
   by_cases hz:(Z2f .i64 x.Z0v 8==0)=true
   ·obtain ⟨a,ea,ha⟩:=hg hz
    rw [if_pos hz,ea]
    simp only [Option.bind_some]
    rw [if_neg (by simpa using ha)]
   ·rw [if_neg hz]
  rw [hp,hloop hg]
  simp only [Option.bind_some]
  unfold Zpg
  rw [hth]
  simp only [Option.bind_some]
  by_cases h64:(th.Z0y.length:Int)≥64
  ·simp only [decide_eq_true h64,if_true]
   exact .inl ⟨58,by decide,.deep th hth (by omega),rfl,rfl⟩
  simp only [decide_eq_false h64,Bool.false_eq_true,if_false]
  refine .inr ⟨k,x,th,l,hm,rfl,hc,by simpa using hst,k1,hlen,q2,hg,by omega,?_,?_⟩
  ·have hv:(if x.Z1k.Z0f>((s.length:Int):Int) then x.Z1k.Z0f else (s.length:Int))=((max x.Z1k.Z0f.toNat s.length:Nat):Int):=by
    have:=hloc.1
    split <;> omega
   have hmax:max x.Z1k.Z0f.toNat s.length≤1032:=by have:=hloc.1; have:=hloc.2; omega
   have e1:Z7o 16 ((max x.Z1k.Z0f.toNat s.length:Nat):Int) ((max x.Z1k.Z0f.toNat s.length:Nat):Int)=some ():=by
    unfold Z7o; rw [if_pos ⟨by omega,by omega,by omega,by omega⟩]
   have e2:W.Zh6 (List.replicate ((max x.Z1k.Z0f.toNat s.length:Nat):Int).toNat ({ Z1e:=0,f_N:=0 }:Z0b)) s=some (s++List.replicate (x.Z1k.Z0f.toNat - s.length) Z7p):=by
    unfold W.Zh6
    rw [Int.toNat_natCast,if_pos (by simp only [List.length_replicate]; omega),List.drop_replicate,show max x.Z1k.Z0f.toNat s.length - s.length=x.Z1k.Z0f.toNat - s.length by omega]
    rfl
   have e3:Zcb th.Z0y=some th.Z0y:=by
    unfold Zcb
    have:sub th.Z0y 0 (th.Z0y.length:Int)=some th.Z0y:=by unfold sub; rw [if_pos ⟨by omega,by omega,by omega⟩]; simp
    rw [this]; rfl
   have e4:∀ a:Z10,Z8c th.Z0y [a]=some ():=fun a=>by unfold Z8c; rw [if_pos (.inr (by simp))]
   have e5:∀ a:Z10,Z17 88 (th.Z0y++[a]).length=some ():=fun a=>Z7h 88 (by simp only [List.length_append,List.length_cons,List.length_nil]; omega) (by decide)
   rw [hv,e1]
   simp only [Option.bind_some,e2,e3,e4,e5]
   have:=(Zuj m t (th.Z0y++[Z9j c w (s++List.replicate (x.Z1k.Z0f.toNat - s.length) Z7p)]) (by omega) hth).1
   unfold Z9j at this
   unfold Z9j
   first|rw [this]; done|(rw [this]; rfl)|(rw [show ({ Z1e:=0,f_N:=0 }:Z0b)=Z7p from rfl]; rw [this]; rfl)
  ·have e1:Z17 16 (([]:List Z0b)++s).length=some ():=Z7h 16 (by simp only [List.nil_append]; omega) (by decide)
   have e2:Z17 88 (([]:List Z10)++th.Z0y).length=some ():=Z7h 88 (by simp only [List.nil_append]; omega) (by decide)
   have e3:∀ a,Z17 88 ((([]:List Z10)++th.Z0y)++[a]).length=some ():=fun a=>Z7h 88 (by simp only [List.nil_append,List.length_append,List.length_cons,List.length_nil]; omega) (by decide)
   rw [e1]
   simp only [Option.bind_some,List.nil_append] at e2 e3 ⊢
   rw [Y97 x s hs ⟨hloc.1,hloc.2⟩]
   simp only [Option.bind_some]
   rw [e2,e3]
   simp only [Option.bind_some]
   rw [(Zuj m t _ (by omega) hth).2]
   rfl
 ·have hz:(Z2f .i64 x.Z0v 8==0)=true:=Classical.byContradiction fun h=>hg fun h'=>absurd h' h
  obtain ⟨a,ea⟩:=hnull hz
  have h0:a.f_N=0:=Classical.byContradiction fun h=>hg fun _=>⟨a,ea,h⟩
  rw [if_pos hz,hbad hz a ea h0,ea]
  simp only [Option.bind_some]
  rw [if_pos (by simpa using h0)]
  exact .inl ⟨22,by decide,.bad,rfl,rfl⟩
end Go.Proofs
namespace Go.Proofs
open Go.Den Go.Tot
end Go.Proofs
namespace Go.Proofs
open Go.Den Go.Tot
end Go.Proofs
namespace Go.Proofs
open Go.Den Go.Tot
theorem rfL {α:Type} (l:List α) {f:Int→Option (Ctl Int (Unit⊕Bool))} (hm:l.length≤4503599627370496) (h:∀ (t:Int) v,t<l.length→v∈l→Z01 l t=some v→IntKind.wrap .i64 (t+1)=t+1→f t=some (.next (t+1))) (he:∀ t:Int,¬t<l.length→f t=some (.done (.inl ()))):
  Z04 f Z05 0=some (.inl ()):=by
 have:Ok (Z04 f Z05 0) (fun q=>q=.inl ()):=by
  refine li l.length (fun t h0 h1=>?_) (by omega) (by omega) (by omega)
  rcases Int.lt_or_le t l.length with hlt|hge
  ·obtain ⟨v,e,hv,_⟩:=gri (l:=l) h0 hlt
   rw [h t v hlt hv e (Z6f (by omega) (by omega))]
   exact ni (by omega) (by omega)
  ·rw [he t (by omega)]; exact di rfl
 obtain ⟨q,e,rfl⟩:=this
 exact e
theorem Zxn (l:List (List UInt8)) (h:l.length≤4503599627370496):Zh1 l l=some true:=by
 unfold Zh1
 rw [rfL l h (fun t v h1 hv e hw=>by unfold Zju; rw [if_pos (decide_eq_true h1),e]; simp [hw]) fun t h=>by unfold Zju; rw [if_neg (by simpa using h)]]
 simp
theorem Zzl (l:List Z0l) (h:l.length≤4503599627370496):Zg2 l l=some true:=by
 unfold Zg2
 rw [rfL l h (fun t v h1 hv e hw=>by unfold Zli; rw [if_pos (decide_eq_true h1),e]; simp [hw,Zsj,Zqc]) fun t h=>by unfold Zli; rw [if_neg (by simpa using h)]]
 simp
theorem Yc5 (f:Z5n) (h:Z91 f):Znu f f=some true:=by
 unfold Znu
 rw [Zzl _ (by have:=h.locL; omega),Zzl _ (by have:=h.stkL; omega)]
 simp
theorem eq_maps (l:List Z0t) (h:l.length≤4503599627370496) (hf:∀ m∈l,Z91 m.Z1v):Znq l l=some true:=by
 unfold Znq
 rw [rfL l h (fun t v h1 hv e hw=>by unfold Zq5; rw [if_pos (decide_eq_true h1),e]; simp [hw,Yc5 _ (hf v hv)]) fun t h=>by unfold Zq5; rw [if_neg (by simpa using h)]]
 simp
theorem Y34 (l:List Int) (h:l.length≤4503599627370496):Zfu l l=some true:=by
 unfold Zfu
 rw [rfL l h (fun t v h1 hv e hw=>by unfold Zl2; rw [if_pos (decide_eq_true h1),e]; simp [hw]) fun t h=>by unfold Zl2; rw [if_neg (by simpa using h)]]
 simp
theorem eq_insn (i:Z02) (h:Z3e i):Zjs i i=some true:=by
 unfold Zjs
 rw [Y34 _ (by have:=h.keys; omega),Y34 _ (by have:=h.tos; omega)]
 simp [Zci]
theorem eq_code (c:Z0a) (h:Z5u c):Zpo c c=some true:=by
 unfold Zpo Ztc
 rw [eq_maps _ (by have:=h.mapL; omega) h.map,
  rfL c.Z0p (by have:=h.insL; omega) (fun t v h1 hv e hw=>by unfold Zm8; rw [if_pos (decide_eq_true h1),e]; simp [hw,eq_insn _ (h.ins v hv)]) fun t h=>by unfold Zm8; rw [if_neg (by simpa using h)]]
 simp only [Option.bind]
 rw [rfL c.Z25 (by have:=h.hndL; omega) (fun t v h1 hv e hw=>by unfold Zp2; rw [if_pos (decide_eq_true h1),e]; simp [hw,Ztv]) fun t h=>by unfold Zp2; rw [if_neg (by simpa using h)]]
 simp only []
 rw [rfL c.Z1x (by have:=h.linL; omega) (fun t v h1 hv e hw=>by unfold Zl7; rw [if_pos (decide_eq_true h1),e]; simp [hw,Zub]) fun t h=>by unfold Zl7; rw [if_neg (by simpa using h)]]
 simp
theorem Y9n (u:Z0u) (h:Z5j u):Zjb u u=some true:=by
 unfold Zjb Zry
 rw [Zxn _ (by have:=h.ifsL; omega),
  rfL u.Z1d (by have:=h.fldL; omega) (fun t v h1 hv e hw=>by unfold Zoh; rw [if_pos (decide_eq_true h1),e]; simp [hw,Zvf]) fun t h=>by unfold Zoh; rw [if_neg (by simpa using h)]]
 simp only [Option.bind]
 rw [rfL u.Z0k (by have:=h.metL; omega) (fun t v h1 hv e hw=>by unfold Zl1; rw [if_pos (decide_eq_true h1),e]; simp [hw,eq_code _ (h.met v hv).code,Zxn _ (show v.Z67.length≤_ by have:=(h.met v hv).excL; omega)]) fun t h=>by unfold Zl1; rw [if_neg (by simpa using h)]]
 simp
theorem Y8q (l:List Z1r) (hl:l.length≤140737488355328) (h:∀ c∈l,Z5j c.Z1m∧c.Z1f.length≤140737488355328):Znk l l=some true:=by
 unfold Znk
 rw [rfL l (by omega) (fun t v h1 hv e hw=>by
  unfold Znv j76x1
  have hi:Z04 (Zgx v v) Z05 0=some (.inl ()):=rfL v.Z1f (by have:=(h v hv).2; omega) (fun t v h1 hv e hw=>by unfold Zgx; rw [if_pos (decide_eq_true h1),e]; simp [hw]) fun t h=>by unfold Zgx; rw [if_neg (by simpa using h)]
  rw [if_pos (decide_eq_true h1),e]
  simp [hw,Y9n _ (h v hv).1,hi]) fun t h=>by unfold Znv; rw [if_neg (by simpa using h)]]
 simp
theorem Y86 (l:List Z1c) (hl:l.length≤140737488355328) (h:∀ c∈l,Z7r c):Zk6 l l=some true:=by
 unfold Zk6
 rw [rfL l (by omega) (fun t v h1 hv e hw=>by
  unfold Zmt j75x1
  have h2:Z04 (Zi8 t l l) Z05 0=some (.inl ()):=rfL v.Z3z (by have:=(h v hv).delL; omega) (fun t v h1 hv e' hw=>by unfold Zi8; rw [e]; dsimp only [Option.bind]; rw [if_pos (decide_eq_true h1),e']; simp [hw,Zvg]) fun t h=>by unfold Zi8; rw [e]; dsimp only [Option.bind]; rw [if_neg (by simpa using h)]
  have h3:Z04 (Zhe t l l) Z05 0=some (.inl ()):=rfL v.Z3m (by have:=(h v hv).stoL; omega) (fun t v h1 hv e' hw=>by unfold Zhe; rw [e]; dsimp only [Option.bind]; rw [if_pos (decide_eq_true h1),e']; simp [hw,Zsa]) fun t h=>by unfold Zhe; rw [e]; dsimp only [Option.bind]; rw [if_neg (by simpa using h)]
  rw [if_pos (decide_eq_true h1),e]
  simp [hw,h2,h3]) fun t h=>by unfold Zmt; rw [if_neg (by simpa using h)]]
 simp
theorem Y9q (w:Z0w) (h:Z5e w):Znw w w=some true:=by
 unfold Znw j39x1
 rw [Y86 _ h.lodL h.lod,Y8q _ h.clsL h.cls,
  rfL w.Z2e (by have:=h.iniL; omega) (fun t v h1 hv e hw=>by unfold Zng; rw [if_pos (decide_eq_true h1),e]; simp [hw,Zvm]) fun t h=>by unfold Zng; rw [if_neg (by simpa using h)]]
 simp only [Option.bind]
 rw [rfL w.Z2y (by have:=h.conL; omega) (fun t v h1 hv e hw=>by unfold Zoi; rw [if_pos (decide_eq_true h1),e]; simp [hw,Zu0]) fun t h=>by unfold Zoi; rw [if_neg (by simpa using h)]]
 simp
end Go.Proofs
namespace Go.Proofs
open Go.Den Go.Tot
theorem Zdl (l:List Z0b) (h:l.length≤140737488355328):Z8x l l=some true:=by
 unfold Z8x
 rw [rfL l (by omega) (fun t v h1 hv e hw=>by unfold Zn7 j21x1; rw [if_pos (decide_eq_true h1),if_pos (decide_eq_true h1),e]; simp [hw,Z3l]) fun t h=>by unfold Zn7; rw [if_neg (by simpa using h)]]
 simp
theorem eq_wset (l:List Int) (h:l.length≤140737488355328):Zla l l=some true:=by
 unfold Zla
 rw [rfL l (by omega) (fun t v h1 hv e hw=>by unfold Zjk Zu8; rw [if_pos (decide_eq_true h1),if_pos (decide_eq_true h1),e]; simp [hw]) fun t h=>by unfold Zjk; rw [if_neg (by simpa using h)]]
 simp
theorem eq_obj (o:Z2d) (h:WObj o):Zol o o=some true:=by
 unfold Zol
 rw [Zdl _ h.val,eq_wset _ h.ws]
 simp [Zc7]
theorem Zgq (a:Z10) (h:Z9a a):Zef a a=some true:=by
 unfold Zef
 rw [Zdl _ h.loc,Zdl _ h.stk]
 simp
theorem Yb1 (t:Z13) (h:(∀ a∈t.Z0y,Z9a a)∧t.Z0y.length≤140737488355328):Zl9 t t=some true:=by
 unfold Zl9 j74x1
 rw [rfL t.Z0y (by have:=h.2; omega) (fun i v h1 hv e hw=>by unfold Zkr; rw [if_pos (decide_eq_true h1),e]; simp [hw,Zgq v (h.1 v hv)]) fun i h=>by unfold Zkr; rw [if_neg (by simpa using h)]]
 simp [Z3l]
theorem Ybo (l:List Z3d) (hl:l.length≤140737488355328) (h:∀ b∈l,b.Z85.length≤140737488355328):Zk8 l l=some true:=by
 unfold Zk8
 rw [rfL l (by omega) (fun t v h1 hv e hw=>by
  unfold Zjj Zne Zqi Zny
  rw [if_pos (decide_eq_true h1),if_pos (decide_eq_true h1),e]
  simp only [Option.bind_some,decide_eq_true h1,if_true,e]
  rw [Zdl _ (h v hv)]
  simp [hw]) fun t h=>by unfold Zjj; rw [if_neg (by simpa using h),if_neg (by simpa using h)]]
 rfl
theorem eq_rest (m:Z09) (h:Z3n m):Zo1 m m=some true:=by
 unfold Zo1 j38x1
 rw [Ybo _ h.iniL h.ini,
  rfL m.Z1n (by have:=h.heapL; omega) (fun t v h1 hv e hw=>by unfold Zkx; rw [if_pos (decide_eq_true h1),e]; simp [hw,eq_obj v (h.heap v hv)]) fun t h=>by unfold Zkx; rw [if_neg (by simpa using h)]]
 simp only [Option.bind]
 rw [rfL m.Z34 (by have:=h.intL; omega) (fun t v h1 hv e hw=>by unfold Zlh; rw [if_pos (decide_eq_true h1),e]; simp [hw,Zrp]) fun t h=>by unfold Zlh; rw [if_neg (by simpa using h)]]
 simp only []
 rw [rfL m.Z0n (by have:=h.thrL; omega) (fun t v h1 hv e hw=>by unfold Zlu; rw [if_pos (decide_eq_true h1),e]; simp [hw,Yb1 v (h.thr v hv)]) fun t h=>by unfold Zlu; rw [if_neg (by simpa using h)]]
 simp only []
 rw [rfL m.Z3s (by have:=h.outL; omega) (fun t v h1 hv e hw=>by unfold Zlj; rw [if_pos (decide_eq_true h1),e]; simp [hw]) fun t h=>by unfold Zlj; rw [if_neg (by simpa using h)]]
 simp
theorem Zf1 (m:Z09) (h:Z3n m):Zex m m=some true:=by
 unfold Zex
 rw [eq_rest m h,Y9q _ h.sp]
 rfl
theorem Z3n.set {m:Z09} (h:Z3n m) {t:Int} {th:Z13} (ht:Z01 m.Z0n t=some th) {l:List Z10} (hl:l.length≤1000) (ha:∀ a∈l,Z9a a):Z3n (Z90 m t th l):=
 ⟨h.sp,h.heap,h.heapL,h.ini,h.iniL,h.int,h.intL,fun x hx=>by
  rcases List.mem_or_eq_of_mem_set hx with hx|rfl
  ·exact h.thr x hx
  ·exact ⟨ha,by dsimp only; omega⟩,by unfold Z90; simp only [List.length_set]; exact h.thrL,h.outL⟩
theorem Zri:Zos=some true:=by kernel_rfl
end Go.Proofs
namespace Go.Proofs
open Go.Den Go.Tot
theorem few_ok (m:Z09):∃ b,Zpd m=some b:=by
 unfold Zpd
 repeat' split
 all_goals exact ⟨_,rfl⟩
theorem Z3n.add {m:Z09} (h:Z3n m) (hl:m.Z0n.length≤1000) (obj:Int):Z3n (addT m obj):=
 ⟨h.sp,h.heap,h.heapL,h.ini,h.iniL,h.int,h.intL,fun x hx=>by
  rcases List.mem_append.1 hx with hx|hx
  ·exact h.thr x hx
  ·rcases List.mem_singleton.1 hx with rfl
   exact ⟨fun a ha=>(by cases ha),by simp⟩,by unfold addT; simp only [List.length_append,List.length_cons,List.length_nil]; omega,h.outL⟩
theorem Z9d.len64 {m:Z09} (h:Z3n m) (v:Z9d m):∀ th∈m.Z0n,th.Z0y.length≤64:=fun th hth=>by
 obtain ⟨i,hi⟩:=List.getElem?_of_mem hth
 have hlt:i<m.Z0n.length:=(List.getElem?_eq_some_iff.1 hi).1
 exact (v.acts h (n:=(i:Int)) (by omega) (by unfold Z01; rw [if_pos (by omega),Int.toNat_natCast]; exact hi) (by omega)).1
theorem zeroA_w:Z9a Za1:=⟨by simp [Za1],by simp [Za1]⟩
theorem newA_w {c w:Int} {s:List Z0b} {x:Z0a} (hs:s.length≤1000) (hx:Loc x):Z9a (Z9j c w (s++List.replicate (x.Z0f.toNat - s.length) Z7p)):=
 ⟨by have:=hx.1; have:=hx.2; simp only [Z9j,List.length_append,List.length_replicate]; omega,by simp [Z9j]⟩
theorem Z3n.push {m:Z09} (h:Z3n m) {t:Int} {th:Z13} (ht:Z01 m.Z0n t=some th) (h63:th.Z0y.length<64) {c w:Int} {s:List Z0b} {x:Z0a} (hs:s.length≤1000) (hx:Loc x):
  Z3n (Z90 m t th (th.Z0y++[Z9j c w (s++List.replicate (x.Z0f.toNat - s.length) Z7p)])):=
 h.set ht (by simp only [List.length_append,List.length_cons,List.length_nil]; omega) fun y hy=>by
  rcases List.mem_append.1 hy with hy|hy
  ·exact (h.thr th (Z58 ht).1).1 y hy
  ·rcases List.mem_singleton.1 hy with rfl
   exact newA_w hs hx
theorem Yc8 (m:Z09) (hm:Z3n m) (t c w:Int) (s:List Z0b) (obj:Int) (a:Z10):Zsp m t c w s obj a=some true:=by
 have hj:Za7=some true:=by unfold Za7; rw [Zri]; rfl
 obtain ⟨b,eb⟩:=few_ok m
 unfold Zsp
 rw [eb]
 simp only [Option.bind_some]
 cases b with
 | false=>exact hj
 | true=>
 simp only [Bool.not_true,Bool.false_eq_true,if_false]
 by_cases h1:(s.length:Int)>40
 ·simp only [decide_eq_true h1,if_true]; exact hj
 by_cases h2:(a.Z0g.length:Int)>60
 ·simp only [decide_eq_false h1,decide_eq_true h2,Bool.false_eq_true,if_false,if_true]; exact hj
 by_cases h3:(a.Z0f.length:Int)>60
 ·simp only [decide_eq_false h1,decide_eq_false h2,decide_eq_true h3,Bool.false_eq_true,if_false,if_true]; exact hj
 simp only [decide_eq_false h1,decide_eq_false h2,decide_eq_false h3,Bool.false_eq_true,if_false]
 obtain ⟨b,e,hb⟩:=valid36 m hm
 rw [e]
 simp only [Option.bind_some]
 cases b with
 | false=>exact hj
 | true=>
 have v:=hb rfl
 have h64:=v.len64 hm
 have hthr:=v.thr
 simp only [Bool.not_true,Bool.false_eq_true,if_false]
 -- the last:PopArguments
 have h4:j3x4 m c w a=some true:=by
  unfold j3x4
  rcases Y8g m hm v c w a (by omega) with ⟨e,_,p1,p2⟩|⟨k,x,l,n,_,_,hn,_,p1,p2⟩
  ·rw [p1,p2,Zri]
   simp only [Option.bind_some,beq_self_eq_true,if_true]
   rw [Zgq a ⟨by omega,by omega⟩]
   simp only [Option.bind_some,if_true]
   rw [Zdl [] (by simp)]; rfl
  ·rw [p1,p2,Zri]
   simp only [Option.bind_some,beq_self_eq_true,if_true]
   rw [Zgq _ ⟨by dsimp only; omega,by dsimp only; rw [List.length_take]; omega⟩]
   simp only [Option.bind_some,if_true]
   rw [Zdl _ (by rw [List.length_drop]; omega)]; rfl
 have h3':j3x3 m t c w a=some true:=by
  unfold j3x3
  rcases Y6x m t (by omega) h64 with ⟨e,_,_,p1,p2⟩|⟨th,l,x,ht,hl,_,p1,p2⟩
  ·rw [p1,p2]
   simp only [Option.bind_some,bne_self_eq_false,Bool.false_eq_true,if_false]
   rw [Zf1 m hm,Zgq _ zeroA_w]
   simp only [Option.bind_some,Bool.not_true,Bool.false_eq_true,if_false]
   exact h4
  ·have hw:=(hm.thr th (Z58 ht).1).1
   have h64':=h64 th (Z58 ht).1
   rw [hl] at h64'
   simp only [List.length_append,List.length_cons,List.length_nil] at h64'
   rw [p1,p2]
   simp only [Option.bind_some,bne_self_eq_false,Bool.false_eq_true,if_false]
   rw [Zf1 _ (hm.set ht (by omega) fun y hy=>hw y (by rw [hl]; simp [hy])),Zgq _ (hw x (by rw [hl]; simp))]
   simp only [Option.bind_some,Bool.not_true,Bool.false_eq_true,if_false]
   exact h4
 have h2':j3x2 m t c w s a=some true:=by
  unfold j3x2
  rcases Ybf m hm (v.mok hm) (by have:=v.thr; omega) t c w s (by omega) with ⟨e,_,_,p1,p2⟩|⟨k,x,th,l,hk,ht,hc,_,_,hlen,_,_,h63,p1,p2⟩
  ·rw [p1,p2]
   simp only [Option.bind_some,bne_self_eq_false,Bool.false_eq_true,if_false]
   rw [Zf1 m hm]
   simp only [Option.bind_some,Bool.not_true,Bool.false_eq_true,if_false]
   exact h3'
  ·have hloc:=((v.mok hm) k (Z58 hk.1).1 x (Z58 hk.2).1).2 hc
   rw [p1,p2]
   simp only [Option.bind_some,bne_self_eq_false,Bool.false_eq_true,if_false]
   rw [Zf1 _ (hm.push ht h63 (by omega) hloc)]
   simp only [Option.bind_some,Bool.not_true,Bool.false_eq_true,if_false]
   exact h3'
 unfold j3x1
 obtain ⟨r,p1,p2,p3⟩:=Ycr m obj hm.heapL v.thr
 rw [p1,p2]
 simp only [Option.bind_some,bne_self_eq_false,Bool.false_eq_true,if_false]
 have:Z3n r.1:=by
  rcases p3 with ⟨_,p3⟩|⟨_,p3,_⟩
  ·rw [p3]; exact hm
  ·rw [p3]; exact hm.add (by omega) obj
 rw [Zf1 _ this]
 simp only [Option.bind_some,Bool.not_true,Bool.false_eq_true,if_false]
 exact h2'
end Go.Proofs
