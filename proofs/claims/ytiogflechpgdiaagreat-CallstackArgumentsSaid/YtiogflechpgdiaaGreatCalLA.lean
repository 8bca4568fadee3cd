/-
  Threads and activations: the program and the reference alike. No condition.
-/
import Derived.Test.YtiogflechpgdiaaGreatCalL1
import Derived.Test.YtiogflechpgdiaaGreatCal10
set_option linter.unusedVariables false
namespace Go.Proofs
open Go.Den Go.Tot
def setA (m:Z0b) (t:Int) (th:Z1n) (l:List Z1b):Z0b:={ m with Z11:=m.Z11.set t.toNat { th with Z1v:=l } }
theorem Zpy {α:Type} {l:List α} {t:Int} {x:α} (h:Z02 l t=some x):Z3h t l.length=some t.toNat∧l[t.toNat]?=some x∧0≤t∧t<l.length:=by
 obtain ⟨_,h0,hx⟩:=Z6w h
 have hlt:t.toNat<l.length:=(List.getElem?_eq_some_iff.1 hx).1
 have:t<l.length:=by omega
 exact ⟨by unfold Z3h; rw [if_pos ⟨h0,this⟩],hx,h0,this⟩
theorem Zvw (m:Z0b) (t:Int) (l:List Z1b) (hL:m.Z11.length≤1000) {th:Z1n} (ht:Z02 m.Z11 t=some th):
  Zhj m t l=some (setA m t th l)∧Zpb m t l=some (setA m t th l):=by
 obtain ⟨h1,h2,_,_⟩:=Zpy ht
 have hg:Z0y 80 (([]:List Z1n)++m.Z11).length=some ():=Z78 80 (by simp only [List.nil_append]; omega) (by decide)
 unfold Zhj Zpb Zoz
 rw [hg]
 simp only [Option.bind_some,List.nil_append,h1,h2]
 exact ⟨rfl,rfl⟩
def Z7b (m:Z0b) (obj:Int):Z0b:={ m with Z11:=m.Z11++[{ Z2l:=0,Z4r:=0,Z3b:=0,Z1v:=([]:List Z1b),Z3s:=obj,Z5s:=0,Z3e:=({ Z15:=0,f_N:=0 }:Z0d) }] }
theorem Y4t (m:Z0b) (obj:Int) (hH:m.Z1y.length≤140737488355328) (hL:m.Z11.length≤8):
  ∃ r,Zfe m obj=some r∧Y0o m obj=some r∧((r.2.2≠0∧r.1=m)∨(r.2.2=0∧r.1=Z7b m obj∧r.2.1=m.Z11.length)):=by
 obtain ⟨b,o,e1,e2⟩:=Y1w m obj hH
 have hj:∃ r,Zge m obj=some r∧Zlu m obj=some r∧((r.2.2≠0∧r.1=m)∨(r.2.2=0∧r.1=Z7b m obj∧r.2.1=m.Z11.length)):=by
  unfold Zge Zlu
  by_cases h:(m.Z11.length:Int)≥8
  ·rw [if_pos (decide_eq_true h),if_pos (decide_eq_true h)]
   exact ⟨_,rfl,rfl,.inl ⟨by simp,rfl⟩⟩
  ·rw [if_neg (by simpa using h),if_neg (by simpa using h)]
   have hc:Zjv m.Z11=some m.Z11:=by
    unfold Zjv
    have:sub m.Z11 0 (m.Z11.length:Int)=some m.Z11:=by unfold sub; rw [if_pos ⟨by omega,by omega,by omega⟩]; simp
    rw [this]; rfl
   have hg:∀ x:Z1n,Z0y 80 (m.Z11++[x]).length=some ():=fun x=>Z78 80 (by simp only [List.length_append,List.length_cons,List.length_nil]; omega) (by decide)
   have hg0:Z0y 80 m.Z11.length=some ():=Z78 80 (by omega) (by decide)
   have hf:∀ x:Z1n,Z7y m.Z11 [x]=some ():=fun x=>by
    unfold Z7y
    rw [if_pos (.inr (by simp))]
   simp only [hc,Option.bind_some,hg,hg0,hf,List.nil_append]
   exact ⟨_,rfl,rfl,.inr ⟨rfl,rfl,rfl⟩⟩
 obtain ⟨r,j1,j2,j3⟩:=hj
 unfold Zfe Y0o
 rw [e2,e1]
 simp only [Option.bind_some]
 by_cases h0:(obj !=0)=true
 ·rw [if_pos h0,if_pos h0]
  cases b with
  | false=>exact ⟨_,rfl,rfl,.inl ⟨by simp,rfl⟩⟩
  | true=>exact ⟨r,j1,j2,j3⟩
 ·rw [if_neg h0,if_neg h0]
  exact ⟨r,j1,j2,j3⟩
end Go.Proofs
namespace Go.Proofs
open Go.Den Go.Tot
theorem allD {R:Type} {n:Nat} (hn:n≤140737488355328) (d:R) (g:Int→Option Bool) {f:Int→Option (Ctl Int (Unit⊕R))} (hg:∀ t:Int,0≤t→t<n→∃ b,g t=some b)
  (hf:∀ t:Int,0≤t→t≤n→f t=if decide (t<(n:Int))=true then ((g t).bind fun v=>if (!v)=true then some (.done (.inr d)) else ((some (IntKind.wrap .i64 (t+1))).bind fun k=>some (.next k))) else some (.done (.inl ()))):
  (Z06 f Z07 0=some (.inl ())∧∀ t:Int,0≤t→t<n→g t=some true)∨(Z06 f Z07 0=some (.inr d)∧∃ t:Int,0≤t∧t<n∧g t=some false):=by
 have h:Ok (Z06 f Z07 0) (fun q=>(q=.inl ()∧∀ t:Int,0≤t→t<n→g t=some true)∨(q=.inr d∧∃ t:Int,0≤t∧t<n∧g t=some false)):=by
  refine lp (fun t=>t) n (fun t=>∀ j:Int,0≤j→j<t→g j=some true) (fun t hI h0 h1=>?_) (by omega) (fun j h h'=>by omega) (by omega) (by omega)
  rw [hf t h0 h1]
  refine brD (fun hlt=>?_) fun hge=>dn (.inl ⟨rfl,fun j h h'=>hI j h (by omega)⟩)
  obtain ⟨b,hb⟩:=hg t h0 hlt
  rw [hb]
  cases b with
  | false=>exact ⟨_,rfl,.inr ⟨rfl,t,h0,hlt,hb⟩⟩
  | true=>
   refine bs (br! (fun h=>by cases h) fun _=>bd wr fun k hk=>nx (fun j hj hj'=>?_) (by omega) (by omega))
   rcases Int.lt_or_le j t with h|h
   ·exact hI j hj h
   ·rw [show j=t by omega]; exact hb
 obtain ⟨q,e,h⟩:=h
 rcases h with ⟨rfl,h⟩|⟨rfl,h⟩
 ·exact .inl ⟨e,h⟩
 ·exact .inr ⟨e,h⟩
def gP (l:List Int) (n:Int) (s:List Z0d) (t:Int):Option Bool:=(Z02 l t).bind fun k=>(Z02 s (n+t)).bind fun y=>some (y.Z15==k)
theorem f19 (l:List Int) (n:Int) (a:Z1b) (h0:0≤n) (h1:n+l.length=a.Z0e.length) (hs:a.Z0e.length≤1000):
  (∀ t:Int,0≤t→t<(l.length:Nat)→∃ b,gP l n a.Z0e t=some b)∧
  (∀ t:Int,0≤t→t≤(l.length:Nat)→Zlk l n a t=if decide (t<((l.length:Nat):Int))=true then ((gP l n a.Z0e t).bind fun v=>if (!v)=true then some (.done (.inr (([]:List Z0d),a,(22:Int)))) else ((some (IntKind.wrap .i64 (t+1))).bind fun k=>some (.next k))) else some (.done (.inl ())))∧
  (∀ t:Int,0≤t→t≤(l.length:Nat)→l20x1 l n a t=if decide (t<((l.length:Nat):Int))=true then ((gP l n a.Z0e t).bind fun v=>if (!v)=true then some (.done (.inr (([]:List Z0d),a,(22:Int)))) else ((some (IntKind.wrap .i64 (t+1))).bind fun k=>some (.next k))) else some (.done (.inl ()))):=by
 have key:∀ t:Int,0≤t→t<(l.length:Nat)→∃ k y,Z02 l t=some k∧Z02 a.Z0e (n+t)=some y:=fun t p q=>by
  obtain ⟨k,ek,_⟩:=gr (l:=l) (i:=t) p q
  obtain ⟨y,ey,_⟩:=gr (l:=a.Z0e) (i:=n+t) (by omega) (by omega)
  exact ⟨k,y,ek,ey⟩
 refine ⟨fun t p q=>?_,fun t p q=>?_,fun t p q=>?_⟩
 ·obtain ⟨k,y,ek,ey⟩:=key t p q
  unfold gP
  rw [ek]; simp only [Option.bind_some,ey]
  exact ⟨_,rfl⟩
 ·unfold Zlk gP
  by_cases hlt:t<((l.length:Nat):Int)
  ·obtain ⟨k,y,ek,ey⟩:=key t p hlt
   rw [if_pos (decide_eq_true hlt),if_pos (decide_eq_true hlt),ek,Z76 (n:=n+t) (by omega) (by omega)]
   simp only [Option.bind_some,ey]
   rfl
  ·rw [if_neg (by simpa using hlt),if_neg (by simpa using hlt)]
 ·unfold l20x1 gP
  by_cases hlt:t<((l.length:Nat):Int)
  ·obtain ⟨k,y,ek,ey⟩:=key t p hlt
   rw [if_pos (decide_eq_true hlt),if_pos (decide_eq_true hlt),ek,Z76 (n:=n+t) (by omega) (by omega)]
   simp only [Option.bind_some,ey]
   rfl
  ·rw [if_neg (by simpa using hlt),if_neg (by simpa using hlt)]
theorem Zw4 (l:List Z0d) (h:l.length≤1000):Zg2 l=some l∧Z0y 16 (([]:List Z0d)++l).length=some ():=by
 have hg:Z0y 16 (([]:List Z0d)++l).length=some ():=Z78 16 (by simp only [List.nil_append]; omega) (by decide)
 unfold Zg2
 rw [hg]
 exact ⟨rfl,rfl⟩
theorem Y8x (m:Z0b) (h:Z57 m) (v:MVal m) (c w:Int) (a:Z1b) (hs:a.Z0e.length≤1000):
  (∃ e,e≠0∧Zd3 m c w a=some ([],a,e)∧Zro m c w a=some ([],a,e))∨
  ∃ k x l n,HasM m c w k x∧Z9m x=some l∧(n:Nat)+l.length=a.Z0e.length∧(∀ t:Int,0≤t→t<(l.length:Nat)→gP l n a.Z0e t=some true)∧
   Zd3 m c w a=some (a.Z0e.drop n,{ a with Z0e:=a.Z0e.take n },0)∧Zro m c w a=some (a.Z0e.drop n,{ a with Z0e:=a.Z0e.take n },0):=by
 unfold Zd3 Zro
 rcases Y1x m c w with ⟨e1,x,e2⟩|⟨e1,k,x,hm,e2⟩
 ·rw [e1,e2]
  exact .inl ⟨2,by decide,rfl,rfl⟩
 ·have hx :=(v.mok h) k (Z6w hm.1).1 x (Z6w hm.2).1
  obtain ⟨l,k1,k2,h17,_⟩:=Y26 x hx.1
  rw [e1,e2,Zxi m c w hm.1 hm.2]
  simp only [Option.bind_some,Bool.not_true,Bool.false_eq_true,if_false,k1,k2]
  rw [Z76 (by omega) (by omega)]
  by_cases hn:(a.Z0e.length:Int) - l.length<0
  ·rw [if_pos (decide_eq_true hn),if_pos (decide_eq_true hn)]
   exact .inl ⟨20,by decide,rfl,rfl⟩
  ·rw [if_neg (by simpa using hn),if_neg (by simpa using hn)]
   obtain ⟨g1,g2,g3⟩:=f19 l ((a.Z0e.length:Int) - l.length) a (by omega) (by omega) hs
   rcases allD (by omega) _ _ g1 g2 with ⟨q1,q2⟩|⟨q1,t,t0,t1,t2⟩
   ·rcases allD (by omega) _ _ g1 g3 with ⟨r1,r2⟩|⟨r1,t,t0,t1,t2⟩
    ·rw [q1,r1]
     have hnn:(a.Z0e.length:Int) - l.length=((a.Z0e.length - l.length:Nat):Int):=by omega
     have s1:sub a.Z0e ((a.Z0e.length:Int) - l.length) (a.Z0e.length:Int)=some (a.Z0e.drop (a.Z0e.length - l.length)):=by
      rw [hnn]; exact Zd8 _ _ (by omega)
     have s2:sub a.Z0e 0 ((a.Z0e.length:Int) - l.length)=some (a.Z0e.take (a.Z0e.length - l.length)):=by
      rw [hnn]
      have:=Zsm a.Z0e 0 (a.Z0e.length - l.length) (by omega) (by omega)
      simpa using this
     obtain ⟨c1,c2⟩:=Zw4 (a.Z0e.drop (a.Z0e.length - l.length)) (by rw [List.length_drop]; omega)
     obtain ⟨c3,c4⟩:=Zw4 (a.Z0e.take (a.Z0e.length - l.length)) (by rw [List.length_take]; omega)
     refine .inr ⟨k,x,l,a.Z0e.length - l.length,hm,k1,by omega,fun t a b=>by rw [← hnn]; exact q2 t a b,?_,?_⟩
     ·simp only [Option.bind_some,s1,s2,c1,c3]
     ·simp only [Option.bind_some,s1,s2]
      rw [c2,c4]
      rfl
    ·rw [q2 t t0 t1] at t2; cases t2
   ·rcases allD (by omega) _ _ g1 g3 with ⟨r1,r2⟩|⟨r1,_⟩
    ·rw [r2 t t0 t1] at t2; cases t2
    ·rw [q1,r1]
     exact .inl ⟨22,by decide,rfl,rfl⟩
end Go.Proofs
namespace Go.Proofs
open Go.Den Go.Tot
theorem Zzz (m:Z0b) (t:Int):Z99 m t=some false∨(Z99 m t=some true∧∃ th,Z02 m.Z11 t=some th):=by
 unfold Z99
 by_cases h1:t≥0
 ·rw [if_pos (decide_eq_true h1)]
  by_cases h2:t<(m.Z11.length:Int)
  ·obtain ⟨th,e,_⟩:=gr (l:=m.Z11) (i:=t) h1 h2
   exact .inr ⟨by rw [decide_eq_true h2],th,e⟩
  ·exact .inl (by rw [decide_eq_false h2])
 ·exact .inl (by rw [if_neg (by simpa using h1)])
def Z9f:Z0d:={ Z15:=0,f_N:=0 }
def newA (c w:Int) (l:List Z0d):Z1b:={ Z0u:=c,Z4q:=w,f_PC:=0,Z0g:=l,Z0e:=([]:List Z0d),Z6i:=0,Z60:=false,Z6p:=false }
def gA (l:List Int) (m:Z0b) (s:List Z0d) (t:Int):Option Bool:=(Z02 s t).bind fun a=>(Z02 l t).bind fun k=>if (a.Z15 !=k)=true then some false else Z6x m a
def gB (z:Bool) (l:List Int) (m:Z0b) (s:List Z0d) (t:Int):Option Bool:=(gA l m s t).bind fun b=>if (!b)=true then some false else if (t==0)=true then (if z=true then (Z02 s t).bind fun a=>some (!(a.f_N==0)) else some true) else some true
theorem f14 (x:Z1o) (l:List Int) (m:Z0b) (s:List Z0d) (hH:m.Z1y.length≤140737488355328) (h1:s.length=l.length):
  (∀ t:Int,0≤t→t<(s.length:Nat)→∃ b,gA l m s t=some b)∧(∀ t:Int,0≤t→t<(s.length:Nat)→∃ b,gB (Z27 .i64 x.Z0s 8==0) l m s t=some b)∧
  (∀ t:Int,0≤t→t≤(s.length:Nat)→Znh l m s t=if decide (t<((s.length:Nat):Int))=true then ((gA l m s t).bind fun v=>if (!v)=true then some (.done (.inr (m,(22:Int)))) else ((some (IntKind.wrap .i64 (t+1))).bind fun k=>some (.next k))) else some (.done (.inl ())))∧
  (∀ t:Int,0≤t→t≤(s.length:Nat)→Zhu x l m s t=if decide (t<((s.length:Nat):Int))=true then ((gB (Z27 .i64 x.Z0s 8==0) l m s t).bind fun v=>if (!v)=true then some (.done (.inr (m,(22:Int)))) else ((some (IntKind.wrap .i64 (t+1))).bind fun k=>some (.next k))) else some (.done (.inl ()))):=by
 have key:∀ t:Int,0≤t→t<(s.length:Nat)→∃ a k b,Z02 s t=some a∧Z02 l t=some k∧Z6x m a=some b:=fun t p q=>by
  obtain ⟨a,ea,_⟩:=gr (l:=s) (i:=t) p q
  obtain ⟨k,ek,_⟩:=gr (l:=l) (i:=t) p (by omega)
  obtain ⟨b,eb,_⟩:=Zgm m a hH
  exact ⟨a,k,b,ea,ek,eb⟩
 refine ⟨fun t p q=>?_,fun t p q=>?_,fun t p q=>?_,fun t p q=>?_⟩
 ·obtain ⟨a,k,b,ea,ek,eb⟩:=key t p q
  unfold gA
  simp only [ea,ek,Option.bind_some,eb]
  split <;> exact ⟨_,rfl⟩
 ·obtain ⟨a,k,b,ea,ek,eb⟩:=key t p q
  unfold gB gA
  simp only [ea,ek,Option.bind_some,eb]
  cases (a.Z15 !=k) <;> cases b <;> cases (t==0) <;> cases (Z27 .i64 x.Z0s 8==0) <;> exact ⟨_,rfl⟩
 ·unfold Znh gA
  by_cases hlt:t<((s.length:Nat):Int)
  ·obtain ⟨a,k,b,ea,ek,eb⟩:=key t p hlt
   rw [if_pos (decide_eq_true hlt),if_pos (decide_eq_true hlt)]
   simp only [ea,ek,Option.bind_some,Y6g m a hH,eb]
   cases (a.Z15 !=k) <;> cases b <;> rfl
  ·rw [if_neg (by simpa using hlt),if_neg (by simpa using hlt)]
 ·unfold Zhu gB gA
  by_cases hlt:t<((s.length:Nat):Int)
  ·obtain ⟨a,k,b,ea,ek,eb⟩:=key t p hlt
   rw [if_pos (decide_eq_true hlt),if_pos (decide_eq_true hlt)]
   simp only [ea,ek,Option.bind_some,eb]
   cases (a.Z15 !=k) <;> cases b <;> cases (t==0) <;> cases (Z27 .i64 x.Z0s 8==0) <;> cases (a.f_N==0) <;> rfl
  ·rw [if_neg (by simpa using hlt),if_neg (by simpa using hlt)]
theorem Y5i (x:Z1o) (s:List Z0d) (hs:s.length≤1000) (hx:0≤x.Z1f.Z0g∧x.Z1f.Z0g≤32):Z06 (Zm4 x) Z07 s=some (s++List.replicate (x.Z1f.Z0g.toNat - s.length) Z9f):=by
 have h:Ok (Z06 (Zm4 x) Z07 s) (fun r=>r=s++List.replicate (x.Z1f.Z0g.toNat - s.length) Z9f):=by
  refine lp (fun t=>t.length) (s.length+32) (fun t=>∃ k,t=s++List.replicate k Z9f∧(0<k→(s.length+k:Int)≤x.Z1f.Z0g)) (fun t hI g0 g1=>?_) (by omega) ⟨0,by simp,by omega⟩ (by omega) (by omega)
  obtain ⟨k,rfl,hk⟩:=hI
  have hlen:(s++List.replicate k Z9f).length=s.length+k:=by simp
  unfold Zm4
  refine brD (fun hlt=>?_) fun hge=>dn ?_
  ·refine bd (gk (by simp only [List.length_append,List.length_cons,List.length_nil,List.length_replicate]; omega) (by simp only [List.length_append,List.length_cons,List.length_nil,List.length_replicate]; omega)) fun _ _=>nx ⟨k+1,?_,fun _=>by omega⟩ (by simp only [List.length_append,List.length_cons,List.length_nil,List.length_replicate]; omega) (by simp only [List.length_append,List.length_cons,List.length_nil,List.length_replicate]; omega)
   rw [List.replicate_succ',List.append_assoc]; rfl
  ·congr 2
   by_cases h0:0<k
   ·have:=hk h0; omega
   ·omega
 obtain ⟨r,e,rfl⟩:=h
 exact e
theorem Y5a {m:Z0b} {c w:Int} {k:Z26} {x:Z1o} (h:HasM m c w k x):Z85 m c w=some true:=by
 obtain ⟨_,_,c0,c1⟩:=Zpy h.1
 obtain ⟨_,_,w0,w1⟩:=Zpy h.2
 unfold Z85
 simp only [decide_eq_true (show c≥0 from c0),decide_eq_true c1,decide_eq_true (show w≥0 from w0),if_true,h.1,Option.bind_some,decide_eq_true w1]
inductive Za3 (m:Z0b) (t c w:Int) (s:List Z0d):Int→Prop
 | no (h:Z85 m c w=some false):Za3 m t c w s 2
 | nt (h:Z99 m t=some false):Za3 m t c w s 2
 | dead (th:Z1n) (h:Z02 m.Z11 t=some th) (h4:th.Z2l=4):Za3 m t c w s 61
 | ab:Za3 m t c w s 38
 | many (k:Z26) (x:Z1o) (l:List Int) (h:HasM m c w k x) (hk:Z9m x=some l) (hl:s.length≠l.length):Za3 m t c w s 5
 | bad:Za3 m t c w s 22
 | deep (th:Z1n) (h:Z02 m.Z11 t=some th) (h64:64≤th.Z1v.length):Za3 m t c w s 58
theorem Y6d (m:Z0b) (h:Z57 m) (mk:∀ c∈m.Z1e.Z0x,MOk c.Z1j) (h100:m.Z11.length≤1000) (t c w:Int) (s:List Z0d) (hs:s.length≤1000):
  (∃ e,e≠0∧Za3 m t c w s e∧Ze9 m t c w s=some (m,e)∧Zrk m t c w s=some (m,e))∨
  ∃ k x th l,HasM m c w k x∧Z02 m.Z11 t=some th∧x.Z40=true∧th.Z2l≠4∧Z9m x=some l∧s.length=l.length∧(∀ j:Int,0≤j→j<(s.length:Nat)→gA l m s j=some true)∧
   ((Z27 .i64 x.Z0s 8==0)=true→∃ a,Z02 s 0=some a∧a.f_N≠0)∧th.Z1v.length<64∧
   Ze9 m t c w s=some (setA m t th (th.Z1v++[newA c w (s++List.replicate (x.Z1f.Z0g.toNat - s.length) Z9f)]),0)∧
   Zrk m t c w s=some (setA m t th (th.Z1v++[newA c w (s++List.replicate (x.Z1f.Z0g.toNat - s.length) Z9f)]),0):=by
 have hH:=h.heapL
 unfold Ze9 Zrk
 rw [← Y7s]
 rcases Y1x m c w with ⟨e1,x,e2⟩|⟨e1,k,x,hm,e2⟩
 ·rw [e1,e2]
  rcases Zzz m t with ht|⟨ht,_⟩
  ·rw [ht]; exact .inl ⟨2,by decide,.no e1,rfl,rfl⟩
  ·rw [ht]; exact .inl ⟨2,by decide,.no e1,rfl,rfl⟩
 rw [e1,e2]
 rcases Zzz m t with ht|⟨ht,th,hth⟩
 ·rw [ht]; exact .inl ⟨2,by decide,.nt ht,rfl,rfl⟩
 rw [ht]
 simp only [Option.bind_some,Bool.not_true,Bool.false_eq_true,if_false]
 unfold j14x1 j15x1
 rw [hth,hm.1]
 simp only [Option.bind_some]
 rw [hm.2]
 by_cases hst:(th.Z2l==4)=true
 ·rw [if_pos hst,if_pos hst]; exact .inl ⟨61,by decide,.dead th hth (by simpa using hst),rfl,rfl⟩
 rw [if_neg hst,if_neg hst]
 simp only [Option.bind_some]
 cases hc:x.Z40 with
 | false=>exact .inl ⟨38,by decide,.ab,rfl,rfl⟩
 | true=>
 simp only [Bool.not_true,Bool.false_eq_true,if_false]
 obtain ⟨hx1,hx2⟩:=mk k (Z6w hm.1).1 x (Z6w hm.2).1
 have hloc:=hx2 hc
 obtain ⟨l,k1,k2,h17,hl1⟩:=Y26 x hx1
 rw [Zxi m c w hm.1 hm.2,k1,k2]
 simp only [Option.bind_some]
 by_cases hn:((s.length:Int)!=(l.length:Int))=true
 ·rw [if_pos hn,if_pos hn]; exact .inl ⟨5,by decide,.many k x l hm k1 (fun he=>by rw [he] at hn; simp at hn),rfl,rfl⟩
 rw [if_neg hn,if_neg hn]
 have hlen:s.length=l.length:=by
  have:(s.length:Int)=l.length:=by simpa using hn
  omega
 obtain ⟨g1,g2,g3,g4⟩:=f14 x l m s hH hlen
 rcases allD (by omega) _ _ g1 g3 with ⟨q1,q2⟩|⟨q1,j,j0,j1,j2⟩
 rotate_left
 ·rcases allD (by omega) _ _ g2 g4 with ⟨r1,r2⟩|⟨r1,_⟩
  ·have:=r2 j j0 j1
   unfold gB at this
   rw [j2] at this
   cases this
  ·rw [q1,r1]; exact .inl ⟨22,by decide,.bad,rfl,rfl⟩
 -- the arguments are of their kinds
 have hnull:(Z27 .i64 x.Z0s 8==0)=true→∃ a,Z02 s 0=some a:=fun hz=>by
  have:=hl1 hz
  obtain ⟨a,ea,_⟩:=gr (l:=s) (i:=0) (by omega) (by omega)
  exact ⟨a,ea⟩
 have hB:∀ j:Int,0≤j→j<(s.length:Nat)→((Z27 .i64 x.Z0s 8==0)=true→∃ a,Z02 s 0=some a∧a.f_N≠0)→gB (Z27 .i64 x.Z0s 8==0) l m s j=some true:=fun j j0 j1 hz=>by
  unfold gB
  rw [q2 j j0 j1]
  simp only [Option.bind_some,Bool.not_true,Bool.false_eq_true,if_false]
  by_cases hj:(j==0)=true
  ·rw [if_pos hj]
   by_cases hzz:(Z27 .i64 x.Z0s 8==0)=true
   ·rw [if_pos hzz]
    obtain ⟨a,ea,ha⟩:=hz hzz
    have:j=0:=by simpa using hj
    rw [this,ea]
    simp [ha]
   ·rw [if_neg hzz]
  ·rw [if_neg hj]
 have hbad:(Z27 .i64 x.Z0s 8==0)=true→∀ a,Z02 s 0=some a→a.f_N=0→Z06 (Zhu x l m s) Z07 0=some (.inr (m,22)):=fun hz a ea ha=>by
  rcases allD (by omega) _ _ g2 g4 with ⟨r1,r2⟩|⟨r1,_⟩
  ·have hpos:=hl1 hz
   have:=r2 0 (by omega) (by omega)
   unfold gB at this
   rw [q2 0 (by omega) (by omega)] at this
   simp only [Option.bind_some,Bool.not_true,Bool.false_eq_true,if_false] at this
   rw [if_pos (by rfl),if_pos hz,ea] at this
   simp [ha] at this
  ·exact r1
 have hloop:((Z27 .i64 x.Z0s 8==0)=true→∃ a,Z02 s 0=some a∧a.f_N≠0)→Z06 (Zhu x l m s) Z07 0=some (.inl ()):=fun hz=>by
  rcases allD (by omega) _ _ g2 g4 with ⟨r1,_⟩|⟨_,j,j0,j1,j2⟩
  ·exact r1
  ·rw [hB j j0 j1 hz] at j2; cases j2
 rw [q1]
 simp only [Option.bind_some]
 by_cases hg:(Z27 .i64 x.Z0s 8==0)=true→∃ a,Z02 s 0=some a∧a.f_N≠0
 ·have hp:∀ F:Option (Z0b×Int),(if (Z27 .i64 x.Z0s 8==0)=true then (Z02 s 0).bind (fun v12=>if (v12.f_N==0)=true then some (m,22) else F) else F)=F:=fun F=>by
   by_cases hz:(Z27 .i64 x.Z0s 8==0)=true
   ·obtain ⟨a,ea,ha⟩:=hg hz
    rw [if_pos hz,ea]
    simp only [Option.bind_some]
    rw [if_neg (by simpa using ha)]
   ·rw [if_neg hz]
  rw [hp,hloop hg]
  simp only [Option.bind_some]
  unfold Zk3
  rw [hth]
  simp only [Option.bind_some]
  by_cases h64:(th.Z1v.length:Int)≥64
  ·simp only [decide_eq_true h64,if_true]
   exact .inl ⟨58,by decide,.deep th hth (by omega),rfl,rfl⟩
  simp only [decide_eq_false h64,Bool.false_eq_true,if_false]
  refine .inr ⟨k,x,th,l,hm,rfl,hc,by simpa using hst,k1,hlen,q2,hg,by omega,?_,?_⟩
  ·have hv:(if x.Z1f.Z0g>((s.length:Int):Int) then x.Z1f.Z0g else (s.length:Int))=((max x.Z1f.Z0g.toNat s.length:Nat):Int):=by
    have:=hloc.1
    split <;> omega
   have hmax:max x.Z1f.Z0g.toNat s.length≤1032:=by have:=hloc.1; have:=hloc.2; omega
   have e1:Z7l 16 ((max x.Z1f.Z0g.toNat s.length:Nat):Int) ((max x.Z1f.Z0g.toNat s.length:Nat):Int)=some ():=by
    unfold Z7l; rw [if_pos ⟨by omega,by omega,by omega,by omega⟩]
   have e2:W.Zf9 (List.replicate ((max x.Z1f.Z0g.toNat s.length:Nat):Int).toNat ({ Z15:=0,f_N:=0 }:Z0d)) s=some (s++List.replicate (x.Z1f.Z0g.toNat - s.length) Z9f):=by
    unfold W.Zf9
    rw [Int.toNat_natCast,if_pos (by simp only [List.length_replicate]; omega),List.drop_replicate,show max x.Z1f.Z0g.toNat s.length - s.length=x.Z1f.Z0g.toNat - s.length by omega]
    rfl
   have e3:Zhs th.Z1v=some th.Z1v:=by
    unfold Zhs
    have:sub th.Z1v 0 (th.Z1v.length:Int)=some th.Z1v:=by unfold sub; rw [if_pos ⟨by omega,by omega,by omega⟩]; simp
    rw [this]; rfl
   have e4:∀ a:Z1b,Z7y th.Z1v [a]=some ():=fun a=>by unfold Z7y; rw [if_pos (.inr (by simp))]
   have e5:∀ a:Z1b,Z0y 88 (th.Z1v++[a]).length=some ():=fun a=>Z78 88 (by simp only [List.length_append,List.length_cons,List.length_nil]; omega) (by decide)
   rw [hv,e1]
   simp only [Option.bind_some,e2,e3,e4,e5]
   have:=(Zvw m t (th.Z1v++[newA c w (s++List.replicate (x.Z1f.Z0g.toNat - s.length) Z9f)]) (by omega) hth).1
   unfold newA at this
   unfold newA
   first|rw [this]; done|(rw [this]; rfl)|(rw [show ({ Z15:=0,f_N:=0 }:Z0d)=Z9f from rfl]; rw [this]; rfl)
  ·have e1:Z0y 16 (([]:List Z0d)++s).length=some ():=Z78 16 (by simp only [List.nil_append]; omega) (by decide)
   have e2:Z0y 88 (([]:List Z1b)++th.Z1v).length=some ():=Z78 88 (by simp only [List.nil_append]; omega) (by decide)
   have e3:∀ a,Z0y 88 ((([]:List Z1b)++th.Z1v)++[a]).length=some ():=fun a=>Z78 88 (by simp only [List.nil_append,List.length_append,List.length_cons,List.length_nil]; omega) (by decide)
   rw [e1]
   simp only [Option.bind_some,List.nil_append] at e2 e3 ⊢
   rw [Y5i x s hs ⟨hloc.1,hloc.2⟩]
   simp only [Option.bind_some]
   rw [e2,e3]
   simp only [Option.bind_some]
   rw [(Zvw m t _ (by omega) hth).2]
   rfl
 ·have hz:(Z27 .i64 x.Z0s 8==0)=true:=Classical.byContradiction fun h=>hg fun h'=>absurd h' h
  obtain ⟨a,ea⟩:=hnull hz
  have h0:a.f_N=0:=Classical.byContradiction fun h=>hg fun _=>⟨a,ea,h⟩
  rw [if_pos hz,hbad hz a ea h0,ea]
  simp only [Option.bind_some]
  rw [if_pos (by simpa using h0)]
  exact .inl ⟨22,by decide,.bad,rfl,rfl⟩
end Go.Proofs
namespace Go.Proofs
open Go.Den Go.Tot
end Go.Proofs
namespace Go.Proofs
open Go.Den Go.Tot
end Go.Proofs
namespace Go.Proofs
open Go.Den Go.Tot
theorem rfL {α:Type} (l:List α) {f:Int→Option (Ctl Int (Unit⊕Bool))} (hm:l.length≤4503599627370496) (h:∀ (t:Int) v,t<l.length→v∈l→Z02 l t=some v→IntKind.wrap .i64 (t+1)=t+1→f t=some (.next (t+1))) (he:∀ t:Int,¬t<l.length→f t=some (.done (.inl ()))):
  Z06 f Z07 0=some (.inl ()):=by
 have:Ok (Z06 f Z07 0) (fun q=>q=.inl ()):=by
  refine li l.length (fun t h0 h1=>?_) (by omega) (by omega) (by omega)
  rcases Int.lt_or_le t l.length with hlt|hge
  ·obtain ⟨v,e,hv,_⟩:=gri (l:=l) h0 hlt
   rw [h t v hlt hv e (Z76 (by omega) (by omega))]
   exact ni (by omega) (by omega)
  ·rw [he t (by omega)]; exact di rfl
 obtain ⟨q,e,rfl⟩:=this
 exact e
end Go.Proofs
namespace Go.Proofs
open Go.Den Go.Tot
theorem Y3i (l:List Z0d) (h:l.length≤140737488355328):Zc9 l l=some true:=by
 unfold Zc9
 rw [rfL l (by omega) (fun t v h1 hv e hw=>by unfold Zlp j21x1; rw [if_pos (decide_eq_true h1),if_pos (decide_eq_true h1),e]; simp [hw,Z3d]) fun t h=>by unfold Zlp; rw [if_neg (by simpa using h)]]
 simp
theorem Zyv (a:Z1b) (h:WAct a):Zgz a a=some true:=by
 unfold Zgz
 rw [Y3i _ h.loc,Y3i _ h.stk]
 simp
theorem Zs9:Zd2=some true:=by kernel_rfl
end Go.Proofs
namespace Go.Proofs
open Go.Den Go.Tot
theorem few_ok (m:Z0b):∃ b,Zkn m=some b:=by
 unfold Zkn
 repeat' split
 all_goals exact ⟨_,rfl⟩
theorem Z57.add {m:Z0b} (h:Z57 m) (hl:m.Z11.length≤1000) (obj:Int):Z57 (Z7b m obj):=
 ⟨h.sp,h.heap,h.heapL,h.ini,h.iniL,h.int,h.intL,fun x hx=>by
  rcases List.mem_append.1 hx with hx|hx
  ·exact h.thr x hx
  ·rcases List.mem_singleton.1 hx with rfl
   exact ⟨fun a ha=>(by cases ha),by simp⟩,by unfold Z7b; simp only [List.length_append,List.length_cons,List.length_nil]; omega,h.outL⟩
end Go.Proofs
namespace Go.Proofs
open Go.Den Go.Tot
section
variable {m:Z0b} {t:Int} {th:Z1n} {l:List Z1b}
end
end Go.Proofs
namespace Go.Proofs
open Go.Den Go.Tot
theorem Y4x (m:Z0b) (hm:Z57 m) (c w:Int) (a:Z1b):Zrn m c w a=some true:=by
 have hj:j5x2=some true:=by unfold j5x2; rw [Zs9]; rfl
 obtain ⟨b,eb⟩:=few_ok m
 unfold Zrn
 rw [eb]
 simp only [Option.bind_some]
 cases b with
 | false=>exact hj
 | true=>
 simp only [Bool.not_true,Bool.false_eq_true,if_false]
 by_cases h2:(a.Z0e.length:Int)>60
 ·simp only [decide_eq_true h2,if_true]; exact hj
 by_cases h3:(a.Z0g.length:Int)>60
 ·simp only [decide_eq_false h2,decide_eq_true h3,Bool.false_eq_true,if_false,if_true]; exact hj
 simp only [decide_eq_false h2,decide_eq_false h3,Bool.false_eq_true,if_false]
 obtain ⟨b,e,hb⟩:=valid36 m hm
 rw [e]
 simp only [Option.bind_some]
 cases b with
 | false=>exact hj
 | true=>
 have v:=hb rfl
 have ha:WAct a:=⟨by omega,by omega⟩
 simp only [Bool.not_true,Bool.false_eq_true,if_false]
 unfold j5x1
 rcases Y8x m hm v c w a (by omega) with ⟨e,he,p1,_⟩|⟨k,x,l,n,hk,hki,hn,_,p1,_⟩
 ·rw [p1,Zs9]
  simp only [Option.bind_some]
  rw [if_pos (by simpa using he),Zyv a ha]
  simp
 ·rw [p1]
  simp only [Option.bind_some]
  have g1:Z0y 16 (([]:List Z0d)++a.Z0e.take n).length=some ():=Z78 16 (by simp only [List.nil_append,List.length_take]; omega) (by decide)
  have g2:Z0y 16 ((([]:List Z0d)++a.Z0e.take n)++a.Z0e.drop n).length=some ():=Z78 16 (by simp only [List.nil_append,List.take_append_drop]; omega) (by decide)
  rw [if_neg (by decide),g1,g2]
  simp only [Option.bind_some,List.nil_append,List.take_append_drop]
  rw [Zyv a ha]
  simp only [Option.bind_some,Bool.not_true,Bool.false_eq_true,if_false]
  obtain ⟨r,r1,_,r3⟩:=Y4t m 0 hm.heapL v.thr
  rw [r1]
  simp only [Option.bind_some]
  rcases r3 with ⟨r3,_⟩|⟨r3,r4,r5⟩
  ·rw [if_pos (by simpa using r3)]; exact hj
  ·rw [if_neg (by simpa using r3),r4,r5,Zs9]
   have ht8:=v.thr
   have hnew:Z02 (Z7b m 0).Z11 (m.Z11.length:Int)=some { Z2l:=0,Z4r:=0,Z3b:=0,Z1v:=([]:List Z1b),Z3s:=0,Z5s:=0,Z3e:=({ Z15:=0,f_N:=0 }:Z0d) }:=by
    unfold Z02 Z7b
    rw [if_pos (by omega),Int.toNat_natCast]
    simp
   have hlen:(Z7b m 0).Z11.length=m.Z11.length+1:=by unfold Z7b; simp
   rcases Y6d (Z7b m 0) (hm.add (by omega) 0) (show ∀ c∈m.Z1e.Z0x,MOk c.Z1j from v.mok hm) (by omega) (m.Z11.length:Int) c w (a.Z0e.drop n) (by rw [List.length_drop]; omega) with ⟨e,he,hpe,q1,_⟩|⟨_,_,_,_,_,_,_,_,_,_,_,_,_,q1,_⟩
   ·have:e=38∨e=22:=by
     cases hpe with
     | no h=>rw [show Z85 (Z7b m 0) c w=Z85 m c w from rfl,Y5a hk] at h; cases h
     | nt h=>
      exfalso
      unfold Z99 at h
      rw [if_pos (decide_eq_true (by omega)),decide_eq_true (by omega)] at h
      cases h
     | dead th h h4=>
      rw [hnew] at h
      cases h
      cases h4
     | ab=>exact .inl rfl
     | many k' x' l' hk' hki' hl=>
      exfalso
      have e1:=hk.1; have e2:=hk'.1
      rw [show (Z7b m 0).Z1e.Z0x=m.Z1e.Z0x from rfl,e1] at e2
      cases e2
      have e3:=hk.2; have e4:=hk'.2
      rw [e3] at e4
      cases e4
      rw [hki] at hki'
      cases hki'
      apply hl
      rw [List.length_drop]
      omega
     | bad=>exact .inr rfl
     | deep th h h64=>
      rw [hnew] at h
      cases h
      simp at h64
    rw [q1]
    rcases this with rfl|rfl <;> rfl
   ·rw [q1]
    rfl
end Go.Proofs
