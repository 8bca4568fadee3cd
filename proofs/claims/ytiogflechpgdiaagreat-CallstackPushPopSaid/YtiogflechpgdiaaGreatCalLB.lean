/-
  Threads and activations: the program and the reference alike. No condition.
-/
import Derived.Test.YtiogflechpgdiaaGreatCalL1
import Derived.Test.YtiogflechpgdiaaGreatCal10
set_option linter.unusedVariables false
namespace Go.Proofs
open Go.Den Go.Tot
def Z31 (m:Z0a) (t:Int) (th:Z1o) (l:List Z19):Z0a:={ m with Z0v:=m.Z0v.set t.toNat { th with Z0s:=l } }
theorem Zd3 {α:Type} {l:List α} {t:Int} {x:α} (h:Z01 l t=some x):Z3q t l.length=some t.toNat∧l[t.toNat]?=some x∧0≤t∧t<l.length:=by
 obtain ⟨_,h0,hx⟩:=Z4f h
 have hlt:t.toNat<l.length:=(List.getElem?_eq_some_iff.1 hx).1
 have:t<l.length:=by omega
 exact ⟨by unfold Z3q; rw [if_pos ⟨h0,this⟩],hx,h0,this⟩
theorem Zvu (m:Z0a) (t:Int) (l:List Z19) (hL:m.Z0v.length≤1000) {th:Z1o} (ht:Z01 m.Z0v t=some th):
  Zho m t l=some (Z31 m t th l)∧Zp0 m t l=some (Z31 m t th l):=by
 obtain ⟨h1,h2,_,_⟩:=Zd3 ht
 have hg:Z1a 80 (([]:List Z1o)++m.Z0v).length=some ():=Za3 80 (by simp only [List.nil_append]; omega) (by decide)
 unfold Zho Zp0 Zuv
 rw [hg]
 simp only [Option.bind_some,List.nil_append,h1,h2]
 exact ⟨rfl,rfl⟩
theorem Y9h (m:Z0a) (t:Int):Z6m m t=Zx5 m t:=rfl
def Zgj:Z19:={ Z0y:=0,Z5g:=0,f_PC:=0,Z0c:=([]:List Z0f),Z0m:=([]:List Z0f),Z8x:=0,Z81:=false,Z9v:=false }
theorem Y5i (m:Z0a) (t:Int) (hA:∀ th∈m.Z0v,th.Z0s.length≤64):
  (Z6m m t=some (Zgj,2)∧Z7o m t=some false)∨
  (∃ th,Z01 m.Z0v t=some th∧th.Z0s=[]∧Z6m m t=some (Zgj,61))∨
  (∃ th l a,Z01 m.Z0v t=some th∧th.Z0s=l++[a]∧Z6m m t=some (a,0)):=by
 unfold Z6m Z7o
 by_cases h1:t≥0
 ·rw [if_pos (decide_eq_true h1)]
  by_cases h2:t<(m.Z0v.length:Int)
  ·obtain ⟨th,e,hm⟩:=gr (l:=m.Z0v) (i:=t) h1 h2
   have h64:=hA th hm
   rw [decide_eq_true h2,e]
   simp only [Option.bind_some,Bool.not_true,Bool.false_eq_true,if_false]
   rcases List.eq_nil_or_concat th.Z0s with h|⟨l,a,h⟩
   ·rw [h]
    exact .inr (.inl ⟨th,rfl,h,rfl⟩)
   ·rw [List.concat_eq_append] at h
    have hlen:th.Z0s.length=l.length+1:=by rw [h]; simp
    rw [if_neg (by rw [hlen]; simp; omega),Z46 (by omega) (by omega)]
    have:Z01 th.Z0s ((th.Z0s.length:Int) - 1)=some a:=by
     unfold Z01
     rw [if_pos (by omega),hlen,h,show ((l.length+1:Nat):Int) - 1=(l.length:Int) by omega,Int.toNat_natCast]
     simp
    simp only [Option.bind_some,this]
    exact .inr (.inr ⟨th,l,a,rfl,h,rfl⟩)
  ·rw [decide_eq_false h2]
   exact .inl ⟨rfl,rfl⟩
 ·rw [if_neg (by simpa using h1)]
  exact .inl ⟨rfl,rfl⟩
theorem Ybi (m:Z0a) (t:Int) (hL:m.Z0v.length≤1000) (hA:∀ th∈m.Z0v,th.Z0s.length≤64):
  (∃ e,e≠0∧Z6m m t=some (Zgj,e)∧Zcq m t=some (m,Zgj,e)∧Zrv m t=some (m,Zgj,e))∨
  ∃ th l a,Z01 m.Z0v t=some th∧th.Z0s=l++[a]∧Z6m m t=some (a,0)∧Zcq m t=some (Z31 m t th l,a,0)∧Zrv m t=some (Z31 m t th l,a,0):=by
 unfold Zcq Zrv
 rw [← Y9h]
 rcases Y5i m t hA with ⟨h,_⟩|⟨th,_,_,h⟩|⟨th,l,a,ht,hl,h⟩
 ·rw [h]; exact .inl ⟨2,by decide,rfl,rfl,rfl⟩
 ·rw [h]; exact .inl ⟨61,by decide,rfl,rfl,rfl⟩
 ·refine .inr ⟨th,l,a,ht,hl,h,?_⟩
  have h64:=hA th (Z4f ht).1
  have hlen:th.Z0s.length=l.length+1:=by rw [hl]; simp
  rw [h]
  simp only [Option.bind_some]
  rw [if_neg (by decide),if_neg (by decide),ht]
  simp only [Option.bind_some]
  rw [Z46 (by omega) (by omega)]
  have hs:sub th.Z0s 0 ((th.Z0s.length:Int) - 1)=some l:=by
   unfold sub
   rw [if_pos ⟨by omega,by omega,by omega⟩,hlen,show ((l.length+1:Nat):Int) - 1=(l.length:Int) by omega,hl]
   simp
  have hc:Zc1 l=some l:=by
   unfold Zc1
   have:sub l 0 (l.length:Int)=some l:=by unfold sub; rw [if_pos ⟨by omega,by omega,by omega⟩]; simp
   rw [this]; rfl
  have hg:Z1a 88 l.length=some ():=Za3 88 (by omega) (by decide)
  obtain ⟨k1,k2⟩:=Zvu m t l hL ht
  simp only [Option.bind_some,hs,hc,hg,List.nil_append,k1,k2]
  trivial
end Go.Proofs
namespace Go.Proofs
open Go.Den Go.Tot
theorem allD {R:Type} {n:Nat} (hn:n≤140737488355328) (d:R) (g:Int→Option Bool) {f:Int→Option (Ctl Int (Unit⊕R))} (hg:∀ t:Int,0≤t→t<n→∃ b,g t=some b)
  (hf:∀ t:Int,0≤t→t≤n→f t=if decide (t<(n:Int))=true then ((g t).bind fun v=>if (!v)=true then some (.done (.inr d)) else ((some (IntKind.wrap .i64 (t+1))).bind fun k=>some (.next k))) else some (.done (.inl ()))):
  (Z04 f Z05 0=some (.inl ())∧∀ t:Int,0≤t→t<n→g t=some true)∨(Z04 f Z05 0=some (.inr d)∧∃ t:Int,0≤t∧t<n∧g t=some false):=by
 have h:Ok (Z04 f Z05 0) (fun q=>(q=.inl ()∧∀ t:Int,0≤t→t<n→g t=some true)∨(q=.inr d∧∃ t:Int,0≤t∧t<n∧g t=some false)):=by
  refine lp (fun t=>t) n (fun t=>∀ j:Int,0≤j→j<t→g j=some true) (fun t hI h0 h1=>?_) (by omega) (fun j h h'=>by omega) (by omega) (by omega)
  rw [hf t h0 h1]
  refine brD (fun hlt=>?_) fun hge=>dn (.inl ⟨rfl,fun j h h'=>hI j h (by omega)⟩)
  obtain ⟨b,hb⟩:=hg t h0 hlt
  rw [hb]
  cases b with
  | false=>exact ⟨_,rfl,.inr ⟨rfl,t,h0,hlt,hb⟩⟩
  | true=>
   refine bs (br! (fun h=>by cases h) fun _=>bd wr fun k hk=>nx (fun j hj hj'=>?_) (by omega) (by omega))
   rcases Int.lt_or_le j t with h|h
   ·exact hI j hj h
   ·rw [show j=t by omega]; exact hb
 obtain ⟨q,e,h⟩:=h
 rcases h with ⟨rfl,h⟩|⟨rfl,h⟩
 ·exact .inl ⟨e,h⟩
 ·exact .inr ⟨e,h⟩
end Go.Proofs
namespace Go.Proofs
open Go.Den Go.Tot
theorem Zy8 (m:Z0a) (t:Int):Z7o m t=some false∨(Z7o m t=some true∧∃ th,Z01 m.Z0v t=some th):=by
 unfold Z7o
 by_cases h1:t≥0
 ·rw [if_pos (decide_eq_true h1)]
  by_cases h2:t<(m.Z0v.length:Int)
  ·obtain ⟨th,e,_⟩:=gr (l:=m.Z0v) (i:=t) h1 h2
   exact .inr ⟨by rw [decide_eq_true h2],th,e⟩
  ·exact .inl (by rw [decide_eq_false h2])
 ·exact .inl (by rw [if_neg (by simpa using h1)])
def Z47:Z0f:={ Z1c:=0,f_N:=0 }
def Z72 (c w:Int) (l:List Z0f):Z19:={ Z0y:=c,Z5g:=w,f_PC:=0,Z0c:=l,Z0m:=([]:List Z0f),Z8x:=0,Z81:=false,Z9v:=false }
def gA (l:List Int) (m:Z0a) (s:List Z0f) (t:Int):Option Bool:=(Z01 s t).bind fun a=>(Z01 l t).bind fun k=>if (a.Z1c !=k)=true then some false else Z56 m a
def gB (z:Bool) (l:List Int) (m:Z0a) (s:List Z0f) (t:Int):Option Bool:=(gA l m s t).bind fun b=>if (!b)=true then some false else if (t==0)=true then (if z=true then (Z01 s t).bind fun a=>some (!(a.f_N==0)) else some true) else some true
theorem f14 (x:Z1r) (l:List Int) (m:Z0a) (s:List Z0f) (hH:m.Z1u.length≤140737488355328) (h1:s.length=l.length):
  (∀ t:Int,0≤t→t<(s.length:Nat)→∃ b,gA l m s t=some b)∧(∀ t:Int,0≤t→t<(s.length:Nat)→∃ b,gB (Z2c .i64 x.Z0o 8==0) l m s t=some b)∧
  (∀ t:Int,0≤t→t≤(s.length:Nat)→Zqb l m s t=if decide (t<((s.length:Nat):Int))=true then ((gA l m s t).bind fun v=>if (!v)=true then some (.done (.inr (m,(22:Int)))) else ((some (IntKind.wrap .i64 (t+1))).bind fun k=>some (.next k))) else some (.done (.inl ())))∧
  (∀ t:Int,0≤t→t≤(s.length:Nat)→Zga x l m s t=if decide (t<((s.length:Nat):Int))=true then ((gB (Z2c .i64 x.Z0o 8==0) l m s t).bind fun v=>if (!v)=true then some (.done (.inr (m,(22:Int)))) else ((some (IntKind.wrap .i64 (t+1))).bind fun k=>some (.next k))) else some (.done (.inl ()))):=by
 have key:∀ t:Int,0≤t→t<(s.length:Nat)→∃ a k b,Z01 s t=some a∧Z01 l t=some k∧Z56 m a=some b:=fun t p q=>by
  obtain ⟨a,ea,_⟩:=gr (l:=s) (i:=t) p q
  obtain ⟨k,ek,_⟩:=gr (l:=l) (i:=t) p (by omega)
  obtain ⟨b,eb,_⟩:=Zgd m a hH
  exact ⟨a,k,b,ea,ek,eb⟩
 refine ⟨fun t p q=>?_,fun t p q=>?_,fun t p q=>?_,fun t p q=>?_⟩
 ·obtain ⟨a,k,b,ea,ek,eb⟩:=key t p q
  unfold gA
  simp only [ea,ek,Option.bind_some,eb]
  split <;> exact ⟨_,rfl⟩
 ·obtain ⟨a,k,b,ea,ek,eb⟩:=key t p q
  unfold gB gA
  simp only [ea,ek,Option.bind_some,eb]
  cases (a.Z1c !=k) <;> cases b <;> cases (t==0) <;> cases (Z2c .i64 x.Z0o 8==0) <;> exact ⟨_,rfl⟩
 ·unfold Zqb gA
  by_cases hlt:t<((s.length:Nat):Int)
  ·obtain ⟨a,k,b,ea,ek,eb⟩:=key t p hlt
   rw [if_pos (decide_eq_true hlt),if_pos (decide_eq_true hlt)]
   simp only [ea,ek,Option.bind_some,Y9g m a hH,eb]
   cases (a.Z1c !=k) <;> cases b <;> rfl
  ·rw [if_neg (by simpa using hlt),if_neg (by simpa using hlt)]
 ·unfold Zga gB gA
  by_cases hlt:t<((s.length:Nat):Int)
  ·obtain ⟨a,k,b,ea,ek,eb⟩:=key t p hlt
   rw [if_pos (decide_eq_true hlt),if_pos (decide_eq_true hlt)]
   simp only [ea,ek,Option.bind_some,eb]
   cases (a.Z1c !=k) <;> cases b <;> cases (t==0) <;> cases (Z2c .i64 x.Z0o 8==0) <;> cases (a.f_N==0) <;> rfl
  ·rw [if_neg (by simpa using hlt),if_neg (by simpa using hlt)]
theorem Y71 (x:Z1r) (s:List Z0f) (hs:s.length≤1000) (hx:0≤x.Z13.Z0c∧x.Z13.Z0c≤32):Z04 (Zmv x) Z05 s=some (s++List.replicate (x.Z13.Z0c.toNat - s.length) Z47):=by
 have h:Ok (Z04 (Zmv x) Z05 s) (fun r=>r=s++List.replicate (x.Z13.Z0c.toNat - s.length) Z47):=by
  refine lp (fun t=>t.length) (s.length+32) (fun t=>∃ k,t=s++List.replicate k Z47∧(0<k→(s.length+k:Int)≤x.Z13.Z0c)) (fun t hI g0 g1=>?_) (by omega) ⟨0,by simp,by omega⟩ (by omega) (by omega)
  obtain ⟨k,rfl,hk⟩:=hI
  have hlen:(s++List.replicate k Z47).length=s.length+k:=by simp
  unfold Zmv
  refine brD (fun hlt=>?_) fun hge=>dn ?_
  ·refine bd (gk (by simp only [List.length_append,List.length_cons,List.length_nil,List.length_replicate]; omega) (by simp only [List.length_append,List.length_cons,List.length_nil,List.length_replicate]; omega)) fun _ _=>nx ⟨k+1,?_,fun _=>by omega⟩ (by simp only [List.length_append,List.length_cons,List.length_nil,List.length_replicate]; omega) (by simp only [List.length_append,List.length_cons,List.length_nil,List.length_replicate]; omega)
   rw [List.replicate_succ',List.append_assoc]; rfl
  ·congr 2
   by_cases h0:0<k
   ·have:=hk h0; omega
   ·omega
 obtain ⟨r,e,rfl⟩:=h
 exact e
inductive Zaq (m:Z0a) (t c w:Int) (s:List Z0f):Int→Prop
 | no (h:Zi7 m c w=some false):Zaq m t c w s 2
 | nt (h:Z7o m t=some false):Zaq m t c w s 2
 | dead (th:Z1o) (h:Z01 m.Z0v t=some th) (h4:th.Z2k=4):Zaq m t c w s 61
 | ab:Zaq m t c w s 38
 | many (k:Z1x) (x:Z1r) (l:List Int) (h:HasM m c w k x) (hk:Zcb x=some l) (hl:s.length≠l.length):Zaq m t c w s 5
 | bad:Zaq m t c w s 22
 | deep (th:Z1o) (h:Z01 m.Z0v t=some th) (h64:64≤th.Z0s.length):Zaq m t c w s 58
theorem Y97 (m:Z0a) (h:Z3l m) (mk:∀ c∈m.Z1m.Z0z,MOk c.Z1f) (h100:m.Z0v.length≤1000) (t c w:Int) (s:List Z0f) (hs:s.length≤1000):
  (∃ e,e≠0∧Zaq m t c w s e∧Zf7 m t c w s=some (m,e)∧Zrm m t c w s=some (m,e))∨
  ∃ k x th l,HasM m c w k x∧Z01 m.Z0v t=some th∧x.Z3y=true∧th.Z2k≠4∧Zcb x=some l∧s.length=l.length∧(∀ j:Int,0≤j→j<(s.length:Nat)→gA l m s j=some true)∧
   ((Z2c .i64 x.Z0o 8==0)=true→∃ a,Z01 s 0=some a∧a.f_N≠0)∧th.Z0s.length<64∧
   Zf7 m t c w s=some (Z31 m t th (th.Z0s++[Z72 c w (s++List.replicate (x.Z13.Z0c.toNat - s.length) Z47)]),0)∧
   Zrm m t c w s=some (Z31 m t th (th.Z0s++[Z72 c w (s++List.replicate (x.Z13.Z0c.toNat - s.length) Z47)]),0):=by
 have hH:=h.heapL
 unfold Zf7 Zrm
 rw [← Ybt]
 rcases Y87 m c w with ⟨e1,x,e2⟩|⟨e1,k,x,hm,e2⟩
 ·rw [e1,e2]
  rcases Zy8 m t with ht|⟨ht,_⟩
  ·rw [ht]; exact .inl ⟨2,by decide,.no e1,rfl,rfl⟩
  ·rw [ht]; exact .inl ⟨2,by decide,.no e1,rfl,rfl⟩
 rw [e1,e2]
 rcases Zy8 m t with ht|⟨ht,th,hth⟩
 ·rw [ht]; exact .inl ⟨2,by decide,.nt ht,rfl,rfl⟩
 rw [ht]
 simp only [Option.bind_some,Bool.not_true,Bool.false_eq_true,if_false]
 unfold j14x1 j15x1
 rw [hth,hm.1]
 simp only [Option.bind_some]
 rw [hm.2]
 by_cases hst:(th.Z2k==4)=true
 ·rw [if_pos hst,if_pos hst]; exact .inl ⟨61,by decide,.dead th hth (by simpa using hst),rfl,rfl⟩
 rw [if_neg hst,if_neg hst]
 simp only [Option.bind_some]
 cases hc:x.Z3y with
 | false=>exact .inl ⟨38,by decide,.ab,rfl,rfl⟩
 | true=>
 simp only [Bool.not_true,Bool.false_eq_true,if_false]
 obtain ⟨hx1,hx2⟩:=mk k (Z4f hm.1).1 x (Z4f hm.2).1
 have hloc:=hx2 hc
 obtain ⟨l,k1,k2,h17,hl1⟩:=Zzz x hx1
 rw [Y75 m c w hm.1 hm.2,k1,k2]
 simp only [Option.bind_some]
 by_cases hn:((s.length:Int)!=(l.length:Int))=true
 ·rw [if_pos hn,if_pos hn]; exact .inl ⟨5,by decide,.many k x l hm k1 (fun he=>by rw [he] at hn; simp at hn),rfl,rfl⟩
 rw [if_neg hn,if_neg hn]
 have hlen:s.length=l.length:=by
  have:(s.length:Int)=l.length:=by simpa using hn
  omega
 obtain ⟨g1,g2,g3,g4⟩:=f14 x l m s hH hlen
 rcases allD (by omega) _ _ g1 g3 with ⟨q1,q2⟩|⟨q1,j,j0,j1,j2⟩
 rotate_left
 ·rcases allD (by omega) _ _ g2 g4 with ⟨r1,r2⟩|⟨r1,_⟩
  ·have:=r2 j j0 j1
   unfold gB at this
   rw [j2] at this
   cases this
  ·rw [q1,r1]; exact .inl ⟨22,by decide,.bad,rfl,rfl⟩
 -- the arguments are of their kinds
 have hnull:(Z2c .i64 x.Z0o 8==0)=true→∃ a,Z01 s 0=some a:=fun hz=>by
  have:=hl1 hz
  obtain ⟨a,ea,_⟩:=gr (l:=s) (i:=0) (by omega) (by omega)
  exact ⟨a,ea⟩
 have hB:∀ j:Int,0≤j→j<(s.length:Nat)→((Z2c .i64 x.Z0o 8==0)=true→∃ a,Z01 s 0=some a∧a.f_N≠0)→gB (Z2c .i64 x.Z0o 8==0) l m s j=some true:=fun j j0 j1 hz=>by
  unfold gB
  rw [q2 j j0 j1]
  simp only [Option.bind_some,Bool.not_true,Bool.false_eq_true,if_false]
  by_cases hj:(j==0)=true
  ·rw [if_pos hj]
   by_cases hzz:(Z2c .i64 x.Z0o 8==0)=true
   ·rw [if_pos hzz]
    obtain ⟨a,ea,ha⟩:=hz hzz
    have:j=0:=by simpa using hj
    rw [this,ea]
    simp [ha]
   ·rw [if_neg hzz]
  ·rw [if_neg hj]
 have hbad:(Z2c .i64 x.Z0o 8==0)=true→∀ a,Z01 s 0=some a→a.f_N=0→Z04 (Zga x l m s) Z05 0=some (.inr (m,22)):=fun hz a ea ha=>by
  rcases allD (by omega) _ _ g2 g4 with ⟨r1,r2⟩|⟨r1,_⟩
  ·have hpos:=hl1 hz
   have:=r2 0 (by omega) (by omega)
   unfold gB at this
   rw [q2 0 (by omega) (by omega)] at this
   simp only [Option.bind_some,Bool.not_true,Bool.false_eq_true,if_false] at this
   rw [if_pos (by rfl),if_pos hz,ea] at this
   simp [ha] at this
  ·exact r1
 have hloop:((Z2c .i64 x.Z0o 8==0)=true→∃ a,Z01 s 0=some a∧a.f_N≠0)→Z04 (Zga x l m s) Z05 0=some (.inl ()):=fun hz=>by
  rcases allD (by omega) _ _ g2 g4 with ⟨r1,_⟩|⟨_,j,j0,j1,j2⟩
  ·exact r1
  ·rw [hB j j0 j1 hz] at j2; cases j2
 rw [q1]
 simp only [Option.bind_some]
 by_cases hg:(Z2c .i64 x.Z0o 8==0)=true→∃ a,Z01 s 0=some a∧a.f_N≠0
 ·have hp:∀ F:Option (Z0a×Int),(if (Z2c .i64 x.Z0o 8==0)=true then (Z01 s 0).bind (fun v12=>if (v12.f_N==0)=true then some (m,22) else F) else F)=F:=fun F=>by
   by_cases hz:(Z2c .i64 x.Z0o 8==0)=true
   ·obtain ⟨a,ea,ha⟩:=hg hz
    rw [if_pos hz,ea]
    simp only [Option.bind_some]
    rw [if_neg (by simpa using ha)]
   ·rw [if_neg hz]
  rw [hp,hloop hg]
  simp only [Option.bind_some]
  unfold Zki
  rw [hth]
  simp only [Option.bind_some]
  by_cases h64:(th.Z0s.length:Int)≥64
  ·simp only [decide_eq_true h64,if_true]
   exact .inl ⟨58,by decide,.deep th hth (by omega),rfl,rfl⟩
  simp only [decide_eq_false h64,Bool.false_eq_true,if_false]
  refine .inr ⟨k,x,th,l,hm,rfl,hc,by simpa using hst,k1,hlen,q2,hg,by omega,?_,?_⟩
  ·have hv:(if x.Z13.Z0c>((s.length:Int):Int) then x.Z13.Z0c else (s.length:Int))=((max x.Z13.Z0c.toNat s.length:Nat):Int):=by
    have:=hloc.1
    split <;> omega
   have hmax:max x.Z13.Z0c.toNat s.length≤1032:=by have:=hloc.1; have:=hloc.2; omega
   have e1:Z7z 16 ((max x.Z13.Z0c.toNat s.length:Nat):Int) ((max x.Z13.Z0c.toNat s.length:Nat):Int)=some ():=by
    unfold Z7z; rw [if_pos ⟨by omega,by omega,by omega,by omega⟩]
   have e2:W.Zj7 (List.replicate ((max x.Z13.Z0c.toNat s.length:Nat):Int).toNat ({ Z1c:=0,f_N:=0 }:Z0f)) s=some (s++List.replicate (x.Z13.Z0c.toNat - s.length) Z47):=by
    unfold W.Zj7
    rw [Int.toNat_natCast,if_pos (by simp only [List.length_replicate]; omega),List.drop_replicate,show max x.Z13.Z0c.toNat s.length - s.length=x.Z13.Z0c.toNat - s.length by omega]
    rfl
   have e3:Zc1 th.Z0s=some th.Z0s:=by
    unfold Zc1
    have:sub th.Z0s 0 (th.Z0s.length:Int)=some th.Z0s:=by unfold sub; rw [if_pos ⟨by omega,by omega,by omega⟩]; simp
    rw [this]; rfl
   have e4:∀ a:Z19,Zaj th.Z0s [a]=some ():=fun a=>by unfold Zaj; rw [if_pos (.inr (by simp))]
   have e5:∀ a:Z19,Z1a 88 (th.Z0s++[a]).length=some ():=fun a=>Za3 88 (by simp only [List.length_append,List.length_cons,List.length_nil]; omega) (by decide)
   rw [hv,e1]
   simp only [Option.bind_some,e2,e3,e4,e5]
   have:=(Zvu m t (th.Z0s++[Z72 c w (s++List.replicate (x.Z13.Z0c.toNat - s.length) Z47)]) (by omega) hth).1
   unfold Z72 at this
   unfold Z72
   first|rw [this]; done|(rw [this]; rfl)|(rw [show ({ Z1c:=0,f_N:=0 }:Z0f)=Z47 from rfl]; rw [this]; rfl)
  ·have e1:Z1a 16 (([]:List Z0f)++s).length=some ():=Za3 16 (by simp only [List.nil_append]; omega) (by decide)
   have e2:Z1a 88 (([]:List Z19)++th.Z0s).length=some ():=Za3 88 (by simp only [List.nil_append]; omega) (by decide)
   have e3:∀ a,Z1a 88 ((([]:List Z19)++th.Z0s)++[a]).length=some ():=fun a=>Za3 88 (by simp only [List.nil_append,List.length_append,List.length_cons,List.length_nil]; omega) (by decide)
   rw [e1]
   simp only [Option.bind_some,List.nil_append] at e2 e3 ⊢
   rw [Y71 x s hs ⟨hloc.1,hloc.2⟩]
   simp only [Option.bind_some]
   rw [e2,e3]
   simp only [Option.bind_some]
   rw [(Zvu m t _ (by omega) hth).2]
   rfl
 ·have hz:(Z2c .i64 x.Z0o 8==0)=true:=Classical.byContradiction fun h=>hg fun h'=>absurd h' h
  obtain ⟨a,ea⟩:=hnull hz
  have h0:a.f_N=0:=Classical.byContradiction fun h=>hg fun _=>⟨a,ea,h⟩
  rw [if_pos hz,hbad hz a ea h0,ea]
  simp only [Option.bind_some]
  rw [if_pos (by simpa using h0)]
  exact .inl ⟨22,by decide,.bad,rfl,rfl⟩
end Go.Proofs
namespace Go.Proofs
open Go.Den Go.Tot
end Go.Proofs
namespace Go.Proofs
open Go.Den Go.Tot
end Go.Proofs
namespace Go.Proofs
open Go.Den Go.Tot
theorem rfL {α:Type} (l:List α) {f:Int→Option (Ctl Int (Unit⊕Bool))} (hm:l.length≤4503599627370496) (h:∀ (t:Int) v,t<l.length→v∈l→Z01 l t=some v→IntKind.wrap .i64 (t+1)=t+1→f t=some (.next (t+1))) (he:∀ t:Int,¬t<l.length→f t=some (.done (.inl ()))):
  Z04 f Z05 0=some (.inl ()):=by
 have:Ok (Z04 f Z05 0) (fun q=>q=.inl ()):=by
  refine li l.length (fun t h0 h1=>?_) (by omega) (by omega) (by omega)
  rcases Int.lt_or_le t l.length with hlt|hge
  ·obtain ⟨v,e,hv,_⟩:=gri (l:=l) h0 hlt
   rw [h t v hlt hv e (Z46 (by omega) (by omega))]
   exact ni (by omega) (by omega)
  ·rw [he t (by omega)]; exact di rfl
 obtain ⟨q,e,rfl⟩:=this
 exact e
theorem Y49 (l:List (List UInt8)) (h:l.length≤4503599627370496):Zgt l l=some true:=by
 unfold Zgt
 rw [rfL l h (fun t v h1 hv e hw=>by unfold Zpr; rw [if_pos (decide_eq_true h1),e]; simp [hw]) fun t h=>by unfold Zpr; rw [if_neg (by simpa using h)]]
 simp
theorem Y53 (l:List Z0l) (h:l.length≤4503599627370496):Zic l l=some true:=by
 unfold Zic
 rw [rfL l h (fun t v h1 hv e hw=>by unfold Zok; rw [if_pos (decide_eq_true h1),e]; simp [hw,Zto,Zkc]) fun t h=>by unfold Zok; rw [if_neg (by simpa using h)]]
 simp
theorem Ya2 (f:Z5y) (h:Z97 f):Zlx f f=some true:=by
 unfold Zlx
 rw [Y53 _ (by have:=h.locL; omega),Y53 _ (by have:=h.stkL; omega)]
 simp
theorem eq_maps (l:List Z0t) (h:l.length≤4503599627370496) (hf:∀ m∈l,Z97 m.Z1w):Zot l l=some true:=by
 unfold Zot
 rw [rfL l h (fun t v h1 hv e hw=>by unfold Zju; rw [if_pos (decide_eq_true h1),e]; simp [hw,Ya2 _ (hf v hv)]) fun t h=>by unfold Zju; rw [if_neg (by simpa using h)]]
 simp
theorem Zz4 (l:List Int) (h:l.length≤4503599627370496):Zhy l l=some true:=by
 unfold Zhy
 rw [rfL l h (fun t v h1 hv e hw=>by unfold Zlr; rw [if_pos (decide_eq_true h1),e]; simp [hw]) fun t h=>by unfold Zlr; rw [if_neg (by simpa using h)]]
 simp
theorem eq_insn (i:Z02) (h:Z36 i):Zlf i i=some true:=by
 unfold Zlf
 rw [Zz4 _ (by have:=h.keys; omega),Zz4 _ (by have:=h.tos; omega)]
 simp [Ze4]
theorem eq_code (c:Z09) (h:Z5v c):Zom c c=some true:=by
 unfold Zom Zs3
 rw [eq_maps _ (by have:=h.mapL; omega) h.map,
  rfL c.Z0k (by have:=h.insL; omega) (fun t v h1 hv e hw=>by unfold Znr; rw [if_pos (decide_eq_true h1),e]; simp [hw,eq_insn _ (h.ins v hv)]) fun t h=>by unfold Znr; rw [if_neg (by simpa using h)]]
 simp only [Option.bind]
 rw [rfL c.Z21 (by have:=h.hndL; omega) (fun t v h1 hv e hw=>by unfold Zm6; rw [if_pos (decide_eq_true h1),e]; simp [hw,Zvt]) fun t h=>by unfold Zm6; rw [if_neg (by simpa using h)]]
 simp only []
 rw [rfL c.Z1y (by have:=h.linL; omega) (fun t v h1 hv e hw=>by unfold Zqj; rw [if_pos (decide_eq_true h1),e]; simp [hw,Zv0]) fun t h=>by unfold Zqj; rw [if_neg (by simpa using h)]]
 simp
theorem Ybs (u:Z0u) (h:Z5u u):Zn8 u u=some true:=by
 unfold Zn8 Zqv
 rw [Y49 _ (by have:=h.ifsL; omega),
  rfL u.Z18 (by have:=h.fldL; omega) (fun t v h1 hv e hw=>by unfold Zqr; rw [if_pos (decide_eq_true h1),e]; simp [hw,Zvs]) fun t h=>by unfold Zqr; rw [if_neg (by simpa using h)]]
 simp only [Option.bind]
 rw [rfL u.Z0j (by have:=h.metL; omega) (fun t v h1 hv e hw=>by unfold Zjx; rw [if_pos (decide_eq_true h1),e]; simp [hw,eq_code _ (h.met v hv).code,Y49 _ (show v.Z6j.length≤_ by have:=(h.met v hv).excL; omega)]) fun t h=>by unfold Zjx; rw [if_neg (by simpa using h)]]
 simp
theorem Y8q (l:List Z1x) (hl:l.length≤140737488355328) (h:∀ c∈l,Z5u c.Z1f∧c.Z1b.length≤140737488355328):Zn2 l l=some true:=by
 unfold Zn2
 rw [rfL l (by omega) (fun t v h1 hv e hw=>by
  unfold Zle j76x1
  have hi:Z04 (Zfw v v) Z05 0=some (.inl ()):=rfL v.Z1b (by have:=(h v hv).2; omega) (fun t v h1 hv e hw=>by unfold Zfw; rw [if_pos (decide_eq_true h1),e]; simp [hw]) fun t h=>by unfold Zfw; rw [if_neg (by simpa using h)]
  rw [if_pos (decide_eq_true h1),e]
  simp [hw,Ybs _ (h v hv).1,hi]) fun t h=>by unfold Zle; rw [if_neg (by simpa using h)]]
 simp
theorem Y86 (l:List Z1i) (hl:l.length≤140737488355328) (h:∀ c∈l,Z84 c):Zm9 l l=some true:=by
 unfold Zm9
 rw [rfL l (by omega) (fun t v h1 hv e hw=>by
  unfold Zpj j75x1
  have h2:Z04 (Zj4 t l l) Z05 0=some (.inl ()):=rfL v.Z45 (by have:=(h v hv).delL; omega) (fun t v h1 hv e' hw=>by unfold Zj4; rw [e]; dsimp only [Option.bind]; rw [if_pos (decide_eq_true h1),e']; simp [hw,Zu9]) fun t h=>by unfold Zj4; rw [e]; dsimp only [Option.bind]; rw [if_neg (by simpa using h)]
  have h3:Z04 (Zgw t l l) Z05 0=some (.inl ()):=rfL v.Z3d (by have:=(h v hv).stoL; omega) (fun t v h1 hv e' hw=>by unfold Zgw; rw [e]; dsimp only [Option.bind]; rw [if_pos (decide_eq_true h1),e']; simp [hw,Zsl]) fun t h=>by unfold Zgw; rw [e]; dsimp only [Option.bind]; rw [if_neg (by simpa using h)]
  rw [if_pos (decide_eq_true h1),e]
  simp [hw,h2,h3]) fun t h=>by unfold Zpj; rw [if_neg (by simpa using h)]]
 simp
theorem Ya7 (w:Z0w) (h:Z5d w):Zp7 w w=some true:=by
 unfold Zp7 j39x1
 rw [Y86 _ h.lodL h.lod,Y8q _ h.clsL h.cls,
  rfL w.Z2l (by have:=h.iniL; omega) (fun t v h1 hv e hw=>by unfold Zpp; rw [if_pos (decide_eq_true h1),e]; simp [hw,Zu4]) fun t h=>by unfold Zpp; rw [if_neg (by simpa using h)]]
 simp only [Option.bind]
 rw [rfL w.Z37 (by have:=h.conL; omega) (fun t v h1 hv e hw=>by unfold Zl5; rw [if_pos (decide_eq_true h1),e]; simp [hw,Ztr]) fun t h=>by unfold Zl5; rw [if_neg (by simpa using h)]]
 simp
end Go.Proofs
namespace Go.Proofs
open Go.Den Go.Tot
theorem Zko (l:List Z0f) (h:l.length≤140737488355328):Zaf l l=some true:=by
 unfold Zaf
 rw [rfL l (by omega) (fun t v h1 hv e hw=>by unfold Zk3 j21x1; rw [if_pos (decide_eq_true h1),if_pos (decide_eq_true h1),e]; simp [hw,Z2t]) fun t h=>by unfold Zk3; rw [if_neg (by simpa using h)]]
 simp
theorem eq_wset (l:List Int) (h:l.length≤140737488355328):Zoq l l=some true:=by
 unfold Zoq
 rw [rfL l (by omega) (fun t v h1 hv e hw=>by unfold Zji Ztj; rw [if_pos (decide_eq_true h1),if_pos (decide_eq_true h1),e]; simp [hw]) fun t h=>by unfold Zji; rw [if_neg (by simpa using h)]]
 simp
theorem eq_obj (o:Z2j) (h:WObj o):Zpi o o=some true:=by
 unfold Zpi
 rw [Zko _ h.val,eq_wset _ h.ws]
 simp [Zcg]
theorem Y0v (a:Z19) (h:Z9k a):Zgi a a=some true:=by
 unfold Zgi
 rw [Zko _ h.loc,Zko _ h.stk]
 simp
theorem Ycv (t:Z1o) (h:(∀ a∈t.Z0s,Z9k a)∧t.Z0s.length≤140737488355328):Zoh t t=some true:=by
 unfold Zoh j74x1
 rw [rfL t.Z0s (by have:=h.2; omega) (fun i v h1 hv e hw=>by unfold Zn6; rw [if_pos (decide_eq_true h1),e]; simp [hw,Y0v v (h.1 v hv)]) fun i h=>by unfold Zn6; rw [if_neg (by simpa using h)]]
 simp [Z2t]
theorem Yar (l:List Z3p) (hl:l.length≤140737488355328) (h:∀ b∈l,b.Z8n.length≤140737488355328):Znu l l=some true:=by
 unfold Znu
 rw [rfL l (by omega) (fun t v h1 hv e hw=>by
  unfold Zkk Zjy Zkw Zo7
  rw [if_pos (decide_eq_true h1),if_pos (decide_eq_true h1),e]
  simp only [Option.bind_some,decide_eq_true h1,if_true,e]
  rw [Zko _ (h v hv)]
  simp [hw]) fun t h=>by unfold Zkk; rw [if_neg (by simpa using h),if_neg (by simpa using h)]]
 rfl
theorem eq_rest (m:Z0a) (h:Z3l m):Zpt m m=some true:=by
 unfold Zpt j38x1
 rw [Yar _ h.iniL h.ini,
  rfL m.Z1u (by have:=h.heapL; omega) (fun t v h1 hv e hw=>by unfold Zqp; rw [if_pos (decide_eq_true h1),e]; simp [hw,eq_obj v (h.heap v hv)]) fun t h=>by unfold Zqp; rw [if_neg (by simpa using h)]]
 simp only [Option.bind]
 rw [rfL m.Z3c (by have:=h.intL; omega) (fun t v h1 hv e hw=>by unfold Zjk; rw [if_pos (decide_eq_true h1),e]; simp [hw,Ztn]) fun t h=>by unfold Zjk; rw [if_neg (by simpa using h)]]
 simp only []
 rw [rfL m.Z0v (by have:=h.thrL; omega) (fun t v h1 hv e hw=>by unfold Zjh; rw [if_pos (decide_eq_true h1),e]; simp [hw,Ycv v (h.thr v hv)]) fun t h=>by unfold Zjh; rw [if_neg (by simpa using h)]]
 simp only []
 rw [rfL m.Z4r (by have:=h.outL; omega) (fun t v h1 hv e hw=>by unfold Zo9; rw [if_pos (decide_eq_true h1),e]; simp [hw]) fun t h=>by unfold Zo9; rw [if_neg (by simpa using h)]]
 simp
theorem Zzi (m:Z0a) (h:Z3l m):Zhm m m=some true:=by
 unfold Zhm
 rw [eq_rest m h,Ya7 _ h.sp]
 rfl
theorem Z3l.set {m:Z0a} (h:Z3l m) {t:Int} {th:Z1o} (ht:Z01 m.Z0v t=some th) {l:List Z19} (hl:l.length≤1000) (ha:∀ a∈l,Z9k a):Z3l (Z31 m t th l):=
 ⟨h.sp,h.heap,h.heapL,h.ini,h.iniL,h.int,h.intL,fun x hx=>by
  rcases List.mem_or_eq_of_mem_set hx with hx|rfl
  ·exact h.thr x hx
  ·exact ⟨ha,by dsimp only; omega⟩,by unfold Z31; simp only [List.length_set]; exact h.thrL,h.outL⟩
theorem Zsn:Zhw=some true:=by kernel_rfl
end Go.Proofs
namespace Go.Proofs
open Go.Den Go.Tot
theorem few_ok (m:Z0a):∃ b,Zjn m=some b:=by
 unfold Zjn
 repeat' split
 all_goals exact ⟨_,rfl⟩
theorem Z5h.len64 {m:Z0a} (h:Z3l m) (v:Z5h m):∀ th∈m.Z0v,th.Z0s.length≤64:=fun th hth=>by
 obtain ⟨i,hi⟩:=List.getElem?_of_mem hth
 have hlt:i<m.Z0v.length:=(List.getElem?_eq_some_iff.1 hi).1
 exact (v.acts h (n:=(i:Int)) (by omega) (by unfold Z01; rw [if_pos (by omega),Int.toNat_natCast]; exact hi) (by omega)).1
theorem Zy7 {c w:Int} {s:List Z0f} {x:Z09} (hs:s.length≤1000) (hx:Loc x):Z9k (Z72 c w (s++List.replicate (x.Z0c.toNat - s.length) Z47)):=
 ⟨by have:=hx.1; have:=hx.2; simp only [Z72,List.length_append,List.length_replicate]; omega,by simp [Z72]⟩
theorem Z3l.push {m:Z0a} (h:Z3l m) {t:Int} {th:Z1o} (ht:Z01 m.Z0v t=some th) (h63:th.Z0s.length<64) {c w:Int} {s:List Z0f} {x:Z09} (hs:s.length≤1000) (hx:Loc x):
  Z3l (Z31 m t th (th.Z0s++[Z72 c w (s++List.replicate (x.Z0c.toNat - s.length) Z47)])):=
 h.set ht (by simp only [List.length_append,List.length_cons,List.length_nil]; omega) fun y hy=>by
  rcases List.mem_append.1 hy with hy|hy
  ·exact (h.thr th (Z4f ht).1).1 y hy
  ·rcases List.mem_singleton.1 hy with rfl
   exact Zy7 hs hx
end Go.Proofs
namespace Go.Proofs
open Go.Den Go.Tot
theorem getA {m:Z0a} {t:Int} {th:Z1o} (ht:Z01 m.Z0v t=some th) (l:List Z19) (k:Int):
  Z01 (Z31 m t th l).Z0v k=(Z01 m.Z0v k).map fun x=>if k=t then { th with Z0s:=l } else x:=by
 obtain ⟨_,hx,h0,h1⟩:=Zd3 ht
 unfold Z01 Z31
 by_cases hk:0≤k
 ·rw [if_pos hk,if_pos hk]
  dsimp only
  rw [List.getElem?_set]
  by_cases he:k=t
  ·subst he
   rw [if_pos rfl,if_pos (by omega),hx]
   simp
  ·rw [if_neg (by omega)]
   cases m.Z0v[k.toNat]? with
   | none=>rfl
   | some x=>simp [he]
 ·rw [if_neg hk,if_neg hk]; rfl
section
variable {m:Z0a} {t:Int} {th:Z1o} {l:List Z19}
theorem thrA (k:Int):Z8z (Z31 m t th l) k=Z8z m k:=by
 unfold Z8z
 rw [show (Z31 m t th l).Z0v.length=m.Z0v.length from List.length_set ..]
theorem l63A (ht:Z01 m.Z0v t=some th) (o:Z2j) (n:Int):Zcy o (Z31 m t th l) n=Zcy o m n:=by
 funext k
 unfold Zcy
 split
 ·refine congrArg _ (funext fun v=>?_)
  rw [thrA,getA ht]
  cases e:Z01 m.Z0v v with
  | none=>rfl
  | some x=>
   simp only [Option.map_some,Option.bind_some]
   by_cases hv:v=t
   ·subst hv
    rw [ht] at e
    cases e
    rw [if_pos rfl]
   ·rw [if_neg hv]
 ·rfl
theorem monA (ht:Z01 m.Z0v t=some th) (n:Int):Z99 (Z31 m t th l) n=Z99 m n:=by
 have hj:∀ o,Z7k o (Z31 m t th l) n=Z7k o m n:=fun o=>by unfold Z7k; rw [l63A ht]
 unfold Z99
 simp only [hj,thrA]
 rfl
theorem mayA (v:Z0f):Z56 (Z31 m t th l) v=Z56 m v:=rfl
theorem plainA (o:Z2j):Ze3 (Z31 m t th l) o=Ze3 m o:=rfl
theorem arrayA (o:Z2j):Zei (Z31 m t th l) o=Zei m o:=rfl
theorem objectA (ht:Z01 m.Z0v t=some th) (n:Int):Z8s (Z31 m t th l) n=Z8s m n:=by
 unfold Z8s
 simp only [monA ht,plainA,arrayA]
 rfl
theorem begunA (n:Int):Z8q (Z31 m t th l) n=Z8q m n:=by
 have hj:∀ o,Zad o (Z31 m t th l) n=Zad o m n:=fun o=>rfl
 unfold Z8q
 simp only [hj,thrA]
 rfl
theorem stateA (ht:Z01 m.Z0v t=some th) (n:Int):Zbu (Z31 m t th l) n=Zbu m n:=by
 unfold Zbu
 rw [getA ht]
 cases e:Z01 m.Z0v n with
 | none=>rfl
 | some x=>
  simp only [Option.map_some,Option.bind_some]
  by_cases hv:n=t
  ·subst hv
   rw [ht] at e
   cases e
   rw [if_pos rfl]
   rfl
  ·rw [if_neg hv]; rfl
end
theorem Zof {o x:Option Bool} (h:(o.bind fun v=>if (!v)=true then some false else x)=some true):o=some true∧x=some true:=by
 cases o with
 | none=>cases h
 | some b=>cases b with
  | false=>cases h
  | true=>exact ⟨rfl,h⟩
theorem Zwa {b:Bool} {x:Option Bool} (h:(if b=true then some false else x)=some true):b=false∧x=some true:=by
 cases b with
 | true=>cases h
 | false=>exact ⟨rfl,h⟩
theorem Yb4 {m:Z0a} {th:Z1o} (hl:th.Z0s.length≤64) (h:∀ a∈th.Z0s,Z5n m a=some true):Z83 th m=some true:=by
 unfold Z83
 rw [Zj3 (n:=th.Z0s.length) (by omega) (fun i=>(Z01 th.Z0s i).bind (Z5n m)) (fun i h0 h1=>by
  obtain ⟨a,e,hm⟩:=gr (l:=th.Z0s) h0 h1
  rw [e]
  exact h a hm) (fun i=>by
  unfold Zmw
  split
  ·rw [Option.bind_assoc]
  ·rfl)]
 rfl
theorem runsA {m:Z0a} {t:Int} {th:Z1o} {l:List Z19} (ht:Z01 m.Z0v t=some th) (hl:l.length≤64) (h4:th.Z2k≠4) (hact:∀ a∈l,Z5n m a=some true) {n:Int}
  (h:Z8w m n=some true):Z8w (Z31 m t th l) n=some true:=by
 unfold Z8w at h ⊢
 rw [getA ht,stateA ht]
 cases e:Z01 m.Z0v n with
 | none=>rw [e] at h; cases h
 | some x=>
  rw [e] at h
  simp only [Option.map_some,Option.bind_some] at h ⊢
  by_cases hv:n=t
  ·subst hv
   rw [ht] at e
   cases e
   rw [if_pos rfl]
   obtain ⟨s1,h⟩:=Zof h
   obtain ⟨s2,h⟩:=Zof h
   obtain ⟨s3,h⟩:=Zof h
   obtain ⟨s4,h⟩:=Zof h
   obtain ⟨_,h⟩:=Zwa h
   have hne:(th.Z2k==4)=false:=by simpa using h4
   unfold Zjd at h
   rw [if_neg (by rw [hne]; decide),if_pos (by simpa using h4)] at h
   obtain ⟨s5,h⟩:=Zwa h
   obtain ⟨s6,h⟩:=Zwa h
   have r:∀ k,Z7y (Z31 m n th l) k=Z7y m k:=fun k=>rfl
   have j:Z83 { th with Z0s:=l } (Z31 m n th l)=some true:=Yb4 hl fun a ha=>hact a ha
   rw [s1,r,r,mayA]
   dsimp only
   rw [s2,s3,s4]
   simp only [Option.bind_some,Bool.not_true,Bool.false_eq_true,if_false]
   rw [if_neg (by simp; omega)]
   unfold Zjd
   dsimp only
   rw [if_neg (by rw [hne]; decide),if_pos (by simpa using h4),if_neg (by rw [s5]; decide),if_neg (by rw [s6]; decide)]
   exact j
  ·rw [if_neg hv]
   exact h
theorem Z5h.set {m:Z0a} (v:Z5h m) {t:Int} {th:Z1o} {l:List Z19} (ht:Z01 m.Z0v t=some th) (hl:l.length≤64) (h4:th.Z2k≠4) (hact:∀ a∈l,Z5n m a=some true):Z5h (Z31 m t th l):=
 have hlen:(Z31 m t th l).Z0v.length=m.Z0v.length:=List.length_set ..
 ⟨v.sp,v.vok,v.max0,v.max1,v.heap,v.init,by rw [hlen]; exact v.thr,v.txt,fun n h0 h1=>(objectA ht n).trans (v.obj n h0 h1),fun n h0 h1=>(begunA n).trans (v.beg n h0 h1),fun n h0 h1=>runsA ht hl h4 hact (v.run n h0 (by rw [hlen] at h1; exact h1))⟩
theorem Ybw {m:Z0a} {t:Int} {th:Z1o} (ht:Z01 m.Z0v t=some th) (l:List Z19):Z31 (Z31 m t th l) t { th with Z0s:=l } th.Z0s=m:=by
 obtain ⟨_,hx,h0,h1⟩:=Zd3 ht
 have:(m.Z0v.set t.toNat { th with Z0s:=l }).set t.toNat th=m.Z0v:=by
  rw [List.set_set]
  apply List.ext_getElem?
  intro i
  rw [List.getElem?_set]
  split
  ·rename_i he; subst he
   rw [if_pos (by omega),hx]
  ·rfl
 unfold Z31
 dsimp only
 rw [this]
end Go.Proofs
namespace Go.Proofs
open Go.Den Go.Tot
theorem top_is {m:Z0a} (h64:∀ th∈m.Z0v,th.Z0s.length≤64) {t:Int} {th:Z1o} (ht:Z01 m.Z0v t=some th) {l:List Z19} {a:Z19} (hl:th.Z0s=l++[a]):Z6m m t=some (a,0):=by
 rcases Y5i m t h64 with ⟨_,h⟩|⟨th',ht',h,_⟩|⟨th',l',a',ht',hl',h⟩
 ·exfalso
  obtain ⟨_,_,h0,h1⟩:=Zd3 ht
  unfold Z7o at h
  rw [if_pos (decide_eq_true h0),decide_eq_true h1] at h
  cases h
 ·rw [ht] at ht'; cases ht'
  rw [hl] at h; simp at h
 ·rw [ht] at ht'; cases ht'
  rw [hl] at hl'
  obtain ⟨_,e⟩:=List.append_inj' hl' rfl
  cases e
  exact h
end Go.Proofs
namespace Go.Proofs
open Go.Den Go.Tot
theorem Y7q (x:Z1r) (hd:x.Z1p.length≤1024) {l:List Int} (h:Zb7 x=some l) {sg:Z26} (hs:Z5m x.Z1p=some (sg,0)):(l.length:Int)=Zba x.Z0o sg∧sg.Z3b.length≤16:=by
 obtain ⟨v,_,s2,_,_,h16⟩:=Y4a x.Z1p (by omega)
 rw [hs] at s2
 cases s2
 dsimp only at h16
 have hj:∀ p:List Int,Im (Zb0 x p) (fun l=>(l.length:Int)=p.length+sg.Z3b.length):=fun p=>by
  unfold Zb0
  rw [hs]
  refine I.sk fun v hv=>?_
  cases hv
  refine I.bd (I.lp (fun t:Int×List Int=>0≤t.1∧t.1≤(sg.Z3b.length:Int)∧(t.2.length:Int)=p.length+t.1) (Q:=fun q=>(q.length:Int)=p.length+sg.Z3b.length) (fun t ht=>?_) ⟨by dsimp only; omega,by dsimp only; omega,by dsimp only; omega⟩) fun q hq=>I.ok hq
  unfold Zeu
  refine I.br (fun hlt=>I.sk fun _ _=>I.sk fun _ _=>I.sk fun _ _=>I.sk fun k hk=>?_) fun hge=>I.dn (by have:=of_decide_eq_false hge; dsimp only at this; omega)
  have:=of_decide_eq_true hlt
  dsimp only at this
  rw [Z46 (n:=t.1+1) (by omega) (by omega)] at hk
  cases hk
  exact I.nx ⟨by dsimp only; omega,by dsimp only; omega,by simp only [List.length_append,List.length_cons,List.length_nil]; omega⟩
 refine ⟨?_,h16⟩
 have:Im (Zb7 x) (fun l=>(l.length:Int)=Zba x.Z0o sg):=by
  unfold Zb7 Zba
  refine I.sk fun v hv=>?_
  cases hv
  refine I.br (fun h=>I.sk fun _ _=>I.mono (hj _) fun l hl=>?_) fun h=>I.mono (hj _) fun l hl=>?_
  ·rw [if_pos h]; simp only [List.nil_append,List.length_cons,List.length_nil] at hl; omega
  ·rw [if_neg (by simp [h])]; simp only [List.length_nil] at hl; omega
 exact this l h
theorem Y6x (m:Z0a) (l:List Z0f) (hl:l.length≤1000) (h:∀ y∈l,Z56 m y=some true):Zbc m l true=some true:=by
 unfold Zbc
 rw [Zj3 (n:=l.length) (by omega) (fun i=>(Z01 l i).bind (Z56 m)) (fun i h0 h1=>by
  obtain ⟨a,e,hm⟩:=gr (l:=l) h0 h1
  rw [e]
  exact h a hm) (fun i=>by
  unfold Ziq
  split
  ·rw [Option.bind_assoc]
   refine congrArg _ (funext fun y=>?_)
   cases Z56 m y with
   | none=>rfl
   | some b=>cases b <;> rfl
  ·rfl)]
 rfl
theorem new_act {m:Z0a} (hm:Z3l m) (v:Z5h m) {c w:Int} {k:Z1x} {x:Z1r} (hk:HasM m c w k x) (hc:x.Z3y=true) {s:List Z0f} {l:List Int} (hl:Zb7 x=some l) (hlen:s.length=l.length)
  (hg:∀ j:Int,0≤j→j<(s.length:Nat)→gA l m s j=some true):Z5n m (Z72 c w (s++List.replicate (x.Z13.Z0c.toNat - s.length) Z47))=some true∧s.length≤x.Z13.Z0c.toNat:=by
 obtain ⟨h1,h2⟩:=v.mo2 hm k (Z4f hk.1).1
 obtain ⟨hd,hloc⟩:=h1 x (Z4f hk.2).1
 obtain ⟨hin,sg,hsg,hw⟩:=h2 x (Z4f hk.2).1 hc
 have l0:=(hloc hc).1
 have l1:=(hloc hc).2
 obtain ⟨hl1,h16⟩:=Y7q x hd hl hsg
 have hle:=hw (by omega)
 have hs:s.length≤x.Z13.Z0c.toNat:=by omega
 obtain ⟨_,_,c0,c1⟩:=Zd3 hk.1
 obtain ⟨_,_,w0,w1⟩:=Zd3 hk.2
 refine ⟨?_,hs⟩
 have hmay:∀ y∈s++List.replicate (x.Z13.Z0c.toNat - s.length) Z47,Z56 m y=some true:=fun y hy=>by
  rcases List.mem_append.1 hy with hy|hy
  ·obtain ⟨j,hj⟩:=List.getElem?_of_mem hy
   have hlt:=(List.getElem?_eq_some_iff.1 hj).1
   have h:=hg (j:Int) (by omega) (by omega)
   unfold gA at h
   have:Z01 s (j:Int)=some y:=by unfold Z01; rw [if_pos (by omega),Int.toNat_natCast]; exact hj
   rw [this] at h
   simp only [Option.bind_some] at h
   cases e:Z01 l (j:Int) with
   | none=>rw [e] at h; cases h
   | some z=>
    rw [e] at h
    simp only [Option.bind_some] at h
    split at h
    ·cases h
    ·exact h
  ·rw [List.eq_of_mem_replicate hy]; rfl
 have hll:((s++List.replicate (x.Z13.Z0c.toNat - s.length) Z47).length:Int)=x.Z13.Z0c:=by
  rw [List.length_append,List.length_replicate]; omega
 have hv:=Y6x m _ (by omega) hmay
 have hr:Z7y m 0=some true:=rfl
 have d1: ¬ c<0:=by omega
 have d2: ¬ c≥(m.Z1m.Z0z.length:Int):=by omega
 have d3:(w== -1)=false:=by simpa using (show w≠ -1 by omega)
 have d4:(w== -2)=false:=by simpa using (show w≠ -2 by omega)
 have d5: ¬ w<0:=by omega
 have d6: ¬ w≥(k.Z1f.Z0j.length:Int):=by omega
 have d7:(0:Int)≥0:=by omega
 have d8:(0:Int)<(x.Z13.Z0k.length:Int):=by have:=hin.1; omega
 have d9:(((s++List.replicate (x.Z13.Z0c.toNat - s.length) Z47).length:Int)==x.Z13.Z0c)=true:=by rw [hll]; simp
 have d10:(([]:List Z0f).length:Int)≤x.Z13.Z0m:=by have:=hin.2; simp; omega
 have hv2:Zbc m [] false=some true:=rfl
 unfold Z72
 unfold Z5n Zl2 Zk1 Zl1
 dsimp only
 simp only [decide_eq_false d1,decide_eq_false d2,d3,d4,decide_eq_false d5,decide_eq_false d6,decide_eq_true d7,decide_eq_true d8,d9,decide_eq_true d10,hr,hk.1,hk.2,hc,hv,hv2,Option.bind_some,Bool.not_true,Bool.false_eq_true,if_false,if_true]
theorem Yai (s:List Z0f) (n:Nat) (hn:s.length+n≤1000) (a:Z19×Int) (ha:a.1.Z0c=s++List.replicate n Z47):Z04 (l4x1 a s) Z05 0=some (.inl ()):=by
 have hL:(s++List.replicate n Z47).length=s.length+n:=by rw [List.length_append,List.length_replicate]
 have:Ok (Z04 (l4x1 a s) Z05 0) (fun q=>q=.inl ()):=by
  refine lp (fun t=>t) (s.length+n:Nat) (fun _=>True) (fun t _ g0 g1=>?_) (by omega) trivial (by omega) (by omega)
  unfold l4x1
  rw [ha,hL]
  refine brD (fun hlt=>?_) fun _=>dn rfl
  have nxt:Ok ((some (IntKind.wrap .i64 (t+(1:Int)))).bind fun v17=>some (Ctl.next v17:Ctl Int (Unit⊕Bool))) (St (fun _:Int=>True) (fun t=>t) (s.length+n:Nat) (fun q=>q=.inl ()) t):=bd wr fun k hk=>nx trivial (by omega) (by omega)
  by_cases hs:t<(s.length:Int)
  ·obtain ⟨y,e,_⟩:=gr (l:=s) g0 hs
   have e2:Z01 (s++List.replicate n Z47) t=some y:=by
    unfold Z01 at e ⊢
    rw [if_pos g0] at e ⊢
    rw [List.getElem?_append_left (by omega)]
    exact e
   rw [if_pos (decide_eq_true hs),e,e2]
   simp only [Option.bind_some]
   rw [if_neg (by simp [Z2t]),if_neg (by simpa using hs)]
   exact nxt
  ·have e2:Z01 (s++List.replicate n Z47) t=some Z47:=by
    unfold Z01
    rw [if_pos g0,List.getElem?_append_right (by omega),List.getElem?_replicate,if_pos (by omega)]
   rw [if_neg (by simpa using hs),if_pos (decide_eq_true (by omega)),e2]
   simp only [Option.bind_some]
   rw [if_neg (by simp [Z2t,Z47])]
   exact nxt
 obtain ⟨r,e,rfl⟩:=this
 exact e
theorem Y9w (m:Z0a) (hm:Z3l m) (t c w:Int) (s:List Z0f):Zuj m t c w s=some true:=by
 have hj:j4x3=some true:=by unfold j4x3; rw [Zsn]; rfl
 obtain ⟨b,eb⟩:=few_ok m
 unfold Zuj
 rw [eb]
 simp only [Option.bind_some]
 cases b with
 | false=>exact hj
 | true=>
 simp only [Bool.not_true,Bool.false_eq_true,if_false]
 by_cases h1:(s.length:Int)>40
 ·simp only [decide_eq_true h1,if_true]; exact hj
 simp only [decide_eq_false h1,Bool.false_eq_true,if_false]
 obtain ⟨b,e,hb⟩:=valid36 m hm
 rw [e]
 simp only [Option.bind_some]
 cases b with
 | false=>exact hj
 | true=>
 have v:=hb rfl
 have h64:=v.len64 hm
 have ht8:=v.thr
 simp only [Bool.not_true,Bool.false_eq_true,if_false]
 unfold j4x1
 rcases Y97 m hm (v.mok hm) (by omega) t c w s (by omega) with ⟨e,he,_,p1,_⟩|⟨k,x,th,l,hk,ht,hc,hst,hki,hlen,hgA,_,h63,p1,_⟩
 ·rw [p1,Zsn]
  simp only [Option.bind_some]
  rw [if_pos (by simpa using he),Zzi m hm]
  rfl
 ·obtain ⟨hx1,hx2⟩:=(v.mok hm) k (Z4f hk.1).1 x (Z4f hk.2).1
  obtain ⟨l',k1,k2,_,_⟩:=Zzz x hx1
  rw [hki] at k1
  cases k1
  obtain ⟨hact,hsl⟩:=new_act hm v hk hc k2 hlen hgA
  have hloc:=hx2 hc
  have l0:=hloc.1
  have l1:=hloc.2
  rw [p1]
  generalize hn:Z72 c w (s++List.replicate (x.Z13.Z0c.toNat - s.length) Z47)=n at*
  obtain ⟨_,_,h0,h1'⟩:=Zd3 ht
  have hw:Z9k n:=by rw [← hn]; exact Zy7 (by omega) hloc
  have hp:Z3l (Z31 m t th (th.Z0s++[n])):=by rw [← hn]; exact hm.push ht h63 (by omega) hloc
  have vp:Z5h (Z31 m t th (th.Z0s++[n])):=v.set ht (by simp only [List.length_append,List.length_cons,List.length_nil]; omega) hst fun y hy=>by
   rcases List.mem_append.1 hy with hy|hy
   ·exact (v.acts hm h0 ht h1').2 y hy
   ·rcases List.mem_singleton.1 hy with rfl
    exact hact
  have htp:Z01 (Z31 m t th (th.Z0s++[n])).Z0v t=some { th with Z0s:=th.Z0s++[n] }:=by rw [getA ht,ht]; simp
  have top:=top_is (vp.len64 hp) htp (l:=th.Z0s) (a:=n) rfl
  have hpop:Zcq (Z31 m t th (th.Z0s++[n])) t=some (m,n,0):=by
   have ht8':=vp.thr
   rcases Ybi _ t (by omega) (vp.len64 hp) with ⟨e,he,q1,_⟩|⟨th',l',a',ht',hl',q1,q2,_⟩
   ·rw [top] at q1; cases q1; exact absurd rfl he
   ·rw [htp] at ht'; cases ht'
    obtain ⟨e1,e2⟩:=List.append_inj' hl' rfl
    cases e2
    rw [q2,← e1,Ybw ht]
  simp only [Option.bind_some]
  rw [if_neg (by decide),top,hpop]
  simp only [Option.bind_some,bne_self_eq_false,Bool.false_eq_true,if_false]
  rw [Y0v n hw]
  simp only [Option.bind_some,Bool.not_true,Bool.false_eq_true,if_false]
  rw [Zzi m hm]
  simp only [Option.bind_some,Bool.not_true,Bool.false_eq_true,if_false]
  rw [vp.valid hp]
  simp only [Option.bind_some,Bool.not_true,Bool.false_eq_true,if_false]
  subst hn
  unfold Z72
  dsimp only
  simp only [bne_self_eq_false,Bool.false_eq_true,if_false]
  have hL:(s++List.replicate (x.Z13.Z0c.toNat - s.length) Z47).length=x.Z13.Z0c.toNat:=by rw [List.length_append,List.length_replicate]; omega
  rw [if_neg (by simp),if_neg (by simp; omega)]
  unfold j4x2
  rw [Yai s (x.Z13.Z0c.toNat - s.length) (by omega) _ rfl,Zsn]
  rfl
end Go.Proofs
