/-
  Threads and activations: the program and the reference alike. No condition.
-/
import Derived.Test.YtiogflechpgdiaaGreatCalL1
import Derived.Test.YtiogflechpgdiaaGreatCal10
set_option linter.unusedVariables false
namespace Go.Proofs
open Go.Den Go.Tot
def Z36 (m:Z09) (t:Int) (th:Z1i) (l:List Z0x):Z09:={ m with Z0r:=m.Z0r.set t.toNat { th with Z0w:=l } }
theorem Zbp {α:Type} {l:List α} {t:Int} {x:α} (h:Z01 l t=some x):Z3e t l.length=some t.toNat∧l[t.toNat]?=some x∧0≤t∧t<l.length:=by
 obtain ⟨_,h0,hx⟩:=Zmk h
 have hlt:t.toNat<l.length:=(List.getElem?_eq_some_iff.1 hx).1
 have:t<l.length:=by omega
 exact ⟨by unfold Z3e; rw [if_pos ⟨h0,this⟩],hx,h0,this⟩
theorem Y97 (m:Z09) (t:Int) (l:List Z0x) (hL:m.Z0r.length≤1000) {th:Z1i} (ht:Z01 m.Z0r t=some th):
  Zcz m t l=some (Z36 m t th l)∧Zs3 m t l=some (Z36 m t th l):=by
 obtain ⟨h1,h2,_,_⟩:=Zbp ht
 have hg:Z1k 80 (([]:List Z1i)++m.Z0r).length=some ():=Zxb 80 (by simp only [List.nil_append]; omega) (by decide)
 unfold Zcz Zs3 Zql
 rw [hg]
 simp only [Option.bind_some,List.nil_append,h1,h2]
 exact ⟨rfl,rfl⟩
theorem Y5c (m:Z09) (t:Int):Z5d m t=Y23 m t:=rfl
def zeroA:Z0x:={ Z0s:=0,Z4a:=0,f_PC:=0,Z0d:=([]:List Z0h),Z0i:=([]:List Z0h),Z64:=0,Z6j:=false,Z93:=false }
theorem Y22 (m:Z09) (t:Int) (hA:∀ th∈m.Z0r,th.Z0w.length≤64):
  (Z5d m t=some (zeroA,2)∧Zd7 m t=some false)∨
  (∃ th,Z01 m.Z0r t=some th∧th.Z0w=[]∧Z5d m t=some (zeroA,61))∨
  (∃ th l a,Z01 m.Z0r t=some th∧th.Z0w=l++[a]∧Z5d m t=some (a,0)):=by
 unfold Z5d Zd7
 by_cases h1:t≥0
 ·rw [if_pos (decide_eq_true h1)]
  by_cases h2:t<(m.Z0r.length:Int)
  ·obtain ⟨th,e,hm⟩:=gr (l:=m.Z0r) (i:=t) h1 h2
   have h64:=hA th hm
   rw [decide_eq_true h2,e]
   simp only [Option.bind_some,Bool.not_true,Bool.false_eq_true,if_false]
   rcases List.eq_nil_or_concat th.Z0w with h|⟨l,a,h⟩
   ·rw [h]
    exact .inr (.inl ⟨th,rfl,h,rfl⟩)
   ·rw [List.concat_eq_append] at h
    have hlen:th.Z0w.length=l.length+1:=by rw [h]; simp
    rw [if_neg (by rw [hlen]; simp; omega),Zax (by omega) (by omega)]
    have:Z01 th.Z0w ((th.Z0w.length:Int) - 1)=some a:=by
     unfold Z01
     rw [if_pos (by omega),hlen,h,show ((l.length+1:Nat):Int) - 1=(l.length:Int) by omega,Int.toNat_natCast]
     simp
    simp only [Option.bind_some,this]
    exact .inr (.inr ⟨th,l,a,rfl,h,rfl⟩)
  ·rw [decide_eq_false h2]
   exact .inl ⟨rfl,rfl⟩
 ·rw [if_neg (by simpa using h1)]
  exact .inl ⟨rfl,rfl⟩
end Go.Proofs
namespace Go.Proofs
open Go.Den Go.Tot
theorem allD {R:Type} {n:Nat} (hn:n≤140737488355328) (d:R) (g:Int→Option Bool) {f:Int→Option (Ctl Int (Unit⊕R))} (hg:∀ t:Int,0≤t→t<n→∃ b,g t=some b)
  (hf:∀ t:Int,0≤t→t≤n→f t=if decide (t<(n:Int))=true then ((g t).bind fun v=>if (!v)=true then some (.done (.inr d)) else ((some (IntKind.wrap .i64 (t+1))).bind fun k=>some (.next k))) else some (.done (.inl ()))):
  (Z07 f Z08 0=some (.inl ())∧∀ t:Int,0≤t→t<n→g t=some true)∨(Z07 f Z08 0=some (.inr d)∧∃ t:Int,0≤t∧t<n∧g t=some false):=by
 have h:Ok (Z07 f Z08 0) (fun q=>(q=.inl ()∧∀ t:Int,0≤t→t<n→g t=some true)∨(q=.inr d∧∃ t:Int,0≤t∧t<n∧g t=some false)):=by
  refine lp (fun t=>t) n (fun t=>∀ j:Int,0≤j→j<t→g j=some true) (fun t hI h0 h1=>?_) (by omega) (fun j h h'=>by omega) (by omega) (by omega)
  rw [hf t h0 h1]
  refine brD (fun hlt=>?_) fun hge=>dn (.inl ⟨rfl,fun j h h'=>hI j h (by omega)⟩)
  obtain ⟨b,hb⟩:=hg t h0 hlt
  rw [hb]
  cases b with
  | false=>exact ⟨_,rfl,.inr ⟨rfl,t,h0,hlt,hb⟩⟩
  | true=>
   refine bs (br! (fun h=>by cases h) fun _=>bd wr fun k hk=>nx (fun j hj hj'=>?_) (by omega) (by omega))
   rcases Int.lt_or_le j t with h|h
   ·exact hI j hj h
   ·rw [show j=t by omega]; exact hb
 obtain ⟨q,e,h⟩:=h
 rcases h with ⟨rfl,h⟩|⟨rfl,h⟩
 ·exact .inl ⟨e,h⟩
 ·exact .inr ⟨e,h⟩
end Go.Proofs
namespace Go.Proofs
open Go.Den Go.Tot
end Go.Proofs
namespace Go.Proofs
open Go.Den Go.Tot
def gV (m:Z09) (l:List Z0h) (b:Bool) (t:Int):Option Bool:=(Z01 l t).bind fun y=>(Z6g m y).bind fun v=>some (v&&(b|| !(y.Z1d==0)))
theorem f83 (m:Z09) (l:List Z0h) (b:Bool) (hH:m.Z1j.length≤140737488355328):
  (∀ t:Int,0≤t→t<(l.length:Nat)→∃ r,gV m l b t=some r)∧
  (∀ t:Int,0≤t→t≤(l.length:Nat)→Z8e m l b t=if decide (t<((l.length:Nat):Int))=true then ((gV m l b t).bind fun v=>if (!v)=true then some (.done (.inr false)) else ((some (IntKind.wrap .i64 (t+1))).bind fun k=>some (.next k))) else some (.done (.inl ()))):=by
 have key:∀ t:Int,0≤t→t<(l.length:Nat)→∃ y v,Z01 l t=some y∧Z6g m y=some v:=fun t p q=>by
  obtain ⟨y,ey,_⟩:=gr (l:=l) (i:=t) p q
  obtain ⟨v,ev,_⟩:=Zck m y hH
  exact ⟨y,v,ey,ev⟩
 refine ⟨fun t p q=>?_,fun t p q=>?_⟩
 ·obtain ⟨y,v,ey,ev⟩:=key t p q
  unfold gV
  simp only [ey,Option.bind_some,ev]
  exact ⟨_,rfl⟩
 ·unfold Z8e gV
  by_cases hlt:t<((l.length:Nat):Int)
  ·obtain ⟨y,v,ey,ev⟩:=key t p hlt
   rw [if_pos (decide_eq_true hlt),if_pos (decide_eq_true hlt)]
   simp only [ey,Option.bind_some,ev]
   cases v <;> cases b <;> cases (y.Z1d==0) <;> rfl
  ·rw [if_neg (by simpa using hlt),if_neg (by simpa using hlt)]
theorem Y65 (m:Z09) (a:Z0x) (hH:m.Z1j.length≤140737488355328):Zkg m a=Z8e m a.Z0d true:=by
 funext t
 unfold Zkg Z8e
 split
 ·cases e:Z01 a.Z0d t with
  | none=>rfl
  | some y=>
   simp only [Option.bind_some,Y20 m y hH]
   rfl
 ·rfl
theorem Y90 (m:Z09) (a:Z0x) (hH:m.Z1j.length≤140737488355328):Zl3 m a=Z8e m a.Z0i false:=by
 funext t
 unfold Zl3 Z8e
 split
 ·cases e:Z01 a.Z0i t with
  | none=>rfl
  | some y=>
   obtain ⟨v,ev,_⟩:=Zck m y hH
   simp only [Option.bind_some,Y20 m y hH,ev]
   cases v <;> cases (y.Z1d==0) <;> rfl
 ·rfl
theorem Y5w (m:Z09) (a:Z0x) (h:Z41 m) (ha:Z73 a):
  Zlq m a=(Za8 m a.Z0d true).bind fun v4=>if v4=true then (Za8 m a.Z0i false).bind fun v5=>some v5 else some false:=by
 have hH:=h.heapL
 unfold Zlq Za8
 rw [Y65 m a hH,Y90 m a hH]
 obtain ⟨g1,g2⟩:=f83 m a.Z0d true hH
 obtain ⟨g3,g4⟩:=f83 m a.Z0i false hH
 rcases allD ha.loc _ _ g1 g2 with ⟨q,_⟩|⟨q,_⟩
 ·rcases allD ha.stk _ _ g3 g4 with ⟨r,_⟩|⟨r,_⟩
  ·rw [q,r]; rfl
  ·rw [q,r]; rfl
 ·rw [q]; rfl
theorem Y5o (m:Z09) (a:Z0x) (h:Z41 m) (ha:Z73 a):Zka m a=Z4e m a:=by
 have hH:=h.heapL
 unfold Zka Z4e
 by_cases h1:a.Z0s<0
 ·simp only [decide_eq_true h1,if_true]
 simp only [decide_eq_false h1,Bool.false_eq_true,if_false]
 by_cases h2:a.Z0s≥(m.Z1l.Z1a.length:Int)
 ·simp only [decide_eq_true h2,if_true]
 simp only [decide_eq_false h2,Bool.false_eq_true,if_false]
 obtain ⟨k,ek,_⟩:=gr (l:=m.Z1l.Z1a) (i:=a.Z0s) (by omega) (by omega)
 have h3:Zkl m a=Zf2 m a:=by
  unfold Zkl Zf2 Zd2 Zr7
  dsimp only
  rw [if_pos (decide_eq_true (by omega)),decide_eq_true (show a.Z0s<(m.Z1l.Z1a.length:Int) by omega),ek]
  simp only [Option.bind_some,Bool.not_true,Bool.false_eq_true,if_false]
  by_cases h4:a.Z4a<0
  ·simp only [decide_eq_true h4,if_true]; rfl
  simp only [decide_eq_false h4,Bool.false_eq_true,if_false]
  by_cases h5:a.Z4a≥(k.Z25.Z13.length:Int)
  ·simp only [decide_eq_true h5,if_true]; rfl
  simp only [decide_eq_false h5,Bool.false_eq_true,if_false]
  obtain ⟨x,ex,_⟩:=gr (l:=k.Z25.Z13) (i:=a.Z4a) (by omega) (by omega)
  simp only [ex,Option.bind_some,Bool.not_true,Bool.false_eq_true,if_false]
  cases hc:x.Z6k with
  | false=>rfl
  | true=>
  unfold Zi1
  rw [ex,Y5w m a h ha]
  simp only [Option.bind_some,Bool.not_true,Bool.false_eq_true,if_false]
  by_cases p1:a.f_PC<0
  ·simp only [decide_eq_true p1,decide_eq_false (show ¬a.f_PC≥0 by omega),Bool.false_eq_true,if_true,if_false]
  simp only [decide_eq_false p1,decide_eq_true (show a.f_PC≥0 by omega),Bool.false_eq_true,if_true,if_false]
  by_cases p2:a.f_PC≥(x.Z1v.Z0l.length:Int)
  ·simp only [decide_eq_true p2,decide_eq_false (show ¬a.f_PC<(x.Z1v.Z0l.length:Int) by omega),Bool.false_eq_true,if_true,if_false]
  simp only [decide_eq_false p2,decide_eq_true (show a.f_PC<(x.Z1v.Z0l.length:Int) by omega),Bool.false_eq_true,if_true,if_false]
  by_cases p3:(a.Z0d.length:Int)=x.Z1v.Z0d
  ·simp only [show ((a.Z0d.length:Int)!=x.Z1v.Z0d)=false by simpa using p3,show ((a.Z0d.length:Int)==x.Z1v.Z0d)=true by simpa using p3,Bool.false_eq_true,if_true,if_false]
   by_cases p4:(a.Z0i.length:Int)>x.Z1v.Z0i
   ·simp only [decide_eq_true p4,decide_eq_false (show ¬(a.Z0i.length:Int)≤x.Z1v.Z0i by omega),Bool.false_eq_true,if_true,if_false]
   ·simp only [decide_eq_false p4,decide_eq_true (show (a.Z0i.length:Int)≤x.Z1v.Z0i by omega),Bool.false_eq_true,if_true,if_false]
  ·simp only [show ((a.Z0d.length:Int)!=x.Z1v.Z0d)=true by simpa using p3,show ((a.Z0d.length:Int)==x.Z1v.Z0d)=false by simpa using p3,Bool.false_eq_true,if_true,if_false]
 have hj:Ze6 m a=Zfm m a:=by
  unfold Ze6 Zfm
  rw [h3]
 obtain ⟨b,o,e1,e2⟩:=Zyi m a.Z64 hH
 unfold j52x1 Z7l
 rw [e2,e1,hj]
 simp only [Option.bind_some]
 by_cases h0:a.Z64=0
 ·simp [h0]
 ·cases b <;> simp [h0]
end Go.Proofs
namespace Go.Proofs
open Go.Den Go.Tot
theorem Y2y (m:Z09) (h:Z41 m) (v:Z5u m) (t:Int) (a:Z0x) (ha:Z73 a):
  (∃ e,e≠0∧((∃ x,Z5d m t=some (x,e))∨(Z4e m a=some false∧∃ x,Z5d m t=some (x,0)))∧Zcy m t a=some (m,e)∧Zs9 m t a=some (m,e))∨
  ∃ th l old,Z01 m.Z0r t=some th∧th.Z0w=l++[old]∧Z5d m t=some (old,0)∧Z4e m a=some true∧
   Zcy m t a=some (Z36 m t th (l++[a]),0)∧Zs9 m t a=some (Z36 m t th (l++[a]),0):=by
 have hA:∀ th∈m.Z0r,th.Z0w.length≤64:=fun th hth=>by
  obtain ⟨i,hi⟩:=List.getElem?_of_mem hth
  have hlt:i<m.Z0r.length:=(List.getElem?_eq_some_iff.1 hi).1
  exact (v.acts h (n:=(i:Int)) (by omega) (by unfold Z01; rw [if_pos (by omega),Int.toNat_natCast]; exact hi) (by omega)).1
 obtain ⟨b,eb,_⟩:=Y2m m a h.heapL ha
 unfold Zcy Zs9
 rw [← Y5c,Y5o m a h ha,eb]
 rcases Y22 m t hA with ⟨e,_⟩|⟨th,_,_,e⟩|⟨th,l,old,ht,hl,e⟩
 ·rw [e]; exact .inl ⟨2,by decide,.inl ⟨_,rfl⟩,rfl,rfl⟩
 ·rw [e]; exact .inl ⟨61,by decide,.inl ⟨_,rfl⟩,rfl,rfl⟩
 ·rw [e]
  simp only [Option.bind_some,show ((0:Int)!=0)=false from rfl,Bool.false_eq_true,if_false]
  cases b with
  | false=>exact .inl ⟨1,by decide,.inr ⟨rfl,_,rfl⟩,rfl,rfl⟩
  | true=>
  have h64:=hA th (Zmk ht).1
  have hlen:th.Z0w.length=l.length+1:=by rw [hl]; simp
  have hg:Z1k 88 th.Z0w.length=some ():=Zxb 88 (by omega) (by decide)
  have hc:Ziy th.Z0w=some th.Z0w:=by
   unfold Ziy
   simp only [List.nil_append,hg,Option.bind_some]
  have hi:Z3e ((l.length:Nat):Int) th.Z0w.length=some l.length:=by
   unfold Z3e; rw [if_pos ⟨by omega,by omega⟩,Int.toNat_natCast]
  have hx:th.Z0w[l.length]?=some old:=by rw [hl]; simp
  have hs:th.Z0w.set l.length a=l++[a] :=by rw [hl]; simp
  have hw:IntKind.wrap .i64 ((th.Z0w.length:Int) - 1)=((l.length:Nat):Int):=by rw [Zax (by omega) (by omega)]; omega
  obtain ⟨k1,k2⟩:=Y97 m t (l++[a]) (by have:=v.thr; omega) ht
  refine .inr ⟨th,l,old,ht,hl,rfl,rfl,?_,?_⟩
  ·rw [ht]
   simp only [Option.bind_some,Bool.not_true,Bool.false_eq_true,if_false,hc,hw,hi,hx,hs,k1]
  ·rw [ht]
   simp only [Option.bind_some,Bool.not_true,Bool.false_eq_true,if_false,List.nil_append,hg,hw,hi,hx,hs,k2]
end Go.Proofs
namespace Go.Proofs
open Go.Den Go.Tot
theorem rfL {α:Type} (l:List α) {f:Int→Option (Ctl Int (Unit⊕Bool))} (hm:l.length≤4503599627370496) (h:∀ (t:Int) v,t<l.length→v∈l→Z01 l t=some v→IntKind.wrap .i64 (t+1)=t+1→f t=some (.next (t+1))) (he:∀ t:Int,¬t<l.length→f t=some (.done (.inl ()))):
  Z07 f Z08 0=some (.inl ()):=by
 have:Ok (Z07 f Z08 0) (fun q=>q=.inl ()):=by
  refine li l.length (fun t h0 h1=>?_) (by omega) (by omega) (by omega)
  rcases Int.lt_or_le t l.length with hlt|hge
  ·obtain ⟨v,e,hv,_⟩:=gri (l:=l) h0 hlt
   rw [h t v hlt hv e (Zax (by omega) (by omega))]
   exact ni (by omega) (by omega)
  ·rw [he t (by omega)]; exact di rfl
 obtain ⟨q,e,rfl⟩:=this
 exact e
theorem Zui (l:List (List UInt8)) (h:l.length≤4503599627370496):Zei l l=some true:=by
 unfold Zei
 rw [rfL l h (fun t v h1 hv e hw=>by unfold Zix; rw [if_pos (decide_eq_true h1),e]; simp [hw]) fun t h=>by unfold Zix; rw [if_neg (by simpa using h)]]
 simp
theorem Y1h (l:List Z0k) (h:l.length≤4503599627370496):Zh3 l l=some true:=by
 unfold Zh3
 rw [rfL l h (fun t v h1 hv e hw=>by unfold Zlk; rw [if_pos (decide_eq_true h1),e]; simp [hw,Zov,Zi4]) fun t h=>by unfold Zlk; rw [if_neg (by simpa using h)]]
 simp
theorem Y61 (f:Z5t) (h:Z8y f):Zjs f f=some true:=by
 unfold Zjs
 rw [Y1h _ (by have:=h.locL; omega),Y1h _ (by have:=h.stkL; omega)]
 simp
theorem eq_maps (l:List Z0p) (h:l.length≤4503599627370496) (hf:∀ m∈l,Z8y m.Z1o):Zlw l l=some true:=by
 unfold Zlw
 rw [rfL l h (fun t v h1 hv e hw=>by unfold Zhy; rw [if_pos (decide_eq_true h1),e]; simp [hw,Y61 _ (hf v hv)]) fun t h=>by unfold Zhy; rw [if_neg (by simpa using h)]]
 simp
theorem Y0q (l:List Int) (h:l.length≤4503599627370496):Zfy l l=some true:=by
 unfold Zfy
 rw [rfL l h (fun t v h1 hv e hw=>by unfold Zmf; rw [if_pos (decide_eq_true h1),e]; simp [hw]) fun t h=>by unfold Zmf; rw [if_neg (by simpa using h)]]
 simp
theorem eq_insn (i:Z02) (h:Z35 i):Zh8 i i=some true:=by
 unfold Zh8
 rw [Y0q _ (by have:=h.keys; omega),Y0q _ (by have:=h.tos; omega)]
 simp [Zd6]
theorem eq_code (c:Z0b) (h:Z5o c):Znk c c=some true:=by
 unfold Znk Zqv
 rw [eq_maps _ (by have:=h.mapL; omega) h.map,
  rfL c.Z0l (by have:=h.insL; omega) (fun t v h1 hv e hw=>by unfold Zns; rw [if_pos (decide_eq_true h1),e]; simp [hw,eq_insn _ (h.ins v hv)]) fun t h=>by unfold Zns; rw [if_neg (by simpa using h)]]
 simp only [Option.bind]
 rw [rfL c.Z20 (by have:=h.hndL; omega) (fun t v h1 hv e hw=>by unfold Zo1; rw [if_pos (decide_eq_true h1),e]; simp [hw,Zqb]) fun t h=>by unfold Zo1; rw [if_neg (by simpa using h)]]
 simp only []
 rw [rfL c.Z1r (by have:=h.linL; omega) (fun t v h1 hv e hw=>by unfold Zn9; rw [if_pos (decide_eq_true h1),e]; simp [hw,Zrf]) fun t h=>by unfold Zn9; rw [if_neg (by simpa using h)]]
 simp
theorem Y9p (u:Z0y) (h:Z5r u):Zkd u u=some true:=by
 unfold Zkd Zqp
 rw [Zui _ (by have:=h.ifsL; omega),
  rfL u.Z15 (by have:=h.fldL; omega) (fun t v h1 hv e hw=>by unfold Zhq; rw [if_pos (decide_eq_true h1),e]; simp [hw,Zte]) fun t h=>by unfold Zhq; rw [if_neg (by simpa using h)]]
 simp only [Option.bind]
 rw [rfL u.Z13 (by have:=h.metL; omega) (fun t v h1 hv e hw=>by unfold Zo0; rw [if_pos (decide_eq_true h1),e]; simp [hw,eq_code _ (h.met v hv).code,Zui _ (show v.Z67.length≤_ by have:=(h.met v hv).excL; omega)]) fun t h=>by unfold Zo0; rw [if_neg (by simpa using h)]]
 simp
theorem Y57 (l:List Z1s) (hl:l.length≤140737488355328) (h:∀ c∈l,Z5r c.Z25∧c.Z16.length≤140737488355328):Zm3 l l=some true:=by
 unfold Zm3
 rw [rfL l (by omega) (fun t v h1 hv e hw=>by
  unfold Zir j76x1
  have hi:Z07 (Ze8 v v) Z08 0=some (.inl ()):=rfL v.Z16 (by have:=(h v hv).2; omega) (fun t v h1 hv e hw=>by unfold Ze8; rw [if_pos (decide_eq_true h1),e]; simp [hw]) fun t h=>by unfold Ze8; rw [if_neg (by simpa using h)]
  rw [if_pos (decide_eq_true h1),e]
  simp [hw,Y9p _ (h v hv).1,hi]) fun t h=>by unfold Zir; rw [if_neg (by simpa using h)]]
 simp
theorem Y8x (l:List Z18) (hl:l.length≤140737488355328) (h:∀ c∈l,Z7e c):Znr l l=some true:=by
 unfold Znr
 rw [rfL l (by omega) (fun t v h1 hv e hw=>by
  unfold Zll j75x1
  have h2:Z07 (Zg3 t l l) Z08 0=some (.inl ()):=rfL v.Z3y (by have:=(h v hv).delL; omega) (fun t v h1 hv e' hw=>by unfold Zg3; rw [e]; dsimp only [Option.bind]; rw [if_pos (decide_eq_true h1),e']; simp [hw,Ztn]) fun t h=>by unfold Zg3; rw [e]; dsimp only [Option.bind]; rw [if_neg (by simpa using h)]
  have h3:Z07 (Zfk t l l) Z08 0=some (.inl ()):=rfL v.Z3d (by have:=(h v hv).stoL; omega) (fun t v h1 hv e' hw=>by unfold Zfk; rw [e]; dsimp only [Option.bind]; rw [if_pos (decide_eq_true h1),e']; simp [hw,Zsf]) fun t h=>by unfold Zfk; rw [e]; dsimp only [Option.bind]; rw [if_neg (by simpa using h)]
  rw [if_pos (decide_eq_true h1),e]
  simp [hw,h2,h3]) fun t h=>by unfold Zll; rw [if_neg (by simpa using h)]]
 simp
theorem Y6l (w:Z0v) (h:Z5f w):Zih w w=some true:=by
 unfold Zih j39x1
 rw [Y8x _ h.lodL h.lod,Y57 _ h.clsL h.cls,
  rfL w.Z2e (by have:=h.iniL; omega) (fun t v h1 hv e hw=>by unfold Zlr; rw [if_pos (decide_eq_true h1),e]; simp [hw,Zp7]) fun t h=>by unfold Zlr; rw [if_neg (by simpa using h)]]
 simp only [Option.bind]
 rw [rfL w.Z31 (by have:=h.conL; omega) (fun t v h1 hv e hw=>by unfold Zhj; rw [if_pos (decide_eq_true h1),e]; simp [hw,Zsl]) fun t h=>by unfold Zhj; rw [if_neg (by simpa using h)]]
 simp
end Go.Proofs
namespace Go.Proofs
open Go.Den Go.Tot
theorem Zkm (l:List Z0h) (h:l.length≤140737488355328):Z9h l l=some true:=by
 unfold Z9h
 rw [rfL l (by omega) (fun t v h1 hv e hw=>by unfold Zk1 j21x1; rw [if_pos (decide_eq_true h1),if_pos (decide_eq_true h1),e]; simp [hw,Z34]) fun t h=>by unfold Zk1; rw [if_neg (by simpa using h)]]
 simp
theorem eq_wset (l:List Int) (h:l.length≤140737488355328):Zlo l l=some true:=by
 unfold Zlo
 rw [rfL l (by omega) (fun t v h1 hv e hw=>by unfold Zja Zqx; rw [if_pos (decide_eq_true h1),if_pos (decide_eq_true h1),e]; simp [hw]) fun t h=>by unfold Zja; rw [if_neg (by simpa using h)]]
 simp
theorem eq_obj (o:Z2c) (h:WObj o):Zi0 o o=some true:=by
 unfold Zi0
 rw [Zkm _ h.val,eq_wset _ h.ws]
 simp [Zb3]
theorem Zzr (a:Z0x) (h:Z73 a):Zfa a a=some true:=by
 unfold Zfa
 rw [Zkm _ h.loc,Zkm _ h.stk]
 simp
theorem Y71 (t:Z1i) (h:(∀ a∈t.Z0w,Z73 a)∧t.Z0w.length≤140737488355328):Zil t t=some true:=by
 unfold Zil j74x1
 rw [rfL t.Z0w (by have:=h.2; omega) (fun i v h1 hv e hw=>by unfold Znn; rw [if_pos (decide_eq_true h1),e]; simp [hw,Zzr v (h.1 v hv)]) fun i h=>by unfold Znn; rw [if_neg (by simpa using h)]]
 simp [Z34]
theorem Ya1 (l:List Z3j) (hl:l.length≤140737488355328) (h:∀ b∈l,b.Z84.length≤140737488355328):Zk8 l l=some true:=by
 unfold Zk8
 rw [rfL l (by omega) (fun t v h1 hv e hw=>by
  unfold Zj1 Zhg Zjp Zkh
  rw [if_pos (decide_eq_true h1),if_pos (decide_eq_true h1),e]
  simp only [Option.bind_some,decide_eq_true h1,if_true,e]
  rw [Zkm _ (h v hv)]
  simp [hw]) fun t h=>by unfold Zj1; rw [if_neg (by simpa using h),if_neg (by simpa using h)]]
 rfl
theorem eq_rest (m:Z09) (h:Z41 m):Zn6 m m=some true:=by
 unfold Zn6 j38x1
 rw [Ya1 _ h.iniL h.ini,
  rfL m.Z1j (by have:=h.heapL; omega) (fun t v h1 hv e hw=>by unfold Zjo; rw [if_pos (decide_eq_true h1),e]; simp [hw,eq_obj v (h.heap v hv)]) fun t h=>by unfold Zjo; rw [if_neg (by simpa using h)]]
 simp only [Option.bind]
 rw [rfL m.Z38 (by have:=h.intL; omega) (fun t v h1 hv e hw=>by unfold Zoj; rw [if_pos (decide_eq_true h1),e]; simp [hw,Zpc]) fun t h=>by unfold Zoj; rw [if_neg (by simpa using h)]]
 simp only []
 rw [rfL m.Z0r (by have:=h.thrL; omega) (fun t v h1 hv e hw=>by unfold Zmx; rw [if_pos (decide_eq_true h1),e]; simp [hw,Y71 v (h.thr v hv)]) fun t h=>by unfold Zmx; rw [if_neg (by simpa using h)]]
 simp only []
 rw [rfL m.Z4d (by have:=h.outL; omega) (fun t v h1 hv e hw=>by unfold Zhk; rw [if_pos (decide_eq_true h1),e]; simp [hw]) fun t h=>by unfold Zhk; rw [if_neg (by simpa using h)]]
 simp
theorem Zt9 (m:Z09) (h:Z41 m):Zge m m=some true:=by
 unfold Zge
 rw [eq_rest m h,Y6l _ h.sp]
 rfl
theorem Z41.set {m:Z09} (h:Z41 m) {t:Int} {th:Z1i} (ht:Z01 m.Z0r t=some th) {l:List Z0x} (hl:l.length≤1000) (ha:∀ a∈l,Z73 a):Z41 (Z36 m t th l):=
 ⟨h.sp,h.heap,h.heapL,h.ini,h.iniL,h.int,h.intL,fun x hx=>by
  rcases List.mem_or_eq_of_mem_set hx with hx|rfl
  ·exact h.thr x hx
  ·exact ⟨ha,by dsimp only; omega⟩,by unfold Z36; simp only [List.length_set]; exact h.thrL,h.outL⟩
theorem Zks:Zdk=some true:=by kernel_rfl
end Go.Proofs
namespace Go.Proofs
open Go.Den Go.Tot
theorem few_ok (m:Z09):∃ b,Ziu m=some b:=by
 unfold Ziu
 repeat' split
 all_goals exact ⟨_,rfl⟩
theorem Z5u.len64 {m:Z09} (h:Z41 m) (v:Z5u m):∀ th∈m.Z0r,th.Z0w.length≤64:=fun th hth=>by
 obtain ⟨i,hi⟩:=List.getElem?_of_mem hth
 have hlt:i<m.Z0r.length:=(List.getElem?_eq_some_iff.1 hi).1
 exact (v.acts h (n:=(i:Int)) (by omega) (by unfold Z01; rw [if_pos (by omega),Int.toNat_natCast]; exact hi) (by omega)).1
end Go.Proofs
namespace Go.Proofs
open Go.Den Go.Tot
theorem getA {m:Z09} {t:Int} {th:Z1i} (ht:Z01 m.Z0r t=some th) (l:List Z0x) (k:Int):
  Z01 (Z36 m t th l).Z0r k=(Z01 m.Z0r k).map fun x=>if k=t then { th with Z0w:=l } else x:=by
 obtain ⟨_,hx,h0,h1⟩:=Zbp ht
 unfold Z01 Z36
 by_cases hk:0≤k
 ·rw [if_pos hk,if_pos hk]
  dsimp only
  rw [List.getElem?_set]
  by_cases he:k=t
  ·subst he
   rw [if_pos rfl,if_pos (by omega),hx]
   simp
  ·rw [if_neg (by omega)]
   cases m.Z0r[k.toNat]? with
   | none=>rfl
   | some x=>simp [he]
 ·rw [if_neg hk,if_neg hk]; rfl
section
variable {m:Z09} {t:Int} {th:Z1i} {l:List Z0x}
theorem thrA (k:Int):Z8h (Z36 m t th l) k=Z8h m k:=by
 unfold Z8h
 rw [show (Z36 m t th l).Z0r.length=m.Z0r.length from List.length_set ..]
theorem l63A (ht:Z01 m.Z0r t=some th) (o:Z2c) (n:Int):Zbb o (Z36 m t th l) n=Zbb o m n:=by
 funext k
 unfold Zbb
 split
 ·refine congrArg _ (funext fun v=>?_)
  rw [thrA,getA ht]
  cases e:Z01 m.Z0r v with
  | none=>rfl
  | some x=>
   simp only [Option.map_some,Option.bind_some]
   by_cases hv:v=t
   ·subst hv
    rw [ht] at e
    cases e
    rw [if_pos rfl]
   ·rw [if_neg hv]
 ·rfl
theorem monA (ht:Z01 m.Z0r t=some th) (n:Int):Z8u (Z36 m t th l) n=Z8u m n:=by
 have hj:∀ o,Z78 o (Z36 m t th l) n=Z78 o m n:=fun o=>by unfold Z78; rw [l63A ht]
 unfold Z8u
 simp only [hj,thrA]
 rfl
theorem mayA (v:Z0h):Z6g (Z36 m t th l) v=Z6g m v:=rfl
theorem actA (a:Z0x):Z4e (Z36 m t th l) a=Z4e m a:=rfl
theorem plainA (o:Z2c):Zc7 (Z36 m t th l) o=Zc7 m o:=rfl
theorem arrayA (o:Z2c):Zdc (Z36 m t th l) o=Zdc m o:=rfl
theorem objectA (ht:Z01 m.Z0r t=some th) (n:Int):Z7u (Z36 m t th l) n=Z7u m n:=by
 unfold Z7u
 simp only [monA ht,plainA,arrayA]
 rfl
theorem begunA (n:Int):Z7t (Z36 m t th l) n=Z7t m n:=by
 have hj:∀ o,Z9l o (Z36 m t th l) n=Z9l o m n:=fun o=>rfl
 unfold Z7t
 simp only [hj,thrA]
 rfl
theorem stateA (ht:Z01 m.Z0r t=some th) (n:Int):Zb8 (Z36 m t th l) n=Zb8 m n:=by
 unfold Zb8
 rw [getA ht]
 cases e:Z01 m.Z0r n with
 | none=>rfl
 | some x=>
  simp only [Option.map_some,Option.bind_some]
  by_cases hv:n=t
  ·subst hv
   rw [ht] at e
   cases e
   rw [if_pos rfl]
   rfl
  ·rw [if_neg hv]; rfl
end
theorem Z9j {o x:Option Bool} (h:(o.bind fun v=>if (!v)=true then some false else x)=some true):o=some true∧x=some true:=by
 cases o with
 | none=>cases h
 | some b=>cases b with
  | false=>cases h
  | true=>exact ⟨rfl,h⟩
theorem Zhr {b:Bool} {x:Option Bool} (h:(if b=true then some false else x)=some true):b=false∧x=some true:=by
 cases b with
 | true=>cases h
 | false=>exact ⟨rfl,h⟩
theorem Y5u {m:Z09} {th:Z1i} (hl:th.Z0w.length≤64) (h:∀ a∈th.Z0w,Z4e m a=some true):Z7s th m=some true:=by
 unfold Z7s
 rw [Zlu (n:=th.Z0w.length) (by omega) (fun i=>(Z01 th.Z0w i).bind (Z4e m)) (fun i h0 h1=>by
  obtain ⟨a,e,hm⟩:=gr (l:=th.Z0w) h0 h1
  rw [e]
  exact h a hm) (fun i=>by
  unfold Zhb
  split
  ·rw [Option.bind_assoc]
  ·rfl)]
 rfl
theorem runsA {m:Z09} {t:Int} {th:Z1i} {l:List Z0x} (ht:Z01 m.Z0r t=some th) (hl:l.length≤64) (h4:th.Z2n≠4) (hact:∀ a∈l,Z4e m a=some true) {n:Int}
  (h:Z7j m n=some true):Z7j (Z36 m t th l) n=some true:=by
 unfold Z7j at h ⊢
 rw [getA ht,stateA ht]
 cases e:Z01 m.Z0r n with
 | none=>rw [e] at h; cases h
 | some x=>
  rw [e] at h
  simp only [Option.map_some,Option.bind_some] at h ⊢
  by_cases hv:n=t
  ·subst hv
   rw [ht] at e
   cases e
   rw [if_pos rfl]
   obtain ⟨s1,h⟩:=Z9j h
   obtain ⟨s2,h⟩:=Z9j h
   obtain ⟨s3,h⟩:=Z9j h
   obtain ⟨s4,h⟩:=Z9j h
   obtain ⟨_,h⟩:=Zhr h
   have hne:(th.Z2n==4)=false:=by simpa using h4
   unfold Zd0 at h
   rw [if_neg (by rw [hne]; decide),if_pos (by simpa using h4)] at h
   obtain ⟨s5,h⟩:=Zhr h
   obtain ⟨s6,h⟩:=Zhr h
   have r:∀ k,Z7l (Z36 m n th l) k=Z7l m k:=fun k=>rfl
   have j:Z7s { th with Z0w:=l } (Z36 m n th l)=some true:=Y5u hl fun a ha=>hact a ha
   rw [s1,r,r,mayA]
   dsimp only
   rw [s2,s3,s4]
   simp only [Option.bind_some,Bool.not_true,Bool.false_eq_true,if_false]
   rw [if_neg (by simp; omega)]
   unfold Zd0
   dsimp only
   rw [if_neg (by rw [hne]; decide),if_pos (by simpa using h4),if_neg (by rw [s5]; decide),if_neg (by rw [s6]; decide)]
   exact j
  ·rw [if_neg hv]
   exact h
theorem Z5u.set {m:Z09} (v:Z5u m) {t:Int} {th:Z1i} {l:List Z0x} (ht:Z01 m.Z0r t=some th) (hl:l.length≤64) (h4:th.Z2n≠4) (hact:∀ a∈l,Z4e m a=some true):Z5u (Z36 m t th l):=
 have hlen:(Z36 m t th l).Z0r.length=m.Z0r.length:=List.length_set ..
 ⟨v.sp,v.vok,v.max0,v.max1,v.heap,v.init,by rw [hlen]; exact v.thr,v.txt,fun n h0 h1=>(objectA ht n).trans (v.obj n h0 h1),fun n h0 h1=>(begunA n).trans (v.beg n h0 h1),fun n h0 h1=>runsA ht hl h4 hact (v.run n h0 (by rw [hlen] at h1; exact h1))⟩
theorem Z5u.live {m:Z09} (v:Z5u m) {t:Int} {th:Z1i} (ht:Z01 m.Z0r t=some th) (hne:th.Z0w≠[]):th.Z2n≠4:=fun h4=>by
 obtain ⟨_,_,h0,h1⟩:=Zbp ht
 have h:=v.run t h0 h1
 unfold Z7j at h
 rw [ht] at h
 simp only [Option.bind_some] at h
 obtain ⟨_,h⟩:=Z9j h
 obtain ⟨_,h⟩:=Z9j h
 obtain ⟨_,h⟩:=Z9j h
 obtain ⟨_,h⟩:=Z9j h
 obtain ⟨_,h⟩:=Zhr h
 unfold Zd0 at h
 have hlen:0<th.Z0w.length:=List.length_pos_iff.2 hne
 rw [if_pos (by simpa using h4),if_pos (decide_eq_true (by omega))] at h
 cases h
theorem Y8s {m:Z09} {t:Int} {th:Z1i} (ht:Z01 m.Z0r t=some th) (l:List Z0x):Z36 (Z36 m t th l) t { th with Z0w:=l } th.Z0w=m:=by
 obtain ⟨_,hx,h0,h1⟩:=Zbp ht
 have:(m.Z0r.set t.toNat { th with Z0w:=l }).set t.toNat th=m.Z0r:=by
  rw [List.set_set]
  apply List.ext_getElem?
  intro i
  rw [List.getElem?_set]
  split
  ·rename_i he; subst he
   rw [if_pos (by omega),hx]
  ·rfl
 unfold Z36
 dsimp only
 rw [this]
end Go.Proofs
namespace Go.Proofs
open Go.Den Go.Tot
theorem top_is {m:Z09} (h64:∀ th∈m.Z0r,th.Z0w.length≤64) {t:Int} {th:Z1i} (ht:Z01 m.Z0r t=some th) {l:List Z0x} {a:Z0x} (hl:th.Z0w=l++[a]):Z5d m t=some (a,0):=by
 rcases Y22 m t h64 with ⟨_,h⟩|⟨th',ht',h,_⟩|⟨th',l',a',ht',hl',h⟩
 ·exfalso
  obtain ⟨_,_,h0,h1⟩:=Zbp ht
  unfold Zd7 at h
  rw [if_pos (decide_eq_true h0),decide_eq_true h1] at h
  cases h
 ·rw [ht] at ht'; cases ht'
  rw [hl] at h; simp at h
 ·rw [ht] at ht'; cases ht'
  rw [hl] at hl'
  obtain ⟨_,e⟩:=List.append_inj' hl' rfl
  cases e
  exact h
theorem Y8t (m:Z09) (hm:Z41 m) (t:Int) (a:Z0x):Zta m t a=some true:=by
 have hj:j7x2=some true:=by unfold j7x2; rw [Zks]; rfl
 obtain ⟨b,eb⟩:=few_ok m
 unfold Zta
 rw [eb]
 simp only [Option.bind_some]
 cases b with
 | false=>exact hj
 | true=>
 simp only [Bool.not_true,Bool.false_eq_true,if_false]
 by_cases h2:(a.Z0i.length:Int)>60
 ·simp only [decide_eq_true h2,if_true]; exact hj
 by_cases h3:(a.Z0d.length:Int)>60
 ·simp only [decide_eq_false h2,decide_eq_true h3,Bool.false_eq_true,if_false,if_true]; exact hj
 simp only [decide_eq_false h2,decide_eq_false h3,Bool.false_eq_true,if_false]
 obtain ⟨b,e,hb⟩:=valid36 m hm
 rw [e]
 simp only [Option.bind_some]
 cases b with
 | false=>exact hj
 | true=>
 have v:=hb rfl
 have h64:=v.len64 hm
 have ha:Z73 a:=⟨by omega,by omega⟩
 simp only [Bool.not_true,Bool.false_eq_true,if_false]
 unfold j7x1
 rcases Y2y m hm v t a ha with ⟨e,he,hc,p1,_⟩|⟨th,l,old,ht,hl,htop,hact,p1,_⟩
 ·rcases hc with ⟨x,hx⟩|⟨_,x,hx⟩
  ·rw [hx,p1,Zks]
   simp only [Option.bind_some]
   rw [if_pos (by simpa using he),Zt9 m hm]
   simp
  ·rw [hx,p1,Zks]
   simp only [Option.bind_some]
   rw [if_pos (by simpa using he),Zt9 m hm]
   simp
 ·have hin:=(hm.thr th (Zmk ht).1).1
  have hlen:=h64 th (Zmk ht).1
  have hlen2:(l++[a]).length=th.Z0w.length:=by rw [hl]; simp
  obtain ⟨_,_,h0,h1⟩:=Zbp ht
  have hacts:=(v.acts hm h0 ht h1).2
  have hp:Z41 (Z36 m t th (l++[a])):=hm.set ht (by omega) fun y hy=>by
   rcases List.mem_append.1 hy with hy|hy
   ·exact hin y (by rw [hl]; simp [hy])
   ·rcases List.mem_singleton.1 hy with rfl
    exact ha
  have vp:Z5u (Z36 m t th (l++[a])):=v.set ht (by omega) (v.live ht (by rw [hl]; simp)) fun y hy=>by
   rcases List.mem_append.1 hy with hy|hy
   ·exact hacts y (by rw [hl]; simp [hy])
   ·rcases List.mem_singleton.1 hy with rfl
    exact hact
  have htp:Z01 (Z36 m t th (l++[a])).Z0r t=some { th with Z0w:=l++[a] }:=by rw [getA ht,ht]; simp
  have top:=top_is (vp.len64 hp) htp (l:=l) (a:=a) rfl
  have hwo:Z73 old:=hin old (by rw [hl]; simp)
  rcases Y2y _ hp vp t old hwo with ⟨e,he,hc,q1,_⟩|⟨th',l',old',ht',hl',_,_,q1,_⟩
  ·exfalso
   rcases hc with ⟨x,hx⟩|⟨hx,_⟩
   ·rw [top] at hx
    cases hx
    exact he rfl
   ·rw [actA,hacts old (by rw [hl]; simp)] at hx
    cases hx
  ·rw [htp] at ht'; cases ht'
   obtain ⟨hl'',_⟩:=List.append_inj' hl' rfl
   rw [← hl'',← hl,Y8s ht] at q1
   rw [htop,p1]
   simp only [Option.bind_some]
   rw [if_neg (by decide),top,q1,Zks]
   simp only [Option.bind_some,if_true,beq_self_eq_true]
   rw [Zzr _ ha]
   simp only [Option.bind_some,if_true]
   rw [Zt9 m hm]
   simp only [Option.bind_some,if_true]
   rw [vp.valid hp]
   rfl
end Go.Proofs
