/-
  Graphs with one more object: what is reachable stays so. No condition.
-/
import Derived.Test.YtiiilinleagffaaGreatDoorRchX
import Derived.Test.YtiiilinleagffaaGreatDoorRch10
import Derived.Test.YtiiilinleagffaaGreatDoorRchZ3
set_option linter.unusedVariables false
set_option linter.unusedSimpArgs false
namespace Go.Proofs
open Go.Den Go.Tot
theorem Gr.Re.via {g g':Gr} {k a:Int} (hr:∀ x,x∈g'.roots↔x=a) (ha:∀ x,x∈g'.refs a↔x∈g.roots) (ht:g'.to a=0) (hs:∀ x,g.Re k x→x≠a∧g'.refs x=g.refs x∧g'.to x=g.to x∧g'.str x=g.str x) (n:Int) (hn:n≠a):g.Re k n↔g'.Re k n:=by
 have h0:g'.Re k a:= .root ((hr a).2 rfl)
 constructor
 ·intro h
  clear hn
  induction h with
  | root h=>exact .ref h0 ((ha _).2 h)
  | ref h hm ih=>exact .ref ih (by rw[(hs _ h).2.1]; exact hm)
  | @to n h hk h0 ih=>
   obtain⟨_,_,e1,e2⟩:=hs n h
   have:=Gr.Re.to ih (by rw[e2]; exact hk) (by rw[e1]; exact h0)
   rwa [e1] at this
 ·intro h
  have:n=a∨g.Re k n:=by
   refine Gr.Re.least (S:=λx=>x=a∨g.Re k x) (λx hx=> .inl ((hr x).1 hx)) (λx hx y hy=>?_) (λx hx hk hz=>?_) h
   ·rcases hx with e|hx
    ·subst e; exact .inr (.root ((ha y).1 hy))
    ·rw[(hs x hx).2.1] at hy; exact .inr (.ref hx hy)
   ·rcases hx with e|hx
    ·rw[e] at hz; exact absurd ht hz
    ·obtain⟨_,_,e1,e2⟩:=hs x hx
     rw[e1] at hz ⊢
     exact .inr (.to hx (by rwa [e2] at hk) hz)
  exact this.resolve_left hn
end Go.Proofs
namespace Go.Proofs
open Tryz
open Go.Den Go.Den.W
def R6 (y0:Bool):D:= .bool y0
def j6x2:Option (Bool):= (J6).bind λv31=> some v31
def l6x1 (v4:(List Int)) (t0:Int×(List Zg)):Option (Ctl (Int×(List Zg)) (((List Zg)))):= if (decide (t0.1≥0)) then ((Z5 v4 t0.1).bind λv12=> (Ye 16 (t0.2++[(Zg.mk 3 v12)]).length).bind λv13=> (some (IntKind.wrap .i64 (t0.1 - 1))).bind λv14=> some (.next (v14,(t0.2++[(Zg.mk 3 v12)])))) else (some (.done (t0.2)))
def l6x2 (x0:Z4) (t1:Int×(List Zl)):Option (Ctl (Int×(List Zl)) (((List Zl)))):= if (decide (t1.1<(x0.Z2.length:Int))) then ((Z5 x0.Z2 t1.1).bind λv19=> (Ye 112 (t1.2++[(Zl.mk v19.Zn v19.Zv v19.Yj v19.Xv 0 0 [])]).length).bind λv20=> (some (IntKind.wrap .i64 (t1.1+1))).bind λv21=> some (.next (v21,(t1.2++[(Zl.mk v19.Zn v19.Zv v19.Yj v19.Xv 0 0 [])])))) else (some (.done (t1.2)))
def j6x1 (x0:Z4):Option (Bool):= (Z0v x0.Y1 0 [108,97,110,103,47,79,98,106,101,99,116]).bind λv2=> if (!v2.2) then ((J6).bind λv3=> some v3) else ((Ke x0).bind λv4=> (some (IntKind.wrap .i64 ((v4.length:Int) - 1))).bind λv5=> (Z7 (l6x1 v4) Z8 (v5,([]:List Zg))).bind λq0=> (Z7 (l6x2 x0) Z8 (0,([]:List Zl))).bind λq2=> (Ye 112 (q2++[(Zl.mk 2 (X5.mk 1 76 v2.1) q0 [] 0 0 [])]).length).bind λv22=> (Mz (Z4.mk x0.Y1 5000 (q2++[(Zl.mk 2 (X5.mk 1 76 v2.1) q0 [] 0 0 [])]) [] [] [(Yu.mk 0 0 0 [] ((q2++[(Zl.mk 2 (X5.mk 1 76 v2.1) q0 [] 0 0 [])]).length:Int) 0 (Zg.mk 0 0))] [])).bind λv23=> if (!v23) then ((J6).bind λv24=> some v24) else ((Ww x0).bind λv25=> (Ww (Z4.mk x0.Y1 5000 (q2++[(Zl.mk 2 (X5.mk 1 76 v2.1) q0 [] 0 0 [])]) [] [] [(Yu.mk 0 0 0 [] ((q2++[(Zl.mk 2 (X5.mk 1 76 v2.1) q0 [] 0 0 [])]).length:Int) 0 (Zg.mk 0 0))] [])).bind λv26=> (J6).bind λv27=> if v27 then ((some (IntKind.wrap .i64 ((v25.length:Int)+1))).bind λv28=> if ((v26.length:Int)==v28) then ((sub v26 0 (v25.length:Int)).bind λv29=> (Kp v25 v29).bind λv30=> some v30) else (some false)) else (some false)))
def Zid (x0:Z4):Option (Bool):= (Z1k x0).bind λv0=> if (!v0) then (j6x2) else ((Mz x0).bind λv1=> if (!v1) then (j6x2) else ((j6x1 x0)))
theorem wj6x2 {r Γ} (h:j6x2=some r):Jn prog f6 Γ (Den.Ends prog f6 (R6 r)) 37 ⟨114,[],[]⟩:= so<|bd h λv31 e33 h=>go [] [rg 2 [(0,k (w9 e33))]]<|rt h
def st6x1 (v2:Int×Bool) (v4:(List Int)) (x0:Z4):(Int×(List Zg))→SL:= λt0=>⟨114,[(1,.ptr (Zo x0)),(5,.lptr 5 0 0),(6,.sl false (v4.map Z1)),(7,dI t0.1)],[(5,{ sz:=9,rows:=[[dI 2,dI 1,d8 76,dI v2.1,.lsl 1005 0 ((t0.2.map X2).length),.str [],dI 0,dI 0,.sl true (([]:List Int).map Z1)]],frz:=0,pure:=false }),(1005,{ sz:=2,rows:=(t0.2.map X2),frz:=0,pure:=true })]⟩
def J6x1 (v2:Int×Bool) (x0:Z4):JT (((List Zg))):= je 0 λq0:(List Zg)=>⟨114,[(1,.ptr (Zo x0)),(5,.lptr 5 0 0)],[(5,{ sz:=9,rows:=[[dI 2,dI 1,d8 76,dI v2.1,.lsl 1005 0 ((q0.map X2).length),.str [],dI 0,dI 0,.sl true (([]:List Int).map Z1)]],frz:=0,pure:=false }),(1005,{ sz:=2,rows:=(q0.map X2),frz:=0,pure:=true })]⟩
theorem wl6x1 (v2:Int×Bool) (x0:Z4) {v4 t0 r Γ} (h:(l6x1 v4) t0=some r):A prog Γ (lpC f6 703) [] (Rd (st6x1 v2 v4 x0) (J6x1 v2 x0) r) ((st6x1 v2 v4 x0) t0).s:= go [] []<|br h (λh5 h=>bd h λv12 e12 h=>bd h λv13 e13 h=>bd h λv14 e14 h=>go [] [rgx 11 [(4,ix e12),(7,br0 1 2),(8,ap e13)] [8,10],rg 10 [(1,n e14)]]<|nx h) λh5 h=> go [] []<|dn h (iE)
def st6x2 (q0:((List Zg))) (v2:Int×Bool) (x0:Z4):(Int×(List Zl))→SL:= λt1=>⟨114,[(1,.ptr (Zo x0)),(5,.lptr 5 0 0),(8,.lptr 8 0 0),(9,dI t1.1)],[(5,{ sz:=9,rows:=[[dI 2,dI 1,d8 76,dI v2.1,.lsl 1005 0 ((q0.map X2).length),.str [],dI 0,dI 0,.sl true (([]:List Int).map Z1)]],frz:=0,pure:=false }),(8,{ sz:=10,rows:=[[.sl false (x0.Y1.X3.map Xl),.sl false (x0.Y1.Zy.map Xx),.sl false (x0.Y1.X1.map Q6),.sl false (x0.Y1.Qq.map Qi),dI 5000,.lsl 1008 0 ((t1.2.map X4).length),.sl true (([]:List Xm).map Qg),.sl true (([]:List Ql).map Qs),.sl true (([]:List Yu).map Xk),.sl true (([]:List (List UInt8)).map Q2)]],frz:=0,pure:=false }),(1005,{ sz:=2,rows:=(q0.map X2),frz:=0,pure:=true }),(1008,{ sz:=9,rows:=(t1.2.map X4),frz:=0,pure:=true })]⟩
def J6x2 (q0:((List Zg))) (v2:Int×Bool) (x0:Z4):JT (((List Zl))):= je 2 λq2:(List Zl)=>⟨114,[(1,.ptr (Zo x0)),(5,.lptr 5 0 0),(8,.lptr 8 0 0)],[(5,{ sz:=9,rows:=[[dI 2,dI 1,d8 76,dI v2.1,.lsl 1005 0 ((q0.map X2).length),.str [],dI 0,dI 0,.sl true (([]:List Int).map Z1)]],frz:=0,pure:=false }),(8,{ sz:=10,rows:=[[.sl false (x0.Y1.X3.map Xl),.sl false (x0.Y1.Zy.map Xx),.sl false (x0.Y1.X1.map Q6),.sl false (x0.Y1.Qq.map Qi),dI 5000,.lsl 1008 0 ((q2.map X4).length),.sl true (([]:List Xm).map Qg),.sl true (([]:List Ql).map Qs),.sl true (([]:List Yu).map Xk),.sl true (([]:List (List UInt8)).map Q2)]],frz:=0,pure:=false }),(1005,{ sz:=2,rows:=(q0.map X2),frz:=0,pure:=true }),(1008,{ sz:=9,rows:=(q2.map X4),frz:=0,pure:=true })]⟩
theorem wl6x2 (q0:((List Zg))) (v2:Int×Bool) {x0 t1 r Γ} (h:(l6x2 x0) t1=some r):A prog Γ (lpC f6 2815) [] (Rd (st6x2 q0 v2 x0) (J6x2 q0 v2 x0) r) ((st6x2 q0 v2 x0) t1).s:= go [] [rg 14 [(3,ln x0.Z2)]]<|br h (λh8 h=>bd h λv19 e20 h=>bd h λv20 e21 h=>bd h λv21 e22 h=>go [] [rg 16 [(3,ix e20)],rg 18 [(3,br0 1 9),(4,ap e21)],rg 15 [(1,n e22)]]<|nx h) λh8 h=> go [] []<|dn h (iE)
theorem wj6x1 {x0 r Γ} (h:(j6x1 x0)=some r):Jn prog f6 Γ (Den.Ends prog f6 (R6 r)) 11 ⟨114,[(1,.ptr (Zo x0))],[]⟩:= so<|bd h λv2 e2 h=>go [] [rg 3 [(2,k (w25 e2))]]<|br h (λh2 h=>bd h λv3 e3 h=>go [] [rg 5 [(0,k (w9 e3))]]<|rt h) λh2 h=> bd h λv4 e4 h=>bd h λv5 e5 h=>go [] [rg 7 [(1,k (w15 e4))],rg 8 [(1,ln v4),(2,n e5)]]<|bd h λq0 e15 h=>lp (cv:=[.blk 5 4 1005 2]) e15 (wl6x1 v2 x0)<|qe<|goN [] []<|bd h λq2 e23 h=>lp (cv:=[.blk 8 5 1008 9]) e23 (wl6x2 q0 v2)<|qe<|bd h λv22 e24 h=>bd h λv23 e25 h=>goN [] [rg 19 [(3,br2 (A:=([(Zl.mk 2 (X5.mk 1 76 v2.1) q0 [] 0 0 [])]:List Zl).map X4) (a2 trivial (a2 trivial (a2 trivial (a2 trivial (a2 (rpI q0) (a2 trivial (a2 trivial (a2 trivial (a2 trivial trivial))))))))) [[dI 2,dI 1,d8 76,dI v2.1,rw_ q0,.str [],dI 0,dI 0,.sl false (([]:List Int).map Z1)]] (by simp only[rwE] <;> kernel_rfl)),(4,ap e24)],rg 20 [(2,ln (q2++[(Zl.mk 2 (X5.mk 1 76 v2.1) q0 [] 0 0 [])])),(4,br0 1 8)],rg 21 [(1,kB (a2 (a2 trivial (a2 trivial (a2 trivial (a2 trivial (a2 trivial (a2 (rpI (q2++[(Zl.mk 2 (X5.mk 1 76 v2.1) q0 [] 0 0 [])])) (a2 trivial (a2 trivial (a2 trivial (a2 trivial trivial)))))))))) trivial) [.agg [.sl false (x0.Y1.X3.map Xl),.sl false (x0.Y1.Zy.map Xx),.sl false (x0.Y1.X1.map Q6),.sl false (x0.Y1.Qq.map Qi),dI 5000,rw_ (q2++[(Zl.mk 2 (X5.mk 1 76 v2.1) q0 [] 0 0 [])]),.sl false (([]:List Xm).map Qg),.sl false (([]:List Ql).map Qs),.sl false ([(Yu.mk 0 0 0 [] ((q2++[(Zl.mk 2 (X5.mk 1 76 v2.1) q0 [] 0 0 [])]).length:Int) 0 (Zg.mk 0 0))].map Xk),.sl false (([]:List (List UInt8)).map Q2)]] (by simp only[rwE] <;> kernel_rfl) (w8 e25))]]<|br h (λh9 h=>bd h λv24 e26 h=>go [] [rg 22 [(0,k (w9 e26))]]<|rt h) λh9 h=> bd h λv25 e27 h=>bd h λv26 e28 h=>go [24] [rgx 23 [(1,k (w20 e27)),(3,kB (a2 (a2 trivial (a2 trivial (a2 trivial (a2 trivial (a2 trivial (a2 (rpI (q2++[(Zl.mk 2 (X5.mk 1 76 v2.1) q0 [] 0 0 [])])) (a2 trivial (a2 trivial (a2 trivial (a2 trivial trivial)))))))))) trivial) [.agg [.sl false (x0.Y1.X3.map Xl),.sl false (x0.Y1.Zy.map Xx),.sl false (x0.Y1.X1.map Q6),.sl false (x0.Y1.Qq.map Qi),dI 5000,rw_ (q2++[(Zl.mk 2 (X5.mk 1 76 v2.1) q0 [] 0 0 [])]),.sl false (([]:List Xm).map Qg),.sl false (([]:List Ql).map Qs),.sl false ([(Yu.mk 0 0 0 [] ((q2++[(Zl.mk 2 (X5.mk 1 76 v2.1) q0 [] 0 0 [])]).length:Int) 0 (Zg.mk 0 0))].map Xk),.sl false (([]:List (List UInt8)).map Q2)]] (by simp only[rwE] <;> kernel_rfl) (w20 e28))] [3]]<|po<|bd h λv27 e29 h=>pr 2 [(0,k (w9 e29))]<|sp h (λh10 h=>bd h λv28 e30 h=>pr 8 [(2,gw h10 g0),(3,gw h10 (ln v26)),(4,gw h10 g0),(5,gw h10 (ln v25)),(6,gw h10 (n e30)),(7,gw h10 g0),(8,py h10)]<|sp h (λh11 h=>bd h λv29 e31 h=>bd h λv30 e32 h=>pr 8 (gC h11 10 3 [(13,gw h11 (ln v25)),(14,gw h11 (sb e31)),(15,gw h11 (k (w12 e32))),(16,py h11)])<|pe<|goN [] []<|rt h) λh11 h=> pr 8 (gB h11 10 6 [(16,pn h11)])<|pe<|goN [] []<|rt h) λh10 h=> pr 16 (gB h10 2 6 [(8,pn h10)])<|pe<|goN [] []<|rt h
theorem w6 {x0 r} (h:Zid x0=some r):Zb prog 6 [.agg (Zo x0)] (R6 r):= cs f6<|bd h λv0 e0 h=>sp h (λh0 h=>go [] [rg 0 [(0,bo)],rg 1 ((1,k (w7 e0))::gA h0 4 3 [(7,py h0)])]<|bT rfl<|go [2] []<|jn (wj6x2 h)) λh0 h=> bd h λv1 e1 h=>go [] [rg 0 [(0,bo)],rg 1 [(1,k (w7 e0)),(4,gw h0 g0),(5,gw h0 (k (w8 e1))),(6,gw h0 g0),(7,pn h0)]]<|br h (λh1 h=>go [2] []<|jn (wj6x2 h)) λh1 h=> go [3] []<|jn (wj6x1 h)
end Go.Proofs
namespace Go.Proofs
open Go.Den Go.Tot
def Jx (o:Zl):Zl:={ Zn:=o.Zn,Zv:=o.Zv,Yj:=o.Yj,Xv:=o.Xv,Qw:=0,Qh:=0,Q7:=[] }
def Lz (r:Int):Zg:={ Zn:=3,f_N:=r }
def Mt (c:Int) (vs:List Zg):Zl:={ Zn:=2,Zv:={ Xh:=1,X0:=76,Zq:=c },Yj:=vs,Xv:=[],Qw:=0,Qh:=0,Q7:=[] }
def Wc (m:Z4) (c:Int):Z4:=
 { Y1:=m.Y1,V6:=5000,Z2:=m.Z2.map Jx++[Mt c ((Qy m).reverse.map Lz)],X7:=[],Xc:=[],Zz:=[Ka ((m.Z2.map Jx++[Mt c ((Qy m).reverse.map Lz)]).length:Int)],W5:=[] }
theorem Y15 (l:List Int) (hl:l.length≤5001):Z7 (l6x1 l) Z8 ((l.length:Int) - 1,([]:List Zg))=some (l.reverse.map Lz):=by
 have h:Ok (Z7 (l6x1 l) Z8 ((l.length:Int) - 1,([]:List Zg))) λq=>q=l.reverse.map Lz:=by
  refine lp (λt:Int×List Zg=>(l.length:Int) - 1 - t.1) l.length (λt=>-1≤t.1∧t.1<l.length∧t.2=((l.drop (t.1+1).toNat).reverse).map Lz) (λt ⟨a,b,hI⟩ h0 h1=>?_) (by omega) ⟨by dsimp only; omega,by dsimp only; omega,by dsimp only; rw[List.drop_of_length_le (by omega)]; rfl⟩
  unfold l6x1
  refine brD (λhge=>?_) λhlt=>dn ?_
  ·refine bd (gri hge b) λv ⟨_,hv⟩=>bd (gk ?_ ?_) λ_ _=>bd wr λk hk=>?_
   ·rw[hI]; simp; omega
   ·rw[hI]; simp; omega
   ·subst hk
    refine nx ⟨by dsimp only; omega,by dsimp only; omega,?_⟩
    dsimp only
    rw[show (t.1 - 1+1).toNat=t.1.toNat by omega,hI,show (t.1+1).toNat=t.1.toNat+1 by omega]
    have hlt:=(List.getElem?_eq_some_iff.1 hv).1
    have e:=(List.getElem?_eq_some_iff.1 hv).2
    rw[List.drop_eq_getElem_cons hlt,e,List.reverse_cons,List.map_append]; rfl
  ·rw[hI,show (t.1+1).toNat=0 by omega]; rfl
 obtain⟨q,e,rfl⟩:=h
 exact e
theorem Y1o (m:Z4) (hl:m.Z2.length≤5001):Z7 (l6x2 m) Z8 (0,([]:List Zl))=some (m.Z2.map Jx):=by
 have h:Ok (Z7 (l6x2 m) Z8 (0,([]:List Zl))) λq=>q=m.Z2.map Jx:=by
  refine lp (λt:Int×List Zl=>t.1) m.Z2.length (λt=>t.2=(m.Z2.take t.1.toNat).map Jx) (λt hI h0 h1=>?_) (by omega) rfl
  unfold l6x2
  refine brD (λhlt=>?_) λhge=>dn ?_
  ·refine bd (gri h0 hlt) λv ⟨_,hv⟩=>bd (gk ?_ ?_) λ_ _=>bd wr λk hk=>?_
   ·rw[hI]; simp; omega
   ·rw[hI]; simp; omega
   ·subst hk
    refine nx ?_
    dsimp only
    rw[show (t.1+1).toNat=t.1.toNat+1 by omega,List.take_add_one,hv,hI]
    simp[Jx]
  ·rw[hI,List.take_of_length_le (by omega)]
 obtain⟨q,e,rfl⟩:=h
 exact e
theorem Zjf (m:Z4) (c:Int):(Wc m c).Z2.length=m.Z2.length+1:=by simp[Wc]
theorem Zxt {m:Z4} {c:Int} {n:Int} {o:Zl} (h:Vm m n=some o):Vm (Wc m c) n=some (Jx o):=by
 obtain⟨h1,h2,h3⟩:=Jb.1 h
 have hlt:=(List.getElem?_eq_some_iff.1 h2).1
 refine Jb.2 ⟨h1,?_,h3⟩
 show (m.Z2.map Jx++_)[(n - 1).toNat]?=_
 rw[List.getElem?_append_left (by simpa using hlt),List.getElem?_map,h2]; rfl
theorem Zi9 (m:Z4) (c:Int):Vm (Wc m c) (m.Z2.length+1)=some (Mt c ((Qy m).reverse.map Lz)):=by
 refine Jb.2 ⟨by omega,?_,show (2:Int)≠0 by decide⟩
 show (m.Z2.map Jx++_)[((m.Z2.length:Int)+1 - 1).toNat]?=_
 rw[List.getElem?_append_right (by simp)]
 simp
theorem Y12 (m:Z4) (c:Int) (x:Int):x∈Qy (Wc m c)↔x=(m.Z2.length:Int)+1:=by
 rw[Z40]
 have hl:=Zjf m c
 have hr:refM (Wc m c) x↔x=(m.Z2.length:Int)+1∨x=0:=by
  have e:((m.Z2.map Jx++[Mt c ((Qy m).reverse.map Lz)]).length:Int)=(m.Z2.length:Int)+1:=by simp
  constructor
  ·rintro(⟨t,ht,h⟩|⟨r,hr,_⟩|⟨y,hy,_⟩)
   ·rw[List.mem_singleton.1 ht] at h
    rcases h with h|h|h|⟨h,_⟩|⟨a,ha,_⟩
    ·left; rw[h]; exact e
    ·right; exact h
    ·right; exact h
    ·exact absurd h (show ¬(0:Int)=3 by decide)
    ·exact(List.not_mem_nil ha).elim
   ·exact(List.not_mem_nil hr).elim
   ·exact(List.not_mem_nil hy).elim
  ·rintro(h|h)
   ·exact .inl ⟨_,List.mem_singleton.2 rfl,.inl (h.trans e.symm)⟩
   ·exact .inl ⟨_,List.mem_singleton.2 rfl,.inr (.inl h)⟩
 constructor
 ·rintro⟨h1,o,h2,h3⟩
  rcases h3 with h3|h3
  ·rcases hr.1 h3 with h|h
   ·exact h
   ·omega
  ·have hm:=List.mem_of_getElem? h2
   rcases List.mem_append.1 hm with hm|hm
   ·obtain⟨o',_,rfl⟩:=List.mem_map.1 hm
    exact absurd h3 (by simp[Wt,Jx])
   ·rw[List.mem_singleton.1 hm] at h3
    exact absurd h3 (by simp[Wt,Mt])
 ·intro h
  obtain⟨h1,h2,_⟩:=Jb.1 (Zi9 m c)
  rw[h]
  exact⟨h1,_,h2,.inl (by rw[← h]; exact hr.2 (.inl h))⟩
theorem bare_re {m:Z4} (hg:MG m) (c k n:Int) (hn:n≠(m.Z2.length:Int)+1):(U7 m).Re k n↔(U7 (Wc m c)).Re k n:=by
 have hs0:Jm m.Y1 (Mt c ((Qy m).reverse.map Lz))=0:=rfl
 refine Gr.Re.via (a:=(m.Z2.length:Int)+1) (Y12 m c) (λx=>?_) ?_ (λx hx=>?_) n hn
 ·show x∈V8 (Wc m c) _↔x∈Qy m
  unfold V8
  rw[Zi9]
  show x∈vtg (((Qy m).reverse.map Lz).drop 0)↔_
  rw[List.drop_zero,Zvo]
  constructor
  ·rintro⟨v,hv,_,_,rfl⟩
   obtain⟨r,hr,rfl⟩:=List.mem_map.1 hv
   exact List.mem_reverse.1 hr
  ·intro hx
   have:=(hg.root_is hx).range
   exact⟨Lz x,List.mem_map.2 ⟨x,List.mem_reverse.2 hx,rfl⟩,rfl,by show x≠0; omega,rfl⟩
 ·show toO (Wc m c) _=0
  unfold toO
  rw[Zi9]; rfl
 ·obtain⟨o,ho⟩:=hg.re_is hx
  have hr:=IsO.range ⟨o,ho⟩
  have ho':=Zxt (c:=c) ho
  refine⟨by omega,?_,?_,?_⟩
  ·show V8 (Wc m c) x=V8 m x
   unfold V8; rw[ho,ho']; rfl
  ·show toO (Wc m c) x=toO m x
   unfold toO; rw[ho,ho']; rfl
  ·show V3 (Wc m c) x=V3 m x
   unfold V3; rw[ho,ho']; rfl
theorem Znv {m:Z4} (h:Vr m) (hg:MG m) (c:Int):Vr (Wc m c):=by
 have hro:=hg.roots_len
 have hlen:=hg.len
 refine⟨h.sp,λo ho=>?_,by rw[Zjf]; omega,λb hb=>(List.not_mem_nil hb).elim,by simp[Wc],λx hx=>(List.not_mem_nil hx).elim,by simp[Wc],λt ht=>?_,by simp[Wc],by simp[Wc]⟩
 ·rcases List.mem_append.1 ho with ho|ho
  ·obtain⟨o',ho',rfl⟩:=List.mem_map.1 ho
   have:=h.heap o' ho'
   exact⟨this.val,this.str,by simp[Jx]⟩
  ·rw[List.mem_singleton.1 ho]
   exact⟨by simp[Mt]; omega,by unfold Str; simp[Mt],by simp[Mt]⟩
 ·rw[List.mem_singleton.1 ht]
  exact⟨λa ha=>(List.not_mem_nil ha).elim,by simp[Ka]⟩
theorem Zxu (m:Z4) (h:Vr m):Zid m=some true:=by
 have aw:j6x2=some true:=by unfold j6x2; rw[Lj]; rfl
 unfold Zid
 obtain⟨b,e,_⟩:=Ze3 m
 obtain⟨c,e2,hc⟩:=Z8x m h
 rw[e,Option.bind_some,e2,Option.bind_some]
 cases b with
 | false=>exact aw
 | true=>
  cases c with
  | false=>exact aw
  | true=>
   have hv:=hc rfl
   have hg:=Mx.mg h hv
   have hheap:=hv.heap
   have hlen:=hg.len
   have hro:=hg.roots_len
   rw[if_neg (by simp),if_neg (by simp)]
   unfold j6x1
   rw[Zth _ _ hg.sz.ini,Option.bind_some]
   unfold lkR
   cases lkp m.Y1.X1 [108,97,110,103,47,79,98,106,101,99,116] with
   | none=>dsimp only; rw[if_pos (by simp),Lj]; rfl
   | some c=>
    dsimp only
    rw[if_neg (by simp),hg.rootsP,Option.bind_some,Option.bind_some,Ub (by omega) (by omega),Y15 _ (by omega),Option.bind_some,Y1o m hlen,Option.bind_some]
    rw[show Ye 112 (m.Z2.map Jx++[({ Zn:=2,Zv:=({ Xh:=1,X0:=76,Zq:=c }:X5),Yj:=(Qy m).reverse.map Lz,Xv:=[],Qw:=0,Qh:=0,Q7:=([]:List Int) }:Zl)]).length=some () by unfold Ye; rw[if_pos (by simp; omega)],Option.bind_some]
    show ((Mz (Wc m c)).bind _)=_
    obtain⟨d,e3,hd⟩:=Z8x (Wc m c) (Znv h hg c)
    rw[e3,Option.bind_some]
    cases d with
    | false=>rw[if_pos (by simp),Lj]; rfl
    | true=>
     have hgb:=Mx.mg (Znv h hg c) (hd rfl)
     obtain⟨l,l1,_,l3,l4⟩:=hg.lev_same
     obtain⟨l',k1,_,k3,k4⟩:=hgb.lev_same
     rw[if_neg (by simp),l1,Option.bind_some]
     show ((Ww (Wc m c)).bind _)=_
     rw[k1,Option.bind_some,Lj,Option.bind_some,if_pos rfl,Option.bind_some,Ub (by omega) (by omega)]
     have hb:=Zjf m c
     rw[if_pos (by simp; omega)]
     have hs:sub l' 0 (l.length:Int)=some (l'.take l.length):=by
      unfold sub
      rw[if_pos (by omega)]
      simp
     rw[hs,Option.bind_some]
     have hl:=Jp.of l3 l4
     have hl':=Jp.of k3 k4
     have heq:l'.take l.length=l:=by
      refine List.ext_getElem (by simp; omega) λi h1 h2=>?_
      have hi:i<l'.length:=by omega
      obtain⟨a0,a4,a⟩:=hl.lev i _ (by omega) (List.getElem?_eq_getElem (by simpa using h2))
      obtain⟨b0,b4,b⟩:=hl'.lev i _ (by omega) (List.getElem?_eq_getElem (by simpa using hi))
      have key:∀ k:Int,1≤k→k≤4→(k≤l'[i]↔k≤l[i]):=λk k1 k4=>by
       have x1:=b k k1 k4
       have x2:=a k k1 k4
       have x3:=bare_re hg c k ((i:Int)+1) (by omega)
       simp only[Int.toNat_natCast] at x1 x2
       rw[x1,x2,x3]
      simp only[Int.toNat_natCast] at a0 a4 b0 b4
      rw[List.getElem_take]
      have e1:=key 1 (by decide) (by decide)
      have e2:=key 2 (by decide) (by decide)
      have e3:=key 3 (by decide) (by decide)
      have e4:=key 4 (by decide) (by decide)
      omega
     rw[heq,Zel l (by omega)]; rfl
end Go.Proofs
