/-
  Models of functions of the program, and that the functions compute them. Printed by den3.py. No condition.
-/
import Derived.Test.YtaamfcpmekeahaaGreatDoorGbg10
import Derived.Test.YtaamfcpmekeahaaGreatDoorGbgG
import Derived.Test.YtaamfcpmekeahaaGreatDoorGbg12
import Derived.Test.YtaamfcpmekeahaaGreatDoorGbg11
import Derived.Test.YtaamfcpmekeahaaGreatDoorGbgK
set_option linter.unusedVariables false
set_option linter.unusedSimpArgs false
namespace Go.Proofs
open Tryz
open Go.Den Go.Den.W
def R21 (a:(List Int)):D:=(slF Z5 a)
theorem w21 {d r} (h:Z38 d=some r):Zi prog 21 [.agg (Zr d)] (R21 r):= cs f21<|bd h λj f h=>go [] [rg 0 [(0,bo)],rg 1 [(2,ln d.Z7),(3,mk false f)]]<|bd h λq0 g h=>lp (ps:=[(12,3)]) g Y17<|qe<|goN [] []<|bd h λi a h=>lp a Y18<|qe<|goN [] []<|bd h λq4 b h=>lp b Y19<|qe<|goN [] [rg 14 [(0,bl 0 0)]]<|bd h λe c h=>lp (ps:=[(3,3),(57,7)]) c Y1a<|qe<|goN [] []<|rtB h (rw_ e) (a2 (rpI e) trivial) (by simp only[rwE] <;> kernel_rfl)
end Go.Proofs
namespace Go.Proofs
open IntKind (wrap)
open Tryz
open Go.Den Go.Den.W
def R22 (a:(List Bool)):D:=(slF Zu a)
def Zhq (b:Z6):Option (List Bool):= (Z5b b 4).bind λa=> some a
theorem w22 {a r} (h:Zhq a=some r):Zi prog 22 [.agg (Zr a)] (R22 r):= cs f22<|bd h λc b h=>go [] [rg 0 [(0,bo)],rg 1 [(1,k (w45 b))]]<|rt h
def R6 (a:Bool):D:= .bool a
def l6x1 (a:(List Int)) (e:Z6) (f:Bool) (t0:Int):Option (Ctl (Int) (Unit⊕Bool)):= if decide (t0<(a.length:Int)) then (Z4 a t0).bind λb=> (Z1u e b f).bind λc=> if !c then some (.done (.inr false)) else (some (wrap .i64 (t0+1))).bind λd=> some (.next d) else some (.done (.inl (())))
def j6x2 (t1:Int) (k:(List Int)) (a:Zm×Bool) (j:Z6):Option (Ctl (Int) (Unit⊕Bool)):= (some (wrap .i64 (t1+1))).bind λb=> (Z5g k b).bind λc=> if c then (Z4 j.Z7 t1).bind λd=> if (a.1.Zw.length:Int)!=(d.Zw.length:Int) then some (.done (.inr false)) else if (a.1.Zw.length:Int)==0 then some (.done (.inr false)) else (Z4 a.1.Zw 0).bind λe=> if !(Jg e (Zf.mk 3 0)) then some (.done (.inr false)) else (some (wrap .i64 (t1+1))).bind λf=> some (.next f) else (Z4 j.Z7 t1).bind λg=> (Zab a.1 g).bind λh=> if !h then some (.done (.inr false)) else (some (wrap .i64 (t1+1))).bind λi=> some (.next i)
def j6x1 (t1:Int) (f:Z6×(List Int)×Int) (g:(List Int)) (e:Z6) (h:Bool):Option (Ctl (Int) (Unit⊕Bool)):= (some (wrap .i64 (t1+1))).bind λb=> (Z1s f.1 b).bind λa=> if !a.2 then some (.done (.inr false)) else (some (wrap .i64 (t1+1))).bind λc=> (Z1u e c h).bind λd=> if !d then some (.done (.inr false)) else (j6x2 t1 g a e)
def l6x2 (g:Z6×(List Int)×Int) (h:(List Int)) (a:(List Bool)) (f:Z6) (i:Bool) (t1:Int):Option (Ctl (Int) (Unit⊕Bool)):= if decide (t1<(a.length:Int)) then (Z4 a t1).bind λb=> if !b then (some (wrap .i64 (t1+1))).bind λc=> some (.next c) else (Z4 f.Z7 t1).bind λd=> if d.Zj==0 then (some (wrap .i64 (t1+1))).bind λe=> some (.next e) else (j6x1 t1 g h f i) else some (.done (.inl (())))
def Ztq (a:Z6) (b:Bool):Option (Bool):= (Z0l a).bind λf=> if !f then (Lu).bind λg=> some g else (Mj a b).bind λh=> (Z39 a b).bind λi=> (Z38 a).bind λj=> (Z8 (l6x1 j a b) Zb 0).bind λe=> match e with | .inl q0=>((Zhq a).bind λc=> (Z8 (l6x2 h i c a b) Zb 0).bind λq3=> match q3 with | .inl m=>((Lu).bind λd=> some d) | .inr k=>(some k)) | .inr l=>(some l)
def st6x1 (a:Z6×(List Int)×Int) (b c:(List Int)) (d:Z6) (e:Bool):Int→SL:= λt0=>⟨122,[(1,.bool e),(2,.ptr (Zr d)),(5,.lptr 5 0 0),(8,slF Z5 b),(9,slF Z5 c),(10,dI t0)],[(5,Zc 10 [Zr a.1])]⟩
def J6x1 (a:Z6×(List Int)×Int) (b:(List Int)) (c:Z6) (d:Bool):JT (Unit⊕Bool):= ju (je 0 λq0:Unit=>⟨122,[(1,.bool d),(2,.ptr (Zr c)),(5,.lptr 5 0 0),(8,slF Z5 b)],[(5,Zc 10 [Zr a.1])]⟩) (jr prog f6 R6)
theorem wl6x1 (d:Z6×(List Int)×Int) (e:(List Int)) {a b c t0 r Γ} (h:(l6x1 a b c) t0=some r):A prog Γ (lpC f6 351) [] (Rd (st6x1 d e a b c) (J6x1 d e b c) r) ((st6x1 d e a b c) t0).s:= Z0 7 [(2,ln a)]<|br h (λj h=>bd h λm f h=>bd h λo g h=>Z0 9 [(3,ix f),(6,k (w10 g))]<|br h (λl h=>Z2<|dn h (i2 iR)) λl h=> bd h λp i h=>Z0 8 [(1,n i)]<|nx h) λj h=> Z2<|dn h (i1 iE)
def Zj0 (b:Z6×(List Int)×Int) (c:(List Int)) (a:(List Bool)) (d:Z6) (e:Bool):Int→SL:= λt1=>⟨122,[(1,.bool e),(2,.ptr (Zr d)),(5,.lptr 5 0 0),(8,slF Z5 c),(11,slF Zu a),(12,dI t1)],[(5,Zc 10 [Zr b.1])]⟩
def J6x2:JT (Unit⊕Bool):= ju (je 2 λa:Unit=>⟨122,[],[]⟩) (jr prog f6 R6)
theorem wj6x2 (x:Z6×(List Int)×Int) (f:(List Bool)) (y:Bool) {t1 u a w r Γ} (h:(j6x2 t1 u a w)=some r):Jn prog f6 Γ (Rd (Zj0 x u f w y) J6x2 r) 379263 ⟨122,[(1,.bool y),(2,.ptr (Zr w)),(5,.lptr 5 0 0),(8,slF Z5 u),(11,slF Zu f),(12,dI t1),(13,.lptr 13 0 0)],[(5,Zc 10 [Zr x.1]),(13,Zc 9 [Ya a.1])]⟩:= so<|bd h λz g h=>bd h λA i h=>Z0 19 [(2,n g),(3,k (w24 i))]<|br h (λq h=>bd h λe c h=>sp h (λb h=>Z0 20 [(2,ln a.1.Zw),(6,ix c),(9,ln e.Zw),(10,kb b)]<|bT rfl<|Z2<|dn h (i2 iR)) λb h=> sp h (λd h=>Z0 20 [(2,ln a.1.Zw),(6,ix c),(9,ln e.Zw),(10,kb b),(14,ln a.1.Zw),(15,kb d)]<|bT rfl<|Z2<|dn h (i2 iR)) λd h=> bd h λv j h=>Z0 20 [(2,ln a.1.Zw),(6,ix c),(9,ln e.Zw),(10,kb b),(14,ln a.1.Zw),(15,kb d),(20,ix j),(23,qs Z2p Z2q (!(Jg v (Zf.mk 3 0))))]<|br h (λs h=>Z2<|dn h (i2 iR)) λs h=> bd h λB l h=>Z0 14 [(1,n l)]<|nx h) λq h=> bd h λC m h=>bd h λD o h=>Z0 22 [(4,ix m),(6,k (w25 o))]<|br h (λt h=>Z2<|dn h (i2 iR)) λt h=> bd h λE p h=>Z0 14 [(1,n p)]<|nx h
theorem wj6x1 (b:(List Bool)) {t1 e l m f r Γ} (h:(j6x1 t1 e l m f)=some r):Jn prog f6 Γ (Rd (Zj0 e l b m f) J6x2 r) 84351 ⟨122,[(1,.bool f),(2,.ptr (Zr m)),(5,.lptr 5 0 0),(8,slF Z5 l),(11,slF Zu b),(12,dI t1)],[(5,Zc 10 [Zr e.1])]⟩:= so<|bd h λo c h=>bd h λp d h=>sp h (λa h=>go [] [rg 16 [(2,n c),(3,k (w23 d))],rg 17 (gA a 3 6 [(9,py a)])]<|bT rfl<|Z2<|dn h (i2 iR)) λa h=> bd h λq g h=>bd h λs i h=>go [] [rg 16 [(2,n c),(3,k (w23 d))],rg 17 (gC a 3 2 [(5,gw a (n g)),(6,gw a g0),(7,gw a (k (w10 i))),(8,gw a g0),(9,pn a)])]<|br h (λj h=>Z2<|dn h (i2 iR)) λj h=> go [19] []<|jn ((wj6x2 e b f) h)
theorem wl6x2 {j k b l m t1 r Γ} (h:(l6x2 j k b l m) t1=some r):A prog Γ (lpC f6 1407) [] (Rd (Zj0 j k b l m) J6x2 r) ((Zj0 j k b l m) t1).s:= Z0 13 [(2,ln b)]<|br h (λg h=>bd h λo c h=>sp h (λa h=>go [] [rg 15 ((2,ix c)::gA a 6 7 [(13,py a)])]<|bT rfl<|bd h λp d h=>Z0 14 [(1,n d)]<|nx h) λa h=> bd h λq e h=>go [] [rg 15 ((2,ix c)::gC a 6 3 ((9,gw a (ix e))::gC a 10 3 [(13,pn a)]))]<|br h (λi h=>bd h λt f h=>Z0 14 [(1,n f)]<|nx h) λi h=> go [16] []<|jn ((wj6x1 b) h)) λg h=> Z2<|dn h (i1 iE)
theorem w6 {e f r} (h:Ztq e f=some r):Zi prog 6 [.agg (Zr e),.bool f] (R6 r):= cs f6<|bd h λv g h=>go [] [rg 0 [(0,bo)],rg 1 [(1,k (w8 g))]]<|br h (λn h=>bd h λw i h=>Z0 2 [(0,k (w9 i))]<|rt h) λn h=> bd h λq j h=>bd h λs l h=>bd h λx m h=>go [] [rg 3 [(2,k (w17 j))],rg 4 [(2,k (w13 l))],rg 5 [(1,k (w21 m))]]<|bd h λo a h=>lp a (wl6x1 q s)<|match o,h with | .inl q0,h=>j1<|(qe<|bd h λp b h=>goN [] [rg 11 [(1,k (w22 b))]]<|bd h λq3 c h=>lp c wl6x2<|match q3,h with | .inl u,h=>j1<|(qe<|bd h λt d h=>goN [] [rg 24 [(0,k (w9 d))]]<|rt h) | .inr y,h=>j2<|(qr h)) | .inr z,h=>j2<|(qr h)
end Go.Proofs
namespace Go.Proofs
open Go.Den Go.Tot
theorem lev_at {l:List Int} {i:Nat} (h:i<l.length):l.getD (((i:Int)+1) - 1).toNat 0=l[i] :=by
 rw[show (((i:Int)+1) - 1).toNat=i by omega,List.getD_eq_getElem?_getD,List.getElem?_eq_getElem h]; rfl
theorem MG.strongR {m:Z6} (h:MG m) {l:List Int} (u:l.length=m.Z7.length) (s:Lf (Ua m) λn=>l.getD (n - 1).toNat 0):Zhq m=some (l.map (· ==4)):=by
 unfold Zhq
 obtain⟨out,e,t,p⟩:=h.rchR 4
 rw[e]
 show some out=_
 congr 1
 refine List.ext_getElem (by simp; omega) λi q r=>?_
 have g:i<l.length:=by omega
 have d:(1:Int)≤(i:Int)+1∧(i:Int)+1≤m.Z7.length:=by omega
 obtain⟨k,o,b⟩:=s ((i:Int)+1) d.1 d.2
 have f:=b 4 (by decide) (by decide)
 dsimp only at k o f
 rw[lev_at g] at k o f
 have c:=p ((i:Int)+1) d.1 d.2
 rw[← f] at c
 have a:Bit out (((i:Int)+1) - 1)↔out[i]=true:=by
  unfold Bit
  rw[show (((i:Int)+1) - 1).toNat=i by omega,List.getElem?_eq_getElem q]
  simp
 rw[a] at c
 rw[List.getElem_map]
 cases j:out[i] with
 | true=>
  have:=c.1 j
  rw[show l[i]=4 by omega]; rfl
 | false=>
  have: ¬4≤l[i] :=λh=>by rw[c.2 h] at j; cases j
  symm
  rw[beq_eq_false_iff_ne]; omega
end Go.Proofs
namespace Go.Proofs
open Go.Den Go.Tot
theorem Y50 (m:Z6) (h:V4 m) (s:Bool):Ztq m s=some true:=by
 refine Z99 h λC=>?_
 have g:=Uo.mg h C
 obtain⟨l,e,H,a⟩:=g.lv
 have hw:=Zk6 l s h
 have D:=g.len
 have y:=a.lf.len
 have G:=g.roots_len
 have I:(Ud m l s).length≤m.Z7.length:=Mk _ _
 have z:Lf (Ua m) λn=>l.getD (n - 1).toNat 0:=λn i w=>a.lev i w
 have A:=Zu8 (Qe m l s)
 rw[a.colP h s e,a.clrP s e,g.rootsR,Z5z]
 simp only[Option.bind_some]
 have k1:Ok (Z8 (l6x1 (U3 m) m s) Zb 0) λq=>q=.inl ():=by
  refine li (U3 m).length (λt f i=>?_)
  unfold l6x1
  refine brD (λd=>?_) λ_=>di rfl
  obtain⟨n,en,b,_⟩:=gri (l:=U3 m) f d
  obtain⟨o,c⟩:=g.root_is b
  rw[en,Option.bind_some,a.surP s e,Option.bind_some,wrS f (by omega),c,a.ret_root s b]
  exact ni (by omega) (by omega)
 obtain⟨q,eq,rfl⟩:=k1
 rw[eq]
 dsimp only[Option.bind_some]
 rw[g.strongR y z]
 simp only[Option.bind_some]
 have k2:Ok (Z8 (l6x2 (Qe m l s,Wb m l s,0) (Ud m l s) (l.map (· ==4)) m s) Zb 0) λq=>q=.inl ():=by
  refine li l.length (λt f i=>?_)
  unfold l6x2
  refine brD (λd=>?_) λ_=>di rfl
  have k:t<m.Z7.length:=by rw[List.length_map] at d; omega
  obtain⟨o,ev,eo,c,u⟩:=a.place f k
  have es:Z4 (l.map (· ==4)) t=some (Q8 l (t+1)==4):=by
   obtain⟨v,ev',_,C⟩:=gri (l:=l) f (by omega)
   rw[ev] at ev'; cases ev'
   unfold Z4; rw[if_pos f,List.getElem?_map,C]; rfl
  rw[es,eo,u]
  simp only[Option.bind_some]
  refine br! (λ_=>ni (by omega) (by omega)) λE=>brE (λ_=>ni (by omega) (by omega)) λF=>?_
  rw[if_neg F] at c
  have x:Q8 l (t+1)=4:=by simpa using E
  have B:Qj s (Q8 l (t+1))=true:=by rw[x]; rfl
  unfold j6x1 j6x2
  rw[u]
  simp only[Option.bind_some]
  rw[(A _ (by rw[Z2j]; omega)).2,a.surP s e]
  unfold objP
  rw[Z3x c B,c,B]
  simp only[Option.bind_some]
  rw[if_neg (by simp),if_neg (by simp),Zk8 _ _ (by omega)]
  simp only[Option.bind_some]
  by_cases j:clB m l s (t+1)=true
  ·have b:t+1∈Ud m l s:=Z14.2 ⟨⟨o,c⟩,B,j⟩
   obtain⟨_,_,v,r,p,_⟩:=Z6l c j
   rw[if_pos (by simpa using b),if_pos j]
   have i:(Ue o).Zw=Jd o.Zw:=rfl
   rw[i,Zk2,if_neg (show ¬((o.Zw.length:Int)==0)=true by rw[p]; simp; omega),eo,Option.bind_some,if_neg (by simp)]
   have w:Z4 (Jd o.Zw) 0=some Z1z:=by rw[p]; cases r <;> rfl
   rw[w]
   simp only[Option.bind_some]
   rw[if_neg (by decide)]
   exact ni (by omega) (by omega)
  ·have b:t+1 ∉ Ud m l s:=λb=>j (Z14.1 b).2.2
   rw[if_neg (by simpa using b),if_neg j,eo,Option.bind_some,Zsn o (h.heap o (List.mem_of_getElem? (Jl.1 c).2.1))]
   simp only[Option.bind_some]
   rw[if_neg (by simp)]
   exact ni (by omega) (by omega)
 obtain⟨q,eq,rfl⟩:=k2
 rw[eq]; rfl
end Go.Proofs
