/-
  Models of functions of the program, and that the functions compute them. Printed by den3.py. No condition.
-/
import Derived.Test.YtiiilinleagffaaGreatDoorRch10
import Derived.Test.YtiiilinleagffaaGreatDoorRchX
import Derived.Test.YtiiilinleagffaaGreatDoorRchZ3
set_option linter.unusedVariables false
set_option linter.unusedSimpArgs false
namespace Go.Proofs
open Tryz
open Go.Den Go.Den.W
def R4 (y0:Bool):D:= .bool y0
def j4x4:Option (Bool):= (J6).bind λv78=> some v78
def l4x1 (v2 v4:(List Int)) (t0:Int):Option (Ctl (Int) (Unit⊕Bool)):= if (decide (t0<(v4.length:Int))) then ((Z5 v4 t0).bind λv10=> if (decide (v10<1)) then (some (.done (.inr false))) else ((Z5 v4 t0).bind λv11=> if (decide (v11>(v2.length:Int))) then (some (.done (.inr false))) else ((Z5 v4 t0).bind λv12=> (some (IntKind.wrap .i64 (v12 - 1))).bind λv13=> (Z5 v2 v13).bind λv14=> if (v14 !=4) then (some (.done (.inr false))) else (if (decide (t0>0)) then ((Z5 v4 t0).bind λv15=> (some (IntKind.wrap .i64 (t0 - 1))).bind λv16=> (Z5 v4 v16).bind λv17=> if (decide (v15≤v17)) then (some (.done (.inr false))) else ((some (IntKind.wrap .i64 (t0+1))).bind λv18=> some (.next v18))) else ((some (IntKind.wrap .i64 (t0+1))).bind λv19=> some (.next v19)))))) else (some (.done (.inl (()))))
def l4x2 (v2:(List Int)) (v3:(List Bool)) (x0:Z4) (t1:Int):Option (Ctl (Int) (Unit⊕Bool)):= if (decide (t1<(v2.length:Int))) then ((Z5 v2 t1).bind λv46=> if (decide (v46<0)) then (some (.done (.inr false))) else ((Z5 v2 t1).bind λv47=> if (decide (v47>4)) then (some (.done (.inr false))) else ((Z5 v3 t1).bind λv48=> (Z5 v2 t1).bind λv49=> if (!(v48==(v49==4))) then (some (.done (.inr false))) else ((Z5 v2 t1).bind λv50=> if (decide (v50>0)) then ((Z5 x0.Z2 t1).bind λv51=> if (v51.Zn==0) then (some (.done (.inr false))) else ((j4x3 t1 v2 x0))) else ((j4x3 t1 v2 x0)))))) else (some (.done (.inl (()))))
def j4x2 (v2:(List Int)) (v3:(List Bool)) (v4:(List Int)) (x0:Z4):Option (Bool):= (Z7 (l4x1 v2 v4) Z8 0).bind λq1=> match q1 with | .inl q0=>((Z7 (l4x2 v2 v3 x0) Z8 0).bind λq7=> match q7 with | .inl q6=>((J6).bind λv77=> some v77) | .inr y2=>(some y2)) | .inr y3=>(some y3)
def j4x1 (x0:Z4):Option (Bool):= (Ww x0).bind λv2=> (Z1z x0).bind λv3=> (Ke x0).bind λv4=> if ((v2.length:Int)!=(x0.Z2.length:Int)) then (some false) else (if ((v3.length:Int)!=(x0.Z2.length:Int)) then (some false) else ((j4x2 v2 v3 v4 x0)))
def Zjq (x0:Z4):Option (Bool):= (Z1k x0).bind λv0=> if (!v0) then (j4x4) else ((Mz x0).bind λv1=> if (!v1) then (j4x4) else ((j4x1 x0)))
theorem wj4x4 {r Γ} (h:j4x4=some r):Jn prog f4 Γ (Den.Ends prog f4 (R4 r)) 37 ⟨196,[],[]⟩:= so<|bd h λv78 e82 h=>go [] [rg 2 [(0,k (w9 e82))]]<|rt h
def st4x1 (v2:(List Int)) (v3:(List Bool)) (v4:(List Int)) (x0:Z4):Int→SL:= λt0=>⟨196,[(1,.ptr (Zo x0)),(3,.sl false (v2.map Z1)),(4,.sl false (v3.map Zk)),(5,.sl false (v4.map Z1)),(6,dI t0)],[]⟩
def J4x1 (v2:(List Int)) (v3:(List Bool)) (x0:Z4):JT (Unit⊕Bool):= ju (je 0 λq0:Unit=>⟨196,[(1,.ptr (Zo x0)),(3,.sl false (v2.map Z1)),(4,.sl false (v3.map Zk))],[]⟩) (jr prog f4 R4)
theorem wl4x1 (v3:(List Bool)) (x0:Z4) {v2 v4 t0 r Γ} (h:(l4x1 v2 v4) t0=some r):A prog Γ (lpC f4 175) [] (Rd (st4x1 v2 v3 v4 x0) (J4x1 v2 v3 x0) r) ((st4x1 v2 v3 v4 x0) t0).s:= go [] [rg 7 [(2,ln v4)]]<|br h (λh8 h=>bd h λv10 e10 h=>sp h (λh9 h=>go [] [rg 9 [(2,ix e10),(4,kb h9)]]<|bT rfl<|go [] []<|dn h (i2 iR)) λh9 h=> bd h λv11 e11 h=>sp h (λh10 h=>go [] [rg 9 [(2,ix e10),(4,kb h9),(8,ix e11),(11,ln v2),(12,kb h10)]]<|bT rfl<|go [] []<|dn h (i2 iR)) λh10 h=> bd h λv12 e12 h=>bd h λv13 e13 h=>bd h λv14 e14 h=>sp h (λh11 h=>go [] [rg 9 [(2,ix e10),(4,kb h9),(8,ix e11),(11,ln v2),(12,kb h10),(18,ix e12),(20,n e13),(21,ix e14),(23,kb h11)]]<|bT rfl<|go [] []<|dn h (i2 iR)) λh11 h=> sp h (λh12 h=>bd h λv15 e15 h=>bd h λv16 e16 h=>bd h λv17 e17 h=>go [] [rg 9 [(2,ix e10),(4,kb h9),(8,ix e11),(11,ln v2),(12,kb h10),(18,ix e12),(20,n e13),(21,ix e14),(23,kb h11),(27,kb h12),(31,ix e15),(35,n e16),(36,ix e17)]]<|br h (λh13 h=>go [] []<|dn h (i2 iR)) λh13 h=> bd h λv18 e18 h=>go [] [rg 8 [(1,n e18)]]<|nx h) λh12 h=> go [] [rg 9 [(2,ix e10),(4,kb h9),(8,ix e11),(11,ln v2),(12,kb h10),(18,ix e12),(20,n e13),(21,ix e14),(23,kb h11),(27,kb h12)]]<|bF rfl<|bd h λv19 e19 h=>go [] [rg 8 [(1,n e19)]]<|nx h) λh8 h=> go [] []<|dn h (i1 iE)
def st4x3 (t1:Int) (v2:(List Int)) (v3:(List Bool)) (v53:(List Int)) (x0:Z4):Int→SL:= λt3=>⟨196,[(1,.ptr (Zo x0)),(3,.sl false (v2.map Z1)),(4,.sl false (v3.map Zk)),(7,dI t1),(8,.sl false (v53.map Z1)),(9,dI t3)],[]⟩
def J4x3 (t1:Int) (v2:(List Int)) (v3:(List Bool)) (x0:Z4):JT (Unit⊕Bool):= ju (je 4 λq4:Unit=>⟨196,[(1,.ptr (Zo x0)),(3,.sl false (v2.map Z1)),(4,.sl false (v3.map Zk)),(7,dI t1)],[]⟩) (jr prog f4 R4)
theorem wl4x3 (v3:(List Bool)) (x0:Z4) {t1 v2 v53 t3 r Γ} (h:(l4x3 t1 v2 v53) t3=some r):A prog Γ (lpC f4 176735) [] (Rd (st4x3 t1 v2 v3 v53 x0) (J4x3 t1 v2 v3 x0) r) ((st4x3 t1 v2 v3 v53 x0) t3).s:= go [] [rg 18 [(2,ln v53)]]<|br h (λh40 h=>bd h λv60 e62 h=>sp h (λh41 h=>go [] [rg 20 [(2,ix e62),(4,kb h41)]]<|bT rfl<|go [] []<|dn h (i2 iR)) λh41 h=> bd h λv61 e63 h=>sp h (λh42 h=>go [] [rg 20 [(2,ix e62),(4,kb h41),(8,ix e63),(11,ln v2),(12,kb h42)]]<|bT rfl<|go [] []<|dn h (i2 iR)) λh42 h=> bd h λv62 e64 h=>bd h λv63 e65 h=>bd h λv64 e66 h=>bd h λv65 e67 h=>go [] [rg 20 [(2,ix e62),(4,kb h41),(8,ix e63),(11,ln v2),(12,kb h42),(18,ix e64),(20,n e65),(21,ix e66),(25,ix e67)]]<|br h (λh43 h=>go [] []<|dn h (i2 iR)) λh43 h=> bd h λv66 e68 h=>go [] [rg 19 [(1,n e68)]]<|nx h) λh40 h=> go [] []<|dn h (i1 iE)
def st4x2 (v2:(List Int)) (v3:(List Bool)) (x0:Z4):Int→SL:= λt1=>⟨196,[(1,.ptr (Zo x0)),(3,.sl false (v2.map Z1)),(4,.sl false (v3.map Zk)),(7,dI t1)],[]⟩
def J4x2:JT (Unit⊕Bool):= ju (je 2 λq6:Unit=>⟨196,[],[]⟩) (jr prog f4 R4)
theorem wj4x3 (v3:(List Bool)) {t1 v2 x0 r Γ} (h:(j4x3 t1 v2 x0)=some r):Jn prog f4 Γ (Rd (st4x2 v2 v3 x0) J4x2 r) 21087 ⟨196,[(1,.ptr (Zo x0)),(3,.sl false (v2.map Z1)),(4,.sl false (v3.map Zk)),(7,dI t1)],[]⟩:= so<|bd h λv52 e54 h=>bd h λv53 e55 h=>go [] [rg 16 [(2,n e54),(3,k (w13 e55))]]<|bd h λq5 e69 h=>lp e69 (wl4x3 v3 x0)<|match q5,h with | .inl q4,h=>j1<|(qe<|bd h λv67 e70 h=>bd h λv68 e71 h=>sp h (λh44 h=>bd h λv69 e72 h=>bd h λv70 e73 h=>bd h λv71 e74 h=>bd h λv72 e75 h=>bd h λv73 e76 h=>bd h λv74 e77 h=>goN [] [rg 22 [(2,n e70),(3,k (w22 e71))],rg 23 [(1,kb h44),(5,n e72),(6,ix e73),(10,ix e74),(14,n e75),(15,k (w10 e76)),(16,n e77)]]<|br h (λh45 h=>go [] []<|dn h (i2 iR)) λh45 h=> bd h λv75 e78 h=>go [] [rg 13 [(1,n e78)]]<|nx h) λh44 h=> goN [] [rg 22 [(2,n e70),(3,k (w22 e71))],rg 23 [(1,kb h44)]]<|bF rfl<|bd h λv76 e79 h=>go [] [rg 13 [(1,n e79)]]<|nx h) | .inr y1,h=>j2<|(ql h λ_ _ p=>⟨(iS p).1,i2 ((iS p).2)⟩)
theorem wl4x2 {v2 v3 x0 t1 r Γ} (h:(l4x2 v2 v3 x0) t1=some r):A prog Γ (lpC f4 351) [] (Rd (st4x2 v2 v3 x0) J4x2 r) ((st4x2 v2 v3 x0) t1).s:= go [] [rg 12 [(2,ln v2)]]<|br h (λh30 h=>bd h λv46 e48 h=>sp h (λh31 h=>go [] [rg 14 [(2,ix e48),(4,kb h31)]]<|bT rfl<|go [] []<|dn h (i2 iR)) λh31 h=> bd h λv47 e49 h=>sp h (λh32 h=>go [] [rg 14 [(2,ix e48),(4,kb h31),(8,ix e49),(10,kb h32)]]<|bT rfl<|go [] []<|dn h (i2 iR)) λh32 h=> bd h λv48 e50 h=>bd h λv49 e51 h=>sp h (λh33 h=>go [] [rg 14 [(2,ix e48),(4,kb h31),(8,ix e49),(10,kb h32),(15,ix e50),(19,ix e51),(22,kb h33)]]<|bT rfl<|go [] []<|dn h (i2 iR)) λh33 h=> bd h λv50 e52 h=>sp h (λh34 h=>bd h λv51 e53 h=>go [] [rg 14 [(2,ix e48),(4,kb h31),(8,ix e49),(10,kb h32),(15,ix e50),(19,ix e51),(22,kb h33),(27,ix e52),(29,kb h34),(34,ix e53)]]<|br h (λh35 h=>go [] []<|dn h (i2 iR)) λh35 h=> go [16] []<|jn ((wj4x3 v3) h)) λh34 h=> go [] [rg 14 [(2,ix e48),(4,kb h31),(8,ix e49),(10,kb h32),(15,ix e50),(19,ix e51),(22,kb h33),(27,ix e52),(29,kb h34)]]<|bF rfl<|go [16] []<|jn ((wj4x3 v3) h)) λh30 h=> go [] []<|dn h (i1 iE)
theorem wj4x2 {v2 v3 v4 x0 r Γ} (h:(j4x2 v2 v3 v4 x0)=some r):Jn prog f4 Γ (Den.Ends prog f4 (R4 r)) 79 ⟨196,[(1,.ptr (Zo x0)),(3,.sl false (v2.map Z1)),(4,.sl false (v3.map Zk)),(5,.sl false (v4.map Z1))],[]⟩:= so<|go [] []<|bd h λq1 e20 h=>lp e20 (wl4x1 v3 x0)<|match q1,h with | .inl q0,h=>j1<|(qe<|goN [] []<|bd h λq7 e80 h=>lp e80 wl4x2<|match q7,h with | .inl q6,h=>j1<|(qe<|bd h λv77 e81 h=>goN [] [rg 25 [(0,k (w9 e81))]]<|rt h) | .inr y2,h=>j2<|(qr h)) | .inr y3,h=>j2<|(qr h)
theorem wj4x1 {x0 r Γ} (h:(j4x1 x0)=some r):Jn prog f4 Γ (Den.Ends prog f4 (R4 r)) 11 ⟨196,[(1,.ptr (Zo x0))],[]⟩:= so<|bd h λv2 e2 h=>bd h λv3 e3 h=>bd h λv4 e4 h=>sp h (λh2 h=>go [] [rg 3 [(1,k (w20 e2)),(3,k (w18 e3)),(5,k (w15 e4))],rg 4 [(1,ln v2),(4,ln x0.Z2),(5,kb h2)]]<|bT rfl<|go [] []<|rt h) λh2 h=> go [] [rg 3 [(1,k (w20 e2)),(3,k (w18 e3)),(5,k (w15 e4))],rg 4 [(1,ln v2),(4,ln x0.Z2),(5,kb h2),(8,ln v3),(11,ln x0.Z2)]]<|br h (λh3 h=>go [] []<|rt h) λh3 h=> go [6] []<|jn (wj4x2 h)
theorem w4 {x0 r} (h:Zjq x0=some r):Zb prog 4 [.agg (Zo x0)] (R4 r):= cs f4<|bd h λv0 e0 h=>sp h (λh0 h=>go [] [rg 0 [(0,bo)],rg 1 ((1,k (w7 e0))::gA h0 4 3 [(7,py h0)])]<|bT rfl<|go [2] []<|jn (wj4x4 h)) λh0 h=> bd h λv1 e1 h=>go [] [rg 0 [(0,bo)],rg 1 [(1,k (w7 e0)),(4,gw h0 g0),(5,gw h0 (k (w8 e1))),(6,gw h0 g0),(7,pn h0)]]<|br h (λh1 h=>go [2] []<|jn (wj4x4 h)) λh1 h=> go [3] []<|jn (wj4x1 h)
end Go.Proofs
namespace Go.Proofs
open Go.Den Go.Tot
theorem Jp.at {m:Z4} {l:List Int} (h:Jp m l) {n v:Int} (h1:1≤n) (hv:l[(n - 1).toNat]?=some v):0≤v∧v≤4∧∀ k,1≤k→k≤4→(k≤v↔(U7 m).Re k n):=by
 have:=h.lev (n - 1) v (by omega) hv
 rwa [show n - 1+1=n by omega] at this
theorem loop4x1 {m:Z4} (hg:MG m) {l:List Int} (hl:Jp m l):Ok (Z7 (l4x1 l (Qy m)) Z8 0) λq=>q=.inl ():=by
 have hlen:=hg.len
 have hro:=hg.roots_len
 have hll:=hl.len
 refine li (Qy m).length (λt h0 h1=>?_)
 unfold l4x1
 refine brD (λhlt=>?_) λ_=>di rfl
 obtain⟨r,er,hr,hi⟩:=gri (l:=Qy m) h0 hlt
 have hrr:=(hg.root_is hr).range
 rw[er]
 simp only[Option.bind_some]
 rw[Ub (n:=r - 1) (by omega) (by omega),Ub (n:=t - 1) (by omega) (by omega),wrS h0 (by omega)]
 refine brD (λh=>by omega) λ_=>brD (λh=>by omega) λ_=>?_
 refine bd gri λv ⟨_,hv⟩=>brN (λne=>?_) λ_=>brD (λhp=>?_) λ_=>ni (by omega) (by omega)
 ·obtain⟨a,b,c⟩:=hl.at hrr.1 hv
  have:=(c 4 (by decide) (by decide)).2 (.root hr)
  exact absurd (by omega) ne
 ·obtain⟨r',er',_,hi'⟩:=gri (l:=Qy m) (i:=t - 1) (by omega) (by omega)
  rw[er']
  simp only[Option.bind_some]
  have hsort:r'<r:=by
   have:=List.pairwise_iff_getElem.1 (Zhb (marks m) m.Z2 1) (t - 1).toNat t.toNat (List.getElem?_eq_some_iff.1 hi').1 (List.getElem?_eq_some_iff.1 hi).1 (by omega)
   have e1:=(List.getElem?_eq_some_iff.1 hi').2
   have e2:=(List.getElem?_eq_some_iff.1 hi).2
   rw[← e1,← e2]; exact this
  exact brD (λh=>by omega) λ_=>ni (by omega) (by omega)
theorem loop4x3 {m:Z4} (hg:MG m) {l:List Int} (hl:Jp m l) {t v:Int} (h0:0≤t) (hv:l[t.toNat]?=some v):Ok (Z7 (l4x3 t l (V8 m (t+1))) Z8 0) λq=>q=.inl ():=by
 have hlen:=hg.len
 have hrl:=hg.refs_len (t+1)
 have hll:=hl.len
 have htl:=(List.getElem?_eq_some_iff.1 hv).1
 obtain⟨a,b,c⟩:=hl.lev t v h0 hv
 refine li (V8 m (t+1)).length (λs s0 s1=>?_)
 unfold l4x3
 refine brD (λhlt=>?_) λ_=>di rfl
 obtain⟨r,er,hr,hi⟩:=gri (l:=V8 m (t+1)) s0 hlt
 have hrr:=(hg.refs_is hr).range
 rw[er]
 simp only[Option.bind_some]
 have hg2:Z5 l t=some v:=by unfold Z5; rw[if_pos h0]; exact hv
 rw[hg2,Ub (n:=r - 1) (by omega) (by omega),wrS s0 (by omega)]
 simp only[Option.bind_some]
 refine brD (λh=>by omega) λ_=>brD (λh=>by omega) λ_=>?_
 refine bd gri λu ⟨_,hu⟩=>?_
 obtain⟨a',b',c'⟩:=hl.at hrr.1 hu
 have hle:v≤u:=by
  by_cases h:1≤v
  ·exact(c' v h b).2 (.ref ((c v h b).1 (Int.le_refl _)) hr)
  ·omega
 exact brD (λh=>by omega) λ_=>ni (by omega) (by omega)
theorem loop4x2 {m:Z4} (hg:MG m) {l:List Int} (hl:Jp m l):Ok (Z7 (l4x2 l (l.map (· ==4)) m) Z8 0) λq=>q=.inl ():=by
 have hlen:=hg.len
 have hll:=hl.len
 refine li l.length (λt h0 h1=>?_)
 unfold l4x2
 refine brD (λhlt=>?_) λ_=>di rfl
 obtain⟨v,ev,_,hv⟩:=gri (l:=l) h0 hlt
 obtain⟨a,b,c⟩:=hl.lev t v h0 hv
 have es:Z5 (l.map (· ==4)) t=some (v==4):=by unfold Z5; rw[if_pos h0,List.getElem?_map,hv]; rfl
 have hj:Ok (j4x3 t l m) (Si l.length (λq:Unit⊕Bool=>q=.inl ()) t):=by
  unfold j4x3
  rw[Option.bind_some,wrS h0 (by omega),hg.refsP,Option.bind_some]
  refine bd (loop4x3 hg hl h0 hv) λq hq=>?_
  subst hq
  dsimp only
  rw[Option.bind_some,hg.toR,Option.bind_some]
  refine brN (λht=>?_) λ_=>ni (by omega) (by omega)
  have htr:=(hg.to_is ht).range
  refine bd wr λk hk=>?_
  subst hk
  refine bd gri λu ⟨_,hu⟩=>?_
  rw[ev,Option.bind_some,Option.bind_some,hg.strP,Option.bind_some,Option.bind_some]
  obtain⟨a',b',c'⟩:=hl.at htr.1 hu
  have hs:=Ztp m (t+1)
  have hle:(if V3 m (t+1)<v then V3 m (t+1) else v)≤u:=by
   have key:∀ k:Int,1≤k→k≤v→k≤V3 m (t+1)→k≤u:=λk k1 k2 k3=>(c' k k1 (by omega)).2 (.to ((c k k1 (by omega)).1 k2) k3 ht)
   split
   ·by_cases h:1≤V3 m (t+1)
    ·exact key _ h (by omega) (Int.le_refl _)
    ·omega
   ·by_cases h:1≤v
    ·exact key _ h (Int.le_refl _) (by omega)
    ·omega
  exact brD (λh=>by omega) λ_=>ni (by omega) (by omega)
 rw[ev,es]
 simp only[Option.bind_some]
 refine brD (λh=>by omega) λ_=>brD (λh=>by omega) λ_=>?_
 rw[if_neg (by simp)]
 refine brD (λhp=>?_) λ_=>hj
 have his:=hg.re_is ((c 1 (by decide) (by decide)).1 (by omega))
 obtain⟨o,ho⟩:=his
 obtain⟨_,h2,h3⟩:=Jb.1 ho
 have eg:Z5 m.Z2 t=some o:=by unfold Z5; rw[if_pos h0,show t.toNat=(t+1 - 1).toNat by omega]; exact h2
 rw[eg,Option.bind_some,if_neg (by simpa using h3)]
 exact hj
theorem Y11 (m:Z4) (h:Vr m):Zjq m=some true:=by
 have aw:j4x4=some true:=by unfold j4x4; rw[Lj]; rfl
 unfold Zjq
 obtain⟨b,e,_⟩:=Ze3 m
 obtain⟨c,e2,hc⟩:=Z8x m h
 rw[e,Option.bind_some,e2,Option.bind_some]
 cases b with
 | false=>exact aw
 | true=>
  cases c with
  | false=>exact aw
  | true=>
   have hg:=Mx.mg h (hc rfl)
   obtain⟨l,l1,l2,l3,l4⟩:=hg.lev_same
   have hl:=Jp.of l3 l4
   rw[if_neg (by simp),if_neg (by simp)]
   unfold j4x1
   rw[l1,Option.bind_some,hg.strongP l1 l3,Option.bind_some,hg.rootsP,Option.bind_some,if_neg (by rw[l3]; simp),if_neg (by rw[List.length_map,l3]; simp)]
   unfold j4x2
   obtain⟨q,eq,hq⟩:=loop4x1 hg hl
   obtain⟨q',eq',hq'⟩:=loop4x2 hg hl
   subst hq; subst hq'
   rw[eq]
   dsimp only[Option.bind_some]
   rw[eq']
   dsimp only[Option.bind_some]
   rw[Lj]; rfl
end Go.Proofs
