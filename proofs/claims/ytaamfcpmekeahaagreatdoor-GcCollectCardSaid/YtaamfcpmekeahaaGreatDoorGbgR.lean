/-
  Marks that are not empty as rows with a head: so it is seen that they stand where they stood. No condition.
-/
import Derived.Test.YtaamfcpmekeahaaGreatDoorGbg7
set_option linter.unusedVariables false
set_option linter.unusedSimpArgs false
namespace Go.Proofs
open Go.Den Go.Den.W Go.RowKit
def cR (l:List Bool):List (List D):=Zu (l.headD false)::l.tail.map Zu
theorem Z3v {l:List Bool} (h:l≠[]):cR l=l.map Zu:=by
 cases l with
 | nil=>exact absurd rfl h
 | cons b l=>rfl
theorem cRl {a b:List Bool} (h:b.length=a.length):(cR a).length=(cR b).length:=by
 unfold cR; simp[h]
theorem Zbg {l:List Bool} {j:Nat} {x:Bool} (h:l[j]?=some x):l≠[] :=λe=>by subst e; cases h
def iaC (b:Nat) {l:List Bool} {i:Int} {j:Nat} (h:X7 i l.length=some j):GT:=
 GT.of { ans:= .val (.lptr b j 0) } (p:=0≤i∧i<(((cR l).length:Nat):Int)∧((0:Nat):Int)+i=j) (by
  have:=Ka h rfl
  rw[Z3v (λe=>by subst e; have:=this.2.1; simp at this; omega),List.length_map]; exact this)
def lbC {l:List Bool} {j:Nat} {x:Bool} (h:l[j]?=some x):GT:=GT.of { ans:= .row (Zu x) } (p:=(cR l)[j]?=some (Zu x)) (by rw[Z3v (Zbg h)]; exact Mc _ h)
def stC {l:List Bool} {j:Nat} {x:Bool} (h:l[j]?=some x) (y:Bool):GT:=
 GT.of { row:=some (Zu x),rows:=some (cR (l.set j y)) }
  (p:=0≤j∧(cR l)[j]?=some (Zu x)∧0+[D.bool y].length≤(Zu x).length∧(cR l).set j (Qu (Zu x) 0 [.bool y])=cR (l.set j y))
  ⟨Nat.zero_le _,by rw[Z3v (Zbg h)]; exact Mc _ h,Nat.le_refl _,by
   have a:l.set j y≠[] :=λe=>Zbg h (by simpa using e)
   rw[Z3v (Zbg h),Z3v a]; exact setM Zu l j y⟩
end Go.Proofs
namespace Go.Proofs
open IntKind (wrap)
open Tryz
open Go.Den Go.Den.W
def B84 (a:List Bool):List Blk:=[{ sz:=1,rows:=(cR a),frz:=0,pure:=true,pin:=some 0 }]
def R84 (a:List Bool):D:= .tup []
def Kc (a:List Bool) (c:Int):Option (List Bool):= if decide (c>0) then (some (wrap .i64 (c - 1))).bind λd=> (X7 d a.length).bind λb=> (a[b]?).bind λe=> some (a.set b true) else some a
theorem w84 {a b r} (h:Kc a b=some r):Vs prog 84 [.lsl 0 0 ((cR a).length),dI b] [{ sz:=1,rows:=(cR a),frz:=0,pure:=true,pin:=some 0 }] (R84 r) (B84 r):= csO f84 (m:=1) (keep:=[true])<|Z2<|br h (λf h=>bd h λi c h=>bd h λg d h=>bd h λj e h=>Z0 1 [(2,n c),(3,iaC 0 d),(4,stC e true)]<|rtO h (.tup []) [{ sz:=1,rows:=(cR (a.set g true)),frz:=0,pure:=true,pin:=some 0 }] trivial rfl) λf h=> Z2<|rtO h (.tup []) [{ sz:=1,rows:=(cR a),frz:=0,pure:=true,pin:=some 0 }] trivial rfl
theorem wn84 {a b r} (h:Kc a b=some r):r.length=a.length:=by
 unfold Kc at h
 exact sp h (λ_ h=>W.bd h λ_ _ h=>W.bd h λ_ _ h=>W.bd h λ_ _ h=>by cases h; exact List.length_set) λ_ h=>by cases h; rfl
def B85 (a:List Bool):List Blk:=[{ sz:=1,rows:=(cR a),frz:=0,pure:=true,pin:=some 0 }]
def R85 (a:List Bool):D:= .tup []
def Z1f (b:List Zf) (t0:Int×(List Bool)):Option (Ctl (Int×(List Bool)) (List Bool)):= if decide (t0.1<(b.length:Int)) then (Z4 b t0.1).bind λa=> if a.Zj==3 then (Kc t0.2 a.f_N).bind λc=> (some (wrap .i64 (t0.1+1))).bind λd=> some (.next (d,c)) else (some (wrap .i64 (t0.1+1))).bind λe=> some (.next (e,t0.2)) else some (.done (t0.2))
def Z0k (a:List Bool) (b:List Zf):Option (List Bool):= (Z8 (Z1f b) Zb (0,a)).bind λq0=> some q0
def Zyu (a:List Zf):(Int×(List Bool))→SL:= λt0=>⟨20,[(0,.lsl 0 0 ((cR t0.2).length)),(6,slF Y8 a),(7,dI (a.length:Int)),(8,dI t0.1)],[(0,{ sz:=1,rows:=(cR t0.2),frz:=0,pure:=true,pin:=some 0 })]⟩
def J85x1:JT (List Bool):= je 0 λq0:(List Bool)=>⟨20,[],[(0,{ sz:=1,rows:=(cR q0),frz:=0,pure:=true,pin:=some 0 })]⟩
theorem wl85x1 {a t0 r Γ} (h:(Z1f a) t0=some r):A prog Γ (lpC f85 5) [] (Rd (Zyu a) J85x1 r) ((Zyu a) t0).s:= Z2<|br h (λg h=>bd h λj d h=>Z0 2 [(0,ix d)]<|br h (λi h=>bd h λc b h=>go [5] [rg 4 [(3,ko [0] (w84 b))]]<|nm (congrArg (λnn:Nat=>(⟨20,[(0,.lsl 0 0 nn),(6,slF Y8 a),(7,dI (a.length:Int)),(8,dI t0.1)],[(0,{ sz:=1,rows:=(cR c),frz:=0,pure:=true,pin:=some 0 })]⟩:SL)) (cRl (wn84 b):(cR t0.2).length=(cR c).length))<|so<|bd h λk e h=>Z0 5 [(0,n e)]<|nx h) λi h=> bd h λl f h=>Z0 5 [(0,n f)]<|nx h) λg h=> Z2<|dn h (iE)
theorem w85 {a b r} (h:Z0k a b=some r):Vs prog 85 [.lsl 0 0 ((cR a).length),slF Y8 b] [{ sz:=1,rows:=(cR a),frz:=0,pure:=true,pin:=some 0 }] (R85 r) (B85 r):= csO f85 (m:=1) (keep:=[true])<|Z0 0 [(1,ln b)]<|bd h λq0 c h=>lp c wl85x1<|qe<|goN [] []<|rtO h (.tup []) [{ sz:=1,rows:=(cR q0),frz:=0,pure:=true,pin:=some 0 }] trivial rfl
theorem wnl85 (b):∀ (n:Nat) (t:Int×List Bool) {r},Z8 (Z1f b) n t=some r→r.length=t.2.length
 | 0,t,r,h=>by cases h
 | n + 1,t,r,h=>by
  unfold Z8 at h
  cases a:Z1f b t with
  | none=>rw[a] at h; cases h
  | some x=>
   rw[a] at h
   unfold Z1f at a
   refine sp a (λ_ a=>W.bd a λe _ a=>sp a (λ_ a=>W.bd a λf c a=>W.bd a λg _ a=>?_) λ_ a=>W.bd a λd _ a=>?_) λ_ a=>?_
   ·cases a; rw[wnl85 b n _ h]; exact wn84 c
   ·cases a; exact wnl85 b n (d,t.2) h
   ·cases a; cases h; rfl
theorem wn85 {a b r} (h:Z0k a b=some r):r.length=a.length:=W.bd h λq0 e h=>by cases h; exact wnl85 b _ _ e
def R54 (a:(List Int)):D:=(slF Z5 a)
def Z8w (b:Xu) (t2:Int×(List Bool)):Option (Ctl (Int×(List Bool)) (List Bool)):= if decide (t2.1<(b.Yu.length:Int)) then (Z4 b.Yu t2.1).bind λa=> (Kc t2.2 a.Vo).bind λc=> (Z0k c a.Y1).bind λd=> (Z0k d a.Y5).bind λe=> (some (wrap .i64 (t2.1+1))).bind λf=> some (.next (f,e)) else some (.done (t2.2))
def Z8v (g:Z6) (t0:Int×(List Bool)):Option (Ctl (Int×(List Bool)) (List Bool)):= if decide (t0.1<(g.Y9.length:Int)) then (Z4 g.Y9 t0.1).bind λa=> (Kc t0.2 a.Xj).bind λb=> (Kc b a.V2).bind λc=> (Kc c a.Vn).bind λd=> (Z0k d [a.Qr]).bind λe=> (Z8 (Z8w a) Zb (0,e)).bind λh=> (some (wrap .i64 (t0.1+1))).bind λf=> some (.next (f,h)) else some (.done (t0.2))
def Z4k (d:Z6) (t3:Int×(List Bool)):Option (Ctl (Int×(List Bool)) (List Bool)):= if decide (t3.1<(d.Xb.length:Int)) then (Z4 d.Xb t3.1).bind λa=> (Z0k t3.2 a.Qt).bind λb=> (some (wrap .i64 (t3.1+1))).bind λc=> some (.next (c,b)) else some (.done (t3.2))
def Z4l (d:Z6) (t4:Int×(List Bool)):Option (Ctl (Int×(List Bool)) (List Bool)):= if decide (t4.1<(d.X1.length:Int)) then (Z4 d.X1 t4.1).bind λa=> (Kc t4.2 a.Xj).bind λb=> (some (wrap .i64 (t4.1+1))).bind λc=> some (.next (c,b)) else some (.done (t4.2))
def Z84 (b:Int×(List Int)):Option (Ctl (Int×(List Int)) (List Int)):= (some (wrap .i64 (b.1+1))).bind λa=> (Yp 8 (b.2++[a]).length).bind λd=> (some (wrap .i64 (b.1+1))).bind λc=> some (.next (c,(b.2++[a])))
def Z8x (f:(List Bool)) (g:Z6) (a:Int×(List Int)):Option (Ctl (Int×(List Int)) (List Int)):= if decide (a.1<(g.Z7.length:Int)) then (Z4 g.Z7 a.1).bind λb=> (X7 a.1 f.length).bind λc=> (f[c]?).bind λd=> if d then (Z84 a) else if b.Xr !=0 then (Z84 a) else if decide ((b.Xk.length:Int)>0) then (Z84 a) else (some (wrap .i64 (a.1+1))).bind λe=> some (.next (e,a.2)) else some (.done (a.2))
def Zfa (a:Z6):Option (List Int):= (W2 1 (a.Z7.length:Int) (a.Z7.length:Int)).bind λe=> (Z8 (Z8v a) Zb (0,(List.replicate (a.Z7.length:Int).toNat false))).bind λq4=> (Z8 (Z4k a) Zb (0,q4)).bind λc=> (Z8 (Z4l a) Zb (0,c)).bind λd=> (Z8 (Z8x d a) Zb (0,([]:List Int))).bind λb=> some b
def Zy2 (t0:Int×(List Bool)) (a:Xu) (b:Z6):(Int×(List Bool))→SL:= λt2=>⟨118,[(1,.ptr (Zr b)),(3,.lsl 3 0 ((cR t2.2).length)),(20,slF X9 b.Y9),(21,dI (b.Y9.length:Int)),(22,dI t0.1),(44,slF Vg a.Yu),(45,dI (a.Yu.length:Int)),(46,dI t2.1)],[(3,Zd 1 (cR t2.2))]⟩
def J54x2 (t0:Int×(List Bool)) (a:Z6):JT (List Bool):= je 2 λb:(List Bool)=>⟨118,[(1,.ptr (Zr a)),(3,.lsl 3 0 ((cR b).length)),(20,slF X9 a.Y9),(21,dI (a.Y9.length:Int)),(22,dI t0.1)],[(3,Zd 1 (cR b))]⟩
theorem wl54x2 (t0:Int×(List Bool)) (b:Z6) {a t2 r Γ} (h:(Z8w a) t2=some r):A prog Γ (lpC f54 195787) [] (Rd (Zy2 t0 a b) (J54x2 t0 b) r) ((Zy2 t0 a b) t2).s:= Z2<|br h (λm h=>bd h λi k h=>bd h λc e h=>go [13] [rg 11 [(0,ix k)],rg 12 [(3,ko [3] (w84 e))]]<|nm (congrArg (λnn:Nat=>(⟨118,[(1,.ptr (Zr b)),(3,.lsl 3 0 nn),(7,.lptr 7 0 0),(20,slF X9 b.Y9),(21,dI (b.Y9.length:Int)),(22,dI t0.1),(44,slF Vg a.Yu),(45,dI (a.Yu.length:Int)),(46,dI t2.1)],[(3,Zd 1 (cR c)),(7,Zc 8 [Vg i])]⟩:SL)) (cRl (wn84 e):(cR t2.2).length=(cR c).length))<|so<|bd h λd f h=>go [14] [rg 13 [(3,ko [3] (w85 f))]]<|nm (congrArg (λnn:Nat=>(⟨118,[(1,.ptr (Zr b)),(3,.lsl 3 0 nn),(7,.lptr 7 0 0),(20,slF X9 b.Y9),(21,dI (b.Y9.length:Int)),(22,dI t0.1),(44,slF Vg a.Yu),(45,dI (a.Yu.length:Int)),(46,dI t2.1)],[(3,Zd 1 (cR d)),(7,Zc 8 [Vg i])]⟩:SL)) (cRl (wn85 f):(cR c).length=(cR d).length))<|so<|bd h λj g h=>go [15] [rg 14 [(3,ko [3] (w85 g))]]<|nm (congrArg (λnn:Nat=>(⟨118,[(1,.ptr (Zr b)),(3,.lsl 3 0 nn),(20,slF X9 b.Y9),(21,dI (b.Y9.length:Int)),(22,dI t0.1),(44,slF Vg a.Yu),(45,dI (a.Yu.length:Int)),(46,dI t2.1)],[(3,Zd 1 (cR j))]⟩:SL)) (cRl (wn85 g):(cR d).length=(cR j).length))<|so<|bd h λo l h=>Z0 15 [(0,n l)]<|nx h) λm h=> Z2<|dn h (iE)
def Zy1 (a:Z6):(Int×(List Bool))→SL:= λt0=>⟨118,[(1,.ptr (Zr a)),(3,.lsl 3 0 ((cR t0.2).length)),(20,slF X9 a.Y9),(21,dI (a.Y9.length:Int)),(22,dI t0.1)],[(3,Zd 1 (cR t0.2))]⟩
def J54x1 (a:Z6):JT (List Bool):= je 0 λq4:(List Bool)=>⟨118,[(1,.ptr (Zr a)),(3,.lsl 3 0 ((cR q4).length))],[(3,Zd 1 (cR q4))]⟩
theorem wl54x1 {a t0 r Γ} (h:(Z8v a) t0=some r):A prog Γ (lpC f54 43) [] (Rd (Zy1 a) (J54x1 a) r) ((Zy1 a) t0).s:= Z2<|br h (λp h=>bd h λb l h=>bd h λc f h=>go [6] [rg 4 [(0,ix l)],rg 5 [(3,ko [3] (w84 f))]]<|nm (congrArg (λnn:Nat=>(⟨118,[(1,.ptr (Zr a)),(3,.lsl 3 0 nn),(5,.lptr 5 0 0),(20,slF X9 a.Y9),(21,dI (a.Y9.length:Int)),(22,dI t0.1)],[(3,Zd 1 (cR c)),(5,Zc 8 [X9 b])]⟩:SL)) (cRl (wn84 f):(cR t0.2).length=(cR c).length))<|so<|bd h λd g h=>go [7] [rg 6 [(3,ko [3] (w84 g))]]<|nm (congrArg (λnn:Nat=>(⟨118,[(1,.ptr (Zr a)),(3,.lsl 3 0 nn),(5,.lptr 5 0 0),(20,slF X9 a.Y9),(21,dI (a.Y9.length:Int)),(22,dI t0.1)],[(3,Zd 1 (cR d)),(5,Zc 8 [X9 b])]⟩:SL)) (cRl (wn84 g):(cR c).length=(cR d).length))<|so<|bd h λe i h=>go [8] [rg 7 [(3,ko [3] (w84 i))]]<|nm (congrArg (λnn:Nat=>(⟨118,[(1,.ptr (Zr a)),(3,.lsl 3 0 nn),(5,.lptr 5 0 0),(20,slF X9 a.Y9),(21,dI (a.Y9.length:Int)),(22,dI t0.1)],[(3,Zd 1 (cR e)),(5,Zc 8 [X9 b])]⟩:SL)) (cRl (wn84 i):(cR d).length=(cR e).length))<|so<|bd h λk j h=>go [9] [rg 8 [(3,br0 1 2),(4,ko [3] (w85 j))]]<|nm (congrArg (λnn:Nat=>(⟨118,[(1,.ptr (Zr a)),(3,.lsl 3 0 nn),(5,.lptr 5 0 0),(20,slF X9 a.Y9),(21,dI (a.Y9.length:Int)),(22,dI t0.1)],[(3,Zd 1 (cR k)),(5,Zc 8 [X9 b])]⟩:SL)) (cRl (wn85 j):(cR e).length=(cR k).length))<|so<|Z0 9 [(2,ln b.Yu)]<|bd h λt m h=>lp m (wl54x2 t0 a)<|qe<|bd h λq o h=>goN [] [rg 16 [(0,n o)]]<|nx h) λp h=> Z2<|dn h (iE)
def Zy3 (a:Z6):(Int×(List Bool))→SL:= λt3=>⟨118,[(1,.ptr (Zr a)),(3,.lsl 3 0 ((cR t3.2).length)),(65,slF Q0 a.Xb),(66,dI (a.Xb.length:Int)),(67,dI t3.1)],[(3,Zd 1 (cR t3.2))]⟩
def J54x3 (b:Z6):JT (List Bool):= je 4 λa:(List Bool)=>⟨118,[(1,.ptr (Zr b)),(3,.lsl 3 0 ((cR a).length))],[(3,Zd 1 (cR a))]⟩
theorem wl54x3 {a t3 r Γ} (h:(Z4k a) t3=some r):A prog Γ (lpC f54 87) [] (Rd (Zy3 a) (J54x3 a) r) ((Zy3 a) t3).s:= Z2<|br h (λf h=>bd h λg d h=>bd h λc b h=>go [21] [rg 19 [(0,ix d)],rg 20 [(3,ko [3] (w85 b))]]<|nm (congrArg (λnn:Nat=>(⟨118,[(1,.ptr (Zr a)),(3,.lsl 3 0 nn),(65,slF Q0 a.Xb),(66,dI (a.Xb.length:Int)),(67,dI t3.1)],[(3,Zd 1 (cR c))]⟩:SL)) (cRl (wn85 b):(cR t3.2).length=(cR c).length))<|so<|bd h λi e h=>Z0 21 [(0,n e)]<|nx h) λf h=> Z2<|dn h (iE)
def Zy4 (a:Z6):(Int×(List Bool))→SL:= λt4=>⟨118,[(1,.ptr (Zr a)),(3,.lsl 3 0 ((cR t4.2).length)),(77,slF Qk a.X1),(78,dI (a.X1.length:Int)),(79,dI t4.1)],[(3,Zd 1 (cR t4.2))]⟩
def J54x4 (b:Z6):JT (List Bool):= je 6 λa:(List Bool)=>⟨118,[(1,.ptr (Zr b)),(3,.lsl 3 0 ((cR a).length))],[(3,Zd 1 (cR a))]⟩
theorem wl54x4 {a t4 r Γ} (h:(Z4l a) t4=some r):A prog Γ (lpC f54 175) [] (Rd (Zy4 a) (J54x4 a) r) ((Zy4 a) t4).s:= Z2<|br h (λf h=>bd h λg d h=>bd h λc b h=>go [26] [rg 24 [(0,ix d)],rg 25 [(3,ko [3] (w84 b))]]<|nm (congrArg (λnn:Nat=>(⟨118,[(1,.ptr (Zr a)),(3,.lsl 3 0 nn),(77,slF Qk a.X1),(78,dI (a.X1.length:Int)),(79,dI t4.1)],[(3,Zd 1 (cR c))]⟩:SL)) (cRl (wn84 b):(cR t4.2).length=(cR c).length))<|so<|bd h λi e h=>Z0 26 [(0,n e)]<|nx h) λf h=> Z2<|dn h (iE)
def Zpc (b:(List Bool)) (c:Z6):(Int×(List Int))→SL:= λa=>⟨118,[(3,.lsl 3 0 ((cR b).length)),(12,.lsl 12 0 ((a.2.map Z5).length)),(89,slF Ya c.Z7),(90,dI (c.Z7.length:Int)),(91,dI a.1)],[(3,Zd 1 (cR b)),(12,Zd 1 (a.2.map Z5))]⟩
def J54x5:JT (List Int):= je 8 λa:(List Int)=>⟨118,[(12,.lsl 12 0 ((a.map Z5).length))],[(12,Zd 1 (a.map Z5))]⟩
theorem Zq1 (e:(List Bool)) (f:Z6) {a r Γ} (h:(Z84 a)=some r):Jn prog f54 Γ (Rd (Zpc e f) J54x5 r) 183487 ⟨118,[(3,.lsl 3 0 ((cR e).length)),(12,.lsl 12 0 ((a.2.map Z5).length)),(13,dI a.1),(89,slF Ya f.Z7),(90,dI (f.Z7.length:Int)),(91,dI a.1)],[(3,Zd 1 (cR e)),(12,Zd 1 (a.2.map Z5))]⟩:= so<|bd h λg b h=>bd h λi c h=>bd h λj d h=>go [] [rg 32 [(2,n b),(3,br0 1 0),(4,ap c)],rg 33 [(0,n d)]]<|nx h
theorem wl54x5 {c d m r Γ} (h:(Z8x c d) m=some r):A prog Γ (lpC f54 703) [] (Rd (Zpc c d) J54x5 r) ((Zpc c d) m).s:= Z2 <| br h (λj h=>bd h λl e h=>go [31] [rg 30 [(1,ix e)]]<|po<|bd h λo f h=>bd h λp g h=>pr 5 [(2,iaC 3 f),(3,lbC g)]<|sp h (λb h=>pr 10 (gA b 5 3 [(8,py b)])<|Z9<|bT rfl<|go [32] []<|jn ((Zq1 c d) h)) λb h=> pr 5 (gC b 5 3 [(8,pn b)])<|sp h (λa h=>pr 5 (gA a 10 4 [(14,py a)])<|Z9<|bT rfl<|go [32] []<|jn ((Zq1 c d) h)) λa h=> pr 5 (gC a 10 2 [(12,gw a (ln l.Xk)),(13,gw a g0),(14,pn a)])<|Z9<|br h (λk h=>go [32] []<|jn ((Zq1 c d) h)) λk h=> bd h λq i h=>Z0 33 [(0,n i)]<|nx h) λj h=> Z2<|dn h (iE)
theorem hN (a:Z6) (h:a.Z7≠[]):(List.replicate (a.Z7.length:Int).toNat false)≠[] :=λe=>h (by have:=congrArg List.length e; simp at this; exact this)
theorem w54n {a r} (h:Zfa a=some r) (g:a.Z7≠[]):Zi prog 54 [.agg (Zr a)] (R54 r):= cs f54<|bd h λl i h=>go [] [rg 0 [(0,bo)],rg 1 [(2,ln a.Z7),(3,mk false i)],rg 2 [(2,ln a.Y9)]]<|bd h λq4 c h=>nm (congrArg (λrr:List (List D)=>(⟨118,[(1,.ptr (Zr a)),(3,.lsl 18 0 (rr.length)),(20,slF X9 a.Y9),(21,dI (a.Y9.length:Int)),(22,dI 0)],[(18,Zd 1 (rr))]⟩:SL)) (Z3v (hN a g)).symm)<|lp (ps:=[(18,3)]) c wl54x1<|qe<|goN [] [rg 17 [(2,ln a.Xb)]]<|bd h λj d h=>lp d wl54x3<|qe<|goN [] [rg 22 [(2,ln a.X1)]]<|bd h λk e h=>lp e wl54x4<|qe<|goN [] [rg 28 [(2,ln a.Z7)]]<|bd h λb f h=>lp (cv:=[.tmp 12 12 1]) f wl54x5<|qe<|goN [] []<|rtB h (rw_ b) (a2 (rpI b) trivial) (by simp only[rwE] <;> kernel_rfl)
def R84z (a:Unit):D:= .tup []
def Z1g (b:List Bool) (a:Int):Option (Unit):= if decide (a>0) then none else some ()
theorem w84z {a b r} (h:Z1g a b=some r):Zi prog 84 [slF Zu a,dI b] (R84z r):= cs f84<|Z2<|br h (λc h=>noneE h) λc h=> Z3 h
def R85z (a:Unit):D:= .tup []
def Z97 (e:List Bool) (b:List Zf) (t0:Int):Option (Ctl (Int) (Unit)):= if decide (t0<(b.length:Int)) then (Z4 b t0).bind λa=> if a.Zj==3 then (Z1g e a.f_N).bind λf=> (some (wrap .i64 (t0+1))).bind λc=> some (.next c) else (some (wrap .i64 (t0+1))).bind λd=> some (.next d) else some (.done (()))
def Z2w (a:List Bool) (b:List Zf):Option (Unit):= (Z8 (Z97 a b) Zb 0).bind λq0=> some ()
def Zyv (b:List Bool) (a:List Zf):Int→SL:= λt0=>⟨20,[(0,slF Zu b),(6,slF Y8 a),(7,dI (a.length:Int)),(8,dI t0)],[]⟩
def J85zx1:JT Unit:= je 0 λq0:Unit=>⟨20,[],[]⟩
theorem wl85zx1 {a b t0 r Γ} (h:(Z97 a b) t0=some r):A prog Γ (lpC f85 5) [] (Rd (Zyv a b) J85zx1 r) ((Zyv a b) t0).s:= Z2<|br h (λg h=>bd h λj c h=>Z0 2 [(0,ix c)]<|br h (λi h=>bd h λl d h=>bd h λm e h=>go [] [rg 4 [(3,k (w84z d))],rg 5 [(0,n e)]]<|nx h) λi h=> bd h λo f h=>Z0 5 [(0,n f)]<|nx h) λg h=> Z2<|dn h (iE)
theorem w85z {b a r} (h:Z2w b a=some r):Zi prog 85 [slF Zu b,slF Y8 a] (R85z r):= cs f85<|Z0 0 [(1,ln a)]<|bd h λq0 c h=>lp c wl85zx1<|qe<|Xs h
def R54z (a:(List Int)):D:=(slF Z5 a)
def Z8z (b:Xu) (d:Z6) (t2:Int):Option (Ctl (Int) (Unit)):= if decide (t2<(b.Yu.length:Int)) then (Z4 b.Yu t2).bind λa=> (Z1g (List.replicate (d.Z7.length:Int).toNat false) a.Vo).bind λe=> (Z2w (List.replicate (d.Z7.length:Int).toNat false) a.Y1).bind λf=> (Z2w (List.replicate (d.Z7.length:Int).toNat false) a.Y5).bind λg=> (some (wrap .i64 (t2+1))).bind λc=> some (.next c) else some (.done (()))
def Z8y (b:Z6) (t0:Int):Option (Ctl (Int) (Unit)):= if decide (t0<(b.Y9.length:Int)) then (Z4 b.Y9 t0).bind λa=> (Z1g (List.replicate (b.Z7.length:Int).toNat false) a.Xj).bind λd=> (Z1g (List.replicate (b.Z7.length:Int).toNat false) a.V2).bind λe=> (Z1g (List.replicate (b.Z7.length:Int).toNat false) a.Vn).bind λf=> (Z2w (List.replicate (b.Z7.length:Int).toNat false) [a.Qr]).bind λg=> (Z8 (Z8z a b) Zb 0).bind λh=> (some (wrap .i64 (t0+1))).bind λc=> some (.next c) else some (.done (()))
def Z90 (c:Z6) (t3:Int):Option (Ctl (Int) (Unit)):= if decide (t3<(c.Xb.length:Int)) then (Z4 c.Xb t3).bind λa=> (Z2w (List.replicate (c.Z7.length:Int).toNat false) a.Qt).bind λd=> (some (wrap .i64 (t3+1))).bind λb=> some (.next b) else some (.done (()))
def Z91 (c:Z6) (t4:Int):Option (Ctl (Int) (Unit)):= if decide (t4<(c.X1.length:Int)) then (Z4 c.X1 t4).bind λa=> (Z1g (List.replicate (c.Z7.length:Int).toNat false) a.Xj).bind λd=> (some (wrap .i64 (t4+1))).bind λb=> some (.next b) else some (.done (()))
def Zcm (b:Int×(List Int)):Option (Ctl (Int×(List Int)) (List Int)):= (some (wrap .i64 (b.1+1))).bind λa=> (Yp 8 (b.2++[a]).length).bind λd=> (some (wrap .i64 (b.1+1))).bind λc=> some (.next (c,(b.2++[a])))
def Z92 (c:Z6) (a:Int×(List Int)):Option (Ctl (Int×(List Int)) (List Int)):= if decide (a.1<(c.Z7.length:Int)) then (Z4 c.Z7 a.1).bind λb=> (X7 a.1 (List.replicate (c.Z7.length:Int).toNat false).length).bind λd=> ((List.replicate (c.Z7.length:Int).toNat false)[d]?).bind λe=> if e then (Zcm a) else if b.Xr !=0 then (Zcm a) else if decide ((b.Xk.length:Int)>0) then (Zcm a) else (some (wrap .i64 (a.1+1))).bind λf=> some (.next (f,a.2)) else some (.done (a.2))
def Zf9 (a:Z6):Option (List Int):= (W2 1 (a.Z7.length:Int) (a.Z7.length:Int)).bind λe=> (Z8 (Z8y a) Zb 0).bind λq4=> (Z8 (Z90 a) Zb 0).bind λc=> (Z8 (Z91 a) Zb 0).bind λd=> (Z8 (Z92 a) Zb (0,([]:List Int))).bind λb=> some b
def Zy6 (t0:Int) (a:Xu) (b:Z6):Int→SL:= λt2=>⟨118,[(1,.ptr (Zr b)),(3,.lsl 3 0 (((List.replicate (b.Z7.length:Int).toNat false).map Zu).length)),(20,slF X9 b.Y9),(21,dI (b.Y9.length:Int)),(22,dI t0),(44,slF Vg a.Yu),(45,dI (a.Yu.length:Int)),(46,dI t2)],[(3,Zd 1 ((List.replicate (b.Z7.length:Int).toNat false).map Zu))]⟩
def J54zx2 (t0:Int) (a:Z6):JT Unit:= je 2 λb:Unit=>⟨118,[(1,.ptr (Zr a)),(3,.lsl 3 0 (((List.replicate (a.Z7.length:Int).toNat false).map Zu).length)),(20,slF X9 a.Y9),(21,dI (a.Y9.length:Int)),(22,dI t0)],[(3,Zd 1 ((List.replicate (a.Z7.length:Int).toNat false).map Zu))]⟩
theorem wl54zx2 (t0:Int) {b a t2 r Γ} (h:(Z8z b a) t2=some r):A prog Γ (lpC f54 195787) [] (Rd (Zy6 t0 b a) (J54zx2 t0 a) r) ((Zy6 t0 b a) t2).s:= Z2<|br h (λj h=>bd h λc d h=>bd h λk e h=>bd h λl f h=>bd h λm g h=>bd h λo i h=>go [] [rg 11 [(0,ix d)],rg 12 [(3,kB (a2 (rpI (List.replicate (a.Z7.length:Int).toNat false)) (a2 trivial trivial)) [rw_ (List.replicate (a.Z7.length:Int).toNat false),dI c.Vo] (by simp only[rwE] <;> kernel_rfl) (w84z e))],rg 13 [(3,kB (a2 (rpI (List.replicate (a.Z7.length:Int).toNat false)) (a2 trivial trivial)) [rw_ (List.replicate (a.Z7.length:Int).toNat false),slF Y8 c.Y1] (by simp only[rwE] <;> kernel_rfl) (w85z f))],rg 14 [(3,kB (a2 (rpI (List.replicate (a.Z7.length:Int).toNat false)) (a2 trivial trivial)) [rw_ (List.replicate (a.Z7.length:Int).toNat false),slF Y8 c.Y5] (by simp only[rwE] <;> kernel_rfl) (w85z g))],rg 15 [(0,n i)]]<|nx h) λj h=> Z2<|dn h (iE)
def Zy5 (a:Z6):Int→SL:= λt0=>⟨118,[(1,.ptr (Zr a)),(3,.lsl 3 0 (((List.replicate (a.Z7.length:Int).toNat false).map Zu).length)),(20,slF X9 a.Y9),(21,dI (a.Y9.length:Int)),(22,dI t0)],[(3,Zd 1 ((List.replicate (a.Z7.length:Int).toNat false).map Zu))]⟩
def J54zx1 (a:Z6):JT Unit:= je 0 λq4:Unit=>⟨118,[(1,.ptr (Zr a)),(3,.lsl 3 0 (((List.replicate (a.Z7.length:Int).toNat false).map Zu).length))],[(3,Zd 1 ((List.replicate (a.Z7.length:Int).toNat false).map Zu))]⟩
theorem wl54zx1 {a t0 r Γ} (h:(Z8y a) t0=some r):A prog Γ (lpC f54 43) [] (Rd (Zy5 a) (J54zx1 a) r) ((Zy5 a) t0).s:= Z2<|br h (λk h=>bd h λb c h=>bd h λl d h=>bd h λm e h=>bd h λo f h=>bd h λp g h=>go [] [rg 4 [(0,ix c)],rg 5 [(3,kB (a2 (rpI (List.replicate (a.Z7.length:Int).toNat false)) (a2 trivial trivial)) [rw_ (List.replicate (a.Z7.length:Int).toNat false),dI b.Xj] (by simp only[rwE] <;> kernel_rfl) (w84z d))],rg 6 [(3,kB (a2 (rpI (List.replicate (a.Z7.length:Int).toNat false)) (a2 trivial trivial)) [rw_ (List.replicate (a.Z7.length:Int).toNat false),dI b.V2] (by simp only[rwE] <;> kernel_rfl) (w84z e))],rg 7 [(3,kB (a2 (rpI (List.replicate (a.Z7.length:Int).toNat false)) (a2 trivial trivial)) [rw_ (List.replicate (a.Z7.length:Int).toNat false),dI b.Vn] (by simp only[rwE] <;> kernel_rfl) (w84z f))],rg 8 [(3,br0 1 2),(4,kB (a2 (rpI (List.replicate (a.Z7.length:Int).toNat false)) (a2 trivial trivial)) [rw_ (List.replicate (a.Z7.length:Int).toNat false),.sl false ([b.Qr].map Y8)] (by simp only[rwE] <;> kernel_rfl) (w85z g))],rg 9 [(2,ln b.Yu)]]<|bd h λt i h=>lp i (wl54zx2 t0)<|qe<|bd h λq j h=>goN [] [rg 16 [(0,n j)]]<|nx h) λk h=> Z2<|dn h (iE)
def Zy7 (a:Z6):Int→SL:= λt3=>⟨118,[(1,.ptr (Zr a)),(3,.lsl 3 0 (((List.replicate (a.Z7.length:Int).toNat false).map Zu).length)),(65,slF Q0 a.Xb),(66,dI (a.Xb.length:Int)),(67,dI t3)],[(3,Zd 1 ((List.replicate (a.Z7.length:Int).toNat false).map Zu))]⟩
def J54zx3 (a:Z6):JT Unit:= je 4 λb:Unit=>⟨118,[(1,.ptr (Zr a)),(3,.lsl 3 0 (((List.replicate (a.Z7.length:Int).toNat false).map Zu).length))],[(3,Zd 1 ((List.replicate (a.Z7.length:Int).toNat false).map Zu))]⟩
theorem wl54zx3 {a t3 r Γ} (h:(Z90 a) t3=some r):A prog Γ (lpC f54 87) [] (Rd (Zy7 a) (J54zx3 a) r) ((Zy7 a) t3).s:= Z2<|br h (λf h=>bd h λe b h=>bd h λg c h=>bd h λi d h=>go [] [rg 19 [(0,ix b)],rg 20 [(3,kB (a2 (rpI (List.replicate (a.Z7.length:Int).toNat false)) (a2 trivial trivial)) [rw_ (List.replicate (a.Z7.length:Int).toNat false),slF Y8 e.Qt] (by simp only[rwE] <;> kernel_rfl) (w85z c))],rg 21 [(0,n d)]]<|nx h) λf h=> Z2<|dn h (iE)
def Zy8 (a:Z6):Int→SL:= λt4=>⟨118,[(1,.ptr (Zr a)),(3,.lsl 3 0 (((List.replicate (a.Z7.length:Int).toNat false).map Zu).length)),(77,slF Qk a.X1),(78,dI (a.X1.length:Int)),(79,dI t4)],[(3,Zd 1 ((List.replicate (a.Z7.length:Int).toNat false).map Zu))]⟩
def J54zx4 (a:Z6):JT Unit:= je 6 λb:Unit=>⟨118,[(1,.ptr (Zr a)),(3,.lsl 3 0 (((List.replicate (a.Z7.length:Int).toNat false).map Zu).length))],[(3,Zd 1 ((List.replicate (a.Z7.length:Int).toNat false).map Zu))]⟩
theorem wl54zx4 {a t4 r Γ} (h:(Z91 a) t4=some r):A prog Γ (lpC f54 175) [] (Rd (Zy8 a) (J54zx4 a) r) ((Zy8 a) t4).s:= Z2<|br h (λf h=>bd h λe b h=>bd h λg c h=>bd h λi d h=>go [] [rg 24 [(0,ix b)],rg 25 [(3,kB (a2 (rpI (List.replicate (a.Z7.length:Int).toNat false)) (a2 trivial trivial)) [rw_ (List.replicate (a.Z7.length:Int).toNat false),dI e.Xj] (by simp only[rwE] <;> kernel_rfl) (w84z c))],rg 26 [(0,n d)]]<|nx h) λf h=> Z2<|dn h (iE)
def Zpd (a:Z6):(Int×(List Int))→SL:= λb=>⟨118,[(3,.lsl 3 0 (((List.replicate (a.Z7.length:Int).toNat false).map Zu).length)),(12,.lsl 12 0 ((b.2.map Z5).length)),(89,slF Ya a.Z7),(90,dI (a.Z7.length:Int)),(91,dI b.1)],[(3,Zd 1 ((List.replicate (a.Z7.length:Int).toNat false).map Zu)),(12,Zd 1 (b.2.map Z5))]⟩
def Zqq:JT (List Int):= je 8 λa:(List Int)=>⟨118,[(12,.lsl 12 0 ((a.map Z5).length))],[(12,Zd 1 (a.map Z5))]⟩
theorem Zq2 (b:Z6) {a r Γ} (h:(Zcm a)=some r):Jn prog f54 Γ (Rd (Zpd b) Zqq r) 183487 ⟨118,[(3,.lsl 3 0 (((List.replicate (b.Z7.length:Int).toNat false).map Zu).length)),(12,.lsl 12 0 ((a.2.map Z5).length)),(13,dI a.1),(89,slF Ya b.Z7),(90,dI (b.Z7.length:Int)),(91,dI a.1)],[(3,Zd 1 ((List.replicate (b.Z7.length:Int).toNat false).map Zu)),(12,Zd 1 (a.2.map Z5))]⟩:= so<|bd h λf c h=>bd h λg d h=>bd h λi e h=>go [] [rg 32 [(2,n c),(3,br0 1 0),(4,ap d)],rg 33 [(0,n e)]]<|nx h
theorem wl54zx5 {c l r Γ} (h:(Z92 c) l=some r):A prog Γ (lpC f54 703) [] (Rd (Zpd c) Zqq r) ((Zpd c) l).s:= Z2 <| br h (λi h=>bd h λk d h=>go [31] [rg 30 [(1,ix d)]]<|po<|bd h λm e h=>bd h λo f h=>pr 5 [(2,ia 3 e),(3,lb f)]<|sp h (λb h=>pr 10 (gA b 5 3 [(8,py b)])<|Z9<|bT rfl<|go [32] []<|jn ((Zq2 c) h)) λb h=> pr 5 (gC b 5 3 [(8,pn b)])<|sp h (λa h=>pr 5 (gA a 10 4 [(14,py a)])<|Z9<|bT rfl<|go [32] []<|jn ((Zq2 c) h)) λa h=> pr 5 (gC a 10 2 [(12,gw a (ln k.Xk)),(13,gw a g0),(14,pn a)])<|Z9<|br h (λj h=>go [32] []<|jn ((Zq2 c) h)) λj h=> bd h λp g h=>Z0 33 [(0,n g)]<|nx h) λi h=> Z2<|dn h (iE)
theorem w54z {a r} (h:Zf9 a=some r):Zi prog 54 [.agg (Zr a)] (R54z r):= cs f54<|bd h λk g h=>go [] [rg 0 [(0,bo)],rg 1 [(2,ln a.Z7),(3,mk false g)],rg 2 [(2,ln a.Y9)]]<|bd h λq4 c h=>lp (ps:=[(18,3)]) c wl54zx1<|qe<|goN [] [rg 17 [(2,ln a.Xb)]]<|bd h λi d h=>lp d wl54zx3<|qe<|goN [] [rg 22 [(2,ln a.X1)]]<|bd h λj e h=>lp e wl54zx4<|qe<|goN [] [rg 28 [(2,ln a.Z7)]]<|bd h λb f h=>lp (cv:=[.tmp 12 12 1]) f wl54zx5<|qe<|goN [] []<|rtB h (rw_ b) (a2 (rpI b) trivial) (by simp only[rwE] <;> kernel_rfl)
def Z5f (a:Z6):Option (List Int):=match a.Z7 with|[] =>Zf9 a|_::_=>Zfa a
theorem w54 {b r} (h:Z5f b=some r):Zi prog 54 [.agg (Zr b)] (R54 r):=by
 unfold Z5f at h
 split at h
 ·exact w54z h
 ·rename_i a; exact w54n h (λe=>by rw[e] at a; cases a)
end Go.Proofs
