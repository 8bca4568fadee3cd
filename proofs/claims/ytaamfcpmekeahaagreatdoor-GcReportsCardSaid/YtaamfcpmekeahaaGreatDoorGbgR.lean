/-
  Marks that are not empty as rows with a head: so it is seen that they stand where they stood. No condition.
-/
import Derived.Test.YtaamfcpmekeahaaGreatDoorGbg7
set_option linter.unusedVariables false
set_option linter.unusedSimpArgs false
namespace Go.Proofs
open Go.Den Go.Den.W Go.RowKit
def cR (l:List Bool):List (List D):=Zu (l.headD false)::l.tail.map Zu
theorem Z4w {l:List Bool} (h:l≠[]):cR l=l.map Zu:=by
 cases l with
 | nil=>exact absurd rfl h
 | cons b l=>rfl
theorem cRl {a b:List Bool} (h:b.length=a.length):(cR a).length=(cR b).length:=by
 unfold cR; simp[h]
theorem Zi6 {l:List Bool} {j:Nat} {x:Bool} (h:l[j]?=some x):l≠[] :=λe=>by subst e; cases h
def iaC (b:Nat) {l:List Bool} {i:Int} {j:Nat} (h:X7 i l.length=some j):GT:=
 GT.of { ans:= .val (.lptr b j 0) } (p:=0≤i∧i<(((cR l).length:Nat):Int)∧((0:Nat):Int)+i=j) (by
  have:=K7 h rfl
  rw[Z4w (λe=>by subst e; have:=this.2.1; simp at this; omega),List.length_map]; exact this)
def lbC {l:List Bool} {j:Nat} {x:Bool} (h:l[j]?=some x):GT:=GT.of { ans:= .row (Zu x) } (p:=(cR l)[j]?=some (Zu x)) (by rw[Z4w (Zi6 h)]; exact Md _ h)
def stC {l:List Bool} {j:Nat} {x:Bool} (h:l[j]?=some x) (y:Bool):GT:=
 GT.of { row:=some (Zu x),rows:=some (cR (l.set j y)) }
  (p:=0≤j∧(cR l)[j]?=some (Zu x)∧0+[D.bool y].length≤(Zu x).length∧(cR l).set j (Qu (Zu x) 0 [.bool y])=cR (l.set j y))
  ⟨Nat.zero_le _,by rw[Z4w (Zi6 h)]; exact Md _ h,Nat.le_refl _,by
   have a:l.set j y≠[] :=λe=>Zi6 h (by simpa using e)
   rw[Z4w (Zi6 h),Z4w a]; exact setM Zu l j y⟩
end Go.Proofs
namespace Go.Proofs
open IntKind (wrap)
open Tryz
open Go.Den Go.Den.W
def B84 (a:List Bool):List Blk:=[{ sz:=1,rows:=(cR a),frz:=0,pure:=true,pin:=some 0 }]
def R84 (a:List Bool):D:= .tup []
def Ko (a:List Bool) (b:Int):Option (List Bool):= if decide (b>0) then (some (wrap .i64 (b - 1))).bind λd=> (X7 d a.length).bind λc=> (a[c]?).bind λe=> some (a.set c true) else some a
theorem w84 {a b r} (h:Ko a b=some r):Vu prog 84 [.lsl 0 0 ((cR a).length),dI b] [{ sz:=1,rows:=(cR a),frz:=0,pure:=true,pin:=some 0 }] (R84 r) (B84 r):= csO f84 (m:=1) (keep:=[true])<|Z2<|br h (λc h=>bd h λi d h=>bd h λe f h=>bd h λj g h=>Z0 1 [(2,n d),(3,iaC 0 f),(4,stC g true)]<|rtO h (.tup []) [{ sz:=1,rows:=(cR (a.set e true)),frz:=0,pure:=true,pin:=some 0 }] trivial rfl) λc h=> Z2<|rtO h (.tup []) [{ sz:=1,rows:=(cR a),frz:=0,pure:=true,pin:=some 0 }] trivial rfl
theorem wn84 {a b r} (h:Ko a b=some r):r.length=a.length:=by
 unfold Ko at h
 exact sp h (λ_ h=>W.bd h λ_ _ h=>W.bd h λ_ _ h=>W.bd h λ_ _ h=>by cases h; exact List.length_set) λ_ h=>by cases h; rfl
def B85 (a:List Bool):List Blk:=[{ sz:=1,rows:=(cR a),frz:=0,pure:=true,pin:=some 0 }]
def R85 (a:List Bool):D:= .tup []
def Z1r (a:List Zf) (t0:Int×(List Bool)):Option (Ctl (Int×(List Bool)) (List Bool)):= if decide (t0.1<(a.length:Int)) then (Z4 a t0.1).bind λb=> if b.Zj==3 then (Ko t0.2 b.f_N).bind λc=> (some (wrap .i64 (t0.1+1))).bind λd=> some (.next (d,c)) else (some (wrap .i64 (t0.1+1))).bind λe=> some (.next (e,t0.2)) else some (.done (t0.2))
def Z0q (a:List Bool) (b:List Zf):Option (List Bool):= (Z8 (Z1r b) Zb (0,a)).bind λq0=> some q0
def Y03 (a:List Zf):(Int×(List Bool))→SL:= λt0=>⟨20,[(0,.lsl 0 0 ((cR t0.2).length)),(6,slF Y8 a),(7,dI (a.length:Int)),(8,dI t0.1)],[(0,{ sz:=1,rows:=(cR t0.2),frz:=0,pure:=true,pin:=some 0 })]⟩
def J85x1:JT (List Bool):= je 0 λq0:(List Bool)=>⟨20,[],[(0,{ sz:=1,rows:=(cR q0),frz:=0,pure:=true,pin:=some 0 })]⟩
theorem wl85x1 {a t0 r Γ} (h:(Z1r a) t0=some r):A prog Γ (lpC f85 5) [] (Rd (Y03 a) J85x1 r) ((Y03 a) t0).s:= Z2<|br h (λd h=>bd h λj e h=>Z0 2 [(0,ix e)]<|br h (λf h=>bd h λb c h=>go [5] [rg 4 [(3,ko [0] (w84 c))]]<|nm (congrArg (λnn:Nat=>(⟨20,[(0,.lsl 0 0 nn),(6,slF Y8 a),(7,dI (a.length:Int)),(8,dI t0.1)],[(0,{ sz:=1,rows:=(cR b),frz:=0,pure:=true,pin:=some 0 })]⟩:SL)) (cRl (wn84 c):(cR t0.2).length=(cR b).length))<|so<|bd h λk g h=>Z0 5 [(0,n g)]<|nx h) λf h=> bd h λl i h=>Z0 5 [(0,n i)]<|nx h) λd h=> Z2<|dn h (iE)
theorem w85 {a b r} (h:Z0q a b=some r):Vu prog 85 [.lsl 0 0 ((cR a).length),slF Y8 b] [{ sz:=1,rows:=(cR a),frz:=0,pure:=true,pin:=some 0 }] (R85 r) (B85 r):= csO f85 (m:=1) (keep:=[true])<|Z0 0 [(1,ln b)]<|bd h λq0 c h=>lp c wl85x1<|qe<|goN [] []<|rtO h (.tup []) [{ sz:=1,rows:=(cR q0),frz:=0,pure:=true,pin:=some 0 }] trivial rfl
theorem wnl85 (b):∀ (n:Nat) (t:Int×List Bool) {r},Z8 (Z1r b) n t=some r→r.length=t.2.length
 | 0,t,r,h=>by cases h
 | n + 1,t,r,h=>by
  unfold Z8 at h
  cases a:Z1r b t with
  | none=>rw[a] at h; cases h
  | some x=>
   rw[a] at h
   unfold Z1r at a
   refine sp a (λ_ a=>W.bd a λe _ a=>sp a (λ_ a=>W.bd a λf c a=>W.bd a λg _ a=>?_) λ_ a=>W.bd a λd _ a=>?_) λ_ a=>?_
   ·cases a; rw[wnl85 b n _ h]; exact wn84 c
   ·cases a; exact wnl85 b n (d,t.2) h
   ·cases a; cases h; rfl
theorem wn85 {a b r} (h:Z0q a b=some r):r.length=a.length:=W.bd h λq0 e h=>by cases h; exact wnl85 b _ _ e
def R54 (a:(List Int)):D:=(slF Z5 a)
def Z66 (b:Xu) (t2:Int×(List Bool)):Option (Ctl (Int×(List Bool)) (List Bool)):= if decide (t2.1<(b.Yu.length:Int)) then (Z4 b.Yu t2.1).bind λa=> (Ko t2.2 a.Vo).bind λc=> (Z0q c a.Y1).bind λd=> (Z0q d a.Y5).bind λe=> (some (wrap .i64 (t2.1+1))).bind λf=> some (.next (f,e)) else some (.done (t2.2))
def Z9m (g:Z6) (t0:Int×(List Bool)):Option (Ctl (Int×(List Bool)) (List Bool)):= if decide (t0.1<(g.Y9.length:Int)) then (Z4 g.Y9 t0.1).bind λa=> (Ko t0.2 a.Xi).bind λb=> (Ko b a.V2).bind λc=> (Ko c a.Vn).bind λd=> (Z0q d [a.Qr]).bind λe=> (Z8 (Z66 a) Zb (0,e)).bind λh=> (some (wrap .i64 (t0.1+1))).bind λf=> some (.next (f,h)) else some (.done (t0.2))
def Z5n (d:Z6) (t3:Int×(List Bool)):Option (Ctl (Int×(List Bool)) (List Bool)):= if decide (t3.1<(d.Xc.length:Int)) then (Z4 d.Xc t3.1).bind λa=> (Z0q t3.2 a.Qt).bind λb=> (some (wrap .i64 (t3.1+1))).bind λc=> some (.next (c,b)) else some (.done (t3.2))
def Z5s (d:Z6) (t4:Int×(List Bool)):Option (Ctl (Int×(List Bool)) (List Bool)):= if decide (t4.1<(d.X0.length:Int)) then (Z4 d.X0 t4.1).bind λa=> (Ko t4.2 a.Xi).bind λb=> (some (wrap .i64 (t4.1+1))).bind λc=> some (.next (c,b)) else some (.done (t4.2))
def Z9n (b:Int×(List Int)):Option (Ctl (Int×(List Int)) (List Int)):= (some (wrap .i64 (b.1+1))).bind λa=> (Yp 8 (b.2++[a]).length).bind λd=> (some (wrap .i64 (b.1+1))).bind λc=> some (.next (c,(b.2++[a])))
def Z99 (f:(List Bool)) (g:Z6) (a:Int×(List Int)):Option (Ctl (Int×(List Int)) (List Int)):= if decide (a.1<(g.Z7.length:Int)) then (Z4 g.Z7 a.1).bind λb=> (X7 a.1 f.length).bind λc=> (f[c]?).bind λd=> if d then (Z9n a) else if b.Xs !=0 then (Z9n a) else if decide ((b.Xk.length:Int)>0) then (Z9n a) else (some (wrap .i64 (a.1+1))).bind λe=> some (.next (e,a.2)) else some (.done (a.2))
def Zb9 (a:Z6):Option (List Int):= (W5 1 (a.Z7.length:Int) (a.Z7.length:Int)).bind λe=> (Z8 (Z9m a) Zb (0,(List.replicate (a.Z7.length:Int).toNat false))).bind λq4=> (Z8 (Z5n a) Zb (0,q4)).bind λc=> (Z8 (Z5s a) Zb (0,c)).bind λd=> (Z8 (Z99 d a) Zb (0,([]:List Int))).bind λb=> some b
def Zv6 (t0:Int×(List Bool)) (a:Xu) (b:Z6):(Int×(List Bool))→SL:= λt2=>⟨118,[(1,.ptr (Zr b)),(3,.lsl 3 0 ((cR t2.2).length)),(20,slF X9 b.Y9),(21,dI (b.Y9.length:Int)),(22,dI t0.1),(44,slF Vg a.Yu),(45,dI (a.Yu.length:Int)),(46,dI t2.1)],[(3,Zd 1 (cR t2.2))]⟩
def J54x2 (t0:Int×(List Bool)) (a:Z6):JT (List Bool):= je 2 λb:(List Bool)=>⟨118,[(1,.ptr (Zr a)),(3,.lsl 3 0 ((cR b).length)),(20,slF X9 a.Y9),(21,dI (a.Y9.length:Int)),(22,dI t0.1)],[(3,Zd 1 (cR b))]⟩
theorem wl54x2 (t0:Int×(List Bool)) (b:Z6) {a t2 r Γ} (h:(Z66 a) t2=some r):A prog Γ (lpC f54 195787) [] (Rd (Zv6 t0 a b) (J54x2 t0 b) r) ((Zv6 t0 a b) t2).s:= Z2<|br h (λm h=>bd h λe k h=>bd h λc f h=>go [13] [rg 11 [(0,ix k)],rg 12 [(3,ko [3] (w84 f))]]<|nm (congrArg (λnn:Nat=>(⟨118,[(1,.ptr (Zr b)),(3,.lsl 3 0 nn),(7,.lptr 7 0 0),(20,slF X9 b.Y9),(21,dI (b.Y9.length:Int)),(22,dI t0.1),(44,slF Vg a.Yu),(45,dI (a.Yu.length:Int)),(46,dI t2.1)],[(3,Zd 1 (cR c)),(7,Zc 8 [Vg e])]⟩:SL)) (cRl (wn84 f):(cR t2.2).length=(cR c).length))<|so<|bd h λd g h=>go [14] [rg 13 [(3,ko [3] (w85 g))]]<|nm (congrArg (λnn:Nat=>(⟨118,[(1,.ptr (Zr b)),(3,.lsl 3 0 nn),(7,.lptr 7 0 0),(20,slF X9 b.Y9),(21,dI (b.Y9.length:Int)),(22,dI t0.1),(44,slF Vg a.Yu),(45,dI (a.Yu.length:Int)),(46,dI t2.1)],[(3,Zd 1 (cR d)),(7,Zc 8 [Vg e])]⟩:SL)) (cRl (wn85 g):(cR c).length=(cR d).length))<|so<|bd h λi j h=>go [15] [rg 14 [(3,ko [3] (w85 j))]]<|nm (congrArg (λnn:Nat=>(⟨118,[(1,.ptr (Zr b)),(3,.lsl 3 0 nn),(20,slF X9 b.Y9),(21,dI (b.Y9.length:Int)),(22,dI t0.1),(44,slF Vg a.Yu),(45,dI (a.Yu.length:Int)),(46,dI t2.1)],[(3,Zd 1 (cR i))]⟩:SL)) (cRl (wn85 j):(cR d).length=(cR i).length))<|so<|bd h λo l h=>Z0 15 [(0,n l)]<|nx h) λm h=> Z2<|dn h (iE)
def Zv0 (a:Z6):(Int×(List Bool))→SL:= λt0=>⟨118,[(1,.ptr (Zr a)),(3,.lsl 3 0 ((cR t0.2).length)),(20,slF X9 a.Y9),(21,dI (a.Y9.length:Int)),(22,dI t0.1)],[(3,Zd 1 (cR t0.2))]⟩
def J54x1 (a:Z6):JT (List Bool):= je 0 λq4:(List Bool)=>⟨118,[(1,.ptr (Zr a)),(3,.lsl 3 0 ((cR q4).length))],[(3,Zd 1 (cR q4))]⟩
theorem wl54x1 {a t0 r Γ} (h:(Z9m a) t0=some r):A prog Γ (lpC f54 43) [] (Rd (Zv0 a) (J54x1 a) r) ((Zv0 a) t0).s:= Z2<|br h (λp h=>bd h λb l h=>bd h λc f h=>go [6] [rg 4 [(0,ix l)],rg 5 [(3,ko [3] (w84 f))]]<|nm (congrArg (λnn:Nat=>(⟨118,[(1,.ptr (Zr a)),(3,.lsl 3 0 nn),(5,.lptr 5 0 0),(20,slF X9 a.Y9),(21,dI (a.Y9.length:Int)),(22,dI t0.1)],[(3,Zd 1 (cR c)),(5,Zc 8 [X9 b])]⟩:SL)) (cRl (wn84 f):(cR t0.2).length=(cR c).length))<|so<|bd h λd g h=>go [7] [rg 6 [(3,ko [3] (w84 g))]]<|nm (congrArg (λnn:Nat=>(⟨118,[(1,.ptr (Zr a)),(3,.lsl 3 0 nn),(5,.lptr 5 0 0),(20,slF X9 a.Y9),(21,dI (a.Y9.length:Int)),(22,dI t0.1)],[(3,Zd 1 (cR d)),(5,Zc 8 [X9 b])]⟩:SL)) (cRl (wn84 g):(cR c).length=(cR d).length))<|so<|bd h λe i h=>go [8] [rg 7 [(3,ko [3] (w84 i))]]<|nm (congrArg (λnn:Nat=>(⟨118,[(1,.ptr (Zr a)),(3,.lsl 3 0 nn),(5,.lptr 5 0 0),(20,slF X9 a.Y9),(21,dI (a.Y9.length:Int)),(22,dI t0.1)],[(3,Zd 1 (cR e)),(5,Zc 8 [X9 b])]⟩:SL)) (cRl (wn84 i):(cR d).length=(cR e).length))<|so<|bd h λj k h=>go [9] [rg 8 [(3,br0 1 2),(4,ko [3] (w85 k))]]<|nm (congrArg (λnn:Nat=>(⟨118,[(1,.ptr (Zr a)),(3,.lsl 3 0 nn),(5,.lptr 5 0 0),(20,slF X9 a.Y9),(21,dI (a.Y9.length:Int)),(22,dI t0.1)],[(3,Zd 1 (cR j)),(5,Zc 8 [X9 b])]⟩:SL)) (cRl (wn85 k):(cR e).length=(cR j).length))<|so<|Z0 9 [(2,ln b.Yu)]<|bd h λt m h=>lp m (wl54x2 t0 a)<|qe<|bd h λq o h=>goN [] [rg 16 [(0,n o)]]<|nx h) λp h=> Z2<|dn h (iE)
def Zrt (a:Z6):(Int×(List Bool))→SL:= λt3=>⟨118,[(1,.ptr (Zr a)),(3,.lsl 3 0 ((cR t3.2).length)),(65,slF Xz a.Xc),(66,dI (a.Xc.length:Int)),(67,dI t3.1)],[(3,Zd 1 (cR t3.2))]⟩
def J54x3 (b:Z6):JT (List Bool):= je 4 λa:(List Bool)=>⟨118,[(1,.ptr (Zr b)),(3,.lsl 3 0 ((cR a).length))],[(3,Zd 1 (cR a))]⟩
theorem wl54x3 {a t3 r Γ} (h:(Z5n a) t3=some r):A prog Γ (lpC f54 87) [] (Rd (Zrt a) (J54x3 a) r) ((Zrt a) t3).s:= Z2<|br h (λf h=>bd h λg d h=>bd h λb c h=>go [21] [rg 19 [(0,ix d)],rg 20 [(3,ko [3] (w85 c))]]<|nm (congrArg (λnn:Nat=>(⟨118,[(1,.ptr (Zr a)),(3,.lsl 3 0 nn),(65,slF Xz a.Xc),(66,dI (a.Xc.length:Int)),(67,dI t3.1)],[(3,Zd 1 (cR b))]⟩:SL)) (cRl (wn85 c):(cR t3.2).length=(cR b).length))<|so<|bd h λi e h=>Z0 21 [(0,n e)]<|nx h) λf h=> Z2<|dn h (iE)
def Zuf (a:Z6):(Int×(List Bool))→SL:= λt4=>⟨118,[(1,.ptr (Zr a)),(3,.lsl 3 0 ((cR t4.2).length)),(77,slF Qj a.X0),(78,dI (a.X0.length:Int)),(79,dI t4.1)],[(3,Zd 1 (cR t4.2))]⟩
def J54x4 (b:Z6):JT (List Bool):= je 6 λa:(List Bool)=>⟨118,[(1,.ptr (Zr b)),(3,.lsl 3 0 ((cR a).length))],[(3,Zd 1 (cR a))]⟩
theorem wl54x4 {a t4 r Γ} (h:(Z5s a) t4=some r):A prog Γ (lpC f54 175) [] (Rd (Zuf a) (J54x4 a) r) ((Zuf a) t4).s:= Z2<|br h (λf h=>bd h λg d h=>bd h λb c h=>go [26] [rg 24 [(0,ix d)],rg 25 [(3,ko [3] (w84 c))]]<|nm (congrArg (λnn:Nat=>(⟨118,[(1,.ptr (Zr a)),(3,.lsl 3 0 nn),(77,slF Qj a.X0),(78,dI (a.X0.length:Int)),(79,dI t4.1)],[(3,Zd 1 (cR b))]⟩:SL)) (cRl (wn84 c):(cR t4.2).length=(cR b).length))<|so<|bd h λi e h=>Z0 26 [(0,n e)]<|nx h) λf h=> Z2<|dn h (iE)
def Znd (b:(List Bool)) (c:Z6):(Int×(List Int))→SL:= λa=>⟨118,[(3,.lsl 3 0 ((cR b).length)),(12,.lsl 12 0 ((a.2.map Z5).length)),(89,slF Ya c.Z7),(90,dI (c.Z7.length:Int)),(91,dI a.1)],[(3,Zd 1 (cR b)),(12,Zd 1 (a.2.map Z5))]⟩
def J54x5:JT (List Int):= je 8 λa:(List Int)=>⟨118,[(12,.lsl 12 0 ((a.map Z5).length))],[(12,Zd 1 (a.map Z5))]⟩
theorem Znw (b:(List Bool)) (c:Z6) {a r Γ} (h:(Z9n a)=some r):Jn prog f54 Γ (Rd (Znd b c) J54x5 r) 183487 ⟨118,[(3,.lsl 3 0 ((cR b).length)),(12,.lsl 12 0 ((a.2.map Z5).length)),(13,dI a.1),(89,slF Ya c.Z7),(90,dI (c.Z7.length:Int)),(91,dI a.1)],[(3,Zd 1 (cR b)),(12,Zd 1 (a.2.map Z5))]⟩:= so<|bd h λg d h=>bd h λi e h=>bd h λj f h=>go [] [rg 32 [(2,n d),(3,br0 1 0),(4,ap e)],rg 33 [(0,n f)]]<|nx h
theorem wl54x5 {c d m r Γ} (h:(Z99 c d) m=some r):A prog Γ (lpC f54 703) [] (Rd (Znd c d) J54x5 r) ((Znd c d) m).s:= Z2 <| br h (λe h=>bd h λf g h=>go [31] [rg 30 [(1,ix g)]]<|po<|bd h λo i h=>bd h λp j h=>pr 5 [(2,iaC 3 i),(3,lbC j)]<|sp h (λb h=>pr 10 (gA b 5 3 [(8,py b)])<|Z9<|bT rfl<|go [32] []<|jn ((Znw c d) h)) λb h=> pr 5 (gC b 5 3 [(8,pn b)])<|sp h (λa h=>pr 5 (gA a 10 4 [(14,py a)])<|Z9<|bT rfl<|go [32] []<|jn ((Znw c d) h)) λa h=> pr 5 (gC a 10 2 [(12,gw a (ln f.Xk)),(13,gw a g0),(14,pn a)])<|Z9<|br h (λk h=>go [32] []<|jn ((Znw c d) h)) λk h=> bd h λq l h=>Z0 33 [(0,n l)]<|nx h) λe h=> Z2<|dn h (iE)
theorem hN (a:Z6) (h:a.Z7≠[]):(List.replicate (a.Z7.length:Int).toNat false)≠[] :=λe=>h (by have:=congrArg List.length e; simp at this; exact this)
theorem w54n {a r} (h:Zb9 a=some r) (c:a.Z7≠[]):Zi prog 54 [.agg (Zr a)] (R54 r):= cs f54<|bd h λj i h=>go [] [rg 0 [(0,bo)],rg 1 [(2,ln a.Z7),(3,mk false i)],rg 2 [(2,ln a.Y9)]]<|bd h λq4 d h=>nm (congrArg (λrr:List (List D)=>(⟨118,[(1,.ptr (Zr a)),(3,.lsl 18 0 (rr.length)),(20,slF X9 a.Y9),(21,dI (a.Y9.length:Int)),(22,dI 0)],[(18,Zd 1 (rr))]⟩:SL)) (Z4w (hN a c)).symm)<|lp (ps:=[(18,3)]) d wl54x1<|qe<|goN [] [rg 17 [(2,ln a.Xc)]]<|bd h λk e h=>lp e wl54x3<|qe<|goN [] [rg 22 [(2,ln a.X0)]]<|bd h λl f h=>lp f wl54x4<|qe<|goN [] [rg 28 [(2,ln a.Z7)]]<|bd h λb g h=>lp (cv:=[.tmp 12 12 1]) g wl54x5<|qe<|goN [] []<|rtB h (rw_ b) (a2 (rpI b) trivial) (by simp only[rwE] <;> kernel_rfl)
def R84z (a:Unit):D:= .tup []
def Z1z (b:List Bool) (a:Int):Option (Unit):= if decide (a>0) then none else some ()
theorem w84z {a b r} (h:Z1z a b=some r):Zi prog 84 [slF Zu a,dI b] (R84z r):= cs f84<|Z2<|br h (λc h=>noneE h) λc h=> Z3 h
def R85z (a:Unit):D:= .tup []
def Z7t (c:List Bool) (a:List Zf) (t0:Int):Option (Ctl (Int) (Unit)):= if decide (t0<(a.length:Int)) then (Z4 a t0).bind λb=> if b.Zj==3 then (Z1z c b.f_N).bind λf=> (some (wrap .i64 (t0+1))).bind λd=> some (.next d) else (some (wrap .i64 (t0+1))).bind λe=> some (.next e) else some (.done (()))
def Z2z (a:List Bool) (b:List Zf):Option (Unit):= (Z8 (Z7t a b) Zb 0).bind λq0=> some ()
def Zsg (b:List Bool) (a:List Zf):Int→SL:= λt0=>⟨20,[(0,slF Zu b),(6,slF Y8 a),(7,dI (a.length:Int)),(8,dI t0)],[]⟩
def J85zx1:JT Unit:= je 0 λq0:Unit=>⟨20,[],[]⟩
theorem wl85zx1 {a b t0 r Γ} (h:(Z7t a b) t0=some r):A prog Γ (lpC f85 5) [] (Rd (Zsg a b) J85zx1 r) ((Zsg a b) t0).s:= Z2<|br h (λc h=>bd h λj d h=>Z0 2 [(0,ix d)]<|br h (λe h=>bd h λl f h=>bd h λm g h=>go [] [rg 4 [(3,k (w84z f))],rg 5 [(0,n g)]]<|nx h) λe h=> bd h λo i h=>Z0 5 [(0,n i)]<|nx h) λc h=> Z2<|dn h (iE)
theorem w85z {b a r} (h:Z2z b a=some r):Zi prog 85 [slF Zu b,slF Y8 a] (R85z r):= cs f85<|Z0 0 [(1,ln a)]<|bd h λq0 c h=>lp c wl85zx1<|qe<|Xq h
def R54z (a:(List Int)):D:=(slF Z5 a)
def Zb0 (b:Xu) (c:Z6) (t2:Int):Option (Ctl (Int) (Unit)):= if decide (t2<(b.Yu.length:Int)) then (Z4 b.Yu t2).bind λa=> (Z1z (List.replicate (c.Z7.length:Int).toNat false) a.Vo).bind λe=> (Z2z (List.replicate (c.Z7.length:Int).toNat false) a.Y1).bind λf=> (Z2z (List.replicate (c.Z7.length:Int).toNat false) a.Y5).bind λg=> (some (wrap .i64 (t2+1))).bind λd=> some (.next d) else some (.done (()))
def Z8q (b:Z6) (t0:Int):Option (Ctl (Int) (Unit)):= if decide (t0<(b.Y9.length:Int)) then (Z4 b.Y9 t0).bind λa=> (Z1z (List.replicate (b.Z7.length:Int).toNat false) a.Xi).bind λd=> (Z1z (List.replicate (b.Z7.length:Int).toNat false) a.V2).bind λe=> (Z1z (List.replicate (b.Z7.length:Int).toNat false) a.Vn).bind λf=> (Z2z (List.replicate (b.Z7.length:Int).toNat false) [a.Qr]).bind λg=> (Z8 (Zb0 a b) Zb 0).bind λh=> (some (wrap .i64 (t0+1))).bind λc=> some (.next c) else some (.done (()))
def Z6y (a:Z6) (t3:Int):Option (Ctl (Int) (Unit)):= if decide (t3<(a.Xc.length:Int)) then (Z4 a.Xc t3).bind λb=> (Z2z (List.replicate (a.Z7.length:Int).toNat false) b.Qt).bind λd=> (some (wrap .i64 (t3+1))).bind λc=> some (.next c) else some (.done (()))
def Z6q (a:Z6) (t4:Int):Option (Ctl (Int) (Unit)):= if decide (t4<(a.X0.length:Int)) then (Z4 a.X0 t4).bind λb=> (Z1z (List.replicate (a.Z7.length:Int).toNat false) b.Xi).bind λd=> (some (wrap .i64 (t4+1))).bind λc=> some (.next c) else some (.done (()))
def Zhp (b:Int×(List Int)):Option (Ctl (Int×(List Int)) (List Int)):= (some (wrap .i64 (b.1+1))).bind λa=> (Yp 8 (b.2++[a]).length).bind λd=> (some (wrap .i64 (b.1+1))).bind λc=> some (.next (c,(b.2++[a])))
def Z6x (c:Z6) (a:Int×(List Int)):Option (Ctl (Int×(List Int)) (List Int)):= if decide (a.1<(c.Z7.length:Int)) then (Z4 c.Z7 a.1).bind λb=> (X7 a.1 (List.replicate (c.Z7.length:Int).toNat false).length).bind λd=> ((List.replicate (c.Z7.length:Int).toNat false)[d]?).bind λe=> if e then (Zhp a) else if b.Xs !=0 then (Zhp a) else if decide ((b.Xk.length:Int)>0) then (Zhp a) else (some (wrap .i64 (a.1+1))).bind λf=> some (.next (f,a.2)) else some (.done (a.2))
def Zbs (a:Z6):Option (List Int):= (W5 1 (a.Z7.length:Int) (a.Z7.length:Int)).bind λc=> (Z8 (Z8q a) Zb 0).bind λq4=> (Z8 (Z6y a) Zb 0).bind λd=> (Z8 (Z6q a) Zb 0).bind λe=> (Z8 (Z6x a) Zb (0,([]:List Int))).bind λb=> some b
def Zrk (t0:Int) (a:Xu) (b:Z6):Int→SL:= λt2=>⟨118,[(1,.ptr (Zr b)),(3,.lsl 3 0 (((List.replicate (b.Z7.length:Int).toNat false).map Zu).length)),(20,slF X9 b.Y9),(21,dI (b.Y9.length:Int)),(22,dI t0),(44,slF Vg a.Yu),(45,dI (a.Yu.length:Int)),(46,dI t2)],[(3,Zd 1 ((List.replicate (b.Z7.length:Int).toNat false).map Zu))]⟩
def J54zx2 (t0:Int) (a:Z6):JT Unit:= je 2 λb:Unit=>⟨118,[(1,.ptr (Zr a)),(3,.lsl 3 0 (((List.replicate (a.Z7.length:Int).toNat false).map Zu).length)),(20,slF X9 a.Y9),(21,dI (a.Y9.length:Int)),(22,dI t0)],[(3,Zd 1 ((List.replicate (a.Z7.length:Int).toNat false).map Zu))]⟩
theorem wl54zx2 (t0:Int) {b a t2 r Γ} (h:(Zb0 b a) t2=some r):A prog Γ (lpC f54 195787) [] (Rd (Zrk t0 b a) (J54zx2 t0 a) r) ((Zrk t0 b a) t2).s:= Z2<|br h (λj h=>bd h λc d h=>bd h λk e h=>bd h λl f h=>bd h λm g h=>bd h λo i h=>go [] [rg 11 [(0,ix d)],rg 12 [(3,kB (a2 (rpI (List.replicate (a.Z7.length:Int).toNat false)) (a2 trivial trivial)) [rw_ (List.replicate (a.Z7.length:Int).toNat false),dI c.Vo] (by simp only[rwE] <;> kernel_rfl) (w84z e))],rg 13 [(3,kB (a2 (rpI (List.replicate (a.Z7.length:Int).toNat false)) (a2 trivial trivial)) [rw_ (List.replicate (a.Z7.length:Int).toNat false),slF Y8 c.Y1] (by simp only[rwE] <;> kernel_rfl) (w85z f))],rg 14 [(3,kB (a2 (rpI (List.replicate (a.Z7.length:Int).toNat false)) (a2 trivial trivial)) [rw_ (List.replicate (a.Z7.length:Int).toNat false),slF Y8 c.Y5] (by simp only[rwE] <;> kernel_rfl) (w85z g))],rg 15 [(0,n i)]]<|nx h) λj h=> Z2<|dn h (iE)
def Zw7 (a:Z6):Int→SL:= λt0=>⟨118,[(1,.ptr (Zr a)),(3,.lsl 3 0 (((List.replicate (a.Z7.length:Int).toNat false).map Zu).length)),(20,slF X9 a.Y9),(21,dI (a.Y9.length:Int)),(22,dI t0)],[(3,Zd 1 ((List.replicate (a.Z7.length:Int).toNat false).map Zu))]⟩
def J54zx1 (a:Z6):JT Unit:= je 0 λq4:Unit=>⟨118,[(1,.ptr (Zr a)),(3,.lsl 3 0 (((List.replicate (a.Z7.length:Int).toNat false).map Zu).length))],[(3,Zd 1 ((List.replicate (a.Z7.length:Int).toNat false).map Zu))]⟩
theorem wl54zx1 {a t0 r Γ} (h:(Z8q a) t0=some r):A prog Γ (lpC f54 43) [] (Rd (Zw7 a) (J54zx1 a) r) ((Zw7 a) t0).s:= Z2<|br h (λk h=>bd h λb c h=>bd h λl d h=>bd h λm e h=>bd h λo f h=>bd h λp g h=>go [] [rg 4 [(0,ix c)],rg 5 [(3,kB (a2 (rpI (List.replicate (a.Z7.length:Int).toNat false)) (a2 trivial trivial)) [rw_ (List.replicate (a.Z7.length:Int).toNat false),dI b.Xi] (by simp only[rwE] <;> kernel_rfl) (w84z d))],rg 6 [(3,kB (a2 (rpI (List.replicate (a.Z7.length:Int).toNat false)) (a2 trivial trivial)) [rw_ (List.replicate (a.Z7.length:Int).toNat false),dI b.V2] (by simp only[rwE] <;> kernel_rfl) (w84z e))],rg 7 [(3,kB (a2 (rpI (List.replicate (a.Z7.length:Int).toNat false)) (a2 trivial trivial)) [rw_ (List.replicate (a.Z7.length:Int).toNat false),dI b.Vn] (by simp only[rwE] <;> kernel_rfl) (w84z f))],rg 8 [(3,br0 1 2),(4,kB (a2 (rpI (List.replicate (a.Z7.length:Int).toNat false)) (a2 trivial trivial)) [rw_ (List.replicate (a.Z7.length:Int).toNat false),.sl false ([b.Qr].map Y8)] (by simp only[rwE] <;> kernel_rfl) (w85z g))],rg 9 [(2,ln b.Yu)]]<|bd h λt i h=>lp i (wl54zx2 t0)<|qe<|bd h λq j h=>goN [] [rg 16 [(0,n j)]]<|nx h) λk h=> Z2<|dn h (iE)
def Zv1 (a:Z6):Int→SL:= λt3=>⟨118,[(1,.ptr (Zr a)),(3,.lsl 3 0 (((List.replicate (a.Z7.length:Int).toNat false).map Zu).length)),(65,slF Xz a.Xc),(66,dI (a.Xc.length:Int)),(67,dI t3)],[(3,Zd 1 ((List.replicate (a.Z7.length:Int).toNat false).map Zu))]⟩
def J54zx3 (a:Z6):JT Unit:= je 4 λb:Unit=>⟨118,[(1,.ptr (Zr a)),(3,.lsl 3 0 (((List.replicate (a.Z7.length:Int).toNat false).map Zu).length))],[(3,Zd 1 ((List.replicate (a.Z7.length:Int).toNat false).map Zu))]⟩
theorem wl54zx3 {a t3 r Γ} (h:(Z6y a) t3=some r):A prog Γ (lpC f54 87) [] (Rd (Zv1 a) (J54zx3 a) r) ((Zv1 a) t3).s:= Z2<|br h (λf h=>bd h λb c h=>bd h λg d h=>bd h λi e h=>go [] [rg 19 [(0,ix c)],rg 20 [(3,kB (a2 (rpI (List.replicate (a.Z7.length:Int).toNat false)) (a2 trivial trivial)) [rw_ (List.replicate (a.Z7.length:Int).toNat false),slF Y8 b.Qt] (by simp only[rwE] <;> kernel_rfl) (w85z d))],rg 21 [(0,n e)]]<|nx h) λf h=> Z2<|dn h (iE)
def Zux (a:Z6):Int→SL:= λt4=>⟨118,[(1,.ptr (Zr a)),(3,.lsl 3 0 (((List.replicate (a.Z7.length:Int).toNat false).map Zu).length)),(77,slF Qj a.X0),(78,dI (a.X0.length:Int)),(79,dI t4)],[(3,Zd 1 ((List.replicate (a.Z7.length:Int).toNat false).map Zu))]⟩
def J54zx4 (a:Z6):JT Unit:= je 6 λb:Unit=>⟨118,[(1,.ptr (Zr a)),(3,.lsl 3 0 (((List.replicate (a.Z7.length:Int).toNat false).map Zu).length))],[(3,Zd 1 ((List.replicate (a.Z7.length:Int).toNat false).map Zu))]⟩
theorem wl54zx4 {a t4 r Γ} (h:(Z6q a) t4=some r):A prog Γ (lpC f54 175) [] (Rd (Zux a) (J54zx4 a) r) ((Zux a) t4).s:= Z2<|br h (λf h=>bd h λb c h=>bd h λg d h=>bd h λi e h=>go [] [rg 24 [(0,ix c)],rg 25 [(3,kB (a2 (rpI (List.replicate (a.Z7.length:Int).toNat false)) (a2 trivial trivial)) [rw_ (List.replicate (a.Z7.length:Int).toNat false),dI b.Xi] (by simp only[rwE] <;> kernel_rfl) (w84z d))],rg 26 [(0,n e)]]<|nx h) λf h=> Z2<|dn h (iE)
def Znl (a:Z6):(Int×(List Int))→SL:= λb=>⟨118,[(3,.lsl 3 0 (((List.replicate (a.Z7.length:Int).toNat false).map Zu).length)),(12,.lsl 12 0 ((b.2.map Z5).length)),(89,slF Ya a.Z7),(90,dI (a.Z7.length:Int)),(91,dI b.1)],[(3,Zd 1 ((List.replicate (a.Z7.length:Int).toNat false).map Zu)),(12,Zd 1 (b.2.map Z5))]⟩
def Y01:JT (List Int):= je 8 λa:(List Int)=>⟨118,[(12,.lsl 12 0 ((a.map Z5).length))],[(12,Zd 1 (a.map Z5))]⟩
theorem Zlq (a:Z6) {b r Γ} (h:(Zhp b)=some r):Jn prog f54 Γ (Rd (Znl a) Y01 r) 183487 ⟨118,[(3,.lsl 3 0 (((List.replicate (a.Z7.length:Int).toNat false).map Zu).length)),(12,.lsl 12 0 ((b.2.map Z5).length)),(13,dI b.1),(89,slF Ya a.Z7),(90,dI (a.Z7.length:Int)),(91,dI b.1)],[(3,Zd 1 ((List.replicate (a.Z7.length:Int).toNat false).map Zu)),(12,Zd 1 (b.2.map Z5))]⟩:= so<|bd h λf c h=>bd h λg d h=>bd h λi e h=>go [] [rg 32 [(2,n c),(3,br0 1 0),(4,ap d)],rg 33 [(0,n e)]]<|nx h
theorem wl54zx5 {c l r Γ} (h:(Z6x c) l=some r):A prog Γ (lpC f54 703) [] (Rd (Znl c) Y01 r) ((Znl c) l).s:= Z2 <| br h (λd h=>bd h λe f h=>go [31] [rg 30 [(1,ix f)]]<|po<|bd h λm g h=>bd h λo i h=>pr 5 [(2,ia 3 g),(3,lb i)]<|sp h (λb h=>pr 10 (gA b 5 3 [(8,py b)])<|Z9<|bT rfl<|go [32] []<|jn ((Zlq c) h)) λb h=> pr 5 (gC b 5 3 [(8,pn b)])<|sp h (λa h=>pr 5 (gA a 10 4 [(14,py a)])<|Z9<|bT rfl<|go [32] []<|jn ((Zlq c) h)) λa h=> pr 5 (gC a 10 2 [(12,gw a (ln e.Xk)),(13,gw a g0),(14,pn a)])<|Z9<|br h (λj h=>go [32] []<|jn ((Zlq c) h)) λj h=> bd h λp k h=>Z0 33 [(0,n k)]<|nx h) λd h=> Z2<|dn h (iE)
theorem w54z {a r} (h:Zbs a=some r):Zi prog 54 [.agg (Zr a)] (R54z r):= cs f54<|bd h λi g h=>go [] [rg 0 [(0,bo)],rg 1 [(2,ln a.Z7),(3,mk false g)],rg 2 [(2,ln a.Y9)]]<|bd h λq4 c h=>lp (ps:=[(18,3)]) c wl54zx1<|qe<|goN [] [rg 17 [(2,ln a.Xc)]]<|bd h λj d h=>lp d wl54zx3<|qe<|goN [] [rg 22 [(2,ln a.X0)]]<|bd h λk e h=>lp e wl54zx4<|qe<|goN [] [rg 28 [(2,ln a.Z7)]]<|bd h λb f h=>lp (cv:=[.tmp 12 12 1]) f wl54zx5<|qe<|goN [] []<|rtB h (rw_ b) (a2 (rpI b) trivial) (by simp only[rwE] <;> kernel_rfl)
def Z4n (a:Z6):Option (List Int):=match a.Z7 with|[] =>Zbs a|_::_=>Zb9 a
theorem w54 {a r} (h:Z4n a=some r):Zi prog 54 [.agg (Zr a)] (R54 r):=by
 unfold Z4n at h
 split at h
 ·exact w54z h
 ·rename_i b; exact w54n h (λe=>by rw[e] at b; cases b)
end Go.Proofs
