/-
  Models of functions of the program, and that the functions compute them. Printed by den3.py. No condition.
-/
import Derived.Test.YtaamfcpmekeahaaGreatDoorGbgR
set_option linter.unusedVariables false
set_option linter.unusedSimpArgs false
namespace Go.Proofs
open IntKind (wrap)
open Tryz
open Go.Den Go.Den.W
def R55 (a:Int):D:= .int .i64 a
def Z6p (b:List Int) (a:Zm):Option (Int):= if a.Zj !=1 then some 0 else (Z4 b a.Zt.Zy).bind λc=> some c
theorem w55 {a b r} (h:Z6p a b=some r):Zi prog 55 [slF Z5 a,.agg (Ya b)] (R55 r):= cs f55<|Z0 0 [(0,bo)]<|br h (λc h=>Z3 h) λc h=> bd h λe d h=>Z0 3 [(4,ix d)]<|rt h
def R82 (a:Int×Bool):D:= .tup [.int .i64 a.1,.bool a.2]
def Zgu (b:Zq) (c:Int) (d:List UInt8) (t0:Int):Option (Ctl (Int) (Unit⊕(Int×Bool))):= if decide (t0<(b.Yr.length:Int)) then (Z4 b.Yr t0).bind λa=> if a.Xn==c then if a.Zo==d then some (.done (.inr (a.Zy,true))) else (some (wrap .i64 (t0+1))).bind λe=> some (.next e) else (some (wrap .i64 (t0+1))).bind λf=> some (.next f) else some (.done (.inl (())))
def Z6d (a:Zq) (b:Int) (c:List UInt8):Option (Int×Bool):= (Z8 (Zgu a b c) Zb 0).bind λd=> match d with | .inl q0=>(some (0,false)) | .inr e=>(some e)
def Zr5 (a:Zq) (b:Int) (c:List UInt8):Int→SL:= λt0=>⟨30,[(1,dI b),(2,.str c),(11,slF Q8 a.Yr),(12,dI (a.Yr.length:Int)),(13,dI t0)],[]⟩
def J82x1:JT (Unit⊕(Int×Bool)):= ju (je 0 λq0:Unit=>⟨30,[],[]⟩) (jr prog f82 R82)
theorem wl82x1 {a b c t0 r Γ} (h:(Zgu a b c) t0=some r):A prog Γ (lpC f82 21) [] (Rd (Zr5 a b c) J82x1 r) ((Zr5 a b c) t0).s:= Z2<|br h (λf h=>bd h λk e h=>sp h (λd h=>go [] [rg 3 [(0,ix e)],rg 4 [(3,kb d)]]<|br h (λg h=>Z2<|dn h (i2 iR)) λg h=> bd h λl i h=>Z0 6 [(0,n i)]<|nx h) λd h=> go [] [rg 3 [(0,ix e)],rg 4 [(3,kb d)]]<|bF rfl<|bd h λm j h=>Z0 6 [(0,n j)]<|nx h) λf h=> Z2<|dn h (i1 iE)
theorem w82 {a b c r} (h:Z6d a b c=some r):Zi prog 82 [.agg (Yq a),dI b,.str c] (R82 r):= cs f82<|go [] [rg 0 [(0,bo)],rg 1 [(2,ln a.Yr)]]<|bd h λd e h=>lp e wl82x1<|match d,h with | .inl q0,h=>j1<|(qe<|Xq h) | .inr f,h=>j2<|(qr h)
def R107 (a:Bool):D:= .bool a
def Z4d (b:Zq) (a:Int):Option (Bool):= if decide (a≥0) then some (decide (a<(b.Y6.length:Int))) else some false
theorem w107 {a c r} (h:Z4d a c=some r):Zi prog 107 [.agg (Yq a),dI c] (R107 r):= cs f107<|sp h (λb h=>go [] [rg 0 [(0,bo)],rg 1 [(1,kb b),(6,ln a.Y6)]]<|rt h) λb h=> go [] [rg 0 [(0,bo)],rg 1 [(1,kb b)]]<|rt h
def R83 (a:Bool):D:= .bool a
def j83x3 (t0:(List Int)×(List Bool)) (b:Int) (a:List Int) (g:Zq):Option (Ctl ((List Int)×(List Bool)) (Unit⊕Bool)):= (X7 b t0.2.length).bind λd=> (t0.2[d]?).bind λh=> (Z4 g.Y6 b).bind λc=> if decide (c.Ys≥0) then (Yp 8 (a++[c.Ys]).length).bind λi=> (Z4 g.Y6 b).bind λe=> (Yp 8 ((a++[c.Ys])++e.Yc).length).bind λj=> some (.next (((a++[c.Ys])++e.Yc),(t0.2.set d true))) else (Z4 g.Y6 b).bind λf=> (Yp 8 (a++f.Yc).length).bind λk=> some (.next ((a++f.Yc),(t0.2.set d true)))
def Zen (i:Zq) (h:Int) (t0:(List Int)×(List Bool)):Option (Ctl ((List Int)×(List Bool)) (Unit⊕Bool)):= if decide ((t0.1.length:Int)>0) then (some (wrap .i64 ((t0.1.length:Int) - 1))).bind λc=> (X7 c t0.1.length).bind λd=> (t0.1[d]?).bind λa=> (some (wrap .i64 ((t0.1.length:Int) - 1))).bind λe=> (Z2u t0.1 e).bind λb=> if a==h then some (.done (.inr true)) else if decide (a<h) then some (.next (b,t0.2)) else (X7 a t0.2.length).bind λf=> (t0.2[f]?).bind λg=> if g then some (.next (b,t0.2)) else (j83x3 t0 a b i) else some (.done (.inl (())))
def Zje (c:Zq) (b d:Int):Option (Bool):= (some (wrap .i64 (b+1))).bind λa=> (W5 1 a a).bind λg=> (Z8 (Zen c d) Zb ([b],(List.replicate a.toNat false))).bind λe=> match e with | .inl q0=>(some false) | .inr f=>(some f)
def j83x1 (b:Zq) (c a:Int):Option (Bool):= if c==a then some true else (Z4 b.Y6 a).bind λd=> if d.Xo.Zo==([108,97,110,103,47,79,98,106,101,99,116]:List UInt8) then some true else (Zje b c a)
def Z7g (a:Zq) (b c:Int):Option (Bool):= (Z4d a b).bind λd=> if !d then some false else (Z4d a c).bind λe=> if !e then some false else (j83x1 a b c)
def Zmb (a:Zq) (b:Int):((List Int)×(List Bool))→SL:= λt0=>⟨88,[(2,dI b),(3,.ptr (Yq a)),(7,.lsl 7 0 ((t0.1.map Z5).length)),(8,.lsl 8 0 ((t0.2.map Zu).length))],[(7,Zd 1 (t0.1.map Z5)),(8,Zd 1 (t0.2.map Zu))]⟩
def J83x1:JT (Unit⊕Bool):= ju (je 0 λq0:Unit=>⟨88,[],[]⟩) (jr prog f83 R83)
theorem wj83x3 (e:Int) {t0 b a d r Γ} (h:(j83x3 t0 b a d)=some r):Jn prog f83 Γ (Rd (Zmb d e) J83x1 r) 48415 ⟨88,[(2,dI e),(3,.ptr (Yq d)),(7,.lsl 7 0 ((a.map Z5).length)),(8,.lsl 8 0 ((t0.2.map Zu).length)),(9,dI b)],[(7,Zd 1 (a.map Z5)),(8,Zd 1 (t0.2.map Zu))]⟩:= so<|bd h λc f h=>bd h λp g h=>go [14] [rg 13 [(2,ia 8 f),(3,st g 0 [.bool true] true)]]<|nm (congrArg (λnn:Nat=>(⟨88,[(2,dI e),(3,.ptr (Yq d)),(7,.lsl 7 0 ((a.map Z5).length)),(8,.lsl 8 0 nn),(9,dI b)],[(7,Zd 1 (a.map Z5)),(8,Zd 1 ((t0.2.set c true).map Zu))]⟩:SL)) (by simp only[List.length_map,List.length_set]:(t0.2.map Zu).length=((t0.2.set c true).map Zu).length))<|so<|bd h λq i h=>Z0 14 [(3,ix i)]<|br h (λj h=>bd h λs k h=>bd h λt l h=>bd h λu m h=>go [] [rg 16 [(2,br0 1 0),(3,ap k)],rg 17 [(4,ix l),(7,ap m)]]<|nx h) λj h=> bd h λv n h=>bd h λw o h=>Z0 17 [(4,ix n),(7,ap o)]<|nx h
theorem wl83x1 {d c t0 r Γ} (h:(Zen d c) t0=some r):A prog Γ (lpC f83 159) [] (Rd (Zmb d c) J83x1 r) ((Zmb d c) t0).s:= Z0 7 [(1,ln t0.1)]<|br h (λo h=>bd h λp e h=>bd h λq f h=>bd h λt g h=>bd h λu i h=>bd h λv b h=>go [10] [rg 8 [(2,ln t0.1),(3,n e),(4,ia 7 f),(5,lb g)],rg 9 [(2,ln t0.1),(3,n i),(4,ck b)]]<|ctE 7 7 b<|so<|Z2<|br h (λj h=>Z2<|dn h (i2 iR)) λj h=> sp h (λa h=>Z0 12 [(2,kb a)]<|bT rfl<|Z2<|nx h) λa h=> bd h λw k h=>bd h λx l h=>Z0 12 [(2,kb a),(6,ia 8 k),(7,lb l)]<|br h (λm h=>Z2<|nx h) λm h=> go [13] []<|jn ((wj83x3 c) h)) λo h=> Z2<|dn h (i1 iE)
theorem wj83x2 {b c d r Γ} (h:(Zje b c d)=some r):JnE prog f83 Γ (R83 r) 23 ⟨88,[(1,dI c),(2,dI d),(3,.ptr (Yq b))],[]⟩:= so<|bd h λi e h=>bd h λj f h=>go [] [rg 5 [(1,bl 1 0)],rg 6 [(1,n e),(2,mk false f)]]<|bd h λg a h=>lp (ps:=[(35,7),(38,8)]) a wl83x1<|match g,h with | .inl q0,h=>j1<|(qe<|Xq h) | .inr k,h=>j2<|(qr h)
theorem wj83x1 {b c d r Γ} (h:(j83x1 b c d)=some r):JnE prog f83 Γ (R83 r) 19 ⟨88,[(1,dI c),(2,dI d),(3,.ptr (Yq b))],[]⟩:= so<|sp h (λa h=>Z0 3 [(2,kb a)]<|bT rfl<|Z3 h) λa h=> bd h λg e h=>Z0 3 [(2,kb a),(7,ix e)]<|br h (λf h=>Z3 h) λf h=> go [5] []<|jn (wj83x2 h)
theorem w83 {b c d r} (h:Z7g b c d=some r):Zi prog 83 [.agg (Yq b),dI c,dI d] (R83 r):= cs f83<|bd h λi e h=>sp h (λa h=>go [] [rg 0 [(0,bo)],rg 1 ((2,k (w107 e))::gA a 5 4 [(9,py a)])]<|bT rfl<|Z3 h) λa h=> bd h λj f h=>go [] [rg 0 [(0,bo)],rg 1 ((2,k (w107 e))::gC a 5 2 [(7,gw a (k (w107 f))),(8,gw a g0),(9,pn a)])]<|br h (λg h=>Z3 h) λg h=> go [3] []<|jn (wj83x1 h)
def R52 (a:(List Int)):D:=(slF Z5 a)
def Z76 (t0:Int×(List Int)) (b:Int×Bool) (f:Zq) (t2:Int×(List Int)):Option (Ctl (Int×(List Int)) (List Int)):= if decide (t2.1<(t0.2.length:Int)) then (Z7g f t2.1 b.1).bind λc=> if c then (X7 t2.1 t2.2.length).bind λa=> (t2.2[a]?).bind λg=> (some (wrap .i64 (t2.1+1))).bind λd=> some (.next (d,(t2.2.set a t0.1))) else (some (wrap .i64 (t2.1+1))).bind λe=> some (.next (e,t2.2)) else some (.done (t2.2))
def l52x1 (e:Zq) (t0:Int×(List Int)):Option (Ctl (Int×(List Int)) (List Int)):= if decide (t0.1<4) then (Z4 gl0 t0.1).bind λb=> (Z6d e 0 b).bind λa=> if !a.2 then (some (wrap .i64 (t0.1+1))).bind λc=> some (.next (c,t0.2)) else (Z8 (Z76 t0 a e) Zb (0,t0.2)).bind λf=> (some (wrap .i64 (t0.1+1))).bind λd=> some (.next (d,f)) else some (.done (t0.2))
def Z8f (a:Zq):Option (List Int):= (W5 8 (a.Y6.length:Int) (a.Y6.length:Int)).bind λb=> (Z8 (l52x1 a) Zb (1,(List.replicate (a.Y6.length:Int).toNat 0))).bind λq4=> some q4
def Zuy (t0:Int×(List Int)) (a:Int×Bool) (b:Zq):(Int×(List Int))→SL:= λt2=>⟨41,[(1,.ptr (Yq b)),(3,.lsl 3 0 ((t2.2.map Z5).length)),(4,dI t0.1),(5,dI a.1),(27,dI (t0.2.length:Int)),(28,dI t2.1)],[(3,Zd 1 (t2.2.map Z5))]⟩
def J52x2 (t0:Int×(List Int)) (b:Zq):JT (List Int):= je 2 λa:(List Int)=>⟨41,[(1,.ptr (Yq b)),(3,.lsl 3 0 ((a.map Z5).length)),(4,dI t0.1)],[(3,Zd 1 (a.map Z5))]⟩
theorem wl52x2 {t0 a b t2 r Γ} (h:(Z76 t0 a b) t2=some r):A prog Γ (lpC f52 11851) [] (Rd (Zuy t0 a b) (J52x2 t0 b) r) ((Zuy t0 a b) t2).s:= Z2<|br h (λl h=>bd h λm d h=>Z0 10 [(3,k (w83 d))]<|br h (λe h=>bd h λc f h=>bd h λo g h=>go [12] [rg 11 [(3,ia 3 f),(4,st g 0 [dI t0.1] t0.1)]]<|nm (congrArg (λnn:Nat=>(⟨41,[(1,.ptr (Yq b)),(3,.lsl 3 0 nn),(4,dI t0.1),(5,dI a.1),(27,dI (t0.2.length:Int)),(28,dI t2.1)],[(3,Zd 1 ((t2.2.set c t0.1).map Z5))]⟩:SL)) (by simp only[List.length_map,List.length_set]:(t2.2.map Z5).length=((t2.2.set c t0.1).map Z5).length))<|so<|bd h λp i h=>Z0 12 [(0,n i)]<|nx h) λe h=> bd h λq j h=>Z0 12 [(0,n j)]<|nx h) λl h=> Z2<|dn h (iE)
def Y0k (a:Zq):(Int×(List Int))→SL:= λt0=>⟨41,[(1,.ptr (Yq a)),(3,.lsl 3 0 ((t0.2.map Z5).length)),(4,dI t0.1)],[(3,Zd 1 (t0.2.map Z5))]⟩
def J52x1:JT (List Int):= je 0 λq4:(List Int)=>⟨41,[(3,.lsl 3 0 ((q4.map Z5).length))],[(3,Zd 1 (q4.map Z5))]⟩
theorem wl52x1 {a t0 r Γ} (h:(l52x1 a) t0=some r):A prog Γ (lpC f52 43) [] (Rd (Y0k a) J52x1 r) ((Y0k a) t0).s:= Z2<|br h (λg h=>bd h λi b h=>bd h λj c h=>Z0 5 [(2,axs 4 b),(4,k (w82 c))]<|br h (λl h=>bd h λm d h=>Z0 4 [(1,n d)]<|nx h) λl h=> Z0 7 [(1,ln t0.2)]<|bd h λp e h=>lp e wl52x2<|qe<|bd h λo f h=>goN [] [rg 4 [(1,n f)]]<|nx h) λg h=> Z2<|dn h (iE)
theorem w52 {a r} (h:Z8f a=some r):Zi prog 52 [.agg (Yq a)] (R52 r):= cs f52<|bd h λd c h=>go [] [rg 0 [(0,bo)],rg 1 [(2,ln a.Y6),(3,mk (0:Int) c)]]<|bd h λq4 b h=>lp (ps:=[(11,3)]) b wl52x1<|qe<|goN [] []<|rtB h (rw_ q4) (a2 (rpI q4) trivial) (by simp only[rwE] <;> kernel_rfl)
def R56 (a:(List Zf)×Int):D:= .tup [slF Y8 a.1,.int .i64 a.2]
def j56x1 (a:Zm):Option ((List Zf)×Int):= (Z4 a.Zw 0).bind λb=> if b.Zj==3 then (sub a.Zw 1 (a.Zw.length:Int)).bind λc=> some (c,b.f_N) else (sub a.Zw 1 (a.Zw.length:Int)).bind λd=> some (d,0)
def Zbg (a:Zm) (b:Int):Option ((List Zf)×Int):= if b==0 then some (a.Zw,0) else if (a.Zw.length:Int)==0 then some (a.Zw,0) else (j56x1 a)
theorem wj56x1 {a r Γ} (h:(j56x1 a)=some r):JnE prog f56 Γ (R56 r) 19 ⟨32,[(2,.ptr (Ya a))],[]⟩:= so<|bd h λf b h=>Z0 3 [(2,ix b)]<|br h (λc h=>bd h λg d h=>Z0 5 [(2,sbN d)]<|rt h) λc h=> bd h λi e h=>Z0 6 [(2,sbN e)]<|rt h
theorem w56 {a c r} (h:Zbg a c=some r):Zi prog 56 [.agg (Ya a),dI c] (R56 r):= cs f56<|sp h (λb h=>go [] [rg 0 [(0,bo)],rg 1 [(1,kb b)]]<|bT rfl<|Z3 h) λb h=> go [] [rg 0 [(0,bo)],rg 1 [(1,kb b),(5,ln a.Zw)]]<|br h (λd h=>Z3 h) λd h=> go [3] []<|jn (wj56x1 h)
def R47 (a:Int):D:= .int .i64 a
def l47x1 (a:List Int) (b t0:Int):Option (Ctl (Int) (Unit⊕Int)):= if decide (t0<(a.length:Int)) then (Z4 a t0).bind λc=> if b==c then some (.done (.inr t0)) else (some (wrap .i64 (t0+1))).bind λd=> some (.next d) else some (.done (.inl (())))
def Zgq (a:List Int) (b:Int):Option (Int):= (Z8 (l47x1 a b) Zb 0).bind λc=> match c with | .inl q0=>(some (-1)) | .inr d=>(some d)
def Zsf (a:List Int) (b:Int):Int→SL:= λt0=>⟨19,[(0,slF Z5 a),(1,dI b),(7,dI (a.length:Int)),(8,dI t0)],[]⟩
def J47x1:JT (Unit⊕Int):= ju (je 0 λq0:Unit=>⟨19,[],[]⟩) (jr prog f47 R47)
theorem wl47x1 {a b t0 r Γ} (h:(l47x1 a b) t0=some r):A prog Γ (lpC f47 21) [] (Rd (Zsf a b) J47x1 r) ((Zsf a b) t0).s:= Z2<|br h (λc h=>bd h λg d h=>Z0 4 [(3,ix d)]<|br h (λe h=>Z2<|dn h (i2 iR)) λe h=> bd h λi f h=>Z0 6 [(0,n f)]<|nx h) λc h=> Z2<|dn h (i1 iE)
theorem w47 {a b r} (h:Zgq a b=some r):Zi prog 47 [slF Z5 a,dI b] (R47 r):= cs f47<|Z0 1 [(1,ln a)]<|bd h λc d h=>lp d wl47x1<|match c,h with | .inl q0,h=>j1<|(qe<|Xq h) | .inr e,h=>j2<|(qr h)
def R24 (a:Bool):D:= .bool a
def Z5l (a:List Int) (b:Int):Option (Bool):= (Zgq a b).bind λc=> some (decide (c≥0))
theorem w24 {a b r} (h:Z5l a b=some r):Zi prog 24 [slF Z5 a,dI b] (R24 r):= cs f24<|bd h λd c h=>Z0 1 [(2,k (w47 c))]<|rt h
def R57 (a:(List Int)):D:=(slF Z5 a)
def j57x1 (t0:Int×(List Int)) (b:Zf):Option (Ctl (Int×(List Int)) (List Int)):= (Yp 8 (t0.2++[b.f_N]).length).bind λc=> (some (wrap .i64 (t0.1+1))).bind λa=> some (.next (a,(t0.2++[b.f_N])))
def Z96 (c:List Zf) (t0:Int×(List Int)):Option (Ctl (Int×(List Int)) (List Int)):= if decide (t0.1<(c.length:Int)) then (Z4 c t0.1).bind λa=> if a.Zj==3 then if a.f_N !=0 then (Z5l t0.2 a.f_N).bind λd=> if !d then (j57x1 t0 a) else (some (wrap .i64 (t0.1+1))).bind λe=> some (.next (e,t0.2)) else (some (wrap .i64 (t0.1+1))).bind λf=> some (.next (f,t0.2)) else (some (wrap .i64 (t0.1+1))).bind λb=> some (.next (b,t0.2)) else some (.done (t0.2))
def Zeh (a:List Zf):Option (List Int):= (Z8 (Z96 a) Zb (0,([]:List Int))).bind λq0=> some q0
def Zmi (a:List Zf):(Int×(List Int))→SL:= λt0=>⟨34,[(3,.lsl 3 0 ((t0.2.map Z5).length)),(6,slF Y8 a),(7,dI (a.length:Int)),(8,dI t0.1)],[(3,Zd 1 (t0.2.map Z5))]⟩
def J57x1:JT (List Int):= je 0 λq0:(List Int)=>⟨34,[(3,.lsl 3 0 ((q0.map Z5).length))],[(3,Zd 1 (q0.map Z5))]⟩
theorem wj57x1 (a:List Zf) {t0 d r Γ} (h:(j57x1 t0 d)=some r):Jn prog f57 Γ (Rd (Zmi a) J57x1 r) 11467 ⟨34,[(3,.lsl 3 0 ((t0.2.map Z5).length)),(5,.lptr 5 0 0),(6,slF Y8 a),(7,dI (a.length:Int)),(8,dI t0.1)],[(3,Zd 1 (t0.2.map Z5)),(5,Zc 2 [Y8 d])]⟩:= so<|bd h λe b h=>bd h λf c h=>go [] [rg 6 [(3,br0 1 0),(4,ap b)],rg 7 [(0,n c)]]<|nx h
theorem wl57x1 {c t0 r Γ} (h:(Z96 c) t0=some r):A prog Γ (lpC f57 43) [] (Rd (Zmi c) J57x1 r) ((Zmi c) t0).s:= Z2 <| br h (λf h=>bd h λg i h=>go [5] [rg 4 [(0,ix i)]]<|po<|pr 4 []<|sp h (λb h=>pr 5 (gC b 4 3 [(7,py b)])<|sp h (λa h=>bd h λo j h=>pr 6 (gC a 9 3 [(12,gw a (kB (a2 (rpI t0.2) (a2 trivial trivial)) [rw_ t0.2,dI g.f_N] (by simp only[rwE] <;> kernel_rfl) (w24 j))),(13,gw a g0),(14,py a)])<|Z9<|br h (λd h=>go [6] []<|jn ((wj57x1 c) h)) λd h=> bd h λp k h=>Z0 7 [(0,n k)]<|nx h) λa h=> pr 6 (gB a 9 5 [(14,pn a)])<|Z9<|bF rfl<|bd h λq l h=>Z0 7 [(0,n l)]<|nx h) λb h=> pr 11 (gB b 4 3 [(7,pn b)])<|Z9<|bF rfl<|bd h λm e h=>Z0 7 [(0,n e)]<|nx h) λf h=> Z2<|dn h (iE)
theorem w57 {a r} (h:Zeh a=some r):Zi prog 57 [slF Y8 a] (R57 r):= cs f57<|Z0 2 [(1,ln a)]<|bd h λq0 b h=>lp (cv:=[.tmp 3 3 1]) b wl57x1<|qe<|goN [] []<|rtB h (rw_ q0) (a2 (rpI q0) trivial) (by simp only[rwE] <;> kernel_rfl)
end Go.Proofs
