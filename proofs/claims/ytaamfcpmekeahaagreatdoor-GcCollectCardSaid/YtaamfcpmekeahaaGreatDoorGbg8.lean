/-
  Models of functions of the program, and that the functions compute them. Printed by den3.py. No condition.
-/
import Derived.Test.YtaamfcpmekeahaaGreatDoorGbgR
set_option linter.unusedVariables false
set_option linter.unusedSimpArgs false
namespace Go.Proofs
open IntKind (wrap)
open Tryz
open Go.Den Go.Den.W
def R55 (a:Int):D:= .int .i64 a
def Zah (c:List Int) (a:Zm):Option (Int):= if a.Zj !=1 then some 0 else (Z4 c a.Zt.Zy).bind λb=> some b
theorem w55 {a b r} (h:Zah a b=some r):Zi prog 55 [slF Z5 a,.agg (Ya b)] (R55 r):= cs f55<|Z0 0 [(0,bo)]<|br h (λd h=>Z3 h) λd h=> bd h λe c h=>Z0 3 [(4,ix c)]<|rt h
def R82 (a:Int×Bool):D:= .tup [.int .i64 a.1,.bool a.2]
def Zey (b:Zq) (e:Int) (f:List UInt8) (t0:Int):Option (Ctl (Int) (Unit⊕(Int×Bool))):= if decide (t0<(b.Yr.length:Int)) then (Z4 b.Yr t0).bind λa=> if a.Xn==e then if a.Zn==f then some (.done (.inr (a.Zy,true))) else (some (wrap .i64 (t0+1))).bind λc=> some (.next c) else (some (wrap .i64 (t0+1))).bind λd=> some (.next d) else some (.done (.inl (())))
def Zaf (b:Zq) (c:Int) (d:List UInt8):Option (Int×Bool):= (Z8 (Zey b c d) Zb 0).bind λa=> match a with | .inl q0=>(some (0,false)) | .inr e=>(some e)
def Zyt (a:Zq) (b:Int) (c:List UInt8):Int→SL:= λt0=>⟨30,[(1,dI b),(2,.str c),(11,slF Qa a.Yr),(12,dI (a.Yr.length:Int)),(13,dI t0)],[]⟩
def J82x1:JT (Unit⊕(Int×Bool)):= ju (je 0 λq0:Unit=>⟨30,[],[]⟩) (jr prog f82 R82)
theorem wl82x1 {b c d t0 r Γ} (h:(Zey b c d) t0=some r):A prog Γ (lpC f82 21) [] (Rd (Zyt b c d) J82x1 r) ((Zyt b c d) t0).s:= Z2<|br h (λi h=>bd h λk e h=>sp h (λa h=>go [] [rg 3 [(0,ix e)],rg 4 [(3,kb a)]]<|br h (λj h=>Z2<|dn h (i2 iR)) λj h=> bd h λl f h=>Z0 6 [(0,n f)]<|nx h) λa h=> go [] [rg 3 [(0,ix e)],rg 4 [(3,kb a)]]<|bF rfl<|bd h λm g h=>Z0 6 [(0,n g)]<|nx h) λi h=> Z2<|dn h (i1 iE)
theorem w82 {a b c r} (h:Zaf a b c=some r):Zi prog 82 [.agg (Yq a),dI b,.str c] (R82 r):= cs f82<|go [] [rg 0 [(0,bo)],rg 1 [(2,ln a.Yr)]]<|bd h λe d h=>lp d wl82x1<|match e,h with | .inl q0,h=>j1<|(qe<|Xs h) | .inr f,h=>j2<|(qr h)
def R107 (a:Bool):D:= .bool a
def Z5e (b:Zq) (a:Int):Option (Bool):= if decide (a≥0) then some (decide (a<(b.Y6.length:Int))) else some false
theorem w107 {b c r} (h:Z5e b c=some r):Zi prog 107 [.agg (Yq b),dI c] (R107 r):= cs f107<|sp h (λa h=>go [] [rg 0 [(0,bo)],rg 1 [(1,kb a),(6,ln b.Y6)]]<|rt h) λa h=> go [] [rg 0 [(0,bo)],rg 1 [(1,kb a)]]<|rt h
def R83 (a:Bool):D:= .bool a
def j83x3 (t0:(List Int)×(List Bool)) (b:Int) (a:List Int) (g:Zq):Option (Ctl ((List Int)×(List Bool)) (Unit⊕Bool)):= (X7 b t0.2.length).bind λd=> (t0.2[d]?).bind λh=> (Z4 g.Y6 b).bind λc=> if decide (c.Ys≥0) then (Yp 8 (a++[c.Ys]).length).bind λi=> (Z4 g.Y6 b).bind λe=> (Yp 8 ((a++[c.Ys])++e.Yc).length).bind λj=> some (.next (((a++[c.Ys])++e.Yc),(t0.2.set d true))) else (Z4 g.Y6 b).bind λf=> (Yp 8 (a++f.Yc).length).bind λk=> some (.next ((a++f.Yc),(t0.2.set d true)))
def Zez (i:Zq) (h:Int) (t0:(List Int)×(List Bool)):Option (Ctl ((List Int)×(List Bool)) (Unit⊕Bool)):= if decide ((t0.1.length:Int)>0) then (some (wrap .i64 ((t0.1.length:Int) - 1))).bind λc=> (X7 c t0.1.length).bind λd=> (t0.1[d]?).bind λa=> (some (wrap .i64 ((t0.1.length:Int) - 1))).bind λe=> (Z3m t0.1 e).bind λb=> if a==h then some (.done (.inr true)) else if decide (a<h) then some (.next (b,t0.2)) else (X7 a t0.2.length).bind λf=> (t0.2[f]?).bind λg=> if g then some (.next (b,t0.2)) else (j83x3 t0 a b i) else some (.done (.inl (())))
def Zcr (d:Zq) (b e:Int):Option (Bool):= (some (wrap .i64 (b+1))).bind λa=> (W2 1 a a).bind λg=> (Z8 (Zez d e) Zb ([b],(List.replicate a.toNat false))).bind λc=> match c with | .inl q0=>(some false) | .inr f=>(some f)
def j83x1 (b:Zq) (c a:Int):Option (Bool):= if c==a then some true else (Z4 b.Y6 a).bind λd=> if d.Xp.Zn==([108,97,110,103,47,79,98,106,101,99,116]:List UInt8) then some true else (Zcr b c a)
def Zag (a:Zq) (b c:Int):Option (Bool):= (Z5e a b).bind λd=> if !d then some false else (Z5e a c).bind λe=> if !e then some false else (j83x1 a b c)
def Zpj (a:Zq) (b:Int):((List Int)×(List Bool))→SL:= λt0=>⟨88,[(2,dI b),(3,.ptr (Yq a)),(7,.lsl 7 0 ((t0.1.map Z5).length)),(8,.lsl 8 0 ((t0.2.map Zu).length))],[(7,Zd 1 (t0.1.map Z5)),(8,Zd 1 (t0.2.map Zu))]⟩
def J83x1:JT (Unit⊕Bool):= ju (je 0 λq0:Unit=>⟨88,[],[]⟩) (jr prog f83 R83)
theorem wj83x3 (o:Int) {t0 b a d r Γ} (h:(j83x3 t0 b a d)=some r):Jn prog f83 Γ (Rd (Zpj d o) J83x1 r) 48415 ⟨88,[(2,dI o),(3,.ptr (Yq d)),(7,.lsl 7 0 ((a.map Z5).length)),(8,.lsl 8 0 ((t0.2.map Zu).length)),(9,dI b)],[(7,Zd 1 (a.map Z5)),(8,Zd 1 (t0.2.map Zu))]⟩:= so<|bd h λc e h=>bd h λp f h=>go [14] [rg 13 [(2,ia 8 e),(3,st f 0 [.bool true] true)]]<|nm (congrArg (λnn:Nat=>(⟨88,[(2,dI o),(3,.ptr (Yq d)),(7,.lsl 7 0 ((a.map Z5).length)),(8,.lsl 8 0 nn),(9,dI b)],[(7,Zd 1 (a.map Z5)),(8,Zd 1 ((t0.2.set c true).map Zu))]⟩:SL)) (by simp only[List.length_map,List.length_set]:(t0.2.map Zu).length=((t0.2.set c true).map Zu).length))<|so<|bd h λq g h=>Z0 14 [(3,ix g)]<|br h (λn h=>bd h λs i h=>bd h λt j h=>bd h λu k h=>go [] [rg 16 [(2,br0 1 0),(3,ap i)],rg 17 [(4,ix j),(7,ap k)]]<|nx h) λn h=> bd h λv l h=>bd h λw m h=>Z0 17 [(4,ix l),(7,ap m)]<|nx h
theorem wl83x1 {m c t0 r Γ} (h:(Zez m c) t0=some r):A prog Γ (lpC f83 159) [] (Rd (Zpj m c) J83x1 r) ((Zpj m c) t0).s:= Z0 7 [(1,ln t0.1)]<|br h (λo h=>bd h λp d h=>bd h λq e h=>bd h λt f h=>bd h λu g h=>bd h λv b h=>go [10] [rg 8 [(2,ln t0.1),(3,n d),(4,ia 7 e),(5,lb f)],rg 9 [(2,ln t0.1),(3,n g),(4,ck b)]]<|ctE 7 7 b<|so<|Z2<|br h (λk h=>Z2<|dn h (i2 iR)) λk h=> sp h (λa h=>Z0 12 [(2,kb a)]<|bT rfl<|Z2<|nx h) λa h=> bd h λw i h=>bd h λx j h=>Z0 12 [(2,kb a),(6,ia 8 i),(7,lb j)]<|br h (λl h=>Z2<|nx h) λl h=> go [13] []<|jn ((wj83x3 c) h)) λo h=> Z2<|dn h (i1 iE)
theorem wj83x2 {b c d r Γ} (h:(Zcr b c d)=some r):JnE prog f83 Γ (R83 r) 23 ⟨88,[(1,dI c),(2,dI d),(3,.ptr (Yq b))],[]⟩:= so<|bd h λi e h=>bd h λj f h=>go [] [rg 5 [(1,bl 1 0)],rg 6 [(1,n e),(2,mk false f)]]<|bd h λg a h=>lp (ps:=[(35,7),(38,8)]) a wl83x1<|match g,h with | .inl q0,h=>j1<|(qe<|Xs h) | .inr k,h=>j2<|(qr h)
theorem wj83x1 {b c d r Γ} (h:(j83x1 b c d)=some r):JnE prog f83 Γ (R83 r) 19 ⟨88,[(1,dI c),(2,dI d),(3,.ptr (Yq b))],[]⟩:= so<|sp h (λa h=>Z0 3 [(2,kb a)]<|bT rfl<|Z3 h) λa h=> bd h λg e h=>Z0 3 [(2,kb a),(7,ix e)]<|br h (λf h=>Z3 h) λf h=> go [5] []<|jn (wj83x2 h)
theorem w83 {c d e r} (h:Zag c d e=some r):Zi prog 83 [.agg (Yq c),dI d,dI e] (R83 r):= cs f83<|bd h λi b h=>sp h (λa h=>go [] [rg 0 [(0,bo)],rg 1 ((2,k (w107 b))::gA a 5 4 [(9,py a)])]<|bT rfl<|Z3 h) λa h=> bd h λj f h=>go [] [rg 0 [(0,bo)],rg 1 ((2,k (w107 b))::gC a 5 2 [(7,gw a (k (w107 f))),(8,gw a g0),(9,pn a)])]<|br h (λg h=>Z3 h) λg h=> go [3] []<|jn (wj83x1 h)
def R52 (a:(List Int)):D:=(slF Z5 a)
def Z8u (t0:Int×(List Int)) (b:Int×Bool) (g:Zq) (t2:Int×(List Int)):Option (Ctl (Int×(List Int)) (List Int)):= if decide (t2.1<(t0.2.length:Int)) then (Zag g t2.1 b.1).bind λc=> if c then (X7 t2.1 t2.2.length).bind λa=> (t2.2[a]?).bind λf=> (some (wrap .i64 (t2.1+1))).bind λd=> some (.next (d,(t2.2.set a t0.1))) else (some (wrap .i64 (t2.1+1))).bind λe=> some (.next (e,t2.2)) else some (.done (t2.2))
def l52x1 (e:Zq) (t0:Int×(List Int)):Option (Ctl (Int×(List Int)) (List Int)):= if decide (t0.1<4) then (Z4 gl0 t0.1).bind λb=> (Zaf e 0 b).bind λa=> if !a.2 then (some (wrap .i64 (t0.1+1))).bind λc=> some (.next (c,t0.2)) else (Z8 (Z8u t0 a e) Zb (0,t0.2)).bind λf=> (some (wrap .i64 (t0.1+1))).bind λd=> some (.next (d,f)) else some (.done (t0.2))
def Zai (a:Zq):Option (List Int):= (W2 8 (a.Y6.length:Int) (a.Y6.length:Int)).bind λb=> (Z8 (l52x1 a) Zb (1,(List.replicate (a.Y6.length:Int).toNat 0))).bind λq4=> some q4
def Zy0 (t0:Int×(List Int)) (a:Int×Bool) (b:Zq):(Int×(List Int))→SL:= λt2=>⟨41,[(1,.ptr (Yq b)),(3,.lsl 3 0 ((t2.2.map Z5).length)),(4,dI t0.1),(5,dI a.1),(27,dI (t0.2.length:Int)),(28,dI t2.1)],[(3,Zd 1 (t2.2.map Z5))]⟩
def J52x2 (t0:Int×(List Int)) (b:Zq):JT (List Int):= je 2 λa:(List Int)=>⟨41,[(1,.ptr (Yq b)),(3,.lsl 3 0 ((a.map Z5).length)),(4,dI t0.1)],[(3,Zd 1 (a.map Z5))]⟩
theorem wl52x2 {t0 a c t2 r Γ} (h:(Z8u t0 a c) t2=some r):A prog Γ (lpC f52 11851) [] (Rd (Zy0 t0 a c) (J52x2 t0 c) r) ((Zy0 t0 a c) t2).s:= Z2<|br h (λl h=>bd h λm d h=>Z0 10 [(3,k (w83 d))]<|br h (λj h=>bd h λb e h=>bd h λo f h=>go [12] [rg 11 [(3,ia 3 e),(4,st f 0 [dI t0.1] t0.1)]]<|nm (congrArg (λnn:Nat=>(⟨41,[(1,.ptr (Yq c)),(3,.lsl 3 0 nn),(4,dI t0.1),(5,dI a.1),(27,dI (t0.2.length:Int)),(28,dI t2.1)],[(3,Zd 1 ((t2.2.set b t0.1).map Z5))]⟩:SL)) (by simp only[List.length_map,List.length_set]:(t2.2.map Z5).length=((t2.2.set b t0.1).map Z5).length))<|so<|bd h λp g h=>Z0 12 [(0,n g)]<|nx h) λj h=> bd h λq i h=>Z0 12 [(0,n i)]<|nx h) λl h=> Z2<|dn h (iE)
def Zxz (a:Zq):(Int×(List Int))→SL:= λt0=>⟨41,[(1,.ptr (Yq a)),(3,.lsl 3 0 ((t0.2.map Z5).length)),(4,dI t0.1)],[(3,Zd 1 (t0.2.map Z5))]⟩
def J52x1:JT (List Int):= je 0 λq4:(List Int)=>⟨41,[(3,.lsl 3 0 ((q4.map Z5).length))],[(3,Zd 1 (q4.map Z5))]⟩
theorem wl52x1 {f t0 r Γ} (h:(l52x1 f) t0=some r):A prog Γ (lpC f52 43) [] (Rd (Zxz f) J52x1 r) ((Zxz f) t0).s:= Z2<|br h (λg h=>bd h λj a h=>bd h λl b h=>Z0 5 [(2,axs 4 a),(4,k (w82 b))]<|br h (λi h=>bd h λm c h=>Z0 4 [(1,n c)]<|nx h) λi h=> Z0 7 [(1,ln t0.2)]<|bd h λp d h=>lp d wl52x2<|qe<|bd h λo e h=>goN [] [rg 4 [(1,n e)]]<|nx h) λg h=> Z2<|dn h (iE)
theorem w52 {b r} (h:Zai b=some r):Zi prog 52 [.agg (Yq b)] (R52 r):= cs f52<|bd h λd c h=>go [] [rg 0 [(0,bo)],rg 1 [(2,ln b.Y6),(3,mk (0:Int) c)]]<|bd h λq4 a h=>lp (ps:=[(11,3)]) a wl52x1<|qe<|goN [] []<|rtB h (rw_ q4) (a2 (rpI q4) trivial) (by simp only[rwE] <;> kernel_rfl)
def R56 (a:(List Zf)×Int):D:= .tup [slF Y8 a.1,.int .i64 a.2]
def j56x1 (a:Zm):Option ((List Zf)×Int):= (Z4 a.Zw 0).bind λb=> if b.Zj==3 then (sub a.Zw 1 (a.Zw.length:Int)).bind λc=> some (c,b.f_N) else (sub a.Zw 1 (a.Zw.length:Int)).bind λd=> some (d,0)
def Zhx (a:Zm) (b:Int):Option ((List Zf)×Int):= if b==0 then some (a.Zw,0) else if (a.Zw.length:Int)==0 then some (a.Zw,0) else (j56x1 a)
theorem wj56x1 {a r Γ} (h:(j56x1 a)=some r):JnE prog f56 Γ (R56 r) 19 ⟨32,[(2,.ptr (Ya a))],[]⟩:= so<|bd h λf b h=>Z0 3 [(2,ix b)]<|br h (λe h=>bd h λg c h=>Z0 5 [(2,sbN c)]<|rt h) λe h=> bd h λi d h=>Z0 6 [(2,sbN d)]<|rt h
theorem w56 {b c r} (h:Zhx b c=some r):Zi prog 56 [.agg (Ya b),dI c] (R56 r):= cs f56<|sp h (λa h=>go [] [rg 0 [(0,bo)],rg 1 [(1,kb a)]]<|bT rfl<|Z3 h) λa h=> go [] [rg 0 [(0,bo)],rg 1 [(1,kb a),(5,ln b.Zw)]]<|br h (λd h=>Z3 h) λd h=> go [3] []<|jn (wj56x1 h)
def R47 (a:Int):D:= .int .i64 a
def l47x1 (a:List Int) (d t0:Int):Option (Ctl (Int) (Unit⊕Int)):= if decide (t0<(a.length:Int)) then (Z4 a t0).bind λb=> if d==b then some (.done (.inr t0)) else (some (wrap .i64 (t0+1))).bind λc=> some (.next c) else some (.done (.inl (())))
def Zhz (b:List Int) (c:Int):Option (Int):= (Z8 (l47x1 b c) Zb 0).bind λa=> match a with | .inl q0=>(some (-1)) | .inr d=>(some d)
def Zxy (a:List Int) (b:Int):Int→SL:= λt0=>⟨19,[(0,slF Z5 a),(1,dI b),(7,dI (a.length:Int)),(8,dI t0)],[]⟩
def J47x1:JT (Unit⊕Int):= ju (je 0 λq0:Unit=>⟨19,[],[]⟩) (jr prog f47 R47)
theorem wl47x1 {a b t0 r Γ} (h:(l47x1 a b) t0=some r):A prog Γ (lpC f47 21) [] (Rd (Zxy a b) J47x1 r) ((Zxy a b) t0).s:= Z2<|br h (λe h=>bd h λg c h=>Z0 4 [(3,ix c)]<|br h (λf h=>Z2<|dn h (i2 iR)) λf h=> bd h λi d h=>Z0 6 [(0,n d)]<|nx h) λe h=> Z2<|dn h (i1 iE)
theorem w47 {a b r} (h:Zhz a b=some r):Zi prog 47 [slF Z5 a,dI b] (R47 r):= cs f47<|Z0 1 [(1,ln a)]<|bd h λd c h=>lp c wl47x1<|match d,h with | .inl q0,h=>j1<|(qe<|Xs h) | .inr e,h=>j2<|(qr h)
def R24 (a:Bool):D:= .bool a
def Z5g (b:List Int) (c:Int):Option (Bool):= (Zhz b c).bind λa=> some (decide (a≥0))
theorem w24 {a b r} (h:Z5g a b=some r):Zi prog 24 [slF Z5 a,dI b] (R24 r):= cs f24<|bd h λd c h=>Z0 1 [(2,k (w47 c))]<|rt h
def R57 (a:(List Int)):D:=(slF Z5 a)
def j57x1 (t0:Int×(List Int)) (b:Zf):Option (Ctl (Int×(List Int)) (List Int)):= (Yp 8 (t0.2++[b.f_N]).length).bind λc=> (some (wrap .i64 (t0.1+1))).bind λa=> some (.next (a,(t0.2++[b.f_N])))
def Z93 (c:List Zf) (t0:Int×(List Int)):Option (Ctl (Int×(List Int)) (List Int)):= if decide (t0.1<(c.length:Int)) then (Z4 c t0.1).bind λa=> if a.Zj==3 then if a.f_N !=0 then (Z5g t0.2 a.f_N).bind λd=> if !d then (j57x1 t0 a) else (some (wrap .i64 (t0.1+1))).bind λe=> some (.next (e,t0.2)) else (some (wrap .i64 (t0.1+1))).bind λf=> some (.next (f,t0.2)) else (some (wrap .i64 (t0.1+1))).bind λb=> some (.next (b,t0.2)) else some (.done (t0.2))
def Zhy (a:List Zf):Option (List Int):= (Z8 (Z93 a) Zb (0,([]:List Int))).bind λq0=> some q0
def Zpe (a:List Zf):(Int×(List Int))→SL:= λt0=>⟨34,[(3,.lsl 3 0 ((t0.2.map Z5).length)),(6,slF Y8 a),(7,dI (a.length:Int)),(8,dI t0.1)],[(3,Zd 1 (t0.2.map Z5))]⟩
def J57x1:JT (List Int):= je 0 λq0:(List Int)=>⟨34,[(3,.lsl 3 0 ((q0.map Z5).length))],[(3,Zd 1 (q0.map Z5))]⟩
theorem wj57x1 (c:List Zf) {t0 d r Γ} (h:(j57x1 t0 d)=some r):Jn prog f57 Γ (Rd (Zpe c) J57x1 r) 11467 ⟨34,[(3,.lsl 3 0 ((t0.2.map Z5).length)),(5,.lptr 5 0 0),(6,slF Y8 c),(7,dI (c.length:Int)),(8,dI t0.1)],[(3,Zd 1 (t0.2.map Z5)),(5,Zc 2 [Y8 d])]⟩:= so<|bd h λe a h=>bd h λf b h=>go [] [rg 6 [(3,br0 1 0),(4,ap a)],rg 7 [(0,n b)]]<|nx h
theorem wl57x1 {c t0 r Γ} (h:(Z93 c) t0=some r):A prog Γ (lpC f57 43) [] (Rd (Zpe c) J57x1 r) ((Zpe c) t0).s:= Z2 <| br h (λk h=>bd h λm f h=>go [5] [rg 4 [(0,ix f)]]<|po<|pr 4 []<|sp h (λb h=>pr 5 (gC b 4 3 [(7,py b)])<|sp h (λa h=>bd h λo g h=>pr 6 (gC a 9 3 [(12,gw a (kB (a2 (rpI t0.2) (a2 trivial trivial)) [rw_ t0.2,dI m.f_N] (by simp only[rwE] <;> kernel_rfl) (w24 g))),(13,gw a g0),(14,py a)])<|Z9<|br h (λe h=>go [6] []<|jn ((wj57x1 c) h)) λe h=> bd h λp i h=>Z0 7 [(0,n i)]<|nx h) λa h=> pr 6 (gB a 9 5 [(14,pn a)])<|Z9<|bF rfl<|bd h λq j h=>Z0 7 [(0,n j)]<|nx h) λb h=> pr 11 (gB b 4 3 [(7,pn b)])<|Z9<|bF rfl<|bd h λl d h=>Z0 7 [(0,n d)]<|nx h) λk h=> Z2<|dn h (iE)
theorem w57 {b r} (h:Zhy b=some r):Zi prog 57 [slF Y8 b] (R57 r):= cs f57<|Z0 2 [(1,ln b)]<|bd h λq0 a h=>lp (cv:=[.tmp 3 3 1]) a wl57x1<|qe<|goN [] []<|rtB h (rw_ q0) (a2 (rpI q0) trivial) (by simp only[rwE] <;> kernel_rfl)
end Go.Proofs
