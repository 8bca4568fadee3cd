/-
  Models of functions of the program, and that the functions compute them. Printed by den3.py. No condition.
-/
import Derived.Test.YtaamfcpmekeahaaGreatDoorGbgW
set_option linter.unusedVariables false
set_option linter.unusedSimpArgs false
namespace Go.Proofs
open IntKind (wrap)
open Tryz
open Go.Den Go.Den.W
def R15 (a:(List Int)):D:=(slF Z5 a)
def j15x1 (t0:Int×(List Int)):Option (Ctl (Int×(List Int)) (List Int)):= (some (wrap .i64 (t0.1+1))).bind λa=> (Yp 8 (t0.2++[a]).length).bind λc=> (some (wrap .i64 (t0.1+1))).bind λb=> some (.next (b,(t0.2++[a])))
def Z8i (e:(List Int)) (g:Z6) (h:Bool) (t0:Int×(List Int)):Option (Ctl (Int×(List Int)) (List Int)):= if decide (t0.1<(e.length:Int)) then (Z4 e t0.1).bind λf=> (Z4 g.Z7 t0.1).bind λa=> if a.Zj !=0 then (Z3b f h).bind λb=> if !b then (j15x1 t0) else (some (wrap .i64 (t0.1+1))).bind λc=> some (.next (c,t0.2)) else (some (wrap .i64 (t0.1+1))).bind λd=> some (.next (d,t0.2)) else some (.done (t0.2))
def Z3a (a:Z6) (c:Bool):Option (List Int):= (Ki a).bind λb=> (Z8 (Z8i b a c) Zb (0,([]:List Int))).bind λq0=> some q0
def Zp0 (a:(List Int)) (b:Z6) (c:Bool):(Int×(List Int))→SL:= λt0=>⟨36,[(1,.bool c),(2,.ptr (Zr b)),(5,.lsl 5 0 ((t0.2.map Z5).length)),(9,slF Z5 a),(10,dI (a.length:Int)),(11,dI t0.1)],[(5,Zd 1 (t0.2.map Z5))]⟩
def J15x1:JT (List Int):= je 0 λq0:(List Int)=>⟨36,[(5,.lsl 5 0 ((q0.map Z5).length))],[(5,Zd 1 (q0.map Z5))]⟩
theorem wj15x1 (d:(List Int)) (e:Z6) (f:Bool) {t0 r Γ} (h:(j15x1 t0)=some r):Jn prog f15 Γ (Rd (Zp0 d e f) J15x1 r) 11467 ⟨36,[(1,.bool f),(2,.ptr (Zr e)),(5,.lsl 5 0 ((t0.2.map Z5).length)),(6,dI t0.1),(9,slF Z5 d),(10,dI (d.length:Int)),(11,dI t0.1)],[(5,Zd 1 (t0.2.map Z5))]⟩:= so<|bd h λg a h=>bd h λi b h=>bd h λj c h=>go [] [rg 6 [(2,n a),(3,br0 1 0),(4,ap b)],rg 7 [(0,n c)]]<|nx h
theorem wl15x1 {b c d t0 r Γ} (h:(Z8i b c d) t0=some r):A prog Γ (lpC f15 43) [] (Rd (Zp0 b c d) J15x1 r) ((Zp0 b c d) t0).s:= Z2<|br h (λl h=>bd h λu j h=>bd h λo a h=>sp h (λi h=>bd h λp e h=>go [] [rg 4 [(1,ix j)],rg 5 [(3,ix a),(6,kb i),(10,k (w28 e))]]<|br h (λm h=>go [6] []<|jn ((wj15x1 b c d) h)) λm h=> bd h λq f h=>Z0 7 [(0,n f)]<|nx h) λi h=> go [] [rg 4 [(1,ix j)],rg 5 [(3,ix a),(6,kb i)]]<|bF rfl<|bd h λt g h=>Z0 7 [(0,n g)]<|nx h) λl h=> Z2<|dn h (iE)
theorem w15 {b c r} (h:Z3a b c=some r):Zi prog 15 [.agg (Zr b),.bool c] (R15 r):= cs f15<|bd h λe d h=>go [] [rg 0 [(0,bo)],rg 2 [(1,k (w29 d)),(2,ln e)]]<|bd h λq0 a h=>lp (cv:=[.tmp 5 5 1]) a wl15x1<|qe<|goN [] []<|rtB h (rw_ q0) (a2 (rpI q0) trivial) (by simp only[rwE] <;> kernel_rfl)
def R33 (a:List Zm):D:= .lsl 0 0 ((a.map Ya).length)
def B33 (a:List Zm):List Blk:=[Zd 9 (a.map Ya)]
def Zns (a:List Zm):Option (List Zm):= (Yp 112 (([]:List Zm)++a).length).bind λb=> some a
theorem w33 {a r} (h:Zns a=some r):Vs prog 33 [slF Ya a] [Zd 9 []] (R33 r) (B33 r):=
 csO f33 (m:=1) (keep:=[false])<|bd h λf c h=>go [1] []<|po<|pr 1 []<|eN 1 3 4 28 28 53 false (a.map Ya) λb d=>pe<|goN [2,3] []<|bC (λe=>by
  obtain rfl:=nilE (R:=⟨Ya,9,λ_=>rfl⟩) (d e)
  exact go [2] []<|po<|pr 1 []<|pe<|rk ⟨8,[(2,.lsl 0 0 0)],[(0,Zd 9 [])]⟩ [.tmp 2 1000 9] [(1000,0)]<|Z2<|rtO h (.lsl 0 0 0) [Zd 9 []] trivial rfl) λe=>go [3] []<|po<|pr 4 [(0,bl 0 0),(2,ap c)]<|pe<|rk ⟨8,[(2,.lsl 0 0 ((a.map Ya).length))],[(0,Zd 9 (a.map Ya))]⟩ [] [(5,0)]<|Z2<|rtO h (.lsl 0 0 ((a.map Ya).length)) [Zd 9 (a.map Ya)] trivial rfl
def R51 (a:Bool):D:= .bool a
def Znr (b:Z6) (a:Int):Option (Bool):= if decide (a≥1) then if decide (a≤(b.Z7.length:Int)) then (some (wrap .i64 (a - 1))).bind λc=> (Z4 b.Z7 c).bind λd=> some (d.Zj !=0) else some false else some false
theorem w51 {c d r} (h:Znr c d=some r):Zi prog 51 [.agg (Zr c),dI d] (R51 r):= cs f51<|go [1] [rg 0 [(0,bo)]]<|po<|pr 3 []<|sp h (λb h=>pr 7 (gC b 3 3 [(6,gw b (ln c.Z7)),(7,gw b g0),(8,py b)])<|sp h (λa h=>bd h λg e h=>bd h λi f h=>pr 10 (gC a 10 3 ((13,gw a (n e))::(14,gw a (ix f))::gC a 15 3 [(18,py a)]))<|Zo h) λa h=> pr 10 (gB a 10 8 [(18,pn a)])<|Zo h) λb h=> pr 17 (gB b 3 5 [(8,pn b)])<|Zo h
def R27 (a:Zm×Bool):D:= .tup [.agg (Ya a.1),.bool a.2]
def Z1v (a:Z6) (b:Int):Option (Zm×Bool):= (Znr a b).bind λc=> if !c then some ((Zm.mk 0 (Q5.mk 0 0 0) [] [] 0 0 []),false) else (some (wrap .i64 (b - 1))).bind λd=> (Z4 a.Z7 d).bind λe=> some (e,true)
theorem w27 {a b r} (h:Z1v a b=some r):Zi prog 27 [.agg (Zr a),dI b] (R27 r):= cs f27<|bd h λg c h=>go [] [rg 0 [(0,bo)],rg 1 [(2,k (w51 c))]]<|br h (λf h=>Z3 h) λf h=> bd h λi d h=>bd h λj e h=>Z0 3 [(3,n d),(4,ix e)]<|rt h
def R59 (a:Int):D:= .int .i64 a
def Zhw (b:Z6) (e:Int):Option (Int):= (Z1v b e).bind λa=> if !a.2 then some 0 else (Zai b.Y0).bind λc=> (Zah c a.1).bind λd=> some d
theorem w59 {a b r} (h:Zhw a b=some r):Zi prog 59 [.agg (Zr a),dI b] (R59 r):= cs f59<|bd h λg c h=>go [] [rg 0 [(0,bo)],rg 1 [(2,k (w27 c))]]<|br h (λf h=>Z3 h) λf h=> bd h λi d h=>bd h λj e h=>Z0 4 [(2,k (w52 d)),(4,k (w55 e))]<|rt h
def R31 (a:Int×Bool):D:= .tup [.int .i64 a.1,.bool a.2]
def j31x1 (b:Zm×Bool):Option (Int×Bool):= (Z4 b.1.Zw 0).bind λa=> if a.Zj==3 then some (a.f_N,(a.f_N !=0)) else some (a.f_N,false)
def Zhv (b:Z6) (c:Int):Option (Int×Bool):= (Z1v b c).bind λa=> if !a.2 then some (0,false) else (Zhw b c).bind λd=> if d==0 then some (0,false) else if (a.1.Zw.length:Int)==0 then some (0,false) else (j31x1 a)
theorem wj31x1 {c r Γ} (h:(j31x1 c)=some r):JnE prog f31 Γ (R31 r) 23 ⟨43,[(6,.lptr 6 0 0)],[(6,Zc 9 [Ya c.1])]⟩:= so<|bd h λd b h=>sp h (λa h=>go [] [rg 4 [(2,ix b)],rg 5 [(4,kb a)]]<|rt h) λa h=> go [] [rg 4 [(2,ix b)],rg 5 [(4,kb a)]]<|rt h
theorem w31 {c d r} (h:Zhv c d=some r):Zi prog 31 [.agg (Zr c),dI d] (R31 r):= cs f31<|bd h λi e h=>go [2] [rg 0 [(0,bo)],rg 1 [(2,k (w27 e))]]<|po<|pr 3 []<|sp h (λa h=>pr 11 (gA a 3 4 [(7,py a)])<|Z9<|bT rfl<|Z3 h) λa h=> bd h λj f h=>pr 6 (gC a 3 2 [(5,gw a (k (w59 f))),(6,gw a g0),(7,pn a)])<|sp h (λb h=>pr 5 (gA b 9 4 [(13,py b)])<|Z9<|bT rfl<|Z3 h) λb h=> pr 5 (gC b 9 2 [(11,gw b (ln i.1.Zw)),(12,gw b g0),(13,pn b)])<|Z9<|br h (λg h=>Z3 h) λg h=> go [4] []<|jn (wj31x1 h)
def R13 (a:(List Int)):D:=(slF Z5 a)
def j13x1 (t0:Int×(List Int)):Option (Ctl (Int×(List Int)) (List Int)):= (some (wrap .i64 (t0.1+1))).bind λa=> (Yp 8 (t0.2++[a]).length).bind λc=> (some (wrap .i64 (t0.1+1))).bind λb=> some (.next (b,(t0.2++[a])))
def Z8g (b:(List Int)) (m:Z6) (l:Bool) (t0:Int×(List Int)):Option (Ctl (Int×(List Int)) (List Int)):= if decide (t0.1<(b.length:Int)) then (Z4 b t0.1).bind λc=> (some (wrap .i64 (t0.1+1))).bind λd=> (Zhv m d).bind λa=> if a.2 then (Z3b c l).bind λe=> if e then (some (wrap .i64 (a.1 - 1))).bind λf=> (Z4 b f).bind λg=> (Z3b g l).bind λh=> if !h then (j13x1 t0) else (some (wrap .i64 (t0.1+1))).bind λi=> some (.next (i,t0.2)) else (some (wrap .i64 (t0.1+1))).bind λj=> some (.next (j,t0.2)) else (some (wrap .i64 (t0.1+1))).bind λk=> some (.next (k,t0.2)) else some (.done (t0.2))
def Z39 (a:Z6) (c:Bool):Option (List Int):= (Ki a).bind λb=> (Z8 (Z8g b a c) Zb (0,([]:List Int))).bind λq0=> some q0
def Zow (a:(List Int)) (b:Z6) (c:Bool):(Int×(List Int))→SL:= λt0=>⟨50,[(1,.bool c),(2,.ptr (Zr b)),(5,.lsl 5 0 ((t0.2.map Z5).length)),(6,slF Z5 a),(13,slF Z5 a),(14,dI (a.length:Int)),(15,dI t0.1)],[(5,Zd 1 (t0.2.map Z5))]⟩
def J13x1:JT (List Int):= je 0 λq0:(List Int)=>⟨50,[(5,.lsl 5 0 ((q0.map Z5).length))],[(5,Zd 1 (q0.map Z5))]⟩
theorem wj13x1 (a:(List Int)) (e:Z6) (f:Bool) {t0 r Γ} (h:(j13x1 t0)=some r):Jn prog f13 Γ (Rd (Zow a e f) J13x1 r) 47511 ⟨50,[(1,.bool f),(2,.ptr (Zr e)),(5,.lsl 5 0 ((t0.2.map Z5).length)),(6,slF Z5 a),(7,dI t0.1),(13,slF Z5 a),(14,dI (a.length:Int)),(15,dI t0.1)],[(5,Zd 1 (t0.2.map Z5))]⟩:= so<|bd h λg b h=>bd h λi c h=>bd h λj d h=>go [] [rg 8 [(2,n b),(3,br0 1 0),(4,ap c)],rg 9 [(0,n d)]]<|nx h
theorem wl13x1 {c d e t0 r Γ} (h:(Z8g c d e) t0=some r):A prog Γ (lpC f13 87) [] (Rd (Zow c d e) J13x1 r) ((Zow c d e) t0).s:= Z2 <| br h (λv h=>bd h λw f h=>bd h λx g h=>bd h λy i h=>go [7] [rg 5 [(1,ix f)],rg 6 [(2,n g),(3,k (w31 i))]]<|po<|pr 2 []<|sp h (λb h=>bd h λz j h=>pr 5 (gC b 2 2 [(4,gw b (k (w28 j))),(5,py b)])<|sp h (λa h=>bd h λB l h=>bd h λC m h=>bd h λD o h=>pr 9 (gC a 7 2 ((9,gw a (n l))::(10,gw a (ix m))::gC a 11 2 [(13,gw a (k (w28 o))),(14,gw a g0),(15,py a)]))<|Z9<|br h (λu h=>go [8] []<|jn ((wj13x1 c d e) h)) λu h=> bd h λE p h=>Z0 9 [(0,n p)]<|nx h) λa h=> pr 9 (gB a 7 8 [(15,pn a)])<|Z9<|bF rfl<|bd h λF q h=>Z0 9 [(0,n q)]<|nx h) λb h=> pr 14 (gB b 2 3 [(5,pn b)])<|Z9<|bF rfl<|bd h λG t h=>Z0 9 [(0,n t)]<|nx h) λv h=> Z2<|dn h (iE)
theorem w13 {b c r} (h:Z39 b c=some r):Zi prog 13 [.agg (Zr b),.bool c] (R13 r):= cs f13<|bd h λe d h=>go [] [rg 0 [(0,bo)],rg 2 [(1,k (w29 d))],rg 3 [(1,ln e)]]<|bd h λq0 a h=>lp (cv:=[.tmp 5 5 1]) a wl13x1<|qe<|goN [] []<|rtB h (rw_ q0) (a2 (rpI q0) trivial) (by simp only[rwE] <;> kernel_rfl)
def R34 (a:List Zf):D:= .lsl 0 0 ((a.map Y8).length)
def B34 (a:List Zf):List Blk:=[Zd 2 (a.map Y8)]
def Znt (a:List Zf):Option (List Zf):= (Yp 16 (([]:List Zf)++a).length).bind λb=> some a
theorem w34 {a r} (h:Znt a=some r):Vs prog 34 [slF Y8 a] [Zd 2 []] (R34 r) (B34 r):=
 csO f34 (m:=1) (keep:=[false])<|bd h λf c h=>go [1] []<|po<|pr 1 []<|eN 1 3 4 51 51 58 false (a.map Y8) λb d=>pe<|goN [2,3] []<|bC (λe=>by
  obtain rfl:=nilE (R:=⟨Y8,2,λ_=>rfl⟩) (d e)
  exact go [2] []<|po<|pr 1 []<|pe<|rk ⟨8,[(2,.lsl 0 0 0)],[(0,Zd 2 [])]⟩ [.tmp 2 1000 2] [(1000,0)]<|Z2<|rtO h (.lsl 0 0 0) [Zd 2 []] trivial rfl) λe=>go [3] []<|po<|pr 4 [(0,bl 0 0),(2,ap c)]<|pe<|rk ⟨8,[(2,.lsl 0 0 ((a.map Y8).length))],[(0,Zd 2 (a.map Y8))]⟩ [] [(5,0)]<|Z2<|rtO h (.lsl 0 0 ((a.map Y8).length)) [Zd 2 (a.map Y8)] trivial rfl
end Go.Proofs
