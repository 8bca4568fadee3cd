/-
  Models of functions of the program, and that the functions compute them. Printed by den3.py. No condition.
-/
import Derived.Test.YtaamfcpmekeahaaGreatDoorGbg11
set_option linter.unusedVariables false
set_option linter.unusedSimpArgs false
namespace Go.Proofs
open Tryz
open Go.Den Go.Den.W
def R64 (a:Bool):D:= .bool a
def Z96 (d e:Xi) (t2:Int):Option (Ctl (Int) (Unit⊕Bool)):= if decide (t2<(d.Yc.length:Int)) then (Z4 d.Yc t2).bind λa=> (Z4 e.Yc t2).bind λb=> if a !=b then some (.done (.inr false)) else (some (IntKind.wrap .i64 (t2+1))).bind λc=> some (.next c) else some (.done (.inl (())))
def j64x1 (t0:Int) (b c:Xi):Option (Ctl (Int) (Unit⊕Bool)):= (Z8 (Z96 b c) Zb 0).bind λq3=> match q3 with | .inl e=>((some (IntKind.wrap .i64 (t0+1))).bind λa=> some (.next a)) | .inr d=>(some (.done (.inr d)))
def Zem (d e:List Xi) (t0:Int):Option (Ctl (Int) (Unit⊕Bool)):= if decide (t0 < (d.length:Int)) then (Z4 d t0).bind λa=> (Z4 e t0).bind λb=> if a.Xn !=b.Xn then some (.done (.inr false)) else if a.Ys != b.Ys then some (.done (.inr false)) else if a.Jh != b.Jh then some (.done (.inr false)) else if a.L6 != b.L6 then some (.done (.inr false)) else if (a.Yc.length:Int)!=(b.Yc.length:Int) then some (.done (.inr false)) else (Zgq a.Xp b.Xp).bind λc=> if !c then some (.done (.inr false)) else (j64x1 t0 a b) else some (.done (.inl (())))
def Zh7 (a b:List Xi):Option (Bool):= if (a.length:Int)!=(b.length:Int) then some false else (Z8 (Zem a b) Zb 0).bind λq5=> match q5 with | .inl q4=>(some true) | .inr c=>(some c)
def Zye (t0:Int) (a b:Xi) (c d:List Xi):Int→SL:= λt2=>⟨89,[(0,slF Xg c),(1,slF Xg d),(5,dI t0),(6,.lptr 6 0 0),(7,.lptr 7 0 0),(8,dI t2)],[(6,Zc 12 [Xg a]),(7,Zc 12 [Xg b])]⟩
def J64x2 (t0:Int) (a b:List Xi):JT (Unit⊕Bool):= ju (je 2 λc:Unit=>⟨89,[(0,slF Xg a),(1,slF Xg b),(5,dI t0)],[]⟩) (jr prog f64 R64)
theorem wl64x2 (t0:Int) (i j:List Xi) {a g t2 r Γ} (h:(Z96 a g) t2=some r):A prog Γ (lpC f64 11851) [] (Rd (Zye t0 a g i j) (J64x2 t0 i j) r) ((Zye t0 a g i j) t2).s:= Z0 10 [(3,ln a.Yc)]<|br h (λe h=>bd h λk b h=>bd h λl c h=>Z0 12 [(3,ix b),(8,ix c)]<|br h (λf h=>Z2<|dn h (i2 iR)) λf h=> bd h λm d h=>Z0 11 [(1,n d)]<|nx h) λe h=> Z2<|dn h (i1 iE)
def Zpg (a b:List Xi):Int→SL:= λt0=>⟨89,[(0,slF Xg a),(1,slF Xg b),(5,dI t0)],[]⟩
def J64x1:JT (Unit⊕Bool):= ju (je 0 λq4:Unit=>⟨89,[],[]⟩) (jr prog f64 R64)
theorem wj64x1 (c d:List Xi) {t0 e f r Γ} (h:(j64x1 t0 e f)=some r):Jn prog f64 Γ (Rd (Zpg c d) J64x1 r) 5707 ⟨89,[(0,slF Xg c),(1,slF Xg d),(5,dI t0),(6,.lptr 6 0 0),(7,.lptr 7 0 0)],[(6,Zc 12 [Xg e]),(7,Zc 12 [Xg f])]⟩:= so<|Z2<|bd h λq3 a h=>lp a (wl64x2 t0 c d)<|match q3,h with | .inl i,h=>j1<|(qe<|bd h λg b h=>goN [] [rg 5 [(1,n b)]]<|nx h) | .inr j,h=>j2<|(ql h λ_ _ p=>⟨(iS p).1,i2 ((iS p).2)⟩)
theorem wl64x1 {f g t0 r Γ} (h:(Zem f g) t0=some r):A prog Γ (lpC f64 43) [] (Rd (Zpg f g) J64x1 r) ((Zpg f g) t0).s:= Z0 4 [(2, ln f)]<|br h (λl h=>bd h λp n h=>bd h λq i h=>go [7] [rgx 6 [(2,ix n),(6,ix i)] [10,11,1004,1005,1006,1007]]<|po<|pr 6 []<|sp h (λc h=>pr 37 (gA c 6 5 [(11,py c)])<|Z9<|bT rfl<|Z2<|dn h (i2 iR)) λc h=> pr 7 (gC c 6 5 [(11,pn c)])<|sp h (λd h=>pr 30 (gA d 13 5 [(18,py d)])<|Z9<|bT rfl<|Z2<|dn h (i2 iR)) λd h=> pr 7 (gC d 13 5 [(18,pn d)])<|sp h (λe h=>pr 23 (gA e 20 5 [(25,py e)])<|Z9<|bT rfl<|Z2<|dn h (i2 iR)) λe h=> pr 7 (gC e 20 5 [(25,pn e)])<|sp h (λa h=>pr 16 (gA a 27 7 [(34,py a)])<|Z9<|bT rfl<|Z2<|dn h (i2 iR)) λa h=> pr 9 (gC a 27 2 ((29,gw a (ln p.Yc))::gC a 30 2 [(32,gw a (ln q.Yc)),(33,gw a g0),(34,pn a)]))<|sp h (λb h=>pr 7 (gA b 36 6 [(42,py b)])<|Z9<|bT rfl<|Z2<|dn h (i2 iR)) λb h=> bd h λo j h=>pr 7 (gC b 36 4 [(40,gw b (k (w88 j))),(41,gw b g0),(42,pn b)])<|Z9<|br h (λm h=>Z2<|dn h (i2 iR)) λm h=> go [9] []<|jn ((wj64x1 f g) h)) λl h=> Z2<|dn h (i1 iE)
theorem w64 {b c r} (h:Zh7 b c=some r):Zi prog 64 [slF Xg b,slF Xg c] (R64 r):= cs f64<|Z0 1 [(1,ln b),(3,ln c)]<|br h (λd h=>Z3 h) λd h=> Z2<|bd h λq5 a h=>lp a wl64x1<|match q5,h with | .inl q4,h=>j1<|(qe<|Xs h) | .inr e,h=>j2<|(qr h)
def R36 (a:Bool):D:= .bool a
def Zed (a e:Zq) (t0:Int):Option (Ctl (Int) (Unit⊕Bool)):= if decide (t0<(a.Yr.length:Int)) then (Z4 a.Yr t0).bind λb=> (Z4 e.Yr t0).bind λc=> if !(Zki b c) then some (.done (.inr false)) else (some (IntKind.wrap .i64 (t0+1))).bind λd=> some (.next d) else some (.done (.inl (())))
def Zee (c e:Zq) (t1:Int):Option (Ctl (Int) (Unit⊕Bool)):= if decide (t1<(c.Q3.length:Int)) then (Z4 c.Q3 t1).bind λd=> (Z4 e.Q3 t1).bind λa=> if !(Zke d a) then some (.done (.inr false)) else (some (IntKind.wrap .i64 (t1+1))).bind λb=> some (.next b) else some (.done (.inl (())))
def j36x1 (a b:Zq):Option (Bool):= (Z8 (Zed a b) Zb 0).bind λc=> match c with | .inl q0=>((Z8 (Zee a b) Zb 0).bind λq3=> match q3 with | .inl f=>(some true) | .inr d=>(some d)) | .inr e=>(some e)
def Zh3 (a b:Zq):Option (Bool):= (Zh8 a.X3 b.X3).bind λc=> if !c then some false else (Zh7 a.Y6 b.Y6).bind λd=> if !d then some false else if (a.Yr.length:Int)!=(b.Yr.length:Int) then some false else if (a.Q3.length:Int)!=(b.Q3.length:Int) then some false else (j36x1 a b)
def Zxo (a b:Zq):Int→SL:= λt0=>⟨75,[(2,.ptr (Yq a)),(3,.ptr (Yq b)),(5,dI t0)],[]⟩
def J36x1 (a b:Zq):JT (Unit⊕Bool):= ju (je 0 λq0:Unit=>⟨75,[(2,.ptr (Yq a)),(3,.ptr (Yq b))],[]⟩) (jr prog f36 R36)
theorem wl36x1 {a b t0 r Γ} (h:(Zed a b) t0=some r):A prog Γ (lpC f36 43) [] (Rd (Zxo a b) (J36x1 a b) r) ((Zxo a b) t0).s:= Z0 4 [(3,ln a.Yr)]<|br h (λf h=>bd h λi c h=>bd h λj d h=>Z0 6 [(3,ix c),(8,ix d),(10,qs eqg_93 eqp_93 (!(Zki i j)))]<|br h (λg h=>Z2<|dn h (i2 iR)) λg h=> bd h λk e h=>Z0 5 [(1,n e)]<|nx h) λf h=> Z2<|dn h (i1 iE)
def Zxp (a b:Zq):Int→SL:= λt1=>⟨75,[(2,.ptr (Yq a)),(3,.ptr (Yq b)),(6,dI t1)],[]⟩
def J36x2:JT (Unit⊕Bool):= ju (je 2 λa:Unit=>⟨75,[],[]⟩) (jr prog f36 R36)
theorem wl36x2 {a i t1 r Γ} (h:(Zee a i) t1=some r):A prog Γ (lpC f36 87) [] (Rd (Zxp a i) J36x2 r) ((Zxp a i) t1).s:= Z0 9 [(3,ln a.Q3)]<|br h (λe h=>bd h λk b h=>bd h λg c h=>Z0 11 [(3,ix b),(8,ix c),(10,qs eqg_106 eqp_106 (!(Zke k g)))]<|br h (λf h=>Z2<|dn h (i2 iR)) λf h=> bd h λj d h=>Z0 10 [(1,n d)]<|nx h) λe h=> Z2<|dn h (i1 iE)
theorem wj36x1 {b c r Γ} (h:(j36x1 b c)=some r):JnE prog f36 Γ (R36 r) 19 ⟨75,[(2,.ptr (Yq b)),(3,.ptr (Yq c))],[]⟩:= so<|Z2<|bd h λe d h=>lp d wl36x1<|match e,h with | .inl q0,h=>j1<|(qe<|goN [] []<|bd h λq3 a h=>lp a wl36x2<|match q3,h with | .inl f,h=>j1<|(qe<|Xs h) | .inr g,h=>j2<|(qr h)) | .inr i,h=>j2<|(qr h)
theorem w36 {d e r} (h:Zh3 d e=some r):Zi prog 36 [.agg (Yq d),.agg (Yq e)] (R36 r):= cs f36<|go [1] [rg 0 [(0,bo),(1,bo)]]<|po<|bd h λj f h=>pr 7 [(4,k (w63 f))]<|sp h (λc h=>pr 25 (gA c 7 6 [(13,py c)])<|Z9<|bT rfl<|Z3 h) λc h=> bd h λl g h=>pr 8 (gC c 7 4 [(11,gw c (k (w64 g))),(12,gw c g0),(13,pn c)])<|sp h (λa h=>pr 17 (gA a 15 7 [(22,py a)])<|Z9<|bT rfl<|Z3 h) λa h=> pr 9 (gC a 15 2 ((17,gw a (ln d.Yr))::gC a 18 2 [(20,gw a (ln e.Yr)),(21,gw a g0),(22,pn a)]))<|sp h (λb h=>pr 8 (gA b 24 7 [(31,py b)])<|Z9<|bT rfl<|Z3 h) λb h=> pr 8 (gC b 24 2 ((26,gw b (ln d.Q3))::gC b 27 2 [(29,gw b (ln e.Q3)),(30,gw b g0),(31,pn b)]))<|Z9<|br h (λi h=>Z3 h) λi h=> go [3] []<|jn (wj36x1 h)
def R19 (a:Bool):D:= .bool a
def Zaa (a b:Z6):Option (Bool):= (Zhj a b).bind λc=> if c then (Zh3 a.Y0 b.Y0).bind λd=> some d else some false
theorem w19 {c d r} (h:Zaa c d=some r):Zi prog 19 [.agg (Zr c),.agg (Zr d)] (R19 r):= cs f19<|bd h λf b h=>sp h (λa h=>bd h λg e h=>go [] [rg 0 [(0,bo),(1,bo)],rg 1 ((2,k (w35 b))::gC a 4 4 [(8,gw a (k (w36 e))),(9,py a)])]<|rt h) λa h=> go [] [rg 0 [(0,bo),(1,bo)],rg 1 ((2,k (w35 b))::gB a 4 5 [(9,pn a)])]<|rt h
end Go.Proofs
