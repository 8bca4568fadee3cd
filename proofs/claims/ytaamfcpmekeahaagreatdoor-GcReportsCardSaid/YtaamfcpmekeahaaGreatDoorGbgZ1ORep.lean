/-
  Models of functions of the program, and that the functions compute them. Printed by den3.py. No condition.
-/
import Derived.Test.YtaamfcpmekeahaaGreatDoorGbg11
import Derived.Test.YtaamfcpmekeahaaGreatDoorGbgG
import Derived.Test.YtaamfcpmekeahaaGreatDoorGbgX
import Derived.Test.YtaamfcpmekeahaaGreatDoorGbgK
set_option linter.unusedVariables false
set_option linter.unusedSimpArgs false
namespace Go.Proofs
open Tryz
open Go.Den Go.Den.W
def R11 (a:Bool):D:= .bool a
def Ze0 (a:Z6) (b:Int) (c:Bool):Option (Bool):= (Z29 a b).bind λd=> if !d.2 then some false else (Z5g a c).bind λe=> (some (IntKind.wrap .i64 (b - 1))).bind λf=> (Z4 e f).bind λg=> some g
theorem w11 {a b c r} (h:Ze0 a b c=some r):Zi prog 11 [.agg (Zr a),dI b,.bool c] (R11 r):= cs f11<|bd h λj d h=>go [] [rg 0 [(0,bo)],rg 1 [(2,k (w23 d))]]<|br h (λe h=>Z3 h) λe h=> bd h λl f h=>bd h λm g h=>bd h λo i h=>go [] [rg 4 [(2,k (w30 f))],rg 5 [(2,n g),(3,ix i)]]<|rt h
def R3 (a:Bool):D:= .bool a
def Zso (a:Z6) (d:Int) (b:Bool):Option (Bool):= (Z0r a).bind λe=> if !e then (Le).bind λf=> some f else (Z1d a d b).bind λg=> (Ze0 a d b).bind λh=> if g==h then (Z2r a b).bind λi=> (Z9f a b).bind λj=> (Z0g i j).bind λk=> if k then (Z2i a b).bind λl=> (Z9b a b).bind λm=> (Z0g l m).bind λn=> if n then (Le).bind λc=> some c else some false else some false else some false
theorem w3 {l m n r} (h:Zso l m n=some r):Zi prog 3 [.agg (Zr l),dI m,.bool n] (R3 r):= cs f3<|bd h λw s h=>go [] [rg 0 [(0,bo)],rg 1 [(1,k (w8 s))]]<|br h (λt h=>bd h λx u h=>Z0 2 [(0,k (w9 u))]<|rt h) λt h=> bd h λy d h=>bd h λz e h=>sp h (λb h=>bd h λA f h=>bd h λB g h=>bd h λC i h=>sp h (λa h=>bd h λD o h=>bd h λE p h=>bd h λF q h=>sp h (λc h=>bd h λv j h=>go [] [rg 3 ((3,k (w10 d))::(7,k (w11 e))::(8,kb b)::(12,k (w13 f))::(15,k (w14 g))::(16,k (w12 i))::gC a 19 2 ((21,gw a (k (w15 o)))::gC a 22 2 [(24,gw a (k (w16 p))),(25,gw a (k (w12 q))),(26,py a),(28,gw c (k (w9 j))),(29,py c)]))]<|rt h) λc h=> go [] [rg 3 ((3,k (w10 d))::(7,k (w11 e))::(8,kb b)::(12,k (w13 f))::(15,k (w14 g))::(16,k (w12 i))::gC a 19 2 ((21,gw a (k (w15 o)))::gC a 22 2 [(24,gw a (k (w16 p))),(25,gw a (k (w12 q))),(26,py a),(28,gs1 c),(29,pn c)]))]<|rt h) λa h=> go [] [rg 3 ((3,k (w10 d))::(7,k (w11 e))::(8,kb b)::(12,k (w13 f))::(15,k (w14 g))::(16,k (w12 i))::gB a 19 7 [(26,pn a)])]<|rt h) λb h=> Z0 3 [(3,k (w10 d)),(7,k (w11 e)),(8,kb b)]<|rt h
end Go.Proofs
namespace Go.Proofs
open Go.Den Go.Tot
section
variable {m:Z6} {l:List Int} (h:Lv m l) (s:Bool)
include h
theorem Lv.surR (e:M2 m=some l) (n:Int):Ze0 m n s=some ((Q9 m n).isSome&&Qk s (Qa l n)):=by
 have a:=h.mg.len
 unfold Ze0
 rw[(h.mg.objP n).2,Option.bind_some]
 unfold objP
 cases b:Q9 m n with
 | none=>rfl
 | some o=>
  have d:=IsO.range ⟨o,b⟩
  have c:=Z81 m l s (t:=n - 1) (by omega) (by omega)
  rw[show n - 1+1=n by omega] at c
  rw[if_neg (by simp),h.retR s e,Option.bind_some,J0 (by omega) (by omega),Option.bind_some,c,Option.bind_some]
  unfold kB; rw[b]
end
section
variable {m:Z6} {l:List Int} (h:Lv m l) (hw:V6 m) (s:Bool)
include h hw
omit h in
end
end Go.Proofs
namespace Go.Proofs
open Go.Den Go.Tot
theorem Y1s (m:Z6) (h:V6 m) (n:Int) (s:Bool):Zso m n s=some true:=by
 refine Z7l h λf=>?_
 have c:=Uw.mg h f
 obtain⟨l,e,b,a⟩:=c.lv
 have d:=c.len
 have g:(W7 m l s).length≤m.Z7.length:=Mi _ _
 have i:(Ui m l s).length≤m.Z7.length:=Mi _ _
 rw[a.surP s e,a.surR s b,a.clrP s e,a.clrR s b,a.unrP s e,a.unrR s b,Z55]
 simp only[Option.bind_some]
 rw[if_pos (by simp),Zkk _ (by omega),Zkk _ (by omega)]; rfl
end Go.Proofs
