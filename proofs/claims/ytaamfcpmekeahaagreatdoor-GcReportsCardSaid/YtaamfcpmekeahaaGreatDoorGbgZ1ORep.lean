/-
  Models of functions of the program, and that the functions compute them. Printed by den3.py. No condition.
-/
import Derived.Test.YtaamfcpmekeahaaGreatDoorGbg11
import Derived.Test.YtaamfcpmekeahaaGreatDoorGbgG
import Derived.Test.YtaamfcpmekeahaaGreatDoorGbgX
import Derived.Test.YtaamfcpmekeahaaGreatDoorGbgK
set_option linter.unusedVariables false
set_option linter.unusedSimpArgs false
namespace Go.Proofs
open Tryz
open Go.Den Go.Den.W
def R11 (a:Bool):D:= .bool a
def Zhu (a:Z6) (b:Int) (g:Bool):Option (Bool):= (Z1s a b).bind λc=> if !c.2 then some false else (Z5d a g).bind λd=> (some (IntKind.wrap .i64 (b - 1))).bind λe=> (Z4 d e).bind λf=> some f
theorem w11 {a b c r} (h:Zhu a b c=some r):Zi prog 11 [.agg (Zr a),dI b,.bool c] (R11 r):= cs f11<|bd h λj d h=>go [] [rg 0 [(0,bo)],rg 1 [(2,k (w23 d))]]<|br h (λi h=>Z3 h) λi h=> bd h λl e h=>bd h λm f h=>bd h λo g h=>go [] [rg 4 [(2,k (w30 e))],rg 5 [(2,n f),(3,ix g)]]<|rt h
def R3 (a:Bool):D:= .bool a
def Ztp (a:Z6) (d:Int) (b:Bool):Option (Bool):= (Z0l a).bind λe=> if !e then (Lu).bind λf=> some f else (Z1u a d b).bind λg=> (Zhu a d b).bind λh=> if g==h then (Z39 a b).bind λi=> (Zad a b).bind λj=> (Z0s i j).bind λk=> if k then (Z3a a b).bind λl=> (Zae a b).bind λm=> (Z0s l m).bind λn=> if n then (Lu).bind λc=> some c else some false else some false else some false
theorem w3 {o p q r} (h:Ztp o p q=some r):Zi prog 3 [.agg (Zr o),dI p,.bool q] (R3 r):= cs f3<|bd h λw s h=>go [] [rg 0 [(0,bo)],rg 1 [(1,k (w8 s))]]<|br h (λu h=>bd h λx t h=>Z0 2 [(0,k (w9 t))]<|rt h) λu h=> bd h λy d h=>bd h λz e h=>sp h (λb h=>bd h λA g h=>bd h λB i h=>bd h λC j h=>sp h (λa h=>bd h λD l h=>bd h λE m h=>bd h λF n h=>sp h (λc h=>bd h λv f h=>go [] [rg 3 ((3,k (w10 d))::(7,k (w11 e))::(8,kb b)::(12,k (w13 g))::(15,k (w14 i))::(16,k (w12 j))::gC a 19 2 ((21,gw a (k (w15 l)))::gC a 22 2 [(24,gw a (k (w16 m))),(25,gw a (k (w12 n))),(26,py a),(28,gw c (k (w9 f))),(29,py c)]))]<|rt h) λc h=> go [] [rg 3 ((3,k (w10 d))::(7,k (w11 e))::(8,kb b)::(12,k (w13 g))::(15,k (w14 i))::(16,k (w12 j))::gC a 19 2 ((21,gw a (k (w15 l)))::gC a 22 2 [(24,gw a (k (w16 m))),(25,gw a (k (w12 n))),(26,py a),(28,gs1 c),(29,pn c)]))]<|rt h) λa h=> go [] [rg 3 ((3,k (w10 d))::(7,k (w11 e))::(8,kb b)::(12,k (w13 g))::(15,k (w14 i))::(16,k (w12 j))::gB a 19 7 [(26,pn a)])]<|rt h) λb h=> Z0 3 [(3,k (w10 d)),(7,k (w11 e)),(8,kb b)]<|rt h
end Go.Proofs
namespace Go.Proofs
open Go.Den Go.Tot
section
variable {m:Z6} {l:List Int} (h:Lv m l) (s:Bool)
include h
theorem Lv.surR (e:M2 m=some l) (n:Int):Zhu m n s=some ((Q9 m n).isSome&&Qj s (Q8 l n)):=by
 have b:=h.mg.len
 unfold Zhu
 rw[(h.mg.objP n).2,Option.bind_some]
 unfold objP
 cases c:Q9 m n with
 | none=>rfl
 | some o=>
  have d:=IsO.range ⟨o,c⟩
  have a:=Z8d m l s (t:=n - 1) (by omega) (by omega)
  rw[show n - 1+1=n by omega] at a
  rw[if_neg (by simp),h.retR s e,Option.bind_some,J5 (by omega) (by omega),Option.bind_some,a,Option.bind_some]
  unfold kB; rw[c]
end
section
variable {m:Z6} {l:List Int} (h:Lv m l) (hw:V4 m) (s:Bool)
include h hw
omit h in
end
end Go.Proofs
namespace Go.Proofs
open Go.Den Go.Tot
theorem Y4z (m:Z6) (h:V4 m) (n:Int) (s:Bool):Ztp m n s=some true:=by
 refine Z99 h λf=>?_
 have c:=Uo.mg h f
 obtain⟨l,e,b,a⟩:=c.lv
 have d:=c.len
 have g:(Wb m l s).length≤m.Z7.length:=Mk _ _
 have i:(Ud m l s).length≤m.Z7.length:=Mk _ _
 rw[a.surP s e,a.surR s b,a.clrP s e,a.clrR s b,a.unrP s e,a.unrR s b,Z5z]
 simp only[Option.bind_some]
 rw[if_pos (by simp),Zkr _ (by omega),Zkr _ (by omega)]; rfl
end Go.Proofs
