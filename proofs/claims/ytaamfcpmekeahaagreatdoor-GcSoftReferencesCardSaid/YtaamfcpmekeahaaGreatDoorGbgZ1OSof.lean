/-
  Models of functions of the program, and that the functions compute them. Printed by den3.py. No condition.
-/
import Derived.Test.YtaamfcpmekeahaaGreatDoorGbg12
import Derived.Test.YtaamfcpmekeahaaGreatDoorGbg11
import Derived.Test.YtaamfcpmekeahaaGreatDoorGbgK
set_option linter.unusedVariables false
set_option linter.unusedSimpArgs false
namespace Go.Proofs
open Tryz
open Go.Den Go.Den.W
def R7 (a:Bool):D:= .bool a
def l7x1 (a b:(List Int)) (t0:Int):Option (Ctl (Int) (Unit⊕Bool)):= if decide (t0<(a.length:Int)) then (Z4 a t0).bind λc=> (Z5g b c).bind λd=> if !d then some (.done (.inr false)) else (some (IntKind.wrap .i64 (t0+1))).bind λe=> some (.next e) else some (.done (.inl (())))
def Ztr (a:Z6):Option (Bool):= (Z0l a).bind λc=> if !c then (Lu).bind λd=> some d else (Z3a a false).bind λe=> (Z3a a true).bind λf=> (Z8 (l7x1 e f) Zb 0).bind λb=> match b with | .inl q0=>((Lu).bind λg=> some g) | .inr h=>(some h)
def st7x1 (a b:(List Int)):Int→SL:= λt0=>⟨28,[(3,slF Z5 a),(4,slF Z5 b),(5,dI t0)],[]⟩
def J7x1:JT (Unit⊕Bool):= ju (je 0 λq0:Unit=>⟨28,[],[]⟩) (jr prog f7 R7)
theorem wl7x1 {a b t0 r Γ} (h:(l7x1 a b) t0=some r):A prog Γ (lpC f7 175) [] (Rd (st7x1 a b) J7x1 r) ((st7x1 a b) t0).s:= Z0 6 [(2,ln a)]<|br h (λf h=>bd h λi c h=>bd h λj d h=>Z0 8 [(3,ix c),(5,k (w24 d))]<|br h (λg h=>Z2<|dn h (i2 iR)) λg h=> bd h λl e h=>Z0 7 [(1,n e)]<|nx h) λf h=> Z2<|dn h (i1 iE)
theorem w7 {b r} (h:Ztr b=some r):Zi prog 7 [.agg (Zr b)] (R7 r):= cs f7<|bd h λl c h=>go [] [rg 0 [(0,bo)],rg 1 [(1,k (w8 c))]]<|br h (λi h=>bd h λm d h=>Z0 2 [(0,k (w9 d))]<|rt h) λi h=> bd h λn e h=>bd h λo f h=>go [] [rg 3 [(1,k (w15 e))],rg 4 [(1,k (w15 f))]]<|bd h λj g h=>lp g wl7x1<|match j,h with | .inl q0,h=>j1<|(qe<|bd h λp a h=>goN [] [rg 10 [(0,k (w9 a))]]<|rt h) | .inr q,h=>j2<|(qr h)
end Go.Proofs
namespace Go.Proofs
open Go.Den Go.Tot
theorem Y51 (m:Z6) (h:V4 m):Ztr m=some true:=by
 refine Z99 h λo=>?_
 have f:=Uo.mg h o
 obtain⟨l,e,_,g⟩:=f.lv
 have i:=f.len
 have lu:∀ s,(Wb m l s).length≤m.Z7.length:=λs=>Mk _ _
 have r:=lu false
 have u:=lu true
 rw[g.unrP false e,Option.bind_some,g.unrP true e,Option.bind_some]
 have key:Ok (Z8 (l7x1 (Wb m l false) (Wb m l true)) Zb 0) λq=>q=.inl ():=by
  refine li (Wb m l false).length (λt d p=>?_)
  unfold l7x1
  refine brD (λc=>?_) λ_=>di rfl
  obtain⟨n,en,j,_⟩:=gri (l:=Wb m l false) d c
  rw[en,Option.bind_some,Zk8 _ _ (by omega),Option.bind_some,wrS d (by omega)]
  have k:n∈Wb m l true:=by
   obtain⟨a,b⟩:=Z3n.1 j
   refine Z3n.2 ⟨a,?_⟩
   unfold Qj at b ⊢
   simp at b ⊢
   exact b.1
  rw[if_neg (by simpa using k)]
  exact ni (by omega) (by omega)
 obtain⟨q,eq,rfl⟩:=key
 rw[eq,Z5z]; rfl
end Go.Proofs
