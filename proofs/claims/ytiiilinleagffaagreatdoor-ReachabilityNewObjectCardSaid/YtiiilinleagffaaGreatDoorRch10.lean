/-
  Models of functions of the program, and that the functions compute them. Printed by den3.py. No condition.
-/
import Derived.Test.YtiiilinleagffaaGreatDoorRchX
set_option linter.unusedVariables false
set_option linter.unusedSimpArgs false
namespace Go.Proofs
open Go.Den Go.Den.W
def Zcp (t0:Int×(List Int)) (v10:(List Bool)) (t2:Int×(List Int)):Option (Ctl (Int×(List Int)) (((List Int)))):= if (decide (t2.1<(v10.length:Int))) then ((Z5 v10 t2.1).bind λv14=> if v14 then ((Xq t2.1 t2.2.length).bind λv15=> (t2.2[v15]?).bind λv16=> (some (IntKind.wrap .i64 (t2.1+1))).bind λv17=> some (.next (v17,(t2.2.set v15 t0.1)))) else ((some (IntKind.wrap .i64 (t2.1+1))).bind λv18=> some (.next (v18,t2.2)))) else (some (.done (t2.2)))
def l21x1 (x0:Z4) (t0:Int×(List Int)):Option (Ctl (Int×(List Int)) (((List Int)))):= if (decide (t0.1≤4)) then ((Z3o x0 t0.1).bind λv10=> (Z7 (Zcp t0 v10) Z8 (0,t0.2)).bind λq2=> (some (IntKind.wrap .i64 (t0.1+1))).bind λv19=> some (.next (v19,q2))) else (some (.done (t0.2)))
def Z43 (x0:Z4):Option ((List Int)):= (W1 8 (x0.Z2.length:Int) (x0.Z2.length:Int)).bind λv0=> (Z7 (l21x1 x0) Z8 (1,(List.replicate (x0.Z2.length:Int).toNat 0))).bind λq4=> some q4
def l4x3 (t1:Int) (v2 v53:(List Int)) (t3:Int):Option (Ctl (Int) (Unit⊕Bool)):= if (decide (t3<(v53.length:Int))) then ((Z5 v53 t3).bind λv60=> if (decide (v60<1)) then (some (.done (.inr false))) else ((Z5 v53 t3).bind λv61=> if (decide (v61>(v2.length:Int))) then (some (.done (.inr false))) else ((Z5 v53 t3).bind λv62=> (some (IntKind.wrap .i64 (v62 - 1))).bind λv63=> (Z5 v2 v63).bind λv64=> (Z5 v2 t1).bind λv65=> if (decide (v64<v65)) then (some (.done (.inr false))) else ((some (IntKind.wrap .i64 (t3+1))).bind λv66=> some (.next v66))))) else (some (.done (.inl (()))))
def j4x3 (t1:Int) (v2:(List Int)) (x0:Z4):Option (Ctl (Int) (Unit⊕Bool)):= (some (IntKind.wrap .i64 (t1+1))).bind λv52=> (Z33 x0 v52).bind λv53=> (Z7 (l4x3 t1 v2 v53) Z8 0).bind λq5=> match q5 with | .inl q4=>((some (IntKind.wrap .i64 (t1+1))).bind λv67=> (Z4z x0 v67).bind λv68=> if (v68 !=0) then ((some (IntKind.wrap .i64 (v68 - 1))).bind λv69=> (Z5 v2 v69).bind λv70=> (Z5 v2 t1).bind λv71=> (some (IntKind.wrap .i64 (t1+1))).bind λv72=> (Z1u x0 v72).bind λv73=> (some (if v73<(v71:Int) then v73 else v71)).bind λv74=> if (decide (v70<v74)) then (some (.done (.inr false))) else ((some (IntKind.wrap .i64 (t1+1))).bind λv75=> some (.next v75))) else ((some (IntKind.wrap .i64 (t1+1))).bind λv76=> some (.next v76))) | .inr y1=>(some (.done (.inr y1)))
end Go.Proofs
