/-
  Models of functions of the program, and that the functions compute them. Printed by den3.py. No condition.
-/
import Derived.Test.YtldpbffppaednaaGreatAcc6
set_option linter.unusedVariables false
namespace Go.Proofs
open Go.Den Go.Den.W
def R24 (y0 : Z09) : D:= .agg (Z1j y0)
def l24x1 (t0 : Int × (List Z2m)) : Option (Ctl (Int × (List Z2m)) (((List Z2m)))):=
  if (decide (t0.1 < ([({ Z0u:=0,Z0s:=({ Z0h:=1,Z02:=[108,97,110,103,47,79,98,106,101,99,116],Z07:=[],Z05:=([] : List (List UInt8)),Z0n:=([] : List Z13),Z0m:=([] : List Z0y),Z19:=[] } : Z0j),Z07:=(-1),Z05:=([] : List Int),Z1d:=0,Z1e:=0 } : Z0w),({ Z0u:=0,Z0s:=({ Z0h:=0,Z02:=[112,47,65],Z07:=[108,97,110,103,47,79,98,106,101,99,116],Z05:=([] : List (List UInt8)),Z0n:=([] : List Z13),Z0m:=([] : List Z0y),Z19:=[] } : Z0j),Z07:=0,Z05:=([] : List Int),Z1d:=0,Z1e:=0 } : Z0w),({ Z0u:=0,Z0s:=({ Z0h:=0,Z02:=[112,47,66],Z07:=[108,97,110,103,47,79,98,106,101,99,116],Z05:=([] : List (List UInt8)),Z0n:=([] : List Z13),Z0m:=([] : List Z0y),Z19:=[] } : Z0j),Z07:=0,Z05:=([] : List Int),Z1d:=0,Z1e:=0 } : Z0w),({ Z0u:=0,Z0s:=({ Z0h:=0,Z02:=[113,47,67],Z07:=[112,47,65],Z05:=([] : List (List UInt8)),Z0n:=([] : List Z13),Z0m:=([] : List Z0y),Z19:=[] } : Z0j),Z07:=1,Z05:=([] : List Int),Z1d:=0,Z1e:=0 } : Z0w),({ Z0u:=1,Z0s:=({ Z0h:=0,Z02:=[112,47,65],Z07:=[108,97,110,103,47,79,98,106,101,99,116],Z05:=([] : List (List UInt8)),Z0n:=([] : List Z13),Z0m:=([] : List Z0y),Z19:=[] } : Z0j),Z07:=0,Z05:=([] : List Int),Z1d:=0,Z1e:=0 } : Z0w)].length : Int))) = true then
    ((Z2s t0.1 [({ Z0u:=0,Z0s:=({ Z0h:=1,Z02:=[108,97,110,103,47,79,98,106,101,99,116],Z07:=[],Z05:=([] : List (List UInt8)),Z0n:=([] : List Z13),Z0m:=([] : List Z0y),Z19:=[] } : Z0j),Z07:=(-1),Z05:=([] : List Int),Z1d:=0,Z1e:=0 } : Z0w),({ Z0u:=0,Z0s:=({ Z0h:=0,Z02:=[112,47,65],Z07:=[108,97,110,103,47,79,98,106,101,99,116],Z05:=([] : List (List UInt8)),Z0n:=([] : List Z13),Z0m:=([] : List Z0y),Z19:=[] } : Z0j),Z07:=0,Z05:=([] : List Int),Z1d:=0,Z1e:=0 } : Z0w),({ Z0u:=0,Z0s:=({ Z0h:=0,Z02:=[112,47,66],Z07:=[108,97,110,103,47,79,98,106,101,99,116],Z05:=([] : List (List UInt8)),Z0n:=([] : List Z13),Z0m:=([] : List Z0y),Z19:=[] } : Z0j),Z07:=0,Z05:=([] : List Int),Z1d:=0,Z1e:=0 } : Z0w),({ Z0u:=0,Z0s:=({ Z0h:=0,Z02:=[113,47,67],Z07:=[112,47,65],Z05:=([] : List (List UInt8)),Z0n:=([] : List Z13),Z0m:=([] : List Z0y),Z19:=[] } : Z0j),Z07:=1,Z05:=([] : List Int),Z1d:=0,Z1e:=0 } : Z0w),({ Z0u:=1,Z0s:=({ Z0h:=0,Z02:=[112,47,65],Z07:=[108,97,110,103,47,79,98,106,101,99,116],Z05:=([] : List (List UInt8)),Z0n:=([] : List Z13),Z0m:=([] : List Z0y),Z19:=[] } : Z0j),Z07:=0,Z05:=([] : List Int),Z1d:=0,Z1e:=0 } : Z0w)].length).bind fun v11=>
    ([({ Z0u:=0,Z0s:=({ Z0h:=1,Z02:=[108,97,110,103,47,79,98,106,101,99,116],Z07:=[],Z05:=([] : List (List UInt8)),Z0n:=([] : List Z13),Z0m:=([] : List Z0y),Z19:=[] } : Z0j),Z07:=(-1),Z05:=([] : List Int),Z1d:=0,Z1e:=0 } : Z0w),({ Z0u:=0,Z0s:=({ Z0h:=0,Z02:=[112,47,65],Z07:=[108,97,110,103,47,79,98,106,101,99,116],Z05:=([] : List (List UInt8)),Z0n:=([] : List Z13),Z0m:=([] : List Z0y),Z19:=[] } : Z0j),Z07:=0,Z05:=([] : List Int),Z1d:=0,Z1e:=0 } : Z0w),({ Z0u:=0,Z0s:=({ Z0h:=0,Z02:=[112,47,66],Z07:=[108,97,110,103,47,79,98,106,101,99,116],Z05:=([] : List (List UInt8)),Z0n:=([] : List Z13),Z0m:=([] : List Z0y),Z19:=[] } : Z0j),Z07:=0,Z05:=([] : List Int),Z1d:=0,Z1e:=0 } : Z0w),({ Z0u:=0,Z0s:=({ Z0h:=0,Z02:=[113,47,67],Z07:=[112,47,65],Z05:=([] : List (List UInt8)),Z0n:=([] : List Z13),Z0m:=([] : List Z0y),Z19:=[] } : Z0j),Z07:=1,Z05:=([] : List Int),Z1d:=0,Z1e:=0 } : Z0w),({ Z0u:=1,Z0s:=({ Z0h:=0,Z02:=[112,47,65],Z07:=[108,97,110,103,47,79,98,106,101,99,116],Z05:=([] : List (List UInt8)),Z0n:=([] : List Z13),Z0m:=([] : List Z0y),Z19:=[] } : Z0j),Z07:=0,Z05:=([] : List Int),Z1d:=0,Z1e:=0 } : Z0w)][v11]?).bind fun v12=>
    (Z2s t0.1 [({ Z0u:=0,Z0s:=({ Z0h:=1,Z02:=[108,97,110,103,47,79,98,106,101,99,116],Z07:=[],Z05:=([] : List (List UInt8)),Z0n:=([] : List Z13),Z0m:=([] : List Z0y),Z19:=[] } : Z0j),Z07:=(-1),Z05:=([] : List Int),Z1d:=0,Z1e:=0 } : Z0w),({ Z0u:=0,Z0s:=({ Z0h:=0,Z02:=[112,47,65],Z07:=[108,97,110,103,47,79,98,106,101,99,116],Z05:=([] : List (List UInt8)),Z0n:=([] : List Z13),Z0m:=([] : List Z0y),Z19:=[] } : Z0j),Z07:=0,Z05:=([] : List Int),Z1d:=0,Z1e:=0 } : Z0w),({ Z0u:=0,Z0s:=({ Z0h:=0,Z02:=[112,47,66],Z07:=[108,97,110,103,47,79,98,106,101,99,116],Z05:=([] : List (List UInt8)),Z0n:=([] : List Z13),Z0m:=([] : List Z0y),Z19:=[] } : Z0j),Z07:=0,Z05:=([] : List Int),Z1d:=0,Z1e:=0 } : Z0w),({ Z0u:=0,Z0s:=({ Z0h:=0,Z02:=[113,47,67],Z07:=[112,47,65],Z05:=([] : List (List UInt8)),Z0n:=([] : List Z13),Z0m:=([] : List Z0y),Z19:=[] } : Z0j),Z07:=1,Z05:=([] : List Int),Z1d:=0,Z1e:=0 } : Z0w),({ Z0u:=1,Z0s:=({ Z0h:=0,Z02:=[112,47,65],Z07:=[108,97,110,103,47,79,98,106,101,99,116],Z05:=([] : List (List UInt8)),Z0n:=([] : List Z13),Z0m:=([] : List Z0y),Z19:=[] } : Z0j),Z07:=0,Z05:=([] : List Int),Z1d:=0,Z1e:=0 } : Z0w)].length).bind fun v13=>
    ([({ Z0u:=0,Z0s:=({ Z0h:=1,Z02:=[108,97,110,103,47,79,98,106,101,99,116],Z07:=[],Z05:=([] : List (List UInt8)),Z0n:=([] : List Z13),Z0m:=([] : List Z0y),Z19:=[] } : Z0j),Z07:=(-1),Z05:=([] : List Int),Z1d:=0,Z1e:=0 } : Z0w),({ Z0u:=0,Z0s:=({ Z0h:=0,Z02:=[112,47,65],Z07:=[108,97,110,103,47,79,98,106,101,99,116],Z05:=([] : List (List UInt8)),Z0n:=([] : List Z13),Z0m:=([] : List Z0y),Z19:=[] } : Z0j),Z07:=0,Z05:=([] : List Int),Z1d:=0,Z1e:=0 } : Z0w),({ Z0u:=0,Z0s:=({ Z0h:=0,Z02:=[112,47,66],Z07:=[108,97,110,103,47,79,98,106,101,99,116],Z05:=([] : List (List UInt8)),Z0n:=([] : List Z13),Z0m:=([] : List Z0y),Z19:=[] } : Z0j),Z07:=0,Z05:=([] : List Int),Z1d:=0,Z1e:=0 } : Z0w),({ Z0u:=0,Z0s:=({ Z0h:=0,Z02:=[113,47,67],Z07:=[112,47,65],Z05:=([] : List (List UInt8)),Z0n:=([] : List Z13),Z0m:=([] : List Z0y),Z19:=[] } : Z0j),Z07:=1,Z05:=([] : List Int),Z1d:=0,Z1e:=0 } : Z0w),({ Z0u:=1,Z0s:=({ Z0h:=0,Z02:=[112,47,65],Z07:=[108,97,110,103,47,79,98,106,101,99,116],Z05:=([] : List (List UInt8)),Z0n:=([] : List Z13),Z0m:=([] : List Z0y),Z19:=[] } : Z0j),Z07:=0,Z05:=([] : List Int),Z1d:=0,Z1e:=0 } : Z0w)][v13]?).bind fun v14=>
    (Z26 32 (t0.2 ++ [({ Z0u:=v12.Z0u,Z02:=v14.Z0s.Z02,Z1h:=t0.1 } : Z2m)]).length).bind fun v15=>
    (some (IntKind.wrap .i64 (t0.1 + (1 : Int)))).bind fun v16=>
    some (.next (v16,(t0.2 ++ [({ Z0u:=v12.Z0u,Z02:=v14.Z0s.Z02,Z1h:=t0.1 } : Z2m)])))) else
  (some (.done (t0.2)))
def Zrj : Option (Z09):=
  (Z6u 48 2 2).bind fun v0=>
  (Z0e l24x1 Z0i (0,([] : List Z2m))).bind fun q0=>
  some ({ Z23:=(List.replicate (2 : Int).toNat ({ Z3h:=([] : List Z4h),Z2x:=([] : List Z4e) } : Z1o)),Z1c:=[({ Z0u:=0,Z0s:=({ Z0h:=1,Z02:=[108,97,110,103,47,79,98,106,101,99,116],Z07:=[],Z05:=([] : List (List UInt8)),Z0n:=([] : List Z13),Z0m:=([] : List Z0y),Z19:=[] } : Z0j),Z07:=(-1),Z05:=([] : List Int),Z1d:=0,Z1e:=0 } : Z0w),({ Z0u:=0,Z0s:=({ Z0h:=0,Z02:=[112,47,65],Z07:=[108,97,110,103,47,79,98,106,101,99,116],Z05:=([] : List (List UInt8)),Z0n:=([] : List Z13),Z0m:=([] : List Z0y),Z19:=[] } : Z0j),Z07:=0,Z05:=([] : List Int),Z1d:=0,Z1e:=0 } : Z0w),({ Z0u:=0,Z0s:=({ Z0h:=0,Z02:=[112,47,66],Z07:=[108,97,110,103,47,79,98,106,101,99,116],Z05:=([] : List (List UInt8)),Z0n:=([] : List Z13),Z0m:=([] : List Z0y),Z19:=[] } : Z0j),Z07:=0,Z05:=([] : List Int),Z1d:=0,Z1e:=0 } : Z0w),({ Z0u:=0,Z0s:=({ Z0h:=0,Z02:=[113,47,67],Z07:=[112,47,65],Z05:=([] : List (List UInt8)),Z0n:=([] : List Z13),Z0m:=([] : List Z0y),Z19:=[] } : Z0j),Z07:=1,Z05:=([] : List Int),Z1d:=0,Z1e:=0 } : Z0w),({ Z0u:=1,Z0s:=({ Z0h:=0,Z02:=[112,47,65],Z07:=[108,97,110,103,47,79,98,106,101,99,116],Z05:=([] : List (List UInt8)),Z0n:=([] : List Z13),Z0m:=([] : List Z0y),Z19:=[] } : Z0j),Z07:=0,Z05:=([] : List Int),Z1d:=0,Z1e:=0 } : Z0w)],Z2q:=q0,Z3q:=([] : List Z47) } : Z09)
def Zu8 : (Int × (List Z2m)) → SL:=
  fun t0=>⟨43,[(0,.lptr 0 0 0),(1,.lsl 1 0 (([({ Z0u:=0,Z0s:=({ Z0h:=1,Z02:=[108,97,110,103,47,79,98,106,101,99,116],Z07:=[],Z05:=([] : List (List UInt8)),Z0n:=([] : List Z13),Z0m:=([] : List Z0y),Z19:=[] } : Z0j),Z07:=(-1),Z05:=([] : List Int),Z1d:=0,Z1e:=0 } : Z0w),({ Z0u:=0,Z0s:=({ Z0h:=0,Z02:=[112,47,65],Z07:=[108,97,110,103,47,79,98,106,101,99,116],Z05:=([] : List (List UInt8)),Z0n:=([] : List Z13),Z0m:=([] : List Z0y),Z19:=[] } : Z0j),Z07:=0,Z05:=([] : List Int),Z1d:=0,Z1e:=0 } : Z0w),({ Z0u:=0,Z0s:=({ Z0h:=0,Z02:=[112,47,66],Z07:=[108,97,110,103,47,79,98,106,101,99,116],Z05:=([] : List (List UInt8)),Z0n:=([] : List Z13),Z0m:=([] : List Z0y),Z19:=[] } : Z0j),Z07:=0,Z05:=([] : List Int),Z1d:=0,Z1e:=0 } : Z0w),({ Z0u:=0,Z0s:=({ Z0h:=0,Z02:=[113,47,67],Z07:=[112,47,65],Z05:=([] : List (List UInt8)),Z0n:=([] : List Z13),Z0m:=([] : List Z0y),Z19:=[] } : Z0j),Z07:=1,Z05:=([] : List Int),Z1d:=0,Z1e:=0 } : Z0w),({ Z0u:=1,Z0s:=({ Z0h:=0,Z02:=[112,47,65],Z07:=[108,97,110,103,47,79,98,106,101,99,116],Z05:=([] : List (List UInt8)),Z0n:=([] : List Z13),Z0m:=([] : List Z0y),Z19:=[] } : Z0j),Z07:=0,Z05:=([] : List Int),Z1d:=0,Z1e:=0 } : Z0w)].map Z3g).length)),(2,.lptr 2 0 0),(3,dI t0.1)],[(0,{ sz:=4,rows:=[[.sl true (([] : List Z1o).map Z2w),.sl true (([] : List Z0w).map Z3g),.sl true (([] : List Z2m).map Z54),.sl true (([] : List Z47).map Z5m)]],frz:=0,pure:=false }),(1,{ sz:=12,rows:=([({ Z0u:=0,Z0s:=({ Z0h:=1,Z02:=[108,97,110,103,47,79,98,106,101,99,116],Z07:=[],Z05:=([] : List (List UInt8)),Z0n:=([] : List Z13),Z0m:=([] : List Z0y),Z19:=[] } : Z0j),Z07:=(-1),Z05:=([] : List Int),Z1d:=0,Z1e:=0 } : Z0w),({ Z0u:=0,Z0s:=({ Z0h:=0,Z02:=[112,47,65],Z07:=[108,97,110,103,47,79,98,106,101,99,116],Z05:=([] : List (List UInt8)),Z0n:=([] : List Z13),Z0m:=([] : List Z0y),Z19:=[] } : Z0j),Z07:=0,Z05:=([] : List Int),Z1d:=0,Z1e:=0 } : Z0w),({ Z0u:=0,Z0s:=({ Z0h:=0,Z02:=[112,47,66],Z07:=[108,97,110,103,47,79,98,106,101,99,116],Z05:=([] : List (List UInt8)),Z0n:=([] : List Z13),Z0m:=([] : List Z0y),Z19:=[] } : Z0j),Z07:=0,Z05:=([] : List Int),Z1d:=0,Z1e:=0 } : Z0w),({ Z0u:=0,Z0s:=({ Z0h:=0,Z02:=[113,47,67],Z07:=[112,47,65],Z05:=([] : List (List UInt8)),Z0n:=([] : List Z13),Z0m:=([] : List Z0y),Z19:=[] } : Z0j),Z07:=1,Z05:=([] : List Int),Z1d:=0,Z1e:=0 } : Z0w),({ Z0u:=1,Z0s:=({ Z0h:=0,Z02:=[112,47,65],Z07:=[108,97,110,103,47,79,98,106,101,99,116],Z05:=([] : List (List UInt8)),Z0n:=([] : List Z13),Z0m:=([] : List Z0y),Z19:=[] } : Z0j),Z07:=0,Z05:=([] : List Int),Z1d:=0,Z1e:=0 } : Z0w)].map Z3g),frz:=0,pure:=true }),(2,{ sz:=4,rows:=[[.lsl 15 0 (((List.replicate (2 : Int).toNat ({ Z3h:=([] : List Z4h),Z2x:=([] : List Z4e) } : Z1o)).map Z2w).length),.lsl 1 0 (([({ Z0u:=0,Z0s:=({ Z0h:=1,Z02:=[108,97,110,103,47,79,98,106,101,99,116],Z07:=[],Z05:=([] : List (List UInt8)),Z0n:=([] : List Z13),Z0m:=([] : List Z0y),Z19:=[] } : Z0j),Z07:=(-1),Z05:=([] : List Int),Z1d:=0,Z1e:=0 } : Z0w),({ Z0u:=0,Z0s:=({ Z0h:=0,Z02:=[112,47,65],Z07:=[108,97,110,103,47,79,98,106,101,99,116],Z05:=([] : List (List UInt8)),Z0n:=([] : List Z13),Z0m:=([] : List Z0y),Z19:=[] } : Z0j),Z07:=0,Z05:=([] : List Int),Z1d:=0,Z1e:=0 } : Z0w),({ Z0u:=0,Z0s:=({ Z0h:=0,Z02:=[112,47,66],Z07:=[108,97,110,103,47,79,98,106,101,99,116],Z05:=([] : List (List UInt8)),Z0n:=([] : List Z13),Z0m:=([] : List Z0y),Z19:=[] } : Z0j),Z07:=0,Z05:=([] : List Int),Z1d:=0,Z1e:=0 } : Z0w),({ Z0u:=0,Z0s:=({ Z0h:=0,Z02:=[113,47,67],Z07:=[112,47,65],Z05:=([] : List (List UInt8)),Z0n:=([] : List Z13),Z0m:=([] : List Z0y),Z19:=[] } : Z0j),Z07:=1,Z05:=([] : List Int),Z1d:=0,Z1e:=0 } : Z0w),({ Z0u:=1,Z0s:=({ Z0h:=0,Z02:=[112,47,65],Z07:=[108,97,110,103,47,79,98,106,101,99,116],Z05:=([] : List (List UInt8)),Z0n:=([] : List Z13),Z0m:=([] : List Z0y),Z19:=[] } : Z0j),Z07:=0,Z05:=([] : List Int),Z1d:=0,Z1e:=0 } : Z0w)].map Z3g).length),.lsl 1002 0 ((t0.2.map Z54).length),.sl true (([] : List Z47).map Z5m)]],frz:=0,pure:=false }),(15,{ sz:=2,rows:=((List.replicate (2 : Int).toNat ({ Z3h:=([] : List Z4h),Z2x:=([] : List Z4e) } : Z1o)).map Z2w),frz:=0,pure:=true }),(1002,{ sz:=3,rows:=(t0.2.map Z54),frz:=0,pure:=true })]⟩
def J24x1 : JT (((List Z2m))):=
  je 0 fun q0 : (List Z2m)=>⟨43,[(0,.lptr 0 0 0),(2,.lptr 2 0 0)],[(0,{ sz:=4,rows:=[[.sl true (([] : List Z1o).map Z2w),.sl true (([] : List Z0w).map Z3g),.sl true (([] : List Z2m).map Z54),.sl true (([] : List Z47).map Z5m)]],frz:=0,pure:=false }),(1,{ sz:=12,rows:=([({ Z0u:=0,Z0s:=({ Z0h:=1,Z02:=[108,97,110,103,47,79,98,106,101,99,116],Z07:=[],Z05:=([] : List (List UInt8)),Z0n:=([] : List Z13),Z0m:=([] : List Z0y),Z19:=[] } : Z0j),Z07:=(-1),Z05:=([] : List Int),Z1d:=0,Z1e:=0 } : Z0w),({ Z0u:=0,Z0s:=({ Z0h:=0,Z02:=[112,47,65],Z07:=[108,97,110,103,47,79,98,106,101,99,116],Z05:=([] : List (List UInt8)),Z0n:=([] : List Z13),Z0m:=([] : List Z0y),Z19:=[] } : Z0j),Z07:=0,Z05:=([] : List Int),Z1d:=0,Z1e:=0 } : Z0w),({ Z0u:=0,Z0s:=({ Z0h:=0,Z02:=[112,47,66],Z07:=[108,97,110,103,47,79,98,106,101,99,116],Z05:=([] : List (List UInt8)),Z0n:=([] : List Z13),Z0m:=([] : List Z0y),Z19:=[] } : Z0j),Z07:=0,Z05:=([] : List Int),Z1d:=0,Z1e:=0 } : Z0w),({ Z0u:=0,Z0s:=({ Z0h:=0,Z02:=[113,47,67],Z07:=[112,47,65],Z05:=([] : List (List UInt8)),Z0n:=([] : List Z13),Z0m:=([] : List Z0y),Z19:=[] } : Z0j),Z07:=1,Z05:=([] : List Int),Z1d:=0,Z1e:=0 } : Z0w),({ Z0u:=1,Z0s:=({ Z0h:=0,Z02:=[112,47,65],Z07:=[108,97,110,103,47,79,98,106,101,99,116],Z05:=([] : List (List UInt8)),Z0n:=([] : List Z13),Z0m:=([] : List Z0y),Z19:=[] } : Z0j),Z07:=0,Z05:=([] : List Int),Z1d:=0,Z1e:=0 } : Z0w)].map Z3g),frz:=0,pure:=true }),(2,{ sz:=4,rows:=[[.lsl 15 0 (((List.replicate (2 : Int).toNat ({ Z3h:=([] : List Z4h),Z2x:=([] : List Z4e) } : Z1o)).map Z2w).length),.lsl 1 0 (([({ Z0u:=0,Z0s:=({ Z0h:=1,Z02:=[108,97,110,103,47,79,98,106,101,99,116],Z07:=[],Z05:=([] : List (List UInt8)),Z0n:=([] : List Z13),Z0m:=([] : List Z0y),Z19:=[] } : Z0j),Z07:=(-1),Z05:=([] : List Int),Z1d:=0,Z1e:=0 } : Z0w),({ Z0u:=0,Z0s:=({ Z0h:=0,Z02:=[112,47,65],Z07:=[108,97,110,103,47,79,98,106,101,99,116],Z05:=([] : List (List UInt8)),Z0n:=([] : List Z13),Z0m:=([] : List Z0y),Z19:=[] } : Z0j),Z07:=0,Z05:=([] : List Int),Z1d:=0,Z1e:=0 } : Z0w),({ Z0u:=0,Z0s:=({ Z0h:=0,Z02:=[112,47,66],Z07:=[108,97,110,103,47,79,98,106,101,99,116],Z05:=([] : List (List UInt8)),Z0n:=([] : List Z13),Z0m:=([] : List Z0y),Z19:=[] } : Z0j),Z07:=0,Z05:=([] : List Int),Z1d:=0,Z1e:=0 } : Z0w),({ Z0u:=0,Z0s:=({ Z0h:=0,Z02:=[113,47,67],Z07:=[112,47,65],Z05:=([] : List (List UInt8)),Z0n:=([] : List Z13),Z0m:=([] : List Z0y),Z19:=[] } : Z0j),Z07:=1,Z05:=([] : List Int),Z1d:=0,Z1e:=0 } : Z0w),({ Z0u:=1,Z0s:=({ Z0h:=0,Z02:=[112,47,65],Z07:=[108,97,110,103,47,79,98,106,101,99,116],Z05:=([] : List (List UInt8)),Z0n:=([] : List Z13),Z0m:=([] : List Z0y),Z19:=[] } : Z0j),Z07:=0,Z05:=([] : List Int),Z1d:=0,Z1e:=0 } : Z0w)].map Z3g).length),.lsl 1002 0 ((q0.map Z54).length),.sl true (([] : List Z47).map Z5m)]],frz:=0,pure:=false }),(15,{ sz:=2,rows:=((List.replicate (2 : Int).toNat ({ Z3h:=([] : List Z4h),Z2x:=([] : List Z4e) } : Z1o)).map Z2w),frz:=0,pure:=true }),(1002,{ sz:=3,rows:=(q0.map Z54),frz:=0,pure:=true })]⟩
theorem wl24x1 {t0 : Int × (List Z2m)} {r : Ctl (Int × (List Z2m)) (((List Z2m)))} {Γ : Ctx} (h : l24x1 t0 = some r) : A Tryz.prog Γ (lpC Tryz.f24 87) [] (Rd Zu8 J24x1 r) (Zu8 t0).s:=
  go [] [rg 4 [(2,ln ([({ Z0u:=0,Z0s:=({ Z0h:=1,Z02:=[108,97,110,103,47,79,98,106,101,99,116],Z07:=[],Z05:=([] : List (List UInt8)),Z0n:=([] : List Z13),Z0m:=([] : List Z0y),Z19:=[] } : Z0j),Z07:=(-1),Z05:=([] : List Int),Z1d:=0,Z1e:=0 } : Z0w),({ Z0u:=0,Z0s:=({ Z0h:=0,Z02:=[112,47,65],Z07:=[108,97,110,103,47,79,98,106,101,99,116],Z05:=([] : List (List UInt8)),Z0n:=([] : List Z13),Z0m:=([] : List Z0y),Z19:=[] } : Z0j),Z07:=0,Z05:=([] : List Int),Z1d:=0,Z1e:=0 } : Z0w),({ Z0u:=0,Z0s:=({ Z0h:=0,Z02:=[112,47,66],Z07:=[108,97,110,103,47,79,98,106,101,99,116],Z05:=([] : List (List UInt8)),Z0n:=([] : List Z13),Z0m:=([] : List Z0y),Z19:=[] } : Z0j),Z07:=0,Z05:=([] : List Int),Z1d:=0,Z1e:=0 } : Z0w),({ Z0u:=0,Z0s:=({ Z0h:=0,Z02:=[113,47,67],Z07:=[112,47,65],Z05:=([] : List (List UInt8)),Z0n:=([] : List Z13),Z0m:=([] : List Z0y),Z19:=[] } : Z0j),Z07:=1,Z05:=([] : List Int),Z1d:=0,Z1e:=0 } : Z0w),({ Z0u:=1,Z0s:=({ Z0h:=0,Z02:=[112,47,65],Z07:=[108,97,110,103,47,79,98,106,101,99,116],Z05:=([] : List (List UInt8)),Z0n:=([] : List Z13),Z0m:=([] : List Z0y),Z19:=[] } : Z0j),Z07:=0,Z05:=([] : List Int),Z1d:=0,Z1e:=0 } : Z0w)] : List Z0w))]] <| br h (fun h2 h=>bd h fun v11 e11 h=>bd h fun v12 e12 h=>bd h fun v13 e13 h=>bd h fun v14 e14 h=>bd h fun v15 e15 h=>bd h fun v16 e16 h=>go [] [rgo 6 [(4,ia 1 e11),(6,lb e12),(9,ia 1 e13),(12,lb e14),(15,br0 1 3),(16,ap e15)] [0,1,2,3,4,5,6,7,8,9,10,11,12,13,14,15,16,17,18] [16,18] [(1,[0]),(4,[2,3]),(5,[2,3,4]),(6,[2,3,4,5]),(9,[7,8]),(10,[7,8,9]),(11,[7,8,9,10]),(12,[7,8,9,10,11]),(14,[2,3,4,5,6,7,8,9,10,11,12,13]),(15,[2,3,4,5,6,7,8,9,10,11,12,13,14]),(16,[0,1,2,3,4,5,6,7,8,9,10,11,12,13,14,15]),(17,[0,1,2,3,4,5,6,7,8,9,10,11,12,13,14,15,16]),(18,[0,1,2,3,4,5,6,7,8,9,10,11,12,13,14,15,16,17])],rg 5 [(1,n e16)]] <| nx h) fun h2 h=>
  go [] [] <| dn h (iE)
theorem w24 {r : Z09} (h : Zrj = some r) : Z0d Tryz.prog 24 [] (R24 r):=
  cs Tryz.f24 <| bd h fun v0 e0 h=>go [] [rg 1 [(10,bl 5 12)],rg 2 [(0,mk ({ Z3h:=([] : List Z4h),Z2x:=([] : List Z4e) } : Z1o) e0)]] <| bd h fun q0 e17 h=>lp (cv:=[.blk 2 2 1002 3]) (ps:=[(0,0),(14,1),(2,2),(15,15),(1002,1002)]) e17 wl24x1 <| qe <| goN [] [] <| rtB h (.agg [rw_ (List.replicate (2 : Int).toNat ({ Z3h:=([] : List Z4h),Z2x:=([] : List Z4e) } : Z1o)),rw_ ([({ Z0u:=0,Z0s:=({ Z0h:=1,Z02:=[108,97,110,103,47,79,98,106,101,99,116],Z07:=[],Z05:=([] : List (List UInt8)),Z0n:=([] : List Z13),Z0m:=([] : List Z0y),Z19:=[] } : Z0j),Z07:=(-1),Z05:=([] : List Int),Z1d:=0,Z1e:=0 } : Z0w),({ Z0u:=0,Z0s:=({ Z0h:=0,Z02:=[112,47,65],Z07:=[108,97,110,103,47,79,98,106,101,99,116],Z05:=([] : List (List UInt8)),Z0n:=([] : List Z13),Z0m:=([] : List Z0y),Z19:=[] } : Z0j),Z07:=0,Z05:=([] : List Int),Z1d:=0,Z1e:=0 } : Z0w),({ Z0u:=0,Z0s:=({ Z0h:=0,Z02:=[112,47,66],Z07:=[108,97,110,103,47,79,98,106,101,99,116],Z05:=([] : List (List UInt8)),Z0n:=([] : List Z13),Z0m:=([] : List Z0y),Z19:=[] } : Z0j),Z07:=0,Z05:=([] : List Int),Z1d:=0,Z1e:=0 } : Z0w),({ Z0u:=0,Z0s:=({ Z0h:=0,Z02:=[113,47,67],Z07:=[112,47,65],Z05:=([] : List (List UInt8)),Z0n:=([] : List Z13),Z0m:=([] : List Z0y),Z19:=[] } : Z0j),Z07:=1,Z05:=([] : List Int),Z1d:=0,Z1e:=0 } : Z0w),({ Z0u:=1,Z0s:=({ Z0h:=0,Z02:=[112,47,65],Z07:=[108,97,110,103,47,79,98,106,101,99,116],Z05:=([] : List (List UInt8)),Z0n:=([] : List Z13),Z0m:=([] : List Z0y),Z19:=[] } : Z0j),Z07:=0,Z05:=([] : List Int),Z1d:=0,Z1e:=0 } : Z0w)] : List Z0w),rw_ q0,.sl false (([] : List Z47).map Z5m)]) (a2 (a2 (rpI (List.replicate (2 : Int).toNat ({ Z3h:=([] : List Z4h),Z2x:=([] : List Z4e) } : Z1o))) (a2 (rpI ([({ Z0u:=0,Z0s:=({ Z0h:=1,Z02:=[108,97,110,103,47,79,98,106,101,99,116],Z07:=[],Z05:=([] : List (List UInt8)),Z0n:=([] : List Z13),Z0m:=([] : List Z0y),Z19:=[] } : Z0j),Z07:=(-1),Z05:=([] : List Int),Z1d:=0,Z1e:=0 } : Z0w),({ Z0u:=0,Z0s:=({ Z0h:=0,Z02:=[112,47,65],Z07:=[108,97,110,103,47,79,98,106,101,99,116],Z05:=([] : List (List UInt8)),Z0n:=([] : List Z13),Z0m:=([] : List Z0y),Z19:=[] } : Z0j),Z07:=0,Z05:=([] : List Int),Z1d:=0,Z1e:=0 } : Z0w),({ Z0u:=0,Z0s:=({ Z0h:=0,Z02:=[112,47,66],Z07:=[108,97,110,103,47,79,98,106,101,99,116],Z05:=([] : List (List UInt8)),Z0n:=([] : List Z13),Z0m:=([] : List Z0y),Z19:=[] } : Z0j),Z07:=0,Z05:=([] : List Int),Z1d:=0,Z1e:=0 } : Z0w),({ Z0u:=0,Z0s:=({ Z0h:=0,Z02:=[113,47,67],Z07:=[112,47,65],Z05:=([] : List (List UInt8)),Z0n:=([] : List Z13),Z0m:=([] : List Z0y),Z19:=[] } : Z0j),Z07:=1,Z05:=([] : List Int),Z1d:=0,Z1e:=0 } : Z0w),({ Z0u:=1,Z0s:=({ Z0h:=0,Z02:=[112,47,65],Z07:=[108,97,110,103,47,79,98,106,101,99,116],Z05:=([] : List (List UInt8)),Z0n:=([] : List Z13),Z0m:=([] : List Z0y),Z19:=[] } : Z0j),Z07:=0,Z05:=([] : List Int),Z1d:=0,Z1e:=0 } : Z0w)] : List Z0w)) (a2 (rpI q0) (a2 trivial trivial)))) trivial) (by simp only [rwE] <;> kernel_rfl)
def R25 (y0 : Bool) : D:= .bool y0
def Z6s (x0 : Z09) (x1 : Int) : Option (Bool):=
  if (decide (x1 ≥ 0)) = true then (some (decide (x1 < (x0.Z1c.length : Int)))) else
  (some false)
theorem w25 {x0 : Z09} {x1 : Int} {r : Bool} (h : Z6s x0 x1 = some r) : Z0d Tryz.prog 25 [.agg (Z1j x0),dI x1] (R25 r):=
  cs Tryz.f25 <| sp h (fun h0 h=>go [] [rg 0 [(0,bo)],rg 1 [(1,kb h0),(6,ln x0.Z1c)]] <| rt h) fun h0 h=>
  go [] [rg 0 [(0,bo)],rg 1 [(1,kb h0)]] <| rt h
def R40 (y0 : Bool) : D:= .bool y0
def Za9 (x0 : Z09) (x1 : Int) : Option (Bool):=
  if (decide (x1 ≥ 0)) = true then (some (decide (x1 < (x0.Z1c.length : Int)))) else
  (some false)
theorem w40 {x0 : Z09} {x1 : Int} {r : Bool} (h : Za9 x0 x1 = some r) : Z0d Tryz.prog 40 [.agg (Z1j x0),dI x1] (R40 r):=
  cs Tryz.f40 <| sp h (fun h0 h=>go [] [rg 0 [(0,bo)],rg 1 [(1,kb h0),(6,ln x0.Z1c)]] <| rt h) fun h0 h=>
  go [] [rg 0 [(0,bo)],rg 1 [(1,kb h0)]] <| rt h
def R73 (y0 : Int) : D:= .int .i64 y0
def l73x1 (x0 : List UInt8) (x1 t0 : Int) : Option (Ctl (Int) (Unit ⊕ Int)):=
  if (decide (t0 ≥ 0)) = true then
    ((Z30 x0 t0).bind fun v3=>
    if (v3 == x1) = true then
      (some (.done (.inr t0))) else
    ((some (IntKind.wrap .i64 (t0 - (1 : Int)))).bind fun v4=>
      some (.next v4))) else
  (some (.done (.inl (()))))
def Zn0 (x0 : List UInt8) (x1 : Int) : Option (Int):=
  (some (IntKind.wrap .i64 ((x0.length : Int) - (1 : Int)))).bind fun v0=>
  (Z0e (l73x1 x0 x1) Z0i v0).bind fun q1=>
  match q1 with
  | .inl q0=>(some (-1))
  | .inr y0=>(some y0)
def Zpm (x0 : List UInt8) (x1 : Int) : Int → SL:=
  fun t0=>⟨19,[(0,.str x0),(1,d8 x1),(5,dI t0)],[]⟩
def J73x1 : JT (Unit ⊕ Int):=
  ju (je 0 fun q0 : Unit=>⟨19,[],[]⟩) (jr Tryz.prog Tryz.f73 R73)
theorem wl73x1 {x0 : List UInt8} {x1 t0 : Int} {r : Ctl (Int) (Unit ⊕ Int)} {Γ : Ctx} (h : (l73x1 x0 x1) t0 = some r) : A Tryz.prog Γ (lpC Tryz.f73 21) [] (Rd (Zpm x0 x1) J73x1 r) ((Zpm x0 x1) t0).s:=
  go [] [] <| br h (fun h2 h=>bd h fun v3 e3 h=>go [] [rg 4 [(2,ib e3)]] <| br h (fun h3 h=>go [] [] <| dn h (i2 iR)) fun h3 h=>
    bd h fun v4 e4 h=>go [] [rg 3 [(1,n e4)]] <| nx h) fun h2 h=>
  go [] [] <| dn h (i1 iE)
theorem w73 {x0 : List UInt8} {x1 : Int} {r : Int} (h : Zn0 x0 x1 = some r) : Z0d Tryz.prog 73 [.str x0,d8 x1] (R73 r):=
  cs Tryz.f73 <| bd h fun v0 e0 h=>go [] [rg 1 [(2,n e0)]] <| bd h fun q1 e5 h=>lp e5 wl73x1 <| match q1,h with
  | .inl q0,h=>j1 <| (qe <| goN [] [] <| rt h)
  | .inr y0,h=>j2 <| (qr h)
def R52 (y0 : Int) : D:= .int .i64 y0
def Zka (x0 : List UInt8) (x1 : Int) : Option (Int):=
  (Zn0 x0 x1).bind fun v0=>
  some v0
theorem w52 {x0 : List UInt8} {x1 : Int} {r : Int} (h : Zka x0 x1 = some r) : Z0d Tryz.prog 52 [.str x0,d8 x1] (R52 r):=
  cs Tryz.f52 <| bd h fun v0 e0 h=>go [] [rg 1 [(2,k (w73 e0))]] <| rt h
def R45 (y0 : Int) : D:= .int .i64 y0
def Zh0 (x0 : List UInt8) : Option (Int):=
  (Zka x0 47).bind fun v0=>
  some v0
theorem w45 {x0 : List UInt8} {r : Int} (h : Zh0 x0 = some r) : Z0d Tryz.prog 45 [.str x0] (R45 r):=
  cs Tryz.f45 <| bd h fun v0 e0 h=>go [] [rg 1 [(1,k (w52 e0))]] <| rt h
def R41 (y0 : (List UInt8)) : D:= .str y0
def Zbp (x0 : List UInt8) : Option ((List UInt8)):=
  (Zh0 x0).bind fun v0=>
  (some (if v0 > (0 : Int) then v0 else 0)).bind fun v1=>
  (sub x0 0 v1).bind fun v2=>
  some v2
theorem w41 {x0 : List UInt8} {r : (List UInt8)} (h : Zbp x0 = some r) : Z0d Tryz.prog 41 [.str x0] (R41 r):=
  cs Tryz.f41 <| bd h fun v0 e0 h=>bd h fun v1 e1 h=>bd h fun v2 e2 h=>go [] [rg 1 [(2,k (w45 e0)),(3,n e1),(4,ss e2)]] <| rt h
def R26 (y0 : Bool) : D:= .bool y0
def j26x1 (x0 : Z09) (x1 x2 : Int) : Option (Bool):=
  (Z0g x0.Z1c x1).bind fun v2=>
  (Z0g x0.Z1c x2).bind fun v3=>
  if (v2.Z0u == v3.Z0u) = true then ((Zbp v2.Z0s.Z02).bind fun v4=>
  (Zbp v3.Z0s.Z02).bind fun v5=>
  some (v4 == v5)) else
  (some false)
def Z95 (x0 : Z09) (x1 x2 : Int) : Option (Bool):=
  (Za9 x0 x1).bind fun v0=>
  if (!v0) = true then (some false) else
  ((Za9 x0 x2).bind fun v1=>
  if (!v1) = true then
    (some false) else
  ((j26x1 x0 x1 x2)))
theorem wj26x1 {x0 : Z09} {x1 x2 : Int} {r : Bool} {Γ : Ctx} (h : (j26x1 x0 x1 x2) = some r) : Jn Tryz.prog Tryz.f26 Γ (Den.Ends Tryz.prog Tryz.f26 (R26 r)) 11 ⟨45,[(1,dI x1),(2,dI x2),(3,.ptr (Z1j x0))],[]⟩:=
  so <| bd h fun v2 e2 h=>bd h fun v3 e3 h=>sp h (fun h2 h=>bd h fun v4 e4 h=>bd h fun v5 e5 h=>go [] [rgo 3 [(3,ix e2),(8,ix e3)] [0,1,2,3,4,5,6,7,8,9,10,11,12,13] [12,13,1005,1006,1007,1008,1009] [(1,[0]),(3,[0,1,2]),(4,[0,1,2,3]),(6,[5]),(8,[5,6,7]),(9,[5,6,7,8]),(12,[0,1,2,3,4,10,11]),(13,[0,1,2,3,4,5,6,7,8,9,10,11,12])],rgo 4 [(4,kb h2),(9,k (w41 e4)),(13,k (w41 e5))] [0,1,2,3,4,5,6,7,8,9,10,11,12,13,14,15,16] [] [(1,[0]),(3,[2]),(4,[0,1,2,3]),(5,[0,1,2,3,4]),(6,[0,1,2,3,4,5]),(7,[0,1,2,3,4,5,6]),(8,[0,1,2,3,4,5,6,7]),(9,[0,1,2,3,4,5,6,7,8]),(10,[0,1,2,3,4,5]),(11,[0,1,2,3,4,5,10]),(12,[0,1,2,3,4,5,10,11]),(13,[0,1,2,3,4,5,6,7,8,9,10,11,12]),(14,[0,1,2,3,4,5,6,7,8,9,10,11,12,13]),(15,[0,1,2,3,4,5,6,7,8,9,10,11,12,13,14]),(16,[0,1,2,3,4,5,6,7,8,9,10,11,12,13,14,15])]] <| rt h) fun h2 h=>
  go [] [rgo 3 [(3,ix e2),(8,ix e3)] [0,1,2,3,4,5,6,7,8,9,10,11,12,13] [12,13,1005,1006,1007,1008,1009] [(1,[0]),(3,[0,1,2]),(4,[0,1,2,3]),(6,[5]),(8,[5,6,7]),(9,[5,6,7,8]),(12,[0,1,2,3,4,10,11]),(13,[0,1,2,3,4,5,6,7,8,9,10,11,12])],rgo 4 [(4,kb h2)] [0,1,2,3,4,5,6,7,8,9,10,11,12,13,14,15,16] [] [(1,[0]),(3,[2]),(4,[0,1,2,3]),(5,[0,1,2,3,4]),(6,[0,1,2,3,4,5]),(7,[0,1,2,3,4,5,6]),(8,[0,1,2,3,4,5,6,7]),(9,[0,1,2,3,4,5,6,7,8]),(10,[0,1,2,3,4,5]),(11,[0,1,2,3,4,5,10]),(12,[0,1,2,3,4,5,10,11]),(13,[0,1,2,3,4,5,6,7,8,9,10,11,12]),(14,[0,1,2,3,4,5,6,7,8,9,10,11,12,13]),(15,[0,1,2,3,4,5,6,7,8,9,10,11,12,13,14]),(16,[0,1,2,3,4,5,6,7,8,9,10,11,12,13,14,15])]] <| rt h
theorem w26 {x0 : Z09} {x1 x2 : Int} {r : Bool} (h : Z95 x0 x1 x2 = some r) : Z0d Tryz.prog 26 [.agg (Z1j x0),dI x1,dI x2] (R26 r):=
  cs Tryz.f26 <| bd h fun v0 e0 h=>sp h (fun h0 h=>go [] [rg 0 [(0,bo)],rg 1 [(2,k (w40 e0)),(5,gs0 h0),(6,gs0 h0),(7,gs0 h0),(8,gs0 h0),(9,py h0)]] <| bT rfl <| go [] [] <| rt h) fun h0 h=>
  bd h fun v1 e1 h=>go [] [rg 0 [(0,bo)],rg 1 [(2,k (w40 e0)),(5,gw h0 g0),(6,gw h0 g0),(7,gw h0 (k (w40 e1))),(8,gw h0 g0),(9,pn h0)]] <| br h (fun h1 h=>go [] [] <| rt h) fun h1 h=>
  go [3] [] <| jn (wj26x1 h)
def R28 (y0 : Bool) : D:= .bool y0
def j28x3 (t0 : (List Int) × (List Bool)) (v22 : Int) (v24 : List Int) (x0 : Z09) : Option (Ctl ((List Int) × (List Bool)) (Unit ⊕ Bool)):=
  (Z2s v22 t0.2.length).bind fun v27=>
  (t0.2[v27]?).bind fun v28=>
  (Z0g x0.Z1c v22).bind fun v29=>
  if (decide (v29.Z07 ≥ 0)) = true then
    ((Z26 8 (v24 ++ [v29.Z07]).length).bind fun v30=>
    (Z0g x0.Z1c v22).bind fun v31=>
    (Z26 8 ((v24 ++ [v29.Z07]) ++ v31.Z05).length).bind fun v32=>
    some (.next (((v24 ++ [v29.Z07]) ++ v31.Z05),(t0.2.set v27 true)))) else
  ((Z0g x0.Z1c v22).bind fun v33=>
    (Z26 8 (v24 ++ v33.Z05).length).bind fun v34=>
    some (.next ((v24 ++ v33.Z05),(t0.2.set v27 true))))
def Zgv (x0 : Z09) (x2 : Int) (t0 : (List Int) × (List Bool)) : Option (Ctl ((List Int) × (List Bool)) (Unit ⊕ Bool)):=
  if (decide ((t0.1.length : Int) > 0)) = true then
    ((some (IntKind.wrap .i64 ((t0.1.length : Int) - (1 : Int)))).bind fun v20=>
    (Z2s v20 t0.1.length).bind fun v21=>
    (t0.1[v21]?).bind fun v22=>
    (some (IntKind.wrap .i64 ((t0.1.length : Int) - (1 : Int)))).bind fun v23=>
    (Z9j t0.1 v23).bind fun v24=>
    if (v22 == x2) = true then
      (some (.done (.inr true))) else
    (if (decide (v22 < x2)) = true then (some (.next (v24,t0.2))) else
      ((Z2s v22 t0.2.length).bind fun v25=>
      (t0.2[v25]?).bind fun v26=>
      if v26 = true then
        (some (.next (v24,t0.2))) else
      ((j28x3 t0 v22 v24 x0))))) else
  (some (.done (.inl (()))))
def Zj3 (x0 : Z09) (x1 x2 : Int) : Option (Bool):=
  (some (IntKind.wrap .i64 (x1 + (1 : Int)))).bind fun v3=>
  (Z6u 1 v3 v3).bind fun v4=>
  (Z0e (Zgv x0 x2) Z0i ([x1],(List.replicate v3.toNat false))).bind fun q1=>
  match q1 with
  | .inl q0=>(some false)
  | .inr y0=>(some y0)
def j28x1 (x0 : Z09) (x1 x2 : Int) : Option (Bool):=
  if (x1 == x2) = true then (some true) else
  ((Z0g x0.Z1c x2).bind fun v2=>
  if (v2.Z0s.Z02 == ([108,97,110,103,47,79,98,106,101,99,116] : List UInt8)) = true then
    (some true) else
  ((Zj3 x0 x1 x2)))
def Ze6 (x0 : Z09) (x1 x2 : Int) : Option (Bool):=
  (Za9 x0 x1).bind fun v0=>
  if (!v0) = true then (some false) else
  ((Za9 x0 x2).bind fun v1=>
  if (!v1) = true then
    (some false) else
  ((j28x1 x0 x1 x2)))
def Zod (x0 : Z09) (x2 : Int) : ((List Int) × (List Bool)) → SL:=
  fun t0=>⟨88,[(2,dI x2),(3,.ptr (Z1j x0)),(7,.lsl 7 0 ((t0.1.map Z03).length)),(8,.lsl 8 0 ((t0.2.map Z22).length))],[(7,{ sz:=1,rows:=(t0.1.map Z03),frz:=0,pure:=true }),(8,{ sz:=1,rows:=(t0.2.map Z22),frz:=0,pure:=true })]⟩
def J28x1 : JT (Unit ⊕ Bool):=
  ju (je 0 fun q0 : Unit=>⟨88,[],[]⟩) (jr Tryz.prog Tryz.f28 R28)
theorem wj28x3 (x2 : Int) {t0 : (List Int) × (List Bool)} {v22 : Int} {v24 : List Int} {x0 : Z09} {r : Ctl ((List Int) × (List Bool)) (Unit ⊕ Bool)} {Γ : Ctx} (h : (j28x3 t0 v22 v24 x0) = some r) : Jn Tryz.prog Tryz.f28 Γ (Rd (Zod x0 x2) J28x1 r) 48415 ⟨88,[(2,dI x2),(3,.ptr (Z1j x0)),(7,.lsl 7 0 ((v24.map Z03).length)),(8,.lsl 8 0 ((t0.2.map Z22).length)),(9,dI v22)],[(7,{ sz:=1,rows:=(v24.map Z03),frz:=0,pure:=true }),(8,{ sz:=1,rows:=(t0.2.map Z22),frz:=0,pure:=true })]⟩:=
  so <| bd h fun v27 e27 h=>bd h fun v28 e28 h=>go [14] [rg 13 [(2,ia 8 e27),(3,st e28 0 [.bool true] true)]] <| nm (congrArg (fun nn : Nat=>(⟨88,[(2,dI x2),(3,.ptr (Z1j x0)),(7,.lsl 7 0 ((v24.map Z03).length)),(8,.lsl 8 0 nn),(9,dI v22)],[(7,{ sz:=1,rows:=(v24.map Z03),frz:=0,pure:=true }),(8,{ sz:=1,rows:=((t0.2.set v27 true).map Z22),frz:=0,pure:=true })]⟩ : SL)) (by simp only [List.length_map,List.length_set] : (t0.2.map Z22).length = ((t0.2.set v27 true).map Z22).length)) <| so <| bd h fun v29 e29 h=>go [] [rg 14 [(3,ix e29)]] <| br h (fun h13 h=>bd h fun v30 e30 h=>bd h fun v31 e31 h=>bd h fun v32 e32 h=>go [] [rg 16 [(2,br0 1 0),(3,ap e30)],rg 17 [(4,ix e31),(7,ap e32)]] <| nx h) fun h13 h=>
  bd h fun v33 e33 h=>bd h fun v34 e34 h=>go [] [rg 17 [(4,ix e33),(7,ap e34)]] <| nx h
theorem wl28x1 {x0 : Z09} {x2 : Int} {t0 : (List Int) × (List Bool)} {r : Ctl ((List Int) × (List Bool)) (Unit ⊕ Bool)} {Γ : Ctx} (h : (Zgv x0 x2) t0 = some r) : A Tryz.prog Γ (lpC Tryz.f28 159) [] (Rd (Zod x0 x2) J28x1 r) ((Zod x0 x2) t0).s:=
  go [] [rg 7 [(1,ln t0.1)]] <| br h (fun h9 h=>bd h fun v20 e20 h=>bd h fun v21 e21 h=>bd h fun v22 e22 h=>bd h fun v23 e23 h=>bd h fun v24 e24 h=>go [10] [rg 8 [(2,ln t0.1),(3,n e20),(4,ia 7 e21),(5,lb e22)],rg 9 [(2,ln t0.1),(3,n e23),(4,ck e24)]] <| ctE 7 7 e24 <| so <| go [] [] <| br h (fun h10 h=>go [] [] <| dn h (i2 iR)) fun h10 h=>
    sp h (fun h11 h=>go [] [rg 12 [(2,kb h11)]] <| bT rfl <| go [] [] <| nx h) fun h11 h=>
      bd h fun v25 e25 h=>bd h fun v26 e26 h=>go [] [rg 12 [(2,kb h11),(6,ia 8 e25),(7,lb e26)]] <| br h (fun h12 h=>go [] [] <| nx h) fun h12 h=>
      go [13] [] <| jn ((wj28x3 x2) h)) fun h9 h=>
  go [] [] <| dn h (i1 iE)
theorem wj28x2 {x0 : Z09} {x1 x2 : Int} {r : Bool} {Γ : Ctx} (h : (Zj3 x0 x1 x2) = some r) : Jn Tryz.prog Tryz.f28 Γ (Den.Ends Tryz.prog Tryz.f28 (R28 r)) 23 ⟨88,[(1,dI x1),(2,dI x2),(3,.ptr (Z1j x0))],[]⟩:=
  so <| bd h fun v3 e3 h=>bd h fun v4 e4 h=>go [] [rg 5 [(1,bl 1 0)],rg 6 [(1,n e3),(2,mk false e4)]] <| bd h fun q1 e35 h=>lp (ps:=[(35,7),(38,8)]) e35 wl28x1 <| match q1,h with
  | .inl q0,h=>j1 <| (qe <| goN [] [] <| rt h)
  | .inr y0,h=>j2 <| (qr h)
theorem wj28x1 {x0 : Z09} {x1 x2 : Int} {r : Bool} {Γ : Ctx} (h : (j28x1 x0 x1 x2) = some r) : Jn Tryz.prog Tryz.f28 Γ (Den.Ends Tryz.prog Tryz.f28 (R28 r)) 19 ⟨88,[(1,dI x1),(2,dI x2),(3,.ptr (Z1j x0))],[]⟩:=
  so <| sp h (fun h2 h=>go [] [rg 3 [(2,kb h2)]] <| bT rfl <| go [] [] <| rt h) fun h2 h=>
  bd h fun v2 e2 h=>go [] [rg 3 [(2,kb h2),(7,ix e2)]] <| br h (fun h3 h=>go [] [] <| rt h) fun h3 h=>
  go [5] [] <| jn (wj28x2 h)
theorem w28 {x0 : Z09} {x1 x2 : Int} {r : Bool} (h : Ze6 x0 x1 x2 = some r) : Z0d Tryz.prog 28 [.agg (Z1j x0),dI x1,dI x2] (R28 r):=
  cs Tryz.f28 <| bd h fun v0 e0 h=>sp h (fun h0 h=>go [] [rg 0 [(0,bo)],rg 1 [(2,k (w40 e0)),(5,gs0 h0),(6,gs0 h0),(7,gs0 h0),(8,gs0 h0),(9,py h0)]] <| bT rfl <| go [] [] <| rt h) fun h0 h=>
  bd h fun v1 e1 h=>go [] [rg 0 [(0,bo)],rg 1 [(2,k (w40 e0)),(5,gw h0 g0),(6,gw h0 g0),(7,gw h0 (k (w40 e1))),(8,gw h0 g0),(9,pn h0)]] <| br h (fun h1 h=>go [] [] <| rt h) fun h1 h=>
  go [3] [] <| jn (wj28x1 h)
def R13 (y0 : Bool) : D:= .bool y0
def j13x1 (x0 : Z09) (x1 x2 x3 : Int) : Option (Bool):=
  (some (Z20 .i64 x3 (1 : Int))).bind fun v2=>
  if (v2 != 0) = true then
    (some true) else
  ((some (Z20 .i64 x3 (2 : Int))).bind fun v3=>
    if (v3 != 0) = true then
      (some (x1 == x2)) else
    ((Z95 x0 x1 x2).bind fun v4=>
      if v4 = true then
        (some true) else
      ((some (Z20 .i64 x3 (4 : Int))).bind fun v5=>
        if (v5 != 0) = true then ((Ze6 x0 x1 x2).bind fun v6=>
        some v6) else
        (some false))))
def Z84 (x0 : Z09) (x1 x2 x3 : Int) : Option (Bool):=
  (Z6s x0 x1).bind fun v0=>
  if (!v0) = true then (some false) else
  ((Z6s x0 x2).bind fun v1=>
  if (!v1) = true then
    (some false) else
  ((j13x1 x0 x1 x2 x3)))
theorem wj13x1 {x0 : Z09} {x1 x2 x3 : Int} {r : Bool} {Γ : Ctx} (h : (j13x1 x0 x1 x2 x3) = some r) : Jn Tryz.prog Tryz.f13 Γ (Den.Ends Tryz.prog Tryz.f13 (R13 r)) 35 ⟨44,[(1,dI x1),(2,dI x2),(3,dI x3),(4,.ptr (Z1j x0))],[]⟩:=
  so <| bd h fun v2 e2 h=>go [] [rg 3 [(1,n e2)]] <| br h (fun h2 h=>go [] [] <| rt h) fun h2 h=>
  bd h fun v3 e3 h=>go [] [rg 5 [(1,n e3)]] <| br h (fun h3 h=>go [] [] <| rt h) fun h3 h=>
    bd h fun v4 e4 h=>go [] [rg 7 [(3,k (w26 e4))]] <| br h (fun h4 h=>go [] [] <| rt h) fun h4 h=>
      bd h fun v5 e5 h=>sp h (fun h5 h=>bd h fun v6 e6 h=>go [] [rg 9 [(1,n e5),(2,kb h5),(7,k (w28 e6))]] <| rt h) fun h5 h=>
        go [] [rg 9 [(1,n e5),(2,kb h5)]] <| rt h
theorem w13 {x0 : Z09} {x1 x2 x3 : Int} {r : Bool} (h : Z84 x0 x1 x2 x3 = some r) : Z0d Tryz.prog 13 [.agg (Z1j x0),dI x1,dI x2,dI x3] (R13 r):=
  cs Tryz.f13 <| bd h fun v0 e0 h=>sp h (fun h0 h=>go [] [rg 0 [(0,bo)],rg 1 [(2,k (w25 e0)),(5,gs0 h0),(6,gs0 h0),(7,gs0 h0),(8,gs0 h0),(9,py h0)]] <| bT rfl <| go [] [] <| rt h) fun h0 h=>
  bd h fun v1 e1 h=>go [] [rg 0 [(0,bo)],rg 1 [(2,k (w25 e0)),(5,gw h0 g0),(6,gw h0 g0),(7,gw h0 (k (w25 e1))),(8,gw h0 g0),(9,pn h0)]] <| br h (fun h1 h=>go [] [] <| rt h) fun h1 h=>
  go [3] [] <| jn (wj13x1 h)
def R11 (y0 : Bool) : D:= .bool y0
def j11x1 (x0 : Z09) (x1 x2 : Int) : Option (Bool):=
  (Z0g x0.Z1c x2).bind fun v2=>
  (some (Z20 .i64 v2.Z0s.Z0h (1 : Int))).bind fun v3=>
  if (v3 != 0) = true then (some true) else
  ((Z95 x0 x1 x2).bind fun v4=>
  some v4)
def Z9p (x0 : Z09) (x1 x2 : Int) : Option (Bool):=
  (Z6s x0 x1).bind fun v0=>
  if (!v0) = true then (some false) else
  ((Z6s x0 x2).bind fun v1=>
  if (!v1) = true then
    (some false) else
  ((j11x1 x0 x1 x2)))
theorem wj11x1 {x0 : Z09} {x1 x2 : Int} {r : Bool} {Γ : Ctx} (h : (j11x1 x0 x1 x2) = some r) : Jn Tryz.prog Tryz.f11 Γ (Den.Ends Tryz.prog Tryz.f11 (R11 r)) 11 ⟨32,[(1,dI x1),(2,dI x2),(3,.ptr (Z1j x0))],[]⟩:=
  so <| bd h fun v2 e2 h=>bd h fun v3 e3 h=>sp h (fun h2 h=>go [] [rg 3 [(3,ix e2),(7,n e3),(8,kb h2)]] <| rt h) fun h2 h=>
  bd h fun v4 e4 h=>go [] [rg 3 [(3,ix e2),(7,n e3),(8,kb h2),(13,k (w26 e4))]] <| rt h
theorem w11 {x0 : Z09} {x1 x2 : Int} {r : Bool} (h : Z9p x0 x1 x2 = some r) : Z0d Tryz.prog 11 [.agg (Z1j x0),dI x1,dI x2] (R11 r):=
  cs Tryz.f11 <| bd h fun v0 e0 h=>sp h (fun h0 h=>go [] [rg 0 [(0,bo)],rg 1 [(2,k (w25 e0)),(5,gs0 h0),(6,gs0 h0),(7,gs0 h0),(8,gs0 h0),(9,py h0)]] <| bT rfl <| go [] [] <| rt h) fun h0 h=>
  bd h fun v1 e1 h=>go [] [rg 0 [(0,bo)],rg 1 [(2,k (w25 e0)),(5,gw h0 g0),(6,gw h0 g0),(7,gw h0 (k (w25 e1))),(8,gw h0 g0),(9,pn h0)]] <| br h (fun h1 h=>go [] [] <| rt h) fun h1 h=>
  go [3] [] <| jn (wj11x1 h)
def R15 (y0 : Bool) : D:= .bool y0
def j15x1 (x0 : Z09) (x1 x2 x3 : Int) : Option (Bool):=
  (some (Z20 .i64 x3 (5 : Int))).bind fun v3=>
  if (v3 != 0) = true then (some true) else
  ((Z95 x0 x1 x2).bind fun v4=>
  some v4)
def Z91 (x0 : Z09) (x1 x2 x3 : Int) : Option (Bool):=
  (Z6s x0 x1).bind fun v0=>
  if (!v0) = true then (some false) else
  ((Z6s x0 x2).bind fun v1=>
    if (!v1) = true then (some false) else
    ((some (Z20 .i64 x3 (10 : Int))).bind fun v2=>
      if (v2 != 0) = true then
        (some false) else
      ((j15x1 x0 x1 x2 x3))))
theorem wj15x1 {x0 : Z09} {x1 x2 x3 : Int} {r : Bool} {Γ : Ctx} (h : (j15x1 x0 x1 x2 x3) = some r) : Jn Tryz.prog Tryz.f15 Γ (Den.Ends Tryz.prog Tryz.f15 (R15 r)) 11 ⟨33,[(1,dI x1),(2,dI x2),(3,dI x3),(4,.ptr (Z1j x0))],[]⟩:=
  so <| bd h fun v3 e3 h=>sp h (fun h3 h=>go [] [rg 3 [(1,n e3),(2,kb h3)]] <| rt h) fun h3 h=>
  bd h fun v4 e4 h=>go [] [rg 3 [(1,n e3),(2,kb h3),(7,k (w26 e4))]] <| rt h
theorem w15 {x0 : Z09} {x1 x2 x3 : Int} {r : Bool} (h : Z91 x0 x1 x2 x3 = some r) : Z0d Tryz.prog 15 [.agg (Z1j x0),dI x1,dI x2,dI x3] (R15 r):=
  cs Tryz.f15 <| go [1] [rg 0 [(0,bo)]] <| po <| bd h fun v0 e0 h=>pr 5 [(2,k (w25 e0))] <| sp h (fun h0 h=>pr 10 [(5,gs0 h0),(6,gs0 h0),(7,gs0 h0),(8,gs0 h0),(9,py h0)] <| pe <| goN [] [] <| bT rfl <| go [] [] <| rt h) fun h0 h=>
  bd h fun v1 e1 h=>pr 6 [(5,gw h0 g0),(6,gw h0 g0),(7,gw h0 (k (w25 e1))),(8,gw h0 g0),(9,pn h0)] <| sp h (fun h1 h=>pr 4 [(11,gs0 h1),(12,gs0 h1),(13,gs0 h1),(14,py h1)] <| pe <| goN [] [] <| bT rfl <| go [] [] <| rt h) fun h1 h=>
    bd h fun v2 e2 h=>pr 4 [(11,gw h1 g0),(12,gw h1 (n e2)),(13,gw h1 g0),(14,pn h1)] <| pe <| goN [] [] <| br h (fun h2 h=>go [] [] <| rt h) fun h2 h=>
      go [3] [] <| jn (wj15x1 h)
def R10 (y0 : Bool) : D:= .bool y0
def Zbk  : Option (Bool):=
  (Zrj).bind fun v0=>
  (Z84 v0 2 1 0).bind fun v1=>
  if v1 = true then ((Z84 v0 4 1 0).bind fun v2=>
    if (!v2) = true then ((Z84 v0 3 1 4).bind fun v3=>
      if v3 = true then ((Z84 v0 4 1 4).bind fun v4=>
        if (!v4) = true then ((Z9p v0 3 1).bind fun v5=>
          if (!v5) = true then ((Z9p v0 3 0).bind fun v6=>
            if v6 = true then ((Z91 v0 3 1 4).bind fun v7=>
              if v7 = true then ((Z91 v0 3 1 0).bind fun v8=>
                if (!v8) = true then ((Z91 v0 3 1 9).bind fun v9=>
                  if (!v9) = true then ((Z9p v0 5 0).bind fun v10=>
                    some (!v10)) else
                  (some false)) else
                (some false)) else
              (some false)) else
            (some false)) else
          (some false)) else
        (some false)) else
      (some false)) else
    (some false)) else
  (some false)
theorem w10  {r : Bool} (h : Zbk = some r) : Z0d Tryz.prog 10 [] (R10 r):=
  cs Tryz.f10 <| bd h fun v0 e0 h=>go [2] [rg 1 [(0,k (w24 e0))]] <| po <| bd h fun v1 e1 h=>pr 3 [(1,k (w13 e1))] <| sp h (fun h0 h=>bd h fun v2 e2 h=>pr 5 [(3,gw h0 g0),(4,gw h0 (k (w13 e2))),(5,gw h0 g0),(6,py h0)] <| sp h (fun h1 h=>bd h fun v3 e3 h=>pr 4 [(8,gw h1 g0),(9,gw h1 (k (w13 e3))),(10,py h1)] <| sp h (fun h2 h=>bd h fun v4 e4 h=>pr 5 [(12,gw h2 g0),(13,gw h2 (k (w13 e4))),(14,gw h2 g0),(15,py h2)] <| sp h (fun h3 h=>bd h fun v5 e5 h=>pr 5 [(17,gw h3 g0),(18,gw h3 (k (w11 e5))),(19,gw h3 g0),(20,py h3)] <| sp h (fun h4 h=>bd h fun v6 e6 h=>pr 4 [(22,gw h4 g0),(23,gw h4 (k (w11 e6))),(24,py h4)] <| sp h (fun h5 h=>bd h fun v7 e7 h=>pr 4 [(26,gw h5 g0),(27,gw h5 (k (w15 e7))),(28,py h5)] <| sp h (fun h6 h=>bd h fun v8 e8 h=>pr 5 [(30,gw h6 g0),(31,gw h6 (k (w15 e8))),(32,gw h6 g0),(33,py h6)] <| sp h (fun h7 h=>bd h fun v9 e9 h=>pr 5 [(35,gw h7 g0),(36,gw h7 (k (w15 e9))),(37,gw h7 g0),(38,py h7)] <| sp h (fun h8 h=>bd h fun v10 e10 h=>pr 5 [(40,gw h8 g0),(41,gw h8 (k (w11 e10))),(42,gw h8 g0),(43,py h8)] <| pe <| goN [] [] <| rt h) fun h8 h=>
                  pr 5 [(40,gs1 h8),(41,gs1 h8),(42,gs1 h8),(43,pn h8)] <| pe <| goN [] [] <| rt h) fun h7 h=>
                pr 10 [(35,gs1 h7),(36,gs1 h7),(37,gs1 h7),(38,pn h7)] <| pe <| goN [] [] <| rt h) fun h6 h=>
              pr 15 [(30,gs1 h6),(31,gs1 h6),(32,gs1 h6),(33,pn h6)] <| pe <| goN [] [] <| rt h) fun h5 h=>
            pr 19 [(26,gs1 h5),(27,gs1 h5),(28,pn h5)] <| pe <| goN [] [] <| rt h) fun h4 h=>
          pr 23 [(22,gs1 h4),(23,gs1 h4),(24,pn h4)] <| pe <| goN [] [] <| rt h) fun h3 h=>
        pr 28 [(17,gs1 h3),(18,gs1 h3),(19,gs1 h3),(20,pn h3)] <| pe <| goN [] [] <| rt h) fun h2 h=>
      pr 33 [(12,gs1 h2),(13,gs1 h2),(14,gs1 h2),(15,pn h2)] <| pe <| goN [] [] <| rt h) fun h1 h=>
    pr 37 [(8,gs1 h1),(9,gs1 h1),(10,pn h1)] <| pe <| goN [] [] <| rt h) fun h0 h=>
  pr 42 [(3,gs1 h0),(4,gs1 h0),(5,gs1 h0),(6,pn h0)] <| pe <| goN [] [] <| rt h
def R27 (y0 : Bool) : D:= .bool y0
def Z8p (x0 : Z09) (x1 : Int) : Option (Bool):=
  if (decide (x1 ≥ 0)) = true then (some (decide (x1 < (x0.Z1c.length : Int)))) else
  (some false)
theorem w27 {x0 : Z09} {x1 : Int} {r : Bool} (h : Z8p x0 x1 = some r) : Z0d Tryz.prog 27 [.agg (Z1j x0),dI x1] (R27 r):=
  cs Tryz.f27 <| sp h (fun h0 h=>go [] [rg 0 [(0,bo)],rg 1 [(1,kb h0),(6,ln x0.Z1c)]] <| rt h) fun h0 h=>
  go [] [rg 0 [(0,bo)],rg 1 [(1,kb h0)]] <| rt h
def R29 (y0 : Bool) : D:= .bool y0
def Zeg (x0 : Z09) (x1 x2 : Int) : Option (Bool):=
  if (decide (x1 ≥ 0)) = true then (if (decide (x1 < (x0.Z1c.length : Int))) = true then (if (decide (x2 ≥ 0)) = true then (some (decide (x2 < (x0.Z1c.length : Int)))) else
      (some false)) else
    (some false)) else
  (some false)
theorem w29 {x0 : Z09} {x1 x2 : Int} {r : Bool} (h : Zeg x0 x1 x2 = some r) : Z0d Tryz.prog 29 [.agg (Z1j x0),dI x1,dI x2] (R29 r):=
  cs Tryz.f29 <| go [1] [rg 0 [(0,bo)]] <| po <| pr 3 [] <| sp h (fun h0 h=>pr 7 [(3,gw h0 g0),(4,gw h0 g0),(5,gw h0 g0),(6,gw h0 (ln x0.Z1c)),(7,gw h0 g0),(8,py h0)] <| sp h (fun h1 h=>pr 4 [(10,gw h1 g0),(11,gw h1 g0),(12,py h1)] <| sp h (fun h2 h=>pr 7 [(14,gw h2 g0),(15,gw h2 g0),(16,gw h2 g0),(17,gw h2 (ln x0.Z1c)),(18,gw h2 g0),(19,py h2)] <| pe <| goN [] [] <| rt h) fun h2 h=>
      pr 7 [(14,gs1 h2),(15,gs1 h2),(16,gs1 h2),(17,gs1 h2),(18,gs1 h2),(19,pn h2)] <| pe <| goN [] [] <| rt h) fun h1 h=>
    pr 11 [(10,gs1 h1),(11,gs1 h1),(12,pn h1)] <| pe <| goN [] [] <| rt h) fun h0 h=>
  pr 18 [(3,gs1 h0),(4,gs1 h0),(5,gs1 h0),(6,gs1 h0),(7,gs1 h0),(8,pn h0)] <| pe <| goN [] [] <| rt h
def R46 (y0 : Int) : D:= .int .i64 y0
def l46x1 (x0 : List UInt8) (t0 : Int) : Option (Ctl (Int) (Unit ⊕ Int)):=
  if (decide (t0 ≥ 0)) = true then
    ((Z30 x0 t0).bind fun v3=>
    if (v3 == 47) = true then
      (some (.done (.inr t0))) else
    ((some (IntKind.wrap .i64 (t0 - (1 : Int)))).bind fun v4=>
      some (.next v4))) else
  (some (.done (.inl (()))))
def Zdm (x0 : List UInt8) : Option (Int):=
  (some (IntKind.wrap .i64 ((x0.length : Int) - (1 : Int)))).bind fun v0=>
  (Z0e (l46x1 x0) Z0i v0).bind fun q1=>
  match q1 with
  | .inl q0=>(some (-1))
  | .inr y0=>(some y0)
def Zr8 (x0 : List UInt8) : Int → SL:=
  fun t0=>⟨16,[(0,.str x0),(3,dI t0)],[]⟩
def J46x1 : JT (Unit ⊕ Int):=
  ju (je 0 fun q0 : Unit=>⟨16,[],[]⟩) (jr Tryz.prog Tryz.f46 R46)
theorem wl46x1 {x0 : List UInt8} {t0 : Int} {r : Ctl (Int) (Unit ⊕ Int)} {Γ : Ctx} (h : (l46x1 x0) t0 = some r) : A Tryz.prog Γ (lpC Tryz.f46 21) [] (Rd (Zr8 x0) J46x1 r) ((Zr8 x0) t0).s:=
  go [] [] <| br h (fun h2 h=>bd h fun v3 e3 h=>go [] [rg 4 [(2,ib e3)]] <| br h (fun h3 h=>go [] [] <| dn h (i2 iR)) fun h3 h=>
    bd h fun v4 e4 h=>go [] [rg 3 [(1,n e4)]] <| nx h) fun h2 h=>
  go [] [] <| dn h (i1 iE)
theorem w46 {x0 : List UInt8} {r : Int} (h : Zdm x0 = some r) : Z0d Tryz.prog 46 [.str x0] (R46 r):=
  cs Tryz.f46 <| bd h fun v0 e0 h=>go [] [rg 1 [(2,n e0)]] <| bd h fun q1 e5 h=>lp e5 wl46x1 <| match q1,h with
  | .inl q0,h=>j1 <| (qe <| goN [] [] <| rt h)
  | .inr y0,h=>j2 <| (qr h)
def R42 (y0 : (List UInt8)) : D:= .str y0
def Zd0 (x0 : List UInt8) : Option ((List UInt8)):=
  (Zdm x0).bind fun v0=>
  if (decide (v0 < 0)) = true then
    (some []) else
  ((sub x0 0 v0).bind fun v1=>
    some v1)
theorem w42 {x0 : List UInt8} {r : (List UInt8)} (h : Zd0 x0 = some r) : Z0d Tryz.prog 42 [.str x0] (R42 r):=
  cs Tryz.f42 <| bd h fun v0 e0 h=>go [] [rg 1 [(1,k (w46 e0))]] <| br h (fun h0 h=>go [] [] <| rt h) fun h0 h=>
  bd h fun v1 e1 h=>go [] [rg 4 [(2,ss e1)]] <| rt h
def R30 (y0 : Bool) : D:= .bool y0
def Zme (x0 : Z09) (x1 x2 : Int) : Option (Bool):=
  (Z0g x0.Z1c x1).bind fun v0=>
  (Z0g x0.Z1c x2).bind fun v1=>
  if (v0.Z0u == v1.Z0u) = true then ((Zd0 v0.Z0s.Z02).bind fun v2=>
  (Zd0 v1.Z0s.Z02).bind fun v3=>
  some (v2 == v3)) else
  (some false)
theorem w30 {x0 : Z09} {x1 x2 : Int} {r : Bool} (h : Zme x0 x1 x2 = some r) : Z0d Tryz.prog 30 [.agg (Z1j x0),dI x1,dI x2] (R30 r):=
  cs Tryz.f30 <| bd h fun v0 e0 h=>bd h fun v1 e1 h=>sp h (fun h0 h=>bd h fun v2 e2 h=>bd h fun v3 e3 h=>go [] [rg 0 [(0,bo)],rgo 1 [(3,ix e0),(8,ix e1)] [0,1,2,3,4,5,6,7,8,9,10,11,12,13] [12,13,1005,1006,1007,1008,1009] [(1,[0]),(3,[0,1,2]),(4,[0,1,2,3]),(6,[5]),(8,[5,6,7]),(9,[5,6,7,8]),(12,[0,1,2,3,4,10,11]),(13,[0,1,2,3,4,5,6,7,8,9,10,11,12])],rgo 2 [(4,kb h0),(9,k (w42 e2)),(13,k (w42 e3))] [0,1,2,3,4,5,6,7,8,9,10,11,12,13,14,15,16] [] [(1,[0]),(3,[2]),(4,[0,1,2,3]),(5,[0,1,2,3,4]),(6,[0,1,2,3,4,5]),(7,[0,1,2,3,4,5,6]),(8,[0,1,2,3,4,5,6,7]),(9,[0,1,2,3,4,5,6,7,8]),(10,[0,1,2,3,4,5]),(11,[0,1,2,3,4,5,10]),(12,[0,1,2,3,4,5,10,11]),(13,[0,1,2,3,4,5,6,7,8,9,10,11,12]),(14,[0,1,2,3,4,5,6,7,8,9,10,11,12,13]),(15,[0,1,2,3,4,5,6,7,8,9,10,11,12,13,14]),(16,[0,1,2,3,4,5,6,7,8,9,10,11,12,13,14,15])]] <| rt h) fun h0 h=>
  go [] [rg 0 [(0,bo)],rgo 1 [(3,ix e0),(8,ix e1)] [0,1,2,3,4,5,6,7,8,9,10,11,12,13] [12,13,1005,1006,1007,1008,1009] [(1,[0]),(3,[0,1,2]),(4,[0,1,2,3]),(6,[5]),(8,[5,6,7]),(9,[5,6,7,8]),(12,[0,1,2,3,4,10,11]),(13,[0,1,2,3,4,5,6,7,8,9,10,11,12])],rgo 2 [(4,kb h0)] [0,1,2,3,4,5,6,7,8,9,10,11,12,13,14,15,16] [] [(1,[0]),(3,[2]),(4,[0,1,2,3]),(5,[0,1,2,3,4]),(6,[0,1,2,3,4,5]),(7,[0,1,2,3,4,5,6]),(8,[0,1,2,3,4,5,6,7]),(9,[0,1,2,3,4,5,6,7,8]),(10,[0,1,2,3,4,5]),(11,[0,1,2,3,4,5,10]),(12,[0,1,2,3,4,5,10,11]),(13,[0,1,2,3,4,5,6,7,8,9,10,11,12]),(14,[0,1,2,3,4,5,6,7,8,9,10,11,12,13]),(15,[0,1,2,3,4,5,6,7,8,9,10,11,12,13,14]),(16,[0,1,2,3,4,5,6,7,8,9,10,11,12,13,14,15])]] <| rt h
def R17 (y0 : Bool) : D:= .bool y0
def Z90 (x0 : Z09) (x1 x2 : Int) : Option (Bool):=
  (Zeg x0 x1 x2).bind fun v0=>
  if v0 = true then ((Zme x0 x1 x2).bind fun v1=>
  some v1) else
  (some false)
theorem w17 {x0 : Z09} {x1 x2 : Int} {r : Bool} (h : Z90 x0 x1 x2 = some r) : Z0d Tryz.prog 17 [.agg (Z1j x0),dI x1,dI x2] (R17 r):=
  cs Tryz.f17 <| bd h fun v0 e0 h=>sp h (fun h0 h=>bd h fun v1 e1 h=>go [] [rg 0 [(0,bo)],rg 1 [(3,k (w29 e0)),(5,gw h0 g0),(6,gw h0 g0),(7,gw h0 g0),(8,gw h0 (k (w30 e1))),(9,py h0)]] <| rt h) fun h0 h=>
  go [] [rg 0 [(0,bo)],rg 1 [(3,k (w29 e0)),(5,gs1 h0),(6,gs1 h0),(7,gs1 h0),(8,gs1 h0),(9,pn h0)]] <| rt h
def R12 (y0 : Bool) : D:= .bool y0
def Zht (x0 : Z09) (x1 x2 : Int) : Option (Bool):=
  (Z8p x0 x1).bind fun v0=>
  if v0 = true then ((Z8p x0 x2).bind fun v1=>
    if v1 = true then ((Z0g x0.Z1c x2).bind fun v2=>
      (some (Z20 .i64 v2.Z0s.Z0h (1 : Int))).bind fun v3=>
      if (v3 != 0) = true then (some true) else
      ((Z90 x0 x1 x2).bind fun v4=>
        some v4)) else
    (some false)) else
  (some false)
theorem w12 {x0 : Z09} {x1 x2 : Int} {r : Bool} (h : Zht x0 x1 x2 = some r) : Z0d Tryz.prog 12 [.agg (Z1j x0),dI x1,dI x2] (R12 r):=
  cs Tryz.f12 <| go [1] [rg 0 [(0,bo)]] <| po <| bd h fun v0 e0 h=>pr 4 [(2,k (w27 e0))] <| sp h (fun h0 h=>bd h fun v1 e1 h=>pr 5 [(4,gw h0 g0),(5,gw h0 g0),(6,gw h0 (k (w27 e1))),(7,py h0)] <| sp h (fun h1 h=>bd h fun v2 e2 h=>bd h fun v3 e3 h=>pr 10 [(9,gw h1 g0),(10,gw h1 g0),(11,gw h1 g0),(12,gw h1 (ix e2)),(13,gw h1 g0),(14,gw h1 g0),(15,gw h1 g0),(16,gw h1 (n e3)),(17,gw h1 g0),(18,gw h1 g0)] <| sp h (fun h2 h=>pr 7 [(19,gs0 h2),(20,gs0 h2),(21,gs0 h2),(22,gs0 h2),(23,gw h1 (py h2)),(24,py h1)] <| pe <| goN [] [] <| rt h) fun h2 h=>
      bd h fun v4 e4 h=>pr 7 [(19,gw h2 g0),(20,gw h2 g0),(21,gw h2 g0),(22,gw h2 (k (w17 e4))),(23,gw h1 (pn h2)),(24,py h1)] <| pe <| goN [] [] <| rt h) fun h1 h=>
    pr 17 [(9,gs1 h1),(10,gs1 h1),(11,gs1 h1),(12,gs1 h1),(13,gs1 h1),(14,gs1 h1),(15,gs1 h1),(16,gs1 h1),(17,gs1 h1),(18,gs1 h1),(23,gs1 h1),(24,pn h1)] <| pe <| goN [] [] <| rt h) fun h0 h=>
  pr 22 [(4,gs1 h0),(5,gs1 h0),(6,gs1 h0),(7,pn h0)] <| pe <| goN [] [] <| rt h
def R31 (y0 : Bool) : D:= .bool y0
def Zh9 (v22 : Z0w) (t2 : Int × (List Bool)) : Option (Ctl (Int × (List Bool)) (((List Bool)))):=
  if (decide (t2.1 < (v22.Z05.length : Int))) = true then
    ((Z0g v22.Z05 t2.1).bind fun v28=>
    (Z2s v28 t2.2.length).bind fun v29=>
    (t2.2[v29]?).bind fun v30=>
    (some (IntKind.wrap .i64 (t2.1 + (1 : Int)))).bind fun v31=>
    some (.next (v31,(t2.2.set v29 true)))) else
  (some (.done (t2.2)))
def Zee (t0 : Int × (List Bool)) (v22 : Z0w) (p1 : List Bool) : Option (Ctl (Int × (List Bool)) (((List Bool)))):=
  (Z0e (Zh9 v22) Z0i (0,p1)).bind fun q2=>
  (some (IntKind.wrap .i64 (t0.1 - (1 : Int)))).bind fun v32=>
  some (.next (v32,q2))
def Ziv (x0 : Z09) (t0 : Int × (List Bool)) : Option (Ctl (Int × (List Bool)) (((List Bool)))):=
  if (decide (t0.1 ≥ 0)) = true then
    ((Z2s t0.1 t0.2.length).bind fun v19=>
    (t0.2[v19]?).bind fun v20=>
    if (!v20) = true then
      ((some (IntKind.wrap .i64 (t0.1 - (1 : Int)))).bind fun v21=>
      some (.next (v21,t0.2))) else
    ((Z0g x0.Z1c t0.1).bind fun v22=>
      if (decide (v22.Z07 ≥ 0)) = true then
        ((Z2s v22.Z07 t0.2.length).bind fun v23=>
        (t0.2[v23]?).bind fun v24=>
        (Zee t0 v22) (t0.2.set v23 true)) else
      ((Zee t0 v22) t0.2))) else
  (some (.done (t0.2)))
def Zcr (x0 : Z09) (x1 x2 : Int) : Option (Bool):=
  (Z6u 1 (x0.Z1c.length : Int) (x0.Z1c.length : Int)).bind fun v2=>
  (Z2s x1 (List.replicate (x0.Z1c.length : Int).toNat false).length).bind fun v3=>
  ((List.replicate (x0.Z1c.length : Int).toNat false)[v3]?).bind fun v4=>
  (Z0e (Ziv x0) Z0i (x1,((List.replicate (x0.Z1c.length : Int).toNat false).set v3 true))).bind fun q4=>
  (Z2s x2 q4.length).bind fun v33=>
  (q4[v33]?).bind fun v34=>
  some v34
def Zkn (x0 : Z09) (x1 x2 : Int) : Option (Bool):=
  if (x1 == x2) = true then (some true) else
  ((Z0g x0.Z1c x2).bind fun v0=>
    if (v0.Z0s.Z02 == ([108,97,110,103,47,79,98,106,101,99,116] : List UInt8)) = true then ((Z0g x0.Z1c x2).bind fun v1=>
      if (v1.Z0u == 0) = true then
        (some true) else
      ((Zcr x0 x1 x2))) else
    ((Zcr x0 x1 x2)))
def Zq6 (t0 : Int × (List Bool)) (v22 : Z0w) (x0 : Z09) (x2 : Int) : (Int × (List Bool)) → SL:=
  fun t2=>⟨80,[(2,dI x2),(3,.ptr (Z1j x0)),(7,.lsl 7 0 ((t2.2.map Z22).length)),(8,dI t0.1),(9,.lptr 9 0 0),(10,dI t2.1)],[(7,{ sz:=1,rows:=(t2.2.map Z22),frz:=0,pure:=true }),(9,{ sz:=12,rows:=[Z3g v22],frz:=0,pure:=false })]⟩
def J31x2 (t0 : Int × (List Bool)) (x0 : Z09) (x2 : Int) : JT (((List Bool))):=
  je 2 fun q2 : (List Bool)=>⟨80,[(2,dI x2),(3,.ptr (Z1j x0)),(7,.lsl 7 0 ((q2.map Z22).length)),(8,dI t0.1)],[(7,{ sz:=1,rows:=(q2.map Z22),frz:=0,pure:=true })]⟩
theorem wl31x2 (t0 : Int × (List Bool)) (x0 : Z09) (x2 : Int) {v22 : Z0w} {t2 : Int × (List Bool)} {r : Ctl (Int × (List Bool)) (((List Bool)))} {Γ : Ctx} (h : (Zh9 v22) t2 = some r) : A Tryz.prog Γ (lpC Tryz.f31 96559) [] (Rd (Zq6 t0 v22 x0 x2) (J31x2 t0 x0 x2) r) ((Zq6 t0 v22 x0 x2) t2).s:=
  go [] [rg 13 [(3,ln v22.Z05)]] <| br h (fun h12 h=>bd h fun v28 e29 h=>bd h fun v29 e30 h=>bd h fun v30 e31 h=>go [14] [rg 15 [(4,ix e29),(6,ia 7 e30),(7,st e31 0 [.bool true] true)]] <| nm (congrArg (fun nn : Nat=>(⟨80,[(2,dI x2),(3,.ptr (Z1j x0)),(7,.lsl 7 0 nn),(8,dI t0.1),(9,.lptr 9 0 0),(10,dI t2.1)],[(7,{ sz:=1,rows:=((t2.2.set v29 true).map Z22),frz:=0,pure:=true }),(9,{ sz:=12,rows:=[Z3g v22],frz:=0,pure:=false })]⟩ : SL)) (by simp only [List.length_map,List.length_set] : (t2.2.map Z22).length = ((t2.2.set v29 true).map Z22).length)) <| so <| bd h fun v31 e32 h=>go [] [rg 14 [(1,n e32)]] <| nx h) fun h12 h=>
  go [] [] <| dn h (iE)
def Zo7 (x0 : Z09) (x2 : Int) : (Int × (List Bool)) → SL:=
  fun t0=>⟨80,[(2,dI x2),(3,.ptr (Z1j x0)),(7,.lsl 7 0 ((t0.2.map Z22).length)),(8,dI t0.1)],[(7,{ sz:=1,rows:=(t0.2.map Z22),frz:=0,pure:=true })]⟩
def J31x1 (x2 : Int) : JT (((List Bool))):=
  je 0 fun q4 : (List Bool)=>⟨80,[(2,dI x2),(7,.lsl 7 0 ((q4.map Z22).length))],[(7,{ sz:=1,rows:=(q4.map Z22),frz:=0,pure:=true })]⟩
theorem Zvj (x0 : Z09) (x2 : Int) {t0 : Int × (List Bool)} {v22 : Z0w} {p1 : List Bool} {r : Ctl (Int × (List Bool)) (((List Bool)))} {Γ : Ctx} (h : (Zee t0 v22) p1 = some r) : Jn Tryz.prog Tryz.f31 Γ (Rd (Zo7 x0 x2) (J31x1 x2) r) 47407 ⟨80,[(2,dI x2),(3,.ptr (Z1j x0)),(7,.lsl 7 0 ((p1.map Z22).length)),(8,dI t0.1),(9,.lptr 9 0 0)],[(7,{ sz:=1,rows:=(p1.map Z22),frz:=0,pure:=true }),(9,{ sz:=12,rows:=[Z3g v22],frz:=0,pure:=false })]⟩:=
  so <| go [] [] <| bd h fun q2 e33 h=>lp e33 (wl31x2 t0 x0 x2) <| qe <| bd h fun v32 e34 h=>goN [] [rg 7 [(1,n e34)]] <| nx h
theorem wl31x1 (x2 : Int) {x0 : Z09} {t0 : Int × (List Bool)} {r : Ctl (Int × (List Bool)) (((List Bool)))} {Γ : Ctx} (h : (Ziv x0) t0 = some r) : A Tryz.prog Γ (lpC Tryz.f31 175) [] (Rd (Zo7 x0 x2) (J31x1 x2) r) ((Zo7 x0 x2) t0).s:=
  go [] [] <| br h (fun h8 h=>bd h fun v19 e20 h=>bd h fun v20 e21 h=>go [] [rg 8 [(2,ia 7 e20),(3,lb e21)]] <| br h (fun h9 h=>bd h fun v21 e22 h=>go [] [rg 7 [(1,n e22)]] <| nx h) fun h9 h=>
    bd h fun v22 e23 h=>go [] [rg 9 [(3,ix e23)]] <| br h (fun h10 h=>bd h fun v23 e24 h=>bd h fun v24 e25 h=>go [12] [rg 11 [(3,ia 7 e24),(4,st e25 0 [.bool true] true)]] <| nm (congrArg (fun nn : Nat=>(⟨80,[(2,dI x2),(3,.ptr (Z1j x0)),(7,.lsl 7 0 nn),(8,dI t0.1),(9,.lptr 9 0 0)],[(7,{ sz:=1,rows:=((t0.2.set v23 true).map Z22),frz:=0,pure:=true }),(9,{ sz:=12,rows:=[Z3g v22],frz:=0,pure:=false })]⟩ : SL)) (by simp only [List.length_map,List.length_set] : (t0.2.map Z22).length = ((t0.2.set v23 true).map Z22).length)) <| jn ((Zvj x0 x2) h)) fun h10 h=>
      go [12] [] <| jn ((Zvj x0 x2) h)) fun h8 h=>
  go [] [] <| dn h (iE)
theorem Zqu {x0 : Z09} {x1 x2 : Int} {r : Bool} {Γ : Ctx} (h : (Zcr x0 x1 x2) = some r) : Jn Tryz.prog Tryz.f31 Γ (Den.Ends Tryz.prog Tryz.f31 (R31 r)) 11 ⟨80,[(1,dI x1),(2,dI x2),(3,.ptr (Z1j x0))],[]⟩:=
  so <| bd h fun v2 e2 h=>bd h fun v3 e3 h=>bd h fun v4 e4 h=>go [5] [rg 3 [(2,ln x0.Z1c),(3,mk false e2)],rg 4 [(2,ia 36 e3),(3,st e4 0 [.bool true] true)]] <| nm (congrArg (fun nn : Nat=>(⟨80,[(1,dI x1),(2,dI x2),(3,.ptr (Z1j x0)),(7,.lsl 36 0 nn)],[(36,{ sz:=1,rows:=(((List.replicate (x0.Z1c.length : Int).toNat false).set v3 true).map Z22),frz:=0,pure:=true })]⟩ : SL)) (by simp only [List.length_map,List.length_set] : ((List.replicate (x0.Z1c.length : Int).toNat false).map Z22).length = (((List.replicate (x0.Z1c.length : Int).toNat false).set v3 true).map Z22).length)) <| so <| go [] [] <| bd h fun q4 e35 h=>lp (ps:=[(36,7)]) e35 (wl31x1 x2) <| qe <| bd h fun v33 e36 h=>bd h fun v34 e37 h=>goN [] [rg 16 [(2,ia 7 e36),(3,lb e37)]] <| rt h
theorem w31 {x0 : Z09} {x1 x2 : Int} {r : Bool} (h : Zkn x0 x1 x2 = some r) : Z0d Tryz.prog 31 [.agg (Z1j x0),dI x1,dI x2] (R31 r):=
  cs Tryz.f31 <| go [1] [rg 0 [(0,bo)]] <| po <| pr 4 [] <| sp h (fun h0 h=>pr 18 [(4,gs0 h0),(5,gs0 h0),(6,gs0 h0),(7,gs0 h0),(8,gs0 h0),(9,gs0 h0),(10,gs0 h0),(11,gs0 h0),(12,gs0 h0),(20,gs0 h0),(21,py h0)] <| pe <| goN [] [] <| bT rfl <| go [] [] <| rt h) fun h0 h=>
  bd h fun v0 e0 h=>pr 9 [(4,gw h0 g0),(5,gw h0 g0),(6,gw h0 g0),(7,gw h0 (ix e0)),(8,gw h0 g0),(9,gw h0 g0),(10,gw h0 g0),(11,gw h0 g0),(12,gw h0 g0)] <| sp h (fun h1 h=>bd h fun v1 e1 h=>pr 9 [(13,gw h1 g0),(14,gw h1 g0),(15,gw h1 g0),(16,gw h1 (ix e1)),(17,gw h1 g0),(18,gw h1 g0),(19,gw h1 g0),(20,gw h0 (py h1)),(21,pn h0)] <| pe <| goN [] [] <| br h (fun h2 h=>go [] [] <| rt h) fun h2 h=>
      go [3] [] <| jn (Zqu h)) fun h1 h=>
    pr 9 [(13,gs1 h1),(14,gs1 h1),(15,gs1 h1),(16,gs1 h1),(17,gs1 h1),(18,gs1 h1),(19,gs1 h1),(20,gw h0 (pn h1)),(21,pn h0)] <| pe <| goN [] [] <| bF rfl <| go [3] [] <| jn (Zqu h)
def R18 (y0 : Bool) : D:= .bool y0
def Zba (x0 : Z09) (x1 x2 : Int) : Option (Bool):=
  (Zeg x0 x1 x2).bind fun v0=>
  if v0 = true then ((Zkn x0 x1 x2).bind fun v1=>
  some v1) else
  (some false)
theorem w18 {x0 : Z09} {x1 x2 : Int} {r : Bool} (h : Zba x0 x1 x2 = some r) : Z0d Tryz.prog 18 [.agg (Z1j x0),dI x1,dI x2] (R18 r):=
  cs Tryz.f18 <| bd h fun v0 e0 h=>sp h (fun h0 h=>bd h fun v1 e1 h=>go [] [rg 0 [(0,bo)],rg 1 [(3,k (w29 e0)),(5,gw h0 g0),(6,gw h0 g0),(7,gw h0 g0),(8,gw h0 (k (w31 e1))),(9,py h0)]] <| rt h) fun h0 h=>
  go [] [rg 0 [(0,bo)],rg 1 [(3,k (w29 e0)),(5,gs1 h0),(6,gs1 h0),(7,gs1 h0),(8,gs1 h0),(9,pn h0)]] <| rt h
def R14 (y0 : Bool) : D:= .bool y0
def Zje (x0 : Z09) (x1 x2 : Int) : Option (Bool):=
  (Z90 x0 x1 x2).bind fun v6=>
  some v6
def j14x1 (x0 : Z09) (x1 x2 x3 : Int) : Option (Bool):=
  (some (Z20 .i64 x3 (1 : Int))).bind fun v2=>
  if (v2 != 0) = true then
    (some true) else
  ((some (Z20 .i64 x3 (2 : Int))).bind fun v3=>
    if (v3 != 0) = true then
      (some (x1 == x2)) else
    ((some (Z20 .i64 x3 (4 : Int))).bind fun v4=>
      if (v4 != 0) = true then ((Zba x0 x1 x2).bind fun v5=>
      if v5 = true then
        (some true) else
      ((Zje x0 x1 x2))) else
      ((Zje x0 x1 x2))))
def Ziy (x0 : Z09) (x1 x2 x3 : Int) : Option (Bool):=
  (Z8p x0 x1).bind fun v0=>
  if (!v0) = true then (some false) else
  ((Z8p x0 x2).bind fun v1=>
  if (!v1) = true then
    (some false) else
  ((j14x1 x0 x1 x2 x3)))
theorem Zse {x0 : Z09} {x1 x2 : Int} {r : Bool} {Γ : Ctx} (h : (Zje x0 x1 x2) = some r) : Jn Tryz.prog Tryz.f14 Γ (Den.Ends Tryz.prog Tryz.f14 (R14 r)) 95 ⟨41,[(1,dI x1),(2,dI x2),(4,.ptr (Z1j x0))],[]⟩:=
  so <| bd h fun v6 e6 h=>go [] [rg 9 [(3,k (w17 e6))]] <| rt h
theorem wj14x1 {x0 : Z09} {x1 x2 x3 : Int} {r : Bool} {Γ : Ctx} (h : (j14x1 x0 x1 x2 x3) = some r) : Jn Tryz.prog Tryz.f14 Γ (Den.Ends Tryz.prog Tryz.f14 (R14 r)) 19 ⟨41,[(1,dI x1),(2,dI x2),(3,dI x3),(4,.ptr (Z1j x0))],[]⟩:=
  so <| bd h fun v2 e2 h=>go [] [rg 3 [(1,n e2)]] <| br h (fun h2 h=>go [] [] <| rt h) fun h2 h=>
  bd h fun v3 e3 h=>go [] [rg 5 [(1,n e3)]] <| br h (fun h3 h=>go [] [] <| rt h) fun h3 h=>
    bd h fun v4 e4 h=>sp h (fun h4 h=>bd h fun v5 e5 h=>go [] [rg 7 [(1,n e4),(2,kb h4),(7,k (w18 e5))]] <| br h (fun h5 h=>go [] [] <| rt h) fun h5 h=>
      go [9] [] <| jn (Zse h)) fun h4 h=>
      go [] [rg 7 [(1,n e4),(2,kb h4)]] <| bF rfl <| go [9] [] <| jn (Zse h)
theorem w14 {x0 : Z09} {x1 x2 x3 : Int} {r : Bool} (h : Ziy x0 x1 x2 x3 = some r) : Z0d Tryz.prog 14 [.agg (Z1j x0),dI x1,dI x2,dI x3] (R14 r):=
  cs Tryz.f14 <| bd h fun v0 e0 h=>sp h (fun h0 h=>go [] [rg 0 [(0,bo)],rg 1 [(2,k (w27 e0)),(5,gs0 h0),(6,gs0 h0),(7,gs0 h0),(8,gs0 h0),(9,py h0)]] <| bT rfl <| go [] [] <| rt h) fun h0 h=>
  bd h fun v1 e1 h=>go [] [rg 0 [(0,bo)],rg 1 [(2,k (w27 e0)),(5,gw h0 g0),(6,gw h0 g0),(7,gw h0 (k (w27 e1))),(8,gw h0 g0),(9,pn h0)]] <| br h (fun h1 h=>go [] [] <| rt h) fun h1 h=>
  go [3] [] <| jn (wj14x1 h)
def R16 (y0 : Bool) : D:= .bool y0
def j16x1 (x0 : Z09) (x1 x2 x3 : Int) : Option (Bool):=
  (some (Z20 .i64 x3 (5 : Int))).bind fun v3=>
  if (v3 != 0) = true then (some true) else
  ((Z90 x0 x1 x2).bind fun v4=>
  some v4)
def Zjw (x0 : Z09) (x1 x2 x3 : Int) : Option (Bool):=
  (Z8p x0 x1).bind fun v0=>
  if (!v0) = true then (some false) else
  ((Z8p x0 x2).bind fun v1=>
    if (!v1) = true then (some false) else
    ((some (Z20 .i64 x3 (10 : Int))).bind fun v2=>
      if (v2 != 0) = true then
        (some false) else
      ((j16x1 x0 x1 x2 x3))))
theorem wj16x1 {x0 : Z09} {x1 x2 x3 : Int} {r : Bool} {Γ : Ctx} (h : (j16x1 x0 x1 x2 x3) = some r) : Jn Tryz.prog Tryz.f16 Γ (Den.Ends Tryz.prog Tryz.f16 (R16 r)) 11 ⟨33,[(1,dI x1),(2,dI x2),(3,dI x3),(4,.ptr (Z1j x0))],[]⟩:=
  so <| bd h fun v3 e3 h=>sp h (fun h3 h=>go [] [rg 3 [(1,n e3),(2,kb h3)]] <| rt h) fun h3 h=>
  bd h fun v4 e4 h=>go [] [rg 3 [(1,n e3),(2,kb h3),(7,k (w17 e4))]] <| rt h
theorem w16 {x0 : Z09} {x1 x2 x3 : Int} {r : Bool} (h : Zjw x0 x1 x2 x3 = some r) : Z0d Tryz.prog 16 [.agg (Z1j x0),dI x1,dI x2,dI x3] (R16 r):=
  cs Tryz.f16 <| go [1] [rg 0 [(0,bo)]] <| po <| bd h fun v0 e0 h=>pr 5 [(2,k (w27 e0))] <| sp h (fun h0 h=>pr 10 [(5,gs0 h0),(6,gs0 h0),(7,gs0 h0),(8,gs0 h0),(9,py h0)] <| pe <| goN [] [] <| bT rfl <| go [] [] <| rt h) fun h0 h=>
  bd h fun v1 e1 h=>pr 6 [(5,gw h0 g0),(6,gw h0 g0),(7,gw h0 (k (w27 e1))),(8,gw h0 g0),(9,pn h0)] <| sp h (fun h1 h=>pr 4 [(11,gs0 h1),(12,gs0 h1),(13,gs0 h1),(14,py h1)] <| pe <| goN [] [] <| bT rfl <| go [] [] <| rt h) fun h1 h=>
    bd h fun v2 e2 h=>pr 4 [(11,gw h1 g0),(12,gw h1 (n e2)),(13,gw h1 g0),(14,pn h1)] <| pe <| goN [] [] <| br h (fun h2 h=>go [] [] <| rt h) fun h2 h=>
      go [3] [] <| jn (wj16x1 h)
def R3 (y0 : Bool) : D:= .bool y0
def j3x2 : Option (Bool):=
  (Zbk).bind fun v9=>
  some v9
def j3x1 (x0 : Z09) (x1 x2 x3 : Int) : Option (Bool):=
  (Zbk).bind fun v2=>
  if v2 = true then ((Z9p x0 x1 x2).bind fun v3=>
  (Zht x0 x1 x2).bind fun v4=>
  if (v3 == v4) = true then ((Z84 x0 x1 x2 x3).bind fun v5=>
  (Ziy x0 x1 x2 x3).bind fun v6=>
  if (v5 == v6) = true then ((Z91 x0 x1 x2 x3).bind fun v7=>
  (Zjw x0 x1 x2 x3).bind fun v8=>
  some (v7 == v8)) else
  (some false)) else
  (some false)) else
  (some false)
def Zqy (x0 : Z09) (x1 x2 x3 : Int) : Option (Bool):=
  (Zco x0).bind fun v0=>
  if (!v0) = true then (j3x2) else
  ((Zck x0).bind fun v1=>
  if (!v1) = true then
    (j3x2) else
  ((j3x1 x0 x1 x2 x3)))
theorem wj3x2 {r : Bool} {Γ : Ctx} (h : j3x2 = some r) : Jn Tryz.prog Tryz.f3 Γ (Den.Ends Tryz.prog Tryz.f3 (R3 r)) 37 ⟨56,[],[]⟩:=
  so <| bd h fun v9 e9 h=>go [] [rg 2 [(0,k (w10 e9))]] <| rt h
theorem wj3x1 {x0 : Z09} {x1 x2 x3 : Int} {r : Bool} {Γ : Ctx} (h : (j3x1 x0 x1 x2 x3) = some r) : Jn Tryz.prog Tryz.f3 Γ (Den.Ends Tryz.prog Tryz.f3 (R3 r)) 11 ⟨56,[(1,dI x1),(2,dI x2),(3,dI x3),(4,.ptr (Z1j x0))],[]⟩:=
  so <| bd h fun v2 e2 h=>sp h (fun h2 h=>bd h fun v3 e3 h=>bd h fun v4 e4 h=>sp h (fun h3 h=>bd h fun v5 e5 h=>bd h fun v6 e6 h=>sp h (fun h4 h=>bd h fun v7 e7 h=>bd h fun v8 e8 h=>go [] [rgo 3 [(0,k (w10 e2)),(2,gw h2 g0),(3,gw h2 g0),(4,gw h2 g0),(5,gw h2 (k (w11 e3))),(6,gw h2 g0),(7,gw h2 g0),(8,gw h2 g0),(9,gw h2 (k (w12 e4))),(10,gw h2 (kb h3)),(11,py h2),(17,k (w13 e5)),(22,k (w14 e6)),(23,kb h4),(30,k (w15 e7)),(35,k (w16 e8))] [0,1,2,3,4,5,6,7,8,9,10,11,12,13,14,15,16,17,18,19,20,21,22,23,24,25,26,27,28,29,30,31,32,33,34,35,36,37,38] [] [(1,[0]),(2,[0,1]),(3,[0,1]),(4,[0,1]),(5,[0,1,2,3,4]),(6,[0,1]),(7,[0,1]),(8,[0,1]),(9,[0,1,2,3,4,5,6,7,8]),(10,[0,1,2,3,4,5,6,7,8,9]),(11,[0,1,2,3,4,5,6,7,8,9,10]),(12,[0,1,2,3,4,5,6,7,8,9,10,11]),(13,[0,1,2,3,4,5,6,7,8,9,10,11,12]),(14,[0,1,2,3,4,5,6,7,8,9,10,11,12]),(15,[0,1,2,3,4,5,6,7,8,9,10,11,12]),(16,[0,1,2,3,4,5,6,7,8,9,10,11,12]),(17,[0,1,2,3,4,5,6,7,8,9,10,11,12,13,14,15,16]),(18,[0,1,2,3,4,5,6,7,8,9,10,11,12]),(19,[0,1,2,3,4,5,6,7,8,9,10,11,12]),(20,[0,1,2,3,4,5,6,7,8,9,10,11,12]),(21,[0,1,2,3,4,5,6,7,8,9,10,11,12]),(22,[0,1,2,3,4,5,6,7,8,9,10,11,12,13,14,15,16,17,18,19,20,21]),(23,[0,1,2,3,4,5,6,7,8,9,10,11,12,13,14,15,16,17,18,19,20,21,22]),(24,[0,1,2,3,4,5,6,7,8,9,10,11,12,13,14,15,16,17,18,19,20,21,22,23]),(25,[0,1,2,3,4,5,6,7,8,9,10,11,12,13,14,15,16,17,18,19,20,21,22,23,24]),(26,[0,1,2,3,4,5,6,7,8,9,10,11,12,13,14,15,16,17,18,19,20,21,22,23,24,25]),(27,[0,1,2,3,4,5,6,7,8,9,10,11,12,13,14,15,16,17,18,19,20,21,22,23,24,25]),(28,[0,1,2,3,4,5,6,7,8,9,10,11,12,13,14,15,16,17,18,19,20,21,22,23,24,25]),(29,[0,1,2,3,4,5,6,7,8,9,10,11,12,13,14,15,16,17,18,19,20,21,22,23,24,25]),(30,[0,1,2,3,4,5,6,7,8,9,10,11,12,13,14,15,16,17,18,19,20,21,22,23,24,25,26,27,28,29]),(31,[0,1,2,3,4,5,6,7,8,9,10,11,12,13,14,15,16,17,18,19,20,21,22,23,24,25]),(32,[0,1,2,3,4,5,6,7,8,9,10,11,12,13,14,15,16,17,18,19,20,21,22,23,24,25]),(33,[0,1,2,3,4,5,6,7,8,9,10,11,12,13,14,15,16,17,18,19,20,21,22,23,24,25]),(34,[0,1,2,3,4,5,6,7,8,9,10,11,12,13,14,15,16,17,18,19,20,21,22,23,24,25]),(35,[0,1,2,3,4,5,6,7,8,9,10,11,12,13,14,15,16,17,18,19,20,21,22,23,24,25,26,27,28,29,30,31,32,33,34]),(36,[0,1,2,3,4,5,6,7,8,9,10,11,12,13,14,15,16,17,18,19,20,21,22,23,24,25,26,27,28,29,30,31,32,33,34,35]),(37,[0,1,2,3,4,5,6,7,8,9,10,11,12,13,14,15,16,17,18,19,20,21,22,23,24,25,26,27,28,29,30,31,32,33,34,35,36]),(38,[0,1,2,3,4,5,6,7,8,9,10,11,12,13,14,15,16,17,18,19,20,21,22,23,24,25,26,27,28,29,30,31,32,33,34,35,36,37])]] <| rt h) fun h4 h=>
  go [] [rgo 3 [(0,k (w10 e2)),(2,gw h2 g0),(3,gw h2 g0),(4,gw h2 g0),(5,gw h2 (k (w11 e3))),(6,gw h2 g0),(7,gw h2 g0),(8,gw h2 g0),(9,gw h2 (k (w12 e4))),(10,gw h2 (kb h3)),(11,py h2),(17,k (w13 e5)),(22,k (w14 e6)),(23,kb h4)] [0,1,2,3,4,5,6,7,8,9,10,11,12,13,14,15,16,17,18,19,20,21,22,23,24,25,26,27,28,29,30,31,32,33,34,35,36,37,38] [] [(1,[0]),(2,[0,1]),(3,[0,1]),(4,[0,1]),(5,[0,1,2,3,4]),(6,[0,1]),(7,[0,1]),(8,[0,1]),(9,[0,1,2,3,4,5,6,7,8]),(10,[0,1,2,3,4,5,6,7,8,9]),(11,[0,1,2,3,4,5,6,7,8,9,10]),(12,[0,1,2,3,4,5,6,7,8,9,10,11]),(13,[0,1,2,3,4,5,6,7,8,9,10,11,12]),(14,[0,1,2,3,4,5,6,7,8,9,10,11,12]),(15,[0,1,2,3,4,5,6,7,8,9,10,11,12]),(16,[0,1,2,3,4,5,6,7,8,9,10,11,12]),(17,[0,1,2,3,4,5,6,7,8,9,10,11,12,13,14,15,16]),(18,[0,1,2,3,4,5,6,7,8,9,10,11,12]),(19,[0,1,2,3,4,5,6,7,8,9,10,11,12]),(20,[0,1,2,3,4,5,6,7,8,9,10,11,12]),(21,[0,1,2,3,4,5,6,7,8,9,10,11,12]),(22,[0,1,2,3,4,5,6,7,8,9,10,11,12,13,14,15,16,17,18,19,20,21]),(23,[0,1,2,3,4,5,6,7,8,9,10,11,12,13,14,15,16,17,18,19,20,21,22]),(24,[0,1,2,3,4,5,6,7,8,9,10,11,12,13,14,15,16,17,18,19,20,21,22,23]),(25,[0,1,2,3,4,5,6,7,8,9,10,11,12,13,14,15,16,17,18,19,20,21,22,23,24]),(26,[0,1,2,3,4,5,6,7,8,9,10,11,12,13,14,15,16,17,18,19,20,21,22,23,24,25]),(27,[0,1,2,3,4,5,6,7,8,9,10,11,12,13,14,15,16,17,18,19,20,21,22,23,24,25]),(28,[0,1,2,3,4,5,6,7,8,9,10,11,12,13,14,15,16,17,18,19,20,21,22,23,24,25]),(29,[0,1,2,3,4,5,6,7,8,9,10,11,12,13,14,15,16,17,18,19,20,21,22,23,24,25]),(30,[0,1,2,3,4,5,6,7,8,9,10,11,12,13,14,15,16,17,18,19,20,21,22,23,24,25,26,27,28,29]),(31,[0,1,2,3,4,5,6,7,8,9,10,11,12,13,14,15,16,17,18,19,20,21,22,23,24,25]),(32,[0,1,2,3,4,5,6,7,8,9,10,11,12,13,14,15,16,17,18,19,20,21,22,23,24,25]),(33,[0,1,2,3,4,5,6,7,8,9,10,11,12,13,14,15,16,17,18,19,20,21,22,23,24,25]),(34,[0,1,2,3,4,5,6,7,8,9,10,11,12,13,14,15,16,17,18,19,20,21,22,23,24,25]),(35,[0,1,2,3,4,5,6,7,8,9,10,11,12,13,14,15,16,17,18,19,20,21,22,23,24,25,26,27,28,29,30,31,32,33,34]),(36,[0,1,2,3,4,5,6,7,8,9,10,11,12,13,14,15,16,17,18,19,20,21,22,23,24,25,26,27,28,29,30,31,32,33,34,35]),(37,[0,1,2,3,4,5,6,7,8,9,10,11,12,13,14,15,16,17,18,19,20,21,22,23,24,25,26,27,28,29,30,31,32,33,34,35,36]),(38,[0,1,2,3,4,5,6,7,8,9,10,11,12,13,14,15,16,17,18,19,20,21,22,23,24,25,26,27,28,29,30,31,32,33,34,35,36,37])]] <| rt h) fun h3 h=>
  go [] [rgo 3 [(0,k (w10 e2)),(2,gw h2 g0),(3,gw h2 g0),(4,gw h2 g0),(5,gw h2 (k (w11 e3))),(6,gw h2 g0),(7,gw h2 g0),(8,gw h2 g0),(9,gw h2 (k (w12 e4))),(10,gw h2 (kb h3)),(11,py h2)] [0,1,2,3,4,5,6,7,8,9,10,11,12,13,14,15,16,17,18,19,20,21,22,23,24,25,26,27,28,29,30,31,32,33,34,35,36,37,38] [] [(1,[0]),(2,[0,1]),(3,[0,1]),(4,[0,1]),(5,[0,1,2,3,4]),(6,[0,1]),(7,[0,1]),(8,[0,1]),(9,[0,1,2,3,4,5,6,7,8]),(10,[0,1,2,3,4,5,6,7,8,9]),(11,[0,1,2,3,4,5,6,7,8,9,10]),(12,[0,1,2,3,4,5,6,7,8,9,10,11]),(13,[0,1,2,3,4,5,6,7,8,9,10,11,12]),(14,[0,1,2,3,4,5,6,7,8,9,10,11,12]),(15,[0,1,2,3,4,5,6,7,8,9,10,11,12]),(16,[0,1,2,3,4,5,6,7,8,9,10,11,12]),(17,[0,1,2,3,4,5,6,7,8,9,10,11,12,13,14,15,16]),(18,[0,1,2,3,4,5,6,7,8,9,10,11,12]),(19,[0,1,2,3,4,5,6,7,8,9,10,11,12]),(20,[0,1,2,3,4,5,6,7,8,9,10,11,12]),(21,[0,1,2,3,4,5,6,7,8,9,10,11,12]),(22,[0,1,2,3,4,5,6,7,8,9,10,11,12,13,14,15,16,17,18,19,20,21]),(23,[0,1,2,3,4,5,6,7,8,9,10,11,12,13,14,15,16,17,18,19,20,21,22]),(24,[0,1,2,3,4,5,6,7,8,9,10,11,12,13,14,15,16,17,18,19,20,21,22,23]),(25,[0,1,2,3,4,5,6,7,8,9,10,11,12,13,14,15,16,17,18,19,20,21,22,23,24]),(26,[0,1,2,3,4,5,6,7,8,9,10,11,12,13,14,15,16,17,18,19,20,21,22,23,24,25]),(27,[0,1,2,3,4,5,6,7,8,9,10,11,12,13,14,15,16,17,18,19,20,21,22,23,24,25]),(28,[0,1,2,3,4,5,6,7,8,9,10,11,12,13,14,15,16,17,18,19,20,21,22,23,24,25]),(29,[0,1,2,3,4,5,6,7,8,9,10,11,12,13,14,15,16,17,18,19,20,21,22,23,24,25]),(30,[0,1,2,3,4,5,6,7,8,9,10,11,12,13,14,15,16,17,18,19,20,21,22,23,24,25,26,27,28,29]),(31,[0,1,2,3,4,5,6,7,8,9,10,11,12,13,14,15,16,17,18,19,20,21,22,23,24,25]),(32,[0,1,2,3,4,5,6,7,8,9,10,11,12,13,14,15,16,17,18,19,20,21,22,23,24,25]),(33,[0,1,2,3,4,5,6,7,8,9,10,11,12,13,14,15,16,17,18,19,20,21,22,23,24,25]),(34,[0,1,2,3,4,5,6,7,8,9,10,11,12,13,14,15,16,17,18,19,20,21,22,23,24,25]),(35,[0,1,2,3,4,5,6,7,8,9,10,11,12,13,14,15,16,17,18,19,20,21,22,23,24,25,26,27,28,29,30,31,32,33,34]),(36,[0,1,2,3,4,5,6,7,8,9,10,11,12,13,14,15,16,17,18,19,20,21,22,23,24,25,26,27,28,29,30,31,32,33,34,35]),(37,[0,1,2,3,4,5,6,7,8,9,10,11,12,13,14,15,16,17,18,19,20,21,22,23,24,25,26,27,28,29,30,31,32,33,34,35,36]),(38,[0,1,2,3,4,5,6,7,8,9,10,11,12,13,14,15,16,17,18,19,20,21,22,23,24,25,26,27,28,29,30,31,32,33,34,35,36,37])]] <| rt h) fun h2 h=>
  go [] [rgo 3 [(0,k (w10 e2)),(2,gs1 h2),(3,gs1 h2),(4,gs1 h2),(5,gs1 h2),(6,gs1 h2),(7,gs1 h2),(8,gs1 h2),(9,gs1 h2),(10,gs1 h2),(11,pn h2)] [0,1,2,3,4,5,6,7,8,9,10,11,12,13,14,15,16,17,18,19,20,21,22,23,24,25,26,27,28,29,30,31,32,33,34,35,36,37,38] [] [(1,[0]),(2,[0,1]),(3,[0,1]),(4,[0,1]),(5,[0,1,2,3,4]),(6,[0,1]),(7,[0,1]),(8,[0,1]),(9,[0,1,2,3,4,5,6,7,8]),(10,[0,1,2,3,4,5,6,7,8,9]),(11,[0,1,2,3,4,5,6,7,8,9,10]),(12,[0,1,2,3,4,5,6,7,8,9,10,11]),(13,[0,1,2,3,4,5,6,7,8,9,10,11,12]),(14,[0,1,2,3,4,5,6,7,8,9,10,11,12]),(15,[0,1,2,3,4,5,6,7,8,9,10,11,12]),(16,[0,1,2,3,4,5,6,7,8,9,10,11,12]),(17,[0,1,2,3,4,5,6,7,8,9,10,11,12,13,14,15,16]),(18,[0,1,2,3,4,5,6,7,8,9,10,11,12]),(19,[0,1,2,3,4,5,6,7,8,9,10,11,12]),(20,[0,1,2,3,4,5,6,7,8,9,10,11,12]),(21,[0,1,2,3,4,5,6,7,8,9,10,11,12]),(22,[0,1,2,3,4,5,6,7,8,9,10,11,12,13,14,15,16,17,18,19,20,21]),(23,[0,1,2,3,4,5,6,7,8,9,10,11,12,13,14,15,16,17,18,19,20,21,22]),(24,[0,1,2,3,4,5,6,7,8,9,10,11,12,13,14,15,16,17,18,19,20,21,22,23]),(25,[0,1,2,3,4,5,6,7,8,9,10,11,12,13,14,15,16,17,18,19,20,21,22,23,24]),(26,[0,1,2,3,4,5,6,7,8,9,10,11,12,13,14,15,16,17,18,19,20,21,22,23,24,25]),(27,[0,1,2,3,4,5,6,7,8,9,10,11,12,13,14,15,16,17,18,19,20,21,22,23,24,25]),(28,[0,1,2,3,4,5,6,7,8,9,10,11,12,13,14,15,16,17,18,19,20,21,22,23,24,25]),(29,[0,1,2,3,4,5,6,7,8,9,10,11,12,13,14,15,16,17,18,19,20,21,22,23,24,25]),(30,[0,1,2,3,4,5,6,7,8,9,10,11,12,13,14,15,16,17,18,19,20,21,22,23,24,25,26,27,28,29]),(31,[0,1,2,3,4,5,6,7,8,9,10,11,12,13,14,15,16,17,18,19,20,21,22,23,24,25]),(32,[0,1,2,3,4,5,6,7,8,9,10,11,12,13,14,15,16,17,18,19,20,21,22,23,24,25]),(33,[0,1,2,3,4,5,6,7,8,9,10,11,12,13,14,15,16,17,18,19,20,21,22,23,24,25]),(34,[0,1,2,3,4,5,6,7,8,9,10,11,12,13,14,15,16,17,18,19,20,21,22,23,24,25]),(35,[0,1,2,3,4,5,6,7,8,9,10,11,12,13,14,15,16,17,18,19,20,21,22,23,24,25,26,27,28,29,30,31,32,33,34]),(36,[0,1,2,3,4,5,6,7,8,9,10,11,12,13,14,15,16,17,18,19,20,21,22,23,24,25,26,27,28,29,30,31,32,33,34,35]),(37,[0,1,2,3,4,5,6,7,8,9,10,11,12,13,14,15,16,17,18,19,20,21,22,23,24,25,26,27,28,29,30,31,32,33,34,35,36]),(38,[0,1,2,3,4,5,6,7,8,9,10,11,12,13,14,15,16,17,18,19,20,21,22,23,24,25,26,27,28,29,30,31,32,33,34,35,36,37])]] <| rt h
theorem w3 {x0 : Z09} {x1 x2 x3 : Int} {r : Bool} (h : Zqy x0 x1 x2 x3 = some r) : Z0d Tryz.prog 3 [.agg (Z1j x0),dI x1,dI x2,dI x3] (R3 r):=
  cs Tryz.f3 <| bd h fun v0 e0 h=>sp h (fun h0 h=>go [] [rg 0 [(0,bo)],rg 1 [(1,k (w8 e0)),(4,gs0 h0),(5,gs0 h0),(6,gs0 h0),(7,py h0)]] <| bT rfl <| go [2] [] <| jn (wj3x2 h)) fun h0 h=>
  bd h fun v1 e1 h=>go [] [rg 0 [(0,bo)],rg 1 [(1,k (w8 e0)),(4,gw h0 g0),(5,gw h0 (k (w9 e1))),(6,gw h0 g0),(7,pn h0)]] <| br h (fun h1 h=>go [2] [] <| jn (wj3x2 h)) fun h1 h=>
  go [3] [] <| jn (wj3x1 h)
end Go.Proofs
