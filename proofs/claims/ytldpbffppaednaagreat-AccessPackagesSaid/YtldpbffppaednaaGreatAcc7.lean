/-
  Models of functions of the program, and that the functions compute them. Printed by den3.py. No condition.
-/
import Derived.Test.YtldpbffppaednaaGreatAcc6
set_option linter.unusedVariables false
namespace Go.Proofs
open Go.Den Go.Den.W
def R24 (y0 : Z0c) : D:= .agg (Z1x y0)
def l24x1 (t0 : Int × (List Z2k)) : Option (Ctl (Int × (List Z2k)) (((List Z2k)))):=
  if (decide (t0.1 < ([({ Z0u:=0,Z0s:=({ Z0h:=1,Z02:=[108,97,110,103,47,79,98,106,101,99,116],Z07:=[],Z06:=([] : List (List UInt8)),Z0n:=([] : List Z13),Z0m:=([] : List Z0x),Z19:=[] } : Z0j),Z07:=(-1),Z06:=([] : List Int),Z1c:=0,Z1d:=0 } : Z0z),({ Z0u:=0,Z0s:=({ Z0h:=0,Z02:=[112,47,65],Z07:=[108,97,110,103,47,79,98,106,101,99,116],Z06:=([] : List (List UInt8)),Z0n:=([] : List Z13),Z0m:=([] : List Z0x),Z19:=[] } : Z0j),Z07:=0,Z06:=([] : List Int),Z1c:=0,Z1d:=0 } : Z0z),({ Z0u:=0,Z0s:=({ Z0h:=0,Z02:=[112,47,66],Z07:=[108,97,110,103,47,79,98,106,101,99,116],Z06:=([] : List (List UInt8)),Z0n:=([] : List Z13),Z0m:=([] : List Z0x),Z19:=[] } : Z0j),Z07:=0,Z06:=([] : List Int),Z1c:=0,Z1d:=0 } : Z0z),({ Z0u:=0,Z0s:=({ Z0h:=0,Z02:=[113,47,67],Z07:=[112,47,65],Z06:=([] : List (List UInt8)),Z0n:=([] : List Z13),Z0m:=([] : List Z0x),Z19:=[] } : Z0j),Z07:=1,Z06:=([] : List Int),Z1c:=0,Z1d:=0 } : Z0z),({ Z0u:=1,Z0s:=({ Z0h:=0,Z02:=[112,47,65],Z07:=[108,97,110,103,47,79,98,106,101,99,116],Z06:=([] : List (List UInt8)),Z0n:=([] : List Z13),Z0m:=([] : List Z0x),Z19:=[] } : Z0j),Z07:=0,Z06:=([] : List Int),Z1c:=0,Z1d:=0 } : Z0z)].length : Int))) = true then
    ((Z2r t0.1 [({ Z0u:=0,Z0s:=({ Z0h:=1,Z02:=[108,97,110,103,47,79,98,106,101,99,116],Z07:=[],Z06:=([] : List (List UInt8)),Z0n:=([] : List Z13),Z0m:=([] : List Z0x),Z19:=[] } : Z0j),Z07:=(-1),Z06:=([] : List Int),Z1c:=0,Z1d:=0 } : Z0z),({ Z0u:=0,Z0s:=({ Z0h:=0,Z02:=[112,47,65],Z07:=[108,97,110,103,47,79,98,106,101,99,116],Z06:=([] : List (List UInt8)),Z0n:=([] : List Z13),Z0m:=([] : List Z0x),Z19:=[] } : Z0j),Z07:=0,Z06:=([] : List Int),Z1c:=0,Z1d:=0 } : Z0z),({ Z0u:=0,Z0s:=({ Z0h:=0,Z02:=[112,47,66],Z07:=[108,97,110,103,47,79,98,106,101,99,116],Z06:=([] : List (List UInt8)),Z0n:=([] : List Z13),Z0m:=([] : List Z0x),Z19:=[] } : Z0j),Z07:=0,Z06:=([] : List Int),Z1c:=0,Z1d:=0 } : Z0z),({ Z0u:=0,Z0s:=({ Z0h:=0,Z02:=[113,47,67],Z07:=[112,47,65],Z06:=([] : List (List UInt8)),Z0n:=([] : List Z13),Z0m:=([] : List Z0x),Z19:=[] } : Z0j),Z07:=1,Z06:=([] : List Int),Z1c:=0,Z1d:=0 } : Z0z),({ Z0u:=1,Z0s:=({ Z0h:=0,Z02:=[112,47,65],Z07:=[108,97,110,103,47,79,98,106,101,99,116],Z06:=([] : List (List UInt8)),Z0n:=([] : List Z13),Z0m:=([] : List Z0x),Z19:=[] } : Z0j),Z07:=0,Z06:=([] : List Int),Z1c:=0,Z1d:=0 } : Z0z)].length).bind fun v11=>
    ([({ Z0u:=0,Z0s:=({ Z0h:=1,Z02:=[108,97,110,103,47,79,98,106,101,99,116],Z07:=[],Z06:=([] : List (List UInt8)),Z0n:=([] : List Z13),Z0m:=([] : List Z0x),Z19:=[] } : Z0j),Z07:=(-1),Z06:=([] : List Int),Z1c:=0,Z1d:=0 } : Z0z),({ Z0u:=0,Z0s:=({ Z0h:=0,Z02:=[112,47,65],Z07:=[108,97,110,103,47,79,98,106,101,99,116],Z06:=([] : List (List UInt8)),Z0n:=([] : List Z13),Z0m:=([] : List Z0x),Z19:=[] } : Z0j),Z07:=0,Z06:=([] : List Int),Z1c:=0,Z1d:=0 } : Z0z),({ Z0u:=0,Z0s:=({ Z0h:=0,Z02:=[112,47,66],Z07:=[108,97,110,103,47,79,98,106,101,99,116],Z06:=([] : List (List UInt8)),Z0n:=([] : List Z13),Z0m:=([] : List Z0x),Z19:=[] } : Z0j),Z07:=0,Z06:=([] : List Int),Z1c:=0,Z1d:=0 } : Z0z),({ Z0u:=0,Z0s:=({ Z0h:=0,Z02:=[113,47,67],Z07:=[112,47,65],Z06:=([] : List (List UInt8)),Z0n:=([] : List Z13),Z0m:=([] : List Z0x),Z19:=[] } : Z0j),Z07:=1,Z06:=([] : List Int),Z1c:=0,Z1d:=0 } : Z0z),({ Z0u:=1,Z0s:=({ Z0h:=0,Z02:=[112,47,65],Z07:=[108,97,110,103,47,79,98,106,101,99,116],Z06:=([] : List (List UInt8)),Z0n:=([] : List Z13),Z0m:=([] : List Z0x),Z19:=[] } : Z0j),Z07:=0,Z06:=([] : List Int),Z1c:=0,Z1d:=0 } : Z0z)][v11]?).bind fun v12=>
    (Z2r t0.1 [({ Z0u:=0,Z0s:=({ Z0h:=1,Z02:=[108,97,110,103,47,79,98,106,101,99,116],Z07:=[],Z06:=([] : List (List UInt8)),Z0n:=([] : List Z13),Z0m:=([] : List Z0x),Z19:=[] } : Z0j),Z07:=(-1),Z06:=([] : List Int),Z1c:=0,Z1d:=0 } : Z0z),({ Z0u:=0,Z0s:=({ Z0h:=0,Z02:=[112,47,65],Z07:=[108,97,110,103,47,79,98,106,101,99,116],Z06:=([] : List (List UInt8)),Z0n:=([] : List Z13),Z0m:=([] : List Z0x),Z19:=[] } : Z0j),Z07:=0,Z06:=([] : List Int),Z1c:=0,Z1d:=0 } : Z0z),({ Z0u:=0,Z0s:=({ Z0h:=0,Z02:=[112,47,66],Z07:=[108,97,110,103,47,79,98,106,101,99,116],Z06:=([] : List (List UInt8)),Z0n:=([] : List Z13),Z0m:=([] : List Z0x),Z19:=[] } : Z0j),Z07:=0,Z06:=([] : List Int),Z1c:=0,Z1d:=0 } : Z0z),({ Z0u:=0,Z0s:=({ Z0h:=0,Z02:=[113,47,67],Z07:=[112,47,65],Z06:=([] : List (List UInt8)),Z0n:=([] : List Z13),Z0m:=([] : List Z0x),Z19:=[] } : Z0j),Z07:=1,Z06:=([] : List Int),Z1c:=0,Z1d:=0 } : Z0z),({ Z0u:=1,Z0s:=({ Z0h:=0,Z02:=[112,47,65],Z07:=[108,97,110,103,47,79,98,106,101,99,116],Z06:=([] : List (List UInt8)),Z0n:=([] : List Z13),Z0m:=([] : List Z0x),Z19:=[] } : Z0j),Z07:=0,Z06:=([] : List Int),Z1c:=0,Z1d:=0 } : Z0z)].length).bind fun v13=>
    ([({ Z0u:=0,Z0s:=({ Z0h:=1,Z02:=[108,97,110,103,47,79,98,106,101,99,116],Z07:=[],Z06:=([] : List (List UInt8)),Z0n:=([] : List Z13),Z0m:=([] : List Z0x),Z19:=[] } : Z0j),Z07:=(-1),Z06:=([] : List Int),Z1c:=0,Z1d:=0 } : Z0z),({ Z0u:=0,Z0s:=({ Z0h:=0,Z02:=[112,47,65],Z07:=[108,97,110,103,47,79,98,106,101,99,116],Z06:=([] : List (List UInt8)),Z0n:=([] : List Z13),Z0m:=([] : List Z0x),Z19:=[] } : Z0j),Z07:=0,Z06:=([] : List Int),Z1c:=0,Z1d:=0 } : Z0z),({ Z0u:=0,Z0s:=({ Z0h:=0,Z02:=[112,47,66],Z07:=[108,97,110,103,47,79,98,106,101,99,116],Z06:=([] : List (List UInt8)),Z0n:=([] : List Z13),Z0m:=([] : List Z0x),Z19:=[] } : Z0j),Z07:=0,Z06:=([] : List Int),Z1c:=0,Z1d:=0 } : Z0z),({ Z0u:=0,Z0s:=({ Z0h:=0,Z02:=[113,47,67],Z07:=[112,47,65],Z06:=([] : List (List UInt8)),Z0n:=([] : List Z13),Z0m:=([] : List Z0x),Z19:=[] } : Z0j),Z07:=1,Z06:=([] : List Int),Z1c:=0,Z1d:=0 } : Z0z),({ Z0u:=1,Z0s:=({ Z0h:=0,Z02:=[112,47,65],Z07:=[108,97,110,103,47,79,98,106,101,99,116],Z06:=([] : List (List UInt8)),Z0n:=([] : List Z13),Z0m:=([] : List Z0x),Z19:=[] } : Z0j),Z07:=0,Z06:=([] : List Int),Z1c:=0,Z1d:=0 } : Z0z)][v13]?).bind fun v14=>
    (Z24 32 (t0.2 ++ [({ Z0u:=v12.Z0u,Z02:=v14.Z0s.Z02,Z1f:=t0.1 } : Z2k)]).length).bind fun v15=>
    (some (IntKind.wrap .i64 (t0.1 + (1 : Int)))).bind fun v16=>
    some (.next (v16,(t0.2 ++ [({ Z0u:=v12.Z0u,Z02:=v14.Z0s.Z02,Z1f:=t0.1 } : Z2k)])))) else
  (some (.done (t0.2)))
def Zpe : Option (Z0c):=
  (Z6n 48 2 2).bind fun v0=>
  (Z0d l24x1 Z0i (0,([] : List Z2k))).bind fun q0=>
  some ({ Z23:=(List.replicate (2 : Int).toNat ({ Z3h:=([] : List Z4d),Z2z:=([] : List Z4n) } : Z1m)),Z1i:=[({ Z0u:=0,Z0s:=({ Z0h:=1,Z02:=[108,97,110,103,47,79,98,106,101,99,116],Z07:=[],Z06:=([] : List (List UInt8)),Z0n:=([] : List Z13),Z0m:=([] : List Z0x),Z19:=[] } : Z0j),Z07:=(-1),Z06:=([] : List Int),Z1c:=0,Z1d:=0 } : Z0z),({ Z0u:=0,Z0s:=({ Z0h:=0,Z02:=[112,47,65],Z07:=[108,97,110,103,47,79,98,106,101,99,116],Z06:=([] : List (List UInt8)),Z0n:=([] : List Z13),Z0m:=([] : List Z0x),Z19:=[] } : Z0j),Z07:=0,Z06:=([] : List Int),Z1c:=0,Z1d:=0 } : Z0z),({ Z0u:=0,Z0s:=({ Z0h:=0,Z02:=[112,47,66],Z07:=[108,97,110,103,47,79,98,106,101,99,116],Z06:=([] : List (List UInt8)),Z0n:=([] : List Z13),Z0m:=([] : List Z0x),Z19:=[] } : Z0j),Z07:=0,Z06:=([] : List Int),Z1c:=0,Z1d:=0 } : Z0z),({ Z0u:=0,Z0s:=({ Z0h:=0,Z02:=[113,47,67],Z07:=[112,47,65],Z06:=([] : List (List UInt8)),Z0n:=([] : List Z13),Z0m:=([] : List Z0x),Z19:=[] } : Z0j),Z07:=1,Z06:=([] : List Int),Z1c:=0,Z1d:=0 } : Z0z),({ Z0u:=1,Z0s:=({ Z0h:=0,Z02:=[112,47,65],Z07:=[108,97,110,103,47,79,98,106,101,99,116],Z06:=([] : List (List UInt8)),Z0n:=([] : List Z13),Z0m:=([] : List Z0x),Z19:=[] } : Z0j),Z07:=0,Z06:=([] : List Int),Z1c:=0,Z1d:=0 } : Z0z)],Z2p:=q0,Z3p:=([] : List Z46) } : Z0c)
def Zsw : (Int × (List Z2k)) → SL:=
  fun t0=>⟨43,[(0,.lptr 0 0 0),(1,.lsl 1 0 (([({ Z0u:=0,Z0s:=({ Z0h:=1,Z02:=[108,97,110,103,47,79,98,106,101,99,116],Z07:=[],Z06:=([] : List (List UInt8)),Z0n:=([] : List Z13),Z0m:=([] : List Z0x),Z19:=[] } : Z0j),Z07:=(-1),Z06:=([] : List Int),Z1c:=0,Z1d:=0 } : Z0z),({ Z0u:=0,Z0s:=({ Z0h:=0,Z02:=[112,47,65],Z07:=[108,97,110,103,47,79,98,106,101,99,116],Z06:=([] : List (List UInt8)),Z0n:=([] : List Z13),Z0m:=([] : List Z0x),Z19:=[] } : Z0j),Z07:=0,Z06:=([] : List Int),Z1c:=0,Z1d:=0 } : Z0z),({ Z0u:=0,Z0s:=({ Z0h:=0,Z02:=[112,47,66],Z07:=[108,97,110,103,47,79,98,106,101,99,116],Z06:=([] : List (List UInt8)),Z0n:=([] : List Z13),Z0m:=([] : List Z0x),Z19:=[] } : Z0j),Z07:=0,Z06:=([] : List Int),Z1c:=0,Z1d:=0 } : Z0z),({ Z0u:=0,Z0s:=({ Z0h:=0,Z02:=[113,47,67],Z07:=[112,47,65],Z06:=([] : List (List UInt8)),Z0n:=([] : List Z13),Z0m:=([] : List Z0x),Z19:=[] } : Z0j),Z07:=1,Z06:=([] : List Int),Z1c:=0,Z1d:=0 } : Z0z),({ Z0u:=1,Z0s:=({ Z0h:=0,Z02:=[112,47,65],Z07:=[108,97,110,103,47,79,98,106,101,99,116],Z06:=([] : List (List UInt8)),Z0n:=([] : List Z13),Z0m:=([] : List Z0x),Z19:=[] } : Z0j),Z07:=0,Z06:=([] : List Int),Z1c:=0,Z1d:=0 } : Z0z)].map Z44).length)),(2,.lptr 2 0 0),(3,dI t0.1)],[(0,{ sz:=4,rows:=[[.sl true (([] : List Z1m).map Z2w),.sl true (([] : List Z0z).map Z44),.sl true (([] : List Z2k).map Z58),.sl true (([] : List Z46).map Z5p)]],frz:=0,pure:=false }),(1,{ sz:=12,rows:=([({ Z0u:=0,Z0s:=({ Z0h:=1,Z02:=[108,97,110,103,47,79,98,106,101,99,116],Z07:=[],Z06:=([] : List (List UInt8)),Z0n:=([] : List Z13),Z0m:=([] : List Z0x),Z19:=[] } : Z0j),Z07:=(-1),Z06:=([] : List Int),Z1c:=0,Z1d:=0 } : Z0z),({ Z0u:=0,Z0s:=({ Z0h:=0,Z02:=[112,47,65],Z07:=[108,97,110,103,47,79,98,106,101,99,116],Z06:=([] : List (List UInt8)),Z0n:=([] : List Z13),Z0m:=([] : List Z0x),Z19:=[] } : Z0j),Z07:=0,Z06:=([] : List Int),Z1c:=0,Z1d:=0 } : Z0z),({ Z0u:=0,Z0s:=({ Z0h:=0,Z02:=[112,47,66],Z07:=[108,97,110,103,47,79,98,106,101,99,116],Z06:=([] : List (List UInt8)),Z0n:=([] : List Z13),Z0m:=([] : List Z0x),Z19:=[] } : Z0j),Z07:=0,Z06:=([] : List Int),Z1c:=0,Z1d:=0 } : Z0z),({ Z0u:=0,Z0s:=({ Z0h:=0,Z02:=[113,47,67],Z07:=[112,47,65],Z06:=([] : List (List UInt8)),Z0n:=([] : List Z13),Z0m:=([] : List Z0x),Z19:=[] } : Z0j),Z07:=1,Z06:=([] : List Int),Z1c:=0,Z1d:=0 } : Z0z),({ Z0u:=1,Z0s:=({ Z0h:=0,Z02:=[112,47,65],Z07:=[108,97,110,103,47,79,98,106,101,99,116],Z06:=([] : List (List UInt8)),Z0n:=([] : List Z13),Z0m:=([] : List Z0x),Z19:=[] } : Z0j),Z07:=0,Z06:=([] : List Int),Z1c:=0,Z1d:=0 } : Z0z)].map Z44),frz:=0,pure:=true }),(2,{ sz:=4,rows:=[[.lsl 15 0 (((List.replicate (2 : Int).toNat ({ Z3h:=([] : List Z4d),Z2z:=([] : List Z4n) } : Z1m)).map Z2w).length),.lsl 1 0 (([({ Z0u:=0,Z0s:=({ Z0h:=1,Z02:=[108,97,110,103,47,79,98,106,101,99,116],Z07:=[],Z06:=([] : List (List UInt8)),Z0n:=([] : List Z13),Z0m:=([] : List Z0x),Z19:=[] } : Z0j),Z07:=(-1),Z06:=([] : List Int),Z1c:=0,Z1d:=0 } : Z0z),({ Z0u:=0,Z0s:=({ Z0h:=0,Z02:=[112,47,65],Z07:=[108,97,110,103,47,79,98,106,101,99,116],Z06:=([] : List (List UInt8)),Z0n:=([] : List Z13),Z0m:=([] : List Z0x),Z19:=[] } : Z0j),Z07:=0,Z06:=([] : List Int),Z1c:=0,Z1d:=0 } : Z0z),({ Z0u:=0,Z0s:=({ Z0h:=0,Z02:=[112,47,66],Z07:=[108,97,110,103,47,79,98,106,101,99,116],Z06:=([] : List (List UInt8)),Z0n:=([] : List Z13),Z0m:=([] : List Z0x),Z19:=[] } : Z0j),Z07:=0,Z06:=([] : List Int),Z1c:=0,Z1d:=0 } : Z0z),({ Z0u:=0,Z0s:=({ Z0h:=0,Z02:=[113,47,67],Z07:=[112,47,65],Z06:=([] : List (List UInt8)),Z0n:=([] : List Z13),Z0m:=([] : List Z0x),Z19:=[] } : Z0j),Z07:=1,Z06:=([] : List Int),Z1c:=0,Z1d:=0 } : Z0z),({ Z0u:=1,Z0s:=({ Z0h:=0,Z02:=[112,47,65],Z07:=[108,97,110,103,47,79,98,106,101,99,116],Z06:=([] : List (List UInt8)),Z0n:=([] : List Z13),Z0m:=([] : List Z0x),Z19:=[] } : Z0j),Z07:=0,Z06:=([] : List Int),Z1c:=0,Z1d:=0 } : Z0z)].map Z44).length),.lsl 1002 0 ((t0.2.map Z58).length),.sl true (([] : List Z46).map Z5p)]],frz:=0,pure:=false }),(15,{ sz:=2,rows:=((List.replicate (2 : Int).toNat ({ Z3h:=([] : List Z4d),Z2z:=([] : List Z4n) } : Z1m)).map Z2w),frz:=0,pure:=true }),(1002,{ sz:=3,rows:=(t0.2.map Z58),frz:=0,pure:=true })]⟩
def J24x1 : JT (((List Z2k))):=
  je 0 fun q0 : (List Z2k)=>⟨43,[(0,.lptr 0 0 0),(2,.lptr 2 0 0)],[(0,{ sz:=4,rows:=[[.sl true (([] : List Z1m).map Z2w),.sl true (([] : List Z0z).map Z44),.sl true (([] : List Z2k).map Z58),.sl true (([] : List Z46).map Z5p)]],frz:=0,pure:=false }),(1,{ sz:=12,rows:=([({ Z0u:=0,Z0s:=({ Z0h:=1,Z02:=[108,97,110,103,47,79,98,106,101,99,116],Z07:=[],Z06:=([] : List (List UInt8)),Z0n:=([] : List Z13),Z0m:=([] : List Z0x),Z19:=[] } : Z0j),Z07:=(-1),Z06:=([] : List Int),Z1c:=0,Z1d:=0 } : Z0z),({ Z0u:=0,Z0s:=({ Z0h:=0,Z02:=[112,47,65],Z07:=[108,97,110,103,47,79,98,106,101,99,116],Z06:=([] : List (List UInt8)),Z0n:=([] : List Z13),Z0m:=([] : List Z0x),Z19:=[] } : Z0j),Z07:=0,Z06:=([] : List Int),Z1c:=0,Z1d:=0 } : Z0z),({ Z0u:=0,Z0s:=({ Z0h:=0,Z02:=[112,47,66],Z07:=[108,97,110,103,47,79,98,106,101,99,116],Z06:=([] : List (List UInt8)),Z0n:=([] : List Z13),Z0m:=([] : List Z0x),Z19:=[] } : Z0j),Z07:=0,Z06:=([] : List Int),Z1c:=0,Z1d:=0 } : Z0z),({ Z0u:=0,Z0s:=({ Z0h:=0,Z02:=[113,47,67],Z07:=[112,47,65],Z06:=([] : List (List UInt8)),Z0n:=([] : List Z13),Z0m:=([] : List Z0x),Z19:=[] } : Z0j),Z07:=1,Z06:=([] : List Int),Z1c:=0,Z1d:=0 } : Z0z),({ Z0u:=1,Z0s:=({ Z0h:=0,Z02:=[112,47,65],Z07:=[108,97,110,103,47,79,98,106,101,99,116],Z06:=([] : List (List UInt8)),Z0n:=([] : List Z13),Z0m:=([] : List Z0x),Z19:=[] } : Z0j),Z07:=0,Z06:=([] : List Int),Z1c:=0,Z1d:=0 } : Z0z)].map Z44),frz:=0,pure:=true }),(2,{ sz:=4,rows:=[[.lsl 15 0 (((List.replicate (2 : Int).toNat ({ Z3h:=([] : List Z4d),Z2z:=([] : List Z4n) } : Z1m)).map Z2w).length),.lsl 1 0 (([({ Z0u:=0,Z0s:=({ Z0h:=1,Z02:=[108,97,110,103,47,79,98,106,101,99,116],Z07:=[],Z06:=([] : List (List UInt8)),Z0n:=([] : List Z13),Z0m:=([] : List Z0x),Z19:=[] } : Z0j),Z07:=(-1),Z06:=([] : List Int),Z1c:=0,Z1d:=0 } : Z0z),({ Z0u:=0,Z0s:=({ Z0h:=0,Z02:=[112,47,65],Z07:=[108,97,110,103,47,79,98,106,101,99,116],Z06:=([] : List (List UInt8)),Z0n:=([] : List Z13),Z0m:=([] : List Z0x),Z19:=[] } : Z0j),Z07:=0,Z06:=([] : List Int),Z1c:=0,Z1d:=0 } : Z0z),({ Z0u:=0,Z0s:=({ Z0h:=0,Z02:=[112,47,66],Z07:=[108,97,110,103,47,79,98,106,101,99,116],Z06:=([] : List (List UInt8)),Z0n:=([] : List Z13),Z0m:=([] : List Z0x),Z19:=[] } : Z0j),Z07:=0,Z06:=([] : List Int),Z1c:=0,Z1d:=0 } : Z0z),({ Z0u:=0,Z0s:=({ Z0h:=0,Z02:=[113,47,67],Z07:=[112,47,65],Z06:=([] : List (List UInt8)),Z0n:=([] : List Z13),Z0m:=([] : List Z0x),Z19:=[] } : Z0j),Z07:=1,Z06:=([] : List Int),Z1c:=0,Z1d:=0 } : Z0z),({ Z0u:=1,Z0s:=({ Z0h:=0,Z02:=[112,47,65],Z07:=[108,97,110,103,47,79,98,106,101,99,116],Z06:=([] : List (List UInt8)),Z0n:=([] : List Z13),Z0m:=([] : List Z0x),Z19:=[] } : Z0j),Z07:=0,Z06:=([] : List Int),Z1c:=0,Z1d:=0 } : Z0z)].map Z44).length),.lsl 1002 0 ((q0.map Z58).length),.sl true (([] : List Z46).map Z5p)]],frz:=0,pure:=false }),(15,{ sz:=2,rows:=((List.replicate (2 : Int).toNat ({ Z3h:=([] : List Z4d),Z2z:=([] : List Z4n) } : Z1m)).map Z2w),frz:=0,pure:=true }),(1002,{ sz:=3,rows:=(q0.map Z58),frz:=0,pure:=true })]⟩
theorem wl24x1 {t0 : Int × (List Z2k)} {r : Ctl (Int × (List Z2k)) (((List Z2k)))} {Γ : Ctx} (h : l24x1 t0 = some r) : A Tryz.prog Γ (lpC Tryz.f24 87) [] (Rd Zsw J24x1 r) (Zsw t0).s:=
  go [] [rg 4 [(2,ln ([({ Z0u:=0,Z0s:=({ Z0h:=1,Z02:=[108,97,110,103,47,79,98,106,101,99,116],Z07:=[],Z06:=([] : List (List UInt8)),Z0n:=([] : List Z13),Z0m:=([] : List Z0x),Z19:=[] } : Z0j),Z07:=(-1),Z06:=([] : List Int),Z1c:=0,Z1d:=0 } : Z0z),({ Z0u:=0,Z0s:=({ Z0h:=0,Z02:=[112,47,65],Z07:=[108,97,110,103,47,79,98,106,101,99,116],Z06:=([] : List (List UInt8)),Z0n:=([] : List Z13),Z0m:=([] : List Z0x),Z19:=[] } : Z0j),Z07:=0,Z06:=([] : List Int),Z1c:=0,Z1d:=0 } : Z0z),({ Z0u:=0,Z0s:=({ Z0h:=0,Z02:=[112,47,66],Z07:=[108,97,110,103,47,79,98,106,101,99,116],Z06:=([] : List (List UInt8)),Z0n:=([] : List Z13),Z0m:=([] : List Z0x),Z19:=[] } : Z0j),Z07:=0,Z06:=([] : List Int),Z1c:=0,Z1d:=0 } : Z0z),({ Z0u:=0,Z0s:=({ Z0h:=0,Z02:=[113,47,67],Z07:=[112,47,65],Z06:=([] : List (List UInt8)),Z0n:=([] : List Z13),Z0m:=([] : List Z0x),Z19:=[] } : Z0j),Z07:=1,Z06:=([] : List Int),Z1c:=0,Z1d:=0 } : Z0z),({ Z0u:=1,Z0s:=({ Z0h:=0,Z02:=[112,47,65],Z07:=[108,97,110,103,47,79,98,106,101,99,116],Z06:=([] : List (List UInt8)),Z0n:=([] : List Z13),Z0m:=([] : List Z0x),Z19:=[] } : Z0j),Z07:=0,Z06:=([] : List Int),Z1c:=0,Z1d:=0 } : Z0z)] : List Z0z))]] <| br h (fun h2 h=>bd h fun v11 e11 h=>bd h fun v12 e12 h=>bd h fun v13 e13 h=>bd h fun v14 e14 h=>bd h fun v15 e15 h=>bd h fun v16 e16 h=>go [] [rgo 6 [(4,ia 1 e11),(6,lb e12),(9,ia 1 e13),(12,lb e14),(15,br0 1 3),(16,ap e15)] [0,1,2,3,4,5,6,7,8,9,10,11,12,13,14,15,16,17,18] [16,18] [(1,[0]),(4,[2,3]),(5,[2,3,4]),(6,[2,3,4,5]),(9,[7,8]),(10,[7,8,9]),(11,[7,8,9,10]),(12,[7,8,9,10,11]),(14,[2,3,4,5,6,7,8,9,10,11,12,13]),(15,[2,3,4,5,6,7,8,9,10,11,12,13,14]),(16,[0,1,2,3,4,5,6,7,8,9,10,11,12,13,14,15]),(17,[0,1,2,3,4,5,6,7,8,9,10,11,12,13,14,15,16]),(18,[0,1,2,3,4,5,6,7,8,9,10,11,12,13,14,15,16,17])],rg 5 [(1,n e16)]] <| nx h) fun h2 h=>
  go [] [] <| dn h (iE)
theorem w24 {r : Z0c} (h : Zpe = some r) : Z0e Tryz.prog 24 [] (R24 r):=
  cs Tryz.f24 <| bd h fun v0 e0 h=>go [] [rg 1 [(10,bl 5 12)],rg 2 [(0,mk ({ Z3h:=([] : List Z4d),Z2z:=([] : List Z4n) } : Z1m) e0)]] <| bd h fun q0 e17 h=>lp (cv:=[.blk 2 2 1002 3]) (ps:=[(0,0),(14,1),(2,2),(15,15),(1002,1002)]) e17 wl24x1 <| qe <| goN [] [] <| rtB h (.agg [rw_ (List.replicate (2 : Int).toNat ({ Z3h:=([] : List Z4d),Z2z:=([] : List Z4n) } : Z1m)),rw_ ([({ Z0u:=0,Z0s:=({ Z0h:=1,Z02:=[108,97,110,103,47,79,98,106,101,99,116],Z07:=[],Z06:=([] : List (List UInt8)),Z0n:=([] : List Z13),Z0m:=([] : List Z0x),Z19:=[] } : Z0j),Z07:=(-1),Z06:=([] : List Int),Z1c:=0,Z1d:=0 } : Z0z),({ Z0u:=0,Z0s:=({ Z0h:=0,Z02:=[112,47,65],Z07:=[108,97,110,103,47,79,98,106,101,99,116],Z06:=([] : List (List UInt8)),Z0n:=([] : List Z13),Z0m:=([] : List Z0x),Z19:=[] } : Z0j),Z07:=0,Z06:=([] : List Int),Z1c:=0,Z1d:=0 } : Z0z),({ Z0u:=0,Z0s:=({ Z0h:=0,Z02:=[112,47,66],Z07:=[108,97,110,103,47,79,98,106,101,99,116],Z06:=([] : List (List UInt8)),Z0n:=([] : List Z13),Z0m:=([] : List Z0x),Z19:=[] } : Z0j),Z07:=0,Z06:=([] : List Int),Z1c:=0,Z1d:=0 } : Z0z),({ Z0u:=0,Z0s:=({ Z0h:=0,Z02:=[113,47,67],Z07:=[112,47,65],Z06:=([] : List (List UInt8)),Z0n:=([] : List Z13),Z0m:=([] : List Z0x),Z19:=[] } : Z0j),Z07:=1,Z06:=([] : List Int),Z1c:=0,Z1d:=0 } : Z0z),({ Z0u:=1,Z0s:=({ Z0h:=0,Z02:=[112,47,65],Z07:=[108,97,110,103,47,79,98,106,101,99,116],Z06:=([] : List (List UInt8)),Z0n:=([] : List Z13),Z0m:=([] : List Z0x),Z19:=[] } : Z0j),Z07:=0,Z06:=([] : List Int),Z1c:=0,Z1d:=0 } : Z0z)] : List Z0z),rw_ q0,.sl false (([] : List Z46).map Z5p)]) (a2 (a2 (rpI (List.replicate (2 : Int).toNat ({ Z3h:=([] : List Z4d),Z2z:=([] : List Z4n) } : Z1m))) (a2 (rpI ([({ Z0u:=0,Z0s:=({ Z0h:=1,Z02:=[108,97,110,103,47,79,98,106,101,99,116],Z07:=[],Z06:=([] : List (List UInt8)),Z0n:=([] : List Z13),Z0m:=([] : List Z0x),Z19:=[] } : Z0j),Z07:=(-1),Z06:=([] : List Int),Z1c:=0,Z1d:=0 } : Z0z),({ Z0u:=0,Z0s:=({ Z0h:=0,Z02:=[112,47,65],Z07:=[108,97,110,103,47,79,98,106,101,99,116],Z06:=([] : List (List UInt8)),Z0n:=([] : List Z13),Z0m:=([] : List Z0x),Z19:=[] } : Z0j),Z07:=0,Z06:=([] : List Int),Z1c:=0,Z1d:=0 } : Z0z),({ Z0u:=0,Z0s:=({ Z0h:=0,Z02:=[112,47,66],Z07:=[108,97,110,103,47,79,98,106,101,99,116],Z06:=([] : List (List UInt8)),Z0n:=([] : List Z13),Z0m:=([] : List Z0x),Z19:=[] } : Z0j),Z07:=0,Z06:=([] : List Int),Z1c:=0,Z1d:=0 } : Z0z),({ Z0u:=0,Z0s:=({ Z0h:=0,Z02:=[113,47,67],Z07:=[112,47,65],Z06:=([] : List (List UInt8)),Z0n:=([] : List Z13),Z0m:=([] : List Z0x),Z19:=[] } : Z0j),Z07:=1,Z06:=([] : List Int),Z1c:=0,Z1d:=0 } : Z0z),({ Z0u:=1,Z0s:=({ Z0h:=0,Z02:=[112,47,65],Z07:=[108,97,110,103,47,79,98,106,101,99,116],Z06:=([] : List (List UInt8)),Z0n:=([] : List Z13),Z0m:=([] : List Z0x),Z19:=[] } : Z0j),Z07:=0,Z06:=([] : List Int),Z1c:=0,Z1d:=0 } : Z0z)] : List Z0z)) (a2 (rpI q0) (a2 trivial trivial)))) trivial) (by simp only [rwE] <;> kernel_rfl)
def R25 (y0 : Bool) : D:= .bool y0
def Z6m (x0 : Z0c) (x1 : Int) : Option (Bool):=
  if (decide (x1 ≥ 0)) = true then (some (decide (x1 < (x0.Z1i.length : Int)))) else
  (some false)
theorem w25 {x0 : Z0c} {x1 : Int} {r : Bool} (h : Z6m x0 x1 = some r) : Z0e Tryz.prog 25 [.agg (Z1x x0),dI x1] (R25 r):=
  cs Tryz.f25 <| sp h (fun h0 h=>go [] [rg 0 [(0,bo)],rg 1 [(1,kb h0),(6,ln x0.Z1i)]] <| rt h) fun h0 h=>
  go [] [rg 0 [(0,bo)],rg 1 [(1,kb h0)]] <| rt h
def R40 (y0 : Bool) : D:= .bool y0
def Zb6 (x0 : Z0c) (x1 : Int) : Option (Bool):=
  if (decide (x1 ≥ 0)) = true then (some (decide (x1 < (x0.Z1i.length : Int)))) else
  (some false)
theorem w40 {x0 : Z0c} {x1 : Int} {r : Bool} (h : Zb6 x0 x1 = some r) : Z0e Tryz.prog 40 [.agg (Z1x x0),dI x1] (R40 r):=
  cs Tryz.f40 <| sp h (fun h0 h=>go [] [rg 0 [(0,bo)],rg 1 [(1,kb h0),(6,ln x0.Z1i)]] <| rt h) fun h0 h=>
  go [] [rg 0 [(0,bo)],rg 1 [(1,kb h0)]] <| rt h
def R73 (y0 : Int) : D:= .int .i64 y0
def l73x1 (x0 : List UInt8) (x1 t0 : Int) : Option (Ctl (Int) (Unit ⊕ Int)):=
  if (decide (t0 ≥ 0)) = true then
    ((Z30 x0 t0).bind fun v3=>
    if (v3 == x1) = true then
      (some (.done (.inr t0))) else
    ((some (IntKind.wrap .i64 (t0 - (1 : Int)))).bind fun v4=>
      some (.next v4))) else
  (some (.done (.inl (()))))
def Zkq (x0 : List UInt8) (x1 : Int) : Option (Int):=
  (some (IntKind.wrap .i64 ((x0.length : Int) - (1 : Int)))).bind fun v0=>
  (Z0d (l73x1 x0 x1) Z0i v0).bind fun q1=>
  match q1 with
  | .inl q0=>(some (-1))
  | .inr y0=>(some y0)
def Zu2 (x0 : List UInt8) (x1 : Int) : Int → SL:=
  fun t0=>⟨19,[(0,.str x0),(1,d8 x1),(5,dI t0)],[]⟩
def J73x1 : JT (Unit ⊕ Int):=
  ju (je 0 fun q0 : Unit=>⟨19,[],[]⟩) (jr Tryz.prog Tryz.f73 R73)
theorem wl73x1 {x0 : List UInt8} {x1 t0 : Int} {r : Ctl (Int) (Unit ⊕ Int)} {Γ : Ctx} (h : (l73x1 x0 x1) t0 = some r) : A Tryz.prog Γ (lpC Tryz.f73 21) [] (Rd (Zu2 x0 x1) J73x1 r) ((Zu2 x0 x1) t0).s:=
  go [] [] <| br h (fun h2 h=>bd h fun v3 e3 h=>go [] [rg 4 [(2,ib e3)]] <| br h (fun h3 h=>go [] [] <| dn h (i2 iR)) fun h3 h=>
    bd h fun v4 e4 h=>go [] [rg 3 [(1,n e4)]] <| nx h) fun h2 h=>
  go [] [] <| dn h (i1 iE)
theorem w73 {x0 : List UInt8} {x1 : Int} {r : Int} (h : Zkq x0 x1 = some r) : Z0e Tryz.prog 73 [.str x0,d8 x1] (R73 r):=
  cs Tryz.f73 <| bd h fun v0 e0 h=>go [] [rg 1 [(2,n e0)]] <| bd h fun q1 e5 h=>lp e5 wl73x1 <| match q1,h with
  | .inl q0,h=>j1 <| (qe <| goN [] [] <| rt h)
  | .inr y0,h=>j2 <| (qr h)
def R52 (y0 : Int) : D:= .int .i64 y0
def Zo0 (x0 : List UInt8) (x1 : Int) : Option (Int):=
  (Zkq x0 x1).bind fun v0=>
  some v0
theorem w52 {x0 : List UInt8} {x1 : Int} {r : Int} (h : Zo0 x0 x1 = some r) : Z0e Tryz.prog 52 [.str x0,d8 x1] (R52 r):=
  cs Tryz.f52 <| bd h fun v0 e0 h=>go [] [rg 1 [(2,k (w73 e0))]] <| rt h
def R45 (y0 : Int) : D:= .int .i64 y0
def Zj6 (x0 : List UInt8) : Option (Int):=
  (Zo0 x0 47).bind fun v0=>
  some v0
theorem w45 {x0 : List UInt8} {r : Int} (h : Zj6 x0 = some r) : Z0e Tryz.prog 45 [.str x0] (R45 r):=
  cs Tryz.f45 <| bd h fun v0 e0 h=>go [] [rg 1 [(1,k (w52 e0))]] <| rt h
def R41 (y0 : (List UInt8)) : D:= .str y0
def Zbe (x0 : List UInt8) : Option ((List UInt8)):=
  (Zj6 x0).bind fun v0=>
  (some (if v0 > (0 : Int) then v0 else 0)).bind fun v1=>
  (sub x0 0 v1).bind fun v2=>
  some v2
theorem w41 {x0 : List UInt8} {r : (List UInt8)} (h : Zbe x0 = some r) : Z0e Tryz.prog 41 [.str x0] (R41 r):=
  cs Tryz.f41 <| bd h fun v0 e0 h=>bd h fun v1 e1 h=>bd h fun v2 e2 h=>go [] [rg 1 [(2,k (w45 e0)),(3,n e1),(4,ss e2)]] <| rt h
def R26 (y0 : Bool) : D:= .bool y0
def Zfx (x0 : Z0c) (x1 x2 : Int) : Option (Bool):=
  (Z0g x0.Z1i x1).bind fun v2=>
  (Z0g x0.Z1i x2).bind fun v3=>
  if (v2.Z0u == v3.Z0u) = true then ((Zbe v2.Z0s.Z02).bind fun v4=>
  (Zbe v3.Z0s.Z02).bind fun v5=>
  some (v4 == v5)) else
  (some false)
def Z6f (x0 : Z0c) (x1 x2 : Int) : Option (Bool):=
  (Zb6 x0 x1).bind fun v0=>
  if (!v0) = true then (some false) else
  ((Zb6 x0 x2).bind fun v1=>
  if (!v1) = true then
    (some false) else
  ((Zfx x0 x1 x2)))
theorem wj26x1 {x0 : Z0c} {x1 x2 : Int} {r : Bool} {Γ : Ctx} (h : (Zfx x0 x1 x2) = some r) : Jn Tryz.prog Tryz.f26 Γ (Den.Ends Tryz.prog Tryz.f26 (R26 r)) 11 ⟨45,[(1,dI x1),(2,dI x2),(3,.ptr (Z1x x0))],[]⟩:=
  so <| bd h fun v2 e2 h=>bd h fun v3 e3 h=>sp h (fun h2 h=>bd h fun v4 e4 h=>bd h fun v5 e5 h=>go [] [rgo 3 [(3,ix e2),(8,ix e3)] [0,1,2,3,4,5,6,7,8,9,10,11,12,13] [12,13,1005,1006,1007,1008,1009] [(1,[0]),(3,[0,1,2]),(4,[0,1,2,3]),(6,[5]),(8,[5,6,7]),(9,[5,6,7,8]),(12,[0,1,2,3,4,10,11]),(13,[0,1,2,3,4,5,6,7,8,9,10,11,12])],rgo 4 [(4,kb h2),(9,k (w41 e4)),(13,k (w41 e5))] [0,1,2,3,4,5,6,7,8,9,10,11,12,13,14,15,16] [] [(1,[0]),(3,[2]),(4,[0,1,2,3]),(5,[0,1,2,3,4]),(6,[0,1,2,3,4,5]),(7,[0,1,2,3,4,5,6]),(8,[0,1,2,3,4,5,6,7]),(9,[0,1,2,3,4,5,6,7,8]),(10,[0,1,2,3,4,5]),(11,[0,1,2,3,4,5,10]),(12,[0,1,2,3,4,5,10,11]),(13,[0,1,2,3,4,5,6,7,8,9,10,11,12]),(14,[0,1,2,3,4,5,6,7,8,9,10,11,12,13]),(15,[0,1,2,3,4,5,6,7,8,9,10,11,12,13,14]),(16,[0,1,2,3,4,5,6,7,8,9,10,11,12,13,14,15])]] <| rt h) fun h2 h=>
  go [] [rgo 3 [(3,ix e2),(8,ix e3)] [0,1,2,3,4,5,6,7,8,9,10,11,12,13] [12,13,1005,1006,1007,1008,1009] [(1,[0]),(3,[0,1,2]),(4,[0,1,2,3]),(6,[5]),(8,[5,6,7]),(9,[5,6,7,8]),(12,[0,1,2,3,4,10,11]),(13,[0,1,2,3,4,5,6,7,8,9,10,11,12])],rgo 4 [(4,kb h2)] [0,1,2,3,4,5,6,7,8,9,10,11,12,13,14,15,16] [] [(1,[0]),(3,[2]),(4,[0,1,2,3]),(5,[0,1,2,3,4]),(6,[0,1,2,3,4,5]),(7,[0,1,2,3,4,5,6]),(8,[0,1,2,3,4,5,6,7]),(9,[0,1,2,3,4,5,6,7,8]),(10,[0,1,2,3,4,5]),(11,[0,1,2,3,4,5,10]),(12,[0,1,2,3,4,5,10,11]),(13,[0,1,2,3,4,5,6,7,8,9,10,11,12]),(14,[0,1,2,3,4,5,6,7,8,9,10,11,12,13]),(15,[0,1,2,3,4,5,6,7,8,9,10,11,12,13,14]),(16,[0,1,2,3,4,5,6,7,8,9,10,11,12,13,14,15])]] <| rt h
theorem w26 {x0 : Z0c} {x1 x2 : Int} {r : Bool} (h : Z6f x0 x1 x2 = some r) : Z0e Tryz.prog 26 [.agg (Z1x x0),dI x1,dI x2] (R26 r):=
  cs Tryz.f26 <| bd h fun v0 e0 h=>sp h (fun h0 h=>go [] [rg 0 [(0,bo)],rg 1 [(2,k (w40 e0)),(5,gs0 h0),(6,gs0 h0),(7,gs0 h0),(8,gs0 h0),(9,py h0)]] <| bT rfl <| go [] [] <| rt h) fun h0 h=>
  bd h fun v1 e1 h=>go [] [rg 0 [(0,bo)],rg 1 [(2,k (w40 e0)),(5,gw h0 g0),(6,gw h0 g0),(7,gw h0 (k (w40 e1))),(8,gw h0 g0),(9,pn h0)]] <| br h (fun h1 h=>go [] [] <| rt h) fun h1 h=>
  go [3] [] <| jn (wj26x1 h)
def R28 (y0 : Bool) : D:= .bool y0
def j28x3 (t0 : (List Int) × (List Bool)) (v22 : Int) (v24 : List Int) (x0 : Z0c) : Option (Ctl ((List Int) × (List Bool)) (Unit ⊕ Bool)):=
  (Z2r v22 t0.2.length).bind fun v27=>
  (t0.2[v27]?).bind fun v28=>
  (Z0g x0.Z1i v22).bind fun v29=>
  if (decide (v29.Z07 ≥ 0)) = true then
    ((Z24 8 (v24 ++ [v29.Z07]).length).bind fun v30=>
    (Z0g x0.Z1i v22).bind fun v31=>
    (Z24 8 ((v24 ++ [v29.Z07]) ++ v31.Z06).length).bind fun v32=>
    some (.next (((v24 ++ [v29.Z07]) ++ v31.Z06),(t0.2.set v27 true)))) else
  ((Z0g x0.Z1i v22).bind fun v33=>
    (Z24 8 (v24 ++ v33.Z06).length).bind fun v34=>
    some (.next ((v24 ++ v33.Z06),(t0.2.set v27 true))))
def Zg4 (x0 : Z0c) (x2 : Int) (t0 : (List Int) × (List Bool)) : Option (Ctl ((List Int) × (List Bool)) (Unit ⊕ Bool)):=
  if (decide ((t0.1.length : Int) > 0)) = true then
    ((some (IntKind.wrap .i64 ((t0.1.length : Int) - (1 : Int)))).bind fun v20=>
    (Z2r v20 t0.1.length).bind fun v21=>
    (t0.1[v21]?).bind fun v22=>
    (some (IntKind.wrap .i64 ((t0.1.length : Int) - (1 : Int)))).bind fun v23=>
    (Z9f t0.1 v23).bind fun v24=>
    if (v22 == x2) = true then
      (some (.done (.inr true))) else
    (if (decide (v22 < x2)) = true then (some (.next (v24,t0.2))) else
      ((Z2r v22 t0.2.length).bind fun v25=>
      (t0.2[v25]?).bind fun v26=>
      if v26 = true then
        (some (.next (v24,t0.2))) else
      ((j28x3 t0 v22 v24 x0))))) else
  (some (.done (.inl (()))))
def Zfz (x0 : Z0c) (x1 x2 : Int) : Option (Bool):=
  (some (IntKind.wrap .i64 (x1 + (1 : Int)))).bind fun v3=>
  (Z6n 1 v3 v3).bind fun v4=>
  (Z0d (Zg4 x0 x2) Z0i ([x1],(List.replicate v3.toNat false))).bind fun q1=>
  match q1 with
  | .inl q0=>(some false)
  | .inr y0=>(some y0)
def j28x1 (x0 : Z0c) (x1 x2 : Int) : Option (Bool):=
  if (x1 == x2) = true then (some true) else
  ((Z0g x0.Z1i x2).bind fun v2=>
  if (v2.Z0s.Z02 == ([108,97,110,103,47,79,98,106,101,99,116] : List UInt8)) = true then
    (some true) else
  ((Zfz x0 x1 x2)))
def Zch (x0 : Z0c) (x1 x2 : Int) : Option (Bool):=
  (Zb6 x0 x1).bind fun v0=>
  if (!v0) = true then (some false) else
  ((Zb6 x0 x2).bind fun v1=>
  if (!v1) = true then
    (some false) else
  ((j28x1 x0 x1 x2)))
def Zmm (x0 : Z0c) (x2 : Int) : ((List Int) × (List Bool)) → SL:=
  fun t0=>⟨88,[(2,dI x2),(3,.ptr (Z1x x0)),(7,.lsl 7 0 ((t0.1.map Z03).length)),(8,.lsl 8 0 ((t0.2.map Z2u).length))],[(7,{ sz:=1,rows:=(t0.1.map Z03),frz:=0,pure:=true }),(8,{ sz:=1,rows:=(t0.2.map Z2u),frz:=0,pure:=true })]⟩
def J28x1 : JT (Unit ⊕ Bool):=
  ju (je 0 fun q0 : Unit=>⟨88,[],[]⟩) (jr Tryz.prog Tryz.f28 R28)
theorem wj28x3 (x2 : Int) {t0 : (List Int) × (List Bool)} {v22 : Int} {v24 : List Int} {x0 : Z0c} {r : Ctl ((List Int) × (List Bool)) (Unit ⊕ Bool)} {Γ : Ctx} (h : (j28x3 t0 v22 v24 x0) = some r) : Jn Tryz.prog Tryz.f28 Γ (Rd (Zmm x0 x2) J28x1 r) 48415 ⟨88,[(2,dI x2),(3,.ptr (Z1x x0)),(7,.lsl 7 0 ((v24.map Z03).length)),(8,.lsl 8 0 ((t0.2.map Z2u).length)),(9,dI v22)],[(7,{ sz:=1,rows:=(v24.map Z03),frz:=0,pure:=true }),(8,{ sz:=1,rows:=(t0.2.map Z2u),frz:=0,pure:=true })]⟩:=
  so <| bd h fun v27 e27 h=>bd h fun v28 e28 h=>go [14] [rg 13 [(2,ia 8 e27),(3,st e28 0 [.bool true] true)]] <| nm (congrArg (fun nn : Nat=>(⟨88,[(2,dI x2),(3,.ptr (Z1x x0)),(7,.lsl 7 0 ((v24.map Z03).length)),(8,.lsl 8 0 nn),(9,dI v22)],[(7,{ sz:=1,rows:=(v24.map Z03),frz:=0,pure:=true }),(8,{ sz:=1,rows:=((t0.2.set v27 true).map Z2u),frz:=0,pure:=true })]⟩ : SL)) (by simp only [List.length_map,List.length_set] : (t0.2.map Z2u).length = ((t0.2.set v27 true).map Z2u).length)) <| so <| bd h fun v29 e29 h=>go [] [rg 14 [(3,ix e29)]] <| br h (fun h13 h=>bd h fun v30 e30 h=>bd h fun v31 e31 h=>bd h fun v32 e32 h=>go [] [rg 16 [(2,br0 1 0),(3,ap e30)],rg 17 [(4,ix e31),(7,ap e32)]] <| nx h) fun h13 h=>
  bd h fun v33 e33 h=>bd h fun v34 e34 h=>go [] [rg 17 [(4,ix e33),(7,ap e34)]] <| nx h
theorem wl28x1 {x0 : Z0c} {x2 : Int} {t0 : (List Int) × (List Bool)} {r : Ctl ((List Int) × (List Bool)) (Unit ⊕ Bool)} {Γ : Ctx} (h : (Zg4 x0 x2) t0 = some r) : A Tryz.prog Γ (lpC Tryz.f28 159) [] (Rd (Zmm x0 x2) J28x1 r) ((Zmm x0 x2) t0).s:=
  go [] [rg 7 [(1,ln t0.1)]] <| br h (fun h9 h=>bd h fun v20 e20 h=>bd h fun v21 e21 h=>bd h fun v22 e22 h=>bd h fun v23 e23 h=>bd h fun v24 e24 h=>go [10] [rg 8 [(2,ln t0.1),(3,n e20),(4,ia 7 e21),(5,lb e22)],rg 9 [(2,ln t0.1),(3,n e23),(4,ck e24)]] <| ctE 7 7 e24 <| so <| go [] [] <| br h (fun h10 h=>go [] [] <| dn h (i2 iR)) fun h10 h=>
    sp h (fun h11 h=>go [] [rg 12 [(2,kb h11)]] <| bT rfl <| go [] [] <| nx h) fun h11 h=>
      bd h fun v25 e25 h=>bd h fun v26 e26 h=>go [] [rg 12 [(2,kb h11),(6,ia 8 e25),(7,lb e26)]] <| br h (fun h12 h=>go [] [] <| nx h) fun h12 h=>
      go [13] [] <| jn ((wj28x3 x2) h)) fun h9 h=>
  go [] [] <| dn h (i1 iE)
theorem wj28x2 {x0 : Z0c} {x1 x2 : Int} {r : Bool} {Γ : Ctx} (h : (Zfz x0 x1 x2) = some r) : Jn Tryz.prog Tryz.f28 Γ (Den.Ends Tryz.prog Tryz.f28 (R28 r)) 23 ⟨88,[(1,dI x1),(2,dI x2),(3,.ptr (Z1x x0))],[]⟩:=
  so <| bd h fun v3 e3 h=>bd h fun v4 e4 h=>go [] [rg 5 [(1,bl 1 0)],rg 6 [(1,n e3),(2,mk false e4)]] <| bd h fun q1 e35 h=>lp (ps:=[(35,7),(38,8)]) e35 wl28x1 <| match q1,h with
  | .inl q0,h=>j1 <| (qe <| goN [] [] <| rt h)
  | .inr y0,h=>j2 <| (qr h)
theorem wj28x1 {x0 : Z0c} {x1 x2 : Int} {r : Bool} {Γ : Ctx} (h : (j28x1 x0 x1 x2) = some r) : Jn Tryz.prog Tryz.f28 Γ (Den.Ends Tryz.prog Tryz.f28 (R28 r)) 19 ⟨88,[(1,dI x1),(2,dI x2),(3,.ptr (Z1x x0))],[]⟩:=
  so <| sp h (fun h2 h=>go [] [rg 3 [(2,kb h2)]] <| bT rfl <| go [] [] <| rt h) fun h2 h=>
  bd h fun v2 e2 h=>go [] [rg 3 [(2,kb h2),(7,ix e2)]] <| br h (fun h3 h=>go [] [] <| rt h) fun h3 h=>
  go [5] [] <| jn (wj28x2 h)
theorem w28 {x0 : Z0c} {x1 x2 : Int} {r : Bool} (h : Zch x0 x1 x2 = some r) : Z0e Tryz.prog 28 [.agg (Z1x x0),dI x1,dI x2] (R28 r):=
  cs Tryz.f28 <| bd h fun v0 e0 h=>sp h (fun h0 h=>go [] [rg 0 [(0,bo)],rg 1 [(2,k (w40 e0)),(5,gs0 h0),(6,gs0 h0),(7,gs0 h0),(8,gs0 h0),(9,py h0)]] <| bT rfl <| go [] [] <| rt h) fun h0 h=>
  bd h fun v1 e1 h=>go [] [rg 0 [(0,bo)],rg 1 [(2,k (w40 e0)),(5,gw h0 g0),(6,gw h0 g0),(7,gw h0 (k (w40 e1))),(8,gw h0 g0),(9,pn h0)]] <| br h (fun h1 h=>go [] [] <| rt h) fun h1 h=>
  go [3] [] <| jn (wj28x1 h)
def R13 (y0 : Bool) : D:= .bool y0
def j13x1 (x0 : Z0c) (x1 x2 x3 : Int) : Option (Bool):=
  (some (Z1r .i64 x3 (1 : Int))).bind fun v2=>
  if (v2 != 0) = true then
    (some true) else
  ((some (Z1r .i64 x3 (2 : Int))).bind fun v3=>
    if (v3 != 0) = true then
      (some (x1 == x2)) else
    ((Z6f x0 x1 x2).bind fun v4=>
      if v4 = true then
        (some true) else
      ((some (Z1r .i64 x3 (4 : Int))).bind fun v5=>
        if (v5 != 0) = true then ((Zch x0 x1 x2).bind fun v6=>
        some v6) else
        (some false))))
def Z7k (x0 : Z0c) (x1 x2 x3 : Int) : Option (Bool):=
  (Z6m x0 x1).bind fun v0=>
  if (!v0) = true then (some false) else
  ((Z6m x0 x2).bind fun v1=>
  if (!v1) = true then
    (some false) else
  ((j13x1 x0 x1 x2 x3)))
theorem wj13x1 {x0 : Z0c} {x1 x2 x3 : Int} {r : Bool} {Γ : Ctx} (h : (j13x1 x0 x1 x2 x3) = some r) : Jn Tryz.prog Tryz.f13 Γ (Den.Ends Tryz.prog Tryz.f13 (R13 r)) 35 ⟨44,[(1,dI x1),(2,dI x2),(3,dI x3),(4,.ptr (Z1x x0))],[]⟩:=
  so <| bd h fun v2 e2 h=>go [] [rg 3 [(1,n e2)]] <| br h (fun h2 h=>go [] [] <| rt h) fun h2 h=>
  bd h fun v3 e3 h=>go [] [rg 5 [(1,n e3)]] <| br h (fun h3 h=>go [] [] <| rt h) fun h3 h=>
    bd h fun v4 e4 h=>go [] [rg 7 [(3,k (w26 e4))]] <| br h (fun h4 h=>go [] [] <| rt h) fun h4 h=>
      bd h fun v5 e5 h=>sp h (fun h5 h=>bd h fun v6 e6 h=>go [] [rg 9 [(1,n e5),(2,kb h5),(7,k (w28 e6))]] <| rt h) fun h5 h=>
        go [] [rg 9 [(1,n e5),(2,kb h5)]] <| rt h
theorem w13 {x0 : Z0c} {x1 x2 x3 : Int} {r : Bool} (h : Z7k x0 x1 x2 x3 = some r) : Z0e Tryz.prog 13 [.agg (Z1x x0),dI x1,dI x2,dI x3] (R13 r):=
  cs Tryz.f13 <| bd h fun v0 e0 h=>sp h (fun h0 h=>go [] [rg 0 [(0,bo)],rg 1 [(2,k (w25 e0)),(5,gs0 h0),(6,gs0 h0),(7,gs0 h0),(8,gs0 h0),(9,py h0)]] <| bT rfl <| go [] [] <| rt h) fun h0 h=>
  bd h fun v1 e1 h=>go [] [rg 0 [(0,bo)],rg 1 [(2,k (w25 e0)),(5,gw h0 g0),(6,gw h0 g0),(7,gw h0 (k (w25 e1))),(8,gw h0 g0),(9,pn h0)]] <| br h (fun h1 h=>go [] [] <| rt h) fun h1 h=>
  go [3] [] <| jn (wj13x1 h)
def R11 (y0 : Bool) : D:= .bool y0
def j11x1 (x0 : Z0c) (x1 x2 : Int) : Option (Bool):=
  (Z0g x0.Z1i x2).bind fun v2=>
  (some (Z1r .i64 v2.Z0s.Z0h (1 : Int))).bind fun v3=>
  if (v3 != 0) = true then (some true) else
  ((Z6f x0 x1 x2).bind fun v4=>
  some v4)
def Z8h (x0 : Z0c) (x1 x2 : Int) : Option (Bool):=
  (Z6m x0 x1).bind fun v0=>
  if (!v0) = true then (some false) else
  ((Z6m x0 x2).bind fun v1=>
  if (!v1) = true then
    (some false) else
  ((j11x1 x0 x1 x2)))
theorem wj11x1 {x0 : Z0c} {x1 x2 : Int} {r : Bool} {Γ : Ctx} (h : (j11x1 x0 x1 x2) = some r) : Jn Tryz.prog Tryz.f11 Γ (Den.Ends Tryz.prog Tryz.f11 (R11 r)) 11 ⟨32,[(1,dI x1),(2,dI x2),(3,.ptr (Z1x x0))],[]⟩:=
  so <| bd h fun v2 e2 h=>bd h fun v3 e3 h=>sp h (fun h2 h=>go [] [rg 3 [(3,ix e2),(7,n e3),(8,kb h2)]] <| rt h) fun h2 h=>
  bd h fun v4 e4 h=>go [] [rg 3 [(3,ix e2),(7,n e3),(8,kb h2),(13,k (w26 e4))]] <| rt h
theorem w11 {x0 : Z0c} {x1 x2 : Int} {r : Bool} (h : Z8h x0 x1 x2 = some r) : Z0e Tryz.prog 11 [.agg (Z1x x0),dI x1,dI x2] (R11 r):=
  cs Tryz.f11 <| bd h fun v0 e0 h=>sp h (fun h0 h=>go [] [rg 0 [(0,bo)],rg 1 [(2,k (w25 e0)),(5,gs0 h0),(6,gs0 h0),(7,gs0 h0),(8,gs0 h0),(9,py h0)]] <| bT rfl <| go [] [] <| rt h) fun h0 h=>
  bd h fun v1 e1 h=>go [] [rg 0 [(0,bo)],rg 1 [(2,k (w25 e0)),(5,gw h0 g0),(6,gw h0 g0),(7,gw h0 (k (w25 e1))),(8,gw h0 g0),(9,pn h0)]] <| br h (fun h1 h=>go [] [] <| rt h) fun h1 h=>
  go [3] [] <| jn (wj11x1 h)
def R15 (y0 : Bool) : D:= .bool y0
def j15x1 (x0 : Z0c) (x1 x2 x3 : Int) : Option (Bool):=
  (some (Z1r .i64 x3 (5 : Int))).bind fun v3=>
  if (v3 != 0) = true then (some true) else
  ((Z6f x0 x1 x2).bind fun v4=>
  some v4)
def Z9n (x0 : Z0c) (x1 x2 x3 : Int) : Option (Bool):=
  (Z6m x0 x1).bind fun v0=>
  if (!v0) = true then (some false) else
  ((Z6m x0 x2).bind fun v1=>
    if (!v1) = true then (some false) else
    ((some (Z1r .i64 x3 (10 : Int))).bind fun v2=>
      if (v2 != 0) = true then
        (some false) else
      ((j15x1 x0 x1 x2 x3))))
theorem wj15x1 {x0 : Z0c} {x1 x2 x3 : Int} {r : Bool} {Γ : Ctx} (h : (j15x1 x0 x1 x2 x3) = some r) : Jn Tryz.prog Tryz.f15 Γ (Den.Ends Tryz.prog Tryz.f15 (R15 r)) 11 ⟨33,[(1,dI x1),(2,dI x2),(3,dI x3),(4,.ptr (Z1x x0))],[]⟩:=
  so <| bd h fun v3 e3 h=>sp h (fun h3 h=>go [] [rg 3 [(1,n e3),(2,kb h3)]] <| rt h) fun h3 h=>
  bd h fun v4 e4 h=>go [] [rg 3 [(1,n e3),(2,kb h3),(7,k (w26 e4))]] <| rt h
theorem w15 {x0 : Z0c} {x1 x2 x3 : Int} {r : Bool} (h : Z9n x0 x1 x2 x3 = some r) : Z0e Tryz.prog 15 [.agg (Z1x x0),dI x1,dI x2,dI x3] (R15 r):=
  cs Tryz.f15 <| go [1] [rg 0 [(0,bo)]] <| po <| bd h fun v0 e0 h=>pr 5 [(2,k (w25 e0))] <| sp h (fun h0 h=>pr 10 [(5,gs0 h0),(6,gs0 h0),(7,gs0 h0),(8,gs0 h0),(9,py h0)] <| pe <| goN [] [] <| bT rfl <| go [] [] <| rt h) fun h0 h=>
  bd h fun v1 e1 h=>pr 6 [(5,gw h0 g0),(6,gw h0 g0),(7,gw h0 (k (w25 e1))),(8,gw h0 g0),(9,pn h0)] <| sp h (fun h1 h=>pr 4 [(11,gs0 h1),(12,gs0 h1),(13,gs0 h1),(14,py h1)] <| pe <| goN [] [] <| bT rfl <| go [] [] <| rt h) fun h1 h=>
    bd h fun v2 e2 h=>pr 4 [(11,gw h1 g0),(12,gw h1 (n e2)),(13,gw h1 g0),(14,pn h1)] <| pe <| goN [] [] <| br h (fun h2 h=>go [] [] <| rt h) fun h2 h=>
      go [3] [] <| jn (wj15x1 h)
def R10 (y0 : Bool) : D:= .bool y0
def Ze9  : Option (Bool):=
  (Zpe).bind fun v0=>
  (Z7k v0 2 1 0).bind fun v1=>
  if v1 = true then ((Z7k v0 4 1 0).bind fun v2=>
    if (!v2) = true then ((Z7k v0 3 1 4).bind fun v3=>
      if v3 = true then ((Z7k v0 4 1 4).bind fun v4=>
        if (!v4) = true then ((Z8h v0 3 1).bind fun v5=>
          if (!v5) = true then ((Z8h v0 3 0).bind fun v6=>
            if v6 = true then ((Z9n v0 3 1 4).bind fun v7=>
              if v7 = true then ((Z9n v0 3 1 0).bind fun v8=>
                if (!v8) = true then ((Z9n v0 3 1 9).bind fun v9=>
                  if (!v9) = true then ((Z8h v0 5 0).bind fun v10=>
                    some (!v10)) else
                  (some false)) else
                (some false)) else
              (some false)) else
            (some false)) else
          (some false)) else
        (some false)) else
      (some false)) else
    (some false)) else
  (some false)
theorem w10  {r : Bool} (h : Ze9 = some r) : Z0e Tryz.prog 10 [] (R10 r):=
  cs Tryz.f10 <| bd h fun v0 e0 h=>go [2] [rg 1 [(0,k (w24 e0))]] <| po <| bd h fun v1 e1 h=>pr 3 [(1,k (w13 e1))] <| sp h (fun h0 h=>bd h fun v2 e2 h=>pr 5 [(3,gw h0 g0),(4,gw h0 (k (w13 e2))),(5,gw h0 g0),(6,py h0)] <| sp h (fun h1 h=>bd h fun v3 e3 h=>pr 4 [(8,gw h1 g0),(9,gw h1 (k (w13 e3))),(10,py h1)] <| sp h (fun h2 h=>bd h fun v4 e4 h=>pr 5 [(12,gw h2 g0),(13,gw h2 (k (w13 e4))),(14,gw h2 g0),(15,py h2)] <| sp h (fun h3 h=>bd h fun v5 e5 h=>pr 5 [(17,gw h3 g0),(18,gw h3 (k (w11 e5))),(19,gw h3 g0),(20,py h3)] <| sp h (fun h4 h=>bd h fun v6 e6 h=>pr 4 [(22,gw h4 g0),(23,gw h4 (k (w11 e6))),(24,py h4)] <| sp h (fun h5 h=>bd h fun v7 e7 h=>pr 4 [(26,gw h5 g0),(27,gw h5 (k (w15 e7))),(28,py h5)] <| sp h (fun h6 h=>bd h fun v8 e8 h=>pr 5 [(30,gw h6 g0),(31,gw h6 (k (w15 e8))),(32,gw h6 g0),(33,py h6)] <| sp h (fun h7 h=>bd h fun v9 e9 h=>pr 5 [(35,gw h7 g0),(36,gw h7 (k (w15 e9))),(37,gw h7 g0),(38,py h7)] <| sp h (fun h8 h=>bd h fun v10 e10 h=>pr 5 [(40,gw h8 g0),(41,gw h8 (k (w11 e10))),(42,gw h8 g0),(43,py h8)] <| pe <| goN [] [] <| rt h) fun h8 h=>
                  pr 5 [(40,gs1 h8),(41,gs1 h8),(42,gs1 h8),(43,pn h8)] <| pe <| goN [] [] <| rt h) fun h7 h=>
                pr 10 [(35,gs1 h7),(36,gs1 h7),(37,gs1 h7),(38,pn h7)] <| pe <| goN [] [] <| rt h) fun h6 h=>
              pr 15 [(30,gs1 h6),(31,gs1 h6),(32,gs1 h6),(33,pn h6)] <| pe <| goN [] [] <| rt h) fun h5 h=>
            pr 19 [(26,gs1 h5),(27,gs1 h5),(28,pn h5)] <| pe <| goN [] [] <| rt h) fun h4 h=>
          pr 23 [(22,gs1 h4),(23,gs1 h4),(24,pn h4)] <| pe <| goN [] [] <| rt h) fun h3 h=>
        pr 28 [(17,gs1 h3),(18,gs1 h3),(19,gs1 h3),(20,pn h3)] <| pe <| goN [] [] <| rt h) fun h2 h=>
      pr 33 [(12,gs1 h2),(13,gs1 h2),(14,gs1 h2),(15,pn h2)] <| pe <| goN [] [] <| rt h) fun h1 h=>
    pr 37 [(8,gs1 h1),(9,gs1 h1),(10,pn h1)] <| pe <| goN [] [] <| rt h) fun h0 h=>
  pr 42 [(3,gs1 h0),(4,gs1 h0),(5,gs1 h0),(6,pn h0)] <| pe <| goN [] [] <| rt h
def Z8x (x0 : Z0c) (x1 : Int) : Option (Bool):=
  if (decide (x1 ≥ 0)) = true then (some (decide (x1 < (x0.Z1i.length : Int)))) else
  (some false)
def R29 (y0 : Bool) : D:= .bool y0
def Zeb (x0 : Z0c) (x1 x2 : Int) : Option (Bool):=
  if (decide (x1 ≥ 0)) = true then (if (decide (x1 < (x0.Z1i.length : Int))) = true then (if (decide (x2 ≥ 0)) = true then (some (decide (x2 < (x0.Z1i.length : Int)))) else
      (some false)) else
    (some false)) else
  (some false)
theorem w29 {x0 : Z0c} {x1 x2 : Int} {r : Bool} (h : Zeb x0 x1 x2 = some r) : Z0e Tryz.prog 29 [.agg (Z1x x0),dI x1,dI x2] (R29 r):=
  cs Tryz.f29 <| go [1] [rg 0 [(0,bo)]] <| po <| pr 3 [] <| sp h (fun h0 h=>pr 7 [(3,gw h0 g0),(4,gw h0 g0),(5,gw h0 g0),(6,gw h0 (ln x0.Z1i)),(7,gw h0 g0),(8,py h0)] <| sp h (fun h1 h=>pr 4 [(10,gw h1 g0),(11,gw h1 g0),(12,py h1)] <| sp h (fun h2 h=>pr 7 [(14,gw h2 g0),(15,gw h2 g0),(16,gw h2 g0),(17,gw h2 (ln x0.Z1i)),(18,gw h2 g0),(19,py h2)] <| pe <| goN [] [] <| rt h) fun h2 h=>
      pr 7 [(14,gs1 h2),(15,gs1 h2),(16,gs1 h2),(17,gs1 h2),(18,gs1 h2),(19,pn h2)] <| pe <| goN [] [] <| rt h) fun h1 h=>
    pr 11 [(10,gs1 h1),(11,gs1 h1),(12,pn h1)] <| pe <| goN [] [] <| rt h) fun h0 h=>
  pr 18 [(3,gs1 h0),(4,gs1 h0),(5,gs1 h0),(6,gs1 h0),(7,gs1 h0),(8,pn h0)] <| pe <| goN [] [] <| rt h
def R46 (y0 : Int) : D:= .int .i64 y0
def l46x1 (x0 : List UInt8) (t0 : Int) : Option (Ctl (Int) (Unit ⊕ Int)):=
  if (decide (t0 ≥ 0)) = true then
    ((Z30 x0 t0).bind fun v3=>
    if (v3 == 47) = true then
      (some (.done (.inr t0))) else
    ((some (IntKind.wrap .i64 (t0 - (1 : Int)))).bind fun v4=>
      some (.next v4))) else
  (some (.done (.inl (()))))
def Zci (x0 : List UInt8) : Option (Int):=
  (some (IntKind.wrap .i64 ((x0.length : Int) - (1 : Int)))).bind fun v0=>
  (Z0d (l46x1 x0) Z0i v0).bind fun q1=>
  match q1 with
  | .inl q0=>(some (-1))
  | .inr y0=>(some y0)
def Zt2 (x0 : List UInt8) : Int → SL:=
  fun t0=>⟨16,[(0,.str x0),(3,dI t0)],[]⟩
def J46x1 : JT (Unit ⊕ Int):=
  ju (je 0 fun q0 : Unit=>⟨16,[],[]⟩) (jr Tryz.prog Tryz.f46 R46)
theorem wl46x1 {x0 : List UInt8} {t0 : Int} {r : Ctl (Int) (Unit ⊕ Int)} {Γ : Ctx} (h : (l46x1 x0) t0 = some r) : A Tryz.prog Γ (lpC Tryz.f46 21) [] (Rd (Zt2 x0) J46x1 r) ((Zt2 x0) t0).s:=
  go [] [] <| br h (fun h2 h=>bd h fun v3 e3 h=>go [] [rg 4 [(2,ib e3)]] <| br h (fun h3 h=>go [] [] <| dn h (i2 iR)) fun h3 h=>
    bd h fun v4 e4 h=>go [] [rg 3 [(1,n e4)]] <| nx h) fun h2 h=>
  go [] [] <| dn h (i1 iE)
theorem w46 {x0 : List UInt8} {r : Int} (h : Zci x0 = some r) : Z0e Tryz.prog 46 [.str x0] (R46 r):=
  cs Tryz.f46 <| bd h fun v0 e0 h=>go [] [rg 1 [(2,n e0)]] <| bd h fun q1 e5 h=>lp e5 wl46x1 <| match q1,h with
  | .inl q0,h=>j1 <| (qe <| goN [] [] <| rt h)
  | .inr y0,h=>j2 <| (qr h)
def R42 (y0 : (List UInt8)) : D:= .str y0
def Zc3 (x0 : List UInt8) : Option ((List UInt8)):=
  (Zci x0).bind fun v0=>
  if (decide (v0 < 0)) = true then
    (some []) else
  ((sub x0 0 v0).bind fun v1=>
    some v1)
theorem w42 {x0 : List UInt8} {r : (List UInt8)} (h : Zc3 x0 = some r) : Z0e Tryz.prog 42 [.str x0] (R42 r):=
  cs Tryz.f42 <| bd h fun v0 e0 h=>go [] [rg 1 [(1,k (w46 e0))]] <| br h (fun h0 h=>go [] [] <| rt h) fun h0 h=>
  bd h fun v1 e1 h=>go [] [rg 4 [(2,ss e1)]] <| rt h
def R30 (y0 : Bool) : D:= .bool y0
def Znc (x0 : Z0c) (x1 x2 : Int) : Option (Bool):=
  (Z0g x0.Z1i x1).bind fun v0=>
  (Z0g x0.Z1i x2).bind fun v1=>
  if (v0.Z0u == v1.Z0u) = true then ((Zc3 v0.Z0s.Z02).bind fun v2=>
  (Zc3 v1.Z0s.Z02).bind fun v3=>
  some (v2 == v3)) else
  (some false)
theorem w30 {x0 : Z0c} {x1 x2 : Int} {r : Bool} (h : Znc x0 x1 x2 = some r) : Z0e Tryz.prog 30 [.agg (Z1x x0),dI x1,dI x2] (R30 r):=
  cs Tryz.f30 <| bd h fun v0 e0 h=>bd h fun v1 e1 h=>sp h (fun h0 h=>bd h fun v2 e2 h=>bd h fun v3 e3 h=>go [] [rg 0 [(0,bo)],rgo 1 [(3,ix e0),(8,ix e1)] [0,1,2,3,4,5,6,7,8,9,10,11,12,13] [12,13,1005,1006,1007,1008,1009] [(1,[0]),(3,[0,1,2]),(4,[0,1,2,3]),(6,[5]),(8,[5,6,7]),(9,[5,6,7,8]),(12,[0,1,2,3,4,10,11]),(13,[0,1,2,3,4,5,6,7,8,9,10,11,12])],rgo 2 [(4,kb h0),(9,k (w42 e2)),(13,k (w42 e3))] [0,1,2,3,4,5,6,7,8,9,10,11,12,13,14,15,16] [] [(1,[0]),(3,[2]),(4,[0,1,2,3]),(5,[0,1,2,3,4]),(6,[0,1,2,3,4,5]),(7,[0,1,2,3,4,5,6]),(8,[0,1,2,3,4,5,6,7]),(9,[0,1,2,3,4,5,6,7,8]),(10,[0,1,2,3,4,5]),(11,[0,1,2,3,4,5,10]),(12,[0,1,2,3,4,5,10,11]),(13,[0,1,2,3,4,5,6,7,8,9,10,11,12]),(14,[0,1,2,3,4,5,6,7,8,9,10,11,12,13]),(15,[0,1,2,3,4,5,6,7,8,9,10,11,12,13,14]),(16,[0,1,2,3,4,5,6,7,8,9,10,11,12,13,14,15])]] <| rt h) fun h0 h=>
  go [] [rg 0 [(0,bo)],rgo 1 [(3,ix e0),(8,ix e1)] [0,1,2,3,4,5,6,7,8,9,10,11,12,13] [12,13,1005,1006,1007,1008,1009] [(1,[0]),(3,[0,1,2]),(4,[0,1,2,3]),(6,[5]),(8,[5,6,7]),(9,[5,6,7,8]),(12,[0,1,2,3,4,10,11]),(13,[0,1,2,3,4,5,6,7,8,9,10,11,12])],rgo 2 [(4,kb h0)] [0,1,2,3,4,5,6,7,8,9,10,11,12,13,14,15,16] [] [(1,[0]),(3,[2]),(4,[0,1,2,3]),(5,[0,1,2,3,4]),(6,[0,1,2,3,4,5]),(7,[0,1,2,3,4,5,6]),(8,[0,1,2,3,4,5,6,7]),(9,[0,1,2,3,4,5,6,7,8]),(10,[0,1,2,3,4,5]),(11,[0,1,2,3,4,5,10]),(12,[0,1,2,3,4,5,10,11]),(13,[0,1,2,3,4,5,6,7,8,9,10,11,12]),(14,[0,1,2,3,4,5,6,7,8,9,10,11,12,13]),(15,[0,1,2,3,4,5,6,7,8,9,10,11,12,13,14]),(16,[0,1,2,3,4,5,6,7,8,9,10,11,12,13,14,15])]] <| rt h
def R17 (y0 : Bool) : D:= .bool y0
def Z7z (x0 : Z0c) (x1 x2 : Int) : Option (Bool):=
  (Zeb x0 x1 x2).bind fun v0=>
  if v0 = true then ((Znc x0 x1 x2).bind fun v1=>
  some v1) else
  (some false)
theorem w17 {x0 : Z0c} {x1 x2 : Int} {r : Bool} (h : Z7z x0 x1 x2 = some r) : Z0e Tryz.prog 17 [.agg (Z1x x0),dI x1,dI x2] (R17 r):=
  cs Tryz.f17 <| bd h fun v0 e0 h=>sp h (fun h0 h=>bd h fun v1 e1 h=>go [] [rg 0 [(0,bo)],rg 1 [(3,k (w29 e0)),(5,gw h0 g0),(6,gw h0 g0),(7,gw h0 g0),(8,gw h0 (k (w30 e1))),(9,py h0)]] <| rt h) fun h0 h=>
  go [] [rg 0 [(0,bo)],rg 1 [(3,k (w29 e0)),(5,gs1 h0),(6,gs1 h0),(7,gs1 h0),(8,gs1 h0),(9,pn h0)]] <| rt h
def Zr0 (x0 : Z0c) (x1 x2 : Int) : Option (Bool):=
  (Z8x x0 x1).bind fun v0=>
  if v0 = true then ((Z8x x0 x2).bind fun v1=>
    if v1 = true then ((Z0g x0.Z1i x2).bind fun v2=>
      (some (Z1r .i64 v2.Z0s.Z0h (1 : Int))).bind fun v3=>
      if (v3 != 0) = true then (some true) else
      ((Z7z x0 x1 x2).bind fun v4=>
        some v4)) else
    (some false)) else
  (some false)
def l31x2 (v22 : Z0z) (t2 : Int × (List Bool)) : Option (Ctl (Int × (List Bool)) (((List Bool)))):=
  if (decide (t2.1 < (v22.Z06.length : Int))) = true then
    ((Z0g v22.Z06 t2.1).bind fun v28=>
    (Z2r v28 t2.2.length).bind fun v29=>
    (t2.2[v29]?).bind fun v30=>
    (some (IntKind.wrap .i64 (t2.1 + (1 : Int)))).bind fun v31=>
    some (.next (v31,(t2.2.set v29 true)))) else
  (some (.done (t2.2)))
def Zes (t0 : Int × (List Bool)) (v22 : Z0z) (p1 : List Bool) : Option (Ctl (Int × (List Bool)) (((List Bool)))):=
  (Z0d (l31x2 v22) Z0i (0,p1)).bind fun q2=>
  (some (IntKind.wrap .i64 (t0.1 - (1 : Int)))).bind fun v32=>
  some (.next (v32,q2))
def l31x1 (x0 : Z0c) (t0 : Int × (List Bool)) : Option (Ctl (Int × (List Bool)) (((List Bool)))):=
  if (decide (t0.1 ≥ 0)) = true then
    ((Z2r t0.1 t0.2.length).bind fun v19=>
    (t0.2[v19]?).bind fun v20=>
    if (!v20) = true then
      ((some (IntKind.wrap .i64 (t0.1 - (1 : Int)))).bind fun v21=>
      some (.next (v21,t0.2))) else
    ((Z0g x0.Z1i t0.1).bind fun v22=>
      if (decide (v22.Z07 ≥ 0)) = true then
        ((Z2r v22.Z07 t0.2.length).bind fun v23=>
        (t0.2[v23]?).bind fun v24=>
        (Zes t0 v22) (t0.2.set v23 true)) else
      ((Zes t0 v22) t0.2))) else
  (some (.done (t0.2)))
def Zh7 (x0 : Z0c) (x1 x2 : Int) : Option (Bool):=
  (Z6n 1 (x0.Z1i.length : Int) (x0.Z1i.length : Int)).bind fun v2=>
  (Z2r x1 (List.replicate (x0.Z1i.length : Int).toNat false).length).bind fun v3=>
  ((List.replicate (x0.Z1i.length : Int).toNat false)[v3]?).bind fun v4=>
  (Z0d (l31x1 x0) Z0i (x1,((List.replicate (x0.Z1i.length : Int).toNat false).set v3 true))).bind fun q4=>
  (Z2r x2 q4.length).bind fun v33=>
  (q4[v33]?).bind fun v34=>
  some v34
def Zt0 (x0 : Z0c) (x1 x2 : Int) : Option (Bool):=
  if (x1 == x2) = true then (some true) else
  ((Z0g x0.Z1i x2).bind fun v0=>
    if (v0.Z0s.Z02 == ([108,97,110,103,47,79,98,106,101,99,116] : List UInt8)) = true then ((Z0g x0.Z1i x2).bind fun v1=>
      if (v1.Z0u == 0) = true then
        (some true) else
      ((Zh7 x0 x1 x2))) else
    ((Zh7 x0 x1 x2)))
def Zen (x0 : Z0c) (x1 x2 : Int) : Option (Bool):=
  (Zeb x0 x1 x2).bind fun v0=>
  if v0 = true then ((Zt0 x0 x1 x2).bind fun v1=>
  some v1) else
  (some false)
def j14x2 (x0 : Z0c) (x1 x2 : Int) : Option (Bool):=
  (Z7z x0 x1 x2).bind fun v6=>
  some v6
def j14x1 (x0 : Z0c) (x1 x2 x3 : Int) : Option (Bool):=
  (some (Z1r .i64 x3 (1 : Int))).bind fun v2=>
  if (v2 != 0) = true then
    (some true) else
  ((some (Z1r .i64 x3 (2 : Int))).bind fun v3=>
    if (v3 != 0) = true then
      (some (x1 == x2)) else
    ((some (Z1r .i64 x3 (4 : Int))).bind fun v4=>
      if (v4 != 0) = true then ((Zen x0 x1 x2).bind fun v5=>
      if v5 = true then
        (some true) else
      ((j14x2 x0 x1 x2))) else
      ((j14x2 x0 x1 x2))))
def Zu8 (x0 : Z0c) (x1 x2 x3 : Int) : Option (Bool):=
  (Z8x x0 x1).bind fun v0=>
  if (!v0) = true then (some false) else
  ((Z8x x0 x2).bind fun v1=>
  if (!v1) = true then
    (some false) else
  ((j14x1 x0 x1 x2 x3)))
def j16x1 (x0 : Z0c) (x1 x2 x3 : Int) : Option (Bool):=
  (some (Z1r .i64 x3 (5 : Int))).bind fun v3=>
  if (v3 != 0) = true then (some true) else
  ((Z7z x0 x1 x2).bind fun v4=>
  some v4)
def Zq4 (x0 : Z0c) (x1 x2 x3 : Int) : Option (Bool):=
  (Z8x x0 x1).bind fun v0=>
  if (!v0) = true then (some false) else
  ((Z8x x0 x2).bind fun v1=>
    if (!v1) = true then (some false) else
    ((some (Z1r .i64 x3 (10 : Int))).bind fun v2=>
      if (v2 != 0) = true then
        (some false) else
      ((j16x1 x0 x1 x2 x3))))
end Go.Proofs
