/-
  The law CallstackReplaceTop holds for every input: the function returns true, and Z75 argument reads behind the call as it read before. No condition.
-/
import Derived.Test.YtiogflechpgdiaaGreatCalLA
import Derived.WalkKit
import Derived.ProofKit
import Derived.OpenShut
import Derived.ChangeMaps5
namespace Go.Proofs.YtiogflechpgdiaaGreat.callstackReplaceTop
open Go.ChangeShapes Go.WideShapes Go.ChangeAt Go.RowKit Go.ChangeMaps Go.Den
set_option linter.unusedVariables false
theorem own:ownKnob Tryz.prog.godebug=none:=by kernel_rfl
theorem laid:laidOutB Tryz.prog=true:=by kernel_rfl
def wf_156 (y:Z8r):Prop:=(fun s:List UInt8=>s.length≤reachBytes) y.Zcc∧((fun n:Int=>IntKind.min .i64≤n∧n≤IntKind.max .i64) y.f_To∧(True))
theorem rd_156:Z29 Tryz.prog 156 Zgc wf_156:=
 (Z3i (tot:=2) Tryz.underlying156 (by kernel_rfl) (Z0m (n:=1) (Z4b (P:=Tryz.prog) Tryz.underlying9) (by kernel_rfl) (Z0m (n:=1) (Z22 (P:=Tryz.prog) Tryz.underlying3) (by kernel_rfl) Z3h rfl) rfl)).map (fun p:(List UInt8)×(Int×Unit)=>({ Zcc:=p.1,f_To:=p.2.1 }:Z8r)) (fun _=>rfl) (fun _ h=>h)
def wf_151 (ys:List Z8r):Prop:=(∀ y∈ys,wf_156 y)∧ys.length*Tryz.prog.bytesOf 156≤reachBytes
theorem rd_151:Z29 Tryz.prog 151 (fun ys:List Z8r=>[D.sl false (ys.map Zgc)]) wf_151:=Z4c Tryz.underlying151 (row:=Zgc) rd_156 (Nat.lt_of_lt_of_le (by decide:0<1) (Nat.le_of_ble_eq_true (by kernel_rfl)))
def wf_178 (y:Z99):Prop:=(fun s:List UInt8=>s.length≤reachBytes) y.Z0f∧((fun s:List UInt8=>s.length≤reachBytes) y.Z2y∧(True))
theorem rd_178:Z29 Tryz.prog 178 Zgr wf_178:=
 (Z3i (tot:=2) Tryz.underlying178 (by kernel_rfl) (Z0m (n:=1) (Z4b (P:=Tryz.prog) Tryz.underlying9) (by kernel_rfl) (Z0m (n:=1) (Z4b (P:=Tryz.prog) Tryz.underlying9) (by kernel_rfl) Z3h rfl) rfl)).map (fun p:(List UInt8)×(List UInt8)×Unit=>({ Z0f:=p.1,Z2y:=p.2.1 }:Z99)) (fun _=>rfl) (fun _ h=>h)
def wf_152 (ys:List Z99):Prop:=(∀ y∈ys,wf_178 y)∧ys.length*Tryz.prog.bytesOf 178≤reachBytes
theorem rd_152:Z29 Tryz.prog 152 (fun ys:List Z99=>[D.sl false (ys.map Zgr)]) wf_152:=Z4c Tryz.underlying152 (row:=Zgr) rd_178 (Nat.lt_of_lt_of_le (by decide:0<1) (Nat.le_of_ble_eq_true (by kernel_rfl)))
def wf_154 (y:Z18):Prop:=wf_151 y.Z3y∧(wf_152 y.Z3d∧(True))
theorem rd_154:Z29 Tryz.prog 154 Z1z wf_154:=
 (Z3i (tot:=2) Tryz.underlying154 (by kernel_rfl) (Z0m (n:=1) rd_151 (by kernel_rfl) (Z0m (n:=1) rd_152 (by kernel_rfl) Z3h rfl) rfl)).map (fun p:(List Z8r)×(List Z99)×Unit=>({ Z3y:=p.1,Z3d:=p.2.1 }:Z18)) (fun _=>rfl) (fun _ h=>h)
def wf_22 (ys:List Z18):Prop:=(∀ y∈ys,wf_154 y)∧ys.length*Tryz.prog.bytesOf 154≤reachBytes
theorem rd_22:Z29 Tryz.prog 22 (fun ys:List Z18=>[D.sl false (ys.map Z1z)]) wf_22:=Z4c Tryz.underlying22 (row:=Z1z) rd_154 (Nat.lt_of_lt_of_le (by decide:0<1) (Nat.le_of_ble_eq_true (by kernel_rfl)))
def wf_32 (ys:List (List UInt8)):Prop:=(∀ y∈ys,(fun s:List UInt8=>s.length≤reachBytes) y)∧ys.length*Tryz.prog.bytesOf 9≤reachBytes
theorem rd_32:Z29 Tryz.prog 32 (fun ys:List (List UInt8)=>[D.sl false (ys.map Z2s)]) wf_32:=Z4c Tryz.underlying32 (row:=Z2s) (Z4b (P:=Tryz.prog) Tryz.underlying9) (Nat.lt_of_lt_of_le (by decide:0<1) (Nat.le_of_ble_eq_true (by kernel_rfl)))
def wf_173 (y:Z5s):Prop:=(fun n:Int=>IntKind.min .i64≤n∧n≤IntKind.max .i64) y.Z14∧((fun s:List UInt8=>s.length≤reachBytes) y.Z0f∧((fun s:List UInt8=>s.length≤reachBytes) y.Z2i∧((fun n:Int=>IntKind.min .i64≤n∧n≤IntKind.max .i64) y.Z5h∧((fun n:Int=>IntKind.min .i64≤n∧n≤IntKind.max .i64) y.f_N∧((fun s:List UInt8=>s.length≤reachBytes) y.f_S∧(True))))))
theorem rd_173:Z29 Tryz.prog 173 Z8c wf_173:=
 (Z3i (tot:=6) Tryz.underlying173 (by kernel_rfl) (Z0m (n:=1) (Z22 (P:=Tryz.prog) Tryz.underlying3) (by kernel_rfl) (Z0m (n:=1) (Z4b (P:=Tryz.prog) Tryz.underlying9) (by kernel_rfl) (Z0m (n:=1) (Z4b (P:=Tryz.prog) Tryz.underlying9) (by kernel_rfl) (Z0m (n:=1) (Z22 (P:=Tryz.prog) Tryz.underlying3) (by kernel_rfl) (Z0m (n:=1) (Z22 (P:=Tryz.prog) Tryz.underlying3) (by kernel_rfl) (Z0m (n:=1) (Z4b (P:=Tryz.prog) Tryz.underlying9) (by kernel_rfl) Z3h rfl) rfl) rfl) rfl) rfl) rfl)).map (fun p:Int×(List UInt8)×(List UInt8)×(Int×(Int×(List UInt8)×Unit))=>({ Z14:=p.1,Z0f:=p.2.1,Z2i:=p.2.2.1,Z5h:=p.2.2.2.1,f_N:=p.2.2.2.2.1,f_S:=p.2.2.2.2.2.1 }:Z5s)) (fun _=>rfl) (fun _ h=>h)
def wf_100 (ys:List Z5s):Prop:=(∀ y∈ys,wf_173 y)∧ys.length*Tryz.prog.bytesOf 173≤reachBytes
theorem rd_100:Z29 Tryz.prog 100 (fun ys:List Z5s=>[D.sl false (ys.map Z8c)]) wf_100:=Z4c Tryz.underlying100 (row:=Z8c) rd_173 (Nat.lt_of_lt_of_le (by decide:0<1) (Nat.le_of_ble_eq_true (by kernel_rfl)))
def wf_59 (ys:List Int):Prop:=(∀ y∈ys,(fun n:Int=>IntKind.min .i64≤n∧n≤IntKind.max .i64) y)∧ys.length*Tryz.prog.bytesOf 3≤reachBytes
theorem rd_59:Z29 Tryz.prog 59 (fun ys:List Int=>[D.sl false (ys.map Z03)]) wf_59:=Z4c Tryz.underlying59 (row:=Z03) (Z22 (P:=Tryz.prog) Tryz.underlying3) (Nat.lt_of_lt_of_le (by decide:0<1) (Nat.le_of_ble_eq_true (by kernel_rfl)))
def wf_61 (y:Z1w):Prop:=(fun s:List UInt8=>s.length≤reachBytes) y.Z0s∧((fun s:List UInt8=>s.length≤reachBytes) y.Z0f∧((fun s:List UInt8=>s.length≤reachBytes) y.Z2i∧(True)))
theorem rd_61:Z29 Tryz.prog 61 Zj8 wf_61:=
 (Z3i (tot:=3) Tryz.underlying61 (by kernel_rfl) (Z0m (n:=1) (Z4b (P:=Tryz.prog) Tryz.underlying9) (by kernel_rfl) (Z0m (n:=1) (Z4b (P:=Tryz.prog) Tryz.underlying9) (by kernel_rfl) (Z0m (n:=1) (Z4b (P:=Tryz.prog) Tryz.underlying9) (by kernel_rfl) Z3h rfl) rfl) rfl)).map (fun p:(List UInt8)×(List UInt8)×(List UInt8)×Unit=>({ Z0s:=p.1,Z0f:=p.2.1,Z2i:=p.2.2.1 }:Z1w)) (fun _=>rfl) (fun _ h=>h)
def wf_63 (y:Z02):Prop:=(fun n:Int=>IntKind.min .i64≤n∧n≤IntKind.max .i64) y.f_Op∧((fun n:Int=>IntKind.min .i64≤n∧n≤IntKind.max .i64) y.f_A∧((fun n:Int=>IntKind.min .i64≤n∧n≤IntKind.max .i64) y.f_B∧((fun n:Int=>IntKind.min .i64≤n∧n≤IntKind.max .i64) y.f_To∧(wf_59 y.Z0z∧(wf_59 y.Z0c∧(wf_61 y.Z1f∧((fun s:List UInt8=>s.length≤reachBytes) y.f_S∧(True))))))))
theorem rd_63:Z29 Tryz.prog 63 Z0e wf_63:=
 (Z3i (tot:=10) Tryz.underlying63 (by kernel_rfl) (Z0m (n:=1) (Z22 (P:=Tryz.prog) Tryz.underlying3) (by kernel_rfl) (Z0m (n:=1) (Z22 (P:=Tryz.prog) Tryz.underlying3) (by kernel_rfl) (Z0m (n:=1) (Z22 (P:=Tryz.prog) Tryz.underlying3) (by kernel_rfl) (Z0m (n:=1) (Z22 (P:=Tryz.prog) Tryz.underlying3) (by kernel_rfl) (Z0m (n:=1) rd_59 (by kernel_rfl) (Z0m (n:=1) rd_59 (by kernel_rfl) (Z0m (n:=3) rd_61 (by kernel_rfl) (Z0m (n:=1) (Z4b (P:=Tryz.prog) Tryz.underlying9) (by kernel_rfl) Z3h rfl) rfl) rfl) rfl) rfl) rfl) rfl) rfl)).map (fun p:Int×(Int×(Int×(Int×(List Int)×(List Int)×(Z1w×(List UInt8)×Unit))))=>({ f_Op:=p.1,f_A:=p.2.1,f_B:=p.2.2.1,f_To:=p.2.2.2.1,Z0z:=p.2.2.2.2.1,Z0c:=p.2.2.2.2.2.1,Z1f:=p.2.2.2.2.2.2.1,f_S:=p.2.2.2.2.2.2.2.1 }:Z02)) (fun _=>rfl) (fun _ h=>h)
def wf_68 (ys:List Z02):Prop:=(∀ y∈ys,wf_63 y)∧ys.length*Tryz.prog.bytesOf 63≤reachBytes
theorem rd_68:Z29 Tryz.prog 68 (fun ys:List Z02=>[D.sl false (ys.map Z0e)]) wf_68:=Z4c Tryz.underlying68 (row:=Z0e) rd_63 (Nat.lt_of_lt_of_le (by decide:0<1) (Nat.le_of_ble_eq_true (by kernel_rfl)))
def wf_111 (y:Z0o):Prop:=(fun n:Int=>IntKind.min .i64≤n∧n≤IntKind.max .i64) y.Z6a∧((fun n:Int=>IntKind.min .i64≤n∧n≤IntKind.max .i64) y.f_To∧((fun n:Int=>IntKind.min .i64≤n∧n≤IntKind.max .i64) y.Z6e∧((fun n:Int=>IntKind.min .i64≤n∧n≤IntKind.max .i64) y.Z0s∧((fun s:List UInt8=>s.length≤reachBytes) y.Z12∧(True)))))
theorem rd_111:Z29 Tryz.prog 111 Z10 wf_111:=
 (Z3i (tot:=5) Tryz.underlying111 (by kernel_rfl) (Z0m (n:=1) (Z22 (P:=Tryz.prog) Tryz.underlying3) (by kernel_rfl) (Z0m (n:=1) (Z22 (P:=Tryz.prog) Tryz.underlying3) (by kernel_rfl) (Z0m (n:=1) (Z22 (P:=Tryz.prog) Tryz.underlying3) (by kernel_rfl) (Z0m (n:=1) (Z22 (P:=Tryz.prog) Tryz.underlying3) (by kernel_rfl) (Z0m (n:=1) (Z4b (P:=Tryz.prog) Tryz.underlying9) (by kernel_rfl) Z3h rfl) rfl) rfl) rfl) rfl)).map (fun p:Int×(Int×(Int×(Int×(List UInt8)×Unit)))=>({ Z6a:=p.1,f_To:=p.2.1,Z6e:=p.2.2.1,Z0s:=p.2.2.2.1,Z12:=p.2.2.2.2.1 }:Z0o)) (fun _=>rfl) (fun _ h=>h)
def wf_69 (ys:List Z0o):Prop:=(∀ y∈ys,wf_111 y)∧ys.length*Tryz.prog.bytesOf 111≤reachBytes
theorem rd_69:Z29 Tryz.prog 69 (fun ys:List Z0o=>[D.sl false (ys.map Z10)]) wf_69:=Z4c Tryz.underlying69 (row:=Z10) rd_111 (Nat.lt_of_lt_of_le (by decide:0<1) (Nat.le_of_ble_eq_true (by kernel_rfl)))
def wf_141 (y:Z0j):Prop:=(fun n:Int=>IntKind.min .i64≤n∧n≤IntKind.max .i64) y.Z2l∧((fun n:Int=>IntKind.min .u8≤n∧n≤IntKind.max .u8) y.Z1p∧((fun s:List UInt8=>s.length≤reachBytes) y.Z0f∧(True)))
theorem rd_141:Z29 Tryz.prog 141 Z1y wf_141:=
 (Z3i (tot:=3) Tryz.underlying141 (by kernel_rfl) (Z0m (n:=1) (Z22 (P:=Tryz.prog) Tryz.underlying3) (by kernel_rfl) (Z0m (n:=1) (Z22 (P:=Tryz.prog) Tryz.underlying5) (by kernel_rfl) (Z0m (n:=1) (Z4b (P:=Tryz.prog) Tryz.underlying9) (by kernel_rfl) Z3h rfl) rfl) rfl)).map (fun p:Int×(Int×(List UInt8)×Unit)=>({ Z2l:=p.1,Z1p:=p.2.1,Z0f:=p.2.2.1 }:Z0j)) (fun _=>rfl) (fun _ h=>h)
def wf_150 (y:Z0k):Prop:=(fun n:Int=>IntKind.min .i64≤n∧n≤IntKind.max .i64) y.Z1d∧((fun n:Int=>IntKind.min .i64≤n∧n≤IntKind.max .i64) y.Z3s∧(wf_141 y.Z12∧((fun n:Int=>IntKind.min .i64≤n∧n≤IntKind.max .i64) y.Z4h∧(True))))
theorem rd_150:Z29 Tryz.prog 150 Z1n wf_150:=
 (Z3i (tot:=6) Tryz.underlying150 (by kernel_rfl) (Z0m (n:=1) (Z22 (P:=Tryz.prog) Tryz.underlying3) (by kernel_rfl) (Z0m (n:=1) (Z22 (P:=Tryz.prog) Tryz.underlying3) (by kernel_rfl) (Z0m (n:=3) rd_141 (by kernel_rfl) (Z0m (n:=1) (Z22 (P:=Tryz.prog) Tryz.underlying3) (by kernel_rfl) Z3h rfl) rfl) rfl) rfl)).map (fun p:Int×(Int×(Z0j×(Int×Unit)))=>({ Z1d:=p.1,Z3s:=p.2.1,Z12:=p.2.2.1,Z4h:=p.2.2.2.1 }:Z0k)) (fun _=>rfl) (fun _ h=>h)
def wf_112 (ys:List Z0k):Prop:=(∀ y∈ys,wf_150 y)∧ys.length*Tryz.prog.bytesOf 150≤reachBytes
theorem rd_112:Z29 Tryz.prog 112 (fun ys:List Z0k=>[D.sl false (ys.map Z1n)]) wf_112:=Z4c Tryz.underlying112 (row:=Z1n) rd_150 (Nat.lt_of_lt_of_le (by decide:0<1) (Nat.le_of_ble_eq_true (by kernel_rfl)))
def wf_114 (y:Z5t):Prop:=wf_112 y.Z0d∧(wf_112 y.Z0i∧((fun _:Bool=>True) y.Z6r∧(True)))
theorem rd_114:Z29 Tryz.prog 114 Zo8 wf_114:=
 (Z3i (tot:=3) Tryz.underlying114 (by kernel_rfl) (Z0m (n:=1) rd_112 (by kernel_rfl) (Z0m (n:=1) rd_112 (by kernel_rfl) (Z0m (n:=1) (Zin (P:=Tryz.prog) Tryz.underlying4) (by kernel_rfl) Z3h rfl) rfl) rfl)).map (fun p:(List Z0k)×(List Z0k)×(Bool×Unit)=>({ Z0d:=p.1,Z0i:=p.2.1,Z6r:=p.2.2.1 }:Z5t)) (fun _=>rfl) (fun _ h=>h)
def wf_116 (y:Z0p):Prop:=(fun n:Int=>IntKind.min .i64≤n∧n≤IntKind.max .i64) y.Z2o∧(wf_114 y.Z1o∧(True))
theorem rd_116:Z29 Tryz.prog 116 Z11 wf_116:=
 (Z3i (tot:=4) Tryz.underlying116 (by kernel_rfl) (Z0m (n:=1) (Z22 (P:=Tryz.prog) Tryz.underlying3) (by kernel_rfl) (Z0m (n:=3) rd_114 (by kernel_rfl) Z3h rfl) rfl)).map (fun p:Int×(Z5t×Unit)=>({ Z2o:=p.1,Z1o:=p.2.1 }:Z0p)) (fun _=>rfl) (fun _ h=>h)
def wf_70 (ys:List Z0p):Prop:=(∀ y∈ys,wf_116 y)∧ys.length*Tryz.prog.bytesOf 116≤reachBytes
theorem rd_70:Z29 Tryz.prog 70 (fun ys:List Z0p=>[D.sl false (ys.map Z11)]) wf_70:=Z4c Tryz.underlying70 (row:=Z11) rd_116 (Nat.lt_of_lt_of_le (by decide:0<1) (Nat.le_of_ble_eq_true (by kernel_rfl)))
def wf_119 (y:Z17):Prop:=(fun n:Int=>IntKind.min .i64≤n∧n≤IntKind.max .i64) y.Z2o∧((fun n:Int=>IntKind.min .i64≤n∧n≤IntKind.max .i64) y.Z74∧(True))
theorem rd_119:Z29 Tryz.prog 119 Z1h wf_119:=
 (Z3i (tot:=2) Tryz.underlying119 (by kernel_rfl) (Z0m (n:=1) (Z22 (P:=Tryz.prog) Tryz.underlying3) (by kernel_rfl) (Z0m (n:=1) (Z22 (P:=Tryz.prog) Tryz.underlying3) (by kernel_rfl) Z3h rfl) rfl)).map (fun p:Int×(Int×Unit)=>({ Z2o:=p.1,Z74:=p.2.1 }:Z17)) (fun _=>rfl) (fun _ h=>h)
def wf_71 (ys:List Z17):Prop:=(∀ y∈ys,wf_119 y)∧ys.length*Tryz.prog.bytesOf 119≤reachBytes
theorem rd_71:Z29 Tryz.prog 71 (fun ys:List Z17=>[D.sl false (ys.map Z1h)]) wf_71:=Z4c Tryz.underlying71 (row:=Z1h) rd_119 (Nat.lt_of_lt_of_le (by decide:0<1) (Nat.le_of_ble_eq_true (by kernel_rfl)))
def wf_73 (y:Z0b):Prop:=(fun n:Int=>IntKind.min .i64≤n∧n≤IntKind.max .i64) y.Z0i∧((fun n:Int=>IntKind.min .i64≤n∧n≤IntKind.max .i64) y.Z0d∧(wf_68 y.Z0l∧(wf_69 y.Z20∧(wf_70 y.Z1q∧(wf_71 y.Z1r∧(True))))))
theorem rd_73:Z29 Tryz.prog 73 Z0t wf_73:=
 (Z3i (tot:=6) Tryz.underlying73 (by kernel_rfl) (Z0m (n:=1) (Z22 (P:=Tryz.prog) Tryz.underlying3) (by kernel_rfl) (Z0m (n:=1) (Z22 (P:=Tryz.prog) Tryz.underlying3) (by kernel_rfl) (Z0m (n:=1) rd_68 (by kernel_rfl) (Z0m (n:=1) rd_69 (by kernel_rfl) (Z0m (n:=1) rd_70 (by kernel_rfl) (Z0m (n:=1) rd_71 (by kernel_rfl) Z3h rfl) rfl) rfl) rfl) rfl) rfl)).map (fun p:Int×(Int×(List Z02)×(List Z0o)×(List Z0p)×(List Z17)×Unit)=>({ Z0i:=p.1,Z0d:=p.2.1,Z0l:=p.2.2.1,Z20:=p.2.2.2.1,Z1q:=p.2.2.2.2.1,Z1r:=p.2.2.2.2.2.1 }:Z0b)) (fun _=>rfl) (fun _ h=>h)
def wf_90 (y:Z2d):Prop:=(fun n:Int=>IntKind.min .i64≤n∧n≤IntKind.max .i64) y.Z14∧((fun s:List UInt8=>s.length≤reachBytes) y.Z0f∧((fun s:List UInt8=>s.length≤reachBytes) y.Z2i∧((fun _:Bool=>True) y.Z6k∧(wf_73 y.Z1v∧(wf_32 y.Z67∧(True))))))
theorem rd_90:Z29 Tryz.prog 90 Z55 wf_90:=
 (Z3i (tot:=11) Tryz.underlying90 (by kernel_rfl) (Z0m (n:=1) (Z22 (P:=Tryz.prog) Tryz.underlying3) (by kernel_rfl) (Z0m (n:=1) (Z4b (P:=Tryz.prog) Tryz.underlying9) (by kernel_rfl) (Z0m (n:=1) (Z4b (P:=Tryz.prog) Tryz.underlying9) (by kernel_rfl) (Z0m (n:=1) (Zin (P:=Tryz.prog) Tryz.underlying4) (by kernel_rfl) (Z0m (n:=6) rd_73 (by kernel_rfl) (Z0m (n:=1) rd_32 (by kernel_rfl) Z3h rfl) rfl) rfl) rfl) rfl) rfl)).map (fun p:Int×(List UInt8)×(List UInt8)×(Bool×(Z0b×(List (List UInt8))×Unit))=>({ Z14:=p.1,Z0f:=p.2.1,Z2i:=p.2.2.1,Z6k:=p.2.2.2.1,Z1v:=p.2.2.2.2.1,Z67:=p.2.2.2.2.2.1 }:Z2d)) (fun _=>rfl) (fun _ h=>h)
def wf_101 (ys:List Z2d):Prop:=(∀ y∈ys,wf_90 y)∧ys.length*Tryz.prog.bytesOf 90≤reachBytes
theorem rd_101:Z29 Tryz.prog 101 (fun ys:List Z2d=>[D.sl false (ys.map Z55)]) wf_101:=Z4c Tryz.underlying101 (row:=Z55) rd_90 (Nat.lt_of_lt_of_le (by decide:0<1) (Nat.le_of_ble_eq_true (by kernel_rfl)))
def wf_103 (y:Z0y):Prop:=(fun n:Int=>IntKind.min .i64≤n∧n≤IntKind.max .i64) y.Z14∧((fun s:List UInt8=>s.length≤reachBytes) y.Z0f∧((fun s:List UInt8=>s.length≤reachBytes) y.Z21∧(wf_32 y.Z16∧(wf_100 y.Z15∧(wf_101 y.Z13∧((fun s:List UInt8=>s.length≤reachBytes) y.Z89∧(True)))))))
theorem rd_103:Z29 Tryz.prog 103 Z2k wf_103:=
 (Z3i (tot:=7) Tryz.underlying103 (by kernel_rfl) (Z0m (n:=1) (Z22 (P:=Tryz.prog) Tryz.underlying3) (by kernel_rfl) (Z0m (n:=1) (Z4b (P:=Tryz.prog) Tryz.underlying9) (by kernel_rfl) (Z0m (n:=1) (Z4b (P:=Tryz.prog) Tryz.underlying9) (by kernel_rfl) (Z0m (n:=1) rd_32 (by kernel_rfl) (Z0m (n:=1) rd_100 (by kernel_rfl) (Z0m (n:=1) rd_101 (by kernel_rfl) (Z0m (n:=1) (Z4b (P:=Tryz.prog) Tryz.underlying9) (by kernel_rfl) Z3h rfl) rfl) rfl) rfl) rfl) rfl) rfl)).map (fun p:Int×(List UInt8)×(List UInt8)×(List (List UInt8))×(List Z5s)×(List Z2d)×(List UInt8)×Unit=>({ Z14:=p.1,Z0f:=p.2.1,Z21:=p.2.2.1,Z16:=p.2.2.2.1,Z15:=p.2.2.2.2.1,Z13:=p.2.2.2.2.2.1,Z89:=p.2.2.2.2.2.2.1 }:Z0y)) (fun _=>rfl) (fun _ h=>h)
def wf_105 (y:Z1s):Prop:=(fun n:Int=>IntKind.min .i64≤n∧n≤IntKind.max .i64) y.Z37∧(wf_103 y.Z25∧((fun n:Int=>IntKind.min .i64≤n∧n≤IntKind.max .i64) y.Z21∧(wf_59 y.Z16∧((fun n:Int=>IntKind.min .i64≤n∧n≤IntKind.max .i64) y.Za2∧((fun n:Int=>IntKind.min .i64≤n∧n≤IntKind.max .i64) y.Zdj∧(True))))))
theorem rd_105:Z29 Tryz.prog 105 Z2h wf_105:=
 (Z3i (tot:=12) Tryz.underlying105 (by kernel_rfl) (Z0m (n:=1) (Z22 (P:=Tryz.prog) Tryz.underlying3) (by kernel_rfl) (Z0m (n:=7) rd_103 (by kernel_rfl) (Z0m (n:=1) (Z22 (P:=Tryz.prog) Tryz.underlying3) (by kernel_rfl) (Z0m (n:=1) rd_59 (by kernel_rfl) (Z0m (n:=1) (Z22 (P:=Tryz.prog) Tryz.underlying3) (by kernel_rfl) (Z0m (n:=1) (Z22 (P:=Tryz.prog) Tryz.underlying40) (by kernel_rfl) Z3h rfl) rfl) rfl) rfl) rfl) rfl)).map (fun p:Int×(Z0y×(Int×(List Int)×(Int×(Int×Unit))))=>({ Z37:=p.1,Z25:=p.2.1,Z21:=p.2.2.1,Z16:=p.2.2.2.1,Za2:=p.2.2.2.2.1,Zdj:=p.2.2.2.2.2.1 }:Z1s)) (fun _=>rfl) (fun _ h=>h)
def wf_23 (ys:List Z1s):Prop:=(∀ y∈ys,wf_105 y)∧ys.length*Tryz.prog.bytesOf 105≤reachBytes
theorem rd_23:Z29 Tryz.prog 23 (fun ys:List Z1s=>[D.sl false (ys.map Z2h)]) wf_23:=Z4c Tryz.underlying23 (row:=Z2h) rd_105 (Nat.lt_of_lt_of_le (by decide:0<1) (Nat.le_of_ble_eq_true (by kernel_rfl)))
def wf_133 (y:Z2x):Prop:=(fun n:Int=>IntKind.min .i64≤n∧n≤IntKind.max .i64) y.Z37∧((fun s:List UInt8=>s.length≤reachBytes) y.Z0f∧((fun n:Int=>IntKind.min .i64≤n∧n≤IntKind.max .i64) y.Z0s∧(True)))
theorem rd_133:Z29 Tryz.prog 133 Z3k wf_133:=
 (Z3i (tot:=3) Tryz.underlying133 (by kernel_rfl) (Z0m (n:=1) (Z22 (P:=Tryz.prog) Tryz.underlying3) (by kernel_rfl) (Z0m (n:=1) (Z4b (P:=Tryz.prog) Tryz.underlying9) (by kernel_rfl) (Z0m (n:=1) (Z22 (P:=Tryz.prog) Tryz.underlying3) (by kernel_rfl) Z3h rfl) rfl) rfl)).map (fun p:Int×(List UInt8)×(Int×Unit)=>({ Z37:=p.1,Z0f:=p.2.1,Z0s:=p.2.2.1 }:Z2x)) (fun _=>rfl) (fun _ h=>h)
def wf_24 (ys:List Z2x):Prop:=(∀ y∈ys,wf_133 y)∧ys.length*Tryz.prog.bytesOf 133≤reachBytes
theorem rd_24:Z29 Tryz.prog 24 (fun ys:List Z2x=>[D.sl false (ys.map Z3k)]) wf_24:=Z4c Tryz.underlying24 (row:=Z3k) rd_133 (Nat.lt_of_lt_of_le (by decide:0<1) (Nat.le_of_ble_eq_true (by kernel_rfl)))
def wf_122 (y:Z45):Prop:=(fun s:List UInt8=>s.length≤reachBytes) y.Z0f∧((fun n:Int=>IntKind.min .i64≤n∧n≤IntKind.max .i64) y.f_A∧((fun n:Int=>IntKind.min .i64≤n∧n≤IntKind.max .i64) y.f_B∧(True)))
theorem rd_122:Z29 Tryz.prog 122 Z3q wf_122:=
 (Z3i (tot:=3) Tryz.underlying122 (by kernel_rfl) (Z0m (n:=1) (Z4b (P:=Tryz.prog) Tryz.underlying9) (by kernel_rfl) (Z0m (n:=1) (Z22 (P:=Tryz.prog) Tryz.underlying3) (by kernel_rfl) (Z0m (n:=1) (Z22 (P:=Tryz.prog) Tryz.underlying3) (by kernel_rfl) Z3h rfl) rfl) rfl)).map (fun p:(List UInt8)×(Int×(Int×Unit))=>({ Z0f:=p.1,f_A:=p.2.1,f_B:=p.2.2.1 }:Z45)) (fun _=>rfl) (fun _ h=>h)
def wf_25 (ys:List Z45):Prop:=(∀ y∈ys,wf_122 y)∧ys.length*Tryz.prog.bytesOf 122≤reachBytes
theorem rd_25:Z29 Tryz.prog 25 (fun ys:List Z45=>[D.sl false (ys.map Z3q)]) wf_25:=Z4c Tryz.underlying25 (row:=Z3q) rd_122 (Nat.lt_of_lt_of_le (by decide:0<1) (Nat.le_of_ble_eq_true (by kernel_rfl)))
def wf_27 (y:Z0v):Prop:=wf_22 y.Z24∧(wf_23 y.Z1a∧(wf_24 y.Z2e∧(wf_25 y.Z31∧(True))))
theorem rd_27:Z29 Tryz.prog 27 Z23 wf_27:=
 (Z3i (tot:=4) Tryz.underlying27 (by kernel_rfl) (Z0m (n:=1) rd_22 (by kernel_rfl) (Z0m (n:=1) rd_23 (by kernel_rfl) (Z0m (n:=1) rd_24 (by kernel_rfl) (Z0m (n:=1) rd_25 (by kernel_rfl) Z3h rfl) rfl) rfl) rfl)).map (fun p:(List Z18)×(List Z1s)×(List Z2x)×(List Z45)×Unit=>({ Z24:=p.1,Z1a:=p.2.1,Z2e:=p.2.2.1,Z31:=p.2.2.2.1 }:Z0v)) (fun _=>rfl) (fun _ h=>h)
def wf_79 (y:Z3f):Prop:=(fun n:Int=>IntKind.min .i64≤n∧n≤IntKind.max .i64) y.Z2l∧((fun n:Int=>IntKind.min .u8≤n∧n≤IntKind.max .u8) y.Z1p∧((fun n:Int=>IntKind.min .i64≤n∧n≤IntKind.max .i64) y.Z0s∧(True)))
theorem rd_79:Z29 Tryz.prog 79 Z7x wf_79:=
 (Z3i (tot:=3) Tryz.underlying79 (by kernel_rfl) (Z0m (n:=1) (Z22 (P:=Tryz.prog) Tryz.underlying3) (by kernel_rfl) (Z0m (n:=1) (Z22 (P:=Tryz.prog) Tryz.underlying5) (by kernel_rfl) (Z0m (n:=1) (Z22 (P:=Tryz.prog) Tryz.underlying3) (by kernel_rfl) Z3h rfl) rfl) rfl)).map (fun p:Int×(Int×(Int×Unit))=>({ Z2l:=p.1,Z1p:=p.2.1,Z0s:=p.2.2.1 }:Z3f)) (fun _=>rfl) (fun _ h=>h)
def wf_56 (y:Z0h):Prop:=(fun n:Int=>IntKind.min .i64≤n∧n≤IntKind.max .i64) y.Z1d∧((fun n:Int=>IntKind.min .i64≤n∧n≤IntKind.max .i64) y.f_N∧(True))
theorem rd_56:Z29 Tryz.prog 56 Z1m wf_56:=
 (Z3i (tot:=2) Tryz.underlying56 (by kernel_rfl) (Z0m (n:=1) (Z22 (P:=Tryz.prog) Tryz.underlying3) (by kernel_rfl) (Z0m (n:=1) (Z22 (P:=Tryz.prog) Tryz.underlying3) (by kernel_rfl) Z3h rfl) rfl)).map (fun p:Int×(Int×Unit)=>({ Z1d:=p.1,f_N:=p.2.1 }:Z0h)) (fun _=>rfl) (fun _ h=>h)
def wf_35 (ys:List Z0h):Prop:=(∀ y∈ys,wf_56 y)∧ys.length*Tryz.prog.bytesOf 56≤reachBytes
theorem rd_35:Z29 Tryz.prog 35 (fun ys:List Z0h=>[D.sl false (ys.map Z1m)]) wf_35:=Z4c Tryz.underlying35 (row:=Z1m) rd_56 (Nat.lt_of_lt_of_le (by decide:0<1) (Nat.le_of_ble_eq_true (by kernel_rfl)))
def wf_81 (y:Z2c):Prop:=(fun n:Int=>IntKind.min .i64≤n∧n≤IntKind.max .i64) y.Z1d∧(wf_79 y.Z12∧(wf_35 y.Z4s∧((fun s:List UInt8=>s.length≤reachBytes) y.Z3r∧((fun n:Int=>IntKind.min .i64≤n∧n≤IntKind.max .i64) y.Z7p∧((fun n:Int=>IntKind.min .i64≤n∧n≤IntKind.max .i64) y.Z3g∧(wf_59 y.Z57∧(True)))))))
theorem rd_81:Z29 Tryz.prog 81 Z32 wf_81:=
 (Z3i (tot:=9) Tryz.underlying81 (by kernel_rfl) (Z0m (n:=1) (Z22 (P:=Tryz.prog) Tryz.underlying3) (by kernel_rfl) (Z0m (n:=3) rd_79 (by kernel_rfl) (Z0m (n:=1) rd_35 (by kernel_rfl) (Z0m (n:=1) (Z4b (P:=Tryz.prog) Tryz.underlying9) (by kernel_rfl) (Z0m (n:=1) (Z22 (P:=Tryz.prog) Tryz.underlying3) (by kernel_rfl) (Z0m (n:=1) (Z22 (P:=Tryz.prog) Tryz.underlying3) (by kernel_rfl) (Z0m (n:=1) rd_59 (by kernel_rfl) Z3h rfl) rfl) rfl) rfl) rfl) rfl) rfl)).map (fun p:Int×(Z3f×(List Z0h)×(List UInt8)×(Int×(Int×(List Int)×Unit)))=>({ Z1d:=p.1,Z12:=p.2.1,Z4s:=p.2.2.1,Z3r:=p.2.2.2.1,Z7p:=p.2.2.2.2.1,Z3g:=p.2.2.2.2.2.1,Z57:=p.2.2.2.2.2.2.1 }:Z2c)) (fun _=>rfl) (fun _ h=>h)
def wf_28 (ys:List Z2c):Prop:=(∀ y∈ys,wf_81 y)∧ys.length*Tryz.prog.bytesOf 81≤reachBytes
theorem rd_28:Z29 Tryz.prog 28 (fun ys:List Z2c=>[D.sl false (ys.map Z32)]) wf_28:=Z4c Tryz.underlying28 (row:=Z32) rd_81 (Nat.lt_of_lt_of_le (by decide:0<1) (Nat.le_of_ble_eq_true (by kernel_rfl)))
def wf_129 (y:Z3j):Prop:=(fun n:Int=>IntKind.min .i64≤n∧n≤IntKind.max .i64) y.Z2n∧((fun n:Int=>IntKind.min .i64≤n∧n≤IntKind.max .i64) y.Z9r∧(wf_35 y.Z84∧(True)))
theorem rd_129:Z29 Tryz.prog 129 Z3a wf_129:=
 (Z3i (tot:=3) Tryz.underlying129 (by kernel_rfl) (Z0m (n:=1) (Z22 (P:=Tryz.prog) Tryz.underlying3) (by kernel_rfl) (Z0m (n:=1) (Z22 (P:=Tryz.prog) Tryz.underlying3) (by kernel_rfl) (Z0m (n:=1) rd_35 (by kernel_rfl) Z3h rfl) rfl) rfl)).map (fun p:Int×(Int×(List Z0h)×Unit)=>({ Z2n:=p.1,Z9r:=p.2.1,Z84:=p.2.2.1 }:Z3j)) (fun _=>rfl) (fun _ h=>h)
def wf_29 (ys:List Z3j):Prop:=(∀ y∈ys,wf_129 y)∧ys.length*Tryz.prog.bytesOf 129≤reachBytes
theorem rd_29:Z29 Tryz.prog 29 (fun ys:List Z3j=>[D.sl false (ys.map Z3a)]) wf_29:=Z4c Tryz.underlying29 (row:=Z3a) rd_129 (Nat.lt_of_lt_of_le (by decide:0<1) (Nat.le_of_ble_eq_true (by kernel_rfl)))
def wf_126 (y:Z4v):Prop:=(fun s:List UInt8=>s.length≤reachBytes) y.Z3r∧((fun n:Int=>IntKind.min .i64≤n∧n≤IntKind.max .i64) y.Z3o∧(True))
theorem rd_126:Z29 Tryz.prog 126 Z4n wf_126:=
 (Z3i (tot:=2) Tryz.underlying126 (by kernel_rfl) (Z0m (n:=1) (Z4b (P:=Tryz.prog) Tryz.underlying9) (by kernel_rfl) (Z0m (n:=1) (Z22 (P:=Tryz.prog) Tryz.underlying3) (by kernel_rfl) Z3h rfl) rfl)).map (fun p:(List UInt8)×(Int×Unit)=>({ Z3r:=p.1,Z3o:=p.2.1 }:Z4v)) (fun _=>rfl) (fun _ h=>h)
def wf_30 (ys:List Z4v):Prop:=(∀ y∈ys,wf_126 y)∧ys.length*Tryz.prog.bytesOf 126≤reachBytes
theorem rd_30:Z29 Tryz.prog 30 (fun ys:List Z4v=>[D.sl false (ys.map Z4n)]) wf_30:=Z4c Tryz.underlying30 (row:=Z4n) rd_126 (Nat.lt_of_lt_of_le (by decide:0<1) (Nat.le_of_ble_eq_true (by kernel_rfl)))
def wf_37 (y:Z0x):Prop:=(fun n:Int=>IntKind.min .i64≤n∧n≤IntKind.max .i64) y.Z0s∧((fun n:Int=>IntKind.min .i64≤n∧n≤IntKind.max .i64) y.Z4a∧((fun n:Int=>IntKind.min .i64≤n∧n≤IntKind.max .i64) y.f_PC∧(wf_35 y.Z0d∧(wf_35 y.Z0i∧((fun n:Int=>IntKind.min .i64≤n∧n≤IntKind.max .i64) y.Z64∧((fun _:Bool=>True) y.Z6j∧((fun _:Bool=>True) y.Z93∧(True))))))))
theorem rd_37:Z29 Tryz.prog 37 Z2g wf_37:=
 (Z3i (tot:=8) Tryz.underlying37 (by kernel_rfl) (Z0m (n:=1) (Z22 (P:=Tryz.prog) Tryz.underlying3) (by kernel_rfl) (Z0m (n:=1) (Z22 (P:=Tryz.prog) Tryz.underlying3) (by kernel_rfl) (Z0m (n:=1) (Z22 (P:=Tryz.prog) Tryz.underlying3) (by kernel_rfl) (Z0m (n:=1) rd_35 (by kernel_rfl) (Z0m (n:=1) rd_35 (by kernel_rfl) (Z0m (n:=1) (Z22 (P:=Tryz.prog) Tryz.underlying3) (by kernel_rfl) (Z0m (n:=1) (Zin (P:=Tryz.prog) Tryz.underlying4) (by kernel_rfl) (Z0m (n:=1) (Zin (P:=Tryz.prog) Tryz.underlying4) (by kernel_rfl) Z3h rfl) rfl) rfl) rfl) rfl) rfl) rfl) rfl)).map (fun p:Int×(Int×(Int×(List Z0h)×(List Z0h)×(Int×(Bool×(Bool×Unit)))))=>({ Z0s:=p.1,Z4a:=p.2.1,f_PC:=p.2.2.1,Z0d:=p.2.2.2.1,Z0i:=p.2.2.2.2.1,Z64:=p.2.2.2.2.2.1,Z6j:=p.2.2.2.2.2.2.1,Z93:=p.2.2.2.2.2.2.2.1 }:Z0x)) (fun _=>rfl) (fun _ h=>h)
def wf_85 (ys:List Z0x):Prop:=(∀ y∈ys,wf_37 y)∧ys.length*Tryz.prog.bytesOf 37≤reachBytes
theorem rd_85:Z29 Tryz.prog 85 (fun ys:List Z0x=>[D.sl false (ys.map Z2g)]) wf_85:=Z4c Tryz.underlying85 (row:=Z2g) rd_37 (Nat.lt_of_lt_of_le (by decide:0<1) (Nat.le_of_ble_eq_true (by kernel_rfl)))
def wf_87 (y:Z1i):Prop:=(fun n:Int=>IntKind.min .i64≤n∧n≤IntKind.max .i64) y.Z2n∧((fun n:Int=>IntKind.min .i64≤n∧n≤IntKind.max .i64) y.Z4u∧((fun n:Int=>IntKind.min .i64≤n∧n≤IntKind.max .i64) y.Z3g∧(wf_85 y.Z0w∧((fun n:Int=>IntKind.min .i64≤n∧n≤IntKind.max .i64) y.Z3o∧((fun n:Int=>IntKind.min .i64≤n∧n≤IntKind.max .i64) y.Z5x∧(wf_56 y.Z3m∧(True)))))))
theorem rd_87:Z29 Tryz.prog 87 Z2m wf_87:=
 (Z3i (tot:=8) Tryz.underlying87 (by kernel_rfl) (Z0m (n:=1) (Z22 (P:=Tryz.prog) Tryz.underlying3) (by kernel_rfl) (Z0m (n:=1) (Z22 (P:=Tryz.prog) Tryz.underlying3) (by kernel_rfl) (Z0m (n:=1) (Z22 (P:=Tryz.prog) Tryz.underlying3) (by kernel_rfl) (Z0m (n:=1) rd_85 (by kernel_rfl) (Z0m (n:=1) (Z22 (P:=Tryz.prog) Tryz.underlying3) (by kernel_rfl) (Z0m (n:=1) (Z22 (P:=Tryz.prog) Tryz.underlying3) (by kernel_rfl) (Z0m (n:=2) rd_56 (by kernel_rfl) Z3h rfl) rfl) rfl) rfl) rfl) rfl) rfl)).map (fun p:Int×(Int×(Int×(List Z0x)×(Int×(Int×(Z0h×Unit)))))=>({ Z2n:=p.1,Z4u:=p.2.1,Z3g:=p.2.2.1,Z0w:=p.2.2.2.1,Z3o:=p.2.2.2.2.1,Z5x:=p.2.2.2.2.2.1,Z3m:=p.2.2.2.2.2.2.1 }:Z1i)) (fun _=>rfl) (fun _ h=>h)
def wf_31 (ys:List Z1i):Prop:=(∀ y∈ys,wf_87 y)∧ys.length*Tryz.prog.bytesOf 87≤reachBytes
theorem rd_31:Z29 Tryz.prog 31 (fun ys:List Z1i=>[D.sl false (ys.map Z2m)]) wf_31:=Z4c Tryz.underlying31 (row:=Z2m) rd_87 (Nat.lt_of_lt_of_le (by decide:0<1) (Nat.le_of_ble_eq_true (by kernel_rfl)))
def wf_34 (y:Z09):Prop:=wf_27 y.Z1l∧((fun n:Int=>IntKind.min .i64≤n∧n≤IntKind.max .i64) y.Z5a∧(wf_28 y.Z1j∧(wf_29 y.Z3n∧(wf_30 y.Z38∧(wf_31 y.Z0r∧(wf_32 y.Z4d∧(True)))))))
theorem rd_34:Z29 Tryz.prog 34 Z0q wf_34:=
 (Z3i (tot:=10) Tryz.underlying34 (by kernel_rfl) (Z0m (n:=4) rd_27 (by kernel_rfl) (Z0m (n:=1) (Z22 (P:=Tryz.prog) Tryz.underlying3) (by kernel_rfl) (Z0m (n:=1) rd_28 (by kernel_rfl) (Z0m (n:=1) rd_29 (by kernel_rfl) (Z0m (n:=1) rd_30 (by kernel_rfl) (Z0m (n:=1) rd_31 (by kernel_rfl) (Z0m (n:=1) rd_32 (by kernel_rfl) Z3h rfl) rfl) rfl) rfl) rfl) rfl) rfl)).map (fun p:Z0v×(Int×(List Z2c)×(List Z3j)×(List Z4v)×(List Z1i)×(List (List UInt8))×Unit)=>({ Z1l:=p.1,Z5a:=p.2.1,Z1j:=p.2.2.1,Z3n:=p.2.2.2.1,Z38:=p.2.2.2.2.1,Z0r:=p.2.2.2.2.2.1,Z4d:=p.2.2.2.2.2.2.1 }:Z09)) (fun _=>rfl) (fun _ h=>h)
theorem rlS {n:Nat} (h:n≤reachBytes):n≤4503599627370496:=Nat.le_trans h (by decide)
theorem rlB {n b k:Nat} (e:b=k) (h:n*b≤reachBytes):n*k≤140737488355328:=by have:=Zxj h; rw [e] at this; omega
theorem rlN {n b:Nat} (e:1≤b) (h:n*b≤reachBytes):n≤140737488355328:=Nat.le_trans (Nat.le_trans (Nat.le_of_eq (Nat.mul_one n).symm) (Nat.mul_le_mul_left n e)) (by have:=Zxj h; omega)
theorem ws_T_api_Ref {y:Z1w} (h:wf_61 y):WRef y:=⟨rlS h.1,rlS h.2.1,rlS h.2.2.1⟩
theorem ws_T_api_Insn {y:Z02} (h:wf_63 y):Z35 y:=⟨rlB (by kernel_rfl) h.2.2.2.2.1.2,rlB (by kernel_rfl) h.2.2.2.2.2.1.2,ws_T_api_Ref h.2.2.2.2.2.2.1,rlS h.2.2.2.2.2.2.2.1⟩
theorem ws_T_api_Frame {y:Z5t} (h:wf_114 y):Z8y y:=⟨fun v hv=>rlS (h.1.1 v hv).2.2.1.2.2.1,rlB (by kernel_rfl) h.1.2,fun v hv=>rlS (h.2.1.1 v hv).2.2.1.2.2.1,rlB (by kernel_rfl) h.2.1.2⟩
theorem ws_T_api_Code {y:Z0b} (h:wf_73 y):Z5o y:=⟨fun v hv=>ws_T_api_Insn (h.2.2.1.1 v hv),rlB (by kernel_rfl) h.2.2.1.2,fun v hv=>rlS (h.2.2.2.1.1 v hv).2.2.2.2.1,rlB (by kernel_rfl) h.2.2.2.1.2,fun v hv=>ws_T_api_Frame (h.2.2.2.2.1.1 v hv).2.1,rlB (by kernel_rfl) h.2.2.2.2.1.2,rlB (by kernel_rfl) h.2.2.2.2.2.1.2⟩
theorem ws_T_api_Method {y:Z2d} (h:wf_90 y):Zb9 y:=⟨rlS h.2.1,rlS h.2.2.1,ws_T_api_Code h.2.2.2.2.1,fun v hv=>rlS (h.2.2.2.2.2.1.1 v hv),rlB (by kernel_rfl) h.2.2.2.2.2.1.2⟩
theorem ws_T_api_Field {y:Z5s} (h:wf_173 y):Zt5 y:=⟨rlS h.2.1,rlS h.2.2.1,rlS h.2.2.2.2.2.1⟩
theorem ws_T_api_ClassModel {y:Z0y} (h:wf_103 y):Z5r y:=⟨rlS h.2.1,rlS h.2.2.1,fun v hv=>rlS (h.2.2.2.1.1 v hv),rlB (by kernel_rfl) h.2.2.2.1.2,fun v hv=>ws_T_api_Field (h.2.2.2.2.1.1 v hv),rlB (by kernel_rfl) h.2.2.2.2.1.2,fun v hv=>ws_T_api_Method (h.2.2.2.2.2.1.1 v hv),rlB (by kernel_rfl) h.2.2.2.2.2.1.2,rlS h.2.2.2.2.2.2.1⟩
theorem ws_T_api_Loader {y:Z18} (h:wf_154 y):Z7e y:=⟨fun v hv=>rlS (h.1.1 v hv).1,rlN (Nat.le_of_ble_eq_true (by kernel_rfl)) h.1.2,fun v hv=>rlS (h.2.1.1 v hv).1,rlN (Nat.le_of_ble_eq_true (by kernel_rfl)) h.2.1.2⟩
theorem ws_T_api_ClassSpace {y:Z0v} (h:wf_27 y):Z5f y:=⟨fun v hv=>ws_T_api_Loader (h.1.1 v hv),rlN (Nat.le_of_ble_eq_true (by kernel_rfl)) h.1.2,fun v hv=>⟨ws_T_api_ClassModel (h.2.1.1 v hv).2.1,rlN (Nat.le_of_ble_eq_true (by kernel_rfl)) (h.2.1.1 v hv).2.2.2.1.2⟩,rlN (Nat.le_of_ble_eq_true (by kernel_rfl)) h.2.1.2,fun v hv=>rlS (h.2.2.1.1 v hv).2.1,rlN (Nat.le_of_ble_eq_true (by kernel_rfl)) h.2.2.1.2,fun v hv=>rlS (h.2.2.2.1.1 v hv).1,rlN (Nat.le_of_ble_eq_true (by kernel_rfl)) h.2.2.2.1.2⟩
theorem ws_T_api_Object {y:Z2c} (h:wf_81 y):WObj y:=⟨rlN (Nat.le_of_ble_eq_true (by kernel_rfl)) h.2.2.1.2,rlS h.2.2.2.1,rlN (Nat.le_of_ble_eq_true (by kernel_rfl)) h.2.2.2.2.2.2.1.2⟩
theorem ws_T_api_Activation {y:Z0x} (h:wf_37 y):Z73 y:=⟨rlN (Nat.le_of_ble_eq_true (by kernel_rfl)) h.2.2.2.1.2,rlN (Nat.le_of_ble_eq_true (by kernel_rfl)) h.2.2.2.2.1.2⟩
theorem ws_T_api_Machine {y:Z09} (h:wf_34 y):Z41 y:=⟨ws_T_api_ClassSpace h.1,fun v hv=>ws_T_api_Object (h.2.2.1.1 v hv),rlN (Nat.le_of_ble_eq_true (by kernel_rfl)) h.2.2.1.2,fun v hv=>rlN (Nat.le_of_ble_eq_true (by kernel_rfl)) (h.2.2.2.1.1 v hv).2.2.1.2,rlN (Nat.le_of_ble_eq_true (by kernel_rfl)) h.2.2.2.1.2,fun v hv=>rlS (h.2.2.2.2.1.1 v hv).1,rlN (Nat.le_of_ble_eq_true (by kernel_rfl)) h.2.2.2.2.1.2,fun v hv=>⟨fun a ha=>ws_T_api_Activation ((h.2.2.2.2.2.1.1 v hv).2.2.2.1.1 a ha),rlN (Nat.le_of_ble_eq_true (by kernel_rfl)) (h.2.2.2.2.2.1.1 v hv).2.2.2.1.2⟩,rlN (Nat.le_of_ble_eq_true (by kernel_rfl)) h.2.2.2.2.2.1.2,rlN (Nat.le_of_ble_eq_true (by kernel_rfl)) h.2.2.2.2.2.2.1.2⟩
set_option maxRecDepth 100000 in
theorem lifted (os:Os) (started:os.Started) (H:Type) (enc:TypeId×Value→H):
  ReturnsInHanded {} Tryz.checked os 7 .any (Rows.callstackReplaceTopSpec.pre6 enc Tryz.prog Tryz.f7 Rows.callstackReplaceTopRow.domain false) (Rows.callstackReplaceTopSpec.post enc Tryz.prog Tryz.f7 false true false false):=by
 refine returnsInHanded_of_change_sized (C:=Tryz.checked) own started (by kernel_rfl) Tryz.func7
  (ChangeSpec.witness6 (enc:=enc) (C:=Tryz.checked) false ⟨#[],#[.agg #[.slice none 0 0,.slice none 0 0,.slice none 0 0,.slice none 0 0,.int .i64 0,.slice none 0 0,.slice none 0 0,.slice none 0 0,.slice none 0 0,.slice none 0 0],.int .i64 0,.agg #[.int .i64 0,.int .i64 0,.int .i64 0,.slice none 0 0,.slice none 0 0,.int .i64 0,.bool false,.bool false]],[]⟩ 8 (by kernel_rfl) (by kernel_rfl) (by kernel_rfl) (by kernel_rfl)) ?_
 intro W base args ds gs before hval0 hW hcnd hsz _
 have hval:∀ (j:Nat) t v,Tryz.f7.params[j]?=some t→args[j]?=some v→Value.okWide Tryz.prog W .any base t v:=hval0
 have hW':=hW
 obtain ⟨p,q,hA0,hV,rfl,hfz,hnd⟩:=hW
 have hA:DataW.TrodAll enc Tryz.prog W 0 (fun _=>true) true Tryz.f7.params.toList args.toList ds p:=hA0
 rw [Tryz.params7] at hA hval
 obtain ⟨v0,vs0,d0,ds0,p0,q0,hargs,rfl,rfl,h0,r0⟩:=trodAll_cons hA
 obtain ⟨v1,vs1,d1,ds1,p1,q1,rfl,rfl,rfl,h1,r1⟩:=trodAll_cons r0
 obtain ⟨v2,vs2,d2,ds2,p2,q2,rfl,rfl,rfl,h2,r2⟩:=trodAll_cons r1
 obtain ⟨rfl,rfl,rfl⟩:=trodAll_nil r2
 obtain rfl:args= #[v0,v1,v2] :=by cases args; simp_all
 obtain ⟨rfl,rfl⟩:=trodVars_none hV
 have hsz2:(DataW.weightsEach Tryz.prog (Tryz.f7.params.toList++[]) ([d0,d1,d2]++[])).all (· ≤reachBytes)=true:=hsz
 rw [Tryz.params7] at hsz2
 simp only [List.append_nil,DataW.weightsEach,List.all_append,Bool.and_eq_true] at hsz2
 obtain ⟨z0,z1,z2⟩:=hsz2
 obtain ⟨y0,c0,g0⟩:=Zzs (M:=Z8i.reach Tryz.prog) Tryz.underlying34 rd_34 (hval 0 34 v0 rfl rfl) h0 z0
 obtain ⟨_,rfl⟩:=okWide_int Tryz.underlying3 (hval 1 3 v1 rfl rfl)
 obtain ⟨y1,c1,g1⟩:=arg_one (M:=Z8i.reach Tryz.prog) (f:=(fun n:Int=>D.int .i64 n)) (Z22 (P:=Tryz.prog) Tryz.underlying3) rfl h1 z1
 obtain ⟨y2,c2,g2⟩:=Zzs (M:=Z8i.reach Tryz.prog) Tryz.underlying37 rd_37 (hval 2 37 v2 rfl rfl) h2 z2
 exact Y9d (P:=Tryz.prog) (fn:=Tryz.f7) (tb:=4) rfl (by kernel_rfl) Tryz.underlying4 laid (by kernel_rfl) hW' rfl (.cons c0 (.cons c1 (.cons c2 .nil))) (w7 (Y8t y0 (ws_T_api_Machine g0) y1 y2))
theorem am {a b:Bool} (h:a=true) (g:b=true):(a&&b)=true:=by rw [h,g]; rfl
theorem k0:Rows.callstackReplaceTopRow.wf (OpenSpec.ofChange Rows.callstackReplaceTopSpec)=true:=by kernel_rfl
theorem k1:laidOutB Tryz.prog=true:=by kernel_rfl
theorem k2:mapsRowed Tryz.prog=true:=by kernel_rfl
theorem k3:Tryz.f7.params.all (Tryz.prog.readableRec ·)=true:=by kernel_rfl
theorem k4:namedTie Tryz.prog Rows.callstackReplaceTopRow.named Rows.callstackReplaceTopSpec.vars=true:=by kernel_rfl
theorem k5:(Rows.callstackReplaceTopRow.stops==[])=true:=by kernel_rfl
theorem k6:(Tryz.prog.stops==[])=true:=by kernel_rfl
theorem k7:(Rows.callstackReplaceTopRow.knobs==[])=true:=by kernel_rfl
theorem k8:(Tryz.prog.stopKnobs==[])=true:=by kernel_rfl
theorem k9:(Rows.callstackReplaceTopRow.inPlace==Tryz.prog.inPlace 7)=true:=by kernel_rfl
theorem k10:(Rows.callstackReplaceTopRow.unfollowed==Tryz.prog.unfollowed 7)=true:=by kernel_rfl
theorem k11:(Rows.callstackReplaceTopRow.recurses==Tryz.prog.recurses 7)=true:=by kernel_rfl
theorem k12:(Rows.callstackReplaceTopRow.named==Tryz.prog.varsNamed 7)=true:=by kernel_rfl
theorem k13:(Rows.callstackReplaceTopRow.maps==(Tryz.f7.params.toList++Rows.callstackReplaceTopSpec.plain.varTypes Tryz.prog).any (Tryz.prog.mapsRec ·))=true:=by kernel_rfl
theorem k14:(Rows.callstackReplaceTopRow.ifaces==(Tryz.f7.params.toList++Rows.callstackReplaceTopSpec.plain.varTypes Tryz.prog).any (Tryz.prog.ifacesRec ·))=true:=by kernel_rfl
theorem k15:(Rows.callstackReplaceTopRow.mapsOut==Tryz.prog.mapsAmong Tryz.f7.resultTypes.toList)=true:=by kernel_rfl
theorem k16:(Rows.callstackReplaceTopRow.loops==(Tryz.f7.params.toList++Rows.callstackReplaceTopSpec.plain.varTypes Tryz.prog).any (Tryz.prog.loopsFrom ·))=true:=by kernel_rfl
theorem k17:(Rows.callstackReplaceTopRow.wideKeys==(Tryz.f7.params.toList++Rows.callstackReplaceTopSpec.plain.varTypes Tryz.prog++Tryz.f7.resultTypes.toList).any (Tryz.prog.wideKeysFrom ·))=true:=by kernel_rfl
theorem k18:Rows.callstackReplaceTopSpec.vars.all (Tryz.prog.varReadable ·)=true:=by kernel_rfl
theorem k19:Tryz.f7.resultTypes.all (fun t=>Tryz.prog.readableRec t&&decide (t<Tryz.prog.types.size))=true:=by kernel_rfl
theorem k20:(Rows.callstackReplaceTopRow.ifacesOut==Tryz.f7.resultTypes.toList.any (Tryz.prog.ifacesRec ·))=true:=by kernel_rfl
theorem k21:(Rows.callstackReplaceTopRow.loopsOut==Tryz.f7.resultTypes.toList.any (Tryz.prog.loopsFrom ·))=true:=by kernel_rfl
theorem k22:(Rows.callstackReplaceTopRow.plainKeys==Tryz.prog.plainKeys)=true:=by kernel_rfl
theorem k23:Rows.callstackReplaceTopRow.shortTexts.isNone=true:=by kernel_rfl
theorem k24:Tryz.prog.stopsHeard=true:=by kernel_rfl
theorem k25:Tryz.prog.mayEnter=true:=by kernel_rfl
theorem k26:(Rows.callstackReplaceTopRow.lifted==Tryz.prog.liftsFinal)=true:=by kernel_rfl
theorem k27:(Tryz.prog.make==some Rows.callstackReplaceTopRow.make)=true:=by kernel_rfl
theorem k28:(Rows.callstackReplaceTopRow.kinds==(if Rows.callstackReplaceTopRow.domain.isEmpty then [] else Tryz.f7.params.toList.map fun t=>match Tryz.prog.underlying t with|some (.int k)=>some k|_=>none))=true:=by kernel_rfl
theorem k29:(Rows.callstackReplaceTopRow.pinned==Rows.callstackReplaceTopRow.pinnedBy)=true:=by kernel_rfl
theorem k30:(Rows.callstackReplaceTopRow.veiled==(Tryz.f7.params.toList++Rows.callstackReplaceTopSpec.plain.varTypes Tryz.prog++Tryz.f7.resultTypes.toList).any (Tryz.prog.veiledRec ·))=true:=by kernel_rfl
theorem k31:Rows.callstackReplaceTopRow.veiledFits Tryz.prog Tryz.f7.params.toList (Tryz.f7.params.toList++Rows.callstackReplaceTopSpec.plain.varTypes Tryz.prog++Tryz.f7.resultTypes.toList)=true:=by kernel_rfl
set_option maxRecDepth 100000 in
theorem closed:joinedFacts Tryz.prog 7 Tryz.f7 Rows.callstackReplaceTopSpec Rows.callstackReplaceTopRow=true:=(am (am (am (am (am (am (am (am (am (am (am (am (am (am (am (am (am (am (am (am (am (am (am (am (am (am (am (am (am (am (am k0 k1) k2) k3) k4) k5) k6) k7) k8) k9) k10) k11) k12) k13) k14) k15) k16) k17) k18) k19) k20) k21) k22) k23) k24) k25) k26) k27) k28) k29) k30) k31)
theorem inst:Tryz.f7.isInstance Tryz.prog Rows.callstackReplaceTopRow.origin Rows.callstackReplaceTopRow.targs:=of_decide_eq_true (by kernel_rfl)
theorem named:Tryz.prog.funcNamed Rows.callstackReplaceTopRow.func=some 7:=by kernel_rfl
theorem wrapped:Tryz.f7.isWrapper Tryz.prog Rows.callstackReplaceTopRow.wrapper Rows.callstackReplaceTopRow.mainSum:=by unfold Func.isWrapper; first|(rw [if_pos (by decide+kernel)]; kernel_rfl)|(rw [if_neg (by decide+kernel)]; exact ⟨rfl,rfl⟩)
theorem over:Rows.callstackReplaceTopRow.holds Tryz.pinned (OpenSpec.ofChange Rows.callstackReplaceTopSpec):=
 OpenClaim.holds_of_wide 7 Tryz.f7 rfl rfl rfl rfl rfl rfl rfl ⟨rfl,rfl,rfl,rfl,rfl⟩ rfl rfl rfl rfl rfl named Tryz.func7 closed inst wrapped
  (fun os started H enc _=>lifted os started H enc)
theorem proved:Rows.CallstackReplaceTopSaid:=
 over
#print axioms proved
end Go.Proofs.YtiogflechpgdiaaGreat.callstackReplaceTop
