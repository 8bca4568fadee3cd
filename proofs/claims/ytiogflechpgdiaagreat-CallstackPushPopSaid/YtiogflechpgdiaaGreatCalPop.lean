/-
  The law CallstackPushPop holds for every input: the function returns true, and Z79 argument reads behind the call as it read before. No condition.
-/
import Derived.Test.YtiogflechpgdiaaGreatCalLB
import Derived.WalkKit
import Derived.ProofKit
import Derived.OpenShut
import Derived.ChangeMaps5
namespace Go.Proofs.YtiogflechpgdiaaGreat.callstackPushPop
open Go.ChangeShapes Go.WideShapes Go.ChangeAt Go.RowKit Go.ChangeMaps Go.Den
set_option linter.unusedVariables false
theorem own:ownKnob Tryz.prog.godebug=none:=by kernel_rfl
theorem laid:laidOutB Tryz.prog=true:=by kernel_rfl
def wf_156 (y:Z91):Prop:=(fun s:List UInt8=>s.length≤reachBytes) y.Zdn∧((fun n:Int=>IntKind.min .i64≤n∧n≤IntKind.max .i64) y.f_To∧(True))
theorem rd_156:Z2h Tryz.prog 156 Zg3 wf_156:=
 (Z3k (tot:=2) Tryz.underlying156 (by kernel_rfl) (Z0n (n:=1) (Z4h (P:=Tryz.prog) Tryz.underlying9) (by kernel_rfl) (Z0n (n:=1) (Z22 (P:=Tryz.prog) Tryz.underlying3) (by kernel_rfl) Z3i rfl) rfl)).map (fun p:(List UInt8)×(Int×Unit)=>({ Zdn:=p.1,f_To:=p.2.1 }:Z91)) (fun _=>rfl) (fun _ h=>h)
def wf_151 (ys:List Z91):Prop:=(∀ y∈ys,wf_156 y)∧ys.length*Tryz.prog.bytesOf 156≤reachBytes
theorem rd_151:Z2h Tryz.prog 151 (fun ys:List Z91=>[D.sl false (ys.map Zg3)]) wf_151:=Z4m Tryz.underlying151 (row:=Zg3) rd_156 (Nat.lt_of_lt_of_le (by decide:0<1) (Nat.le_of_ble_eq_true (by kernel_rfl)))
def wf_178 (y:Z9n):Prop:=(fun s:List UInt8=>s.length≤reachBytes) y.Z0e∧((fun s:List UInt8=>s.length≤reachBytes) y.Z2q∧(True))
theorem rd_178:Z2h Tryz.prog 178 Zfl wf_178:=
 (Z3k (tot:=2) Tryz.underlying178 (by kernel_rfl) (Z0n (n:=1) (Z4h (P:=Tryz.prog) Tryz.underlying9) (by kernel_rfl) (Z0n (n:=1) (Z4h (P:=Tryz.prog) Tryz.underlying9) (by kernel_rfl) Z3i rfl) rfl)).map (fun p:(List UInt8)×(List UInt8)×Unit=>({ Z0e:=p.1,Z2q:=p.2.1 }:Z9n)) (fun _=>rfl) (fun _ h=>h)
def wf_152 (ys:List Z9n):Prop:=(∀ y∈ys,wf_178 y)∧ys.length*Tryz.prog.bytesOf 178≤reachBytes
theorem rd_152:Z2h Tryz.prog 152 (fun ys:List Z9n=>[D.sl false (ys.map Zfl)]) wf_152:=Z4m Tryz.underlying152 (row:=Zfl) rd_178 (Nat.lt_of_lt_of_le (by decide:0<1) (Nat.le_of_ble_eq_true (by kernel_rfl)))
def wf_154 (y:Z1i):Prop:=wf_151 y.Z45∧(wf_152 y.Z3d∧(True))
theorem rd_154:Z2h Tryz.prog 154 Z29 wf_154:=
 (Z3k (tot:=2) Tryz.underlying154 (by kernel_rfl) (Z0n (n:=1) rd_151 (by kernel_rfl) (Z0n (n:=1) rd_152 (by kernel_rfl) Z3i rfl) rfl)).map (fun p:(List Z91)×(List Z9n)×Unit=>({ Z45:=p.1,Z3d:=p.2.1 }:Z1i)) (fun _=>rfl) (fun _ h=>h)
def wf_22 (ys:List Z1i):Prop:=(∀ y∈ys,wf_154 y)∧ys.length*Tryz.prog.bytesOf 154≤reachBytes
theorem rd_22:Z2h Tryz.prog 22 (fun ys:List Z1i=>[D.sl false (ys.map Z29)]) wf_22:=Z4m Tryz.underlying22 (row:=Z29) rd_154 (Nat.lt_of_lt_of_le (by decide:0<1) (Nat.le_of_ble_eq_true (by kernel_rfl)))
def wf_32 (ys:List (List UInt8)):Prop:=(∀ y∈ys,(fun s:List UInt8=>s.length≤reachBytes) y)∧ys.length*Tryz.prog.bytesOf 9≤reachBytes
theorem rd_32:Z2h Tryz.prog 32 (fun ys:List (List UInt8)=>[D.sl false (ys.map Z2x)]) wf_32:=Z4m Tryz.underlying32 (row:=Z2x) (Z4h (P:=Tryz.prog) Tryz.underlying9) (Nat.lt_of_lt_of_le (by decide:0<1) (Nat.le_of_ble_eq_true (by kernel_rfl)))
def wf_173 (y:Z5w):Prop:=(fun n:Int=>IntKind.min .i64≤n∧n≤IntKind.max .i64) y.Z0o∧((fun s:List UInt8=>s.length≤reachBytes) y.Z0e∧((fun s:List UInt8=>s.length≤reachBytes) y.Z1p∧((fun n:Int=>IntKind.min .i64≤n∧n≤IntKind.max .i64) y.Z62∧((fun n:Int=>IntKind.min .i64≤n∧n≤IntKind.max .i64) y.f_N∧((fun s:List UInt8=>s.length≤reachBytes) y.f_S∧(True))))))
theorem rd_173:Z2h Tryz.prog 173 Z88 wf_173:=
 (Z3k (tot:=6) Tryz.underlying173 (by kernel_rfl) (Z0n (n:=1) (Z22 (P:=Tryz.prog) Tryz.underlying3) (by kernel_rfl) (Z0n (n:=1) (Z4h (P:=Tryz.prog) Tryz.underlying9) (by kernel_rfl) (Z0n (n:=1) (Z4h (P:=Tryz.prog) Tryz.underlying9) (by kernel_rfl) (Z0n (n:=1) (Z22 (P:=Tryz.prog) Tryz.underlying3) (by kernel_rfl) (Z0n (n:=1) (Z22 (P:=Tryz.prog) Tryz.underlying3) (by kernel_rfl) (Z0n (n:=1) (Z4h (P:=Tryz.prog) Tryz.underlying9) (by kernel_rfl) Z3i rfl) rfl) rfl) rfl) rfl) rfl)).map (fun p:Int×(List UInt8)×(List UInt8)×(Int×(Int×(List UInt8)×Unit))=>({ Z0o:=p.1,Z0e:=p.2.1,Z1p:=p.2.2.1,Z62:=p.2.2.2.1,f_N:=p.2.2.2.2.1,f_S:=p.2.2.2.2.2.1 }:Z5w)) (fun _=>rfl) (fun _ h=>h)
def wf_100 (ys:List Z5w):Prop:=(∀ y∈ys,wf_173 y)∧ys.length*Tryz.prog.bytesOf 173≤reachBytes
theorem rd_100:Z2h Tryz.prog 100 (fun ys:List Z5w=>[D.sl false (ys.map Z88)]) wf_100:=Z4m Tryz.underlying100 (row:=Z88) rd_173 (Nat.lt_of_lt_of_le (by decide:0<1) (Nat.le_of_ble_eq_true (by kernel_rfl)))
def wf_59 (ys:List Int):Prop:=(∀ y∈ys,(fun n:Int=>IntKind.min .i64≤n∧n≤IntKind.max .i64) y)∧ys.length*Tryz.prog.bytesOf 3≤reachBytes
theorem rd_59:Z2h Tryz.prog 59 (fun ys:List Int=>[D.sl false (ys.map Z03)]) wf_59:=Z4m Tryz.underlying59 (row:=Z03) (Z22 (P:=Tryz.prog) Tryz.underlying3) (Nat.lt_of_lt_of_le (by decide:0<1) (Nat.le_of_ble_eq_true (by kernel_rfl)))
def wf_61 (y:Z20):Prop:=(fun s:List UInt8=>s.length≤reachBytes) y.Z0y∧((fun s:List UInt8=>s.length≤reachBytes) y.Z0e∧((fun s:List UInt8=>s.length≤reachBytes) y.Z1p∧(True)))
theorem rd_61:Z2h Tryz.prog 61 Zq1 wf_61:=
 (Z3k (tot:=3) Tryz.underlying61 (by kernel_rfl) (Z0n (n:=1) (Z4h (P:=Tryz.prog) Tryz.underlying9) (by kernel_rfl) (Z0n (n:=1) (Z4h (P:=Tryz.prog) Tryz.underlying9) (by kernel_rfl) (Z0n (n:=1) (Z4h (P:=Tryz.prog) Tryz.underlying9) (by kernel_rfl) Z3i rfl) rfl) rfl)).map (fun p:(List UInt8)×(List UInt8)×(List UInt8)×Unit=>({ Z0y:=p.1,Z0e:=p.2.1,Z1p:=p.2.2.1 }:Z20)) (fun _=>rfl) (fun _ h=>h)
def wf_63 (y:Z02):Prop:=(fun n:Int=>IntKind.min .i64≤n∧n≤IntKind.max .i64) y.f_Op∧((fun n:Int=>IntKind.min .i64≤n∧n≤IntKind.max .i64) y.f_A∧((fun n:Int=>IntKind.min .i64≤n∧n≤IntKind.max .i64) y.f_B∧((fun n:Int=>IntKind.min .i64≤n∧n≤IntKind.max .i64) y.f_To∧(wf_59 y.Z12∧(wf_59 y.Z0d∧(wf_61 y.Z1l∧((fun s:List UInt8=>s.length≤reachBytes) y.f_S∧(True))))))))
theorem rd_63:Z2h Tryz.prog 63 Z0g wf_63:=
 (Z3k (tot:=10) Tryz.underlying63 (by kernel_rfl) (Z0n (n:=1) (Z22 (P:=Tryz.prog) Tryz.underlying3) (by kernel_rfl) (Z0n (n:=1) (Z22 (P:=Tryz.prog) Tryz.underlying3) (by kernel_rfl) (Z0n (n:=1) (Z22 (P:=Tryz.prog) Tryz.underlying3) (by kernel_rfl) (Z0n (n:=1) (Z22 (P:=Tryz.prog) Tryz.underlying3) (by kernel_rfl) (Z0n (n:=1) rd_59 (by kernel_rfl) (Z0n (n:=1) rd_59 (by kernel_rfl) (Z0n (n:=3) rd_61 (by kernel_rfl) (Z0n (n:=1) (Z4h (P:=Tryz.prog) Tryz.underlying9) (by kernel_rfl) Z3i rfl) rfl) rfl) rfl) rfl) rfl) rfl) rfl)).map (fun p:Int×(Int×(Int×(Int×(List Int)×(List Int)×(Z20×(List UInt8)×Unit))))=>({ f_Op:=p.1,f_A:=p.2.1,f_B:=p.2.2.1,f_To:=p.2.2.2.1,Z12:=p.2.2.2.2.1,Z0d:=p.2.2.2.2.2.1,Z1l:=p.2.2.2.2.2.2.1,f_S:=p.2.2.2.2.2.2.2.1 }:Z02)) (fun _=>rfl) (fun _ h=>h)
def wf_68 (ys:List Z02):Prop:=(∀ y∈ys,wf_63 y)∧ys.length*Tryz.prog.bytesOf 63≤reachBytes
theorem rd_68:Z2h Tryz.prog 68 (fun ys:List Z02=>[D.sl false (ys.map Z0g)]) wf_68:=Z4m Tryz.underlying68 (row:=Z0g) rd_63 (Nat.lt_of_lt_of_le (by decide:0<1) (Nat.le_of_ble_eq_true (by kernel_rfl)))
def wf_111 (y:Z0r):Prop:=(fun n:Int=>IntKind.min .i64≤n∧n≤IntKind.max .i64) y.Z6d∧((fun n:Int=>IntKind.min .i64≤n∧n≤IntKind.max .i64) y.f_To∧((fun n:Int=>IntKind.min .i64≤n∧n≤IntKind.max .i64) y.Z6n∧((fun n:Int=>IntKind.min .i64≤n∧n≤IntKind.max .i64) y.Z0y∧((fun s:List UInt8=>s.length≤reachBytes) y.Z17∧(True)))))
theorem rd_111:Z2h Tryz.prog 111 Z14 wf_111:=
 (Z3k (tot:=5) Tryz.underlying111 (by kernel_rfl) (Z0n (n:=1) (Z22 (P:=Tryz.prog) Tryz.underlying3) (by kernel_rfl) (Z0n (n:=1) (Z22 (P:=Tryz.prog) Tryz.underlying3) (by kernel_rfl) (Z0n (n:=1) (Z22 (P:=Tryz.prog) Tryz.underlying3) (by kernel_rfl) (Z0n (n:=1) (Z22 (P:=Tryz.prog) Tryz.underlying3) (by kernel_rfl) (Z0n (n:=1) (Z4h (P:=Tryz.prog) Tryz.underlying9) (by kernel_rfl) Z3i rfl) rfl) rfl) rfl) rfl)).map (fun p:Int×(Int×(Int×(Int×(List UInt8)×Unit)))=>({ Z6d:=p.1,f_To:=p.2.1,Z6n:=p.2.2.1,Z0y:=p.2.2.2.1,Z17:=p.2.2.2.2.1 }:Z0r)) (fun _=>rfl) (fun _ h=>h)
def wf_69 (ys:List Z0r):Prop:=(∀ y∈ys,wf_111 y)∧ys.length*Tryz.prog.bytesOf 111≤reachBytes
theorem rd_69:Z2h Tryz.prog 69 (fun ys:List Z0r=>[D.sl false (ys.map Z14)]) wf_69:=Z4m Tryz.underlying69 (row:=Z14) rd_111 (Nat.lt_of_lt_of_le (by decide:0<1) (Nat.le_of_ble_eq_true (by kernel_rfl)))
def wf_141 (y:Z0i):Prop:=(fun n:Int=>IntKind.min .i64≤n∧n≤IntKind.max .i64) y.Z11∧((fun n:Int=>IntKind.min .u8≤n∧n≤IntKind.max .u8) y.Z15∧((fun s:List UInt8=>s.length≤reachBytes) y.Z0e∧(True)))
theorem rd_141:Z2h Tryz.prog 141 Z25 wf_141:=
 (Z3k (tot:=3) Tryz.underlying141 (by kernel_rfl) (Z0n (n:=1) (Z22 (P:=Tryz.prog) Tryz.underlying3) (by kernel_rfl) (Z0n (n:=1) (Z22 (P:=Tryz.prog) Tryz.underlying5) (by kernel_rfl) (Z0n (n:=1) (Z4h (P:=Tryz.prog) Tryz.underlying9) (by kernel_rfl) Z3i rfl) rfl) rfl)).map (fun p:Int×(Int×(List UInt8)×Unit)=>({ Z11:=p.1,Z15:=p.2.1,Z0e:=p.2.2.1 }:Z0i)) (fun _=>rfl) (fun _ h=>h)
def wf_150 (y:Z0l):Prop:=(fun n:Int=>IntKind.min .i64≤n∧n≤IntKind.max .i64) y.Z1c∧((fun n:Int=>IntKind.min .i64≤n∧n≤IntKind.max .i64) y.Z42∧(wf_141 y.Z17∧((fun n:Int=>IntKind.min .i64≤n∧n≤IntKind.max .i64) y.Z4l∧(True))))
theorem rd_150:Z2h Tryz.prog 150 Z1t wf_150:=
 (Z3k (tot:=6) Tryz.underlying150 (by kernel_rfl) (Z0n (n:=1) (Z22 (P:=Tryz.prog) Tryz.underlying3) (by kernel_rfl) (Z0n (n:=1) (Z22 (P:=Tryz.prog) Tryz.underlying3) (by kernel_rfl) (Z0n (n:=3) rd_141 (by kernel_rfl) (Z0n (n:=1) (Z22 (P:=Tryz.prog) Tryz.underlying3) (by kernel_rfl) Z3i rfl) rfl) rfl) rfl)).map (fun p:Int×(Int×(Z0i×(Int×Unit)))=>({ Z1c:=p.1,Z42:=p.2.1,Z17:=p.2.2.1,Z4l:=p.2.2.2.1 }:Z0l)) (fun _=>rfl) (fun _ h=>h)
def wf_112 (ys:List Z0l):Prop:=(∀ y∈ys,wf_150 y)∧ys.length*Tryz.prog.bytesOf 150≤reachBytes
theorem rd_112:Z2h Tryz.prog 112 (fun ys:List Z0l=>[D.sl false (ys.map Z1t)]) wf_112:=Z4m Tryz.underlying112 (row:=Z1t) rd_150 (Nat.lt_of_lt_of_le (by decide:0<1) (Nat.le_of_ble_eq_true (by kernel_rfl)))
def wf_114 (y:Z5y):Prop:=wf_112 y.Z0c∧(wf_112 y.Z0m∧((fun _:Bool=>True) y.Z6y∧(True)))
theorem rd_114:Z2h Tryz.prog 114 Zk9 wf_114:=
 (Z3k (tot:=3) Tryz.underlying114 (by kernel_rfl) (Z0n (n:=1) rd_112 (by kernel_rfl) (Z0n (n:=1) rd_112 (by kernel_rfl) (Z0n (n:=1) (Zql (P:=Tryz.prog) Tryz.underlying4) (by kernel_rfl) Z3i rfl) rfl) rfl)).map (fun p:(List Z0l)×(List Z0l)×(Bool×Unit)=>({ Z0c:=p.1,Z0m:=p.2.1,Z6y:=p.2.2.1 }:Z5y)) (fun _=>rfl) (fun _ h=>h)
def wf_116 (y:Z0t):Prop:=(fun n:Int=>IntKind.min .i64≤n∧n≤IntKind.max .i64) y.Z2o∧(wf_114 y.Z1w∧(True))
theorem rd_116:Z2h Tryz.prog 116 Z16 wf_116:=
 (Z3k (tot:=4) Tryz.underlying116 (by kernel_rfl) (Z0n (n:=1) (Z22 (P:=Tryz.prog) Tryz.underlying3) (by kernel_rfl) (Z0n (n:=3) rd_114 (by kernel_rfl) Z3i rfl) rfl)).map (fun p:Int×(Z5y×Unit)=>({ Z2o:=p.1,Z1w:=p.2.1 }:Z0t)) (fun _=>rfl) (fun _ h=>h)
def wf_70 (ys:List Z0t):Prop:=(∀ y∈ys,wf_116 y)∧ys.length*Tryz.prog.bytesOf 116≤reachBytes
theorem rd_70:Z2h Tryz.prog 70 (fun ys:List Z0t=>[D.sl false (ys.map Z16)]) wf_70:=Z4m Tryz.underlying70 (row:=Z16) rd_116 (Nat.lt_of_lt_of_le (by decide:0<1) (Nat.le_of_ble_eq_true (by kernel_rfl)))
def wf_119 (y:Z1g):Prop:=(fun n:Int=>IntKind.min .i64≤n∧n≤IntKind.max .i64) y.Z2o∧((fun n:Int=>IntKind.min .i64≤n∧n≤IntKind.max .i64) y.Z7b∧(True))
theorem rd_119:Z2h Tryz.prog 119 Z1n wf_119:=
 (Z3k (tot:=2) Tryz.underlying119 (by kernel_rfl) (Z0n (n:=1) (Z22 (P:=Tryz.prog) Tryz.underlying3) (by kernel_rfl) (Z0n (n:=1) (Z22 (P:=Tryz.prog) Tryz.underlying3) (by kernel_rfl) Z3i rfl) rfl)).map (fun p:Int×(Int×Unit)=>({ Z2o:=p.1,Z7b:=p.2.1 }:Z1g)) (fun _=>rfl) (fun _ h=>h)
def wf_71 (ys:List Z1g):Prop:=(∀ y∈ys,wf_119 y)∧ys.length*Tryz.prog.bytesOf 119≤reachBytes
theorem rd_71:Z2h Tryz.prog 71 (fun ys:List Z1g=>[D.sl false (ys.map Z1n)]) wf_71:=Z4m Tryz.underlying71 (row:=Z1n) rd_119 (Nat.lt_of_lt_of_le (by decide:0<1) (Nat.le_of_ble_eq_true (by kernel_rfl)))
def wf_73 (y:Z09):Prop:=(fun n:Int=>IntKind.min .i64≤n∧n≤IntKind.max .i64) y.Z0m∧((fun n:Int=>IntKind.min .i64≤n∧n≤IntKind.max .i64) y.Z0c∧(wf_68 y.Z0k∧(wf_69 y.Z21∧(wf_70 y.Z1s∧(wf_71 y.Z1y∧(True))))))
theorem rd_73:Z2h Tryz.prog 73 Z0x wf_73:=
 (Z3k (tot:=6) Tryz.underlying73 (by kernel_rfl) (Z0n (n:=1) (Z22 (P:=Tryz.prog) Tryz.underlying3) (by kernel_rfl) (Z0n (n:=1) (Z22 (P:=Tryz.prog) Tryz.underlying3) (by kernel_rfl) (Z0n (n:=1) rd_68 (by kernel_rfl) (Z0n (n:=1) rd_69 (by kernel_rfl) (Z0n (n:=1) rd_70 (by kernel_rfl) (Z0n (n:=1) rd_71 (by kernel_rfl) Z3i rfl) rfl) rfl) rfl) rfl) rfl)).map (fun p:Int×(Int×(List Z02)×(List Z0r)×(List Z0t)×(List Z1g)×Unit)=>({ Z0m:=p.1,Z0c:=p.2.1,Z0k:=p.2.2.1,Z21:=p.2.2.2.1,Z1s:=p.2.2.2.2.1,Z1y:=p.2.2.2.2.2.1 }:Z09)) (fun _=>rfl) (fun _ h=>h)
def wf_90 (y:Z1r):Prop:=(fun n:Int=>IntKind.min .i64≤n∧n≤IntKind.max .i64) y.Z0o∧((fun s:List UInt8=>s.length≤reachBytes) y.Z0e∧((fun s:List UInt8=>s.length≤reachBytes) y.Z1p∧((fun _:Bool=>True) y.Z3y∧(wf_73 y.Z13∧(wf_32 y.Z6j∧(True))))))
theorem rd_90:Z2h Tryz.prog 90 Z57 wf_90:=
 (Z3k (tot:=11) Tryz.underlying90 (by kernel_rfl) (Z0n (n:=1) (Z22 (P:=Tryz.prog) Tryz.underlying3) (by kernel_rfl) (Z0n (n:=1) (Z4h (P:=Tryz.prog) Tryz.underlying9) (by kernel_rfl) (Z0n (n:=1) (Z4h (P:=Tryz.prog) Tryz.underlying9) (by kernel_rfl) (Z0n (n:=1) (Zql (P:=Tryz.prog) Tryz.underlying4) (by kernel_rfl) (Z0n (n:=6) rd_73 (by kernel_rfl) (Z0n (n:=1) rd_32 (by kernel_rfl) Z3i rfl) rfl) rfl) rfl) rfl) rfl)).map (fun p:Int×(List UInt8)×(List UInt8)×(Bool×(Z09×(List (List UInt8))×Unit))=>({ Z0o:=p.1,Z0e:=p.2.1,Z1p:=p.2.2.1,Z3y:=p.2.2.2.1,Z13:=p.2.2.2.2.1,Z6j:=p.2.2.2.2.2.1 }:Z1r)) (fun _=>rfl) (fun _ h=>h)
def wf_101 (ys:List Z1r):Prop:=(∀ y∈ys,wf_90 y)∧ys.length*Tryz.prog.bytesOf 90≤reachBytes
theorem rd_101:Z2h Tryz.prog 101 (fun ys:List Z1r=>[D.sl false (ys.map Z57)]) wf_101:=Z4m Tryz.underlying101 (row:=Z57) rd_90 (Nat.lt_of_lt_of_le (by decide:0<1) (Nat.le_of_ble_eq_true (by kernel_rfl)))
def wf_103 (y:Z0u):Prop:=(fun n:Int=>IntKind.min .i64≤n∧n≤IntKind.max .i64) y.Z0o∧((fun s:List UInt8=>s.length≤reachBytes) y.Z0e∧((fun s:List UInt8=>s.length≤reachBytes) y.Z28∧(wf_32 y.Z1b∧(wf_100 y.Z18∧(wf_101 y.Z0j∧((fun s:List UInt8=>s.length≤reachBytes) y.Z87∧(True)))))))
theorem rd_103:Z2h Tryz.prog 103 Z2m wf_103:=
 (Z3k (tot:=7) Tryz.underlying103 (by kernel_rfl) (Z0n (n:=1) (Z22 (P:=Tryz.prog) Tryz.underlying3) (by kernel_rfl) (Z0n (n:=1) (Z4h (P:=Tryz.prog) Tryz.underlying9) (by kernel_rfl) (Z0n (n:=1) (Z4h (P:=Tryz.prog) Tryz.underlying9) (by kernel_rfl) (Z0n (n:=1) rd_32 (by kernel_rfl) (Z0n (n:=1) rd_100 (by kernel_rfl) (Z0n (n:=1) rd_101 (by kernel_rfl) (Z0n (n:=1) (Z4h (P:=Tryz.prog) Tryz.underlying9) (by kernel_rfl) Z3i rfl) rfl) rfl) rfl) rfl) rfl) rfl)).map (fun p:Int×(List UInt8)×(List UInt8)×(List (List UInt8))×(List Z5w)×(List Z1r)×(List UInt8)×Unit=>({ Z0o:=p.1,Z0e:=p.2.1,Z28:=p.2.2.1,Z1b:=p.2.2.2.1,Z18:=p.2.2.2.2.1,Z0j:=p.2.2.2.2.2.1,Z87:=p.2.2.2.2.2.2.1 }:Z0u)) (fun _=>rfl) (fun _ h=>h)
def wf_105 (y:Z1x):Prop:=(fun n:Int=>IntKind.min .i64≤n∧n≤IntKind.max .i64) y.Z38∧(wf_103 y.Z1f∧((fun n:Int=>IntKind.min .i64≤n∧n≤IntKind.max .i64) y.Z28∧(wf_59 y.Z1b∧((fun n:Int=>IntKind.min .i64≤n∧n≤IntKind.max .i64) y.Za4∧((fun n:Int=>IntKind.min .i64≤n∧n≤IntKind.max .i64) y.Zdk∧(True))))))
theorem rd_105:Z2h Tryz.prog 105 Z2p wf_105:=
 (Z3k (tot:=12) Tryz.underlying105 (by kernel_rfl) (Z0n (n:=1) (Z22 (P:=Tryz.prog) Tryz.underlying3) (by kernel_rfl) (Z0n (n:=7) rd_103 (by kernel_rfl) (Z0n (n:=1) (Z22 (P:=Tryz.prog) Tryz.underlying3) (by kernel_rfl) (Z0n (n:=1) rd_59 (by kernel_rfl) (Z0n (n:=1) (Z22 (P:=Tryz.prog) Tryz.underlying3) (by kernel_rfl) (Z0n (n:=1) (Z22 (P:=Tryz.prog) Tryz.underlying40) (by kernel_rfl) Z3i rfl) rfl) rfl) rfl) rfl) rfl)).map (fun p:Int×(Z0u×(Int×(List Int)×(Int×(Int×Unit))))=>({ Z38:=p.1,Z1f:=p.2.1,Z28:=p.2.2.1,Z1b:=p.2.2.2.1,Za4:=p.2.2.2.2.1,Zdk:=p.2.2.2.2.2.1 }:Z1x)) (fun _=>rfl) (fun _ h=>h)
def wf_23 (ys:List Z1x):Prop:=(∀ y∈ys,wf_105 y)∧ys.length*Tryz.prog.bytesOf 105≤reachBytes
theorem rd_23:Z2h Tryz.prog 23 (fun ys:List Z1x=>[D.sl false (ys.map Z2p)]) wf_23:=Z4m Tryz.underlying23 (row:=Z2p) rd_105 (Nat.lt_of_lt_of_le (by decide:0<1) (Nat.le_of_ble_eq_true (by kernel_rfl)))
def wf_133 (y:Z32):Prop:=(fun n:Int=>IntKind.min .i64≤n∧n≤IntKind.max .i64) y.Z38∧((fun s:List UInt8=>s.length≤reachBytes) y.Z0e∧((fun n:Int=>IntKind.min .i64≤n∧n≤IntKind.max .i64) y.Z0y∧(True)))
theorem rd_133:Z2h Tryz.prog 133 Z3r wf_133:=
 (Z3k (tot:=3) Tryz.underlying133 (by kernel_rfl) (Z0n (n:=1) (Z22 (P:=Tryz.prog) Tryz.underlying3) (by kernel_rfl) (Z0n (n:=1) (Z4h (P:=Tryz.prog) Tryz.underlying9) (by kernel_rfl) (Z0n (n:=1) (Z22 (P:=Tryz.prog) Tryz.underlying3) (by kernel_rfl) Z3i rfl) rfl) rfl)).map (fun p:Int×(List UInt8)×(Int×Unit)=>({ Z38:=p.1,Z0e:=p.2.1,Z0y:=p.2.2.1 }:Z32)) (fun _=>rfl) (fun _ h=>h)
def wf_24 (ys:List Z32):Prop:=(∀ y∈ys,wf_133 y)∧ys.length*Tryz.prog.bytesOf 133≤reachBytes
theorem rd_24:Z2h Tryz.prog 24 (fun ys:List Z32=>[D.sl false (ys.map Z3r)]) wf_24:=Z4m Tryz.underlying24 (row:=Z3r) rd_133 (Nat.lt_of_lt_of_le (by decide:0<1) (Nat.le_of_ble_eq_true (by kernel_rfl)))
def wf_122 (y:Z4i):Prop:=(fun s:List UInt8=>s.length≤reachBytes) y.Z0e∧((fun n:Int=>IntKind.min .i64≤n∧n≤IntKind.max .i64) y.f_A∧((fun n:Int=>IntKind.min .i64≤n∧n≤IntKind.max .i64) y.f_B∧(True)))
theorem rd_122:Z2h Tryz.prog 122 Z4c wf_122:=
 (Z3k (tot:=3) Tryz.underlying122 (by kernel_rfl) (Z0n (n:=1) (Z4h (P:=Tryz.prog) Tryz.underlying9) (by kernel_rfl) (Z0n (n:=1) (Z22 (P:=Tryz.prog) Tryz.underlying3) (by kernel_rfl) (Z0n (n:=1) (Z22 (P:=Tryz.prog) Tryz.underlying3) (by kernel_rfl) Z3i rfl) rfl) rfl)).map (fun p:(List UInt8)×(Int×(Int×Unit))=>({ Z0e:=p.1,f_A:=p.2.1,f_B:=p.2.2.1 }:Z4i)) (fun _=>rfl) (fun _ h=>h)
def wf_25 (ys:List Z4i):Prop:=(∀ y∈ys,wf_122 y)∧ys.length*Tryz.prog.bytesOf 122≤reachBytes
theorem rd_25:Z2h Tryz.prog 25 (fun ys:List Z4i=>[D.sl false (ys.map Z4c)]) wf_25:=Z4m Tryz.underlying25 (row:=Z4c) rd_122 (Nat.lt_of_lt_of_le (by decide:0<1) (Nat.le_of_ble_eq_true (by kernel_rfl)))
def wf_27 (y:Z0w):Prop:=wf_22 y.Z2a∧(wf_23 y.Z0z∧(wf_24 y.Z2l∧(wf_25 y.Z37∧(True))))
theorem rd_27:Z2h Tryz.prog 27 Z27 wf_27:=
 (Z3k (tot:=4) Tryz.underlying27 (by kernel_rfl) (Z0n (n:=1) rd_22 (by kernel_rfl) (Z0n (n:=1) rd_23 (by kernel_rfl) (Z0n (n:=1) rd_24 (by kernel_rfl) (Z0n (n:=1) rd_25 (by kernel_rfl) Z3i rfl) rfl) rfl) rfl)).map (fun p:(List Z1i)×(List Z1x)×(List Z32)×(List Z4i)×Unit=>({ Z2a:=p.1,Z0z:=p.2.1,Z2l:=p.2.2.1,Z37:=p.2.2.2.1 }:Z0w)) (fun _=>rfl) (fun _ h=>h)
def wf_79 (y:Z3f):Prop:=(fun n:Int=>IntKind.min .i64≤n∧n≤IntKind.max .i64) y.Z11∧((fun n:Int=>IntKind.min .u8≤n∧n≤IntKind.max .u8) y.Z15∧((fun n:Int=>IntKind.min .i64≤n∧n≤IntKind.max .i64) y.Z0y∧(True)))
theorem rd_79:Z2h Tryz.prog 79 Z8b wf_79:=
 (Z3k (tot:=3) Tryz.underlying79 (by kernel_rfl) (Z0n (n:=1) (Z22 (P:=Tryz.prog) Tryz.underlying3) (by kernel_rfl) (Z0n (n:=1) (Z22 (P:=Tryz.prog) Tryz.underlying5) (by kernel_rfl) (Z0n (n:=1) (Z22 (P:=Tryz.prog) Tryz.underlying3) (by kernel_rfl) Z3i rfl) rfl) rfl)).map (fun p:Int×(Int×(Int×Unit))=>({ Z11:=p.1,Z15:=p.2.1,Z0y:=p.2.2.1 }:Z3f)) (fun _=>rfl) (fun _ h=>h)
def wf_56 (y:Z0f):Prop:=(fun n:Int=>IntKind.min .i64≤n∧n≤IntKind.max .i64) y.Z1c∧((fun n:Int=>IntKind.min .i64≤n∧n≤IntKind.max .i64) y.f_N∧(True))
theorem rd_56:Z2h Tryz.prog 56 Z1q wf_56:=
 (Z3k (tot:=2) Tryz.underlying56 (by kernel_rfl) (Z0n (n:=1) (Z22 (P:=Tryz.prog) Tryz.underlying3) (by kernel_rfl) (Z0n (n:=1) (Z22 (P:=Tryz.prog) Tryz.underlying3) (by kernel_rfl) Z3i rfl) rfl)).map (fun p:Int×(Int×Unit)=>({ Z1c:=p.1,f_N:=p.2.1 }:Z0f)) (fun _=>rfl) (fun _ h=>h)
def wf_35 (ys:List Z0f):Prop:=(∀ y∈ys,wf_56 y)∧ys.length*Tryz.prog.bytesOf 56≤reachBytes
theorem rd_35:Z2h Tryz.prog 35 (fun ys:List Z0f=>[D.sl false (ys.map Z1q)]) wf_35:=Z4m Tryz.underlying35 (row:=Z1q) rd_56 (Nat.lt_of_lt_of_le (by decide:0<1) (Nat.le_of_ble_eq_true (by kernel_rfl)))
def wf_81 (y:Z2j):Prop:=(fun n:Int=>IntKind.min .i64≤n∧n≤IntKind.max .i64) y.Z1c∧(wf_79 y.Z17∧(wf_35 y.Z4x∧((fun s:List UInt8=>s.length≤reachBytes) y.Z3u∧((fun n:Int=>IntKind.min .i64≤n∧n≤IntKind.max .i64) y.Z80∧((fun n:Int=>IntKind.min .i64≤n∧n≤IntKind.max .i64) y.Z3g∧(wf_59 y.Z5j∧(True)))))))
theorem rd_81:Z2h Tryz.prog 81 Z39 wf_81:=
 (Z3k (tot:=9) Tryz.underlying81 (by kernel_rfl) (Z0n (n:=1) (Z22 (P:=Tryz.prog) Tryz.underlying3) (by kernel_rfl) (Z0n (n:=3) rd_79 (by kernel_rfl) (Z0n (n:=1) rd_35 (by kernel_rfl) (Z0n (n:=1) (Z4h (P:=Tryz.prog) Tryz.underlying9) (by kernel_rfl) (Z0n (n:=1) (Z22 (P:=Tryz.prog) Tryz.underlying3) (by kernel_rfl) (Z0n (n:=1) (Z22 (P:=Tryz.prog) Tryz.underlying3) (by kernel_rfl) (Z0n (n:=1) rd_59 (by kernel_rfl) Z3i rfl) rfl) rfl) rfl) rfl) rfl) rfl)).map (fun p:Int×(Z3f×(List Z0f)×(List UInt8)×(Int×(Int×(List Int)×Unit)))=>({ Z1c:=p.1,Z17:=p.2.1,Z4x:=p.2.2.1,Z3u:=p.2.2.2.1,Z80:=p.2.2.2.2.1,Z3g:=p.2.2.2.2.2.1,Z5j:=p.2.2.2.2.2.2.1 }:Z2j)) (fun _=>rfl) (fun _ h=>h)
def wf_28 (ys:List Z2j):Prop:=(∀ y∈ys,wf_81 y)∧ys.length*Tryz.prog.bytesOf 81≤reachBytes
theorem rd_28:Z2h Tryz.prog 28 (fun ys:List Z2j=>[D.sl false (ys.map Z39)]) wf_28:=Z4m Tryz.underlying28 (row:=Z39) rd_81 (Nat.lt_of_lt_of_le (by decide:0<1) (Nat.le_of_ble_eq_true (by kernel_rfl)))
def wf_129 (y:Z3p):Prop:=(fun n:Int=>IntKind.min .i64≤n∧n≤IntKind.max .i64) y.Z2k∧((fun n:Int=>IntKind.min .i64≤n∧n≤IntKind.max .i64) y.Zag∧(wf_35 y.Z8n∧(True)))
theorem rd_129:Z2h Tryz.prog 129 Z3e wf_129:=
 (Z3k (tot:=3) Tryz.underlying129 (by kernel_rfl) (Z0n (n:=1) (Z22 (P:=Tryz.prog) Tryz.underlying3) (by kernel_rfl) (Z0n (n:=1) (Z22 (P:=Tryz.prog) Tryz.underlying3) (by kernel_rfl) (Z0n (n:=1) rd_35 (by kernel_rfl) Z3i rfl) rfl) rfl)).map (fun p:Int×(Int×(List Z0f)×Unit)=>({ Z2k:=p.1,Zag:=p.2.1,Z8n:=p.2.2.1 }:Z3p)) (fun _=>rfl) (fun _ h=>h)
def wf_29 (ys:List Z3p):Prop:=(∀ y∈ys,wf_129 y)∧ys.length*Tryz.prog.bytesOf 129≤reachBytes
theorem rd_29:Z2h Tryz.prog 29 (fun ys:List Z3p=>[D.sl false (ys.map Z3e)]) wf_29:=Z4m Tryz.underlying29 (row:=Z3e) rd_129 (Nat.lt_of_lt_of_le (by decide:0<1) (Nat.le_of_ble_eq_true (by kernel_rfl)))
def wf_126 (y:Z54):Prop:=(fun s:List UInt8=>s.length≤reachBytes) y.Z3u∧((fun n:Int=>IntKind.min .i64≤n∧n≤IntKind.max .i64) y.Z3s∧(True))
theorem rd_126:Z2h Tryz.prog 126 Z52 wf_126:=
 (Z3k (tot:=2) Tryz.underlying126 (by kernel_rfl) (Z0n (n:=1) (Z4h (P:=Tryz.prog) Tryz.underlying9) (by kernel_rfl) (Z0n (n:=1) (Z22 (P:=Tryz.prog) Tryz.underlying3) (by kernel_rfl) Z3i rfl) rfl)).map (fun p:(List UInt8)×(Int×Unit)=>({ Z3u:=p.1,Z3s:=p.2.1 }:Z54)) (fun _=>rfl) (fun _ h=>h)
def wf_30 (ys:List Z54):Prop:=(∀ y∈ys,wf_126 y)∧ys.length*Tryz.prog.bytesOf 126≤reachBytes
theorem rd_30:Z2h Tryz.prog 30 (fun ys:List Z54=>[D.sl false (ys.map Z52)]) wf_30:=Z4m Tryz.underlying30 (row:=Z52) rd_126 (Nat.lt_of_lt_of_le (by decide:0<1) (Nat.le_of_ble_eq_true (by kernel_rfl)))
def wf_37 (y:Z19):Prop:=(fun n:Int=>IntKind.min .i64≤n∧n≤IntKind.max .i64) y.Z0y∧((fun n:Int=>IntKind.min .i64≤n∧n≤IntKind.max .i64) y.Z5g∧((fun n:Int=>IntKind.min .i64≤n∧n≤IntKind.max .i64) y.f_PC∧(wf_35 y.Z0c∧(wf_35 y.Z0m∧((fun n:Int=>IntKind.min .i64≤n∧n≤IntKind.max .i64) y.Z8x∧((fun _:Bool=>True) y.Z81∧((fun _:Bool=>True) y.Z9v∧(True))))))))
theorem rd_37:Z2h Tryz.prog 37 Z3x wf_37:=
 (Z3k (tot:=8) Tryz.underlying37 (by kernel_rfl) (Z0n (n:=1) (Z22 (P:=Tryz.prog) Tryz.underlying3) (by kernel_rfl) (Z0n (n:=1) (Z22 (P:=Tryz.prog) Tryz.underlying3) (by kernel_rfl) (Z0n (n:=1) (Z22 (P:=Tryz.prog) Tryz.underlying3) (by kernel_rfl) (Z0n (n:=1) rd_35 (by kernel_rfl) (Z0n (n:=1) rd_35 (by kernel_rfl) (Z0n (n:=1) (Z22 (P:=Tryz.prog) Tryz.underlying3) (by kernel_rfl) (Z0n (n:=1) (Zql (P:=Tryz.prog) Tryz.underlying4) (by kernel_rfl) (Z0n (n:=1) (Zql (P:=Tryz.prog) Tryz.underlying4) (by kernel_rfl) Z3i rfl) rfl) rfl) rfl) rfl) rfl) rfl) rfl)).map (fun p:Int×(Int×(Int×(List Z0f)×(List Z0f)×(Int×(Bool×(Bool×Unit)))))=>({ Z0y:=p.1,Z5g:=p.2.1,f_PC:=p.2.2.1,Z0c:=p.2.2.2.1,Z0m:=p.2.2.2.2.1,Z8x:=p.2.2.2.2.2.1,Z81:=p.2.2.2.2.2.2.1,Z9v:=p.2.2.2.2.2.2.2.1 }:Z19)) (fun _=>rfl) (fun _ h=>h)
def wf_85 (ys:List Z19):Prop:=(∀ y∈ys,wf_37 y)∧ys.length*Tryz.prog.bytesOf 37≤reachBytes
theorem rd_85:Z2h Tryz.prog 85 (fun ys:List Z19=>[D.sl false (ys.map Z3x)]) wf_85:=Z4m Tryz.underlying85 (row:=Z3x) rd_37 (Nat.lt_of_lt_of_le (by decide:0<1) (Nat.le_of_ble_eq_true (by kernel_rfl)))
def wf_87 (y:Z1o):Prop:=(fun n:Int=>IntKind.min .i64≤n∧n≤IntKind.max .i64) y.Z2k∧((fun n:Int=>IntKind.min .i64≤n∧n≤IntKind.max .i64) y.Z4w∧((fun n:Int=>IntKind.min .i64≤n∧n≤IntKind.max .i64) y.Z3g∧(wf_85 y.Z0s∧((fun n:Int=>IntKind.min .i64≤n∧n≤IntKind.max .i64) y.Z3s∧((fun n:Int=>IntKind.min .i64≤n∧n≤IntKind.max .i64) y.Z6c∧(wf_56 y.Z3h∧(True)))))))
theorem rd_87:Z2h Tryz.prog 87 Z2s wf_87:=
 (Z3k (tot:=8) Tryz.underlying87 (by kernel_rfl) (Z0n (n:=1) (Z22 (P:=Tryz.prog) Tryz.underlying3) (by kernel_rfl) (Z0n (n:=1) (Z22 (P:=Tryz.prog) Tryz.underlying3) (by kernel_rfl) (Z0n (n:=1) (Z22 (P:=Tryz.prog) Tryz.underlying3) (by kernel_rfl) (Z0n (n:=1) rd_85 (by kernel_rfl) (Z0n (n:=1) (Z22 (P:=Tryz.prog) Tryz.underlying3) (by kernel_rfl) (Z0n (n:=1) (Z22 (P:=Tryz.prog) Tryz.underlying3) (by kernel_rfl) (Z0n (n:=2) rd_56 (by kernel_rfl) Z3i rfl) rfl) rfl) rfl) rfl) rfl) rfl)).map (fun p:Int×(Int×(Int×(List Z19)×(Int×(Int×(Z0f×Unit)))))=>({ Z2k:=p.1,Z4w:=p.2.1,Z3g:=p.2.2.1,Z0s:=p.2.2.2.1,Z3s:=p.2.2.2.2.1,Z6c:=p.2.2.2.2.2.1,Z3h:=p.2.2.2.2.2.2.1 }:Z1o)) (fun _=>rfl) (fun _ h=>h)
def wf_31 (ys:List Z1o):Prop:=(∀ y∈ys,wf_87 y)∧ys.length*Tryz.prog.bytesOf 87≤reachBytes
theorem rd_31:Z2h Tryz.prog 31 (fun ys:List Z1o=>[D.sl false (ys.map Z2s)]) wf_31:=Z4m Tryz.underlying31 (row:=Z2s) rd_87 (Nat.lt_of_lt_of_le (by decide:0<1) (Nat.le_of_ble_eq_true (by kernel_rfl)))
def wf_34 (y:Z0a):Prop:=wf_27 y.Z1m∧((fun n:Int=>IntKind.min .i64≤n∧n≤IntKind.max .i64) y.Z5o∧(wf_28 y.Z1u∧(wf_29 y.Z3w∧(wf_30 y.Z3c∧(wf_31 y.Z0v∧(wf_32 y.Z4r∧(True)))))))
theorem rd_34:Z2h Tryz.prog 34 Z10 wf_34:=
 (Z3k (tot:=10) Tryz.underlying34 (by kernel_rfl) (Z0n (n:=4) rd_27 (by kernel_rfl) (Z0n (n:=1) (Z22 (P:=Tryz.prog) Tryz.underlying3) (by kernel_rfl) (Z0n (n:=1) rd_28 (by kernel_rfl) (Z0n (n:=1) rd_29 (by kernel_rfl) (Z0n (n:=1) rd_30 (by kernel_rfl) (Z0n (n:=1) rd_31 (by kernel_rfl) (Z0n (n:=1) rd_32 (by kernel_rfl) Z3i rfl) rfl) rfl) rfl) rfl) rfl) rfl)).map (fun p:Z0w×(Int×(List Z2j)×(List Z3p)×(List Z54)×(List Z1o)×(List (List UInt8))×Unit)=>({ Z1m:=p.1,Z5o:=p.2.1,Z1u:=p.2.2.1,Z3w:=p.2.2.2.1,Z3c:=p.2.2.2.2.1,Z0v:=p.2.2.2.2.2.1,Z4r:=p.2.2.2.2.2.2.1 }:Z0a)) (fun _=>rfl) (fun _ h=>h)
theorem rlS {n:Nat} (h:n≤reachBytes):n≤4503599627370496:=Nat.le_trans h (by decide)
theorem rlB {n b k:Nat} (e:b=k) (h:n*b≤reachBytes):n*k≤140737488355328:=by have:=Zxq h; rw [e] at this; omega
theorem rlN {n b:Nat} (e:1≤b) (h:n*b≤reachBytes):n≤140737488355328:=Nat.le_trans (Nat.le_trans (Nat.le_of_eq (Nat.mul_one n).symm) (Nat.mul_le_mul_left n e)) (by have:=Zxq h; omega)
theorem ws_T_api_Ref {y:Z20} (h:wf_61 y):WRef y:=⟨rlS h.1,rlS h.2.1,rlS h.2.2.1⟩
theorem ws_T_api_Insn {y:Z02} (h:wf_63 y):Z36 y:=⟨rlB (by kernel_rfl) h.2.2.2.2.1.2,rlB (by kernel_rfl) h.2.2.2.2.2.1.2,ws_T_api_Ref h.2.2.2.2.2.2.1,rlS h.2.2.2.2.2.2.2.1⟩
theorem ws_T_api_Frame {y:Z5y} (h:wf_114 y):Z97 y:=⟨fun v hv=>rlS (h.1.1 v hv).2.2.1.2.2.1,rlB (by kernel_rfl) h.1.2,fun v hv=>rlS (h.2.1.1 v hv).2.2.1.2.2.1,rlB (by kernel_rfl) h.2.1.2⟩
theorem ws_T_api_Code {y:Z09} (h:wf_73 y):Z5v y:=⟨fun v hv=>ws_T_api_Insn (h.2.2.1.1 v hv),rlB (by kernel_rfl) h.2.2.1.2,fun v hv=>rlS (h.2.2.2.1.1 v hv).2.2.2.2.1,rlB (by kernel_rfl) h.2.2.2.1.2,fun v hv=>ws_T_api_Frame (h.2.2.2.2.1.1 v hv).2.1,rlB (by kernel_rfl) h.2.2.2.2.1.2,rlB (by kernel_rfl) h.2.2.2.2.2.1.2⟩
theorem ws_T_api_Method {y:Z1r} (h:wf_90 y):Zd6 y:=⟨rlS h.2.1,rlS h.2.2.1,ws_T_api_Code h.2.2.2.2.1,fun v hv=>rlS (h.2.2.2.2.2.1.1 v hv),rlB (by kernel_rfl) h.2.2.2.2.2.1.2⟩
theorem ws_T_api_Field {y:Z5w} (h:wf_173 y):Ztb y:=⟨rlS h.2.1,rlS h.2.2.1,rlS h.2.2.2.2.2.1⟩
theorem ws_T_api_ClassModel {y:Z0u} (h:wf_103 y):Z5u y:=⟨rlS h.2.1,rlS h.2.2.1,fun v hv=>rlS (h.2.2.2.1.1 v hv),rlB (by kernel_rfl) h.2.2.2.1.2,fun v hv=>ws_T_api_Field (h.2.2.2.2.1.1 v hv),rlB (by kernel_rfl) h.2.2.2.2.1.2,fun v hv=>ws_T_api_Method (h.2.2.2.2.2.1.1 v hv),rlB (by kernel_rfl) h.2.2.2.2.2.1.2,rlS h.2.2.2.2.2.2.1⟩
theorem ws_T_api_Loader {y:Z1i} (h:wf_154 y):Z84 y:=⟨fun v hv=>rlS (h.1.1 v hv).1,rlN (Nat.le_of_ble_eq_true (by kernel_rfl)) h.1.2,fun v hv=>rlS (h.2.1.1 v hv).1,rlN (Nat.le_of_ble_eq_true (by kernel_rfl)) h.2.1.2⟩
theorem ws_T_api_ClassSpace {y:Z0w} (h:wf_27 y):Z5d y:=⟨fun v hv=>ws_T_api_Loader (h.1.1 v hv),rlN (Nat.le_of_ble_eq_true (by kernel_rfl)) h.1.2,fun v hv=>⟨ws_T_api_ClassModel (h.2.1.1 v hv).2.1,rlN (Nat.le_of_ble_eq_true (by kernel_rfl)) (h.2.1.1 v hv).2.2.2.1.2⟩,rlN (Nat.le_of_ble_eq_true (by kernel_rfl)) h.2.1.2,fun v hv=>rlS (h.2.2.1.1 v hv).2.1,rlN (Nat.le_of_ble_eq_true (by kernel_rfl)) h.2.2.1.2,fun v hv=>rlS (h.2.2.2.1.1 v hv).1,rlN (Nat.le_of_ble_eq_true (by kernel_rfl)) h.2.2.2.1.2⟩
theorem ws_T_api_Object {y:Z2j} (h:wf_81 y):WObj y:=⟨rlN (Nat.le_of_ble_eq_true (by kernel_rfl)) h.2.2.1.2,rlS h.2.2.2.1,rlN (Nat.le_of_ble_eq_true (by kernel_rfl)) h.2.2.2.2.2.2.1.2⟩
theorem ws_T_api_Activation {y:Z19} (h:wf_37 y):Z9k y:=⟨rlN (Nat.le_of_ble_eq_true (by kernel_rfl)) h.2.2.2.1.2,rlN (Nat.le_of_ble_eq_true (by kernel_rfl)) h.2.2.2.2.1.2⟩
theorem ws_T_api_Machine {y:Z0a} (h:wf_34 y):Z3l y:=⟨ws_T_api_ClassSpace h.1,fun v hv=>ws_T_api_Object (h.2.2.1.1 v hv),rlN (Nat.le_of_ble_eq_true (by kernel_rfl)) h.2.2.1.2,fun v hv=>rlN (Nat.le_of_ble_eq_true (by kernel_rfl)) (h.2.2.2.1.1 v hv).2.2.1.2,rlN (Nat.le_of_ble_eq_true (by kernel_rfl)) h.2.2.2.1.2,fun v hv=>rlS (h.2.2.2.2.1.1 v hv).1,rlN (Nat.le_of_ble_eq_true (by kernel_rfl)) h.2.2.2.2.1.2,fun v hv=>⟨fun a ha=>ws_T_api_Activation ((h.2.2.2.2.2.1.1 v hv).2.2.2.1.1 a ha),rlN (Nat.le_of_ble_eq_true (by kernel_rfl)) (h.2.2.2.2.2.1.1 v hv).2.2.2.1.2⟩,rlN (Nat.le_of_ble_eq_true (by kernel_rfl)) h.2.2.2.2.2.1.2,rlN (Nat.le_of_ble_eq_true (by kernel_rfl)) h.2.2.2.2.2.2.1.2⟩
set_option maxRecDepth 100000 in
theorem lifted (os:Os) (started:os.Started) (H:Type) (enc:TypeId×Value→H):
  ReturnsInHanded {} Tryz.checked os 4 .any (Rows.callstackPushPopSpec.pre6 enc Tryz.prog Tryz.f4 Rows.callstackPushPopRow.domain false) (Rows.callstackPushPopSpec.post enc Tryz.prog Tryz.f4 false true false false):=by
 refine returnsInHanded_of_change_sized (C:=Tryz.checked) own started (by kernel_rfl) Tryz.func4
  (ChangeSpec.witness6 (enc:=enc) (C:=Tryz.checked) false ⟨#[],#[.agg #[.slice none 0 0,.slice none 0 0,.slice none 0 0,.slice none 0 0,.int .i64 0,.slice none 0 0,.slice none 0 0,.slice none 0 0,.slice none 0 0,.slice none 0 0],.int .i64 0,.int .i64 0,.int .i64 0,.slice none 0 0],[]⟩ 8 (by kernel_rfl) (by kernel_rfl) (by kernel_rfl) (by kernel_rfl)) ?_
 intro W base args ds gs before hval0 hW hcnd hsz _
 have hval:∀ (j:Nat) t v,Tryz.f4.params[j]?=some t→args[j]?=some v→Value.okWide Tryz.prog W .any base t v:=hval0
 have hW':=hW
 obtain ⟨p,q,hA0,hV,rfl,hfz,hnd⟩:=hW
 have hA:DataW.TrodAll enc Tryz.prog W 0 (fun _=>true) true Tryz.f4.params.toList args.toList ds p:=hA0
 rw [Tryz.params4] at hA hval
 obtain ⟨v0,vs0,d0,ds0,p0,q0,hargs,rfl,rfl,h0,r0⟩:=trodAll_cons hA
 obtain ⟨v1,vs1,d1,ds1,p1,q1,rfl,rfl,rfl,h1,r1⟩:=trodAll_cons r0
 obtain ⟨v2,vs2,d2,ds2,p2,q2,rfl,rfl,rfl,h2,r2⟩:=trodAll_cons r1
 obtain ⟨v3,vs3,d3,ds3,p3,q3,rfl,rfl,rfl,h3,r3⟩:=trodAll_cons r2
 obtain ⟨v4,vs4,d4,ds4,p4,q4,rfl,rfl,rfl,h4,r4⟩:=trodAll_cons r3
 obtain ⟨rfl,rfl,rfl⟩:=trodAll_nil r4
 obtain rfl:args= #[v0,v1,v2,v3,v4] :=by cases args; simp_all
 obtain ⟨rfl,rfl⟩:=trodVars_none hV
 have hsz2:(DataW.weightsEach Tryz.prog (Tryz.f4.params.toList++[]) ([d0,d1,d2,d3,d4]++[])).all (· ≤reachBytes)=true:=hsz
 rw [Tryz.params4] at hsz2
 simp only [List.append_nil,DataW.weightsEach,List.all_append,Bool.and_eq_true] at hsz2
 obtain ⟨z0,z1,z2,z3,z4⟩:=hsz2
 obtain ⟨y0,c0,g0⟩:=arg_agg (M:=Z7u.reach Tryz.prog) Tryz.underlying34 rd_34 (hval 0 34 v0 rfl rfl) h0 z0
 obtain ⟨_,rfl⟩:=okWide_int Tryz.underlying3 (hval 1 3 v1 rfl rfl)
 obtain ⟨y1,c1,g1⟩:=Zkj (M:=Z7u.reach Tryz.prog) (f:=(fun n:Int=>D.int .i64 n)) (Z22 (P:=Tryz.prog) Tryz.underlying3) rfl h1 z1
 obtain ⟨_,rfl⟩:=okWide_int Tryz.underlying3 (hval 2 3 v2 rfl rfl)
 obtain ⟨y2,c2,g2⟩:=Zkj (M:=Z7u.reach Tryz.prog) (f:=(fun n:Int=>D.int .i64 n)) (Z22 (P:=Tryz.prog) Tryz.underlying3) rfl h2 z2
 obtain ⟨_,rfl⟩:=okWide_int Tryz.underlying3 (hval 3 3 v3 rfl rfl)
 obtain ⟨y3,c3,g3⟩:=Zkj (M:=Z7u.reach Tryz.prog) (f:=(fun n:Int=>D.int .i64 n)) (Z22 (P:=Tryz.prog) Tryz.underlying3) rfl h3 z3
 obtain ⟨_,_,_,rfl⟩:=okWide_slice Tryz.underlying35 (hval 4 35 v4 rfl rfl)
 obtain ⟨y4,c4,g4⟩:=Zkj (M:=Z7u.reach Tryz.prog) (f:=(fun ys:List Z0f=>D.sl false (ys.map Z1q))) rd_35 rfl h4 z4
 exact Y99 (P:=Tryz.prog) (fn:=Tryz.f4) (tb:=4) rfl (by kernel_rfl) Tryz.underlying4 laid (by kernel_rfl) hW' rfl (.cons c0 (.cons c1 (.cons c2 (.cons c3 (.cons c4 .nil))))) (w4 (Y9w y0 (ws_T_api_Machine g0) y1 y2 y3 y4))
theorem am {a b:Bool} (h:a=true) (g:b=true):(a&&b)=true:=by rw [h,g]; rfl
theorem k0:Rows.callstackPushPopRow.wf (OpenSpec.ofChange Rows.callstackPushPopSpec)=true:=by kernel_rfl
theorem k1:laidOutB Tryz.prog=true:=by kernel_rfl
theorem k2:mapsRowed Tryz.prog=true:=by kernel_rfl
theorem k3:Tryz.f4.params.all (Tryz.prog.readableRec ·)=true:=by kernel_rfl
theorem k4:namedTie Tryz.prog Rows.callstackPushPopRow.named Rows.callstackPushPopSpec.vars=true:=by kernel_rfl
theorem k5:(Rows.callstackPushPopRow.stops==[])=true:=by kernel_rfl
theorem k6:(Tryz.prog.stops==[])=true:=by kernel_rfl
theorem k7:(Rows.callstackPushPopRow.knobs==[])=true:=by kernel_rfl
theorem k8:(Tryz.prog.stopKnobs==[])=true:=by kernel_rfl
theorem k9:(Rows.callstackPushPopRow.inPlace==Tryz.prog.inPlace 4)=true:=by kernel_rfl
theorem k10:(Rows.callstackPushPopRow.unfollowed==Tryz.prog.unfollowed 4)=true:=by kernel_rfl
theorem k11:(Rows.callstackPushPopRow.recurses==Tryz.prog.recurses 4)=true:=by kernel_rfl
theorem k12:(Rows.callstackPushPopRow.named==Tryz.prog.varsNamed 4)=true:=by kernel_rfl
theorem k13:(Rows.callstackPushPopRow.maps==(Tryz.f4.params.toList++Rows.callstackPushPopSpec.plain.varTypes Tryz.prog).any (Tryz.prog.mapsRec ·))=true:=by kernel_rfl
theorem k14:(Rows.callstackPushPopRow.ifaces==(Tryz.f4.params.toList++Rows.callstackPushPopSpec.plain.varTypes Tryz.prog).any (Tryz.prog.ifacesRec ·))=true:=by kernel_rfl
theorem k15:(Rows.callstackPushPopRow.mapsOut==Tryz.prog.mapsAmong Tryz.f4.resultTypes.toList)=true:=by kernel_rfl
theorem k16:(Rows.callstackPushPopRow.loops==(Tryz.f4.params.toList++Rows.callstackPushPopSpec.plain.varTypes Tryz.prog).any (Tryz.prog.loopsFrom ·))=true:=by kernel_rfl
theorem k17:(Rows.callstackPushPopRow.wideKeys==(Tryz.f4.params.toList++Rows.callstackPushPopSpec.plain.varTypes Tryz.prog++Tryz.f4.resultTypes.toList).any (Tryz.prog.wideKeysFrom ·))=true:=by kernel_rfl
theorem k18:Rows.callstackPushPopSpec.vars.all (Tryz.prog.varReadable ·)=true:=by kernel_rfl
theorem k19:Tryz.f4.resultTypes.all (fun t=>Tryz.prog.readableRec t&&decide (t<Tryz.prog.types.size))=true:=by kernel_rfl
theorem k20:(Rows.callstackPushPopRow.ifacesOut==Tryz.f4.resultTypes.toList.any (Tryz.prog.ifacesRec ·))=true:=by kernel_rfl
theorem k21:(Rows.callstackPushPopRow.loopsOut==Tryz.f4.resultTypes.toList.any (Tryz.prog.loopsFrom ·))=true:=by kernel_rfl
theorem k22:(Rows.callstackPushPopRow.plainKeys==Tryz.prog.plainKeys)=true:=by kernel_rfl
theorem k23:Rows.callstackPushPopRow.shortTexts.isNone=true:=by kernel_rfl
theorem k24:Tryz.prog.stopsHeard=true:=by kernel_rfl
theorem k25:Tryz.prog.mayEnter=true:=by kernel_rfl
theorem k26:(Rows.callstackPushPopRow.lifted==Tryz.prog.liftsFinal)=true:=by kernel_rfl
theorem k27:(Tryz.prog.make==some Rows.callstackPushPopRow.make)=true:=by kernel_rfl
theorem k28:(Rows.callstackPushPopRow.kinds==(if Rows.callstackPushPopRow.domain.isEmpty then [] else Tryz.f4.params.toList.map fun t=>match Tryz.prog.underlying t with|some (.int k)=>some k|_=>none))=true:=by kernel_rfl
theorem k29:(Rows.callstackPushPopRow.pinned==Rows.callstackPushPopRow.pinnedBy)=true:=by kernel_rfl
theorem k30:(Rows.callstackPushPopRow.veiled==(Tryz.f4.params.toList++Rows.callstackPushPopSpec.plain.varTypes Tryz.prog++Tryz.f4.resultTypes.toList).any (Tryz.prog.veiledRec ·))=true:=by kernel_rfl
theorem k31:Rows.callstackPushPopRow.veiledFits Tryz.prog Tryz.f4.params.toList (Tryz.f4.params.toList++Rows.callstackPushPopSpec.plain.varTypes Tryz.prog++Tryz.f4.resultTypes.toList)=true:=by kernel_rfl
set_option maxRecDepth 100000 in
theorem closed:joinedFacts Tryz.prog 4 Tryz.f4 Rows.callstackPushPopSpec Rows.callstackPushPopRow=true:=(am (am (am (am (am (am (am (am (am (am (am (am (am (am (am (am (am (am (am (am (am (am (am (am (am (am (am (am (am (am (am k0 k1) k2) k3) k4) k5) k6) k7) k8) k9) k10) k11) k12) k13) k14) k15) k16) k17) k18) k19) k20) k21) k22) k23) k24) k25) k26) k27) k28) k29) k30) k31)
theorem inst:Tryz.f4.isInstance Tryz.prog Rows.callstackPushPopRow.origin Rows.callstackPushPopRow.targs:=of_decide_eq_true (by kernel_rfl)
theorem named:Tryz.prog.funcNamed Rows.callstackPushPopRow.func=some 4:=by kernel_rfl
theorem wrapped:Tryz.f4.isWrapper Tryz.prog Rows.callstackPushPopRow.wrapper Rows.callstackPushPopRow.mainSum:=by unfold Func.isWrapper; first|(rw [if_pos (by decide+kernel)]; kernel_rfl)|(rw [if_neg (by decide+kernel)]; exact ⟨rfl,rfl⟩)
theorem over:Rows.callstackPushPopRow.holds Tryz.pinned (OpenSpec.ofChange Rows.callstackPushPopSpec):=
 OpenClaim.holds_of_wide 4 Tryz.f4 rfl rfl rfl rfl rfl rfl rfl ⟨rfl,rfl,rfl,rfl,rfl⟩ rfl rfl rfl rfl rfl named Tryz.func4 closed inst wrapped
  (fun os started H enc _=>lifted os started H enc)
theorem proved:Rows.CallstackPushPopSaid:=
 over
#print axioms proved
end Go.Proofs.YtiogflechpgdiaaGreat.callstackPushPop
