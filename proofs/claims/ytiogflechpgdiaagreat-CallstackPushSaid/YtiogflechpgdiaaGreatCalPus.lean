/-
  The law CallstackPush holds for every input: the function returns true, and Z6u argument reads behind the call as it read before. No condition.
-/
import Derived.Test.YtiogflechpgdiaaGreatCalL8
import Derived.WalkKit
import Derived.ProofKit
import Derived.OpenShut
import Derived.ChangeMaps5
namespace Go.Proofs.YtiogflechpgdiaaGreat.callstackPush
open Go.ChangeShapes Go.WideShapes Go.ChangeAt Go.RowKit Go.ChangeMaps Go.Den
set_option linter.unusedVariables false
theorem own:ownKnob Tryz.prog.godebug=none:=by kernel_rfl
theorem laid:laidOutB Tryz.prog=true:=by kernel_rfl
def wf_156 (y:Z9i):Prop:=(fun s:List UInt8=>s.length≤reachBytes) y.Zdd∧((fun n:Int=>IntKind.min .i64≤n∧n≤IntKind.max .i64) y.f_To∧(True))
theorem rd_156:Z2l Tryz.prog 156 Zgw wf_156:=
 (Z3p (tot:=2) Tryz.underlying156 (by kernel_rfl) (Z0m (n:=1) (Z4d (P:=Tryz.prog) Tryz.underlying9) (by kernel_rfl) (Z0m (n:=1) (Z1y (P:=Tryz.prog) Tryz.underlying3) (by kernel_rfl) Z3q rfl) rfl)).map (fun p:(List UInt8)×(Int×Unit)=>({ Zdd:=p.1,f_To:=p.2.1 }:Z9i)) (fun _=>rfl) (fun _ h=>h)
def wf_151 (ys:List Z9i):Prop:=(∀ y∈ys,wf_156 y)∧ys.length*Tryz.prog.bytesOf 156≤reachBytes
theorem rd_151:Z2l Tryz.prog 151 (fun ys:List Z9i=>[D.sl false (ys.map Zgw)]) wf_151:=Z4n Tryz.underlying151 (row:=Zgw) rd_156 (Nat.lt_of_lt_of_le (by decide:0<1) (Nat.le_of_ble_eq_true (by kernel_rfl)))
def wf_178 (y:Z9h):Prop:=(fun s:List UInt8=>s.length≤reachBytes) y.Z0e∧((fun s:List UInt8=>s.length≤reachBytes) y.Z38∧(True))
theorem rd_178:Z2l Tryz.prog 178 Zfh wf_178:=
 (Z3p (tot:=2) Tryz.underlying178 (by kernel_rfl) (Z0m (n:=1) (Z4d (P:=Tryz.prog) Tryz.underlying9) (by kernel_rfl) (Z0m (n:=1) (Z4d (P:=Tryz.prog) Tryz.underlying9) (by kernel_rfl) Z3q rfl) rfl)).map (fun p:(List UInt8)×(List UInt8)×Unit=>({ Z0e:=p.1,Z38:=p.2.1 }:Z9h)) (fun _=>rfl) (fun _ h=>h)
def wf_152 (ys:List Z9h):Prop:=(∀ y∈ys,wf_178 y)∧ys.length*Tryz.prog.bytesOf 178≤reachBytes
theorem rd_152:Z2l Tryz.prog 152 (fun ys:List Z9h=>[D.sl false (ys.map Zfh)]) wf_152:=Z4n Tryz.underlying152 (row:=Zfh) rd_178 (Nat.lt_of_lt_of_le (by decide:0<1) (Nat.le_of_ble_eq_true (by kernel_rfl)))
def wf_154 (y:Z1c):Prop:=wf_151 y.Z3z∧(wf_152 y.Z3m∧(True))
theorem rd_154:Z2l Tryz.prog 154 Z1s wf_154:=
 (Z3p (tot:=2) Tryz.underlying154 (by kernel_rfl) (Z0m (n:=1) rd_151 (by kernel_rfl) (Z0m (n:=1) rd_152 (by kernel_rfl) Z3q rfl) rfl)).map (fun p:(List Z9i)×(List Z9h)×Unit=>({ Z3z:=p.1,Z3m:=p.2.1 }:Z1c)) (fun _=>rfl) (fun _ h=>h)
def wf_22 (ys:List Z1c):Prop:=(∀ y∈ys,wf_154 y)∧ys.length*Tryz.prog.bytesOf 154≤reachBytes
theorem rd_22:Z2l Tryz.prog 22 (fun ys:List Z1c=>[D.sl false (ys.map Z1s)]) wf_22:=Z4n Tryz.underlying22 (row:=Z1s) rd_154 (Nat.lt_of_lt_of_le (by decide:0<1) (Nat.le_of_ble_eq_true (by kernel_rfl)))
def wf_32 (ys:List (List UInt8)):Prop:=(∀ y∈ys,(fun s:List UInt8=>s.length≤reachBytes) y)∧ys.length*Tryz.prog.bytesOf 9≤reachBytes
theorem rd_32:Z2l Tryz.prog 32 (fun ys:List (List UInt8)=>[D.sl false (ys.map Z2k)]) wf_32:=Z4n Tryz.underlying32 (row:=Z2k) (Z4d (P:=Tryz.prog) Tryz.underlying9) (Nat.lt_of_lt_of_le (by decide:0<1) (Nat.le_of_ble_eq_true (by kernel_rfl)))
def wf_173 (y:Z5t):Prop:=(fun n:Int=>IntKind.min .i64≤n∧n≤IntKind.max .i64) y.Z0v∧((fun s:List UInt8=>s.length≤reachBytes) y.Z0e∧((fun s:List UInt8=>s.length≤reachBytes) y.Z2b∧((fun n:Int=>IntKind.min .i64≤n∧n≤IntKind.max .i64) y.Z5k∧((fun n:Int=>IntKind.min .i64≤n∧n≤IntKind.max .i64) y.f_N∧((fun s:List UInt8=>s.length≤reachBytes) y.f_S∧(True))))))
theorem rd_173:Z2l Tryz.prog 173 Z8d wf_173:=
 (Z3p (tot:=6) Tryz.underlying173 (by kernel_rfl) (Z0m (n:=1) (Z1y (P:=Tryz.prog) Tryz.underlying3) (by kernel_rfl) (Z0m (n:=1) (Z4d (P:=Tryz.prog) Tryz.underlying9) (by kernel_rfl) (Z0m (n:=1) (Z4d (P:=Tryz.prog) Tryz.underlying9) (by kernel_rfl) (Z0m (n:=1) (Z1y (P:=Tryz.prog) Tryz.underlying3) (by kernel_rfl) (Z0m (n:=1) (Z1y (P:=Tryz.prog) Tryz.underlying3) (by kernel_rfl) (Z0m (n:=1) (Z4d (P:=Tryz.prog) Tryz.underlying9) (by kernel_rfl) Z3q rfl) rfl) rfl) rfl) rfl) rfl)).map (fun p:Int×(List UInt8)×(List UInt8)×(Int×(Int×(List UInt8)×Unit))=>({ Z0v:=p.1,Z0e:=p.2.1,Z2b:=p.2.2.1,Z5k:=p.2.2.2.1,f_N:=p.2.2.2.2.1,f_S:=p.2.2.2.2.2.1 }:Z5t)) (fun _=>rfl) (fun _ h=>h)
def wf_100 (ys:List Z5t):Prop:=(∀ y∈ys,wf_173 y)∧ys.length*Tryz.prog.bytesOf 173≤reachBytes
theorem rd_100:Z2l Tryz.prog 100 (fun ys:List Z5t=>[D.sl false (ys.map Z8d)]) wf_100:=Z4n Tryz.underlying100 (row:=Z8d) rd_173 (Nat.lt_of_lt_of_le (by decide:0<1) (Nat.le_of_ble_eq_true (by kernel_rfl)))
def wf_59 (ys:List Int):Prop:=(∀ y∈ys,(fun n:Int=>IntKind.min .i64≤n∧n≤IntKind.max .i64) y)∧ys.length*Tryz.prog.bytesOf 3≤reachBytes
theorem rd_59:Z2l Tryz.prog 59 (fun ys:List Int=>[D.sl false (ys.map Z03)]) wf_59:=Z4n Tryz.underlying59 (row:=Z03) (Z1y (P:=Tryz.prog) Tryz.underlying3) (Nat.lt_of_lt_of_le (by decide:0<1) (Nat.le_of_ble_eq_true (by kernel_rfl)))
def wf_61 (y:Z21):Prop:=(fun s:List UInt8=>s.length≤reachBytes) y.Z0z∧((fun s:List UInt8=>s.length≤reachBytes) y.Z0e∧((fun s:List UInt8=>s.length≤reachBytes) y.Z2b∧(True)))
theorem rd_61:Z2l Tryz.prog 61 Zqo wf_61:=
 (Z3p (tot:=3) Tryz.underlying61 (by kernel_rfl) (Z0m (n:=1) (Z4d (P:=Tryz.prog) Tryz.underlying9) (by kernel_rfl) (Z0m (n:=1) (Z4d (P:=Tryz.prog) Tryz.underlying9) (by kernel_rfl) (Z0m (n:=1) (Z4d (P:=Tryz.prog) Tryz.underlying9) (by kernel_rfl) Z3q rfl) rfl) rfl)).map (fun p:(List UInt8)×(List UInt8)×(List UInt8)×Unit=>({ Z0z:=p.1,Z0e:=p.2.1,Z2b:=p.2.2.1 }:Z21)) (fun _=>rfl) (fun _ h=>h)
def wf_63 (y:Z02):Prop:=(fun n:Int=>IntKind.min .i64≤n∧n≤IntKind.max .i64) y.f_Op∧((fun n:Int=>IntKind.min .i64≤n∧n≤IntKind.max .i64) y.f_A∧((fun n:Int=>IntKind.min .i64≤n∧n≤IntKind.max .i64) y.f_B∧((fun n:Int=>IntKind.min .i64≤n∧n≤IntKind.max .i64) y.f_To∧(wf_59 y.Z15∧(wf_59 y.Z0d∧(wf_61 y.Z1o∧((fun s:List UInt8=>s.length≤reachBytes) y.f_S∧(True))))))))
theorem rd_63:Z2l Tryz.prog 63 Z0h wf_63:=
 (Z3p (tot:=10) Tryz.underlying63 (by kernel_rfl) (Z0m (n:=1) (Z1y (P:=Tryz.prog) Tryz.underlying3) (by kernel_rfl) (Z0m (n:=1) (Z1y (P:=Tryz.prog) Tryz.underlying3) (by kernel_rfl) (Z0m (n:=1) (Z1y (P:=Tryz.prog) Tryz.underlying3) (by kernel_rfl) (Z0m (n:=1) (Z1y (P:=Tryz.prog) Tryz.underlying3) (by kernel_rfl) (Z0m (n:=1) rd_59 (by kernel_rfl) (Z0m (n:=1) rd_59 (by kernel_rfl) (Z0m (n:=3) rd_61 (by kernel_rfl) (Z0m (n:=1) (Z4d (P:=Tryz.prog) Tryz.underlying9) (by kernel_rfl) Z3q rfl) rfl) rfl) rfl) rfl) rfl) rfl) rfl)).map (fun p:Int×(Int×(Int×(Int×(List Int)×(List Int)×(Z21×(List UInt8)×Unit))))=>({ f_Op:=p.1,f_A:=p.2.1,f_B:=p.2.2.1,f_To:=p.2.2.2.1,Z15:=p.2.2.2.2.1,Z0d:=p.2.2.2.2.2.1,Z1o:=p.2.2.2.2.2.2.1,f_S:=p.2.2.2.2.2.2.2.1 }:Z02)) (fun _=>rfl) (fun _ h=>h)
def wf_68 (ys:List Z02):Prop:=(∀ y∈ys,wf_63 y)∧ys.length*Tryz.prog.bytesOf 63≤reachBytes
theorem rd_68:Z2l Tryz.prog 68 (fun ys:List Z02=>[D.sl false (ys.map Z0h)]) wf_68:=Z4n Tryz.underlying68 (row:=Z0h) rd_63 (Nat.lt_of_lt_of_le (by decide:0<1) (Nat.le_of_ble_eq_true (by kernel_rfl)))
def wf_111 (y:Z0s):Prop:=(fun n:Int=>IntKind.min .i64≤n∧n≤IntKind.max .i64) y.Z64∧((fun n:Int=>IntKind.min .i64≤n∧n≤IntKind.max .i64) y.f_To∧((fun n:Int=>IntKind.min .i64≤n∧n≤IntKind.max .i64) y.Z68∧((fun n:Int=>IntKind.min .i64≤n∧n≤IntKind.max .i64) y.Z0z∧((fun s:List UInt8=>s.length≤reachBytes) y.Z1a∧(True)))))
theorem rd_111:Z2l Tryz.prog 111 Z16 wf_111:=
 (Z3p (tot:=5) Tryz.underlying111 (by kernel_rfl) (Z0m (n:=1) (Z1y (P:=Tryz.prog) Tryz.underlying3) (by kernel_rfl) (Z0m (n:=1) (Z1y (P:=Tryz.prog) Tryz.underlying3) (by kernel_rfl) (Z0m (n:=1) (Z1y (P:=Tryz.prog) Tryz.underlying3) (by kernel_rfl) (Z0m (n:=1) (Z1y (P:=Tryz.prog) Tryz.underlying3) (by kernel_rfl) (Z0m (n:=1) (Z4d (P:=Tryz.prog) Tryz.underlying9) (by kernel_rfl) Z3q rfl) rfl) rfl) rfl) rfl)).map (fun p:Int×(Int×(Int×(Int×(List UInt8)×Unit)))=>({ Z64:=p.1,f_To:=p.2.1,Z68:=p.2.2.1,Z0z:=p.2.2.2.1,Z1a:=p.2.2.2.2.1 }:Z0s)) (fun _=>rfl) (fun _ h=>h)
def wf_69 (ys:List Z0s):Prop:=(∀ y∈ys,wf_111 y)∧ys.length*Tryz.prog.bytesOf 111≤reachBytes
theorem rd_69:Z2l Tryz.prog 69 (fun ys:List Z0s=>[D.sl false (ys.map Z16)]) wf_69:=Z4n Tryz.underlying69 (row:=Z16) rd_111 (Nat.lt_of_lt_of_le (by decide:0<1) (Nat.le_of_ble_eq_true (by kernel_rfl)))
def wf_141 (y:Z0i):Prop:=(fun n:Int=>IntKind.min .i64≤n∧n≤IntKind.max .i64) y.Z14∧((fun n:Int=>IntKind.min .u8≤n∧n≤IntKind.max .u8) y.Z18∧((fun s:List UInt8=>s.length≤reachBytes) y.Z0e∧(True)))
theorem rd_141:Z2l Tryz.prog 141 Z27 wf_141:=
 (Z3p (tot:=3) Tryz.underlying141 (by kernel_rfl) (Z0m (n:=1) (Z1y (P:=Tryz.prog) Tryz.underlying3) (by kernel_rfl) (Z0m (n:=1) (Z1y (P:=Tryz.prog) Tryz.underlying5) (by kernel_rfl) (Z0m (n:=1) (Z4d (P:=Tryz.prog) Tryz.underlying9) (by kernel_rfl) Z3q rfl) rfl) rfl)).map (fun p:Int×(Int×(List UInt8)×Unit)=>({ Z14:=p.1,Z18:=p.2.1,Z0e:=p.2.2.1 }:Z0i)) (fun _=>rfl) (fun _ h=>h)
def wf_150 (y:Z0l):Prop:=(fun n:Int=>IntKind.min .i64≤n∧n≤IntKind.max .i64) y.Z1e∧((fun n:Int=>IntKind.min .i64≤n∧n≤IntKind.max .i64) y.Z42∧(wf_141 y.Z1a∧((fun n:Int=>IntKind.min .i64≤n∧n≤IntKind.max .i64) y.Z4m∧(True))))
theorem rd_150:Z2l Tryz.prog 150 Z1t wf_150:=
 (Z3p (tot:=6) Tryz.underlying150 (by kernel_rfl) (Z0m (n:=1) (Z1y (P:=Tryz.prog) Tryz.underlying3) (by kernel_rfl) (Z0m (n:=1) (Z1y (P:=Tryz.prog) Tryz.underlying3) (by kernel_rfl) (Z0m (n:=3) rd_141 (by kernel_rfl) (Z0m (n:=1) (Z1y (P:=Tryz.prog) Tryz.underlying3) (by kernel_rfl) Z3q rfl) rfl) rfl) rfl)).map (fun p:Int×(Int×(Z0i×(Int×Unit)))=>({ Z1e:=p.1,Z42:=p.2.1,Z1a:=p.2.2.1,Z4m:=p.2.2.2.1 }:Z0l)) (fun _=>rfl) (fun _ h=>h)
def wf_112 (ys:List Z0l):Prop:=(∀ y∈ys,wf_150 y)∧ys.length*Tryz.prog.bytesOf 150≤reachBytes
theorem rd_112:Z2l Tryz.prog 112 (fun ys:List Z0l=>[D.sl false (ys.map Z1t)]) wf_112:=Z4n Tryz.underlying112 (row:=Z1t) rd_150 (Nat.lt_of_lt_of_le (by decide:0<1) (Nat.le_of_ble_eq_true (by kernel_rfl)))
def wf_114 (y:Z5n):Prop:=wf_112 y.Z0f∧(wf_112 y.Z0g∧((fun _:Bool=>True) y.Z6i∧(True)))
theorem rd_114:Z2l Tryz.prog 114 Zp9 wf_114:=
 (Z3p (tot:=3) Tryz.underlying114 (by kernel_rfl) (Z0m (n:=1) rd_112 (by kernel_rfl) (Z0m (n:=1) rd_112 (by kernel_rfl) (Z0m (n:=1) (Zqh (P:=Tryz.prog) Tryz.underlying4) (by kernel_rfl) Z3q rfl) rfl) rfl)).map (fun p:(List Z0l)×(List Z0l)×(Bool×Unit)=>({ Z0f:=p.1,Z0g:=p.2.1,Z6i:=p.2.2.1 }:Z5n)) (fun _=>rfl) (fun _ h=>h)
def wf_116 (y:Z0t):Prop:=(fun n:Int=>IntKind.min .i64≤n∧n≤IntKind.max .i64) y.Z2o∧(wf_114 y.Z1v∧(True))
theorem rd_116:Z2l Tryz.prog 116 Z19 wf_116:=
 (Z3p (tot:=4) Tryz.underlying116 (by kernel_rfl) (Z0m (n:=1) (Z1y (P:=Tryz.prog) Tryz.underlying3) (by kernel_rfl) (Z0m (n:=3) rd_114 (by kernel_rfl) Z3q rfl) rfl)).map (fun p:Int×(Z5n×Unit)=>({ Z2o:=p.1,Z1v:=p.2.1 }:Z0t)) (fun _=>rfl) (fun _ h=>h)
def wf_70 (ys:List Z0t):Prop:=(∀ y∈ys,wf_116 y)∧ys.length*Tryz.prog.bytesOf 116≤reachBytes
theorem rd_70:Z2l Tryz.prog 70 (fun ys:List Z0t=>[D.sl false (ys.map Z19)]) wf_70:=Z4n Tryz.underlying70 (row:=Z19) rd_116 (Nat.lt_of_lt_of_le (by decide:0<1) (Nat.le_of_ble_eq_true (by kernel_rfl)))
def wf_119 (y:Z1h):Prop:=(fun n:Int=>IntKind.min .i64≤n∧n≤IntKind.max .i64) y.Z2o∧((fun n:Int=>IntKind.min .i64≤n∧n≤IntKind.max .i64) y.Z7c∧(True))
theorem rd_119:Z2l Tryz.prog 119 Z1q wf_119:=
 (Z3p (tot:=2) Tryz.underlying119 (by kernel_rfl) (Z0m (n:=1) (Z1y (P:=Tryz.prog) Tryz.underlying3) (by kernel_rfl) (Z0m (n:=1) (Z1y (P:=Tryz.prog) Tryz.underlying3) (by kernel_rfl) Z3q rfl) rfl)).map (fun p:Int×(Int×Unit)=>({ Z2o:=p.1,Z7c:=p.2.1 }:Z1h)) (fun _=>rfl) (fun _ h=>h)
def wf_71 (ys:List Z1h):Prop:=(∀ y∈ys,wf_119 y)∧ys.length*Tryz.prog.bytesOf 119≤reachBytes
theorem rd_71:Z2l Tryz.prog 71 (fun ys:List Z1h=>[D.sl false (ys.map Z1q)]) wf_71:=Z4n Tryz.underlying71 (row:=Z1q) rd_119 (Nat.lt_of_lt_of_le (by decide:0<1) (Nat.le_of_ble_eq_true (by kernel_rfl)))
def wf_73 (y:Z0a):Prop:=(fun n:Int=>IntKind.min .i64≤n∧n≤IntKind.max .i64) y.Z0g∧((fun n:Int=>IntKind.min .i64≤n∧n≤IntKind.max .i64) y.Z0f∧(wf_68 y.Z0p∧(wf_69 y.Z25∧(wf_70 y.Z1w∧(wf_71 y.Z1x∧(True))))))
theorem rd_73:Z2l Tryz.prog 73 Z0x wf_73:=
 (Z3p (tot:=6) Tryz.underlying73 (by kernel_rfl) (Z0m (n:=1) (Z1y (P:=Tryz.prog) Tryz.underlying3) (by kernel_rfl) (Z0m (n:=1) (Z1y (P:=Tryz.prog) Tryz.underlying3) (by kernel_rfl) (Z0m (n:=1) rd_68 (by kernel_rfl) (Z0m (n:=1) rd_69 (by kernel_rfl) (Z0m (n:=1) rd_70 (by kernel_rfl) (Z0m (n:=1) rd_71 (by kernel_rfl) Z3q rfl) rfl) rfl) rfl) rfl) rfl)).map (fun p:Int×(Int×(List Z02)×(List Z0s)×(List Z0t)×(List Z1h)×Unit)=>({ Z0g:=p.1,Z0f:=p.2.1,Z0p:=p.2.2.1,Z25:=p.2.2.2.1,Z1w:=p.2.2.2.2.1,Z1x:=p.2.2.2.2.2.1 }:Z0a)) (fun _=>rfl) (fun _ h=>h)
def wf_90 (y:Z1u):Prop:=(fun n:Int=>IntKind.min .i64≤n∧n≤IntKind.max .i64) y.Z0v∧((fun s:List UInt8=>s.length≤reachBytes) y.Z0e∧((fun s:List UInt8=>s.length≤reachBytes) y.Z2b∧((fun _:Bool=>True) y.Z3y∧(wf_73 y.Z1k∧(wf_32 y.Z67∧(True))))))
theorem rd_90:Z2l Tryz.prog 90 Z4f wf_90:=
 (Z3p (tot:=11) Tryz.underlying90 (by kernel_rfl) (Z0m (n:=1) (Z1y (P:=Tryz.prog) Tryz.underlying3) (by kernel_rfl) (Z0m (n:=1) (Z4d (P:=Tryz.prog) Tryz.underlying9) (by kernel_rfl) (Z0m (n:=1) (Z4d (P:=Tryz.prog) Tryz.underlying9) (by kernel_rfl) (Z0m (n:=1) (Zqh (P:=Tryz.prog) Tryz.underlying4) (by kernel_rfl) (Z0m (n:=6) rd_73 (by kernel_rfl) (Z0m (n:=1) rd_32 (by kernel_rfl) Z3q rfl) rfl) rfl) rfl) rfl) rfl)).map (fun p:Int×(List UInt8)×(List UInt8)×(Bool×(Z0a×(List (List UInt8))×Unit))=>({ Z0v:=p.1,Z0e:=p.2.1,Z2b:=p.2.2.1,Z3y:=p.2.2.2.1,Z1k:=p.2.2.2.2.1,Z67:=p.2.2.2.2.2.1 }:Z1u)) (fun _=>rfl) (fun _ h=>h)
def wf_101 (ys:List Z1u):Prop:=(∀ y∈ys,wf_90 y)∧ys.length*Tryz.prog.bytesOf 90≤reachBytes
theorem rd_101:Z2l Tryz.prog 101 (fun ys:List Z1u=>[D.sl false (ys.map Z4f)]) wf_101:=Z4n Tryz.underlying101 (row:=Z4f) rd_90 (Nat.lt_of_lt_of_le (by decide:0<1) (Nat.le_of_ble_eq_true (by kernel_rfl)))
def wf_103 (y:Z0u):Prop:=(fun n:Int=>IntKind.min .i64≤n∧n≤IntKind.max .i64) y.Z0v∧((fun s:List UInt8=>s.length≤reachBytes) y.Z0e∧((fun s:List UInt8=>s.length≤reachBytes) y.Z26∧(wf_32 y.Z1f∧(wf_100 y.Z1d∧(wf_101 y.Z0k∧((fun s:List UInt8=>s.length≤reachBytes) y.Z8g∧(True)))))))
theorem rd_103:Z2l Tryz.prog 103 Z2s wf_103:=
 (Z3p (tot:=7) Tryz.underlying103 (by kernel_rfl) (Z0m (n:=1) (Z1y (P:=Tryz.prog) Tryz.underlying3) (by kernel_rfl) (Z0m (n:=1) (Z4d (P:=Tryz.prog) Tryz.underlying9) (by kernel_rfl) (Z0m (n:=1) (Z4d (P:=Tryz.prog) Tryz.underlying9) (by kernel_rfl) (Z0m (n:=1) rd_32 (by kernel_rfl) (Z0m (n:=1) rd_100 (by kernel_rfl) (Z0m (n:=1) rd_101 (by kernel_rfl) (Z0m (n:=1) (Z4d (P:=Tryz.prog) Tryz.underlying9) (by kernel_rfl) Z3q rfl) rfl) rfl) rfl) rfl) rfl) rfl)).map (fun p:Int×(List UInt8)×(List UInt8)×(List (List UInt8))×(List Z5t)×(List Z1u)×(List UInt8)×Unit=>({ Z0v:=p.1,Z0e:=p.2.1,Z26:=p.2.2.1,Z1f:=p.2.2.2.1,Z1d:=p.2.2.2.2.1,Z0k:=p.2.2.2.2.2.1,Z8g:=p.2.2.2.2.2.2.1 }:Z0u)) (fun _=>rfl) (fun _ h=>h)
def wf_105 (y:Z1r):Prop:=(fun n:Int=>IntKind.min .i64≤n∧n≤IntKind.max .i64) y.Z3g∧(wf_103 y.Z1m∧((fun n:Int=>IntKind.min .i64≤n∧n≤IntKind.max .i64) y.Z26∧(wf_59 y.Z1f∧((fun n:Int=>IntKind.min .i64≤n∧n≤IntKind.max .i64) y.Zah∧((fun n:Int=>IntKind.min .i64≤n∧n≤IntKind.max .i64) y.Ze8∧(True))))))
theorem rd_105:Z2l Tryz.prog 105 Z28 wf_105:=
 (Z3p (tot:=12) Tryz.underlying105 (by kernel_rfl) (Z0m (n:=1) (Z1y (P:=Tryz.prog) Tryz.underlying3) (by kernel_rfl) (Z0m (n:=7) rd_103 (by kernel_rfl) (Z0m (n:=1) (Z1y (P:=Tryz.prog) Tryz.underlying3) (by kernel_rfl) (Z0m (n:=1) rd_59 (by kernel_rfl) (Z0m (n:=1) (Z1y (P:=Tryz.prog) Tryz.underlying3) (by kernel_rfl) (Z0m (n:=1) (Z1y (P:=Tryz.prog) Tryz.underlying40) (by kernel_rfl) Z3q rfl) rfl) rfl) rfl) rfl) rfl)).map (fun p:Int×(Z0u×(Int×(List Int)×(Int×(Int×Unit))))=>({ Z3g:=p.1,Z1m:=p.2.1,Z26:=p.2.2.1,Z1f:=p.2.2.2.1,Zah:=p.2.2.2.2.1,Ze8:=p.2.2.2.2.2.1 }:Z1r)) (fun _=>rfl) (fun _ h=>h)
def wf_23 (ys:List Z1r):Prop:=(∀ y∈ys,wf_105 y)∧ys.length*Tryz.prog.bytesOf 105≤reachBytes
theorem rd_23:Z2l Tryz.prog 23 (fun ys:List Z1r=>[D.sl false (ys.map Z28)]) wf_23:=Z4n Tryz.underlying23 (row:=Z28) rd_105 (Nat.lt_of_lt_of_le (by decide:0<1) (Nat.le_of_ble_eq_true (by kernel_rfl)))
def wf_133 (y:Z2v):Prop:=(fun n:Int=>IntKind.min .i64≤n∧n≤IntKind.max .i64) y.Z3g∧((fun s:List UInt8=>s.length≤reachBytes) y.Z0e∧((fun n:Int=>IntKind.min .i64≤n∧n≤IntKind.max .i64) y.Z0z∧(True)))
theorem rd_133:Z2l Tryz.prog 133 Z32 wf_133:=
 (Z3p (tot:=3) Tryz.underlying133 (by kernel_rfl) (Z0m (n:=1) (Z1y (P:=Tryz.prog) Tryz.underlying3) (by kernel_rfl) (Z0m (n:=1) (Z4d (P:=Tryz.prog) Tryz.underlying9) (by kernel_rfl) (Z0m (n:=1) (Z1y (P:=Tryz.prog) Tryz.underlying3) (by kernel_rfl) Z3q rfl) rfl) rfl)).map (fun p:Int×(List UInt8)×(Int×Unit)=>({ Z3g:=p.1,Z0e:=p.2.1,Z0z:=p.2.2.1 }:Z2v)) (fun _=>rfl) (fun _ h=>h)
def wf_24 (ys:List Z2v):Prop:=(∀ y∈ys,wf_133 y)∧ys.length*Tryz.prog.bytesOf 133≤reachBytes
theorem rd_24:Z2l Tryz.prog 24 (fun ys:List Z2v=>[D.sl false (ys.map Z32)]) wf_24:=Z4n Tryz.underlying24 (row:=Z32) rd_133 (Nat.lt_of_lt_of_le (by decide:0<1) (Nat.le_of_ble_eq_true (by kernel_rfl)))
def wf_122 (y:Z3k):Prop:=(fun s:List UInt8=>s.length≤reachBytes) y.Z0e∧((fun n:Int=>IntKind.min .i64≤n∧n≤IntKind.max .i64) y.f_A∧((fun n:Int=>IntKind.min .i64≤n∧n≤IntKind.max .i64) y.f_B∧(True)))
theorem rd_122:Z2l Tryz.prog 122 Z35 wf_122:=
 (Z3p (tot:=3) Tryz.underlying122 (by kernel_rfl) (Z0m (n:=1) (Z4d (P:=Tryz.prog) Tryz.underlying9) (by kernel_rfl) (Z0m (n:=1) (Z1y (P:=Tryz.prog) Tryz.underlying3) (by kernel_rfl) (Z0m (n:=1) (Z1y (P:=Tryz.prog) Tryz.underlying3) (by kernel_rfl) Z3q rfl) rfl) rfl)).map (fun p:(List UInt8)×(Int×(Int×Unit))=>({ Z0e:=p.1,f_A:=p.2.1,f_B:=p.2.2.1 }:Z3k)) (fun _=>rfl) (fun _ h=>h)
def wf_25 (ys:List Z3k):Prop:=(∀ y∈ys,wf_122 y)∧ys.length*Tryz.prog.bytesOf 122≤reachBytes
theorem rd_25:Z2l Tryz.prog 25 (fun ys:List Z3k=>[D.sl false (ys.map Z35)]) wf_25:=Z4n Tryz.underlying25 (row:=Z35) rd_122 (Nat.lt_of_lt_of_le (by decide:0<1) (Nat.le_of_ble_eq_true (by kernel_rfl)))
def wf_27 (y:Z0w):Prop:=wf_22 y.Z20∧(wf_23 y.Z11∧(wf_24 y.Z2e∧(wf_25 y.Z2y∧(True))))
theorem rd_27:Z2l Tryz.prog 27 Z24 wf_27:=
 (Z3p (tot:=4) Tryz.underlying27 (by kernel_rfl) (Z0m (n:=1) rd_22 (by kernel_rfl) (Z0m (n:=1) rd_23 (by kernel_rfl) (Z0m (n:=1) rd_24 (by kernel_rfl) (Z0m (n:=1) rd_25 (by kernel_rfl) Z3q rfl) rfl) rfl) rfl)).map (fun p:(List Z1c)×(List Z1r)×(List Z2v)×(List Z3k)×Unit=>({ Z20:=p.1,Z11:=p.2.1,Z2e:=p.2.2.1,Z2y:=p.2.2.2.1 }:Z0w)) (fun _=>rfl) (fun _ h=>h)
def wf_79 (y:Z3o):Prop:=(fun n:Int=>IntKind.min .i64≤n∧n≤IntKind.max .i64) y.Z14∧((fun n:Int=>IntKind.min .u8≤n∧n≤IntKind.max .u8) y.Z18∧((fun n:Int=>IntKind.min .i64≤n∧n≤IntKind.max .i64) y.Z0z∧(True)))
theorem rd_79:Z2l Tryz.prog 79 Z8l wf_79:=
 (Z3p (tot:=3) Tryz.underlying79 (by kernel_rfl) (Z0m (n:=1) (Z1y (P:=Tryz.prog) Tryz.underlying3) (by kernel_rfl) (Z0m (n:=1) (Z1y (P:=Tryz.prog) Tryz.underlying5) (by kernel_rfl) (Z0m (n:=1) (Z1y (P:=Tryz.prog) Tryz.underlying3) (by kernel_rfl) Z3q rfl) rfl) rfl)).map (fun p:Int×(Int×(Int×Unit))=>({ Z14:=p.1,Z18:=p.2.1,Z0z:=p.2.2.1 }:Z3o)) (fun _=>rfl) (fun _ h=>h)
def wf_56 (y:Z0b):Prop:=(fun n:Int=>IntKind.min .i64≤n∧n≤IntKind.max .i64) y.Z1e∧((fun n:Int=>IntKind.min .i64≤n∧n≤IntKind.max .i64) y.f_N∧(True))
theorem rd_56:Z2l Tryz.prog 56 Z1b wf_56:=
 (Z3p (tot:=2) Tryz.underlying56 (by kernel_rfl) (Z0m (n:=1) (Z1y (P:=Tryz.prog) Tryz.underlying3) (by kernel_rfl) (Z0m (n:=1) (Z1y (P:=Tryz.prog) Tryz.underlying3) (by kernel_rfl) Z3q rfl) rfl)).map (fun p:Int×(Int×Unit)=>({ Z1e:=p.1,f_N:=p.2.1 }:Z0b)) (fun _=>rfl) (fun _ h=>h)
def wf_35 (ys:List Z0b):Prop:=(∀ y∈ys,wf_56 y)∧ys.length*Tryz.prog.bytesOf 56≤reachBytes
theorem rd_35:Z2l Tryz.prog 35 (fun ys:List Z0b=>[D.sl false (ys.map Z1b)]) wf_35:=Z4n Tryz.underlying35 (row:=Z1b) rd_56 (Nat.lt_of_lt_of_le (by decide:0<1) (Nat.le_of_ble_eq_true (by kernel_rfl)))
def wf_81 (y:Z2d):Prop:=(fun n:Int=>IntKind.min .i64≤n∧n≤IntKind.max .i64) y.Z1e∧(wf_79 y.Z1a∧(wf_35 y.Z4y∧((fun s:List UInt8=>s.length≤reachBytes) y.Z3t∧((fun n:Int=>IntKind.min .i64≤n∧n≤IntKind.max .i64) y.Z7m∧((fun n:Int=>IntKind.min .i64≤n∧n≤IntKind.max .i64) y.Z39∧(wf_59 y.Z5h∧(True)))))))
theorem rd_81:Z2l Tryz.prog 81 Z2r wf_81:=
 (Z3p (tot:=9) Tryz.underlying81 (by kernel_rfl) (Z0m (n:=1) (Z1y (P:=Tryz.prog) Tryz.underlying3) (by kernel_rfl) (Z0m (n:=3) rd_79 (by kernel_rfl) (Z0m (n:=1) rd_35 (by kernel_rfl) (Z0m (n:=1) (Z4d (P:=Tryz.prog) Tryz.underlying9) (by kernel_rfl) (Z0m (n:=1) (Z1y (P:=Tryz.prog) Tryz.underlying3) (by kernel_rfl) (Z0m (n:=1) (Z1y (P:=Tryz.prog) Tryz.underlying3) (by kernel_rfl) (Z0m (n:=1) rd_59 (by kernel_rfl) Z3q rfl) rfl) rfl) rfl) rfl) rfl) rfl)).map (fun p:Int×(Z3o×(List Z0b)×(List UInt8)×(Int×(Int×(List Int)×Unit)))=>({ Z1e:=p.1,Z1a:=p.2.1,Z4y:=p.2.2.1,Z3t:=p.2.2.2.1,Z7m:=p.2.2.2.2.1,Z39:=p.2.2.2.2.2.1,Z5h:=p.2.2.2.2.2.2.1 }:Z2d)) (fun _=>rfl) (fun _ h=>h)
def wf_28 (ys:List Z2d):Prop:=(∀ y∈ys,wf_81 y)∧ys.length*Tryz.prog.bytesOf 81≤reachBytes
theorem rd_28:Z2l Tryz.prog 28 (fun ys:List Z2d=>[D.sl false (ys.map Z2r)]) wf_28:=Z4n Tryz.underlying28 (row:=Z2r) rd_81 (Nat.lt_of_lt_of_le (by decide:0<1) (Nat.le_of_ble_eq_true (by kernel_rfl)))
def wf_129 (y:Z3d):Prop:=(fun n:Int=>IntKind.min .i64≤n∧n≤IntKind.max .i64) y.Z2m∧((fun n:Int=>IntKind.min .i64≤n∧n≤IntKind.max .i64) y.Zap∧(wf_35 y.Z85∧(True)))
theorem rd_129:Z2l Tryz.prog 129 Z2u wf_129:=
 (Z3p (tot:=3) Tryz.underlying129 (by kernel_rfl) (Z0m (n:=1) (Z1y (P:=Tryz.prog) Tryz.underlying3) (by kernel_rfl) (Z0m (n:=1) (Z1y (P:=Tryz.prog) Tryz.underlying3) (by kernel_rfl) (Z0m (n:=1) rd_35 (by kernel_rfl) Z3q rfl) rfl) rfl)).map (fun p:Int×(Int×(List Z0b)×Unit)=>({ Z2m:=p.1,Zap:=p.2.1,Z85:=p.2.2.1 }:Z3d)) (fun _=>rfl) (fun _ h=>h)
def wf_29 (ys:List Z3d):Prop:=(∀ y∈ys,wf_129 y)∧ys.length*Tryz.prog.bytesOf 129≤reachBytes
theorem rd_29:Z2l Tryz.prog 29 (fun ys:List Z3d=>[D.sl false (ys.map Z2u)]) wf_29:=Z4n Tryz.underlying29 (row:=Z2u) rd_129 (Nat.lt_of_lt_of_le (by decide:0<1) (Nat.le_of_ble_eq_true (by kernel_rfl)))
def wf_126 (y:Z3w):Prop:=(fun s:List UInt8=>s.length≤reachBytes) y.Z3t∧((fun n:Int=>IntKind.min .i64≤n∧n≤IntKind.max .i64) y.Z3f∧(True))
theorem rd_126:Z2l Tryz.prog 126 Z3j wf_126:=
 (Z3p (tot:=2) Tryz.underlying126 (by kernel_rfl) (Z0m (n:=1) (Z4d (P:=Tryz.prog) Tryz.underlying9) (by kernel_rfl) (Z0m (n:=1) (Z1y (P:=Tryz.prog) Tryz.underlying3) (by kernel_rfl) Z3q rfl) rfl)).map (fun p:(List UInt8)×(Int×Unit)=>({ Z3t:=p.1,Z3f:=p.2.1 }:Z3w)) (fun _=>rfl) (fun _ h=>h)
def wf_30 (ys:List Z3w):Prop:=(∀ y∈ys,wf_126 y)∧ys.length*Tryz.prog.bytesOf 126≤reachBytes
theorem rd_30:Z2l Tryz.prog 30 (fun ys:List Z3w=>[D.sl false (ys.map Z3j)]) wf_30:=Z4n Tryz.underlying30 (row:=Z3j) rd_126 (Nat.lt_of_lt_of_le (by decide:0<1) (Nat.le_of_ble_eq_true (by kernel_rfl)))
def wf_37 (y:Z10):Prop:=(fun n:Int=>IntKind.min .i64≤n∧n≤IntKind.max .i64) y.Z0z∧((fun n:Int=>IntKind.min .i64≤n∧n≤IntKind.max .i64) y.Z53∧((fun n:Int=>IntKind.min .i64≤n∧n≤IntKind.max .i64) y.f_PC∧(wf_35 y.Z0f∧(wf_35 y.Z0g∧((fun n:Int=>IntKind.min .i64≤n∧n≤IntKind.max .i64) y.Z6y∧((fun _:Bool=>True) y.Z6q∧((fun _:Bool=>True) y.Z7l∧(True))))))))
theorem rd_37:Z2l Tryz.prog 37 Z2x wf_37:=
 (Z3p (tot:=8) Tryz.underlying37 (by kernel_rfl) (Z0m (n:=1) (Z1y (P:=Tryz.prog) Tryz.underlying3) (by kernel_rfl) (Z0m (n:=1) (Z1y (P:=Tryz.prog) Tryz.underlying3) (by kernel_rfl) (Z0m (n:=1) (Z1y (P:=Tryz.prog) Tryz.underlying3) (by kernel_rfl) (Z0m (n:=1) rd_35 (by kernel_rfl) (Z0m (n:=1) rd_35 (by kernel_rfl) (Z0m (n:=1) (Z1y (P:=Tryz.prog) Tryz.underlying3) (by kernel_rfl) (Z0m (n:=1) (Zqh (P:=Tryz.prog) Tryz.underlying4) (by kernel_rfl) (Z0m (n:=1) (Zqh (P:=Tryz.prog) Tryz.underlying4) (by kernel_rfl) Z3q rfl) rfl) rfl) rfl) rfl) rfl) rfl) rfl)).map (fun p:Int×(Int×(Int×(List Z0b)×(List Z0b)×(Int×(Bool×(Bool×Unit)))))=>({ Z0z:=p.1,Z53:=p.2.1,f_PC:=p.2.2.1,Z0f:=p.2.2.2.1,Z0g:=p.2.2.2.2.1,Z6y:=p.2.2.2.2.2.1,Z6q:=p.2.2.2.2.2.2.1,Z7l:=p.2.2.2.2.2.2.2.1 }:Z10)) (fun _=>rfl) (fun _ h=>h)
def wf_85 (ys:List Z10):Prop:=(∀ y∈ys,wf_37 y)∧ys.length*Tryz.prog.bytesOf 37≤reachBytes
theorem rd_85:Z2l Tryz.prog 85 (fun ys:List Z10=>[D.sl false (ys.map Z2x)]) wf_85:=Z4n Tryz.underlying85 (row:=Z2x) rd_37 (Nat.lt_of_lt_of_le (by decide:0<1) (Nat.le_of_ble_eq_true (by kernel_rfl)))
def wf_87 (y:Z13):Prop:=(fun n:Int=>IntKind.min .i64≤n∧n≤IntKind.max .i64) y.Z2m∧((fun n:Int=>IntKind.min .i64≤n∧n≤IntKind.max .i64) y.Z3x∧((fun n:Int=>IntKind.min .i64≤n∧n≤IntKind.max .i64) y.Z39∧(wf_85 y.Z0y∧((fun n:Int=>IntKind.min .i64≤n∧n≤IntKind.max .i64) y.Z3f∧((fun n:Int=>IntKind.min .i64≤n∧n≤IntKind.max .i64) y.Z4l∧(wf_56 y.Z37∧(True)))))))
theorem rd_87:Z2l Tryz.prog 87 Z2a wf_87:=
 (Z3p (tot:=8) Tryz.underlying87 (by kernel_rfl) (Z0m (n:=1) (Z1y (P:=Tryz.prog) Tryz.underlying3) (by kernel_rfl) (Z0m (n:=1) (Z1y (P:=Tryz.prog) Tryz.underlying3) (by kernel_rfl) (Z0m (n:=1) (Z1y (P:=Tryz.prog) Tryz.underlying3) (by kernel_rfl) (Z0m (n:=1) rd_85 (by kernel_rfl) (Z0m (n:=1) (Z1y (P:=Tryz.prog) Tryz.underlying3) (by kernel_rfl) (Z0m (n:=1) (Z1y (P:=Tryz.prog) Tryz.underlying3) (by kernel_rfl) (Z0m (n:=2) rd_56 (by kernel_rfl) Z3q rfl) rfl) rfl) rfl) rfl) rfl) rfl)).map (fun p:Int×(Int×(Int×(List Z10)×(Int×(Int×(Z0b×Unit)))))=>({ Z2m:=p.1,Z3x:=p.2.1,Z39:=p.2.2.1,Z0y:=p.2.2.2.1,Z3f:=p.2.2.2.2.1,Z4l:=p.2.2.2.2.2.1,Z37:=p.2.2.2.2.2.2.1 }:Z13)) (fun _=>rfl) (fun _ h=>h)
def wf_31 (ys:List Z13):Prop:=(∀ y∈ys,wf_87 y)∧ys.length*Tryz.prog.bytesOf 87≤reachBytes
theorem rd_31:Z2l Tryz.prog 31 (fun ys:List Z13=>[D.sl false (ys.map Z2a)]) wf_31:=Z4n Tryz.underlying31 (row:=Z2a) rd_87 (Nat.lt_of_lt_of_le (by decide:0<1) (Nat.le_of_ble_eq_true (by kernel_rfl)))
def wf_34 (y:Z09):Prop:=wf_27 y.Z12∧((fun n:Int=>IntKind.min .i64≤n∧n≤IntKind.max .i64) y.Z4h∧(wf_28 y.Z1n∧(wf_29 y.Z3i∧(wf_30 y.Z34∧(wf_31 y.Z0n∧(wf_32 y.Z3s∧(True)))))))
theorem rd_34:Z2l Tryz.prog 34 Z0o wf_34:=
 (Z3p (tot:=10) Tryz.underlying34 (by kernel_rfl) (Z0m (n:=4) rd_27 (by kernel_rfl) (Z0m (n:=1) (Z1y (P:=Tryz.prog) Tryz.underlying3) (by kernel_rfl) (Z0m (n:=1) rd_28 (by kernel_rfl) (Z0m (n:=1) rd_29 (by kernel_rfl) (Z0m (n:=1) rd_30 (by kernel_rfl) (Z0m (n:=1) rd_31 (by kernel_rfl) (Z0m (n:=1) rd_32 (by kernel_rfl) Z3q rfl) rfl) rfl) rfl) rfl) rfl) rfl)).map (fun p:Z0w×(Int×(List Z2d)×(List Z3d)×(List Z3w)×(List Z13)×(List (List UInt8))×Unit)=>({ Z12:=p.1,Z4h:=p.2.1,Z1n:=p.2.2.1,Z3i:=p.2.2.2.1,Z34:=p.2.2.2.2.1,Z0n:=p.2.2.2.2.2.1,Z3s:=p.2.2.2.2.2.2.1 }:Z09)) (fun _=>rfl) (fun _ h=>h)
theorem rlS {n:Nat} (h:n≤reachBytes):n≤4503599627370496:=Nat.le_trans h (by decide)
theorem rlB {n b k:Nat} (e:b=k) (h:n*b≤reachBytes):n*k≤140737488355328:=by have:=Zz4 h; rw [e] at this; omega
theorem rlN {n b:Nat} (e:1≤b) (h:n*b≤reachBytes):n≤140737488355328:=Nat.le_trans (Nat.le_trans (Nat.le_of_eq (Nat.mul_one n).symm) (Nat.mul_le_mul_left n e)) (by have:=Zz4 h; omega)
theorem ws_T_api_Ref {y:Z21} (h:wf_61 y):WRef y:=⟨rlS h.1,rlS h.2.1,rlS h.2.2.1⟩
theorem ws_T_api_Insn {y:Z02} (h:wf_63 y):Z3e y:=⟨rlB (by kernel_rfl) h.2.2.2.2.1.2,rlB (by kernel_rfl) h.2.2.2.2.2.1.2,ws_T_api_Ref h.2.2.2.2.2.2.1,rlS h.2.2.2.2.2.2.2.1⟩
theorem ws_T_api_Frame {y:Z5n} (h:wf_114 y):Z91 y:=⟨fun v hv=>rlS (h.1.1 v hv).2.2.1.2.2.1,rlB (by kernel_rfl) h.1.2,fun v hv=>rlS (h.2.1.1 v hv).2.2.1.2.2.1,rlB (by kernel_rfl) h.2.1.2⟩
theorem ws_T_api_Code {y:Z0a} (h:wf_73 y):Z5u y:=⟨fun v hv=>ws_T_api_Insn (h.2.2.1.1 v hv),rlB (by kernel_rfl) h.2.2.1.2,fun v hv=>rlS (h.2.2.2.1.1 v hv).2.2.2.2.1,rlB (by kernel_rfl) h.2.2.2.1.2,fun v hv=>ws_T_api_Frame (h.2.2.2.2.1.1 v hv).2.1,rlB (by kernel_rfl) h.2.2.2.2.1.2,rlB (by kernel_rfl) h.2.2.2.2.2.1.2⟩
theorem ws_T_api_Method {y:Z1u} (h:wf_90 y):Zbi y:=⟨rlS h.2.1,rlS h.2.2.1,ws_T_api_Code h.2.2.2.2.1,fun v hv=>rlS (h.2.2.2.2.2.1.1 v hv),rlB (by kernel_rfl) h.2.2.2.2.2.1.2⟩
theorem ws_T_api_Field {y:Z5t} (h:wf_173 y):Zrf y:=⟨rlS h.2.1,rlS h.2.2.1,rlS h.2.2.2.2.2.1⟩
theorem ws_T_api_ClassModel {y:Z0u} (h:wf_103 y):Z5j y:=⟨rlS h.2.1,rlS h.2.2.1,fun v hv=>rlS (h.2.2.2.1.1 v hv),rlB (by kernel_rfl) h.2.2.2.1.2,fun v hv=>ws_T_api_Field (h.2.2.2.2.1.1 v hv),rlB (by kernel_rfl) h.2.2.2.2.1.2,fun v hv=>ws_T_api_Method (h.2.2.2.2.2.1.1 v hv),rlB (by kernel_rfl) h.2.2.2.2.2.1.2,rlS h.2.2.2.2.2.2.1⟩
theorem ws_T_api_Loader {y:Z1c} (h:wf_154 y):Z7r y:=⟨fun v hv=>rlS (h.1.1 v hv).1,rlN (Nat.le_of_ble_eq_true (by kernel_rfl)) h.1.2,fun v hv=>rlS (h.2.1.1 v hv).1,rlN (Nat.le_of_ble_eq_true (by kernel_rfl)) h.2.1.2⟩
theorem ws_T_api_ClassSpace {y:Z0w} (h:wf_27 y):Z5e y:=⟨fun v hv=>ws_T_api_Loader (h.1.1 v hv),rlN (Nat.le_of_ble_eq_true (by kernel_rfl)) h.1.2,fun v hv=>⟨ws_T_api_ClassModel (h.2.1.1 v hv).2.1,rlN (Nat.le_of_ble_eq_true (by kernel_rfl)) (h.2.1.1 v hv).2.2.2.1.2⟩,rlN (Nat.le_of_ble_eq_true (by kernel_rfl)) h.2.1.2,fun v hv=>rlS (h.2.2.1.1 v hv).2.1,rlN (Nat.le_of_ble_eq_true (by kernel_rfl)) h.2.2.1.2,fun v hv=>rlS (h.2.2.2.1.1 v hv).1,rlN (Nat.le_of_ble_eq_true (by kernel_rfl)) h.2.2.2.1.2⟩
theorem ws_T_api_Object {y:Z2d} (h:wf_81 y):WObj y:=⟨rlN (Nat.le_of_ble_eq_true (by kernel_rfl)) h.2.2.1.2,rlS h.2.2.2.1,rlN (Nat.le_of_ble_eq_true (by kernel_rfl)) h.2.2.2.2.2.2.1.2⟩
theorem ws_T_api_Activation {y:Z10} (h:wf_37 y):Z9a y:=⟨rlN (Nat.le_of_ble_eq_true (by kernel_rfl)) h.2.2.2.1.2,rlN (Nat.le_of_ble_eq_true (by kernel_rfl)) h.2.2.2.2.1.2⟩
theorem ws_T_api_Machine {y:Z09} (h:wf_34 y):Z3n y:=⟨ws_T_api_ClassSpace h.1,fun v hv=>ws_T_api_Object (h.2.2.1.1 v hv),rlN (Nat.le_of_ble_eq_true (by kernel_rfl)) h.2.2.1.2,fun v hv=>rlN (Nat.le_of_ble_eq_true (by kernel_rfl)) (h.2.2.2.1.1 v hv).2.2.1.2,rlN (Nat.le_of_ble_eq_true (by kernel_rfl)) h.2.2.2.1.2,fun v hv=>rlS (h.2.2.2.2.1.1 v hv).1,rlN (Nat.le_of_ble_eq_true (by kernel_rfl)) h.2.2.2.2.1.2,fun v hv=>⟨fun a ha=>ws_T_api_Activation ((h.2.2.2.2.2.1.1 v hv).2.2.2.1.1 a ha),rlN (Nat.le_of_ble_eq_true (by kernel_rfl)) (h.2.2.2.2.2.1.1 v hv).2.2.2.1.2⟩,rlN (Nat.le_of_ble_eq_true (by kernel_rfl)) h.2.2.2.2.2.1.2,rlN (Nat.le_of_ble_eq_true (by kernel_rfl)) h.2.2.2.2.2.2.1.2⟩
set_option maxRecDepth 100000 in
theorem lifted (os:Os) (started:os.Started) (H:Type) (enc:TypeId×Value→H):
  ReturnsInHanded {} Tryz.checked os 3 .any (Rows.callstackPushSpec.pre6 enc Tryz.prog Tryz.f3 Rows.callstackPushRow.domain false) (Rows.callstackPushSpec.post enc Tryz.prog Tryz.f3 false true false false):=by
 refine returnsInHanded_of_change_sized (C:=Tryz.checked) own started (by kernel_rfl) Tryz.func3
  (ChangeSpec.witness6 (enc:=enc) (C:=Tryz.checked) false ⟨#[],#[.agg #[.slice none 0 0,.slice none 0 0,.slice none 0 0,.slice none 0 0,.int .i64 0,.slice none 0 0,.slice none 0 0,.slice none 0 0,.slice none 0 0,.slice none 0 0],.int .i64 0,.int .i64 0,.int .i64 0,.slice none 0 0,.int .i64 0,.agg #[.int .i64 0,.int .i64 0,.int .i64 0,.slice none 0 0,.slice none 0 0,.int .i64 0,.bool false,.bool false]],[]⟩ 8 (by kernel_rfl) (by kernel_rfl) (by kernel_rfl) (by kernel_rfl)) ?_
 intro W base args ds gs before hval0 hW hcnd hsz _
 have hval:∀ (j:Nat) t v,Tryz.f3.params[j]?=some t→args[j]?=some v→Value.okWide Tryz.prog W .any base t v:=hval0
 have hW':=hW
 obtain ⟨p,q,hA0,hV,rfl,hfz,hnd⟩:=hW
 have hA:DataW.TrodAll enc Tryz.prog W 0 (fun _=>true) true Tryz.f3.params.toList args.toList ds p:=hA0
 rw [Tryz.params3] at hA hval
 obtain ⟨v0,vs0,d0,ds0,p0,q0,hargs,rfl,rfl,h0,r0⟩:=trodAll_cons hA
 obtain ⟨v1,vs1,d1,ds1,p1,q1,rfl,rfl,rfl,h1,r1⟩:=trodAll_cons r0
 obtain ⟨v2,vs2,d2,ds2,p2,q2,rfl,rfl,rfl,h2,r2⟩:=trodAll_cons r1
 obtain ⟨v3,vs3,d3,ds3,p3,q3,rfl,rfl,rfl,h3,r3⟩:=trodAll_cons r2
 obtain ⟨v4,vs4,d4,ds4,p4,q4,rfl,rfl,rfl,h4,r4⟩:=trodAll_cons r3
 obtain ⟨v5,vs5,d5,ds5,p5,q5,rfl,rfl,rfl,h5,r5⟩:=trodAll_cons r4
 obtain ⟨v6,vs6,d6,ds6,p6,q6,rfl,rfl,rfl,h6,r6⟩:=trodAll_cons r5
 obtain ⟨rfl,rfl,rfl⟩:=trodAll_nil r6
 obtain rfl:args= #[v0,v1,v2,v3,v4,v5,v6] :=by cases args; simp_all
 obtain ⟨rfl,rfl⟩:=trodVars_none hV
 have hsz2:(DataW.weightsEach Tryz.prog (Tryz.f3.params.toList++[]) ([d0,d1,d2,d3,d4,d5,d6]++[])).all (· ≤reachBytes)=true:=hsz
 rw [Tryz.params3] at hsz2
 simp only [List.append_nil,DataW.weightsEach,List.all_append,Bool.and_eq_true] at hsz2
 obtain ⟨z0,z1,z2,z3,z4,z5,z6⟩:=hsz2
 obtain ⟨y0,c0,g0⟩:=Y12 (M:=Z6o.reach Tryz.prog) Tryz.underlying34 rd_34 (hval 0 34 v0 rfl rfl) h0 z0
 obtain ⟨_,rfl⟩:=okWide_int Tryz.underlying3 (hval 1 3 v1 rfl rfl)
 obtain ⟨y1,c1,g1⟩:=Zgo (M:=Z6o.reach Tryz.prog) (f:=(fun n:Int=>D.int .i64 n)) (Z1y (P:=Tryz.prog) Tryz.underlying3) rfl h1 z1
 obtain ⟨_,rfl⟩:=okWide_int Tryz.underlying3 (hval 2 3 v2 rfl rfl)
 obtain ⟨y2,c2,g2⟩:=Zgo (M:=Z6o.reach Tryz.prog) (f:=(fun n:Int=>D.int .i64 n)) (Z1y (P:=Tryz.prog) Tryz.underlying3) rfl h2 z2
 obtain ⟨_,rfl⟩:=okWide_int Tryz.underlying3 (hval 3 3 v3 rfl rfl)
 obtain ⟨y3,c3,g3⟩:=Zgo (M:=Z6o.reach Tryz.prog) (f:=(fun n:Int=>D.int .i64 n)) (Z1y (P:=Tryz.prog) Tryz.underlying3) rfl h3 z3
 obtain ⟨_,_,_,rfl⟩:=okWide_slice Tryz.underlying35 (hval 4 35 v4 rfl rfl)
 obtain ⟨y4,c4,g4⟩:=Zgo (M:=Z6o.reach Tryz.prog) (f:=(fun ys:List Z0b=>D.sl false (ys.map Z1b))) rd_35 rfl h4 z4
 obtain ⟨_,rfl⟩:=okWide_int Tryz.underlying3 (hval 5 3 v5 rfl rfl)
 obtain ⟨y5,c5,g5⟩:=Zgo (M:=Z6o.reach Tryz.prog) (f:=(fun n:Int=>D.int .i64 n)) (Z1y (P:=Tryz.prog) Tryz.underlying3) rfl h5 z5
 obtain ⟨y6,c6,g6⟩:=Y12 (M:=Z6o.reach Tryz.prog) Tryz.underlying37 rd_37 (hval 6 37 v6 rfl rfl) h6 z6
 exact Y9y (P:=Tryz.prog) (fn:=Tryz.f3) (tb:=4) rfl (by kernel_rfl) Tryz.underlying4 laid (by kernel_rfl) hW' rfl (.cons c0 (.cons c1 (.cons c2 (.cons c3 (.cons c4 (.cons c5 (.cons c6 .nil))))))) (w3 (Yc8 y0 (ws_T_api_Machine g0) y1 y2 y3 y4 y5 y6))
theorem am {a b:Bool} (h:a=true) (g:b=true):(a&&b)=true:=by rw [h,g]; rfl
theorem k0:Rows.callstackPushRow.wf (OpenSpec.ofChange Rows.callstackPushSpec)=true:=by kernel_rfl
theorem k1:laidOutB Tryz.prog=true:=by kernel_rfl
theorem k2:mapsRowed Tryz.prog=true:=by kernel_rfl
theorem k3:Tryz.f3.params.all (Tryz.prog.readableRec ·)=true:=by kernel_rfl
theorem k4:namedTie Tryz.prog Rows.callstackPushRow.named Rows.callstackPushSpec.vars=true:=by kernel_rfl
theorem k5:(Rows.callstackPushRow.stops==[])=true:=by kernel_rfl
theorem k6:(Tryz.prog.stops==[])=true:=by kernel_rfl
theorem k7:(Rows.callstackPushRow.knobs==[])=true:=by kernel_rfl
theorem k8:(Tryz.prog.stopKnobs==[])=true:=by kernel_rfl
theorem k9:(Rows.callstackPushRow.inPlace==Tryz.prog.inPlace 3)=true:=by kernel_rfl
theorem k10:(Rows.callstackPushRow.unfollowed==Tryz.prog.unfollowed 3)=true:=by kernel_rfl
theorem k11:(Rows.callstackPushRow.recurses==Tryz.prog.recurses 3)=true:=by kernel_rfl
theorem k12:(Rows.callstackPushRow.named==Tryz.prog.varsNamed 3)=true:=by kernel_rfl
theorem k13:(Rows.callstackPushRow.maps==(Tryz.f3.params.toList++Rows.callstackPushSpec.plain.varTypes Tryz.prog).any (Tryz.prog.mapsRec ·))=true:=by kernel_rfl
theorem k14:(Rows.callstackPushRow.ifaces==(Tryz.f3.params.toList++Rows.callstackPushSpec.plain.varTypes Tryz.prog).any (Tryz.prog.ifacesRec ·))=true:=by kernel_rfl
theorem k15:(Rows.callstackPushRow.mapsOut==Tryz.prog.mapsAmong Tryz.f3.resultTypes.toList)=true:=by kernel_rfl
theorem k16:(Rows.callstackPushRow.loops==(Tryz.f3.params.toList++Rows.callstackPushSpec.plain.varTypes Tryz.prog).any (Tryz.prog.loopsFrom ·))=true:=by kernel_rfl
theorem k17:(Rows.callstackPushRow.wideKeys==(Tryz.f3.params.toList++Rows.callstackPushSpec.plain.varTypes Tryz.prog++Tryz.f3.resultTypes.toList).any (Tryz.prog.wideKeysFrom ·))=true:=by kernel_rfl
theorem k18:Rows.callstackPushSpec.vars.all (Tryz.prog.varReadable ·)=true:=by kernel_rfl
theorem k19:Tryz.f3.resultTypes.all (fun t=>Tryz.prog.readableRec t&&decide (t<Tryz.prog.types.size))=true:=by kernel_rfl
theorem k20:(Rows.callstackPushRow.ifacesOut==Tryz.f3.resultTypes.toList.any (Tryz.prog.ifacesRec ·))=true:=by kernel_rfl
theorem k21:(Rows.callstackPushRow.loopsOut==Tryz.f3.resultTypes.toList.any (Tryz.prog.loopsFrom ·))=true:=by kernel_rfl
theorem k22:(Rows.callstackPushRow.plainKeys==Tryz.prog.plainKeys)=true:=by kernel_rfl
theorem k23:Rows.callstackPushRow.shortTexts.isNone=true:=by kernel_rfl
theorem k24:Tryz.prog.stopsHeard=true:=by kernel_rfl
theorem k25:Tryz.prog.mayEnter=true:=by kernel_rfl
theorem k26:(Rows.callstackPushRow.lifted==Tryz.prog.liftsFinal)=true:=by kernel_rfl
theorem k27:(Tryz.prog.make==some Rows.callstackPushRow.make)=true:=by kernel_rfl
theorem k28:(Rows.callstackPushRow.kinds==(if Rows.callstackPushRow.domain.isEmpty then [] else Tryz.f3.params.toList.map fun t=>match Tryz.prog.underlying t with|some (.int k)=>some k|_=>none))=true:=by kernel_rfl
theorem k29:(Rows.callstackPushRow.pinned==Rows.callstackPushRow.pinnedBy)=true:=by kernel_rfl
theorem k30:(Rows.callstackPushRow.veiled==(Tryz.f3.params.toList++Rows.callstackPushSpec.plain.varTypes Tryz.prog++Tryz.f3.resultTypes.toList).any (Tryz.prog.veiledRec ·))=true:=by kernel_rfl
theorem k31:Rows.callstackPushRow.veiledFits Tryz.prog Tryz.f3.params.toList (Tryz.f3.params.toList++Rows.callstackPushSpec.plain.varTypes Tryz.prog++Tryz.f3.resultTypes.toList)=true:=by kernel_rfl
set_option maxRecDepth 100000 in
theorem closed:joinedFacts Tryz.prog 3 Tryz.f3 Rows.callstackPushSpec Rows.callstackPushRow=true:=(am (am (am (am (am (am (am (am (am (am (am (am (am (am (am (am (am (am (am (am (am (am (am (am (am (am (am (am (am (am (am k0 k1) k2) k3) k4) k5) k6) k7) k8) k9) k10) k11) k12) k13) k14) k15) k16) k17) k18) k19) k20) k21) k22) k23) k24) k25) k26) k27) k28) k29) k30) k31)
theorem inst:Tryz.f3.isInstance Tryz.prog Rows.callstackPushRow.origin Rows.callstackPushRow.targs:=of_decide_eq_true (by kernel_rfl)
theorem named:Tryz.prog.funcNamed Rows.callstackPushRow.func=some 3:=by kernel_rfl
theorem wrapped:Tryz.f3.isWrapper Tryz.prog Rows.callstackPushRow.wrapper Rows.callstackPushRow.mainSum:=by unfold Func.isWrapper; first|(rw [if_pos (by decide+kernel)]; kernel_rfl)|(rw [if_neg (by decide+kernel)]; exact ⟨rfl,rfl⟩)
theorem over:Rows.callstackPushRow.holds Tryz.pinned (OpenSpec.ofChange Rows.callstackPushSpec):=
 OpenClaim.holds_of_wide 3 Tryz.f3 rfl rfl rfl rfl rfl rfl rfl ⟨rfl,rfl,rfl,rfl,rfl⟩ rfl rfl rfl rfl rfl named Tryz.func3 closed inst wrapped
  (fun os started H enc _=>lifted os started H enc)
theorem proved:Rows.CallstackPushSaid:=
 over
#print axioms proved
end Go.Proofs.YtiogflechpgdiaaGreat.callstackPush
