/-
  The law CallstackArguments holds for every input: the function returns true, and Z75 argument reads behind the call as it read before. No condition.
-/
import Derived.Test.YtiogflechpgdiaaGreatCalLA
import Derived.WalkKit
import Derived.ProofKit
import Derived.OpenShut
import Derived.ChangeMaps5
namespace Go.Proofs.YtiogflechpgdiaaGreat.callstackArguments
open Go.ChangeShapes Go.WideShapes Go.ChangeAt Go.RowKit Go.ChangeMaps Go.Den
set_option linter.unusedVariables false
theorem own:ownKnob Tryz.prog.godebug=none:=by kernel_rfl
theorem laid:laidOutB Tryz.prog=true:=by kernel_rfl
def wf_156 (y:Za6):Prop:=(fun s:List UInt8=>s.length≤reachBytes) y.Zm9∧((fun n:Int=>IntKind.min .i64≤n∧n≤IntKind.max .i64) y.f_To∧(True))
theorem rd_156:Z2c Tryz.prog 156 Zeq wf_156:=
 (Z3a (tot:=2) Tryz.underlying156 (by kernel_rfl) (Z0k (n:=1) (Z45 (P:=Tryz.prog) Tryz.underlying9) (by kernel_rfl) (Z0k (n:=1) (Z1z (P:=Tryz.prog) Tryz.underlying3) (by kernel_rfl) Z39 rfl) rfl)).map (fun p:(List UInt8)×(Int×Unit)=>({ Zm9:=p.1,f_To:=p.2.1 }:Za6)) (fun _=>rfl) (fun _ h=>h)
def wf_151 (ys:List Za6):Prop:=(∀ y∈ys,wf_156 y)∧ys.length*Tryz.prog.bytesOf 156≤reachBytes
theorem rd_151:Z2c Tryz.prog 151 (fun ys:List Za6=>[D.sl false (ys.map Zeq)]) wf_151:=Z48 Tryz.underlying151 (row:=Zeq) rd_156 (Nat.lt_of_lt_of_le (by decide:0<1) (Nat.le_of_ble_eq_true (by kernel_rfl)))
def wf_178 (y:Zaq):Prop:=(fun s:List UInt8=>s.length≤reachBytes) y.Z0f∧((fun s:List UInt8=>s.length≤reachBytes) y.Z32∧(True))
theorem rd_178:Z2c Tryz.prog 178 Zh0 wf_178:=
 (Z3a (tot:=2) Tryz.underlying178 (by kernel_rfl) (Z0k (n:=1) (Z45 (P:=Tryz.prog) Tryz.underlying9) (by kernel_rfl) (Z0k (n:=1) (Z45 (P:=Tryz.prog) Tryz.underlying9) (by kernel_rfl) Z39 rfl) rfl)).map (fun p:(List UInt8)×(List UInt8)×Unit=>({ Z0f:=p.1,Z32:=p.2.1 }:Zaq)) (fun _=>rfl) (fun _ h=>h)
def wf_152 (ys:List Zaq):Prop:=(∀ y∈ys,wf_178 y)∧ys.length*Tryz.prog.bytesOf 178≤reachBytes
theorem rd_152:Z2c Tryz.prog 152 (fun ys:List Zaq=>[D.sl false (ys.map Zh0)]) wf_152:=Z48 Tryz.underlying152 (row:=Zh0) rd_178 (Nat.lt_of_lt_of_le (by decide:0<1) (Nat.le_of_ble_eq_true (by kernel_rfl)))
def wf_154 (y:Z1m):Prop:=wf_151 y.Z6e∧(wf_152 y.Z4b∧(True))
theorem rd_154:Z2c Tryz.prog 154 Z2n wf_154:=
 (Z3a (tot:=2) Tryz.underlying154 (by kernel_rfl) (Z0k (n:=1) rd_151 (by kernel_rfl) (Z0k (n:=1) rd_152 (by kernel_rfl) Z39 rfl) rfl)).map (fun p:(List Za6)×(List Zaq)×Unit=>({ Z6e:=p.1,Z4b:=p.2.1 }:Z1m)) (fun _=>rfl) (fun _ h=>h)
def wf_22 (ys:List Z1m):Prop:=(∀ y∈ys,wf_154 y)∧ys.length*Tryz.prog.bytesOf 154≤reachBytes
theorem rd_22:Z2c Tryz.prog 22 (fun ys:List Z1m=>[D.sl false (ys.map Z2n)]) wf_22:=Z48 Tryz.underlying22 (row:=Z2n) rd_154 (Nat.lt_of_lt_of_le (by decide:0<1) (Nat.le_of_ble_eq_true (by kernel_rfl)))
def wf_32 (ys:List (List UInt8)):Prop:=(∀ y∈ys,(fun s:List UInt8=>s.length≤reachBytes) y)∧ys.length*Tryz.prog.bytesOf 9≤reachBytes
theorem rd_32:Z2c Tryz.prog 32 (fun ys:List (List UInt8)=>[D.sl false (ys.map Z2x)]) wf_32:=Z48 Tryz.underlying32 (row:=Z2x) (Z45 (P:=Tryz.prog) Tryz.underlying9) (Nat.lt_of_lt_of_le (by decide:0<1) (Nat.le_of_ble_eq_true (by kernel_rfl)))
def wf_173 (y:Z5m):Prop:=(fun n:Int=>IntKind.min .i64≤n∧n≤IntKind.max .i64) y.Z0s∧((fun s:List UInt8=>s.length≤reachBytes) y.Z0f∧((fun s:List UInt8=>s.length≤reachBytes) y.Z2d∧((fun n:Int=>IntKind.min .i64≤n∧n≤IntKind.max .i64) y.Z68∧((fun n:Int=>IntKind.min .i64≤n∧n≤IntKind.max .i64) y.f_N∧((fun s:List UInt8=>s.length≤reachBytes) y.f_S∧(True))))))
theorem rd_173:Z2c Tryz.prog 173 Z89 wf_173:=
 (Z3a (tot:=6) Tryz.underlying173 (by kernel_rfl) (Z0k (n:=1) (Z1z (P:=Tryz.prog) Tryz.underlying3) (by kernel_rfl) (Z0k (n:=1) (Z45 (P:=Tryz.prog) Tryz.underlying9) (by kernel_rfl) (Z0k (n:=1) (Z45 (P:=Tryz.prog) Tryz.underlying9) (by kernel_rfl) (Z0k (n:=1) (Z1z (P:=Tryz.prog) Tryz.underlying3) (by kernel_rfl) (Z0k (n:=1) (Z1z (P:=Tryz.prog) Tryz.underlying3) (by kernel_rfl) (Z0k (n:=1) (Z45 (P:=Tryz.prog) Tryz.underlying9) (by kernel_rfl) Z39 rfl) rfl) rfl) rfl) rfl) rfl)).map (fun p:Int×(List UInt8)×(List UInt8)×(Int×(Int×(List UInt8)×Unit))=>({ Z0s:=p.1,Z0f:=p.2.1,Z2d:=p.2.2.1,Z68:=p.2.2.2.1,f_N:=p.2.2.2.2.1,f_S:=p.2.2.2.2.2.1 }:Z5m)) (fun _=>rfl) (fun _ h=>h)
def wf_100 (ys:List Z5m):Prop:=(∀ y∈ys,wf_173 y)∧ys.length*Tryz.prog.bytesOf 173≤reachBytes
theorem rd_100:Z2c Tryz.prog 100 (fun ys:List Z5m=>[D.sl false (ys.map Z89)]) wf_100:=Z48 Tryz.underlying100 (row:=Z89) rd_173 (Nat.lt_of_lt_of_le (by decide:0<1) (Nat.le_of_ble_eq_true (by kernel_rfl)))
def wf_59 (ys:List Int):Prop:=(∀ y∈ys,(fun n:Int=>IntKind.min .i64≤n∧n≤IntKind.max .i64) y)∧ys.length*Tryz.prog.bytesOf 3≤reachBytes
theorem rd_59:Z2c Tryz.prog 59 (fun ys:List Int=>[D.sl false (ys.map Z03)]) wf_59:=Z48 Tryz.underlying59 (row:=Z03) (Z1z (P:=Tryz.prog) Tryz.underlying3) (Nat.lt_of_lt_of_le (by decide:0<1) (Nat.le_of_ble_eq_true (by kernel_rfl)))
def wf_61 (y:Z1t):Prop:=(fun s:List UInt8=>s.length≤reachBytes) y.Z0u∧((fun s:List UInt8=>s.length≤reachBytes) y.Z0f∧((fun s:List UInt8=>s.length≤reachBytes) y.Z2d∧(True)))
theorem rd_61:Z2c Tryz.prog 61 Zk8 wf_61:=
 (Z3a (tot:=3) Tryz.underlying61 (by kernel_rfl) (Z0k (n:=1) (Z45 (P:=Tryz.prog) Tryz.underlying9) (by kernel_rfl) (Z0k (n:=1) (Z45 (P:=Tryz.prog) Tryz.underlying9) (by kernel_rfl) (Z0k (n:=1) (Z45 (P:=Tryz.prog) Tryz.underlying9) (by kernel_rfl) Z39 rfl) rfl) rfl)).map (fun p:(List UInt8)×(List UInt8)×(List UInt8)×Unit=>({ Z0u:=p.1,Z0f:=p.2.1,Z2d:=p.2.2.1 }:Z1t)) (fun _=>rfl) (fun _ h=>h)
def wf_63 (y:Z01):Prop:=(fun n:Int=>IntKind.min .i64≤n∧n≤IntKind.max .i64) y.f_Op∧((fun n:Int=>IntKind.min .i64≤n∧n≤IntKind.max .i64) y.f_A∧((fun n:Int=>IntKind.min .i64≤n∧n≤IntKind.max .i64) y.f_B∧((fun n:Int=>IntKind.min .i64≤n∧n≤IntKind.max .i64) y.f_To∧(wf_59 y.Z0z∧(wf_59 y.Z0c∧(wf_61 y.Z1k∧((fun s:List UInt8=>s.length≤reachBytes) y.f_S∧(True))))))))
theorem rd_63:Z2c Tryz.prog 63 Z0h wf_63:=
 (Z3a (tot:=10) Tryz.underlying63 (by kernel_rfl) (Z0k (n:=1) (Z1z (P:=Tryz.prog) Tryz.underlying3) (by kernel_rfl) (Z0k (n:=1) (Z1z (P:=Tryz.prog) Tryz.underlying3) (by kernel_rfl) (Z0k (n:=1) (Z1z (P:=Tryz.prog) Tryz.underlying3) (by kernel_rfl) (Z0k (n:=1) (Z1z (P:=Tryz.prog) Tryz.underlying3) (by kernel_rfl) (Z0k (n:=1) rd_59 (by kernel_rfl) (Z0k (n:=1) rd_59 (by kernel_rfl) (Z0k (n:=3) rd_61 (by kernel_rfl) (Z0k (n:=1) (Z45 (P:=Tryz.prog) Tryz.underlying9) (by kernel_rfl) Z39 rfl) rfl) rfl) rfl) rfl) rfl) rfl) rfl)).map (fun p:Int×(Int×(Int×(Int×(List Int)×(List Int)×(Z1t×(List UInt8)×Unit))))=>({ f_Op:=p.1,f_A:=p.2.1,f_B:=p.2.2.1,f_To:=p.2.2.2.1,Z0z:=p.2.2.2.2.1,Z0c:=p.2.2.2.2.2.1,Z1k:=p.2.2.2.2.2.2.1,f_S:=p.2.2.2.2.2.2.2.1 }:Z01)) (fun _=>rfl) (fun _ h=>h)
def wf_68 (ys:List Z01):Prop:=(∀ y∈ys,wf_63 y)∧ys.length*Tryz.prog.bytesOf 63≤reachBytes
theorem rd_68:Z2c Tryz.prog 68 (fun ys:List Z01=>[D.sl false (ys.map Z0h)]) wf_68:=Z48 Tryz.underlying68 (row:=Z0h) rd_63 (Nat.lt_of_lt_of_le (by decide:0<1) (Nat.le_of_ble_eq_true (by kernel_rfl)))
def wf_111 (y:Z0p):Prop:=(fun n:Int=>IntKind.min .i64≤n∧n≤IntKind.max .i64) y.Z6s∧((fun n:Int=>IntKind.min .i64≤n∧n≤IntKind.max .i64) y.f_To∧((fun n:Int=>IntKind.min .i64≤n∧n≤IntKind.max .i64) y.Z6m∧((fun n:Int=>IntKind.min .i64≤n∧n≤IntKind.max .i64) y.Z0u∧((fun s:List UInt8=>s.length≤reachBytes) y.Z19∧(True)))))
theorem rd_111:Z2c Tryz.prog 111 Z10 wf_111:=
 (Z3a (tot:=5) Tryz.underlying111 (by kernel_rfl) (Z0k (n:=1) (Z1z (P:=Tryz.prog) Tryz.underlying3) (by kernel_rfl) (Z0k (n:=1) (Z1z (P:=Tryz.prog) Tryz.underlying3) (by kernel_rfl) (Z0k (n:=1) (Z1z (P:=Tryz.prog) Tryz.underlying3) (by kernel_rfl) (Z0k (n:=1) (Z1z (P:=Tryz.prog) Tryz.underlying3) (by kernel_rfl) (Z0k (n:=1) (Z45 (P:=Tryz.prog) Tryz.underlying9) (by kernel_rfl) Z39 rfl) rfl) rfl) rfl) rfl)).map (fun p:Int×(Int×(Int×(Int×(List UInt8)×Unit)))=>({ Z6s:=p.1,f_To:=p.2.1,Z6m:=p.2.2.1,Z0u:=p.2.2.2.1,Z19:=p.2.2.2.2.1 }:Z0p)) (fun _=>rfl) (fun _ h=>h)
def wf_69 (ys:List Z0p):Prop:=(∀ y∈ys,wf_111 y)∧ys.length*Tryz.prog.bytesOf 111≤reachBytes
theorem rd_69:Z2c Tryz.prog 69 (fun ys:List Z0p=>[D.sl false (ys.map Z10)]) wf_69:=Z48 Tryz.underlying69 (row:=Z10) rd_111 (Nat.lt_of_lt_of_le (by decide:0<1) (Nat.le_of_ble_eq_true (by kernel_rfl)))
def wf_141 (y:Z0i):Prop:=(fun n:Int=>IntKind.min .i64≤n∧n≤IntKind.max .i64) y.Z0v∧((fun n:Int=>IntKind.min .u8≤n∧n≤IntKind.max .u8) y.Z12∧((fun s:List UInt8=>s.length≤reachBytes) y.Z0f∧(True)))
theorem rd_141:Z2c Tryz.prog 141 Z20 wf_141:=
 (Z3a (tot:=3) Tryz.underlying141 (by kernel_rfl) (Z0k (n:=1) (Z1z (P:=Tryz.prog) Tryz.underlying3) (by kernel_rfl) (Z0k (n:=1) (Z1z (P:=Tryz.prog) Tryz.underlying5) (by kernel_rfl) (Z0k (n:=1) (Z45 (P:=Tryz.prog) Tryz.underlying9) (by kernel_rfl) Z39 rfl) rfl) rfl)).map (fun p:Int×(Int×(List UInt8)×Unit)=>({ Z0v:=p.1,Z12:=p.2.1,Z0f:=p.2.2.1 }:Z0i)) (fun _=>rfl) (fun _ h=>h)
def wf_150 (y:Z0l):Prop:=(fun n:Int=>IntKind.min .i64≤n∧n≤IntKind.max .i64) y.Z15∧((fun n:Int=>IntKind.min .i64≤n∧n≤IntKind.max .i64) y.Z42∧(wf_141 y.Z19∧((fun n:Int=>IntKind.min .i64≤n∧n≤IntKind.max .i64) y.Z4o∧(True))))
theorem rd_150:Z2c Tryz.prog 150 Z1r wf_150:=
 (Z3a (tot:=6) Tryz.underlying150 (by kernel_rfl) (Z0k (n:=1) (Z1z (P:=Tryz.prog) Tryz.underlying3) (by kernel_rfl) (Z0k (n:=1) (Z1z (P:=Tryz.prog) Tryz.underlying3) (by kernel_rfl) (Z0k (n:=3) rd_141 (by kernel_rfl) (Z0k (n:=1) (Z1z (P:=Tryz.prog) Tryz.underlying3) (by kernel_rfl) Z39 rfl) rfl) rfl) rfl)).map (fun p:Int×(Int×(Z0i×(Int×Unit)))=>({ Z15:=p.1,Z42:=p.2.1,Z19:=p.2.2.1,Z4o:=p.2.2.2.1 }:Z0l)) (fun _=>rfl) (fun _ h=>h)
def wf_112 (ys:List Z0l):Prop:=(∀ y∈ys,wf_150 y)∧ys.length*Tryz.prog.bytesOf 150≤reachBytes
theorem rd_112:Z2c Tryz.prog 112 (fun ys:List Z0l=>[D.sl false (ys.map Z1r)]) wf_112:=Z48 Tryz.underlying112 (row:=Z1r) rd_150 (Nat.lt_of_lt_of_le (by decide:0<1) (Nat.le_of_ble_eq_true (by kernel_rfl)))
def wf_114 (y:Z66):Prop:=wf_112 y.Z0g∧(wf_112 y.Z0e∧((fun _:Bool=>True) y.Z7c∧(True)))
theorem rd_114:Z2c Tryz.prog 114 Y13 wf_114:=
 (Z3a (tot:=3) Tryz.underlying114 (by kernel_rfl) (Z0k (n:=1) rd_112 (by kernel_rfl) (Z0k (n:=1) rd_112 (by kernel_rfl) (Z0k (n:=1) (Zol (P:=Tryz.prog) Tryz.underlying4) (by kernel_rfl) Z39 rfl) rfl) rfl)).map (fun p:(List Z0l)×(List Z0l)×(Bool×Unit)=>({ Z0g:=p.1,Z0e:=p.2.1,Z7c:=p.2.2.1 }:Z66)) (fun _=>rfl) (fun _ h=>h)
def wf_116 (y:Z0q):Prop:=(fun n:Int=>IntKind.min .i64≤n∧n≤IntKind.max .i64) y.Z2m∧(wf_114 y.Z1s∧(True))
theorem rd_116:Z2c Tryz.prog 116 Z14 wf_116:=
 (Z3a (tot:=4) Tryz.underlying116 (by kernel_rfl) (Z0k (n:=1) (Z1z (P:=Tryz.prog) Tryz.underlying3) (by kernel_rfl) (Z0k (n:=3) rd_114 (by kernel_rfl) Z39 rfl) rfl)).map (fun p:Int×(Z66×Unit)=>({ Z2m:=p.1,Z1s:=p.2.1 }:Z0q)) (fun _=>rfl) (fun _ h=>h)
def wf_70 (ys:List Z0q):Prop:=(∀ y∈ys,wf_116 y)∧ys.length*Tryz.prog.bytesOf 116≤reachBytes
theorem rd_70:Z2c Tryz.prog 70 (fun ys:List Z0q=>[D.sl false (ys.map Z14)]) wf_70:=Z48 Tryz.underlying70 (row:=Z14) rd_116 (Nat.lt_of_lt_of_le (by decide:0<1) (Nat.le_of_ble_eq_true (by kernel_rfl)))
def wf_119 (y:Z17):Prop:=(fun n:Int=>IntKind.min .i64≤n∧n≤IntKind.max .i64) y.Z2m∧((fun n:Int=>IntKind.min .i64≤n∧n≤IntKind.max .i64) y.Z87∧(True))
theorem rd_119:Z2c Tryz.prog 119 Z1g wf_119:=
 (Z3a (tot:=2) Tryz.underlying119 (by kernel_rfl) (Z0k (n:=1) (Z1z (P:=Tryz.prog) Tryz.underlying3) (by kernel_rfl) (Z0k (n:=1) (Z1z (P:=Tryz.prog) Tryz.underlying3) (by kernel_rfl) Z39 rfl) rfl)).map (fun p:Int×(Int×Unit)=>({ Z2m:=p.1,Z87:=p.2.1 }:Z17)) (fun _=>rfl) (fun _ h=>h)
def wf_71 (ys:List Z17):Prop:=(∀ y∈ys,wf_119 y)∧ys.length*Tryz.prog.bytesOf 119≤reachBytes
theorem rd_71:Z2c Tryz.prog 71 (fun ys:List Z17=>[D.sl false (ys.map Z1g)]) wf_71:=Z48 Tryz.underlying71 (row:=Z1g) rd_119 (Nat.lt_of_lt_of_le (by decide:0<1) (Nat.le_of_ble_eq_true (by kernel_rfl)))
def wf_73 (y:Z0a):Prop:=(fun n:Int=>IntKind.min .i64≤n∧n≤IntKind.max .i64) y.Z0e∧((fun n:Int=>IntKind.min .i64≤n∧n≤IntKind.max .i64) y.Z0g∧(wf_68 y.Z0r∧(wf_69 y.Z2f∧(wf_70 y.Z1q∧(wf_71 y.Z25∧(True))))))
theorem rd_73:Z2c Tryz.prog 73 Z13 wf_73:=
 (Z3a (tot:=6) Tryz.underlying73 (by kernel_rfl) (Z0k (n:=1) (Z1z (P:=Tryz.prog) Tryz.underlying3) (by kernel_rfl) (Z0k (n:=1) (Z1z (P:=Tryz.prog) Tryz.underlying3) (by kernel_rfl) (Z0k (n:=1) rd_68 (by kernel_rfl) (Z0k (n:=1) rd_69 (by kernel_rfl) (Z0k (n:=1) rd_70 (by kernel_rfl) (Z0k (n:=1) rd_71 (by kernel_rfl) Z39 rfl) rfl) rfl) rfl) rfl) rfl)).map (fun p:Int×(Int×(List Z01)×(List Z0p)×(List Z0q)×(List Z17)×Unit)=>({ Z0e:=p.1,Z0g:=p.2.1,Z0r:=p.2.2.1,Z2f:=p.2.2.2.1,Z1q:=p.2.2.2.2.1,Z25:=p.2.2.2.2.2.1 }:Z0a)) (fun _=>rfl) (fun _ h=>h)
def wf_90 (y:Z1o):Prop:=(fun n:Int=>IntKind.min .i64≤n∧n≤IntKind.max .i64) y.Z0s∧((fun s:List UInt8=>s.length≤reachBytes) y.Z0f∧((fun s:List UInt8=>s.length≤reachBytes) y.Z2d∧((fun _:Bool=>True) y.Z40∧(wf_73 y.Z1f∧(wf_32 y.Z7o∧(True))))))
theorem rd_90:Z2c Tryz.prog 90 Z4v wf_90:=
 (Z3a (tot:=11) Tryz.underlying90 (by kernel_rfl) (Z0k (n:=1) (Z1z (P:=Tryz.prog) Tryz.underlying3) (by kernel_rfl) (Z0k (n:=1) (Z45 (P:=Tryz.prog) Tryz.underlying9) (by kernel_rfl) (Z0k (n:=1) (Z45 (P:=Tryz.prog) Tryz.underlying9) (by kernel_rfl) (Z0k (n:=1) (Zol (P:=Tryz.prog) Tryz.underlying4) (by kernel_rfl) (Z0k (n:=6) rd_73 (by kernel_rfl) (Z0k (n:=1) rd_32 (by kernel_rfl) Z39 rfl) rfl) rfl) rfl) rfl) rfl)).map (fun p:Int×(List UInt8)×(List UInt8)×(Bool×(Z0a×(List (List UInt8))×Unit))=>({ Z0s:=p.1,Z0f:=p.2.1,Z2d:=p.2.2.1,Z40:=p.2.2.2.1,Z1f:=p.2.2.2.2.1,Z7o:=p.2.2.2.2.2.1 }:Z1o)) (fun _=>rfl) (fun _ h=>h)
def wf_101 (ys:List Z1o):Prop:=(∀ y∈ys,wf_90 y)∧ys.length*Tryz.prog.bytesOf 90≤reachBytes
theorem rd_101:Z2c Tryz.prog 101 (fun ys:List Z1o=>[D.sl false (ys.map Z4v)]) wf_101:=Z48 Tryz.underlying101 (row:=Z4v) rd_90 (Nat.lt_of_lt_of_le (by decide:0<1) (Nat.le_of_ble_eq_true (by kernel_rfl)))
def wf_103 (y:Z0t):Prop:=(fun n:Int=>IntKind.min .i64≤n∧n≤IntKind.max .i64) y.Z0s∧((fun s:List UInt8=>s.length≤reachBytes) y.Z0f∧((fun s:List UInt8=>s.length≤reachBytes) y.Z21∧(wf_32 y.Z1l∧(wf_100 y.Z1d∧(wf_101 y.Z0m∧((fun s:List UInt8=>s.length≤reachBytes) y.Z9q∧(True)))))))
theorem rd_103:Z2c Tryz.prog 103 Z2y wf_103:=
 (Z3a (tot:=7) Tryz.underlying103 (by kernel_rfl) (Z0k (n:=1) (Z1z (P:=Tryz.prog) Tryz.underlying3) (by kernel_rfl) (Z0k (n:=1) (Z45 (P:=Tryz.prog) Tryz.underlying9) (by kernel_rfl) (Z0k (n:=1) (Z45 (P:=Tryz.prog) Tryz.underlying9) (by kernel_rfl) (Z0k (n:=1) rd_32 (by kernel_rfl) (Z0k (n:=1) rd_100 (by kernel_rfl) (Z0k (n:=1) rd_101 (by kernel_rfl) (Z0k (n:=1) (Z45 (P:=Tryz.prog) Tryz.underlying9) (by kernel_rfl) Z39 rfl) rfl) rfl) rfl) rfl) rfl) rfl)).map (fun p:Int×(List UInt8)×(List UInt8)×(List (List UInt8))×(List Z5m)×(List Z1o)×(List UInt8)×Unit=>({ Z0s:=p.1,Z0f:=p.2.1,Z21:=p.2.2.1,Z1l:=p.2.2.2.1,Z1d:=p.2.2.2.2.1,Z0m:=p.2.2.2.2.2.1,Z9q:=p.2.2.2.2.2.2.1 }:Z0t)) (fun _=>rfl) (fun _ h=>h)
def wf_105 (y:Z26):Prop:=(fun n:Int=>IntKind.min .i64≤n∧n≤IntKind.max .i64) y.Z38∧(wf_103 y.Z1j∧((fun n:Int=>IntKind.min .i64≤n∧n≤IntKind.max .i64) y.Z21∧(wf_59 y.Z1l∧((fun n:Int=>IntKind.min .i64≤n∧n≤IntKind.max .i64) y.Zdi∧((fun n:Int=>IntKind.min .i64≤n∧n≤IntKind.max .i64) y.Zix∧(True))))))
theorem rd_105:Z2c Tryz.prog 105 Z36 wf_105:=
 (Z3a (tot:=12) Tryz.underlying105 (by kernel_rfl) (Z0k (n:=1) (Z1z (P:=Tryz.prog) Tryz.underlying3) (by kernel_rfl) (Z0k (n:=7) rd_103 (by kernel_rfl) (Z0k (n:=1) (Z1z (P:=Tryz.prog) Tryz.underlying3) (by kernel_rfl) (Z0k (n:=1) rd_59 (by kernel_rfl) (Z0k (n:=1) (Z1z (P:=Tryz.prog) Tryz.underlying3) (by kernel_rfl) (Z0k (n:=1) (Z1z (P:=Tryz.prog) Tryz.underlying40) (by kernel_rfl) Z39 rfl) rfl) rfl) rfl) rfl) rfl)).map (fun p:Int×(Z0t×(Int×(List Int)×(Int×(Int×Unit))))=>({ Z38:=p.1,Z1j:=p.2.1,Z21:=p.2.2.1,Z1l:=p.2.2.2.1,Zdi:=p.2.2.2.2.1,Zix:=p.2.2.2.2.2.1 }:Z26)) (fun _=>rfl) (fun _ h=>h)
def wf_23 (ys:List Z26):Prop:=(∀ y∈ys,wf_105 y)∧ys.length*Tryz.prog.bytesOf 105≤reachBytes
theorem rd_23:Z2c Tryz.prog 23 (fun ys:List Z26=>[D.sl false (ys.map Z36)]) wf_23:=Z48 Tryz.underlying23 (row:=Z36) rd_105 (Nat.lt_of_lt_of_le (by decide:0<1) (Nat.le_of_ble_eq_true (by kernel_rfl)))
def wf_133 (y:Z31):Prop:=(fun n:Int=>IntKind.min .i64≤n∧n≤IntKind.max .i64) y.Z38∧((fun s:List UInt8=>s.length≤reachBytes) y.Z0f∧((fun n:Int=>IntKind.min .i64≤n∧n≤IntKind.max .i64) y.Z0u∧(True)))
theorem rd_133:Z2c Tryz.prog 133 Z3g wf_133:=
 (Z3a (tot:=3) Tryz.underlying133 (by kernel_rfl) (Z0k (n:=1) (Z1z (P:=Tryz.prog) Tryz.underlying3) (by kernel_rfl) (Z0k (n:=1) (Z45 (P:=Tryz.prog) Tryz.underlying9) (by kernel_rfl) (Z0k (n:=1) (Z1z (P:=Tryz.prog) Tryz.underlying3) (by kernel_rfl) Z39 rfl) rfl) rfl)).map (fun p:Int×(List UInt8)×(Int×Unit)=>({ Z38:=p.1,Z0f:=p.2.1,Z0u:=p.2.2.1 }:Z31)) (fun _=>rfl) (fun _ h=>h)
def wf_24 (ys:List Z31):Prop:=(∀ y∈ys,wf_133 y)∧ys.length*Tryz.prog.bytesOf 133≤reachBytes
theorem rd_24:Z2c Tryz.prog 24 (fun ys:List Z31=>[D.sl false (ys.map Z3g)]) wf_24:=Z48 Tryz.underlying24 (row:=Z3g) rd_133 (Nat.lt_of_lt_of_le (by decide:0<1) (Nat.le_of_ble_eq_true (by kernel_rfl)))
def wf_122 (y:Z46):Prop:=(fun s:List UInt8=>s.length≤reachBytes) y.Z0f∧((fun n:Int=>IntKind.min .i64≤n∧n≤IntKind.max .i64) y.f_A∧((fun n:Int=>IntKind.min .i64≤n∧n≤IntKind.max .i64) y.f_B∧(True)))
theorem rd_122:Z2c Tryz.prog 122 Z3r wf_122:=
 (Z3a (tot:=3) Tryz.underlying122 (by kernel_rfl) (Z0k (n:=1) (Z45 (P:=Tryz.prog) Tryz.underlying9) (by kernel_rfl) (Z0k (n:=1) (Z1z (P:=Tryz.prog) Tryz.underlying3) (by kernel_rfl) (Z0k (n:=1) (Z1z (P:=Tryz.prog) Tryz.underlying3) (by kernel_rfl) Z39 rfl) rfl) rfl)).map (fun p:(List UInt8)×(Int×(Int×Unit))=>({ Z0f:=p.1,f_A:=p.2.1,f_B:=p.2.2.1 }:Z46)) (fun _=>rfl) (fun _ h=>h)
def wf_25 (ys:List Z46):Prop:=(∀ y∈ys,wf_122 y)∧ys.length*Tryz.prog.bytesOf 122≤reachBytes
theorem rd_25:Z2c Tryz.prog 25 (fun ys:List Z46=>[D.sl false (ys.map Z3r)]) wf_25:=Z48 Tryz.underlying25 (row:=Z3r) rd_122 (Nat.lt_of_lt_of_le (by decide:0<1) (Nat.le_of_ble_eq_true (by kernel_rfl)))
def wf_27 (y:Z0w):Prop:=wf_22 y.Z23∧(wf_23 y.Z0x∧(wf_24 y.Z2t∧(wf_25 y.Z3p∧(True))))
theorem rd_27:Z2c Tryz.prog 27 Z2g wf_27:=
 (Z3a (tot:=4) Tryz.underlying27 (by kernel_rfl) (Z0k (n:=1) rd_22 (by kernel_rfl) (Z0k (n:=1) rd_23 (by kernel_rfl) (Z0k (n:=1) rd_24 (by kernel_rfl) (Z0k (n:=1) rd_25 (by kernel_rfl) Z39 rfl) rfl) rfl) rfl)).map (fun p:(List Z1m)×(List Z26)×(List Z31)×(List Z46)×Unit=>({ Z23:=p.1,Z0x:=p.2.1,Z2t:=p.2.2.1,Z3p:=p.2.2.2.1 }:Z0w)) (fun _=>rfl) (fun _ h=>h)
def wf_79 (y:Z37):Prop:=(fun n:Int=>IntKind.min .i64≤n∧n≤IntKind.max .i64) y.Z0v∧((fun n:Int=>IntKind.min .u8≤n∧n≤IntKind.max .u8) y.Z12∧((fun n:Int=>IntKind.min .i64≤n∧n≤IntKind.max .i64) y.Z0u∧(True)))
theorem rd_79:Z2c Tryz.prog 79 Z7v wf_79:=
 (Z3a (tot:=3) Tryz.underlying79 (by kernel_rfl) (Z0k (n:=1) (Z1z (P:=Tryz.prog) Tryz.underlying3) (by kernel_rfl) (Z0k (n:=1) (Z1z (P:=Tryz.prog) Tryz.underlying5) (by kernel_rfl) (Z0k (n:=1) (Z1z (P:=Tryz.prog) Tryz.underlying3) (by kernel_rfl) Z39 rfl) rfl) rfl)).map (fun p:Int×(Int×(Int×Unit))=>({ Z0v:=p.1,Z12:=p.2.1,Z0u:=p.2.2.1 }:Z37)) (fun _=>rfl) (fun _ h=>h)
def wf_56 (y:Z0d):Prop:=(fun n:Int=>IntKind.min .i64≤n∧n≤IntKind.max .i64) y.Z15∧((fun n:Int=>IntKind.min .i64≤n∧n≤IntKind.max .i64) y.f_N∧(True))
theorem rd_56:Z2c Tryz.prog 56 Z1p wf_56:=
 (Z3a (tot:=2) Tryz.underlying56 (by kernel_rfl) (Z0k (n:=1) (Z1z (P:=Tryz.prog) Tryz.underlying3) (by kernel_rfl) (Z0k (n:=1) (Z1z (P:=Tryz.prog) Tryz.underlying3) (by kernel_rfl) Z39 rfl) rfl)).map (fun p:Int×(Int×Unit)=>({ Z15:=p.1,f_N:=p.2.1 }:Z0d)) (fun _=>rfl) (fun _ h=>h)
def wf_35 (ys:List Z0d):Prop:=(∀ y∈ys,wf_56 y)∧ys.length*Tryz.prog.bytesOf 56≤reachBytes
theorem rd_35:Z2c Tryz.prog 35 (fun ys:List Z0d=>[D.sl false (ys.map Z1p)]) wf_35:=Z48 Tryz.underlying35 (row:=Z1p) rd_56 (Nat.lt_of_lt_of_le (by decide:0<1) (Nat.le_of_ble_eq_true (by kernel_rfl)))
def wf_81 (y:Z2j):Prop:=(fun n:Int=>IntKind.min .i64≤n∧n≤IntKind.max .i64) y.Z15∧(wf_79 y.Z19∧(wf_35 y.Z55∧((fun s:List UInt8=>s.length≤reachBytes) y.Z49∧((fun n:Int=>IntKind.min .i64≤n∧n≤IntKind.max .i64) y.Z8j∧((fun n:Int=>IntKind.min .i64≤n∧n≤IntKind.max .i64) y.Z3b∧(wf_59 y.Z5t∧(True)))))))
theorem rd_81:Z2c Tryz.prog 81 Z35 wf_81:=
 (Z3a (tot:=9) Tryz.underlying81 (by kernel_rfl) (Z0k (n:=1) (Z1z (P:=Tryz.prog) Tryz.underlying3) (by kernel_rfl) (Z0k (n:=3) rd_79 (by kernel_rfl) (Z0k (n:=1) rd_35 (by kernel_rfl) (Z0k (n:=1) (Z45 (P:=Tryz.prog) Tryz.underlying9) (by kernel_rfl) (Z0k (n:=1) (Z1z (P:=Tryz.prog) Tryz.underlying3) (by kernel_rfl) (Z0k (n:=1) (Z1z (P:=Tryz.prog) Tryz.underlying3) (by kernel_rfl) (Z0k (n:=1) rd_59 (by kernel_rfl) Z39 rfl) rfl) rfl) rfl) rfl) rfl) rfl)).map (fun p:Int×(Z37×(List Z0d)×(List UInt8)×(Int×(Int×(List Int)×Unit)))=>({ Z15:=p.1,Z19:=p.2.1,Z55:=p.2.2.1,Z49:=p.2.2.2.1,Z8j:=p.2.2.2.2.1,Z3b:=p.2.2.2.2.2.1,Z5t:=p.2.2.2.2.2.2.1 }:Z2j)) (fun _=>rfl) (fun _ h=>h)
def wf_28 (ys:List Z2j):Prop:=(∀ y∈ys,wf_81 y)∧ys.length*Tryz.prog.bytesOf 81≤reachBytes
theorem rd_28:Z2c Tryz.prog 28 (fun ys:List Z2j=>[D.sl false (ys.map Z35)]) wf_28:=Z48 Tryz.underlying28 (row:=Z35) rd_81 (Nat.lt_of_lt_of_le (by decide:0<1) (Nat.le_of_ble_eq_true (by kernel_rfl)))
def wf_129 (y:Z4y):Prop:=(fun n:Int=>IntKind.min .i64≤n∧n≤IntKind.max .i64) y.Z2l∧((fun n:Int=>IntKind.min .i64≤n∧n≤IntKind.max .i64) y.Ze8∧(wf_35 y.Zbv∧(True)))
theorem rd_129:Z2c Tryz.prog 129 Z4m wf_129:=
 (Z3a (tot:=3) Tryz.underlying129 (by kernel_rfl) (Z0k (n:=1) (Z1z (P:=Tryz.prog) Tryz.underlying3) (by kernel_rfl) (Z0k (n:=1) (Z1z (P:=Tryz.prog) Tryz.underlying3) (by kernel_rfl) (Z0k (n:=1) rd_35 (by kernel_rfl) Z39 rfl) rfl) rfl)).map (fun p:Int×(Int×(List Z0d)×Unit)=>({ Z2l:=p.1,Ze8:=p.2.1,Zbv:=p.2.2.1 }:Z4y)) (fun _=>rfl) (fun _ h=>h)
def wf_29 (ys:List Z4y):Prop:=(∀ y∈ys,wf_129 y)∧ys.length*Tryz.prog.bytesOf 129≤reachBytes
theorem rd_29:Z2c Tryz.prog 29 (fun ys:List Z4y=>[D.sl false (ys.map Z4m)]) wf_29:=Z48 Tryz.underlying29 (row:=Z4m) rd_129 (Nat.lt_of_lt_of_le (by decide:0<1) (Nat.le_of_ble_eq_true (by kernel_rfl)))
def wf_126 (y:Z53):Prop:=(fun s:List UInt8=>s.length≤reachBytes) y.Z49∧((fun n:Int=>IntKind.min .i64≤n∧n≤IntKind.max .i64) y.Z3s∧(True))
theorem rd_126:Z2c Tryz.prog 126 Z52 wf_126:=
 (Z3a (tot:=2) Tryz.underlying126 (by kernel_rfl) (Z0k (n:=1) (Z45 (P:=Tryz.prog) Tryz.underlying9) (by kernel_rfl) (Z0k (n:=1) (Z1z (P:=Tryz.prog) Tryz.underlying3) (by kernel_rfl) Z39 rfl) rfl)).map (fun p:(List UInt8)×(Int×Unit)=>({ Z49:=p.1,Z3s:=p.2.1 }:Z53)) (fun _=>rfl) (fun _ h=>h)
def wf_30 (ys:List Z53):Prop:=(∀ y∈ys,wf_126 y)∧ys.length*Tryz.prog.bytesOf 126≤reachBytes
theorem rd_30:Z2c Tryz.prog 30 (fun ys:List Z53=>[D.sl false (ys.map Z52)]) wf_30:=Z48 Tryz.underlying30 (row:=Z52) rd_126 (Nat.lt_of_lt_of_le (by decide:0<1) (Nat.le_of_ble_eq_true (by kernel_rfl)))
def wf_37 (y:Z1b):Prop:=(fun n:Int=>IntKind.min .i64≤n∧n≤IntKind.max .i64) y.Z0u∧((fun n:Int=>IntKind.min .i64≤n∧n≤IntKind.max .i64) y.Z4q∧((fun n:Int=>IntKind.min .i64≤n∧n≤IntKind.max .i64) y.f_PC∧(wf_35 y.Z0g∧(wf_35 y.Z0e∧((fun n:Int=>IntKind.min .i64≤n∧n≤IntKind.max .i64) y.Z6i∧((fun _:Bool=>True) y.Z60∧((fun _:Bool=>True) y.Z6p∧(True))))))))
theorem rd_37:Z2c Tryz.prog 37 Z3i wf_37:=
 (Z3a (tot:=8) Tryz.underlying37 (by kernel_rfl) (Z0k (n:=1) (Z1z (P:=Tryz.prog) Tryz.underlying3) (by kernel_rfl) (Z0k (n:=1) (Z1z (P:=Tryz.prog) Tryz.underlying3) (by kernel_rfl) (Z0k (n:=1) (Z1z (P:=Tryz.prog) Tryz.underlying3) (by kernel_rfl) (Z0k (n:=1) rd_35 (by kernel_rfl) (Z0k (n:=1) rd_35 (by kernel_rfl) (Z0k (n:=1) (Z1z (P:=Tryz.prog) Tryz.underlying3) (by kernel_rfl) (Z0k (n:=1) (Zol (P:=Tryz.prog) Tryz.underlying4) (by kernel_rfl) (Z0k (n:=1) (Zol (P:=Tryz.prog) Tryz.underlying4) (by kernel_rfl) Z39 rfl) rfl) rfl) rfl) rfl) rfl) rfl) rfl)).map (fun p:Int×(Int×(Int×(List Z0d)×(List Z0d)×(Int×(Bool×(Bool×Unit)))))=>({ Z0u:=p.1,Z4q:=p.2.1,f_PC:=p.2.2.1,Z0g:=p.2.2.2.1,Z0e:=p.2.2.2.2.1,Z6i:=p.2.2.2.2.2.1,Z60:=p.2.2.2.2.2.2.1,Z6p:=p.2.2.2.2.2.2.2.1 }:Z1b)) (fun _=>rfl) (fun _ h=>h)
def wf_85 (ys:List Z1b):Prop:=(∀ y∈ys,wf_37 y)∧ys.length*Tryz.prog.bytesOf 37≤reachBytes
theorem rd_85:Z2c Tryz.prog 85 (fun ys:List Z1b=>[D.sl false (ys.map Z3i)]) wf_85:=Z48 Tryz.underlying85 (row:=Z3i) rd_37 (Nat.lt_of_lt_of_le (by decide:0<1) (Nat.le_of_ble_eq_true (by kernel_rfl)))
def wf_87 (y:Z1n):Prop:=(fun n:Int=>IntKind.min .i64≤n∧n≤IntKind.max .i64) y.Z2l∧((fun n:Int=>IntKind.min .i64≤n∧n≤IntKind.max .i64) y.Z4r∧((fun n:Int=>IntKind.min .i64≤n∧n≤IntKind.max .i64) y.Z3b∧(wf_85 y.Z1v∧((fun n:Int=>IntKind.min .i64≤n∧n≤IntKind.max .i64) y.Z3s∧((fun n:Int=>IntKind.min .i64≤n∧n≤IntKind.max .i64) y.Z5s∧(wf_56 y.Z3e∧(True)))))))
theorem rd_87:Z2c Tryz.prog 87 Z2v wf_87:=
 (Z3a (tot:=8) Tryz.underlying87 (by kernel_rfl) (Z0k (n:=1) (Z1z (P:=Tryz.prog) Tryz.underlying3) (by kernel_rfl) (Z0k (n:=1) (Z1z (P:=Tryz.prog) Tryz.underlying3) (by kernel_rfl) (Z0k (n:=1) (Z1z (P:=Tryz.prog) Tryz.underlying3) (by kernel_rfl) (Z0k (n:=1) rd_85 (by kernel_rfl) (Z0k (n:=1) (Z1z (P:=Tryz.prog) Tryz.underlying3) (by kernel_rfl) (Z0k (n:=1) (Z1z (P:=Tryz.prog) Tryz.underlying3) (by kernel_rfl) (Z0k (n:=2) rd_56 (by kernel_rfl) Z39 rfl) rfl) rfl) rfl) rfl) rfl) rfl)).map (fun p:Int×(Int×(Int×(List Z1b)×(Int×(Int×(Z0d×Unit)))))=>({ Z2l:=p.1,Z4r:=p.2.1,Z3b:=p.2.2.1,Z1v:=p.2.2.2.1,Z3s:=p.2.2.2.2.1,Z5s:=p.2.2.2.2.2.1,Z3e:=p.2.2.2.2.2.2.1 }:Z1n)) (fun _=>rfl) (fun _ h=>h)
def wf_31 (ys:List Z1n):Prop:=(∀ y∈ys,wf_87 y)∧ys.length*Tryz.prog.bytesOf 87≤reachBytes
theorem rd_31:Z2c Tryz.prog 31 (fun ys:List Z1n=>[D.sl false (ys.map Z2v)]) wf_31:=Z48 Tryz.underlying31 (row:=Z2v) rd_87 (Nat.lt_of_lt_of_le (by decide:0<1) (Nat.le_of_ble_eq_true (by kernel_rfl)))
def wf_34 (y:Z0b):Prop:=wf_27 y.Z1e∧((fun n:Int=>IntKind.min .i64≤n∧n≤IntKind.max .i64) y.Z5v∧(wf_28 y.Z1y∧(wf_29 y.Z3v∧(wf_30 y.Z44∧(wf_31 y.Z11∧(wf_32 y.Z74∧(True)))))))
theorem rd_34:Z2c Tryz.prog 34 Z1i wf_34:=
 (Z3a (tot:=10) Tryz.underlying34 (by kernel_rfl) (Z0k (n:=4) rd_27 (by kernel_rfl) (Z0k (n:=1) (Z1z (P:=Tryz.prog) Tryz.underlying3) (by kernel_rfl) (Z0k (n:=1) rd_28 (by kernel_rfl) (Z0k (n:=1) rd_29 (by kernel_rfl) (Z0k (n:=1) rd_30 (by kernel_rfl) (Z0k (n:=1) rd_31 (by kernel_rfl) (Z0k (n:=1) rd_32 (by kernel_rfl) Z39 rfl) rfl) rfl) rfl) rfl) rfl) rfl)).map (fun p:Z0w×(Int×(List Z2j)×(List Z4y)×(List Z53)×(List Z1n)×(List (List UInt8))×Unit)=>({ Z1e:=p.1,Z5v:=p.2.1,Z1y:=p.2.2.1,Z3v:=p.2.2.2.1,Z44:=p.2.2.2.2.1,Z11:=p.2.2.2.2.2.1,Z74:=p.2.2.2.2.2.2.1 }:Z0b)) (fun _=>rfl) (fun _ h=>h)
theorem rlS {n:Nat} (h:n≤reachBytes):n≤4503599627370496:=Nat.le_trans h (by decide)
theorem rlB {n b k:Nat} (e:b=k) (h:n*b≤reachBytes):n*k≤140737488355328:=by have:=Zy2 h; rw [e] at this; omega
theorem rlN {n b:Nat} (e:1≤b) (h:n*b≤reachBytes):n≤140737488355328:=Nat.le_trans (Nat.le_trans (Nat.le_of_eq (Nat.mul_one n).symm) (Nat.mul_le_mul_left n e)) (by have:=Zy2 h; omega)
theorem ws_T_api_Ref {y:Z1t} (h:wf_61 y):WRef y:=⟨rlS h.1,rlS h.2.1,rlS h.2.2.1⟩
theorem ws_T_api_Insn {y:Z01} (h:wf_63 y):Z33 y:=⟨rlB (by kernel_rfl) h.2.2.2.2.1.2,rlB (by kernel_rfl) h.2.2.2.2.2.1.2,ws_T_api_Ref h.2.2.2.2.2.2.1,rlS h.2.2.2.2.2.2.2.1⟩
theorem ws_T_api_Frame {y:Z66} (h:wf_114 y):Zbc y:=⟨fun v hv=>rlS (h.1.1 v hv).2.2.1.2.2.1,rlB (by kernel_rfl) h.1.2,fun v hv=>rlS (h.2.1.1 v hv).2.2.1.2.2.1,rlB (by kernel_rfl) h.2.1.2⟩
theorem ws_T_api_Code {y:Z0a} (h:wf_73 y):Z5q y:=⟨fun v hv=>ws_T_api_Insn (h.2.2.1.1 v hv),rlB (by kernel_rfl) h.2.2.1.2,fun v hv=>rlS (h.2.2.2.1.1 v hv).2.2.2.2.1,rlB (by kernel_rfl) h.2.2.2.1.2,fun v hv=>ws_T_api_Frame (h.2.2.2.2.1.1 v hv).2.1,rlB (by kernel_rfl) h.2.2.2.2.1.2,rlB (by kernel_rfl) h.2.2.2.2.2.1.2⟩
theorem ws_T_api_Method {y:Z1o} (h:wf_90 y):Zbw y:=⟨rlS h.2.1,rlS h.2.2.1,ws_T_api_Code h.2.2.2.2.1,fun v hv=>rlS (h.2.2.2.2.2.1.1 v hv),rlB (by kernel_rfl) h.2.2.2.2.2.1.2⟩
theorem ws_T_api_Field {y:Z5m} (h:wf_173 y):Zqr y:=⟨rlS h.2.1,rlS h.2.2.1,rlS h.2.2.2.2.2.1⟩
theorem ws_T_api_ClassModel {y:Z0t} (h:wf_103 y):Z61 y:=⟨rlS h.2.1,rlS h.2.2.1,fun v hv=>rlS (h.2.2.2.1.1 v hv),rlB (by kernel_rfl) h.2.2.2.1.2,fun v hv=>ws_T_api_Field (h.2.2.2.2.1.1 v hv),rlB (by kernel_rfl) h.2.2.2.2.1.2,fun v hv=>ws_T_api_Method (h.2.2.2.2.2.1.1 v hv),rlB (by kernel_rfl) h.2.2.2.2.2.1.2,rlS h.2.2.2.2.2.2.1⟩
theorem ws_T_api_Loader {y:Z1m} (h:wf_154 y):Z8b y:=⟨fun v hv=>rlS (h.1.1 v hv).1,rlN (Nat.le_of_ble_eq_true (by kernel_rfl)) h.1.2,fun v hv=>rlS (h.2.1.1 v hv).1,rlN (Nat.le_of_ble_eq_true (by kernel_rfl)) h.2.1.2⟩
theorem ws_T_api_ClassSpace {y:Z0w} (h:wf_27 y):Z5b y:=⟨fun v hv=>ws_T_api_Loader (h.1.1 v hv),rlN (Nat.le_of_ble_eq_true (by kernel_rfl)) h.1.2,fun v hv=>⟨ws_T_api_ClassModel (h.2.1.1 v hv).2.1,rlN (Nat.le_of_ble_eq_true (by kernel_rfl)) (h.2.1.1 v hv).2.2.2.1.2⟩,rlN (Nat.le_of_ble_eq_true (by kernel_rfl)) h.2.1.2,fun v hv=>rlS (h.2.2.1.1 v hv).2.1,rlN (Nat.le_of_ble_eq_true (by kernel_rfl)) h.2.2.1.2,fun v hv=>rlS (h.2.2.2.1.1 v hv).1,rlN (Nat.le_of_ble_eq_true (by kernel_rfl)) h.2.2.2.1.2⟩
theorem ws_T_api_Object {y:Z2j} (h:wf_81 y):WObj y:=⟨rlN (Nat.le_of_ble_eq_true (by kernel_rfl)) h.2.2.1.2,rlS h.2.2.2.1,rlN (Nat.le_of_ble_eq_true (by kernel_rfl)) h.2.2.2.2.2.2.1.2⟩
theorem ws_T_api_Activation {y:Z1b} (h:wf_37 y):WAct y:=⟨rlN (Nat.le_of_ble_eq_true (by kernel_rfl)) h.2.2.2.1.2,rlN (Nat.le_of_ble_eq_true (by kernel_rfl)) h.2.2.2.2.1.2⟩
theorem ws_T_api_Machine {y:Z0b} (h:wf_34 y):Z57 y:=⟨ws_T_api_ClassSpace h.1,fun v hv=>ws_T_api_Object (h.2.2.1.1 v hv),rlN (Nat.le_of_ble_eq_true (by kernel_rfl)) h.2.2.1.2,fun v hv=>rlN (Nat.le_of_ble_eq_true (by kernel_rfl)) (h.2.2.2.1.1 v hv).2.2.1.2,rlN (Nat.le_of_ble_eq_true (by kernel_rfl)) h.2.2.2.1.2,fun v hv=>rlS (h.2.2.2.2.1.1 v hv).1,rlN (Nat.le_of_ble_eq_true (by kernel_rfl)) h.2.2.2.2.1.2,fun v hv=>⟨fun a ha=>ws_T_api_Activation ((h.2.2.2.2.2.1.1 v hv).2.2.2.1.1 a ha),rlN (Nat.le_of_ble_eq_true (by kernel_rfl)) (h.2.2.2.2.2.1.1 v hv).2.2.2.1.2⟩,rlN (Nat.le_of_ble_eq_true (by kernel_rfl)) h.2.2.2.2.2.1.2,rlN (Nat.le_of_ble_eq_true (by kernel_rfl)) h.2.2.2.2.2.2.1.2⟩
set_option maxRecDepth 100000 in
theorem lifted (os:Os) (started:os.Started) (H:Type) (enc:TypeId×Value→H):
  ReturnsInHanded {} Tryz.checked os 5 .any (Rows.callstackArgumentsSpec.pre6 enc Tryz.prog Tryz.f5 Rows.callstackArgumentsRow.domain false) (Rows.callstackArgumentsSpec.post enc Tryz.prog Tryz.f5 false true false false):=by
 refine returnsInHanded_of_change_sized (C:=Tryz.checked) own started (by kernel_rfl) Tryz.func5
  (ChangeSpec.witness6 (enc:=enc) (C:=Tryz.checked) false ⟨#[],#[.agg #[.slice none 0 0,.slice none 0 0,.slice none 0 0,.slice none 0 0,.int .i64 0,.slice none 0 0,.slice none 0 0,.slice none 0 0,.slice none 0 0,.slice none 0 0],.int .i64 0,.int .i64 0,.agg #[.int .i64 0,.int .i64 0,.int .i64 0,.slice none 0 0,.slice none 0 0,.int .i64 0,.bool false,.bool false]],[]⟩ 8 (by kernel_rfl) (by kernel_rfl) (by kernel_rfl) (by kernel_rfl)) ?_
 intro W base args ds gs before hval0 hW hcnd hsz _
 have hval:∀ (j:Nat) t v,Tryz.f5.params[j]?=some t→args[j]?=some v→Value.okWide Tryz.prog W .any base t v:=hval0
 have hW':=hW
 obtain ⟨p,q,hA0,hV,rfl,hfz,hnd⟩:=hW
 have hA:DataW.TrodAll enc Tryz.prog W 0 (fun _=>true) true Tryz.f5.params.toList args.toList ds p:=hA0
 rw [Tryz.params5] at hA hval
 obtain ⟨v0,vs0,d0,ds0,p0,q0,hargs,rfl,rfl,h0,r0⟩:=trodAll_cons hA
 obtain ⟨v1,vs1,d1,ds1,p1,q1,rfl,rfl,rfl,h1,r1⟩:=trodAll_cons r0
 obtain ⟨v2,vs2,d2,ds2,p2,q2,rfl,rfl,rfl,h2,r2⟩:=trodAll_cons r1
 obtain ⟨v3,vs3,d3,ds3,p3,q3,rfl,rfl,rfl,h3,r3⟩:=trodAll_cons r2
 obtain ⟨rfl,rfl,rfl⟩:=trodAll_nil r3
 obtain rfl:args= #[v0,v1,v2,v3] :=by cases args; simp_all
 obtain ⟨rfl,rfl⟩:=trodVars_none hV
 have hsz2:(DataW.weightsEach Tryz.prog (Tryz.f5.params.toList++[]) ([d0,d1,d2,d3]++[])).all (· ≤reachBytes)=true:=hsz
 rw [Tryz.params5] at hsz2
 simp only [List.append_nil,DataW.weightsEach,List.all_append,Bool.and_eq_true] at hsz2
 obtain ⟨z0,z1,z2,z3⟩:=hsz2
 obtain ⟨y0,c0,g0⟩:=Y3o (M:=Z7u.reach Tryz.prog) Tryz.underlying34 rd_34 (hval 0 34 v0 rfl rfl) h0 z0
 obtain ⟨_,rfl⟩:=okWide_int Tryz.underlying3 (hval 1 3 v1 rfl rfl)
 obtain ⟨y1,c1,g1⟩:=Zyl (M:=Z7u.reach Tryz.prog) (f:=(fun n:Int=>D.int .i64 n)) (Z1z (P:=Tryz.prog) Tryz.underlying3) rfl h1 z1
 obtain ⟨_,rfl⟩:=okWide_int Tryz.underlying3 (hval 2 3 v2 rfl rfl)
 obtain ⟨y2,c2,g2⟩:=Zyl (M:=Z7u.reach Tryz.prog) (f:=(fun n:Int=>D.int .i64 n)) (Z1z (P:=Tryz.prog) Tryz.underlying3) rfl h2 z2
 obtain ⟨y3,c3,g3⟩:=Y3o (M:=Z7u.reach Tryz.prog) Tryz.underlying37 rd_37 (hval 3 37 v3 rfl rfl) h3 z3
 exact Y5w (P:=Tryz.prog) (fn:=Tryz.f5) (tb:=4) rfl (by kernel_rfl) Tryz.underlying4 laid (by kernel_rfl) hW' rfl (.cons c0 (.cons c1 (.cons c2 (.cons c3 .nil)))) (w5 (Y4x y0 (ws_T_api_Machine g0) y1 y2 y3))
theorem am {a b:Bool} (h:a=true) (g:b=true):(a&&b)=true:=by rw [h,g]; rfl
theorem k0:Rows.callstackArgumentsRow.wf (OpenSpec.ofChange Rows.callstackArgumentsSpec)=true:=by kernel_rfl
theorem k1:laidOutB Tryz.prog=true:=by kernel_rfl
theorem k2:mapsRowed Tryz.prog=true:=by kernel_rfl
theorem k3:Tryz.f5.params.all (Tryz.prog.readableRec ·)=true:=by kernel_rfl
theorem k4:namedTie Tryz.prog Rows.callstackArgumentsRow.named Rows.callstackArgumentsSpec.vars=true:=by kernel_rfl
theorem k5:(Rows.callstackArgumentsRow.stops==[])=true:=by kernel_rfl
theorem k6:(Tryz.prog.stops==[])=true:=by kernel_rfl
theorem k7:(Rows.callstackArgumentsRow.knobs==[])=true:=by kernel_rfl
theorem k8:(Tryz.prog.stopKnobs==[])=true:=by kernel_rfl
theorem k9:(Rows.callstackArgumentsRow.inPlace==Tryz.prog.inPlace 5)=true:=by kernel_rfl
theorem k10:(Rows.callstackArgumentsRow.unfollowed==Tryz.prog.unfollowed 5)=true:=by kernel_rfl
theorem k11:(Rows.callstackArgumentsRow.recurses==Tryz.prog.recurses 5)=true:=by kernel_rfl
theorem k12:(Rows.callstackArgumentsRow.named==Tryz.prog.varsNamed 5)=true:=by kernel_rfl
theorem k13:(Rows.callstackArgumentsRow.maps==(Tryz.f5.params.toList++Rows.callstackArgumentsSpec.plain.varTypes Tryz.prog).any (Tryz.prog.mapsRec ·))=true:=by kernel_rfl
theorem k14:(Rows.callstackArgumentsRow.ifaces==(Tryz.f5.params.toList++Rows.callstackArgumentsSpec.plain.varTypes Tryz.prog).any (Tryz.prog.ifacesRec ·))=true:=by kernel_rfl
theorem k15:(Rows.callstackArgumentsRow.mapsOut==Tryz.prog.mapsAmong Tryz.f5.resultTypes.toList)=true:=by kernel_rfl
theorem k16:(Rows.callstackArgumentsRow.loops==(Tryz.f5.params.toList++Rows.callstackArgumentsSpec.plain.varTypes Tryz.prog).any (Tryz.prog.loopsFrom ·))=true:=by kernel_rfl
theorem k17:(Rows.callstackArgumentsRow.wideKeys==(Tryz.f5.params.toList++Rows.callstackArgumentsSpec.plain.varTypes Tryz.prog++Tryz.f5.resultTypes.toList).any (Tryz.prog.wideKeysFrom ·))=true:=by kernel_rfl
theorem k18:Rows.callstackArgumentsSpec.vars.all (Tryz.prog.varReadable ·)=true:=by kernel_rfl
theorem k19:Tryz.f5.resultTypes.all (fun t=>Tryz.prog.readableRec t&&decide (t<Tryz.prog.types.size))=true:=by kernel_rfl
theorem k20:(Rows.callstackArgumentsRow.ifacesOut==Tryz.f5.resultTypes.toList.any (Tryz.prog.ifacesRec ·))=true:=by kernel_rfl
theorem k21:(Rows.callstackArgumentsRow.loopsOut==Tryz.f5.resultTypes.toList.any (Tryz.prog.loopsFrom ·))=true:=by kernel_rfl
theorem k22:(Rows.callstackArgumentsRow.plainKeys==Tryz.prog.plainKeys)=true:=by kernel_rfl
theorem k23:Rows.callstackArgumentsRow.shortTexts.isNone=true:=by kernel_rfl
theorem k24:Tryz.prog.stopsHeard=true:=by kernel_rfl
theorem k25:Tryz.prog.mayEnter=true:=by kernel_rfl
theorem k26:(Rows.callstackArgumentsRow.lifted==Tryz.prog.liftsFinal)=true:=by kernel_rfl
theorem k27:(Tryz.prog.make==some Rows.callstackArgumentsRow.make)=true:=by kernel_rfl
theorem k28:(Rows.callstackArgumentsRow.kinds==(if Rows.callstackArgumentsRow.domain.isEmpty then [] else Tryz.f5.params.toList.map fun t=>match Tryz.prog.underlying t with|some (.int k)=>some k|_=>none))=true:=by kernel_rfl
theorem k29:(Rows.callstackArgumentsRow.pinned==Rows.callstackArgumentsRow.pinnedBy)=true:=by kernel_rfl
theorem k30:(Rows.callstackArgumentsRow.veiled==(Tryz.f5.params.toList++Rows.callstackArgumentsSpec.plain.varTypes Tryz.prog++Tryz.f5.resultTypes.toList).any (Tryz.prog.veiledRec ·))=true:=by kernel_rfl
theorem k31:Rows.callstackArgumentsRow.veiledFits Tryz.prog Tryz.f5.params.toList (Tryz.f5.params.toList++Rows.callstackArgumentsSpec.plain.varTypes Tryz.prog++Tryz.f5.resultTypes.toList)=true:=by kernel_rfl
set_option maxRecDepth 100000 in
theorem closed:joinedFacts Tryz.prog 5 Tryz.f5 Rows.callstackArgumentsSpec Rows.callstackArgumentsRow=true:=(am (am (am (am (am (am (am (am (am (am (am (am (am (am (am (am (am (am (am (am (am (am (am (am (am (am (am (am (am (am (am k0 k1) k2) k3) k4) k5) k6) k7) k8) k9) k10) k11) k12) k13) k14) k15) k16) k17) k18) k19) k20) k21) k22) k23) k24) k25) k26) k27) k28) k29) k30) k31)
theorem inst:Tryz.f5.isInstance Tryz.prog Rows.callstackArgumentsRow.origin Rows.callstackArgumentsRow.targs:=of_decide_eq_true (by kernel_rfl)
theorem named:Tryz.prog.funcNamed Rows.callstackArgumentsRow.func=some 5:=by kernel_rfl
theorem wrapped:Tryz.f5.isWrapper Tryz.prog Rows.callstackArgumentsRow.wrapper Rows.callstackArgumentsRow.mainSum:=by unfold Func.isWrapper; first|(rw [if_pos (by decide+kernel)]; kernel_rfl)|(rw [if_neg (by decide+kernel)]; exact ⟨rfl,rfl⟩)
theorem over:Rows.callstackArgumentsRow.holds Tryz.pinned (OpenSpec.ofChange Rows.callstackArgumentsSpec):=
 OpenClaim.holds_of_wide 5 Tryz.f5 rfl rfl rfl rfl rfl rfl rfl ⟨rfl,rfl,rfl,rfl,rfl⟩ rfl rfl rfl rfl rfl named Tryz.func5 closed inst wrapped
  (fun os started H enc _=>lifted os started H enc)
theorem proved:Rows.CallstackArgumentsSaid:=
 over
#print axioms proved
end Go.Proofs.YtiogflechpgdiaaGreat.callstackArguments
