/-
  The law LayoutKinds holds for every input: the function returns true, and Z5f argument reads behind the call as it read before. No condition.
-/
import Derived.Test.YtbhghodobphdeaaGreatLayL4
import Derived.WalkKit
import Derived.ProofKit
import Derived.OpenShut
import Derived.ChangeMaps5
namespace Go.Proofs.YtbhghodobphdeaaGreat.layoutKinds
open Go.ChangeShapes Go.WideShapes Go.ChangeAt Go.RowKit Go.ChangeMaps Go.Den
set_option linter.unusedVariables false
theorem own:ownKnob Tryz.prog.godebug=none:=by kernel_rfl
theorem laid:laidOutB Tryz.prog=true:=by kernel_rfl
def wf_84 (y:Z9h):Prop:=(fun s:List UInt8=>s.length≤reachBytes) y.Zm0∧((fun n:Int=>IntKind.min .i64≤n∧n≤IntKind.max .i64) y.f_To∧(True))
theorem rd_84:Z2j Tryz.prog 84 Zdq wf_84:=
 (Z3w (tot:=2) Tryz.underlying84 (by kernel_rfl) (Z12 (n:=1) (Z3r (P:=Tryz.prog) Tryz.underlying9) (by kernel_rfl) (Z12 (n:=1) (Z2i (P:=Tryz.prog) Tryz.underlying3) (by kernel_rfl) Z3y rfl) rfl)).map (fun p:(List UInt8)×(Int×Unit)=>({ Zm0:=p.1,f_To:=p.2.1 }:Z9h)) (fun _=>rfl) (fun _ h=>h)
def wf_79 (ys:List Z9h):Prop:=(∀ y∈ys,wf_84 y)∧ys.length*Tryz.prog.bytesOf 84≤reachBytes
theorem rd_79:Z2j Tryz.prog 79 (fun ys:List Z9h=>[D.sl false (ys.map Zdq)]) wf_79:=Z50 Tryz.underlying79 (row:=Zdq) rd_84 (Nat.lt_of_lt_of_le (by decide:0<1) (Nat.le_of_ble_eq_true (by kernel_rfl)))
def wf_102 (y:Z8f):Prop:=(fun s:List UInt8=>s.length≤reachBytes) y.Z0d∧((fun s:List UInt8=>s.length≤reachBytes) y.Z2h∧(True))
theorem rd_102:Z2j Tryz.prog 102 Zfl wf_102:=
 (Z3w (tot:=2) Tryz.underlying102 (by kernel_rfl) (Z12 (n:=1) (Z3r (P:=Tryz.prog) Tryz.underlying9) (by kernel_rfl) (Z12 (n:=1) (Z3r (P:=Tryz.prog) Tryz.underlying9) (by kernel_rfl) Z3y rfl) rfl)).map (fun p:(List UInt8)×(List UInt8)×Unit=>({ Z0d:=p.1,Z2h:=p.2.1 }:Z8f)) (fun _=>rfl) (fun _ h=>h)
def wf_80 (ys:List Z8f):Prop:=(∀ y∈ys,wf_102 y)∧ys.length*Tryz.prog.bytesOf 102≤reachBytes
theorem rd_80:Z2j Tryz.prog 80 (fun ys:List Z8f=>[D.sl false (ys.map Zfl)]) wf_80:=Z50 Tryz.underlying80 (row:=Zfl) rd_102 (Nat.lt_of_lt_of_le (by decide:0<1) (Nat.le_of_ble_eq_true (by kernel_rfl)))
def wf_82 (y:Z1p):Prop:=wf_79 y.Z5j∧(wf_80 y.Z3q∧(True))
theorem rd_82:Z2j Tryz.prog 82 Z2u wf_82:=
 (Z3w (tot:=2) Tryz.underlying82 (by kernel_rfl) (Z12 (n:=1) rd_79 (by kernel_rfl) (Z12 (n:=1) rd_80 (by kernel_rfl) Z3y rfl) rfl)).map (fun p:(List Z9h)×(List Z8f)×Unit=>({ Z5j:=p.1,Z3q:=p.2.1 }:Z1p)) (fun _=>rfl) (fun _ h=>h)
def wf_22 (ys:List Z1p):Prop:=(∀ y∈ys,wf_82 y)∧ys.length*Tryz.prog.bytesOf 82≤reachBytes
theorem rd_22:Z2j Tryz.prog 22 (fun ys:List Z1p=>[D.sl false (ys.map Z2u)]) wf_22:=Z50 Tryz.underlying22 (row:=Z2u) rd_82 (Nat.lt_of_lt_of_le (by decide:0<1) (Nat.le_of_ble_eq_true (by kernel_rfl)))
def wf_45 (ys:List (List UInt8)):Prop:=(∀ y∈ys,(fun s:List UInt8=>s.length≤reachBytes) y)∧ys.length*Tryz.prog.bytesOf 9≤reachBytes
theorem rd_45:Z2j Tryz.prog 45 (fun ys:List (List UInt8)=>[D.sl false (ys.map Z3z)]) wf_45:=Z50 Tryz.underlying45 (row:=Z3z) (Z3r (P:=Tryz.prog) Tryz.underlying9) (Nat.lt_of_lt_of_le (by decide:0<1) (Nat.le_of_ble_eq_true (by kernel_rfl)))
def wf_57 (y:Z1d):Prop:=(fun n:Int=>IntKind.min .i64≤n∧n≤IntKind.max .i64) y.Z0q∧((fun s:List UInt8=>s.length≤reachBytes) y.Z0d∧((fun s:List UInt8=>s.length≤reachBytes) y.Z16∧((fun n:Int=>IntKind.min .i64≤n∧n≤IntKind.max .i64) y.Z2e∧((fun n:Int=>IntKind.min .i64≤n∧n≤IntKind.max .i64) y.f_N∧((fun s:List UInt8=>s.length≤reachBytes) y.f_S∧(True))))))
theorem rd_57:Z2j Tryz.prog 57 Z5g wf_57:=
 (Z3w (tot:=6) Tryz.underlying57 (by kernel_rfl) (Z12 (n:=1) (Z2i (P:=Tryz.prog) Tryz.underlying3) (by kernel_rfl) (Z12 (n:=1) (Z3r (P:=Tryz.prog) Tryz.underlying9) (by kernel_rfl) (Z12 (n:=1) (Z3r (P:=Tryz.prog) Tryz.underlying9) (by kernel_rfl) (Z12 (n:=1) (Z2i (P:=Tryz.prog) Tryz.underlying3) (by kernel_rfl) (Z12 (n:=1) (Z2i (P:=Tryz.prog) Tryz.underlying3) (by kernel_rfl) (Z12 (n:=1) (Z3r (P:=Tryz.prog) Tryz.underlying9) (by kernel_rfl) Z3y rfl) rfl) rfl) rfl) rfl) rfl)).map (fun p:Int×(List UInt8)×(List UInt8)×(Int×(Int×(List UInt8)×Unit))=>({ Z0q:=p.1,Z0d:=p.2.1,Z16:=p.2.2.1,Z2e:=p.2.2.2.1,f_N:=p.2.2.2.2.1,f_S:=p.2.2.2.2.2.1 }:Z1d)) (fun _=>rfl) (fun _ h=>h)
def wf_46 (ys:List Z1d):Prop:=(∀ y∈ys,wf_57 y)∧ys.length*Tryz.prog.bytesOf 57≤reachBytes
theorem rd_46:Z2j Tryz.prog 46 (fun ys:List Z1d=>[D.sl false (ys.map Z5g)]) wf_46:=Z50 Tryz.underlying46 (row:=Z5g) rd_57 (Nat.lt_of_lt_of_le (by decide:0<1) (Nat.le_of_ble_eq_true (by kernel_rfl)))
def wf_50 (ys:List Int):Prop:=(∀ y∈ys,(fun n:Int=>IntKind.min .i64≤n∧n≤IntKind.max .i64) y)∧ys.length*Tryz.prog.bytesOf 3≤reachBytes
theorem rd_50:Z2j Tryz.prog 50 (fun ys:List Int=>[D.sl false (ys.map Z03)]) wf_50:=Z50 Tryz.underlying50 (row:=Z03) (Z2i (P:=Tryz.prog) Tryz.underlying3) (Nat.lt_of_lt_of_le (by decide:0<1) (Nat.le_of_ble_eq_true (by kernel_rfl)))
def wf_176 (y:Z26):Prop:=(fun s:List UInt8=>s.length≤reachBytes) y.Z0w∧((fun s:List UInt8=>s.length≤reachBytes) y.Z0d∧((fun s:List UInt8=>s.length≤reachBytes) y.Z16∧(True)))
theorem rd_176:Z2j Tryz.prog 176 Zls wf_176:=
 (Z3w (tot:=3) Tryz.underlying176 (by kernel_rfl) (Z12 (n:=1) (Z3r (P:=Tryz.prog) Tryz.underlying9) (by kernel_rfl) (Z12 (n:=1) (Z3r (P:=Tryz.prog) Tryz.underlying9) (by kernel_rfl) (Z12 (n:=1) (Z3r (P:=Tryz.prog) Tryz.underlying9) (by kernel_rfl) Z3y rfl) rfl) rfl)).map (fun p:(List UInt8)×(List UInt8)×(List UInt8)×Unit=>({ Z0w:=p.1,Z0d:=p.2.1,Z16:=p.2.2.1 }:Z26)) (fun _=>rfl) (fun _ h=>h)
def wf_178 (y:Z01):Prop:=(fun n:Int=>IntKind.min .i64≤n∧n≤IntKind.max .i64) y.f_Op∧((fun n:Int=>IntKind.min .i64≤n∧n≤IntKind.max .i64) y.f_A∧((fun n:Int=>IntKind.min .i64≤n∧n≤IntKind.max .i64) y.f_B∧((fun n:Int=>IntKind.min .i64≤n∧n≤IntKind.max .i64) y.f_To∧(wf_50 y.Z0r∧(wf_50 y.Z0b∧(wf_176 y.Z1e∧((fun s:List UInt8=>s.length≤reachBytes) y.f_S∧(True))))))))
theorem rd_178:Z2j Tryz.prog 178 Z0e wf_178:=
 (Z3w (tot:=10) Tryz.underlying178 (by kernel_rfl) (Z12 (n:=1) (Z2i (P:=Tryz.prog) Tryz.underlying3) (by kernel_rfl) (Z12 (n:=1) (Z2i (P:=Tryz.prog) Tryz.underlying3) (by kernel_rfl) (Z12 (n:=1) (Z2i (P:=Tryz.prog) Tryz.underlying3) (by kernel_rfl) (Z12 (n:=1) (Z2i (P:=Tryz.prog) Tryz.underlying3) (by kernel_rfl) (Z12 (n:=1) rd_50 (by kernel_rfl) (Z12 (n:=1) rd_50 (by kernel_rfl) (Z12 (n:=3) rd_176 (by kernel_rfl) (Z12 (n:=1) (Z3r (P:=Tryz.prog) Tryz.underlying9) (by kernel_rfl) Z3y rfl) rfl) rfl) rfl) rfl) rfl) rfl) rfl)).map (fun p:Int×(Int×(Int×(Int×(List Int)×(List Int)×(Z26×(List UInt8)×Unit))))=>({ f_Op:=p.1,f_A:=p.2.1,f_B:=p.2.2.1,f_To:=p.2.2.2.1,Z0r:=p.2.2.2.2.1,Z0b:=p.2.2.2.2.2.1,Z1e:=p.2.2.2.2.2.2.1,f_S:=p.2.2.2.2.2.2.2.1 }:Z01)) (fun _=>rfl) (fun _ h=>h)
def wf_122 (ys:List Z01):Prop:=(∀ y∈ys,wf_178 y)∧ys.length*Tryz.prog.bytesOf 178≤reachBytes
theorem rd_122:Z2j Tryz.prog 122 (fun ys:List Z01=>[D.sl false (ys.map Z0e)]) wf_122:=Z50 Tryz.underlying122 (row:=Z0e) rd_178 (Nat.lt_of_lt_of_le (by decide:0<1) (Nat.le_of_ble_eq_true (by kernel_rfl)))
def wf_141 (y:Z0n):Prop:=(fun n:Int=>IntKind.min .i64≤n∧n≤IntKind.max .i64) y.Z5z∧((fun n:Int=>IntKind.min .i64≤n∧n≤IntKind.max .i64) y.f_To∧((fun n:Int=>IntKind.min .i64≤n∧n≤IntKind.max .i64) y.Z6b∧((fun n:Int=>IntKind.min .i64≤n∧n≤IntKind.max .i64) y.Z0w∧((fun s:List UInt8=>s.length≤reachBytes) y.Z1r∧(True)))))
theorem rd_141:Z2j Tryz.prog 141 Z0s wf_141:=
 (Z3w (tot:=5) Tryz.underlying141 (by kernel_rfl) (Z12 (n:=1) (Z2i (P:=Tryz.prog) Tryz.underlying3) (by kernel_rfl) (Z12 (n:=1) (Z2i (P:=Tryz.prog) Tryz.underlying3) (by kernel_rfl) (Z12 (n:=1) (Z2i (P:=Tryz.prog) Tryz.underlying3) (by kernel_rfl) (Z12 (n:=1) (Z2i (P:=Tryz.prog) Tryz.underlying3) (by kernel_rfl) (Z12 (n:=1) (Z3r (P:=Tryz.prog) Tryz.underlying9) (by kernel_rfl) Z3y rfl) rfl) rfl) rfl) rfl)).map (fun p:Int×(Int×(Int×(Int×(List UInt8)×Unit)))=>({ Z5z:=p.1,f_To:=p.2.1,Z6b:=p.2.2.1,Z0w:=p.2.2.2.1,Z1r:=p.2.2.2.2.1 }:Z0n)) (fun _=>rfl) (fun _ h=>h)
def wf_123 (ys:List Z0n):Prop:=(∀ y∈ys,wf_141 y)∧ys.length*Tryz.prog.bytesOf 141≤reachBytes
theorem rd_123:Z2j Tryz.prog 123 (fun ys:List Z0n=>[D.sl false (ys.map Z0s)]) wf_123:=Z50 Tryz.underlying123 (row:=Z0s) rd_141 (Nat.lt_of_lt_of_le (by decide:0<1) (Nat.le_of_ble_eq_true (by kernel_rfl)))
def wf_74 (y:Z0h):Prop:=(fun n:Int=>IntKind.min .i64≤n∧n≤IntKind.max .i64) y.Z0y∧((fun n:Int=>IntKind.min .u8≤n∧n≤IntKind.max .u8) y.Z1b∧((fun s:List UInt8=>s.length≤reachBytes) y.Z0d∧(True)))
theorem rd_74:Z2j Tryz.prog 74 Z2d wf_74:=
 (Z3w (tot:=3) Tryz.underlying74 (by kernel_rfl) (Z12 (n:=1) (Z2i (P:=Tryz.prog) Tryz.underlying3) (by kernel_rfl) (Z12 (n:=1) (Z2i (P:=Tryz.prog) Tryz.underlying5) (by kernel_rfl) (Z12 (n:=1) (Z3r (P:=Tryz.prog) Tryz.underlying9) (by kernel_rfl) Z3y rfl) rfl) rfl)).map (fun p:Int×(Int×(List UInt8)×Unit)=>({ Z0y:=p.1,Z1b:=p.2.1,Z0d:=p.2.2.1 }:Z0h)) (fun _=>rfl) (fun _ h=>h)
def wf_166 (y:Z0i):Prop:=(fun n:Int=>IntKind.min .i64≤n∧n≤IntKind.max .i64) y.Z22∧((fun n:Int=>IntKind.min .i64≤n∧n≤IntKind.max .i64) y.Z3e∧(wf_74 y.Z1r∧((fun n:Int=>IntKind.min .i64≤n∧n≤IntKind.max .i64) y.Z41∧(True))))
theorem rd_166:Z2j Tryz.prog 166 Z1l wf_166:=
 (Z3w (tot:=6) Tryz.underlying166 (by kernel_rfl) (Z12 (n:=1) (Z2i (P:=Tryz.prog) Tryz.underlying3) (by kernel_rfl) (Z12 (n:=1) (Z2i (P:=Tryz.prog) Tryz.underlying3) (by kernel_rfl) (Z12 (n:=3) rd_74 (by kernel_rfl) (Z12 (n:=1) (Z2i (P:=Tryz.prog) Tryz.underlying3) (by kernel_rfl) Z3y rfl) rfl) rfl) rfl)).map (fun p:Int×(Int×(Z0h×(Int×Unit)))=>({ Z22:=p.1,Z3e:=p.2.1,Z1r:=p.2.2.1,Z41:=p.2.2.2.1 }:Z0i)) (fun _=>rfl) (fun _ h=>h)
def wf_143 (ys:List Z0i):Prop:=(∀ y∈ys,wf_166 y)∧ys.length*Tryz.prog.bytesOf 166≤reachBytes
theorem rd_143:Z2j Tryz.prog 143 (fun ys:List Z0i=>[D.sl false (ys.map Z1l)]) wf_143:=Z50 Tryz.underlying143 (row:=Z1l) rd_166 (Nat.lt_of_lt_of_le (by decide:0<1) (Nat.le_of_ble_eq_true (by kernel_rfl)))
def wf_145 (y:Z53):Prop:=wf_143 y.Z0t∧(wf_143 y.Z0x∧((fun _:Bool=>True) y.Z6h∧(True)))
theorem rd_145:Z2j Tryz.prog 145 Ztb wf_145:=
 (Z3w (tot:=3) Tryz.underlying145 (by kernel_rfl) (Z12 (n:=1) rd_143 (by kernel_rfl) (Z12 (n:=1) rd_143 (by kernel_rfl) (Z12 (n:=1) (Zzh (P:=Tryz.prog) Tryz.underlying4) (by kernel_rfl) Z3y rfl) rfl) rfl)).map (fun p:(List Z0i)×(List Z0i)×(Bool×Unit)=>({ Z0t:=p.1,Z0x:=p.2.1,Z6h:=p.2.2.1 }:Z53)) (fun _=>rfl) (fun _ h=>h)
def wf_147 (y:Z0p):Prop:=(fun n:Int=>IntKind.min .i64≤n∧n≤IntKind.max .i64) y.Z1h∧(wf_145 y.Z1m∧(True))
theorem rd_147:Z2j Tryz.prog 147 Z0z wf_147:=
 (Z3w (tot:=4) Tryz.underlying147 (by kernel_rfl) (Z12 (n:=1) (Z2i (P:=Tryz.prog) Tryz.underlying3) (by kernel_rfl) (Z12 (n:=3) rd_145 (by kernel_rfl) Z3y rfl) rfl)).map (fun p:Int×(Z53×Unit)=>({ Z1h:=p.1,Z1m:=p.2.1 }:Z0p)) (fun _=>rfl) (fun _ h=>h)
def wf_124 (ys:List Z0p):Prop:=(∀ y∈ys,wf_147 y)∧ys.length*Tryz.prog.bytesOf 147≤reachBytes
theorem rd_124:Z2j Tryz.prog 124 (fun ys:List Z0p=>[D.sl false (ys.map Z0z)]) wf_124:=Z50 Tryz.underlying124 (row:=Z0z) rd_147 (Nat.lt_of_lt_of_le (by decide:0<1) (Nat.le_of_ble_eq_true (by kernel_rfl)))
def wf_159 (y:Z15):Prop:=(fun n:Int=>IntKind.min .i64≤n∧n≤IntKind.max .i64) y.Z1h∧((fun n:Int=>IntKind.min .i64≤n∧n≤IntKind.max .i64) y.Z7c∧(True))
theorem rd_159:Z2j Tryz.prog 159 Z1a wf_159:=
 (Z3w (tot:=2) Tryz.underlying159 (by kernel_rfl) (Z12 (n:=1) (Z2i (P:=Tryz.prog) Tryz.underlying3) (by kernel_rfl) (Z12 (n:=1) (Z2i (P:=Tryz.prog) Tryz.underlying3) (by kernel_rfl) Z3y rfl) rfl)).map (fun p:Int×(Int×Unit)=>({ Z1h:=p.1,Z7c:=p.2.1 }:Z15)) (fun _=>rfl) (fun _ h=>h)
def wf_125 (ys:List Z15):Prop:=(∀ y∈ys,wf_159 y)∧ys.length*Tryz.prog.bytesOf 159≤reachBytes
theorem rd_125:Z2j Tryz.prog 125 (fun ys:List Z15=>[D.sl false (ys.map Z1a)]) wf_125:=Z50 Tryz.underlying125 (row:=Z1a) rd_159 (Nat.lt_of_lt_of_le (by decide:0<1) (Nat.le_of_ble_eq_true (by kernel_rfl)))
def wf_127 (y:Z0a):Prop:=(fun n:Int=>IntKind.min .i64≤n∧n≤IntKind.max .i64) y.Z0x∧((fun n:Int=>IntKind.min .i64≤n∧n≤IntKind.max .i64) y.Z0t∧(wf_122 y.Z0k∧(wf_123 y.Z1z∧(wf_124 y.Z1k∧(wf_125 y.Z1u∧(True))))))
theorem rd_127:Z2j Tryz.prog 127 Z0u wf_127:=
 (Z3w (tot:=6) Tryz.underlying127 (by kernel_rfl) (Z12 (n:=1) (Z2i (P:=Tryz.prog) Tryz.underlying3) (by kernel_rfl) (Z12 (n:=1) (Z2i (P:=Tryz.prog) Tryz.underlying3) (by kernel_rfl) (Z12 (n:=1) rd_122 (by kernel_rfl) (Z12 (n:=1) rd_123 (by kernel_rfl) (Z12 (n:=1) rd_124 (by kernel_rfl) (Z12 (n:=1) rd_125 (by kernel_rfl) Z3y rfl) rfl) rfl) rfl) rfl) rfl)).map (fun p:Int×(Int×(List Z01)×(List Z0n)×(List Z0p)×(List Z15)×Unit)=>({ Z0x:=p.1,Z0t:=p.2.1,Z0k:=p.2.2.1,Z1z:=p.2.2.2.1,Z1k:=p.2.2.2.2.1,Z1u:=p.2.2.2.2.2.1 }:Z0a)) (fun _=>rfl) (fun _ h=>h)
def wf_129 (y:Z2r):Prop:=(fun n:Int=>IntKind.min .i64≤n∧n≤IntKind.max .i64) y.Z0q∧((fun s:List UInt8=>s.length≤reachBytes) y.Z0d∧((fun s:List UInt8=>s.length≤reachBytes) y.Z16∧((fun _:Bool=>True) y.Z9g∧(wf_127 y.Z2b∧(wf_45 y.Z6e∧(True))))))
theorem rd_129:Z2j Tryz.prog 129 Z71 wf_129:=
 (Z3w (tot:=11) Tryz.underlying129 (by kernel_rfl) (Z12 (n:=1) (Z2i (P:=Tryz.prog) Tryz.underlying3) (by kernel_rfl) (Z12 (n:=1) (Z3r (P:=Tryz.prog) Tryz.underlying9) (by kernel_rfl) (Z12 (n:=1) (Z3r (P:=Tryz.prog) Tryz.underlying9) (by kernel_rfl) (Z12 (n:=1) (Zzh (P:=Tryz.prog) Tryz.underlying4) (by kernel_rfl) (Z12 (n:=6) rd_127 (by kernel_rfl) (Z12 (n:=1) rd_45 (by kernel_rfl) Z3y rfl) rfl) rfl) rfl) rfl) rfl)).map (fun p:Int×(List UInt8)×(List UInt8)×(Bool×(Z0a×(List (List UInt8))×Unit))=>({ Z0q:=p.1,Z0d:=p.2.1,Z16:=p.2.2.1,Z9g:=p.2.2.2.1,Z2b:=p.2.2.2.2.1,Z6e:=p.2.2.2.2.2.1 }:Z2r)) (fun _=>rfl) (fun _ h=>h)
def wf_47 (ys:List Z2r):Prop:=(∀ y∈ys,wf_129 y)∧ys.length*Tryz.prog.bytesOf 129≤reachBytes
theorem rd_47:Z2j Tryz.prog 47 (fun ys:List Z2r=>[D.sl false (ys.map Z71)]) wf_47:=Z50 Tryz.underlying47 (row:=Z71) rd_129 (Nat.lt_of_lt_of_le (by decide:0<1) (Nat.le_of_ble_eq_true (by kernel_rfl)))
def wf_49 (y:Z0m):Prop:=(fun n:Int=>IntKind.min .i64≤n∧n≤IntKind.max .i64) y.Z0q∧((fun s:List UInt8=>s.length≤reachBytes) y.Z0d∧((fun s:List UInt8=>s.length≤reachBytes) y.Z1c∧(wf_45 y.Z1f∧(wf_46 y.Z0g∧(wf_47 y.Z10∧((fun s:List UInt8=>s.length≤reachBytes) y.Z9a∧(True)))))))
theorem rd_49:Z2j Tryz.prog 49 Z2m wf_49:=
 (Z3w (tot:=7) Tryz.underlying49 (by kernel_rfl) (Z12 (n:=1) (Z2i (P:=Tryz.prog) Tryz.underlying3) (by kernel_rfl) (Z12 (n:=1) (Z3r (P:=Tryz.prog) Tryz.underlying9) (by kernel_rfl) (Z12 (n:=1) (Z3r (P:=Tryz.prog) Tryz.underlying9) (by kernel_rfl) (Z12 (n:=1) rd_45 (by kernel_rfl) (Z12 (n:=1) rd_46 (by kernel_rfl) (Z12 (n:=1) rd_47 (by kernel_rfl) (Z12 (n:=1) (Z3r (P:=Tryz.prog) Tryz.underlying9) (by kernel_rfl) Z3y rfl) rfl) rfl) rfl) rfl) rfl) rfl)).map (fun p:Int×(List UInt8)×(List UInt8)×(List (List UInt8))×(List Z1d)×(List Z2r)×(List UInt8)×Unit=>({ Z0q:=p.1,Z0d:=p.2.1,Z1c:=p.2.2.1,Z1f:=p.2.2.2.1,Z0g:=p.2.2.2.2.1,Z10:=p.2.2.2.2.2.1,Z9a:=p.2.2.2.2.2.2.1 }:Z0m)) (fun _=>rfl) (fun _ h=>h)
def wf_53 (y:Z1v):Prop:=(fun n:Int=>IntKind.min .i64≤n∧n≤IntKind.max .i64) y.Z2w∧(wf_49 y.Z11∧((fun n:Int=>IntKind.min .i64≤n∧n≤IntKind.max .i64) y.Z1c∧(wf_50 y.Z1f∧((fun n:Int=>IntKind.min .i64≤n∧n≤IntKind.max .i64) y.Zb3∧((fun n:Int=>IntKind.min .i64≤n∧n≤IntKind.max .i64) y.Zi9∧(True))))))
theorem rd_53:Z2j Tryz.prog 53 Z4c wf_53:=
 (Z3w (tot:=12) Tryz.underlying53 (by kernel_rfl) (Z12 (n:=1) (Z2i (P:=Tryz.prog) Tryz.underlying3) (by kernel_rfl) (Z12 (n:=7) rd_49 (by kernel_rfl) (Z12 (n:=1) (Z2i (P:=Tryz.prog) Tryz.underlying3) (by kernel_rfl) (Z12 (n:=1) rd_50 (by kernel_rfl) (Z12 (n:=1) (Z2i (P:=Tryz.prog) Tryz.underlying3) (by kernel_rfl) (Z12 (n:=1) (Z2i (P:=Tryz.prog) Tryz.underlying51) (by kernel_rfl) Z3y rfl) rfl) rfl) rfl) rfl) rfl)).map (fun p:Int×(Z0m×(Int×(List Int)×(Int×(Int×Unit))))=>({ Z2w:=p.1,Z11:=p.2.1,Z1c:=p.2.2.1,Z1f:=p.2.2.2.1,Zb3:=p.2.2.2.2.1,Zi9:=p.2.2.2.2.2.1 }:Z1v)) (fun _=>rfl) (fun _ h=>h)
def wf_23 (ys:List Z1v):Prop:=(∀ y∈ys,wf_53 y)∧ys.length*Tryz.prog.bytesOf 53≤reachBytes
theorem rd_23:Z2j Tryz.prog 23 (fun ys:List Z1v=>[D.sl false (ys.map Z4c)]) wf_23:=Z50 Tryz.underlying23 (row:=Z4c) rd_53 (Nat.lt_of_lt_of_le (by decide:0<1) (Nat.le_of_ble_eq_true (by kernel_rfl)))
def wf_88 (y:Z2v):Prop:=(fun n:Int=>IntKind.min .i64≤n∧n≤IntKind.max .i64) y.Z2w∧((fun s:List UInt8=>s.length≤reachBytes) y.Z0d∧((fun n:Int=>IntKind.min .i64≤n∧n≤IntKind.max .i64) y.Z0w∧(True)))
theorem rd_88:Z2j Tryz.prog 88 Z5b wf_88:=
 (Z3w (tot:=3) Tryz.underlying88 (by kernel_rfl) (Z12 (n:=1) (Z2i (P:=Tryz.prog) Tryz.underlying3) (by kernel_rfl) (Z12 (n:=1) (Z3r (P:=Tryz.prog) Tryz.underlying9) (by kernel_rfl) (Z12 (n:=1) (Z2i (P:=Tryz.prog) Tryz.underlying3) (by kernel_rfl) Z3y rfl) rfl) rfl)).map (fun p:Int×(List UInt8)×(Int×Unit)=>({ Z2w:=p.1,Z0d:=p.2.1,Z0w:=p.2.2.1 }:Z2v)) (fun _=>rfl) (fun _ h=>h)
def wf_24 (ys:List Z2v):Prop:=(∀ y∈ys,wf_88 y)∧ys.length*Tryz.prog.bytesOf 88≤reachBytes
theorem rd_24:Z2j Tryz.prog 24 (fun ys:List Z2v=>[D.sl false (ys.map Z5b)]) wf_24:=Z50 Tryz.underlying24 (row:=Z5b) rd_88 (Nat.lt_of_lt_of_le (by decide:0<1) (Nat.le_of_ble_eq_true (by kernel_rfl)))
def wf_65 (y:Z4r):Prop:=(fun s:List UInt8=>s.length≤reachBytes) y.Z0d∧((fun n:Int=>IntKind.min .i64≤n∧n≤IntKind.max .i64) y.f_A∧((fun n:Int=>IntKind.min .i64≤n∧n≤IntKind.max .i64) y.f_B∧(True)))
theorem rd_65:Z2j Tryz.prog 65 Z5x wf_65:=
 (Z3w (tot:=3) Tryz.underlying65 (by kernel_rfl) (Z12 (n:=1) (Z3r (P:=Tryz.prog) Tryz.underlying9) (by kernel_rfl) (Z12 (n:=1) (Z2i (P:=Tryz.prog) Tryz.underlying3) (by kernel_rfl) (Z12 (n:=1) (Z2i (P:=Tryz.prog) Tryz.underlying3) (by kernel_rfl) Z3y rfl) rfl) rfl)).map (fun p:(List UInt8)×(Int×(Int×Unit))=>({ Z0d:=p.1,f_A:=p.2.1,f_B:=p.2.2.1 }:Z4r)) (fun _=>rfl) (fun _ h=>h)
def wf_25 (ys:List Z4r):Prop:=(∀ y∈ys,wf_65 y)∧ys.length*Tryz.prog.bytesOf 65≤reachBytes
theorem rd_25:Z2j Tryz.prog 25 (fun ys:List Z4r=>[D.sl false (ys.map Z5x)]) wf_25:=Z50 Tryz.underlying25 (row:=Z5x) rd_65 (Nat.lt_of_lt_of_le (by decide:0<1) (Nat.le_of_ble_eq_true (by kernel_rfl)))
def wf_27 (y:Z0c):Prop:=wf_22 y.Z23∧(wf_23 y.Z0o∧(wf_24 y.Z2p∧(wf_25 y.Z43∧(True))))
theorem rd_27:Z2j Tryz.prog 27 Z1g wf_27:=
 (Z3w (tot:=4) Tryz.underlying27 (by kernel_rfl) (Z12 (n:=1) rd_22 (by kernel_rfl) (Z12 (n:=1) rd_23 (by kernel_rfl) (Z12 (n:=1) rd_24 (by kernel_rfl) (Z12 (n:=1) rd_25 (by kernel_rfl) Z3y rfl) rfl) rfl) rfl)).map (fun p:(List Z1p)×(List Z1v)×(List Z2v)×(List Z4r)×Unit=>({ Z23:=p.1,Z0o:=p.2.1,Z2p:=p.2.2.1,Z43:=p.2.2.2.1 }:Z0c)) (fun _=>rfl) (fun _ h=>h)
theorem rlS {n:Nat} (h:n≤reachBytes):n≤4503599627370496:=Nat.le_trans h (by decide)
theorem rlB {n b k:Nat} (e:b=k) (h:n*b≤reachBytes):n*k≤140737488355328:=by have:=Y01 h; rw [e] at this; omega
theorem rlN {n b:Nat} (e:1≤b) (h:n*b≤reachBytes):n≤140737488355328:=Nat.le_trans (Nat.le_trans (Nat.le_of_eq (Nat.mul_one n).symm) (Nat.mul_le_mul_left n e)) (by have:=Y01 h; omega)
theorem ws_T_api_Ref {y:Z26} (h:wf_176 y):WRef y:=⟨rlS h.1,rlS h.2.1,rlS h.2.2.1⟩
theorem ws_T_api_Insn {y:Z01} (h:wf_178 y):Z2q y:=⟨rlB (by kernel_rfl) h.2.2.2.2.1.2,rlB (by kernel_rfl) h.2.2.2.2.2.1.2,ws_T_api_Ref h.2.2.2.2.2.2.1,rlS h.2.2.2.2.2.2.2.1⟩
theorem ws_T_api_Frame {y:Z53} (h:wf_145 y):Za3 y:=⟨fun v hv=>rlS (h.1.1 v hv).2.2.1.2.2.1,rlB (by kernel_rfl) h.1.2,fun v hv=>rlS (h.2.1.1 v hv).2.2.1.2.2.1,rlB (by kernel_rfl) h.2.1.2⟩
theorem ws_T_api_Code {y:Z0a} (h:wf_127 y):Z4v y:=⟨fun v hv=>ws_T_api_Insn (h.2.2.1.1 v hv),rlB (by kernel_rfl) h.2.2.1.2,fun v hv=>rlS (h.2.2.2.1.1 v hv).2.2.2.2.1,rlB (by kernel_rfl) h.2.2.2.1.2,fun v hv=>ws_T_api_Frame (h.2.2.2.2.1.1 v hv).2.1,rlB (by kernel_rfl) h.2.2.2.2.1.2,rlB (by kernel_rfl) h.2.2.2.2.2.1.2⟩
theorem ws_T_api_Method {y:Z2r} (h:wf_129 y):Zae y:=⟨rlS h.2.1,rlS h.2.2.1,ws_T_api_Code h.2.2.2.2.1,fun v hv=>rlS (h.2.2.2.2.2.1.1 v hv),rlB (by kernel_rfl) h.2.2.2.2.2.1.2⟩
theorem ws_T_api_Field {y:Z1d} (h:wf_57 y):Zor y:=⟨rlS h.2.1,rlS h.2.2.1,rlS h.2.2.2.2.2.1⟩
theorem ws_T_api_ClassModel {y:Z0m} (h:wf_49 y):Z5a y:=⟨rlS h.2.1,rlS h.2.2.1,fun v hv=>rlS (h.2.2.2.1.1 v hv),rlB (by kernel_rfl) h.2.2.2.1.2,fun v hv=>ws_T_api_Field (h.2.2.2.2.1.1 v hv),rlB (by kernel_rfl) h.2.2.2.2.1.2,fun v hv=>ws_T_api_Method (h.2.2.2.2.2.1.1 v hv),rlB (by kernel_rfl) h.2.2.2.2.2.1.2,rlS h.2.2.2.2.2.2.1⟩
theorem ws_T_api_Loader {y:Z1p} (h:wf_82 y):Z79 y:=⟨fun v hv=>rlS (h.1.1 v hv).1,rlN (Nat.le_of_ble_eq_true (by kernel_rfl)) h.1.2,fun v hv=>rlS (h.2.1.1 v hv).1,rlN (Nat.le_of_ble_eq_true (by kernel_rfl)) h.2.1.2⟩
theorem ws_T_api_ClassSpace {y:Z0c} (h:wf_27 y):Z57 y:=⟨fun v hv=>ws_T_api_Loader (h.1.1 v hv),rlN (Nat.le_of_ble_eq_true (by kernel_rfl)) h.1.2,fun v hv=>⟨ws_T_api_ClassModel (h.2.1.1 v hv).2.1,rlN (Nat.le_of_ble_eq_true (by kernel_rfl)) (h.2.1.1 v hv).2.2.2.1.2⟩,rlN (Nat.le_of_ble_eq_true (by kernel_rfl)) h.2.1.2,fun v hv=>rlS (h.2.2.1.1 v hv).2.1,rlN (Nat.le_of_ble_eq_true (by kernel_rfl)) h.2.2.1.2,fun v hv=>rlS (h.2.2.2.1.1 v hv).1,rlN (Nat.le_of_ble_eq_true (by kernel_rfl)) h.2.2.2.1.2⟩
set_option maxRecDepth 100000 in
theorem lifted (os:Os) (started:os.Started) (H:Type) (enc:TypeId×Value→H):
  ReturnsInHanded {} Tryz.checked os 6 .any (Rows.layoutKindsSpec.pre6 enc Tryz.prog Tryz.f6 Rows.layoutKindsRow.domain false) (Rows.layoutKindsSpec.post enc Tryz.prog Tryz.f6 false true false false):=by
 refine returnsInHanded_of_change_sized (C:=Tryz.checked) own started (by kernel_rfl) Tryz.func6
  (ChangeSpec.witness6 (enc:=enc) (C:=Tryz.checked) false ⟨#[],#[.agg #[.slice none 0 0,.slice none 0 0,.slice none 0 0,.slice none 0 0],.int .i64 0],[]⟩ 8 (by kernel_rfl) (by kernel_rfl) (by kernel_rfl) (by kernel_rfl)) ?_
 intro W base args ds gs before hval0 hW hcnd hsz _
 have hval:∀ (j:Nat) t v,Tryz.f6.params[j]?=some t→args[j]?=some v→Value.okWide Tryz.prog W .any base t v:=hval0
 have hW':=hW
 obtain ⟨p,q,hA0,hV,rfl,hfz,hnd⟩:=hW
 have hA:DataW.TrodAll enc Tryz.prog W 0 (fun _=>true) true Tryz.f6.params.toList args.toList ds p:=hA0
 rw [Tryz.params6] at hA hval
 obtain ⟨v0,vs0,d0,ds0,p0,q0,hargs,rfl,rfl,h0,r0⟩:=trodAll_cons hA
 obtain ⟨v1,vs1,d1,ds1,p1,q1,rfl,rfl,rfl,h1,r1⟩:=trodAll_cons r0
 obtain ⟨rfl,rfl,rfl⟩:=trodAll_nil r1
 obtain rfl:args= #[v0,v1] :=by cases args; simp_all
 obtain ⟨rfl,rfl⟩:=trodVars_none hV
 have hsz2:(DataW.weightsEach Tryz.prog (Tryz.f6.params.toList++[]) ([d0,d1]++[])).all (· ≤reachBytes)=true:=hsz
 rw [Tryz.params6] at hsz2
 simp only [List.append_nil,DataW.weightsEach,List.all_append,Bool.and_eq_true] at hsz2
 obtain ⟨z0,z1⟩:=hsz2
 obtain ⟨y0,c0,g0⟩:=arg_agg (M:=Z9l.reach Tryz.prog) Tryz.underlying27 rd_27 (hval 0 27 v0 rfl rfl) h0 z0
 obtain ⟨_,rfl⟩:=okWide_int Tryz.underlying3 (hval 1 3 v1 rfl rfl)
 obtain ⟨y1,c1,g1⟩:=arg_one (M:=Z9l.reach Tryz.prog) (f:=(fun n:Int=>D.int .i64 n)) (Z2i (P:=Tryz.prog) Tryz.underlying3) rfl h1 z1
 exact Y19 (P:=Tryz.prog) (fn:=Tryz.f6) (tb:=4) rfl (by kernel_rfl) Tryz.underlying4 laid (by kernel_rfl) hW' rfl (.cons c0 (.cons c1 .nil)) (w6 (Y35 y0 y1 (ws_T_api_ClassSpace g0)))
theorem am {a b:Bool} (h:a=true) (g:b=true):(a&&b)=true:=by rw [h,g]; rfl
theorem k0:Rows.layoutKindsRow.wf (OpenSpec.ofChange Rows.layoutKindsSpec)=true:=by kernel_rfl
theorem k1:laidOutB Tryz.prog=true:=by kernel_rfl
theorem k2:mapsRowed Tryz.prog=true:=by kernel_rfl
theorem k3:Tryz.f6.params.all (Tryz.prog.readableRec ·)=true:=by kernel_rfl
theorem k4:namedTie Tryz.prog Rows.layoutKindsRow.named Rows.layoutKindsSpec.vars=true:=by kernel_rfl
theorem k5:(Rows.layoutKindsRow.stops==[])=true:=by kernel_rfl
theorem k6:(Tryz.prog.stops==[])=true:=by kernel_rfl
theorem k7:(Rows.layoutKindsRow.knobs==[])=true:=by kernel_rfl
theorem k8:(Tryz.prog.stopKnobs==[])=true:=by kernel_rfl
theorem k9:(Rows.layoutKindsRow.inPlace==Tryz.prog.inPlace 6)=true:=by kernel_rfl
theorem k10:(Rows.layoutKindsRow.unfollowed==Tryz.prog.unfollowed 6)=true:=by kernel_rfl
theorem k11:(Rows.layoutKindsRow.recurses==Tryz.prog.recurses 6)=true:=by kernel_rfl
theorem k12:(Rows.layoutKindsRow.named==Tryz.prog.varsNamed 6)=true:=by kernel_rfl
theorem k13:(Rows.layoutKindsRow.maps==(Tryz.f6.params.toList++Rows.layoutKindsSpec.plain.varTypes Tryz.prog).any (Tryz.prog.mapsRec ·))=true:=by kernel_rfl
theorem k14:(Rows.layoutKindsRow.ifaces==(Tryz.f6.params.toList++Rows.layoutKindsSpec.plain.varTypes Tryz.prog).any (Tryz.prog.ifacesRec ·))=true:=by kernel_rfl
theorem k15:(Rows.layoutKindsRow.mapsOut==Tryz.prog.mapsAmong Tryz.f6.resultTypes.toList)=true:=by kernel_rfl
theorem k16:(Rows.layoutKindsRow.loops==(Tryz.f6.params.toList++Rows.layoutKindsSpec.plain.varTypes Tryz.prog).any (Tryz.prog.loopsFrom ·))=true:=by kernel_rfl
theorem k17:(Rows.layoutKindsRow.wideKeys==(Tryz.f6.params.toList++Rows.layoutKindsSpec.plain.varTypes Tryz.prog++Tryz.f6.resultTypes.toList).any (Tryz.prog.wideKeysFrom ·))=true:=by kernel_rfl
theorem k18:Rows.layoutKindsSpec.vars.all (Tryz.prog.varReadable ·)=true:=by kernel_rfl
theorem k19:Tryz.f6.resultTypes.all (fun t=>Tryz.prog.readableRec t&&decide (t<Tryz.prog.types.size))=true:=by kernel_rfl
theorem k20:(Rows.layoutKindsRow.ifacesOut==Tryz.f6.resultTypes.toList.any (Tryz.prog.ifacesRec ·))=true:=by kernel_rfl
theorem k21:(Rows.layoutKindsRow.loopsOut==Tryz.f6.resultTypes.toList.any (Tryz.prog.loopsFrom ·))=true:=by kernel_rfl
theorem k22:(Rows.layoutKindsRow.plainKeys==Tryz.prog.plainKeys)=true:=by kernel_rfl
theorem k23:Rows.layoutKindsRow.shortTexts.isNone=true:=by kernel_rfl
theorem k24:Tryz.prog.stopsHeard=true:=by kernel_rfl
theorem k25:Tryz.prog.mayEnter=true:=by kernel_rfl
theorem k26:(Rows.layoutKindsRow.lifted==Tryz.prog.liftsFinal)=true:=by kernel_rfl
theorem k27:(Tryz.prog.make==some Rows.layoutKindsRow.make)=true:=by kernel_rfl
theorem k28:(Rows.layoutKindsRow.kinds==(if Rows.layoutKindsRow.domain.isEmpty then [] else Tryz.f6.params.toList.map fun t=>match Tryz.prog.underlying t with|some (.int k)=>some k|_=>none))=true:=by kernel_rfl
theorem k29:(Rows.layoutKindsRow.pinned==Rows.layoutKindsRow.pinnedBy)=true:=by kernel_rfl
theorem k30:(Rows.layoutKindsRow.veiled==(Tryz.f6.params.toList++Rows.layoutKindsSpec.plain.varTypes Tryz.prog++Tryz.f6.resultTypes.toList).any (Tryz.prog.veiledRec ·))=true:=by kernel_rfl
theorem k31:Rows.layoutKindsRow.veiledFits Tryz.prog Tryz.f6.params.toList (Tryz.f6.params.toList++Rows.layoutKindsSpec.plain.varTypes Tryz.prog++Tryz.f6.resultTypes.toList)=true:=by kernel_rfl
set_option maxRecDepth 100000 in
theorem closed:joinedFacts Tryz.prog 6 Tryz.f6 Rows.layoutKindsSpec Rows.layoutKindsRow=true:=(am (am (am (am (am (am (am (am (am (am (am (am (am (am (am (am (am (am (am (am (am (am (am (am (am (am (am (am (am (am (am k0 k1) k2) k3) k4) k5) k6) k7) k8) k9) k10) k11) k12) k13) k14) k15) k16) k17) k18) k19) k20) k21) k22) k23) k24) k25) k26) k27) k28) k29) k30) k31)
theorem inst:Tryz.f6.isInstance Tryz.prog Rows.layoutKindsRow.origin Rows.layoutKindsRow.targs:=of_decide_eq_true (by kernel_rfl)
theorem named:Tryz.prog.funcNamed Rows.layoutKindsRow.func=some 6:=by kernel_rfl
theorem wrapped:Tryz.f6.isWrapper Tryz.prog Rows.layoutKindsRow.wrapper Rows.layoutKindsRow.mainSum:=by unfold Func.isWrapper; first|(rw [if_pos (by decide+kernel)]; kernel_rfl)|(rw [if_neg (by decide+kernel)]; exact ⟨rfl,rfl⟩)
theorem over:Rows.layoutKindsRow.holds Tryz.pinned (OpenSpec.ofChange Rows.layoutKindsSpec):=
 OpenClaim.holds_of_wide 6 Tryz.f6 rfl rfl rfl rfl rfl rfl rfl ⟨rfl,rfl,rfl,rfl,rfl⟩ rfl rfl rfl rfl rfl named Tryz.func6 closed inst wrapped
  (fun os started H enc _=>lifted os started H enc)
theorem proved:Rows.LayoutKindsSaid:=
 over
#print axioms proved
end Go.Proofs.YtbhghodobphdeaaGreat.layoutKinds
