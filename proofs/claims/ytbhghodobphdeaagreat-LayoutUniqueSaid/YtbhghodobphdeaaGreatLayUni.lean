/-
  The law LayoutUnique holds for every input: the function returns true, and Z5q argument reads behind the call as it read before. No condition.
-/
import Derived.Test.YtbhghodobphdeaaGreatLayL4
import Derived.WalkKit
import Derived.ProofKit
import Derived.OpenShut
import Derived.ChangeMaps5
namespace Go.Proofs.YtbhghodobphdeaaGreat.layoutUnique
open Go.ChangeShapes Go.WideShapes Go.ChangeAt Go.RowKit Go.ChangeMaps Go.Den
set_option linter.unusedVariables false
theorem own:ownKnob Tryz.prog.godebug=none:=by kernel_rfl
theorem laid:laidOutB Tryz.prog=true:=by kernel_rfl
def wf_84 (y:Z8k):Prop:=(fun s:List UInt8=>s.length≤reachBytes) y.Zfy∧((fun n:Int=>IntKind.min .i64≤n∧n≤IntKind.max .i64) y.f_To∧(True))
theorem rd_84:Z2d Tryz.prog 84 Zdt wf_84:=
 (Z3p (tot:=2) Tryz.underlying84 (by kernel_rfl) (Z0w (n:=1) (Z3r (P:=Tryz.prog) Tryz.underlying9) (by kernel_rfl) (Z0w (n:=1) (Z2a (P:=Tryz.prog) Tryz.underlying3) (by kernel_rfl) Z3o rfl) rfl)).map (fun p:(List UInt8)×(Int×Unit)=>({ Zfy:=p.1,f_To:=p.2.1 }:Z8k)) (fun _=>rfl) (fun _ h=>h)
def wf_79 (ys:List Z8k):Prop:=(∀ y∈ys,wf_84 y)∧ys.length*Tryz.prog.bytesOf 84≤reachBytes
theorem rd_79:Z2d Tryz.prog 79 (fun ys:List Z8k=>[D.sl false (ys.map Zdt)]) wf_79:=Z4v Tryz.underlying79 (row:=Zdt) rd_84 (Nat.lt_of_lt_of_le (by decide:0<1) (Nat.le_of_ble_eq_true (by kernel_rfl)))
def wf_102 (y:Z8y):Prop:=(fun s:List UInt8=>s.length≤reachBytes) y.Z0f∧((fun s:List UInt8=>s.length≤reachBytes) y.Z2g∧(True))
theorem rd_102:Z2d Tryz.prog 102 Zeq wf_102:=
 (Z3p (tot:=2) Tryz.underlying102 (by kernel_rfl) (Z0w (n:=1) (Z3r (P:=Tryz.prog) Tryz.underlying9) (by kernel_rfl) (Z0w (n:=1) (Z3r (P:=Tryz.prog) Tryz.underlying9) (by kernel_rfl) Z3o rfl) rfl)).map (fun p:(List UInt8)×(List UInt8)×Unit=>({ Z0f:=p.1,Z2g:=p.2.1 }:Z8y)) (fun _=>rfl) (fun _ h=>h)
def wf_80 (ys:List Z8y):Prop:=(∀ y∈ys,wf_102 y)∧ys.length*Tryz.prog.bytesOf 102≤reachBytes
theorem rd_80:Z2d Tryz.prog 80 (fun ys:List Z8y=>[D.sl false (ys.map Zeq)]) wf_80:=Z4v Tryz.underlying80 (row:=Zeq) rd_102 (Nat.lt_of_lt_of_le (by decide:0<1) (Nat.le_of_ble_eq_true (by kernel_rfl)))
def wf_82 (y:Z1m):Prop:=wf_79 y.Z5m∧(wf_80 y.Z3x∧(True))
theorem rd_82:Z2d Tryz.prog 82 Z2r wf_82:=
 (Z3p (tot:=2) Tryz.underlying82 (by kernel_rfl) (Z0w (n:=1) rd_79 (by kernel_rfl) (Z0w (n:=1) rd_80 (by kernel_rfl) Z3o rfl) rfl)).map (fun p:(List Z8k)×(List Z8y)×Unit=>({ Z5m:=p.1,Z3x:=p.2.1 }:Z1m)) (fun _=>rfl) (fun _ h=>h)
def wf_22 (ys:List Z1m):Prop:=(∀ y∈ys,wf_82 y)∧ys.length*Tryz.prog.bytesOf 82≤reachBytes
theorem rd_22:Z2d Tryz.prog 22 (fun ys:List Z1m=>[D.sl false (ys.map Z2r)]) wf_22:=Z4v Tryz.underlying22 (row:=Z2r) rd_82 (Nat.lt_of_lt_of_le (by decide:0<1) (Nat.le_of_ble_eq_true (by kernel_rfl)))
def wf_45 (ys:List (List UInt8)):Prop:=(∀ y∈ys,(fun s:List UInt8=>s.length≤reachBytes) y)∧ys.length*Tryz.prog.bytesOf 9≤reachBytes
theorem rd_45:Z2d Tryz.prog 45 (fun ys:List (List UInt8)=>[D.sl false (ys.map Z43)]) wf_45:=Z4v Tryz.underlying45 (row:=Z43) (Z3r (P:=Tryz.prog) Tryz.underlying9) (Nat.lt_of_lt_of_le (by decide:0<1) (Nat.le_of_ble_eq_true (by kernel_rfl)))
def wf_57 (y:Z1b):Prop:=(fun n:Int=>IntKind.min .i64≤n∧n≤IntKind.max .i64) y.Z0r∧((fun s:List UInt8=>s.length≤reachBytes) y.Z0f∧((fun s:List UInt8=>s.length≤reachBytes) y.Z1o∧((fun n:Int=>IntKind.min .i64≤n∧n≤IntKind.max .i64) y.Z3g∧((fun n:Int=>IntKind.min .i64≤n∧n≤IntKind.max .i64) y.f_N∧((fun s:List UInt8=>s.length≤reachBytes) y.f_S∧(True))))))
theorem rd_57:Z2d Tryz.prog 57 Z5p wf_57:=
 (Z3p (tot:=6) Tryz.underlying57 (by kernel_rfl) (Z0w (n:=1) (Z2a (P:=Tryz.prog) Tryz.underlying3) (by kernel_rfl) (Z0w (n:=1) (Z3r (P:=Tryz.prog) Tryz.underlying9) (by kernel_rfl) (Z0w (n:=1) (Z3r (P:=Tryz.prog) Tryz.underlying9) (by kernel_rfl) (Z0w (n:=1) (Z2a (P:=Tryz.prog) Tryz.underlying3) (by kernel_rfl) (Z0w (n:=1) (Z2a (P:=Tryz.prog) Tryz.underlying3) (by kernel_rfl) (Z0w (n:=1) (Z3r (P:=Tryz.prog) Tryz.underlying9) (by kernel_rfl) Z3o rfl) rfl) rfl) rfl) rfl) rfl)).map (fun p:Int×(List UInt8)×(List UInt8)×(Int×(Int×(List UInt8)×Unit))=>({ Z0r:=p.1,Z0f:=p.2.1,Z1o:=p.2.2.1,Z3g:=p.2.2.2.1,f_N:=p.2.2.2.2.1,f_S:=p.2.2.2.2.2.1 }:Z1b)) (fun _=>rfl) (fun _ h=>h)
def wf_46 (ys:List Z1b):Prop:=(∀ y∈ys,wf_57 y)∧ys.length*Tryz.prog.bytesOf 57≤reachBytes
theorem rd_46:Z2d Tryz.prog 46 (fun ys:List Z1b=>[D.sl false (ys.map Z5p)]) wf_46:=Z4v Tryz.underlying46 (row:=Z5p) rd_57 (Nat.lt_of_lt_of_le (by decide:0<1) (Nat.le_of_ble_eq_true (by kernel_rfl)))
def wf_50 (ys:List Int):Prop:=(∀ y∈ys,(fun n:Int=>IntKind.min .i64≤n∧n≤IntKind.max .i64) y)∧ys.length*Tryz.prog.bytesOf 3≤reachBytes
theorem rd_50:Z2d Tryz.prog 50 (fun ys:List Int=>[D.sl false (ys.map Z02)]) wf_50:=Z4v Tryz.underlying50 (row:=Z02) (Z2a (P:=Tryz.prog) Tryz.underlying3) (Nat.lt_of_lt_of_le (by decide:0<1) (Nat.le_of_ble_eq_true (by kernel_rfl)))
def wf_176 (y:Z22):Prop:=(fun s:List UInt8=>s.length≤reachBytes) y.Z0k∧((fun s:List UInt8=>s.length≤reachBytes) y.Z0f∧((fun s:List UInt8=>s.length≤reachBytes) y.Z1o∧(True)))
theorem rd_176:Z2d Tryz.prog 176 Zkr wf_176:=
 (Z3p (tot:=3) Tryz.underlying176 (by kernel_rfl) (Z0w (n:=1) (Z3r (P:=Tryz.prog) Tryz.underlying9) (by kernel_rfl) (Z0w (n:=1) (Z3r (P:=Tryz.prog) Tryz.underlying9) (by kernel_rfl) (Z0w (n:=1) (Z3r (P:=Tryz.prog) Tryz.underlying9) (by kernel_rfl) Z3o rfl) rfl) rfl)).map (fun p:(List UInt8)×(List UInt8)×(List UInt8)×Unit=>({ Z0k:=p.1,Z0f:=p.2.1,Z1o:=p.2.2.1 }:Z22)) (fun _=>rfl) (fun _ h=>h)
def wf_178 (y:Z01):Prop:=(fun n:Int=>IntKind.min .i64≤n∧n≤IntKind.max .i64) y.f_Op∧((fun n:Int=>IntKind.min .i64≤n∧n≤IntKind.max .i64) y.f_A∧((fun n:Int=>IntKind.min .i64≤n∧n≤IntKind.max .i64) y.f_B∧((fun n:Int=>IntKind.min .i64≤n∧n≤IntKind.max .i64) y.f_To∧(wf_50 y.Z0s∧(wf_50 y.Z0b∧(wf_176 y.Z1c∧((fun s:List UInt8=>s.length≤reachBytes) y.f_S∧(True))))))))
theorem rd_178:Z2d Tryz.prog 178 Z0e wf_178:=
 (Z3p (tot:=10) Tryz.underlying178 (by kernel_rfl) (Z0w (n:=1) (Z2a (P:=Tryz.prog) Tryz.underlying3) (by kernel_rfl) (Z0w (n:=1) (Z2a (P:=Tryz.prog) Tryz.underlying3) (by kernel_rfl) (Z0w (n:=1) (Z2a (P:=Tryz.prog) Tryz.underlying3) (by kernel_rfl) (Z0w (n:=1) (Z2a (P:=Tryz.prog) Tryz.underlying3) (by kernel_rfl) (Z0w (n:=1) rd_50 (by kernel_rfl) (Z0w (n:=1) rd_50 (by kernel_rfl) (Z0w (n:=3) rd_176 (by kernel_rfl) (Z0w (n:=1) (Z3r (P:=Tryz.prog) Tryz.underlying9) (by kernel_rfl) Z3o rfl) rfl) rfl) rfl) rfl) rfl) rfl) rfl)).map (fun p:Int×(Int×(Int×(Int×(List Int)×(List Int)×(Z22×(List UInt8)×Unit))))=>({ f_Op:=p.1,f_A:=p.2.1,f_B:=p.2.2.1,f_To:=p.2.2.2.1,Z0s:=p.2.2.2.2.1,Z0b:=p.2.2.2.2.2.1,Z1c:=p.2.2.2.2.2.2.1,f_S:=p.2.2.2.2.2.2.2.1 }:Z01)) (fun _=>rfl) (fun _ h=>h)
def wf_122 (ys:List Z01):Prop:=(∀ y∈ys,wf_178 y)∧ys.length*Tryz.prog.bytesOf 178≤reachBytes
theorem rd_122:Z2d Tryz.prog 122 (fun ys:List Z01=>[D.sl false (ys.map Z0e)]) wf_122:=Z4v Tryz.underlying122 (row:=Z0e) rd_178 (Nat.lt_of_lt_of_le (by decide:0<1) (Nat.le_of_ble_eq_true (by kernel_rfl)))
def wf_141 (y:Z0n):Prop:=(fun n:Int=>IntKind.min .i64≤n∧n≤IntKind.max .i64) y.Z5z∧((fun n:Int=>IntKind.min .i64≤n∧n≤IntKind.max .i64) y.f_To∧((fun n:Int=>IntKind.min .i64≤n∧n≤IntKind.max .i64) y.Z69∧((fun n:Int=>IntKind.min .i64≤n∧n≤IntKind.max .i64) y.Z0k∧((fun s:List UInt8=>s.length≤reachBytes) y.Z1n∧(True)))))
theorem rd_141:Z2d Tryz.prog 141 Z0t wf_141:=
 (Z3p (tot:=5) Tryz.underlying141 (by kernel_rfl) (Z0w (n:=1) (Z2a (P:=Tryz.prog) Tryz.underlying3) (by kernel_rfl) (Z0w (n:=1) (Z2a (P:=Tryz.prog) Tryz.underlying3) (by kernel_rfl) (Z0w (n:=1) (Z2a (P:=Tryz.prog) Tryz.underlying3) (by kernel_rfl) (Z0w (n:=1) (Z2a (P:=Tryz.prog) Tryz.underlying3) (by kernel_rfl) (Z0w (n:=1) (Z3r (P:=Tryz.prog) Tryz.underlying9) (by kernel_rfl) Z3o rfl) rfl) rfl) rfl) rfl)).map (fun p:Int×(Int×(Int×(Int×(List UInt8)×Unit)))=>({ Z5z:=p.1,f_To:=p.2.1,Z69:=p.2.2.1,Z0k:=p.2.2.2.1,Z1n:=p.2.2.2.2.1 }:Z0n)) (fun _=>rfl) (fun _ h=>h)
def wf_123 (ys:List Z0n):Prop:=(∀ y∈ys,wf_141 y)∧ys.length*Tryz.prog.bytesOf 141≤reachBytes
theorem rd_123:Z2d Tryz.prog 123 (fun ys:List Z0n=>[D.sl false (ys.map Z0t)]) wf_123:=Z4v Tryz.underlying123 (row:=Z0t) rd_141 (Nat.lt_of_lt_of_le (by decide:0<1) (Nat.le_of_ble_eq_true (by kernel_rfl)))
def wf_74 (y:Z0q):Prop:=(fun n:Int=>IntKind.min .i64≤n∧n≤IntKind.max .i64) y.Z2t∧((fun n:Int=>IntKind.min .u8≤n∧n≤IntKind.max .u8) y.Z1z∧((fun s:List UInt8=>s.length≤reachBytes) y.Z0f∧(True)))
theorem rd_74:Z2d Tryz.prog 74 Z25 wf_74:=
 (Z3p (tot:=3) Tryz.underlying74 (by kernel_rfl) (Z0w (n:=1) (Z2a (P:=Tryz.prog) Tryz.underlying3) (by kernel_rfl) (Z0w (n:=1) (Z2a (P:=Tryz.prog) Tryz.underlying5) (by kernel_rfl) (Z0w (n:=1) (Z3r (P:=Tryz.prog) Tryz.underlying9) (by kernel_rfl) Z3o rfl) rfl) rfl)).map (fun p:Int×(Int×(List UInt8)×Unit)=>({ Z2t:=p.1,Z1z:=p.2.1,Z0f:=p.2.2.1 }:Z0q)) (fun _=>rfl) (fun _ h=>h)
def wf_166 (y:Z0h):Prop:=(fun n:Int=>IntKind.min .i64≤n∧n≤IntKind.max .i64) y.Z2c∧((fun n:Int=>IntKind.min .i64≤n∧n≤IntKind.max .i64) y.Z3a∧(wf_74 y.Z1n∧((fun n:Int=>IntKind.min .i64≤n∧n≤IntKind.max .i64) y.Z42∧(True))))
theorem rd_166:Z2d Tryz.prog 166 Z1h wf_166:=
 (Z3p (tot:=6) Tryz.underlying166 (by kernel_rfl) (Z0w (n:=1) (Z2a (P:=Tryz.prog) Tryz.underlying3) (by kernel_rfl) (Z0w (n:=1) (Z2a (P:=Tryz.prog) Tryz.underlying3) (by kernel_rfl) (Z0w (n:=3) rd_74 (by kernel_rfl) (Z0w (n:=1) (Z2a (P:=Tryz.prog) Tryz.underlying3) (by kernel_rfl) Z3o rfl) rfl) rfl) rfl)).map (fun p:Int×(Int×(Z0q×(Int×Unit)))=>({ Z2c:=p.1,Z3a:=p.2.1,Z1n:=p.2.2.1,Z42:=p.2.2.2.1 }:Z0h)) (fun _=>rfl) (fun _ h=>h)
def wf_143 (ys:List Z0h):Prop:=(∀ y∈ys,wf_166 y)∧ys.length*Tryz.prog.bytesOf 166≤reachBytes
theorem rd_143:Z2d Tryz.prog 143 (fun ys:List Z0h=>[D.sl false (ys.map Z1h)]) wf_143:=Z4v Tryz.underlying143 (row:=Z1h) rd_166 (Nat.lt_of_lt_of_le (by decide:0<1) (Nat.le_of_ble_eq_true (by kernel_rfl)))
def wf_145 (y:Z5c):Prop:=wf_143 y.Z0u∧(wf_143 y.Z0z∧((fun _:Bool=>True) y.Z6p∧(True)))
theorem rd_145:Z2d Tryz.prog 145 Zxt wf_145:=
 (Z3p (tot:=3) Tryz.underlying145 (by kernel_rfl) (Z0w (n:=1) rd_143 (by kernel_rfl) (Z0w (n:=1) rd_143 (by kernel_rfl) (Z0w (n:=1) (Zus (P:=Tryz.prog) Tryz.underlying4) (by kernel_rfl) Z3o rfl) rfl) rfl)).map (fun p:(List Z0h)×(List Z0h)×(Bool×Unit)=>({ Z0u:=p.1,Z0z:=p.2.1,Z6p:=p.2.2.1 }:Z5c)) (fun _=>rfl) (fun _ h=>h)
def wf_147 (y:Z0p):Prop:=(fun n:Int=>IntKind.min .i64≤n∧n≤IntKind.max .i64) y.Z0x∧(wf_145 y.Z1i∧(True))
theorem rd_147:Z2d Tryz.prog 147 Z0y wf_147:=
 (Z3p (tot:=4) Tryz.underlying147 (by kernel_rfl) (Z0w (n:=1) (Z2a (P:=Tryz.prog) Tryz.underlying3) (by kernel_rfl) (Z0w (n:=3) rd_145 (by kernel_rfl) Z3o rfl) rfl)).map (fun p:Int×(Z5c×Unit)=>({ Z0x:=p.1,Z1i:=p.2.1 }:Z0p)) (fun _=>rfl) (fun _ h=>h)
def wf_124 (ys:List Z0p):Prop:=(∀ y∈ys,wf_147 y)∧ys.length*Tryz.prog.bytesOf 147≤reachBytes
theorem rd_124:Z2d Tryz.prog 124 (fun ys:List Z0p=>[D.sl false (ys.map Z0y)]) wf_124:=Z4v Tryz.underlying124 (row:=Z0y) rd_147 (Nat.lt_of_lt_of_le (by decide:0<1) (Nat.le_of_ble_eq_true (by kernel_rfl)))
def wf_159 (y:Z14):Prop:=(fun n:Int=>IntKind.min .i64≤n∧n≤IntKind.max .i64) y.Z0x∧((fun n:Int=>IntKind.min .i64≤n∧n≤IntKind.max .i64) y.Z73∧(True))
theorem rd_159:Z2d Tryz.prog 159 Z1a wf_159:=
 (Z3p (tot:=2) Tryz.underlying159 (by kernel_rfl) (Z0w (n:=1) (Z2a (P:=Tryz.prog) Tryz.underlying3) (by kernel_rfl) (Z0w (n:=1) (Z2a (P:=Tryz.prog) Tryz.underlying3) (by kernel_rfl) Z3o rfl) rfl)).map (fun p:Int×(Int×Unit)=>({ Z0x:=p.1,Z73:=p.2.1 }:Z14)) (fun _=>rfl) (fun _ h=>h)
def wf_125 (ys:List Z14):Prop:=(∀ y∈ys,wf_159 y)∧ys.length*Tryz.prog.bytesOf 159≤reachBytes
theorem rd_125:Z2d Tryz.prog 125 (fun ys:List Z14=>[D.sl false (ys.map Z1a)]) wf_125:=Z4v Tryz.underlying125 (row:=Z1a) rd_159 (Nat.lt_of_lt_of_le (by decide:0<1) (Nat.le_of_ble_eq_true (by kernel_rfl)))
def wf_127 (y:Z0a):Prop:=(fun n:Int=>IntKind.min .i64≤n∧n≤IntKind.max .i64) y.Z0z∧((fun n:Int=>IntKind.min .i64≤n∧n≤IntKind.max .i64) y.Z0u∧(wf_122 y.Z0j∧(wf_123 y.Z1w∧(wf_124 y.Z1f∧(wf_125 y.Z1r∧(True))))))
theorem rd_127:Z2d Tryz.prog 127 Z0v wf_127:=
 (Z3p (tot:=6) Tryz.underlying127 (by kernel_rfl) (Z0w (n:=1) (Z2a (P:=Tryz.prog) Tryz.underlying3) (by kernel_rfl) (Z0w (n:=1) (Z2a (P:=Tryz.prog) Tryz.underlying3) (by kernel_rfl) (Z0w (n:=1) rd_122 (by kernel_rfl) (Z0w (n:=1) rd_123 (by kernel_rfl) (Z0w (n:=1) rd_124 (by kernel_rfl) (Z0w (n:=1) rd_125 (by kernel_rfl) Z3o rfl) rfl) rfl) rfl) rfl) rfl)).map (fun p:Int×(Int×(List Z01)×(List Z0n)×(List Z0p)×(List Z14)×Unit)=>({ Z0z:=p.1,Z0u:=p.2.1,Z0j:=p.2.2.1,Z1w:=p.2.2.2.1,Z1f:=p.2.2.2.2.1,Z1r:=p.2.2.2.2.2.1 }:Z0a)) (fun _=>rfl) (fun _ h=>h)
def wf_129 (y:Z2n):Prop:=(fun n:Int=>IntKind.min .i64≤n∧n≤IntKind.max .i64) y.Z0r∧((fun s:List UInt8=>s.length≤reachBytes) y.Z0f∧((fun s:List UInt8=>s.length≤reachBytes) y.Z1o∧((fun _:Bool=>True) y.Z8u∧(wf_127 y.Z27∧(wf_45 y.Z6i∧(True))))))
theorem rd_129:Z2d Tryz.prog 129 Z70 wf_129:=
 (Z3p (tot:=11) Tryz.underlying129 (by kernel_rfl) (Z0w (n:=1) (Z2a (P:=Tryz.prog) Tryz.underlying3) (by kernel_rfl) (Z0w (n:=1) (Z3r (P:=Tryz.prog) Tryz.underlying9) (by kernel_rfl) (Z0w (n:=1) (Z3r (P:=Tryz.prog) Tryz.underlying9) (by kernel_rfl) (Z0w (n:=1) (Zus (P:=Tryz.prog) Tryz.underlying4) (by kernel_rfl) (Z0w (n:=6) rd_127 (by kernel_rfl) (Z0w (n:=1) rd_45 (by kernel_rfl) Z3o rfl) rfl) rfl) rfl) rfl) rfl)).map (fun p:Int×(List UInt8)×(List UInt8)×(Bool×(Z0a×(List (List UInt8))×Unit))=>({ Z0r:=p.1,Z0f:=p.2.1,Z1o:=p.2.2.1,Z8u:=p.2.2.2.1,Z27:=p.2.2.2.2.1,Z6i:=p.2.2.2.2.2.1 }:Z2n)) (fun _=>rfl) (fun _ h=>h)
def wf_47 (ys:List Z2n):Prop:=(∀ y∈ys,wf_129 y)∧ys.length*Tryz.prog.bytesOf 129≤reachBytes
theorem rd_47:Z2d Tryz.prog 47 (fun ys:List Z2n=>[D.sl false (ys.map Z70)]) wf_47:=Z4v Tryz.underlying47 (row:=Z70) rd_129 (Nat.lt_of_lt_of_le (by decide:0<1) (Nat.le_of_ble_eq_true (by kernel_rfl)))
def wf_49 (y:Z0m):Prop:=(fun n:Int=>IntKind.min .i64≤n∧n≤IntKind.max .i64) y.Z0r∧((fun s:List UInt8=>s.length≤reachBytes) y.Z0f∧((fun s:List UInt8=>s.length≤reachBytes) y.Z16∧(wf_45 y.Z1e∧(wf_46 y.Z0g∧(wf_47 y.Z10∧((fun s:List UInt8=>s.length≤reachBytes) y.Z8b∧(True)))))))
theorem rd_49:Z2d Tryz.prog 49 Z2i wf_49:=
 (Z3p (tot:=7) Tryz.underlying49 (by kernel_rfl) (Z0w (n:=1) (Z2a (P:=Tryz.prog) Tryz.underlying3) (by kernel_rfl) (Z0w (n:=1) (Z3r (P:=Tryz.prog) Tryz.underlying9) (by kernel_rfl) (Z0w (n:=1) (Z3r (P:=Tryz.prog) Tryz.underlying9) (by kernel_rfl) (Z0w (n:=1) rd_45 (by kernel_rfl) (Z0w (n:=1) rd_46 (by kernel_rfl) (Z0w (n:=1) rd_47 (by kernel_rfl) (Z0w (n:=1) (Z3r (P:=Tryz.prog) Tryz.underlying9) (by kernel_rfl) Z3o rfl) rfl) rfl) rfl) rfl) rfl) rfl)).map (fun p:Int×(List UInt8)×(List UInt8)×(List (List UInt8))×(List Z1b)×(List Z2n)×(List UInt8)×Unit=>({ Z0r:=p.1,Z0f:=p.2.1,Z16:=p.2.2.1,Z1e:=p.2.2.2.1,Z0g:=p.2.2.2.2.1,Z10:=p.2.2.2.2.2.1,Z8b:=p.2.2.2.2.2.2.1 }:Z0m)) (fun _=>rfl) (fun _ h=>h)
def wf_53 (y:Z1s):Prop:=(fun n:Int=>IntKind.min .i64≤n∧n≤IntKind.max .i64) y.Z2u∧(wf_49 y.Z13∧((fun n:Int=>IntKind.min .i64≤n∧n≤IntKind.max .i64) y.Z16∧(wf_50 y.Z1e∧((fun n:Int=>IntKind.min .i64≤n∧n≤IntKind.max .i64) y.Zb0∧((fun n:Int=>IntKind.min .i64≤n∧n≤IntKind.max .i64) y.Zk7∧(True))))))
theorem rd_53:Z2d Tryz.prog 53 Z4f wf_53:=
 (Z3p (tot:=12) Tryz.underlying53 (by kernel_rfl) (Z0w (n:=1) (Z2a (P:=Tryz.prog) Tryz.underlying3) (by kernel_rfl) (Z0w (n:=7) rd_49 (by kernel_rfl) (Z0w (n:=1) (Z2a (P:=Tryz.prog) Tryz.underlying3) (by kernel_rfl) (Z0w (n:=1) rd_50 (by kernel_rfl) (Z0w (n:=1) (Z2a (P:=Tryz.prog) Tryz.underlying3) (by kernel_rfl) (Z0w (n:=1) (Z2a (P:=Tryz.prog) Tryz.underlying51) (by kernel_rfl) Z3o rfl) rfl) rfl) rfl) rfl) rfl)).map (fun p:Int×(Z0m×(Int×(List Int)×(Int×(Int×Unit))))=>({ Z2u:=p.1,Z13:=p.2.1,Z16:=p.2.2.1,Z1e:=p.2.2.2.1,Zb0:=p.2.2.2.2.1,Zk7:=p.2.2.2.2.2.1 }:Z1s)) (fun _=>rfl) (fun _ h=>h)
def wf_23 (ys:List Z1s):Prop:=(∀ y∈ys,wf_53 y)∧ys.length*Tryz.prog.bytesOf 53≤reachBytes
theorem rd_23:Z2d Tryz.prog 23 (fun ys:List Z1s=>[D.sl false (ys.map Z4f)]) wf_23:=Z4v Tryz.underlying23 (row:=Z4f) rd_53 (Nat.lt_of_lt_of_le (by decide:0<1) (Nat.le_of_ble_eq_true (by kernel_rfl)))
def wf_88 (y:Z2s):Prop:=(fun n:Int=>IntKind.min .i64≤n∧n≤IntKind.max .i64) y.Z2u∧((fun s:List UInt8=>s.length≤reachBytes) y.Z0f∧((fun n:Int=>IntKind.min .i64≤n∧n≤IntKind.max .i64) y.Z0k∧(True)))
theorem rd_88:Z2d Tryz.prog 88 Z55 wf_88:=
 (Z3p (tot:=3) Tryz.underlying88 (by kernel_rfl) (Z0w (n:=1) (Z2a (P:=Tryz.prog) Tryz.underlying3) (by kernel_rfl) (Z0w (n:=1) (Z3r (P:=Tryz.prog) Tryz.underlying9) (by kernel_rfl) (Z0w (n:=1) (Z2a (P:=Tryz.prog) Tryz.underlying3) (by kernel_rfl) Z3o rfl) rfl) rfl)).map (fun p:Int×(List UInt8)×(Int×Unit)=>({ Z2u:=p.1,Z0f:=p.2.1,Z0k:=p.2.2.1 }:Z2s)) (fun _=>rfl) (fun _ h=>h)
def wf_24 (ys:List Z2s):Prop:=(∀ y∈ys,wf_88 y)∧ys.length*Tryz.prog.bytesOf 88≤reachBytes
theorem rd_24:Z2d Tryz.prog 24 (fun ys:List Z2s=>[D.sl false (ys.map Z55)]) wf_24:=Z4v Tryz.underlying24 (row:=Z55) rd_88 (Nat.lt_of_lt_of_le (by decide:0<1) (Nat.le_of_ble_eq_true (by kernel_rfl)))
def wf_65 (y:Z4z):Prop:=(fun s:List UInt8=>s.length≤reachBytes) y.Z0f∧((fun n:Int=>IntKind.min .i64≤n∧n≤IntKind.max .i64) y.f_A∧((fun n:Int=>IntKind.min .i64≤n∧n≤IntKind.max .i64) y.f_B∧(True)))
theorem rd_65:Z2d Tryz.prog 65 Z5u wf_65:=
 (Z3p (tot:=3) Tryz.underlying65 (by kernel_rfl) (Z0w (n:=1) (Z3r (P:=Tryz.prog) Tryz.underlying9) (by kernel_rfl) (Z0w (n:=1) (Z2a (P:=Tryz.prog) Tryz.underlying3) (by kernel_rfl) (Z0w (n:=1) (Z2a (P:=Tryz.prog) Tryz.underlying3) (by kernel_rfl) Z3o rfl) rfl) rfl)).map (fun p:(List UInt8)×(Int×(Int×Unit))=>({ Z0f:=p.1,f_A:=p.2.1,f_B:=p.2.2.1 }:Z4z)) (fun _=>rfl) (fun _ h=>h)
def wf_25 (ys:List Z4z):Prop:=(∀ y∈ys,wf_65 y)∧ys.length*Tryz.prog.bytesOf 65≤reachBytes
theorem rd_25:Z2d Tryz.prog 25 (fun ys:List Z4z=>[D.sl false (ys.map Z5u)]) wf_25:=Z4v Tryz.underlying25 (row:=Z5u) rd_65 (Nat.lt_of_lt_of_le (by decide:0<1) (Nat.le_of_ble_eq_true (by kernel_rfl)))
def wf_27 (y:Z0c):Prop:=wf_22 y.Z1y∧(wf_23 y.Z0o∧(wf_24 y.Z2l∧(wf_25 y.Z47∧(True))))
theorem rd_27:Z2d Tryz.prog 27 Z1d wf_27:=
 (Z3p (tot:=4) Tryz.underlying27 (by kernel_rfl) (Z0w (n:=1) rd_22 (by kernel_rfl) (Z0w (n:=1) rd_23 (by kernel_rfl) (Z0w (n:=1) rd_24 (by kernel_rfl) (Z0w (n:=1) rd_25 (by kernel_rfl) Z3o rfl) rfl) rfl) rfl)).map (fun p:(List Z1m)×(List Z1s)×(List Z2s)×(List Z4z)×Unit=>({ Z1y:=p.1,Z0o:=p.2.1,Z2l:=p.2.2.1,Z47:=p.2.2.2.1 }:Z0c)) (fun _=>rfl) (fun _ h=>h)
def wf_41 (y:Z36):Prop:=(fun n:Int=>IntKind.min .i64≤n∧n≤IntKind.max .i64) y.Z0k∧((fun n:Int=>IntKind.min .i64≤n∧n≤IntKind.max .i64) y.Z0x∧(True))
theorem rd_41:Z2d Tryz.prog 41 Z6u wf_41:=
 (Z3p (tot:=2) Tryz.underlying41 (by kernel_rfl) (Z0w (n:=1) (Z2a (P:=Tryz.prog) Tryz.underlying3) (by kernel_rfl) (Z0w (n:=1) (Z2a (P:=Tryz.prog) Tryz.underlying3) (by kernel_rfl) Z3o rfl) rfl)).map (fun p:Int×(Int×Unit)=>({ Z0k:=p.1,Z0x:=p.2.1 }:Z36)) (fun _=>rfl) (fun _ h=>h)
theorem rlS {n:Nat} (h:n≤reachBytes):n≤4503599627370496:=Nat.le_trans h (by decide)
theorem rlB {n b k:Nat} (e:b=k) (h:n*b≤reachBytes):n*k≤140737488355328:=by have:=Zrt h; rw [e] at this; omega
theorem rlN {n b:Nat} (e:1≤b) (h:n*b≤reachBytes):n≤140737488355328:=Nat.le_trans (Nat.le_trans (Nat.le_of_eq (Nat.mul_one n).symm) (Nat.mul_le_mul_left n e)) (by have:=Zrt h; omega)
theorem ws_T_api_Ref {y:Z22} (h:wf_176 y):WRef y:=⟨rlS h.1,rlS h.2.1,rlS h.2.2.1⟩
theorem ws_T_api_Insn {y:Z01} (h:wf_178 y):Z2o y:=⟨rlB (by kernel_rfl) h.2.2.2.2.1.2,rlB (by kernel_rfl) h.2.2.2.2.2.1.2,ws_T_api_Ref h.2.2.2.2.2.2.1,rlS h.2.2.2.2.2.2.2.1⟩
theorem ws_T_api_Frame {y:Z5c} (h:wf_145 y):Zag y:=⟨fun v hv=>rlS (h.1.1 v hv).2.2.1.2.2.1,rlB (by kernel_rfl) h.1.2,fun v hv=>rlS (h.2.1.1 v hv).2.2.1.2.2.1,rlB (by kernel_rfl) h.2.1.2⟩
theorem ws_T_api_Code {y:Z0a} (h:wf_127 y):Z51 y:=⟨fun v hv=>ws_T_api_Insn (h.2.2.1.1 v hv),rlB (by kernel_rfl) h.2.2.1.2,fun v hv=>rlS (h.2.2.2.1.1 v hv).2.2.2.2.1,rlB (by kernel_rfl) h.2.2.2.1.2,fun v hv=>ws_T_api_Frame (h.2.2.2.2.1.1 v hv).2.1,rlB (by kernel_rfl) h.2.2.2.2.1.2,rlB (by kernel_rfl) h.2.2.2.2.2.1.2⟩
theorem ws_T_api_Method {y:Z2n} (h:wf_129 y):Zai y:=⟨rlS h.2.1,rlS h.2.2.1,ws_T_api_Code h.2.2.2.2.1,fun v hv=>rlS (h.2.2.2.2.2.1.1 v hv),rlB (by kernel_rfl) h.2.2.2.2.2.1.2⟩
theorem ws_T_api_Field {y:Z1b} (h:wf_57 y):Zns y:=⟨rlS h.2.1,rlS h.2.2.1,rlS h.2.2.2.2.2.1⟩
theorem ws_T_api_ClassModel {y:Z0m} (h:wf_49 y):Z5d y:=⟨rlS h.2.1,rlS h.2.2.1,fun v hv=>rlS (h.2.2.2.1.1 v hv),rlB (by kernel_rfl) h.2.2.2.1.2,fun v hv=>ws_T_api_Field (h.2.2.2.2.1.1 v hv),rlB (by kernel_rfl) h.2.2.2.2.1.2,fun v hv=>ws_T_api_Method (h.2.2.2.2.2.1.1 v hv),rlB (by kernel_rfl) h.2.2.2.2.2.1.2,rlS h.2.2.2.2.2.2.1⟩
theorem ws_T_api_Loader {y:Z1m} (h:wf_82 y):Z7d y:=⟨fun v hv=>rlS (h.1.1 v hv).1,rlN (Nat.le_of_ble_eq_true (by kernel_rfl)) h.1.2,fun v hv=>rlS (h.2.1.1 v hv).1,rlN (Nat.le_of_ble_eq_true (by kernel_rfl)) h.2.1.2⟩
theorem ws_T_api_ClassSpace {y:Z0c} (h:wf_27 y):Z5f y:=⟨fun v hv=>ws_T_api_Loader (h.1.1 v hv),rlN (Nat.le_of_ble_eq_true (by kernel_rfl)) h.1.2,fun v hv=>⟨ws_T_api_ClassModel (h.2.1.1 v hv).2.1,rlN (Nat.le_of_ble_eq_true (by kernel_rfl)) (h.2.1.1 v hv).2.2.2.1.2⟩,rlN (Nat.le_of_ble_eq_true (by kernel_rfl)) h.2.1.2,fun v hv=>rlS (h.2.2.1.1 v hv).2.1,rlN (Nat.le_of_ble_eq_true (by kernel_rfl)) h.2.2.1.2,fun v hv=>rlS (h.2.2.2.1.1 v hv).1,rlN (Nat.le_of_ble_eq_true (by kernel_rfl)) h.2.2.2.1.2⟩
set_option maxRecDepth 100000 in
theorem lifted (os:Os) (started:os.Started) (H:Type) (enc:TypeId×Value→H):
  ReturnsInHanded {} Tryz.checked os 7 .any (Rows.layoutUniqueSpec.pre6 enc Tryz.prog Tryz.f7 Rows.layoutUniqueRow.domain false) (Rows.layoutUniqueSpec.post enc Tryz.prog Tryz.f7 false true false false):=by
 refine returnsInHanded_of_change_sized (C:=Tryz.checked) own started (by kernel_rfl) Tryz.func7
  (ChangeSpec.witness6 (enc:=enc) (C:=Tryz.checked) false ⟨#[],#[.agg #[.slice none 0 0,.slice none 0 0,.slice none 0 0,.slice none 0 0],.int .i64 0,.int .i64 0,.agg #[.int .i64 0,.int .i64 0]],[]⟩ 8 (by kernel_rfl) (by kernel_rfl) (by kernel_rfl) (by kernel_rfl)) ?_
 intro W base args ds gs before hval0 hW hcnd hsz _
 have hval:∀ (j:Nat) t v,Tryz.f7.params[j]?=some t→args[j]?=some v→Value.okWide Tryz.prog W .any base t v:=hval0
 have hW':=hW
 obtain ⟨p,q,hA0,hV,rfl,hfz,hnd⟩:=hW
 have hA:DataW.TrodAll enc Tryz.prog W 0 (fun _=>true) true Tryz.f7.params.toList args.toList ds p:=hA0
 rw [Tryz.params7] at hA hval
 obtain ⟨v0,vs0,d0,ds0,p0,q0,hargs,rfl,rfl,h0,r0⟩:=trodAll_cons hA
 obtain ⟨v1,vs1,d1,ds1,p1,q1,rfl,rfl,rfl,h1,r1⟩:=trodAll_cons r0
 obtain ⟨v2,vs2,d2,ds2,p2,q2,rfl,rfl,rfl,h2,r2⟩:=trodAll_cons r1
 obtain ⟨v3,vs3,d3,ds3,p3,q3,rfl,rfl,rfl,h3,r3⟩:=trodAll_cons r2
 obtain ⟨rfl,rfl,rfl⟩:=trodAll_nil r3
 obtain rfl:args= #[v0,v1,v2,v3] :=by cases args; simp_all
 obtain ⟨rfl,rfl⟩:=trodVars_none hV
 have hsz2:(DataW.weightsEach Tryz.prog (Tryz.f7.params.toList++[]) ([d0,d1,d2,d3]++[])).all (· ≤reachBytes)=true:=hsz
 rw [Tryz.params7] at hsz2
 simp only [List.append_nil,DataW.weightsEach,List.all_append,Bool.and_eq_true] at hsz2
 obtain ⟨z0,z1,z2,z3⟩:=hsz2
 obtain ⟨y0,c0,g0⟩:=Zva (M:=Z7e.reach Tryz.prog) Tryz.underlying27 rd_27 (hval 0 27 v0 rfl rfl) h0 z0
 obtain ⟨_,rfl⟩:=okWide_int Tryz.underlying3 (hval 1 3 v1 rfl rfl)
 obtain ⟨y1,c1,g1⟩:=Zx3 (M:=Z7e.reach Tryz.prog) (f:=(fun n:Int=>D.int .i64 n)) (Z2a (P:=Tryz.prog) Tryz.underlying3) rfl h1 z1
 obtain ⟨_,rfl⟩:=okWide_int Tryz.underlying3 (hval 2 3 v2 rfl rfl)
 obtain ⟨y2,c2,g2⟩:=Zx3 (M:=Z7e.reach Tryz.prog) (f:=(fun n:Int=>D.int .i64 n)) (Z2a (P:=Tryz.prog) Tryz.underlying3) rfl h2 z2
 obtain ⟨y3,c3,g3⟩:=Zva (M:=Z7e.reach Tryz.prog) Tryz.underlying41 rd_41 (hval 3 41 v3 rfl rfl) h3 z3
 exact Y2q (P:=Tryz.prog) (fn:=Tryz.f7) (tb:=4) rfl (by kernel_rfl) Tryz.underlying4 laid (by kernel_rfl) hW' rfl (.cons c0 (.cons c1 (.cons c2 (.cons c3 .nil)))) (w7 (Zz1 y0 y1 y2 y3 (ws_T_api_ClassSpace g0)))
theorem am {a b:Bool} (h:a=true) (g:b=true):(a&&b)=true:=by rw [h,g]; rfl
theorem k0:Rows.layoutUniqueRow.wf (OpenSpec.ofChange Rows.layoutUniqueSpec)=true:=by kernel_rfl
theorem k1:laidOutB Tryz.prog=true:=by kernel_rfl
theorem k2:mapsRowed Tryz.prog=true:=by kernel_rfl
theorem k3:Tryz.f7.params.all (Tryz.prog.readableRec ·)=true:=by kernel_rfl
theorem k4:namedTie Tryz.prog Rows.layoutUniqueRow.named Rows.layoutUniqueSpec.vars=true:=by kernel_rfl
theorem k5:(Rows.layoutUniqueRow.stops==[])=true:=by kernel_rfl
theorem k6:(Tryz.prog.stops==[])=true:=by kernel_rfl
theorem k7:(Rows.layoutUniqueRow.knobs==[])=true:=by kernel_rfl
theorem k8:(Tryz.prog.stopKnobs==[])=true:=by kernel_rfl
theorem k9:(Rows.layoutUniqueRow.inPlace==Tryz.prog.inPlace 7)=true:=by kernel_rfl
theorem k10:(Rows.layoutUniqueRow.unfollowed==Tryz.prog.unfollowed 7)=true:=by kernel_rfl
theorem k11:(Rows.layoutUniqueRow.recurses==Tryz.prog.recurses 7)=true:=by kernel_rfl
theorem k12:(Rows.layoutUniqueRow.named==Tryz.prog.varsNamed 7)=true:=by kernel_rfl
theorem k13:(Rows.layoutUniqueRow.maps==(Tryz.f7.params.toList++Rows.layoutUniqueSpec.plain.varTypes Tryz.prog).any (Tryz.prog.mapsRec ·))=true:=by kernel_rfl
theorem k14:(Rows.layoutUniqueRow.ifaces==(Tryz.f7.params.toList++Rows.layoutUniqueSpec.plain.varTypes Tryz.prog).any (Tryz.prog.ifacesRec ·))=true:=by kernel_rfl
theorem k15:(Rows.layoutUniqueRow.mapsOut==Tryz.prog.mapsAmong Tryz.f7.resultTypes.toList)=true:=by kernel_rfl
theorem k16:(Rows.layoutUniqueRow.loops==(Tryz.f7.params.toList++Rows.layoutUniqueSpec.plain.varTypes Tryz.prog).any (Tryz.prog.loopsFrom ·))=true:=by kernel_rfl
theorem k17:(Rows.layoutUniqueRow.wideKeys==(Tryz.f7.params.toList++Rows.layoutUniqueSpec.plain.varTypes Tryz.prog++Tryz.f7.resultTypes.toList).any (Tryz.prog.wideKeysFrom ·))=true:=by kernel_rfl
theorem k18:Rows.layoutUniqueSpec.vars.all (Tryz.prog.varReadable ·)=true:=by kernel_rfl
theorem k19:Tryz.f7.resultTypes.all (fun t=>Tryz.prog.readableRec t&&decide (t<Tryz.prog.types.size))=true:=by kernel_rfl
theorem k20:(Rows.layoutUniqueRow.ifacesOut==Tryz.f7.resultTypes.toList.any (Tryz.prog.ifacesRec ·))=true:=by kernel_rfl
theorem k21:(Rows.layoutUniqueRow.loopsOut==Tryz.f7.resultTypes.toList.any (Tryz.prog.loopsFrom ·))=true:=by kernel_rfl
theorem k22:(Rows.layoutUniqueRow.plainKeys==Tryz.prog.plainKeys)=true:=by kernel_rfl
theorem k23:Rows.layoutUniqueRow.shortTexts.isNone=true:=by kernel_rfl
theorem k24:Tryz.prog.stopsHeard=true:=by kernel_rfl
theorem k25:Tryz.prog.mayEnter=true:=by kernel_rfl
theorem k26:(Rows.layoutUniqueRow.lifted==Tryz.prog.liftsFinal)=true:=by kernel_rfl
theorem k27:(Tryz.prog.make==some Rows.layoutUniqueRow.make)=true:=by kernel_rfl
theorem k28:(Rows.layoutUniqueRow.kinds==(if Rows.layoutUniqueRow.domain.isEmpty then [] else Tryz.f7.params.toList.map fun t=>match Tryz.prog.underlying t with|some (.int k)=>some k|_=>none))=true:=by kernel_rfl
theorem k29:(Rows.layoutUniqueRow.pinned==Rows.layoutUniqueRow.pinnedBy)=true:=by kernel_rfl
theorem k30:(Rows.layoutUniqueRow.veiled==(Tryz.f7.params.toList++Rows.layoutUniqueSpec.plain.varTypes Tryz.prog++Tryz.f7.resultTypes.toList).any (Tryz.prog.veiledRec ·))=true:=by kernel_rfl
theorem k31:Rows.layoutUniqueRow.veiledFits Tryz.prog Tryz.f7.params.toList (Tryz.f7.params.toList++Rows.layoutUniqueSpec.plain.varTypes Tryz.prog++Tryz.f7.resultTypes.toList)=true:=by kernel_rfl
set_option maxRecDepth 100000 in
theorem closed:joinedFacts Tryz.prog 7 Tryz.f7 Rows.layoutUniqueSpec Rows.layoutUniqueRow=true:=(am (am (am (am (am (am (am (am (am (am (am (am (am (am (am (am (am (am (am (am (am (am (am (am (am (am (am (am (am (am (am k0 k1) k2) k3) k4) k5) k6) k7) k8) k9) k10) k11) k12) k13) k14) k15) k16) k17) k18) k19) k20) k21) k22) k23) k24) k25) k26) k27) k28) k29) k30) k31)
theorem inst:Tryz.f7.isInstance Tryz.prog Rows.layoutUniqueRow.origin Rows.layoutUniqueRow.targs:=of_decide_eq_true (by kernel_rfl)
theorem named:Tryz.prog.funcNamed Rows.layoutUniqueRow.func=some 7:=by kernel_rfl
theorem wrapped:Tryz.f7.isWrapper Tryz.prog Rows.layoutUniqueRow.wrapper Rows.layoutUniqueRow.mainSum:=by unfold Func.isWrapper; first|(rw [if_pos (by decide+kernel)]; kernel_rfl)|(rw [if_neg (by decide+kernel)]; exact ⟨rfl,rfl⟩)
theorem over:Rows.layoutUniqueRow.holds Tryz.pinned (OpenSpec.ofChange Rows.layoutUniqueSpec):=
 OpenClaim.holds_of_wide 7 Tryz.f7 rfl rfl rfl rfl rfl rfl rfl ⟨rfl,rfl,rfl,rfl,rfl⟩ rfl rfl rfl rfl rfl named Tryz.func7 closed inst wrapped
  (fun os started H enc _=>lifted os started H enc)
theorem proved:Rows.LayoutUniqueSaid:=
 over
#print axioms proved
end Go.Proofs.YtbhghodobphdeaaGreat.layoutUnique
