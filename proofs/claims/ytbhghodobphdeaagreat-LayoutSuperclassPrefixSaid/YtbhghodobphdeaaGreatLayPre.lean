/-
  The law LayoutSuperclassPrefix holds for every input: the function returns true, and Z5o argument reads behind the call as it read before. No condition.
-/
import Derived.Test.YtbhghodobphdeaaGreatLayL4
import Derived.WalkKit
import Derived.ProofKit
import Derived.OpenShut
import Derived.ChangeMaps5
namespace Go.Proofs.YtbhghodobphdeaaGreat.layoutSuperclassPrefix
open Go.ChangeShapes Go.WideShapes Go.ChangeAt Go.RowKit Go.ChangeMaps Go.Den
set_option linter.unusedVariables false
theorem own:ownKnob Tryz.prog.godebug=none:=by kernel_rfl
theorem laid:laidOutB Tryz.prog=true:=by kernel_rfl
def wf_84 (y:Z8a):Prop:=(fun s:List UInt8=>s.length≤reachBytes) y.Zi7∧((fun n:Int=>IntKind.min .i64≤n∧n≤IntKind.max .i64) y.f_To∧(True))
theorem rd_84:Z2g Tryz.prog 84 Zdh wf_84:=
 (Z44 (tot:=2) Tryz.underlying84 (by kernel_rfl) (Z10 (n:=1) (Z3p (P:=Tryz.prog) Tryz.underlying9) (by kernel_rfl) (Z10 (n:=1) (Z2f (P:=Tryz.prog) Tryz.underlying3) (by kernel_rfl) Z40 rfl) rfl)).map (fun p:(List UInt8)×(Int×Unit)=>({ Zi7:=p.1,f_To:=p.2.1 }:Z8a)) (fun _=>rfl) (fun _ h=>h)
def wf_79 (ys:List Z8a):Prop:=(∀ y∈ys,wf_84 y)∧ys.length*Tryz.prog.bytesOf 84≤reachBytes
theorem rd_79:Z2g Tryz.prog 79 (fun ys:List Z8a=>[D.sl false (ys.map Zdh)]) wf_79:=Z4u Tryz.underlying79 (row:=Zdh) rd_84 (Nat.lt_of_lt_of_le (by decide:0<1) (Nat.le_of_ble_eq_true (by kernel_rfl)))
def wf_102 (y:Z8b):Prop:=(fun s:List UInt8=>s.length≤reachBytes) y.Z0f∧((fun s:List UInt8=>s.length≤reachBytes) y.Z2e∧(True))
theorem rd_102:Z2g Tryz.prog 102 Zee wf_102:=
 (Z44 (tot:=2) Tryz.underlying102 (by kernel_rfl) (Z10 (n:=1) (Z3p (P:=Tryz.prog) Tryz.underlying9) (by kernel_rfl) (Z10 (n:=1) (Z3p (P:=Tryz.prog) Tryz.underlying9) (by kernel_rfl) Z40 rfl) rfl)).map (fun p:(List UInt8)×(List UInt8)×Unit=>({ Z0f:=p.1,Z2e:=p.2.1 }:Z8b)) (fun _=>rfl) (fun _ h=>h)
def wf_80 (ys:List Z8b):Prop:=(∀ y∈ys,wf_102 y)∧ys.length*Tryz.prog.bytesOf 102≤reachBytes
theorem rd_80:Z2g Tryz.prog 80 (fun ys:List Z8b=>[D.sl false (ys.map Zee)]) wf_80:=Z4u Tryz.underlying80 (row:=Zee) rd_102 (Nat.lt_of_lt_of_le (by decide:0<1) (Nat.le_of_ble_eq_true (by kernel_rfl)))
def wf_82 (y:Z1l):Prop:=wf_79 y.Z5j∧(wf_80 y.Z3q∧(True))
theorem rd_82:Z2g Tryz.prog 82 Z2q wf_82:=
 (Z44 (tot:=2) Tryz.underlying82 (by kernel_rfl) (Z10 (n:=1) rd_79 (by kernel_rfl) (Z10 (n:=1) rd_80 (by kernel_rfl) Z40 rfl) rfl)).map (fun p:(List Z8a)×(List Z8b)×Unit=>({ Z5j:=p.1,Z3q:=p.2.1 }:Z1l)) (fun _=>rfl) (fun _ h=>h)
def wf_22 (ys:List Z1l):Prop:=(∀ y∈ys,wf_82 y)∧ys.length*Tryz.prog.bytesOf 82≤reachBytes
theorem rd_22:Z2g Tryz.prog 22 (fun ys:List Z1l=>[D.sl false (ys.map Z2q)]) wf_22:=Z4u Tryz.underlying22 (row:=Z2q) rd_82 (Nat.lt_of_lt_of_le (by decide:0<1) (Nat.le_of_ble_eq_true (by kernel_rfl)))
def wf_45 (ys:List (List UInt8)):Prop:=(∀ y∈ys,(fun s:List UInt8=>s.length≤reachBytes) y)∧ys.length*Tryz.prog.bytesOf 9≤reachBytes
theorem rd_45:Z2g Tryz.prog 45 (fun ys:List (List UInt8)=>[D.sl false (ys.map Z3w)]) wf_45:=Z4u Tryz.underlying45 (row:=Z3w) (Z3p (P:=Tryz.prog) Tryz.underlying9) (Nat.lt_of_lt_of_le (by decide:0<1) (Nat.le_of_ble_eq_true (by kernel_rfl)))
def wf_57 (y:Z1b):Prop:=(fun n:Int=>IntKind.min .i64≤n∧n≤IntKind.max .i64) y.Z0r∧((fun s:List UInt8=>s.length≤reachBytes) y.Z0f∧((fun s:List UInt8=>s.length≤reachBytes) y.Z1p∧((fun n:Int=>IntKind.min .i64≤n∧n≤IntKind.max .i64) y.Z3c∧((fun n:Int=>IntKind.min .i64≤n∧n≤IntKind.max .i64) y.f_N∧((fun s:List UInt8=>s.length≤reachBytes) y.f_S∧(True))))))
theorem rd_57:Z2g Tryz.prog 57 Z64 wf_57:=
 (Z44 (tot:=6) Tryz.underlying57 (by kernel_rfl) (Z10 (n:=1) (Z2f (P:=Tryz.prog) Tryz.underlying3) (by kernel_rfl) (Z10 (n:=1) (Z3p (P:=Tryz.prog) Tryz.underlying9) (by kernel_rfl) (Z10 (n:=1) (Z3p (P:=Tryz.prog) Tryz.underlying9) (by kernel_rfl) (Z10 (n:=1) (Z2f (P:=Tryz.prog) Tryz.underlying3) (by kernel_rfl) (Z10 (n:=1) (Z2f (P:=Tryz.prog) Tryz.underlying3) (by kernel_rfl) (Z10 (n:=1) (Z3p (P:=Tryz.prog) Tryz.underlying9) (by kernel_rfl) Z40 rfl) rfl) rfl) rfl) rfl) rfl)).map (fun p:Int×(List UInt8)×(List UInt8)×(Int×(Int×(List UInt8)×Unit))=>({ Z0r:=p.1,Z0f:=p.2.1,Z1p:=p.2.2.1,Z3c:=p.2.2.2.1,f_N:=p.2.2.2.2.1,f_S:=p.2.2.2.2.2.1 }:Z1b)) (fun _=>rfl) (fun _ h=>h)
def wf_46 (ys:List Z1b):Prop:=(∀ y∈ys,wf_57 y)∧ys.length*Tryz.prog.bytesOf 57≤reachBytes
theorem rd_46:Z2g Tryz.prog 46 (fun ys:List Z1b=>[D.sl false (ys.map Z64)]) wf_46:=Z4u Tryz.underlying46 (row:=Z64) rd_57 (Nat.lt_of_lt_of_le (by decide:0<1) (Nat.le_of_ble_eq_true (by kernel_rfl)))
def wf_50 (ys:List Int):Prop:=(∀ y∈ys,(fun n:Int=>IntKind.min .i64≤n∧n≤IntKind.max .i64) y)∧ys.length*Tryz.prog.bytesOf 3≤reachBytes
theorem rd_50:Z2g Tryz.prog 50 (fun ys:List Int=>[D.sl false (ys.map Z03)]) wf_50:=Z4u Tryz.underlying50 (row:=Z03) (Z2f (P:=Tryz.prog) Tryz.underlying3) (Nat.lt_of_lt_of_le (by decide:0<1) (Nat.le_of_ble_eq_true (by kernel_rfl)))
def wf_176 (y:Z22):Prop:=(fun s:List UInt8=>s.length≤reachBytes) y.Z0p∧((fun s:List UInt8=>s.length≤reachBytes) y.Z0f∧((fun s:List UInt8=>s.length≤reachBytes) y.Z1p∧(True)))
theorem rd_176:Z2g Tryz.prog 176 Zks wf_176:=
 (Z44 (tot:=3) Tryz.underlying176 (by kernel_rfl) (Z10 (n:=1) (Z3p (P:=Tryz.prog) Tryz.underlying9) (by kernel_rfl) (Z10 (n:=1) (Z3p (P:=Tryz.prog) Tryz.underlying9) (by kernel_rfl) (Z10 (n:=1) (Z3p (P:=Tryz.prog) Tryz.underlying9) (by kernel_rfl) Z40 rfl) rfl) rfl)).map (fun p:(List UInt8)×(List UInt8)×(List UInt8)×Unit=>({ Z0p:=p.1,Z0f:=p.2.1,Z1p:=p.2.2.1 }:Z22)) (fun _=>rfl) (fun _ h=>h)
def wf_178 (y:Z01):Prop:=(fun n:Int=>IntKind.min .i64≤n∧n≤IntKind.max .i64) y.f_Op∧((fun n:Int=>IntKind.min .i64≤n∧n≤IntKind.max .i64) y.f_A∧((fun n:Int=>IntKind.min .i64≤n∧n≤IntKind.max .i64) y.f_B∧((fun n:Int=>IntKind.min .i64≤n∧n≤IntKind.max .i64) y.f_To∧(wf_50 y.Z0t∧(wf_50 y.Z0b∧(wf_176 y.Z1c∧((fun s:List UInt8=>s.length≤reachBytes) y.f_S∧(True))))))))
theorem rd_178:Z2g Tryz.prog 178 Z0e wf_178:=
 (Z44 (tot:=10) Tryz.underlying178 (by kernel_rfl) (Z10 (n:=1) (Z2f (P:=Tryz.prog) Tryz.underlying3) (by kernel_rfl) (Z10 (n:=1) (Z2f (P:=Tryz.prog) Tryz.underlying3) (by kernel_rfl) (Z10 (n:=1) (Z2f (P:=Tryz.prog) Tryz.underlying3) (by kernel_rfl) (Z10 (n:=1) (Z2f (P:=Tryz.prog) Tryz.underlying3) (by kernel_rfl) (Z10 (n:=1) rd_50 (by kernel_rfl) (Z10 (n:=1) rd_50 (by kernel_rfl) (Z10 (n:=3) rd_176 (by kernel_rfl) (Z10 (n:=1) (Z3p (P:=Tryz.prog) Tryz.underlying9) (by kernel_rfl) Z40 rfl) rfl) rfl) rfl) rfl) rfl) rfl) rfl)).map (fun p:Int×(Int×(Int×(Int×(List Int)×(List Int)×(Z22×(List UInt8)×Unit))))=>({ f_Op:=p.1,f_A:=p.2.1,f_B:=p.2.2.1,f_To:=p.2.2.2.1,Z0t:=p.2.2.2.2.1,Z0b:=p.2.2.2.2.2.1,Z1c:=p.2.2.2.2.2.2.1,f_S:=p.2.2.2.2.2.2.2.1 }:Z01)) (fun _=>rfl) (fun _ h=>h)
def wf_122 (ys:List Z01):Prop:=(∀ y∈ys,wf_178 y)∧ys.length*Tryz.prog.bytesOf 178≤reachBytes
theorem rd_122:Z2g Tryz.prog 122 (fun ys:List Z01=>[D.sl false (ys.map Z0e)]) wf_122:=Z4u Tryz.underlying122 (row:=Z0e) rd_178 (Nat.lt_of_lt_of_le (by decide:0<1) (Nat.le_of_ble_eq_true (by kernel_rfl)))
def wf_141 (y:Z0m):Prop:=(fun n:Int=>IntKind.min .i64≤n∧n≤IntKind.max .i64) y.Z5s∧((fun n:Int=>IntKind.min .i64≤n∧n≤IntKind.max .i64) y.f_To∧((fun n:Int=>IntKind.min .i64≤n∧n≤IntKind.max .i64) y.Z5w∧((fun n:Int=>IntKind.min .i64≤n∧n≤IntKind.max .i64) y.Z0p∧((fun s:List UInt8=>s.length≤reachBytes) y.Z1m∧(True)))))
theorem rd_141:Z2g Tryz.prog 141 Z0s wf_141:=
 (Z44 (tot:=5) Tryz.underlying141 (by kernel_rfl) (Z10 (n:=1) (Z2f (P:=Tryz.prog) Tryz.underlying3) (by kernel_rfl) (Z10 (n:=1) (Z2f (P:=Tryz.prog) Tryz.underlying3) (by kernel_rfl) (Z10 (n:=1) (Z2f (P:=Tryz.prog) Tryz.underlying3) (by kernel_rfl) (Z10 (n:=1) (Z2f (P:=Tryz.prog) Tryz.underlying3) (by kernel_rfl) (Z10 (n:=1) (Z3p (P:=Tryz.prog) Tryz.underlying9) (by kernel_rfl) Z40 rfl) rfl) rfl) rfl) rfl)).map (fun p:Int×(Int×(Int×(Int×(List UInt8)×Unit)))=>({ Z5s:=p.1,f_To:=p.2.1,Z5w:=p.2.2.1,Z0p:=p.2.2.2.1,Z1m:=p.2.2.2.2.1 }:Z0m)) (fun _=>rfl) (fun _ h=>h)
def wf_123 (ys:List Z0m):Prop:=(∀ y∈ys,wf_141 y)∧ys.length*Tryz.prog.bytesOf 141≤reachBytes
theorem rd_123:Z2g Tryz.prog 123 (fun ys:List Z0m=>[D.sl false (ys.map Z0s)]) wf_123:=Z4u Tryz.underlying123 (row:=Z0s) rd_141 (Nat.lt_of_lt_of_le (by decide:0<1) (Nat.le_of_ble_eq_true (by kernel_rfl)))
def wf_74 (y:Z0q):Prop:=(fun n:Int=>IntKind.min .i64≤n∧n≤IntKind.max .i64) y.Z2u∧((fun n:Int=>IntKind.min .u8≤n∧n≤IntKind.max .u8) y.Z1z∧((fun s:List UInt8=>s.length≤reachBytes) y.Z0f∧(True)))
theorem rd_74:Z2g Tryz.prog 74 Z26 wf_74:=
 (Z44 (tot:=3) Tryz.underlying74 (by kernel_rfl) (Z10 (n:=1) (Z2f (P:=Tryz.prog) Tryz.underlying3) (by kernel_rfl) (Z10 (n:=1) (Z2f (P:=Tryz.prog) Tryz.underlying5) (by kernel_rfl) (Z10 (n:=1) (Z3p (P:=Tryz.prog) Tryz.underlying9) (by kernel_rfl) Z40 rfl) rfl) rfl)).map (fun p:Int×(Int×(List UInt8)×Unit)=>({ Z2u:=p.1,Z1z:=p.2.1,Z0f:=p.2.2.1 }:Z0q)) (fun _=>rfl) (fun _ h=>h)
def wf_166 (y:Z0h):Prop:=(fun n:Int=>IntKind.min .i64≤n∧n≤IntKind.max .i64) y.Z2d∧((fun n:Int=>IntKind.min .i64≤n∧n≤IntKind.max .i64) y.Z3f∧(wf_74 y.Z1m∧((fun n:Int=>IntKind.min .i64≤n∧n≤IntKind.max .i64) y.Z3x∧(True))))
theorem rd_166:Z2g Tryz.prog 166 Z1i wf_166:=
 (Z44 (tot:=6) Tryz.underlying166 (by kernel_rfl) (Z10 (n:=1) (Z2f (P:=Tryz.prog) Tryz.underlying3) (by kernel_rfl) (Z10 (n:=1) (Z2f (P:=Tryz.prog) Tryz.underlying3) (by kernel_rfl) (Z10 (n:=3) rd_74 (by kernel_rfl) (Z10 (n:=1) (Z2f (P:=Tryz.prog) Tryz.underlying3) (by kernel_rfl) Z40 rfl) rfl) rfl) rfl)).map (fun p:Int×(Int×(Z0q×(Int×Unit)))=>({ Z2d:=p.1,Z3f:=p.2.1,Z1m:=p.2.2.1,Z3x:=p.2.2.2.1 }:Z0h)) (fun _=>rfl) (fun _ h=>h)
def wf_143 (ys:List Z0h):Prop:=(∀ y∈ys,wf_166 y)∧ys.length*Tryz.prog.bytesOf 166≤reachBytes
theorem rd_143:Z2g Tryz.prog 143 (fun ys:List Z0h=>[D.sl false (ys.map Z1i)]) wf_143:=Z4u Tryz.underlying143 (row:=Z1i) rd_166 (Nat.lt_of_lt_of_le (by decide:0<1) (Nat.le_of_ble_eq_true (by kernel_rfl)))
def wf_145 (y:Z5b):Prop:=wf_143 y.Z0u∧(wf_143 y.Z0x∧((fun _:Bool=>True) y.Z6c∧(True)))
theorem rd_145:Z2g Tryz.prog 145 Zvu wf_145:=
 (Z44 (tot:=3) Tryz.underlying145 (by kernel_rfl) (Z10 (n:=1) rd_143 (by kernel_rfl) (Z10 (n:=1) rd_143 (by kernel_rfl) (Z10 (n:=1) (Zvw (P:=Tryz.prog) Tryz.underlying4) (by kernel_rfl) Z40 rfl) rfl) rfl)).map (fun p:(List Z0h)×(List Z0h)×(Bool×Unit)=>({ Z0u:=p.1,Z0x:=p.2.1,Z6c:=p.2.2.1 }:Z5b)) (fun _=>rfl) (fun _ h=>h)
def wf_147 (y:Z0o):Prop:=(fun n:Int=>IntKind.min .i64≤n∧n≤IntKind.max .i64) y.Z0w∧(wf_145 y.Z1h∧(True))
theorem rd_147:Z2g Tryz.prog 147 Z0z wf_147:=
 (Z44 (tot:=4) Tryz.underlying147 (by kernel_rfl) (Z10 (n:=1) (Z2f (P:=Tryz.prog) Tryz.underlying3) (by kernel_rfl) (Z10 (n:=3) rd_145 (by kernel_rfl) Z40 rfl) rfl)).map (fun p:Int×(Z5b×Unit)=>({ Z0w:=p.1,Z1h:=p.2.1 }:Z0o)) (fun _=>rfl) (fun _ h=>h)
def wf_124 (ys:List Z0o):Prop:=(∀ y∈ys,wf_147 y)∧ys.length*Tryz.prog.bytesOf 147≤reachBytes
theorem rd_124:Z2g Tryz.prog 124 (fun ys:List Z0o=>[D.sl false (ys.map Z0z)]) wf_124:=Z4u Tryz.underlying124 (row:=Z0z) rd_147 (Nat.lt_of_lt_of_le (by decide:0<1) (Nat.le_of_ble_eq_true (by kernel_rfl)))
def wf_159 (y:Z15):Prop:=(fun n:Int=>IntKind.min .i64≤n∧n≤IntKind.max .i64) y.Z0w∧((fun n:Int=>IntKind.min .i64≤n∧n≤IntKind.max .i64) y.Z70∧(True))
theorem rd_159:Z2g Tryz.prog 159 Z1a wf_159:=
 (Z44 (tot:=2) Tryz.underlying159 (by kernel_rfl) (Z10 (n:=1) (Z2f (P:=Tryz.prog) Tryz.underlying3) (by kernel_rfl) (Z10 (n:=1) (Z2f (P:=Tryz.prog) Tryz.underlying3) (by kernel_rfl) Z40 rfl) rfl)).map (fun p:Int×(Int×Unit)=>({ Z0w:=p.1,Z70:=p.2.1 }:Z15)) (fun _=>rfl) (fun _ h=>h)
def wf_125 (ys:List Z15):Prop:=(∀ y∈ys,wf_159 y)∧ys.length*Tryz.prog.bytesOf 159≤reachBytes
theorem rd_125:Z2g Tryz.prog 125 (fun ys:List Z15=>[D.sl false (ys.map Z1a)]) wf_125:=Z4u Tryz.underlying125 (row:=Z1a) rd_159 (Nat.lt_of_lt_of_le (by decide:0<1) (Nat.le_of_ble_eq_true (by kernel_rfl)))
def wf_127 (y:Z0a):Prop:=(fun n:Int=>IntKind.min .i64≤n∧n≤IntKind.max .i64) y.Z0x∧((fun n:Int=>IntKind.min .i64≤n∧n≤IntKind.max .i64) y.Z0u∧(wf_122 y.Z0j∧(wf_123 y.Z1w∧(wf_124 y.Z1f∧(wf_125 y.Z1q∧(True))))))
theorem rd_127:Z2g Tryz.prog 127 Z0v wf_127:=
 (Z44 (tot:=6) Tryz.underlying127 (by kernel_rfl) (Z10 (n:=1) (Z2f (P:=Tryz.prog) Tryz.underlying3) (by kernel_rfl) (Z10 (n:=1) (Z2f (P:=Tryz.prog) Tryz.underlying3) (by kernel_rfl) (Z10 (n:=1) rd_122 (by kernel_rfl) (Z10 (n:=1) rd_123 (by kernel_rfl) (Z10 (n:=1) rd_124 (by kernel_rfl) (Z10 (n:=1) rd_125 (by kernel_rfl) Z40 rfl) rfl) rfl) rfl) rfl) rfl)).map (fun p:Int×(Int×(List Z01)×(List Z0m)×(List Z0o)×(List Z15)×Unit)=>({ Z0x:=p.1,Z0u:=p.2.1,Z0j:=p.2.2.1,Z1w:=p.2.2.2.1,Z1f:=p.2.2.2.2.1,Z1q:=p.2.2.2.2.2.1 }:Z0a)) (fun _=>rfl) (fun _ h=>h)
def wf_129 (y:Z2m):Prop:=(fun n:Int=>IntKind.min .i64≤n∧n≤IntKind.max .i64) y.Z0r∧((fun s:List UInt8=>s.length≤reachBytes) y.Z0f∧((fun s:List UInt8=>s.length≤reachBytes) y.Z1p∧((fun _:Bool=>True) y.Z8m∧(wf_127 y.Z25∧(wf_45 y.Z6k∧(True))))))
theorem rd_129:Z2g Tryz.prog 129 Z74 wf_129:=
 (Z44 (tot:=11) Tryz.underlying129 (by kernel_rfl) (Z10 (n:=1) (Z2f (P:=Tryz.prog) Tryz.underlying3) (by kernel_rfl) (Z10 (n:=1) (Z3p (P:=Tryz.prog) Tryz.underlying9) (by kernel_rfl) (Z10 (n:=1) (Z3p (P:=Tryz.prog) Tryz.underlying9) (by kernel_rfl) (Z10 (n:=1) (Zvw (P:=Tryz.prog) Tryz.underlying4) (by kernel_rfl) (Z10 (n:=6) rd_127 (by kernel_rfl) (Z10 (n:=1) rd_45 (by kernel_rfl) Z40 rfl) rfl) rfl) rfl) rfl) rfl)).map (fun p:Int×(List UInt8)×(List UInt8)×(Bool×(Z0a×(List (List UInt8))×Unit))=>({ Z0r:=p.1,Z0f:=p.2.1,Z1p:=p.2.2.1,Z8m:=p.2.2.2.1,Z25:=p.2.2.2.2.1,Z6k:=p.2.2.2.2.2.1 }:Z2m)) (fun _=>rfl) (fun _ h=>h)
def wf_47 (ys:List Z2m):Prop:=(∀ y∈ys,wf_129 y)∧ys.length*Tryz.prog.bytesOf 129≤reachBytes
theorem rd_47:Z2g Tryz.prog 47 (fun ys:List Z2m=>[D.sl false (ys.map Z74)]) wf_47:=Z4u Tryz.underlying47 (row:=Z74) rd_129 (Nat.lt_of_lt_of_le (by decide:0<1) (Nat.le_of_ble_eq_true (by kernel_rfl)))
def wf_49 (y:Z0l):Prop:=(fun n:Int=>IntKind.min .i64≤n∧n≤IntKind.max .i64) y.Z0r∧((fun s:List UInt8=>s.length≤reachBytes) y.Z0f∧((fun s:List UInt8=>s.length≤reachBytes) y.Z17∧(wf_45 y.Z1d∧(wf_46 y.Z0g∧(wf_47 y.Z11∧((fun s:List UInt8=>s.length≤reachBytes) y.Z8v∧(True)))))))
theorem rd_49:Z2g Tryz.prog 49 Z2i wf_49:=
 (Z44 (tot:=7) Tryz.underlying49 (by kernel_rfl) (Z10 (n:=1) (Z2f (P:=Tryz.prog) Tryz.underlying3) (by kernel_rfl) (Z10 (n:=1) (Z3p (P:=Tryz.prog) Tryz.underlying9) (by kernel_rfl) (Z10 (n:=1) (Z3p (P:=Tryz.prog) Tryz.underlying9) (by kernel_rfl) (Z10 (n:=1) rd_45 (by kernel_rfl) (Z10 (n:=1) rd_46 (by kernel_rfl) (Z10 (n:=1) rd_47 (by kernel_rfl) (Z10 (n:=1) (Z3p (P:=Tryz.prog) Tryz.underlying9) (by kernel_rfl) Z40 rfl) rfl) rfl) rfl) rfl) rfl) rfl)).map (fun p:Int×(List UInt8)×(List UInt8)×(List (List UInt8))×(List Z1b)×(List Z2m)×(List UInt8)×Unit=>({ Z0r:=p.1,Z0f:=p.2.1,Z17:=p.2.2.1,Z1d:=p.2.2.2.1,Z0g:=p.2.2.2.2.1,Z11:=p.2.2.2.2.2.1,Z8v:=p.2.2.2.2.2.2.1 }:Z0l)) (fun _=>rfl) (fun _ h=>h)
def wf_53 (y:Z1s):Prop:=(fun n:Int=>IntKind.min .i64≤n∧n≤IntKind.max .i64) y.Z2v∧(wf_49 y.Z12∧((fun n:Int=>IntKind.min .i64≤n∧n≤IntKind.max .i64) y.Z17∧(wf_50 y.Z1d∧((fun n:Int=>IntKind.min .i64≤n∧n≤IntKind.max .i64) y.Zav∧((fun n:Int=>IntKind.min .i64≤n∧n≤IntKind.max .i64) y.Zib∧(True))))))
theorem rd_53:Z2g Tryz.prog 53 Z4f wf_53:=
 (Z44 (tot:=12) Tryz.underlying53 (by kernel_rfl) (Z10 (n:=1) (Z2f (P:=Tryz.prog) Tryz.underlying3) (by kernel_rfl) (Z10 (n:=7) rd_49 (by kernel_rfl) (Z10 (n:=1) (Z2f (P:=Tryz.prog) Tryz.underlying3) (by kernel_rfl) (Z10 (n:=1) rd_50 (by kernel_rfl) (Z10 (n:=1) (Z2f (P:=Tryz.prog) Tryz.underlying3) (by kernel_rfl) (Z10 (n:=1) (Z2f (P:=Tryz.prog) Tryz.underlying51) (by kernel_rfl) Z40 rfl) rfl) rfl) rfl) rfl) rfl)).map (fun p:Int×(Z0l×(Int×(List Int)×(Int×(Int×Unit))))=>({ Z2v:=p.1,Z12:=p.2.1,Z17:=p.2.2.1,Z1d:=p.2.2.2.1,Zav:=p.2.2.2.2.1,Zib:=p.2.2.2.2.2.1 }:Z1s)) (fun _=>rfl) (fun _ h=>h)
def wf_23 (ys:List Z1s):Prop:=(∀ y∈ys,wf_53 y)∧ys.length*Tryz.prog.bytesOf 53≤reachBytes
theorem rd_23:Z2g Tryz.prog 23 (fun ys:List Z1s=>[D.sl false (ys.map Z4f)]) wf_23:=Z4u Tryz.underlying23 (row:=Z4f) rd_53 (Nat.lt_of_lt_of_le (by decide:0<1) (Nat.le_of_ble_eq_true (by kernel_rfl)))
def wf_88 (y:Z2w):Prop:=(fun n:Int=>IntKind.min .i64≤n∧n≤IntKind.max .i64) y.Z2v∧((fun s:List UInt8=>s.length≤reachBytes) y.Z0f∧((fun n:Int=>IntKind.min .i64≤n∧n≤IntKind.max .i64) y.Z0p∧(True)))
theorem rd_88:Z2g Tryz.prog 88 Z58 wf_88:=
 (Z44 (tot:=3) Tryz.underlying88 (by kernel_rfl) (Z10 (n:=1) (Z2f (P:=Tryz.prog) Tryz.underlying3) (by kernel_rfl) (Z10 (n:=1) (Z3p (P:=Tryz.prog) Tryz.underlying9) (by kernel_rfl) (Z10 (n:=1) (Z2f (P:=Tryz.prog) Tryz.underlying3) (by kernel_rfl) Z40 rfl) rfl) rfl)).map (fun p:Int×(List UInt8)×(Int×Unit)=>({ Z2v:=p.1,Z0f:=p.2.1,Z0p:=p.2.2.1 }:Z2w)) (fun _=>rfl) (fun _ h=>h)
def wf_24 (ys:List Z2w):Prop:=(∀ y∈ys,wf_88 y)∧ys.length*Tryz.prog.bytesOf 88≤reachBytes
theorem rd_24:Z2g Tryz.prog 24 (fun ys:List Z2w=>[D.sl false (ys.map Z58)]) wf_24:=Z4u Tryz.underlying24 (row:=Z58) rd_88 (Nat.lt_of_lt_of_le (by decide:0<1) (Nat.le_of_ble_eq_true (by kernel_rfl)))
def wf_65 (y:Z51):Prop:=(fun s:List UInt8=>s.length≤reachBytes) y.Z0f∧((fun n:Int=>IntKind.min .i64≤n∧n≤IntKind.max .i64) y.f_A∧((fun n:Int=>IntKind.min .i64≤n∧n≤IntKind.max .i64) y.f_B∧(True)))
theorem rd_65:Z2g Tryz.prog 65 Z61 wf_65:=
 (Z44 (tot:=3) Tryz.underlying65 (by kernel_rfl) (Z10 (n:=1) (Z3p (P:=Tryz.prog) Tryz.underlying9) (by kernel_rfl) (Z10 (n:=1) (Z2f (P:=Tryz.prog) Tryz.underlying3) (by kernel_rfl) (Z10 (n:=1) (Z2f (P:=Tryz.prog) Tryz.underlying3) (by kernel_rfl) Z40 rfl) rfl) rfl)).map (fun p:(List UInt8)×(Int×(Int×Unit))=>({ Z0f:=p.1,f_A:=p.2.1,f_B:=p.2.2.1 }:Z51)) (fun _=>rfl) (fun _ h=>h)
def wf_25 (ys:List Z51):Prop:=(∀ y∈ys,wf_65 y)∧ys.length*Tryz.prog.bytesOf 65≤reachBytes
theorem rd_25:Z2g Tryz.prog 25 (fun ys:List Z51=>[D.sl false (ys.map Z61)]) wf_25:=Z4u Tryz.underlying25 (row:=Z61) rd_65 (Nat.lt_of_lt_of_le (by decide:0<1) (Nat.le_of_ble_eq_true (by kernel_rfl)))
def wf_27 (y:Z0c):Prop:=wf_22 y.Z1y∧(wf_23 y.Z0n∧(wf_24 y.Z2n∧(wf_25 y.Z48∧(True))))
theorem rd_27:Z2g Tryz.prog 27 Z1e wf_27:=
 (Z44 (tot:=4) Tryz.underlying27 (by kernel_rfl) (Z10 (n:=1) rd_22 (by kernel_rfl) (Z10 (n:=1) rd_23 (by kernel_rfl) (Z10 (n:=1) rd_24 (by kernel_rfl) (Z10 (n:=1) rd_25 (by kernel_rfl) Z40 rfl) rfl) rfl) rfl)).map (fun p:(List Z1l)×(List Z1s)×(List Z2w)×(List Z51)×Unit=>({ Z1y:=p.1,Z0n:=p.2.1,Z2n:=p.2.2.1,Z48:=p.2.2.2.1 }:Z0c)) (fun _=>rfl) (fun _ h=>h)
theorem rlS {n:Nat} (h:n≤reachBytes):n≤4503599627370496:=Nat.le_trans h (by decide)
theorem rlB {n b k:Nat} (e:b=k) (h:n*b≤reachBytes):n*k≤140737488355328:=by have:=Ztq h; rw [e] at this; omega
theorem rlN {n b:Nat} (e:1≤b) (h:n*b≤reachBytes):n≤140737488355328:=Nat.le_trans (Nat.le_trans (Nat.le_of_eq (Nat.mul_one n).symm) (Nat.mul_le_mul_left n e)) (by have:=Ztq h; omega)
theorem ws_T_api_Ref {y:Z22} (h:wf_176 y):WRef y:=⟨rlS h.1,rlS h.2.1,rlS h.2.2.1⟩
theorem ws_T_api_Insn {y:Z01} (h:wf_178 y):Z2l y:=⟨rlB (by kernel_rfl) h.2.2.2.2.1.2,rlB (by kernel_rfl) h.2.2.2.2.2.1.2,ws_T_api_Ref h.2.2.2.2.2.2.1,rlS h.2.2.2.2.2.2.2.1⟩
theorem ws_T_api_Frame {y:Z5b} (h:wf_145 y):Za3 y:=⟨fun v hv=>rlS (h.1.1 v hv).2.2.1.2.2.1,rlB (by kernel_rfl) h.1.2,fun v hv=>rlS (h.2.1.1 v hv).2.2.1.2.2.1,rlB (by kernel_rfl) h.2.1.2⟩
theorem ws_T_api_Code {y:Z0a} (h:wf_127 y):Z52 y:=⟨fun v hv=>ws_T_api_Insn (h.2.2.1.1 v hv),rlB (by kernel_rfl) h.2.2.1.2,fun v hv=>rlS (h.2.2.2.1.1 v hv).2.2.2.2.1,rlB (by kernel_rfl) h.2.2.2.1.2,fun v hv=>ws_T_api_Frame (h.2.2.2.2.1.1 v hv).2.1,rlB (by kernel_rfl) h.2.2.2.2.1.2,rlB (by kernel_rfl) h.2.2.2.2.2.1.2⟩
theorem ws_T_api_Method {y:Z2m} (h:wf_129 y):Za1 y:=⟨rlS h.2.1,rlS h.2.2.1,ws_T_api_Code h.2.2.2.2.1,fun v hv=>rlS (h.2.2.2.2.2.1.1 v hv),rlB (by kernel_rfl) h.2.2.2.2.2.1.2⟩
theorem ws_T_api_Field {y:Z1b} (h:wf_57 y):Zo3 y:=⟨rlS h.2.1,rlS h.2.2.1,rlS h.2.2.2.2.2.1⟩
theorem ws_T_api_ClassModel {y:Z0l} (h:wf_49 y):Z5a y:=⟨rlS h.2.1,rlS h.2.2.1,fun v hv=>rlS (h.2.2.2.1.1 v hv),rlB (by kernel_rfl) h.2.2.2.1.2,fun v hv=>ws_T_api_Field (h.2.2.2.2.1.1 v hv),rlB (by kernel_rfl) h.2.2.2.2.1.2,fun v hv=>ws_T_api_Method (h.2.2.2.2.2.1.1 v hv),rlB (by kernel_rfl) h.2.2.2.2.2.1.2,rlS h.2.2.2.2.2.2.1⟩
theorem ws_T_api_Loader {y:Z1l} (h:wf_82 y):Z79 y:=⟨fun v hv=>rlS (h.1.1 v hv).1,rlN (Nat.le_of_ble_eq_true (by kernel_rfl)) h.1.2,fun v hv=>rlS (h.2.1.1 v hv).1,rlN (Nat.le_of_ble_eq_true (by kernel_rfl)) h.2.1.2⟩
theorem ws_T_api_ClassSpace {y:Z0c} (h:wf_27 y):Z55 y:=⟨fun v hv=>ws_T_api_Loader (h.1.1 v hv),rlN (Nat.le_of_ble_eq_true (by kernel_rfl)) h.1.2,fun v hv=>⟨ws_T_api_ClassModel (h.2.1.1 v hv).2.1,rlN (Nat.le_of_ble_eq_true (by kernel_rfl)) (h.2.1.1 v hv).2.2.2.1.2⟩,rlN (Nat.le_of_ble_eq_true (by kernel_rfl)) h.2.1.2,fun v hv=>rlS (h.2.2.1.1 v hv).2.1,rlN (Nat.le_of_ble_eq_true (by kernel_rfl)) h.2.2.1.2,fun v hv=>rlS (h.2.2.2.1.1 v hv).1,rlN (Nat.le_of_ble_eq_true (by kernel_rfl)) h.2.2.2.1.2⟩
set_option maxRecDepth 100000 in
theorem lifted (os:Os) (started:os.Started) (H:Type) (enc:TypeId×Value→H):
  ReturnsInHanded {} Tryz.checked os 5 .any (Rows.layoutSuperclassPrefixSpec.pre6 enc Tryz.prog Tryz.f5 Rows.layoutSuperclassPrefixRow.domain false) (Rows.layoutSuperclassPrefixSpec.post enc Tryz.prog Tryz.f5 false true false false):=by
 refine returnsInHanded_of_change_sized (C:=Tryz.checked) own started (by kernel_rfl) Tryz.func5
  (ChangeSpec.witness6 (enc:=enc) (C:=Tryz.checked) false ⟨#[],#[.agg #[.slice none 0 0,.slice none 0 0,.slice none 0 0,.slice none 0 0],.int .i64 0],[]⟩ 8 (by kernel_rfl) (by kernel_rfl) (by kernel_rfl) (by kernel_rfl)) ?_
 intro W base args ds gs before hval0 hW hcnd hsz _
 have hval:∀ (j:Nat) t v,Tryz.f5.params[j]?=some t→args[j]?=some v→Value.okWide Tryz.prog W .any base t v:=hval0
 have hW':=hW
 obtain ⟨p,q,hA0,hV,rfl,hfz,hnd⟩:=hW
 have hA:DataW.TrodAll enc Tryz.prog W 0 (fun _=>true) true Tryz.f5.params.toList args.toList ds p:=hA0
 rw [Tryz.params5] at hA hval
 obtain ⟨v0,vs0,d0,ds0,p0,q0,hargs,rfl,rfl,h0,r0⟩:=trodAll_cons hA
 obtain ⟨v1,vs1,d1,ds1,p1,q1,rfl,rfl,rfl,h1,r1⟩:=trodAll_cons r0
 obtain ⟨rfl,rfl,rfl⟩:=trodAll_nil r1
 obtain rfl:args= #[v0,v1] :=by cases args; simp_all
 obtain ⟨rfl,rfl⟩:=trodVars_none hV
 have hsz2:(DataW.weightsEach Tryz.prog (Tryz.f5.params.toList++[]) ([d0,d1]++[])).all (· ≤reachBytes)=true:=hsz
 rw [Tryz.params5] at hsz2
 simp only [List.append_nil,DataW.weightsEach,List.all_append,Bool.and_eq_true] at hsz2
 obtain ⟨z0,z1⟩:=hsz2
 obtain ⟨y0,c0,g0⟩:=arg_agg (M:=Z99.reach Tryz.prog) Tryz.underlying27 rd_27 (hval 0 27 v0 rfl rfl) h0 z0
 obtain ⟨_,rfl⟩:=okWide_int Tryz.underlying3 (hval 1 3 v1 rfl rfl)
 obtain ⟨y1,c1,g1⟩:=arg_one (M:=Z99.reach Tryz.prog) (f:=(fun n:Int=>D.int .i64 n)) (Z2f (P:=Tryz.prog) Tryz.underlying3) rfl h1 z1
 exact Y3q (P:=Tryz.prog) (fn:=Tryz.f5) (tb:=4) rfl (by kernel_rfl) Tryz.underlying4 laid (by kernel_rfl) hW' rfl (.cons c0 (.cons c1 .nil)) (w5 (Y2p y0 y1 (ws_T_api_ClassSpace g0)))
theorem am {a b:Bool} (h:a=true) (g:b=true):(a&&b)=true:=by rw [h,g]; rfl
theorem k0:Rows.layoutSuperclassPrefixRow.wf (OpenSpec.ofChange Rows.layoutSuperclassPrefixSpec)=true:=by kernel_rfl
theorem k1:laidOutB Tryz.prog=true:=by kernel_rfl
theorem k2:mapsRowed Tryz.prog=true:=by kernel_rfl
theorem k3:Tryz.f5.params.all (Tryz.prog.readableRec ·)=true:=by kernel_rfl
theorem k4:namedTie Tryz.prog Rows.layoutSuperclassPrefixRow.named Rows.layoutSuperclassPrefixSpec.vars=true:=by kernel_rfl
theorem k5:(Rows.layoutSuperclassPrefixRow.stops==[])=true:=by kernel_rfl
theorem k6:(Tryz.prog.stops==[])=true:=by kernel_rfl
theorem k7:(Rows.layoutSuperclassPrefixRow.knobs==[])=true:=by kernel_rfl
theorem k8:(Tryz.prog.stopKnobs==[])=true:=by kernel_rfl
theorem k9:(Rows.layoutSuperclassPrefixRow.inPlace==Tryz.prog.inPlace 5)=true:=by kernel_rfl
theorem k10:(Rows.layoutSuperclassPrefixRow.unfollowed==Tryz.prog.unfollowed 5)=true:=by kernel_rfl
theorem k11:(Rows.layoutSuperclassPrefixRow.recurses==Tryz.prog.recurses 5)=true:=by kernel_rfl
theorem k12:(Rows.layoutSuperclassPrefixRow.named==Tryz.prog.varsNamed 5)=true:=by kernel_rfl
theorem k13:(Rows.layoutSuperclassPrefixRow.maps==(Tryz.f5.params.toList++Rows.layoutSuperclassPrefixSpec.plain.varTypes Tryz.prog).any (Tryz.prog.mapsRec ·))=true:=by kernel_rfl
theorem k14:(Rows.layoutSuperclassPrefixRow.ifaces==(Tryz.f5.params.toList++Rows.layoutSuperclassPrefixSpec.plain.varTypes Tryz.prog).any (Tryz.prog.ifacesRec ·))=true:=by kernel_rfl
theorem k15:(Rows.layoutSuperclassPrefixRow.mapsOut==Tryz.prog.mapsAmong Tryz.f5.resultTypes.toList)=true:=by kernel_rfl
theorem k16:(Rows.layoutSuperclassPrefixRow.loops==(Tryz.f5.params.toList++Rows.layoutSuperclassPrefixSpec.plain.varTypes Tryz.prog).any (Tryz.prog.loopsFrom ·))=true:=by kernel_rfl
theorem k17:(Rows.layoutSuperclassPrefixRow.wideKeys==(Tryz.f5.params.toList++Rows.layoutSuperclassPrefixSpec.plain.varTypes Tryz.prog++Tryz.f5.resultTypes.toList).any (Tryz.prog.wideKeysFrom ·))=true:=by kernel_rfl
theorem k18:Rows.layoutSuperclassPrefixSpec.vars.all (Tryz.prog.varReadable ·)=true:=by kernel_rfl
theorem k19:Tryz.f5.resultTypes.all (fun t=>Tryz.prog.readableRec t&&decide (t<Tryz.prog.types.size))=true:=by kernel_rfl
theorem k20:(Rows.layoutSuperclassPrefixRow.ifacesOut==Tryz.f5.resultTypes.toList.any (Tryz.prog.ifacesRec ·))=true:=by kernel_rfl
theorem k21:(Rows.layoutSuperclassPrefixRow.loopsOut==Tryz.f5.resultTypes.toList.any (Tryz.prog.loopsFrom ·))=true:=by kernel_rfl
theorem k22:(Rows.layoutSuperclassPrefixRow.plainKeys==Tryz.prog.plainKeys)=true:=by kernel_rfl
theorem k23:Rows.layoutSuperclassPrefixRow.shortTexts.isNone=true:=by kernel_rfl
theorem k24:Tryz.prog.stopsHeard=true:=by kernel_rfl
theorem k25:Tryz.prog.mayEnter=true:=by kernel_rfl
theorem k26:(Rows.layoutSuperclassPrefixRow.lifted==Tryz.prog.liftsFinal)=true:=by kernel_rfl
theorem k27:(Tryz.prog.make==some Rows.layoutSuperclassPrefixRow.make)=true:=by kernel_rfl
theorem k28:(Rows.layoutSuperclassPrefixRow.kinds==(if Rows.layoutSuperclassPrefixRow.domain.isEmpty then [] else Tryz.f5.params.toList.map fun t=>match Tryz.prog.underlying t with|some (.int k)=>some k|_=>none))=true:=by kernel_rfl
theorem k29:(Rows.layoutSuperclassPrefixRow.pinned==Rows.layoutSuperclassPrefixRow.pinnedBy)=true:=by kernel_rfl
theorem k30:(Rows.layoutSuperclassPrefixRow.veiled==(Tryz.f5.params.toList++Rows.layoutSuperclassPrefixSpec.plain.varTypes Tryz.prog++Tryz.f5.resultTypes.toList).any (Tryz.prog.veiledRec ·))=true:=by kernel_rfl
theorem k31:Rows.layoutSuperclassPrefixRow.veiledFits Tryz.prog Tryz.f5.params.toList (Tryz.f5.params.toList++Rows.layoutSuperclassPrefixSpec.plain.varTypes Tryz.prog++Tryz.f5.resultTypes.toList)=true:=by kernel_rfl
set_option maxRecDepth 100000 in
theorem closed:joinedFacts Tryz.prog 5 Tryz.f5 Rows.layoutSuperclassPrefixSpec Rows.layoutSuperclassPrefixRow=true:=(am (am (am (am (am (am (am (am (am (am (am (am (am (am (am (am (am (am (am (am (am (am (am (am (am (am (am (am (am (am (am k0 k1) k2) k3) k4) k5) k6) k7) k8) k9) k10) k11) k12) k13) k14) k15) k16) k17) k18) k19) k20) k21) k22) k23) k24) k25) k26) k27) k28) k29) k30) k31)
theorem inst:Tryz.f5.isInstance Tryz.prog Rows.layoutSuperclassPrefixRow.origin Rows.layoutSuperclassPrefixRow.targs:=of_decide_eq_true (by kernel_rfl)
theorem named:Tryz.prog.funcNamed Rows.layoutSuperclassPrefixRow.func=some 5:=by kernel_rfl
theorem wrapped:Tryz.f5.isWrapper Tryz.prog Rows.layoutSuperclassPrefixRow.wrapper Rows.layoutSuperclassPrefixRow.mainSum:=by unfold Func.isWrapper; first|(rw [if_pos (by decide+kernel)]; kernel_rfl)|(rw [if_neg (by decide+kernel)]; exact ⟨rfl,rfl⟩)
theorem over:Rows.layoutSuperclassPrefixRow.holds Tryz.pinned (OpenSpec.ofChange Rows.layoutSuperclassPrefixSpec):=
 OpenClaim.holds_of_wide 5 Tryz.f5 rfl rfl rfl rfl rfl rfl rfl ⟨rfl,rfl,rfl,rfl,rfl⟩ rfl rfl rfl rfl rfl named Tryz.func5 closed inst wrapped
  (fun os started H enc _=>lifted os started H enc)
theorem proved:Rows.LayoutSuperclassPrefixSaid:=
 over
#print axioms proved
end Go.Proofs.YtbhghodobphdeaaGreat.layoutSuperclassPrefix
