/-
  The law LayoutSlotIndex holds for every input: the function returns true, and Z5i argument reads behind the call as it read before. No condition.
-/
import Derived.Test.YtbhghodobphdeaaGreatLayL3
import Derived.WalkKit
import Derived.ProofKit
import Derived.OpenShut
import Derived.ChangeMaps5
namespace Go.Proofs.YtbhghodobphdeaaGreat.layoutSlotIndex
open Go.ChangeShapes Go.WideShapes Go.ChangeAt Go.RowKit Go.ChangeMaps Go.Den
set_option linter.unusedVariables false
theorem own:ownKnob Tryz.prog.godebug=none:=by kernel_rfl
theorem laid:laidOutB Tryz.prog=true:=by kernel_rfl
def wf_84 (y:Z8m):Prop:=(fun s:List UInt8=>s.length≤reachBytes) y.Zju∧((fun n:Int=>IntKind.min .i64≤n∧n≤IntKind.max .i64) y.f_To∧(True))
theorem rd_84:Z2d Tryz.prog 84 Zel wf_84:=
 (Z3q (tot:=2) Tryz.underlying84 (by kernel_rfl) (Z0x (n:=1) (Z3u (P:=Tryz.prog) Tryz.underlying9) (by kernel_rfl) (Z0x (n:=1) (Z2c (P:=Tryz.prog) Tryz.underlying3) (by kernel_rfl) Z3v rfl) rfl)).map (fun p:(List UInt8)×(Int×Unit)=>({ Zju:=p.1,f_To:=p.2.1 }:Z8m)) (fun _=>rfl) (fun _ h=>h)
def wf_79 (ys:List Z8m):Prop:=(∀ y∈ys,wf_84 y)∧ys.length*Tryz.prog.bytesOf 84≤reachBytes
theorem rd_79:Z2d Tryz.prog 79 (fun ys:List Z8m=>[D.sl false (ys.map Zel)]) wf_79:=Z4z Tryz.underlying79 (row:=Zel) rd_84 (Nat.lt_of_lt_of_le (by decide:0<1) (Nat.le_of_ble_eq_true (by kernel_rfl)))
def wf_102 (y:Z8h):Prop:=(fun s:List UInt8=>s.length≤reachBytes) y.Z0f∧((fun s:List UInt8=>s.length≤reachBytes) y.Z2g∧(True))
theorem rd_102:Z2d Tryz.prog 102 Zf1 wf_102:=
 (Z3q (tot:=2) Tryz.underlying102 (by kernel_rfl) (Z0x (n:=1) (Z3u (P:=Tryz.prog) Tryz.underlying9) (by kernel_rfl) (Z0x (n:=1) (Z3u (P:=Tryz.prog) Tryz.underlying9) (by kernel_rfl) Z3v rfl) rfl)).map (fun p:(List UInt8)×(List UInt8)×Unit=>({ Z0f:=p.1,Z2g:=p.2.1 }:Z8h)) (fun _=>rfl) (fun _ h=>h)
def wf_80 (ys:List Z8h):Prop:=(∀ y∈ys,wf_102 y)∧ys.length*Tryz.prog.bytesOf 102≤reachBytes
theorem rd_80:Z2d Tryz.prog 80 (fun ys:List Z8h=>[D.sl false (ys.map Zf1)]) wf_80:=Z4z Tryz.underlying80 (row:=Zf1) rd_102 (Nat.lt_of_lt_of_le (by decide:0<1) (Nat.le_of_ble_eq_true (by kernel_rfl)))
def wf_82 (y:Z1l):Prop:=wf_79 y.Z5f∧(wf_80 y.Z3r∧(True))
theorem rd_82:Z2d Tryz.prog 82 Z2q wf_82:=
 (Z3q (tot:=2) Tryz.underlying82 (by kernel_rfl) (Z0x (n:=1) rd_79 (by kernel_rfl) (Z0x (n:=1) rd_80 (by kernel_rfl) Z3v rfl) rfl)).map (fun p:(List Z8m)×(List Z8h)×Unit=>({ Z5f:=p.1,Z3r:=p.2.1 }:Z1l)) (fun _=>rfl) (fun _ h=>h)
def wf_22 (ys:List Z1l):Prop:=(∀ y∈ys,wf_82 y)∧ys.length*Tryz.prog.bytesOf 82≤reachBytes
theorem rd_22:Z2d Tryz.prog 22 (fun ys:List Z1l=>[D.sl false (ys.map Z2q)]) wf_22:=Z4z Tryz.underlying22 (row:=Z2q) rd_82 (Nat.lt_of_lt_of_le (by decide:0<1) (Nat.le_of_ble_eq_true (by kernel_rfl)))
def wf_45 (ys:List (List UInt8)):Prop:=(∀ y∈ys,(fun s:List UInt8=>s.length≤reachBytes) y)∧ys.length*Tryz.prog.bytesOf 9≤reachBytes
theorem rd_45:Z2d Tryz.prog 45 (fun ys:List (List UInt8)=>[D.sl false (ys.map Z3w)]) wf_45:=Z4z Tryz.underlying45 (row:=Z3w) (Z3u (P:=Tryz.prog) Tryz.underlying9) (Nat.lt_of_lt_of_le (by decide:0<1) (Nat.le_of_ble_eq_true (by kernel_rfl)))
def wf_57 (y:Z1c):Prop:=(fun n:Int=>IntKind.min .i64≤n∧n≤IntKind.max .i64) y.Z0r∧((fun s:List UInt8=>s.length≤reachBytes) y.Z0f∧((fun s:List UInt8=>s.length≤reachBytes) y.Z1p∧((fun n:Int=>IntKind.min .i64≤n∧n≤IntKind.max .i64) y.Z3c∧((fun n:Int=>IntKind.min .i64≤n∧n≤IntKind.max .i64) y.f_N∧((fun s:List UInt8=>s.length≤reachBytes) y.f_S∧(True))))))
theorem rd_57:Z2d Tryz.prog 57 Z5o wf_57:=
 (Z3q (tot:=6) Tryz.underlying57 (by kernel_rfl) (Z0x (n:=1) (Z2c (P:=Tryz.prog) Tryz.underlying3) (by kernel_rfl) (Z0x (n:=1) (Z3u (P:=Tryz.prog) Tryz.underlying9) (by kernel_rfl) (Z0x (n:=1) (Z3u (P:=Tryz.prog) Tryz.underlying9) (by kernel_rfl) (Z0x (n:=1) (Z2c (P:=Tryz.prog) Tryz.underlying3) (by kernel_rfl) (Z0x (n:=1) (Z2c (P:=Tryz.prog) Tryz.underlying3) (by kernel_rfl) (Z0x (n:=1) (Z3u (P:=Tryz.prog) Tryz.underlying9) (by kernel_rfl) Z3v rfl) rfl) rfl) rfl) rfl) rfl)).map (fun p:Int×(List UInt8)×(List UInt8)×(Int×(Int×(List UInt8)×Unit))=>({ Z0r:=p.1,Z0f:=p.2.1,Z1p:=p.2.2.1,Z3c:=p.2.2.2.1,f_N:=p.2.2.2.2.1,f_S:=p.2.2.2.2.2.1 }:Z1c)) (fun _=>rfl) (fun _ h=>h)
def wf_46 (ys:List Z1c):Prop:=(∀ y∈ys,wf_57 y)∧ys.length*Tryz.prog.bytesOf 57≤reachBytes
theorem rd_46:Z2d Tryz.prog 46 (fun ys:List Z1c=>[D.sl false (ys.map Z5o)]) wf_46:=Z4z Tryz.underlying46 (row:=Z5o) rd_57 (Nat.lt_of_lt_of_le (by decide:0<1) (Nat.le_of_ble_eq_true (by kernel_rfl)))
def wf_50 (ys:List Int):Prop:=(∀ y∈ys,(fun n:Int=>IntKind.min .i64≤n∧n≤IntKind.max .i64) y)∧ys.length*Tryz.prog.bytesOf 3≤reachBytes
theorem rd_50:Z2d Tryz.prog 50 (fun ys:List Int=>[D.sl false (ys.map Z03)]) wf_50:=Z4z Tryz.underlying50 (row:=Z03) (Z2c (P:=Tryz.prog) Tryz.underlying3) (Nat.lt_of_lt_of_le (by decide:0<1) (Nat.le_of_ble_eq_true (by kernel_rfl)))
def wf_176 (y:Z23):Prop:=(fun s:List UInt8=>s.length≤reachBytes) y.Z0p∧((fun s:List UInt8=>s.length≤reachBytes) y.Z0f∧((fun s:List UInt8=>s.length≤reachBytes) y.Z1p∧(True)))
theorem rd_176:Z2d Tryz.prog 176 Zif wf_176:=
 (Z3q (tot:=3) Tryz.underlying176 (by kernel_rfl) (Z0x (n:=1) (Z3u (P:=Tryz.prog) Tryz.underlying9) (by kernel_rfl) (Z0x (n:=1) (Z3u (P:=Tryz.prog) Tryz.underlying9) (by kernel_rfl) (Z0x (n:=1) (Z3u (P:=Tryz.prog) Tryz.underlying9) (by kernel_rfl) Z3v rfl) rfl) rfl)).map (fun p:(List UInt8)×(List UInt8)×(List UInt8)×Unit=>({ Z0p:=p.1,Z0f:=p.2.1,Z1p:=p.2.2.1 }:Z23)) (fun _=>rfl) (fun _ h=>h)
def wf_178 (y:Z01):Prop:=(fun n:Int=>IntKind.min .i64≤n∧n≤IntKind.max .i64) y.f_Op∧((fun n:Int=>IntKind.min .i64≤n∧n≤IntKind.max .i64) y.f_A∧((fun n:Int=>IntKind.min .i64≤n∧n≤IntKind.max .i64) y.f_B∧((fun n:Int=>IntKind.min .i64≤n∧n≤IntKind.max .i64) y.f_To∧(wf_50 y.Z0s∧(wf_50 y.Z0b∧(wf_176 y.Z1b∧((fun s:List UInt8=>s.length≤reachBytes) y.f_S∧(True))))))))
theorem rd_178:Z2d Tryz.prog 178 Z0d wf_178:=
 (Z3q (tot:=10) Tryz.underlying178 (by kernel_rfl) (Z0x (n:=1) (Z2c (P:=Tryz.prog) Tryz.underlying3) (by kernel_rfl) (Z0x (n:=1) (Z2c (P:=Tryz.prog) Tryz.underlying3) (by kernel_rfl) (Z0x (n:=1) (Z2c (P:=Tryz.prog) Tryz.underlying3) (by kernel_rfl) (Z0x (n:=1) (Z2c (P:=Tryz.prog) Tryz.underlying3) (by kernel_rfl) (Z0x (n:=1) rd_50 (by kernel_rfl) (Z0x (n:=1) rd_50 (by kernel_rfl) (Z0x (n:=3) rd_176 (by kernel_rfl) (Z0x (n:=1) (Z3u (P:=Tryz.prog) Tryz.underlying9) (by kernel_rfl) Z3v rfl) rfl) rfl) rfl) rfl) rfl) rfl) rfl)).map (fun p:Int×(Int×(Int×(Int×(List Int)×(List Int)×(Z23×(List UInt8)×Unit))))=>({ f_Op:=p.1,f_A:=p.2.1,f_B:=p.2.2.1,f_To:=p.2.2.2.1,Z0s:=p.2.2.2.2.1,Z0b:=p.2.2.2.2.2.1,Z1b:=p.2.2.2.2.2.2.1,f_S:=p.2.2.2.2.2.2.2.1 }:Z01)) (fun _=>rfl) (fun _ h=>h)
def wf_122 (ys:List Z01):Prop:=(∀ y∈ys,wf_178 y)∧ys.length*Tryz.prog.bytesOf 178≤reachBytes
theorem rd_122:Z2d Tryz.prog 122 (fun ys:List Z01=>[D.sl false (ys.map Z0d)]) wf_122:=Z4z Tryz.underlying122 (row:=Z0d) rd_178 (Nat.lt_of_lt_of_le (by decide:0<1) (Nat.le_of_ble_eq_true (by kernel_rfl)))
def wf_141 (y:Z0m):Prop:=(fun n:Int=>IntKind.min .i64≤n∧n≤IntKind.max .i64) y.Z5w∧((fun n:Int=>IntKind.min .i64≤n∧n≤IntKind.max .i64) y.f_To∧((fun n:Int=>IntKind.min .i64≤n∧n≤IntKind.max .i64) y.Z5s∧((fun n:Int=>IntKind.min .i64≤n∧n≤IntKind.max .i64) y.Z0p∧((fun s:List UInt8=>s.length≤reachBytes) y.Z1n∧(True)))))
theorem rd_141:Z2d Tryz.prog 141 Z0t wf_141:=
 (Z3q (tot:=5) Tryz.underlying141 (by kernel_rfl) (Z0x (n:=1) (Z2c (P:=Tryz.prog) Tryz.underlying3) (by kernel_rfl) (Z0x (n:=1) (Z2c (P:=Tryz.prog) Tryz.underlying3) (by kernel_rfl) (Z0x (n:=1) (Z2c (P:=Tryz.prog) Tryz.underlying3) (by kernel_rfl) (Z0x (n:=1) (Z2c (P:=Tryz.prog) Tryz.underlying3) (by kernel_rfl) (Z0x (n:=1) (Z3u (P:=Tryz.prog) Tryz.underlying9) (by kernel_rfl) Z3v rfl) rfl) rfl) rfl) rfl)).map (fun p:Int×(Int×(Int×(Int×(List UInt8)×Unit)))=>({ Z5w:=p.1,f_To:=p.2.1,Z5s:=p.2.2.1,Z0p:=p.2.2.2.1,Z1n:=p.2.2.2.2.1 }:Z0m)) (fun _=>rfl) (fun _ h=>h)
def wf_123 (ys:List Z0m):Prop:=(∀ y∈ys,wf_141 y)∧ys.length*Tryz.prog.bytesOf 141≤reachBytes
theorem rd_123:Z2d Tryz.prog 123 (fun ys:List Z0m=>[D.sl false (ys.map Z0t)]) wf_123:=Z4z Tryz.underlying123 (row:=Z0t) rd_141 (Nat.lt_of_lt_of_le (by decide:0<1) (Nat.le_of_ble_eq_true (by kernel_rfl)))
def wf_74 (y:Z0q):Prop:=(fun n:Int=>IntKind.min .i64≤n∧n≤IntKind.max .i64) y.Z2r∧((fun n:Int=>IntKind.min .u8≤n∧n≤IntKind.max .u8) y.Z1z∧((fun s:List UInt8=>s.length≤reachBytes) y.Z0f∧(True)))
theorem rd_74:Z2d Tryz.prog 74 Z2b wf_74:=
 (Z3q (tot:=3) Tryz.underlying74 (by kernel_rfl) (Z0x (n:=1) (Z2c (P:=Tryz.prog) Tryz.underlying3) (by kernel_rfl) (Z0x (n:=1) (Z2c (P:=Tryz.prog) Tryz.underlying5) (by kernel_rfl) (Z0x (n:=1) (Z3u (P:=Tryz.prog) Tryz.underlying9) (by kernel_rfl) Z3v rfl) rfl) rfl)).map (fun p:Int×(Int×(List UInt8)×Unit)=>({ Z2r:=p.1,Z1z:=p.2.1,Z0f:=p.2.2.1 }:Z0q)) (fun _=>rfl) (fun _ h=>h)
def wf_166 (y:Z0h):Prop:=(fun n:Int=>IntKind.min .i64≤n∧n≤IntKind.max .i64) y.Z2e∧((fun n:Int=>IntKind.min .i64≤n∧n≤IntKind.max .i64) y.Z3g∧(wf_74 y.Z1n∧((fun n:Int=>IntKind.min .i64≤n∧n≤IntKind.max .i64) y.Z3z∧(True))))
theorem rd_166:Z2d Tryz.prog 166 Z1h wf_166:=
 (Z3q (tot:=6) Tryz.underlying166 (by kernel_rfl) (Z0x (n:=1) (Z2c (P:=Tryz.prog) Tryz.underlying3) (by kernel_rfl) (Z0x (n:=1) (Z2c (P:=Tryz.prog) Tryz.underlying3) (by kernel_rfl) (Z0x (n:=3) rd_74 (by kernel_rfl) (Z0x (n:=1) (Z2c (P:=Tryz.prog) Tryz.underlying3) (by kernel_rfl) Z3v rfl) rfl) rfl) rfl)).map (fun p:Int×(Int×(Z0q×(Int×Unit)))=>({ Z2e:=p.1,Z3g:=p.2.1,Z1n:=p.2.2.1,Z3z:=p.2.2.2.1 }:Z0h)) (fun _=>rfl) (fun _ h=>h)
def wf_143 (ys:List Z0h):Prop:=(∀ y∈ys,wf_166 y)∧ys.length*Tryz.prog.bytesOf 166≤reachBytes
theorem rd_143:Z2d Tryz.prog 143 (fun ys:List Z0h=>[D.sl false (ys.map Z1h)]) wf_143:=Z4z Tryz.underlying143 (row:=Z1h) rd_166 (Nat.lt_of_lt_of_le (by decide:0<1) (Nat.le_of_ble_eq_true (by kernel_rfl)))
def wf_145 (y:Z54):Prop:=wf_143 y.Z0v∧(wf_143 y.Z10∧((fun _:Bool=>True) y.Z6p∧(True)))
theorem rd_145:Z2d Tryz.prog 145 Zxl wf_145:=
 (Z3q (tot:=3) Tryz.underlying145 (by kernel_rfl) (Z0x (n:=1) rd_143 (by kernel_rfl) (Z0x (n:=1) rd_143 (by kernel_rfl) (Z0x (n:=1) (Zqy (P:=Tryz.prog) Tryz.underlying4) (by kernel_rfl) Z3v rfl) rfl) rfl)).map (fun p:(List Z0h)×(List Z0h)×(Bool×Unit)=>({ Z0v:=p.1,Z10:=p.2.1,Z6p:=p.2.2.1 }:Z54)) (fun _=>rfl) (fun _ h=>h)
def wf_147 (y:Z0n):Prop:=(fun n:Int=>IntKind.min .i64≤n∧n≤IntKind.max .i64) y.Z14∧(wf_145 y.Z1i∧(True))
theorem rd_147:Z2d Tryz.prog 147 Z0z wf_147:=
 (Z3q (tot:=4) Tryz.underlying147 (by kernel_rfl) (Z0x (n:=1) (Z2c (P:=Tryz.prog) Tryz.underlying3) (by kernel_rfl) (Z0x (n:=3) rd_145 (by kernel_rfl) Z3v rfl) rfl)).map (fun p:Int×(Z54×Unit)=>({ Z14:=p.1,Z1i:=p.2.1 }:Z0n)) (fun _=>rfl) (fun _ h=>h)
def wf_124 (ys:List Z0n):Prop:=(∀ y∈ys,wf_147 y)∧ys.length*Tryz.prog.bytesOf 147≤reachBytes
theorem rd_124:Z2d Tryz.prog 124 (fun ys:List Z0n=>[D.sl false (ys.map Z0z)]) wf_124:=Z4z Tryz.underlying124 (row:=Z0z) rd_147 (Nat.lt_of_lt_of_le (by decide:0<1) (Nat.le_of_ble_eq_true (by kernel_rfl)))
def wf_159 (y:Z15):Prop:=(fun n:Int=>IntKind.min .i64≤n∧n≤IntKind.max .i64) y.Z14∧((fun n:Int=>IntKind.min .i64≤n∧n≤IntKind.max .i64) y.Z75∧(True))
theorem rd_159:Z2d Tryz.prog 159 Z19 wf_159:=
 (Z3q (tot:=2) Tryz.underlying159 (by kernel_rfl) (Z0x (n:=1) (Z2c (P:=Tryz.prog) Tryz.underlying3) (by kernel_rfl) (Z0x (n:=1) (Z2c (P:=Tryz.prog) Tryz.underlying3) (by kernel_rfl) Z3v rfl) rfl)).map (fun p:Int×(Int×Unit)=>({ Z14:=p.1,Z75:=p.2.1 }:Z15)) (fun _=>rfl) (fun _ h=>h)
def wf_125 (ys:List Z15):Prop:=(∀ y∈ys,wf_159 y)∧ys.length*Tryz.prog.bytesOf 159≤reachBytes
theorem rd_125:Z2d Tryz.prog 125 (fun ys:List Z15=>[D.sl false (ys.map Z19)]) wf_125:=Z4z Tryz.underlying125 (row:=Z19) rd_159 (Nat.lt_of_lt_of_le (by decide:0<1) (Nat.le_of_ble_eq_true (by kernel_rfl)))
def wf_127 (y:Z0a):Prop:=(fun n:Int=>IntKind.min .i64≤n∧n≤IntKind.max .i64) y.Z10∧((fun n:Int=>IntKind.min .i64≤n∧n≤IntKind.max .i64) y.Z0v∧(wf_122 y.Z0j∧(wf_123 y.Z1w∧(wf_124 y.Z1g∧(wf_125 y.Z1r∧(True))))))
theorem rd_127:Z2d Tryz.prog 127 Z0w wf_127:=
 (Z3q (tot:=6) Tryz.underlying127 (by kernel_rfl) (Z0x (n:=1) (Z2c (P:=Tryz.prog) Tryz.underlying3) (by kernel_rfl) (Z0x (n:=1) (Z2c (P:=Tryz.prog) Tryz.underlying3) (by kernel_rfl) (Z0x (n:=1) rd_122 (by kernel_rfl) (Z0x (n:=1) rd_123 (by kernel_rfl) (Z0x (n:=1) rd_124 (by kernel_rfl) (Z0x (n:=1) rd_125 (by kernel_rfl) Z3v rfl) rfl) rfl) rfl) rfl) rfl)).map (fun p:Int×(Int×(List Z01)×(List Z0m)×(List Z0n)×(List Z15)×Unit)=>({ Z10:=p.1,Z0v:=p.2.1,Z0j:=p.2.2.1,Z1w:=p.2.2.2.1,Z1g:=p.2.2.2.2.1,Z1r:=p.2.2.2.2.2.1 }:Z0a)) (fun _=>rfl) (fun _ h=>h)
def wf_129 (y:Z2m):Prop:=(fun n:Int=>IntKind.min .i64≤n∧n≤IntKind.max .i64) y.Z0r∧((fun s:List UInt8=>s.length≤reachBytes) y.Z0f∧((fun s:List UInt8=>s.length≤reachBytes) y.Z1p∧((fun _:Bool=>True) y.Z8d∧(wf_127 y.Z28∧(wf_45 y.Z6c∧(True))))))
theorem rd_129:Z2d Tryz.prog 129 Z78 wf_129:=
 (Z3q (tot:=11) Tryz.underlying129 (by kernel_rfl) (Z0x (n:=1) (Z2c (P:=Tryz.prog) Tryz.underlying3) (by kernel_rfl) (Z0x (n:=1) (Z3u (P:=Tryz.prog) Tryz.underlying9) (by kernel_rfl) (Z0x (n:=1) (Z3u (P:=Tryz.prog) Tryz.underlying9) (by kernel_rfl) (Z0x (n:=1) (Zqy (P:=Tryz.prog) Tryz.underlying4) (by kernel_rfl) (Z0x (n:=6) rd_127 (by kernel_rfl) (Z0x (n:=1) rd_45 (by kernel_rfl) Z3v rfl) rfl) rfl) rfl) rfl) rfl)).map (fun p:Int×(List UInt8)×(List UInt8)×(Bool×(Z0a×(List (List UInt8))×Unit))=>({ Z0r:=p.1,Z0f:=p.2.1,Z1p:=p.2.2.1,Z8d:=p.2.2.2.1,Z28:=p.2.2.2.2.1,Z6c:=p.2.2.2.2.2.1 }:Z2m)) (fun _=>rfl) (fun _ h=>h)
def wf_47 (ys:List Z2m):Prop:=(∀ y∈ys,wf_129 y)∧ys.length*Tryz.prog.bytesOf 129≤reachBytes
theorem rd_47:Z2d Tryz.prog 47 (fun ys:List Z2m=>[D.sl false (ys.map Z78)]) wf_47:=Z4z Tryz.underlying47 (row:=Z78) rd_129 (Nat.lt_of_lt_of_le (by decide:0<1) (Nat.le_of_ble_eq_true (by kernel_rfl)))
def wf_49 (y:Z0l):Prop:=(fun n:Int=>IntKind.min .i64≤n∧n≤IntKind.max .i64) y.Z0r∧((fun s:List UInt8=>s.length≤reachBytes) y.Z0f∧((fun s:List UInt8=>s.length≤reachBytes) y.Z1a∧(wf_45 y.Z1e∧(wf_46 y.Z0g∧(wf_47 y.Z11∧((fun s:List UInt8=>s.length≤reachBytes) y.Z8b∧(True)))))))
theorem rd_49:Z2d Tryz.prog 49 Z2i wf_49:=
 (Z3q (tot:=7) Tryz.underlying49 (by kernel_rfl) (Z0x (n:=1) (Z2c (P:=Tryz.prog) Tryz.underlying3) (by kernel_rfl) (Z0x (n:=1) (Z3u (P:=Tryz.prog) Tryz.underlying9) (by kernel_rfl) (Z0x (n:=1) (Z3u (P:=Tryz.prog) Tryz.underlying9) (by kernel_rfl) (Z0x (n:=1) rd_45 (by kernel_rfl) (Z0x (n:=1) rd_46 (by kernel_rfl) (Z0x (n:=1) rd_47 (by kernel_rfl) (Z0x (n:=1) (Z3u (P:=Tryz.prog) Tryz.underlying9) (by kernel_rfl) Z3v rfl) rfl) rfl) rfl) rfl) rfl) rfl)).map (fun p:Int×(List UInt8)×(List UInt8)×(List (List UInt8))×(List Z1c)×(List Z2m)×(List UInt8)×Unit=>({ Z0r:=p.1,Z0f:=p.2.1,Z1a:=p.2.2.1,Z1e:=p.2.2.2.1,Z0g:=p.2.2.2.2.1,Z11:=p.2.2.2.2.2.1,Z8b:=p.2.2.2.2.2.2.1 }:Z0l)) (fun _=>rfl) (fun _ h=>h)
def wf_53 (y:Z1s):Prop:=(fun n:Int=>IntKind.min .i64≤n∧n≤IntKind.max .i64) y.Z2s∧(wf_49 y.Z0y∧((fun n:Int=>IntKind.min .i64≤n∧n≤IntKind.max .i64) y.Z1a∧(wf_50 y.Z1e∧((fun n:Int=>IntKind.min .i64≤n∧n≤IntKind.max .i64) y.Zbd∧((fun n:Int=>IntKind.min .i64≤n∧n≤IntKind.max .i64) y.Zkj∧(True))))))
theorem rd_53:Z2d Tryz.prog 53 Z4c wf_53:=
 (Z3q (tot:=12) Tryz.underlying53 (by kernel_rfl) (Z0x (n:=1) (Z2c (P:=Tryz.prog) Tryz.underlying3) (by kernel_rfl) (Z0x (n:=7) rd_49 (by kernel_rfl) (Z0x (n:=1) (Z2c (P:=Tryz.prog) Tryz.underlying3) (by kernel_rfl) (Z0x (n:=1) rd_50 (by kernel_rfl) (Z0x (n:=1) (Z2c (P:=Tryz.prog) Tryz.underlying3) (by kernel_rfl) (Z0x (n:=1) (Z2c (P:=Tryz.prog) Tryz.underlying51) (by kernel_rfl) Z3v rfl) rfl) rfl) rfl) rfl) rfl)).map (fun p:Int×(Z0l×(Int×(List Int)×(Int×(Int×Unit))))=>({ Z2s:=p.1,Z0y:=p.2.1,Z1a:=p.2.2.1,Z1e:=p.2.2.2.1,Zbd:=p.2.2.2.2.1,Zkj:=p.2.2.2.2.2.1 }:Z1s)) (fun _=>rfl) (fun _ h=>h)
def wf_23 (ys:List Z1s):Prop:=(∀ y∈ys,wf_53 y)∧ys.length*Tryz.prog.bytesOf 53≤reachBytes
theorem rd_23:Z2d Tryz.prog 23 (fun ys:List Z1s=>[D.sl false (ys.map Z4c)]) wf_23:=Z4z Tryz.underlying23 (row:=Z4c) rd_53 (Nat.lt_of_lt_of_le (by decide:0<1) (Nat.le_of_ble_eq_true (by kernel_rfl)))
def wf_88 (y:Z2t):Prop:=(fun n:Int=>IntKind.min .i64≤n∧n≤IntKind.max .i64) y.Z2s∧((fun s:List UInt8=>s.length≤reachBytes) y.Z0f∧((fun n:Int=>IntKind.min .i64≤n∧n≤IntKind.max .i64) y.Z0p∧(True)))
theorem rd_88:Z2d Tryz.prog 88 Z5e wf_88:=
 (Z3q (tot:=3) Tryz.underlying88 (by kernel_rfl) (Z0x (n:=1) (Z2c (P:=Tryz.prog) Tryz.underlying3) (by kernel_rfl) (Z0x (n:=1) (Z3u (P:=Tryz.prog) Tryz.underlying9) (by kernel_rfl) (Z0x (n:=1) (Z2c (P:=Tryz.prog) Tryz.underlying3) (by kernel_rfl) Z3v rfl) rfl) rfl)).map (fun p:Int×(List UInt8)×(Int×Unit)=>({ Z2s:=p.1,Z0f:=p.2.1,Z0p:=p.2.2.1 }:Z2t)) (fun _=>rfl) (fun _ h=>h)
def wf_24 (ys:List Z2t):Prop:=(∀ y∈ys,wf_88 y)∧ys.length*Tryz.prog.bytesOf 88≤reachBytes
theorem rd_24:Z2d Tryz.prog 24 (fun ys:List Z2t=>[D.sl false (ys.map Z5e)]) wf_24:=Z4z Tryz.underlying24 (row:=Z5e) rd_88 (Nat.lt_of_lt_of_le (by decide:0<1) (Nat.le_of_ble_eq_true (by kernel_rfl)))
def wf_65 (y:Z4y):Prop:=(fun s:List UInt8=>s.length≤reachBytes) y.Z0f∧((fun n:Int=>IntKind.min .i64≤n∧n≤IntKind.max .i64) y.f_A∧((fun n:Int=>IntKind.min .i64≤n∧n≤IntKind.max .i64) y.f_B∧(True)))
theorem rd_65:Z2d Tryz.prog 65 Z66 wf_65:=
 (Z3q (tot:=3) Tryz.underlying65 (by kernel_rfl) (Z0x (n:=1) (Z3u (P:=Tryz.prog) Tryz.underlying9) (by kernel_rfl) (Z0x (n:=1) (Z2c (P:=Tryz.prog) Tryz.underlying3) (by kernel_rfl) (Z0x (n:=1) (Z2c (P:=Tryz.prog) Tryz.underlying3) (by kernel_rfl) Z3v rfl) rfl) rfl)).map (fun p:(List UInt8)×(Int×(Int×Unit))=>({ Z0f:=p.1,f_A:=p.2.1,f_B:=p.2.2.1 }:Z4y)) (fun _=>rfl) (fun _ h=>h)
def wf_25 (ys:List Z4y):Prop:=(∀ y∈ys,wf_65 y)∧ys.length*Tryz.prog.bytesOf 65≤reachBytes
theorem rd_25:Z2d Tryz.prog 25 (fun ys:List Z4y=>[D.sl false (ys.map Z66)]) wf_25:=Z4z Tryz.underlying25 (row:=Z66) rd_65 (Nat.lt_of_lt_of_le (by decide:0<1) (Nat.le_of_ble_eq_true (by kernel_rfl)))
def wf_27 (y:Z0c):Prop:=wf_22 y.Z1y∧(wf_23 y.Z0o∧(wf_24 y.Z2l∧(wf_25 y.Z45∧(True))))
theorem rd_27:Z2d Tryz.prog 27 Z1d wf_27:=
 (Z3q (tot:=4) Tryz.underlying27 (by kernel_rfl) (Z0x (n:=1) rd_22 (by kernel_rfl) (Z0x (n:=1) rd_23 (by kernel_rfl) (Z0x (n:=1) rd_24 (by kernel_rfl) (Z0x (n:=1) rd_25 (by kernel_rfl) Z3v rfl) rfl) rfl) rfl)).map (fun p:(List Z1l)×(List Z1s)×(List Z2t)×(List Z4y)×Unit=>({ Z1y:=p.1,Z0o:=p.2.1,Z2l:=p.2.2.1,Z45:=p.2.2.2.1 }:Z0c)) (fun _=>rfl) (fun _ h=>h)
def wf_41 (y:Z2w):Prop:=(fun n:Int=>IntKind.min .i64≤n∧n≤IntKind.max .i64) y.Z0p∧((fun n:Int=>IntKind.min .i64≤n∧n≤IntKind.max .i64) y.Z14∧(True))
theorem rd_41:Z2d Tryz.prog 41 Z6e wf_41:=
 (Z3q (tot:=2) Tryz.underlying41 (by kernel_rfl) (Z0x (n:=1) (Z2c (P:=Tryz.prog) Tryz.underlying3) (by kernel_rfl) (Z0x (n:=1) (Z2c (P:=Tryz.prog) Tryz.underlying3) (by kernel_rfl) Z3v rfl) rfl)).map (fun p:Int×(Int×Unit)=>({ Z0p:=p.1,Z14:=p.2.1 }:Z2w)) (fun _=>rfl) (fun _ h=>h)
theorem rlS {n:Nat} (h:n≤reachBytes):n≤4503599627370496:=Nat.le_trans h (by decide)
theorem rlB {n b k:Nat} (e:b=k) (h:n*b≤reachBytes):n*k≤140737488355328:=by have:=Zud h; rw [e] at this; omega
theorem rlN {n b:Nat} (e:1≤b) (h:n*b≤reachBytes):n≤140737488355328:=Nat.le_trans (Nat.le_trans (Nat.le_of_eq (Nat.mul_one n).symm) (Nat.mul_le_mul_left n e)) (by have:=Zud h; omega)
theorem ws_T_api_Ref {y:Z23} (h:wf_176 y):WRef y:=⟨rlS h.1,rlS h.2.1,rlS h.2.2.1⟩
theorem ws_T_api_Insn {y:Z01} (h:wf_178 y):Z2n y:=⟨rlB (by kernel_rfl) h.2.2.2.2.1.2,rlB (by kernel_rfl) h.2.2.2.2.2.1.2,ws_T_api_Ref h.2.2.2.2.2.2.1,rlS h.2.2.2.2.2.2.2.1⟩
theorem ws_T_api_Frame {y:Z54} (h:wf_145 y):Zag y:=⟨fun v hv=>rlS (h.1.1 v hv).2.2.1.2.2.1,rlB (by kernel_rfl) h.1.2,fun v hv=>rlS (h.2.1.1 v hv).2.2.1.2.2.1,rlB (by kernel_rfl) h.2.1.2⟩
theorem ws_T_api_Code {y:Z0a} (h:wf_127 y):Z4x y:=⟨fun v hv=>ws_T_api_Insn (h.2.2.1.1 v hv),rlB (by kernel_rfl) h.2.2.1.2,fun v hv=>rlS (h.2.2.2.1.1 v hv).2.2.2.2.1,rlB (by kernel_rfl) h.2.2.2.1.2,fun v hv=>ws_T_api_Frame (h.2.2.2.2.1.1 v hv).2.1,rlB (by kernel_rfl) h.2.2.2.2.1.2,rlB (by kernel_rfl) h.2.2.2.2.2.1.2⟩
theorem ws_T_api_Method {y:Z2m} (h:wf_129 y):Z9k y:=⟨rlS h.2.1,rlS h.2.2.1,ws_T_api_Code h.2.2.2.2.1,fun v hv=>rlS (h.2.2.2.2.2.1.1 v hv),rlB (by kernel_rfl) h.2.2.2.2.2.1.2⟩
theorem ws_T_api_Field {y:Z1c} (h:wf_57 y):Zpj y:=⟨rlS h.2.1,rlS h.2.2.1,rlS h.2.2.2.2.2.1⟩
theorem ws_T_api_ClassModel {y:Z0l} (h:wf_49 y):Z59 y:=⟨rlS h.2.1,rlS h.2.2.1,fun v hv=>rlS (h.2.2.2.1.1 v hv),rlB (by kernel_rfl) h.2.2.2.1.2,fun v hv=>ws_T_api_Field (h.2.2.2.2.1.1 v hv),rlB (by kernel_rfl) h.2.2.2.2.1.2,fun v hv=>ws_T_api_Method (h.2.2.2.2.2.1.1 v hv),rlB (by kernel_rfl) h.2.2.2.2.2.1.2,rlS h.2.2.2.2.2.2.1⟩
theorem ws_T_api_Loader {y:Z1l} (h:wf_82 y):Z6u y:=⟨fun v hv=>rlS (h.1.1 v hv).1,rlN (Nat.le_of_ble_eq_true (by kernel_rfl)) h.1.2,fun v hv=>rlS (h.2.1.1 v hv).1,rlN (Nat.le_of_ble_eq_true (by kernel_rfl)) h.2.1.2⟩
theorem ws_T_api_ClassSpace {y:Z0c} (h:wf_27 y):Z58 y:=⟨fun v hv=>ws_T_api_Loader (h.1.1 v hv),rlN (Nat.le_of_ble_eq_true (by kernel_rfl)) h.1.2,fun v hv=>⟨ws_T_api_ClassModel (h.2.1.1 v hv).2.1,rlN (Nat.le_of_ble_eq_true (by kernel_rfl)) (h.2.1.1 v hv).2.2.2.1.2⟩,rlN (Nat.le_of_ble_eq_true (by kernel_rfl)) h.2.1.2,fun v hv=>rlS (h.2.2.1.1 v hv).2.1,rlN (Nat.le_of_ble_eq_true (by kernel_rfl)) h.2.2.1.2,fun v hv=>rlS (h.2.2.2.1.1 v hv).1,rlN (Nat.le_of_ble_eq_true (by kernel_rfl)) h.2.2.2.1.2⟩
set_option maxRecDepth 100000 in
theorem lifted (os:Os) (started:os.Started) (H:Type) (enc:TypeId×Value→H):
  ReturnsInHanded {} Tryz.checked os 4 .any (Rows.layoutSlotIndexSpec.pre6 enc Tryz.prog Tryz.f4 Rows.layoutSlotIndexRow.domain false) (Rows.layoutSlotIndexSpec.post enc Tryz.prog Tryz.f4 false true false false):=by
 refine returnsInHanded_of_change_sized (C:=Tryz.checked) own started (by kernel_rfl) Tryz.func4
  (ChangeSpec.witness6 (enc:=enc) (C:=Tryz.checked) false ⟨#[],#[.agg #[.slice none 0 0,.slice none 0 0,.slice none 0 0,.slice none 0 0],.int .i64 0,.agg #[.int .i64 0,.int .i64 0]],[]⟩ 8 (by kernel_rfl) (by kernel_rfl) (by kernel_rfl) (by kernel_rfl)) ?_
 intro W base args ds gs before hval0 hW hcnd hsz _
 have hval:∀ (j:Nat) t v,Tryz.f4.params[j]?=some t→args[j]?=some v→Value.okWide Tryz.prog W .any base t v:=hval0
 have hW':=hW
 obtain ⟨p,q,hA0,hV,rfl,hfz,hnd⟩:=hW
 have hA:DataW.TrodAll enc Tryz.prog W 0 (fun _=>true) true Tryz.f4.params.toList args.toList ds p:=hA0
 rw [Tryz.params4] at hA hval
 obtain ⟨v0,vs0,d0,ds0,p0,q0,hargs,rfl,rfl,h0,r0⟩:=trodAll_cons hA
 obtain ⟨v1,vs1,d1,ds1,p1,q1,rfl,rfl,rfl,h1,r1⟩:=trodAll_cons r0
 obtain ⟨v2,vs2,d2,ds2,p2,q2,rfl,rfl,rfl,h2,r2⟩:=trodAll_cons r1
 obtain ⟨rfl,rfl,rfl⟩:=trodAll_nil r2
 obtain rfl:args= #[v0,v1,v2] :=by cases args; simp_all
 obtain ⟨rfl,rfl⟩:=trodVars_none hV
 have hsz2:(DataW.weightsEach Tryz.prog (Tryz.f4.params.toList++[]) ([d0,d1,d2]++[])).all (· ≤reachBytes)=true:=hsz
 rw [Tryz.params4] at hsz2
 simp only [List.append_nil,DataW.weightsEach,List.all_append,Bool.and_eq_true] at hsz2
 obtain ⟨z0,z1,z2⟩:=hsz2
 obtain ⟨y0,c0,g0⟩:=Zq5 (M:=Z80.reach Tryz.prog) Tryz.underlying27 rd_27 (hval 0 27 v0 rfl rfl) h0 z0
 obtain ⟨_,rfl⟩:=okWide_int Tryz.underlying3 (hval 1 3 v1 rfl rfl)
 obtain ⟨y1,c1,g1⟩:=arg_one (M:=Z80.reach Tryz.prog) (f:=(fun n:Int=>D.int .i64 n)) (Z2c (P:=Tryz.prog) Tryz.underlying3) rfl h1 z1
 obtain ⟨y2,c2,g2⟩:=Zq5 (M:=Z80.reach Tryz.prog) Tryz.underlying41 rd_41 (hval 2 41 v2 rfl rfl) h2 z2
 exact Y2o (P:=Tryz.prog) (fn:=Tryz.f4) (tb:=4) rfl (by kernel_rfl) Tryz.underlying4 laid (by kernel_rfl) hW' rfl (.cons c0 (.cons c1 (.cons c2 .nil))) (w4 (Y1n y0 y1 y2 (ws_T_api_ClassSpace g0)))
theorem am {a b:Bool} (h:a=true) (g:b=true):(a&&b)=true:=by rw [h,g]; rfl
theorem k0:Rows.layoutSlotIndexRow.wf (OpenSpec.ofChange Rows.layoutSlotIndexSpec)=true:=by kernel_rfl
theorem k1:laidOutB Tryz.prog=true:=by kernel_rfl
theorem k2:mapsRowed Tryz.prog=true:=by kernel_rfl
theorem k3:Tryz.f4.params.all (Tryz.prog.readableRec ·)=true:=by kernel_rfl
theorem k4:namedTie Tryz.prog Rows.layoutSlotIndexRow.named Rows.layoutSlotIndexSpec.vars=true:=by kernel_rfl
theorem k5:(Rows.layoutSlotIndexRow.stops==[])=true:=by kernel_rfl
theorem k6:(Tryz.prog.stops==[])=true:=by kernel_rfl
theorem k7:(Rows.layoutSlotIndexRow.knobs==[])=true:=by kernel_rfl
theorem k8:(Tryz.prog.stopKnobs==[])=true:=by kernel_rfl
theorem k9:(Rows.layoutSlotIndexRow.inPlace==Tryz.prog.inPlace 4)=true:=by kernel_rfl
theorem k10:(Rows.layoutSlotIndexRow.unfollowed==Tryz.prog.unfollowed 4)=true:=by kernel_rfl
theorem k11:(Rows.layoutSlotIndexRow.recurses==Tryz.prog.recurses 4)=true:=by kernel_rfl
theorem k12:(Rows.layoutSlotIndexRow.named==Tryz.prog.varsNamed 4)=true:=by kernel_rfl
theorem k13:(Rows.layoutSlotIndexRow.maps==(Tryz.f4.params.toList++Rows.layoutSlotIndexSpec.plain.varTypes Tryz.prog).any (Tryz.prog.mapsRec ·))=true:=by kernel_rfl
theorem k14:(Rows.layoutSlotIndexRow.ifaces==(Tryz.f4.params.toList++Rows.layoutSlotIndexSpec.plain.varTypes Tryz.prog).any (Tryz.prog.ifacesRec ·))=true:=by kernel_rfl
theorem k15:(Rows.layoutSlotIndexRow.mapsOut==Tryz.prog.mapsAmong Tryz.f4.resultTypes.toList)=true:=by kernel_rfl
theorem k16:(Rows.layoutSlotIndexRow.loops==(Tryz.f4.params.toList++Rows.layoutSlotIndexSpec.plain.varTypes Tryz.prog).any (Tryz.prog.loopsFrom ·))=true:=by kernel_rfl
theorem k17:(Rows.layoutSlotIndexRow.wideKeys==(Tryz.f4.params.toList++Rows.layoutSlotIndexSpec.plain.varTypes Tryz.prog++Tryz.f4.resultTypes.toList).any (Tryz.prog.wideKeysFrom ·))=true:=by kernel_rfl
theorem k18:Rows.layoutSlotIndexSpec.vars.all (Tryz.prog.varReadable ·)=true:=by kernel_rfl
theorem k19:Tryz.f4.resultTypes.all (fun t=>Tryz.prog.readableRec t&&decide (t<Tryz.prog.types.size))=true:=by kernel_rfl
theorem k20:(Rows.layoutSlotIndexRow.ifacesOut==Tryz.f4.resultTypes.toList.any (Tryz.prog.ifacesRec ·))=true:=by kernel_rfl
theorem k21:(Rows.layoutSlotIndexRow.loopsOut==Tryz.f4.resultTypes.toList.any (Tryz.prog.loopsFrom ·))=true:=by kernel_rfl
theorem k22:(Rows.layoutSlotIndexRow.plainKeys==Tryz.prog.plainKeys)=true:=by kernel_rfl
theorem k23:Rows.layoutSlotIndexRow.shortTexts.isNone=true:=by kernel_rfl
theorem k24:Tryz.prog.stopsHeard=true:=by kernel_rfl
theorem k25:Tryz.prog.mayEnter=true:=by kernel_rfl
theorem k26:(Rows.layoutSlotIndexRow.lifted==Tryz.prog.liftsFinal)=true:=by kernel_rfl
theorem k27:(Tryz.prog.make==some Rows.layoutSlotIndexRow.make)=true:=by kernel_rfl
theorem k28:(Rows.layoutSlotIndexRow.kinds==(if Rows.layoutSlotIndexRow.domain.isEmpty then [] else Tryz.f4.params.toList.map fun t=>match Tryz.prog.underlying t with|some (.int k)=>some k|_=>none))=true:=by kernel_rfl
theorem k29:(Rows.layoutSlotIndexRow.pinned==Rows.layoutSlotIndexRow.pinnedBy)=true:=by kernel_rfl
theorem k30:(Rows.layoutSlotIndexRow.veiled==(Tryz.f4.params.toList++Rows.layoutSlotIndexSpec.plain.varTypes Tryz.prog++Tryz.f4.resultTypes.toList).any (Tryz.prog.veiledRec ·))=true:=by kernel_rfl
theorem k31:Rows.layoutSlotIndexRow.veiledFits Tryz.prog Tryz.f4.params.toList (Tryz.f4.params.toList++Rows.layoutSlotIndexSpec.plain.varTypes Tryz.prog++Tryz.f4.resultTypes.toList)=true:=by kernel_rfl
set_option maxRecDepth 100000 in
theorem closed:joinedFacts Tryz.prog 4 Tryz.f4 Rows.layoutSlotIndexSpec Rows.layoutSlotIndexRow=true:=(am (am (am (am (am (am (am (am (am (am (am (am (am (am (am (am (am (am (am (am (am (am (am (am (am (am (am (am (am (am (am k0 k1) k2) k3) k4) k5) k6) k7) k8) k9) k10) k11) k12) k13) k14) k15) k16) k17) k18) k19) k20) k21) k22) k23) k24) k25) k26) k27) k28) k29) k30) k31)
theorem inst:Tryz.f4.isInstance Tryz.prog Rows.layoutSlotIndexRow.origin Rows.layoutSlotIndexRow.targs:=of_decide_eq_true (by kernel_rfl)
theorem named:Tryz.prog.funcNamed Rows.layoutSlotIndexRow.func=some 4:=by kernel_rfl
theorem wrapped:Tryz.f4.isWrapper Tryz.prog Rows.layoutSlotIndexRow.wrapper Rows.layoutSlotIndexRow.mainSum:=by unfold Func.isWrapper; first|(rw [if_pos (by decide+kernel)]; kernel_rfl)|(rw [if_neg (by decide+kernel)]; exact ⟨rfl,rfl⟩)
theorem over:Rows.layoutSlotIndexRow.holds Tryz.pinned (OpenSpec.ofChange Rows.layoutSlotIndexSpec):=
 OpenClaim.holds_of_wide 4 Tryz.f4 rfl rfl rfl rfl rfl rfl rfl ⟨rfl,rfl,rfl,rfl,rfl⟩ rfl rfl rfl rfl rfl named Tryz.func4 closed inst wrapped
  (fun os started H enc _=>lifted os started H enc)
theorem proved:Rows.LayoutSlotIndexSaid:=
 over
#print axioms proved
end Go.Proofs.YtbhghodobphdeaaGreat.layoutSlotIndex
