/-
  The law CallstackTop holds for every input: the function returns true, and Z6u argument reads behind the call as it read before. No condition.
-/
import Derived.Test.YtiogflechpgdiaaGreatCalL8
import Derived.WalkKit
import Derived.ProofKit
import Derived.OpenShut
import Derived.ChangeMaps5
namespace Go.Proofs.YtiogflechpgdiaaGreat.callstackTop
open Go.ChangeShapes Go.WideShapes Go.ChangeAt Go.RowKit Go.ChangeMaps Go.Den
set_option linter.unusedVariables false
theorem own:ownKnob Tryz.prog.godebug=none:=by kernel_rfl
theorem laid:laidOutB Tryz.prog=true:=by kernel_rfl
def wf_156 (y:Z8p):Prop:=(fun s:List UInt8=>s.length≤reachBytes) y.Zbv∧((fun n:Int=>IntKind.min .i64≤n∧n≤IntKind.max .i64) y.f_To∧(True))
theorem rd_156:Z2d Tryz.prog 156 Zdk wf_156:=
 (Z3o (tot:=2) Tryz.underlying156 (by kernel_rfl) (Z0m (n:=1) (Z4b (P:=Tryz.prog) Tryz.underlying9) (by kernel_rfl) (Z0m (n:=1) (Z23 (P:=Tryz.prog) Tryz.underlying3) (by kernel_rfl) Z3n rfl) rfl)).map (fun p:(List UInt8)×(Int×Unit)=>({ Zbv:=p.1,f_To:=p.2.1 }:Z8p)) (fun _=>rfl) (fun _ h=>h)
def wf_151 (ys:List Z8p):Prop:=(∀ y∈ys,wf_156 y)∧ys.length*Tryz.prog.bytesOf 156≤reachBytes
theorem rd_151:Z2d Tryz.prog 151 (fun ys:List Z8p=>[D.sl false (ys.map Zdk)]) wf_151:=Z4i Tryz.underlying151 (row:=Zdk) rd_156 (Nat.lt_of_lt_of_le (by decide:0<1) (Nat.le_of_ble_eq_true (by kernel_rfl)))
def wf_178 (y:Z8j):Prop:=(fun s:List UInt8=>s.length≤reachBytes) y.Z0f∧((fun s:List UInt8=>s.length≤reachBytes) y.Z32∧(True))
theorem rd_178:Z2d Tryz.prog 178 Ze1 wf_178:=
 (Z3o (tot:=2) Tryz.underlying178 (by kernel_rfl) (Z0m (n:=1) (Z4b (P:=Tryz.prog) Tryz.underlying9) (by kernel_rfl) (Z0m (n:=1) (Z4b (P:=Tryz.prog) Tryz.underlying9) (by kernel_rfl) Z3n rfl) rfl)).map (fun p:(List UInt8)×(List UInt8)×Unit=>({ Z0f:=p.1,Z32:=p.2.1 }:Z8j)) (fun _=>rfl) (fun _ h=>h)
def wf_152 (ys:List Z8j):Prop:=(∀ y∈ys,wf_178 y)∧ys.length*Tryz.prog.bytesOf 178≤reachBytes
theorem rd_152:Z2d Tryz.prog 152 (fun ys:List Z8j=>[D.sl false (ys.map Ze1)]) wf_152:=Z4i Tryz.underlying152 (row:=Ze1) rd_178 (Nat.lt_of_lt_of_le (by decide:0<1) (Nat.le_of_ble_eq_true (by kernel_rfl)))
def wf_154 (y:Z18):Prop:=wf_151 y.Z3x∧(wf_152 y.Z3i∧(True))
theorem rd_154:Z2d Tryz.prog 154 Z1w wf_154:=
 (Z3o (tot:=2) Tryz.underlying154 (by kernel_rfl) (Z0m (n:=1) rd_151 (by kernel_rfl) (Z0m (n:=1) rd_152 (by kernel_rfl) Z3n rfl) rfl)).map (fun p:(List Z8p)×(List Z8j)×Unit=>({ Z3x:=p.1,Z3i:=p.2.1 }:Z18)) (fun _=>rfl) (fun _ h=>h)
def wf_22 (ys:List Z18):Prop:=(∀ y∈ys,wf_154 y)∧ys.length*Tryz.prog.bytesOf 154≤reachBytes
theorem rd_22:Z2d Tryz.prog 22 (fun ys:List Z18=>[D.sl false (ys.map Z1w)]) wf_22:=Z4i Tryz.underlying22 (row:=Z1w) rd_154 (Nat.lt_of_lt_of_le (by decide:0<1) (Nat.le_of_ble_eq_true (by kernel_rfl)))
def wf_32 (ys:List (List UInt8)):Prop:=(∀ y∈ys,(fun s:List UInt8=>s.length≤reachBytes) y)∧ys.length*Tryz.prog.bytesOf 9≤reachBytes
theorem rd_32:Z2d Tryz.prog 32 (fun ys:List (List UInt8)=>[D.sl false (ys.map Z2l)]) wf_32:=Z4i Tryz.underlying32 (row:=Z2l) (Z4b (P:=Tryz.prog) Tryz.underlying9) (Nat.lt_of_lt_of_le (by decide:0<1) (Nat.le_of_ble_eq_true (by kernel_rfl)))
def wf_173 (y:Z5r):Prop:=(fun n:Int=>IntKind.min .i64≤n∧n≤IntKind.max .i64) y.Z15∧((fun s:List UInt8=>s.length≤reachBytes) y.Z0f∧((fun s:List UInt8=>s.length≤reachBytes) y.Z2k∧((fun n:Int=>IntKind.min .i64≤n∧n≤IntKind.max .i64) y.Z5s∧((fun n:Int=>IntKind.min .i64≤n∧n≤IntKind.max .i64) y.f_N∧((fun s:List UInt8=>s.length≤reachBytes) y.f_S∧(True))))))
theorem rd_173:Z2d Tryz.prog 173 Z7w wf_173:=
 (Z3o (tot:=6) Tryz.underlying173 (by kernel_rfl) (Z0m (n:=1) (Z23 (P:=Tryz.prog) Tryz.underlying3) (by kernel_rfl) (Z0m (n:=1) (Z4b (P:=Tryz.prog) Tryz.underlying9) (by kernel_rfl) (Z0m (n:=1) (Z4b (P:=Tryz.prog) Tryz.underlying9) (by kernel_rfl) (Z0m (n:=1) (Z23 (P:=Tryz.prog) Tryz.underlying3) (by kernel_rfl) (Z0m (n:=1) (Z23 (P:=Tryz.prog) Tryz.underlying3) (by kernel_rfl) (Z0m (n:=1) (Z4b (P:=Tryz.prog) Tryz.underlying9) (by kernel_rfl) Z3n rfl) rfl) rfl) rfl) rfl) rfl)).map (fun p:Int×(List UInt8)×(List UInt8)×(Int×(Int×(List UInt8)×Unit))=>({ Z15:=p.1,Z0f:=p.2.1,Z2k:=p.2.2.1,Z5s:=p.2.2.2.1,f_N:=p.2.2.2.2.1,f_S:=p.2.2.2.2.2.1 }:Z5r)) (fun _=>rfl) (fun _ h=>h)
def wf_100 (ys:List Z5r):Prop:=(∀ y∈ys,wf_173 y)∧ys.length*Tryz.prog.bytesOf 173≤reachBytes
theorem rd_100:Z2d Tryz.prog 100 (fun ys:List Z5r=>[D.sl false (ys.map Z7w)]) wf_100:=Z4i Tryz.underlying100 (row:=Z7w) rd_173 (Nat.lt_of_lt_of_le (by decide:0<1) (Nat.le_of_ble_eq_true (by kernel_rfl)))
def wf_59 (ys:List Int):Prop:=(∀ y∈ys,(fun n:Int=>IntKind.min .i64≤n∧n≤IntKind.max .i64) y)∧ys.length*Tryz.prog.bytesOf 3≤reachBytes
theorem rd_59:Z2d Tryz.prog 59 (fun ys:List Int=>[D.sl false (ys.map Z03)]) wf_59:=Z4i Tryz.underlying59 (row:=Z03) (Z23 (P:=Tryz.prog) Tryz.underlying3) (Nat.lt_of_lt_of_le (by decide:0<1) (Nat.le_of_ble_eq_true (by kernel_rfl)))
def wf_61 (y:Z1x):Prop:=(fun s:List UInt8=>s.length≤reachBytes) y.Z0p∧((fun s:List UInt8=>s.length≤reachBytes) y.Z0f∧((fun s:List UInt8=>s.length≤reachBytes) y.Z2k∧(True)))
theorem rd_61:Z2d Tryz.prog 61 Zkp wf_61:=
 (Z3o (tot:=3) Tryz.underlying61 (by kernel_rfl) (Z0m (n:=1) (Z4b (P:=Tryz.prog) Tryz.underlying9) (by kernel_rfl) (Z0m (n:=1) (Z4b (P:=Tryz.prog) Tryz.underlying9) (by kernel_rfl) (Z0m (n:=1) (Z4b (P:=Tryz.prog) Tryz.underlying9) (by kernel_rfl) Z3n rfl) rfl) rfl)).map (fun p:(List UInt8)×(List UInt8)×(List UInt8)×Unit=>({ Z0p:=p.1,Z0f:=p.2.1,Z2k:=p.2.2.1 }:Z1x)) (fun _=>rfl) (fun _ h=>h)
def wf_63 (y:Z02):Prop:=(fun n:Int=>IntKind.min .i64≤n∧n≤IntKind.max .i64) y.f_Op∧((fun n:Int=>IntKind.min .i64≤n∧n≤IntKind.max .i64) y.f_A∧((fun n:Int=>IntKind.min .i64≤n∧n≤IntKind.max .i64) y.f_B∧((fun n:Int=>IntKind.min .i64≤n∧n≤IntKind.max .i64) y.f_To∧(wf_59 y.Z0w∧(wf_59 y.Z0c∧(wf_61 y.Z1c∧((fun s:List UInt8=>s.length≤reachBytes) y.f_S∧(True))))))))
theorem rd_63:Z2d Tryz.prog 63 Z0e wf_63:=
 (Z3o (tot:=10) Tryz.underlying63 (by kernel_rfl) (Z0m (n:=1) (Z23 (P:=Tryz.prog) Tryz.underlying3) (by kernel_rfl) (Z0m (n:=1) (Z23 (P:=Tryz.prog) Tryz.underlying3) (by kernel_rfl) (Z0m (n:=1) (Z23 (P:=Tryz.prog) Tryz.underlying3) (by kernel_rfl) (Z0m (n:=1) (Z23 (P:=Tryz.prog) Tryz.underlying3) (by kernel_rfl) (Z0m (n:=1) rd_59 (by kernel_rfl) (Z0m (n:=1) rd_59 (by kernel_rfl) (Z0m (n:=3) rd_61 (by kernel_rfl) (Z0m (n:=1) (Z4b (P:=Tryz.prog) Tryz.underlying9) (by kernel_rfl) Z3n rfl) rfl) rfl) rfl) rfl) rfl) rfl) rfl)).map (fun p:Int×(Int×(Int×(Int×(List Int)×(List Int)×(Z1x×(List UInt8)×Unit))))=>({ f_Op:=p.1,f_A:=p.2.1,f_B:=p.2.2.1,f_To:=p.2.2.2.1,Z0w:=p.2.2.2.2.1,Z0c:=p.2.2.2.2.2.1,Z1c:=p.2.2.2.2.2.2.1,f_S:=p.2.2.2.2.2.2.2.1 }:Z02)) (fun _=>rfl) (fun _ h=>h)
def wf_68 (ys:List Z02):Prop:=(∀ y∈ys,wf_63 y)∧ys.length*Tryz.prog.bytesOf 63≤reachBytes
theorem rd_68:Z2d Tryz.prog 68 (fun ys:List Z02=>[D.sl false (ys.map Z0e)]) wf_68:=Z4i Tryz.underlying68 (row:=Z0e) rd_63 (Nat.lt_of_lt_of_le (by decide:0<1) (Nat.le_of_ble_eq_true (by kernel_rfl)))
def wf_111 (y:Z0o):Prop:=(fun n:Int=>IntKind.min .i64≤n∧n≤IntKind.max .i64) y.Z67∧((fun n:Int=>IntKind.min .i64≤n∧n≤IntKind.max .i64) y.f_To∧((fun n:Int=>IntKind.min .i64≤n∧n≤IntKind.max .i64) y.Z6d∧((fun n:Int=>IntKind.min .i64≤n∧n≤IntKind.max .i64) y.Z0p∧((fun s:List UInt8=>s.length≤reachBytes) y.Z16∧(True)))))
theorem rd_111:Z2d Tryz.prog 111 Z10 wf_111:=
 (Z3o (tot:=5) Tryz.underlying111 (by kernel_rfl) (Z0m (n:=1) (Z23 (P:=Tryz.prog) Tryz.underlying3) (by kernel_rfl) (Z0m (n:=1) (Z23 (P:=Tryz.prog) Tryz.underlying3) (by kernel_rfl) (Z0m (n:=1) (Z23 (P:=Tryz.prog) Tryz.underlying3) (by kernel_rfl) (Z0m (n:=1) (Z23 (P:=Tryz.prog) Tryz.underlying3) (by kernel_rfl) (Z0m (n:=1) (Z4b (P:=Tryz.prog) Tryz.underlying9) (by kernel_rfl) Z3n rfl) rfl) rfl) rfl) rfl)).map (fun p:Int×(Int×(Int×(Int×(List UInt8)×Unit)))=>({ Z67:=p.1,f_To:=p.2.1,Z6d:=p.2.2.1,Z0p:=p.2.2.2.1,Z16:=p.2.2.2.2.1 }:Z0o)) (fun _=>rfl) (fun _ h=>h)
def wf_69 (ys:List Z0o):Prop:=(∀ y∈ys,wf_111 y)∧ys.length*Tryz.prog.bytesOf 111≤reachBytes
theorem rd_69:Z2d Tryz.prog 69 (fun ys:List Z0o=>[D.sl false (ys.map Z10)]) wf_69:=Z4i Tryz.underlying69 (row:=Z10) rd_111 (Nat.lt_of_lt_of_le (by decide:0<1) (Nat.le_of_ble_eq_true (by kernel_rfl)))
def wf_141 (y:Z0j):Prop:=(fun n:Int=>IntKind.min .i64≤n∧n≤IntKind.max .i64) y.Z2m∧((fun n:Int=>IntKind.min .u8≤n∧n≤IntKind.max .u8) y.Z1t∧((fun s:List UInt8=>s.length≤reachBytes) y.Z0f∧(True)))
theorem rd_141:Z2d Tryz.prog 141 Z25 wf_141:=
 (Z3o (tot:=3) Tryz.underlying141 (by kernel_rfl) (Z0m (n:=1) (Z23 (P:=Tryz.prog) Tryz.underlying3) (by kernel_rfl) (Z0m (n:=1) (Z23 (P:=Tryz.prog) Tryz.underlying5) (by kernel_rfl) (Z0m (n:=1) (Z4b (P:=Tryz.prog) Tryz.underlying9) (by kernel_rfl) Z3n rfl) rfl) rfl)).map (fun p:Int×(Int×(List UInt8)×Unit)=>({ Z2m:=p.1,Z1t:=p.2.1,Z0f:=p.2.2.1 }:Z0j)) (fun _=>rfl) (fun _ h=>h)
def wf_150 (y:Z0l):Prop:=(fun n:Int=>IntKind.min .i64≤n∧n≤IntKind.max .i64) y.Z1g∧((fun n:Int=>IntKind.min .i64≤n∧n≤IntKind.max .i64) y.Z41∧(wf_141 y.Z16∧((fun n:Int=>IntKind.min .i64≤n∧n≤IntKind.max .i64) y.Z4f∧(True))))
theorem rd_150:Z2d Tryz.prog 150 Z1j wf_150:=
 (Z3o (tot:=6) Tryz.underlying150 (by kernel_rfl) (Z0m (n:=1) (Z23 (P:=Tryz.prog) Tryz.underlying3) (by kernel_rfl) (Z0m (n:=1) (Z23 (P:=Tryz.prog) Tryz.underlying3) (by kernel_rfl) (Z0m (n:=3) rd_141 (by kernel_rfl) (Z0m (n:=1) (Z23 (P:=Tryz.prog) Tryz.underlying3) (by kernel_rfl) Z3n rfl) rfl) rfl) rfl)).map (fun p:Int×(Int×(Z0j×(Int×Unit)))=>({ Z1g:=p.1,Z41:=p.2.1,Z16:=p.2.2.1,Z4f:=p.2.2.2.1 }:Z0l)) (fun _=>rfl) (fun _ h=>h)
def wf_112 (ys:List Z0l):Prop:=(∀ y∈ys,wf_150 y)∧ys.length*Tryz.prog.bytesOf 150≤reachBytes
theorem rd_112:Z2d Tryz.prog 112 (fun ys:List Z0l=>[D.sl false (ys.map Z1j)]) wf_112:=Z4i Tryz.underlying112 (row:=Z1j) rd_150 (Nat.lt_of_lt_of_le (by decide:0<1) (Nat.le_of_ble_eq_true (by kernel_rfl)))
def wf_114 (y:Z5g):Prop:=wf_112 y.Z0d∧(wf_112 y.Z0g∧((fun _:Bool=>True) y.Z5x∧(True)))
theorem rd_114:Z2d Tryz.prog 114 Zkm wf_114:=
 (Z3o (tot:=3) Tryz.underlying114 (by kernel_rfl) (Z0m (n:=1) rd_112 (by kernel_rfl) (Z0m (n:=1) rd_112 (by kernel_rfl) (Z0m (n:=1) (Zhp (P:=Tryz.prog) Tryz.underlying4) (by kernel_rfl) Z3n rfl) rfl) rfl)).map (fun p:(List Z0l)×(List Z0l)×(Bool×Unit)=>({ Z0d:=p.1,Z0g:=p.2.1,Z5x:=p.2.2.1 }:Z5g)) (fun _=>rfl) (fun _ h=>h)
def wf_116 (y:Z0r):Prop:=(fun n:Int=>IntKind.min .i64≤n∧n≤IntKind.max .i64) y.Z2j∧(wf_114 y.Z1o∧(True))
theorem rd_116:Z2d Tryz.prog 116 Z14 wf_116:=
 (Z3o (tot:=4) Tryz.underlying116 (by kernel_rfl) (Z0m (n:=1) (Z23 (P:=Tryz.prog) Tryz.underlying3) (by kernel_rfl) (Z0m (n:=3) rd_114 (by kernel_rfl) Z3n rfl) rfl)).map (fun p:Int×(Z5g×Unit)=>({ Z2j:=p.1,Z1o:=p.2.1 }:Z0r)) (fun _=>rfl) (fun _ h=>h)
def wf_70 (ys:List Z0r):Prop:=(∀ y∈ys,wf_116 y)∧ys.length*Tryz.prog.bytesOf 116≤reachBytes
theorem rd_70:Z2d Tryz.prog 70 (fun ys:List Z0r=>[D.sl false (ys.map Z14)]) wf_70:=Z4i Tryz.underlying70 (row:=Z14) rd_116 (Nat.lt_of_lt_of_le (by decide:0<1) (Nat.le_of_ble_eq_true (by kernel_rfl)))
def wf_119 (y:Z1a):Prop:=(fun n:Int=>IntKind.min .i64≤n∧n≤IntKind.max .i64) y.Z2j∧((fun n:Int=>IntKind.min .i64≤n∧n≤IntKind.max .i64) y.Z70∧(True))
theorem rd_119:Z2d Tryz.prog 119 Z1l wf_119:=
 (Z3o (tot:=2) Tryz.underlying119 (by kernel_rfl) (Z0m (n:=1) (Z23 (P:=Tryz.prog) Tryz.underlying3) (by kernel_rfl) (Z0m (n:=1) (Z23 (P:=Tryz.prog) Tryz.underlying3) (by kernel_rfl) Z3n rfl) rfl)).map (fun p:Int×(Int×Unit)=>({ Z2j:=p.1,Z70:=p.2.1 }:Z1a)) (fun _=>rfl) (fun _ h=>h)
def wf_71 (ys:List Z1a):Prop:=(∀ y∈ys,wf_119 y)∧ys.length*Tryz.prog.bytesOf 119≤reachBytes
theorem rd_71:Z2d Tryz.prog 71 (fun ys:List Z1a=>[D.sl false (ys.map Z1l)]) wf_71:=Z4i Tryz.underlying71 (row:=Z1l) rd_119 (Nat.lt_of_lt_of_le (by decide:0<1) (Nat.le_of_ble_eq_true (by kernel_rfl)))
def wf_73 (y:Z09):Prop:=(fun n:Int=>IntKind.min .i64≤n∧n≤IntKind.max .i64) y.Z0g∧((fun n:Int=>IntKind.min .i64≤n∧n≤IntKind.max .i64) y.Z0d∧(wf_68 y.Z0k∧(wf_69 y.Z1r∧(wf_70 y.Z1f∧(wf_71 y.Z1k∧(True))))))
theorem rd_73:Z2d Tryz.prog 73 Z0q wf_73:=
 (Z3o (tot:=6) Tryz.underlying73 (by kernel_rfl) (Z0m (n:=1) (Z23 (P:=Tryz.prog) Tryz.underlying3) (by kernel_rfl) (Z0m (n:=1) (Z23 (P:=Tryz.prog) Tryz.underlying3) (by kernel_rfl) (Z0m (n:=1) rd_68 (by kernel_rfl) (Z0m (n:=1) rd_69 (by kernel_rfl) (Z0m (n:=1) rd_70 (by kernel_rfl) (Z0m (n:=1) rd_71 (by kernel_rfl) Z3n rfl) rfl) rfl) rfl) rfl) rfl)).map (fun p:Int×(Int×(List Z02)×(List Z0o)×(List Z0r)×(List Z1a)×Unit)=>({ Z0g:=p.1,Z0d:=p.2.1,Z0k:=p.2.2.1,Z1r:=p.2.2.2.1,Z1f:=p.2.2.2.2.1,Z1k:=p.2.2.2.2.2.1 }:Z09)) (fun _=>rfl) (fun _ h=>h)
def wf_90 (y:Z2f):Prop:=(fun n:Int=>IntKind.min .i64≤n∧n≤IntKind.max .i64) y.Z15∧((fun s:List UInt8=>s.length≤reachBytes) y.Z0f∧((fun s:List UInt8=>s.length≤reachBytes) y.Z2k∧((fun _:Bool=>True) y.Z6c∧(wf_73 y.Z1u∧(wf_32 y.Z6b∧(True))))))
theorem rd_90:Z2d Tryz.prog 90 Z54 wf_90:=
 (Z3o (tot:=11) Tryz.underlying90 (by kernel_rfl) (Z0m (n:=1) (Z23 (P:=Tryz.prog) Tryz.underlying3) (by kernel_rfl) (Z0m (n:=1) (Z4b (P:=Tryz.prog) Tryz.underlying9) (by kernel_rfl) (Z0m (n:=1) (Z4b (P:=Tryz.prog) Tryz.underlying9) (by kernel_rfl) (Z0m (n:=1) (Zhp (P:=Tryz.prog) Tryz.underlying4) (by kernel_rfl) (Z0m (n:=6) rd_73 (by kernel_rfl) (Z0m (n:=1) rd_32 (by kernel_rfl) Z3n rfl) rfl) rfl) rfl) rfl) rfl)).map (fun p:Int×(List UInt8)×(List UInt8)×(Bool×(Z09×(List (List UInt8))×Unit))=>({ Z15:=p.1,Z0f:=p.2.1,Z2k:=p.2.2.1,Z6c:=p.2.2.2.1,Z1u:=p.2.2.2.2.1,Z6b:=p.2.2.2.2.2.1 }:Z2f)) (fun _=>rfl) (fun _ h=>h)
def wf_101 (ys:List Z2f):Prop:=(∀ y∈ys,wf_90 y)∧ys.length*Tryz.prog.bytesOf 90≤reachBytes
theorem rd_101:Z2d Tryz.prog 101 (fun ys:List Z2f=>[D.sl false (ys.map Z54)]) wf_101:=Z4i Tryz.underlying101 (row:=Z54) rd_90 (Nat.lt_of_lt_of_le (by decide:0<1) (Nat.le_of_ble_eq_true (by kernel_rfl)))
def wf_103 (y:Z0y):Prop:=(fun n:Int=>IntKind.min .i64≤n∧n≤IntKind.max .i64) y.Z15∧((fun s:List UInt8=>s.length≤reachBytes) y.Z0f∧((fun s:List UInt8=>s.length≤reachBytes) y.Z24∧(wf_32 y.Z19∧(wf_100 y.Z17∧(wf_101 y.Z0z∧((fun s:List UInt8=>s.length≤reachBytes) y.Z7z∧(True)))))))
theorem rd_103:Z2d Tryz.prog 103 Z2n wf_103:=
 (Z3o (tot:=7) Tryz.underlying103 (by kernel_rfl) (Z0m (n:=1) (Z23 (P:=Tryz.prog) Tryz.underlying3) (by kernel_rfl) (Z0m (n:=1) (Z4b (P:=Tryz.prog) Tryz.underlying9) (by kernel_rfl) (Z0m (n:=1) (Z4b (P:=Tryz.prog) Tryz.underlying9) (by kernel_rfl) (Z0m (n:=1) rd_32 (by kernel_rfl) (Z0m (n:=1) rd_100 (by kernel_rfl) (Z0m (n:=1) rd_101 (by kernel_rfl) (Z0m (n:=1) (Z4b (P:=Tryz.prog) Tryz.underlying9) (by kernel_rfl) Z3n rfl) rfl) rfl) rfl) rfl) rfl) rfl)).map (fun p:Int×(List UInt8)×(List UInt8)×(List (List UInt8))×(List Z5r)×(List Z2f)×(List UInt8)×Unit=>({ Z15:=p.1,Z0f:=p.2.1,Z24:=p.2.2.1,Z19:=p.2.2.2.1,Z17:=p.2.2.2.2.1,Z0z:=p.2.2.2.2.2.1,Z7z:=p.2.2.2.2.2.2.1 }:Z0y)) (fun _=>rfl) (fun _ h=>h)
def wf_105 (y:Z1s):Prop:=(fun n:Int=>IntKind.min .i64≤n∧n≤IntKind.max .i64) y.Z3b∧(wf_103 y.Z1v∧((fun n:Int=>IntKind.min .i64≤n∧n≤IntKind.max .i64) y.Z24∧(wf_59 y.Z19∧((fun n:Int=>IntKind.min .i64≤n∧n≤IntKind.max .i64) y.Z9k∧((fun n:Int=>IntKind.min .i64≤n∧n≤IntKind.max .i64) y.Zcj∧(True))))))
theorem rd_105:Z2d Tryz.prog 105 Z2a wf_105:=
 (Z3o (tot:=12) Tryz.underlying105 (by kernel_rfl) (Z0m (n:=1) (Z23 (P:=Tryz.prog) Tryz.underlying3) (by kernel_rfl) (Z0m (n:=7) rd_103 (by kernel_rfl) (Z0m (n:=1) (Z23 (P:=Tryz.prog) Tryz.underlying3) (by kernel_rfl) (Z0m (n:=1) rd_59 (by kernel_rfl) (Z0m (n:=1) (Z23 (P:=Tryz.prog) Tryz.underlying3) (by kernel_rfl) (Z0m (n:=1) (Z23 (P:=Tryz.prog) Tryz.underlying40) (by kernel_rfl) Z3n rfl) rfl) rfl) rfl) rfl) rfl)).map (fun p:Int×(Z0y×(Int×(List Int)×(Int×(Int×Unit))))=>({ Z3b:=p.1,Z1v:=p.2.1,Z24:=p.2.2.1,Z19:=p.2.2.2.1,Z9k:=p.2.2.2.2.1,Zcj:=p.2.2.2.2.2.1 }:Z1s)) (fun _=>rfl) (fun _ h=>h)
def wf_23 (ys:List Z1s):Prop:=(∀ y∈ys,wf_105 y)∧ys.length*Tryz.prog.bytesOf 105≤reachBytes
theorem rd_23:Z2d Tryz.prog 23 (fun ys:List Z1s=>[D.sl false (ys.map Z2a)]) wf_23:=Z4i Tryz.underlying23 (row:=Z2a) rd_105 (Nat.lt_of_lt_of_le (by decide:0<1) (Nat.le_of_ble_eq_true (by kernel_rfl)))
def wf_133 (y:Z2u):Prop:=(fun n:Int=>IntKind.min .i64≤n∧n≤IntKind.max .i64) y.Z3b∧((fun s:List UInt8=>s.length≤reachBytes) y.Z0f∧((fun n:Int=>IntKind.min .i64≤n∧n≤IntKind.max .i64) y.Z0p∧(True)))
theorem rd_133:Z2d Tryz.prog 133 Z3a wf_133:=
 (Z3o (tot:=3) Tryz.underlying133 (by kernel_rfl) (Z0m (n:=1) (Z23 (P:=Tryz.prog) Tryz.underlying3) (by kernel_rfl) (Z0m (n:=1) (Z4b (P:=Tryz.prog) Tryz.underlying9) (by kernel_rfl) (Z0m (n:=1) (Z23 (P:=Tryz.prog) Tryz.underlying3) (by kernel_rfl) Z3n rfl) rfl) rfl)).map (fun p:Int×(List UInt8)×(Int×Unit)=>({ Z3b:=p.1,Z0f:=p.2.1,Z0p:=p.2.2.1 }:Z2u)) (fun _=>rfl) (fun _ h=>h)
def wf_24 (ys:List Z2u):Prop:=(∀ y∈ys,wf_133 y)∧ys.length*Tryz.prog.bytesOf 133≤reachBytes
theorem rd_24:Z2d Tryz.prog 24 (fun ys:List Z2u=>[D.sl false (ys.map Z3a)]) wf_24:=Z4i Tryz.underlying24 (row:=Z3a) rd_133 (Nat.lt_of_lt_of_le (by decide:0<1) (Nat.le_of_ble_eq_true (by kernel_rfl)))
def wf_122 (y:Z3r):Prop:=(fun s:List UInt8=>s.length≤reachBytes) y.Z0f∧((fun n:Int=>IntKind.min .i64≤n∧n≤IntKind.max .i64) y.f_A∧((fun n:Int=>IntKind.min .i64≤n∧n≤IntKind.max .i64) y.f_B∧(True)))
theorem rd_122:Z2d Tryz.prog 122 Z3e wf_122:=
 (Z3o (tot:=3) Tryz.underlying122 (by kernel_rfl) (Z0m (n:=1) (Z4b (P:=Tryz.prog) Tryz.underlying9) (by kernel_rfl) (Z0m (n:=1) (Z23 (P:=Tryz.prog) Tryz.underlying3) (by kernel_rfl) (Z0m (n:=1) (Z23 (P:=Tryz.prog) Tryz.underlying3) (by kernel_rfl) Z3n rfl) rfl) rfl)).map (fun p:(List UInt8)×(Int×(Int×Unit))=>({ Z0f:=p.1,f_A:=p.2.1,f_B:=p.2.2.1 }:Z3r)) (fun _=>rfl) (fun _ h=>h)
def wf_25 (ys:List Z3r):Prop:=(∀ y∈ys,wf_122 y)∧ys.length*Tryz.prog.bytesOf 122≤reachBytes
theorem rd_25:Z2d Tryz.prog 25 (fun ys:List Z3r=>[D.sl false (ys.map Z3e)]) wf_25:=Z4i Tryz.underlying25 (row:=Z3e) rd_122 (Nat.lt_of_lt_of_le (by decide:0<1) (Nat.le_of_ble_eq_true (by kernel_rfl)))
def wf_27 (y:Z0u):Prop:=wf_22 y.Z1z∧(wf_23 y.Z11∧(wf_24 y.Z28∧(wf_25 y.Z2x∧(True))))
theorem rd_27:Z2d Tryz.prog 27 Z22 wf_27:=
 (Z3o (tot:=4) Tryz.underlying27 (by kernel_rfl) (Z0m (n:=1) rd_22 (by kernel_rfl) (Z0m (n:=1) rd_23 (by kernel_rfl) (Z0m (n:=1) rd_24 (by kernel_rfl) (Z0m (n:=1) rd_25 (by kernel_rfl) Z3n rfl) rfl) rfl) rfl)).map (fun p:(List Z18)×(List Z1s)×(List Z2u)×(List Z3r)×Unit=>({ Z1z:=p.1,Z11:=p.2.1,Z28:=p.2.2.1,Z2x:=p.2.2.2.1 }:Z0u)) (fun _=>rfl) (fun _ h=>h)
def wf_79 (y:Z3m):Prop:=(fun n:Int=>IntKind.min .i64≤n∧n≤IntKind.max .i64) y.Z2m∧((fun n:Int=>IntKind.min .u8≤n∧n≤IntKind.max .u8) y.Z1t∧((fun n:Int=>IntKind.min .i64≤n∧n≤IntKind.max .i64) y.Z0p∧(True)))
theorem rd_79:Z2d Tryz.prog 79 Z7r wf_79:=
 (Z3o (tot:=3) Tryz.underlying79 (by kernel_rfl) (Z0m (n:=1) (Z23 (P:=Tryz.prog) Tryz.underlying3) (by kernel_rfl) (Z0m (n:=1) (Z23 (P:=Tryz.prog) Tryz.underlying5) (by kernel_rfl) (Z0m (n:=1) (Z23 (P:=Tryz.prog) Tryz.underlying3) (by kernel_rfl) Z3n rfl) rfl) rfl)).map (fun p:Int×(Int×(Int×Unit))=>({ Z2m:=p.1,Z1t:=p.2.1,Z0p:=p.2.2.1 }:Z3m)) (fun _=>rfl) (fun _ h=>h)
def wf_56 (y:Z0i):Prop:=(fun n:Int=>IntKind.min .i64≤n∧n≤IntKind.max .i64) y.Z1g∧((fun n:Int=>IntKind.min .i64≤n∧n≤IntKind.max .i64) y.f_N∧(True))
theorem rd_56:Z2d Tryz.prog 56 Z1p wf_56:=
 (Z3o (tot:=2) Tryz.underlying56 (by kernel_rfl) (Z0m (n:=1) (Z23 (P:=Tryz.prog) Tryz.underlying3) (by kernel_rfl) (Z0m (n:=1) (Z23 (P:=Tryz.prog) Tryz.underlying3) (by kernel_rfl) Z3n rfl) rfl)).map (fun p:Int×(Int×Unit)=>({ Z1g:=p.1,f_N:=p.2.1 }:Z0i)) (fun _=>rfl) (fun _ h=>h)
def wf_35 (ys:List Z0i):Prop:=(∀ y∈ys,wf_56 y)∧ys.length*Tryz.prog.bytesOf 56≤reachBytes
theorem rd_35:Z2d Tryz.prog 35 (fun ys:List Z0i=>[D.sl false (ys.map Z1p)]) wf_35:=Z4i Tryz.underlying35 (row:=Z1p) rd_56 (Nat.lt_of_lt_of_le (by decide:0<1) (Nat.le_of_ble_eq_true (by kernel_rfl)))
def wf_81 (y:Z2h):Prop:=(fun n:Int=>IntKind.min .i64≤n∧n≤IntKind.max .i64) y.Z1g∧(wf_79 y.Z16∧(wf_35 y.Z4x∧((fun s:List UInt8=>s.length≤reachBytes) y.Z3q∧((fun n:Int=>IntKind.min .i64≤n∧n≤IntKind.max .i64) y.Z7g∧((fun n:Int=>IntKind.min .i64≤n∧n≤IntKind.max .i64) y.Z36∧(wf_59 y.Z57∧(True)))))))
theorem rd_81:Z2d Tryz.prog 81 Z2t wf_81:=
 (Z3o (tot:=9) Tryz.underlying81 (by kernel_rfl) (Z0m (n:=1) (Z23 (P:=Tryz.prog) Tryz.underlying3) (by kernel_rfl) (Z0m (n:=3) rd_79 (by kernel_rfl) (Z0m (n:=1) rd_35 (by kernel_rfl) (Z0m (n:=1) (Z4b (P:=Tryz.prog) Tryz.underlying9) (by kernel_rfl) (Z0m (n:=1) (Z23 (P:=Tryz.prog) Tryz.underlying3) (by kernel_rfl) (Z0m (n:=1) (Z23 (P:=Tryz.prog) Tryz.underlying3) (by kernel_rfl) (Z0m (n:=1) rd_59 (by kernel_rfl) Z3n rfl) rfl) rfl) rfl) rfl) rfl) rfl)).map (fun p:Int×(Z3m×(List Z0i)×(List UInt8)×(Int×(Int×(List Int)×Unit)))=>({ Z1g:=p.1,Z16:=p.2.1,Z4x:=p.2.2.1,Z3q:=p.2.2.2.1,Z7g:=p.2.2.2.2.1,Z36:=p.2.2.2.2.2.1,Z57:=p.2.2.2.2.2.2.1 }:Z2h)) (fun _=>rfl) (fun _ h=>h)
def wf_28 (ys:List Z2h):Prop:=(∀ y∈ys,wf_81 y)∧ys.length*Tryz.prog.bytesOf 81≤reachBytes
theorem rd_28:Z2d Tryz.prog 28 (fun ys:List Z2h=>[D.sl false (ys.map Z2t)]) wf_28:=Z4i Tryz.underlying28 (row:=Z2t) rd_81 (Nat.lt_of_lt_of_le (by decide:0<1) (Nat.le_of_ble_eq_true (by kernel_rfl)))
def wf_129 (y:Z3j):Prop:=(fun n:Int=>IntKind.min .i64≤n∧n≤IntKind.max .i64) y.Z2p∧((fun n:Int=>IntKind.min .i64≤n∧n≤IntKind.max .i64) y.Z9h∧(wf_35 y.Z7p∧(True)))
theorem rd_129:Z2d Tryz.prog 129 Z2z wf_129:=
 (Z3o (tot:=3) Tryz.underlying129 (by kernel_rfl) (Z0m (n:=1) (Z23 (P:=Tryz.prog) Tryz.underlying3) (by kernel_rfl) (Z0m (n:=1) (Z23 (P:=Tryz.prog) Tryz.underlying3) (by kernel_rfl) (Z0m (n:=1) rd_35 (by kernel_rfl) Z3n rfl) rfl) rfl)).map (fun p:Int×(Int×(List Z0i)×Unit)=>({ Z2p:=p.1,Z9h:=p.2.1,Z7p:=p.2.2.1 }:Z3j)) (fun _=>rfl) (fun _ h=>h)
def wf_29 (ys:List Z3j):Prop:=(∀ y∈ys,wf_129 y)∧ys.length*Tryz.prog.bytesOf 129≤reachBytes
theorem rd_29:Z2d Tryz.prog 29 (fun ys:List Z3j=>[D.sl false (ys.map Z2z)]) wf_29:=Z4i Tryz.underlying29 (row:=Z2z) rd_129 (Nat.lt_of_lt_of_le (by decide:0<1) (Nat.le_of_ble_eq_true (by kernel_rfl)))
def wf_126 (y:Z4k):Prop:=(fun s:List UInt8=>s.length≤reachBytes) y.Z3q∧((fun n:Int=>IntKind.min .i64≤n∧n≤IntKind.max .i64) y.Z3f∧(True))
theorem rd_126:Z2d Tryz.prog 126 Z3t wf_126:=
 (Z3o (tot:=2) Tryz.underlying126 (by kernel_rfl) (Z0m (n:=1) (Z4b (P:=Tryz.prog) Tryz.underlying9) (by kernel_rfl) (Z0m (n:=1) (Z23 (P:=Tryz.prog) Tryz.underlying3) (by kernel_rfl) Z3n rfl) rfl)).map (fun p:(List UInt8)×(Int×Unit)=>({ Z3q:=p.1,Z3f:=p.2.1 }:Z4k)) (fun _=>rfl) (fun _ h=>h)
def wf_30 (ys:List Z4k):Prop:=(∀ y∈ys,wf_126 y)∧ys.length*Tryz.prog.bytesOf 126≤reachBytes
theorem rd_30:Z2d Tryz.prog 30 (fun ys:List Z4k=>[D.sl false (ys.map Z3t)]) wf_30:=Z4i Tryz.underlying30 (row:=Z3t) rd_126 (Nat.lt_of_lt_of_le (by decide:0<1) (Nat.le_of_ble_eq_true (by kernel_rfl)))
def wf_37 (y:Z0v):Prop:=(fun n:Int=>IntKind.min .i64≤n∧n≤IntKind.max .i64) y.Z0p∧((fun n:Int=>IntKind.min .i64≤n∧n≤IntKind.max .i64) y.Z34∧((fun n:Int=>IntKind.min .i64≤n∧n≤IntKind.max .i64) y.f_PC∧(wf_35 y.Z0d∧(wf_35 y.Z0g∧((fun n:Int=>IntKind.min .i64≤n∧n≤IntKind.max .i64) y.Z62∧((fun _:Bool=>True) y.Z6e∧((fun _:Bool=>True) y.Z85∧(True))))))))
theorem rd_37:Z2d Tryz.prog 37 Z26 wf_37:=
 (Z3o (tot:=8) Tryz.underlying37 (by kernel_rfl) (Z0m (n:=1) (Z23 (P:=Tryz.prog) Tryz.underlying3) (by kernel_rfl) (Z0m (n:=1) (Z23 (P:=Tryz.prog) Tryz.underlying3) (by kernel_rfl) (Z0m (n:=1) (Z23 (P:=Tryz.prog) Tryz.underlying3) (by kernel_rfl) (Z0m (n:=1) rd_35 (by kernel_rfl) (Z0m (n:=1) rd_35 (by kernel_rfl) (Z0m (n:=1) (Z23 (P:=Tryz.prog) Tryz.underlying3) (by kernel_rfl) (Z0m (n:=1) (Zhp (P:=Tryz.prog) Tryz.underlying4) (by kernel_rfl) (Z0m (n:=1) (Zhp (P:=Tryz.prog) Tryz.underlying4) (by kernel_rfl) Z3n rfl) rfl) rfl) rfl) rfl) rfl) rfl) rfl)).map (fun p:Int×(Int×(Int×(List Z0i)×(List Z0i)×(Int×(Bool×(Bool×Unit)))))=>({ Z0p:=p.1,Z34:=p.2.1,f_PC:=p.2.2.1,Z0d:=p.2.2.2.1,Z0g:=p.2.2.2.2.1,Z62:=p.2.2.2.2.2.1,Z6e:=p.2.2.2.2.2.2.1,Z85:=p.2.2.2.2.2.2.2.1 }:Z0v)) (fun _=>rfl) (fun _ h=>h)
def wf_85 (ys:List Z0v):Prop:=(∀ y∈ys,wf_37 y)∧ys.length*Tryz.prog.bytesOf 37≤reachBytes
theorem rd_85:Z2d Tryz.prog 85 (fun ys:List Z0v=>[D.sl false (ys.map Z26)]) wf_85:=Z4i Tryz.underlying85 (row:=Z26) rd_37 (Nat.lt_of_lt_of_le (by decide:0<1) (Nat.le_of_ble_eq_true (by kernel_rfl)))
def wf_87 (y:Z1h):Prop:=(fun n:Int=>IntKind.min .i64≤n∧n≤IntKind.max .i64) y.Z2p∧((fun n:Int=>IntKind.min .i64≤n∧n≤IntKind.max .i64) y.Z3y∧((fun n:Int=>IntKind.min .i64≤n∧n≤IntKind.max .i64) y.Z36∧(wf_85 y.Z12∧((fun n:Int=>IntKind.min .i64≤n∧n≤IntKind.max .i64) y.Z3f∧((fun n:Int=>IntKind.min .i64≤n∧n≤IntKind.max .i64) y.Z4q∧(wf_56 y.Z3d∧(True)))))))
theorem rd_87:Z2d Tryz.prog 87 Z2c wf_87:=
 (Z3o (tot:=8) Tryz.underlying87 (by kernel_rfl) (Z0m (n:=1) (Z23 (P:=Tryz.prog) Tryz.underlying3) (by kernel_rfl) (Z0m (n:=1) (Z23 (P:=Tryz.prog) Tryz.underlying3) (by kernel_rfl) (Z0m (n:=1) (Z23 (P:=Tryz.prog) Tryz.underlying3) (by kernel_rfl) (Z0m (n:=1) rd_85 (by kernel_rfl) (Z0m (n:=1) (Z23 (P:=Tryz.prog) Tryz.underlying3) (by kernel_rfl) (Z0m (n:=1) (Z23 (P:=Tryz.prog) Tryz.underlying3) (by kernel_rfl) (Z0m (n:=2) rd_56 (by kernel_rfl) Z3n rfl) rfl) rfl) rfl) rfl) rfl) rfl)).map (fun p:Int×(Int×(Int×(List Z0v)×(Int×(Int×(Z0i×Unit)))))=>({ Z2p:=p.1,Z3y:=p.2.1,Z36:=p.2.2.1,Z12:=p.2.2.2.1,Z3f:=p.2.2.2.2.1,Z4q:=p.2.2.2.2.2.1,Z3d:=p.2.2.2.2.2.2.1 }:Z1h)) (fun _=>rfl) (fun _ h=>h)
def wf_31 (ys:List Z1h):Prop:=(∀ y∈ys,wf_87 y)∧ys.length*Tryz.prog.bytesOf 87≤reachBytes
theorem rd_31:Z2d Tryz.prog 31 (fun ys:List Z1h=>[D.sl false (ys.map Z2c)]) wf_31:=Z4i Tryz.underlying31 (row:=Z2c) rd_87 (Nat.lt_of_lt_of_le (by decide:0<1) (Nat.le_of_ble_eq_true (by kernel_rfl)))
def wf_34 (y:Z0a):Prop:=wf_27 y.Z0x∧((fun n:Int=>IntKind.min .i64≤n∧n≤IntKind.max .i64) y.Z4s∧(wf_28 y.Z1n∧(wf_29 y.Z3l∧(wf_30 y.Z31∧(wf_31 y.Z13∧(wf_32 y.Z42∧(True)))))))
theorem rd_34:Z2d Tryz.prog 34 Z0s wf_34:=
 (Z3o (tot:=10) Tryz.underlying34 (by kernel_rfl) (Z0m (n:=4) rd_27 (by kernel_rfl) (Z0m (n:=1) (Z23 (P:=Tryz.prog) Tryz.underlying3) (by kernel_rfl) (Z0m (n:=1) rd_28 (by kernel_rfl) (Z0m (n:=1) rd_29 (by kernel_rfl) (Z0m (n:=1) rd_30 (by kernel_rfl) (Z0m (n:=1) rd_31 (by kernel_rfl) (Z0m (n:=1) rd_32 (by kernel_rfl) Z3n rfl) rfl) rfl) rfl) rfl) rfl) rfl)).map (fun p:Z0u×(Int×(List Z2h)×(List Z3j)×(List Z4k)×(List Z1h)×(List (List UInt8))×Unit)=>({ Z0x:=p.1,Z4s:=p.2.1,Z1n:=p.2.2.1,Z3l:=p.2.2.2.1,Z31:=p.2.2.2.2.1,Z13:=p.2.2.2.2.2.1,Z42:=p.2.2.2.2.2.2.1 }:Z0a)) (fun _=>rfl) (fun _ h=>h)
theorem rlS {n:Nat} (h:n≤reachBytes):n≤4503599627370496:=Nat.le_trans h (by decide)
theorem rlB {n b k:Nat} (e:b=k) (h:n*b≤reachBytes):n*k≤140737488355328:=by have:=Zuu h; rw [e] at this; omega
theorem rlN {n b:Nat} (e:1≤b) (h:n*b≤reachBytes):n≤140737488355328:=Nat.le_trans (Nat.le_trans (Nat.le_of_eq (Nat.mul_one n).symm) (Nat.mul_le_mul_left n e)) (by have:=Zuu h; omega)
theorem ws_T_api_Ref {y:Z1x} (h:wf_61 y):WRef y:=⟨rlS h.1,rlS h.2.1,rlS h.2.2.1⟩
theorem ws_T_api_Insn {y:Z02} (h:wf_63 y):Z39 y:=⟨rlB (by kernel_rfl) h.2.2.2.2.1.2,rlB (by kernel_rfl) h.2.2.2.2.2.1.2,ws_T_api_Ref h.2.2.2.2.2.2.1,rlS h.2.2.2.2.2.2.2.1⟩
theorem ws_T_api_Frame {y:Z5g} (h:wf_114 y):Z96 y:=⟨fun v hv=>rlS (h.1.1 v hv).2.2.1.2.2.1,rlB (by kernel_rfl) h.1.2,fun v hv=>rlS (h.2.1.1 v hv).2.2.1.2.2.1,rlB (by kernel_rfl) h.2.1.2⟩
theorem ws_T_api_Code {y:Z09} (h:wf_73 y):Z5m y:=⟨fun v hv=>ws_T_api_Insn (h.2.2.1.1 v hv),rlB (by kernel_rfl) h.2.2.1.2,fun v hv=>rlS (h.2.2.2.1.1 v hv).2.2.2.2.1,rlB (by kernel_rfl) h.2.2.2.1.2,fun v hv=>ws_T_api_Frame (h.2.2.2.2.1.1 v hv).2.1,rlB (by kernel_rfl) h.2.2.2.2.1.2,rlB (by kernel_rfl) h.2.2.2.2.2.1.2⟩
theorem ws_T_api_Method {y:Z2f} (h:wf_90 y):Zad y:=⟨rlS h.2.1,rlS h.2.2.1,ws_T_api_Code h.2.2.2.2.1,fun v hv=>rlS (h.2.2.2.2.2.1.1 v hv),rlB (by kernel_rfl) h.2.2.2.2.2.1.2⟩
theorem ws_T_api_Field {y:Z5r} (h:wf_173 y):Zt2 y:=⟨rlS h.2.1,rlS h.2.2.1,rlS h.2.2.2.2.2.1⟩
theorem ws_T_api_ClassModel {y:Z0y} (h:wf_103 y):Z5f y:=⟨rlS h.2.1,rlS h.2.2.1,fun v hv=>rlS (h.2.2.2.1.1 v hv),rlB (by kernel_rfl) h.2.2.2.1.2,fun v hv=>ws_T_api_Field (h.2.2.2.2.1.1 v hv),rlB (by kernel_rfl) h.2.2.2.2.1.2,fun v hv=>ws_T_api_Method (h.2.2.2.2.2.1.1 v hv),rlB (by kernel_rfl) h.2.2.2.2.2.1.2,rlS h.2.2.2.2.2.2.1⟩
theorem ws_T_api_Loader {y:Z18} (h:wf_154 y):Z78 y:=⟨fun v hv=>rlS (h.1.1 v hv).1,rlN (Nat.le_of_ble_eq_true (by kernel_rfl)) h.1.2,fun v hv=>rlS (h.2.1.1 v hv).1,rlN (Nat.le_of_ble_eq_true (by kernel_rfl)) h.2.1.2⟩
theorem ws_T_api_ClassSpace {y:Z0u} (h:wf_27 y):Z5d y:=⟨fun v hv=>ws_T_api_Loader (h.1.1 v hv),rlN (Nat.le_of_ble_eq_true (by kernel_rfl)) h.1.2,fun v hv=>⟨ws_T_api_ClassModel (h.2.1.1 v hv).2.1,rlN (Nat.le_of_ble_eq_true (by kernel_rfl)) (h.2.1.1 v hv).2.2.2.1.2⟩,rlN (Nat.le_of_ble_eq_true (by kernel_rfl)) h.2.1.2,fun v hv=>rlS (h.2.2.1.1 v hv).2.1,rlN (Nat.le_of_ble_eq_true (by kernel_rfl)) h.2.2.1.2,fun v hv=>rlS (h.2.2.2.1.1 v hv).1,rlN (Nat.le_of_ble_eq_true (by kernel_rfl)) h.2.2.2.1.2⟩
theorem ws_T_api_Object {y:Z2h} (h:wf_81 y):WObj y:=⟨rlN (Nat.le_of_ble_eq_true (by kernel_rfl)) h.2.2.1.2,rlS h.2.2.2.1,rlN (Nat.le_of_ble_eq_true (by kernel_rfl)) h.2.2.2.2.2.2.1.2⟩
theorem ws_T_api_Activation {y:Z0v} (h:wf_37 y):Z6h y:=⟨rlN (Nat.le_of_ble_eq_true (by kernel_rfl)) h.2.2.2.1.2,rlN (Nat.le_of_ble_eq_true (by kernel_rfl)) h.2.2.2.2.1.2⟩
theorem ws_T_api_Machine {y:Z0a} (h:wf_34 y):Z48 y:=⟨ws_T_api_ClassSpace h.1,fun v hv=>ws_T_api_Object (h.2.2.1.1 v hv),rlN (Nat.le_of_ble_eq_true (by kernel_rfl)) h.2.2.1.2,fun v hv=>rlN (Nat.le_of_ble_eq_true (by kernel_rfl)) (h.2.2.2.1.1 v hv).2.2.1.2,rlN (Nat.le_of_ble_eq_true (by kernel_rfl)) h.2.2.2.1.2,fun v hv=>rlS (h.2.2.2.2.1.1 v hv).1,rlN (Nat.le_of_ble_eq_true (by kernel_rfl)) h.2.2.2.2.1.2,fun v hv=>⟨fun a ha=>ws_T_api_Activation ((h.2.2.2.2.2.1.1 v hv).2.2.2.1.1 a ha),rlN (Nat.le_of_ble_eq_true (by kernel_rfl)) (h.2.2.2.2.2.1.1 v hv).2.2.2.1.2⟩,rlN (Nat.le_of_ble_eq_true (by kernel_rfl)) h.2.2.2.2.2.1.2,rlN (Nat.le_of_ble_eq_true (by kernel_rfl)) h.2.2.2.2.2.2.1.2⟩
set_option maxRecDepth 100000 in
theorem lifted (os:Os) (started:os.Started) (H:Type) (enc:TypeId×Value→H):
  ReturnsInHanded {} Tryz.checked os 6 .any (Rows.callstackTopSpec.pre6 enc Tryz.prog Tryz.f6 Rows.callstackTopRow.domain false) (Rows.callstackTopSpec.post enc Tryz.prog Tryz.f6 false true false false):=by
 refine returnsInHanded_of_change_sized (C:=Tryz.checked) own started (by kernel_rfl) Tryz.func6
  (ChangeSpec.witness6 (enc:=enc) (C:=Tryz.checked) false ⟨#[],#[.agg #[.slice none 0 0,.slice none 0 0,.slice none 0 0,.slice none 0 0,.int .i64 0,.slice none 0 0,.slice none 0 0,.slice none 0 0,.slice none 0 0,.slice none 0 0],.int .i64 0,.agg #[.int .i64 0,.int .i64 0,.int .i64 0,.slice none 0 0,.slice none 0 0,.int .i64 0,.bool false,.bool false]],[]⟩ 8 (by kernel_rfl) (by kernel_rfl) (by kernel_rfl) (by kernel_rfl)) ?_
 intro W base args ds gs before hval0 hW hcnd hsz _
 have hval:∀ (j:Nat) t v,Tryz.f6.params[j]?=some t→args[j]?=some v→Value.okWide Tryz.prog W .any base t v:=hval0
 have hW':=hW
 obtain ⟨p,q,hA0,hV,rfl,hfz,hnd⟩:=hW
 have hA:DataW.TrodAll enc Tryz.prog W 0 (fun _=>true) true Tryz.f6.params.toList args.toList ds p:=hA0
 rw [Tryz.params6] at hA hval
 obtain ⟨v0,vs0,d0,ds0,p0,q0,hargs,rfl,rfl,h0,r0⟩:=trodAll_cons hA
 obtain ⟨v1,vs1,d1,ds1,p1,q1,rfl,rfl,rfl,h1,r1⟩:=trodAll_cons r0
 obtain ⟨v2,vs2,d2,ds2,p2,q2,rfl,rfl,rfl,h2,r2⟩:=trodAll_cons r1
 obtain ⟨rfl,rfl,rfl⟩:=trodAll_nil r2
 obtain rfl:args= #[v0,v1,v2] :=by cases args; simp_all
 obtain ⟨rfl,rfl⟩:=trodVars_none hV
 have hsz2:(DataW.weightsEach Tryz.prog (Tryz.f6.params.toList++[]) ([d0,d1,d2]++[])).all (· ≤reachBytes)=true:=hsz
 rw [Tryz.params6] at hsz2
 simp only [List.append_nil,DataW.weightsEach,List.all_append,Bool.and_eq_true] at hsz2
 obtain ⟨z0,z1,z2⟩:=hsz2
 obtain ⟨y0,c0,g0⟩:=Y4n (M:=Z8c.reach Tryz.prog) Tryz.underlying34 rd_34 (hval 0 34 v0 rfl rfl) h0 z0
 obtain ⟨_,rfl⟩:=okWide_int Tryz.underlying3 (hval 1 3 v1 rfl rfl)
 obtain ⟨y1,c1,g1⟩:=arg_one (M:=Z8c.reach Tryz.prog) (f:=(fun n:Int=>D.int .i64 n)) (Z23 (P:=Tryz.prog) Tryz.underlying3) rfl h1 z1
 obtain ⟨y2,c2,g2⟩:=Y4n (M:=Z8c.reach Tryz.prog) Tryz.underlying37 rd_37 (hval 2 37 v2 rfl rfl) h2 z2
 exact Y8l (P:=Tryz.prog) (fn:=Tryz.f6) (tb:=4) rfl (by kernel_rfl) Tryz.underlying4 laid (by kernel_rfl) hW' rfl (.cons c0 (.cons c1 (.cons c2 .nil))) (w6 (Y61 y0 (ws_T_api_Machine g0) y1 y2))
theorem am {a b:Bool} (h:a=true) (g:b=true):(a&&b)=true:=by rw [h,g]; rfl
theorem k0:Rows.callstackTopRow.wf (OpenSpec.ofChange Rows.callstackTopSpec)=true:=by kernel_rfl
theorem k1:laidOutB Tryz.prog=true:=by kernel_rfl
theorem k2:mapsRowed Tryz.prog=true:=by kernel_rfl
theorem k3:Tryz.f6.params.all (Tryz.prog.readableRec ·)=true:=by kernel_rfl
theorem k4:namedTie Tryz.prog Rows.callstackTopRow.named Rows.callstackTopSpec.vars=true:=by kernel_rfl
theorem k5:(Rows.callstackTopRow.stops==[])=true:=by kernel_rfl
theorem k6:(Tryz.prog.stops==[])=true:=by kernel_rfl
theorem k7:(Rows.callstackTopRow.knobs==[])=true:=by kernel_rfl
theorem k8:(Tryz.prog.stopKnobs==[])=true:=by kernel_rfl
theorem k9:(Rows.callstackTopRow.inPlace==Tryz.prog.inPlace 6)=true:=by kernel_rfl
theorem k10:(Rows.callstackTopRow.unfollowed==Tryz.prog.unfollowed 6)=true:=by kernel_rfl
theorem k11:(Rows.callstackTopRow.recurses==Tryz.prog.recurses 6)=true:=by kernel_rfl
theorem k12:(Rows.callstackTopRow.named==Tryz.prog.varsNamed 6)=true:=by kernel_rfl
theorem k13:(Rows.callstackTopRow.maps==(Tryz.f6.params.toList++Rows.callstackTopSpec.plain.varTypes Tryz.prog).any (Tryz.prog.mapsRec ·))=true:=by kernel_rfl
theorem k14:(Rows.callstackTopRow.ifaces==(Tryz.f6.params.toList++Rows.callstackTopSpec.plain.varTypes Tryz.prog).any (Tryz.prog.ifacesRec ·))=true:=by kernel_rfl
theorem k15:(Rows.callstackTopRow.mapsOut==Tryz.prog.mapsAmong Tryz.f6.resultTypes.toList)=true:=by kernel_rfl
theorem k16:(Rows.callstackTopRow.loops==(Tryz.f6.params.toList++Rows.callstackTopSpec.plain.varTypes Tryz.prog).any (Tryz.prog.loopsFrom ·))=true:=by kernel_rfl
theorem k17:(Rows.callstackTopRow.wideKeys==(Tryz.f6.params.toList++Rows.callstackTopSpec.plain.varTypes Tryz.prog++Tryz.f6.resultTypes.toList).any (Tryz.prog.wideKeysFrom ·))=true:=by kernel_rfl
theorem k18:Rows.callstackTopSpec.vars.all (Tryz.prog.varReadable ·)=true:=by kernel_rfl
theorem k19:Tryz.f6.resultTypes.all (fun t=>Tryz.prog.readableRec t&&decide (t<Tryz.prog.types.size))=true:=by kernel_rfl
theorem k20:(Rows.callstackTopRow.ifacesOut==Tryz.f6.resultTypes.toList.any (Tryz.prog.ifacesRec ·))=true:=by kernel_rfl
theorem k21:(Rows.callstackTopRow.loopsOut==Tryz.f6.resultTypes.toList.any (Tryz.prog.loopsFrom ·))=true:=by kernel_rfl
theorem k22:(Rows.callstackTopRow.plainKeys==Tryz.prog.plainKeys)=true:=by kernel_rfl
theorem k23:Rows.callstackTopRow.shortTexts.isNone=true:=by kernel_rfl
theorem k24:Tryz.prog.stopsHeard=true:=by kernel_rfl
theorem k25:Tryz.prog.mayEnter=true:=by kernel_rfl
theorem k26:(Rows.callstackTopRow.lifted==Tryz.prog.liftsFinal)=true:=by kernel_rfl
theorem k27:(Tryz.prog.make==some Rows.callstackTopRow.make)=true:=by kernel_rfl
theorem k28:(Rows.callstackTopRow.kinds==(if Rows.callstackTopRow.domain.isEmpty then [] else Tryz.f6.params.toList.map fun t=>match Tryz.prog.underlying t with|some (.int k)=>some k|_=>none))=true:=by kernel_rfl
theorem k29:(Rows.callstackTopRow.pinned==Rows.callstackTopRow.pinnedBy)=true:=by kernel_rfl
theorem k30:(Rows.callstackTopRow.veiled==(Tryz.f6.params.toList++Rows.callstackTopSpec.plain.varTypes Tryz.prog++Tryz.f6.resultTypes.toList).any (Tryz.prog.veiledRec ·))=true:=by kernel_rfl
theorem k31:Rows.callstackTopRow.veiledFits Tryz.prog Tryz.f6.params.toList (Tryz.f6.params.toList++Rows.callstackTopSpec.plain.varTypes Tryz.prog++Tryz.f6.resultTypes.toList)=true:=by kernel_rfl
set_option maxRecDepth 100000 in
theorem closed:joinedFacts Tryz.prog 6 Tryz.f6 Rows.callstackTopSpec Rows.callstackTopRow=true:=(am (am (am (am (am (am (am (am (am (am (am (am (am (am (am (am (am (am (am (am (am (am (am (am (am (am (am (am (am (am (am k0 k1) k2) k3) k4) k5) k6) k7) k8) k9) k10) k11) k12) k13) k14) k15) k16) k17) k18) k19) k20) k21) k22) k23) k24) k25) k26) k27) k28) k29) k30) k31)
theorem inst:Tryz.f6.isInstance Tryz.prog Rows.callstackTopRow.origin Rows.callstackTopRow.targs:=of_decide_eq_true (by kernel_rfl)
theorem named:Tryz.prog.funcNamed Rows.callstackTopRow.func=some 6:=by kernel_rfl
theorem wrapped:Tryz.f6.isWrapper Tryz.prog Rows.callstackTopRow.wrapper Rows.callstackTopRow.mainSum:=by unfold Func.isWrapper; first|(rw [if_pos (by decide+kernel)]; kernel_rfl)|(rw [if_neg (by decide+kernel)]; exact ⟨rfl,rfl⟩)
theorem over:Rows.callstackTopRow.holds Tryz.pinned (OpenSpec.ofChange Rows.callstackTopSpec):=
 OpenClaim.holds_of_wide 6 Tryz.f6 rfl rfl rfl rfl rfl rfl rfl ⟨rfl,rfl,rfl,rfl,rfl⟩ rfl rfl rfl rfl rfl named Tryz.func6 closed inst wrapped
  (fun os started H enc _=>lifted os started H enc)
theorem proved:Rows.CallstackTopSaid:=
 over
#print axioms proved
end Go.Proofs.YtiogflechpgdiaaGreat.callstackTop
