/-
  The law ConstraintConsistent holds for every input: the function returns true, and Z5w argument reads behind the call as it read before. No condition.
-/
import Derived.Test.YtoijcliccgjolaaGreatConW
import Derived.WalkKit
import Derived.ProofKit
import Derived.OpenShut
import Derived.ChangeMaps5
namespace Go.Proofs.YtoijcliccgjolaaGreat.constraintConsistent
open Go.ChangeShapes Go.WideShapes Go.ChangeAt Go.RowKit Go.ChangeMaps Go.Den
set_option linter.unusedVariables false
theorem own : ownKnob Tryz.prog.godebug = none:=by kernel_rfl
theorem laid : laidOutB Tryz.prog = true:=by kernel_rfl
def wf_69 (y : Z5q) : Prop:=(fun s : List UInt8=>s.length ≤ reachBytes) y.Zje ∧ ((fun n : Int=>IntKind.min .i64 ≤ n ∧ n ≤ IntKind.max .i64) y.f_To ∧ (True))
theorem rd_69 : Z2e Tryz.prog 69 Ze4 wf_69:=
 (Z3r (tot:=2) Tryz.underlying69 (by kernel_rfl) (Z15 (n:=1) (Z3o (P:=Tryz.prog) Tryz.underlying9) (by kernel_rfl) (Z15 (n:=1) (Z2g (P:=Tryz.prog) Tryz.underlying3) (by kernel_rfl) Z3p rfl) rfl)).map (fun p : (List UInt8) × (Int × Unit)=>({ Zje:=p.1,f_To:=p.2.1 } : Z5q)) (fun _=>rfl) (fun _ h=>h)
def wf_64 (ys : List Z5q) : Prop:=(∀ y ∈ ys,wf_69 y) ∧ ys.length * Tryz.prog.bytesOf 69 ≤ reachBytes
theorem rd_64 : Z2e Tryz.prog 64 (fun ys : List Z5q=>[D.sl false (ys.map Ze4)]) wf_64:=Z4z Tryz.underlying64 (row:=Ze4) rd_69 (Nat.lt_of_lt_of_le (by decide : 0 < 1) (Nat.le_of_ble_eq_true (by kernel_rfl)))
def wf_86 (y : Z5o) : Prop:=(fun s : List UInt8=>s.length ≤ reachBytes) y.Z03 ∧ ((fun s : List UInt8=>s.length ≤ reachBytes) y.Z23 ∧ (True))
theorem rd_86 : Z2e Tryz.prog 86 Zcn wf_86:=
 (Z3r (tot:=2) Tryz.underlying86 (by kernel_rfl) (Z15 (n:=1) (Z3o (P:=Tryz.prog) Tryz.underlying9) (by kernel_rfl) (Z15 (n:=1) (Z3o (P:=Tryz.prog) Tryz.underlying9) (by kernel_rfl) Z3p rfl) rfl)).map (fun p : (List UInt8) × (List UInt8) × Unit=>({ Z03:=p.1,Z23:=p.2.1 } : Z5o)) (fun _=>rfl) (fun _ h=>h)
def wf_65 (ys : List Z5o) : Prop:=(∀ y ∈ ys,wf_86 y) ∧ ys.length * Tryz.prog.bytesOf 86 ≤ reachBytes
theorem rd_65 : Z2e Tryz.prog 65 (fun ys : List Z5o=>[D.sl false (ys.map Zcn)]) wf_65:=Z4z Tryz.underlying65 (row:=Zcn) rd_86 (Nat.lt_of_lt_of_le (by decide : 0 < 1) (Nat.le_of_ble_eq_true (by kernel_rfl)))
def wf_67 (y : Z1j) : Prop:=wf_64 y.Z4c ∧ (wf_65 y.Z34 ∧ (True))
theorem rd_67 : Z2e Tryz.prog 67 Z2x wf_67:=
 (Z3r (tot:=2) Tryz.underlying67 (by kernel_rfl) (Z15 (n:=1) rd_64 (by kernel_rfl) (Z15 (n:=1) rd_65 (by kernel_rfl) Z3p rfl) rfl)).map (fun p : (List Z5q) × (List Z5o) × Unit=>({ Z4c:=p.1,Z34:=p.2.1 } : Z1j)) (fun _=>rfl) (fun _ h=>h)
def wf_22 (ys : List Z1j) : Prop:=(∀ y ∈ ys,wf_67 y) ∧ ys.length * Tryz.prog.bytesOf 67 ≤ reachBytes
theorem rd_22 : Z2e Tryz.prog 22 (fun ys : List Z1j=>[D.sl false (ys.map Z2x)]) wf_22:=Z4z Tryz.underlying22 (row:=Z2x) rd_67 (Nat.lt_of_lt_of_le (by decide : 0 < 1) (Nat.le_of_ble_eq_true (by kernel_rfl)))
def wf_43 (ys : List (List UInt8)) : Prop:=(∀ y ∈ ys,(fun s : List UInt8=>s.length ≤ reachBytes) y) ∧ ys.length * Tryz.prog.bytesOf 9 ≤ reachBytes
theorem rd_43 : Z2e Tryz.prog 43 (fun ys : List (List UInt8)=>[D.sl false (ys.map Z3s)]) wf_43:=Z4z Tryz.underlying43 (row:=Z3s) (Z3o (P:=Tryz.prog) Tryz.underlying9) (Nat.lt_of_lt_of_le (by decide : 0 < 1) (Nat.le_of_ble_eq_true (by kernel_rfl)))
def wf_98 (y : Z3i) : Prop:=(fun n : Int=>IntKind.min .i64 ≤ n ∧ n ≤ IntKind.max .i64) y.Z0v ∧ ((fun s : List UInt8=>s.length ≤ reachBytes) y.Z03 ∧ ((fun s : List UInt8=>s.length ≤ reachBytes) y.Z1f ∧ ((fun n : Int=>IntKind.min .i64 ≤ n ∧ n ≤ IntKind.max .i64) y.Z5v ∧ ((fun n : Int=>IntKind.min .i64 ≤ n ∧ n ≤ IntKind.max .i64) y.f_N ∧ ((fun s : List UInt8=>s.length ≤ reachBytes) y.f_S ∧ (True))))))
theorem rd_98 : Z2e Tryz.prog 98 Z79 wf_98:=
 (Z3r (tot:=6) Tryz.underlying98 (by kernel_rfl) (Z15 (n:=1) (Z2g (P:=Tryz.prog) Tryz.underlying3) (by kernel_rfl) (Z15 (n:=1) (Z3o (P:=Tryz.prog) Tryz.underlying9) (by kernel_rfl) (Z15 (n:=1) (Z3o (P:=Tryz.prog) Tryz.underlying9) (by kernel_rfl) (Z15 (n:=1) (Z2g (P:=Tryz.prog) Tryz.underlying3) (by kernel_rfl) (Z15 (n:=1) (Z2g (P:=Tryz.prog) Tryz.underlying3) (by kernel_rfl) (Z15 (n:=1) (Z3o (P:=Tryz.prog) Tryz.underlying9) (by kernel_rfl) Z3p rfl) rfl) rfl) rfl) rfl) rfl)).map (fun p : Int × (List UInt8) × (List UInt8) × (Int × (Int × (List UInt8) × Unit))=>({ Z0v:=p.1,Z03:=p.2.1,Z1f:=p.2.2.1,Z5v:=p.2.2.2.1,f_N:=p.2.2.2.2.1,f_S:=p.2.2.2.2.2.1 } : Z3i)) (fun _=>rfl) (fun _ h=>h)
def wf_72 (ys : List Z3i) : Prop:=(∀ y ∈ ys,wf_98 y) ∧ ys.length * Tryz.prog.bytesOf 98 ≤ reachBytes
theorem rd_72 : Z2e Tryz.prog 72 (fun ys : List Z3i=>[D.sl false (ys.map Z79)]) wf_72:=Z4z Tryz.underlying72 (row:=Z79) rd_98 (Nat.lt_of_lt_of_le (by decide : 0 < 1) (Nat.le_of_ble_eq_true (by kernel_rfl)))
def wf_53 (ys : List Int) : Prop:=(∀ y ∈ ys,(fun n : Int=>IntKind.min .i64 ≤ n ∧ n ≤ IntKind.max .i64) y) ∧ ys.length * Tryz.prog.bytesOf 3 ≤ reachBytes
theorem rd_53 : Z2e Tryz.prog 53 (fun ys : List Int=>[D.sl false (ys.map Z02)]) wf_53:=Z4z Tryz.underlying53 (row:=Z02) (Z2g (P:=Tryz.prog) Tryz.underlying3) (Nat.lt_of_lt_of_le (by decide : 0 < 1) (Nat.le_of_ble_eq_true (by kernel_rfl)))
def wf_129 (y : Z21) : Prop:=(fun s : List UInt8=>s.length ≤ reachBytes) y.Z0o ∧ ((fun s : List UInt8=>s.length ≤ reachBytes) y.Z03 ∧ ((fun s : List UInt8=>s.length ≤ reachBytes) y.Z1f ∧ (True)))
theorem rd_129 : Z2e Tryz.prog 129 Zil wf_129:=
 (Z3r (tot:=3) Tryz.underlying129 (by kernel_rfl) (Z15 (n:=1) (Z3o (P:=Tryz.prog) Tryz.underlying9) (by kernel_rfl) (Z15 (n:=1) (Z3o (P:=Tryz.prog) Tryz.underlying9) (by kernel_rfl) (Z15 (n:=1) (Z3o (P:=Tryz.prog) Tryz.underlying9) (by kernel_rfl) Z3p rfl) rfl) rfl)).map (fun p : (List UInt8) × (List UInt8) × (List UInt8) × Unit=>({ Z0o:=p.1,Z03:=p.2.1,Z1f:=p.2.2.1 } : Z21)) (fun _=>rfl) (fun _ h=>h)
def wf_131 (y : Z01) : Prop:=(fun n : Int=>IntKind.min .i64 ≤ n ∧ n ≤ IntKind.max .i64) y.f_Op ∧ ((fun n : Int=>IntKind.min .i64 ≤ n ∧ n ≤ IntKind.max .i64) y.f_A ∧ ((fun n : Int=>IntKind.min .i64 ≤ n ∧ n ≤ IntKind.max .i64) y.f_B ∧ ((fun n : Int=>IntKind.min .i64 ≤ n ∧ n ≤ IntKind.max .i64) y.f_To ∧ (wf_53 y.Z0r ∧ (wf_53 y.Z09 ∧ (wf_129 y.Z0z ∧ ((fun s : List UInt8=>s.length ≤ reachBytes) y.f_S ∧ (True))))))))
theorem rd_131 : Z2e Tryz.prog 131 Z0h wf_131:=
 (Z3r (tot:=10) Tryz.underlying131 (by kernel_rfl) (Z15 (n:=1) (Z2g (P:=Tryz.prog) Tryz.underlying3) (by kernel_rfl) (Z15 (n:=1) (Z2g (P:=Tryz.prog) Tryz.underlying3) (by kernel_rfl) (Z15 (n:=1) (Z2g (P:=Tryz.prog) Tryz.underlying3) (by kernel_rfl) (Z15 (n:=1) (Z2g (P:=Tryz.prog) Tryz.underlying3) (by kernel_rfl) (Z15 (n:=1) rd_53 (by kernel_rfl) (Z15 (n:=1) rd_53 (by kernel_rfl) (Z15 (n:=3) rd_129 (by kernel_rfl) (Z15 (n:=1) (Z3o (P:=Tryz.prog) Tryz.underlying9) (by kernel_rfl) Z3p rfl) rfl) rfl) rfl) rfl) rfl) rfl) rfl)).map (fun p : Int × (Int × (Int × (Int × (List Int) × (List Int) × (Z21 × (List UInt8) × Unit))))=>({ f_Op:=p.1,f_A:=p.2.1,f_B:=p.2.2.1,f_To:=p.2.2.2.1,Z0r:=p.2.2.2.2.1,Z09:=p.2.2.2.2.2.1,Z0z:=p.2.2.2.2.2.2.1,f_S:=p.2.2.2.2.2.2.2.1 } : Z01)) (fun _=>rfl) (fun _ h=>h)
def wf_99 (ys : List Z01) : Prop:=(∀ y ∈ ys,wf_131 y) ∧ ys.length * Tryz.prog.bytesOf 131 ≤ reachBytes
theorem rd_99 : Z2e Tryz.prog 99 (fun ys : List Z01=>[D.sl false (ys.map Z0h)]) wf_99:=Z4z Tryz.underlying99 (row:=Z0h) rd_131 (Nat.lt_of_lt_of_le (by decide : 0 < 1) (Nat.le_of_ble_eq_true (by kernel_rfl)))
def wf_133 (y : Z0g) : Prop:=(fun n : Int=>IntKind.min .i64 ≤ n ∧ n ≤ IntKind.max .i64) y.Z43 ∧ ((fun n : Int=>IntKind.min .i64 ≤ n ∧ n ≤ IntKind.max .i64) y.f_To ∧ ((fun n : Int=>IntKind.min .i64 ≤ n ∧ n ≤ IntKind.max .i64) y.Z45 ∧ ((fun n : Int=>IntKind.min .i64 ≤ n ∧ n ≤ IntKind.max .i64) y.Z0o ∧ ((fun s : List UInt8=>s.length ≤ reachBytes) y.Z1h ∧ (True)))))
theorem rd_133 : Z2e Tryz.prog 133 Z0y wf_133:=
 (Z3r (tot:=5) Tryz.underlying133 (by kernel_rfl) (Z15 (n:=1) (Z2g (P:=Tryz.prog) Tryz.underlying3) (by kernel_rfl) (Z15 (n:=1) (Z2g (P:=Tryz.prog) Tryz.underlying3) (by kernel_rfl) (Z15 (n:=1) (Z2g (P:=Tryz.prog) Tryz.underlying3) (by kernel_rfl) (Z15 (n:=1) (Z2g (P:=Tryz.prog) Tryz.underlying3) (by kernel_rfl) (Z15 (n:=1) (Z3o (P:=Tryz.prog) Tryz.underlying9) (by kernel_rfl) Z3p rfl) rfl) rfl) rfl) rfl)).map (fun p : Int × (Int × (Int × (Int × (List UInt8) × Unit)))=>({ Z43:=p.1,f_To:=p.2.1,Z45:=p.2.2.1,Z0o:=p.2.2.2.1,Z1h:=p.2.2.2.2.1 } : Z0g)) (fun _=>rfl) (fun _ h=>h)
def wf_100 (ys : List Z0g) : Prop:=(∀ y ∈ ys,wf_133 y) ∧ ys.length * Tryz.prog.bytesOf 133 ≤ reachBytes
theorem rd_100 : Z2e Tryz.prog 100 (fun ys : List Z0g=>[D.sl false (ys.map Z0y)]) wf_100:=Z4z Tryz.underlying100 (row:=Z0y) rd_133 (Nat.lt_of_lt_of_le (by decide : 0 < 1) (Nat.le_of_ble_eq_true (by kernel_rfl)))
def wf_161 (y : Z0l) : Prop:=(fun n : Int=>IntKind.min .i64 ≤ n ∧ n ≤ IntKind.max .i64) y.Z1t ∧ ((fun n : Int=>IntKind.min .u8 ≤ n ∧ n ≤ IntKind.max .u8) y.Z1m ∧ ((fun s : List UInt8=>s.length ≤ reachBytes) y.Z03 ∧ (True)))
theorem rd_161 : Z2e Tryz.prog 161 Z2t wf_161:=
 (Z3r (tot:=3) Tryz.underlying161 (by kernel_rfl) (Z15 (n:=1) (Z2g (P:=Tryz.prog) Tryz.underlying3) (by kernel_rfl) (Z15 (n:=1) (Z2g (P:=Tryz.prog) Tryz.underlying5) (by kernel_rfl) (Z15 (n:=1) (Z3o (P:=Tryz.prog) Tryz.underlying9) (by kernel_rfl) Z3p rfl) rfl) rfl)).map (fun p : Int × (Int × (List UInt8) × Unit)=>({ Z1t:=p.1,Z1m:=p.2.1,Z03:=p.2.2.1 } : Z0l)) (fun _=>rfl) (fun _ h=>h)
def wf_163 (y : Z0d) : Prop:=(fun n : Int=>IntKind.min .i64 ≤ n ∧ n ≤ IntKind.max .i64) y.Z2a ∧ ((fun n : Int=>IntKind.min .i64 ≤ n ∧ n ≤ IntKind.max .i64) y.Z2s ∧ (wf_161 y.Z1h ∧ ((fun n : Int=>IntKind.min .i64 ≤ n ∧ n ≤ IntKind.max .i64) y.Z2z ∧ (True))))
theorem rd_163 : Z2e Tryz.prog 163 Z1n wf_163:=
 (Z3r (tot:=6) Tryz.underlying163 (by kernel_rfl) (Z15 (n:=1) (Z2g (P:=Tryz.prog) Tryz.underlying3) (by kernel_rfl) (Z15 (n:=1) (Z2g (P:=Tryz.prog) Tryz.underlying3) (by kernel_rfl) (Z15 (n:=3) rd_161 (by kernel_rfl) (Z15 (n:=1) (Z2g (P:=Tryz.prog) Tryz.underlying3) (by kernel_rfl) Z3p rfl) rfl) rfl) rfl)).map (fun p : Int × (Int × (Z0l × (Int × Unit)))=>({ Z2a:=p.1,Z2s:=p.2.1,Z1h:=p.2.2.1,Z2z:=p.2.2.2.1 } : Z0d)) (fun _=>rfl) (fun _ h=>h)
def wf_137 (ys : List Z0d) : Prop:=(∀ y ∈ ys,wf_163 y) ∧ ys.length * Tryz.prog.bytesOf 163 ≤ reachBytes
theorem rd_137 : Z2e Tryz.prog 137 (fun ys : List Z0d=>[D.sl false (ys.map Z1n)]) wf_137:=Z4z Tryz.underlying137 (row:=Z1n) rd_163 (Nat.lt_of_lt_of_le (by decide : 0 < 1) (Nat.le_of_ble_eq_true (by kernel_rfl)))
def wf_139 (y : Z50) : Prop:=wf_137 y.Z0p ∧ (wf_137 y.Z0s ∧ ((fun _ : Bool=>True) y.Z4d ∧ (True)))
theorem rd_139 : Z2e Tryz.prog 139 Zps wf_139:=
 (Z3r (tot:=3) Tryz.underlying139 (by kernel_rfl) (Z15 (n:=1) rd_137 (by kernel_rfl) (Z15 (n:=1) rd_137 (by kernel_rfl) (Z15 (n:=1) (Zva (P:=Tryz.prog) Tryz.underlying4) (by kernel_rfl) Z3p rfl) rfl) rfl)).map (fun p : (List Z0d) × (List Z0d) × (Bool × Unit)=>({ Z0p:=p.1,Z0s:=p.2.1,Z4d:=p.2.2.1 } : Z50)) (fun _=>rfl) (fun _ h=>h)
def wf_141 (y : Z0i) : Prop:=(fun n : Int=>IntKind.min .i64 ≤ n ∧ n ≤ IntKind.max .i64) y.Z2b ∧ (wf_139 y.Z1i ∧ (True))
theorem rd_141 : Z2e Tryz.prog 141 Z13 wf_141:=
 (Z3r (tot:=4) Tryz.underlying141 (by kernel_rfl) (Z15 (n:=1) (Z2g (P:=Tryz.prog) Tryz.underlying3) (by kernel_rfl) (Z15 (n:=3) rd_139 (by kernel_rfl) Z3p rfl) rfl)).map (fun p : Int × (Z50 × Unit)=>({ Z2b:=p.1,Z1i:=p.2.1 } : Z0i)) (fun _=>rfl) (fun _ h=>h)
def wf_101 (ys : List Z0i) : Prop:=(∀ y ∈ ys,wf_141 y) ∧ ys.length * Tryz.prog.bytesOf 141 ≤ reachBytes
theorem rd_101 : Z2e Tryz.prog 101 (fun ys : List Z0i=>[D.sl false (ys.map Z13)]) wf_101:=Z4z Tryz.underlying101 (row:=Z13) rd_141 (Nat.lt_of_lt_of_le (by decide : 0 < 1) (Nat.le_of_ble_eq_true (by kernel_rfl)))
def wf_135 (y : Z0t) : Prop:=(fun n : Int=>IntKind.min .i64 ≤ n ∧ n ≤ IntKind.max .i64) y.Z2b ∧ ((fun n : Int=>IntKind.min .i64 ≤ n ∧ n ≤ IntKind.max .i64) y.Z57 ∧ (True))
theorem rd_135 : Z2e Tryz.prog 135 Z1d wf_135:=
 (Z3r (tot:=2) Tryz.underlying135 (by kernel_rfl) (Z15 (n:=1) (Z2g (P:=Tryz.prog) Tryz.underlying3) (by kernel_rfl) (Z15 (n:=1) (Z2g (P:=Tryz.prog) Tryz.underlying3) (by kernel_rfl) Z3p rfl) rfl)).map (fun p : Int × (Int × Unit)=>({ Z2b:=p.1,Z57:=p.2.1 } : Z0t)) (fun _=>rfl) (fun _ h=>h)
def wf_102 (ys : List Z0t) : Prop:=(∀ y ∈ ys,wf_135 y) ∧ ys.length * Tryz.prog.bytesOf 135 ≤ reachBytes
theorem rd_102 : Z2e Tryz.prog 102 (fun ys : List Z0t=>[D.sl false (ys.map Z1d)]) wf_102:=Z4z Tryz.underlying102 (row:=Z1d) rd_135 (Nat.lt_of_lt_of_le (by decide : 0 < 1) (Nat.le_of_ble_eq_true (by kernel_rfl)))
def wf_104 (y : Z06) : Prop:=(fun n : Int=>IntKind.min .i64 ≤ n ∧ n ≤ IntKind.max .i64) y.Z0s ∧ ((fun n : Int=>IntKind.min .i64 ≤ n ∧ n ≤ IntKind.max .i64) y.Z0p ∧ (wf_99 y.Z0k ∧ (wf_100 y.Z1g ∧ (wf_101 y.Z11 ∧ (wf_102 y.Z1a ∧ (True))))))
theorem rd_104 : Z2e Tryz.prog 104 Z10 wf_104:=
 (Z3r (tot:=6) Tryz.underlying104 (by kernel_rfl) (Z15 (n:=1) (Z2g (P:=Tryz.prog) Tryz.underlying3) (by kernel_rfl) (Z15 (n:=1) (Z2g (P:=Tryz.prog) Tryz.underlying3) (by kernel_rfl) (Z15 (n:=1) rd_99 (by kernel_rfl) (Z15 (n:=1) rd_100 (by kernel_rfl) (Z15 (n:=1) rd_101 (by kernel_rfl) (Z15 (n:=1) rd_102 (by kernel_rfl) Z3p rfl) rfl) rfl) rfl) rfl) rfl)).map (fun p : Int × (Int × (List Z01) × (List Z0g) × (List Z0i) × (List Z0t) × Unit)=>({ Z0s:=p.1,Z0p:=p.2.1,Z0k:=p.2.2.1,Z1g:=p.2.2.2.1,Z11:=p.2.2.2.2.1,Z1a:=p.2.2.2.2.2.1 } : Z06)) (fun _=>rfl) (fun _ h=>h)
def wf_106 (y : Z2f) : Prop:=(fun n : Int=>IntKind.min .i64 ≤ n ∧ n ≤ IntKind.max .i64) y.Z0v ∧ ((fun s : List UInt8=>s.length ≤ reachBytes) y.Z03 ∧ ((fun s : List UInt8=>s.length ≤ reachBytes) y.Z1f ∧ ((fun _ : Bool=>True) y.Z8u ∧ (wf_104 y.Z2k ∧ (wf_43 y.Z6a ∧ (True))))))
theorem rd_106 : Z2e Tryz.prog 106 Z6m wf_106:=
 (Z3r (tot:=11) Tryz.underlying106 (by kernel_rfl) (Z15 (n:=1) (Z2g (P:=Tryz.prog) Tryz.underlying3) (by kernel_rfl) (Z15 (n:=1) (Z3o (P:=Tryz.prog) Tryz.underlying9) (by kernel_rfl) (Z15 (n:=1) (Z3o (P:=Tryz.prog) Tryz.underlying9) (by kernel_rfl) (Z15 (n:=1) (Zva (P:=Tryz.prog) Tryz.underlying4) (by kernel_rfl) (Z15 (n:=6) rd_104 (by kernel_rfl) (Z15 (n:=1) rd_43 (by kernel_rfl) Z3p rfl) rfl) rfl) rfl) rfl) rfl)).map (fun p : Int × (List UInt8) × (List UInt8) × (Bool × (Z06 × (List (List UInt8)) × Unit))=>({ Z0v:=p.1,Z03:=p.2.1,Z1f:=p.2.2.1,Z8u:=p.2.2.2.1,Z2k:=p.2.2.2.2.1,Z6a:=p.2.2.2.2.2.1 } : Z2f)) (fun _=>rfl) (fun _ h=>h)
def wf_73 (ys : List Z2f) : Prop:=(∀ y ∈ ys,wf_106 y) ∧ ys.length * Tryz.prog.bytesOf 106 ≤ reachBytes
theorem rd_73 : Z2e Tryz.prog 73 (fun ys : List Z2f=>[D.sl false (ys.map Z6m)]) wf_73:=Z4z Tryz.underlying73 (row:=Z6m) rd_106 (Nat.lt_of_lt_of_le (by decide : 0 < 1) (Nat.le_of_ble_eq_true (by kernel_rfl)))
def wf_75 (y : Z12) : Prop:=(fun n : Int=>IntKind.min .i64 ≤ n ∧ n ≤ IntKind.max .i64) y.Z0v ∧ ((fun s : List UInt8=>s.length ≤ reachBytes) y.Z03 ∧ ((fun s : List UInt8=>s.length ≤ reachBytes) y.Z1k ∧ (wf_43 y.Z14 ∧ (wf_72 y.Z19 ∧ (wf_73 y.Z17 ∧ ((fun s : List UInt8=>s.length ≤ reachBytes) y.Z6p ∧ (True)))))))
theorem rd_75 : Z2e Tryz.prog 75 Z2l wf_75:=
 (Z3r (tot:=7) Tryz.underlying75 (by kernel_rfl) (Z15 (n:=1) (Z2g (P:=Tryz.prog) Tryz.underlying3) (by kernel_rfl) (Z15 (n:=1) (Z3o (P:=Tryz.prog) Tryz.underlying9) (by kernel_rfl) (Z15 (n:=1) (Z3o (P:=Tryz.prog) Tryz.underlying9) (by kernel_rfl) (Z15 (n:=1) rd_43 (by kernel_rfl) (Z15 (n:=1) rd_72 (by kernel_rfl) (Z15 (n:=1) rd_73 (by kernel_rfl) (Z15 (n:=1) (Z3o (P:=Tryz.prog) Tryz.underlying9) (by kernel_rfl) Z3p rfl) rfl) rfl) rfl) rfl) rfl) rfl)).map (fun p : Int × (List UInt8) × (List UInt8) × (List (List UInt8)) × (List Z3i) × (List Z2f) × (List UInt8) × Unit=>({ Z0v:=p.1,Z03:=p.2.1,Z1k:=p.2.2.1,Z14:=p.2.2.2.1,Z19:=p.2.2.2.2.1,Z17:=p.2.2.2.2.2.1,Z6p:=p.2.2.2.2.2.2.1 } : Z12)) (fun _=>rfl) (fun _ h=>h)
def wf_77 (y : Z2m) : Prop:=(fun n : Int=>IntKind.min .i64 ≤ n ∧ n ≤ IntKind.max .i64) y.Z1e ∧ (wf_75 y.Z2n ∧ ((fun n : Int=>IntKind.min .i64 ≤ n ∧ n ≤ IntKind.max .i64) y.Z1k ∧ (wf_53 y.Z14 ∧ ((fun n : Int=>IntKind.min .i64 ≤ n ∧ n ≤ IntKind.max .i64) y.Z7x ∧ ((fun n : Int=>IntKind.min .i64 ≤ n ∧ n ≤ IntKind.max .i64) y.Z9p ∧ (True))))))
theorem rd_77 : Z2e Tryz.prog 77 Z4u wf_77:=
 (Z3r (tot:=12) Tryz.underlying77 (by kernel_rfl) (Z15 (n:=1) (Z2g (P:=Tryz.prog) Tryz.underlying3) (by kernel_rfl) (Z15 (n:=7) rd_75 (by kernel_rfl) (Z15 (n:=1) (Z2g (P:=Tryz.prog) Tryz.underlying3) (by kernel_rfl) (Z15 (n:=1) rd_53 (by kernel_rfl) (Z15 (n:=1) (Z2g (P:=Tryz.prog) Tryz.underlying3) (by kernel_rfl) (Z15 (n:=1) (Z2g (P:=Tryz.prog) Tryz.underlying35) (by kernel_rfl) Z3p rfl) rfl) rfl) rfl) rfl) rfl)).map (fun p : Int × (Z12 × (Int × (List Int) × (Int × (Int × Unit))))=>({ Z1e:=p.1,Z2n:=p.2.1,Z1k:=p.2.2.1,Z14:=p.2.2.2.1,Z7x:=p.2.2.2.2.1,Z9p:=p.2.2.2.2.2.1 } : Z2m)) (fun _=>rfl) (fun _ h=>h)
def wf_23 (ys : List Z2m) : Prop:=(∀ y ∈ ys,wf_77 y) ∧ ys.length * Tryz.prog.bytesOf 77 ≤ reachBytes
theorem rd_23 : Z2e Tryz.prog 23 (fun ys : List Z2m=>[D.sl false (ys.map Z4u)]) wf_23:=Z4z Tryz.underlying23 (row:=Z4u) rd_77 (Nat.lt_of_lt_of_le (by decide : 0 < 1) (Nat.le_of_ble_eq_true (by kernel_rfl)))
def wf_58 (y : Z26) : Prop:=(fun n : Int=>IntKind.min .i64 ≤ n ∧ n ≤ IntKind.max .i64) y.Z1e ∧ ((fun s : List UInt8=>s.length ≤ reachBytes) y.Z03 ∧ ((fun n : Int=>IntKind.min .i64 ≤ n ∧ n ≤ IntKind.max .i64) y.Z0o ∧ (True)))
theorem rd_58 : Z2e Tryz.prog 58 Z40 wf_58:=
 (Z3r (tot:=3) Tryz.underlying58 (by kernel_rfl) (Z15 (n:=1) (Z2g (P:=Tryz.prog) Tryz.underlying3) (by kernel_rfl) (Z15 (n:=1) (Z3o (P:=Tryz.prog) Tryz.underlying9) (by kernel_rfl) (Z15 (n:=1) (Z2g (P:=Tryz.prog) Tryz.underlying3) (by kernel_rfl) Z3p rfl) rfl) rfl)).map (fun p : Int × (List UInt8) × (Int × Unit)=>({ Z1e:=p.1,Z03:=p.2.1,Z0o:=p.2.2.1 } : Z26)) (fun _=>rfl) (fun _ h=>h)
def wf_24 (ys : List Z26) : Prop:=(∀ y ∈ ys,wf_58 y) ∧ ys.length * Tryz.prog.bytesOf 58 ≤ reachBytes
theorem rd_24 : Z2e Tryz.prog 24 (fun ys : List Z26=>[D.sl false (ys.map Z40)]) wf_24:=Z4z Tryz.underlying24 (row:=Z40) rd_58 (Nat.lt_of_lt_of_le (by decide : 0 < 1) (Nat.le_of_ble_eq_true (by kernel_rfl)))
def wf_48 (y : Z1s) : Prop:=(fun s : List UInt8=>s.length ≤ reachBytes) y.Z03 ∧ ((fun n : Int=>IntKind.min .i64 ≤ n ∧ n ≤ IntKind.max .i64) y.f_A ∧ ((fun n : Int=>IntKind.min .i64 ≤ n ∧ n ≤ IntKind.max .i64) y.f_B ∧ (True)))
theorem rd_48 : Z2e Tryz.prog 48 Z35 wf_48:=
 (Z3r (tot:=3) Tryz.underlying48 (by kernel_rfl) (Z15 (n:=1) (Z3o (P:=Tryz.prog) Tryz.underlying9) (by kernel_rfl) (Z15 (n:=1) (Z2g (P:=Tryz.prog) Tryz.underlying3) (by kernel_rfl) (Z15 (n:=1) (Z2g (P:=Tryz.prog) Tryz.underlying3) (by kernel_rfl) Z3p rfl) rfl) rfl)).map (fun p : (List UInt8) × (Int × (Int × Unit))=>({ Z03:=p.1,f_A:=p.2.1,f_B:=p.2.2.1 } : Z1s)) (fun _=>rfl) (fun _ h=>h)
def wf_25 (ys : List Z1s) : Prop:=(∀ y ∈ ys,wf_48 y) ∧ ys.length * Tryz.prog.bytesOf 48 ≤ reachBytes
theorem rd_25 : Z2e Tryz.prog 25 (fun ys : List Z1s=>[D.sl false (ys.map Z35)]) wf_25:=Z4z Tryz.underlying25 (row:=Z35) rd_48 (Nat.lt_of_lt_of_le (by decide : 0 < 1) (Nat.le_of_ble_eq_true (by kernel_rfl)))
def wf_27 (y : Z0b) : Prop:=wf_22 y.Z1b ∧ (wf_23 y.Z2i ∧ (wf_24 y.Z0u ∧ (wf_25 y.Z0m ∧ (True))))
theorem rd_27 : Z2e Tryz.prog 27 Z1l wf_27:=
 (Z3r (tot:=4) Tryz.underlying27 (by kernel_rfl) (Z15 (n:=1) rd_22 (by kernel_rfl) (Z15 (n:=1) rd_23 (by kernel_rfl) (Z15 (n:=1) rd_24 (by kernel_rfl) (Z15 (n:=1) rd_25 (by kernel_rfl) Z3p rfl) rfl) rfl) rfl)).map (fun p : (List Z1j) × (List Z2m) × (List Z26) × (List Z1s) × Unit=>({ Z1b:=p.1,Z2i:=p.2.1,Z0u:=p.2.2.1,Z0m:=p.2.2.2.1 } : Z0b)) (fun _=>rfl) (fun _ h=>h)
theorem rlS {n : Nat} (h : n ≤ reachBytes) : n ≤ 4503599627370496:=Nat.le_trans h (by decide)
theorem rlB {n b k : Nat} (e : b = k) (h : n * b ≤ reachBytes) : n * k ≤ 140737488355328:=by have:=Zqz h; rw [e] at this; omega
theorem rlN {n b : Nat} (e : 1 ≤ b) (h : n * b ≤ reachBytes) : n ≤ 140737488355328:=Nat.le_trans (Nat.le_trans (Nat.le_of_eq (Nat.mul_one n).symm) (Nat.mul_le_mul_left n e)) (by have:=Zqz h; omega)
theorem ws_T_api_Ref {y : Z21} (h : wf_129 y) : WRef y:=⟨rlS h.1,rlS h.2.1,rlS h.2.2.1⟩
theorem ws_T_api_Insn {y : Z01} (h : wf_131 y) : Z2o y:=⟨rlB (by kernel_rfl) h.2.2.2.2.1.2,rlB (by kernel_rfl) h.2.2.2.2.2.1.2,ws_T_api_Ref h.2.2.2.2.2.2.1,rlS h.2.2.2.2.2.2.2.1⟩
theorem ws_T_api_Frame {y : Z50} (h : wf_139 y) : Z92 y:=⟨fun v hv=>rlS (h.1.1 v hv).2.2.1.2.2.1,rlB (by kernel_rfl) h.1.2,fun v hv=>rlS (h.2.1.1 v hv).2.2.1.2.2.1,rlB (by kernel_rfl) h.2.1.2⟩
theorem ws_T_api_Code {y : Z06} (h : wf_104 y) : Z4w y:=⟨fun v hv=>ws_T_api_Insn (h.2.2.1.1 v hv),rlB (by kernel_rfl) h.2.2.1.2,fun v hv=>rlS (h.2.2.2.1.1 v hv).2.2.2.2.1,rlB (by kernel_rfl) h.2.2.2.1.2,fun v hv=>ws_T_api_Frame (h.2.2.2.2.1.1 v hv).2.1,rlB (by kernel_rfl) h.2.2.2.2.1.2,rlB (by kernel_rfl) h.2.2.2.2.2.1.2⟩
theorem ws_T_api_Method {y : Z2f} (h : wf_106 y) : Z94 y:=⟨rlS h.2.1,rlS h.2.2.1,ws_T_api_Code h.2.2.2.2.1,fun v hv=>rlS (h.2.2.2.2.2.1.1 v hv),rlB (by kernel_rfl) h.2.2.2.2.2.1.2⟩
theorem ws_T_api_Field {y : Z3i} (h : wf_98 y) : Znl y:=⟨rlS h.2.1,rlS h.2.2.1,rlS h.2.2.2.2.2.1⟩
theorem ws_T_api_ClassModel {y : Z12} (h : wf_75 y) : Z55 y:=⟨rlS h.2.1,rlS h.2.2.1,fun v hv=>rlS (h.2.2.2.1.1 v hv),rlB (by kernel_rfl) h.2.2.2.1.2,fun v hv=>ws_T_api_Field (h.2.2.2.2.1.1 v hv),rlB (by kernel_rfl) h.2.2.2.2.1.2,fun v hv=>ws_T_api_Method (h.2.2.2.2.2.1.1 v hv),rlB (by kernel_rfl) h.2.2.2.2.2.1.2,rlS h.2.2.2.2.2.2.1⟩
theorem ws_T_api_Loader {y : Z1j} (h : wf_67 y) : Z6l y:=⟨fun v hv=>rlS (h.1.1 v hv).1,rlN (Nat.le_of_ble_eq_true (by kernel_rfl)) h.1.2,fun v hv=>rlS (h.2.1.1 v hv).1,rlN (Nat.le_of_ble_eq_true (by kernel_rfl)) h.2.1.2⟩
theorem ws_T_api_ClassSpace {y : Z0b} (h : wf_27 y) : Z47 y:=⟨fun v hv=>ws_T_api_Loader (h.1.1 v hv),rlN (Nat.le_of_ble_eq_true (by kernel_rfl)) h.1.2,fun v hv=>⟨ws_T_api_ClassModel (h.2.1.1 v hv).2.1,rlN (Nat.le_of_ble_eq_true (by kernel_rfl)) (h.2.1.1 v hv).2.2.2.1.2⟩,rlN (Nat.le_of_ble_eq_true (by kernel_rfl)) h.2.1.2,fun v hv=>rlS (h.2.2.1.1 v hv).2.1,rlN (Nat.le_of_ble_eq_true (by kernel_rfl)) h.2.2.1.2,fun v hv=>rlS (h.2.2.2.1.1 v hv).1,rlN (Nat.le_of_ble_eq_true (by kernel_rfl)) h.2.2.2.1.2⟩
set_option maxRecDepth 100000 in
theorem lifted (os : Os) (started : os.Started) (H : Type) (enc : TypeId × Value → H) :
  ReturnsInHanded {} Tryz.checked os 4 .any (Rows.constraintConsistentSpec.pre6 enc Tryz.prog Tryz.f4 Rows.constraintConsistentRow.domain false) (Rows.constraintConsistentSpec.post enc Tryz.prog Tryz.f4 false true false false):=by
 refine returnsInHanded_of_change_sized (C:=Tryz.checked) own started (by kernel_rfl) Tryz.func4
  (ChangeSpec.witness6 (enc:=enc) (C:=Tryz.checked) false ⟨#[],#[.agg #[.slice none 0 0,.slice none 0 0,.slice none 0 0,.slice none 0 0]],[]⟩ 8 (by kernel_rfl) (by kernel_rfl) (by kernel_rfl) (by kernel_rfl)) ?_
 intro W base args ds gs before hval0 hW hcnd hsz _
 have hval : ∀ (j : Nat) t v,Tryz.f4.params[j]? = some t → args[j]? = some v → Value.okWide Tryz.prog W .any base t v:=hval0
 have hW':=hW
 obtain ⟨p,q,hA0,hV,rfl,hfz,hnd⟩:=hW
 have hA : DataW.TrodAll enc Tryz.prog W 0 (fun _=>true) true Tryz.f4.params.toList args.toList ds p:=hA0
 rw [Tryz.params4] at hA hval
 obtain ⟨v0,vs0,d0,ds0,p0,q0,hargs,rfl,rfl,h0,r0⟩:=trodAll_cons hA
 obtain ⟨rfl,rfl,rfl⟩:=trodAll_nil r0
 obtain rfl : args = #[v0] :=by cases args; simp_all
 obtain ⟨rfl,rfl⟩:=trodVars_none hV
 have hsz2 : (DataW.weightsEach Tryz.prog (Tryz.f4.params.toList ++ []) ([d0] ++ [])).all (· ≤ reachBytes) = true:=hsz
 rw [Tryz.params4] at hsz2
 simp only [List.append_nil,DataW.weightsEach,List.all_append,Bool.and_eq_true] at hsz2
 have z0:=hsz2
 obtain ⟨y0,c0,g0⟩:=arg_agg (M:=Meas.reach Tryz.prog) Tryz.underlying27 rd_27 (hval 0 27 v0 rfl rfl) h0 z0
 exact Zyl (P:=Tryz.prog) (fn:=Tryz.f4) (tb:=4) rfl (by kernel_rfl) Tryz.underlying4 laid (by kernel_rfl) hW' rfl (.cons c0 .nil) (w4 (Zz8 y0 (ws_T_api_ClassSpace g0)))
theorem am {a b : Bool} (h : a = true) (g : b = true) : (a && b) = true:=by rw [h,g]; rfl
theorem k0 : Rows.constraintConsistentRow.wf (OpenSpec.ofChange Rows.constraintConsistentSpec) = true:=by kernel_rfl
theorem k1 : laidOutB Tryz.prog = true:=by kernel_rfl
theorem k2 : mapsRowed Tryz.prog = true:=by kernel_rfl
theorem k3 : Tryz.f4.params.all (Tryz.prog.readableRec ·) = true:=by kernel_rfl
theorem k4 : namedTie Tryz.prog Rows.constraintConsistentRow.named Rows.constraintConsistentSpec.vars = true:=by kernel_rfl
theorem k5 : (Rows.constraintConsistentRow.stops == []) = true:=by kernel_rfl
theorem k6 : (Tryz.prog.stops == []) = true:=by kernel_rfl
theorem k7 : (Rows.constraintConsistentRow.knobs == []) = true:=by kernel_rfl
theorem k8 : (Tryz.prog.stopKnobs == []) = true:=by kernel_rfl
theorem k9 : (Rows.constraintConsistentRow.inPlace == Tryz.prog.inPlace 4) = true:=by kernel_rfl
theorem k10 : (Rows.constraintConsistentRow.unfollowed == Tryz.prog.unfollowed 4) = true:=by kernel_rfl
theorem k11 : (Rows.constraintConsistentRow.recurses == Tryz.prog.recurses 4) = true:=by kernel_rfl
theorem k12 : (Rows.constraintConsistentRow.named == Tryz.prog.varsNamed 4) = true:=by kernel_rfl
theorem k13 : (Rows.constraintConsistentRow.maps == (Tryz.f4.params.toList ++ Rows.constraintConsistentSpec.plain.varTypes Tryz.prog).any (Tryz.prog.mapsRec ·)) = true:=by kernel_rfl
theorem k14 : (Rows.constraintConsistentRow.ifaces == (Tryz.f4.params.toList ++ Rows.constraintConsistentSpec.plain.varTypes Tryz.prog).any (Tryz.prog.ifacesRec ·)) = true:=by kernel_rfl
theorem k15 : (Rows.constraintConsistentRow.mapsOut == Tryz.prog.mapsAmong Tryz.f4.resultTypes.toList) = true:=by kernel_rfl
theorem k16 : (Rows.constraintConsistentRow.loops == (Tryz.f4.params.toList ++ Rows.constraintConsistentSpec.plain.varTypes Tryz.prog).any (Tryz.prog.loopsFrom ·)) = true:=by kernel_rfl
theorem k17 : (Rows.constraintConsistentRow.wideKeys == (Tryz.f4.params.toList ++ Rows.constraintConsistentSpec.plain.varTypes Tryz.prog ++ Tryz.f4.resultTypes.toList).any (Tryz.prog.wideKeysFrom ·)) = true:=by kernel_rfl
theorem k18 : Rows.constraintConsistentSpec.vars.all (Tryz.prog.varReadable ·) = true:=by kernel_rfl
theorem k19 : Tryz.f4.resultTypes.all (fun t=>Tryz.prog.readableRec t && decide (t < Tryz.prog.types.size)) = true:=by kernel_rfl
theorem k20 : (Rows.constraintConsistentRow.ifacesOut == Tryz.f4.resultTypes.toList.any (Tryz.prog.ifacesRec ·)) = true:=by kernel_rfl
theorem k21 : (Rows.constraintConsistentRow.loopsOut == Tryz.f4.resultTypes.toList.any (Tryz.prog.loopsFrom ·)) = true:=by kernel_rfl
theorem k22 : (Rows.constraintConsistentRow.plainKeys == Tryz.prog.plainKeys) = true:=by kernel_rfl
theorem k23 : Rows.constraintConsistentRow.shortTexts.isNone = true:=by kernel_rfl
theorem k24 : Tryz.prog.stopsHeard = true:=by kernel_rfl
theorem k25 : Tryz.prog.mayEnter = true:=by kernel_rfl
theorem k26 : (Rows.constraintConsistentRow.lifted == Tryz.prog.liftsFinal) = true:=by kernel_rfl
theorem k27 : (Tryz.prog.make == some Rows.constraintConsistentRow.make) = true:=by kernel_rfl
theorem k28 : (Rows.constraintConsistentRow.kinds == (if Rows.constraintConsistentRow.domain.isEmpty then [] else Tryz.f4.params.toList.map fun t=>match Tryz.prog.underlying t with | some (.int k)=>some k | _=>none)) = true:=by kernel_rfl
theorem k29 : (Rows.constraintConsistentRow.pinned == Rows.constraintConsistentRow.pinnedBy) = true:=by kernel_rfl
theorem k30 : (Rows.constraintConsistentRow.veiled == (Tryz.f4.params.toList ++ Rows.constraintConsistentSpec.plain.varTypes Tryz.prog ++ Tryz.f4.resultTypes.toList).any (Tryz.prog.veiledRec ·)) = true:=by kernel_rfl
theorem k31 : Rows.constraintConsistentRow.veiledFits Tryz.prog Tryz.f4.params.toList (Tryz.f4.params.toList ++ Rows.constraintConsistentSpec.plain.varTypes Tryz.prog ++ Tryz.f4.resultTypes.toList) = true:=by kernel_rfl
set_option maxRecDepth 100000 in
theorem closed : joinedFacts Tryz.prog 4 Tryz.f4 Rows.constraintConsistentSpec Rows.constraintConsistentRow = true:=(am (am (am (am (am (am (am (am (am (am (am (am (am (am (am (am (am (am (am (am (am (am (am (am (am (am (am (am (am (am (am k0 k1) k2) k3) k4) k5) k6) k7) k8) k9) k10) k11) k12) k13) k14) k15) k16) k17) k18) k19) k20) k21) k22) k23) k24) k25) k26) k27) k28) k29) k30) k31)
theorem inst : Tryz.f4.isInstance Tryz.prog Rows.constraintConsistentRow.origin Rows.constraintConsistentRow.targs:=of_decide_eq_true (by kernel_rfl)
theorem named : Tryz.prog.funcNamed Rows.constraintConsistentRow.func = some 4:=by kernel_rfl
theorem wrapped : Tryz.f4.isWrapper Tryz.prog Rows.constraintConsistentRow.wrapper Rows.constraintConsistentRow.mainSum:=by unfold Func.isWrapper; first | (rw [if_pos (by decide +kernel)]; kernel_rfl) | (rw [if_neg (by decide +kernel)]; exact ⟨rfl,rfl⟩)
theorem over : Rows.constraintConsistentRow.holds Tryz.pinned (OpenSpec.ofChange Rows.constraintConsistentSpec):=
 OpenClaim.holds_of_wide 4 Tryz.f4 rfl rfl rfl rfl rfl rfl rfl ⟨rfl,rfl,rfl,rfl,rfl⟩ rfl rfl rfl rfl rfl named Tryz.func4 closed inst wrapped
  (fun os started H enc _=>lifted os started H enc)
theorem proved : Rows.ConstraintConsistentSaid:=
 over
#print axioms proved
end Go.Proofs.YtoijcliccgjolaaGreat.constraintConsistent
