/-
  The law ConstraintOrder holds for every input: the function returns true, and Z5t argument reads behind the call as it read before. No condition.
-/
import Derived.Test.YtoijcliccgjolaaGreatConW
import Derived.WalkKit
import Derived.ProofKit
import Derived.OpenShut
import Derived.ChangeMaps5
import Derived.Test.YtoijcliccgjolaaGreatDenArr
namespace Go.Proofs.YtoijcliccgjolaaGreat.constraintOrder
open Go.ChangeShapes Go.WideShapes Go.ChangeAt Go.RowKit Go.ChangeMaps Go.Den
set_option linter.unusedVariables false
theorem own : ownKnob Tryz.prog.godebug = none:=by kernel_rfl
theorem laid : laidOutB Tryz.prog = true:=by kernel_rfl
def wf_69 (y : Z5z) : Prop:=(fun s : List UInt8=>s.length ≤ reachBytes) y.Zgv ∧ ((fun n : Int=>IntKind.min .i64 ≤ n ∧ n ≤ IntKind.max .i64) y.f_To ∧ (True))
theorem rd_69 : Z2d Tryz.prog 69 Zf4 wf_69:=
 (Z3v (tot:=2) Tryz.underlying69 (by kernel_rfl) (Z10 (n:=1) (Z3f (P:=Tryz.prog) Tryz.underlying9) (by kernel_rfl) (Z10 (n:=1) (Z29 (P:=Tryz.prog) Tryz.underlying3) (by kernel_rfl) Z3l rfl) rfl)).map (fun p : (List UInt8) × (Int × Unit)=>({ Zgv:=p.1,f_To:=p.2.1 } : Z5z)) (fun _=>rfl) (fun _ h=>h)
def wf_64 (ys : List Z5z) : Prop:=(∀ y ∈ ys,wf_69 y) ∧ ys.length * Tryz.prog.bytesOf 69 ≤ reachBytes
theorem rd_64 : Z2d Tryz.prog 64 (fun ys : List Z5z=>[D.sl false (ys.map Zf4)]) wf_64:=Z51 Tryz.underlying64 (row:=Zf4) rd_69 (Nat.lt_of_lt_of_le (by decide : 0 < 1) (Nat.le_of_ble_eq_true (by kernel_rfl)))
def wf_86 (y : Z5y) : Prop:=(fun s : List UInt8=>s.length ≤ reachBytes) y.Z03 ∧ ((fun s : List UInt8=>s.length ≤ reachBytes) y.Z25 ∧ (True))
theorem rd_86 : Z2d Tryz.prog 86 Zdr wf_86:=
 (Z3v (tot:=2) Tryz.underlying86 (by kernel_rfl) (Z10 (n:=1) (Z3f (P:=Tryz.prog) Tryz.underlying9) (by kernel_rfl) (Z10 (n:=1) (Z3f (P:=Tryz.prog) Tryz.underlying9) (by kernel_rfl) Z3l rfl) rfl)).map (fun p : (List UInt8) × (List UInt8) × Unit=>({ Z03:=p.1,Z25:=p.2.1 } : Z5y)) (fun _=>rfl) (fun _ h=>h)
def wf_65 (ys : List Z5y) : Prop:=(∀ y ∈ ys,wf_86 y) ∧ ys.length * Tryz.prog.bytesOf 86 ≤ reachBytes
theorem rd_65 : Z2d Tryz.prog 65 (fun ys : List Z5y=>[D.sl false (ys.map Zdr)]) wf_65:=Z51 Tryz.underlying65 (row:=Zdr) rd_86 (Nat.lt_of_lt_of_le (by decide : 0 < 1) (Nat.le_of_ble_eq_true (by kernel_rfl)))
def wf_67 (y : Z1l) : Prop:=wf_64 y.Z4d ∧ (wf_65 y.Z33 ∧ (True))
theorem rd_67 : Z2d Tryz.prog 67 Z31 wf_67:=
 (Z3v (tot:=2) Tryz.underlying67 (by kernel_rfl) (Z10 (n:=1) rd_64 (by kernel_rfl) (Z10 (n:=1) rd_65 (by kernel_rfl) Z3l rfl) rfl)).map (fun p : (List Z5z) × (List Z5y) × Unit=>({ Z4d:=p.1,Z33:=p.2.1 } : Z1l)) (fun _=>rfl) (fun _ h=>h)
def wf_22 (ys : List Z1l) : Prop:=(∀ y ∈ ys,wf_67 y) ∧ ys.length * Tryz.prog.bytesOf 67 ≤ reachBytes
theorem rd_22 : Z2d Tryz.prog 22 (fun ys : List Z1l=>[D.sl false (ys.map Z31)]) wf_22:=Z51 Tryz.underlying22 (row:=Z31) rd_67 (Nat.lt_of_lt_of_le (by decide : 0 < 1) (Nat.le_of_ble_eq_true (by kernel_rfl)))
def wf_43 (ys : List (List UInt8)) : Prop:=(∀ y ∈ ys,(fun s : List UInt8=>s.length ≤ reachBytes) y) ∧ ys.length * Tryz.prog.bytesOf 9 ≤ reachBytes
theorem rd_43 : Z2d Tryz.prog 43 (fun ys : List (List UInt8)=>[D.sl false (ys.map Z3x)]) wf_43:=Z51 Tryz.underlying43 (row:=Z3x) (Z3f (P:=Tryz.prog) Tryz.underlying9) (Nat.lt_of_lt_of_le (by decide : 0 < 1) (Nat.le_of_ble_eq_true (by kernel_rfl)))
def wf_98 (y : Z3p) : Prop:=(fun n : Int=>IntKind.min .i64 ≤ n ∧ n ≤ IntKind.max .i64) y.Z0v ∧ ((fun s : List UInt8=>s.length ≤ reachBytes) y.Z03 ∧ ((fun s : List UInt8=>s.length ≤ reachBytes) y.Z1f ∧ ((fun n : Int=>IntKind.min .i64 ≤ n ∧ n ≤ IntKind.max .i64) y.Z5s ∧ ((fun n : Int=>IntKind.min .i64 ≤ n ∧ n ≤ IntKind.max .i64) y.f_N ∧ ((fun s : List UInt8=>s.length ≤ reachBytes) y.f_S ∧ (True))))))
theorem rd_98 : Z2d Tryz.prog 98 Z7a wf_98:=
 (Z3v (tot:=6) Tryz.underlying98 (by kernel_rfl) (Z10 (n:=1) (Z29 (P:=Tryz.prog) Tryz.underlying3) (by kernel_rfl) (Z10 (n:=1) (Z3f (P:=Tryz.prog) Tryz.underlying9) (by kernel_rfl) (Z10 (n:=1) (Z3f (P:=Tryz.prog) Tryz.underlying9) (by kernel_rfl) (Z10 (n:=1) (Z29 (P:=Tryz.prog) Tryz.underlying3) (by kernel_rfl) (Z10 (n:=1) (Z29 (P:=Tryz.prog) Tryz.underlying3) (by kernel_rfl) (Z10 (n:=1) (Z3f (P:=Tryz.prog) Tryz.underlying9) (by kernel_rfl) Z3l rfl) rfl) rfl) rfl) rfl) rfl)).map (fun p : Int × (List UInt8) × (List UInt8) × (Int × (Int × (List UInt8) × Unit))=>({ Z0v:=p.1,Z03:=p.2.1,Z1f:=p.2.2.1,Z5s:=p.2.2.2.1,f_N:=p.2.2.2.2.1,f_S:=p.2.2.2.2.2.1 } : Z3p)) (fun _=>rfl) (fun _ h=>h)
def wf_72 (ys : List Z3p) : Prop:=(∀ y ∈ ys,wf_98 y) ∧ ys.length * Tryz.prog.bytesOf 98 ≤ reachBytes
theorem rd_72 : Z2d Tryz.prog 72 (fun ys : List Z3p=>[D.sl false (ys.map Z7a)]) wf_72:=Z51 Tryz.underlying72 (row:=Z7a) rd_98 (Nat.lt_of_lt_of_le (by decide : 0 < 1) (Nat.le_of_ble_eq_true (by kernel_rfl)))
def wf_53 (ys : List Int) : Prop:=(∀ y ∈ ys,(fun n : Int=>IntKind.min .i64 ≤ n ∧ n ≤ IntKind.max .i64) y) ∧ ys.length * Tryz.prog.bytesOf 3 ≤ reachBytes
theorem rd_53 : Z2d Tryz.prog 53 (fun ys : List Int=>[D.sl false (ys.map Z02)]) wf_53:=Z51 Tryz.underlying53 (row:=Z02) (Z29 (P:=Tryz.prog) Tryz.underlying3) (Nat.lt_of_lt_of_le (by decide : 0 < 1) (Nat.le_of_ble_eq_true (by kernel_rfl)))
def wf_129 (y : Z23) : Prop:=(fun s : List UInt8=>s.length ≤ reachBytes) y.Z0s ∧ ((fun s : List UInt8=>s.length ≤ reachBytes) y.Z03 ∧ ((fun s : List UInt8=>s.length ≤ reachBytes) y.Z1f ∧ (True)))
theorem rd_129 : Z2d Tryz.prog 129 Zjz wf_129:=
 (Z3v (tot:=3) Tryz.underlying129 (by kernel_rfl) (Z10 (n:=1) (Z3f (P:=Tryz.prog) Tryz.underlying9) (by kernel_rfl) (Z10 (n:=1) (Z3f (P:=Tryz.prog) Tryz.underlying9) (by kernel_rfl) (Z10 (n:=1) (Z3f (P:=Tryz.prog) Tryz.underlying9) (by kernel_rfl) Z3l rfl) rfl) rfl)).map (fun p : (List UInt8) × (List UInt8) × (List UInt8) × Unit=>({ Z0s:=p.1,Z03:=p.2.1,Z1f:=p.2.2.1 } : Z23)) (fun _=>rfl) (fun _ h=>h)
def wf_131 (y : Z01) : Prop:=(fun n : Int=>IntKind.min .i64 ≤ n ∧ n ≤ IntKind.max .i64) y.f_Op ∧ ((fun n : Int=>IntKind.min .i64 ≤ n ∧ n ≤ IntKind.max .i64) y.f_A ∧ ((fun n : Int=>IntKind.min .i64 ≤ n ∧ n ≤ IntKind.max .i64) y.f_B ∧ ((fun n : Int=>IntKind.min .i64 ≤ n ∧ n ≤ IntKind.max .i64) y.f_To ∧ (wf_53 y.Z0q ∧ (wf_53 y.Z09 ∧ (wf_129 y.Z11 ∧ ((fun s : List UInt8=>s.length ≤ reachBytes) y.f_S ∧ (True))))))))
theorem rd_131 : Z2d Tryz.prog 131 Z0h wf_131:=
 (Z3v (tot:=10) Tryz.underlying131 (by kernel_rfl) (Z10 (n:=1) (Z29 (P:=Tryz.prog) Tryz.underlying3) (by kernel_rfl) (Z10 (n:=1) (Z29 (P:=Tryz.prog) Tryz.underlying3) (by kernel_rfl) (Z10 (n:=1) (Z29 (P:=Tryz.prog) Tryz.underlying3) (by kernel_rfl) (Z10 (n:=1) (Z29 (P:=Tryz.prog) Tryz.underlying3) (by kernel_rfl) (Z10 (n:=1) rd_53 (by kernel_rfl) (Z10 (n:=1) rd_53 (by kernel_rfl) (Z10 (n:=3) rd_129 (by kernel_rfl) (Z10 (n:=1) (Z3f (P:=Tryz.prog) Tryz.underlying9) (by kernel_rfl) Z3l rfl) rfl) rfl) rfl) rfl) rfl) rfl) rfl)).map (fun p : Int × (Int × (Int × (Int × (List Int) × (List Int) × (Z23 × (List UInt8) × Unit))))=>({ f_Op:=p.1,f_A:=p.2.1,f_B:=p.2.2.1,f_To:=p.2.2.2.1,Z0q:=p.2.2.2.2.1,Z09:=p.2.2.2.2.2.1,Z11:=p.2.2.2.2.2.2.1,f_S:=p.2.2.2.2.2.2.2.1 } : Z01)) (fun _=>rfl) (fun _ h=>h)
def wf_99 (ys : List Z01) : Prop:=(∀ y ∈ ys,wf_131 y) ∧ ys.length * Tryz.prog.bytesOf 131 ≤ reachBytes
theorem rd_99 : Z2d Tryz.prog 99 (fun ys : List Z01=>[D.sl false (ys.map Z0h)]) wf_99:=Z51 Tryz.underlying99 (row:=Z0h) rd_131 (Nat.lt_of_lt_of_le (by decide : 0 < 1) (Nat.le_of_ble_eq_true (by kernel_rfl)))
def wf_133 (y : Z0g) : Prop:=(fun n : Int=>IntKind.min .i64 ≤ n ∧ n ≤ IntKind.max .i64) y.Z42 ∧ ((fun n : Int=>IntKind.min .i64 ≤ n ∧ n ≤ IntKind.max .i64) y.f_To ∧ ((fun n : Int=>IntKind.min .i64 ≤ n ∧ n ≤ IntKind.max .i64) y.Z48 ∧ ((fun n : Int=>IntKind.min .i64 ≤ n ∧ n ≤ IntKind.max .i64) y.Z0s ∧ ((fun s : List UInt8=>s.length ≤ reachBytes) y.Z1j ∧ (True)))))
theorem rd_133 : Z2d Tryz.prog 133 Z0y wf_133:=
 (Z3v (tot:=5) Tryz.underlying133 (by kernel_rfl) (Z10 (n:=1) (Z29 (P:=Tryz.prog) Tryz.underlying3) (by kernel_rfl) (Z10 (n:=1) (Z29 (P:=Tryz.prog) Tryz.underlying3) (by kernel_rfl) (Z10 (n:=1) (Z29 (P:=Tryz.prog) Tryz.underlying3) (by kernel_rfl) (Z10 (n:=1) (Z29 (P:=Tryz.prog) Tryz.underlying3) (by kernel_rfl) (Z10 (n:=1) (Z3f (P:=Tryz.prog) Tryz.underlying9) (by kernel_rfl) Z3l rfl) rfl) rfl) rfl) rfl)).map (fun p : Int × (Int × (Int × (Int × (List UInt8) × Unit)))=>({ Z42:=p.1,f_To:=p.2.1,Z48:=p.2.2.1,Z0s:=p.2.2.2.1,Z1j:=p.2.2.2.2.1 } : Z0g)) (fun _=>rfl) (fun _ h=>h)
def wf_100 (ys : List Z0g) : Prop:=(∀ y ∈ ys,wf_133 y) ∧ ys.length * Tryz.prog.bytesOf 133 ≤ reachBytes
theorem rd_100 : Z2d Tryz.prog 100 (fun ys : List Z0g=>[D.sl false (ys.map Z0y)]) wf_100:=Z51 Tryz.underlying100 (row:=Z0y) rd_133 (Nat.lt_of_lt_of_le (by decide : 0 < 1) (Nat.le_of_ble_eq_true (by kernel_rfl)))
def wf_161 (y : Z0m) : Prop:=(fun n : Int=>IntKind.min .i64 ≤ n ∧ n ≤ IntKind.max .i64) y.Z1u ∧ ((fun n : Int=>IntKind.min .u8 ≤ n ∧ n ≤ IntKind.max .u8) y.Z1o ∧ ((fun s : List UInt8=>s.length ≤ reachBytes) y.Z03 ∧ (True)))
theorem rd_161 : Z2d Tryz.prog 161 Z2v wf_161:=
 (Z3v (tot:=3) Tryz.underlying161 (by kernel_rfl) (Z10 (n:=1) (Z29 (P:=Tryz.prog) Tryz.underlying3) (by kernel_rfl) (Z10 (n:=1) (Z29 (P:=Tryz.prog) Tryz.underlying5) (by kernel_rfl) (Z10 (n:=1) (Z3f (P:=Tryz.prog) Tryz.underlying9) (by kernel_rfl) Z3l rfl) rfl) rfl)).map (fun p : Int × (Int × (List UInt8) × Unit)=>({ Z1u:=p.1,Z1o:=p.2.1,Z03:=p.2.2.1 } : Z0m)) (fun _=>rfl) (fun _ h=>h)
def wf_163 (y : Z0d) : Prop:=(fun n : Int=>IntKind.min .i64 ≤ n ∧ n ≤ IntKind.max .i64) y.Z2c ∧ ((fun n : Int=>IntKind.min .i64 ≤ n ∧ n ≤ IntKind.max .i64) y.Z2u ∧ (wf_161 y.Z1j ∧ ((fun n : Int=>IntKind.min .i64 ≤ n ∧ n ≤ IntKind.max .i64) y.Z2y ∧ (True))))
theorem rd_163 : Z2d Tryz.prog 163 Z1q wf_163:=
 (Z3v (tot:=6) Tryz.underlying163 (by kernel_rfl) (Z10 (n:=1) (Z29 (P:=Tryz.prog) Tryz.underlying3) (by kernel_rfl) (Z10 (n:=1) (Z29 (P:=Tryz.prog) Tryz.underlying3) (by kernel_rfl) (Z10 (n:=3) rd_161 (by kernel_rfl) (Z10 (n:=1) (Z29 (P:=Tryz.prog) Tryz.underlying3) (by kernel_rfl) Z3l rfl) rfl) rfl) rfl)).map (fun p : Int × (Int × (Z0m × (Int × Unit)))=>({ Z2c:=p.1,Z2u:=p.2.1,Z1j:=p.2.2.1,Z2y:=p.2.2.2.1 } : Z0d)) (fun _=>rfl) (fun _ h=>h)
def wf_137 (ys : List Z0d) : Prop:=(∀ y ∈ ys,wf_163 y) ∧ ys.length * Tryz.prog.bytesOf 163 ≤ reachBytes
theorem rd_137 : Z2d Tryz.prog 137 (fun ys : List Z0d=>[D.sl false (ys.map Z1q)]) wf_137:=Z51 Tryz.underlying137 (row:=Z1q) rd_163 (Nat.lt_of_lt_of_le (by decide : 0 < 1) (Nat.le_of_ble_eq_true (by kernel_rfl)))
def wf_139 (y : Z56) : Prop:=wf_137 y.Z0o ∧ (wf_137 y.Z0r ∧ ((fun _ : Bool=>True) y.Z4c ∧ (True)))
theorem rd_139 : Z2d Tryz.prog 139 Zw3 wf_139:=
 (Z3v (tot:=3) Tryz.underlying139 (by kernel_rfl) (Z10 (n:=1) rd_137 (by kernel_rfl) (Z10 (n:=1) rd_137 (by kernel_rfl) (Z10 (n:=1) (Zwl (P:=Tryz.prog) Tryz.underlying4) (by kernel_rfl) Z3l rfl) rfl) rfl)).map (fun p : (List Z0d) × (List Z0d) × (Bool × Unit)=>({ Z0o:=p.1,Z0r:=p.2.1,Z4c:=p.2.2.1 } : Z56)) (fun _=>rfl) (fun _ h=>h)
def wf_141 (y : Z0i) : Prop:=(fun n : Int=>IntKind.min .i64 ≤ n ∧ n ≤ IntKind.max .i64) y.Z2e ∧ (wf_139 y.Z1k ∧ (True))
theorem rd_141 : Z2d Tryz.prog 141 Z16 wf_141:=
 (Z3v (tot:=4) Tryz.underlying141 (by kernel_rfl) (Z10 (n:=1) (Z29 (P:=Tryz.prog) Tryz.underlying3) (by kernel_rfl) (Z10 (n:=3) rd_139 (by kernel_rfl) Z3l rfl) rfl)).map (fun p : Int × (Z56 × Unit)=>({ Z2e:=p.1,Z1k:=p.2.1 } : Z0i)) (fun _=>rfl) (fun _ h=>h)
def wf_101 (ys : List Z0i) : Prop:=(∀ y ∈ ys,wf_141 y) ∧ ys.length * Tryz.prog.bytesOf 141 ≤ reachBytes
theorem rd_101 : Z2d Tryz.prog 101 (fun ys : List Z0i=>[D.sl false (ys.map Z16)]) wf_101:=Z51 Tryz.underlying101 (row:=Z16) rd_141 (Nat.lt_of_lt_of_le (by decide : 0 < 1) (Nat.le_of_ble_eq_true (by kernel_rfl)))
def wf_135 (y : Z0t) : Prop:=(fun n : Int=>IntKind.min .i64 ≤ n ∧ n ≤ IntKind.max .i64) y.Z2e ∧ ((fun n : Int=>IntKind.min .i64 ≤ n ∧ n ≤ IntKind.max .i64) y.Z53 ∧ (True))
theorem rd_135 : Z2d Tryz.prog 135 Z1g wf_135:=
 (Z3v (tot:=2) Tryz.underlying135 (by kernel_rfl) (Z10 (n:=1) (Z29 (P:=Tryz.prog) Tryz.underlying3) (by kernel_rfl) (Z10 (n:=1) (Z29 (P:=Tryz.prog) Tryz.underlying3) (by kernel_rfl) Z3l rfl) rfl)).map (fun p : Int × (Int × Unit)=>({ Z2e:=p.1,Z53:=p.2.1 } : Z0t)) (fun _=>rfl) (fun _ h=>h)
def wf_102 (ys : List Z0t) : Prop:=(∀ y ∈ ys,wf_135 y) ∧ ys.length * Tryz.prog.bytesOf 135 ≤ reachBytes
theorem rd_102 : Z2d Tryz.prog 102 (fun ys : List Z0t=>[D.sl false (ys.map Z1g)]) wf_102:=Z51 Tryz.underlying102 (row:=Z1g) rd_135 (Nat.lt_of_lt_of_le (by decide : 0 < 1) (Nat.le_of_ble_eq_true (by kernel_rfl)))
def wf_104 (y : Z06) : Prop:=(fun n : Int=>IntKind.min .i64 ≤ n ∧ n ≤ IntKind.max .i64) y.Z0r ∧ ((fun n : Int=>IntKind.min .i64 ≤ n ∧ n ≤ IntKind.max .i64) y.Z0o ∧ (wf_99 y.Z0l ∧ (wf_100 y.Z1i ∧ (wf_101 y.Z12 ∧ (wf_102 y.Z1b ∧ (True))))))
theorem rd_104 : Z2d Tryz.prog 104 Z13 wf_104:=
 (Z3v (tot:=6) Tryz.underlying104 (by kernel_rfl) (Z10 (n:=1) (Z29 (P:=Tryz.prog) Tryz.underlying3) (by kernel_rfl) (Z10 (n:=1) (Z29 (P:=Tryz.prog) Tryz.underlying3) (by kernel_rfl) (Z10 (n:=1) rd_99 (by kernel_rfl) (Z10 (n:=1) rd_100 (by kernel_rfl) (Z10 (n:=1) rd_101 (by kernel_rfl) (Z10 (n:=1) rd_102 (by kernel_rfl) Z3l rfl) rfl) rfl) rfl) rfl) rfl)).map (fun p : Int × (Int × (List Z01) × (List Z0g) × (List Z0i) × (List Z0t) × Unit)=>({ Z0r:=p.1,Z0o:=p.2.1,Z0l:=p.2.2.1,Z1i:=p.2.2.2.1,Z12:=p.2.2.2.2.1,Z1b:=p.2.2.2.2.2.1 } : Z06)) (fun _=>rfl) (fun _ h=>h)
def wf_106 (y : Z2i) : Prop:=(fun n : Int=>IntKind.min .i64 ≤ n ∧ n ≤ IntKind.max .i64) y.Z0v ∧ ((fun s : List UInt8=>s.length ≤ reachBytes) y.Z03 ∧ ((fun s : List UInt8=>s.length ≤ reachBytes) y.Z1f ∧ ((fun _ : Bool=>True) y.Z9u ∧ (wf_104 y.Z2m ∧ (wf_43 y.Z6b ∧ (True))))))
theorem rd_106 : Z2d Tryz.prog 106 Z6t wf_106:=
 (Z3v (tot:=11) Tryz.underlying106 (by kernel_rfl) (Z10 (n:=1) (Z29 (P:=Tryz.prog) Tryz.underlying3) (by kernel_rfl) (Z10 (n:=1) (Z3f (P:=Tryz.prog) Tryz.underlying9) (by kernel_rfl) (Z10 (n:=1) (Z3f (P:=Tryz.prog) Tryz.underlying9) (by kernel_rfl) (Z10 (n:=1) (Zwl (P:=Tryz.prog) Tryz.underlying4) (by kernel_rfl) (Z10 (n:=6) rd_104 (by kernel_rfl) (Z10 (n:=1) rd_43 (by kernel_rfl) Z3l rfl) rfl) rfl) rfl) rfl) rfl)).map (fun p : Int × (List UInt8) × (List UInt8) × (Bool × (Z06 × (List (List UInt8)) × Unit))=>({ Z0v:=p.1,Z03:=p.2.1,Z1f:=p.2.2.1,Z9u:=p.2.2.2.1,Z2m:=p.2.2.2.2.1,Z6b:=p.2.2.2.2.2.1 } : Z2i)) (fun _=>rfl) (fun _ h=>h)
def wf_73 (ys : List Z2i) : Prop:=(∀ y ∈ ys,wf_106 y) ∧ ys.length * Tryz.prog.bytesOf 106 ≤ reachBytes
theorem rd_73 : Z2d Tryz.prog 73 (fun ys : List Z2i=>[D.sl false (ys.map Z6t)]) wf_73:=Z51 Tryz.underlying73 (row:=Z6t) rd_106 (Nat.lt_of_lt_of_le (by decide : 0 < 1) (Nat.le_of_ble_eq_true (by kernel_rfl)))
def wf_75 (y : Z14) : Prop:=(fun n : Int=>IntKind.min .i64 ≤ n ∧ n ≤ IntKind.max .i64) y.Z0v ∧ ((fun s : List UInt8=>s.length ≤ reachBytes) y.Z03 ∧ ((fun s : List UInt8=>s.length ≤ reachBytes) y.Z1n ∧ (wf_43 y.Z15 ∧ (wf_72 y.Z1c ∧ (wf_73 y.Z18 ∧ ((fun s : List UInt8=>s.length ≤ reachBytes) y.Z6u ∧ (True)))))))
theorem rd_75 : Z2d Tryz.prog 75 Z2k wf_75:=
 (Z3v (tot:=7) Tryz.underlying75 (by kernel_rfl) (Z10 (n:=1) (Z29 (P:=Tryz.prog) Tryz.underlying3) (by kernel_rfl) (Z10 (n:=1) (Z3f (P:=Tryz.prog) Tryz.underlying9) (by kernel_rfl) (Z10 (n:=1) (Z3f (P:=Tryz.prog) Tryz.underlying9) (by kernel_rfl) (Z10 (n:=1) rd_43 (by kernel_rfl) (Z10 (n:=1) rd_72 (by kernel_rfl) (Z10 (n:=1) rd_73 (by kernel_rfl) (Z10 (n:=1) (Z3f (P:=Tryz.prog) Tryz.underlying9) (by kernel_rfl) Z3l rfl) rfl) rfl) rfl) rfl) rfl) rfl)).map (fun p : Int × (List UInt8) × (List UInt8) × (List (List UInt8)) × (List Z3p) × (List Z2i) × (List UInt8) × Unit=>({ Z0v:=p.1,Z03:=p.2.1,Z1n:=p.2.2.1,Z15:=p.2.2.2.1,Z1c:=p.2.2.2.2.1,Z18:=p.2.2.2.2.2.1,Z6u:=p.2.2.2.2.2.2.1 } : Z14)) (fun _=>rfl) (fun _ h=>h)
def wf_77 (y : Z2p) : Prop:=(fun n : Int=>IntKind.min .i64 ≤ n ∧ n ≤ IntKind.max .i64) y.Z1m ∧ (wf_75 y.Z2o ∧ ((fun n : Int=>IntKind.min .i64 ≤ n ∧ n ≤ IntKind.max .i64) y.Z1n ∧ (wf_53 y.Z15 ∧ ((fun n : Int=>IntKind.min .i64 ≤ n ∧ n ≤ IntKind.max .i64) y.Z91 ∧ ((fun n : Int=>IntKind.min .i64 ≤ n ∧ n ≤ IntKind.max .i64) y.Zay ∧ (True))))))
theorem rd_77 : Z2d Tryz.prog 77 Z50 wf_77:=
 (Z3v (tot:=12) Tryz.underlying77 (by kernel_rfl) (Z10 (n:=1) (Z29 (P:=Tryz.prog) Tryz.underlying3) (by kernel_rfl) (Z10 (n:=7) rd_75 (by kernel_rfl) (Z10 (n:=1) (Z29 (P:=Tryz.prog) Tryz.underlying3) (by kernel_rfl) (Z10 (n:=1) rd_53 (by kernel_rfl) (Z10 (n:=1) (Z29 (P:=Tryz.prog) Tryz.underlying3) (by kernel_rfl) (Z10 (n:=1) (Z29 (P:=Tryz.prog) Tryz.underlying35) (by kernel_rfl) Z3l rfl) rfl) rfl) rfl) rfl) rfl)).map (fun p : Int × (Z14 × (Int × (List Int) × (Int × (Int × Unit))))=>({ Z1m:=p.1,Z2o:=p.2.1,Z1n:=p.2.2.1,Z15:=p.2.2.2.1,Z91:=p.2.2.2.2.1,Zay:=p.2.2.2.2.2.1 } : Z2p)) (fun _=>rfl) (fun _ h=>h)
def wf_23 (ys : List Z2p) : Prop:=(∀ y ∈ ys,wf_77 y) ∧ ys.length * Tryz.prog.bytesOf 77 ≤ reachBytes
theorem rd_23 : Z2d Tryz.prog 23 (fun ys : List Z2p=>[D.sl false (ys.map Z50)]) wf_23:=Z51 Tryz.underlying23 (row:=Z50) rd_77 (Nat.lt_of_lt_of_le (by decide : 0 < 1) (Nat.le_of_ble_eq_true (by kernel_rfl)))
def wf_58 (y : Z21) : Prop:=(fun n : Int=>IntKind.min .i64 ≤ n ∧ n ≤ IntKind.max .i64) y.Z1m ∧ ((fun s : List UInt8=>s.length ≤ reachBytes) y.Z03 ∧ ((fun n : Int=>IntKind.min .i64 ≤ n ∧ n ≤ IntKind.max .i64) y.Z0s ∧ (True)))
theorem rd_58 : Z2d Tryz.prog 58 Z3z wf_58:=
 (Z3v (tot:=3) Tryz.underlying58 (by kernel_rfl) (Z10 (n:=1) (Z29 (P:=Tryz.prog) Tryz.underlying3) (by kernel_rfl) (Z10 (n:=1) (Z3f (P:=Tryz.prog) Tryz.underlying9) (by kernel_rfl) (Z10 (n:=1) (Z29 (P:=Tryz.prog) Tryz.underlying3) (by kernel_rfl) Z3l rfl) rfl) rfl)).map (fun p : Int × (List UInt8) × (Int × Unit)=>({ Z1m:=p.1,Z03:=p.2.1,Z0s:=p.2.2.1 } : Z21)) (fun _=>rfl) (fun _ h=>h)
def wf_24 (ys : List Z21) : Prop:=(∀ y ∈ ys,wf_58 y) ∧ ys.length * Tryz.prog.bytesOf 58 ≤ reachBytes
theorem rd_24 : Z2d Tryz.prog 24 (fun ys : List Z21=>[D.sl false (ys.map Z3z)]) wf_24:=Z51 Tryz.underlying24 (row:=Z3z) rd_58 (Nat.lt_of_lt_of_le (by decide : 0 < 1) (Nat.le_of_ble_eq_true (by kernel_rfl)))
def wf_48 (y : Z1a) : Prop:=(fun s : List UInt8=>s.length ≤ reachBytes) y.Z03 ∧ ((fun n : Int=>IntKind.min .i64 ≤ n ∧ n ≤ IntKind.max .i64) y.f_A ∧ ((fun n : Int=>IntKind.min .i64 ≤ n ∧ n ≤ IntKind.max .i64) y.f_B ∧ (True)))
theorem rd_48 : Z2d Tryz.prog 48 Z3d wf_48:=
 (Z3v (tot:=3) Tryz.underlying48 (by kernel_rfl) (Z10 (n:=1) (Z3f (P:=Tryz.prog) Tryz.underlying9) (by kernel_rfl) (Z10 (n:=1) (Z29 (P:=Tryz.prog) Tryz.underlying3) (by kernel_rfl) (Z10 (n:=1) (Z29 (P:=Tryz.prog) Tryz.underlying3) (by kernel_rfl) Z3l rfl) rfl) rfl)).map (fun p : (List UInt8) × (Int × (Int × Unit))=>({ Z03:=p.1,f_A:=p.2.1,f_B:=p.2.2.1 } : Z1a)) (fun _=>rfl) (fun _ h=>h)
def wf_25 (ys : List Z1a) : Prop:=(∀ y ∈ ys,wf_48 y) ∧ ys.length * Tryz.prog.bytesOf 48 ≤ reachBytes
theorem rd_25 : Z2d Tryz.prog 25 (fun ys : List Z1a=>[D.sl false (ys.map Z3d)]) wf_25:=Z51 Tryz.underlying25 (row:=Z3d) rd_48 (Nat.lt_of_lt_of_le (by decide : 0 < 1) (Nat.le_of_ble_eq_true (by kernel_rfl)))
def wf_27 (y : Z07) : Prop:=wf_22 y.Z0z ∧ (wf_23 y.Z2f ∧ (wf_24 y.Z0u ∧ (wf_25 y.Z0j ∧ (True))))
theorem rd_27 : Z2d Tryz.prog 27 Z1h wf_27:=
 (Z3v (tot:=4) Tryz.underlying27 (by kernel_rfl) (Z10 (n:=1) rd_22 (by kernel_rfl) (Z10 (n:=1) rd_23 (by kernel_rfl) (Z10 (n:=1) rd_24 (by kernel_rfl) (Z10 (n:=1) rd_25 (by kernel_rfl) Z3l rfl) rfl) rfl) rfl)).map (fun p : (List Z1l) × (List Z2p) × (List Z21) × (List Z1a) × Unit=>({ Z0z:=p.1,Z2f:=p.2.1,Z0u:=p.2.2.1,Z0j:=p.2.2.2.1 } : Z07)) (fun _=>rfl) (fun _ h=>h)
def wf_40 (y : Z3r) : Prop:=(fun s : List UInt8=>s.length ≤ reachBytes) y.a0 ∧ ((fun s : List UInt8=>s.length ≤ reachBytes) y.a1 ∧ (True))
theorem rd_40 : Z2d Tryz.prog 40 Zox wf_40:=
 (Zss (tot:=2) [arF 9 0,arF 9 1] Tryz.underlying40 (by kernel_rfl) (by kernel_rfl) (Z10 (n:=1) (Z3f (P:=Tryz.prog) Tryz.underlying9) (by kernel_rfl) (Z10 (n:=1) (Z3f (P:=Tryz.prog) Tryz.underlying9) (by kernel_rfl) Z3l rfl) rfl)).map (fun p : (List UInt8) × (List UInt8) × Unit=>({ a0:=p.1,a1:=p.2.1 } : Z3r)) (fun _=>rfl) (fun _ h=>h)
def wf_41 (y : Z68) : Prop:=(fun n : Int=>IntKind.min .i64 ≤ n ∧ n ≤ IntKind.max .i64) y.a0 ∧ ((fun n : Int=>IntKind.min .i64 ≤ n ∧ n ≤ IntKind.max .i64) y.a1 ∧ ((fun n : Int=>IntKind.min .i64 ≤ n ∧ n ≤ IntKind.max .i64) y.a2 ∧ ((fun n : Int=>IntKind.min .i64 ≤ n ∧ n ≤ IntKind.max .i64) y.a3 ∧ (True))))
theorem rd_41 : Z2d Tryz.prog 41 Zp3 wf_41:=
 (Zss (tot:=4) [arF 3 0,arF 3 1,arF 3 2,arF 3 3] Tryz.underlying41 (by kernel_rfl) (by kernel_rfl) (Z10 (n:=1) (Z29 (P:=Tryz.prog) Tryz.underlying3) (by kernel_rfl) (Z10 (n:=1) (Z29 (P:=Tryz.prog) Tryz.underlying3) (by kernel_rfl) (Z10 (n:=1) (Z29 (P:=Tryz.prog) Tryz.underlying3) (by kernel_rfl) (Z10 (n:=1) (Z29 (P:=Tryz.prog) Tryz.underlying3) (by kernel_rfl) Z3l rfl) rfl) rfl) rfl)).map (fun p : Int × (Int × (Int × (Int × Unit)))=>({ a0:=p.1,a1:=p.2.1,a2:=p.2.2.1,a3:=p.2.2.2.1 } : Z68)) (fun _=>rfl) (fun _ h=>h)
theorem rlS {n : Nat} (h : n ≤ reachBytes) : n ≤ 4503599627370496:=Nat.le_trans h (by decide)
theorem rlB {n b k : Nat} (e : b = k) (h : n * b ≤ reachBytes) : n * k ≤ 140737488355328:=by have:=Zqh h; rw [e] at this; omega
theorem rlN {n b : Nat} (e : 1 ≤ b) (h : n * b ≤ reachBytes) : n ≤ 140737488355328:=Nat.le_trans (Nat.le_trans (Nat.le_of_eq (Nat.mul_one n).symm) (Nat.mul_le_mul_left n e)) (by have:=Zqh h; omega)
theorem ws_T_api_Ref {y : Z23} (h : wf_129 y) : WRef y:=⟨rlS h.1,rlS h.2.1,rlS h.2.2.1⟩
theorem ws_T_api_Insn {y : Z01} (h : wf_131 y) : Z2n y:=⟨rlB (by kernel_rfl) h.2.2.2.2.1.2,rlB (by kernel_rfl) h.2.2.2.2.2.1.2,ws_T_api_Ref h.2.2.2.2.2.2.1,rlS h.2.2.2.2.2.2.2.1⟩
theorem ws_T_api_Frame {y : Z56} (h : wf_139 y) : Z96 y:=⟨fun v hv=>rlS (h.1.1 v hv).2.2.1.2.2.1,rlB (by kernel_rfl) h.1.2,fun v hv=>rlS (h.2.1.1 v hv).2.2.1.2.2.1,rlB (by kernel_rfl) h.2.1.2⟩
theorem ws_T_api_Code {y : Z06} (h : wf_104 y) : Z4r y:=⟨fun v hv=>ws_T_api_Insn (h.2.2.1.1 v hv),rlB (by kernel_rfl) h.2.2.1.2,fun v hv=>rlS (h.2.2.2.1.1 v hv).2.2.2.2.1,rlB (by kernel_rfl) h.2.2.2.1.2,fun v hv=>ws_T_api_Frame (h.2.2.2.2.1.1 v hv).2.1,rlB (by kernel_rfl) h.2.2.2.2.1.2,rlB (by kernel_rfl) h.2.2.2.2.2.1.2⟩
theorem ws_T_api_Method {y : Z2i} (h : wf_106 y) : Z97 y:=⟨rlS h.2.1,rlS h.2.2.1,ws_T_api_Code h.2.2.2.2.1,fun v hv=>rlS (h.2.2.2.2.2.1.1 v hv),rlB (by kernel_rfl) h.2.2.2.2.2.1.2⟩
theorem ws_T_api_Field {y : Z3p} (h : wf_98 y) : Zog y:=⟨rlS h.2.1,rlS h.2.2.1,rlS h.2.2.2.2.2.1⟩
theorem ws_T_api_ClassModel {y : Z14} (h : wf_75 y) : Z58 y:=⟨rlS h.2.1,rlS h.2.2.1,fun v hv=>rlS (h.2.2.2.1.1 v hv),rlB (by kernel_rfl) h.2.2.2.1.2,fun v hv=>ws_T_api_Field (h.2.2.2.2.1.1 v hv),rlB (by kernel_rfl) h.2.2.2.2.1.2,fun v hv=>ws_T_api_Method (h.2.2.2.2.2.1.1 v hv),rlB (by kernel_rfl) h.2.2.2.2.2.1.2,rlS h.2.2.2.2.2.2.1⟩
theorem ws_T_api_Loader {y : Z1l} (h : wf_67 y) : Z77 y:=⟨fun v hv=>rlS (h.1.1 v hv).1,rlN (Nat.le_of_ble_eq_true (by kernel_rfl)) h.1.2,fun v hv=>rlS (h.2.1.1 v hv).1,rlN (Nat.le_of_ble_eq_true (by kernel_rfl)) h.2.1.2⟩
theorem ws_T_api_ClassSpace {y : Z07} (h : wf_27 y) : Z39 y:=⟨fun v hv=>ws_T_api_Loader (h.1.1 v hv),rlN (Nat.le_of_ble_eq_true (by kernel_rfl)) h.1.2,fun v hv=>⟨ws_T_api_ClassModel (h.2.1.1 v hv).2.1,rlN (Nat.le_of_ble_eq_true (by kernel_rfl)) (h.2.1.1 v hv).2.2.2.1.2⟩,rlN (Nat.le_of_ble_eq_true (by kernel_rfl)) h.2.1.2,fun v hv=>rlS (h.2.2.1.1 v hv).2.1,rlN (Nat.le_of_ble_eq_true (by kernel_rfl)) h.2.2.1.2,fun v hv=>rlS (h.2.2.2.1.1 v hv).1,rlN (Nat.le_of_ble_eq_true (by kernel_rfl)) h.2.2.2.1.2⟩
set_option maxRecDepth 100000 in
theorem lifted (os : Os) (started : os.Started) (H : Type) (enc : TypeId × Value → H) :
  ReturnsInHanded {} Tryz.checked os 6 .any (Rows.constraintOrderSpec.pre6 enc Tryz.prog Tryz.f6 Rows.constraintOrderRow.domain false) (Rows.constraintOrderSpec.post enc Tryz.prog Tryz.f6 false true false false):=by
 refine returnsInHanded_of_change_sized (C:=Tryz.checked) own started (by kernel_rfl) Tryz.func6
  (ChangeSpec.witness6 (enc:=enc) (C:=Tryz.checked) false ⟨#[],#[.agg #[.slice none 0 0,.slice none 0 0,.slice none 0 0,.slice none 0 0],.agg #[.string ⟨#[]⟩,.string ⟨#[]⟩],.agg #[.int .i64 0,.int .i64 0,.int .i64 0,.int .i64 0]],[]⟩ 8 (by kernel_rfl) (by kernel_rfl) (by kernel_rfl) (by kernel_rfl)) ?_
 intro W base args ds gs before hval0 hW hcnd hsz _
 have hval : ∀ (j : Nat) t v,Tryz.f6.params[j]? = some t → args[j]? = some v → Value.okWide Tryz.prog W .any base t v:=hval0
 have hW':=hW
 obtain ⟨p,q,hA0,hV,rfl,hfz,hnd⟩:=hW
 have hA : DataW.TrodAll enc Tryz.prog W 0 (fun _=>true) true Tryz.f6.params.toList args.toList ds p:=hA0
 rw [Tryz.params6] at hA hval
 obtain ⟨v0,vs0,d0,ds0,p0,q0,hargs,rfl,rfl,h0,r0⟩:=trodAll_cons hA
 obtain ⟨v1,vs1,d1,ds1,p1,q1,rfl,rfl,rfl,h1,r1⟩:=trodAll_cons r0
 obtain ⟨v2,vs2,d2,ds2,p2,q2,rfl,rfl,rfl,h2,r2⟩:=trodAll_cons r1
 obtain ⟨rfl,rfl,rfl⟩:=trodAll_nil r2
 obtain rfl : args = #[v0,v1,v2] :=by cases args; simp_all
 obtain ⟨rfl,rfl⟩:=trodVars_none hV
 have hsz2 : (DataW.weightsEach Tryz.prog (Tryz.f6.params.toList ++ []) ([d0,d1,d2] ++ [])).all (· ≤ reachBytes) = true:=hsz
 rw [Tryz.params6] at hsz2
 simp only [List.append_nil,DataW.weightsEach,List.all_append,Bool.and_eq_true] at hsz2
 obtain ⟨z0,z1,z2⟩:=hsz2
 obtain ⟨y0,c0,g0⟩:=arg_agg (M:=Z64.reach Tryz.prog) Tryz.underlying27 rd_27 (hval 0 27 v0 rfl rfl) h0 z0
 obtain ⟨y1,c1,g1⟩:=Zu6 (M:=Z64.reach Tryz.prog) Tryz.underlying40 rd_40 (hval 1 40 v1 rfl rfl) h1 z1
 obtain ⟨y2,c2,g2⟩:=Zu6 (M:=Z64.reach Tryz.prog) Tryz.underlying41 rd_41 (hval 2 41 v2 rfl rfl) h2 z2
 exact Zxu (P:=Tryz.prog) (fn:=Tryz.f6) (tb:=4) rfl (by kernel_rfl) Tryz.underlying4 laid (by kernel_rfl) hW' rfl (.cons c0 (.cons c1 (.cons c2 .nil))) (w6 (Y0g y0 (ws_T_api_ClassSpace g0) y1 y2 (rlS g1.1) (rlS g1.2.1)))
theorem am {a b : Bool} (h : a = true) (g : b = true) : (a && b) = true:=by rw [h,g]; rfl
theorem k0 : Rows.constraintOrderRow.wf (OpenSpec.ofChange Rows.constraintOrderSpec) = true:=by kernel_rfl
theorem k1 : laidOutB Tryz.prog = true:=by kernel_rfl
theorem k2 : mapsRowed Tryz.prog = true:=by kernel_rfl
theorem k3 : Tryz.f6.params.all (Tryz.prog.readableRec ·) = true:=by kernel_rfl
theorem k4 : namedTie Tryz.prog Rows.constraintOrderRow.named Rows.constraintOrderSpec.vars = true:=by kernel_rfl
theorem k5 : (Rows.constraintOrderRow.stops == []) = true:=by kernel_rfl
theorem k6 : (Tryz.prog.stops == []) = true:=by kernel_rfl
theorem k7 : (Rows.constraintOrderRow.knobs == []) = true:=by kernel_rfl
theorem k8 : (Tryz.prog.stopKnobs == []) = true:=by kernel_rfl
theorem k9 : (Rows.constraintOrderRow.inPlace == Tryz.prog.inPlace 6) = true:=by kernel_rfl
theorem k10 : (Rows.constraintOrderRow.unfollowed == Tryz.prog.unfollowed 6) = true:=by kernel_rfl
theorem k11 : (Rows.constraintOrderRow.recurses == Tryz.prog.recurses 6) = true:=by kernel_rfl
theorem k12 : (Rows.constraintOrderRow.named == Tryz.prog.varsNamed 6) = true:=by kernel_rfl
theorem k13 : (Rows.constraintOrderRow.maps == (Tryz.f6.params.toList ++ Rows.constraintOrderSpec.plain.varTypes Tryz.prog).any (Tryz.prog.mapsRec ·)) = true:=by kernel_rfl
theorem k14 : (Rows.constraintOrderRow.ifaces == (Tryz.f6.params.toList ++ Rows.constraintOrderSpec.plain.varTypes Tryz.prog).any (Tryz.prog.ifacesRec ·)) = true:=by kernel_rfl
theorem k15 : (Rows.constraintOrderRow.mapsOut == Tryz.prog.mapsAmong Tryz.f6.resultTypes.toList) = true:=by kernel_rfl
theorem k16 : (Rows.constraintOrderRow.loops == (Tryz.f6.params.toList ++ Rows.constraintOrderSpec.plain.varTypes Tryz.prog).any (Tryz.prog.loopsFrom ·)) = true:=by kernel_rfl
theorem k17 : (Rows.constraintOrderRow.wideKeys == (Tryz.f6.params.toList ++ Rows.constraintOrderSpec.plain.varTypes Tryz.prog ++ Tryz.f6.resultTypes.toList).any (Tryz.prog.wideKeysFrom ·)) = true:=by kernel_rfl
theorem k18 : Rows.constraintOrderSpec.vars.all (Tryz.prog.varReadable ·) = true:=by kernel_rfl
theorem k19 : Tryz.f6.resultTypes.all (fun t=>Tryz.prog.readableRec t && decide (t < Tryz.prog.types.size)) = true:=by kernel_rfl
theorem k20 : (Rows.constraintOrderRow.ifacesOut == Tryz.f6.resultTypes.toList.any (Tryz.prog.ifacesRec ·)) = true:=by kernel_rfl
theorem k21 : (Rows.constraintOrderRow.loopsOut == Tryz.f6.resultTypes.toList.any (Tryz.prog.loopsFrom ·)) = true:=by kernel_rfl
theorem k22 : (Rows.constraintOrderRow.plainKeys == Tryz.prog.plainKeys) = true:=by kernel_rfl
theorem k23 : Rows.constraintOrderRow.shortTexts.isNone = true:=by kernel_rfl
theorem k24 : Tryz.prog.stopsHeard = true:=by kernel_rfl
theorem k25 : Tryz.prog.mayEnter = true:=by kernel_rfl
theorem k26 : (Rows.constraintOrderRow.lifted == Tryz.prog.liftsFinal) = true:=by kernel_rfl
theorem k27 : (Tryz.prog.make == some Rows.constraintOrderRow.make) = true:=by kernel_rfl
theorem k28 : (Rows.constraintOrderRow.kinds == (if Rows.constraintOrderRow.domain.isEmpty then [] else Tryz.f6.params.toList.map fun t=>match Tryz.prog.underlying t with | some (.int k)=>some k | _=>none)) = true:=by kernel_rfl
theorem k29 : (Rows.constraintOrderRow.pinned == Rows.constraintOrderRow.pinnedBy) = true:=by kernel_rfl
theorem k30 : (Rows.constraintOrderRow.veiled == (Tryz.f6.params.toList ++ Rows.constraintOrderSpec.plain.varTypes Tryz.prog ++ Tryz.f6.resultTypes.toList).any (Tryz.prog.veiledRec ·)) = true:=by kernel_rfl
theorem k31 : Rows.constraintOrderRow.veiledFits Tryz.prog Tryz.f6.params.toList (Tryz.f6.params.toList ++ Rows.constraintOrderSpec.plain.varTypes Tryz.prog ++ Tryz.f6.resultTypes.toList) = true:=by kernel_rfl
set_option maxRecDepth 100000 in
theorem closed : joinedFacts Tryz.prog 6 Tryz.f6 Rows.constraintOrderSpec Rows.constraintOrderRow = true:=(am (am (am (am (am (am (am (am (am (am (am (am (am (am (am (am (am (am (am (am (am (am (am (am (am (am (am (am (am (am (am k0 k1) k2) k3) k4) k5) k6) k7) k8) k9) k10) k11) k12) k13) k14) k15) k16) k17) k18) k19) k20) k21) k22) k23) k24) k25) k26) k27) k28) k29) k30) k31)
theorem inst : Tryz.f6.isInstance Tryz.prog Rows.constraintOrderRow.origin Rows.constraintOrderRow.targs:=of_decide_eq_true (by kernel_rfl)
theorem named : Tryz.prog.funcNamed Rows.constraintOrderRow.func = some 6:=by kernel_rfl
theorem wrapped : Tryz.f6.isWrapper Tryz.prog Rows.constraintOrderRow.wrapper Rows.constraintOrderRow.mainSum:=by unfold Func.isWrapper; first | (rw [if_pos (by decide +kernel)]; kernel_rfl) | (rw [if_neg (by decide +kernel)]; exact ⟨rfl,rfl⟩)
theorem over : Rows.constraintOrderRow.holds Tryz.pinned (OpenSpec.ofChange Rows.constraintOrderSpec):=
 OpenClaim.holds_of_wide 6 Tryz.f6 rfl rfl rfl rfl rfl rfl rfl ⟨rfl,rfl,rfl,rfl,rfl⟩ rfl rfl rfl rfl rfl named Tryz.func6 closed inst wrapped
  (fun os started H enc _=>lifted os started H enc)
theorem proved : Rows.ConstraintOrderSaid:=
 over
#print axioms proved
end Go.Proofs.YtoijcliccgjolaaGreat.constraintOrder
