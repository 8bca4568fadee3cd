/-
  The law ConstraintReference holds for every input: the function returns true, and Z5x argument reads behind the call as it read before. No condition.
-/
import Derived.Test.YtoijcliccgjolaaGreatConW
import Derived.WalkKit
import Derived.ProofKit
import Derived.OpenShut
import Derived.ChangeMaps5
import Derived.Test.YtoijcliccgjolaaGreatDenArr
namespace Go.Proofs.YtoijcliccgjolaaGreat.constraintReference
open Go.ChangeShapes Go.WideShapes Go.ChangeAt Go.RowKit Go.ChangeMaps Go.Den
set_option linter.unusedVariables false
theorem own : ownKnob Tryz.prog.godebug = none:=by kernel_rfl
theorem laid : laidOutB Tryz.prog = true:=by kernel_rfl
def wf_69 (y : Z61) : Prop:=(fun s : List UInt8=>s.length ≤ reachBytes) y.Zh2 ∧ ((fun n : Int=>IntKind.min .i64 ≤ n ∧ n ≤ IntKind.max .i64) y.f_To ∧ (True))
theorem rd_69 : Z2c Tryz.prog 69 Zc3 wf_69:=
 (Z3q (tot:=2) Tryz.underlying69 (by kernel_rfl) (Z11 (n:=1) (Z3h (P:=Tryz.prog) Tryz.underlying9) (by kernel_rfl) (Z11 (n:=1) (Z2a (P:=Tryz.prog) Tryz.underlying3) (by kernel_rfl) Z3p rfl) rfl)).map (fun p : (List UInt8) × (Int × Unit)=>({ Zh2:=p.1,f_To:=p.2.1 } : Z61)) (fun _=>rfl) (fun _ h=>h)
def wf_64 (ys : List Z61) : Prop:=(∀ y ∈ ys,wf_69 y) ∧ ys.length * Tryz.prog.bytesOf 69 ≤ reachBytes
theorem rd_64 : Z2c Tryz.prog 64 (fun ys : List Z61=>[D.sl false (ys.map Zc3)]) wf_64:=Z4v Tryz.underlying64 (row:=Zc3) rd_69 (Nat.lt_of_lt_of_le (by decide : 0 < 1) (Nat.le_of_ble_eq_true (by kernel_rfl)))
def wf_86 (y : Z5p) : Prop:=(fun s : List UInt8=>s.length ≤ reachBytes) y.Z05 ∧ ((fun s : List UInt8=>s.length ≤ reachBytes) y.Z23 ∧ (True))
theorem rd_86 : Z2c Tryz.prog 86 Zbp wf_86:=
 (Z3q (tot:=2) Tryz.underlying86 (by kernel_rfl) (Z11 (n:=1) (Z3h (P:=Tryz.prog) Tryz.underlying9) (by kernel_rfl) (Z11 (n:=1) (Z3h (P:=Tryz.prog) Tryz.underlying9) (by kernel_rfl) Z3p rfl) rfl)).map (fun p : (List UInt8) × (List UInt8) × Unit=>({ Z05:=p.1,Z23:=p.2.1 } : Z5p)) (fun _=>rfl) (fun _ h=>h)
def wf_65 (ys : List Z5p) : Prop:=(∀ y ∈ ys,wf_86 y) ∧ ys.length * Tryz.prog.bytesOf 86 ≤ reachBytes
theorem rd_65 : Z2c Tryz.prog 65 (fun ys : List Z5p=>[D.sl false (ys.map Zbp)]) wf_65:=Z4v Tryz.underlying65 (row:=Zbp) rd_86 (Nat.lt_of_lt_of_le (by decide : 0 < 1) (Nat.le_of_ble_eq_true (by kernel_rfl)))
def wf_67 (y : Z1i) : Prop:=wf_64 y.Z4c ∧ (wf_65 y.Z35 ∧ (True))
theorem rd_67 : Z2c Tryz.prog 67 Z2z wf_67:=
 (Z3q (tot:=2) Tryz.underlying67 (by kernel_rfl) (Z11 (n:=1) rd_64 (by kernel_rfl) (Z11 (n:=1) rd_65 (by kernel_rfl) Z3p rfl) rfl)).map (fun p : (List Z61) × (List Z5p) × Unit=>({ Z4c:=p.1,Z35:=p.2.1 } : Z1i)) (fun _=>rfl) (fun _ h=>h)
def wf_22 (ys : List Z1i) : Prop:=(∀ y ∈ ys,wf_67 y) ∧ ys.length * Tryz.prog.bytesOf 67 ≤ reachBytes
theorem rd_22 : Z2c Tryz.prog 22 (fun ys : List Z1i=>[D.sl false (ys.map Z2z)]) wf_22:=Z4v Tryz.underlying22 (row:=Z2z) rd_67 (Nat.lt_of_lt_of_le (by decide : 0 < 1) (Nat.le_of_ble_eq_true (by kernel_rfl)))
def wf_43 (ys : List (List UInt8)) : Prop:=(∀ y ∈ ys,(fun s : List UInt8=>s.length ≤ reachBytes) y) ∧ ys.length * Tryz.prog.bytesOf 9 ≤ reachBytes
theorem rd_43 : Z2c Tryz.prog 43 (fun ys : List (List UInt8)=>[D.sl false (ys.map Z3v)]) wf_43:=Z4v Tryz.underlying43 (row:=Z3v) (Z3h (P:=Tryz.prog) Tryz.underlying9) (Nat.lt_of_lt_of_le (by decide : 0 < 1) (Nat.le_of_ble_eq_true (by kernel_rfl)))
def wf_98 (y : Z3k) : Prop:=(fun n : Int=>IntKind.min .i64 ≤ n ∧ n ≤ IntKind.max .i64) y.Z0t ∧ ((fun s : List UInt8=>s.length ≤ reachBytes) y.Z05 ∧ ((fun s : List UInt8=>s.length ≤ reachBytes) y.Z1e ∧ ((fun n : Int=>IntKind.min .i64 ≤ n ∧ n ≤ IntKind.max .i64) y.Z5q ∧ ((fun n : Int=>IntKind.min .i64 ≤ n ∧ n ≤ IntKind.max .i64) y.f_N ∧ ((fun s : List UInt8=>s.length ≤ reachBytes) y.f_S ∧ (True))))))
theorem rd_98 : Z2c Tryz.prog 98 Z7a wf_98:=
 (Z3q (tot:=6) Tryz.underlying98 (by kernel_rfl) (Z11 (n:=1) (Z2a (P:=Tryz.prog) Tryz.underlying3) (by kernel_rfl) (Z11 (n:=1) (Z3h (P:=Tryz.prog) Tryz.underlying9) (by kernel_rfl) (Z11 (n:=1) (Z3h (P:=Tryz.prog) Tryz.underlying9) (by kernel_rfl) (Z11 (n:=1) (Z2a (P:=Tryz.prog) Tryz.underlying3) (by kernel_rfl) (Z11 (n:=1) (Z2a (P:=Tryz.prog) Tryz.underlying3) (by kernel_rfl) (Z11 (n:=1) (Z3h (P:=Tryz.prog) Tryz.underlying9) (by kernel_rfl) Z3p rfl) rfl) rfl) rfl) rfl) rfl)).map (fun p : Int × (List UInt8) × (List UInt8) × (Int × (Int × (List UInt8) × Unit))=>({ Z0t:=p.1,Z05:=p.2.1,Z1e:=p.2.2.1,Z5q:=p.2.2.2.1,f_N:=p.2.2.2.2.1,f_S:=p.2.2.2.2.2.1 } : Z3k)) (fun _=>rfl) (fun _ h=>h)
def wf_72 (ys : List Z3k) : Prop:=(∀ y ∈ ys,wf_98 y) ∧ ys.length * Tryz.prog.bytesOf 98 ≤ reachBytes
theorem rd_72 : Z2c Tryz.prog 72 (fun ys : List Z3k=>[D.sl false (ys.map Z7a)]) wf_72:=Z4v Tryz.underlying72 (row:=Z7a) rd_98 (Nat.lt_of_lt_of_le (by decide : 0 < 1) (Nat.le_of_ble_eq_true (by kernel_rfl)))
def wf_53 (ys : List Int) : Prop:=(∀ y ∈ ys,(fun n : Int=>IntKind.min .i64 ≤ n ∧ n ≤ IntKind.max .i64) y) ∧ ys.length * Tryz.prog.bytesOf 3 ≤ reachBytes
theorem rd_53 : Z2c Tryz.prog 53 (fun ys : List Int=>[D.sl false (ys.map Z02)]) wf_53:=Z4v Tryz.underlying53 (row:=Z02) (Z2a (P:=Tryz.prog) Tryz.underlying3) (Nat.lt_of_lt_of_le (by decide : 0 < 1) (Nat.le_of_ble_eq_true (by kernel_rfl)))
def wf_129 (y : Z21) : Prop:=(fun s : List UInt8=>s.length ≤ reachBytes) y.Z0v ∧ ((fun s : List UInt8=>s.length ≤ reachBytes) y.Z05 ∧ ((fun s : List UInt8=>s.length ≤ reachBytes) y.Z1e ∧ (True)))
theorem rd_129 : Z2c Tryz.prog 129 Zic wf_129:=
 (Z3q (tot:=3) Tryz.underlying129 (by kernel_rfl) (Z11 (n:=1) (Z3h (P:=Tryz.prog) Tryz.underlying9) (by kernel_rfl) (Z11 (n:=1) (Z3h (P:=Tryz.prog) Tryz.underlying9) (by kernel_rfl) (Z11 (n:=1) (Z3h (P:=Tryz.prog) Tryz.underlying9) (by kernel_rfl) Z3p rfl) rfl) rfl)).map (fun p : (List UInt8) × (List UInt8) × (List UInt8) × Unit=>({ Z0v:=p.1,Z05:=p.2.1,Z1e:=p.2.2.1 } : Z21)) (fun _=>rfl) (fun _ h=>h)
def wf_131 (y : Z01) : Prop:=(fun n : Int=>IntKind.min .i64 ≤ n ∧ n ≤ IntKind.max .i64) y.f_Op ∧ ((fun n : Int=>IntKind.min .i64 ≤ n ∧ n ≤ IntKind.max .i64) y.f_A ∧ ((fun n : Int=>IntKind.min .i64 ≤ n ∧ n ≤ IntKind.max .i64) y.f_B ∧ ((fun n : Int=>IntKind.min .i64 ≤ n ∧ n ≤ IntKind.max .i64) y.f_To ∧ (wf_53 y.Z0o ∧ (wf_53 y.Z09 ∧ (wf_129 y.Z0y ∧ ((fun s : List UInt8=>s.length ≤ reachBytes) y.f_S ∧ (True))))))))
theorem rd_131 : Z2c Tryz.prog 131 Z0h wf_131:=
 (Z3q (tot:=10) Tryz.underlying131 (by kernel_rfl) (Z11 (n:=1) (Z2a (P:=Tryz.prog) Tryz.underlying3) (by kernel_rfl) (Z11 (n:=1) (Z2a (P:=Tryz.prog) Tryz.underlying3) (by kernel_rfl) (Z11 (n:=1) (Z2a (P:=Tryz.prog) Tryz.underlying3) (by kernel_rfl) (Z11 (n:=1) (Z2a (P:=Tryz.prog) Tryz.underlying3) (by kernel_rfl) (Z11 (n:=1) rd_53 (by kernel_rfl) (Z11 (n:=1) rd_53 (by kernel_rfl) (Z11 (n:=3) rd_129 (by kernel_rfl) (Z11 (n:=1) (Z3h (P:=Tryz.prog) Tryz.underlying9) (by kernel_rfl) Z3p rfl) rfl) rfl) rfl) rfl) rfl) rfl) rfl)).map (fun p : Int × (Int × (Int × (Int × (List Int) × (List Int) × (Z21 × (List UInt8) × Unit))))=>({ f_Op:=p.1,f_A:=p.2.1,f_B:=p.2.2.1,f_To:=p.2.2.2.1,Z0o:=p.2.2.2.2.1,Z09:=p.2.2.2.2.2.1,Z0y:=p.2.2.2.2.2.2.1,f_S:=p.2.2.2.2.2.2.2.1 } : Z01)) (fun _=>rfl) (fun _ h=>h)
def wf_99 (ys : List Z01) : Prop:=(∀ y ∈ ys,wf_131 y) ∧ ys.length * Tryz.prog.bytesOf 131 ≤ reachBytes
theorem rd_99 : Z2c Tryz.prog 99 (fun ys : List Z01=>[D.sl false (ys.map Z0h)]) wf_99:=Z4v Tryz.underlying99 (row:=Z0h) rd_131 (Nat.lt_of_lt_of_le (by decide : 0 < 1) (Nat.le_of_ble_eq_true (by kernel_rfl)))
def wf_133 (y : Z0g) : Prop:=(fun n : Int=>IntKind.min .i64 ≤ n ∧ n ≤ IntKind.max .i64) y.Z42 ∧ ((fun n : Int=>IntKind.min .i64 ≤ n ∧ n ≤ IntKind.max .i64) y.f_To ∧ ((fun n : Int=>IntKind.min .i64 ≤ n ∧ n ≤ IntKind.max .i64) y.Z44 ∧ ((fun n : Int=>IntKind.min .i64 ≤ n ∧ n ≤ IntKind.max .i64) y.Z0v ∧ ((fun s : List UInt8=>s.length ≤ reachBytes) y.Z1g ∧ (True)))))
theorem rd_133 : Z2c Tryz.prog 133 Z0x wf_133:=
 (Z3q (tot:=5) Tryz.underlying133 (by kernel_rfl) (Z11 (n:=1) (Z2a (P:=Tryz.prog) Tryz.underlying3) (by kernel_rfl) (Z11 (n:=1) (Z2a (P:=Tryz.prog) Tryz.underlying3) (by kernel_rfl) (Z11 (n:=1) (Z2a (P:=Tryz.prog) Tryz.underlying3) (by kernel_rfl) (Z11 (n:=1) (Z2a (P:=Tryz.prog) Tryz.underlying3) (by kernel_rfl) (Z11 (n:=1) (Z3h (P:=Tryz.prog) Tryz.underlying9) (by kernel_rfl) Z3p rfl) rfl) rfl) rfl) rfl)).map (fun p : Int × (Int × (Int × (Int × (List UInt8) × Unit)))=>({ Z42:=p.1,f_To:=p.2.1,Z44:=p.2.2.1,Z0v:=p.2.2.2.1,Z1g:=p.2.2.2.2.1 } : Z0g)) (fun _=>rfl) (fun _ h=>h)
def wf_100 (ys : List Z0g) : Prop:=(∀ y ∈ ys,wf_133 y) ∧ ys.length * Tryz.prog.bytesOf 133 ≤ reachBytes
theorem rd_100 : Z2c Tryz.prog 100 (fun ys : List Z0g=>[D.sl false (ys.map Z0x)]) wf_100:=Z4v Tryz.underlying100 (row:=Z0x) rd_133 (Nat.lt_of_lt_of_le (by decide : 0 < 1) (Nat.le_of_ble_eq_true (by kernel_rfl)))
def wf_161 (y : Z0l) : Prop:=(fun n : Int=>IntKind.min .i64 ≤ n ∧ n ≤ IntKind.max .i64) y.Z1r ∧ ((fun n : Int=>IntKind.min .u8 ≤ n ∧ n ≤ IntKind.max .u8) y.Z1k ∧ ((fun s : List UInt8=>s.length ≤ reachBytes) y.Z05 ∧ (True)))
theorem rd_161 : Z2c Tryz.prog 161 Z2s wf_161:=
 (Z3q (tot:=3) Tryz.underlying161 (by kernel_rfl) (Z11 (n:=1) (Z2a (P:=Tryz.prog) Tryz.underlying3) (by kernel_rfl) (Z11 (n:=1) (Z2a (P:=Tryz.prog) Tryz.underlying5) (by kernel_rfl) (Z11 (n:=1) (Z3h (P:=Tryz.prog) Tryz.underlying9) (by kernel_rfl) Z3p rfl) rfl) rfl)).map (fun p : Int × (Int × (List UInt8) × Unit)=>({ Z1r:=p.1,Z1k:=p.2.1,Z05:=p.2.2.1 } : Z0l)) (fun _=>rfl) (fun _ h=>h)
def wf_163 (y : Z0d) : Prop:=(fun n : Int=>IntKind.min .i64 ≤ n ∧ n ≤ IntKind.max .i64) y.Z2b ∧ ((fun n : Int=>IntKind.min .i64 ≤ n ∧ n ≤ IntKind.max .i64) y.Z2t ∧ (wf_161 y.Z1g ∧ ((fun n : Int=>IntKind.min .i64 ≤ n ∧ n ≤ IntKind.max .i64) y.Z2x ∧ (True))))
theorem rd_163 : Z2c Tryz.prog 163 Z1m wf_163:=
 (Z3q (tot:=6) Tryz.underlying163 (by kernel_rfl) (Z11 (n:=1) (Z2a (P:=Tryz.prog) Tryz.underlying3) (by kernel_rfl) (Z11 (n:=1) (Z2a (P:=Tryz.prog) Tryz.underlying3) (by kernel_rfl) (Z11 (n:=3) rd_161 (by kernel_rfl) (Z11 (n:=1) (Z2a (P:=Tryz.prog) Tryz.underlying3) (by kernel_rfl) Z3p rfl) rfl) rfl) rfl)).map (fun p : Int × (Int × (Z0l × (Int × Unit)))=>({ Z2b:=p.1,Z2t:=p.2.1,Z1g:=p.2.2.1,Z2x:=p.2.2.2.1 } : Z0d)) (fun _=>rfl) (fun _ h=>h)
def wf_137 (ys : List Z0d) : Prop:=(∀ y ∈ ys,wf_163 y) ∧ ys.length * Tryz.prog.bytesOf 163 ≤ reachBytes
theorem rd_137 : Z2c Tryz.prog 137 (fun ys : List Z0d=>[D.sl false (ys.map Z1m)]) wf_137:=Z4v Tryz.underlying137 (row:=Z1m) rd_163 (Nat.lt_of_lt_of_le (by decide : 0 < 1) (Nat.le_of_ble_eq_true (by kernel_rfl)))
def wf_139 (y : Z56) : Prop:=wf_137 y.Z0n ∧ (wf_137 y.Z0q ∧ ((fun _ : Bool=>True) y.Z4d ∧ (True)))
theorem rd_139 : Z2c Tryz.prog 139 Zto wf_139:=
 (Z3q (tot:=3) Tryz.underlying139 (by kernel_rfl) (Z11 (n:=1) rd_137 (by kernel_rfl) (Z11 (n:=1) rd_137 (by kernel_rfl) (Z11 (n:=1) (Zol (P:=Tryz.prog) Tryz.underlying4) (by kernel_rfl) Z3p rfl) rfl) rfl)).map (fun p : (List Z0d) × (List Z0d) × (Bool × Unit)=>({ Z0n:=p.1,Z0q:=p.2.1,Z4d:=p.2.2.1 } : Z56)) (fun _=>rfl) (fun _ h=>h)
def wf_141 (y : Z0i) : Prop:=(fun n : Int=>IntKind.min .i64 ≤ n ∧ n ≤ IntKind.max .i64) y.Z2e ∧ (wf_139 y.Z1h ∧ (True))
theorem rd_141 : Z2c Tryz.prog 141 Z14 wf_141:=
 (Z3q (tot:=4) Tryz.underlying141 (by kernel_rfl) (Z11 (n:=1) (Z2a (P:=Tryz.prog) Tryz.underlying3) (by kernel_rfl) (Z11 (n:=3) rd_139 (by kernel_rfl) Z3p rfl) rfl)).map (fun p : Int × (Z56 × Unit)=>({ Z2e:=p.1,Z1h:=p.2.1 } : Z0i)) (fun _=>rfl) (fun _ h=>h)
def wf_101 (ys : List Z0i) : Prop:=(∀ y ∈ ys,wf_141 y) ∧ ys.length * Tryz.prog.bytesOf 141 ≤ reachBytes
theorem rd_101 : Z2c Tryz.prog 101 (fun ys : List Z0i=>[D.sl false (ys.map Z14)]) wf_101:=Z4v Tryz.underlying101 (row:=Z14) rd_141 (Nat.lt_of_lt_of_le (by decide : 0 < 1) (Nat.le_of_ble_eq_true (by kernel_rfl)))
def wf_135 (y : Z0r) : Prop:=(fun n : Int=>IntKind.min .i64 ≤ n ∧ n ≤ IntKind.max .i64) y.Z2e ∧ ((fun n : Int=>IntKind.min .i64 ≤ n ∧ n ≤ IntKind.max .i64) y.Z53 ∧ (True))
theorem rd_135 : Z2c Tryz.prog 135 Z1d wf_135:=
 (Z3q (tot:=2) Tryz.underlying135 (by kernel_rfl) (Z11 (n:=1) (Z2a (P:=Tryz.prog) Tryz.underlying3) (by kernel_rfl) (Z11 (n:=1) (Z2a (P:=Tryz.prog) Tryz.underlying3) (by kernel_rfl) Z3p rfl) rfl)).map (fun p : Int × (Int × Unit)=>({ Z2e:=p.1,Z53:=p.2.1 } : Z0r)) (fun _=>rfl) (fun _ h=>h)
def wf_102 (ys : List Z0r) : Prop:=(∀ y ∈ ys,wf_135 y) ∧ ys.length * Tryz.prog.bytesOf 135 ≤ reachBytes
theorem rd_102 : Z2c Tryz.prog 102 (fun ys : List Z0r=>[D.sl false (ys.map Z1d)]) wf_102:=Z4v Tryz.underlying102 (row:=Z1d) rd_135 (Nat.lt_of_lt_of_le (by decide : 0 < 1) (Nat.le_of_ble_eq_true (by kernel_rfl)))
def wf_104 (y : Z06) : Prop:=(fun n : Int=>IntKind.min .i64 ≤ n ∧ n ≤ IntKind.max .i64) y.Z0q ∧ ((fun n : Int=>IntKind.min .i64 ≤ n ∧ n ≤ IntKind.max .i64) y.Z0n ∧ (wf_99 y.Z0k ∧ (wf_100 y.Z1f ∧ (wf_101 y.Z0z ∧ (wf_102 y.Z1a ∧ (True))))))
theorem rd_104 : Z2c Tryz.prog 104 Z10 wf_104:=
 (Z3q (tot:=6) Tryz.underlying104 (by kernel_rfl) (Z11 (n:=1) (Z2a (P:=Tryz.prog) Tryz.underlying3) (by kernel_rfl) (Z11 (n:=1) (Z2a (P:=Tryz.prog) Tryz.underlying3) (by kernel_rfl) (Z11 (n:=1) rd_99 (by kernel_rfl) (Z11 (n:=1) rd_100 (by kernel_rfl) (Z11 (n:=1) rd_101 (by kernel_rfl) (Z11 (n:=1) rd_102 (by kernel_rfl) Z3p rfl) rfl) rfl) rfl) rfl) rfl)).map (fun p : Int × (Int × (List Z01) × (List Z0g) × (List Z0i) × (List Z0r) × Unit)=>({ Z0q:=p.1,Z0n:=p.2.1,Z0k:=p.2.2.1,Z1f:=p.2.2.2.1,Z0z:=p.2.2.2.2.1,Z1a:=p.2.2.2.2.2.1 } : Z06)) (fun _=>rfl) (fun _ h=>h)
def wf_106 (y : Z2f) : Prop:=(fun n : Int=>IntKind.min .i64 ≤ n ∧ n ≤ IntKind.max .i64) y.Z0t ∧ ((fun s : List UInt8=>s.length ≤ reachBytes) y.Z05 ∧ ((fun s : List UInt8=>s.length ≤ reachBytes) y.Z1e ∧ ((fun _ : Bool=>True) y.Z94 ∧ (wf_104 y.Z2k ∧ (wf_43 y.Z64 ∧ (True))))))
theorem rd_106 : Z2c Tryz.prog 106 Z70 wf_106:=
 (Z3q (tot:=11) Tryz.underlying106 (by kernel_rfl) (Z11 (n:=1) (Z2a (P:=Tryz.prog) Tryz.underlying3) (by kernel_rfl) (Z11 (n:=1) (Z3h (P:=Tryz.prog) Tryz.underlying9) (by kernel_rfl) (Z11 (n:=1) (Z3h (P:=Tryz.prog) Tryz.underlying9) (by kernel_rfl) (Z11 (n:=1) (Zol (P:=Tryz.prog) Tryz.underlying4) (by kernel_rfl) (Z11 (n:=6) rd_104 (by kernel_rfl) (Z11 (n:=1) rd_43 (by kernel_rfl) Z3p rfl) rfl) rfl) rfl) rfl) rfl)).map (fun p : Int × (List UInt8) × (List UInt8) × (Bool × (Z06 × (List (List UInt8)) × Unit))=>({ Z0t:=p.1,Z05:=p.2.1,Z1e:=p.2.2.1,Z94:=p.2.2.2.1,Z2k:=p.2.2.2.2.1,Z64:=p.2.2.2.2.2.1 } : Z2f)) (fun _=>rfl) (fun _ h=>h)
def wf_73 (ys : List Z2f) : Prop:=(∀ y ∈ ys,wf_106 y) ∧ ys.length * Tryz.prog.bytesOf 106 ≤ reachBytes
theorem rd_73 : Z2c Tryz.prog 73 (fun ys : List Z2f=>[D.sl false (ys.map Z70)]) wf_73:=Z4v Tryz.underlying73 (row:=Z70) rd_106 (Nat.lt_of_lt_of_le (by decide : 0 < 1) (Nat.le_of_ble_eq_true (by kernel_rfl)))
def wf_75 (y : Z12) : Prop:=(fun n : Int=>IntKind.min .i64 ≤ n ∧ n ≤ IntKind.max .i64) y.Z0t ∧ ((fun s : List UInt8=>s.length ≤ reachBytes) y.Z05 ∧ ((fun s : List UInt8=>s.length ≤ reachBytes) y.Z1j ∧ (wf_43 y.Z13 ∧ (wf_72 y.Z19 ∧ (wf_73 y.Z17 ∧ ((fun s : List UInt8=>s.length ≤ reachBytes) y.Z6o ∧ (True)))))))
theorem rd_75 : Z2c Tryz.prog 75 Z2h wf_75:=
 (Z3q (tot:=7) Tryz.underlying75 (by kernel_rfl) (Z11 (n:=1) (Z2a (P:=Tryz.prog) Tryz.underlying3) (by kernel_rfl) (Z11 (n:=1) (Z3h (P:=Tryz.prog) Tryz.underlying9) (by kernel_rfl) (Z11 (n:=1) (Z3h (P:=Tryz.prog) Tryz.underlying9) (by kernel_rfl) (Z11 (n:=1) rd_43 (by kernel_rfl) (Z11 (n:=1) rd_72 (by kernel_rfl) (Z11 (n:=1) rd_73 (by kernel_rfl) (Z11 (n:=1) (Z3h (P:=Tryz.prog) Tryz.underlying9) (by kernel_rfl) Z3p rfl) rfl) rfl) rfl) rfl) rfl) rfl)).map (fun p : Int × (List UInt8) × (List UInt8) × (List (List UInt8)) × (List Z3k) × (List Z2f) × (List UInt8) × Unit=>({ Z0t:=p.1,Z05:=p.2.1,Z1j:=p.2.2.1,Z13:=p.2.2.2.1,Z19:=p.2.2.2.2.1,Z17:=p.2.2.2.2.2.1,Z6o:=p.2.2.2.2.2.2.1 } : Z12)) (fun _=>rfl) (fun _ h=>h)
def wf_77 (y : Z2l) : Prop:=(fun n : Int=>IntKind.min .i64 ≤ n ∧ n ≤ IntKind.max .i64) y.Z1x ∧ (wf_75 y.Z2n ∧ ((fun n : Int=>IntKind.min .i64 ≤ n ∧ n ≤ IntKind.max .i64) y.Z1j ∧ (wf_53 y.Z13 ∧ ((fun n : Int=>IntKind.min .i64 ≤ n ∧ n ≤ IntKind.max .i64) y.Z8r ∧ ((fun n : Int=>IntKind.min .i64 ≤ n ∧ n ≤ IntKind.max .i64) y.Z9u ∧ (True))))))
theorem rd_77 : Z2c Tryz.prog 77 Z4x wf_77:=
 (Z3q (tot:=12) Tryz.underlying77 (by kernel_rfl) (Z11 (n:=1) (Z2a (P:=Tryz.prog) Tryz.underlying3) (by kernel_rfl) (Z11 (n:=7) rd_75 (by kernel_rfl) (Z11 (n:=1) (Z2a (P:=Tryz.prog) Tryz.underlying3) (by kernel_rfl) (Z11 (n:=1) rd_53 (by kernel_rfl) (Z11 (n:=1) (Z2a (P:=Tryz.prog) Tryz.underlying3) (by kernel_rfl) (Z11 (n:=1) (Z2a (P:=Tryz.prog) Tryz.underlying35) (by kernel_rfl) Z3p rfl) rfl) rfl) rfl) rfl) rfl)).map (fun p : Int × (Z12 × (Int × (List Int) × (Int × (Int × Unit))))=>({ Z1x:=p.1,Z2n:=p.2.1,Z1j:=p.2.2.1,Z13:=p.2.2.2.1,Z8r:=p.2.2.2.2.1,Z9u:=p.2.2.2.2.2.1 } : Z2l)) (fun _=>rfl) (fun _ h=>h)
def wf_23 (ys : List Z2l) : Prop:=(∀ y ∈ ys,wf_77 y) ∧ ys.length * Tryz.prog.bytesOf 77 ≤ reachBytes
theorem rd_23 : Z2c Tryz.prog 23 (fun ys : List Z2l=>[D.sl false (ys.map Z4x)]) wf_23:=Z4v Tryz.underlying23 (row:=Z4x) rd_77 (Nat.lt_of_lt_of_le (by decide : 0 < 1) (Nat.le_of_ble_eq_true (by kernel_rfl)))
def wf_58 (y : Z26) : Prop:=(fun n : Int=>IntKind.min .i64 ≤ n ∧ n ≤ IntKind.max .i64) y.Z1x ∧ ((fun s : List UInt8=>s.length ≤ reachBytes) y.Z05 ∧ ((fun n : Int=>IntKind.min .i64 ≤ n ∧ n ≤ IntKind.max .i64) y.Z0v ∧ (True)))
theorem rd_58 : Z2c Tryz.prog 58 Z40 wf_58:=
 (Z3q (tot:=3) Tryz.underlying58 (by kernel_rfl) (Z11 (n:=1) (Z2a (P:=Tryz.prog) Tryz.underlying3) (by kernel_rfl) (Z11 (n:=1) (Z3h (P:=Tryz.prog) Tryz.underlying9) (by kernel_rfl) (Z11 (n:=1) (Z2a (P:=Tryz.prog) Tryz.underlying3) (by kernel_rfl) Z3p rfl) rfl) rfl)).map (fun p : Int × (List UInt8) × (Int × Unit)=>({ Z1x:=p.1,Z05:=p.2.1,Z0v:=p.2.2.1 } : Z26)) (fun _=>rfl) (fun _ h=>h)
def wf_24 (ys : List Z26) : Prop:=(∀ y ∈ ys,wf_58 y) ∧ ys.length * Tryz.prog.bytesOf 58 ≤ reachBytes
theorem rd_24 : Z2c Tryz.prog 24 (fun ys : List Z26=>[D.sl false (ys.map Z40)]) wf_24:=Z4v Tryz.underlying24 (row:=Z40) rd_58 (Nat.lt_of_lt_of_le (by decide : 0 < 1) (Nat.le_of_ble_eq_true (by kernel_rfl)))
def wf_48 (y : Z1s) : Prop:=(fun s : List UInt8=>s.length ≤ reachBytes) y.Z05 ∧ ((fun n : Int=>IntKind.min .i64 ≤ n ∧ n ≤ IntKind.max .i64) y.f_A ∧ ((fun n : Int=>IntKind.min .i64 ≤ n ∧ n ≤ IntKind.max .i64) y.f_B ∧ (True)))
theorem rd_48 : Z2c Tryz.prog 48 Z37 wf_48:=
 (Z3q (tot:=3) Tryz.underlying48 (by kernel_rfl) (Z11 (n:=1) (Z3h (P:=Tryz.prog) Tryz.underlying9) (by kernel_rfl) (Z11 (n:=1) (Z2a (P:=Tryz.prog) Tryz.underlying3) (by kernel_rfl) (Z11 (n:=1) (Z2a (P:=Tryz.prog) Tryz.underlying3) (by kernel_rfl) Z3p rfl) rfl) rfl)).map (fun p : (List UInt8) × (Int × (Int × Unit))=>({ Z05:=p.1,f_A:=p.2.1,f_B:=p.2.2.1 } : Z1s)) (fun _=>rfl) (fun _ h=>h)
def wf_25 (ys : List Z1s) : Prop:=(∀ y ∈ ys,wf_48 y) ∧ ys.length * Tryz.prog.bytesOf 48 ≤ reachBytes
theorem rd_25 : Z2c Tryz.prog 25 (fun ys : List Z1s=>[D.sl false (ys.map Z37)]) wf_25:=Z4v Tryz.underlying25 (row:=Z37) rd_48 (Nat.lt_of_lt_of_le (by decide : 0 < 1) (Nat.le_of_ble_eq_true (by kernel_rfl)))
def wf_27 (y : Z0b) : Prop:=wf_22 y.Z15 ∧ (wf_23 y.Z2g ∧ (wf_24 y.Z1c ∧ (wf_25 y.Z0s ∧ (True))))
theorem rd_27 : Z2c Tryz.prog 27 Z1l wf_27:=
 (Z3q (tot:=4) Tryz.underlying27 (by kernel_rfl) (Z11 (n:=1) rd_22 (by kernel_rfl) (Z11 (n:=1) rd_23 (by kernel_rfl) (Z11 (n:=1) rd_24 (by kernel_rfl) (Z11 (n:=1) rd_25 (by kernel_rfl) Z3p rfl) rfl) rfl) rfl)).map (fun p : (List Z1i) × (List Z2l) × (List Z26) × (List Z1s) × Unit=>({ Z15:=p.1,Z2g:=p.2.1,Z1c:=p.2.2.1,Z0s:=p.2.2.2.1 } : Z0b)) (fun _=>rfl) (fun _ h=>h)
def wf_28 (y : Z74) : Prop:=(fun n : Int=>IntKind.min .i64 ≤ n ∧ n ≤ IntKind.max .i64) y.a0 ∧ ((fun n : Int=>IntKind.min .i64 ≤ n ∧ n ≤ IntKind.max .i64) y.a1 ∧ ((fun n : Int=>IntKind.min .i64 ≤ n ∧ n ≤ IntKind.max .i64) y.a2 ∧ (True)))
theorem rd_28 : Z2c Tryz.prog 28 Zlu wf_28:=
 (Zyy (tot:=3) [arF 3 0,arF 3 1,arF 3 2] Tryz.underlying28 (by kernel_rfl) (by kernel_rfl) (Z11 (n:=1) (Z2a (P:=Tryz.prog) Tryz.underlying3) (by kernel_rfl) (Z11 (n:=1) (Z2a (P:=Tryz.prog) Tryz.underlying3) (by kernel_rfl) (Z11 (n:=1) (Z2a (P:=Tryz.prog) Tryz.underlying3) (by kernel_rfl) Z3p rfl) rfl) rfl)).map (fun p : Int × (Int × (Int × Unit))=>({ a0:=p.1,a1:=p.2.1,a2:=p.2.2.1 } : Z74)) (fun _=>rfl) (fun _ h=>h)
theorem rlS {n : Nat} (h : n ≤ reachBytes) : n ≤ 4503599627370496:=Nat.le_trans h (by decide)
theorem rlB {n b k : Nat} (e : b = k) (h : n * b ≤ reachBytes) : n * k ≤ 140737488355328:=by have:=Zvh h; rw [e] at this; omega
theorem rlN {n b : Nat} (e : 1 ≤ b) (h : n * b ≤ reachBytes) : n ≤ 140737488355328:=Nat.le_trans (Nat.le_trans (Nat.le_of_eq (Nat.mul_one n).symm) (Nat.mul_le_mul_left n e)) (by have:=Zvh h; omega)
theorem ws_T_api_Ref {y : Z21} (h : wf_129 y) : WRef y:=⟨rlS h.1,rlS h.2.1,rlS h.2.2.1⟩
theorem ws_T_api_Insn {y : Z01} (h : wf_131 y) : Z2m y:=⟨rlB (by kernel_rfl) h.2.2.2.2.1.2,rlB (by kernel_rfl) h.2.2.2.2.2.1.2,ws_T_api_Ref h.2.2.2.2.2.2.1,rlS h.2.2.2.2.2.2.2.1⟩
theorem ws_T_api_Frame {y : Z56} (h : wf_139 y) : Z95 y:=⟨fun v hv=>rlS (h.1.1 v hv).2.2.1.2.2.1,rlB (by kernel_rfl) h.1.2,fun v hv=>rlS (h.2.1.1 v hv).2.2.1.2.2.1,rlB (by kernel_rfl) h.2.1.2⟩
theorem ws_T_api_Code {y : Z06} (h : wf_104 y) : Z4m y:=⟨fun v hv=>ws_T_api_Insn (h.2.2.1.1 v hv),rlB (by kernel_rfl) h.2.2.1.2,fun v hv=>rlS (h.2.2.2.1.1 v hv).2.2.2.2.1,rlB (by kernel_rfl) h.2.2.2.1.2,fun v hv=>ws_T_api_Frame (h.2.2.2.2.1.1 v hv).2.1,rlB (by kernel_rfl) h.2.2.2.2.1.2,rlB (by kernel_rfl) h.2.2.2.2.2.1.2⟩
theorem ws_T_api_Method {y : Z2f} (h : wf_106 y) : Z9h y:=⟨rlS h.2.1,rlS h.2.2.1,ws_T_api_Code h.2.2.2.2.1,fun v hv=>rlS (h.2.2.2.2.2.1.1 v hv),rlB (by kernel_rfl) h.2.2.2.2.2.1.2⟩
theorem ws_T_api_Field {y : Z3k} (h : wf_98 y) : Znb y:=⟨rlS h.2.1,rlS h.2.2.1,rlS h.2.2.2.2.2.1⟩
theorem ws_T_api_ClassModel {y : Z12} (h : wf_75 y) : Z57 y:=⟨rlS h.2.1,rlS h.2.2.1,fun v hv=>rlS (h.2.2.2.1.1 v hv),rlB (by kernel_rfl) h.2.2.2.1.2,fun v hv=>ws_T_api_Field (h.2.2.2.2.1.1 v hv),rlB (by kernel_rfl) h.2.2.2.2.1.2,fun v hv=>ws_T_api_Method (h.2.2.2.2.2.1.1 v hv),rlB (by kernel_rfl) h.2.2.2.2.2.1.2,rlS h.2.2.2.2.2.2.1⟩
theorem ws_T_api_Loader {y : Z1i} (h : wf_67 y) : Z6l y:=⟨fun v hv=>rlS (h.1.1 v hv).1,rlN (Nat.le_of_ble_eq_true (by kernel_rfl)) h.1.2,fun v hv=>rlS (h.2.1.1 v hv).1,rlN (Nat.le_of_ble_eq_true (by kernel_rfl)) h.2.1.2⟩
theorem ws_T_api_ClassSpace {y : Z0b} (h : wf_27 y) : Z4r y:=⟨fun v hv=>ws_T_api_Loader (h.1.1 v hv),rlN (Nat.le_of_ble_eq_true (by kernel_rfl)) h.1.2,fun v hv=>⟨ws_T_api_ClassModel (h.2.1.1 v hv).2.1,rlN (Nat.le_of_ble_eq_true (by kernel_rfl)) (h.2.1.1 v hv).2.2.2.1.2⟩,rlN (Nat.le_of_ble_eq_true (by kernel_rfl)) h.2.1.2,fun v hv=>rlS (h.2.2.1.1 v hv).2.1,rlN (Nat.le_of_ble_eq_true (by kernel_rfl)) h.2.2.1.2,fun v hv=>rlS (h.2.2.2.1.1 v hv).1,rlN (Nat.le_of_ble_eq_true (by kernel_rfl)) h.2.2.2.1.2⟩
set_option maxRecDepth 100000 in
theorem lifted (os : Os) (started : os.Started) (H : Type) (enc : TypeId × Value → H) :
  ReturnsInHanded {} Tryz.checked os 3 .any (Rows.constraintReferenceSpec.pre6 enc Tryz.prog Tryz.f3 Rows.constraintReferenceRow.domain false) (Rows.constraintReferenceSpec.post enc Tryz.prog Tryz.f3 false true false false):=by
 refine returnsInHanded_of_change_sized (C:=Tryz.checked) own started (by kernel_rfl) Tryz.func3
  (ChangeSpec.witness6 (enc:=enc) (C:=Tryz.checked) false ⟨#[],#[.agg #[.slice none 0 0,.slice none 0 0,.slice none 0 0,.slice none 0 0],.string ⟨#[]⟩,.agg #[.int .i64 0,.int .i64 0,.int .i64 0]],[]⟩ 8 (by kernel_rfl) (by kernel_rfl) (by kernel_rfl) (by kernel_rfl)) ?_
 intro W base args ds gs before hval0 hW hcnd hsz _
 have hval : ∀ (j : Nat) t v,Tryz.f3.params[j]? = some t → args[j]? = some v → Value.okWide Tryz.prog W .any base t v:=hval0
 have hW':=hW
 obtain ⟨p,q,hA0,hV,rfl,hfz,hnd⟩:=hW
 have hA : DataW.TrodAll enc Tryz.prog W 0 (fun _=>true) true Tryz.f3.params.toList args.toList ds p:=hA0
 rw [Tryz.params3] at hA hval
 obtain ⟨v0,vs0,d0,ds0,p0,q0,hargs,rfl,rfl,h0,r0⟩:=trodAll_cons hA
 obtain ⟨v1,vs1,d1,ds1,p1,q1,rfl,rfl,rfl,h1,r1⟩:=trodAll_cons r0
 obtain ⟨v2,vs2,d2,ds2,p2,q2,rfl,rfl,rfl,h2,r2⟩:=trodAll_cons r1
 obtain ⟨rfl,rfl,rfl⟩:=trodAll_nil r2
 obtain rfl : args = #[v0,v1,v2] :=by cases args; simp_all
 obtain ⟨rfl,rfl⟩:=trodVars_none hV
 have hsz2 : (DataW.weightsEach Tryz.prog (Tryz.f3.params.toList ++ []) ([d0,d1,d2] ++ [])).all (· ≤ reachBytes) = true:=hsz
 rw [Tryz.params3] at hsz2
 simp only [List.append_nil,DataW.weightsEach,List.all_append,Bool.and_eq_true] at hsz2
 obtain ⟨z0,z1,z2⟩:=hsz2
 obtain ⟨y0,c0,g0⟩:=arg_agg (M:=Z5u.reach Tryz.prog) Tryz.underlying27 rd_27 (hval 0 27 v0 rfl rfl) h0 z0
 obtain ⟨_,rfl⟩:=okWide_string Tryz.underlying9 (hval 1 9 v1 rfl rfl)
 obtain ⟨y1,c1,g1⟩:=arg_one (M:=Z5u.reach Tryz.prog) (f:=(fun s : List UInt8=>D.str s)) (Z3h (P:=Tryz.prog) Tryz.underlying9) rfl h1 z1
 obtain ⟨y2,c2,g2⟩:=arg_arr (M:=Z5u.reach Tryz.prog) Tryz.underlying28 rd_28 (hval 2 28 v2 rfl rfl) h2 z2
 exact Zzr (P:=Tryz.prog) (fn:=Tryz.f3) (tb:=4) rfl (by kernel_rfl) Tryz.underlying4 laid (by kernel_rfl) hW' rfl (.cons c0 (.cons c1 (.cons c2 .nil))) (w3 (Zwx y0 (ws_T_api_ClassSpace g0) y1 y2))
theorem am {a b : Bool} (h : a = true) (g : b = true) : (a && b) = true:=by rw [h,g]; rfl
theorem k0 : Rows.constraintReferenceRow.wf (OpenSpec.ofChange Rows.constraintReferenceSpec) = true:=by kernel_rfl
theorem k1 : laidOutB Tryz.prog = true:=by kernel_rfl
theorem k2 : mapsRowed Tryz.prog = true:=by kernel_rfl
theorem k3 : Tryz.f3.params.all (Tryz.prog.readableRec ·) = true:=by kernel_rfl
theorem k4 : namedTie Tryz.prog Rows.constraintReferenceRow.named Rows.constraintReferenceSpec.vars = true:=by kernel_rfl
theorem k5 : (Rows.constraintReferenceRow.stops == []) = true:=by kernel_rfl
theorem k6 : (Tryz.prog.stops == []) = true:=by kernel_rfl
theorem k7 : (Rows.constraintReferenceRow.knobs == []) = true:=by kernel_rfl
theorem k8 : (Tryz.prog.stopKnobs == []) = true:=by kernel_rfl
theorem k9 : (Rows.constraintReferenceRow.inPlace == Tryz.prog.inPlace 3) = true:=by kernel_rfl
theorem k10 : (Rows.constraintReferenceRow.unfollowed == Tryz.prog.unfollowed 3) = true:=by kernel_rfl
theorem k11 : (Rows.constraintReferenceRow.recurses == Tryz.prog.recurses 3) = true:=by kernel_rfl
theorem k12 : (Rows.constraintReferenceRow.named == Tryz.prog.varsNamed 3) = true:=by kernel_rfl
theorem k13 : (Rows.constraintReferenceRow.maps == (Tryz.f3.params.toList ++ Rows.constraintReferenceSpec.plain.varTypes Tryz.prog).any (Tryz.prog.mapsRec ·)) = true:=by kernel_rfl
theorem k14 : (Rows.constraintReferenceRow.ifaces == (Tryz.f3.params.toList ++ Rows.constraintReferenceSpec.plain.varTypes Tryz.prog).any (Tryz.prog.ifacesRec ·)) = true:=by kernel_rfl
theorem k15 : (Rows.constraintReferenceRow.mapsOut == Tryz.prog.mapsAmong Tryz.f3.resultTypes.toList) = true:=by kernel_rfl
theorem k16 : (Rows.constraintReferenceRow.loops == (Tryz.f3.params.toList ++ Rows.constraintReferenceSpec.plain.varTypes Tryz.prog).any (Tryz.prog.loopsFrom ·)) = true:=by kernel_rfl
theorem k17 : (Rows.constraintReferenceRow.wideKeys == (Tryz.f3.params.toList ++ Rows.constraintReferenceSpec.plain.varTypes Tryz.prog ++ Tryz.f3.resultTypes.toList).any (Tryz.prog.wideKeysFrom ·)) = true:=by kernel_rfl
theorem k18 : Rows.constraintReferenceSpec.vars.all (Tryz.prog.varReadable ·) = true:=by kernel_rfl
theorem k19 : Tryz.f3.resultTypes.all (fun t=>Tryz.prog.readableRec t && decide (t < Tryz.prog.types.size)) = true:=by kernel_rfl
theorem k20 : (Rows.constraintReferenceRow.ifacesOut == Tryz.f3.resultTypes.toList.any (Tryz.prog.ifacesRec ·)) = true:=by kernel_rfl
theorem k21 : (Rows.constraintReferenceRow.loopsOut == Tryz.f3.resultTypes.toList.any (Tryz.prog.loopsFrom ·)) = true:=by kernel_rfl
theorem k22 : (Rows.constraintReferenceRow.plainKeys == Tryz.prog.plainKeys) = true:=by kernel_rfl
theorem k23 : Rows.constraintReferenceRow.shortTexts.isNone = true:=by kernel_rfl
theorem k24 : Tryz.prog.stopsHeard = true:=by kernel_rfl
theorem k25 : Tryz.prog.mayEnter = true:=by kernel_rfl
theorem k26 : (Rows.constraintReferenceRow.lifted == Tryz.prog.liftsFinal) = true:=by kernel_rfl
theorem k27 : (Tryz.prog.make == some Rows.constraintReferenceRow.make) = true:=by kernel_rfl
theorem k28 : (Rows.constraintReferenceRow.kinds == (if Rows.constraintReferenceRow.domain.isEmpty then [] else Tryz.f3.params.toList.map fun t=>match Tryz.prog.underlying t with | some (.int k)=>some k | _=>none)) = true:=by kernel_rfl
theorem k29 : (Rows.constraintReferenceRow.pinned == Rows.constraintReferenceRow.pinnedBy) = true:=by kernel_rfl
theorem k30 : (Rows.constraintReferenceRow.veiled == (Tryz.f3.params.toList ++ Rows.constraintReferenceSpec.plain.varTypes Tryz.prog ++ Tryz.f3.resultTypes.toList).any (Tryz.prog.veiledRec ·)) = true:=by kernel_rfl
theorem k31 : Rows.constraintReferenceRow.veiledFits Tryz.prog Tryz.f3.params.toList (Tryz.f3.params.toList ++ Rows.constraintReferenceSpec.plain.varTypes Tryz.prog ++ Tryz.f3.resultTypes.toList) = true:=by kernel_rfl
set_option maxRecDepth 100000 in
theorem closed : joinedFacts Tryz.prog 3 Tryz.f3 Rows.constraintReferenceSpec Rows.constraintReferenceRow = true:=(am (am (am (am (am (am (am (am (am (am (am (am (am (am (am (am (am (am (am (am (am (am (am (am (am (am (am (am (am (am (am k0 k1) k2) k3) k4) k5) k6) k7) k8) k9) k10) k11) k12) k13) k14) k15) k16) k17) k18) k19) k20) k21) k22) k23) k24) k25) k26) k27) k28) k29) k30) k31)
theorem inst : Tryz.f3.isInstance Tryz.prog Rows.constraintReferenceRow.origin Rows.constraintReferenceRow.targs:=of_decide_eq_true (by kernel_rfl)
theorem named : Tryz.prog.funcNamed Rows.constraintReferenceRow.func = some 3:=by kernel_rfl
theorem wrapped : Tryz.f3.isWrapper Tryz.prog Rows.constraintReferenceRow.wrapper Rows.constraintReferenceRow.mainSum:=by unfold Func.isWrapper; first | (rw [if_pos (by decide +kernel)]; kernel_rfl) | (rw [if_neg (by decide +kernel)]; exact ⟨rfl,rfl⟩)
theorem over : Rows.constraintReferenceRow.holds Tryz.pinned (OpenSpec.ofChange Rows.constraintReferenceSpec):=
 OpenClaim.holds_of_wide 3 Tryz.f3 rfl rfl rfl rfl rfl rfl rfl ⟨rfl,rfl,rfl,rfl,rfl⟩ rfl rfl rfl rfl rfl named Tryz.func3 closed inst wrapped
  (fun os started H enc _=>lifted os started H enc)
theorem proved : Rows.ConstraintReferenceSaid:=
 over
#print axioms proved
end Go.Proofs.YtoijcliccgjolaaGreat.constraintReference
