/-
  The law ConstraintInvariant holds for every input: the function returns true, and Z64 argument reads behind the call as it read before. No condition.
-/
import Derived.Test.YtoijcliccgjolaaGreatConX
import Derived.WalkKit
import Derived.ProofKit
import Derived.OpenShut
import Derived.ChangeMaps5
import Derived.Test.YtoijcliccgjolaaGreatDenArr
namespace Go.Proofs.YtoijcliccgjolaaGreat.constraintInvariant
open Go.ChangeShapes Go.WideShapes Go.ChangeAt Go.RowKit Go.ChangeMaps Go.Den
set_option linter.unusedVariables false
theorem own : ownKnob Tryz.prog.godebug = none:=by kernel_rfl
theorem laid : laidOutB Tryz.prog = true:=by kernel_rfl
def wf_69 (y : Z5j) : Prop:=(fun s : List UInt8=>s.length ≤ reachBytes) y.Zaj ∧ ((fun n : Int=>IntKind.min .i64 ≤ n ∧ n ≤ IntKind.max .i64) y.f_To ∧ (True))
theorem rd_69 : Z2i Tryz.prog 69 Zdq wf_69:=
 (Z40 (tot:=2) Tryz.underlying69 (by kernel_rfl) (Z1b (n:=1) (Z3k (P:=Tryz.prog) Tryz.underlying9) (by kernel_rfl) (Z1b (n:=1) (Z2h (P:=Tryz.prog) Tryz.underlying3) (by kernel_rfl) Z3p rfl) rfl)).map (fun p : (List UInt8) × (Int × Unit)=>({ Zaj:=p.1,f_To:=p.2.1 } : Z5j)) (fun _=>rfl) (fun _ h=>h)
def wf_64 (ys : List Z5j) : Prop:=(∀ y ∈ ys,wf_69 y) ∧ ys.length * Tryz.prog.bytesOf 69 ≤ reachBytes
theorem rd_64 : Z2i Tryz.prog 64 (fun ys : List Z5j=>[D.sl false (ys.map Zdq)]) wf_64:=Z4x Tryz.underlying64 (row:=Zdq) rd_69 (Nat.lt_of_lt_of_le (by decide : 0 < 1) (Nat.le_of_ble_eq_true (by kernel_rfl)))
def wf_86 (y : Z5l) : Prop:=(fun s : List UInt8=>s.length ≤ reachBytes) y.Z02 ∧ ((fun s : List UInt8=>s.length ≤ reachBytes) y.Z26 ∧ (True))
theorem rd_86 : Z2i Tryz.prog 86 Zcx wf_86:=
 (Z40 (tot:=2) Tryz.underlying86 (by kernel_rfl) (Z1b (n:=1) (Z3k (P:=Tryz.prog) Tryz.underlying9) (by kernel_rfl) (Z1b (n:=1) (Z3k (P:=Tryz.prog) Tryz.underlying9) (by kernel_rfl) Z3p rfl) rfl)).map (fun p : (List UInt8) × (List UInt8) × Unit=>({ Z02:=p.1,Z26:=p.2.1 } : Z5l)) (fun _=>rfl) (fun _ h=>h)
def wf_65 (ys : List Z5l) : Prop:=(∀ y ∈ ys,wf_86 y) ∧ ys.length * Tryz.prog.bytesOf 86 ≤ reachBytes
theorem rd_65 : Z2i Tryz.prog 65 (fun ys : List Z5l=>[D.sl false (ys.map Zcx)]) wf_65:=Z4x Tryz.underlying65 (row:=Zcx) rd_86 (Nat.lt_of_lt_of_le (by decide : 0 < 1) (Nat.le_of_ble_eq_true (by kernel_rfl)))
def wf_67 (y : Z1a) : Prop:=wf_64 y.Z2x ∧ (wf_65 y.Z2n ∧ (True))
theorem rd_67 : Z2i Tryz.prog 67 Z2d wf_67:=
 (Z40 (tot:=2) Tryz.underlying67 (by kernel_rfl) (Z1b (n:=1) rd_64 (by kernel_rfl) (Z1b (n:=1) rd_65 (by kernel_rfl) Z3p rfl) rfl)).map (fun p : (List Z5j) × (List Z5l) × Unit=>({ Z2x:=p.1,Z2n:=p.2.1 } : Z1a)) (fun _=>rfl) (fun _ h=>h)
def wf_22 (ys : List Z1a) : Prop:=(∀ y ∈ ys,wf_67 y) ∧ ys.length * Tryz.prog.bytesOf 67 ≤ reachBytes
theorem rd_22 : Z2i Tryz.prog 22 (fun ys : List Z1a=>[D.sl false (ys.map Z2d)]) wf_22:=Z4x Tryz.underlying22 (row:=Z2d) rd_67 (Nat.lt_of_lt_of_le (by decide : 0 < 1) (Nat.le_of_ble_eq_true (by kernel_rfl)))
def wf_43 (ys : List (List UInt8)) : Prop:=(∀ y ∈ ys,(fun s : List UInt8=>s.length ≤ reachBytes) y) ∧ ys.length * Tryz.prog.bytesOf 9 ≤ reachBytes
theorem rd_43 : Z2i Tryz.prog 43 (fun ys : List (List UInt8)=>[D.sl false (ys.map Z3c)]) wf_43:=Z4x Tryz.underlying43 (row:=Z3c) (Z3k (P:=Tryz.prog) Tryz.underlying9) (Nat.lt_of_lt_of_le (by decide : 0 < 1) (Nat.le_of_ble_eq_true (by kernel_rfl)))
def wf_98 (y : Z3o) : Prop:=(fun n : Int=>IntKind.min .i64 ≤ n ∧ n ≤ IntKind.max .i64) y.Z0v ∧ ((fun s : List UInt8=>s.length ≤ reachBytes) y.Z02 ∧ ((fun s : List UInt8=>s.length ≤ reachBytes) y.Z1h ∧ ((fun n : Int=>IntKind.min .i64 ≤ n ∧ n ≤ IntKind.max .i64) y.Z56 ∧ ((fun n : Int=>IntKind.min .i64 ≤ n ∧ n ≤ IntKind.max .i64) y.f_N ∧ ((fun s : List UInt8=>s.length ≤ reachBytes) y.f_S ∧ (True))))))
theorem rd_98 : Z2i Tryz.prog 98 Z77 wf_98:=
 (Z40 (tot:=6) Tryz.underlying98 (by kernel_rfl) (Z1b (n:=1) (Z2h (P:=Tryz.prog) Tryz.underlying3) (by kernel_rfl) (Z1b (n:=1) (Z3k (P:=Tryz.prog) Tryz.underlying9) (by kernel_rfl) (Z1b (n:=1) (Z3k (P:=Tryz.prog) Tryz.underlying9) (by kernel_rfl) (Z1b (n:=1) (Z2h (P:=Tryz.prog) Tryz.underlying3) (by kernel_rfl) (Z1b (n:=1) (Z2h (P:=Tryz.prog) Tryz.underlying3) (by kernel_rfl) (Z1b (n:=1) (Z3k (P:=Tryz.prog) Tryz.underlying9) (by kernel_rfl) Z3p rfl) rfl) rfl) rfl) rfl) rfl)).map (fun p : Int × (List UInt8) × (List UInt8) × (Int × (Int × (List UInt8) × Unit))=>({ Z0v:=p.1,Z02:=p.2.1,Z1h:=p.2.2.1,Z56:=p.2.2.2.1,f_N:=p.2.2.2.2.1,f_S:=p.2.2.2.2.2.1 } : Z3o)) (fun _=>rfl) (fun _ h=>h)
def wf_72 (ys : List Z3o) : Prop:=(∀ y ∈ ys,wf_98 y) ∧ ys.length * Tryz.prog.bytesOf 98 ≤ reachBytes
theorem rd_72 : Z2i Tryz.prog 72 (fun ys : List Z3o=>[D.sl false (ys.map Z77)]) wf_72:=Z4x Tryz.underlying72 (row:=Z77) rd_98 (Nat.lt_of_lt_of_le (by decide : 0 < 1) (Nat.le_of_ble_eq_true (by kernel_rfl)))
def wf_53 (ys : List Int) : Prop:=(∀ y ∈ ys,(fun n : Int=>IntKind.min .i64 ≤ n ∧ n ≤ IntKind.max .i64) y) ∧ ys.length * Tryz.prog.bytesOf 3 ≤ reachBytes
theorem rd_53 : Z2i Tryz.prog 53 (fun ys : List Int=>[D.sl false (ys.map Z03)]) wf_53:=Z4x Tryz.underlying53 (row:=Z03) (Z2h (P:=Tryz.prog) Tryz.underlying3) (Nat.lt_of_lt_of_le (by decide : 0 < 1) (Nat.le_of_ble_eq_true (by kernel_rfl)))
def wf_129 (y : Z25) : Prop:=(fun s : List UInt8=>s.length ≤ reachBytes) y.Z0q ∧ ((fun s : List UInt8=>s.length ≤ reachBytes) y.Z02 ∧ ((fun s : List UInt8=>s.length ≤ reachBytes) y.Z1h ∧ (True)))
theorem rd_129 : Z2i Tryz.prog 129 Zge wf_129:=
 (Z40 (tot:=3) Tryz.underlying129 (by kernel_rfl) (Z1b (n:=1) (Z3k (P:=Tryz.prog) Tryz.underlying9) (by kernel_rfl) (Z1b (n:=1) (Z3k (P:=Tryz.prog) Tryz.underlying9) (by kernel_rfl) (Z1b (n:=1) (Z3k (P:=Tryz.prog) Tryz.underlying9) (by kernel_rfl) Z3p rfl) rfl) rfl)).map (fun p : (List UInt8) × (List UInt8) × (List UInt8) × Unit=>({ Z0q:=p.1,Z02:=p.2.1,Z1h:=p.2.2.1 } : Z25)) (fun _=>rfl) (fun _ h=>h)
def wf_131 (y : Z01) : Prop:=(fun n : Int=>IntKind.min .i64 ≤ n ∧ n ≤ IntKind.max .i64) y.f_Op ∧ ((fun n : Int=>IntKind.min .i64 ≤ n ∧ n ≤ IntKind.max .i64) y.f_A ∧ ((fun n : Int=>IntKind.min .i64 ≤ n ∧ n ≤ IntKind.max .i64) y.f_B ∧ ((fun n : Int=>IntKind.min .i64 ≤ n ∧ n ≤ IntKind.max .i64) y.f_To ∧ (wf_53 y.Z0r ∧ (wf_53 y.Z0c ∧ (wf_129 y.Z13 ∧ ((fun s : List UInt8=>s.length ≤ reachBytes) y.f_S ∧ (True))))))))
theorem rd_131 : Z2i Tryz.prog 131 Z0h wf_131:=
 (Z40 (tot:=10) Tryz.underlying131 (by kernel_rfl) (Z1b (n:=1) (Z2h (P:=Tryz.prog) Tryz.underlying3) (by kernel_rfl) (Z1b (n:=1) (Z2h (P:=Tryz.prog) Tryz.underlying3) (by kernel_rfl) (Z1b (n:=1) (Z2h (P:=Tryz.prog) Tryz.underlying3) (by kernel_rfl) (Z1b (n:=1) (Z2h (P:=Tryz.prog) Tryz.underlying3) (by kernel_rfl) (Z1b (n:=1) rd_53 (by kernel_rfl) (Z1b (n:=1) rd_53 (by kernel_rfl) (Z1b (n:=3) rd_129 (by kernel_rfl) (Z1b (n:=1) (Z3k (P:=Tryz.prog) Tryz.underlying9) (by kernel_rfl) Z3p rfl) rfl) rfl) rfl) rfl) rfl) rfl) rfl)).map (fun p : Int × (Int × (Int × (Int × (List Int) × (List Int) × (Z25 × (List UInt8) × Unit))))=>({ f_Op:=p.1,f_A:=p.2.1,f_B:=p.2.2.1,f_To:=p.2.2.2.1,Z0r:=p.2.2.2.2.1,Z0c:=p.2.2.2.2.2.1,Z13:=p.2.2.2.2.2.2.1,f_S:=p.2.2.2.2.2.2.2.1 } : Z01)) (fun _=>rfl) (fun _ h=>h)
def wf_99 (ys : List Z01) : Prop:=(∀ y ∈ ys,wf_131 y) ∧ ys.length * Tryz.prog.bytesOf 131 ≤ reachBytes
theorem rd_99 : Z2i Tryz.prog 99 (fun ys : List Z01=>[D.sl false (ys.map Z0h)]) wf_99:=Z4x Tryz.underlying99 (row:=Z0h) rd_131 (Nat.lt_of_lt_of_le (by decide : 0 < 1) (Nat.le_of_ble_eq_true (by kernel_rfl)))
def wf_133 (y : Z0i) : Prop:=(fun n : Int=>IntKind.min .i64 ≤ n ∧ n ≤ IntKind.max .i64) y.Z3t ∧ ((fun n : Int=>IntKind.min .i64 ≤ n ∧ n ≤ IntKind.max .i64) y.f_To ∧ ((fun n : Int=>IntKind.min .i64 ≤ n ∧ n ≤ IntKind.max .i64) y.Z3q ∧ ((fun n : Int=>IntKind.min .i64 ≤ n ∧ n ≤ IntKind.max .i64) y.Z0q ∧ ((fun s : List UInt8=>s.length ≤ reachBytes) y.Z1i ∧ (True)))))
theorem rd_133 : Z2i Tryz.prog 133 Z14 wf_133:=
 (Z40 (tot:=5) Tryz.underlying133 (by kernel_rfl) (Z1b (n:=1) (Z2h (P:=Tryz.prog) Tryz.underlying3) (by kernel_rfl) (Z1b (n:=1) (Z2h (P:=Tryz.prog) Tryz.underlying3) (by kernel_rfl) (Z1b (n:=1) (Z2h (P:=Tryz.prog) Tryz.underlying3) (by kernel_rfl) (Z1b (n:=1) (Z2h (P:=Tryz.prog) Tryz.underlying3) (by kernel_rfl) (Z1b (n:=1) (Z3k (P:=Tryz.prog) Tryz.underlying9) (by kernel_rfl) Z3p rfl) rfl) rfl) rfl) rfl)).map (fun p : Int × (Int × (Int × (Int × (List UInt8) × Unit)))=>({ Z3t:=p.1,f_To:=p.2.1,Z3q:=p.2.2.1,Z0q:=p.2.2.2.1,Z1i:=p.2.2.2.2.1 } : Z0i)) (fun _=>rfl) (fun _ h=>h)
def wf_100 (ys : List Z0i) : Prop:=(∀ y ∈ ys,wf_133 y) ∧ ys.length * Tryz.prog.bytesOf 133 ≤ reachBytes
theorem rd_100 : Z2i Tryz.prog 100 (fun ys : List Z0i=>[D.sl false (ys.map Z14)]) wf_100:=Z4x Tryz.underlying100 (row:=Z14) rd_133 (Nat.lt_of_lt_of_le (by decide : 0 < 1) (Nat.le_of_ble_eq_true (by kernel_rfl)))
def wf_161 (y : Z0m) : Prop:=(fun n : Int=>IntKind.min .i64 ≤ n ∧ n ≤ IntKind.max .i64) y.Z1u ∧ ((fun n : Int=>IntKind.min .u8 ≤ n ∧ n ≤ IntKind.max .u8) y.Z1q ∧ ((fun s : List UInt8=>s.length ≤ reachBytes) y.Z02 ∧ (True)))
theorem rd_161 : Z2i Tryz.prog 161 Z2y wf_161:=
 (Z40 (tot:=3) Tryz.underlying161 (by kernel_rfl) (Z1b (n:=1) (Z2h (P:=Tryz.prog) Tryz.underlying3) (by kernel_rfl) (Z1b (n:=1) (Z2h (P:=Tryz.prog) Tryz.underlying5) (by kernel_rfl) (Z1b (n:=1) (Z3k (P:=Tryz.prog) Tryz.underlying9) (by kernel_rfl) Z3p rfl) rfl) rfl)).map (fun p : Int × (Int × (List UInt8) × Unit)=>({ Z1u:=p.1,Z1q:=p.2.1,Z02:=p.2.2.1 } : Z0m)) (fun _=>rfl) (fun _ h=>h)
def wf_163 (y : Z0f) : Prop:=(fun n : Int=>IntKind.min .i64 ≤ n ∧ n ≤ IntKind.max .i64) y.Z2e ∧ ((fun n : Int=>IntKind.min .i64 ≤ n ∧ n ≤ IntKind.max .i64) y.Z2r ∧ (wf_161 y.Z1i ∧ ((fun n : Int=>IntKind.min .i64 ≤ n ∧ n ≤ IntKind.max .i64) y.Z2z ∧ (True))))
theorem rd_163 : Z2i Tryz.prog 163 Z1p wf_163:=
 (Z40 (tot:=6) Tryz.underlying163 (by kernel_rfl) (Z1b (n:=1) (Z2h (P:=Tryz.prog) Tryz.underlying3) (by kernel_rfl) (Z1b (n:=1) (Z2h (P:=Tryz.prog) Tryz.underlying3) (by kernel_rfl) (Z1b (n:=3) rd_161 (by kernel_rfl) (Z1b (n:=1) (Z2h (P:=Tryz.prog) Tryz.underlying3) (by kernel_rfl) Z3p rfl) rfl) rfl) rfl)).map (fun p : Int × (Int × (Z0m × (Int × Unit)))=>({ Z2e:=p.1,Z2r:=p.2.1,Z1i:=p.2.2.1,Z2z:=p.2.2.2.1 } : Z0f)) (fun _=>rfl) (fun _ h=>h)
def wf_137 (ys : List Z0f) : Prop:=(∀ y ∈ ys,wf_163 y) ∧ ys.length * Tryz.prog.bytesOf 163 ≤ reachBytes
theorem rd_137 : Z2i Tryz.prog 137 (fun ys : List Z0f=>[D.sl false (ys.map Z1p)]) wf_137:=Z4x Tryz.underlying137 (row:=Z1p) rd_163 (Nat.lt_of_lt_of_le (by decide : 0 < 1) (Nat.le_of_ble_eq_true (by kernel_rfl)))
def wf_139 (y : Z4e) : Prop:=wf_137 y.Z0o ∧ (wf_137 y.Z0s ∧ ((fun _ : Bool=>True) y.Z3y ∧ (True)))
theorem rd_139 : Z2i Tryz.prog 139 Zjn wf_139:=
 (Z40 (tot:=3) Tryz.underlying139 (by kernel_rfl) (Z1b (n:=1) rd_137 (by kernel_rfl) (Z1b (n:=1) rd_137 (by kernel_rfl) (Z1b (n:=1) (Zqx (P:=Tryz.prog) Tryz.underlying4) (by kernel_rfl) Z3p rfl) rfl) rfl)).map (fun p : (List Z0f) × (List Z0f) × (Bool × Unit)=>({ Z0o:=p.1,Z0s:=p.2.1,Z3y:=p.2.2.1 } : Z4e)) (fun _=>rfl) (fun _ h=>h)
def wf_141 (y : Z0j) : Prop:=(fun n : Int=>IntKind.min .i64 ≤ n ∧ n ≤ IntKind.max .i64) y.Z2b ∧ (wf_139 y.Z1m ∧ (True))
theorem rd_141 : Z2i Tryz.prog 141 Z19 wf_141:=
 (Z40 (tot:=4) Tryz.underlying141 (by kernel_rfl) (Z1b (n:=1) (Z2h (P:=Tryz.prog) Tryz.underlying3) (by kernel_rfl) (Z1b (n:=3) rd_139 (by kernel_rfl) Z3p rfl) rfl)).map (fun p : Int × (Z4e × Unit)=>({ Z2b:=p.1,Z1m:=p.2.1 } : Z0j)) (fun _=>rfl) (fun _ h=>h)
def wf_101 (ys : List Z0j) : Prop:=(∀ y ∈ ys,wf_141 y) ∧ ys.length * Tryz.prog.bytesOf 141 ≤ reachBytes
theorem rd_101 : Z2i Tryz.prog 101 (fun ys : List Z0j=>[D.sl false (ys.map Z19)]) wf_101:=Z4x Tryz.underlying101 (row:=Z19) rd_141 (Nat.lt_of_lt_of_le (by decide : 0 < 1) (Nat.le_of_ble_eq_true (by kernel_rfl)))
def wf_135 (y : Z0u) : Prop:=(fun n : Int=>IntKind.min .i64 ≤ n ∧ n ≤ IntKind.max .i64) y.Z2b ∧ ((fun n : Int=>IntKind.min .i64 ≤ n ∧ n ≤ IntKind.max .i64) y.Z4l ∧ (True))
theorem rd_135 : Z2i Tryz.prog 135 Z1l wf_135:=
 (Z40 (tot:=2) Tryz.underlying135 (by kernel_rfl) (Z1b (n:=1) (Z2h (P:=Tryz.prog) Tryz.underlying3) (by kernel_rfl) (Z1b (n:=1) (Z2h (P:=Tryz.prog) Tryz.underlying3) (by kernel_rfl) Z3p rfl) rfl)).map (fun p : Int × (Int × Unit)=>({ Z2b:=p.1,Z4l:=p.2.1 } : Z0u)) (fun _=>rfl) (fun _ h=>h)
def wf_102 (ys : List Z0u) : Prop:=(∀ y ∈ ys,wf_135 y) ∧ ys.length * Tryz.prog.bytesOf 135 ≤ reachBytes
theorem rd_102 : Z2i Tryz.prog 102 (fun ys : List Z0u=>[D.sl false (ys.map Z1l)]) wf_102:=Z4x Tryz.underlying102 (row:=Z1l) rd_135 (Nat.lt_of_lt_of_le (by decide : 0 < 1) (Nat.le_of_ble_eq_true (by kernel_rfl)))
def wf_104 (y : Z06) : Prop:=(fun n : Int=>IntKind.min .i64 ≤ n ∧ n ≤ IntKind.max .i64) y.Z0s ∧ ((fun n : Int=>IntKind.min .i64 ≤ n ∧ n ≤ IntKind.max .i64) y.Z0o ∧ (wf_99 y.Z0k ∧ (wf_100 y.Z1c ∧ (wf_101 y.Z15 ∧ (wf_102 y.Z18 ∧ (True))))))
theorem rd_104 : Z2i Tryz.prog 104 Z0w wf_104:=
 (Z40 (tot:=6) Tryz.underlying104 (by kernel_rfl) (Z1b (n:=1) (Z2h (P:=Tryz.prog) Tryz.underlying3) (by kernel_rfl) (Z1b (n:=1) (Z2h (P:=Tryz.prog) Tryz.underlying3) (by kernel_rfl) (Z1b (n:=1) rd_99 (by kernel_rfl) (Z1b (n:=1) rd_100 (by kernel_rfl) (Z1b (n:=1) rd_101 (by kernel_rfl) (Z1b (n:=1) rd_102 (by kernel_rfl) Z3p rfl) rfl) rfl) rfl) rfl) rfl)).map (fun p : Int × (Int × (List Z01) × (List Z0i) × (List Z0j) × (List Z0u) × Unit)=>({ Z0s:=p.1,Z0o:=p.2.1,Z0k:=p.2.2.1,Z1c:=p.2.2.2.1,Z15:=p.2.2.2.2.1,Z18:=p.2.2.2.2.2.1 } : Z06)) (fun _=>rfl) (fun _ h=>h)
def wf_106 (y : Z2m) : Prop:=(fun n : Int=>IntKind.min .i64 ≤ n ∧ n ≤ IntKind.max .i64) y.Z0v ∧ ((fun s : List UInt8=>s.length ≤ reachBytes) y.Z02 ∧ ((fun s : List UInt8=>s.length ≤ reachBytes) y.Z1h ∧ ((fun _ : Bool=>True) y.Z7t ∧ (wf_104 y.Z2k ∧ (wf_43 y.Z5e ∧ (True))))))
theorem rd_106 : Z2i Tryz.prog 106 Z6w wf_106:=
 (Z40 (tot:=11) Tryz.underlying106 (by kernel_rfl) (Z1b (n:=1) (Z2h (P:=Tryz.prog) Tryz.underlying3) (by kernel_rfl) (Z1b (n:=1) (Z3k (P:=Tryz.prog) Tryz.underlying9) (by kernel_rfl) (Z1b (n:=1) (Z3k (P:=Tryz.prog) Tryz.underlying9) (by kernel_rfl) (Z1b (n:=1) (Zqx (P:=Tryz.prog) Tryz.underlying4) (by kernel_rfl) (Z1b (n:=6) rd_104 (by kernel_rfl) (Z1b (n:=1) rd_43 (by kernel_rfl) Z3p rfl) rfl) rfl) rfl) rfl) rfl)).map (fun p : Int × (List UInt8) × (List UInt8) × (Bool × (Z06 × (List (List UInt8)) × Unit))=>({ Z0v:=p.1,Z02:=p.2.1,Z1h:=p.2.2.1,Z7t:=p.2.2.2.1,Z2k:=p.2.2.2.2.1,Z5e:=p.2.2.2.2.2.1 } : Z2m)) (fun _=>rfl) (fun _ h=>h)
def wf_73 (ys : List Z2m) : Prop:=(∀ y ∈ ys,wf_106 y) ∧ ys.length * Tryz.prog.bytesOf 106 ≤ reachBytes
theorem rd_73 : Z2i Tryz.prog 73 (fun ys : List Z2m=>[D.sl false (ys.map Z6w)]) wf_73:=Z4x Tryz.underlying73 (row:=Z6w) rd_106 (Nat.lt_of_lt_of_le (by decide : 0 < 1) (Nat.le_of_ble_eq_true (by kernel_rfl)))
def wf_75 (y : Z0x) : Prop:=(fun n : Int=>IntKind.min .i64 ≤ n ∧ n ≤ IntKind.max .i64) y.Z0v ∧ ((fun s : List UInt8=>s.length ≤ reachBytes) y.Z02 ∧ ((fun s : List UInt8=>s.length ≤ reachBytes) y.Z1o ∧ (wf_43 y.Z0y ∧ (wf_72 y.Z17 ∧ (wf_73 y.Z16 ∧ ((fun s : List UInt8=>s.length ≤ reachBytes) y.Z5v ∧ (True)))))))
theorem rd_75 : Z2i Tryz.prog 75 Z23 wf_75:=
 (Z40 (tot:=7) Tryz.underlying75 (by kernel_rfl) (Z1b (n:=1) (Z2h (P:=Tryz.prog) Tryz.underlying3) (by kernel_rfl) (Z1b (n:=1) (Z3k (P:=Tryz.prog) Tryz.underlying9) (by kernel_rfl) (Z1b (n:=1) (Z3k (P:=Tryz.prog) Tryz.underlying9) (by kernel_rfl) (Z1b (n:=1) rd_43 (by kernel_rfl) (Z1b (n:=1) rd_72 (by kernel_rfl) (Z1b (n:=1) rd_73 (by kernel_rfl) (Z1b (n:=1) (Z3k (P:=Tryz.prog) Tryz.underlying9) (by kernel_rfl) Z3p rfl) rfl) rfl) rfl) rfl) rfl) rfl)).map (fun p : Int × (List UInt8) × (List UInt8) × (List (List UInt8)) × (List Z3o) × (List Z2m) × (List UInt8) × Unit=>({ Z0v:=p.1,Z02:=p.2.1,Z1o:=p.2.2.1,Z0y:=p.2.2.2.1,Z17:=p.2.2.2.2.1,Z16:=p.2.2.2.2.2.1,Z5v:=p.2.2.2.2.2.2.1 } : Z0x)) (fun _=>rfl) (fun _ h=>h)
def wf_77 (y : Z1z) : Prop:=(fun n : Int=>IntKind.min .i64 ≤ n ∧ n ≤ IntKind.max .i64) y.Z1k ∧ (wf_75 y.Z2l ∧ ((fun n : Int=>IntKind.min .i64 ≤ n ∧ n ≤ IntKind.max .i64) y.Z1o ∧ (wf_53 y.Z0y ∧ ((fun n : Int=>IntKind.min .i64 ≤ n ∧ n ≤ IntKind.max .i64) y.Z6v ∧ ((fun n : Int=>IntKind.min .i64 ≤ n ∧ n ≤ IntKind.max .i64) y.Z89 ∧ (True))))))
theorem rd_77 : Z2i Tryz.prog 77 Z2v wf_77:=
 (Z40 (tot:=12) Tryz.underlying77 (by kernel_rfl) (Z1b (n:=1) (Z2h (P:=Tryz.prog) Tryz.underlying3) (by kernel_rfl) (Z1b (n:=7) rd_75 (by kernel_rfl) (Z1b (n:=1) (Z2h (P:=Tryz.prog) Tryz.underlying3) (by kernel_rfl) (Z1b (n:=1) rd_53 (by kernel_rfl) (Z1b (n:=1) (Z2h (P:=Tryz.prog) Tryz.underlying3) (by kernel_rfl) (Z1b (n:=1) (Z2h (P:=Tryz.prog) Tryz.underlying35) (by kernel_rfl) Z3p rfl) rfl) rfl) rfl) rfl) rfl)).map (fun p : Int × (Z0x × (Int × (List Int) × (Int × (Int × Unit))))=>({ Z1k:=p.1,Z2l:=p.2.1,Z1o:=p.2.2.1,Z0y:=p.2.2.2.1,Z6v:=p.2.2.2.2.1,Z89:=p.2.2.2.2.2.1 } : Z1z)) (fun _=>rfl) (fun _ h=>h)
def wf_23 (ys : List Z1z) : Prop:=(∀ y ∈ ys,wf_77 y) ∧ ys.length * Tryz.prog.bytesOf 77 ≤ reachBytes
theorem rd_23 : Z2i Tryz.prog 23 (fun ys : List Z1z=>[D.sl false (ys.map Z2v)]) wf_23:=Z4x Tryz.underlying23 (row:=Z2v) rd_77 (Nat.lt_of_lt_of_le (by decide : 0 < 1) (Nat.le_of_ble_eq_true (by kernel_rfl)))
def wf_58 (y : Z22) : Prop:=(fun n : Int=>IntKind.min .i64 ≤ n ∧ n ≤ IntKind.max .i64) y.Z1k ∧ ((fun s : List UInt8=>s.length ≤ reachBytes) y.Z02 ∧ ((fun n : Int=>IntKind.min .i64 ≤ n ∧ n ≤ IntKind.max .i64) y.Z0q ∧ (True)))
theorem rd_58 : Z2i Tryz.prog 58 Z45 wf_58:=
 (Z40 (tot:=3) Tryz.underlying58 (by kernel_rfl) (Z1b (n:=1) (Z2h (P:=Tryz.prog) Tryz.underlying3) (by kernel_rfl) (Z1b (n:=1) (Z3k (P:=Tryz.prog) Tryz.underlying9) (by kernel_rfl) (Z1b (n:=1) (Z2h (P:=Tryz.prog) Tryz.underlying3) (by kernel_rfl) Z3p rfl) rfl) rfl)).map (fun p : Int × (List UInt8) × (Int × Unit)=>({ Z1k:=p.1,Z02:=p.2.1,Z0q:=p.2.2.1 } : Z22)) (fun _=>rfl) (fun _ h=>h)
def wf_24 (ys : List Z22) : Prop:=(∀ y ∈ ys,wf_58 y) ∧ ys.length * Tryz.prog.bytesOf 58 ≤ reachBytes
theorem rd_24 : Z2i Tryz.prog 24 (fun ys : List Z22=>[D.sl false (ys.map Z45)]) wf_24:=Z4x Tryz.underlying24 (row:=Z45) rd_58 (Nat.lt_of_lt_of_le (by decide : 0 < 1) (Nat.le_of_ble_eq_true (by kernel_rfl)))
def wf_48 (y : Z1n) : Prop:=(fun s : List UInt8=>s.length ≤ reachBytes) y.Z02 ∧ ((fun n : Int=>IntKind.min .i64 ≤ n ∧ n ≤ IntKind.max .i64) y.f_A ∧ ((fun n : Int=>IntKind.min .i64 ≤ n ∧ n ≤ IntKind.max .i64) y.f_B ∧ (True)))
theorem rd_48 : Z2i Tryz.prog 48 Z3e wf_48:=
 (Z40 (tot:=3) Tryz.underlying48 (by kernel_rfl) (Z1b (n:=1) (Z3k (P:=Tryz.prog) Tryz.underlying9) (by kernel_rfl) (Z1b (n:=1) (Z2h (P:=Tryz.prog) Tryz.underlying3) (by kernel_rfl) (Z1b (n:=1) (Z2h (P:=Tryz.prog) Tryz.underlying3) (by kernel_rfl) Z3p rfl) rfl) rfl)).map (fun p : (List UInt8) × (Int × (Int × Unit))=>({ Z02:=p.1,f_A:=p.2.1,f_B:=p.2.2.1 } : Z1n)) (fun _=>rfl) (fun _ h=>h)
def wf_25 (ys : List Z1n) : Prop:=(∀ y ∈ ys,wf_48 y) ∧ ys.length * Tryz.prog.bytesOf 48 ≤ reachBytes
theorem rd_25 : Z2i Tryz.prog 25 (fun ys : List Z1n=>[D.sl false (ys.map Z3e)]) wf_25:=Z4x Tryz.underlying25 (row:=Z3e) rd_48 (Nat.lt_of_lt_of_le (by decide : 0 < 1) (Nat.le_of_ble_eq_true (by kernel_rfl)))
def wf_27 (y : Z07) : Prop:=wf_22 y.Z12 ∧ (wf_23 y.Z2c ∧ (wf_24 y.Z0p ∧ (wf_25 y.Z0g ∧ (True))))
theorem rd_27 : Z2i Tryz.prog 27 Z1d wf_27:=
 (Z40 (tot:=4) Tryz.underlying27 (by kernel_rfl) (Z1b (n:=1) rd_22 (by kernel_rfl) (Z1b (n:=1) rd_23 (by kernel_rfl) (Z1b (n:=1) rd_24 (by kernel_rfl) (Z1b (n:=1) rd_25 (by kernel_rfl) Z3p rfl) rfl) rfl) rfl)).map (fun p : (List Z1a) × (List Z1z) × (List Z22) × (List Z1n) × Unit=>({ Z12:=p.1,Z2c:=p.2.1,Z0p:=p.2.2.1,Z0g:=p.2.2.2.1 } : Z07)) (fun _=>rfl) (fun _ h=>h)
def wf_34 (y : Z1e) : Prop:=(fun n : Int=>IntKind.min .i64 ≤ n ∧ n ≤ IntKind.max .i64) y.a0 ∧ ((fun n : Int=>IntKind.min .i64 ≤ n ∧ n ≤ IntKind.max .i64) y.a1 ∧ (True))
theorem rd_34 : Z2i Tryz.prog 34 Z29 wf_34:=
 (Zz0 (tot:=2) [arF 3 0,arF 3 1] Tryz.underlying34 (by kernel_rfl) (by kernel_rfl) (Z1b (n:=1) (Z2h (P:=Tryz.prog) Tryz.underlying3) (by kernel_rfl) (Z1b (n:=1) (Z2h (P:=Tryz.prog) Tryz.underlying3) (by kernel_rfl) Z3p rfl) rfl)).map (fun p : Int × (Int × Unit)=>({ a0:=p.1,a1:=p.2.1 } : Z1e)) (fun _=>rfl) (fun _ h=>h)
theorem rlS {n : Nat} (h : n ≤ reachBytes) : n ≤ 4503599627370496:=Nat.le_trans h (by decide)
theorem rlB {n b k : Nat} (e : b = k) (h : n * b ≤ reachBytes) : n * k ≤ 140737488355328:=by have:=Zvz h; rw [e] at this; omega
theorem rlN {n b : Nat} (e : 1 ≤ b) (h : n * b ≤ reachBytes) : n ≤ 140737488355328:=Nat.le_trans (Nat.le_trans (Nat.le_of_eq (Nat.mul_one n).symm) (Nat.mul_le_mul_left n e)) (by have:=Zvz h; omega)
theorem ws_T_api_Ref {y : Z25} (h : wf_129 y) : WRef y:=⟨rlS h.1,rlS h.2.1,rlS h.2.2.1⟩
theorem ws_T_api_Insn {y : Z01} (h : wf_131 y) : Z2q y:=⟨rlB (by kernel_rfl) h.2.2.2.2.1.2,rlB (by kernel_rfl) h.2.2.2.2.2.1.2,ws_T_api_Ref h.2.2.2.2.2.2.1,rlS h.2.2.2.2.2.2.2.1⟩
theorem ws_T_api_Frame {y : Z4e} (h : wf_139 y) : Z7f y:=⟨fun v hv=>rlS (h.1.1 v hv).2.2.1.2.2.1,rlB (by kernel_rfl) h.1.2,fun v hv=>rlS (h.2.1.1 v hv).2.2.1.2.2.1,rlB (by kernel_rfl) h.2.1.2⟩
theorem ws_T_api_Code {y : Z06} (h : wf_104 y) : Z4j y:=⟨fun v hv=>ws_T_api_Insn (h.2.2.1.1 v hv),rlB (by kernel_rfl) h.2.2.1.2,fun v hv=>rlS (h.2.2.2.1.1 v hv).2.2.2.2.1,rlB (by kernel_rfl) h.2.2.2.1.2,fun v hv=>ws_T_api_Frame (h.2.2.2.2.1.1 v hv).2.1,rlB (by kernel_rfl) h.2.2.2.2.1.2,rlB (by kernel_rfl) h.2.2.2.2.2.1.2⟩
theorem ws_T_api_Method {y : Z2m} (h : wf_106 y) : Z9k y:=⟨rlS h.2.1,rlS h.2.2.1,ws_T_api_Code h.2.2.2.2.1,fun v hv=>rlS (h.2.2.2.2.2.1.1 v hv),rlB (by kernel_rfl) h.2.2.2.2.2.1.2⟩
theorem ws_T_api_Field {y : Z3o} (h : wf_98 y) : Zlz y:=⟨rlS h.2.1,rlS h.2.2.1,rlS h.2.2.2.2.2.1⟩
theorem ws_T_api_ClassModel {y : Z0x} (h : wf_75 y) : Z4n y:=⟨rlS h.2.1,rlS h.2.2.1,fun v hv=>rlS (h.2.2.2.1.1 v hv),rlB (by kernel_rfl) h.2.2.2.1.2,fun v hv=>ws_T_api_Field (h.2.2.2.2.1.1 v hv),rlB (by kernel_rfl) h.2.2.2.2.1.2,fun v hv=>ws_T_api_Method (h.2.2.2.2.2.1.1 v hv),rlB (by kernel_rfl) h.2.2.2.2.2.1.2,rlS h.2.2.2.2.2.2.1⟩
theorem ws_T_api_Loader {y : Z1a} (h : wf_67 y) : Z6a y:=⟨fun v hv=>rlS (h.1.1 v hv).1,rlN (Nat.le_of_ble_eq_true (by kernel_rfl)) h.1.2,fun v hv=>rlS (h.2.1.1 v hv).1,rlN (Nat.le_of_ble_eq_true (by kernel_rfl)) h.2.1.2⟩
theorem ws_T_api_ClassSpace {y : Z07} (h : wf_27 y) : Z31 y:=⟨fun v hv=>ws_T_api_Loader (h.1.1 v hv),rlN (Nat.le_of_ble_eq_true (by kernel_rfl)) h.1.2,fun v hv=>⟨ws_T_api_ClassModel (h.2.1.1 v hv).2.1,rlN (Nat.le_of_ble_eq_true (by kernel_rfl)) (h.2.1.1 v hv).2.2.2.1.2⟩,rlN (Nat.le_of_ble_eq_true (by kernel_rfl)) h.2.1.2,fun v hv=>rlS (h.2.2.1.1 v hv).2.1,rlN (Nat.le_of_ble_eq_true (by kernel_rfl)) h.2.2.1.2,fun v hv=>rlS (h.2.2.2.1.1 v hv).1,rlN (Nat.le_of_ble_eq_true (by kernel_rfl)) h.2.2.2.1.2⟩
set_option maxRecDepth 100000 in
theorem lifted (os : Os) (started : os.Started) (H : Type) (enc : TypeId × Value → H) :
  ReturnsInHanded {} Tryz.checked os 5 .any (Rows.constraintInvariantSpec.pre6 enc Tryz.prog Tryz.f5 Rows.constraintInvariantRow.domain false) (Rows.constraintInvariantSpec.post enc Tryz.prog Tryz.f5 false true false false):=by
 refine returnsInHanded_of_change_sized (C:=Tryz.checked) own started (by kernel_rfl) Tryz.func5
  (ChangeSpec.witness6 (enc:=enc) (C:=Tryz.checked) false ⟨#[],#[.agg #[.slice none 0 0,.slice none 0 0,.slice none 0 0,.slice none 0 0],.string ⟨#[]⟩,.agg #[.int .i64 0,.int .i64 0]],[]⟩ 8 (by kernel_rfl) (by kernel_rfl) (by kernel_rfl) (by kernel_rfl)) ?_
 intro W base args ds gs before hval0 hW hcnd hsz _
 have hval : ∀ (j : Nat) t v,Tryz.f5.params[j]? = some t → args[j]? = some v → Value.okWide Tryz.prog W .any base t v:=hval0
 have hW':=hW
 obtain ⟨p,q,hA0,hV,rfl,hfz,hnd⟩:=hW
 have hA : DataW.TrodAll enc Tryz.prog W 0 (fun _=>true) true Tryz.f5.params.toList args.toList ds p:=hA0
 rw [Tryz.params5] at hA hval
 obtain ⟨v0,vs0,d0,ds0,p0,q0,hargs,rfl,rfl,h0,r0⟩:=trodAll_cons hA
 obtain ⟨v1,vs1,d1,ds1,p1,q1,rfl,rfl,rfl,h1,r1⟩:=trodAll_cons r0
 obtain ⟨v2,vs2,d2,ds2,p2,q2,rfl,rfl,rfl,h2,r2⟩:=trodAll_cons r1
 obtain ⟨rfl,rfl,rfl⟩:=trodAll_nil r2
 obtain rfl : args = #[v0,v1,v2] :=by cases args; simp_all
 obtain ⟨rfl,rfl⟩:=trodVars_none hV
 have hsz2 : (DataW.weightsEach Tryz.prog (Tryz.f5.params.toList ++ []) ([d0,d1,d2] ++ [])).all (· ≤ reachBytes) = true:=hsz
 rw [Tryz.params5] at hsz2
 simp only [List.append_nil,DataW.weightsEach,List.all_append,Bool.and_eq_true] at hsz2
 obtain ⟨z0,z1,z2⟩:=hsz2
 obtain ⟨y0,c0,g0⟩:=arg_agg (M:=Z5z.reach Tryz.prog) Tryz.underlying27 rd_27 (hval 0 27 v0 rfl rfl) h0 z0
 obtain ⟨_,rfl⟩:=okWide_string Tryz.underlying9 (hval 1 9 v1 rfl rfl)
 obtain ⟨y1,c1,g1⟩:=arg_one (M:=Z5z.reach Tryz.prog) (f:=(fun s : List UInt8=>D.str s)) (Z3k (P:=Tryz.prog) Tryz.underlying9) rfl h1 z1
 obtain ⟨y2,c2,g2⟩:=arg_arr (M:=Z5z.reach Tryz.prog) Tryz.underlying34 rd_34 (hval 2 34 v2 rfl rfl) h2 z2
 exact Y09 (P:=Tryz.prog) (fn:=Tryz.f5) (tb:=4) rfl (by kernel_rfl) Tryz.underlying4 laid (by kernel_rfl) hW' rfl (.cons c0 (.cons c1 (.cons c2 .nil))) (w5 (Y3s y0 (ws_T_api_ClassSpace g0) y1 y2 Y06))
theorem am {a b : Bool} (h : a = true) (g : b = true) : (a && b) = true:=by rw [h,g]; rfl
theorem k0 : Rows.constraintInvariantRow.wf (OpenSpec.ofChange Rows.constraintInvariantSpec) = true:=by kernel_rfl
theorem k1 : laidOutB Tryz.prog = true:=by kernel_rfl
theorem k2 : mapsRowed Tryz.prog = true:=by kernel_rfl
theorem k3 : Tryz.f5.params.all (Tryz.prog.readableRec ·) = true:=by kernel_rfl
theorem k4 : namedTie Tryz.prog Rows.constraintInvariantRow.named Rows.constraintInvariantSpec.vars = true:=by kernel_rfl
theorem k5 : (Rows.constraintInvariantRow.stops == []) = true:=by kernel_rfl
theorem k6 : (Tryz.prog.stops == []) = true:=by kernel_rfl
theorem k7 : (Rows.constraintInvariantRow.knobs == []) = true:=by kernel_rfl
theorem k8 : (Tryz.prog.stopKnobs == []) = true:=by kernel_rfl
theorem k9 : (Rows.constraintInvariantRow.inPlace == Tryz.prog.inPlace 5) = true:=by kernel_rfl
theorem k10 : (Rows.constraintInvariantRow.unfollowed == Tryz.prog.unfollowed 5) = true:=by kernel_rfl
theorem k11 : (Rows.constraintInvariantRow.recurses == Tryz.prog.recurses 5) = true:=by kernel_rfl
theorem k12 : (Rows.constraintInvariantRow.named == Tryz.prog.varsNamed 5) = true:=by kernel_rfl
theorem k13 : (Rows.constraintInvariantRow.maps == (Tryz.f5.params.toList ++ Rows.constraintInvariantSpec.plain.varTypes Tryz.prog).any (Tryz.prog.mapsRec ·)) = true:=by kernel_rfl
theorem k14 : (Rows.constraintInvariantRow.ifaces == (Tryz.f5.params.toList ++ Rows.constraintInvariantSpec.plain.varTypes Tryz.prog).any (Tryz.prog.ifacesRec ·)) = true:=by kernel_rfl
theorem k15 : (Rows.constraintInvariantRow.mapsOut == Tryz.prog.mapsAmong Tryz.f5.resultTypes.toList) = true:=by kernel_rfl
theorem k16 : (Rows.constraintInvariantRow.loops == (Tryz.f5.params.toList ++ Rows.constraintInvariantSpec.plain.varTypes Tryz.prog).any (Tryz.prog.loopsFrom ·)) = true:=by kernel_rfl
theorem k17 : (Rows.constraintInvariantRow.wideKeys == (Tryz.f5.params.toList ++ Rows.constraintInvariantSpec.plain.varTypes Tryz.prog ++ Tryz.f5.resultTypes.toList).any (Tryz.prog.wideKeysFrom ·)) = true:=by kernel_rfl
theorem k18 : Rows.constraintInvariantSpec.vars.all (Tryz.prog.varReadable ·) = true:=by kernel_rfl
theorem k19 : Tryz.f5.resultTypes.all (fun t=>Tryz.prog.readableRec t && decide (t < Tryz.prog.types.size)) = true:=by kernel_rfl
theorem k20 : (Rows.constraintInvariantRow.ifacesOut == Tryz.f5.resultTypes.toList.any (Tryz.prog.ifacesRec ·)) = true:=by kernel_rfl
theorem k21 : (Rows.constraintInvariantRow.loopsOut == Tryz.f5.resultTypes.toList.any (Tryz.prog.loopsFrom ·)) = true:=by kernel_rfl
theorem k22 : (Rows.constraintInvariantRow.plainKeys == Tryz.prog.plainKeys) = true:=by kernel_rfl
theorem k23 : Rows.constraintInvariantRow.shortTexts.isNone = true:=by kernel_rfl
theorem k24 : Tryz.prog.stopsHeard = true:=by kernel_rfl
theorem k25 : Tryz.prog.mayEnter = true:=by kernel_rfl
theorem k26 : (Rows.constraintInvariantRow.lifted == Tryz.prog.liftsFinal) = true:=by kernel_rfl
theorem k27 : (Tryz.prog.make == some Rows.constraintInvariantRow.make) = true:=by kernel_rfl
theorem k28 : (Rows.constraintInvariantRow.kinds == (if Rows.constraintInvariantRow.domain.isEmpty then [] else Tryz.f5.params.toList.map fun t=>match Tryz.prog.underlying t with | some (.int k)=>some k | _=>none)) = true:=by kernel_rfl
theorem k29 : (Rows.constraintInvariantRow.pinned == Rows.constraintInvariantRow.pinnedBy) = true:=by kernel_rfl
theorem k30 : (Rows.constraintInvariantRow.veiled == (Tryz.f5.params.toList ++ Rows.constraintInvariantSpec.plain.varTypes Tryz.prog ++ Tryz.f5.resultTypes.toList).any (Tryz.prog.veiledRec ·)) = true:=by kernel_rfl
theorem k31 : Rows.constraintInvariantRow.veiledFits Tryz.prog Tryz.f5.params.toList (Tryz.f5.params.toList ++ Rows.constraintInvariantSpec.plain.varTypes Tryz.prog ++ Tryz.f5.resultTypes.toList) = true:=by kernel_rfl
set_option maxRecDepth 100000 in
theorem closed : joinedFacts Tryz.prog 5 Tryz.f5 Rows.constraintInvariantSpec Rows.constraintInvariantRow = true:=(am (am (am (am (am (am (am (am (am (am (am (am (am (am (am (am (am (am (am (am (am (am (am (am (am (am (am (am (am (am (am k0 k1) k2) k3) k4) k5) k6) k7) k8) k9) k10) k11) k12) k13) k14) k15) k16) k17) k18) k19) k20) k21) k22) k23) k24) k25) k26) k27) k28) k29) k30) k31)
theorem inst : Tryz.f5.isInstance Tryz.prog Rows.constraintInvariantRow.origin Rows.constraintInvariantRow.targs:=of_decide_eq_true (by kernel_rfl)
theorem named : Tryz.prog.funcNamed Rows.constraintInvariantRow.func = some 5:=by kernel_rfl
theorem wrapped : Tryz.f5.isWrapper Tryz.prog Rows.constraintInvariantRow.wrapper Rows.constraintInvariantRow.mainSum:=by unfold Func.isWrapper; first | (rw [if_pos (by decide +kernel)]; kernel_rfl) | (rw [if_neg (by decide +kernel)]; exact ⟨rfl,rfl⟩)
theorem over : Rows.constraintInvariantRow.holds Tryz.pinned (OpenSpec.ofChange Rows.constraintInvariantSpec):=
 OpenClaim.holds_of_wide 5 Tryz.f5 rfl rfl rfl rfl rfl rfl rfl ⟨rfl,rfl,rfl,rfl,rfl⟩ rfl rfl rfl rfl rfl named Tryz.func5 closed inst wrapped
  (fun os started H enc _=>lifted os started H enc)
theorem proved : Rows.ConstraintInvariantSaid:=
 over
#print axioms proved
end Go.Proofs.YtoijcliccgjolaaGreat.constraintInvariant
