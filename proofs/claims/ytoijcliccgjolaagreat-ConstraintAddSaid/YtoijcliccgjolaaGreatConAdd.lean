/-
  The law ConstraintAdd holds for every input: the function returns true, and Z67 argument reads behind the call as it read before. No condition.
-/
import Derived.Test.YtoijcliccgjolaaGreatConX
import Derived.WalkKit
import Derived.ProofKit
import Derived.OpenShut
import Derived.ChangeMaps5
import Derived.Test.YtoijcliccgjolaaGreatDenArr
namespace Go.Proofs.YtoijcliccgjolaaGreat.constraintAdd
open Go.ChangeShapes Go.WideShapes Go.ChangeAt Go.RowKit Go.ChangeMaps Go.Den
set_option linter.unusedVariables false
theorem own : ownKnob Tryz.prog.godebug = none:=by kernel_rfl
theorem laid : laidOutB Tryz.prog = true:=by kernel_rfl
def wf_69 (y : Z5l) : Prop:=(fun s : List UInt8=>s.length ≤ reachBytes) y.Zaz ∧ ((fun n : Int=>IntKind.min .i64 ≤ n ∧ n ≤ IntKind.max .i64) y.f_To ∧ (True))
theorem rd_69 : Z2i Tryz.prog 69 Zf6 wf_69:=
 (Z40 (tot:=2) Tryz.underlying69 (by kernel_rfl) (Z1c (n:=1) (Z3o (P:=Tryz.prog) Tryz.underlying9) (by kernel_rfl) (Z1c (n:=1) (Z2l (P:=Tryz.prog) Tryz.underlying3) (by kernel_rfl) Z3w rfl) rfl)).map (fun p : (List UInt8) × (Int × Unit)=>({ Zaz:=p.1,f_To:=p.2.1 } : Z5l)) (fun _=>rfl) (fun _ h=>h)
def wf_64 (ys : List Z5l) : Prop:=(∀ y ∈ ys,wf_69 y) ∧ ys.length * Tryz.prog.bytesOf 69 ≤ reachBytes
theorem rd_64 : Z2i Tryz.prog 64 (fun ys : List Z5l=>[D.sl false (ys.map Zf6)]) wf_64:=Z4w Tryz.underlying64 (row:=Zf6) rd_69 (Nat.lt_of_lt_of_le (by decide : 0 < 1) (Nat.le_of_ble_eq_true (by kernel_rfl)))
def wf_86 (y : Z5g) : Prop:=(fun s : List UInt8=>s.length ≤ reachBytes) y.Z02 ∧ ((fun s : List UInt8=>s.length ≤ reachBytes) y.Z27 ∧ (True))
theorem rd_86 : Z2i Tryz.prog 86 Zeg wf_86:=
 (Z40 (tot:=2) Tryz.underlying86 (by kernel_rfl) (Z1c (n:=1) (Z3o (P:=Tryz.prog) Tryz.underlying9) (by kernel_rfl) (Z1c (n:=1) (Z3o (P:=Tryz.prog) Tryz.underlying9) (by kernel_rfl) Z3w rfl) rfl)).map (fun p : (List UInt8) × (List UInt8) × Unit=>({ Z02:=p.1,Z27:=p.2.1 } : Z5g)) (fun _=>rfl) (fun _ h=>h)
def wf_65 (ys : List Z5g) : Prop:=(∀ y ∈ ys,wf_86 y) ∧ ys.length * Tryz.prog.bytesOf 86 ≤ reachBytes
theorem rd_65 : Z2i Tryz.prog 65 (fun ys : List Z5g=>[D.sl false (ys.map Zeg)]) wf_65:=Z4w Tryz.underlying65 (row:=Zeg) rd_86 (Nat.lt_of_lt_of_le (by decide : 0 < 1) (Nat.le_of_ble_eq_true (by kernel_rfl)))
def wf_67 (y : Z0t) : Prop:=wf_64 y.Z31 ∧ (wf_65 y.Z2p ∧ (True))
theorem rd_67 : Z2i Tryz.prog 67 Z22 wf_67:=
 (Z40 (tot:=2) Tryz.underlying67 (by kernel_rfl) (Z1c (n:=1) rd_64 (by kernel_rfl) (Z1c (n:=1) rd_65 (by kernel_rfl) Z3w rfl) rfl)).map (fun p : (List Z5l) × (List Z5g) × Unit=>({ Z31:=p.1,Z2p:=p.2.1 } : Z0t)) (fun _=>rfl) (fun _ h=>h)
def wf_22 (ys : List Z0t) : Prop:=(∀ y ∈ ys,wf_67 y) ∧ ys.length * Tryz.prog.bytesOf 67 ≤ reachBytes
theorem rd_22 : Z2i Tryz.prog 22 (fun ys : List Z0t=>[D.sl false (ys.map Z22)]) wf_22:=Z4w Tryz.underlying22 (row:=Z22) rd_67 (Nat.lt_of_lt_of_le (by decide : 0 < 1) (Nat.le_of_ble_eq_true (by kernel_rfl)))
def wf_43 (ys : List (List UInt8)) : Prop:=(∀ y ∈ ys,(fun s : List UInt8=>s.length ≤ reachBytes) y) ∧ ys.length * Tryz.prog.bytesOf 9 ≤ reachBytes
theorem rd_43 : Z2i Tryz.prog 43 (fun ys : List (List UInt8)=>[D.sl false (ys.map Z2s)]) wf_43:=Z4w Tryz.underlying43 (row:=Z2s) (Z3o (P:=Tryz.prog) Tryz.underlying9) (Nat.lt_of_lt_of_le (by decide : 0 < 1) (Nat.le_of_ble_eq_true (by kernel_rfl)))
def wf_98 (y : Z3n) : Prop:=(fun n : Int=>IntKind.min .i64 ≤ n ∧ n ≤ IntKind.max .i64) y.Z0y ∧ ((fun s : List UInt8=>s.length ≤ reachBytes) y.Z02 ∧ ((fun s : List UInt8=>s.length ≤ reachBytes) y.Z1h ∧ ((fun n : Int=>IntKind.min .i64 ≤ n ∧ n ≤ IntKind.max .i64) y.Z5c ∧ ((fun n : Int=>IntKind.min .i64 ≤ n ∧ n ≤ IntKind.max .i64) y.f_N ∧ ((fun s : List UInt8=>s.length ≤ reachBytes) y.f_S ∧ (True))))))
theorem rd_98 : Z2i Tryz.prog 98 Z7k wf_98:=
 (Z40 (tot:=6) Tryz.underlying98 (by kernel_rfl) (Z1c (n:=1) (Z2l (P:=Tryz.prog) Tryz.underlying3) (by kernel_rfl) (Z1c (n:=1) (Z3o (P:=Tryz.prog) Tryz.underlying9) (by kernel_rfl) (Z1c (n:=1) (Z3o (P:=Tryz.prog) Tryz.underlying9) (by kernel_rfl) (Z1c (n:=1) (Z2l (P:=Tryz.prog) Tryz.underlying3) (by kernel_rfl) (Z1c (n:=1) (Z2l (P:=Tryz.prog) Tryz.underlying3) (by kernel_rfl) (Z1c (n:=1) (Z3o (P:=Tryz.prog) Tryz.underlying9) (by kernel_rfl) Z3w rfl) rfl) rfl) rfl) rfl) rfl)).map (fun p : Int × (List UInt8) × (List UInt8) × (Int × (Int × (List UInt8) × Unit))=>({ Z0y:=p.1,Z02:=p.2.1,Z1h:=p.2.2.1,Z5c:=p.2.2.2.1,f_N:=p.2.2.2.2.1,f_S:=p.2.2.2.2.2.1 } : Z3n)) (fun _=>rfl) (fun _ h=>h)
def wf_72 (ys : List Z3n) : Prop:=(∀ y ∈ ys,wf_98 y) ∧ ys.length * Tryz.prog.bytesOf 98 ≤ reachBytes
theorem rd_72 : Z2i Tryz.prog 72 (fun ys : List Z3n=>[D.sl false (ys.map Z7k)]) wf_72:=Z4w Tryz.underlying72 (row:=Z7k) rd_98 (Nat.lt_of_lt_of_le (by decide : 0 < 1) (Nat.le_of_ble_eq_true (by kernel_rfl)))
def wf_53 (ys : List Int) : Prop:=(∀ y ∈ ys,(fun n : Int=>IntKind.min .i64 ≤ n ∧ n ≤ IntKind.max .i64) y) ∧ ys.length * Tryz.prog.bytesOf 3 ≤ reachBytes
theorem rd_53 : Z2i Tryz.prog 53 (fun ys : List Int=>[D.sl false (ys.map Z03)]) wf_53:=Z4w Tryz.underlying53 (row:=Z03) (Z2l (P:=Tryz.prog) Tryz.underlying3) (Nat.lt_of_lt_of_le (by decide : 0 < 1) (Nat.le_of_ble_eq_true (by kernel_rfl)))
def wf_129 (y : Z28) : Prop:=(fun s : List UInt8=>s.length ≤ reachBytes) y.Z0o ∧ ((fun s : List UInt8=>s.length ≤ reachBytes) y.Z02 ∧ ((fun s : List UInt8=>s.length ≤ reachBytes) y.Z1h ∧ (True)))
theorem rd_129 : Z2i Tryz.prog 129 Zl7 wf_129:=
 (Z40 (tot:=3) Tryz.underlying129 (by kernel_rfl) (Z1c (n:=1) (Z3o (P:=Tryz.prog) Tryz.underlying9) (by kernel_rfl) (Z1c (n:=1) (Z3o (P:=Tryz.prog) Tryz.underlying9) (by kernel_rfl) (Z1c (n:=1) (Z3o (P:=Tryz.prog) Tryz.underlying9) (by kernel_rfl) Z3w rfl) rfl) rfl)).map (fun p : (List UInt8) × (List UInt8) × (List UInt8) × Unit=>({ Z0o:=p.1,Z02:=p.2.1,Z1h:=p.2.2.1 } : Z28)) (fun _=>rfl) (fun _ h=>h)
def wf_131 (y : Z01) : Prop:=(fun n : Int=>IntKind.min .i64 ≤ n ∧ n ≤ IntKind.max .i64) y.f_Op ∧ ((fun n : Int=>IntKind.min .i64 ≤ n ∧ n ≤ IntKind.max .i64) y.f_A ∧ ((fun n : Int=>IntKind.min .i64 ≤ n ∧ n ≤ IntKind.max .i64) y.f_B ∧ ((fun n : Int=>IntKind.min .i64 ≤ n ∧ n ≤ IntKind.max .i64) y.f_To ∧ (wf_53 y.Z0r ∧ (wf_53 y.Z0d ∧ (wf_129 y.Z15 ∧ ((fun s : List UInt8=>s.length ≤ reachBytes) y.f_S ∧ (True))))))))
theorem rd_131 : Z2i Tryz.prog 131 Z0i wf_131:=
 (Z40 (tot:=10) Tryz.underlying131 (by kernel_rfl) (Z1c (n:=1) (Z2l (P:=Tryz.prog) Tryz.underlying3) (by kernel_rfl) (Z1c (n:=1) (Z2l (P:=Tryz.prog) Tryz.underlying3) (by kernel_rfl) (Z1c (n:=1) (Z2l (P:=Tryz.prog) Tryz.underlying3) (by kernel_rfl) (Z1c (n:=1) (Z2l (P:=Tryz.prog) Tryz.underlying3) (by kernel_rfl) (Z1c (n:=1) rd_53 (by kernel_rfl) (Z1c (n:=1) rd_53 (by kernel_rfl) (Z1c (n:=3) rd_129 (by kernel_rfl) (Z1c (n:=1) (Z3o (P:=Tryz.prog) Tryz.underlying9) (by kernel_rfl) Z3w rfl) rfl) rfl) rfl) rfl) rfl) rfl) rfl)).map (fun p : Int × (Int × (Int × (Int × (List Int) × (List Int) × (Z28 × (List UInt8) × Unit))))=>({ f_Op:=p.1,f_A:=p.2.1,f_B:=p.2.2.1,f_To:=p.2.2.2.1,Z0r:=p.2.2.2.2.1,Z0d:=p.2.2.2.2.2.1,Z15:=p.2.2.2.2.2.2.1,f_S:=p.2.2.2.2.2.2.2.1 } : Z01)) (fun _=>rfl) (fun _ h=>h)
def wf_99 (ys : List Z01) : Prop:=(∀ y ∈ ys,wf_131 y) ∧ ys.length * Tryz.prog.bytesOf 131 ≤ reachBytes
theorem rd_99 : Z2i Tryz.prog 99 (fun ys : List Z01=>[D.sl false (ys.map Z0i)]) wf_99:=Z4w Tryz.underlying99 (row:=Z0i) rd_131 (Nat.lt_of_lt_of_le (by decide : 0 < 1) (Nat.le_of_ble_eq_true (by kernel_rfl)))
def wf_133 (y : Z0h) : Prop:=(fun n : Int=>IntKind.min .i64 ≤ n ∧ n ≤ IntKind.max .i64) y.Z3u ∧ ((fun n : Int=>IntKind.min .i64 ≤ n ∧ n ≤ IntKind.max .i64) y.f_To ∧ ((fun n : Int=>IntKind.min .i64 ≤ n ∧ n ≤ IntKind.max .i64) y.Z3q ∧ ((fun n : Int=>IntKind.min .i64 ≤ n ∧ n ≤ IntKind.max .i64) y.Z0o ∧ ((fun s : List UInt8=>s.length ≤ reachBytes) y.Z1k ∧ (True)))))
theorem rd_133 : Z2i Tryz.prog 133 Z14 wf_133:=
 (Z40 (tot:=5) Tryz.underlying133 (by kernel_rfl) (Z1c (n:=1) (Z2l (P:=Tryz.prog) Tryz.underlying3) (by kernel_rfl) (Z1c (n:=1) (Z2l (P:=Tryz.prog) Tryz.underlying3) (by kernel_rfl) (Z1c (n:=1) (Z2l (P:=Tryz.prog) Tryz.underlying3) (by kernel_rfl) (Z1c (n:=1) (Z2l (P:=Tryz.prog) Tryz.underlying3) (by kernel_rfl) (Z1c (n:=1) (Z3o (P:=Tryz.prog) Tryz.underlying9) (by kernel_rfl) Z3w rfl) rfl) rfl) rfl) rfl)).map (fun p : Int × (Int × (Int × (Int × (List UInt8) × Unit)))=>({ Z3u:=p.1,f_To:=p.2.1,Z3q:=p.2.2.1,Z0o:=p.2.2.2.1,Z1k:=p.2.2.2.2.1 } : Z0h)) (fun _=>rfl) (fun _ h=>h)
def wf_100 (ys : List Z0h) : Prop:=(∀ y ∈ ys,wf_133 y) ∧ ys.length * Tryz.prog.bytesOf 133 ≤ reachBytes
theorem rd_100 : Z2i Tryz.prog 100 (fun ys : List Z0h=>[D.sl false (ys.map Z14)]) wf_100:=Z4w Tryz.underlying100 (row:=Z14) rd_133 (Nat.lt_of_lt_of_le (by decide : 0 < 1) (Nat.le_of_ble_eq_true (by kernel_rfl)))
def wf_161 (y : Z0n) : Prop:=(fun n : Int=>IntKind.min .i64 ≤ n ∧ n ≤ IntKind.max .i64) y.Z1w ∧ ((fun n : Int=>IntKind.min .u8 ≤ n ∧ n ≤ IntKind.max .u8) y.Z1s ∧ ((fun s : List UInt8=>s.length ≤ reachBytes) y.Z02 ∧ (True)))
theorem rd_161 : Z2i Tryz.prog 161 Z32 wf_161:=
 (Z40 (tot:=3) Tryz.underlying161 (by kernel_rfl) (Z1c (n:=1) (Z2l (P:=Tryz.prog) Tryz.underlying3) (by kernel_rfl) (Z1c (n:=1) (Z2l (P:=Tryz.prog) Tryz.underlying5) (by kernel_rfl) (Z1c (n:=1) (Z3o (P:=Tryz.prog) Tryz.underlying9) (by kernel_rfl) Z3w rfl) rfl) rfl)).map (fun p : Int × (Int × (List UInt8) × Unit)=>({ Z1w:=p.1,Z1s:=p.2.1,Z02:=p.2.2.1 } : Z0n)) (fun _=>rfl) (fun _ h=>h)
def wf_163 (y : Z0f) : Prop:=(fun n : Int=>IntKind.min .i64 ≤ n ∧ n ≤ IntKind.max .i64) y.Z2f ∧ ((fun n : Int=>IntKind.min .i64 ≤ n ∧ n ≤ IntKind.max .i64) y.Z2v ∧ (wf_161 y.Z1k ∧ ((fun n : Int=>IntKind.min .i64 ≤ n ∧ n ≤ IntKind.max .i64) y.Z33 ∧ (True))))
theorem rd_163 : Z2i Tryz.prog 163 Z1r wf_163:=
 (Z40 (tot:=6) Tryz.underlying163 (by kernel_rfl) (Z1c (n:=1) (Z2l (P:=Tryz.prog) Tryz.underlying3) (by kernel_rfl) (Z1c (n:=1) (Z2l (P:=Tryz.prog) Tryz.underlying3) (by kernel_rfl) (Z1c (n:=3) rd_161 (by kernel_rfl) (Z1c (n:=1) (Z2l (P:=Tryz.prog) Tryz.underlying3) (by kernel_rfl) Z3w rfl) rfl) rfl) rfl)).map (fun p : Int × (Int × (Z0n × (Int × Unit)))=>({ Z2f:=p.1,Z2v:=p.2.1,Z1k:=p.2.2.1,Z33:=p.2.2.2.1 } : Z0f)) (fun _=>rfl) (fun _ h=>h)
def wf_137 (ys : List Z0f) : Prop:=(∀ y ∈ ys,wf_163 y) ∧ ys.length * Tryz.prog.bytesOf 163 ≤ reachBytes
theorem rd_137 : Z2i Tryz.prog 137 (fun ys : List Z0f=>[D.sl false (ys.map Z1r)]) wf_137:=Z4w Tryz.underlying137 (row:=Z1r) rd_163 (Nat.lt_of_lt_of_le (by decide : 0 < 1) (Nat.le_of_ble_eq_true (by kernel_rfl)))
def wf_139 (y : Z4h) : Prop:=wf_137 y.Z0q ∧ (wf_137 y.Z0s ∧ ((fun _ : Bool=>True) y.Z3z ∧ (True)))
theorem rd_139 : Z2i Tryz.prog 139 Zgy wf_139:=
 (Z40 (tot:=3) Tryz.underlying139 (by kernel_rfl) (Z1c (n:=1) rd_137 (by kernel_rfl) (Z1c (n:=1) rd_137 (by kernel_rfl) (Z1c (n:=1) (Zu2 (P:=Tryz.prog) Tryz.underlying4) (by kernel_rfl) Z3w rfl) rfl) rfl)).map (fun p : (List Z0f) × (List Z0f) × (Bool × Unit)=>({ Z0q:=p.1,Z0s:=p.2.1,Z3z:=p.2.2.1 } : Z4h)) (fun _=>rfl) (fun _ h=>h)
def wf_141 (y : Z0j) : Prop:=(fun n : Int=>IntKind.min .i64 ≤ n ∧ n ≤ IntKind.max .i64) y.Z2b ∧ (wf_139 y.Z1p ∧ (True))
theorem rd_141 : Z2i Tryz.prog 141 Z19 wf_141:=
 (Z40 (tot:=4) Tryz.underlying141 (by kernel_rfl) (Z1c (n:=1) (Z2l (P:=Tryz.prog) Tryz.underlying3) (by kernel_rfl) (Z1c (n:=3) rd_139 (by kernel_rfl) Z3w rfl) rfl)).map (fun p : Int × (Z4h × Unit)=>({ Z2b:=p.1,Z1p:=p.2.1 } : Z0j)) (fun _=>rfl) (fun _ h=>h)
def wf_101 (ys : List Z0j) : Prop:=(∀ y ∈ ys,wf_141 y) ∧ ys.length * Tryz.prog.bytesOf 141 ≤ reachBytes
theorem rd_101 : Z2i Tryz.prog 101 (fun ys : List Z0j=>[D.sl false (ys.map Z19)]) wf_101:=Z4w Tryz.underlying101 (row:=Z19) rd_141 (Nat.lt_of_lt_of_le (by decide : 0 < 1) (Nat.le_of_ble_eq_true (by kernel_rfl)))
def wf_135 (y : Z0v) : Prop:=(fun n : Int=>IntKind.min .i64 ≤ n ∧ n ≤ IntKind.max .i64) y.Z2b ∧ ((fun n : Int=>IntKind.min .i64 ≤ n ∧ n ≤ IntKind.max .i64) y.Z4s ∧ (True))
theorem rd_135 : Z2i Tryz.prog 135 Z1n wf_135:=
 (Z40 (tot:=2) Tryz.underlying135 (by kernel_rfl) (Z1c (n:=1) (Z2l (P:=Tryz.prog) Tryz.underlying3) (by kernel_rfl) (Z1c (n:=1) (Z2l (P:=Tryz.prog) Tryz.underlying3) (by kernel_rfl) Z3w rfl) rfl)).map (fun p : Int × (Int × Unit)=>({ Z2b:=p.1,Z4s:=p.2.1 } : Z0v)) (fun _=>rfl) (fun _ h=>h)
def wf_102 (ys : List Z0v) : Prop:=(∀ y ∈ ys,wf_135 y) ∧ ys.length * Tryz.prog.bytesOf 135 ≤ reachBytes
theorem rd_102 : Z2i Tryz.prog 102 (fun ys : List Z0v=>[D.sl false (ys.map Z1n)]) wf_102:=Z4w Tryz.underlying102 (row:=Z1n) rd_135 (Nat.lt_of_lt_of_le (by decide : 0 < 1) (Nat.le_of_ble_eq_true (by kernel_rfl)))
def wf_104 (y : Z07) : Prop:=(fun n : Int=>IntKind.min .i64 ≤ n ∧ n ≤ IntKind.max .i64) y.Z0s ∧ ((fun n : Int=>IntKind.min .i64 ≤ n ∧ n ≤ IntKind.max .i64) y.Z0q ∧ (wf_99 y.Z0k ∧ (wf_100 y.Z1d ∧ (wf_101 y.Z16 ∧ (wf_102 y.Z1b ∧ (True))))))
theorem rd_104 : Z2i Tryz.prog 104 Z0z wf_104:=
 (Z40 (tot:=6) Tryz.underlying104 (by kernel_rfl) (Z1c (n:=1) (Z2l (P:=Tryz.prog) Tryz.underlying3) (by kernel_rfl) (Z1c (n:=1) (Z2l (P:=Tryz.prog) Tryz.underlying3) (by kernel_rfl) (Z1c (n:=1) rd_99 (by kernel_rfl) (Z1c (n:=1) rd_100 (by kernel_rfl) (Z1c (n:=1) rd_101 (by kernel_rfl) (Z1c (n:=1) rd_102 (by kernel_rfl) Z3w rfl) rfl) rfl) rfl) rfl) rfl)).map (fun p : Int × (Int × (List Z01) × (List Z0h) × (List Z0j) × (List Z0v) × Unit)=>({ Z0s:=p.1,Z0q:=p.2.1,Z0k:=p.2.2.1,Z1d:=p.2.2.2.1,Z16:=p.2.2.2.2.1,Z1b:=p.2.2.2.2.2.1 } : Z07)) (fun _=>rfl) (fun _ h=>h)
def wf_106 (y : Z2m) : Prop:=(fun n : Int=>IntKind.min .i64 ≤ n ∧ n ≤ IntKind.max .i64) y.Z0y ∧ ((fun s : List UInt8=>s.length ≤ reachBytes) y.Z02 ∧ ((fun s : List UInt8=>s.length ≤ reachBytes) y.Z1h ∧ ((fun _ : Bool=>True) y.Z7w ∧ (wf_104 y.Z2j ∧ (wf_43 y.Z5b ∧ (True))))))
theorem rd_106 : Z2i Tryz.prog 106 Z6q wf_106:=
 (Z40 (tot:=11) Tryz.underlying106 (by kernel_rfl) (Z1c (n:=1) (Z2l (P:=Tryz.prog) Tryz.underlying3) (by kernel_rfl) (Z1c (n:=1) (Z3o (P:=Tryz.prog) Tryz.underlying9) (by kernel_rfl) (Z1c (n:=1) (Z3o (P:=Tryz.prog) Tryz.underlying9) (by kernel_rfl) (Z1c (n:=1) (Zu2 (P:=Tryz.prog) Tryz.underlying4) (by kernel_rfl) (Z1c (n:=6) rd_104 (by kernel_rfl) (Z1c (n:=1) rd_43 (by kernel_rfl) Z3w rfl) rfl) rfl) rfl) rfl) rfl)).map (fun p : Int × (List UInt8) × (List UInt8) × (Bool × (Z07 × (List (List UInt8)) × Unit))=>({ Z0y:=p.1,Z02:=p.2.1,Z1h:=p.2.2.1,Z7w:=p.2.2.2.1,Z2j:=p.2.2.2.2.1,Z5b:=p.2.2.2.2.2.1 } : Z2m)) (fun _=>rfl) (fun _ h=>h)
def wf_73 (ys : List Z2m) : Prop:=(∀ y ∈ ys,wf_106 y) ∧ ys.length * Tryz.prog.bytesOf 106 ≤ reachBytes
theorem rd_73 : Z2i Tryz.prog 73 (fun ys : List Z2m=>[D.sl false (ys.map Z6q)]) wf_73:=Z4w Tryz.underlying73 (row:=Z6q) rd_106 (Nat.lt_of_lt_of_le (by decide : 0 < 1) (Nat.le_of_ble_eq_true (by kernel_rfl)))
def wf_75 (y : Z10) : Prop:=(fun n : Int=>IntKind.min .i64 ≤ n ∧ n ≤ IntKind.max .i64) y.Z0y ∧ ((fun s : List UInt8=>s.length ≤ reachBytes) y.Z02 ∧ ((fun s : List UInt8=>s.length ≤ reachBytes) y.Z1q ∧ (wf_43 y.Z11 ∧ (wf_72 y.Z1a ∧ (wf_73 y.Z17 ∧ ((fun s : List UInt8=>s.length ≤ reachBytes) y.Z5t ∧ (True)))))))
theorem rd_75 : Z2i Tryz.prog 75 Z25 wf_75:=
 (Z40 (tot:=7) Tryz.underlying75 (by kernel_rfl) (Z1c (n:=1) (Z2l (P:=Tryz.prog) Tryz.underlying3) (by kernel_rfl) (Z1c (n:=1) (Z3o (P:=Tryz.prog) Tryz.underlying9) (by kernel_rfl) (Z1c (n:=1) (Z3o (P:=Tryz.prog) Tryz.underlying9) (by kernel_rfl) (Z1c (n:=1) rd_43 (by kernel_rfl) (Z1c (n:=1) rd_72 (by kernel_rfl) (Z1c (n:=1) rd_73 (by kernel_rfl) (Z1c (n:=1) (Z3o (P:=Tryz.prog) Tryz.underlying9) (by kernel_rfl) Z3w rfl) rfl) rfl) rfl) rfl) rfl) rfl)).map (fun p : Int × (List UInt8) × (List UInt8) × (List (List UInt8)) × (List Z3n) × (List Z2m) × (List UInt8) × Unit=>({ Z0y:=p.1,Z02:=p.2.1,Z1q:=p.2.2.1,Z11:=p.2.2.2.1,Z1a:=p.2.2.2.2.1,Z17:=p.2.2.2.2.2.1,Z5t:=p.2.2.2.2.2.2.1 } : Z10)) (fun _=>rfl) (fun _ h=>h)
def wf_77 (y : Z1m) : Prop:=(fun n : Int=>IntKind.min .i64 ≤ n ∧ n ≤ IntKind.max .i64) y.Z1f ∧ (wf_75 y.Z2n ∧ ((fun n : Int=>IntKind.min .i64 ≤ n ∧ n ≤ IntKind.max .i64) y.Z1q ∧ (wf_53 y.Z11 ∧ ((fun n : Int=>IntKind.min .i64 ≤ n ∧ n ≤ IntKind.max .i64) y.Z6s ∧ ((fun n : Int=>IntKind.min .i64 ≤ n ∧ n ≤ IntKind.max .i64) y.Z92 ∧ (True))))))
theorem rd_77 : Z2i Tryz.prog 77 Z2d wf_77:=
 (Z40 (tot:=12) Tryz.underlying77 (by kernel_rfl) (Z1c (n:=1) (Z2l (P:=Tryz.prog) Tryz.underlying3) (by kernel_rfl) (Z1c (n:=7) rd_75 (by kernel_rfl) (Z1c (n:=1) (Z2l (P:=Tryz.prog) Tryz.underlying3) (by kernel_rfl) (Z1c (n:=1) rd_53 (by kernel_rfl) (Z1c (n:=1) (Z2l (P:=Tryz.prog) Tryz.underlying3) (by kernel_rfl) (Z1c (n:=1) (Z2l (P:=Tryz.prog) Tryz.underlying35) (by kernel_rfl) Z3w rfl) rfl) rfl) rfl) rfl) rfl)).map (fun p : Int × (Z10 × (Int × (List Int) × (Int × (Int × Unit))))=>({ Z1f:=p.1,Z2n:=p.2.1,Z1q:=p.2.2.1,Z11:=p.2.2.2.1,Z6s:=p.2.2.2.2.1,Z92:=p.2.2.2.2.2.1 } : Z1m)) (fun _=>rfl) (fun _ h=>h)
def wf_23 (ys : List Z1m) : Prop:=(∀ y ∈ ys,wf_77 y) ∧ ys.length * Tryz.prog.bytesOf 77 ≤ reachBytes
theorem rd_23 : Z2i Tryz.prog 23 (fun ys : List Z1m=>[D.sl false (ys.map Z2d)]) wf_23:=Z4w Tryz.underlying23 (row:=Z2d) rd_77 (Nat.lt_of_lt_of_le (by decide : 0 < 1) (Nat.le_of_ble_eq_true (by kernel_rfl)))
def wf_58 (y : Z1o) : Prop:=(fun n : Int=>IntKind.min .i64 ≤ n ∧ n ≤ IntKind.max .i64) y.Z1f ∧ ((fun s : List UInt8=>s.length ≤ reachBytes) y.Z02 ∧ ((fun n : Int=>IntKind.min .i64 ≤ n ∧ n ≤ IntKind.max .i64) y.Z0o ∧ (True)))
theorem rd_58 : Z2i Tryz.prog 58 Z2z wf_58:=
 (Z40 (tot:=3) Tryz.underlying58 (by kernel_rfl) (Z1c (n:=1) (Z2l (P:=Tryz.prog) Tryz.underlying3) (by kernel_rfl) (Z1c (n:=1) (Z3o (P:=Tryz.prog) Tryz.underlying9) (by kernel_rfl) (Z1c (n:=1) (Z2l (P:=Tryz.prog) Tryz.underlying3) (by kernel_rfl) Z3w rfl) rfl) rfl)).map (fun p : Int × (List UInt8) × (Int × Unit)=>({ Z1f:=p.1,Z02:=p.2.1,Z0o:=p.2.2.1 } : Z1o)) (fun _=>rfl) (fun _ h=>h)
def wf_24 (ys : List Z1o) : Prop:=(∀ y ∈ ys,wf_58 y) ∧ ys.length * Tryz.prog.bytesOf 58 ≤ reachBytes
theorem rd_24 : Z2i Tryz.prog 24 (fun ys : List Z1o=>[D.sl false (ys.map Z2z)]) wf_24:=Z4w Tryz.underlying24 (row:=Z2z) rd_58 (Nat.lt_of_lt_of_le (by decide : 0 < 1) (Nat.le_of_ble_eq_true (by kernel_rfl)))
def wf_48 (y : Z0x) : Prop:=(fun s : List UInt8=>s.length ≤ reachBytes) y.Z02 ∧ ((fun n : Int=>IntKind.min .i64 ≤ n ∧ n ≤ IntKind.max .i64) y.f_A ∧ ((fun n : Int=>IntKind.min .i64 ≤ n ∧ n ≤ IntKind.max .i64) y.f_B ∧ (True)))
theorem rd_48 : Z2i Tryz.prog 48 Z2r wf_48:=
 (Z40 (tot:=3) Tryz.underlying48 (by kernel_rfl) (Z1c (n:=1) (Z3o (P:=Tryz.prog) Tryz.underlying9) (by kernel_rfl) (Z1c (n:=1) (Z2l (P:=Tryz.prog) Tryz.underlying3) (by kernel_rfl) (Z1c (n:=1) (Z2l (P:=Tryz.prog) Tryz.underlying3) (by kernel_rfl) Z3w rfl) rfl) rfl)).map (fun p : (List UInt8) × (Int × (Int × Unit))=>({ Z02:=p.1,f_A:=p.2.1,f_B:=p.2.2.1 } : Z0x)) (fun _=>rfl) (fun _ h=>h)
def wf_25 (ys : List Z0x) : Prop:=(∀ y ∈ ys,wf_48 y) ∧ ys.length * Tryz.prog.bytesOf 48 ≤ reachBytes
theorem rd_25 : Z2i Tryz.prog 25 (fun ys : List Z0x=>[D.sl false (ys.map Z2r)]) wf_25:=Z4w Tryz.underlying25 (row:=Z2r) rd_48 (Nat.lt_of_lt_of_le (by decide : 0 < 1) (Nat.le_of_ble_eq_true (by kernel_rfl)))
def wf_27 (y : Z04) : Prop:=wf_22 y.Z0w ∧ (wf_23 y.Z1x ∧ (wf_24 y.Z0l ∧ (wf_25 y.Z0g ∧ (True))))
theorem rd_27 : Z2i Tryz.prog 27 Z18 wf_27:=
 (Z40 (tot:=4) Tryz.underlying27 (by kernel_rfl) (Z1c (n:=1) rd_22 (by kernel_rfl) (Z1c (n:=1) rd_23 (by kernel_rfl) (Z1c (n:=1) rd_24 (by kernel_rfl) (Z1c (n:=1) rd_25 (by kernel_rfl) Z3w rfl) rfl) rfl) rfl)).map (fun p : (List Z0t) × (List Z1m) × (List Z1o) × (List Z0x) × Unit=>({ Z0w:=p.1,Z1x:=p.2.1,Z0l:=p.2.2.1,Z0g:=p.2.2.2.1 } : Z04)) (fun _=>rfl) (fun _ h=>h)
def wf_34 (y : Z1l) : Prop:=(fun n : Int=>IntKind.min .i64 ≤ n ∧ n ≤ IntKind.max .i64) y.a0 ∧ ((fun n : Int=>IntKind.min .i64 ≤ n ∧ n ≤ IntKind.max .i64) y.a1 ∧ (True))
theorem rd_34 : Z2i Tryz.prog 34 Z2e wf_34:=
 (Y2r (tot:=2) [arF 3 0,arF 3 1] Tryz.underlying34 (by kernel_rfl) (by kernel_rfl) (Z1c (n:=1) (Z2l (P:=Tryz.prog) Tryz.underlying3) (by kernel_rfl) (Z1c (n:=1) (Z2l (P:=Tryz.prog) Tryz.underlying3) (by kernel_rfl) Z3w rfl) rfl)).map (fun p : Int × (Int × Unit)=>({ a0:=p.1,a1:=p.2.1 } : Z1l)) (fun _=>rfl) (fun _ h=>h)
theorem rlS {n : Nat} (h : n ≤ reachBytes) : n ≤ 4503599627370496:=Nat.le_trans h (by decide)
theorem rlB {n b k : Nat} (e : b = k) (h : n * b ≤ reachBytes) : n * k ≤ 140737488355328:=by have:=Zry h; rw [e] at this; omega
theorem rlN {n b : Nat} (e : 1 ≤ b) (h : n * b ≤ reachBytes) : n ≤ 140737488355328:=Nat.le_trans (Nat.le_trans (Nat.le_of_eq (Nat.mul_one n).symm) (Nat.mul_le_mul_left n e)) (by have:=Zry h; omega)
theorem ws_T_api_Ref {y : Z28} (h : wf_129 y) : WRef y:=⟨rlS h.1,rlS h.2.1,rlS h.2.2.1⟩
theorem ws_T_api_Insn {y : Z01} (h : wf_131 y) : Z2t y:=⟨rlB (by kernel_rfl) h.2.2.2.2.1.2,rlB (by kernel_rfl) h.2.2.2.2.2.1.2,ws_T_api_Ref h.2.2.2.2.2.2.1,rlS h.2.2.2.2.2.2.2.1⟩
theorem ws_T_api_Frame {y : Z4h} (h : wf_139 y) : Z7c y:=⟨fun v hv=>rlS (h.1.1 v hv).2.2.1.2.2.1,rlB (by kernel_rfl) h.1.2,fun v hv=>rlS (h.2.1.1 v hv).2.2.1.2.2.1,rlB (by kernel_rfl) h.2.1.2⟩
theorem ws_T_api_Code {y : Z07} (h : wf_104 y) : Z4n y:=⟨fun v hv=>ws_T_api_Insn (h.2.2.1.1 v hv),rlB (by kernel_rfl) h.2.2.1.2,fun v hv=>rlS (h.2.2.2.1.1 v hv).2.2.2.2.1,rlB (by kernel_rfl) h.2.2.2.1.2,fun v hv=>ws_T_api_Frame (h.2.2.2.2.1.1 v hv).2.1,rlB (by kernel_rfl) h.2.2.2.2.1.2,rlB (by kernel_rfl) h.2.2.2.2.2.1.2⟩
theorem ws_T_api_Method {y : Z2m} (h : wf_106 y) : Z9k y:=⟨rlS h.2.1,rlS h.2.2.1,ws_T_api_Code h.2.2.2.2.1,fun v hv=>rlS (h.2.2.2.2.2.1.1 v hv),rlB (by kernel_rfl) h.2.2.2.2.2.1.2⟩
theorem ws_T_api_Field {y : Z3n} (h : wf_98 y) : Zot y:=⟨rlS h.2.1,rlS h.2.2.1,rlS h.2.2.2.2.2.1⟩
theorem ws_T_api_ClassModel {y : Z10} (h : wf_75 y) : Z4t y:=⟨rlS h.2.1,rlS h.2.2.1,fun v hv=>rlS (h.2.2.2.1.1 v hv),rlB (by kernel_rfl) h.2.2.2.1.2,fun v hv=>ws_T_api_Field (h.2.2.2.2.1.1 v hv),rlB (by kernel_rfl) h.2.2.2.2.1.2,fun v hv=>ws_T_api_Method (h.2.2.2.2.2.1.1 v hv),rlB (by kernel_rfl) h.2.2.2.2.2.1.2,rlS h.2.2.2.2.2.2.1⟩
theorem ws_T_api_Loader {y : Z0t} (h : wf_67 y) : Z6m y:=⟨fun v hv=>rlS (h.1.1 v hv).1,rlN (Nat.le_of_ble_eq_true (by kernel_rfl)) h.1.2,fun v hv=>rlS (h.2.1.1 v hv).1,rlN (Nat.le_of_ble_eq_true (by kernel_rfl)) h.2.1.2⟩
theorem ws_T_api_ClassSpace {y : Z04} (h : wf_27 y) : Z30 y:=⟨fun v hv=>ws_T_api_Loader (h.1.1 v hv),rlN (Nat.le_of_ble_eq_true (by kernel_rfl)) h.1.2,fun v hv=>⟨ws_T_api_ClassModel (h.2.1.1 v hv).2.1,rlN (Nat.le_of_ble_eq_true (by kernel_rfl)) (h.2.1.1 v hv).2.2.2.1.2⟩,rlN (Nat.le_of_ble_eq_true (by kernel_rfl)) h.2.1.2,fun v hv=>rlS (h.2.2.1.1 v hv).2.1,rlN (Nat.le_of_ble_eq_true (by kernel_rfl)) h.2.2.1.2,fun v hv=>rlS (h.2.2.2.1.1 v hv).1,rlN (Nat.le_of_ble_eq_true (by kernel_rfl)) h.2.2.2.1.2⟩
set_option maxRecDepth 100000 in
theorem lifted (os : Os) (started : os.Started) (H : Type) (enc : TypeId × Value → H) :
  ReturnsInHanded {} Tryz.checked os 7 .any (Rows.constraintAddSpec.pre6 enc Tryz.prog Tryz.f7 Rows.constraintAddRow.domain false) (Rows.constraintAddSpec.post enc Tryz.prog Tryz.f7 false true false false):=by
 refine returnsInHanded_of_change_sized (C:=Tryz.checked) own started (by kernel_rfl) Tryz.func7
  (ChangeSpec.witness6 (enc:=enc) (C:=Tryz.checked) false ⟨#[],#[.agg #[.slice none 0 0,.slice none 0 0,.slice none 0 0,.slice none 0 0],.slice none 0 0,.agg #[.int .i64 0,.int .i64 0]],[]⟩ 8 (by kernel_rfl) (by kernel_rfl) (by kernel_rfl) (by kernel_rfl)) ?_
 intro W base args ds gs before hval0 hW hcnd hsz _
 have hval : ∀ (j : Nat) t v,Tryz.f7.params[j]? = some t → args[j]? = some v → Value.okWide Tryz.prog W .any base t v:=hval0
 have hW':=hW
 obtain ⟨p,q,hA0,hV,rfl,hfz,hnd⟩:=hW
 have hA : DataW.TrodAll enc Tryz.prog W 0 (fun _=>true) true Tryz.f7.params.toList args.toList ds p:=hA0
 rw [Tryz.params7] at hA hval
 obtain ⟨v0,vs0,d0,ds0,p0,q0,hargs,rfl,rfl,h0,r0⟩:=trodAll_cons hA
 obtain ⟨v1,vs1,d1,ds1,p1,q1,rfl,rfl,rfl,h1,r1⟩:=trodAll_cons r0
 obtain ⟨v2,vs2,d2,ds2,p2,q2,rfl,rfl,rfl,h2,r2⟩:=trodAll_cons r1
 obtain ⟨rfl,rfl,rfl⟩:=trodAll_nil r2
 obtain rfl : args = #[v0,v1,v2] :=by cases args; simp_all
 obtain ⟨rfl,rfl⟩:=trodVars_none hV
 have hsz2 : (DataW.weightsEach Tryz.prog (Tryz.f7.params.toList ++ []) ([d0,d1,d2] ++ [])).all (· ≤ reachBytes) = true:=hsz
 rw [Tryz.params7] at hsz2
 simp only [List.append_nil,DataW.weightsEach,List.all_append,Bool.and_eq_true] at hsz2
 obtain ⟨z0,z1,z2⟩:=hsz2
 obtain ⟨y0,c0,g0⟩:=arg_agg (M:=Z61.reach Tryz.prog) Tryz.underlying27 rd_27 (hval 0 27 v0 rfl rfl) h0 z0
 obtain ⟨_,_,_,rfl⟩:=okWide_slice Tryz.underlying43 (hval 1 43 v1 rfl rfl)
 obtain ⟨y1,c1,g1⟩:=arg_one (M:=Z61.reach Tryz.prog) (f:=(fun ys : List (List UInt8)=>D.sl false (ys.map Z2s))) rd_43 rfl h1 z1
 obtain ⟨y2,c2,g2⟩:=arg_arr (M:=Z61.reach Tryz.prog) Tryz.underlying34 rd_34 (hval 2 34 v2 rfl rfl) h2 z2
 exact Y25 (P:=Tryz.prog) (fn:=Tryz.f7) (tb:=4) rfl (by kernel_rfl) Tryz.underlying4 laid (by kernel_rfl) hW' rfl (.cons c0 (.cons c1 (.cons c2 .nil))) (w7 (Y2h y0 (ws_T_api_ClassSpace g0) y1 y2 (fun s hs=>rlS (g1.1 s hs)) Y1k))
theorem am {a b : Bool} (h : a = true) (g : b = true) : (a && b) = true:=by rw [h,g]; rfl
theorem k0 : Rows.constraintAddRow.wf (OpenSpec.ofChange Rows.constraintAddSpec) = true:=by kernel_rfl
theorem k1 : laidOutB Tryz.prog = true:=by kernel_rfl
theorem k2 : mapsRowed Tryz.prog = true:=by kernel_rfl
theorem k3 : Tryz.f7.params.all (Tryz.prog.readableRec ·) = true:=by kernel_rfl
theorem k4 : namedTie Tryz.prog Rows.constraintAddRow.named Rows.constraintAddSpec.vars = true:=by kernel_rfl
theorem k5 : (Rows.constraintAddRow.stops == []) = true:=by kernel_rfl
theorem k6 : (Tryz.prog.stops == []) = true:=by kernel_rfl
theorem k7 : (Rows.constraintAddRow.knobs == []) = true:=by kernel_rfl
theorem k8 : (Tryz.prog.stopKnobs == []) = true:=by kernel_rfl
theorem k9 : (Rows.constraintAddRow.inPlace == Tryz.prog.inPlace 7) = true:=by kernel_rfl
theorem k10 : (Rows.constraintAddRow.unfollowed == Tryz.prog.unfollowed 7) = true:=by kernel_rfl
theorem k11 : (Rows.constraintAddRow.recurses == Tryz.prog.recurses 7) = true:=by kernel_rfl
theorem k12 : (Rows.constraintAddRow.named == Tryz.prog.varsNamed 7) = true:=by kernel_rfl
theorem k13 : (Rows.constraintAddRow.maps == (Tryz.f7.params.toList ++ Rows.constraintAddSpec.plain.varTypes Tryz.prog).any (Tryz.prog.mapsRec ·)) = true:=by kernel_rfl
theorem k14 : (Rows.constraintAddRow.ifaces == (Tryz.f7.params.toList ++ Rows.constraintAddSpec.plain.varTypes Tryz.prog).any (Tryz.prog.ifacesRec ·)) = true:=by kernel_rfl
theorem k15 : (Rows.constraintAddRow.mapsOut == Tryz.prog.mapsAmong Tryz.f7.resultTypes.toList) = true:=by kernel_rfl
theorem k16 : (Rows.constraintAddRow.loops == (Tryz.f7.params.toList ++ Rows.constraintAddSpec.plain.varTypes Tryz.prog).any (Tryz.prog.loopsFrom ·)) = true:=by kernel_rfl
theorem k17 : (Rows.constraintAddRow.wideKeys == (Tryz.f7.params.toList ++ Rows.constraintAddSpec.plain.varTypes Tryz.prog ++ Tryz.f7.resultTypes.toList).any (Tryz.prog.wideKeysFrom ·)) = true:=by kernel_rfl
theorem k18 : Rows.constraintAddSpec.vars.all (Tryz.prog.varReadable ·) = true:=by kernel_rfl
theorem k19 : Tryz.f7.resultTypes.all (fun t=>Tryz.prog.readableRec t && decide (t < Tryz.prog.types.size)) = true:=by kernel_rfl
theorem k20 : (Rows.constraintAddRow.ifacesOut == Tryz.f7.resultTypes.toList.any (Tryz.prog.ifacesRec ·)) = true:=by kernel_rfl
theorem k21 : (Rows.constraintAddRow.loopsOut == Tryz.f7.resultTypes.toList.any (Tryz.prog.loopsFrom ·)) = true:=by kernel_rfl
theorem k22 : (Rows.constraintAddRow.plainKeys == Tryz.prog.plainKeys) = true:=by kernel_rfl
theorem k23 : Rows.constraintAddRow.shortTexts.isNone = true:=by kernel_rfl
theorem k24 : Tryz.prog.stopsHeard = true:=by kernel_rfl
theorem k25 : Tryz.prog.mayEnter = true:=by kernel_rfl
theorem k26 : (Rows.constraintAddRow.lifted == Tryz.prog.liftsFinal) = true:=by kernel_rfl
theorem k27 : (Tryz.prog.make == some Rows.constraintAddRow.make) = true:=by kernel_rfl
theorem k28 : (Rows.constraintAddRow.kinds == (if Rows.constraintAddRow.domain.isEmpty then [] else Tryz.f7.params.toList.map fun t=>match Tryz.prog.underlying t with | some (.int k)=>some k | _=>none)) = true:=by kernel_rfl
theorem k29 : (Rows.constraintAddRow.pinned == Rows.constraintAddRow.pinnedBy) = true:=by kernel_rfl
theorem k30 : (Rows.constraintAddRow.veiled == (Tryz.f7.params.toList ++ Rows.constraintAddSpec.plain.varTypes Tryz.prog ++ Tryz.f7.resultTypes.toList).any (Tryz.prog.veiledRec ·)) = true:=by kernel_rfl
theorem k31 : Rows.constraintAddRow.veiledFits Tryz.prog Tryz.f7.params.toList (Tryz.f7.params.toList ++ Rows.constraintAddSpec.plain.varTypes Tryz.prog ++ Tryz.f7.resultTypes.toList) = true:=by kernel_rfl
set_option maxRecDepth 100000 in
theorem closed : joinedFacts Tryz.prog 7 Tryz.f7 Rows.constraintAddSpec Rows.constraintAddRow = true:=(am (am (am (am (am (am (am (am (am (am (am (am (am (am (am (am (am (am (am (am (am (am (am (am (am (am (am (am (am (am (am k0 k1) k2) k3) k4) k5) k6) k7) k8) k9) k10) k11) k12) k13) k14) k15) k16) k17) k18) k19) k20) k21) k22) k23) k24) k25) k26) k27) k28) k29) k30) k31)
theorem inst : Tryz.f7.isInstance Tryz.prog Rows.constraintAddRow.origin Rows.constraintAddRow.targs:=of_decide_eq_true (by kernel_rfl)
theorem named : Tryz.prog.funcNamed Rows.constraintAddRow.func = some 7:=by kernel_rfl
theorem wrapped : Tryz.f7.isWrapper Tryz.prog Rows.constraintAddRow.wrapper Rows.constraintAddRow.mainSum:=by unfold Func.isWrapper; first | (rw [if_pos (by decide +kernel)]; kernel_rfl) | (rw [if_neg (by decide +kernel)]; exact ⟨rfl,rfl⟩)
theorem over : Rows.constraintAddRow.holds Tryz.pinned (OpenSpec.ofChange Rows.constraintAddSpec):=
 OpenClaim.holds_of_wide 7 Tryz.f7 rfl rfl rfl rfl rfl rfl rfl ⟨rfl,rfl,rfl,rfl,rfl⟩ rfl rfl rfl rfl rfl named Tryz.func7 closed inst wrapped
  (fun os started H enc _=>lifted os started H enc)
theorem proved : Rows.ConstraintAddSaid:=
 over
#print axioms proved
end Go.Proofs.YtoijcliccgjolaaGreat.constraintAdd
