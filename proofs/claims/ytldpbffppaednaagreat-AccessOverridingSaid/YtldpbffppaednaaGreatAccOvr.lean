/-
  The law AccessOverriding holds for every input: the function returns true, and Z5v argument reads behind the call as it read before. No condition.
-/
import Derived.Test.YtldpbffppaednaaGreatAccL3
import Derived.WalkKit
import Derived.ProofKit
import Derived.OpenShut
import Derived.ChangeMaps5
namespace Go.Proofs.YtldpbffppaednaaGreat.accessOverriding
open Go.ChangeShapes Go.WideShapes Go.ChangeAt Go.RowKit Go.ChangeMaps Go.Den
set_option linter.unusedVariables false
theorem own : ownKnob Tryz.prog.godebug = none:=by kernel_rfl
theorem laid : laidOutB Tryz.prog = true:=by kernel_rfl
def wf_53 (y : Z4k) : Prop:=(fun s : List UInt8=>s.length ≤ reachBytes) y.Zgk ∧ ((fun n : Int=>IntKind.min .i64 ≤ n ∧ n ≤ IntKind.max .i64) y.f_To ∧ (True))
theorem rd_53 : Z2k Tryz.prog 53 Zcm wf_53:=
 (Z3u (tot:=2) Tryz.underlying53 (by kernel_rfl) (Z1b (n:=1) (Z3k (P:=Tryz.prog) Tryz.underlying9) (by kernel_rfl) (Z1b (n:=1) (Z2h (P:=Tryz.prog) Tryz.underlying3) (by kernel_rfl) Z3t rfl) rfl)).map (fun p : (List UInt8) × (Int × Unit)=>({ Zgk:=p.1,f_To:=p.2.1 } : Z4k)) (fun _=>rfl) (fun _ h=>h)
def wf_48 (ys : List Z4k) : Prop:=(∀ y ∈ ys,wf_53 y) ∧ ys.length * Tryz.prog.bytesOf 53 ≤ reachBytes
theorem rd_48 : Z2k Tryz.prog 48 (fun ys : List Z4k=>[D.sl false (ys.map Zcm)]) wf_48:=Z4w Tryz.underlying48 (row:=Zcm) rd_53 (Nat.lt_of_lt_of_le (by decide : 0 < 1) (Nat.le_of_ble_eq_true (by kernel_rfl)))
def wf_66 (y : Z4i) : Prop:=(fun s : List UInt8=>s.length ≤ reachBytes) y.Z02 ∧ ((fun s : List UInt8=>s.length ≤ reachBytes) y.Z2a ∧ (True))
theorem rd_66 : Z2k Tryz.prog 66 Zce wf_66:=
 (Z3u (tot:=2) Tryz.underlying66 (by kernel_rfl) (Z1b (n:=1) (Z3k (P:=Tryz.prog) Tryz.underlying9) (by kernel_rfl) (Z1b (n:=1) (Z3k (P:=Tryz.prog) Tryz.underlying9) (by kernel_rfl) Z3t rfl) rfl)).map (fun p : (List UInt8) × (List UInt8) × Unit=>({ Z02:=p.1,Z2a:=p.2.1 } : Z4i)) (fun _=>rfl) (fun _ h=>h)
def wf_49 (ys : List Z4i) : Prop:=(∀ y ∈ ys,wf_66 y) ∧ ys.length * Tryz.prog.bytesOf 66 ≤ reachBytes
theorem rd_49 : Z2k Tryz.prog 49 (fun ys : List Z4i=>[D.sl false (ys.map Zce)]) wf_49:=Z4w Tryz.underlying49 (row:=Zce) rd_66 (Nat.lt_of_lt_of_le (by decide : 0 < 1) (Nat.le_of_ble_eq_true (by kernel_rfl)))
def wf_51 (y : Z1m) : Prop:=wf_48 y.Z3i ∧ (wf_49 y.Z2w ∧ (True))
theorem rd_51 : Z2k Tryz.prog 51 Z2z wf_51:=
 (Z3u (tot:=2) Tryz.underlying51 (by kernel_rfl) (Z1b (n:=1) rd_48 (by kernel_rfl) (Z1b (n:=1) rd_49 (by kernel_rfl) Z3t rfl) rfl)).map (fun p : (List Z4k) × (List Z4i) × Unit=>({ Z3i:=p.1,Z2w:=p.2.1 } : Z1m)) (fun _=>rfl) (fun _ h=>h)
def wf_22 (ys : List Z1m) : Prop:=(∀ y ∈ ys,wf_51 y) ∧ ys.length * Tryz.prog.bytesOf 51 ≤ reachBytes
theorem rd_22 : Z2k Tryz.prog 22 (fun ys : List Z1m=>[D.sl false (ys.map Z2z)]) wf_22:=Z4w Tryz.underlying22 (row:=Z2z) rd_51 (Nat.lt_of_lt_of_le (by decide : 0 < 1) (Nat.le_of_ble_eq_true (by kernel_rfl)))
def wf_40 (ys : List (List UInt8)) : Prop:=(∀ y ∈ ys,(fun s : List UInt8=>s.length ≤ reachBytes) y) ∧ ys.length * Tryz.prog.bytesOf 9 ≤ reachBytes
theorem rd_40 : Z2k Tryz.prog 40 (fun ys : List (List UInt8)=>[D.sl false (ys.map Z3s)]) wf_40:=Z4w Tryz.underlying40 (row:=Z3s) (Z3k (P:=Tryz.prog) Tryz.underlying9) (Nat.lt_of_lt_of_le (by decide : 0 < 1) (Nat.le_of_ble_eq_true (by kernel_rfl)))
def wf_105 (y : Z13) : Prop:=(fun n : Int=>IntKind.min .i64 ≤ n ∧ n ≤ IntKind.max .i64) y.Z0i ∧ ((fun s : List UInt8=>s.length ≤ reachBytes) y.Z02 ∧ ((fun s : List UInt8=>s.length ≤ reachBytes) y.Z1l ∧ ((fun n : Int=>IntKind.min .i64 ≤ n ∧ n ≤ IntKind.max .i64) y.Z5l ∧ ((fun n : Int=>IntKind.min .i64 ≤ n ∧ n ≤ IntKind.max .i64) y.f_N ∧ ((fun s : List UInt8=>s.length ≤ reachBytes) y.f_S ∧ (True))))))
theorem rd_105 : Z2k Tryz.prog 105 Z76 wf_105:=
 (Z3u (tot:=6) Tryz.underlying105 (by kernel_rfl) (Z1b (n:=1) (Z2h (P:=Tryz.prog) Tryz.underlying3) (by kernel_rfl) (Z1b (n:=1) (Z3k (P:=Tryz.prog) Tryz.underlying9) (by kernel_rfl) (Z1b (n:=1) (Z3k (P:=Tryz.prog) Tryz.underlying9) (by kernel_rfl) (Z1b (n:=1) (Z2h (P:=Tryz.prog) Tryz.underlying3) (by kernel_rfl) (Z1b (n:=1) (Z2h (P:=Tryz.prog) Tryz.underlying3) (by kernel_rfl) (Z1b (n:=1) (Z3k (P:=Tryz.prog) Tryz.underlying9) (by kernel_rfl) Z3t rfl) rfl) rfl) rfl) rfl) rfl)).map (fun p : Int × (List UInt8) × (List UInt8) × (Int × (Int × (List UInt8) × Unit))=>({ Z0i:=p.1,Z02:=p.2.1,Z1l:=p.2.2.1,Z5l:=p.2.2.2.1,f_N:=p.2.2.2.2.1,f_S:=p.2.2.2.2.2.1 } : Z13)) (fun _=>rfl) (fun _ h=>h)
def wf_41 (ys : List Z13) : Prop:=(∀ y ∈ ys,wf_105 y) ∧ ys.length * Tryz.prog.bytesOf 105 ≤ reachBytes
theorem rd_41 : Z2k Tryz.prog 41 (fun ys : List Z13=>[D.sl false (ys.map Z76)]) wf_41:=Z4w Tryz.underlying41 (row:=Z76) rd_105 (Nat.lt_of_lt_of_le (by decide : 0 < 1) (Nat.le_of_ble_eq_true (by kernel_rfl)))
def wf_45 (ys : List Int) : Prop:=(∀ y ∈ ys,(fun n : Int=>IntKind.min .i64 ≤ n ∧ n ≤ IntKind.max .i64) y) ∧ ys.length * Tryz.prog.bytesOf 3 ≤ reachBytes
theorem rd_45 : Z2k Tryz.prog 45 (fun ys : List Int=>[D.sl false (ys.map Z03)]) wf_45:=Z4w Tryz.underlying45 (row:=Z03) (Z2h (P:=Tryz.prog) Tryz.underlying3) (Nat.lt_of_lt_of_le (by decide : 0 < 1) (Nat.le_of_ble_eq_true (by kernel_rfl)))
def wf_144 (y : Z28) : Prop:=(fun s : List UInt8=>s.length ≤ reachBytes) y.Z1g ∧ ((fun s : List UInt8=>s.length ≤ reachBytes) y.Z02 ∧ ((fun s : List UInt8=>s.length ≤ reachBytes) y.Z1l ∧ (True)))
theorem rd_144 : Z2k Tryz.prog 144 Zi5 wf_144:=
 (Z3u (tot:=3) Tryz.underlying144 (by kernel_rfl) (Z1b (n:=1) (Z3k (P:=Tryz.prog) Tryz.underlying9) (by kernel_rfl) (Z1b (n:=1) (Z3k (P:=Tryz.prog) Tryz.underlying9) (by kernel_rfl) (Z1b (n:=1) (Z3k (P:=Tryz.prog) Tryz.underlying9) (by kernel_rfl) Z3t rfl) rfl) rfl)).map (fun p : (List UInt8) × (List UInt8) × (List UInt8) × Unit=>({ Z1g:=p.1,Z02:=p.2.1,Z1l:=p.2.2.1 } : Z28)) (fun _=>rfl) (fun _ h=>h)
def wf_146 (y : Z01) : Prop:=(fun n : Int=>IntKind.min .i64 ≤ n ∧ n ≤ IntKind.max .i64) y.f_Op ∧ ((fun n : Int=>IntKind.min .i64 ≤ n ∧ n ≤ IntKind.max .i64) y.f_A ∧ ((fun n : Int=>IntKind.min .i64 ≤ n ∧ n ≤ IntKind.max .i64) y.f_B ∧ ((fun n : Int=>IntKind.min .i64 ≤ n ∧ n ≤ IntKind.max .i64) y.f_To ∧ (wf_45 y.Z0y ∧ (wf_45 y.Z0b ∧ (wf_144 y.Z16 ∧ ((fun s : List UInt8=>s.length ≤ reachBytes) y.f_S ∧ (True))))))))
theorem rd_146 : Z2k Tryz.prog 146 Z0l wf_146:=
 (Z3u (tot:=10) Tryz.underlying146 (by kernel_rfl) (Z1b (n:=1) (Z2h (P:=Tryz.prog) Tryz.underlying3) (by kernel_rfl) (Z1b (n:=1) (Z2h (P:=Tryz.prog) Tryz.underlying3) (by kernel_rfl) (Z1b (n:=1) (Z2h (P:=Tryz.prog) Tryz.underlying3) (by kernel_rfl) (Z1b (n:=1) (Z2h (P:=Tryz.prog) Tryz.underlying3) (by kernel_rfl) (Z1b (n:=1) rd_45 (by kernel_rfl) (Z1b (n:=1) rd_45 (by kernel_rfl) (Z1b (n:=3) rd_144 (by kernel_rfl) (Z1b (n:=1) (Z3k (P:=Tryz.prog) Tryz.underlying9) (by kernel_rfl) Z3t rfl) rfl) rfl) rfl) rfl) rfl) rfl) rfl)).map (fun p : Int × (Int × (Int × (Int × (List Int) × (List Int) × (Z28 × (List UInt8) × Unit))))=>({ f_Op:=p.1,f_A:=p.2.1,f_B:=p.2.2.1,f_To:=p.2.2.2.1,Z0y:=p.2.2.2.2.1,Z0b:=p.2.2.2.2.2.1,Z16:=p.2.2.2.2.2.2.1,f_S:=p.2.2.2.2.2.2.2.1 } : Z01)) (fun _=>rfl) (fun _ h=>h)
def wf_86 (ys : List Z01) : Prop:=(∀ y ∈ ys,wf_146 y) ∧ ys.length * Tryz.prog.bytesOf 146 ≤ reachBytes
theorem rd_86 : Z2k Tryz.prog 86 (fun ys : List Z01=>[D.sl false (ys.map Z0l)]) wf_86:=Z4w Tryz.underlying86 (row:=Z0l) rd_146 (Nat.lt_of_lt_of_le (by decide : 0 < 1) (Nat.le_of_ble_eq_true (by kernel_rfl)))
def wf_107 (y : Z0k) : Prop:=(fun n : Int=>IntKind.min .i64 ≤ n ∧ n ≤ IntKind.max .i64) y.Z44 ∧ ((fun n : Int=>IntKind.min .i64 ≤ n ∧ n ≤ IntKind.max .i64) y.f_To ∧ ((fun n : Int=>IntKind.min .i64 ≤ n ∧ n ≤ IntKind.max .i64) y.Z3z ∧ ((fun n : Int=>IntKind.min .i64 ≤ n ∧ n ≤ IntKind.max .i64) y.Z1g ∧ ((fun s : List UInt8=>s.length ≤ reachBytes) y.Z1o ∧ (True)))))
theorem rd_107 : Z2k Tryz.prog 107 Z15 wf_107:=
 (Z3u (tot:=5) Tryz.underlying107 (by kernel_rfl) (Z1b (n:=1) (Z2h (P:=Tryz.prog) Tryz.underlying3) (by kernel_rfl) (Z1b (n:=1) (Z2h (P:=Tryz.prog) Tryz.underlying3) (by kernel_rfl) (Z1b (n:=1) (Z2h (P:=Tryz.prog) Tryz.underlying3) (by kernel_rfl) (Z1b (n:=1) (Z2h (P:=Tryz.prog) Tryz.underlying3) (by kernel_rfl) (Z1b (n:=1) (Z3k (P:=Tryz.prog) Tryz.underlying9) (by kernel_rfl) Z3t rfl) rfl) rfl) rfl) rfl)).map (fun p : Int × (Int × (Int × (Int × (List UInt8) × Unit)))=>({ Z44:=p.1,f_To:=p.2.1,Z3z:=p.2.2.1,Z1g:=p.2.2.2.1,Z1o:=p.2.2.2.2.1 } : Z0k)) (fun _=>rfl) (fun _ h=>h)
def wf_87 (ys : List Z0k) : Prop:=(∀ y ∈ ys,wf_107 y) ∧ ys.length * Tryz.prog.bytesOf 107 ≤ reachBytes
theorem rd_87 : Z2k Tryz.prog 87 (fun ys : List Z0k=>[D.sl false (ys.map Z15)]) wf_87:=Z4w Tryz.underlying87 (row:=Z15) rd_107 (Nat.lt_of_lt_of_le (by decide : 0 < 1) (Nat.le_of_ble_eq_true (by kernel_rfl)))
def wf_132 (y : Z0r) : Prop:=(fun n : Int=>IntKind.min .i64 ≤ n ∧ n ≤ IntKind.max .i64) y.Z1x ∧ ((fun n : Int=>IntKind.min .u8 ≤ n ∧ n ≤ IntKind.max .u8) y.Z1r ∧ ((fun s : List UInt8=>s.length ≤ reachBytes) y.Z02 ∧ (True)))
theorem rd_132 : Z2k Tryz.prog 132 Z2y wf_132:=
 (Z3u (tot:=3) Tryz.underlying132 (by kernel_rfl) (Z1b (n:=1) (Z2h (P:=Tryz.prog) Tryz.underlying3) (by kernel_rfl) (Z1b (n:=1) (Z2h (P:=Tryz.prog) Tryz.underlying5) (by kernel_rfl) (Z1b (n:=1) (Z3k (P:=Tryz.prog) Tryz.underlying9) (by kernel_rfl) Z3t rfl) rfl) rfl)).map (fun p : Int × (Int × (List UInt8) × Unit)=>({ Z1x:=p.1,Z1r:=p.2.1,Z02:=p.2.2.1 } : Z0r)) (fun _=>rfl) (fun _ h=>h)
def wf_134 (y : Z0e) : Prop:=(fun n : Int=>IntKind.min .i64 ≤ n ∧ n ≤ IntKind.max .i64) y.Z2g ∧ ((fun n : Int=>IntKind.min .i64 ≤ n ∧ n ≤ IntKind.max .i64) y.Z2x ∧ (wf_132 y.Z1o ∧ ((fun n : Int=>IntKind.min .i64 ≤ n ∧ n ≤ IntKind.max .i64) y.Z34 ∧ (True))))
theorem rd_134 : Z2k Tryz.prog 134 Z1s wf_134:=
 (Z3u (tot:=6) Tryz.underlying134 (by kernel_rfl) (Z1b (n:=1) (Z2h (P:=Tryz.prog) Tryz.underlying3) (by kernel_rfl) (Z1b (n:=1) (Z2h (P:=Tryz.prog) Tryz.underlying3) (by kernel_rfl) (Z1b (n:=3) rd_132 (by kernel_rfl) (Z1b (n:=1) (Z2h (P:=Tryz.prog) Tryz.underlying3) (by kernel_rfl) Z3t rfl) rfl) rfl) rfl)).map (fun p : Int × (Int × (Z0r × (Int × Unit)))=>({ Z2g:=p.1,Z2x:=p.2.1,Z1o:=p.2.2.1,Z34:=p.2.2.2.1 } : Z0e)) (fun _=>rfl) (fun _ h=>h)
def wf_109 (ys : List Z0e) : Prop:=(∀ y ∈ ys,wf_134 y) ∧ ys.length * Tryz.prog.bytesOf 134 ≤ reachBytes
theorem rd_109 : Z2k Tryz.prog 109 (fun ys : List Z0e=>[D.sl false (ys.map Z1s)]) wf_109:=Z4w Tryz.underlying109 (row:=Z1s) rd_134 (Nat.lt_of_lt_of_le (by decide : 0 < 1) (Nat.le_of_ble_eq_true (by kernel_rfl)))
def wf_111 (y : Z55) : Prop:=wf_109 y.Z0v ∧ (wf_109 y.Z10 ∧ ((fun _ : Bool=>True) y.Z48 ∧ (True)))
theorem rd_111 : Z2k Tryz.prog 111 Zti wf_111:=
 (Z3u (tot:=3) Tryz.underlying111 (by kernel_rfl) (Z1b (n:=1) rd_109 (by kernel_rfl) (Z1b (n:=1) rd_109 (by kernel_rfl) (Z1b (n:=1) (Ztj (P:=Tryz.prog) Tryz.underlying4) (by kernel_rfl) Z3t rfl) rfl) rfl)).map (fun p : (List Z0e) × (List Z0e) × (Bool × Unit)=>({ Z0v:=p.1,Z10:=p.2.1,Z48:=p.2.2.1 } : Z55)) (fun _=>rfl) (fun _ h=>h)
def wf_113 (y : Z0o) : Prop:=(fun n : Int=>IntKind.min .i64 ≤ n ∧ n ≤ IntKind.max .i64) y.Z2j ∧ (wf_111 y.Z1p ∧ (True))
theorem rd_113 : Z2k Tryz.prog 113 Z1a wf_113:=
 (Z3u (tot:=4) Tryz.underlying113 (by kernel_rfl) (Z1b (n:=1) (Z2h (P:=Tryz.prog) Tryz.underlying3) (by kernel_rfl) (Z1b (n:=3) rd_111 (by kernel_rfl) Z3t rfl) rfl)).map (fun p : Int × (Z55 × Unit)=>({ Z2j:=p.1,Z1p:=p.2.1 } : Z0o)) (fun _=>rfl) (fun _ h=>h)
def wf_88 (ys : List Z0o) : Prop:=(∀ y ∈ ys,wf_113 y) ∧ ys.length * Tryz.prog.bytesOf 113 ≤ reachBytes
theorem rd_88 : Z2k Tryz.prog 88 (fun ys : List Z0o=>[D.sl false (ys.map Z1a)]) wf_88:=Z4w Tryz.underlying88 (row:=Z1a) rd_113 (Nat.lt_of_lt_of_le (by decide : 0 < 1) (Nat.le_of_ble_eq_true (by kernel_rfl)))
def wf_125 (y : Z11) : Prop:=(fun n : Int=>IntKind.min .i64 ≤ n ∧ n ≤ IntKind.max .i64) y.Z2j ∧ ((fun n : Int=>IntKind.min .i64 ≤ n ∧ n ≤ IntKind.max .i64) y.Z54 ∧ (True))
theorem rd_125 : Z2k Tryz.prog 125 Z1k wf_125:=
 (Z3u (tot:=2) Tryz.underlying125 (by kernel_rfl) (Z1b (n:=1) (Z2h (P:=Tryz.prog) Tryz.underlying3) (by kernel_rfl) (Z1b (n:=1) (Z2h (P:=Tryz.prog) Tryz.underlying3) (by kernel_rfl) Z3t rfl) rfl)).map (fun p : Int × (Int × Unit)=>({ Z2j:=p.1,Z54:=p.2.1 } : Z11)) (fun _=>rfl) (fun _ h=>h)
def wf_89 (ys : List Z11) : Prop:=(∀ y ∈ ys,wf_125 y) ∧ ys.length * Tryz.prog.bytesOf 125 ≤ reachBytes
theorem rd_89 : Z2k Tryz.prog 89 (fun ys : List Z11=>[D.sl false (ys.map Z1k)]) wf_89:=Z4w Tryz.underlying89 (row:=Z1k) rd_125 (Nat.lt_of_lt_of_le (by decide : 0 < 1) (Nat.le_of_ble_eq_true (by kernel_rfl)))
def wf_91 (y : Z08) : Prop:=(fun n : Int=>IntKind.min .i64 ≤ n ∧ n ≤ IntKind.max .i64) y.Z10 ∧ ((fun n : Int=>IntKind.min .i64 ≤ n ∧ n ≤ IntKind.max .i64) y.Z0v ∧ (wf_86 y.Z0q ∧ (wf_87 y.Z1n ∧ (wf_88 y.Z17 ∧ (wf_89 y.Z1h ∧ (True))))))
theorem rd_91 : Z2k Tryz.prog 91 Z18 wf_91:=
 (Z3u (tot:=6) Tryz.underlying91 (by kernel_rfl) (Z1b (n:=1) (Z2h (P:=Tryz.prog) Tryz.underlying3) (by kernel_rfl) (Z1b (n:=1) (Z2h (P:=Tryz.prog) Tryz.underlying3) (by kernel_rfl) (Z1b (n:=1) rd_86 (by kernel_rfl) (Z1b (n:=1) rd_87 (by kernel_rfl) (Z1b (n:=1) rd_88 (by kernel_rfl) (Z1b (n:=1) rd_89 (by kernel_rfl) Z3t rfl) rfl) rfl) rfl) rfl) rfl)).map (fun p : Int × (Int × (List Z01) × (List Z0k) × (List Z0o) × (List Z11) × Unit)=>({ Z10:=p.1,Z0v:=p.2.1,Z0q:=p.2.2.1,Z1n:=p.2.2.2.1,Z17:=p.2.2.2.2.1,Z1h:=p.2.2.2.2.2.1 } : Z08)) (fun _=>rfl) (fun _ h=>h)
def wf_93 (y : Z0x) : Prop:=(fun n : Int=>IntKind.min .i64 ≤ n ∧ n ≤ IntKind.max .i64) y.Z0i ∧ ((fun s : List UInt8=>s.length ≤ reachBytes) y.Z02 ∧ ((fun s : List UInt8=>s.length ≤ reachBytes) y.Z1l ∧ ((fun _ : Bool=>True) y.Z9g ∧ (wf_91 y.Z2o ∧ (wf_40 y.Z66 ∧ (True))))))
theorem rd_93 : Z2k Tryz.prog 93 Z6r wf_93:=
 (Z3u (tot:=11) Tryz.underlying93 (by kernel_rfl) (Z1b (n:=1) (Z2h (P:=Tryz.prog) Tryz.underlying3) (by kernel_rfl) (Z1b (n:=1) (Z3k (P:=Tryz.prog) Tryz.underlying9) (by kernel_rfl) (Z1b (n:=1) (Z3k (P:=Tryz.prog) Tryz.underlying9) (by kernel_rfl) (Z1b (n:=1) (Ztj (P:=Tryz.prog) Tryz.underlying4) (by kernel_rfl) (Z1b (n:=6) rd_91 (by kernel_rfl) (Z1b (n:=1) rd_40 (by kernel_rfl) Z3t rfl) rfl) rfl) rfl) rfl) rfl)).map (fun p : Int × (List UInt8) × (List UInt8) × (Bool × (Z08 × (List (List UInt8)) × Unit))=>({ Z0i:=p.1,Z02:=p.2.1,Z1l:=p.2.2.1,Z9g:=p.2.2.2.1,Z2o:=p.2.2.2.2.1,Z66:=p.2.2.2.2.2.1 } : Z0x)) (fun _=>rfl) (fun _ h=>h)
def wf_42 (ys : List Z0x) : Prop:=(∀ y ∈ ys,wf_93 y) ∧ ys.length * Tryz.prog.bytesOf 93 ≤ reachBytes
theorem rd_42 : Z2k Tryz.prog 42 (fun ys : List Z0x=>[D.sl false (ys.map Z6r)]) wf_42:=Z4w Tryz.underlying42 (row:=Z6r) rd_93 (Nat.lt_of_lt_of_le (by decide : 0 < 1) (Nat.le_of_ble_eq_true (by kernel_rfl)))
def wf_44 (y : Z0j) : Prop:=(fun n : Int=>IntKind.min .i64 ≤ n ∧ n ≤ IntKind.max .i64) y.Z0i ∧ ((fun s : List UInt8=>s.length ≤ reachBytes) y.Z02 ∧ ((fun s : List UInt8=>s.length ≤ reachBytes) y.Z07 ∧ (wf_40 y.Z05 ∧ (wf_41 y.Z0n ∧ (wf_42 y.Z0m ∧ ((fun s : List UInt8=>s.length ≤ reachBytes) y.Z19 ∧ (True)))))))
theorem rd_44 : Z2k Tryz.prog 44 Z2p wf_44:=
 (Z3u (tot:=7) Tryz.underlying44 (by kernel_rfl) (Z1b (n:=1) (Z2h (P:=Tryz.prog) Tryz.underlying3) (by kernel_rfl) (Z1b (n:=1) (Z3k (P:=Tryz.prog) Tryz.underlying9) (by kernel_rfl) (Z1b (n:=1) (Z3k (P:=Tryz.prog) Tryz.underlying9) (by kernel_rfl) (Z1b (n:=1) rd_40 (by kernel_rfl) (Z1b (n:=1) rd_41 (by kernel_rfl) (Z1b (n:=1) rd_42 (by kernel_rfl) (Z1b (n:=1) (Z3k (P:=Tryz.prog) Tryz.underlying9) (by kernel_rfl) Z3t rfl) rfl) rfl) rfl) rfl) rfl) rfl)).map (fun p : Int × (List UInt8) × (List UInt8) × (List (List UInt8)) × (List Z13) × (List Z0x) × (List UInt8) × Unit=>({ Z0i:=p.1,Z02:=p.2.1,Z07:=p.2.2.1,Z05:=p.2.2.2.1,Z0n:=p.2.2.2.2.1,Z0m:=p.2.2.2.2.2.1,Z19:=p.2.2.2.2.2.2.1 } : Z0j)) (fun _=>rfl) (fun _ h=>h)
def wf_47 (y : Z0w) : Prop:=(fun n : Int=>IntKind.min .i64 ≤ n ∧ n ≤ IntKind.max .i64) y.Z0u ∧ (wf_44 y.Z0t ∧ ((fun n : Int=>IntKind.min .i64 ≤ n ∧ n ≤ IntKind.max .i64) y.Z07 ∧ (wf_45 y.Z05 ∧ ((fun n : Int=>IntKind.min .i64 ≤ n ∧ n ≤ IntKind.max .i64) y.Z1c ∧ ((fun n : Int=>IntKind.min .i64 ≤ n ∧ n ≤ IntKind.max .i64) y.Z1f ∧ (True))))))
theorem rd_47 : Z2k Tryz.prog 47 Z3g wf_47:=
 (Z3u (tot:=12) Tryz.underlying47 (by kernel_rfl) (Z1b (n:=1) (Z2h (P:=Tryz.prog) Tryz.underlying3) (by kernel_rfl) (Z1b (n:=7) rd_44 (by kernel_rfl) (Z1b (n:=1) (Z2h (P:=Tryz.prog) Tryz.underlying3) (by kernel_rfl) (Z1b (n:=1) rd_45 (by kernel_rfl) (Z1b (n:=1) (Z2h (P:=Tryz.prog) Tryz.underlying3) (by kernel_rfl) (Z1b (n:=1) (Z2h (P:=Tryz.prog) Tryz.underlying33) (by kernel_rfl) Z3t rfl) rfl) rfl) rfl) rfl) rfl)).map (fun p : Int × (Z0j × (Int × (List Int) × (Int × (Int × Unit))))=>({ Z0u:=p.1,Z0t:=p.2.1,Z07:=p.2.2.1,Z05:=p.2.2.2.1,Z1c:=p.2.2.2.2.1,Z1f:=p.2.2.2.2.2.1 } : Z0w)) (fun _=>rfl) (fun _ h=>h)
def wf_23 (ys : List Z0w) : Prop:=(∀ y ∈ ys,wf_47 y) ∧ ys.length * Tryz.prog.bytesOf 47 ≤ reachBytes
theorem rd_23 : Z2k Tryz.prog 23 (fun ys : List Z0w=>[D.sl false (ys.map Z3g)]) wf_23:=Z4w Tryz.underlying23 (row:=Z3g) rd_47 (Nat.lt_of_lt_of_le (by decide : 0 < 1) (Nat.le_of_ble_eq_true (by kernel_rfl)))
def wf_57 (y : Z2l) : Prop:=(fun n : Int=>IntKind.min .i64 ≤ n ∧ n ≤ IntKind.max .i64) y.Z0u ∧ ((fun s : List UInt8=>s.length ≤ reachBytes) y.Z02 ∧ ((fun n : Int=>IntKind.min .i64 ≤ n ∧ n ≤ IntKind.max .i64) y.Z1g ∧ (True)))
theorem rd_57 : Z2k Tryz.prog 57 Z52 wf_57:=
 (Z3u (tot:=3) Tryz.underlying57 (by kernel_rfl) (Z1b (n:=1) (Z2h (P:=Tryz.prog) Tryz.underlying3) (by kernel_rfl) (Z1b (n:=1) (Z3k (P:=Tryz.prog) Tryz.underlying9) (by kernel_rfl) (Z1b (n:=1) (Z2h (P:=Tryz.prog) Tryz.underlying3) (by kernel_rfl) Z3t rfl) rfl) rfl)).map (fun p : Int × (List UInt8) × (Int × Unit)=>({ Z0u:=p.1,Z02:=p.2.1,Z1g:=p.2.2.1 } : Z2l)) (fun _=>rfl) (fun _ h=>h)
def wf_24 (ys : List Z2l) : Prop:=(∀ y ∈ ys,wf_57 y) ∧ ys.length * Tryz.prog.bytesOf 57 ≤ reachBytes
theorem rd_24 : Z2k Tryz.prog 24 (fun ys : List Z2l=>[D.sl false (ys.map Z52)]) wf_24:=Z4w Tryz.underlying24 (row:=Z52) rd_57 (Nat.lt_of_lt_of_le (by decide : 0 < 1) (Nat.le_of_ble_eq_true (by kernel_rfl)))
def wf_36 (y : Z49) : Prop:=(fun s : List UInt8=>s.length ≤ reachBytes) y.Z02 ∧ ((fun n : Int=>IntKind.min .i64 ≤ n ∧ n ≤ IntKind.max .i64) y.f_A ∧ ((fun n : Int=>IntKind.min .i64 ≤ n ∧ n ≤ IntKind.max .i64) y.f_B ∧ (True)))
theorem rd_36 : Z2k Tryz.prog 36 Z5q wf_36:=
 (Z3u (tot:=3) Tryz.underlying36 (by kernel_rfl) (Z1b (n:=1) (Z3k (P:=Tryz.prog) Tryz.underlying9) (by kernel_rfl) (Z1b (n:=1) (Z2h (P:=Tryz.prog) Tryz.underlying3) (by kernel_rfl) (Z1b (n:=1) (Z2h (P:=Tryz.prog) Tryz.underlying3) (by kernel_rfl) Z3t rfl) rfl) rfl)).map (fun p : (List UInt8) × (Int × (Int × Unit))=>({ Z02:=p.1,f_A:=p.2.1,f_B:=p.2.2.1 } : Z49)) (fun _=>rfl) (fun _ h=>h)
def wf_25 (ys : List Z49) : Prop:=(∀ y ∈ ys,wf_36 y) ∧ ys.length * Tryz.prog.bytesOf 36 ≤ reachBytes
theorem rd_25 : Z2k Tryz.prog 25 (fun ys : List Z49=>[D.sl false (ys.map Z5q)]) wf_25:=Z4w Tryz.underlying25 (row:=Z5q) rd_36 (Nat.lt_of_lt_of_le (by decide : 0 < 1) (Nat.le_of_ble_eq_true (by kernel_rfl)))
def wf_27 (y : Z0c) : Prop:=wf_22 y.Z23 ∧ (wf_23 y.Z1d ∧ (wf_24 y.Z2q ∧ (wf_25 y.Z3q ∧ (True))))
theorem rd_27 : Z2k Tryz.prog 27 Z1q wf_27:=
 (Z3u (tot:=4) Tryz.underlying27 (by kernel_rfl) (Z1b (n:=1) rd_22 (by kernel_rfl) (Z1b (n:=1) rd_23 (by kernel_rfl) (Z1b (n:=1) rd_24 (by kernel_rfl) (Z1b (n:=1) rd_25 (by kernel_rfl) Z3t rfl) rfl) rfl) rfl)).map (fun p : (List Z1m) × (List Z0w) × (List Z2l) × (List Z49) × Unit=>({ Z23:=p.1,Z1d:=p.2.1,Z2q:=p.2.2.1,Z3q:=p.2.2.2.1 } : Z0c)) (fun _=>rfl) (fun _ h=>h)
theorem rlS {n : Nat} (h : n ≤ reachBytes) : n ≤ 4503599627370496:=Nat.le_trans h (by decide)
theorem rlB {n b k : Nat} (e : b = k) (h : n * b ≤ reachBytes) : n * k ≤ 140737488355328:=by have:=Zvn h; rw [e] at this; omega
theorem rlN {n b : Nat} (e : 1 ≤ b) (h : n * b ≤ reachBytes) : n ≤ 140737488355328:=Nat.le_trans (Nat.le_trans (Nat.le_of_eq (Nat.mul_one n).symm) (Nat.mul_le_mul_left n e)) (by have:=Zvn h; omega)
theorem ws_T_api_Ref {y : Z28} (h : wf_144 y) : WRef y:=⟨rlS h.1,rlS h.2.1,rlS h.2.2.1⟩
theorem ws_T_api_Insn {y : Z01} (h : wf_146 y) : Z2r y:=⟨rlB (by kernel_rfl) h.2.2.2.2.1.2,rlB (by kernel_rfl) h.2.2.2.2.2.1.2,ws_T_api_Ref h.2.2.2.2.2.2.1,rlS h.2.2.2.2.2.2.2.1⟩
theorem ws_T_api_Frame {y : Z55} (h : wf_111 y) : Z94 y:=⟨fun v hv=>rlS (h.1.1 v hv).2.2.1.2.2.1,rlB (by kernel_rfl) h.1.2,fun v hv=>rlS (h.2.1.1 v hv).2.2.1.2.2.1,rlB (by kernel_rfl) h.2.1.2⟩
theorem ws_T_api_Code {y : Z08} (h : wf_91 y) : Z4s y:=⟨fun v hv=>ws_T_api_Insn (h.2.2.1.1 v hv),rlB (by kernel_rfl) h.2.2.1.2,fun v hv=>rlS (h.2.2.2.1.1 v hv).2.2.2.2.1,rlB (by kernel_rfl) h.2.2.2.1.2,fun v hv=>ws_T_api_Frame (h.2.2.2.2.1.1 v hv).2.1,rlB (by kernel_rfl) h.2.2.2.2.1.2,rlB (by kernel_rfl) h.2.2.2.2.2.1.2⟩
theorem ws_T_api_Method {y : Z0x} (h : wf_93 y) : Z9c y:=⟨rlS h.2.1,rlS h.2.2.1,ws_T_api_Code h.2.2.2.2.1,fun v hv=>rlS (h.2.2.2.2.2.1.1 v hv),rlB (by kernel_rfl) h.2.2.2.2.2.1.2⟩
theorem ws_T_api_Field {y : Z13} (h : wf_105 y) : Zlk y:=⟨rlS h.2.1,rlS h.2.2.1,rlS h.2.2.2.2.2.1⟩
theorem ws_T_api_ClassModel {y : Z0j} (h : wf_44 y) : Z51 y:=⟨rlS h.2.1,rlS h.2.2.1,fun v hv=>rlS (h.2.2.2.1.1 v hv),rlB (by kernel_rfl) h.2.2.2.1.2,fun v hv=>ws_T_api_Field (h.2.2.2.2.1.1 v hv),rlB (by kernel_rfl) h.2.2.2.2.1.2,fun v hv=>ws_T_api_Method (h.2.2.2.2.2.1.1 v hv),rlB (by kernel_rfl) h.2.2.2.2.2.1.2,rlS h.2.2.2.2.2.2.1⟩
theorem ws_T_api_Loader {y : Z1m} (h : wf_51 y) : Z6s y:=⟨fun v hv=>rlS (h.1.1 v hv).1,rlN (Nat.le_of_ble_eq_true (by kernel_rfl)) h.1.2,fun v hv=>rlS (h.2.1.1 v hv).1,rlN (Nat.le_of_ble_eq_true (by kernel_rfl)) h.2.1.2⟩
theorem ws_T_api_ClassSpace {y : Z0c} (h : wf_27 y) : Z4u y:=⟨fun v hv=>ws_T_api_Loader (h.1.1 v hv),rlN (Nat.le_of_ble_eq_true (by kernel_rfl)) h.1.2,fun v hv=>⟨ws_T_api_ClassModel (h.2.1.1 v hv).2.1,rlN (Nat.le_of_ble_eq_true (by kernel_rfl)) (h.2.1.1 v hv).2.2.2.1.2⟩,rlN (Nat.le_of_ble_eq_true (by kernel_rfl)) h.2.1.2,fun v hv=>rlS (h.2.2.1.1 v hv).2.1,rlN (Nat.le_of_ble_eq_true (by kernel_rfl)) h.2.2.1.2,fun v hv=>rlS (h.2.2.2.1.1 v hv).1,rlN (Nat.le_of_ble_eq_true (by kernel_rfl)) h.2.2.2.1.2⟩
set_option maxRecDepth 100000 in
theorem lifted (os : Os) (started : os.Started) (H : Type) (enc : TypeId × Value → H) :
  ReturnsInHanded {} Tryz.checked os 7 .any (Rows.accessOverridingSpec.pre6 enc Tryz.prog Tryz.f7 Rows.accessOverridingRow.domain false) (Rows.accessOverridingSpec.post enc Tryz.prog Tryz.f7 false true false false):=by
 refine returnsInHanded_of_change_sized (C:=Tryz.checked) own started (by kernel_rfl) Tryz.func7
  (ChangeSpec.witness6 (enc:=enc) (C:=Tryz.checked) false ⟨#[],#[.agg #[.slice none 0 0,.slice none 0 0,.slice none 0 0,.slice none 0 0],.int .i64 0,.int .i64 0],[]⟩ 8 (by kernel_rfl) (by kernel_rfl) (by kernel_rfl) (by kernel_rfl)) ?_
 intro W base args ds gs before hval0 hW hcnd hsz _
 have hval : ∀ (j : Nat) t v,Tryz.f7.params[j]? = some t → args[j]? = some v → Value.okWide Tryz.prog W .any base t v:=hval0
 have hW':=hW
 obtain ⟨p,q,hA0,hV,rfl,hfz,hnd⟩:=hW
 have hA : DataW.TrodAll enc Tryz.prog W 0 (fun _=>true) true Tryz.f7.params.toList args.toList ds p:=hA0
 rw [Tryz.params7] at hA hval
 obtain ⟨v0,vs0,d0,ds0,p0,q0,hargs,rfl,rfl,h0,r0⟩:=trodAll_cons hA
 obtain ⟨v1,vs1,d1,ds1,p1,q1,rfl,rfl,rfl,h1,r1⟩:=trodAll_cons r0
 obtain ⟨v2,vs2,d2,ds2,p2,q2,rfl,rfl,rfl,h2,r2⟩:=trodAll_cons r1
 obtain ⟨rfl,rfl,rfl⟩:=trodAll_nil r2
 obtain rfl : args = #[v0,v1,v2] :=by cases args; simp_all
 obtain ⟨rfl,rfl⟩:=trodVars_none hV
 have hsz2 : (DataW.weightsEach Tryz.prog (Tryz.f7.params.toList ++ []) ([d0,d1,d2] ++ [])).all (· ≤ reachBytes) = true:=hsz
 rw [Tryz.params7] at hsz2
 simp only [List.append_nil,DataW.weightsEach,List.all_append,Bool.and_eq_true] at hsz2
 obtain ⟨z0,z1,z2⟩:=hsz2
 obtain ⟨y0,c0,g0⟩:=arg_agg (M:=Z7g.reach Tryz.prog) Tryz.underlying27 rd_27 (hval 0 27 v0 rfl rfl) h0 z0
 obtain ⟨_,rfl⟩:=okWide_int Tryz.underlying3 (hval 1 3 v1 rfl rfl)
 obtain ⟨y1,c1,g1⟩:=Zpc (M:=Z7g.reach Tryz.prog) (f:=(fun n : Int=>D.int .i64 n)) (Z2h (P:=Tryz.prog) Tryz.underlying3) rfl h1 z1
 obtain ⟨_,rfl⟩:=okWide_int Tryz.underlying3 (hval 2 3 v2 rfl rfl)
 obtain ⟨y2,c2,g2⟩:=Zpc (M:=Z7g.reach Tryz.prog) (f:=(fun n : Int=>D.int .i64 n)) (Z2h (P:=Tryz.prog) Tryz.underlying3) rfl h2 z2
 exact Zym (P:=Tryz.prog) (fn:=Tryz.f7) (tb:=4) rfl (by kernel_rfl) Tryz.underlying4 laid (by kernel_rfl) hW' rfl (.cons c0 (.cons c1 (.cons c2 .nil))) (w7 (Zyk y0 (ws_T_api_ClassSpace g0) y1 y2))
theorem over : Rows.accessOverridingRow.holds Tryz.pinned (OpenSpec.ofChange Rows.accessOverridingSpec):=
 OpenClaim.holds_of_wide 7 Tryz.f7 rfl rfl rfl rfl rfl rfl rfl ⟨rfl,rfl,rfl,rfl,rfl⟩ rfl rfl rfl rfl rfl (by kernel_rfl) Tryz.func7 (by kernel_rfl)
  (of_decide_eq_true (by kernel_rfl)) (by unfold Func.isWrapper; first | (rw [if_pos (by decide +kernel)]; kernel_rfl) | (rw [if_neg (by decide +kernel)]; exact ⟨rfl,rfl⟩))
  (fun os started H enc _=>lifted os started H enc)
theorem proved : Rows.AccessOverridingSaid:=
 over
#print axioms proved
end Go.Proofs.YtldpbffppaednaaGreat.accessOverriding
