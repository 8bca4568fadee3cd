/-
  The law PoolcodeEncode holds for every input: the function returns true, and each argument reads behind the call as it read before. No condition.
-/
import Derived.Test.YtehnlgjdpfonlaaPcdLaw1
import Derived.WalkKit
import Derived.ProofKit
import Derived.OpenShut
import Derived.ChangeMaps5
namespace Go.Proofs.Ytehnlgjdpfonlaa.poolcodeEncode
open Go.ChangeShapes Go.WideShapes Go.ChangeAt Go.RowKit Go.ChangeMaps Go.Den
set_option linter.unusedVariables false

theorem own : ownKnob Try.prog.godebug = none := by kernel_rfl
theorem laid : laidOutB Try.prog = true := by kernel_rfl

def wf_37 (y : T_api_Const) : Prop := (fun n : Int => IntKind.min .i64 ≤ n ∧ n ≤ IntKind.max .i64) y.f_Tag ∧ ((fun s : List UInt8 => s.length ≤ reachBytes) y.f_S ∧ ((fun n : Int => IntKind.min .i64 ≤ n ∧ n ≤ IntKind.max .i64) y.f_N ∧ ((fun n : Int => IntKind.min .i64 ≤ n ∧ n ≤ IntKind.max .i64) y.f_A ∧ ((fun n : Int => IntKind.min .i64 ≤ n ∧ n ≤ IntKind.max .i64) y.f_B ∧ (True)))))
theorem rd_37 : Reads Try.prog 37 row_T_api_Const wf_37 :=
  (reads_struct (tot := 5) Try.underlying37 (by kernel_rfl) (freads_cons (n := 1) (reads_int (P := Try.prog) Try.underlying3) (by kernel_rfl) (freads_cons (n := 1) (reads_string (P := Try.prog) Try.underlying9) (by kernel_rfl) (freads_cons (n := 1) (reads_int (P := Try.prog) Try.underlying3) (by kernel_rfl) (freads_cons (n := 1) (reads_int (P := Try.prog) Try.underlying3) (by kernel_rfl) (freads_cons (n := 1) (reads_int (P := Try.prog) Try.underlying3) (by kernel_rfl) freads_nil rfl) rfl) rfl) rfl) rfl)).map (fun p : Int × (List UInt8) × (Int × (Int × (Int × Unit))) => ({ f_Tag := p.1, f_S := p.2.1, f_N := p.2.2.1, f_A := p.2.2.2.1, f_B := p.2.2.2.2.1 } : T_api_Const)) (fun _ => rfl) (fun _ h => h)
def wf_22 (ys : List T_api_Const) : Prop := (∀ y ∈ ys, wf_37 y) ∧ ys.length * Try.prog.bytesOf 37 ≤ reachBytes
theorem rd_22 : Reads Try.prog 22 (fun ys : List T_api_Const => [D.sl false (ys.map row_T_api_Const)]) wf_22 := reads_slice Try.underlying22 (row := row_T_api_Const) rd_37 (Nat.lt_of_lt_of_le (by decide : 0 < 1) (Nat.le_of_ble_eq_true (by kernel_rfl)))

set_option maxRecDepth 100000 in
theorem lifted (os : Os) (started : os.Started) (H : Type) (enc : TypeId × Value → H) :
    ReturnsInHanded {} Try.checked os 3 .any (Rows.poolcodeEncodeSpec.pre6 enc Try.prog Try.f3 Rows.poolcodeEncodeRow.domain false) (Rows.poolcodeEncodeSpec.post enc Try.prog Try.f3 false true false false) := by
  refine returnsInHanded_of_change_sized (C := Try.checked) own started (by kernel_rfl) Try.func3
    (ChangeSpec.witness6 (enc := enc) (C := Try.checked) false ⟨#[], #[.slice none 0 0], []⟩ 8 (by kernel_rfl) (by kernel_rfl) (by kernel_rfl) (by kernel_rfl)) ?_
  intro W base args ds gs before hval0 hW hcnd hsz _
  have hval : ∀ (j : Nat) t v, Try.f3.params[j]? = some t → args[j]? = some v → Value.okWide Try.prog W .any base t v := hval0
  have hW' := hW
  obtain ⟨p, q, hA0, hV, rfl, hfz, hnd⟩ := hW
  have hA : DataW.TrodAll enc Try.prog W 0 (fun _ => true) true Try.f3.params.toList args.toList ds p := hA0
  rw [Try.params3] at hA hval
  obtain ⟨v0, vs0, d0, ds0, p0, q0, hargs, rfl, rfl, h0, r0⟩ := trodAll_cons hA
  obtain ⟨rfl, rfl, rfl⟩ := trodAll_nil r0
  obtain rfl : args = #[v0] := by cases args; simp_all
  obtain ⟨rfl, rfl⟩ := trodVars_none hV
  have hsz2 : (DataW.weightsEach Try.prog (Try.f3.params.toList ++ []) ([d0] ++ [])).all (· ≤ reachBytes) = true := hsz
  rw [Try.params3] at hsz2
  simp only [List.append_nil, DataW.weightsEach, List.all_append, Bool.and_eq_true, List.all_nil, and_true] at hsz2
  have z0 := hsz2
  obtain ⟨_, _, _, rfl⟩ := okWide_slice Try.underlying22 (hval 0 22 v0 rfl rfl)
  obtain ⟨y0, c0, g0⟩ := arg_one (f := (fun ys : List T_api_Const => D.sl false (ys.map row_T_api_Const))) rd_22 rfl h0 z0
  exact law_post (P := Try.prog) (fn := Try.f3) (tb := 4) rfl (by kernel_rfl) Try.underlying4 laid (by kernel_rfl) hW' rfl (.cons c0 .nil) (w3 (law_PoolcodeEncode _))

theorem over : Rows.poolcodeEncodeRow.holds Try.pinned (OpenSpec.ofChange Rows.poolcodeEncodeSpec) :=
  OpenClaim.holds_of_wide 3 Try.f3 rfl rfl rfl rfl rfl rfl rfl ⟨rfl, rfl, rfl, rfl, rfl⟩ rfl rfl rfl rfl rfl (by kernel_rfl) Try.func3 (by kernel_rfl)
    (of_decide_eq_true (by kernel_rfl)) (by unfold Func.isWrapper; first | (rw [if_pos (by decide +kernel)]; kernel_rfl) | (rw [if_neg (by decide +kernel)]; exact ⟨rfl, rfl⟩))
    (fun os started H enc _ => lifted os started H enc)

theorem proved : Rows.PoolcodeEncodeSaid :=
  over
#print axioms proved
end Go.Proofs.Ytehnlgjdpfonlaa.poolcodeEncode
