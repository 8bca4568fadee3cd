/-
  The law DescFormatSignature holds for every input: the function returns true, and each argument reads behind the call as it read before. No condition.
-/
import Derived.Test.YtbkfbbghkbmkaaaDesLawB
import Derived.WalkKit
import Derived.ProofKit
import Derived.OpenShut
import Derived.ChangeMaps5
namespace Go.Proofs.Ytbkfbbghkbmkaaa.descFormatSignature
open Go.ChangeShapes Go.WideShapes Go.ChangeAt Go.RowKit Go.ChangeMaps Go.Den
set_option linter.unusedVariables false

theorem own : ownKnob Try.prog.godebug = none := by kernel_rfl
theorem laid : laidOutB Try.prog = true := by kernel_rfl

def wf_24 (y : T_api_Type) : Prop := (fun n : Int => IntKind.min .i64 ≤ n ∧ n ≤ IntKind.max .i64) y.f_Dim ∧ ((fun n : Int => IntKind.min .u8 ≤ n ∧ n ≤ IntKind.max .u8) y.f_Base ∧ ((fun s : List UInt8 => s.length ≤ reachBytes) y.f_Name ∧ (True)))
theorem rd_24 : Reads Try.prog 24 row_T_api_Type wf_24 :=
  (reads_struct (tot := 3) Try.underlying24 (by kernel_rfl) (freads_cons (n := 1) (reads_int (P := Try.prog) Try.underlying3) (by kernel_rfl) (freads_cons (n := 1) (reads_int (P := Try.prog) Try.underlying5) (by kernel_rfl) (freads_cons (n := 1) (reads_string (P := Try.prog) Try.underlying9) (by kernel_rfl) freads_nil rfl) rfl) rfl)).map (fun p : Int × (Int × (List UInt8) × Unit) => ({ f_Dim := p.1, f_Base := p.2.1, f_Name := p.2.2.1 } : T_api_Type)) (fun _ => rfl) (fun _ h => h)
def wf_29 (ys : List T_api_Type) : Prop := (∀ y ∈ ys, wf_24 y) ∧ ys.length * Try.prog.bytesOf 24 ≤ reachBytes
theorem rd_29 : Reads Try.prog 29 (fun ys : List T_api_Type => [D.sl false (ys.map row_T_api_Type)]) wf_29 := reads_slice Try.underlying29 (row := row_T_api_Type) rd_24 (Nat.lt_of_lt_of_le (by decide : 0 < 1) (Nat.le_of_ble_eq_true (by kernel_rfl)))
def wf_31 (y : T_api_Sig) : Prop := wf_29 y.f_Params ∧ (wf_24 y.f_Result ∧ (True))
theorem rd_31 : Reads Try.prog 31 row_T_api_Sig wf_31 :=
  (reads_struct (tot := 4) Try.underlying31 (by kernel_rfl) (freads_cons (n := 1) rd_29 (by kernel_rfl) (freads_cons (n := 3) rd_24 (by kernel_rfl) freads_nil rfl) rfl)).map (fun p : (List T_api_Type) × (T_api_Type × Unit) => ({ f_Params := p.1, f_Result := p.2.1 } : T_api_Sig)) (fun _ => rfl) (fun _ h => h)

set_option maxRecDepth 100000 in
theorem lifted (os : Os) (started : os.Started) (H : Type) (enc : TypeId × Value → H) :
    ReturnsInHanded {} Try.checked os 5 .any (Rows.descFormatSignatureSpec.pre6 enc Try.prog Try.f5 Rows.descFormatSignatureRow.domain false) (Rows.descFormatSignatureSpec.post enc Try.prog Try.f5 false true false false) := by
  refine returnsInHanded_of_change_sized (C := Try.checked) own started (by kernel_rfl) Try.func5
    (ChangeSpec.witness6 (enc := enc) (C := Try.checked) false ⟨#[], #[.agg #[.slice none 0 0, .int .i64 0, .int .u8 0, .string ⟨#[]⟩]], []⟩ 8 (by kernel_rfl) (by kernel_rfl) (by kernel_rfl) (by kernel_rfl)) ?_
  intro W base args ds gs before hval0 hW hcnd hsz _
  have hval : ∀ (j : Nat) t v, Try.f5.params[j]? = some t → args[j]? = some v → Value.okWide Try.prog W .any base t v := hval0
  have hW' := hW
  obtain ⟨p, q, hA0, hV, rfl, hfz, hnd⟩ := hW
  have hA : DataW.TrodAll enc Try.prog W 0 (fun _ => true) true Try.f5.params.toList args.toList ds p := hA0
  rw [Try.params5] at hA hval
  obtain ⟨v0, vs0, d0, ds0, p0, q0, hargs, rfl, rfl, h0, r0⟩ := trodAll_cons hA
  obtain ⟨rfl, rfl, rfl⟩ := trodAll_nil r0
  obtain rfl : args = #[v0] := by cases args; simp_all
  obtain ⟨rfl, rfl⟩ := trodVars_none hV
  have hsz2 : (DataW.weightsEach Try.prog (Try.f5.params.toList ++ []) ([d0] ++ [])).all (· ≤ reachBytes) = true := hsz
  rw [Try.params5] at hsz2
  simp only [List.append_nil, DataW.weightsEach, List.all_append, Bool.and_eq_true, List.all_nil, and_true] at hsz2
  have z0 := hsz2
  obtain ⟨y0, c0, g0⟩ := arg_agg Try.underlying31 rd_31 (hval 0 31 v0 rfl rfl) h0 z0
  exact law_post (P := Try.prog) (fn := Try.f5) (tb := 4) rfl (by kernel_rfl) Try.underlying4 laid (by kernel_rfl) hW' rfl (.cons c0 .nil) (w5 (law_DescFormatSignature _ (fun t ht => reach_le (g0.1.1 t ht).2.2.1) (reach_le g0.2.1.2.2.1)))

theorem over : Rows.descFormatSignatureRow.holds Try.pinned (OpenSpec.ofChange Rows.descFormatSignatureSpec) :=
  OpenClaim.holds_of_wide 5 Try.f5 rfl rfl rfl rfl rfl rfl rfl ⟨rfl, rfl, rfl, rfl, rfl⟩ rfl rfl rfl rfl rfl (by kernel_rfl) Try.func5 (by kernel_rfl)
    (of_decide_eq_true (by kernel_rfl)) (by unfold Func.isWrapper; first | (rw [if_pos (by decide +kernel)]; kernel_rfl) | (rw [if_neg (by decide +kernel)]; exact ⟨rfl, rfl⟩))
    (fun os started H enc _ => lifted os started H enc)

theorem proved : Rows.DescFormatSignatureSaid :=
  over
#print axioms proved
end Go.Proofs.Ytbkfbbghkbmkaaa.descFormatSignature
