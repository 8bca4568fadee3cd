/-
  The law DescParse holds for every input: the function returns true, and each argument reads behind the call as it read before. No condition.
-/
import Derived.Test.YtbkfbbghkbmkaaaDesLaw3
import Derived.WalkKit
import Derived.ProofKit
import Derived.OpenShut
import Derived.ChangeMaps5
namespace Go.Proofs.Ytbkfbbghkbmkaaa.descParse
open Go.ChangeShapes Go.WideShapes Go.ChangeAt Go.RowKit Go.ChangeMaps Go.Den
set_option linter.unusedVariables false

theorem own : ownKnob Try.prog.godebug = none := by kernel_rfl
theorem laid : laidOutB Try.prog = true := by kernel_rfl

set_option maxRecDepth 100000 in
theorem lifted (os : Os) (started : os.Started) (H : Type) (enc : TypeId × Value → H) :
    ReturnsInHanded {} Try.checked os 3 .any (Rows.descParseSpec.pre6 enc Try.prog Try.f3 Rows.descParseRow.domain false) (Rows.descParseSpec.post enc Try.prog Try.f3 false true false false) := by
  refine returnsInHanded_of_change_sized (C := Try.checked) own started (by kernel_rfl) Try.func3
    (ChangeSpec.witness6 (enc := enc) (C := Try.checked) false ⟨#[], #[.string ⟨#[]⟩], []⟩ 8 (by kernel_rfl) (by kernel_rfl) (by kernel_rfl) (by kernel_rfl)) ?_
  intro W base args ds gs before hval0 hW hcnd hsz _
  have hval : ∀ (j : Nat) t v, Try.f3.params[j]? = some t → args[j]? = some v → Value.okWide Try.prog W .any base t v := hval0
  have hW' := hW
  obtain ⟨p, q, hA0, hV, rfl, hfz, hnd⟩ := hW
  have hA : DataW.TrodAll enc Try.prog W 0 (fun _ => true) true Try.f3.params.toList args.toList ds p := hA0
  rw [Try.params3] at hA hval
  obtain ⟨v0, vs0, d0, ds0, p0, q0, hargs, rfl, rfl, h0, r0⟩ := trodAll_cons hA
  obtain ⟨rfl, rfl, rfl⟩ := trodAll_nil r0
  obtain rfl : args = #[v0] := by cases args; simp_all
  obtain ⟨rfl, rfl⟩ := trodVars_none hV
  obtain ⟨a0, rfl, rfl, rfl, w0⟩ := open_string Try.underlying9 (hval 0 9 v0 rfl rfl) h0
  have hsz2 : (DataW.weightsEach Try.prog (Try.f3.params.toList ++ []) ([.lit (.string a0.data.toList)] ++ [])).all (· ≤ reachBytes) = true := hsz
  rw [Try.params3] at hsz2
  have hsz3 : (a0.data.toList.length ≤ reachBytes) := by
    simpa [DataW.weightsEach, DataW.weights, Try.underlying9, and_assoc] using hsz2
  have z0 := hsz3
  exact law_post (P := Try.prog) (fn := Try.f3) (tb := 4) rfl (by kernel_rfl) Try.underlying4 laid (by kernel_rfl) hW' rfl (.cons (.str a0) .nil) (w3 (law_DescParse _))

theorem over : Rows.descParseRow.holds Try.pinned (OpenSpec.ofChange Rows.descParseSpec) :=
  OpenClaim.holds_of_wide 3 Try.f3 rfl rfl rfl rfl rfl rfl rfl ⟨rfl, rfl, rfl, rfl, rfl⟩ rfl rfl rfl rfl rfl (by kernel_rfl) Try.func3 (by kernel_rfl)
    (of_decide_eq_true (by kernel_rfl)) (by unfold Func.isWrapper; first | (rw [if_pos (by decide +kernel)]; kernel_rfl) | (rw [if_neg (by decide +kernel)]; exact ⟨rfl, rfl⟩))
    (fun os started H enc _ => lifted os started H enc)

theorem proved : Rows.DescParseSaid :=
  over
#print axioms proved
end Go.Proofs.Ytbkfbbghkbmkaaa.descParse
