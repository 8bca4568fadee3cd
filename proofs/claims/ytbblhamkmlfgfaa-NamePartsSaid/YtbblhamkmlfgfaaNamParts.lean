/-
  The law NameParts holds for every input: the function returns true, and each argument reads behind the call as it read before. No condition.
-/
import Derived.Test.YtbblhamkmlfgfaaNamLaw7
import Derived.WalkKit
import Derived.ProofKit
import Derived.OpenShut
import Derived.ChangeMaps5
namespace Go.Proofs.Ytbblhamkmlfgfaa.nameParts
open Go.ChangeShapes Go.WideShapes Go.ChangeAt Go.RowKit Go.ChangeMaps Go.Den
set_option linter.unusedVariables false

theorem own : ownKnob Try.prog.godebug = none := by kernel_rfl
theorem laid : laidOutB Try.prog = true := by kernel_rfl

set_option maxRecDepth 100000 in
theorem lifted (os : Os) (started : os.Started) (H : Type) (enc : TypeId × Value → H) :
    ReturnsInHanded {} Try.checked os 6 .any (Rows.namePartsSpec.pre6 enc Try.prog Try.f6 Rows.namePartsRow.domain false) (Rows.namePartsSpec.post enc Try.prog Try.f6 false true false false) := by
  refine returnsInHanded_of_change_sized (C := Try.checked) own started (by kernel_rfl) Try.func6
    (ChangeSpec.witness6 (enc := enc) (C := Try.checked) false ⟨#[], #[.string ⟨#[]⟩, .string ⟨#[]⟩, .int .u8 0], []⟩ 8 (by kernel_rfl) (by kernel_rfl) (by kernel_rfl) (by kernel_rfl)) ?_
  intro W base args ds gs before hval0 hW hcnd hsz _
  have hval : ∀ (j : Nat) t v, Try.f6.params[j]? = some t → args[j]? = some v → Value.okWide Try.prog W .any base t v := hval0
  have hW' := hW
  obtain ⟨p, q, hA0, hV, rfl, hfz, hnd⟩ := hW
  have hA : DataW.TrodAll enc Try.prog W 0 (fun _ => true) true Try.f6.params.toList args.toList ds p := hA0
  rw [Try.params6] at hA hval
  obtain ⟨v0, vs0, d0, ds0, p0, q0, hargs, rfl, rfl, h0, r0⟩ := trodAll_cons hA
  obtain ⟨v1, vs1, d1, ds1, p1, q1, rfl, rfl, rfl, h1, r1⟩ := trodAll_cons r0
  obtain ⟨v2, vs2, d2, ds2, p2, q2, rfl, rfl, rfl, h2, r2⟩ := trodAll_cons r1
  obtain ⟨rfl, rfl, rfl⟩ := trodAll_nil r2
  obtain rfl : args = #[v0, v1, v2] := by cases args; simp_all
  obtain ⟨rfl, rfl⟩ := trodVars_none hV
  obtain ⟨a0, rfl, rfl, rfl, w0⟩ := open_string Try.underlying9 (hval 0 9 v0 rfl rfl) h0
  obtain ⟨a1, rfl, rfl, rfl, w1⟩ := open_string Try.underlying9 (hval 1 9 v1 rfl rfl) h1
  obtain ⟨a2, rfl, rfl, rfl, w2⟩ := open_int Try.underlying5 (hval 2 5 v2 rfl rfl) h2
  have hsz2 : (DataW.weightsEach Try.prog (Try.f6.params.toList ++ []) ([.lit (.string a0.data.toList), .lit (.string a1.data.toList), .lit (.int .u8 a2)] ++ [])).all (· ≤ reachBytes) = true := hsz
  rw [Try.params6] at hsz2
  have hsz3 : (a0.data.toList.length ≤ reachBytes) ∧ (a1.data.toList.length ≤ reachBytes) := by
    simpa [DataW.weightsEach, DataW.weights, Try.underlying5, Try.underlying9, and_assoc] using hsz2
  obtain ⟨z0, z1⟩ := hsz3
  exact law_post (P := Try.prog) (fn := Try.f6) (tb := 4) rfl (by kernel_rfl) Try.underlying4 laid (by kernel_rfl) hW' rfl (.cons (.str a0) (.cons (.str a1) (.cons (.int .u8 a2) .nil))) (w6 (law_NameParts _ _ a2 (wf_u8 w2).1 (wf_u8 w2).2))

theorem over : Rows.namePartsRow.holds Try.pinned (OpenSpec.ofChange Rows.namePartsSpec) :=
  OpenClaim.holds_of_wide 6 Try.f6 rfl rfl rfl rfl rfl rfl rfl ⟨rfl, rfl, rfl, rfl, rfl⟩ rfl rfl rfl rfl rfl (by kernel_rfl) Try.func6 (by kernel_rfl)
    (of_decide_eq_true (by kernel_rfl)) (by unfold Func.isWrapper; first | (rw [if_pos (by decide +kernel)]; kernel_rfl) | (rw [if_neg (by decide +kernel)]; exact ⟨rfl, rfl⟩))
    (fun os started H enc _ => lifted os started H enc)

theorem proved : Rows.NamePartsSaid :=
  over
#print axioms proved
end Go.Proofs.Ytbblhamkmlfgfaa.nameParts
