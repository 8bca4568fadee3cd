/-
  The law PoolcodeRoundTrip holds for every input: the function returns true, and each argument reads behind the call as it read before. No condition.
-/
import Derived.Test.YtehnlgjdpfonlaaPcdLaw5
import Derived.WalkKit
import Derived.ProofKit
import Derived.OpenShut
import Derived.ChangeMaps5
namespace Go.Proofs.Ytehnlgjdpfonlaa.poolcodeRoundTrip
open Go.ChangeShapes Go.WideShapes Go.ChangeAt Go.RowKit Go.ChangeMaps Go.Den
set_option linter.unusedVariables false

theorem own : ownKnob Try.prog.godebug = none := by kernel_rfl
theorem laid : laidOutB Try.prog = true := by kernel_rfl

def wf_37 (y : T_api_Const) : Prop := (fun n : Int => IntKind.min .i64 ≤ n ∧ n ≤ IntKind.max .i64) y.f_Tag ∧ ((fun s : List UInt8 => s.length ≤ reachBytes) y.f_S ∧ ((fun n : Int => IntKind.min .i64 ≤ n ∧ n ≤ IntKind.max .i64) y.f_N ∧ ((fun n : Int => IntKind.min .i64 ≤ n ∧ n ≤ IntKind.max .i64) y.f_A ∧ ((fun n : Int => IntKind.min .i64 ≤ n ∧ n ≤ IntKind.max .i64) y.f_B ∧ (True)))))
theorem rd_37 : Reads Try.prog 37 row_T_api_Const wf_37 :=
  (reads_struct (tot := 5) Try.underlying37 (by kernel_rfl) (freads_cons (n := 1) (reads_int (P := Try.prog) Try.underlying3) (by kernel_rfl) (freads_cons (n := 1) (reads_string (P := Try.prog) Try.underlying9) (by kernel_rfl) (freads_cons (n := 1) (reads_int (P := Try.prog) Try.underlying3) (by kernel_rfl) (freads_cons (n := 1) (reads_int (P := Try.prog) Try.underlying3) (by kernel_rfl) (freads_cons (n := 1) (reads_int (P := Try.prog) Try.underlying3) (by kernel_rfl) freads_nil rfl) rfl) rfl) rfl) rfl)).map (fun p : Int × (List UInt8) × (Int × (Int × (Int × Unit))) => ({ f_Tag := p.1, f_S := p.2.1, f_N := p.2.2.1, f_A := p.2.2.2.1, f_B := p.2.2.2.2.1 } : T_api_Const)) (fun _ => rfl) (fun _ h => h)
def wf_22 (ys : List T_api_Const) : Prop := (∀ y ∈ ys, wf_37 y) ∧ ys.length * Try.prog.bytesOf 37 ≤ reachBytes
theorem rd_22 : Reads Try.prog 22 (fun ys : List T_api_Const => [D.sl false (ys.map row_T_api_Const)]) wf_22 := reads_slice Try.underlying22 (row := row_T_api_Const) rd_37 (Nat.lt_of_lt_of_le (by decide : 0 < 1) (Nat.le_of_ble_eq_true (by kernel_rfl)))

set_option maxRecDepth 100000 in
theorem lifted (os : Os) (started : os.Started) (H : Type) (enc : TypeId × Value → H) :
    ReturnsInHanded {} Try.checked os 5 .any (Rows.poolcodeRoundTripSpec.pre6 enc Try.prog Try.f5 Rows.poolcodeRoundTripRow.domain false) (Rows.poolcodeRoundTripSpec.post enc Try.prog Try.f5 false true false false) := by
  refine returnsInHanded_of_change_sized (C := Try.checked) own started (by kernel_rfl) Try.func5
    (ChangeSpec.witness6 (enc := enc) (C := Try.checked) false ⟨#[], #[.slice none 0 0, .string ⟨#[]⟩, .string ⟨#[]⟩, .int .u16 0], []⟩ 8 (by kernel_rfl) (by kernel_rfl) (by kernel_rfl) (by kernel_rfl)) ?_
  intro W base args ds gs before hval0 hW hcnd hsz _
  have hval : ∀ (j : Nat) t v, Try.f5.params[j]? = some t → args[j]? = some v → Value.okWide Try.prog W .any base t v := hval0
  have hW' := hW
  obtain ⟨p, q, hA0, hV, rfl, hfz, hnd⟩ := hW
  have hA : DataW.TrodAll enc Try.prog W 0 (fun _ => true) true Try.f5.params.toList args.toList ds p := hA0
  rw [Try.params5] at hA hval
  obtain ⟨v0, vs0, d0, ds0, p0, q0, hargs, rfl, rfl, h0, r0⟩ := trodAll_cons hA
  obtain ⟨v1, vs1, d1, ds1, p1, q1, rfl, rfl, rfl, h1, r1⟩ := trodAll_cons r0
  obtain ⟨v2, vs2, d2, ds2, p2, q2, rfl, rfl, rfl, h2, r2⟩ := trodAll_cons r1
  obtain ⟨v3, vs3, d3, ds3, p3, q3, rfl, rfl, rfl, h3, r3⟩ := trodAll_cons r2
  obtain ⟨rfl, rfl, rfl⟩ := trodAll_nil r3
  obtain rfl : args = #[v0, v1, v2, v3] := by cases args; simp_all
  obtain ⟨rfl, rfl⟩ := trodVars_none hV
  have hsz2 : (DataW.weightsEach Try.prog (Try.f5.params.toList ++ []) ([d0, d1, d2, d3] ++ [])).all (· ≤ reachBytes) = true := hsz
  rw [Try.params5] at hsz2
  simp only [List.append_nil, DataW.weightsEach, List.all_append, Bool.and_eq_true, List.all_nil, and_true] at hsz2
  obtain ⟨z0, z1, z2, z3⟩ := hsz2
  obtain ⟨_, _, _, rfl⟩ := okWide_slice Try.underlying22 (hval 0 22 v0 rfl rfl)
  obtain ⟨y0, c0, g0⟩ := arg_one (M := Meas.reach Try.prog) (f := (fun ys : List T_api_Const => D.sl false (ys.map row_T_api_Const))) rd_22 rfl h0 z0
  obtain ⟨_, rfl⟩ := okWide_string Try.underlying9 (hval 1 9 v1 rfl rfl)
  obtain ⟨y1, c1, g1⟩ := arg_one (M := Meas.reach Try.prog) (f := (fun s : List UInt8 => D.str s)) (reads_string (P := Try.prog) Try.underlying9) rfl h1 z1
  obtain ⟨_, rfl⟩ := okWide_string Try.underlying9 (hval 2 9 v2 rfl rfl)
  obtain ⟨y2, c2, g2⟩ := arg_one (M := Meas.reach Try.prog) (f := (fun s : List UInt8 => D.str s)) (reads_string (P := Try.prog) Try.underlying9) rfl h2 z2
  obtain ⟨_, rfl⟩ := okWide_int Try.underlying32 (hval 3 32 v3 rfl rfl)
  obtain ⟨y3, c3, g3⟩ := arg_one (M := Meas.reach Try.prog) (f := (fun n : Int => D.int .u16 n)) (reads_int (P := Try.prog) Try.underlying32) rfl h3 z3
  exact law_post (P := Try.prog) (fn := Try.f5) (tb := 4) rfl (by kernel_rfl) Try.underlying4 laid (by kernel_rfl) hW' rfl (.cons c0 (.cons c1 (.cons c2 (.cons c3 .nil)))) (w5 (law_PoolcodeRoundTrip _ (fun c hc => (g0.1 c hc).2.2.1) _ _ _ g3))

theorem over : Rows.poolcodeRoundTripRow.holds Try.pinned (OpenSpec.ofChange Rows.poolcodeRoundTripSpec) :=
  OpenClaim.holds_of_wide 5 Try.f5 rfl rfl rfl rfl rfl rfl rfl ⟨rfl, rfl, rfl, rfl, rfl⟩ rfl rfl rfl rfl rfl (by kernel_rfl) Try.func5 (by kernel_rfl)
    (of_decide_eq_true (by kernel_rfl)) (by unfold Func.isWrapper; first | (rw [if_pos (by decide +kernel)]; kernel_rfl) | (rw [if_neg (by decide +kernel)]; exact ⟨rfl, rfl⟩))
    (fun os started H enc _ => lifted os started H enc)

theorem proved : Rows.PoolcodeRoundTripSaid :=
  over
#print axioms proved
end Go.Proofs.Ytehnlgjdpfonlaa.poolcodeRoundTrip
