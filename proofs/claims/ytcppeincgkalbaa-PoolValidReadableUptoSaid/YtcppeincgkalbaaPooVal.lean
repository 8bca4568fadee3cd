/-
  The law PoolValidReadable holds for every input: the function returns true, and each argument reads behind the call as it read before. No condition.
-/
import Derived.Test.YtcppeincgkalbaaPooLawE
import Derived.WalkKit
import Derived.ProofKit
import Derived.OpenShut
import Derived.ChangeMaps5
import Derived.JoinedCond
import Derived.Deep.CondSized
namespace Go.Proofs.Ytcppeincgkalbaa.poolValidReadable
open Go.ChangeShapes Go.WideShapes Go.ChangeAt Go.RowKit Go.ChangeMaps Go.Den
set_option linter.unusedVariables false

abbrev M : Meas Try.prog := Meas.upto Try.prog 1048576 Rows.uptoBulk Rows.uptoBulkAll (by simp [Rows.uptoBulk]) (by intros; simp only [Rows.uptoBulk]; omega) (by intros; simp only [Rows.uptoBulk]; omega) (by intros; simp only [Rows.uptoBulkAll]; omega)
theorem own : ownKnob Try.prog.godebug = none := by kernel_rfl
theorem laid : laidOutB Try.prog = true := by kernel_rfl

def wf_29 (y : T_api_Const) : Prop := (fun n : Int => IntKind.min .i64 ≤ n ∧ n ≤ IntKind.max .i64) y.f_Tag ∧ ((fun s : List UInt8 => s.length ≤ 1048576) y.f_S ∧ ((fun n : Int => IntKind.min .i64 ≤ n ∧ n ≤ IntKind.max .i64) y.f_N ∧ ((fun n : Int => IntKind.min .i64 ≤ n ∧ n ≤ IntKind.max .i64) y.f_A ∧ ((fun n : Int => IntKind.min .i64 ≤ n ∧ n ≤ IntKind.max .i64) y.f_B ∧ (True)))))
theorem rd_29 : ReadsM M 29 row_T_api_Const wf_29 :=
  (reads_struct (tot := 5) Try.underlying29 (by kernel_rfl) (freads_cons (n := 1) (reads_int (P := Try.prog) Try.underlying3) (by kernel_rfl) (freads_cons (n := 1) (reads_string (P := Try.prog) Try.underlying9) (by kernel_rfl) (freads_cons (n := 1) (reads_int (P := Try.prog) Try.underlying3) (by kernel_rfl) (freads_cons (n := 1) (reads_int (P := Try.prog) Try.underlying3) (by kernel_rfl) (freads_cons (n := 1) (reads_int (P := Try.prog) Try.underlying3) (by kernel_rfl) freads_nil rfl) rfl) rfl) rfl) rfl)).map (fun p : Int × (List UInt8) × (Int × (Int × (Int × Unit))) => ({ f_Tag := p.1, f_S := p.2.1, f_N := p.2.2.1, f_A := p.2.2.2.1, f_B := p.2.2.2.2.1 } : T_api_Const)) (fun _ => rfl) (fun _ h => h)
def wf_22 (ys : List T_api_Const) : Prop := (∀ y ∈ ys, wf_29 y) ∧ ys.length * Try.prog.bytesOf 29 ≤ reachBytes
theorem rd_22 : ReadsM M 22 (fun ys : List T_api_Const => [D.sl false (ys.map row_T_api_Const)]) wf_22 := reads_slice Try.underlying22 (row := row_T_api_Const) rd_29 (Nat.lt_of_lt_of_le (by decide : 0 < 1) (Nat.le_of_ble_eq_true (by kernel_rfl)))

theorem contract (H : Type) (enc : TypeId × Value → H) (W : World) (base : Nat) (args : Array Value) (ds gs : List (DataW H)) (before : List MemPlace)
    (hval0 : ∀ (j : Nat) t v, Try.f6.params[j]? = some t → args[j]? = some v → Value.okWide Try.prog W .any base t v)
    (hW : DataW.Whole enc Try.prog Try.f6.params.toList Rows.poolValidReadableSpec.vars false W args.toList ds gs before) (hk : Rows.uptoSmall H (ds ++ gs) = true)
    (hsz : (DataW.weightsEach Try.prog (Try.f6.params.toList ++ Rows.poolValidReadableSpec.plain.varTypes Try.prog) (ds ++ gs)).all (· ≤ reachBytes) = true) :
    Calls Try.prog 6 args W fun e W' => ∃ v, e = .returned v ∧ Rows.poolValidReadableSpec.post enc Try.prog Try.f6 false true false false W args v W' := by
  have hval : ∀ (j : Nat) t v, Try.f6.params[j]? = some t → args[j]? = some v → Value.okWide Try.prog W .any base t v := hval0
  have hW' := hW
  obtain ⟨p, q, hA0, hV, rfl, hfz, hnd⟩ := hW
  have hA : DataW.TrodAll enc Try.prog W 0 (fun _ => true) true Try.f6.params.toList args.toList ds p := hA0
  rw [Try.params6] at hA hval
  obtain ⟨v0, vs0, d0, ds0, p0, q0, hargs, rfl, rfl, h0, r0⟩ := trodAll_cons hA
  obtain ⟨v1, vs1, d1, ds1, p1, q1, rfl, rfl, rfl, h1, r1⟩ := trodAll_cons r0
  obtain ⟨rfl, rfl, rfl⟩ := trodAll_nil r1
  obtain rfl : args = #[v0, v1] := by cases args; simp_all
  obtain ⟨rfl, rfl⟩ := trodVars_none hV
  have hsz2 : (DataW.weightsEach Try.prog (Try.f6.params.toList ++ []) ([d0, d1] ++ [])).all (· ≤ reachBytes) = true := hsz
  rw [Try.params6] at hsz2
  simp only [List.append_nil, DataW.weightsEach, List.all_append, Bool.and_eq_true, List.all_nil, and_true] at hsz2
  obtain ⟨z0, z1⟩ := hsz2
  have hb := of_decide_eq_true hk
  simp only [List.append_nil, Rows.uptoBulkAll] at hb
  have b0 : M.q 22 d0 := ⟨z0, show Rows.uptoBulk d0 ≤ 1048576 by omega⟩
  obtain ⟨_, _, _, rfl⟩ := okWide_slice Try.underlying22 (hval 0 22 v0 rfl rfl)
  obtain ⟨y0, c0, g0⟩ := arg_one (M := M) (f := (fun ys : List T_api_Const => D.sl false (ys.map row_T_api_Const))) rd_22 rfl h0 b0
  have b1 : M.q 9 d1 := ⟨z1, show Rows.uptoBulk d1 ≤ 1048576 by omega⟩
  obtain ⟨_, rfl⟩ := okWide_string Try.underlying9 (hval 1 9 v1 rfl rfl)
  obtain ⟨y1, c1, g1⟩ := arg_one (M := M) (f := (fun s : List UInt8 => D.str s)) (reads_string (P := Try.prog) Try.underlying9) rfl h1 b1
  exact law_post (P := Try.prog) (fn := Try.f6) (tb := 4) rfl (by kernel_rfl) Try.underlying4 laid (by kernel_rfl) hW' rfl (.cons c0 (.cons c1 .nil)) (w6 (law_PoolValidReadable _ _ (fun c hc => (g0.1 c hc).2.1) g1))
set_option maxRecDepth 100000 in
theorem lifted (os : Os) (started : os.Started) (H : Type) (enc : TypeId × Value → H) (F : Stop.Interp) :
    ReturnsInHanded {} Try.checked os 6 .any ((Rows.OpenSpec.upto Rows.poolValidReadableSpec).pre6 enc Try.prog Try.f6 Rows.poolValidReadableUptoRow.domain false) (((Rows.OpenSpec.upto Rows.poolValidReadableSpec).at F).post enc Try.prog Try.f6 false true false false) := by
  refine returnsInHanded_of_cond_sized (C := Try.checked) (s := Rows.OpenSpec.upto Rows.poolValidReadableSpec) (k := Rows.uptoSmall) rfl own started (by kernel_rfl) Try.func6
    (OpenSpec.witness (enc := enc) (C := Try.checked) (s := Rows.OpenSpec.upto Rows.poolValidReadableSpec) (k := Rows.uptoSmall) rfl false ⟨#[], #[.slice none 0 0, .string ⟨#[]⟩], []⟩ 8 (by kernel_rfl) (by kernel_rfl) (by kernel_rfl)
      (x := ([.nil, .lit (.string [])], [], [])) (by kernel_rfl) rfl (by kernel_rfl)) ?_
  intro W base args ds gs before hval hW _ hk hsz _
  exact contract H enc W base args ds gs before hval hW hk hsz

theorem over : Rows.poolValidReadableUptoRow.holds Try.pinned (Rows.OpenSpec.upto Rows.poolValidReadableSpec) :=
  OpenClaim.holds_of_cond 6 Try.f6 rfl rfl rfl rfl rfl rfl rfl ⟨rfl, rfl, rfl, rfl, rfl⟩ rfl rfl rfl rfl rfl (by kernel_rfl) Try.func6 (by kernel_rfl)
    (of_decide_eq_true (by kernel_rfl)) (by unfold Func.isWrapper; first | (rw [if_pos (by decide +kernel)]; kernel_rfl) | (rw [if_neg (by decide +kernel)]; exact ⟨rfl, rfl⟩))
    (fun os started H enc _ F => lifted os started H enc F)

theorem proved : Rows.PoolValidReadableUptoSaid :=
  over
#print axioms proved
end Go.Proofs.Ytcppeincgkalbaa.poolValidReadable
