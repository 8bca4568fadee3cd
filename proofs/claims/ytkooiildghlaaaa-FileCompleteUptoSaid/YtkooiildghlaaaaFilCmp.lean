/-
  The law FileComplete holds for every input: the function returns true, and each argument reads behind the call as it read before. No condition.
-/
import Derived.Test.YtkooiildghlaaaaFilLaw5
import Derived.WalkKit
import Derived.ProofKit
import Derived.OpenShut
import Derived.ChangeMaps5
import Derived.JoinedCond
import Derived.Deep.CondSized
namespace Go.Proofs.Ytkooiildghlaaaa.fileComplete
open Go.ChangeShapes Go.WideShapes Go.ChangeAt Go.RowKit Go.ChangeMaps Go.Den
set_option linter.unusedVariables false

abbrev M : Meas Try.prog := Meas.upto Try.prog 1048576 Rows.uptoBulk Rows.uptoBulkAll (by simp [Rows.uptoBulk]) (by intros; simp only [Rows.uptoBulk]; omega) (by intros; simp only [Rows.uptoBulk]; omega) (by intros; simp only [Rows.uptoBulkAll]; omega)
theorem own : ownKnob Try.prog.godebug = none := by kernel_rfl
theorem laid : laidOutB Try.prog = true := by kernel_rfl

def wf_74 (y : T_api_Const) : Prop := (fun n : Int => IntKind.min .i64 ≤ n ∧ n ≤ IntKind.max .i64) y.f_Tag ∧ ((fun s : List UInt8 => s.length ≤ 1048576) y.f_S ∧ ((fun n : Int => IntKind.min .i64 ≤ n ∧ n ≤ IntKind.max .i64) y.f_N ∧ ((fun n : Int => IntKind.min .i64 ≤ n ∧ n ≤ IntKind.max .i64) y.f_A ∧ ((fun n : Int => IntKind.min .i64 ≤ n ∧ n ≤ IntKind.max .i64) y.f_B ∧ (True)))))
theorem rd_74 : ReadsM M 74 row_T_api_Const wf_74 :=
  (reads_struct (tot := 5) Try.underlying74 (by kernel_rfl) (freads_cons (n := 1) (reads_int (P := Try.prog) Try.underlying3) (by kernel_rfl) (freads_cons (n := 1) (reads_string (P := Try.prog) Try.underlying9) (by kernel_rfl) (freads_cons (n := 1) (reads_int (P := Try.prog) Try.underlying3) (by kernel_rfl) (freads_cons (n := 1) (reads_int (P := Try.prog) Try.underlying3) (by kernel_rfl) (freads_cons (n := 1) (reads_int (P := Try.prog) Try.underlying3) (by kernel_rfl) freads_nil rfl) rfl) rfl) rfl) rfl)).map (fun p : Int × (List UInt8) × (Int × (Int × (Int × Unit))) => ({ f_Tag := p.1, f_S := p.2.1, f_N := p.2.2.1, f_A := p.2.2.2.1, f_B := p.2.2.2.2.1 } : T_api_Const)) (fun _ => rfl) (fun _ h => h)
def wf_22 (ys : List T_api_Const) : Prop := (∀ y ∈ ys, wf_74 y) ∧ ys.length * Try.prog.bytesOf 74 ≤ reachBytes
theorem rd_22 : ReadsM M 22 (fun ys : List T_api_Const => [D.sl false (ys.map row_T_api_Const)]) wf_22 := reads_slice Try.underlying22 (row := row_T_api_Const) rd_74 (Nat.lt_of_lt_of_le (by decide : 0 < 1) (Nat.le_of_ble_eq_true (by kernel_rfl)))
def wf_23 (ys : List Int) : Prop := (∀ y ∈ ys, (fun n : Int => IntKind.min .i64 ≤ n ∧ n ≤ IntKind.max .i64) y) ∧ ys.length * Try.prog.bytesOf 3 ≤ reachBytes
theorem rd_23 : ReadsM M 23 (fun ys : List Int => [D.sl false (ys.map rI64)]) wf_23 := reads_slice Try.underlying23 (row := rI64) (reads_int (P := Try.prog) Try.underlying3) (Nat.lt_of_lt_of_le (by decide : 0 < 1) (Nat.le_of_ble_eq_true (by kernel_rfl)))
def wf_95 (y : T_api_Attr) : Prop := (fun n : Int => IntKind.min .i64 ≤ n ∧ n ≤ IntKind.max .i64) y.f_NameIndex ∧ ((fun s : List UInt8 => s.length ≤ 1048576) y.f_Bytes ∧ (True))
theorem rd_95 : ReadsM M 95 row_T_api_Attr wf_95 :=
  (reads_struct (tot := 2) Try.underlying95 (by kernel_rfl) (freads_cons (n := 1) (reads_int (P := Try.prog) Try.underlying3) (by kernel_rfl) (freads_cons (n := 1) (reads_string (P := Try.prog) Try.underlying9) (by kernel_rfl) freads_nil rfl) rfl)).map (fun p : Int × (List UInt8) × Unit => ({ f_NameIndex := p.1, f_Bytes := p.2.1 } : T_api_Attr)) (fun _ => rfl) (fun _ h => h)
def wf_25 (ys : List T_api_Attr) : Prop := (∀ y ∈ ys, wf_95 y) ∧ ys.length * Try.prog.bytesOf 95 ≤ reachBytes
theorem rd_25 : ReadsM M 25 (fun ys : List T_api_Attr => [D.sl false (ys.map row_T_api_Attr)]) wf_25 := reads_slice Try.underlying25 (row := row_T_api_Attr) rd_95 (Nat.lt_of_lt_of_le (by decide : 0 < 1) (Nat.le_of_ble_eq_true (by kernel_rfl)))
def wf_41 (y : T_api_Member) : Prop := (fun n : Int => IntKind.min .i64 ≤ n ∧ n ≤ IntKind.max .i64) y.f_Flags ∧ ((fun n : Int => IntKind.min .i64 ≤ n ∧ n ≤ IntKind.max .i64) y.f_Name ∧ ((fun n : Int => IntKind.min .i64 ≤ n ∧ n ≤ IntKind.max .i64) y.f_Desc ∧ (wf_25 y.f_Attributes ∧ (True))))
theorem rd_41 : ReadsM M 41 row_T_api_Member wf_41 :=
  (reads_struct (tot := 4) Try.underlying41 (by kernel_rfl) (freads_cons (n := 1) (reads_int (P := Try.prog) Try.underlying3) (by kernel_rfl) (freads_cons (n := 1) (reads_int (P := Try.prog) Try.underlying3) (by kernel_rfl) (freads_cons (n := 1) (reads_int (P := Try.prog) Try.underlying3) (by kernel_rfl) (freads_cons (n := 1) rd_25 (by kernel_rfl) freads_nil rfl) rfl) rfl) rfl)).map (fun p : Int × (Int × (Int × (List T_api_Attr) × Unit)) => ({ f_Flags := p.1, f_Name := p.2.1, f_Desc := p.2.2.1, f_Attributes := p.2.2.2.1 } : T_api_Member)) (fun _ => rfl) (fun _ h => h)
def wf_24 (ys : List T_api_Member) : Prop := (∀ y ∈ ys, wf_41 y) ∧ ys.length * Try.prog.bytesOf 41 ≤ reachBytes
theorem rd_24 : ReadsM M 24 (fun ys : List T_api_Member => [D.sl false (ys.map row_T_api_Member)]) wf_24 := reads_slice Try.underlying24 (row := row_T_api_Member) rd_41 (Nat.lt_of_lt_of_le (by decide : 0 < 1) (Nat.le_of_ble_eq_true (by kernel_rfl)))
def wf_27 (y : T_api_File) : Prop := wf_22 y.f_Pool ∧ ((fun n : Int => IntKind.min .i64 ≤ n ∧ n ≤ IntKind.max .i64) y.f_Flags ∧ ((fun n : Int => IntKind.min .i64 ≤ n ∧ n ≤ IntKind.max .i64) y.f_This ∧ ((fun n : Int => IntKind.min .i64 ≤ n ∧ n ≤ IntKind.max .i64) y.f_Super ∧ (wf_23 y.f_Interfaces ∧ (wf_24 y.f_Fields ∧ (wf_24 y.f_Methods ∧ (wf_25 y.f_Attributes ∧ (True))))))))
theorem rd_27 : ReadsM M 27 row_T_api_File wf_27 :=
  (reads_struct (tot := 8) Try.underlying27 (by kernel_rfl) (freads_cons (n := 1) rd_22 (by kernel_rfl) (freads_cons (n := 1) (reads_int (P := Try.prog) Try.underlying3) (by kernel_rfl) (freads_cons (n := 1) (reads_int (P := Try.prog) Try.underlying3) (by kernel_rfl) (freads_cons (n := 1) (reads_int (P := Try.prog) Try.underlying3) (by kernel_rfl) (freads_cons (n := 1) rd_23 (by kernel_rfl) (freads_cons (n := 1) rd_24 (by kernel_rfl) (freads_cons (n := 1) rd_24 (by kernel_rfl) (freads_cons (n := 1) rd_25 (by kernel_rfl) freads_nil rfl) rfl) rfl) rfl) rfl) rfl) rfl) rfl)).map (fun p : (List T_api_Const) × (Int × (Int × (Int × (List Int) × (List T_api_Member) × (List T_api_Member) × (List T_api_Attr) × Unit))) => ({ f_Pool := p.1, f_Flags := p.2.1, f_This := p.2.2.1, f_Super := p.2.2.2.1, f_Interfaces := p.2.2.2.2.1, f_Fields := p.2.2.2.2.2.1, f_Methods := p.2.2.2.2.2.2.1, f_Attributes := p.2.2.2.2.2.2.2.1 } : T_api_File)) (fun _ => rfl) (fun _ h => h)

set_option maxRecDepth 100000 in
theorem contract (H : Type) (enc : TypeId × Value → H) (W : World) (base : Nat) (args : Array Value) (ds gs : List (DataW H)) (before : List MemPlace)
    (hval0 : ∀ (j : Nat) t v, Try.f7.params[j]? = some t → args[j]? = some v → Value.okWide Try.prog W .any base t v)
    (hW : DataW.Whole enc Try.prog Try.f7.params.toList Rows.fileCompleteSpec.vars false W args.toList ds gs before) (hk : Rows.uptoSmall H (ds ++ gs) = true)
    (hsz : (DataW.weightsEach Try.prog (Try.f7.params.toList ++ Rows.fileCompleteSpec.plain.varTypes Try.prog) (ds ++ gs)).all (· ≤ reachBytes) = true) :
    Calls Try.prog 7 args W fun e W' => ∃ v, e = .returned v ∧ Rows.fileCompleteSpec.post enc Try.prog Try.f7 false true false false W args v W' := by
  have hval : ∀ (j : Nat) t v, Try.f7.params[j]? = some t → args[j]? = some v → Value.okWide Try.prog W .any base t v := hval0
  have hW' := hW
  obtain ⟨p, q, hA0, hV, rfl, hfz, hnd⟩ := hW
  have hA : DataW.TrodAll enc Try.prog W 0 (fun _ => true) true Try.f7.params.toList args.toList ds p := hA0
  rw [Try.params7] at hA hval
  obtain ⟨v0, vs0, d0, ds0, p0, q0, hargs, rfl, rfl, h0, r0⟩ := trodAll_cons hA
  obtain ⟨v1, vs1, d1, ds1, p1, q1, rfl, rfl, rfl, h1, r1⟩ := trodAll_cons r0
  obtain ⟨v2, vs2, d2, ds2, p2, q2, rfl, rfl, rfl, h2, r2⟩ := trodAll_cons r1
  obtain ⟨rfl, rfl, rfl⟩ := trodAll_nil r2
  obtain rfl : args = #[v0, v1, v2] := by cases args; simp_all
  obtain ⟨rfl, rfl⟩ := trodVars_none hV
  have hsz2 : (DataW.weightsEach Try.prog (Try.f7.params.toList ++ []) ([d0, d1, d2] ++ [])).all (· ≤ reachBytes) = true := hsz
  rw [Try.params7] at hsz2
  simp only [List.append_nil, DataW.weightsEach, List.all_append, Bool.and_eq_true, List.all_nil, and_true] at hsz2
  obtain ⟨z0, z1, z2⟩ := hsz2
  have hb := of_decide_eq_true hk
  simp only [List.append_nil, Rows.uptoBulkAll] at hb
  have b0 : M.q 27 d0 := ⟨z0, show Rows.uptoBulk d0 ≤ 1048576 by omega⟩
  obtain ⟨y0, c0, g0⟩ := arg_agg (M := M) Try.underlying27 rd_27 (hval 0 27 v0 rfl rfl) h0 b0
  have b1 : M.q 38 d1 := ⟨z1, show Rows.uptoBulk d1 ≤ 1048576 by omega⟩
  obtain ⟨_, rfl⟩ := okWide_int Try.underlying38 (hval 1 38 v1 rfl rfl)
  obtain ⟨y1, c1, g1⟩ := arg_one (M := M) (f := (fun n : Int => D.int .u16 n)) (reads_int (P := Try.prog) Try.underlying38) rfl h1 b1
  have b2 : M.q 9 d2 := ⟨z2, show Rows.uptoBulk d2 ≤ 1048576 by omega⟩
  obtain ⟨_, rfl⟩ := okWide_string Try.underlying9 (hval 2 9 v2 rfl rfl)
  obtain ⟨y2, c2, g2⟩ := arg_one (M := M) (f := (fun s : List UInt8 => D.str s)) (reads_string (P := Try.prog) Try.underlying9) rfl h2 b2
  exact law_post (P := Try.prog) (fn := Try.f7) (tb := 4) rfl (by kernel_rfl) Try.underlying4 laid (by kernel_rfl) hW' rfl (.cons c0 (.cons c1 (.cons c2 .nil))) (w7 (law_FileComplete _ _ _ ⟨fun c hc => (g0.1.1 c hc).2.1, fun m hm => cap_len (Nat.le_of_ble_eq_true (by kernel_rfl)) (g0.2.2.2.2.2.1.1 m hm).2.2.2.1.2, fun m hm => cap_len (Nat.le_of_ble_eq_true (by kernel_rfl)) (g0.2.2.2.2.2.2.1.1 m hm).2.2.2.1.2, fun m hm a ha => ((g0.2.2.2.2.2.1.1 m hm).2.2.2.1.1 a ha).2.1, fun m hm a ha => ((g0.2.2.2.2.2.2.1.1 m hm).2.2.2.1.1 a ha).2.1, fun a ha => (g0.2.2.2.2.2.2.2.1.1 a ha).2.1⟩ (fun c hc => (g0.1.1 c hc).2.2.1) g1))
set_option maxRecDepth 100000 in
theorem lifted (os : Os) (started : os.Started) (H : Type) (enc : TypeId × Value → H) (F : Stop.Interp) :
    ReturnsInHanded {} Try.checked os 7 .any ((Rows.OpenSpec.upto Rows.fileCompleteSpec).pre6 enc Try.prog Try.f7 Rows.fileCompleteUptoRow.domain false) (((Rows.OpenSpec.upto Rows.fileCompleteSpec).at F).post enc Try.prog Try.f7 false true false false) := by
  refine returnsInHanded_of_cond_sized (C := Try.checked) (s := Rows.OpenSpec.upto Rows.fileCompleteSpec) (k := Rows.uptoSmall) rfl own started (by kernel_rfl) Try.func7
    (OpenSpec.witness (enc := enc) (C := Try.checked) (s := Rows.OpenSpec.upto Rows.fileCompleteSpec) (k := Rows.uptoSmall) rfl false ⟨#[], #[.agg #[.slice none 0 0, .int .i64 0, .int .i64 0, .int .i64 0, .slice none 0 0, .slice none 0 0, .slice none 0 0, .slice none 0 0], .int .u16 0, .string ⟨#[]⟩], []⟩ 8 (by kernel_rfl) (by kernel_rfl) (by kernel_rfl)
      (x := ([.agg [.nil, .lit (.int .i64 0), .lit (.int .i64 0), .lit (.int .i64 0), .nil, .nil, .nil, .nil], .lit (.int .u16 0), .lit (.string [])], [], [])) (by kernel_rfl) rfl (by kernel_rfl)) ?_
  intro W base args ds gs before hval hW _ hk hsz _
  exact contract H enc W base args ds gs before hval hW hk hsz

theorem over : Rows.fileCompleteUptoRow.holds Try.pinned (Rows.OpenSpec.upto Rows.fileCompleteSpec) :=
  OpenClaim.holds_of_cond 7 Try.f7 rfl rfl rfl rfl rfl rfl rfl ⟨rfl, rfl, rfl, rfl, rfl⟩ rfl rfl rfl rfl rfl (by kernel_rfl) Try.func7 (by kernel_rfl)
    (of_decide_eq_true (by kernel_rfl)) (by unfold Func.isWrapper; first | (rw [if_pos (by decide +kernel)]; kernel_rfl) | (rw [if_neg (by decide +kernel)]; exact ⟨rfl, rfl⟩))
    (fun os started H enc _ F => lifted os started H enc F)

theorem proved : Rows.FileCompleteUptoSaid :=
  over
#print axioms proved
end Go.Proofs.Ytkooiildghlaaaa.fileComplete
