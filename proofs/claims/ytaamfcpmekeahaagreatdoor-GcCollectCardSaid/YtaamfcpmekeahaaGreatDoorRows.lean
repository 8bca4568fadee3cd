/-
  NARROWER THAN 'FOR EVERY INPUT', by the rows' own cells (each row's printed sentence says how): GcReports: laid · GcCollect: laid · GcIdempotent: laid · GcSafety: laid · GcSoftReferences: laid.
  DERIVED. THE GIVEN ROWS OF THIS SEAT. 5 by the template 'for every input the law returns true; each argument reads behind the call as it read before'; 0 by the template 'total and deterministic' (their statements: YtaamfcpmekeahaaGreatDoorTotals.lean).
  GIVEN WITH THE SEED: the statements are not yours to turn. If you find one false, say at which input.
  Laid BY PROGRAM, IN A SANDBOX (cutbox-rows.mjs): the forced cells as the released guide's own fill.sh prints them over the translation 8e03f8417daa0f54… (all of the seat's roots in one cut). By AI agents, Wed Nov 11 2026. No macro, syntax, notation, axiom, sorry.
-/
import Derived.Test.YtaamfcpmekeahaaGreatDoorChecked
import GoSem.Claim
import GoSem.ClaimJoined
import GoSem.ClaimMapViews
import Derived.JoinedTies
import Derived.KernelRfl
namespace Go.Proofs.YtaamfcpmekeahaaGreatDoor
/- THE CELL 'sum', in the pinned program and in every row, IS THE sha256 OF THE DUMP (.gsa) THAT YtaamfcpmekeahaaGreatDoorProg.lean LOADS. Nothing in Lean hashes anything: it is a label: what it is worth is what the hold of that sum in a sandbox is worth. -/
noncomputable def Tryz.pinned : Pinned := { name := "ytaamfcpmekeahaagreatdoor", sum := "8e03f8417daa0f542b46960da37e56e09758bb2263c35ed6ad684f9af864dea1", checked := Tryz.checked }
namespace Rows
def none {H : Type} : Left H := { results := [], args := [] }

/- WHAT THE LISTED PACKAGE-LEVEL VARIABLES READ AS WHEN THE CALL BEGINS. Each datum BY PROGRAM (the guide's laid-datum.mjs) off the statement by which the dump's own 'gosem.cut.vars' lays the variable. In a bare row this is a premise. The card (YtaamfcpmekeahaaGreatDoorCards.lean) ties it to the program's text. -/
def laid_armature_reachability_references {H : Type} : DataW H := .agg [.lit (.string []), .lit (.string [108, 97, 110, 103, 47, 80, 104, 97, 110, 116, 111, 109, 82, 101, 102, 101, 114, 101, 110, 99, 101]), .lit (.string [108, 97, 110, 103, 47, 87, 101, 97, 107, 82, 101, 102, 101, 114, 101, 110, 99, 101]), .lit (.string [108, 97, 110, 103, 47, 83, 111, 102, 116, 82, 101, 102, 101, 114, 101, 110, 99, 101])]

/-- 'armaturelaw51.GcReports': WHATEVER THE INPUT: true; the input reads as it did. -/
def gcReportsSpec : ChangeSpec := { name := "gcReports", fn := fun _ => fun
  | [d1, d2, d3] => { results := [.lit (.bool true)], args := [d1, d2, d3] }
  | _ => none }
def gcReportsRow : OpenClaim := { program := "ytaamfcpmekeahaagreatdoor", sum := "8e03f8417daa0f542b46960da37e56e09758bb2263c35ed6ad684f9af864dea1", func := "armature/armaturelaw51.GcReports", spec := "gcReports", unfollowed := true, recurses := true, named := ["armature/reachability.references"], apart := false, laid := [("armature/reachability.references", laid_armature_reachability_references)] }
def GcReportsSaid : Prop := gcReportsRow.holds Tryz.pinned (OpenSpec.ofChange gcReportsSpec)

/-- ITS FALSE NEIGHBOUR: 'it returns false'. Refute it at one input. -/
def gcReportsWrong : ChangeSpec := { name := "gcReports", fn := fun _ => fun
  | [d1, d2, d3] => { results := [.lit (.bool false)], args := [d1, d2, d3] }
  | _ => none }
def GcReportsWrongFalsely : Prop := gcReportsRow.holds Tryz.pinned (OpenSpec.ofChange gcReportsWrong)

/-- 'armaturelaw51.GcCollect': WHATEVER THE INPUT: true; the input reads as it did. -/
def gcCollectSpec : ChangeSpec := { name := "gcCollect", fn := fun _ => fun
  | [d1, d2] => { results := [.lit (.bool true)], args := [d1, d2] }
  | _ => none }
def gcCollectRow : OpenClaim := { program := "ytaamfcpmekeahaagreatdoor", sum := "8e03f8417daa0f542b46960da37e56e09758bb2263c35ed6ad684f9af864dea1", func := "armature/armaturelaw51.GcCollect", spec := "gcCollect", unfollowed := true, recurses := true, named := ["armature/reachability.references"], apart := false, laid := [("armature/reachability.references", laid_armature_reachability_references)] }
def GcCollectSaid : Prop := gcCollectRow.holds Tryz.pinned (OpenSpec.ofChange gcCollectSpec)

/-- ITS FALSE NEIGHBOUR: 'it returns false'. Refute it at one input. -/
def gcCollectWrong : ChangeSpec := { name := "gcCollect", fn := fun _ => fun
  | [d1, d2] => { results := [.lit (.bool false)], args := [d1, d2] }
  | _ => none }
def GcCollectWrongFalsely : Prop := gcCollectRow.holds Tryz.pinned (OpenSpec.ofChange gcCollectWrong)

/-- 'armaturelaw51.GcIdempotent': WHATEVER THE INPUT: true; the input reads as it did. -/
def gcIdempotentSpec : ChangeSpec := { name := "gcIdempotent", fn := fun _ => fun
  | [d1, d2] => { results := [.lit (.bool true)], args := [d1, d2] }
  | _ => none }
def gcIdempotentRow : OpenClaim := { program := "ytaamfcpmekeahaagreatdoor", sum := "8e03f8417daa0f542b46960da37e56e09758bb2263c35ed6ad684f9af864dea1", func := "armature/armaturelaw51.GcIdempotent", spec := "gcIdempotent", unfollowed := true, recurses := true, named := ["armature/reachability.references"], apart := false, laid := [("armature/reachability.references", laid_armature_reachability_references)] }
def GcIdempotentSaid : Prop := gcIdempotentRow.holds Tryz.pinned (OpenSpec.ofChange gcIdempotentSpec)

/-- ITS FALSE NEIGHBOUR: 'it returns false'. Refute it at one input. -/
def gcIdempotentWrong : ChangeSpec := { name := "gcIdempotent", fn := fun _ => fun
  | [d1, d2] => { results := [.lit (.bool false)], args := [d1, d2] }
  | _ => none }
def GcIdempotentWrongFalsely : Prop := gcIdempotentRow.holds Tryz.pinned (OpenSpec.ofChange gcIdempotentWrong)

/-- 'armaturelaw51.GcSafety': WHATEVER THE INPUT: true; the input reads as it did. -/
def gcSafetySpec : ChangeSpec := { name := "gcSafety", fn := fun _ => fun
  | [d1, d2] => { results := [.lit (.bool true)], args := [d1, d2] }
  | _ => none }
def gcSafetyRow : OpenClaim := { program := "ytaamfcpmekeahaagreatdoor", sum := "8e03f8417daa0f542b46960da37e56e09758bb2263c35ed6ad684f9af864dea1", func := "armature/armaturelaw51.GcSafety", spec := "gcSafety", unfollowed := true, recurses := true, named := ["armature/reachability.references"], apart := false, laid := [("armature/reachability.references", laid_armature_reachability_references)] }
def GcSafetySaid : Prop := gcSafetyRow.holds Tryz.pinned (OpenSpec.ofChange gcSafetySpec)

/-- ITS FALSE NEIGHBOUR: 'it returns false'. Refute it at one input. -/
def gcSafetyWrong : ChangeSpec := { name := "gcSafety", fn := fun _ => fun
  | [d1, d2] => { results := [.lit (.bool false)], args := [d1, d2] }
  | _ => none }
def GcSafetyWrongFalsely : Prop := gcSafetyRow.holds Tryz.pinned (OpenSpec.ofChange gcSafetyWrong)

/-- 'armaturelaw51.GcSoftReferences': WHATEVER THE INPUT: true; the input reads as it did. -/
def gcSoftReferencesSpec : ChangeSpec := { name := "gcSoftReferences", fn := fun _ => fun
  | [d] => { results := [.lit (.bool true)], args := [d] }
  | _ => none }
def gcSoftReferencesRow : OpenClaim := { program := "ytaamfcpmekeahaagreatdoor", sum := "8e03f8417daa0f542b46960da37e56e09758bb2263c35ed6ad684f9af864dea1", func := "armature/armaturelaw51.GcSoftReferences", spec := "gcSoftReferences", unfollowed := true, recurses := true, named := ["armature/reachability.references"], apart := false, laid := [("armature/reachability.references", laid_armature_reachability_references)] }
def GcSoftReferencesSaid : Prop := gcSoftReferencesRow.holds Tryz.pinned (OpenSpec.ofChange gcSoftReferencesSpec)

/-- ITS FALSE NEIGHBOUR: 'it returns false'. Refute it at one input. -/
def gcSoftReferencesWrong : ChangeSpec := { name := "gcSoftReferences", fn := fun _ => fun
  | [d] => { results := [.lit (.bool false)], args := [d] }
  | _ => none }
def GcSoftReferencesWrongFalsely : Prop := gcSoftReferencesRow.holds Tryz.pinned (OpenSpec.ofChange gcSoftReferencesWrong)

/- THE SECOND FORM. 'bulk': how many values and letters a reading holds, each counted each time it is reached (what is shared counts as often as it is met; a slice's spare places count too). A statement '..UptoSaid' is the law's where the arguments, and the package variables that the reading takes, are together of bulk at most 1048576: NARROWER than '..Said'. Prove '..Said' where nothing that the law and all that it calls make is longer than what came in: it says more and counts as full. Else prove '..UptoSaid'. A law counts once. -/
mutual
def uptoBulk {H : Type} : DataW H → Nat
  | .lit (.string bytes) => bytes.length + 1
  | .lit _ => 1
  | .nil => 1
  | .ptr d => uptoBulk d + 1
  | .slice elems spare => uptoBulkAll elems + uptoBulkAll spare + 1
  | .agg parts => uptoBulkAll parts + 1
  | .iface _ d => uptoBulk d + 1
  | .map entries => uptoBulkEntries entries + 1
  | .held _ => 1
def uptoBulkAll {H : Type} : List (DataW H) → Nat
  | [] => 0
  | d :: r => uptoBulk d + uptoBulkAll r
def uptoBulkEntries {H : Type} : List (Lit × DataW H) → Nat
  | [] => 0
  | x :: r => uptoBulkEntry x + uptoBulkEntries r
def uptoBulkEntry {H : Type} : Lit × DataW H → Nat
  | (.string bytes, d) => bytes.length + uptoBulk d + 1
  | (_, d) => uptoBulk d + 1
 end
def uptoSmall : (H : Type) → List (DataW H) → Bool := fun _ ds => decide (uptoBulkAll ds ≤ 1048576)
def OpenSpec.upto (s : _root_.Go.ChangeSpec) : _root_.Go.OpenSpec := { _root_.Go.OpenSpec.ofChange s with cond := some uptoSmall }

/-- 'armaturelaw51.GcReports', WHERE WHAT IT READS IS OF BULK AT MOST 1048576: true; the input reads as it did. -/
def gcReportsUptoRow : OpenClaim := { program := "ytaamfcpmekeahaagreatdoor", sum := "8e03f8417daa0f542b46960da37e56e09758bb2263c35ed6ad684f9af864dea1", func := "armature/armaturelaw51.GcReports", spec := "gcReports", unfollowed := true, recurses := true, named := ["armature/reachability.references"], apart := false, laid := [("armature/reachability.references", laid_armature_reachability_references)], narrowed := true }
def GcReportsUptoSaid : Prop := gcReportsUptoRow.holds Tryz.pinned (OpenSpec.upto gcReportsSpec)

/-- 'armaturelaw51.GcCollect', WHERE WHAT IT READS IS OF BULK AT MOST 1048576: true; the input reads as it did. -/
def gcCollectUptoRow : OpenClaim := { program := "ytaamfcpmekeahaagreatdoor", sum := "8e03f8417daa0f542b46960da37e56e09758bb2263c35ed6ad684f9af864dea1", func := "armature/armaturelaw51.GcCollect", spec := "gcCollect", unfollowed := true, recurses := true, named := ["armature/reachability.references"], apart := false, laid := [("armature/reachability.references", laid_armature_reachability_references)], narrowed := true }
def GcCollectUptoSaid : Prop := gcCollectUptoRow.holds Tryz.pinned (OpenSpec.upto gcCollectSpec)

/-- 'armaturelaw51.GcIdempotent', WHERE WHAT IT READS IS OF BULK AT MOST 1048576: true; the input reads as it did. -/
def gcIdempotentUptoRow : OpenClaim := { program := "ytaamfcpmekeahaagreatdoor", sum := "8e03f8417daa0f542b46960da37e56e09758bb2263c35ed6ad684f9af864dea1", func := "armature/armaturelaw51.GcIdempotent", spec := "gcIdempotent", unfollowed := true, recurses := true, named := ["armature/reachability.references"], apart := false, laid := [("armature/reachability.references", laid_armature_reachability_references)], narrowed := true }
def GcIdempotentUptoSaid : Prop := gcIdempotentUptoRow.holds Tryz.pinned (OpenSpec.upto gcIdempotentSpec)

/-- 'armaturelaw51.GcSafety', WHERE WHAT IT READS IS OF BULK AT MOST 1048576: true; the input reads as it did. -/
def gcSafetyUptoRow : OpenClaim := { program := "ytaamfcpmekeahaagreatdoor", sum := "8e03f8417daa0f542b46960da37e56e09758bb2263c35ed6ad684f9af864dea1", func := "armature/armaturelaw51.GcSafety", spec := "gcSafety", unfollowed := true, recurses := true, named := ["armature/reachability.references"], apart := false, laid := [("armature/reachability.references", laid_armature_reachability_references)], narrowed := true }
def GcSafetyUptoSaid : Prop := gcSafetyUptoRow.holds Tryz.pinned (OpenSpec.upto gcSafetySpec)

/-- 'armaturelaw51.GcSoftReferences', WHERE WHAT IT READS IS OF BULK AT MOST 1048576: true; the input reads as it did. -/
def gcSoftReferencesUptoRow : OpenClaim := { program := "ytaamfcpmekeahaagreatdoor", sum := "8e03f8417daa0f542b46960da37e56e09758bb2263c35ed6ad684f9af864dea1", func := "armature/armaturelaw51.GcSoftReferences", spec := "gcSoftReferences", unfollowed := true, recurses := true, named := ["armature/reachability.references"], apart := false, laid := [("armature/reachability.references", laid_armature_reachability_references)], narrowed := true }
def GcSoftReferencesUptoSaid : Prop := gcSoftReferencesUptoRow.holds Tryz.pinned (OpenSpec.upto gcSoftReferencesSpec)

end Rows
end Go.Proofs.YtaamfcpmekeahaaGreatDoor
