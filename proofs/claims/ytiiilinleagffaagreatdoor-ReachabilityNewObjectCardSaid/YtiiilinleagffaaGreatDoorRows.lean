/-
  NARROWER THAN 'FOR EVERY INPUT', by the rows' own cells (each row's printed sentence says how): ReachabilityReference: laid · ReachabilityLevels: laid · ReachabilityNewObject: laid · ReachabilityRoots: laid.
  DERIVED. THE GIVEN ROWS OF THIS SEAT. 4 by the template 'for every input the law returns true; each argument reads behind the call as it read before'; 0 by the template 'total and deterministic' (their statements: YtiiilinleagffaaGreatDoorTotals.lean).
  GIVEN WITH THE SEED: the statements are not yours to turn. If you find one false, say at which input.
  Laid BY PROGRAM, IN A SANDBOX (cutbox-rows.mjs): the forced cells as the released guide's own fill.sh prints them over the translation 159e6ed1525228ed… (all of the seat's roots in one cut). By AI agents, Wed Nov 11 2026. No macro, syntax, notation, axiom, sorry.
-/
import Derived.Test.YtiiilinleagffaaGreatDoorChecked
import GoSem.Claim
import GoSem.ClaimJoined
import GoSem.ClaimMapViews
import Derived.JoinedTies
import Derived.KernelRfl
namespace Go.Proofs.YtiiilinleagffaaGreatDoor
/- THE CELL 'sum', in the pinned program and in every row, IS THE sha256 OF THE DUMP (.gsa) THAT YtiiilinleagffaaGreatDoorProg.lean LOADS. Nothing in Lean hashes anything: it is a label: what it is worth is what the hold of that sum in a sandbox is worth. -/
noncomputable def Tryz.pinned : Pinned := { name := "ytiiilinleagffaagreatdoor", sum := "159e6ed1525228ed156cf33187335ebb2d57b26cbb417c010cfd7e02bf764347", checked := Tryz.checked }
namespace Rows
def none {H : Type} : Left H := { results := [], args := [] }

/- WHAT THE LISTED PACKAGE-LEVEL VARIABLES READ AS WHEN THE CALL BEGINS. Each datum BY PROGRAM (the guide's laid-datum.mjs) off the statement by which the dump's own 'gosem.cut.vars' lays the variable. In a bare row this is a premise. The card (YtiiilinleagffaaGreatDoorCards.lean) ties it to the program's text. -/
def laid_armature_reachability_references {H : Type} : DataW H := .agg [.lit (.string []), .lit (.string [108, 97, 110, 103, 47, 80, 104, 97, 110, 116, 111, 109, 82, 101, 102, 101, 114, 101, 110, 99, 101]), .lit (.string [108, 97, 110, 103, 47, 87, 101, 97, 107, 82, 101, 102, 101, 114, 101, 110, 99, 101]), .lit (.string [108, 97, 110, 103, 47, 83, 111, 102, 116, 82, 101, 102, 101, 114, 101, 110, 99, 101])]

/-- 'armaturelaw50.ReachabilityReference': WHATEVER THE INPUT: true; the input reads as it did. -/
def reachabilityReferenceSpec : ChangeSpec := { name := "reachabilityReference", fn := fun _ => fun
  | [d1, d2] => { results := [.lit (.bool true)], args := [d1, d2] }
  | _ => none }
def reachabilityReferenceRow : OpenClaim := { program := "ytiiilinleagffaagreatdoor", sum := "159e6ed1525228ed156cf33187335ebb2d57b26cbb417c010cfd7e02bf764347", func := "armature/armaturelaw50.ReachabilityReference", spec := "reachabilityReference", unfollowed := true, recurses := true, named := ["armature/reachability.references"], apart := false, laid := [("armature/reachability.references", laid_armature_reachability_references)] }
def ReachabilityReferenceSaid : Prop := reachabilityReferenceRow.holds Tryz.pinned (OpenSpec.ofChange reachabilityReferenceSpec)

/-- ITS FALSE NEIGHBOUR: 'it returns false'. Refute it at one input. -/
def reachabilityReferenceWrong : ChangeSpec := { name := "reachabilityReference", fn := fun _ => fun
  | [d1, d2] => { results := [.lit (.bool false)], args := [d1, d2] }
  | _ => none }
def ReachabilityReferenceWrongFalsely : Prop := reachabilityReferenceRow.holds Tryz.pinned (OpenSpec.ofChange reachabilityReferenceWrong)

/-- 'armaturelaw50.ReachabilityLevels': WHATEVER THE INPUT: true; the input reads as it did. -/
def reachabilityLevelsSpec : ChangeSpec := { name := "reachabilityLevels", fn := fun _ => fun
  | [d] => { results := [.lit (.bool true)], args := [d] }
  | _ => none }
def reachabilityLevelsRow : OpenClaim := { program := "ytiiilinleagffaagreatdoor", sum := "159e6ed1525228ed156cf33187335ebb2d57b26cbb417c010cfd7e02bf764347", func := "armature/armaturelaw50.ReachabilityLevels", spec := "reachabilityLevels", unfollowed := true, recurses := true, named := ["armature/reachability.references"], apart := false, laid := [("armature/reachability.references", laid_armature_reachability_references)] }
def ReachabilityLevelsSaid : Prop := reachabilityLevelsRow.holds Tryz.pinned (OpenSpec.ofChange reachabilityLevelsSpec)

/-- ITS FALSE NEIGHBOUR: 'it returns false'. Refute it at one input. -/
def reachabilityLevelsWrong : ChangeSpec := { name := "reachabilityLevels", fn := fun _ => fun
  | [d] => { results := [.lit (.bool false)], args := [d] }
  | _ => none }
def ReachabilityLevelsWrongFalsely : Prop := reachabilityLevelsRow.holds Tryz.pinned (OpenSpec.ofChange reachabilityLevelsWrong)

/-- 'armaturelaw50.ReachabilityNewObject': WHATEVER THE INPUT: true; the input reads as it did. -/
def reachabilityNewObjectSpec : ChangeSpec := { name := "reachabilityNewObject", fn := fun _ => fun
  | [d1, d2] => { results := [.lit (.bool true)], args := [d1, d2] }
  | _ => none }
def reachabilityNewObjectRow : OpenClaim := { program := "ytiiilinleagffaagreatdoor", sum := "159e6ed1525228ed156cf33187335ebb2d57b26cbb417c010cfd7e02bf764347", func := "armature/armaturelaw50.ReachabilityNewObject", spec := "reachabilityNewObject", unfollowed := true, recurses := true, named := ["armature/reachability.references"], apart := false, laid := [("armature/reachability.references", laid_armature_reachability_references)] }
def ReachabilityNewObjectSaid : Prop := reachabilityNewObjectRow.holds Tryz.pinned (OpenSpec.ofChange reachabilityNewObjectSpec)

/-- ITS FALSE NEIGHBOUR: 'it returns false'. Refute it at one input. -/
def reachabilityNewObjectWrong : ChangeSpec := { name := "reachabilityNewObject", fn := fun _ => fun
  | [d1, d2] => { results := [.lit (.bool false)], args := [d1, d2] }
  | _ => none }
def ReachabilityNewObjectWrongFalsely : Prop := reachabilityNewObjectRow.holds Tryz.pinned (OpenSpec.ofChange reachabilityNewObjectWrong)

/-- 'armaturelaw50.ReachabilityRoots': WHATEVER THE INPUT: true; the input reads as it did. -/
def reachabilityRootsSpec : ChangeSpec := { name := "reachabilityRoots", fn := fun _ => fun
  | [d] => { results := [.lit (.bool true)], args := [d] }
  | _ => none }
def reachabilityRootsRow : OpenClaim := { program := "ytiiilinleagffaagreatdoor", sum := "159e6ed1525228ed156cf33187335ebb2d57b26cbb417c010cfd7e02bf764347", func := "armature/armaturelaw50.ReachabilityRoots", spec := "reachabilityRoots", unfollowed := true, recurses := true, named := ["armature/reachability.references"], apart := false, laid := [("armature/reachability.references", laid_armature_reachability_references)] }
def ReachabilityRootsSaid : Prop := reachabilityRootsRow.holds Tryz.pinned (OpenSpec.ofChange reachabilityRootsSpec)

/-- ITS FALSE NEIGHBOUR: 'it returns false'. Refute it at one input. -/
def reachabilityRootsWrong : ChangeSpec := { name := "reachabilityRoots", fn := fun _ => fun
  | [d] => { results := [.lit (.bool false)], args := [d] }
  | _ => none }
def ReachabilityRootsWrongFalsely : Prop := reachabilityRootsRow.holds Tryz.pinned (OpenSpec.ofChange reachabilityRootsWrong)

/- THE SECOND FORM. 'bulk': how many values and letters a reading holds, each counted each time it is reached (what is shared counts as often as it is met; a slice's spare places count too). A statement '..UptoSaid' is the law's where the arguments, and the package variables that the reading takes, are together of bulk at most 1048576: NARROWER than '..Said'. Prove '..Said' where nothing that the law and all that it calls make is longer than what came in: it says more and counts as full. Else prove '..UptoSaid'. A law counts once. -/
mutual
def uptoBulk {H : Type} : DataW H → Nat
  | .lit (.string bytes) => bytes.length + 1
  | .lit _ => 1
  | .nil => 1
  | .ptr d => uptoBulk d + 1
  | .slice elems spare => uptoBulkAll elems + uptoBulkAll spare + 1
  | .agg parts => uptoBulkAll parts + 1
  | .iface _ d => uptoBulk d + 1
  | .map entries => uptoBulkEntries entries + 1
  | .held _ => 1
def uptoBulkAll {H : Type} : List (DataW H) → Nat
  | [] => 0
  | d :: r => uptoBulk d + uptoBulkAll r
def uptoBulkEntries {H : Type} : List (Lit × DataW H) → Nat
  | [] => 0
  | x :: r => uptoBulkEntry x + uptoBulkEntries r
def uptoBulkEntry {H : Type} : Lit × DataW H → Nat
  | (.string bytes, d) => bytes.length + uptoBulk d + 1
  | (_, d) => uptoBulk d + 1
 end
def uptoSmall : (H : Type) → List (DataW H) → Bool := fun _ ds => decide (uptoBulkAll ds ≤ 1048576)
def OpenSpec.upto (s : _root_.Go.ChangeSpec) : _root_.Go.OpenSpec := { _root_.Go.OpenSpec.ofChange s with cond := some uptoSmall }

/-- 'armaturelaw50.ReachabilityReference', WHERE WHAT IT READS IS OF BULK AT MOST 1048576: true; the input reads as it did. -/
def reachabilityReferenceUptoRow : OpenClaim := { program := "ytiiilinleagffaagreatdoor", sum := "159e6ed1525228ed156cf33187335ebb2d57b26cbb417c010cfd7e02bf764347", func := "armature/armaturelaw50.ReachabilityReference", spec := "reachabilityReference", unfollowed := true, recurses := true, named := ["armature/reachability.references"], apart := false, laid := [("armature/reachability.references", laid_armature_reachability_references)], narrowed := true }
def ReachabilityReferenceUptoSaid : Prop := reachabilityReferenceUptoRow.holds Tryz.pinned (OpenSpec.upto reachabilityReferenceSpec)

/-- 'armaturelaw50.ReachabilityLevels', WHERE WHAT IT READS IS OF BULK AT MOST 1048576: true; the input reads as it did. -/
def reachabilityLevelsUptoRow : OpenClaim := { program := "ytiiilinleagffaagreatdoor", sum := "159e6ed1525228ed156cf33187335ebb2d57b26cbb417c010cfd7e02bf764347", func := "armature/armaturelaw50.ReachabilityLevels", spec := "reachabilityLevels", unfollowed := true, recurses := true, named := ["armature/reachability.references"], apart := false, laid := [("armature/reachability.references", laid_armature_reachability_references)], narrowed := true }
def ReachabilityLevelsUptoSaid : Prop := reachabilityLevelsUptoRow.holds Tryz.pinned (OpenSpec.upto reachabilityLevelsSpec)

/-- 'armaturelaw50.ReachabilityNewObject', WHERE WHAT IT READS IS OF BULK AT MOST 1048576: true; the input reads as it did. -/
def reachabilityNewObjectUptoRow : OpenClaim := { program := "ytiiilinleagffaagreatdoor", sum := "159e6ed1525228ed156cf33187335ebb2d57b26cbb417c010cfd7e02bf764347", func := "armature/armaturelaw50.ReachabilityNewObject", spec := "reachabilityNewObject", unfollowed := true, recurses := true, named := ["armature/reachability.references"], apart := false, laid := [("armature/reachability.references", laid_armature_reachability_references)], narrowed := true }
def ReachabilityNewObjectUptoSaid : Prop := reachabilityNewObjectUptoRow.holds Tryz.pinned (OpenSpec.upto reachabilityNewObjectSpec)

/-- 'armaturelaw50.ReachabilityRoots', WHERE WHAT IT READS IS OF BULK AT MOST 1048576: true; the input reads as it did. -/
def reachabilityRootsUptoRow : OpenClaim := { program := "ytiiilinleagffaagreatdoor", sum := "159e6ed1525228ed156cf33187335ebb2d57b26cbb417c010cfd7e02bf764347", func := "armature/armaturelaw50.ReachabilityRoots", spec := "reachabilityRoots", unfollowed := true, recurses := true, named := ["armature/reachability.references"], apart := false, laid := [("armature/reachability.references", laid_armature_reachability_references)], narrowed := true }
def ReachabilityRootsUptoSaid : Prop := reachabilityRootsUptoRow.holds Tryz.pinned (OpenSpec.upto reachabilityRootsSpec)

end Rows
end Go.Proofs.YtiiilinleagffaaGreatDoor
