/-
  No cell of these rows narrows 'for every input' (looked for: loops, veiled, ifaces, maps, wideKeys, modest, calm, conditions, laid).
  DERIVED. THE GIVEN ROWS OF THIS SEAT. 5 by the template 'for every input the law returns true; each argument reads behind the call as it read before'; 0 by the template 'total and deterministic' (their statements: YtbhghodobphdeaaGreatTotals.lean).
  GIVEN WITH THE SEED: the statements are not yours to turn. If you find one false, say at which input.
  Laid BY PROGRAM, IN A SANDBOX (cutbox-rows.mjs): the forced cells as the released guide's own fill.sh prints them over the translation 4639ff212014d72d… (all of the seat's roots in one cut). By AI agents, Wed Nov 11 2026. No macro, syntax, notation, axiom, sorry.
-/
import Derived.Test.YtbhghodobphdeaaGreatChecked
import GoSem.Claim
import GoSem.ClaimJoined
import GoSem.ClaimMapViews
import Derived.JoinedTies
import Derived.KernelRfl
namespace Go.Proofs.YtbhghodobphdeaaGreat
/- THE CELL 'sum', in the pinned program and in every row, IS THE sha256 OF THE DUMP (.gsa) THAT YtbhghodobphdeaaGreatProg.lean LOADS. Nothing in Lean hashes anything: it is a label: what it is worth is what the hold of that sum in a sandbox is worth. -/
noncomputable def Tryz.pinned : Pinned := { name := "ytbhghodobphdeaagreat", sum := "4639ff212014d72db58169ea61d7bf2e2c5d83aa1406b137993bfae1bc1afc0c", checked := Tryz.checked }
namespace Rows
def none {H : Type} : Left H := { results := [], args := [] }

/-- 'armaturelaw32.LayoutReference': WHATEVER THE INPUT: true; the input reads as it did. -/
def layoutReferenceSpec : ChangeSpec := { name := "layoutReference", fn := fun _ => fun
  | [d1, d2, d3] => { results := [.lit (.bool true)], args := [d1, d2, d3] }
  | _ => none }
def layoutReferenceRow : OpenClaim := { program := "ytbhghodobphdeaagreat", sum := "4639ff212014d72db58169ea61d7bf2e2c5d83aa1406b137993bfae1bc1afc0c", func := "armature/armaturelaw32.LayoutReference", spec := "layoutReference", inPlace := ["internal/bytealg.IndexByteString"], unfollowed := true, recurses := true, apart := false }
def LayoutReferenceSaid : Prop := layoutReferenceRow.holds Tryz.pinned (OpenSpec.ofChange layoutReferenceSpec)

/-- ITS FALSE NEIGHBOUR: 'it returns false'. Refute it at one input. -/
def layoutReferenceWrong : ChangeSpec := { name := "layoutReference", fn := fun _ => fun
  | [d1, d2, d3] => { results := [.lit (.bool false)], args := [d1, d2, d3] }
  | _ => none }
def LayoutReferenceWrongFalsely : Prop := layoutReferenceRow.holds Tryz.pinned (OpenSpec.ofChange layoutReferenceWrong)

/-- 'armaturelaw32.LayoutSlotIndex': WHATEVER THE INPUT: true; the input reads as it did. -/
def layoutSlotIndexSpec : ChangeSpec := { name := "layoutSlotIndex", fn := fun _ => fun
  | [d1, d2, d3] => { results := [.lit (.bool true)], args := [d1, d2, d3] }
  | _ => none }
def layoutSlotIndexRow : OpenClaim := { program := "ytbhghodobphdeaagreat", sum := "4639ff212014d72db58169ea61d7bf2e2c5d83aa1406b137993bfae1bc1afc0c", func := "armature/armaturelaw32.LayoutSlotIndex", spec := "layoutSlotIndex", inPlace := ["internal/bytealg.IndexByteString"], unfollowed := true, recurses := true, apart := false }
def LayoutSlotIndexSaid : Prop := layoutSlotIndexRow.holds Tryz.pinned (OpenSpec.ofChange layoutSlotIndexSpec)

/-- ITS FALSE NEIGHBOUR: 'it returns false'. Refute it at one input. -/
def layoutSlotIndexWrong : ChangeSpec := { name := "layoutSlotIndex", fn := fun _ => fun
  | [d1, d2, d3] => { results := [.lit (.bool false)], args := [d1, d2, d3] }
  | _ => none }
def LayoutSlotIndexWrongFalsely : Prop := layoutSlotIndexRow.holds Tryz.pinned (OpenSpec.ofChange layoutSlotIndexWrong)

/-- 'armaturelaw32.LayoutSuperclassPrefix': WHATEVER THE INPUT: true; the input reads as it did. -/
def layoutSuperclassPrefixSpec : ChangeSpec := { name := "layoutSuperclassPrefix", fn := fun _ => fun
  | [d1, d2] => { results := [.lit (.bool true)], args := [d1, d2] }
  | _ => none }
def layoutSuperclassPrefixRow : OpenClaim := { program := "ytbhghodobphdeaagreat", sum := "4639ff212014d72db58169ea61d7bf2e2c5d83aa1406b137993bfae1bc1afc0c", func := "armature/armaturelaw32.LayoutSuperclassPrefix", spec := "layoutSuperclassPrefix", inPlace := ["internal/bytealg.IndexByteString"], unfollowed := true, recurses := true, apart := false }
def LayoutSuperclassPrefixSaid : Prop := layoutSuperclassPrefixRow.holds Tryz.pinned (OpenSpec.ofChange layoutSuperclassPrefixSpec)

/-- ITS FALSE NEIGHBOUR: 'it returns false'. Refute it at one input. -/
def layoutSuperclassPrefixWrong : ChangeSpec := { name := "layoutSuperclassPrefix", fn := fun _ => fun
  | [d1, d2] => { results := [.lit (.bool false)], args := [d1, d2] }
  | _ => none }
def LayoutSuperclassPrefixWrongFalsely : Prop := layoutSuperclassPrefixRow.holds Tryz.pinned (OpenSpec.ofChange layoutSuperclassPrefixWrong)

/-- 'armaturelaw32.LayoutKinds': WHATEVER THE INPUT: true; the input reads as it did. -/
def layoutKindsSpec : ChangeSpec := { name := "layoutKinds", fn := fun _ => fun
  | [d1, d2] => { results := [.lit (.bool true)], args := [d1, d2] }
  | _ => none }
def layoutKindsRow : OpenClaim := { program := "ytbhghodobphdeaagreat", sum := "4639ff212014d72db58169ea61d7bf2e2c5d83aa1406b137993bfae1bc1afc0c", func := "armature/armaturelaw32.LayoutKinds", spec := "layoutKinds", inPlace := ["internal/bytealg.IndexByteString"], unfollowed := true, recurses := true, apart := false }
def LayoutKindsSaid : Prop := layoutKindsRow.holds Tryz.pinned (OpenSpec.ofChange layoutKindsSpec)

/-- ITS FALSE NEIGHBOUR: 'it returns false'. Refute it at one input. -/
def layoutKindsWrong : ChangeSpec := { name := "layoutKinds", fn := fun _ => fun
  | [d1, d2] => { results := [.lit (.bool false)], args := [d1, d2] }
  | _ => none }
def LayoutKindsWrongFalsely : Prop := layoutKindsRow.holds Tryz.pinned (OpenSpec.ofChange layoutKindsWrong)

/-- 'armaturelaw32.LayoutUnique': WHATEVER THE INPUT: true; the input reads as it did. -/
def layoutUniqueSpec : ChangeSpec := { name := "layoutUnique", fn := fun _ => fun
  | [d1, d2, d3, d4] => { results := [.lit (.bool true)], args := [d1, d2, d3, d4] }
  | _ => none }
def layoutUniqueRow : OpenClaim := { program := "ytbhghodobphdeaagreat", sum := "4639ff212014d72db58169ea61d7bf2e2c5d83aa1406b137993bfae1bc1afc0c", func := "armature/armaturelaw32.LayoutUnique", spec := "layoutUnique", inPlace := ["internal/bytealg.IndexByteString"], unfollowed := true, recurses := true, apart := false }
def LayoutUniqueSaid : Prop := layoutUniqueRow.holds Tryz.pinned (OpenSpec.ofChange layoutUniqueSpec)

/-- ITS FALSE NEIGHBOUR: 'it returns false'. Refute it at one input. -/
def layoutUniqueWrong : ChangeSpec := { name := "layoutUnique", fn := fun _ => fun
  | [d1, d2, d3, d4] => { results := [.lit (.bool false)], args := [d1, d2, d3, d4] }
  | _ => none }
def LayoutUniqueWrongFalsely : Prop := layoutUniqueRow.holds Tryz.pinned (OpenSpec.ofChange layoutUniqueWrong)

/- THE SECOND FORM. 'bulk': how many values and letters a reading holds, each counted each time it is reached (what is shared counts as often as it is met; a slice's spare places count too). A statement '..UptoSaid' is the law's where the arguments, and the package variables that the reading takes, are together of bulk at most 1048576: NARROWER than '..Said'. Prove '..Said' where nothing that the law and all that it calls make is longer than what came in: it says more and counts as full. Else prove '..UptoSaid'. A law counts once. -/
mutual
def uptoBulk {H : Type} : DataW H → Nat
  | .lit (.string bytes) => bytes.length + 1
  | .lit _ => 1
  | .nil => 1
  | .ptr d => uptoBulk d + 1
  | .slice elems spare => uptoBulkAll elems + uptoBulkAll spare + 1
  | .agg parts => uptoBulkAll parts + 1
  | .iface _ d => uptoBulk d + 1
  | .map entries => uptoBulkEntries entries + 1
  | .held _ => 1
def uptoBulkAll {H : Type} : List (DataW H) → Nat
  | [] => 0
  | d :: r => uptoBulk d + uptoBulkAll r
def uptoBulkEntries {H : Type} : List (Lit × DataW H) → Nat
  | [] => 0
  | x :: r => uptoBulkEntry x + uptoBulkEntries r
def uptoBulkEntry {H : Type} : Lit × DataW H → Nat
  | (.string bytes, d) => bytes.length + uptoBulk d + 1
  | (_, d) => uptoBulk d + 1
 end
def uptoSmall : (H : Type) → List (DataW H) → Bool := fun _ ds => decide (uptoBulkAll ds ≤ 1048576)
def OpenSpec.upto (s : _root_.Go.ChangeSpec) : _root_.Go.OpenSpec := { _root_.Go.OpenSpec.ofChange s with cond := some uptoSmall }

/-- 'armaturelaw32.LayoutReference', WHERE WHAT IT READS IS OF BULK AT MOST 1048576: true; the input reads as it did. -/
def layoutReferenceUptoRow : OpenClaim := { program := "ytbhghodobphdeaagreat", sum := "4639ff212014d72db58169ea61d7bf2e2c5d83aa1406b137993bfae1bc1afc0c", func := "armature/armaturelaw32.LayoutReference", spec := "layoutReference", inPlace := ["internal/bytealg.IndexByteString"], unfollowed := true, recurses := true, apart := false, narrowed := true }
def LayoutReferenceUptoSaid : Prop := layoutReferenceUptoRow.holds Tryz.pinned (OpenSpec.upto layoutReferenceSpec)

/-- 'armaturelaw32.LayoutSlotIndex', WHERE WHAT IT READS IS OF BULK AT MOST 1048576: true; the input reads as it did. -/
def layoutSlotIndexUptoRow : OpenClaim := { program := "ytbhghodobphdeaagreat", sum := "4639ff212014d72db58169ea61d7bf2e2c5d83aa1406b137993bfae1bc1afc0c", func := "armature/armaturelaw32.LayoutSlotIndex", spec := "layoutSlotIndex", inPlace := ["internal/bytealg.IndexByteString"], unfollowed := true, recurses := true, apart := false, narrowed := true }
def LayoutSlotIndexUptoSaid : Prop := layoutSlotIndexUptoRow.holds Tryz.pinned (OpenSpec.upto layoutSlotIndexSpec)

/-- 'armaturelaw32.LayoutSuperclassPrefix', WHERE WHAT IT READS IS OF BULK AT MOST 1048576: true; the input reads as it did. -/
def layoutSuperclassPrefixUptoRow : OpenClaim := { program := "ytbhghodobphdeaagreat", sum := "4639ff212014d72db58169ea61d7bf2e2c5d83aa1406b137993bfae1bc1afc0c", func := "armature/armaturelaw32.LayoutSuperclassPrefix", spec := "layoutSuperclassPrefix", inPlace := ["internal/bytealg.IndexByteString"], unfollowed := true, recurses := true, apart := false, narrowed := true }
def LayoutSuperclassPrefixUptoSaid : Prop := layoutSuperclassPrefixUptoRow.holds Tryz.pinned (OpenSpec.upto layoutSuperclassPrefixSpec)

/-- 'armaturelaw32.LayoutKinds', WHERE WHAT IT READS IS OF BULK AT MOST 1048576: true; the input reads as it did. -/
def layoutKindsUptoRow : OpenClaim := { program := "ytbhghodobphdeaagreat", sum := "4639ff212014d72db58169ea61d7bf2e2c5d83aa1406b137993bfae1bc1afc0c", func := "armature/armaturelaw32.LayoutKinds", spec := "layoutKinds", inPlace := ["internal/bytealg.IndexByteString"], unfollowed := true, recurses := true, apart := false, narrowed := true }
def LayoutKindsUptoSaid : Prop := layoutKindsUptoRow.holds Tryz.pinned (OpenSpec.upto layoutKindsSpec)

/-- 'armaturelaw32.LayoutUnique', WHERE WHAT IT READS IS OF BULK AT MOST 1048576: true; the input reads as it did. -/
def layoutUniqueUptoRow : OpenClaim := { program := "ytbhghodobphdeaagreat", sum := "4639ff212014d72db58169ea61d7bf2e2c5d83aa1406b137993bfae1bc1afc0c", func := "armature/armaturelaw32.LayoutUnique", spec := "layoutUnique", inPlace := ["internal/bytealg.IndexByteString"], unfollowed := true, recurses := true, apart := false, narrowed := true }
def LayoutUniqueUptoSaid : Prop := layoutUniqueUptoRow.holds Tryz.pinned (OpenSpec.upto layoutUniqueSpec)

end Rows
end Go.Proofs.YtbhghodobphdeaaGreat
