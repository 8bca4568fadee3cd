/-
  No cell of these rows narrows 'for every input' (looked for: loops, veiled, ifaces, maps, wideKeys, modest, calm, conditions, laid).
  DERIVED. THE GIVEN ROWS OF THIS SEAT. 5 by the template 'for every input the law returns true; each argument reads behind the call as it read before'; 0 by the template 'total and deterministic' (their statements: YtoijcliccgjolaaGreatTotals.lean).
  GIVEN WITH THE SEED: the statements are not yours to turn. If you find one false, say at which input.
  Laid BY PROGRAM, IN A SANDBOX (cutbox-rows.mjs): the forced cells as the released guide's own fill.sh prints them over the translation 73fd7d46c845033d… (all of the seat's roots in one cut). By AI agents, Wed Nov 11 2026. No macro, syntax, notation, axiom, sorry.
-/
import Derived.Test.YtoijcliccgjolaaGreatChecked
import GoSem.Claim
import GoSem.ClaimJoined
import GoSem.ClaimMapViews
import Derived.JoinedTies
import Derived.KernelRfl
namespace Go.Proofs.YtoijcliccgjolaaGreat
/- THE CELL 'sum', in the pinned program and in every row, IS THE sha256 OF THE DUMP (.gsa) THAT YtoijcliccgjolaaGreatProg.lean LOADS. Nothing in Lean hashes anything: it is a label: what it is worth is what the hold of that sum in a sandbox is worth. -/
noncomputable def Tryz.pinned : Pinned := { name := "ytoijcliccgjolaagreat", sum := "73fd7d46c845033de5ff2865364bc235265a2c29f41ec86ca2fee93ca9207466", checked := Tryz.checked }
namespace Rows
def none {H : Type} : Left H := { results := [], args := [] }

/-- 'armaturelaw26.ConstraintReference': WHATEVER THE INPUT: true; the input reads as it did. -/
def constraintReferenceSpec : ChangeSpec := { name := "constraintReference", fn := fun _ => fun
  | [d1, d2, d3] => { results := [.lit (.bool true)], args := [d1, d2, d3] }
  | _ => none }
def constraintReferenceRow : OpenClaim := { program := "ytoijcliccgjolaagreat", sum := "73fd7d46c845033de5ff2865364bc235265a2c29f41ec86ca2fee93ca9207466", func := "armature/armaturelaw26.ConstraintReference", spec := "constraintReference", apart := false }
def ConstraintReferenceSaid : Prop := constraintReferenceRow.holds Tryz.pinned (OpenSpec.ofChange constraintReferenceSpec)

/-- ITS FALSE NEIGHBOUR: 'it returns false'. Refute it at one input. -/
def constraintReferenceWrong : ChangeSpec := { name := "constraintReference", fn := fun _ => fun
  | [d1, d2, d3] => { results := [.lit (.bool false)], args := [d1, d2, d3] }
  | _ => none }
def ConstraintReferenceWrongFalsely : Prop := constraintReferenceRow.holds Tryz.pinned (OpenSpec.ofChange constraintReferenceWrong)

/-- 'armaturelaw26.ConstraintConsistent': WHATEVER THE INPUT: true; the input reads as it did. -/
def constraintConsistentSpec : ChangeSpec := { name := "constraintConsistent", fn := fun _ => fun
  | [d] => { results := [.lit (.bool true)], args := [d] }
  | _ => none }
def constraintConsistentRow : OpenClaim := { program := "ytoijcliccgjolaagreat", sum := "73fd7d46c845033de5ff2865364bc235265a2c29f41ec86ca2fee93ca9207466", func := "armature/armaturelaw26.ConstraintConsistent", spec := "constraintConsistent", apart := false }
def ConstraintConsistentSaid : Prop := constraintConsistentRow.holds Tryz.pinned (OpenSpec.ofChange constraintConsistentSpec)

/-- ITS FALSE NEIGHBOUR: 'it returns false'. Refute it at one input. -/
def constraintConsistentWrong : ChangeSpec := { name := "constraintConsistent", fn := fun _ => fun
  | [d] => { results := [.lit (.bool false)], args := [d] }
  | _ => none }
def ConstraintConsistentWrongFalsely : Prop := constraintConsistentRow.holds Tryz.pinned (OpenSpec.ofChange constraintConsistentWrong)

/-- 'armaturelaw26.ConstraintInvariant': WHATEVER THE INPUT: true; the input reads as it did. -/
def constraintInvariantSpec : ChangeSpec := { name := "constraintInvariant", fn := fun _ => fun
  | [d1, d2, d3] => { results := [.lit (.bool true)], args := [d1, d2, d3] }
  | _ => none }
def constraintInvariantRow : OpenClaim := { program := "ytoijcliccgjolaagreat", sum := "73fd7d46c845033de5ff2865364bc235265a2c29f41ec86ca2fee93ca9207466", func := "armature/armaturelaw26.ConstraintInvariant", spec := "constraintInvariant", apart := false }
def ConstraintInvariantSaid : Prop := constraintInvariantRow.holds Tryz.pinned (OpenSpec.ofChange constraintInvariantSpec)

/-- ITS FALSE NEIGHBOUR: 'it returns false'. Refute it at one input. -/
def constraintInvariantWrong : ChangeSpec := { name := "constraintInvariant", fn := fun _ => fun
  | [d1, d2, d3] => { results := [.lit (.bool false)], args := [d1, d2, d3] }
  | _ => none }
def ConstraintInvariantWrongFalsely : Prop := constraintInvariantRow.holds Tryz.pinned (OpenSpec.ofChange constraintInvariantWrong)

/-- 'armaturelaw26.ConstraintOrder': WHATEVER THE INPUT: true; the input reads as it did. -/
def constraintOrderSpec : ChangeSpec := { name := "constraintOrder", fn := fun _ => fun
  | [d1, d2, d3] => { results := [.lit (.bool true)], args := [d1, d2, d3] }
  | _ => none }
def constraintOrderRow : OpenClaim := { program := "ytoijcliccgjolaagreat", sum := "73fd7d46c845033de5ff2865364bc235265a2c29f41ec86ca2fee93ca9207466", func := "armature/armaturelaw26.ConstraintOrder", spec := "constraintOrder", apart := false }
def ConstraintOrderSaid : Prop := constraintOrderRow.holds Tryz.pinned (OpenSpec.ofChange constraintOrderSpec)

/-- ITS FALSE NEIGHBOUR: 'it returns false'. Refute it at one input. -/
def constraintOrderWrong : ChangeSpec := { name := "constraintOrder", fn := fun _ => fun
  | [d1, d2, d3] => { results := [.lit (.bool false)], args := [d1, d2, d3] }
  | _ => none }
def ConstraintOrderWrongFalsely : Prop := constraintOrderRow.holds Tryz.pinned (OpenSpec.ofChange constraintOrderWrong)

/-- 'armaturelaw26.ConstraintAdd': WHATEVER THE INPUT: true; the input reads as it did. -/
def constraintAddSpec : ChangeSpec := { name := "constraintAdd", fn := fun _ => fun
  | [d1, d2, d3] => { results := [.lit (.bool true)], args := [d1, d2, d3] }
  | _ => none }
def constraintAddRow : OpenClaim := { program := "ytoijcliccgjolaagreat", sum := "73fd7d46c845033de5ff2865364bc235265a2c29f41ec86ca2fee93ca9207466", func := "armature/armaturelaw26.ConstraintAdd", spec := "constraintAdd", apart := false }
def ConstraintAddSaid : Prop := constraintAddRow.holds Tryz.pinned (OpenSpec.ofChange constraintAddSpec)

/-- ITS FALSE NEIGHBOUR: 'it returns false'. Refute it at one input. -/
def constraintAddWrong : ChangeSpec := { name := "constraintAdd", fn := fun _ => fun
  | [d1, d2, d3] => { results := [.lit (.bool false)], args := [d1, d2, d3] }
  | _ => none }
def ConstraintAddWrongFalsely : Prop := constraintAddRow.holds Tryz.pinned (OpenSpec.ofChange constraintAddWrong)

/- THE SECOND FORM. 'bulk': how many values and letters a reading holds, each counted each time it is reached (what is shared counts as often as it is met; a slice's spare places count too). A statement '..UptoSaid' is the law's where the arguments, and the package variables that the reading takes, are together of bulk at most 1048576: NARROWER than '..Said'. Prove '..Said' where nothing that the law and all that it calls make is longer than what came in: it says more and counts as full. Else prove '..UptoSaid'. A law counts once. -/
mutual
def uptoBulk {H : Type} : DataW H → Nat
  | .lit (.string bytes) => bytes.length + 1
  | .lit _ => 1
  | .nil => 1
  | .ptr d => uptoBulk d + 1
  | .slice elems spare => uptoBulkAll elems + uptoBulkAll spare + 1
  | .agg parts => uptoBulkAll parts + 1
  | .iface _ d => uptoBulk d + 1
  | .map entries => uptoBulkEntries entries + 1
  | .held _ => 1
def uptoBulkAll {H : Type} : List (DataW H) → Nat
  | [] => 0
  | d :: r => uptoBulk d + uptoBulkAll r
def uptoBulkEntries {H : Type} : List (Lit × DataW H) → Nat
  | [] => 0
  | x :: r => uptoBulkEntry x + uptoBulkEntries r
def uptoBulkEntry {H : Type} : Lit × DataW H → Nat
  | (.string bytes, d) => bytes.length + uptoBulk d + 1
  | (_, d) => uptoBulk d + 1
 end
def uptoSmall : (H : Type) → List (DataW H) → Bool := fun _ ds => decide (uptoBulkAll ds ≤ 1048576)
def OpenSpec.upto (s : _root_.Go.ChangeSpec) : _root_.Go.OpenSpec := { _root_.Go.OpenSpec.ofChange s with cond := some uptoSmall }

/-- 'armaturelaw26.ConstraintReference', WHERE WHAT IT READS IS OF BULK AT MOST 1048576: true; the input reads as it did. -/
def constraintReferenceUptoRow : OpenClaim := { program := "ytoijcliccgjolaagreat", sum := "73fd7d46c845033de5ff2865364bc235265a2c29f41ec86ca2fee93ca9207466", func := "armature/armaturelaw26.ConstraintReference", spec := "constraintReference", apart := false, narrowed := true }
def ConstraintReferenceUptoSaid : Prop := constraintReferenceUptoRow.holds Tryz.pinned (OpenSpec.upto constraintReferenceSpec)

/-- 'armaturelaw26.ConstraintConsistent', WHERE WHAT IT READS IS OF BULK AT MOST 1048576: true; the input reads as it did. -/
def constraintConsistentUptoRow : OpenClaim := { program := "ytoijcliccgjolaagreat", sum := "73fd7d46c845033de5ff2865364bc235265a2c29f41ec86ca2fee93ca9207466", func := "armature/armaturelaw26.ConstraintConsistent", spec := "constraintConsistent", apart := false, narrowed := true }
def ConstraintConsistentUptoSaid : Prop := constraintConsistentUptoRow.holds Tryz.pinned (OpenSpec.upto constraintConsistentSpec)

/-- 'armaturelaw26.ConstraintInvariant', WHERE WHAT IT READS IS OF BULK AT MOST 1048576: true; the input reads as it did. -/
def constraintInvariantUptoRow : OpenClaim := { program := "ytoijcliccgjolaagreat", sum := "73fd7d46c845033de5ff2865364bc235265a2c29f41ec86ca2fee93ca9207466", func := "armature/armaturelaw26.ConstraintInvariant", spec := "constraintInvariant", apart := false, narrowed := true }
def ConstraintInvariantUptoSaid : Prop := constraintInvariantUptoRow.holds Tryz.pinned (OpenSpec.upto constraintInvariantSpec)

/-- 'armaturelaw26.ConstraintOrder', WHERE WHAT IT READS IS OF BULK AT MOST 1048576: true; the input reads as it did. -/
def constraintOrderUptoRow : OpenClaim := { program := "ytoijcliccgjolaagreat", sum := "73fd7d46c845033de5ff2865364bc235265a2c29f41ec86ca2fee93ca9207466", func := "armature/armaturelaw26.ConstraintOrder", spec := "constraintOrder", apart := false, narrowed := true }
def ConstraintOrderUptoSaid : Prop := constraintOrderUptoRow.holds Tryz.pinned (OpenSpec.upto constraintOrderSpec)

/-- 'armaturelaw26.ConstraintAdd', WHERE WHAT IT READS IS OF BULK AT MOST 1048576: true; the input reads as it did. -/
def constraintAddUptoRow : OpenClaim := { program := "ytoijcliccgjolaagreat", sum := "73fd7d46c845033de5ff2865364bc235265a2c29f41ec86ca2fee93ca9207466", func := "armature/armaturelaw26.ConstraintAdd", spec := "constraintAdd", apart := false, narrowed := true }
def ConstraintAddUptoSaid : Prop := constraintAddUptoRow.holds Tryz.pinned (OpenSpec.upto constraintAddSpec)

end Rows
end Go.Proofs.YtoijcliccgjolaaGreat
