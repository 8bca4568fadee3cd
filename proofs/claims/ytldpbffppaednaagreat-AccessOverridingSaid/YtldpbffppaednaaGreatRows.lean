/-
  No cell of these rows narrows 'for every input' (looked for: loops, veiled, ifaces, maps, wideKeys, modest, calm, conditions, laid).
  DERIVED. THE GIVEN ROWS OF THIS SEAT. 5 by the template 'for every input the law returns true; each argument reads behind the call as it read before'; 0 by the template 'total and deterministic' (their statements: YtldpbffppaednaaGreatTotals.lean).
  GIVEN WITH THE SEED: the statements are not yours to turn. If you find one false, say at which input.
  Laid BY PROGRAM, IN A SANDBOX (cutbox-rows.mjs): the forced cells as the released guide's own fill.sh prints them over the translation 6ac556f474afaa46… (all of the seat's roots in one cut). By AI agents, Wed Nov 11 2026. No macro, syntax, notation, axiom, sorry.
-/
import Derived.Test.YtldpbffppaednaaGreatChecked
import GoSem.Claim
import GoSem.ClaimJoined
import GoSem.ClaimMapViews
import Derived.JoinedTies
import Derived.KernelRfl
namespace Go.Proofs.YtldpbffppaednaaGreat
/- THE CELL 'sum', in the pinned program and in every row, IS THE sha256 OF THE DUMP (.gsa) THAT YtldpbffppaednaaGreatProg.lean LOADS. Nothing in Lean hashes anything: it is a label: what it is worth is what the hold of that sum in a sandbox is worth. -/
noncomputable def Tryz.pinned : Pinned := { name := "ytldpbffppaednaagreat", sum := "6ac556f474afaa46a83578be3f8ea60324736c593869650c7cebf5025e9e7208", checked := Tryz.checked }
namespace Rows
def none {H : Type} : Left H := { results := [], args := [] }

/-- 'armaturelaw29.AccessReference': WHATEVER THE INPUT: true; the input reads as it did. -/
def accessReferenceSpec : ChangeSpec := { name := "accessReference", fn := fun _ => fun
  | [d1, d2, d3, d4] => { results := [.lit (.bool true)], args := [d1, d2, d3, d4] }
  | _ => none }
def accessReferenceRow : OpenClaim := { program := "ytldpbffppaednaagreat", sum := "6ac556f474afaa46a83578be3f8ea60324736c593869650c7cebf5025e9e7208", func := "armature/armaturelaw29.AccessReference", spec := "accessReference", apart := false }
def AccessReferenceSaid : Prop := accessReferenceRow.holds Tryz.pinned (OpenSpec.ofChange accessReferenceSpec)

/-- ITS FALSE NEIGHBOUR: 'it returns false'. Refute it at one input. -/
def accessReferenceWrong : ChangeSpec := { name := "accessReference", fn := fun _ => fun
  | [d1, d2, d3, d4] => { results := [.lit (.bool false)], args := [d1, d2, d3, d4] }
  | _ => none }
def AccessReferenceWrongFalsely : Prop := accessReferenceRow.holds Tryz.pinned (OpenSpec.ofChange accessReferenceWrong)

/-- 'armaturelaw29.AccessOwnMembers': WHATEVER THE INPUT: true; the input reads as it did. -/
def accessOwnMembersSpec : ChangeSpec := { name := "accessOwnMembers", fn := fun _ => fun
  | [d1, d2, d3, d4] => { results := [.lit (.bool true)], args := [d1, d2, d3, d4] }
  | _ => none }
def accessOwnMembersRow : OpenClaim := { program := "ytldpbffppaednaagreat", sum := "6ac556f474afaa46a83578be3f8ea60324736c593869650c7cebf5025e9e7208", func := "armature/armaturelaw29.AccessOwnMembers", spec := "accessOwnMembers", apart := false }
def AccessOwnMembersSaid : Prop := accessOwnMembersRow.holds Tryz.pinned (OpenSpec.ofChange accessOwnMembersSpec)

/-- ITS FALSE NEIGHBOUR: 'it returns false'. Refute it at one input. -/
def accessOwnMembersWrong : ChangeSpec := { name := "accessOwnMembers", fn := fun _ => fun
  | [d1, d2, d3, d4] => { results := [.lit (.bool false)], args := [d1, d2, d3, d4] }
  | _ => none }
def AccessOwnMembersWrongFalsely : Prop := accessOwnMembersRow.holds Tryz.pinned (OpenSpec.ofChange accessOwnMembersWrong)

/-- 'armaturelaw29.AccessMonotone': WHATEVER THE INPUT: true; the input reads as it did. -/
def accessMonotoneSpec : ChangeSpec := { name := "accessMonotone", fn := fun _ => fun
  | [d1, d2, d3] => { results := [.lit (.bool true)], args := [d1, d2, d3] }
  | _ => none }
def accessMonotoneRow : OpenClaim := { program := "ytldpbffppaednaagreat", sum := "6ac556f474afaa46a83578be3f8ea60324736c593869650c7cebf5025e9e7208", func := "armature/armaturelaw29.AccessMonotone", spec := "accessMonotone", apart := false }
def AccessMonotoneSaid : Prop := accessMonotoneRow.holds Tryz.pinned (OpenSpec.ofChange accessMonotoneSpec)

/-- ITS FALSE NEIGHBOUR: 'it returns false'. Refute it at one input. -/
def accessMonotoneWrong : ChangeSpec := { name := "accessMonotone", fn := fun _ => fun
  | [d1, d2, d3] => { results := [.lit (.bool false)], args := [d1, d2, d3] }
  | _ => none }
def AccessMonotoneWrongFalsely : Prop := accessMonotoneRow.holds Tryz.pinned (OpenSpec.ofChange accessMonotoneWrong)

/-- 'armaturelaw29.AccessPackages': WHATEVER THE INPUT: true; the input reads as it did. -/
def accessPackagesSpec : ChangeSpec := { name := "accessPackages", fn := fun _ => fun
  | [d1, d2, d3, d4] => { results := [.lit (.bool true)], args := [d1, d2, d3, d4] }
  | _ => none }
def accessPackagesRow : OpenClaim := { program := "ytldpbffppaednaagreat", sum := "6ac556f474afaa46a83578be3f8ea60324736c593869650c7cebf5025e9e7208", func := "armature/armaturelaw29.AccessPackages", spec := "accessPackages", apart := false }
def AccessPackagesSaid : Prop := accessPackagesRow.holds Tryz.pinned (OpenSpec.ofChange accessPackagesSpec)

/-- ITS FALSE NEIGHBOUR: 'it returns false'. Refute it at one input. -/
def accessPackagesWrong : ChangeSpec := { name := "accessPackages", fn := fun _ => fun
  | [d1, d2, d3, d4] => { results := [.lit (.bool false)], args := [d1, d2, d3, d4] }
  | _ => none }
def AccessPackagesWrongFalsely : Prop := accessPackagesRow.holds Tryz.pinned (OpenSpec.ofChange accessPackagesWrong)

/-- 'armaturelaw29.AccessOverriding': WHATEVER THE INPUT: true; the input reads as it did. -/
def accessOverridingSpec : ChangeSpec := { name := "accessOverriding", fn := fun _ => fun
  | [d1, d2, d3] => { results := [.lit (.bool true)], args := [d1, d2, d3] }
  | _ => none }
def accessOverridingRow : OpenClaim := { program := "ytldpbffppaednaagreat", sum := "6ac556f474afaa46a83578be3f8ea60324736c593869650c7cebf5025e9e7208", func := "armature/armaturelaw29.AccessOverriding", spec := "accessOverriding", apart := false }
def AccessOverridingSaid : Prop := accessOverridingRow.holds Tryz.pinned (OpenSpec.ofChange accessOverridingSpec)

/-- ITS FALSE NEIGHBOUR: 'it returns false'. Refute it at one input. -/
def accessOverridingWrong : ChangeSpec := { name := "accessOverriding", fn := fun _ => fun
  | [d1, d2, d3] => { results := [.lit (.bool false)], args := [d1, d2, d3] }
  | _ => none }
def AccessOverridingWrongFalsely : Prop := accessOverridingRow.holds Tryz.pinned (OpenSpec.ofChange accessOverridingWrong)

/- THE SECOND FORM. 'bulk': how many values and letters a reading holds, each counted each time it is reached (what is shared counts as often as it is met; a slice's spare places count too). A statement '..UptoSaid' is the law's where the arguments, and the package variables that the reading takes, are together of bulk at most 1048576: NARROWER than '..Said'. Prove '..Said' where nothing that the law and all that it calls make is longer than what came in: it says more and counts as full. Else prove '..UptoSaid'. A law counts once. -/
mutual
def uptoBulk {H : Type} : DataW H → Nat
  | .lit (.string bytes) => bytes.length + 1
  | .lit _ => 1
  | .nil => 1
  | .ptr d => uptoBulk d + 1
  | .slice elems spare => uptoBulkAll elems + uptoBulkAll spare + 1
  | .agg parts => uptoBulkAll parts + 1
  | .iface _ d => uptoBulk d + 1
  | .map entries => uptoBulkEntries entries + 1
  | .held _ => 1
def uptoBulkAll {H : Type} : List (DataW H) → Nat
  | [] => 0
  | d :: r => uptoBulk d + uptoBulkAll r
def uptoBulkEntries {H : Type} : List (Lit × DataW H) → Nat
  | [] => 0
  | x :: r => uptoBulkEntry x + uptoBulkEntries r
def uptoBulkEntry {H : Type} : Lit × DataW H → Nat
  | (.string bytes, d) => bytes.length + uptoBulk d + 1
  | (_, d) => uptoBulk d + 1
 end
def uptoSmall : (H : Type) → List (DataW H) → Bool := fun _ ds => decide (uptoBulkAll ds ≤ 1048576)
def OpenSpec.upto (s : _root_.Go.ChangeSpec) : _root_.Go.OpenSpec := { _root_.Go.OpenSpec.ofChange s with cond := some uptoSmall }

/-- 'armaturelaw29.AccessReference', WHERE WHAT IT READS IS OF BULK AT MOST 1048576: true; the input reads as it did. -/
def accessReferenceUptoRow : OpenClaim := { program := "ytldpbffppaednaagreat", sum := "6ac556f474afaa46a83578be3f8ea60324736c593869650c7cebf5025e9e7208", func := "armature/armaturelaw29.AccessReference", spec := "accessReference", apart := false, narrowed := true }
def AccessReferenceUptoSaid : Prop := accessReferenceUptoRow.holds Tryz.pinned (OpenSpec.upto accessReferenceSpec)

/-- 'armaturelaw29.AccessOwnMembers', WHERE WHAT IT READS IS OF BULK AT MOST 1048576: true; the input reads as it did. -/
def accessOwnMembersUptoRow : OpenClaim := { program := "ytldpbffppaednaagreat", sum := "6ac556f474afaa46a83578be3f8ea60324736c593869650c7cebf5025e9e7208", func := "armature/armaturelaw29.AccessOwnMembers", spec := "accessOwnMembers", apart := false, narrowed := true }
def AccessOwnMembersUptoSaid : Prop := accessOwnMembersUptoRow.holds Tryz.pinned (OpenSpec.upto accessOwnMembersSpec)

/-- 'armaturelaw29.AccessMonotone', WHERE WHAT IT READS IS OF BULK AT MOST 1048576: true; the input reads as it did. -/
def accessMonotoneUptoRow : OpenClaim := { program := "ytldpbffppaednaagreat", sum := "6ac556f474afaa46a83578be3f8ea60324736c593869650c7cebf5025e9e7208", func := "armature/armaturelaw29.AccessMonotone", spec := "accessMonotone", apart := false, narrowed := true }
def AccessMonotoneUptoSaid : Prop := accessMonotoneUptoRow.holds Tryz.pinned (OpenSpec.upto accessMonotoneSpec)

/-- 'armaturelaw29.AccessPackages', WHERE WHAT IT READS IS OF BULK AT MOST 1048576: true; the input reads as it did. -/
def accessPackagesUptoRow : OpenClaim := { program := "ytldpbffppaednaagreat", sum := "6ac556f474afaa46a83578be3f8ea60324736c593869650c7cebf5025e9e7208", func := "armature/armaturelaw29.AccessPackages", spec := "accessPackages", apart := false, narrowed := true }
def AccessPackagesUptoSaid : Prop := accessPackagesUptoRow.holds Tryz.pinned (OpenSpec.upto accessPackagesSpec)

/-- 'armaturelaw29.AccessOverriding', WHERE WHAT IT READS IS OF BULK AT MOST 1048576: true; the input reads as it did. -/
def accessOverridingUptoRow : OpenClaim := { program := "ytldpbffppaednaagreat", sum := "6ac556f474afaa46a83578be3f8ea60324736c593869650c7cebf5025e9e7208", func := "armature/armaturelaw29.AccessOverriding", spec := "accessOverriding", apart := false, narrowed := true }
def AccessOverridingUptoSaid : Prop := accessOverridingUptoRow.holds Tryz.pinned (OpenSpec.upto accessOverridingSpec)

end Rows
end Go.Proofs.YtldpbffppaednaaGreat
