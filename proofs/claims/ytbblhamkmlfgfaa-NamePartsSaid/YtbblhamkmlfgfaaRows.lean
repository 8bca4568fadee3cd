/-
  No cell of these rows narrows 'for every input' (looked for: loops, veiled, ifaces, maps, wideKeys, modest, calm, conditions, laid).
  DERIVED. THE GIVEN ROWS OF THIS SEAT. 4 by the template 'for every input the law returns true; each argument reads behind the call as it read before'; 0 by the template 'total and deterministic' (their statements: YtbblhamkmlfgfaaTotals.lean).
  GIVEN WITH THE SEED: the statements are not yours to turn. If you find one false, say at which input.
  Laid BY PROGRAM, IN A SANDBOX (cutbox-rows.mjs): the forced cells as the released guide's own fill.sh prints them over the translation cccec2ad4c073a26… (all of the seat's roots in one cut). By AI agents, Wed Nov 11 2026. No macro, syntax, notation, axiom, sorry.
-/
import Derived.Test.YtbblhamkmlfgfaaChecked
import GoSem.Claim
import GoSem.ClaimJoined
import GoSem.ClaimMapViews
import Derived.JoinedTies
import Derived.KernelRfl
namespace Go.Proofs.Ytbblhamkmlfgfaa
/- THE CELL 'sum', in the pinned program and in every row, IS THE sha256 OF THE DUMP (.gsa) THAT YtbblhamkmlfgfaaProg.lean LOADS. Nothing in Lean hashes anything: it is a label: what it is worth is what the hold of that sum in a sandbox is worth. -/
noncomputable def Try.pinned : Pinned := { name := "ytbblhamkmlfgfaa", sum := "cccec2ad4c073a260aff9454759865c1ebeb51d2f0a5a207d8294eac3b6ecd9d", checked := Try.checked }
namespace Rows
def none {H : Type} : Left H := { results := [], args := [] }

/-- 'armaturelaw03.NameValidity': WHATEVER THE INPUT: true; the input reads as it did. -/
def nameValiditySpec : ChangeSpec := { name := "nameValidity", fn := fun _ => fun
  | [d1, d2] => { results := [.lit (.bool true)], args := [d1, d2] }
  | _ => none }
def nameValidityRow : OpenClaim := { program := "ytbblhamkmlfgfaa", sum := "cccec2ad4c073a260aff9454759865c1ebeb51d2f0a5a207d8294eac3b6ecd9d", func := "armature/armaturelaw03.NameValidity", spec := "nameValidity", inPlace := ["internal/bytealg.IndexByteString"], apart := false }
def NameValiditySaid : Prop := nameValidityRow.holds Try.pinned (OpenSpec.ofChange nameValiditySpec)

/-- ITS FALSE NEIGHBOUR: 'it returns false'. Refute it at one input. -/
def nameValidityWrong : ChangeSpec := { name := "nameValidity", fn := fun _ => fun
  | [d1, d2] => { results := [.lit (.bool false)], args := [d1, d2] }
  | _ => none }
def NameValidityWrongFalsely : Prop := nameValidityRow.holds Try.pinned (OpenSpec.ofChange nameValidityWrong)

/-- 'armaturelaw03.NamePrefix': WHATEVER THE INPUT: true; the input reads as it did. -/
def namePrefixSpec : ChangeSpec := { name := "namePrefix", fn := fun _ => fun
  | [d1, d2, d3] => { results := [.lit (.bool true)], args := [d1, d2, d3] }
  | _ => none }
def namePrefixRow : OpenClaim := { program := "ytbblhamkmlfgfaa", sum := "cccec2ad4c073a260aff9454759865c1ebeb51d2f0a5a207d8294eac3b6ecd9d", func := "armature/armaturelaw03.NamePrefix", spec := "namePrefix", inPlace := ["internal/bytealg.IndexByteString"], apart := false }
def NamePrefixSaid : Prop := namePrefixRow.holds Try.pinned (OpenSpec.ofChange namePrefixSpec)

/-- ITS FALSE NEIGHBOUR: 'it returns false'. Refute it at one input. -/
def namePrefixWrong : ChangeSpec := { name := "namePrefix", fn := fun _ => fun
  | [d1, d2, d3] => { results := [.lit (.bool false)], args := [d1, d2, d3] }
  | _ => none }
def NamePrefixWrongFalsely : Prop := namePrefixRow.holds Try.pinned (OpenSpec.ofChange namePrefixWrong)

/-- 'armaturelaw03.NameJoin': WHATEVER THE INPUT: true; the input reads as it did. -/
def nameJoinSpec : ChangeSpec := { name := "nameJoin", fn := fun _ => fun
  | [d] => { results := [.lit (.bool true)], args := [d] }
  | _ => none }
def nameJoinRow : OpenClaim := { program := "ytbblhamkmlfgfaa", sum := "cccec2ad4c073a260aff9454759865c1ebeb51d2f0a5a207d8294eac3b6ecd9d", func := "armature/armaturelaw03.NameJoin", spec := "nameJoin", inPlace := ["internal/bytealg.IndexByteString", "internal/bytealg.IndexString"], named := ["internal/bytealg.MaxLen"], apart := false }
def NameJoinSaid : Prop := nameJoinRow.holds Try.pinned (OpenSpec.ofChange nameJoinSpec)

/-- ITS FALSE NEIGHBOUR: 'it returns false'. Refute it at one input. -/
def nameJoinWrong : ChangeSpec := { name := "nameJoin", fn := fun _ => fun
  | [d] => { results := [.lit (.bool false)], args := [d] }
  | _ => none }
def NameJoinWrongFalsely : Prop := nameJoinRow.holds Try.pinned (OpenSpec.ofChange nameJoinWrong)

/-- 'armaturelaw03.NameParts': WHATEVER THE INPUT: true; the input reads as it did. -/
def namePartsSpec : ChangeSpec := { name := "nameParts", fn := fun _ => fun
  | [d1, d2, d3] => { results := [.lit (.bool true)], args := [d1, d2, d3] }
  | _ => none }
def namePartsRow : OpenClaim := { program := "ytbblhamkmlfgfaa", sum := "cccec2ad4c073a260aff9454759865c1ebeb51d2f0a5a207d8294eac3b6ecd9d", func := "armature/armaturelaw03.NameParts", spec := "nameParts", inPlace := ["internal/bytealg.IndexByteString", "internal/bytealg.IndexString"], named := ["internal/bytealg.MaxLen"], apart := false }
def NamePartsSaid : Prop := namePartsRow.holds Try.pinned (OpenSpec.ofChange namePartsSpec)

/-- ITS FALSE NEIGHBOUR: 'it returns false'. Refute it at one input. -/
def namePartsWrong : ChangeSpec := { name := "nameParts", fn := fun _ => fun
  | [d1, d2, d3] => { results := [.lit (.bool false)], args := [d1, d2, d3] }
  | _ => none }
def NamePartsWrongFalsely : Prop := namePartsRow.holds Try.pinned (OpenSpec.ofChange namePartsWrong)

/- THE SECOND FORM. 'bulk': how many values and letters a reading holds, each counted each time it is reached (what is shared counts as often as it is met; a slice's spare places count too). A statement '..UptoSaid' is the law's where the arguments, and the package variables that the reading takes, are together of bulk at most 1048576: NARROWER than '..Said'. Prove '..Said' where nothing that the law and all that it calls make is longer than what came in: it says more and counts as full. Else prove '..UptoSaid'. A law counts once. -/
mutual
def uptoBulk {H : Type} : DataW H → Nat
  | .lit (.string bytes) => bytes.length + 1
  | .lit _ => 1
  | .nil => 1
  | .ptr d => uptoBulk d + 1
  | .slice elems spare => uptoBulkAll elems + uptoBulkAll spare + 1
  | .agg parts => uptoBulkAll parts + 1
  | .iface _ d => uptoBulk d + 1
  | .map entries => uptoBulkEntries entries + 1
  | .held _ => 1
def uptoBulkAll {H : Type} : List (DataW H) → Nat
  | [] => 0
  | d :: r => uptoBulk d + uptoBulkAll r
def uptoBulkEntries {H : Type} : List (Lit × DataW H) → Nat
  | [] => 0
  | x :: r => uptoBulkEntry x + uptoBulkEntries r
def uptoBulkEntry {H : Type} : Lit × DataW H → Nat
  | (.string bytes, d) => bytes.length + uptoBulk d + 1
  | (_, d) => uptoBulk d + 1
 end
def uptoSmall : (H : Type) → List (DataW H) → Bool := fun _ ds => decide (uptoBulkAll ds ≤ 1048576)
def OpenSpec.upto (s : _root_.Go.ChangeSpec) : _root_.Go.OpenSpec := { _root_.Go.OpenSpec.ofChange s with cond := some uptoSmall }

/-- 'armaturelaw03.NameValidity', WHERE WHAT IT READS IS OF BULK AT MOST 1048576: true; the input reads as it did. -/
def nameValidityUptoRow : OpenClaim := { program := "ytbblhamkmlfgfaa", sum := "cccec2ad4c073a260aff9454759865c1ebeb51d2f0a5a207d8294eac3b6ecd9d", func := "armature/armaturelaw03.NameValidity", spec := "nameValidity", inPlace := ["internal/bytealg.IndexByteString"], apart := false, narrowed := true }
def NameValidityUptoSaid : Prop := nameValidityUptoRow.holds Try.pinned (OpenSpec.upto nameValiditySpec)

/-- 'armaturelaw03.NamePrefix', WHERE WHAT IT READS IS OF BULK AT MOST 1048576: true; the input reads as it did. -/
def namePrefixUptoRow : OpenClaim := { program := "ytbblhamkmlfgfaa", sum := "cccec2ad4c073a260aff9454759865c1ebeb51d2f0a5a207d8294eac3b6ecd9d", func := "armature/armaturelaw03.NamePrefix", spec := "namePrefix", inPlace := ["internal/bytealg.IndexByteString"], apart := false, narrowed := true }
def NamePrefixUptoSaid : Prop := namePrefixUptoRow.holds Try.pinned (OpenSpec.upto namePrefixSpec)

/-- 'armaturelaw03.NameJoin', WHERE WHAT IT READS IS OF BULK AT MOST 1048576: true; the input reads as it did. -/
def nameJoinUptoRow : OpenClaim := { program := "ytbblhamkmlfgfaa", sum := "cccec2ad4c073a260aff9454759865c1ebeb51d2f0a5a207d8294eac3b6ecd9d", func := "armature/armaturelaw03.NameJoin", spec := "nameJoin", inPlace := ["internal/bytealg.IndexByteString", "internal/bytealg.IndexString"], named := ["internal/bytealg.MaxLen"], apart := false, narrowed := true }
def NameJoinUptoSaid : Prop := nameJoinUptoRow.holds Try.pinned (OpenSpec.upto nameJoinSpec)

/-- 'armaturelaw03.NameParts', WHERE WHAT IT READS IS OF BULK AT MOST 1048576: true; the input reads as it did. -/
def namePartsUptoRow : OpenClaim := { program := "ytbblhamkmlfgfaa", sum := "cccec2ad4c073a260aff9454759865c1ebeb51d2f0a5a207d8294eac3b6ecd9d", func := "armature/armaturelaw03.NameParts", spec := "nameParts", inPlace := ["internal/bytealg.IndexByteString", "internal/bytealg.IndexString"], named := ["internal/bytealg.MaxLen"], apart := false, narrowed := true }
def NamePartsUptoSaid : Prop := namePartsUptoRow.holds Try.pinned (OpenSpec.upto namePartsSpec)

end Rows
end Go.Proofs.Ytbblhamkmlfgfaa
