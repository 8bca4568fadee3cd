/-
  No cell of these rows narrows 'for every input' (looked for: loops, veiled, ifaces, maps, wideKeys, modest, calm, conditions, laid).
  DERIVED. THE GIVEN ROWS OF THIS SEAT. 7 by the template 'for every input the law returns true; each argument reads behind the call as it read before'; 0 by the template 'total and deterministic' (their statements: YtbkfbbghkbmkaaaTotals.lean).
  GIVEN WITH THE SEED: the statements are not yours to turn. If you find one false, say at which input.
  Laid BY PROGRAM, IN A SANDBOX (cutbox-rows.mjs): the forced cells as the released guide's own fill.sh prints them over the translation 6a0e17ee34a40f2c… (all of the seat's roots in one cut). By AI agents, Wed Nov 11 2026. No macro, syntax, notation, axiom, sorry.
-/
import Derived.Test.YtbkfbbghkbmkaaaChecked
import GoSem.Claim
import GoSem.ClaimJoined
import GoSem.ClaimMapViews
import Derived.JoinedTies
import Derived.KernelRfl
namespace Go.Proofs.Ytbkfbbghkbmkaaa
/- THE CELL 'sum', in the pinned program and in every row, IS THE sha256 OF THE DUMP (.gsa) THAT YtbkfbbghkbmkaaaProg.lean LOADS. Nothing in Lean hashes anything: it is a label: what it is worth is what the hold of that sum in a sandbox is worth. -/
noncomputable def Try.pinned : Pinned := { name := "ytbkfbbghkbmkaaa", sum := "6a0e17ee34a40f2c6605f0a2cd6ed8d2d59aae21bc7c13441c447af906a9eb95", checked := Try.checked }
namespace Rows
def none {H : Type} : Left H := { results := [], args := [] }

/-- 'armaturelaw04.DescParse': WHATEVER THE INPUT: true; the input reads as it did. -/
def descParseSpec : ChangeSpec := { name := "descParse", fn := fun _ => fun
  | [d] => { results := [.lit (.bool true)], args := [d] }
  | _ => none }
def descParseRow : OpenClaim := { program := "ytbkfbbghkbmkaaa", sum := "6a0e17ee34a40f2c6605f0a2cd6ed8d2d59aae21bc7c13441c447af906a9eb95", func := "armature/armaturelaw04.DescParse", spec := "descParse", inPlace := ["internal/bytealg.IndexByteString"], apart := false }
def DescParseSaid : Prop := descParseRow.holds Try.pinned (OpenSpec.ofChange descParseSpec)

/-- ITS FALSE NEIGHBOUR: 'it returns false'. Refute it at one input. -/
def descParseWrong : ChangeSpec := { name := "descParse", fn := fun _ => fun
  | [d] => { results := [.lit (.bool false)], args := [d] }
  | _ => none }
def DescParseWrongFalsely : Prop := descParseRow.holds Try.pinned (OpenSpec.ofChange descParseWrong)

/-- 'armaturelaw04.DescParseSignature': WHATEVER THE INPUT: true; the input reads as it did. -/
def descParseSignatureSpec : ChangeSpec := { name := "descParseSignature", fn := fun _ => fun
  | [d] => { results := [.lit (.bool true)], args := [d] }
  | _ => none }
def descParseSignatureRow : OpenClaim := { program := "ytbkfbbghkbmkaaa", sum := "6a0e17ee34a40f2c6605f0a2cd6ed8d2d59aae21bc7c13441c447af906a9eb95", func := "armature/armaturelaw04.DescParseSignature", spec := "descParseSignature", inPlace := ["internal/bytealg.IndexByteString"], apart := false }
def DescParseSignatureSaid : Prop := descParseSignatureRow.holds Try.pinned (OpenSpec.ofChange descParseSignatureSpec)

/-- ITS FALSE NEIGHBOUR: 'it returns false'. Refute it at one input. -/
def descParseSignatureWrong : ChangeSpec := { name := "descParseSignature", fn := fun _ => fun
  | [d] => { results := [.lit (.bool false)], args := [d] }
  | _ => none }
def DescParseSignatureWrongFalsely : Prop := descParseSignatureRow.holds Try.pinned (OpenSpec.ofChange descParseSignatureWrong)

/-- 'armaturelaw04.DescFormatSignature': WHATEVER THE INPUT: true; the input reads as it did. -/
def descFormatSignatureSpec : ChangeSpec := { name := "descFormatSignature", fn := fun _ => fun
  | [d] => { results := [.lit (.bool true)], args := [d] }
  | _ => none }
def descFormatSignatureRow : OpenClaim := { program := "ytbkfbbghkbmkaaa", sum := "6a0e17ee34a40f2c6605f0a2cd6ed8d2d59aae21bc7c13441c447af906a9eb95", func := "armature/armaturelaw04.DescFormatSignature", spec := "descFormatSignature", inPlace := ["internal/bytealg.IndexByteString"], apart := false }
def DescFormatSignatureSaid : Prop := descFormatSignatureRow.holds Try.pinned (OpenSpec.ofChange descFormatSignatureSpec)

/-- ITS FALSE NEIGHBOUR: 'it returns false'. Refute it at one input. -/
def descFormatSignatureWrong : ChangeSpec := { name := "descFormatSignature", fn := fun _ => fun
  | [d] => { results := [.lit (.bool false)], args := [d] }
  | _ => none }
def DescFormatSignatureWrongFalsely : Prop := descFormatSignatureRow.holds Try.pinned (OpenSpec.ofChange descFormatSignatureWrong)

/-- 'armaturelaw04.DescCanonical': WHATEVER THE INPUT: true; the input reads as it did. -/
def descCanonicalSpec : ChangeSpec := { name := "descCanonical", fn := fun _ => fun
  | [d] => { results := [.lit (.bool true)], args := [d] }
  | _ => none }
def descCanonicalRow : OpenClaim := { program := "ytbkfbbghkbmkaaa", sum := "6a0e17ee34a40f2c6605f0a2cd6ed8d2d59aae21bc7c13441c447af906a9eb95", func := "armature/armaturelaw04.DescCanonical", spec := "descCanonical", inPlace := ["internal/bytealg.IndexByteString"], apart := false }
def DescCanonicalSaid : Prop := descCanonicalRow.holds Try.pinned (OpenSpec.ofChange descCanonicalSpec)

/-- ITS FALSE NEIGHBOUR: 'it returns false'. Refute it at one input. -/
def descCanonicalWrong : ChangeSpec := { name := "descCanonical", fn := fun _ => fun
  | [d] => { results := [.lit (.bool false)], args := [d] }
  | _ => none }
def DescCanonicalWrongFalsely : Prop := descCanonicalRow.holds Try.pinned (OpenSpec.ofChange descCanonicalWrong)

/-- 'armaturelaw04.DescClassNames': WHATEVER THE INPUT: true; the input reads as it did. -/
def descClassNamesSpec : ChangeSpec := { name := "descClassNames", fn := fun _ => fun
  | [d] => { results := [.lit (.bool true)], args := [d] }
  | _ => none }
def descClassNamesRow : OpenClaim := { program := "ytbkfbbghkbmkaaa", sum := "6a0e17ee34a40f2c6605f0a2cd6ed8d2d59aae21bc7c13441c447af906a9eb95", func := "armature/armaturelaw04.DescClassNames", spec := "descClassNames", inPlace := ["internal/bytealg.IndexByteString"], apart := false }
def DescClassNamesSaid : Prop := descClassNamesRow.holds Try.pinned (OpenSpec.ofChange descClassNamesSpec)

/-- ITS FALSE NEIGHBOUR: 'it returns false'. Refute it at one input. -/
def descClassNamesWrong : ChangeSpec := { name := "descClassNames", fn := fun _ => fun
  | [d] => { results := [.lit (.bool false)], args := [d] }
  | _ => none }
def DescClassNamesWrongFalsely : Prop := descClassNamesRow.holds Try.pinned (OpenSpec.ofChange descClassNamesWrong)

/-- 'armaturelaw04.DescRoundTrip': WHATEVER THE INPUT: true; the input reads as it did. -/
def descRoundTripSpec : ChangeSpec := { name := "descRoundTrip", fn := fun _ => fun
  | [d] => { results := [.lit (.bool true)], args := [d] }
  | _ => none }
def descRoundTripRow : OpenClaim := { program := "ytbkfbbghkbmkaaa", sum := "6a0e17ee34a40f2c6605f0a2cd6ed8d2d59aae21bc7c13441c447af906a9eb95", func := "armature/armaturelaw04.DescRoundTrip", spec := "descRoundTrip", inPlace := ["internal/bytealg.IndexByteString"], apart := false }
def DescRoundTripSaid : Prop := descRoundTripRow.holds Try.pinned (OpenSpec.ofChange descRoundTripSpec)

/-- ITS FALSE NEIGHBOUR: 'it returns false'. Refute it at one input. -/
def descRoundTripWrong : ChangeSpec := { name := "descRoundTrip", fn := fun _ => fun
  | [d] => { results := [.lit (.bool false)], args := [d] }
  | _ => none }
def DescRoundTripWrongFalsely : Prop := descRoundTripRow.holds Try.pinned (OpenSpec.ofChange descRoundTripWrong)

/-- 'armaturelaw04.DescReference': WHATEVER THE INPUT: true; the input reads as it did. -/
def descReferenceSpec : ChangeSpec := { name := "descReference", fn := fun _ => fun
  | [d] => { results := [.lit (.bool true)], args := [d] }
  | _ => none }
def descReferenceRow : OpenClaim := { program := "ytbkfbbghkbmkaaa", sum := "6a0e17ee34a40f2c6605f0a2cd6ed8d2d59aae21bc7c13441c447af906a9eb95", func := "armature/armaturelaw04.DescReference", spec := "descReference", inPlace := ["internal/bytealg.IndexByteString"], apart := false }
def DescReferenceSaid : Prop := descReferenceRow.holds Try.pinned (OpenSpec.ofChange descReferenceSpec)

/-- ITS FALSE NEIGHBOUR: 'it returns false'. Refute it at one input. -/
def descReferenceWrong : ChangeSpec := { name := "descReference", fn := fun _ => fun
  | [d] => { results := [.lit (.bool false)], args := [d] }
  | _ => none }
def DescReferenceWrongFalsely : Prop := descReferenceRow.holds Try.pinned (OpenSpec.ofChange descReferenceWrong)

/- THE SECOND FORM. 'bulk': how many values and letters a reading holds, each counted each time it is reached (what is shared counts as often as it is met; a slice's spare places count too). A statement '..UptoSaid' is the law's where the arguments, and the package variables that the reading takes, are together of bulk at most 1048576: NARROWER than '..Said'. Prove '..Said' where nothing that the law and all that it calls make is longer than what came in: it says more and counts as full. Else prove '..UptoSaid'. A law counts once. -/
mutual
def uptoBulk {H : Type} : DataW H → Nat
  | .lit (.string bytes) => bytes.length + 1
  | .lit _ => 1
  | .nil => 1
  | .ptr d => uptoBulk d + 1
  | .slice elems spare => uptoBulkAll elems + uptoBulkAll spare + 1
  | .agg parts => uptoBulkAll parts + 1
  | .iface _ d => uptoBulk d + 1
  | .map entries => uptoBulkEntries entries + 1
  | .held _ => 1
def uptoBulkAll {H : Type} : List (DataW H) → Nat
  | [] => 0
  | d :: r => uptoBulk d + uptoBulkAll r
def uptoBulkEntries {H : Type} : List (Lit × DataW H) → Nat
  | [] => 0
  | x :: r => uptoBulkEntry x + uptoBulkEntries r
def uptoBulkEntry {H : Type} : Lit × DataW H → Nat
  | (.string bytes, d) => bytes.length + uptoBulk d + 1
  | (_, d) => uptoBulk d + 1
 end
def uptoSmall : (H : Type) → List (DataW H) → Bool := fun _ ds => decide (uptoBulkAll ds ≤ 1048576)
def OpenSpec.upto (s : _root_.Go.ChangeSpec) : _root_.Go.OpenSpec := { _root_.Go.OpenSpec.ofChange s with cond := some uptoSmall }

/-- 'armaturelaw04.DescParse', WHERE WHAT IT READS IS OF BULK AT MOST 1048576: true; the input reads as it did. -/
def descParseUptoRow : OpenClaim := { program := "ytbkfbbghkbmkaaa", sum := "6a0e17ee34a40f2c6605f0a2cd6ed8d2d59aae21bc7c13441c447af906a9eb95", func := "armature/armaturelaw04.DescParse", spec := "descParse", inPlace := ["internal/bytealg.IndexByteString"], apart := false, narrowed := true }
def DescParseUptoSaid : Prop := descParseUptoRow.holds Try.pinned (OpenSpec.upto descParseSpec)

/-- 'armaturelaw04.DescParseSignature', WHERE WHAT IT READS IS OF BULK AT MOST 1048576: true; the input reads as it did. -/
def descParseSignatureUptoRow : OpenClaim := { program := "ytbkfbbghkbmkaaa", sum := "6a0e17ee34a40f2c6605f0a2cd6ed8d2d59aae21bc7c13441c447af906a9eb95", func := "armature/armaturelaw04.DescParseSignature", spec := "descParseSignature", inPlace := ["internal/bytealg.IndexByteString"], apart := false, narrowed := true }
def DescParseSignatureUptoSaid : Prop := descParseSignatureUptoRow.holds Try.pinned (OpenSpec.upto descParseSignatureSpec)

/-- 'armaturelaw04.DescFormatSignature', WHERE WHAT IT READS IS OF BULK AT MOST 1048576: true; the input reads as it did. -/
def descFormatSignatureUptoRow : OpenClaim := { program := "ytbkfbbghkbmkaaa", sum := "6a0e17ee34a40f2c6605f0a2cd6ed8d2d59aae21bc7c13441c447af906a9eb95", func := "armature/armaturelaw04.DescFormatSignature", spec := "descFormatSignature", inPlace := ["internal/bytealg.IndexByteString"], apart := false, narrowed := true }
def DescFormatSignatureUptoSaid : Prop := descFormatSignatureUptoRow.holds Try.pinned (OpenSpec.upto descFormatSignatureSpec)

/-- 'armaturelaw04.DescCanonical', WHERE WHAT IT READS IS OF BULK AT MOST 1048576: true; the input reads as it did. -/
def descCanonicalUptoRow : OpenClaim := { program := "ytbkfbbghkbmkaaa", sum := "6a0e17ee34a40f2c6605f0a2cd6ed8d2d59aae21bc7c13441c447af906a9eb95", func := "armature/armaturelaw04.DescCanonical", spec := "descCanonical", inPlace := ["internal/bytealg.IndexByteString"], apart := false, narrowed := true }
def DescCanonicalUptoSaid : Prop := descCanonicalUptoRow.holds Try.pinned (OpenSpec.upto descCanonicalSpec)

/-- 'armaturelaw04.DescClassNames', WHERE WHAT IT READS IS OF BULK AT MOST 1048576: true; the input reads as it did. -/
def descClassNamesUptoRow : OpenClaim := { program := "ytbkfbbghkbmkaaa", sum := "6a0e17ee34a40f2c6605f0a2cd6ed8d2d59aae21bc7c13441c447af906a9eb95", func := "armature/armaturelaw04.DescClassNames", spec := "descClassNames", inPlace := ["internal/bytealg.IndexByteString"], apart := false, narrowed := true }
def DescClassNamesUptoSaid : Prop := descClassNamesUptoRow.holds Try.pinned (OpenSpec.upto descClassNamesSpec)

/-- 'armaturelaw04.DescRoundTrip', WHERE WHAT IT READS IS OF BULK AT MOST 1048576: true; the input reads as it did. -/
def descRoundTripUptoRow : OpenClaim := { program := "ytbkfbbghkbmkaaa", sum := "6a0e17ee34a40f2c6605f0a2cd6ed8d2d59aae21bc7c13441c447af906a9eb95", func := "armature/armaturelaw04.DescRoundTrip", spec := "descRoundTrip", inPlace := ["internal/bytealg.IndexByteString"], apart := false, narrowed := true }
def DescRoundTripUptoSaid : Prop := descRoundTripUptoRow.holds Try.pinned (OpenSpec.upto descRoundTripSpec)

/-- 'armaturelaw04.DescReference', WHERE WHAT IT READS IS OF BULK AT MOST 1048576: true; the input reads as it did. -/
def descReferenceUptoRow : OpenClaim := { program := "ytbkfbbghkbmkaaa", sum := "6a0e17ee34a40f2c6605f0a2cd6ed8d2d59aae21bc7c13441c447af906a9eb95", func := "armature/armaturelaw04.DescReference", spec := "descReference", inPlace := ["internal/bytealg.IndexByteString"], apart := false, narrowed := true }
def DescReferenceUptoSaid : Prop := descReferenceUptoRow.holds Try.pinned (OpenSpec.upto descReferenceSpec)

end Rows
end Go.Proofs.Ytbkfbbghkbmkaaa
