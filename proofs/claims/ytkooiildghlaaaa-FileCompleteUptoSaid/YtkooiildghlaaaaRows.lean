/-
  No cell of these rows narrows 'for every input' (looked for: loops, veiled, ifaces, maps, wideKeys, modest, calm, conditions, laid).
  DERIVED. THE GIVEN ROWS OF THIS SEAT. 5 by the template 'for every input the law returns true; each argument reads behind the call as it read before'; 0 by the template 'total and deterministic' (their statements: YtkooiildghlaaaaTotals.lean).
  GIVEN WITH THE SEED: the statements are not yours to turn. If you find one false, say at which input.
  Laid BY PROGRAM, IN A SANDBOX (cutbox-rows.mjs): the forced cells as the released guide's own fill.sh prints them over the translation 15c6e85bad90ec5a… (all of the seat's roots in one cut). By AI agents, Wed Nov 11 2026. No macro, syntax, notation, axiom, sorry.
-/
import Derived.Test.YtkooiildghlaaaaChecked
import GoSem.Claim
import GoSem.ClaimJoined
import GoSem.ClaimMapViews
import Derived.JoinedTies
import Derived.KernelRfl
namespace Go.Proofs.Ytkooiildghlaaaa
/- THE CELL 'sum', in the pinned program and in every row, IS THE sha256 OF THE DUMP (.gsa) THAT YtkooiildghlaaaaProg.lean LOADS. Nothing in Lean hashes anything: it is a label: what it is worth is what the hold of that sum in a sandbox is worth. -/
noncomputable def Try.pinned : Pinned := { name := "ytkooiildghlaaaa", sum := "15c6e85bad90ec5ad6d737cce2d07ca01758258498253b63025748a04b3cb090", checked := Try.checked }
namespace Rows
def none {H : Type} : Left H := { results := [], args := [] }

/-- 'armaturelaw11.FileEncode': WHATEVER THE INPUT: true; the input reads as it did. -/
def fileEncodeSpec : ChangeSpec := { name := "fileEncode", fn := fun _ => fun
  | [d] => { results := [.lit (.bool true)], args := [d] }
  | _ => none }
def fileEncodeRow : OpenClaim := { program := "ytkooiildghlaaaa", sum := "15c6e85bad90ec5ad6d737cce2d07ca01758258498253b63025748a04b3cb090", func := "armature/armaturelaw11.FileEncode", spec := "fileEncode", inPlace := ["internal/bytealg.IndexByteString", "internal/abi.NoEscape"], apart := false }
def FileEncodeSaid : Prop := fileEncodeRow.holds Try.pinned (OpenSpec.ofChange fileEncodeSpec)

/-- ITS FALSE NEIGHBOUR: 'it returns false'. Refute it at one input. -/
def fileEncodeWrong : ChangeSpec := { name := "fileEncode", fn := fun _ => fun
  | [d] => { results := [.lit (.bool false)], args := [d] }
  | _ => none }
def FileEncodeWrongFalsely : Prop := fileEncodeRow.holds Try.pinned (OpenSpec.ofChange fileEncodeWrong)

/-- 'armaturelaw11.FileDecode': WHATEVER THE INPUT: true; the input reads as it did. -/
def fileDecodeSpec : ChangeSpec := { name := "fileDecode", fn := fun _ => fun
  | [d] => { results := [.lit (.bool true)], args := [d] }
  | _ => none }
def fileDecodeRow : OpenClaim := { program := "ytkooiildghlaaaa", sum := "15c6e85bad90ec5ad6d737cce2d07ca01758258498253b63025748a04b3cb090", func := "armature/armaturelaw11.FileDecode", spec := "fileDecode", inPlace := ["internal/bytealg.IndexByteString", "internal/abi.NoEscape"], apart := false }
def FileDecodeSaid : Prop := fileDecodeRow.holds Try.pinned (OpenSpec.ofChange fileDecodeSpec)

/-- ITS FALSE NEIGHBOUR: 'it returns false'. Refute it at one input. -/
def fileDecodeWrong : ChangeSpec := { name := "fileDecode", fn := fun _ => fun
  | [d] => { results := [.lit (.bool false)], args := [d] }
  | _ => none }
def FileDecodeWrongFalsely : Prop := fileDecodeRow.holds Try.pinned (OpenSpec.ofChange fileDecodeWrong)

/-- 'armaturelaw11.FileRoundTrip': WHATEVER THE INPUT: true; the input reads as it did. -/
def fileRoundTripSpec : ChangeSpec := { name := "fileRoundTrip", fn := fun _ => fun
  | [d] => { results := [.lit (.bool true)], args := [d] }
  | _ => none }
def fileRoundTripRow : OpenClaim := { program := "ytkooiildghlaaaa", sum := "15c6e85bad90ec5ad6d737cce2d07ca01758258498253b63025748a04b3cb090", func := "armature/armaturelaw11.FileRoundTrip", spec := "fileRoundTrip", inPlace := ["internal/bytealg.IndexByteString", "internal/abi.NoEscape"], apart := false }
def FileRoundTripSaid : Prop := fileRoundTripRow.holds Try.pinned (OpenSpec.ofChange fileRoundTripSpec)

/-- ITS FALSE NEIGHBOUR: 'it returns false'. Refute it at one input. -/
def fileRoundTripWrong : ChangeSpec := { name := "fileRoundTrip", fn := fun _ => fun
  | [d] => { results := [.lit (.bool false)], args := [d] }
  | _ => none }
def FileRoundTripWrongFalsely : Prop := fileRoundTripRow.holds Try.pinned (OpenSpec.ofChange fileRoundTripWrong)

/-- 'armaturelaw11.FileCanonical': WHATEVER THE INPUT: true; the input reads as it did. -/
def fileCanonicalSpec : ChangeSpec := { name := "fileCanonical", fn := fun _ => fun
  | [d] => { results := [.lit (.bool true)], args := [d] }
  | _ => none }
def fileCanonicalRow : OpenClaim := { program := "ytkooiildghlaaaa", sum := "15c6e85bad90ec5ad6d737cce2d07ca01758258498253b63025748a04b3cb090", func := "armature/armaturelaw11.FileCanonical", spec := "fileCanonical", inPlace := ["internal/bytealg.IndexByteString", "internal/abi.NoEscape"], apart := false }
def FileCanonicalSaid : Prop := fileCanonicalRow.holds Try.pinned (OpenSpec.ofChange fileCanonicalSpec)

/-- ITS FALSE NEIGHBOUR: 'it returns false'. Refute it at one input. -/
def fileCanonicalWrong : ChangeSpec := { name := "fileCanonical", fn := fun _ => fun
  | [d] => { results := [.lit (.bool false)], args := [d] }
  | _ => none }
def FileCanonicalWrongFalsely : Prop := fileCanonicalRow.holds Try.pinned (OpenSpec.ofChange fileCanonicalWrong)

/-- 'armaturelaw11.FileComplete': WHATEVER THE INPUT: true; the input reads as it did. -/
def fileCompleteSpec : ChangeSpec := { name := "fileComplete", fn := fun _ => fun
  | [d1, d2, d3] => { results := [.lit (.bool true)], args := [d1, d2, d3] }
  | _ => none }
def fileCompleteRow : OpenClaim := { program := "ytkooiildghlaaaa", sum := "15c6e85bad90ec5ad6d737cce2d07ca01758258498253b63025748a04b3cb090", func := "armature/armaturelaw11.FileComplete", spec := "fileComplete", inPlace := ["internal/bytealg.IndexByteString", "internal/abi.NoEscape"], apart := false }
def FileCompleteSaid : Prop := fileCompleteRow.holds Try.pinned (OpenSpec.ofChange fileCompleteSpec)

/-- ITS FALSE NEIGHBOUR: 'it returns false'. Refute it at one input. -/
def fileCompleteWrong : ChangeSpec := { name := "fileComplete", fn := fun _ => fun
  | [d1, d2, d3] => { results := [.lit (.bool false)], args := [d1, d2, d3] }
  | _ => none }
def FileCompleteWrongFalsely : Prop := fileCompleteRow.holds Try.pinned (OpenSpec.ofChange fileCompleteWrong)

/- THE SECOND FORM. 'bulk': how many values and letters a reading holds, each counted each time it is reached (what is shared counts as often as it is met; a slice's spare places count too). A statement '..UptoSaid' is the law's where the arguments, and the package variables that the reading takes, are together of bulk at most 1048576: NARROWER than '..Said'. Prove '..Said' where nothing that the law and all that it calls make is longer than what came in: it says more and counts as full. Else prove '..UptoSaid'. A law counts once. -/
mutual
def uptoBulk {H : Type} : DataW H → Nat
  | .lit (.string bytes) => bytes.length + 1
  | .lit _ => 1
  | .nil => 1
  | .ptr d => uptoBulk d + 1
  | .slice elems spare => uptoBulkAll elems + uptoBulkAll spare + 1
  | .agg parts => uptoBulkAll parts + 1
  | .iface _ d => uptoBulk d + 1
  | .map entries => uptoBulkEntries entries + 1
  | .held _ => 1
def uptoBulkAll {H : Type} : List (DataW H) → Nat
  | [] => 0
  | d :: r => uptoBulk d + uptoBulkAll r
def uptoBulkEntries {H : Type} : List (Lit × DataW H) → Nat
  | [] => 0
  | x :: r => uptoBulkEntry x + uptoBulkEntries r
def uptoBulkEntry {H : Type} : Lit × DataW H → Nat
  | (.string bytes, d) => bytes.length + uptoBulk d + 1
  | (_, d) => uptoBulk d + 1
 end
def uptoSmall : (H : Type) → List (DataW H) → Bool := fun _ ds => decide (uptoBulkAll ds ≤ 1048576)
def OpenSpec.upto (s : _root_.Go.ChangeSpec) : _root_.Go.OpenSpec := { _root_.Go.OpenSpec.ofChange s with cond := some uptoSmall }

/-- 'armaturelaw11.FileEncode', WHERE WHAT IT READS IS OF BULK AT MOST 1048576: true; the input reads as it did. -/
def fileEncodeUptoRow : OpenClaim := { program := "ytkooiildghlaaaa", sum := "15c6e85bad90ec5ad6d737cce2d07ca01758258498253b63025748a04b3cb090", func := "armature/armaturelaw11.FileEncode", spec := "fileEncode", inPlace := ["internal/bytealg.IndexByteString", "internal/abi.NoEscape"], apart := false, narrowed := true }
def FileEncodeUptoSaid : Prop := fileEncodeUptoRow.holds Try.pinned (OpenSpec.upto fileEncodeSpec)

/-- 'armaturelaw11.FileDecode', WHERE WHAT IT READS IS OF BULK AT MOST 1048576: true; the input reads as it did. -/
def fileDecodeUptoRow : OpenClaim := { program := "ytkooiildghlaaaa", sum := "15c6e85bad90ec5ad6d737cce2d07ca01758258498253b63025748a04b3cb090", func := "armature/armaturelaw11.FileDecode", spec := "fileDecode", inPlace := ["internal/bytealg.IndexByteString", "internal/abi.NoEscape"], apart := false, narrowed := true }
def FileDecodeUptoSaid : Prop := fileDecodeUptoRow.holds Try.pinned (OpenSpec.upto fileDecodeSpec)

/-- 'armaturelaw11.FileRoundTrip', WHERE WHAT IT READS IS OF BULK AT MOST 1048576: true; the input reads as it did. -/
def fileRoundTripUptoRow : OpenClaim := { program := "ytkooiildghlaaaa", sum := "15c6e85bad90ec5ad6d737cce2d07ca01758258498253b63025748a04b3cb090", func := "armature/armaturelaw11.FileRoundTrip", spec := "fileRoundTrip", inPlace := ["internal/bytealg.IndexByteString", "internal/abi.NoEscape"], apart := false, narrowed := true }
def FileRoundTripUptoSaid : Prop := fileRoundTripUptoRow.holds Try.pinned (OpenSpec.upto fileRoundTripSpec)

/-- 'armaturelaw11.FileCanonical', WHERE WHAT IT READS IS OF BULK AT MOST 1048576: true; the input reads as it did. -/
def fileCanonicalUptoRow : OpenClaim := { program := "ytkooiildghlaaaa", sum := "15c6e85bad90ec5ad6d737cce2d07ca01758258498253b63025748a04b3cb090", func := "armature/armaturelaw11.FileCanonical", spec := "fileCanonical", inPlace := ["internal/bytealg.IndexByteString", "internal/abi.NoEscape"], apart := false, narrowed := true }
def FileCanonicalUptoSaid : Prop := fileCanonicalUptoRow.holds Try.pinned (OpenSpec.upto fileCanonicalSpec)

/-- 'armaturelaw11.FileComplete', WHERE WHAT IT READS IS OF BULK AT MOST 1048576: true; the input reads as it did. -/
def fileCompleteUptoRow : OpenClaim := { program := "ytkooiildghlaaaa", sum := "15c6e85bad90ec5ad6d737cce2d07ca01758258498253b63025748a04b3cb090", func := "armature/armaturelaw11.FileComplete", spec := "fileComplete", inPlace := ["internal/bytealg.IndexByteString", "internal/abi.NoEscape"], apart := false, narrowed := true }
def FileCompleteUptoSaid : Prop := fileCompleteUptoRow.holds Try.pinned (OpenSpec.upto fileCompleteSpec)

end Rows
end Go.Proofs.Ytkooiildghlaaaa
