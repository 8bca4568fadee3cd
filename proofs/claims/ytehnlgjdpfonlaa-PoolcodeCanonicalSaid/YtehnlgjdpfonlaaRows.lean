/-
  No cell of these rows narrows 'for every input' (looked for: loops, veiled, ifaces, maps, wideKeys, modest, calm, conditions, laid).
  DERIVED. THE GIVEN ROWS OF THIS SEAT. 4 by the template 'for every input the law returns true; each argument reads behind the call as it read before'; 0 by the template 'total and deterministic' (their statements: YtehnlgjdpfonlaaTotals.lean).
  GIVEN WITH THE SEED: the statements are not yours to turn. If you find one false, say at which input.
  Laid BY PROGRAM, IN A SANDBOX (cutbox-rows.mjs): the forced cells as the released guide's own fill.sh prints them over the translation 2ede1fdb5f10194b… (all of the seat's roots in one cut). By AI agents, Wed Nov 11 2026. No macro, syntax, notation, axiom, sorry.
-/
import Derived.Test.YtehnlgjdpfonlaaChecked
import GoSem.Claim
import GoSem.ClaimJoined
import GoSem.ClaimMapViews
import Derived.JoinedTies
import Derived.KernelRfl
namespace Go.Proofs.Ytehnlgjdpfonlaa
/- THE CELL 'sum', in the pinned program and in every row, IS THE sha256 OF THE DUMP (.gsa) THAT YtehnlgjdpfonlaaProg.lean LOADS. Nothing in Lean hashes anything: it is a label: what it is worth is what the hold of that sum in a sandbox is worth. -/
noncomputable def Try.pinned : Pinned := { name := "ytehnlgjdpfonlaa", sum := "2ede1fdb5f10194b4c089e45cea529a0691ec5596e61c7f0cd121ddafab4581b", checked := Try.checked }
namespace Rows
def none {H : Type} : Left H := { results := [], args := [] }

/-- 'armaturelaw06.PoolcodeEncode': WHATEVER THE INPUT: true; the input reads as it did. -/
def poolcodeEncodeSpec : ChangeSpec := { name := "poolcodeEncode", fn := fun _ => fun
  | [d] => { results := [.lit (.bool true)], args := [d] }
  | _ => none }
def poolcodeEncodeRow : OpenClaim := { program := "ytehnlgjdpfonlaa", sum := "2ede1fdb5f10194b4c089e45cea529a0691ec5596e61c7f0cd121ddafab4581b", func := "armature/armaturelaw06.PoolcodeEncode", spec := "poolcodeEncode", inPlace := ["internal/bytealg.IndexByteString", "internal/abi.NoEscape"], apart := false }
def PoolcodeEncodeSaid : Prop := poolcodeEncodeRow.holds Try.pinned (OpenSpec.ofChange poolcodeEncodeSpec)

/-- ITS FALSE NEIGHBOUR: 'it returns false'. Refute it at one input. -/
def poolcodeEncodeWrong : ChangeSpec := { name := "poolcodeEncode", fn := fun _ => fun
  | [d] => { results := [.lit (.bool false)], args := [d] }
  | _ => none }
def PoolcodeEncodeWrongFalsely : Prop := poolcodeEncodeRow.holds Try.pinned (OpenSpec.ofChange poolcodeEncodeWrong)

/-- 'armaturelaw06.PoolcodeDecode': WHATEVER THE INPUT: true; the input reads as it did. -/
def poolcodeDecodeSpec : ChangeSpec := { name := "poolcodeDecode", fn := fun _ => fun
  | [d1, d2] => { results := [.lit (.bool true)], args := [d1, d2] }
  | _ => none }
def poolcodeDecodeRow : OpenClaim := { program := "ytehnlgjdpfonlaa", sum := "2ede1fdb5f10194b4c089e45cea529a0691ec5596e61c7f0cd121ddafab4581b", func := "armature/armaturelaw06.PoolcodeDecode", spec := "poolcodeDecode", inPlace := ["internal/bytealg.IndexByteString", "internal/abi.NoEscape"], apart := false }
def PoolcodeDecodeSaid : Prop := poolcodeDecodeRow.holds Try.pinned (OpenSpec.ofChange poolcodeDecodeSpec)

/-- ITS FALSE NEIGHBOUR: 'it returns false'. Refute it at one input. -/
def poolcodeDecodeWrong : ChangeSpec := { name := "poolcodeDecode", fn := fun _ => fun
  | [d1, d2] => { results := [.lit (.bool false)], args := [d1, d2] }
  | _ => none }
def PoolcodeDecodeWrongFalsely : Prop := poolcodeDecodeRow.holds Try.pinned (OpenSpec.ofChange poolcodeDecodeWrong)

/-- 'armaturelaw06.PoolcodeRoundTrip': WHATEVER THE INPUT: true; the input reads as it did. -/
def poolcodeRoundTripSpec : ChangeSpec := { name := "poolcodeRoundTrip", fn := fun _ => fun
  | [d1, d2, d3, d4] => { results := [.lit (.bool true)], args := [d1, d2, d3, d4] }
  | _ => none }
def poolcodeRoundTripRow : OpenClaim := { program := "ytehnlgjdpfonlaa", sum := "2ede1fdb5f10194b4c089e45cea529a0691ec5596e61c7f0cd121ddafab4581b", func := "armature/armaturelaw06.PoolcodeRoundTrip", spec := "poolcodeRoundTrip", inPlace := ["internal/bytealg.IndexByteString", "internal/abi.NoEscape"], apart := false }
def PoolcodeRoundTripSaid : Prop := poolcodeRoundTripRow.holds Try.pinned (OpenSpec.ofChange poolcodeRoundTripSpec)

/-- ITS FALSE NEIGHBOUR: 'it returns false'. Refute it at one input. -/
def poolcodeRoundTripWrong : ChangeSpec := { name := "poolcodeRoundTrip", fn := fun _ => fun
  | [d1, d2, d3, d4] => { results := [.lit (.bool false)], args := [d1, d2, d3, d4] }
  | _ => none }
def PoolcodeRoundTripWrongFalsely : Prop := poolcodeRoundTripRow.holds Try.pinned (OpenSpec.ofChange poolcodeRoundTripWrong)

/-- 'armaturelaw06.PoolcodeCanonical': WHATEVER THE INPUT: true; the input reads as it did. -/
def poolcodeCanonicalSpec : ChangeSpec := { name := "poolcodeCanonical", fn := fun _ => fun
  | [d1, d2] => { results := [.lit (.bool true)], args := [d1, d2] }
  | _ => none }
def poolcodeCanonicalRow : OpenClaim := { program := "ytehnlgjdpfonlaa", sum := "2ede1fdb5f10194b4c089e45cea529a0691ec5596e61c7f0cd121ddafab4581b", func := "armature/armaturelaw06.PoolcodeCanonical", spec := "poolcodeCanonical", inPlace := ["internal/bytealg.IndexByteString", "internal/abi.NoEscape"], apart := false }
def PoolcodeCanonicalSaid : Prop := poolcodeCanonicalRow.holds Try.pinned (OpenSpec.ofChange poolcodeCanonicalSpec)

/-- ITS FALSE NEIGHBOUR: 'it returns false'. Refute it at one input. -/
def poolcodeCanonicalWrong : ChangeSpec := { name := "poolcodeCanonical", fn := fun _ => fun
  | [d1, d2] => { results := [.lit (.bool false)], args := [d1, d2] }
  | _ => none }
def PoolcodeCanonicalWrongFalsely : Prop := poolcodeCanonicalRow.holds Try.pinned (OpenSpec.ofChange poolcodeCanonicalWrong)

/- THE SECOND FORM. 'bulk': how many values and letters a reading holds, each counted each time it is reached (what is shared counts as often as it is met; a slice's spare places count too). A statement '..UptoSaid' is the law's where the arguments, and the package variables that the reading takes, are together of bulk at most 1048576: NARROWER than '..Said'. Prove '..Said' where nothing that the law and all that it calls make is longer than what came in: it says more and counts as full. Else prove '..UptoSaid'. A law counts once. -/
mutual
def uptoBulk {H : Type} : DataW H → Nat
  | .lit (.string bytes) => bytes.length + 1
  | .lit _ => 1
  | .nil => 1
  | .ptr d => uptoBulk d + 1
  | .slice elems spare => uptoBulkAll elems + uptoBulkAll spare + 1
  | .agg parts => uptoBulkAll parts + 1
  | .iface _ d => uptoBulk d + 1
  | .map entries => uptoBulkEntries entries + 1
  | .held _ => 1
def uptoBulkAll {H : Type} : List (DataW H) → Nat
  | [] => 0
  | d :: r => uptoBulk d + uptoBulkAll r
def uptoBulkEntries {H : Type} : List (Lit × DataW H) → Nat
  | [] => 0
  | x :: r => uptoBulkEntry x + uptoBulkEntries r
def uptoBulkEntry {H : Type} : Lit × DataW H → Nat
  | (.string bytes, d) => bytes.length + uptoBulk d + 1
  | (_, d) => uptoBulk d + 1
 end
def uptoSmall : (H : Type) → List (DataW H) → Bool := fun _ ds => decide (uptoBulkAll ds ≤ 1048576)
def OpenSpec.upto (s : _root_.Go.ChangeSpec) : _root_.Go.OpenSpec := { _root_.Go.OpenSpec.ofChange s with cond := some uptoSmall }

/-- 'armaturelaw06.PoolcodeEncode', WHERE WHAT IT READS IS OF BULK AT MOST 1048576: true; the input reads as it did. -/
def poolcodeEncodeUptoRow : OpenClaim := { program := "ytehnlgjdpfonlaa", sum := "2ede1fdb5f10194b4c089e45cea529a0691ec5596e61c7f0cd121ddafab4581b", func := "armature/armaturelaw06.PoolcodeEncode", spec := "poolcodeEncode", inPlace := ["internal/bytealg.IndexByteString", "internal/abi.NoEscape"], apart := false, narrowed := true }
def PoolcodeEncodeUptoSaid : Prop := poolcodeEncodeUptoRow.holds Try.pinned (OpenSpec.upto poolcodeEncodeSpec)

/-- 'armaturelaw06.PoolcodeDecode', WHERE WHAT IT READS IS OF BULK AT MOST 1048576: true; the input reads as it did. -/
def poolcodeDecodeUptoRow : OpenClaim := { program := "ytehnlgjdpfonlaa", sum := "2ede1fdb5f10194b4c089e45cea529a0691ec5596e61c7f0cd121ddafab4581b", func := "armature/armaturelaw06.PoolcodeDecode", spec := "poolcodeDecode", inPlace := ["internal/bytealg.IndexByteString", "internal/abi.NoEscape"], apart := false, narrowed := true }
def PoolcodeDecodeUptoSaid : Prop := poolcodeDecodeUptoRow.holds Try.pinned (OpenSpec.upto poolcodeDecodeSpec)

/-- 'armaturelaw06.PoolcodeRoundTrip', WHERE WHAT IT READS IS OF BULK AT MOST 1048576: true; the input reads as it did. -/
def poolcodeRoundTripUptoRow : OpenClaim := { program := "ytehnlgjdpfonlaa", sum := "2ede1fdb5f10194b4c089e45cea529a0691ec5596e61c7f0cd121ddafab4581b", func := "armature/armaturelaw06.PoolcodeRoundTrip", spec := "poolcodeRoundTrip", inPlace := ["internal/bytealg.IndexByteString", "internal/abi.NoEscape"], apart := false, narrowed := true }
def PoolcodeRoundTripUptoSaid : Prop := poolcodeRoundTripUptoRow.holds Try.pinned (OpenSpec.upto poolcodeRoundTripSpec)

/-- 'armaturelaw06.PoolcodeCanonical', WHERE WHAT IT READS IS OF BULK AT MOST 1048576: true; the input reads as it did. -/
def poolcodeCanonicalUptoRow : OpenClaim := { program := "ytehnlgjdpfonlaa", sum := "2ede1fdb5f10194b4c089e45cea529a0691ec5596e61c7f0cd121ddafab4581b", func := "armature/armaturelaw06.PoolcodeCanonical", spec := "poolcodeCanonical", inPlace := ["internal/bytealg.IndexByteString", "internal/abi.NoEscape"], apart := false, narrowed := true }
def PoolcodeCanonicalUptoSaid : Prop := poolcodeCanonicalUptoRow.holds Try.pinned (OpenSpec.upto poolcodeCanonicalSpec)

end Rows
end Go.Proofs.Ytehnlgjdpfonlaa
