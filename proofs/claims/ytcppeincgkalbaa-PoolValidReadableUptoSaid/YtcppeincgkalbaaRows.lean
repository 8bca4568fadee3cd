/-
  No cell of these rows narrows 'for every input' (looked for: loops, veiled, ifaces, maps, wideKeys, modest, calm, conditions, laid).
  DERIVED. THE GIVEN ROWS OF THIS SEAT. 5 by the template 'for every input the law returns true; each argument reads behind the call as it read before'; 0 by the template 'total and deterministic' (their statements: YtcppeincgkalbaaTotals.lean).
  GIVEN WITH THE SEED: the statements are not yours to turn. If you find one false, say at which input.
  Laid BY PROGRAM, IN A SANDBOX (cutbox-rows.mjs): the forced cells as the released guide's own fill.sh prints them over the translation 9ee1834aaf936c6b… (all of the seat's roots in one cut). By AI agents, Wed Nov 11 2026. No macro, syntax, notation, axiom, sorry.
-/
import Derived.Test.YtcppeincgkalbaaChecked
import GoSem.Claim
import GoSem.ClaimJoined
import GoSem.ClaimMapViews
import Derived.JoinedTies
import Derived.KernelRfl
namespace Go.Proofs.Ytcppeincgkalbaa
/- THE CELL 'sum', in the pinned program and in every row, IS THE sha256 OF THE DUMP (.gsa) THAT YtcppeincgkalbaaProg.lean LOADS. Nothing in Lean hashes anything: it is a label: what it is worth is what the hold of that sum in a sandbox is worth. -/
noncomputable def Try.pinned : Pinned := { name := "ytcppeincgkalbaa", sum := "9ee1834aaf936c6b6d62437cfa427db63cf3a1d84479281ae40ff37217d1c35c", checked := Try.checked }
namespace Rows
def none {H : Type} : Left H := { results := [], args := [] }

/-- 'armaturelaw05.PoolCheckReference': WHATEVER THE INPUT: true; the input reads as it did. -/
def poolCheckReferenceSpec : ChangeSpec := { name := "poolCheckReference", fn := fun _ => fun
  | [d] => { results := [.lit (.bool true)], args := [d] }
  | _ => none }
def poolCheckReferenceRow : OpenClaim := { program := "ytcppeincgkalbaa", sum := "9ee1834aaf936c6b6d62437cfa427db63cf3a1d84479281ae40ff37217d1c35c", func := "armature/armaturelaw05.PoolCheckReference", spec := "poolCheckReference", inPlace := ["internal/bytealg.IndexByteString"], apart := false }
def PoolCheckReferenceSaid : Prop := poolCheckReferenceRow.holds Try.pinned (OpenSpec.ofChange poolCheckReferenceSpec)

/-- ITS FALSE NEIGHBOUR: 'it returns false'. Refute it at one input. -/
def poolCheckReferenceWrong : ChangeSpec := { name := "poolCheckReference", fn := fun _ => fun
  | [d] => { results := [.lit (.bool false)], args := [d] }
  | _ => none }
def PoolCheckReferenceWrongFalsely : Prop := poolCheckReferenceRow.holds Try.pinned (OpenSpec.ofChange poolCheckReferenceWrong)

/-- 'armaturelaw05.PoolReadReference': WHATEVER THE INPUT: true; the input reads as it did. -/
def poolReadReferenceSpec : ChangeSpec := { name := "poolReadReference", fn := fun _ => fun
  | [d1, d2, d3] => { results := [.lit (.bool true)], args := [d1, d2, d3] }
  | _ => none }
def poolReadReferenceRow : OpenClaim := { program := "ytcppeincgkalbaa", sum := "9ee1834aaf936c6b6d62437cfa427db63cf3a1d84479281ae40ff37217d1c35c", func := "armature/armaturelaw05.PoolReadReference", spec := "poolReadReference", inPlace := ["internal/bytealg.IndexByteString"], apart := false }
def PoolReadReferenceSaid : Prop := poolReadReferenceRow.holds Try.pinned (OpenSpec.ofChange poolReadReferenceSpec)

/-- ITS FALSE NEIGHBOUR: 'it returns false'. Refute it at one input. -/
def poolReadReferenceWrong : ChangeSpec := { name := "poolReadReference", fn := fun _ => fun
  | [d1, d2, d3] => { results := [.lit (.bool false)], args := [d1, d2, d3] }
  | _ => none }
def PoolReadReferenceWrongFalsely : Prop := poolReadReferenceRow.holds Try.pinned (OpenSpec.ofChange poolReadReferenceWrong)

/-- 'armaturelaw05.PoolAddThenRead': WHATEVER THE INPUT: true; the input reads as it did. -/
def poolAddThenReadSpec : ChangeSpec := { name := "poolAddThenRead", fn := fun _ => fun
  | [d1, d2, d3] => { results := [.lit (.bool true)], args := [d1, d2, d3] }
  | _ => none }
def poolAddThenReadRow : OpenClaim := { program := "ytcppeincgkalbaa", sum := "9ee1834aaf936c6b6d62437cfa427db63cf3a1d84479281ae40ff37217d1c35c", func := "armature/armaturelaw05.PoolAddThenRead", spec := "poolAddThenRead", inPlace := ["internal/bytealg.IndexByteString"], apart := false }
def PoolAddThenReadSaid : Prop := poolAddThenReadRow.holds Try.pinned (OpenSpec.ofChange poolAddThenReadSpec)

/-- ITS FALSE NEIGHBOUR: 'it returns false'. Refute it at one input. -/
def poolAddThenReadWrong : ChangeSpec := { name := "poolAddThenRead", fn := fun _ => fun
  | [d1, d2, d3] => { results := [.lit (.bool false)], args := [d1, d2, d3] }
  | _ => none }
def PoolAddThenReadWrongFalsely : Prop := poolAddThenReadRow.holds Try.pinned (OpenSpec.ofChange poolAddThenReadWrong)

/-- 'armaturelaw05.PoolValidReadable': WHATEVER THE INPUT: true; the input reads as it did. -/
def poolValidReadableSpec : ChangeSpec := { name := "poolValidReadable", fn := fun _ => fun
  | [d1, d2] => { results := [.lit (.bool true)], args := [d1, d2] }
  | _ => none }
def poolValidReadableRow : OpenClaim := { program := "ytcppeincgkalbaa", sum := "9ee1834aaf936c6b6d62437cfa427db63cf3a1d84479281ae40ff37217d1c35c", func := "armature/armaturelaw05.PoolValidReadable", spec := "poolValidReadable", inPlace := ["internal/bytealg.IndexByteString"], apart := false }
def PoolValidReadableSaid : Prop := poolValidReadableRow.holds Try.pinned (OpenSpec.ofChange poolValidReadableSpec)

/-- ITS FALSE NEIGHBOUR: 'it returns false'. Refute it at one input. -/
def poolValidReadableWrong : ChangeSpec := { name := "poolValidReadable", fn := fun _ => fun
  | [d1, d2] => { results := [.lit (.bool false)], args := [d1, d2] }
  | _ => none }
def PoolValidReadableWrongFalsely : Prop := poolValidReadableRow.holds Try.pinned (OpenSpec.ofChange poolValidReadableWrong)

/-- 'armaturelaw05.PoolAddReference': WHATEVER THE INPUT: true; the input reads as it did. -/
def poolAddReferenceSpec : ChangeSpec := { name := "poolAddReference", fn := fun _ => fun
  | [d1, d2, d3, d4, d5] => { results := [.lit (.bool true)], args := [d1, d2, d3, d4, d5] }
  | _ => none }
def poolAddReferenceRow : OpenClaim := { program := "ytcppeincgkalbaa", sum := "9ee1834aaf936c6b6d62437cfa427db63cf3a1d84479281ae40ff37217d1c35c", func := "armature/armaturelaw05.PoolAddReference", spec := "poolAddReference", inPlace := ["internal/bytealg.IndexByteString"], apart := false }
def PoolAddReferenceSaid : Prop := poolAddReferenceRow.holds Try.pinned (OpenSpec.ofChange poolAddReferenceSpec)

/-- ITS FALSE NEIGHBOUR: 'it returns false'. Refute it at one input. -/
def poolAddReferenceWrong : ChangeSpec := { name := "poolAddReference", fn := fun _ => fun
  | [d1, d2, d3, d4, d5] => { results := [.lit (.bool false)], args := [d1, d2, d3, d4, d5] }
  | _ => none }
def PoolAddReferenceWrongFalsely : Prop := poolAddReferenceRow.holds Try.pinned (OpenSpec.ofChange poolAddReferenceWrong)

/- THE SECOND FORM. 'bulk': how many values and letters a reading holds, each counted each time it is reached (what is shared counts as often as it is met; a slice's spare places count too). A statement '..UptoSaid' is the law's where the arguments, and the package variables that the reading takes, are together of bulk at most 1048576: NARROWER than '..Said'. Prove '..Said' where nothing that the law and all that it calls make is longer than what came in: it says more and counts as full. Else prove '..UptoSaid'. A law counts once. -/
mutual
def uptoBulk {H : Type} : DataW H → Nat
  | .lit (.string bytes) => bytes.length + 1
  | .lit _ => 1
  | .nil => 1
  | .ptr d => uptoBulk d + 1
  | .slice elems spare => uptoBulkAll elems + uptoBulkAll spare + 1
  | .agg parts => uptoBulkAll parts + 1
  | .iface _ d => uptoBulk d + 1
  | .map entries => uptoBulkEntries entries + 1
  | .held _ => 1
def uptoBulkAll {H : Type} : List (DataW H) → Nat
  | [] => 0
  | d :: r => uptoBulk d + uptoBulkAll r
def uptoBulkEntries {H : Type} : List (Lit × DataW H) → Nat
  | [] => 0
  | x :: r => uptoBulkEntry x + uptoBulkEntries r
def uptoBulkEntry {H : Type} : Lit × DataW H → Nat
  | (.string bytes, d) => bytes.length + uptoBulk d + 1
  | (_, d) => uptoBulk d + 1
 end
def uptoSmall : (H : Type) → List (DataW H) → Bool := fun _ ds => decide (uptoBulkAll ds ≤ 1048576)
def OpenSpec.upto (s : _root_.Go.ChangeSpec) : _root_.Go.OpenSpec := { _root_.Go.OpenSpec.ofChange s with cond := some uptoSmall }

/-- 'armaturelaw05.PoolCheckReference', WHERE WHAT IT READS IS OF BULK AT MOST 1048576: true; the input reads as it did. -/
def poolCheckReferenceUptoRow : OpenClaim := { program := "ytcppeincgkalbaa", sum := "9ee1834aaf936c6b6d62437cfa427db63cf3a1d84479281ae40ff37217d1c35c", func := "armature/armaturelaw05.PoolCheckReference", spec := "poolCheckReference", inPlace := ["internal/bytealg.IndexByteString"], apart := false, narrowed := true }
def PoolCheckReferenceUptoSaid : Prop := poolCheckReferenceUptoRow.holds Try.pinned (OpenSpec.upto poolCheckReferenceSpec)

/-- 'armaturelaw05.PoolReadReference', WHERE WHAT IT READS IS OF BULK AT MOST 1048576: true; the input reads as it did. -/
def poolReadReferenceUptoRow : OpenClaim := { program := "ytcppeincgkalbaa", sum := "9ee1834aaf936c6b6d62437cfa427db63cf3a1d84479281ae40ff37217d1c35c", func := "armature/armaturelaw05.PoolReadReference", spec := "poolReadReference", inPlace := ["internal/bytealg.IndexByteString"], apart := false, narrowed := true }
def PoolReadReferenceUptoSaid : Prop := poolReadReferenceUptoRow.holds Try.pinned (OpenSpec.upto poolReadReferenceSpec)

/-- 'armaturelaw05.PoolAddThenRead', WHERE WHAT IT READS IS OF BULK AT MOST 1048576: true; the input reads as it did. -/
def poolAddThenReadUptoRow : OpenClaim := { program := "ytcppeincgkalbaa", sum := "9ee1834aaf936c6b6d62437cfa427db63cf3a1d84479281ae40ff37217d1c35c", func := "armature/armaturelaw05.PoolAddThenRead", spec := "poolAddThenRead", inPlace := ["internal/bytealg.IndexByteString"], apart := false, narrowed := true }
def PoolAddThenReadUptoSaid : Prop := poolAddThenReadUptoRow.holds Try.pinned (OpenSpec.upto poolAddThenReadSpec)

/-- 'armaturelaw05.PoolValidReadable', WHERE WHAT IT READS IS OF BULK AT MOST 1048576: true; the input reads as it did. -/
def poolValidReadableUptoRow : OpenClaim := { program := "ytcppeincgkalbaa", sum := "9ee1834aaf936c6b6d62437cfa427db63cf3a1d84479281ae40ff37217d1c35c", func := "armature/armaturelaw05.PoolValidReadable", spec := "poolValidReadable", inPlace := ["internal/bytealg.IndexByteString"], apart := false, narrowed := true }
def PoolValidReadableUptoSaid : Prop := poolValidReadableUptoRow.holds Try.pinned (OpenSpec.upto poolValidReadableSpec)

/-- 'armaturelaw05.PoolAddReference', WHERE WHAT IT READS IS OF BULK AT MOST 1048576: true; the input reads as it did. -/
def poolAddReferenceUptoRow : OpenClaim := { program := "ytcppeincgkalbaa", sum := "9ee1834aaf936c6b6d62437cfa427db63cf3a1d84479281ae40ff37217d1c35c", func := "armature/armaturelaw05.PoolAddReference", spec := "poolAddReference", inPlace := ["internal/bytealg.IndexByteString"], apart := false, narrowed := true }
def PoolAddReferenceUptoSaid : Prop := poolAddReferenceUptoRow.holds Try.pinned (OpenSpec.upto poolAddReferenceSpec)

end Rows
end Go.Proofs.Ytcppeincgkalbaa
