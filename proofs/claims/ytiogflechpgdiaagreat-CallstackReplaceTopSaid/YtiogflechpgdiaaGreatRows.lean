/-
  No cell of these rows narrows 'for every input' (looked for: loops, veiled, ifaces, maps, wideKeys, modest, calm, conditions, laid).
  DERIVED. THE GIVEN ROWS OF THIS SEAT. 5 by the template 'for every input the law returns true; each argument reads behind the call as it read before'; 0 by the template 'total and deterministic' (their statements: YtiogflechpgdiaaGreatTotals.lean).
  GIVEN WITH THE SEED: the statements are not yours to turn. If you find one false, say at which input.
  Laid BY PROGRAM, IN A SANDBOX (cutbox-rows.mjs): the forced cells as the released guide's own fill.sh prints them over the translation 0073154347060706… (all of the seat's roots in one cut). By AI agents, Wed Nov 11 2026. No macro, syntax, notation, axiom, sorry.
-/
import Derived.Test.YtiogflechpgdiaaGreatChecked
import GoSem.Claim
import GoSem.ClaimJoined
import GoSem.ClaimMapViews
import Derived.JoinedTies
import Derived.KernelRfl
namespace Go.Proofs.YtiogflechpgdiaaGreat
/- THE CELL 'sum', in the pinned program and in every row, IS THE sha256 OF THE DUMP (.gsa) THAT YtiogflechpgdiaaGreatProg.lean LOADS. Nothing in Lean hashes anything: it is a label: what it is worth is what the hold of that sum in a sandbox is worth. -/
noncomputable def Tryz.pinned : Pinned := { name := "ytiogflechpgdiaagreat", sum := "0073154347060706e4aadefec5fefd9d5bbed8d8ab2d5ed04999da5bd2fafe73", checked := Tryz.checked }
namespace Rows
def none {H : Type} : Left H := { results := [], args := [] }

/-- 'armaturelaw39.CallstackPush': WHATEVER THE INPUT: true; the input reads as it did. -/
def callstackPushSpec : ChangeSpec := { name := "callstackPush", fn := fun _ => fun
  | [d1, d2, d3, d4, d5, d6, d7] => { results := [.lit (.bool true)], args := [d1, d2, d3, d4, d5, d6, d7] }
  | _ => none }
def callstackPushRow : OpenClaim := { program := "ytiogflechpgdiaagreat", sum := "0073154347060706e4aadefec5fefd9d5bbed8d8ab2d5ed04999da5bd2fafe73", func := "armature/armaturelaw39.CallstackPush", spec := "callstackPush", inPlace := ["internal/bytealg.IndexByteString"], recurses := true, apart := false }
def CallstackPushSaid : Prop := callstackPushRow.holds Tryz.pinned (OpenSpec.ofChange callstackPushSpec)

/-- ITS FALSE NEIGHBOUR: 'it returns false'. Refute it at one input. -/
def callstackPushWrong : ChangeSpec := { name := "callstackPush", fn := fun _ => fun
  | [d1, d2, d3, d4, d5, d6, d7] => { results := [.lit (.bool false)], args := [d1, d2, d3, d4, d5, d6, d7] }
  | _ => none }
def CallstackPushWrongFalsely : Prop := callstackPushRow.holds Tryz.pinned (OpenSpec.ofChange callstackPushWrong)

/-- 'armaturelaw39.CallstackPushPop': WHATEVER THE INPUT: true; the input reads as it did. -/
def callstackPushPopSpec : ChangeSpec := { name := "callstackPushPop", fn := fun _ => fun
  | [d1, d2, d3, d4, d5] => { results := [.lit (.bool true)], args := [d1, d2, d3, d4, d5] }
  | _ => none }
def callstackPushPopRow : OpenClaim := { program := "ytiogflechpgdiaagreat", sum := "0073154347060706e4aadefec5fefd9d5bbed8d8ab2d5ed04999da5bd2fafe73", func := "armature/armaturelaw39.CallstackPushPop", spec := "callstackPushPop", inPlace := ["internal/bytealg.IndexByteString"], recurses := true, apart := false }
def CallstackPushPopSaid : Prop := callstackPushPopRow.holds Tryz.pinned (OpenSpec.ofChange callstackPushPopSpec)

/-- ITS FALSE NEIGHBOUR: 'it returns false'. Refute it at one input. -/
def callstackPushPopWrong : ChangeSpec := { name := "callstackPushPop", fn := fun _ => fun
  | [d1, d2, d3, d4, d5] => { results := [.lit (.bool false)], args := [d1, d2, d3, d4, d5] }
  | _ => none }
def CallstackPushPopWrongFalsely : Prop := callstackPushPopRow.holds Tryz.pinned (OpenSpec.ofChange callstackPushPopWrong)

/-- 'armaturelaw39.CallstackArguments': WHATEVER THE INPUT: true; the input reads as it did. -/
def callstackArgumentsSpec : ChangeSpec := { name := "callstackArguments", fn := fun _ => fun
  | [d1, d2, d3, d4] => { results := [.lit (.bool true)], args := [d1, d2, d3, d4] }
  | _ => none }
def callstackArgumentsRow : OpenClaim := { program := "ytiogflechpgdiaagreat", sum := "0073154347060706e4aadefec5fefd9d5bbed8d8ab2d5ed04999da5bd2fafe73", func := "armature/armaturelaw39.CallstackArguments", spec := "callstackArguments", inPlace := ["internal/bytealg.IndexByteString"], recurses := true, apart := false }
def CallstackArgumentsSaid : Prop := callstackArgumentsRow.holds Tryz.pinned (OpenSpec.ofChange callstackArgumentsSpec)

/-- ITS FALSE NEIGHBOUR: 'it returns false'. Refute it at one input. -/
def callstackArgumentsWrong : ChangeSpec := { name := "callstackArguments", fn := fun _ => fun
  | [d1, d2, d3, d4] => { results := [.lit (.bool false)], args := [d1, d2, d3, d4] }
  | _ => none }
def CallstackArgumentsWrongFalsely : Prop := callstackArgumentsRow.holds Tryz.pinned (OpenSpec.ofChange callstackArgumentsWrong)

/-- 'armaturelaw39.CallstackTop': WHATEVER THE INPUT: true; the input reads as it did. -/
def callstackTopSpec : ChangeSpec := { name := "callstackTop", fn := fun _ => fun
  | [d1, d2, d3] => { results := [.lit (.bool true)], args := [d1, d2, d3] }
  | _ => none }
def callstackTopRow : OpenClaim := { program := "ytiogflechpgdiaagreat", sum := "0073154347060706e4aadefec5fefd9d5bbed8d8ab2d5ed04999da5bd2fafe73", func := "armature/armaturelaw39.CallstackTop", spec := "callstackTop", inPlace := ["internal/bytealg.IndexByteString"], recurses := true, apart := false }
def CallstackTopSaid : Prop := callstackTopRow.holds Tryz.pinned (OpenSpec.ofChange callstackTopSpec)

/-- ITS FALSE NEIGHBOUR: 'it returns false'. Refute it at one input. -/
def callstackTopWrong : ChangeSpec := { name := "callstackTop", fn := fun _ => fun
  | [d1, d2, d3] => { results := [.lit (.bool false)], args := [d1, d2, d3] }
  | _ => none }
def CallstackTopWrongFalsely : Prop := callstackTopRow.holds Tryz.pinned (OpenSpec.ofChange callstackTopWrong)

/-- 'armaturelaw39.CallstackReplaceTop': WHATEVER THE INPUT: true; the input reads as it did. -/
def callstackReplaceTopSpec : ChangeSpec := { name := "callstackReplaceTop", fn := fun _ => fun
  | [d1, d2, d3] => { results := [.lit (.bool true)], args := [d1, d2, d3] }
  | _ => none }
def callstackReplaceTopRow : OpenClaim := { program := "ytiogflechpgdiaagreat", sum := "0073154347060706e4aadefec5fefd9d5bbed8d8ab2d5ed04999da5bd2fafe73", func := "armature/armaturelaw39.CallstackReplaceTop", spec := "callstackReplaceTop", inPlace := ["internal/bytealg.IndexByteString"], recurses := true, apart := false }
def CallstackReplaceTopSaid : Prop := callstackReplaceTopRow.holds Tryz.pinned (OpenSpec.ofChange callstackReplaceTopSpec)

/-- ITS FALSE NEIGHBOUR: 'it returns false'. Refute it at one input. -/
def callstackReplaceTopWrong : ChangeSpec := { name := "callstackReplaceTop", fn := fun _ => fun
  | [d1, d2, d3] => { results := [.lit (.bool false)], args := [d1, d2, d3] }
  | _ => none }
def CallstackReplaceTopWrongFalsely : Prop := callstackReplaceTopRow.holds Tryz.pinned (OpenSpec.ofChange callstackReplaceTopWrong)

/- THE SECOND FORM. 'bulk': how many values and letters a reading holds, each counted each time it is reached (what is shared counts as often as it is met; a slice's spare places count too). A statement '..UptoSaid' is the law's where the arguments, and the package variables that the reading takes, are together of bulk at most 1048576: NARROWER than '..Said'. Prove '..Said' where nothing that the law and all that it calls make is longer than what came in: it says more and counts as full. Else prove '..UptoSaid'. A law counts once. -/
mutual
def uptoBulk {H : Type} : DataW H → Nat
  | .lit (.string bytes) => bytes.length + 1
  | .lit _ => 1
  | .nil => 1
  | .ptr d => uptoBulk d + 1
  | .slice elems spare => uptoBulkAll elems + uptoBulkAll spare + 1
  | .agg parts => uptoBulkAll parts + 1
  | .iface _ d => uptoBulk d + 1
  | .map entries => uptoBulkEntries entries + 1
  | .held _ => 1
def uptoBulkAll {H : Type} : List (DataW H) → Nat
  | [] => 0
  | d :: r => uptoBulk d + uptoBulkAll r
def uptoBulkEntries {H : Type} : List (Lit × DataW H) → Nat
  | [] => 0
  | x :: r => uptoBulkEntry x + uptoBulkEntries r
def uptoBulkEntry {H : Type} : Lit × DataW H → Nat
  | (.string bytes, d) => bytes.length + uptoBulk d + 1
  | (_, d) => uptoBulk d + 1
 end
def uptoSmall : (H : Type) → List (DataW H) → Bool := fun _ ds => decide (uptoBulkAll ds ≤ 1048576)
def OpenSpec.upto (s : _root_.Go.ChangeSpec) : _root_.Go.OpenSpec := { _root_.Go.OpenSpec.ofChange s with cond := some uptoSmall }

/-- 'armaturelaw39.CallstackPush', WHERE WHAT IT READS IS OF BULK AT MOST 1048576: true; the input reads as it did. -/
def callstackPushUptoRow : OpenClaim := { program := "ytiogflechpgdiaagreat", sum := "0073154347060706e4aadefec5fefd9d5bbed8d8ab2d5ed04999da5bd2fafe73", func := "armature/armaturelaw39.CallstackPush", spec := "callstackPush", inPlace := ["internal/bytealg.IndexByteString"], recurses := true, apart := false, narrowed := true }
def CallstackPushUptoSaid : Prop := callstackPushUptoRow.holds Tryz.pinned (OpenSpec.upto callstackPushSpec)

/-- 'armaturelaw39.CallstackPushPop', WHERE WHAT IT READS IS OF BULK AT MOST 1048576: true; the input reads as it did. -/
def callstackPushPopUptoRow : OpenClaim := { program := "ytiogflechpgdiaagreat", sum := "0073154347060706e4aadefec5fefd9d5bbed8d8ab2d5ed04999da5bd2fafe73", func := "armature/armaturelaw39.CallstackPushPop", spec := "callstackPushPop", inPlace := ["internal/bytealg.IndexByteString"], recurses := true, apart := false, narrowed := true }
def CallstackPushPopUptoSaid : Prop := callstackPushPopUptoRow.holds Tryz.pinned (OpenSpec.upto callstackPushPopSpec)

/-- 'armaturelaw39.CallstackArguments', WHERE WHAT IT READS IS OF BULK AT MOST 1048576: true; the input reads as it did. -/
def callstackArgumentsUptoRow : OpenClaim := { program := "ytiogflechpgdiaagreat", sum := "0073154347060706e4aadefec5fefd9d5bbed8d8ab2d5ed04999da5bd2fafe73", func := "armature/armaturelaw39.CallstackArguments", spec := "callstackArguments", inPlace := ["internal/bytealg.IndexByteString"], recurses := true, apart := false, narrowed := true }
def CallstackArgumentsUptoSaid : Prop := callstackArgumentsUptoRow.holds Tryz.pinned (OpenSpec.upto callstackArgumentsSpec)

/-- 'armaturelaw39.CallstackTop', WHERE WHAT IT READS IS OF BULK AT MOST 1048576: true; the input reads as it did. -/
def callstackTopUptoRow : OpenClaim := { program := "ytiogflechpgdiaagreat", sum := "0073154347060706e4aadefec5fefd9d5bbed8d8ab2d5ed04999da5bd2fafe73", func := "armature/armaturelaw39.CallstackTop", spec := "callstackTop", inPlace := ["internal/bytealg.IndexByteString"], recurses := true, apart := false, narrowed := true }
def CallstackTopUptoSaid : Prop := callstackTopUptoRow.holds Tryz.pinned (OpenSpec.upto callstackTopSpec)

/-- 'armaturelaw39.CallstackReplaceTop', WHERE WHAT IT READS IS OF BULK AT MOST 1048576: true; the input reads as it did. -/
def callstackReplaceTopUptoRow : OpenClaim := { program := "ytiogflechpgdiaagreat", sum := "0073154347060706e4aadefec5fefd9d5bbed8d8ab2d5ed04999da5bd2fafe73", func := "armature/armaturelaw39.CallstackReplaceTop", spec := "callstackReplaceTop", inPlace := ["internal/bytealg.IndexByteString"], recurses := true, apart := false, narrowed := true }
def CallstackReplaceTopUptoSaid : Prop := callstackReplaceTopUptoRow.holds Tryz.pinned (OpenSpec.upto callstackReplaceTopSpec)

end Rows
end Go.Proofs.YtiogflechpgdiaaGreat
