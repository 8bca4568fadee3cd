/-
  No cell of these rows narrows 'for every input' (looked for: loops, veiled, ifaces, maps, wideKeys, modest, calm, conditions, laid).
  DERIVED. THE GIVEN ROWS OF THIS SEAT. 6 by the template 'for every input the law returns true; each argument reads behind the call as it read before'; 0 by the template 'total and deterministic' (their statements: YtogbjlbjljopcaaTotals.lean).
  GIVEN WITH THE SEED: the statements are not yours to turn. If you find one false, say at which input.
  Laid BY PROGRAM, IN A SANDBOX (cutbox-rows.mjs): the forced cells as the released guide's own fill.sh prints them over the translation e584de807193a1e6… (all of the seat's roots in one cut). By AI agents, Wed Nov 11 2026. No macro, syntax, notation, axiom, sorry.
-/
import Derived.Test.YtogbjlbjljopcaaChecked
import GoSem.Claim
import GoSem.ClaimJoined
import GoSem.ClaimMapViews
import Derived.JoinedTies
import Derived.KernelRfl
namespace Go.Proofs.Ytogbjlbjljopcaa
/- THE CELL 'sum', in the pinned program and in every row, IS THE sha256 OF THE DUMP (.gsa) THAT YtogbjlbjljopcaaProg.lean LOADS. Nothing in Lean hashes anything: it is a label: what it is worth is what the hold of that sum in a sandbox is worth. -/
noncomputable def Try.pinned : Pinned := { name := "ytogbjlbjljopcaa", sum := "e584de807193a1e68dd753a5a59a02eca8ebc17fea374bf2bdf59197fdd38d4e", checked := Try.checked }
namespace Rows
def none {H : Type} : Left H := { results := [], args := [] }

/-- 'armaturelaw02.OctetPutReference': WHATEVER THE INPUT: true; the input reads as it did. -/
def octetPutReferenceSpec : ChangeSpec := { name := "octetPutReference", fn := fun _ => fun
  | [d1, d2] => { results := [.lit (.bool true)], args := [d1, d2] }
  | _ => none }
def octetPutReferenceRow : OpenClaim := { program := "ytogbjlbjljopcaa", sum := "e584de807193a1e68dd753a5a59a02eca8ebc17fea374bf2bdf59197fdd38d4e", func := "armature/armaturelaw02.OctetPutReference", spec := "octetPutReference", apart := false }
def OctetPutReferenceSaid : Prop := octetPutReferenceRow.holds Try.pinned (OpenSpec.ofChange octetPutReferenceSpec)

/-- ITS FALSE NEIGHBOUR: 'it returns false'. Refute it at one input. -/
def octetPutReferenceWrong : ChangeSpec := { name := "octetPutReference", fn := fun _ => fun
  | [d1, d2] => { results := [.lit (.bool false)], args := [d1, d2] }
  | _ => none }
def OctetPutReferenceWrongFalsely : Prop := octetPutReferenceRow.holds Try.pinned (OpenSpec.ofChange octetPutReferenceWrong)

/-- 'armaturelaw02.OctetGetReference': WHATEVER THE INPUT: true; the input reads as it did. -/
def octetGetReferenceSpec : ChangeSpec := { name := "octetGetReference", fn := fun _ => fun
  | [d1, d2, d3] => { results := [.lit (.bool true)], args := [d1, d2, d3] }
  | _ => none }
def octetGetReferenceRow : OpenClaim := { program := "ytogbjlbjljopcaa", sum := "e584de807193a1e68dd753a5a59a02eca8ebc17fea374bf2bdf59197fdd38d4e", func := "armature/armaturelaw02.OctetGetReference", spec := "octetGetReference", apart := false }
def OctetGetReferenceSaid : Prop := octetGetReferenceRow.holds Try.pinned (OpenSpec.ofChange octetGetReferenceSpec)

/-- ITS FALSE NEIGHBOUR: 'it returns false'. Refute it at one input. -/
def octetGetReferenceWrong : ChangeSpec := { name := "octetGetReference", fn := fun _ => fun
  | [d1, d2, d3] => { results := [.lit (.bool false)], args := [d1, d2, d3] }
  | _ => none }
def OctetGetReferenceWrongFalsely : Prop := octetGetReferenceRow.holds Try.pinned (OpenSpec.ofChange octetGetReferenceWrong)

/-- 'armaturelaw02.OctetNumberRoundTrip': WHATEVER THE INPUT: true; the input reads as it did. -/
def octetNumberRoundTripSpec : ChangeSpec := { name := "octetNumberRoundTrip", fn := fun _ => fun
  | [d1, d2, d3, d4] => { results := [.lit (.bool true)], args := [d1, d2, d3, d4] }
  | _ => none }
def octetNumberRoundTripRow : OpenClaim := { program := "ytogbjlbjljopcaa", sum := "e584de807193a1e68dd753a5a59a02eca8ebc17fea374bf2bdf59197fdd38d4e", func := "armature/armaturelaw02.OctetNumberRoundTrip", spec := "octetNumberRoundTrip", apart := false }
def OctetNumberRoundTripSaid : Prop := octetNumberRoundTripRow.holds Try.pinned (OpenSpec.ofChange octetNumberRoundTripSpec)

/-- ITS FALSE NEIGHBOUR: 'it returns false'. Refute it at one input. -/
def octetNumberRoundTripWrong : ChangeSpec := { name := "octetNumberRoundTrip", fn := fun _ => fun
  | [d1, d2, d3, d4] => { results := [.lit (.bool false)], args := [d1, d2, d3, d4] }
  | _ => none }
def OctetNumberRoundTripWrongFalsely : Prop := octetNumberRoundTripRow.holds Try.pinned (OpenSpec.ofChange octetNumberRoundTripWrong)

/-- 'armaturelaw02.OctetOrderPreserved': WHATEVER THE INPUT: true; the input reads as it did. -/
def octetOrderPreservedSpec : ChangeSpec := { name := "octetOrderPreserved", fn := fun _ => fun
  | [d1, d2, d3] => { results := [.lit (.bool true)], args := [d1, d2, d3] }
  | _ => none }
def octetOrderPreservedRow : OpenClaim := { program := "ytogbjlbjljopcaa", sum := "e584de807193a1e68dd753a5a59a02eca8ebc17fea374bf2bdf59197fdd38d4e", func := "armature/armaturelaw02.OctetOrderPreserved", spec := "octetOrderPreserved", apart := false }
def OctetOrderPreservedSaid : Prop := octetOrderPreservedRow.holds Try.pinned (OpenSpec.ofChange octetOrderPreservedSpec)

/-- ITS FALSE NEIGHBOUR: 'it returns false'. Refute it at one input. -/
def octetOrderPreservedWrong : ChangeSpec := { name := "octetOrderPreserved", fn := fun _ => fun
  | [d1, d2, d3] => { results := [.lit (.bool false)], args := [d1, d2, d3] }
  | _ => none }
def OctetOrderPreservedWrongFalsely : Prop := octetOrderPreservedRow.holds Try.pinned (OpenSpec.ofChange octetOrderPreservedWrong)

/-- 'armaturelaw02.OctetStringReference': WHATEVER THE INPUT: true; the input reads as it did. -/
def octetStringReferenceSpec : ChangeSpec := { name := "octetStringReference", fn := fun _ => fun
  | [d1, d2] => { results := [.lit (.bool true)], args := [d1, d2] }
  | _ => none }
def octetStringReferenceRow : OpenClaim := { program := "ytogbjlbjljopcaa", sum := "e584de807193a1e68dd753a5a59a02eca8ebc17fea374bf2bdf59197fdd38d4e", func := "armature/armaturelaw02.OctetStringReference", spec := "octetStringReference", apart := false }
def OctetStringReferenceSaid : Prop := octetStringReferenceRow.holds Try.pinned (OpenSpec.ofChange octetStringReferenceSpec)

/-- ITS FALSE NEIGHBOUR: 'it returns false'. Refute it at one input. -/
def octetStringReferenceWrong : ChangeSpec := { name := "octetStringReference", fn := fun _ => fun
  | [d1, d2] => { results := [.lit (.bool false)], args := [d1, d2] }
  | _ => none }
def OctetStringReferenceWrongFalsely : Prop := octetStringReferenceRow.holds Try.pinned (OpenSpec.ofChange octetStringReferenceWrong)

/-- 'armaturelaw02.OctetStringRoundTrip': WHATEVER THE INPUT: true; the input reads as it did. -/
def octetStringRoundTripSpec : ChangeSpec := { name := "octetStringRoundTrip", fn := fun _ => fun
  | [d1, d2, d3, d4] => { results := [.lit (.bool true)], args := [d1, d2, d3, d4] }
  | _ => none }
def octetStringRoundTripRow : OpenClaim := { program := "ytogbjlbjljopcaa", sum := "e584de807193a1e68dd753a5a59a02eca8ebc17fea374bf2bdf59197fdd38d4e", func := "armature/armaturelaw02.OctetStringRoundTrip", spec := "octetStringRoundTrip", apart := false }
def OctetStringRoundTripSaid : Prop := octetStringRoundTripRow.holds Try.pinned (OpenSpec.ofChange octetStringRoundTripSpec)

/-- ITS FALSE NEIGHBOUR: 'it returns false'. Refute it at one input. -/
def octetStringRoundTripWrong : ChangeSpec := { name := "octetStringRoundTrip", fn := fun _ => fun
  | [d1, d2, d3, d4] => { results := [.lit (.bool false)], args := [d1, d2, d3, d4] }
  | _ => none }
def OctetStringRoundTripWrongFalsely : Prop := octetStringRoundTripRow.holds Try.pinned (OpenSpec.ofChange octetStringRoundTripWrong)

/- THE SECOND FORM. 'bulk': how many values and letters a reading holds, each counted each time it is reached (what is shared counts as often as it is met; a slice's spare places count too). A statement '..UptoSaid' is the law's where the arguments, and the package variables that the reading takes, are together of bulk at most 1048576: NARROWER than '..Said'. Prove '..Said' where nothing that the law and all that it calls make is longer than what came in: it says more and counts as full. Else prove '..UptoSaid'. A law counts once. -/
mutual
def uptoBulk {H : Type} : DataW H → Nat
  | .lit (.string bytes) => bytes.length + 1
  | .lit _ => 1
  | .nil => 1
  | .ptr d => uptoBulk d + 1
  | .slice elems spare => uptoBulkAll elems + uptoBulkAll spare + 1
  | .agg parts => uptoBulkAll parts + 1
  | .iface _ d => uptoBulk d + 1
  | .map entries => uptoBulkEntries entries + 1
  | .held _ => 1
def uptoBulkAll {H : Type} : List (DataW H) → Nat
  | [] => 0
  | d :: r => uptoBulk d + uptoBulkAll r
def uptoBulkEntries {H : Type} : List (Lit × DataW H) → Nat
  | [] => 0
  | x :: r => uptoBulkEntry x + uptoBulkEntries r
def uptoBulkEntry {H : Type} : Lit × DataW H → Nat
  | (.string bytes, d) => bytes.length + uptoBulk d + 1
  | (_, d) => uptoBulk d + 1
 end
def uptoSmall : (H : Type) → List (DataW H) → Bool := fun _ ds => decide (uptoBulkAll ds ≤ 1048576)
def OpenSpec.upto (s : _root_.Go.ChangeSpec) : _root_.Go.OpenSpec := { _root_.Go.OpenSpec.ofChange s with cond := some uptoSmall }

/-- 'armaturelaw02.OctetPutReference', WHERE WHAT IT READS IS OF BULK AT MOST 1048576: true; the input reads as it did. -/
def octetPutReferenceUptoRow : OpenClaim := { program := "ytogbjlbjljopcaa", sum := "e584de807193a1e68dd753a5a59a02eca8ebc17fea374bf2bdf59197fdd38d4e", func := "armature/armaturelaw02.OctetPutReference", spec := "octetPutReference", apart := false, narrowed := true }
def OctetPutReferenceUptoSaid : Prop := octetPutReferenceUptoRow.holds Try.pinned (OpenSpec.upto octetPutReferenceSpec)

/-- 'armaturelaw02.OctetGetReference', WHERE WHAT IT READS IS OF BULK AT MOST 1048576: true; the input reads as it did. -/
def octetGetReferenceUptoRow : OpenClaim := { program := "ytogbjlbjljopcaa", sum := "e584de807193a1e68dd753a5a59a02eca8ebc17fea374bf2bdf59197fdd38d4e", func := "armature/armaturelaw02.OctetGetReference", spec := "octetGetReference", apart := false, narrowed := true }
def OctetGetReferenceUptoSaid : Prop := octetGetReferenceUptoRow.holds Try.pinned (OpenSpec.upto octetGetReferenceSpec)

/-- 'armaturelaw02.OctetNumberRoundTrip', WHERE WHAT IT READS IS OF BULK AT MOST 1048576: true; the input reads as it did. -/
def octetNumberRoundTripUptoRow : OpenClaim := { program := "ytogbjlbjljopcaa", sum := "e584de807193a1e68dd753a5a59a02eca8ebc17fea374bf2bdf59197fdd38d4e", func := "armature/armaturelaw02.OctetNumberRoundTrip", spec := "octetNumberRoundTrip", apart := false, narrowed := true }
def OctetNumberRoundTripUptoSaid : Prop := octetNumberRoundTripUptoRow.holds Try.pinned (OpenSpec.upto octetNumberRoundTripSpec)

/-- 'armaturelaw02.OctetOrderPreserved', WHERE WHAT IT READS IS OF BULK AT MOST 1048576: true; the input reads as it did. -/
def octetOrderPreservedUptoRow : OpenClaim := { program := "ytogbjlbjljopcaa", sum := "e584de807193a1e68dd753a5a59a02eca8ebc17fea374bf2bdf59197fdd38d4e", func := "armature/armaturelaw02.OctetOrderPreserved", spec := "octetOrderPreserved", apart := false, narrowed := true }
def OctetOrderPreservedUptoSaid : Prop := octetOrderPreservedUptoRow.holds Try.pinned (OpenSpec.upto octetOrderPreservedSpec)

/-- 'armaturelaw02.OctetStringReference', WHERE WHAT IT READS IS OF BULK AT MOST 1048576: true; the input reads as it did. -/
def octetStringReferenceUptoRow : OpenClaim := { program := "ytogbjlbjljopcaa", sum := "e584de807193a1e68dd753a5a59a02eca8ebc17fea374bf2bdf59197fdd38d4e", func := "armature/armaturelaw02.OctetStringReference", spec := "octetStringReference", apart := false, narrowed := true }
def OctetStringReferenceUptoSaid : Prop := octetStringReferenceUptoRow.holds Try.pinned (OpenSpec.upto octetStringReferenceSpec)

/-- 'armaturelaw02.OctetStringRoundTrip', WHERE WHAT IT READS IS OF BULK AT MOST 1048576: true; the input reads as it did. -/
def octetStringRoundTripUptoRow : OpenClaim := { program := "ytogbjlbjljopcaa", sum := "e584de807193a1e68dd753a5a59a02eca8ebc17fea374bf2bdf59197fdd38d4e", func := "armature/armaturelaw02.OctetStringRoundTrip", spec := "octetStringRoundTrip", apart := false, narrowed := true }
def OctetStringRoundTripUptoSaid : Prop := octetStringRoundTripUptoRow.holds Try.pinned (OpenSpec.upto octetStringRoundTripSpec)

end Rows
end Go.Proofs.Ytogbjlbjljopcaa
