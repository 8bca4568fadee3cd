/-
  DERIVED. GIVEN WITH THE SEED: THE CARDS: each row of YtaamfcpmekeahaaGreatDoorRows.lean that lists a variable, with what it lists TIED to the program's text (the seventh form; the later family's looks); each row that meets fmt, with fmt's text TOLD by the authors' own Lean function (tested against real Go, not proved from fmt's source: count such statements apart). THE CARD IS WHAT COUNTS. Prove the row's statement (the work); the ties are given (YtaamfcpmekeahaaGreatDoorTie.lean); close each card by the builder's one call (the guide's Derived/Test/ToyasCard.lean, 'card_holds'). Laid BY PROGRAM, IN A SANDBOX (cutbox-door.mjs). By AI agents, Wed Nov 11 2026. No macro, syntax, notation, axiom, sorry.
-/
import Derived.Test.YtaamfcpmekeahaaGreatDoorRows
import GoSem.ClaimSeven
namespace Go.Proofs.YtaamfcpmekeahaaGreatDoor
namespace Rows

/-- THE TIED CARD OF 'armaturelaw51.GcReports'. -/
def gcReportsCard : Claim7 := { stood := { row := gcReportsRow, standIns := [], harness := (true, "f415640c8ebad5cb2a119a1003d616893e0fb6fe1f8bbb13852f31629077b338"), looks := false }, kinds := [], alts := [], laidByText := true, laidKinds := [.data], laidTests := true, laidLooks := .later }
def GcReportsCardSaid : Prop := Claim7.holds Tryz.pinned (.plain (OpenSpec.ofChange gcReportsSpec)) gcReportsCard

/-- THE TIED CARD OF 'armaturelaw51.GcCollect'. -/
def gcCollectCard : Claim7 := { stood := { row := gcCollectRow, standIns := [], harness := (true, "f415640c8ebad5cb2a119a1003d616893e0fb6fe1f8bbb13852f31629077b338"), looks := false }, kinds := [], alts := [], laidByText := true, laidKinds := [.data], laidTests := true, laidLooks := .later }
def GcCollectCardSaid : Prop := Claim7.holds Tryz.pinned (.plain (OpenSpec.ofChange gcCollectSpec)) gcCollectCard

/-- THE TIED CARD OF 'armaturelaw51.GcIdempotent'. -/
def gcIdempotentCard : Claim7 := { stood := { row := gcIdempotentRow, standIns := [], harness := (true, "f415640c8ebad5cb2a119a1003d616893e0fb6fe1f8bbb13852f31629077b338"), looks := false }, kinds := [], alts := [], laidByText := true, laidKinds := [.data], laidTests := true, laidLooks := .later }
def GcIdempotentCardSaid : Prop := Claim7.holds Tryz.pinned (.plain (OpenSpec.ofChange gcIdempotentSpec)) gcIdempotentCard

/-- THE TIED CARD OF 'armaturelaw51.GcSafety'. -/
def gcSafetyCard : Claim7 := { stood := { row := gcSafetyRow, standIns := [], harness := (true, "f415640c8ebad5cb2a119a1003d616893e0fb6fe1f8bbb13852f31629077b338"), looks := false }, kinds := [], alts := [], laidByText := true, laidKinds := [.data], laidTests := true, laidLooks := .later }
def GcSafetyCardSaid : Prop := Claim7.holds Tryz.pinned (.plain (OpenSpec.ofChange gcSafetySpec)) gcSafetyCard

/-- THE TIED CARD OF 'armaturelaw51.GcSoftReferences'. -/
def gcSoftReferencesCard : Claim7 := { stood := { row := gcSoftReferencesRow, standIns := [], harness := (true, "f415640c8ebad5cb2a119a1003d616893e0fb6fe1f8bbb13852f31629077b338"), looks := false }, kinds := [], alts := [], laidByText := true, laidKinds := [.data], laidTests := true, laidLooks := .later }
def GcSoftReferencesCardSaid : Prop := Claim7.holds Tryz.pinned (.plain (OpenSpec.ofChange gcSoftReferencesSpec)) gcSoftReferencesCard

/-- THE SECOND FORM's CARD OF 'armaturelaw51.GcReports'. -/
def gcReportsUptoCard : Claim7 := { stood := { row := gcReportsUptoRow, standIns := [], harness := (true, "f415640c8ebad5cb2a119a1003d616893e0fb6fe1f8bbb13852f31629077b338"), looks := false }, kinds := [], alts := [], laidByText := true, laidKinds := [.data], laidTests := true, laidLooks := .later }
def GcReportsUptoCardSaid : Prop := Claim7.holds Tryz.pinned (.plain (OpenSpec.upto gcReportsSpec)) gcReportsUptoCard

/-- THE SECOND FORM's CARD OF 'armaturelaw51.GcCollect'. -/
def gcCollectUptoCard : Claim7 := { stood := { row := gcCollectUptoRow, standIns := [], harness := (true, "f415640c8ebad5cb2a119a1003d616893e0fb6fe1f8bbb13852f31629077b338"), looks := false }, kinds := [], alts := [], laidByText := true, laidKinds := [.data], laidTests := true, laidLooks := .later }
def GcCollectUptoCardSaid : Prop := Claim7.holds Tryz.pinned (.plain (OpenSpec.upto gcCollectSpec)) gcCollectUptoCard

/-- THE SECOND FORM's CARD OF 'armaturelaw51.GcIdempotent'. -/
def gcIdempotentUptoCard : Claim7 := { stood := { row := gcIdempotentUptoRow, standIns := [], harness := (true, "f415640c8ebad5cb2a119a1003d616893e0fb6fe1f8bbb13852f31629077b338"), looks := false }, kinds := [], alts := [], laidByText := true, laidKinds := [.data], laidTests := true, laidLooks := .later }
def GcIdempotentUptoCardSaid : Prop := Claim7.holds Tryz.pinned (.plain (OpenSpec.upto gcIdempotentSpec)) gcIdempotentUptoCard

/-- THE SECOND FORM's CARD OF 'armaturelaw51.GcSafety'. -/
def gcSafetyUptoCard : Claim7 := { stood := { row := gcSafetyUptoRow, standIns := [], harness := (true, "f415640c8ebad5cb2a119a1003d616893e0fb6fe1f8bbb13852f31629077b338"), looks := false }, kinds := [], alts := [], laidByText := true, laidKinds := [.data], laidTests := true, laidLooks := .later }
def GcSafetyUptoCardSaid : Prop := Claim7.holds Tryz.pinned (.plain (OpenSpec.upto gcSafetySpec)) gcSafetyUptoCard

/-- THE SECOND FORM's CARD OF 'armaturelaw51.GcSoftReferences'. -/
def gcSoftReferencesUptoCard : Claim7 := { stood := { row := gcSoftReferencesUptoRow, standIns := [], harness := (true, "f415640c8ebad5cb2a119a1003d616893e0fb6fe1f8bbb13852f31629077b338"), looks := false }, kinds := [], alts := [], laidByText := true, laidKinds := [.data], laidTests := true, laidLooks := .later }
def GcSoftReferencesUptoCardSaid : Prop := Claim7.holds Tryz.pinned (.plain (OpenSpec.upto gcSoftReferencesSpec)) gcSoftReferencesUptoCard
end Rows
end Go.Proofs.YtaamfcpmekeahaaGreatDoor
