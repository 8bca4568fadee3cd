/-
  DERIVED. GIVEN WITH THE SEED: THE CARDS: each row of YtiiilinleagffaaGreatDoorRows.lean that lists a variable, with what it lists TIED to the program's text (the seventh form; the later family's looks); each row that meets fmt, with fmt's text TOLD by the authors' own Lean function (tested against real Go, not proved from fmt's source: count such statements apart). THE CARD IS WHAT COUNTS. Prove the row's statement (the work); the ties are given (YtiiilinleagffaaGreatDoorTie.lean); close each card by the builder's one call (the guide's Derived/Test/ToyasCard.lean, 'card_holds'). Laid BY PROGRAM, IN A SANDBOX (cutbox-door.mjs). By AI agents, Wed Nov 11 2026. No macro, syntax, notation, axiom, sorry.
-/
import Derived.Test.YtiiilinleagffaaGreatDoorRows
import GoSem.ClaimSeven
namespace Go.Proofs.YtiiilinleagffaaGreatDoor
namespace Rows

/-- THE TIED CARD OF 'armaturelaw50.ReachabilityReference'. -/
def reachabilityReferenceCard : Claim7 := { stood := { row := reachabilityReferenceRow, standIns := [], harness := (true, "fc9448db9eaec7232785f1b66388264df2deaa6e5a4d6a705348f827750de6c5"), looks := false }, kinds := [], alts := [], laidByText := true, laidKinds := [.data], laidTests := true, laidLooks := .later }
def ReachabilityReferenceCardSaid : Prop := Claim7.holds Tryz.pinned (.plain (OpenSpec.ofChange reachabilityReferenceSpec)) reachabilityReferenceCard

/-- THE TIED CARD OF 'armaturelaw50.ReachabilityLevels'. -/
def reachabilityLevelsCard : Claim7 := { stood := { row := reachabilityLevelsRow, standIns := [], harness := (true, "fc9448db9eaec7232785f1b66388264df2deaa6e5a4d6a705348f827750de6c5"), looks := false }, kinds := [], alts := [], laidByText := true, laidKinds := [.data], laidTests := true, laidLooks := .later }
def ReachabilityLevelsCardSaid : Prop := Claim7.holds Tryz.pinned (.plain (OpenSpec.ofChange reachabilityLevelsSpec)) reachabilityLevelsCard

/-- THE TIED CARD OF 'armaturelaw50.ReachabilityNewObject'. -/
def reachabilityNewObjectCard : Claim7 := { stood := { row := reachabilityNewObjectRow, standIns := [], harness := (true, "fc9448db9eaec7232785f1b66388264df2deaa6e5a4d6a705348f827750de6c5"), looks := false }, kinds := [], alts := [], laidByText := true, laidKinds := [.data], laidTests := true, laidLooks := .later }
def ReachabilityNewObjectCardSaid : Prop := Claim7.holds Tryz.pinned (.plain (OpenSpec.ofChange reachabilityNewObjectSpec)) reachabilityNewObjectCard

/-- THE TIED CARD OF 'armaturelaw50.ReachabilityRoots'. -/
def reachabilityRootsCard : Claim7 := { stood := { row := reachabilityRootsRow, standIns := [], harness := (true, "fc9448db9eaec7232785f1b66388264df2deaa6e5a4d6a705348f827750de6c5"), looks := false }, kinds := [], alts := [], laidByText := true, laidKinds := [.data], laidTests := true, laidLooks := .later }
def ReachabilityRootsCardSaid : Prop := Claim7.holds Tryz.pinned (.plain (OpenSpec.ofChange reachabilityRootsSpec)) reachabilityRootsCard

/-- THE SECOND FORM's CARD OF 'armaturelaw50.ReachabilityReference'. -/
def reachabilityReferenceUptoCard : Claim7 := { stood := { row := reachabilityReferenceUptoRow, standIns := [], harness := (true, "fc9448db9eaec7232785f1b66388264df2deaa6e5a4d6a705348f827750de6c5"), looks := false }, kinds := [], alts := [], laidByText := true, laidKinds := [.data], laidTests := true, laidLooks := .later }
def ReachabilityReferenceUptoCardSaid : Prop := Claim7.holds Tryz.pinned (.plain (OpenSpec.upto reachabilityReferenceSpec)) reachabilityReferenceUptoCard

/-- THE SECOND FORM's CARD OF 'armaturelaw50.ReachabilityLevels'. -/
def reachabilityLevelsUptoCard : Claim7 := { stood := { row := reachabilityLevelsUptoRow, standIns := [], harness := (true, "fc9448db9eaec7232785f1b66388264df2deaa6e5a4d6a705348f827750de6c5"), looks := false }, kinds := [], alts := [], laidByText := true, laidKinds := [.data], laidTests := true, laidLooks := .later }
def ReachabilityLevelsUptoCardSaid : Prop := Claim7.holds Tryz.pinned (.plain (OpenSpec.upto reachabilityLevelsSpec)) reachabilityLevelsUptoCard

/-- THE SECOND FORM's CARD OF 'armaturelaw50.ReachabilityNewObject'. -/
def reachabilityNewObjectUptoCard : Claim7 := { stood := { row := reachabilityNewObjectUptoRow, standIns := [], harness := (true, "fc9448db9eaec7232785f1b66388264df2deaa6e5a4d6a705348f827750de6c5"), looks := false }, kinds := [], alts := [], laidByText := true, laidKinds := [.data], laidTests := true, laidLooks := .later }
def ReachabilityNewObjectUptoCardSaid : Prop := Claim7.holds Tryz.pinned (.plain (OpenSpec.upto reachabilityNewObjectSpec)) reachabilityNewObjectUptoCard

/-- THE SECOND FORM's CARD OF 'armaturelaw50.ReachabilityRoots'. -/
def reachabilityRootsUptoCard : Claim7 := { stood := { row := reachabilityRootsUptoRow, standIns := [], harness := (true, "fc9448db9eaec7232785f1b66388264df2deaa6e5a4d6a705348f827750de6c5"), looks := false }, kinds := [], alts := [], laidByText := true, laidKinds := [.data], laidTests := true, laidLooks := .later }
def ReachabilityRootsUptoCardSaid : Prop := Claim7.holds Tryz.pinned (.plain (OpenSpec.upto reachabilityRootsSpec)) reachabilityRootsUptoCard
end Rows
end Go.Proofs.YtiiilinleagffaaGreatDoor
