/-
  DERIVED. GIVEN WITH THE SEED: THE CARDS: each row of YtjdfenlmifhhdaaDoorRows.lean that lists a variable, with what it lists TIED to the program's text (the seventh form; the later family's looks); each row that meets fmt, with fmt's text TOLD by the authors' own Lean function (tested against real Go, not proved from fmt's source: count such statements apart). THE CARD IS WHAT COUNTS. Prove the row's statement (the work); the ties are given (YtjdfenlmifhhdaaDoorTie.lean); close each card by the builder's one call (the guide's Derived/Test/ToyasCard.lean, 'card_holds'). Laid BY PROGRAM, IN A SANDBOX (cutbox-door.mjs). By AI agents, Wed Nov 11 2026. No macro, syntax, notation, axiom, sorry.
-/
import Derived.Test.YtjdfenlmifhhdaaDoorRows
import GoSem.ClaimSeven
namespace Go.Proofs.YtjdfenlmifhhdaaDoor
namespace Rows

/-- THE TIED CARD OF 'reliquarylaw16.SpaceApart'. -/
def spaceApartCard : Claim7 := { stood := { row := spaceApartRow, standIns := [], harness := (true, "739fc0078fced237a1dc3d1185482f3728d7854649c7a6f017fa9cbce5193454"), looks := false }, kinds := [], alts := [], laidByText := true, laidKinds := [.data], laidTests := true, laidLooks := .later }
def SpaceApartCardSaid : Prop := Claim7.holds Tryd.pinned (.plain (OpenSpec.ofChange spaceApartSpec)) spaceApartCard

/-- THE TIED CARD OF 'reliquarylaw16.SpaceBack'. -/
def spaceBackCard : Claim7 := { stood := { row := spaceBackRow, standIns := [], harness := (true, "739fc0078fced237a1dc3d1185482f3728d7854649c7a6f017fa9cbce5193454"), looks := false }, kinds := [], alts := [], laidByText := true, laidKinds := [.data], laidTests := true, laidLooks := .later }
def SpaceBackCardSaid : Prop := Claim7.holds Tryd.pinned (.plain (OpenSpec.ofChange spaceBackSpec)) spaceBackCard

/-- THE TIED CARD OF 'reliquarylaw16.SpaceTurned'. -/
def spaceTurnedCard : Claim7 := { stood := { row := spaceTurnedRow, standIns := [], harness := (true, "739fc0078fced237a1dc3d1185482f3728d7854649c7a6f017fa9cbce5193454"), looks := false }, kinds := [], alts := [], laidByText := true, laidKinds := [.data], laidTests := true, laidLooks := .later }
def SpaceTurnedCardSaid : Prop := Claim7.holds Tryd.pinned (.plain (OpenSpec.ofChange spaceTurnedSpec)) spaceTurnedCard

/-- THE SECOND FORM's CARD OF 'reliquarylaw16.SpaceApart'. -/
def spaceApartUptoCard : Claim7 := { stood := { row := spaceApartUptoRow, standIns := [], harness := (true, "739fc0078fced237a1dc3d1185482f3728d7854649c7a6f017fa9cbce5193454"), looks := false }, kinds := [], alts := [], laidByText := true, laidKinds := [.data], laidTests := true, laidLooks := .later }
def SpaceApartUptoCardSaid : Prop := Claim7.holds Tryd.pinned (.plain (OpenSpec.upto spaceApartSpec)) spaceApartUptoCard

/-- THE SECOND FORM's CARD OF 'reliquarylaw16.SpaceBack'. -/
def spaceBackUptoCard : Claim7 := { stood := { row := spaceBackUptoRow, standIns := [], harness := (true, "739fc0078fced237a1dc3d1185482f3728d7854649c7a6f017fa9cbce5193454"), looks := false }, kinds := [], alts := [], laidByText := true, laidKinds := [.data], laidTests := true, laidLooks := .later }
def SpaceBackUptoCardSaid : Prop := Claim7.holds Tryd.pinned (.plain (OpenSpec.upto spaceBackSpec)) spaceBackUptoCard

/-- THE SECOND FORM's CARD OF 'reliquarylaw16.SpaceTurned'. -/
def spaceTurnedUptoCard : Claim7 := { stood := { row := spaceTurnedUptoRow, standIns := [], harness := (true, "739fc0078fced237a1dc3d1185482f3728d7854649c7a6f017fa9cbce5193454"), looks := false }, kinds := [], alts := [], laidByText := true, laidKinds := [.data], laidTests := true, laidLooks := .later }
def SpaceTurnedUptoCardSaid : Prop := Claim7.holds Tryd.pinned (.plain (OpenSpec.upto spaceTurnedSpec)) spaceTurnedUptoCard
end Rows
end Go.Proofs.YtjdfenlmifhhdaaDoor
