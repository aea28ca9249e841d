/-
  DERIVED. GIVEN WITH THE SEED: THE CARDS: each row of YtjjdblcinoikeaaDoorRows.lean that lists a variable, with what it lists TIED to the program's text (the seventh form; the later family's looks); each row that meets fmt, with fmt's text TOLD by the authors' own Lean function (tested against real Go, not proved from fmt's source: count such statements apart). THE CARD IS WHAT COUNTS. Prove the row's statement (the work); the ties are given (YtjjdblcinoikeaaDoorTie.lean); close each card by the builder's one call (the guide's Derived/Test/ToyasCard.lean, 'card_holds'). Laid BY PROGRAM, IN A SANDBOX (cutbox-door.mjs). By AI agents, Wed Nov 11 2026. No macro, syntax, notation, axiom, sorry.
-/
import Derived.Test.YtjjdblcinoikeaaDoorRows
import GoSem.ClaimSeven
namespace Go.Proofs.YtjjdblcinoikeaaDoor
namespace Rows

/-- THE TIED CARD OF 'dyehouselaw22.AssignTells'. -/
def assignTellsCard : Claim7 := { stood := { row := assignTellsRow, standIns := [], harness := (true, "6c447bbf274d2985e58334b085338487f30c64e6a3851cb0c54a48491bf498bf"), looks := false }, kinds := [], alts := [], laidByText := true, laidKinds := [.data], laidTests := true, laidLooks := .later }
def AssignTellsCardSaid : Prop := Claim7.holds Tryd.pinned (.plain (OpenSpec.ofChange assignTellsSpec)) assignTellsCard

/-- THE TIED CARD OF 'dyehouselaw22.AssignWays'. -/
def assignWaysCard : Claim7 := { stood := { row := assignWaysRow, standIns := [], harness := (true, "6c447bbf274d2985e58334b085338487f30c64e6a3851cb0c54a48491bf498bf"), looks := false }, kinds := [], alts := [], laidByText := true, laidKinds := [.data], laidTests := true, laidLooks := .later }
def AssignWaysCardSaid : Prop := Claim7.holds Tryd.pinned (.plain (OpenSpec.ofChange assignWaysSpec)) assignWaysCard

/-- THE SECOND FORM's CARD OF 'dyehouselaw22.AssignTells'. -/
def assignTellsUptoCard : Claim7 := { stood := { row := assignTellsUptoRow, standIns := [], harness := (true, "6c447bbf274d2985e58334b085338487f30c64e6a3851cb0c54a48491bf498bf"), looks := false }, kinds := [], alts := [], laidByText := true, laidKinds := [.data], laidTests := true, laidLooks := .later }
def AssignTellsUptoCardSaid : Prop := Claim7.holds Tryd.pinned (.plain (OpenSpec.upto assignTellsSpec)) assignTellsUptoCard

/-- THE SECOND FORM's CARD OF 'dyehouselaw22.AssignWays'. -/
def assignWaysUptoCard : Claim7 := { stood := { row := assignWaysUptoRow, standIns := [], harness := (true, "6c447bbf274d2985e58334b085338487f30c64e6a3851cb0c54a48491bf498bf"), looks := false }, kinds := [], alts := [], laidByText := true, laidKinds := [.data], laidTests := true, laidLooks := .later }
def AssignWaysUptoCardSaid : Prop := Claim7.holds Tryd.pinned (.plain (OpenSpec.upto assignWaysSpec)) assignWaysUptoCard
end Rows
end Go.Proofs.YtjjdblcinoikeaaDoor
