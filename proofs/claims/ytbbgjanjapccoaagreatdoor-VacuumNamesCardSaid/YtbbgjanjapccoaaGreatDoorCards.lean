/-
  DERIVED. GIVEN WITH THE SEED: THE CARDS: each row of YtbbgjanjapccoaaGreatDoorRows.lean that lists a variable, with what it lists TIED to the program's text (the seventh form; the later family's looks); each row that meets fmt, with fmt's text TOLD by the authors' own Lean function (tested against real Go, not proved from fmt's source: count such statements apart). THE CARD IS WHAT COUNTS. Prove the row's statement (the work); the ties are given (YtbbgjanjapccoaaGreatDoorTie.lean); close each card by the builder's one call (the guide's Derived/Test/ToyasCard.lean, 'card_holds'). Laid BY PROGRAM, IN A SANDBOX (cutbox-door.mjs). By AI agents, Wed Nov 11 2026. No macro, syntax, notation, axiom, sorry.
-/
import Derived.Test.YtbbgjanjapccoaaGreatDoorRows
import GoSem.ClaimSeven
namespace Go.Proofs.YtbbgjanjapccoaaGreatDoor
namespace Rows

/-- THE TIED CARD OF 'ferrymanlaw25.VacuumNames'. -/
def vacuumNamesCard : Claim7 := { stood := { row := vacuumNamesRow, standIns := [], harness := (true, "67a6404a824d3ce8588ac7ccaca860e27d4fdd52e4f08363d4c88f68430f94ce"), looks := false }, kinds := [], alts := [], laidByText := true, laidKinds := [.data], laidTests := true, laidLooks := .later }
def VacuumNamesCardSaid : Prop := Claim7.holds Tryz.pinned (.plain (OpenSpec.ofChange vacuumNamesSpec)) vacuumNamesCard

/-- THE SECOND FORM's CARD OF 'ferrymanlaw25.VacuumNames'. -/
def vacuumNamesUptoCard : Claim7 := { stood := { row := vacuumNamesUptoRow, standIns := [], harness := (true, "67a6404a824d3ce8588ac7ccaca860e27d4fdd52e4f08363d4c88f68430f94ce"), looks := false }, kinds := [], alts := [], laidByText := true, laidKinds := [.data], laidTests := true, laidLooks := .later }
def VacuumNamesUptoCardSaid : Prop := Claim7.holds Tryz.pinned (.plain (OpenSpec.upto vacuumNamesSpec)) vacuumNamesUptoCard
end Rows
end Go.Proofs.YtbbgjanjapccoaaGreatDoor
