/-
  DERIVED. GIVEN WITH THE SEED: THE CARDS: each row of YtajdeaabgplacaaGreatDoorRows.lean that lists a variable, with what it lists TIED to the program's text (the seventh form; the later family's looks); each row that meets fmt, with fmt's text TOLD by the authors' own Lean function (tested against real Go, not proved from fmt's source: count such statements apart). THE CARD IS WHAT COUNTS. Prove the row's statement (the work); the ties are given (YtajdeaabgplacaaGreatDoorTie.lean); close each card by the builder's one call (the guide's Derived/Test/ToyasCard.lean, 'card_holds'). Laid BY PROGRAM, IN A SANDBOX (cutbox-door.mjs). By AI agents, Wed Nov 11 2026. No macro, syntax, notation, axiom, sorry.
-/
import Derived.Test.YtajdeaabgplacaaGreatDoorRows
import GoSem.ClaimSeven
namespace Go.Proofs.YtajdeaabgplacaaGreatDoor
namespace Rows

/-- THE TIED CARD OF 'ferrymanlaw23.PutNames'. -/
def putNamesCard : Claim7 := { stood := { row := putNamesRow, standIns := [], harness := (true, "d03b6d57be6c9604828cb1f909dfb6165436292813005dffab25203b5378ff64"), looks := false }, kinds := [], alts := [], laidByText := true, laidKinds := [.data], laidTests := true, laidLooks := .later }
def PutNamesCardSaid : Prop := Claim7.holds Tryz.pinned (.plain (OpenSpec.ofChange putNamesSpec)) putNamesCard

/-- THE SECOND FORM's CARD OF 'ferrymanlaw23.PutNames'. -/
def putNamesUptoCard : Claim7 := { stood := { row := putNamesUptoRow, standIns := [], harness := (true, "d03b6d57be6c9604828cb1f909dfb6165436292813005dffab25203b5378ff64"), looks := false }, kinds := [], alts := [], laidByText := true, laidKinds := [.data], laidTests := true, laidLooks := .later }
def PutNamesUptoCardSaid : Prop := Claim7.holds Tryz.pinned (.plain (OpenSpec.upto putNamesSpec)) putNamesUptoCard
end Rows
end Go.Proofs.YtajdeaabgplacaaGreatDoor
