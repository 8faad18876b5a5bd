/-
  DERIVED. GIVEN WITH THE SEED: THE CARDS: each row of YtcjnalppjbejoaaGreatDoorRows.lean that lists a variable, with what it lists TIED to the program's text (the seventh form; the later family's looks); each row that meets fmt, with fmt's text TOLD by the authors' own Lean function (tested against real Go, not proved from fmt's source: count such statements apart). THE CARD IS WHAT COUNTS. Prove the row's statement (the work); the ties are given (YtcjnalppjbejoaaGreatDoorTie.lean); close each card by the builder's one call (the guide's Derived/Test/ToyasCard.lean, 'card_holds'). Laid BY PROGRAM, IN A SANDBOX (cutbox-door.mjs). By AI agents, Wed Nov 11 2026. No macro, syntax, notation, axiom, sorry.
-/
import Derived.Test.YtcjnalppjbejoaaGreatDoorRows
import GoSem.ClaimSeven
namespace Go.Proofs.YtcjnalppjbejoaaGreatDoor
namespace Rows

/-- THE TIED CARD OF 'ferrymanlaw21.EndsNames'. -/
def endsNamesCard : Claim7 := { stood := { row := endsNamesRow, standIns := [], harness := (true, "2879d0b0c728b1fe1a4f332a69c0eac3c7f7a05ea203f7e2f4443c3a76c5a16b"), looks := false }, kinds := [], alts := [], laidByText := true, laidKinds := [.data], laidTests := true, laidLooks := .later }
def EndsNamesCardSaid : Prop := Claim7.holds Tryz.pinned (.plain (OpenSpec.ofChange endsNamesSpec)) endsNamesCard

/-- THE SECOND FORM's CARD OF 'ferrymanlaw21.EndsNames'. -/
def endsNamesUptoCard : Claim7 := { stood := { row := endsNamesUptoRow, standIns := [], harness := (true, "2879d0b0c728b1fe1a4f332a69c0eac3c7f7a05ea203f7e2f4443c3a76c5a16b"), looks := false }, kinds := [], alts := [], laidByText := true, laidKinds := [.data], laidTests := true, laidLooks := .later }
def EndsNamesUptoCardSaid : Prop := Claim7.holds Tryz.pinned (.plain (OpenSpec.upto endsNamesSpec)) endsNamesUptoCard
end Rows
end Go.Proofs.YtcjnalppjbejoaaGreatDoor
