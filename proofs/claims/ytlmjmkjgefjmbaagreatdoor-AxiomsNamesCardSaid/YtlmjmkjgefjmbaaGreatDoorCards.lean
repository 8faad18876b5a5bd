/-
  DERIVED. GIVEN WITH THE SEED: THE CARDS: each row of YtlmjmkjgefjmbaaGreatDoorRows.lean that lists a variable, with what it lists TIED to the program's text (the seventh form; the later family's looks); each row that meets fmt, with fmt's text TOLD by the authors' own Lean function (tested against real Go, not proved from fmt's source: count such statements apart). THE CARD IS WHAT COUNTS. Prove the row's statement (the work); the ties are given (YtlmjmkjgefjmbaaGreatDoorTie.lean); close each card by the builder's one call (the guide's Derived/Test/ToyasCard.lean, 'card_holds'). Laid BY PROGRAM, IN A SANDBOX (cutbox-door.mjs). By AI agents, Wed Nov 11 2026. No macro, syntax, notation, axiom, sorry.
-/
import Derived.Test.YtlmjmkjgefjmbaaGreatDoorRows
import GoSem.ClaimSeven
namespace Go.Proofs.YtlmjmkjgefjmbaaGreatDoor
namespace Rows

/-- THE TIED CARD OF 'ferrymanlaw29.AxiomsNames'. -/
def axiomsNamesCard : Claim7 := { stood := { row := axiomsNamesRow, standIns := [], harness := (true, "09390ef7df5d96aadf870a822f4b23cfd0ecebd498da02f2004b6c41e3313bd1"), looks := false }, kinds := [], alts := [], laidByText := true, laidKinds := [.funcs, .funcs], laidTests := true, laidLooks := .later }
def AxiomsNamesCardSaid : Prop := Claim7.holds Tryz.pinned (.plain (OpenSpec.ofChange axiomsNamesSpec)) axiomsNamesCard

/-- THE TIED CARD OF 'ferrymanlaw29.AxiomsRight'. -/
def axiomsRightCard : Claim7 := { stood := { row := axiomsRightRow, standIns := [], harness := (true, "09390ef7df5d96aadf870a822f4b23cfd0ecebd498da02f2004b6c41e3313bd1"), looks := false }, kinds := [], alts := [], laidByText := true, laidKinds := [.funcs, .funcs], laidTests := true, laidLooks := .later }
def AxiomsRightCardSaid : Prop := Claim7.holds Tryz.pinned (.plain (OpenSpec.ofChange axiomsRightSpec)) axiomsRightCard

/-- THE SECOND FORM's CARD OF 'ferrymanlaw29.AxiomsNames'. -/
def axiomsNamesUptoCard : Claim7 := { stood := { row := axiomsNamesUptoRow, standIns := [], harness := (true, "09390ef7df5d96aadf870a822f4b23cfd0ecebd498da02f2004b6c41e3313bd1"), looks := false }, kinds := [], alts := [], laidByText := true, laidKinds := [.funcs, .funcs], laidTests := true, laidLooks := .later }
def AxiomsNamesUptoCardSaid : Prop := Claim7.holds Tryz.pinned (.plain (OpenSpec.upto axiomsNamesSpec)) axiomsNamesUptoCard

/-- THE SECOND FORM's CARD OF 'ferrymanlaw29.AxiomsRight'. -/
def axiomsRightUptoCard : Claim7 := { stood := { row := axiomsRightUptoRow, standIns := [], harness := (true, "09390ef7df5d96aadf870a822f4b23cfd0ecebd498da02f2004b6c41e3313bd1"), looks := false }, kinds := [], alts := [], laidByText := true, laidKinds := [.funcs, .funcs], laidTests := true, laidLooks := .later }
def AxiomsRightUptoCardSaid : Prop := Claim7.holds Tryz.pinned (.plain (OpenSpec.upto axiomsRightSpec)) axiomsRightUptoCard
end Rows
end Go.Proofs.YtlmjmkjgefjmbaaGreatDoor
