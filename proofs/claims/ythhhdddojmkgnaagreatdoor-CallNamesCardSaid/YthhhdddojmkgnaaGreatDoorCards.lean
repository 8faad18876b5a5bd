/-
  DERIVED. GIVEN WITH THE SEED: THE CARDS: each row of YthhhdddojmkgnaaGreatDoorRows.lean that lists a variable, with what it lists TIED to the program's text (the seventh form; the later family's looks); each row that meets fmt, with fmt's text TOLD by the authors' own Lean function (tested against real Go, not proved from fmt's source: count such statements apart). THE CARD IS WHAT COUNTS. Prove the row's statement (the work); the ties are given (YthhhdddojmkgnaaGreatDoorTie.lean); close each card by the builder's one call (the guide's Derived/Test/ToyasCard.lean, 'card_holds'). Laid BY PROGRAM, IN A SANDBOX (cutbox-door.mjs). By AI agents, Wed Nov 11 2026. No macro, syntax, notation, axiom, sorry.
-/
import Derived.Test.YthhhdddojmkgnaaGreatDoorRows
import GoSem.ClaimSeven
namespace Go.Proofs.YthhhdddojmkgnaaGreatDoor
namespace Rows

/-- THE TIED CARD OF 'ferrymanlaw20.CallAnswers'. -/
def callAnswersCard : Claim7 := { stood := { row := callAnswersRow, standIns := [], harness := (true, "0c14c5fd0ebbac62f0262478a9360a4c27d76de1765d7d42a6d16b7b03f05213"), looks := true }, kinds := [], alts := [], laidByText := true, laidKinds := [.data, .data, .data, .data, .sentinel, .sentinel, .widerDeep, .pinned, .pinned], laidTests := true, laidLooks := .later }
def CallAnswersCardSaid : Prop := Claim7.holds Tryz.pinned (.plain (OpenSpec.ofChange callAnswersSpec)) callAnswersCard

/-- THE TIED CARD OF 'ferrymanlaw20.CallTells'. -/
def callTellsCard : Claim7 := { stood := { row := callTellsRow, standIns := [], harness := (true, "0c14c5fd0ebbac62f0262478a9360a4c27d76de1765d7d42a6d16b7b03f05213"), looks := true }, kinds := [], alts := [], laidByText := true, laidKinds := [.data, .data, .data, .data, .sentinel, .sentinel, .widerDeep, .pinned, .pinned], laidTests := true, laidLooks := .later }
def CallTellsCardSaid : Prop := Claim7.holds Tryz.pinned (.plain (OpenSpec.ofChange callTellsSpec)) callTellsCard

/-- THE TIED CARD OF 'ferrymanlaw20.CallOne'. -/
def callOneCard : Claim7 := { stood := { row := callOneRow, standIns := [], harness := (true, "0c14c5fd0ebbac62f0262478a9360a4c27d76de1765d7d42a6d16b7b03f05213"), looks := true }, kinds := [], alts := [], laidByText := true, laidKinds := [.data, .data, .data, .data, .sentinel, .sentinel, .widerDeep, .pinned, .pinned], laidTests := true, laidLooks := .later }
def CallOneCardSaid : Prop := Claim7.holds Tryz.pinned (.plain (OpenSpec.ofChange callOneSpec)) callOneCard

/-- THE TIED CARD OF 'ferrymanlaw20.CallTxs'. -/
def callTxsCard : Claim7 := { stood := { row := callTxsRow, standIns := [], harness := (true, "0c14c5fd0ebbac62f0262478a9360a4c27d76de1765d7d42a6d16b7b03f05213"), looks := true }, kinds := [], alts := [], laidByText := true, laidKinds := [.data, .data, .data, .data, .sentinel, .sentinel, .widerDeep, .pinned, .pinned], laidTests := true, laidLooks := .later }
def CallTxsCardSaid : Prop := Claim7.holds Tryz.pinned (.plain (OpenSpec.ofChange callTxsSpec)) callTxsCard

/-- THE TIED CARD OF 'ferrymanlaw20.CallNames'. -/
def callNamesCard : Claim7 := { stood := { row := callNamesRow, standIns := [], harness := (true, "0c14c5fd0ebbac62f0262478a9360a4c27d76de1765d7d42a6d16b7b03f05213"), looks := true }, kinds := [], alts := [], laidByText := true, laidKinds := [.data, .data, .data, .data, .sentinel, .sentinel, .widerDeep, .pinned, .pinned], laidTests := true, laidLooks := .later }
def CallNamesCardSaid : Prop := Claim7.holds Tryz.pinned (.plain (OpenSpec.ofChange callNamesSpec)) callNamesCard

/-- THE TIED CARD OF 'ferrymanlaw20.CallBack'. -/
def callBackCard : Claim7 := { stood := { row := callBackRow, standIns := [], harness := (true, "0c14c5fd0ebbac62f0262478a9360a4c27d76de1765d7d42a6d16b7b03f05213"), looks := true }, kinds := [], alts := [], laidByText := true, laidKinds := [.data, .data, .data, .data, .sentinel, .sentinel, .widerDeep, .pinned, .pinned], laidTests := true, laidLooks := .later }
def CallBackCardSaid : Prop := Claim7.holds Tryz.pinned (.plain (OpenSpec.ofChange callBackSpec)) callBackCard

/-- THE SECOND FORM's CARD OF 'ferrymanlaw20.CallAnswers'. -/
def callAnswersUptoCard : Claim7 := { stood := { row := callAnswersUptoRow, standIns := [], harness := (true, "0c14c5fd0ebbac62f0262478a9360a4c27d76de1765d7d42a6d16b7b03f05213"), looks := true }, kinds := [], alts := [], laidByText := true, laidKinds := [.data, .data, .data, .data, .sentinel, .sentinel, .widerDeep, .pinned, .pinned], laidTests := true, laidLooks := .later }
def CallAnswersUptoCardSaid : Prop := Claim7.holds Tryz.pinned (.plain (OpenSpec.upto callAnswersSpec)) callAnswersUptoCard

/-- THE SECOND FORM's CARD OF 'ferrymanlaw20.CallTells'. -/
def callTellsUptoCard : Claim7 := { stood := { row := callTellsUptoRow, standIns := [], harness := (true, "0c14c5fd0ebbac62f0262478a9360a4c27d76de1765d7d42a6d16b7b03f05213"), looks := true }, kinds := [], alts := [], laidByText := true, laidKinds := [.data, .data, .data, .data, .sentinel, .sentinel, .widerDeep, .pinned, .pinned], laidTests := true, laidLooks := .later }
def CallTellsUptoCardSaid : Prop := Claim7.holds Tryz.pinned (.plain (OpenSpec.upto callTellsSpec)) callTellsUptoCard

/-- THE SECOND FORM's CARD OF 'ferrymanlaw20.CallOne'. -/
def callOneUptoCard : Claim7 := { stood := { row := callOneUptoRow, standIns := [], harness := (true, "0c14c5fd0ebbac62f0262478a9360a4c27d76de1765d7d42a6d16b7b03f05213"), looks := true }, kinds := [], alts := [], laidByText := true, laidKinds := [.data, .data, .data, .data, .sentinel, .sentinel, .widerDeep, .pinned, .pinned], laidTests := true, laidLooks := .later }
def CallOneUptoCardSaid : Prop := Claim7.holds Tryz.pinned (.plain (OpenSpec.upto callOneSpec)) callOneUptoCard

/-- THE SECOND FORM's CARD OF 'ferrymanlaw20.CallTxs'. -/
def callTxsUptoCard : Claim7 := { stood := { row := callTxsUptoRow, standIns := [], harness := (true, "0c14c5fd0ebbac62f0262478a9360a4c27d76de1765d7d42a6d16b7b03f05213"), looks := true }, kinds := [], alts := [], laidByText := true, laidKinds := [.data, .data, .data, .data, .sentinel, .sentinel, .widerDeep, .pinned, .pinned], laidTests := true, laidLooks := .later }
def CallTxsUptoCardSaid : Prop := Claim7.holds Tryz.pinned (.plain (OpenSpec.upto callTxsSpec)) callTxsUptoCard

/-- THE SECOND FORM's CARD OF 'ferrymanlaw20.CallNames'. -/
def callNamesUptoCard : Claim7 := { stood := { row := callNamesUptoRow, standIns := [], harness := (true, "0c14c5fd0ebbac62f0262478a9360a4c27d76de1765d7d42a6d16b7b03f05213"), looks := true }, kinds := [], alts := [], laidByText := true, laidKinds := [.data, .data, .data, .data, .sentinel, .sentinel, .widerDeep, .pinned, .pinned], laidTests := true, laidLooks := .later }
def CallNamesUptoCardSaid : Prop := Claim7.holds Tryz.pinned (.plain (OpenSpec.upto callNamesSpec)) callNamesUptoCard

/-- THE SECOND FORM's CARD OF 'ferrymanlaw20.CallBack'. -/
def callBackUptoCard : Claim7 := { stood := { row := callBackUptoRow, standIns := [], harness := (true, "0c14c5fd0ebbac62f0262478a9360a4c27d76de1765d7d42a6d16b7b03f05213"), looks := true }, kinds := [], alts := [], laidByText := true, laidKinds := [.data, .data, .data, .data, .sentinel, .sentinel, .widerDeep, .pinned, .pinned], laidTests := true, laidLooks := .later }
def CallBackUptoCardSaid : Prop := Claim7.holds Tryz.pinned (.plain (OpenSpec.upto callBackSpec)) callBackUptoCard
end Rows
end Go.Proofs.YthhhdddojmkgnaaGreatDoor
