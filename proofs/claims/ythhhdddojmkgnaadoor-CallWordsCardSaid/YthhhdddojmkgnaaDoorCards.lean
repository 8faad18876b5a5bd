/-
  DERIVED. GIVEN WITH THE SEED: THE CARDS: each row of YthhhdddojmkgnaaDoorRows.lean that lists a variable, with what it lists TIED to the program's text (the seventh form; the later family's looks); each row that meets fmt, with fmt's text TOLD by the authors' own Lean function (tested against real Go, not proved from fmt's source: count such statements apart). THE CARD IS WHAT COUNTS. Prove the row's statement (the work); the ties are given (YthhhdddojmkgnaaDoorTie.lean); close each card by the builder's one call (the guide's Derived/Test/ToyasCard.lean, 'card_holds'). Laid BY PROGRAM, IN A SANDBOX (cutbox-door.mjs). By AI agents, Wed Nov 11 2026. No macro, syntax, notation, axiom, sorry.
-/
import Derived.Test.YthhhdddojmkgnaaDoorRows
import GoSem.ClaimSeven
namespace Go.Proofs.YthhhdddojmkgnaaDoor
namespace Rows

/-- THE TIED CARD OF 'ferrymanlaw20.CallWords'. -/
def callWordsCard : Claim7 := { stood := { row := callWordsRow, standIns := [], harness := (true, "22529321964d9f7532c7edf2853c9669c1b745d932054d4c6b7a8c8f8aee2d50"), looks := true }, kinds := [], alts := [], laidByText := true, laidKinds := [.data, .data, .data, .data, .sentinel, .sentinel, .widerDeep, .pinned, .pinned], laidTests := true, laidLooks := .later }
def CallWordsCardSaid : Prop := Claim7.holds Tryd.pinned (.plain (OpenSpec.ofChange callWordsSpec)) callWordsCard

/-- THE TIED CARD OF 'ferrymanlaw20.CallLarger'. -/
def callLargerCard : Claim7 := { stood := { row := callLargerRow, standIns := [], harness := (true, "22529321964d9f7532c7edf2853c9669c1b745d932054d4c6b7a8c8f8aee2d50"), looks := true }, kinds := [], alts := [], laidByText := true, laidKinds := [.data, .data, .data, .data, .sentinel, .sentinel, .widerDeep, .pinned, .pinned], laidTests := true, laidLooks := .later }
def CallLargerCardSaid : Prop := Claim7.holds Tryd.pinned (.plain (OpenSpec.ofChange callLargerSpec)) callLargerCard

/-- THE SECOND FORM's CARD OF 'ferrymanlaw20.CallWords'. -/
def callWordsUptoCard : Claim7 := { stood := { row := callWordsUptoRow, standIns := [], harness := (true, "22529321964d9f7532c7edf2853c9669c1b745d932054d4c6b7a8c8f8aee2d50"), looks := true }, kinds := [], alts := [], laidByText := true, laidKinds := [.data, .data, .data, .data, .sentinel, .sentinel, .widerDeep, .pinned, .pinned], laidTests := true, laidLooks := .later }
def CallWordsUptoCardSaid : Prop := Claim7.holds Tryd.pinned (.plain (OpenSpec.upto callWordsSpec)) callWordsUptoCard

/-- THE SECOND FORM's CARD OF 'ferrymanlaw20.CallLarger'. -/
def callLargerUptoCard : Claim7 := { stood := { row := callLargerUptoRow, standIns := [], harness := (true, "22529321964d9f7532c7edf2853c9669c1b745d932054d4c6b7a8c8f8aee2d50"), looks := true }, kinds := [], alts := [], laidByText := true, laidKinds := [.data, .data, .data, .data, .sentinel, .sentinel, .widerDeep, .pinned, .pinned], laidTests := true, laidLooks := .later }
def CallLargerUptoCardSaid : Prop := Claim7.holds Tryd.pinned (.plain (OpenSpec.upto callLargerSpec)) callLargerUptoCard
end Rows
end Go.Proofs.YthhhdddojmkgnaaDoor
