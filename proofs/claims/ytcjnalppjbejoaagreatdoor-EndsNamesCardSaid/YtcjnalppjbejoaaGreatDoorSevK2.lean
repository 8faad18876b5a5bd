/-
  The closed facts of the card of EndsNames.
-/
import Derived.Test.YtcjnalppjbejoaaGreatDoorCards
import Derived.SevenTiedAt
namespace Go.Proofs.YtcjnalppjbejoaaGreatDoor
open Go
theorem goesF : false = Rows.endsNamesRow.goesBy Tryz.pinned.checked.prog := by kernel_rfl
theorem wfF : Rows.endsNamesRow.wfByText (OpenSpec.ofChange Rows.endsNamesSpec) = true := by kernel_rfl
theorem looksF : false = Tryz.pinned.checked.prog.looks [] := by kernel_rfl
end Go.Proofs.YtcjnalppjbejoaaGreatDoor
