/-
  The closed facts of the card of PutNames.
-/
import Derived.Test.YtajdeaabgplacaaGreatDoorCards
import Derived.SevenTiedAt
namespace Go.Proofs.YtajdeaabgplacaaGreatDoor
open Go
theorem goesF : false = Rows.putNamesRow.goesBy Tryz.pinned.checked.prog := by kernel_rfl
theorem wfF : Rows.putNamesRow.wfByText (OpenSpec.ofChange Rows.putNamesSpec) = true := by kernel_rfl
theorem looksF : false = Tryz.pinned.checked.prog.looks [] := by kernel_rfl
end Go.Proofs.YtajdeaabgplacaaGreatDoor
