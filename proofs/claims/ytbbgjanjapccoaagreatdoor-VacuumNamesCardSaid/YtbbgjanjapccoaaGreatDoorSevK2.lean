/-
  The closed facts of the card of VacuumNames.
-/
import Derived.Test.YtbbgjanjapccoaaGreatDoorCards
import Derived.SevenTiedAt
namespace Go.Proofs.YtbbgjanjapccoaaGreatDoor
open Go
theorem goesF : false = Rows.vacuumNamesRow.goesBy Tryz.pinned.checked.prog := by kernel_rfl
theorem wfF : Rows.vacuumNamesRow.wfByText (OpenSpec.ofChange Rows.vacuumNamesSpec) = true := by kernel_rfl
theorem looksF : false = Tryz.pinned.checked.prog.looks [] := by kernel_rfl
end Go.Proofs.YtbbgjanjapccoaaGreatDoor
