/-
  Parts of the run, evaluated by the kernel.
-/
import Derived.Test.YtbbgjanjapccoaaGreatDoorSevL1
namespace Go.Proofs.YtbbgjanjapccoaaGreatDoor
open Go Go.Proofs.YtbbgjanjapccoaaGreatDoor.Sev
set_option linter.unusedVariables false
set_option maxRecDepth 10000000 in
theorem part10 : isCut (goOnK lit9 3 (aheadK (ev cfN 100000) lit10 1000 [.code r19])) = true := by decide +kernel
set_option maxRecDepth 10000000 in
theorem part11 : isCut (goOnK lit10 3 (aheadK (ev cfN 100000) lit11 1000 [.code r20])) = true := by decide +kernel
end Go.Proofs.YtbbgjanjapccoaaGreatDoor
