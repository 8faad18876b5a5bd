/-
  Parts of the run, evaluated by the kernel.
-/
import Derived.Test.YtbbgjanjapccoaaGreatDoorSevL2
namespace Go.Proofs.YtbbgjanjapccoaaGreatDoor
open Go Go.Proofs.YtbbgjanjapccoaaGreatDoor.Sev
set_option linter.unusedVariables false
set_option maxRecDepth 10000000 in
theorem part12 : isCut (goOnK lit11 3 (aheadK (ev cfN 100000) lit12 1000 [.code x21])) = true := by decide +kernel
set_option maxRecDepth 10000000 in
theorem part13 : isCut (goOnK lit12 3 (aheadK (ev cfN 100000) lit13 1000 [.code r23, .code x24])) = true := by decide +kernel
set_option maxRecDepth 10000000 in
theorem part_z : chkT (goOnK lit13 3 (stackK (ev cfN 100000) (endF cfN (ev cfN 100000) Tryz.f3) 1000 [.code (.seq x26 B21)])) = true := by decide +kernel
end Go.Proofs.YtbbgjanjapccoaaGreatDoor
