/-
  Parts of the run, evaluated by the kernel.
-/
import Derived.Test.YtajdeaabgplacaaGreatDoorSevL1
namespace Go.Proofs.YtajdeaabgplacaaGreatDoor
open Go Go.Proofs.YtajdeaabgplacaaGreatDoor.Sev
set_option linter.unusedVariables false
set_option maxRecDepth 10000000 in
theorem part12 : isCut (goOnK lit11 3 (aheadK (ev cfN 100000) lit12 1000 [.code y17])) = true := by decide +kernel
set_option maxRecDepth 10000000 in
theorem part13 : isCut (goOnK lit12 3 (aheadK (ev cfN 100000) lit13 1000 [.code r19, .code r20])) = true := by decide +kernel
end Go.Proofs.YtajdeaabgplacaaGreatDoor
