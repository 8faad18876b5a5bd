/-
  Parts of the run, evaluated by the kernel.
-/
import Derived.Test.YtajdeaabgplacaaGreatDoorSevL2
namespace Go.Proofs.YtajdeaabgplacaaGreatDoor
open Go Go.Proofs.YtajdeaabgplacaaGreatDoor.Sev
set_option linter.unusedVariables false
set_option maxRecDepth 10000000 in
theorem part14 : isCut (goOnK lit13 3 (aheadK (ev cfN 100000) lit14 1000 [.code r21, .code D4, .inBlock 3, .code r18])) = true := by decide +kernel
set_option maxRecDepth 10000000 in
theorem part15 : isCut (goOnK lit14 3 (aheadK (ev cfN 100000) lit15 1000 [.code y17])) = true := by decide +kernel
end Go.Proofs.YtajdeaabgplacaaGreatDoor
