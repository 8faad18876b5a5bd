/-
  Parts of the run, evaluated by the kernel.
-/
import Derived.Test.YtajdeaabgplacaaGreatDoorSevL2
namespace Go.Proofs.YtajdeaabgplacaaGreatDoor
open Go Go.Proofs.YtajdeaabgplacaaGreatDoor.Sev
set_option linter.unusedVariables false
set_option maxRecDepth 10000000 in
theorem part16 : isCut (goOnK lit15 3 (aheadK (ev cfN 100000) lit16 1000 [.code r19, .code r20])) = true := by decide +kernel
set_option maxRecDepth 10000000 in
theorem part17 : isCut (goOnK lit16 3 (aheadK (ev cfN 100000) lit17 1000 [.code r21, .code D4, .inBlock 3, .code r18])) = true := by decide +kernel
end Go.Proofs.YtajdeaabgplacaaGreatDoor
