/-
  Parts of the run, evaluated by the kernel.
-/
import Derived.Test.YtajdeaabgplacaaGreatDoorSevL1
namespace Go.Proofs.YtajdeaabgplacaaGreatDoor
open Go Go.Proofs.YtajdeaabgplacaaGreatDoor.Sev
set_option linter.unusedVariables false
set_option maxRecDepth 10000000 in
theorem part10 : isCut (goOnK lit9 3 (roundsK (ev cfN 100000) cLoop lit10 1)) = true := by decide +kernel
set_option maxRecDepth 10000000 in
theorem part11 : isCut (goOnK lit10 3 (aheadK (ev cfN 100000) lit11 1000 [.inLoop cLoop, .inBlock 0, .code r14, .code r15, .code r16])) = true := by decide +kernel
end Go.Proofs.YtajdeaabgplacaaGreatDoor
