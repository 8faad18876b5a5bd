/-
  Parts of the run, evaluated by the kernel.
-/
import Derived.Test.YtajdeaabgplacaaGreatDoorSevL1
namespace Go.Proofs.YtajdeaabgplacaaGreatDoor
open Go Go.Proofs.YtajdeaabgplacaaGreatDoor.Sev
set_option linter.unusedVariables false
set_option maxRecDepth 10000000 in
theorem part8 : isCut (goOnK lit7 3 (roundsK (ev cfN 100000) cLoop lit8 1)) = true := by decide +kernel
set_option maxRecDepth 10000000 in
theorem part9 : isCut (goOnK lit8 3 (roundsK (ev cfN 100000) cLoop lit9 1)) = true := by decide +kernel
end Go.Proofs.YtajdeaabgplacaaGreatDoor
