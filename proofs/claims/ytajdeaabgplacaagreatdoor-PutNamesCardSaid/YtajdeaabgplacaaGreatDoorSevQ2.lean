/-
  Parts of the run, evaluated by the kernel.
-/
import Derived.Test.YtajdeaabgplacaaGreatDoorSevL1
namespace Go.Proofs.YtajdeaabgplacaaGreatDoor
open Go Go.Proofs.YtajdeaabgplacaaGreatDoor.Sev
set_option linter.unusedVariables false
set_option maxRecDepth 10000000 in
theorem part5 : isCut (goOnK lit4 3 (roundsK (ev cfN 100000) cLoop lit5 1)) = true := by decide +kernel
set_option maxRecDepth 10000000 in
theorem part6 : isCut (goOnK lit5 3 (roundsK (ev cfN 100000) cLoop lit6 1)) = true := by decide +kernel
set_option maxRecDepth 10000000 in
theorem part7 : isCut (goOnK lit6 3 (roundsK (ev cfN 100000) cLoop lit7 1)) = true := by decide +kernel
end Go.Proofs.YtajdeaabgplacaaGreatDoor
