/-
  Parts of the run, evaluated by the kernel.
-/
import Derived.Test.YtbbgjanjapccoaaGreatDoorSevL1
namespace Go.Proofs.YtbbgjanjapccoaaGreatDoor
open Go Go.Proofs.YtbbgjanjapccoaaGreatDoor.Sev
set_option linter.unusedVariables false
set_option maxRecDepth 10000000 in
theorem part7 : isCut (goOnK lit6 3 (aheadK (ev cfN 100000) lit7 1000 [.code r15])) = true := by decide +kernel
set_option maxRecDepth 10000000 in
theorem part8 : isCut (goOnK lit7 3 (aheadK (ev cfN 100000) lit8 1000 [.code r16])) = true := by decide +kernel
set_option maxRecDepth 10000000 in
theorem part9 : isCut (goOnK lit8 3 (aheadK (ev cfN 100000) lit9 1000 [.code x17])) = true := by decide +kernel
end Go.Proofs.YtbbgjanjapccoaaGreatDoor
