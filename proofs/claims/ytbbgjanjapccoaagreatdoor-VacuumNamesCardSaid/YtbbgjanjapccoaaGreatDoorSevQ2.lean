/-
  Parts of the run, evaluated by the kernel.
-/
import Derived.Test.YtbbgjanjapccoaaGreatDoorSevL1
namespace Go.Proofs.YtbbgjanjapccoaaGreatDoor
open Go Go.Proofs.YtbbgjanjapccoaaGreatDoor.Sev
set_option linter.unusedVariables false
set_option maxRecDepth 10000000 in
theorem part4 : isCut (goOnK lit3 3 (aheadK (ev cfN 100000) lit4 1000 [.code r8, .code x9])) = true := by decide +kernel
set_option maxRecDepth 10000000 in
theorem part5 : isCut (goOnK lit4 3 (aheadK (ev cfN 100000) lit5 1000 [.code r11, .code r12, .code r13])) = true := by decide +kernel
set_option maxRecDepth 10000000 in
theorem part6 : isCut (goOnK lit5 3 (aheadK (ev cfN 100000) lit6 1000 [.code r14])) = true := by decide +kernel
end Go.Proofs.YtbbgjanjapccoaaGreatDoor
