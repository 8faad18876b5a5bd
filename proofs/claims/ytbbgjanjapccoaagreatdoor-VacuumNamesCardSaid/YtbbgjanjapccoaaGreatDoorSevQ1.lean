/-
  Parts of the run, evaluated by the kernel.
-/
import Derived.Test.YtbbgjanjapccoaaGreatDoorSevL1
namespace Go.Proofs.YtbbgjanjapccoaaGreatDoor
open Go Go.Proofs.YtbbgjanjapccoaaGreatDoor.Sev
set_option linter.unusedVariables false
set_option maxRecDepth 10000000 in
theorem part1 : isCut (firstK 3 Tryz.f3 s0 (aheadK (ev cfN 100000) lit1 1000 [.code r0, .code r1, .code r2, .code x3])) = true := by decide +kernel
set_option maxRecDepth 10000000 in
theorem part2 : isCut (goOnK lit1 3 (aheadK (ev cfN 100000) lit2 1000 [.code r5])) = true := by decide +kernel
set_option maxRecDepth 10000000 in
theorem part3 : isCut (goOnK lit2 3 (aheadK (ev cfN 100000) lit3 1000 [.code x6])) = true := by decide +kernel
end Go.Proofs.YtbbgjanjapccoaaGreatDoor
