/-
  Parts of the run, evaluated by the kernel.
-/
import Derived.Test.YtajdeaabgplacaaGreatDoorSevL1
namespace Go.Proofs.YtajdeaabgplacaaGreatDoor
open Go Go.Proofs.YtajdeaabgplacaaGreatDoor.Sev
set_option linter.unusedVariables false
set_option maxRecDepth 10000000 in
theorem part1 : isCut (firstK 3 Tryz.f3 s0 (aheadK (ev cfN 100000) lit1 1000 [.code r0, .code r1, .code r2, .code r3, .code x4, .code r6, .code r7])) = true := by decide +kernel
set_option maxRecDepth 10000000 in
theorem part2 : isCut (goOnK lit1 3 (aheadK (ev cfN 100000) lit2 1000 [.code cLoop])) = true := by decide +kernel
set_option maxRecDepth 10000000 in
theorem part3 : isCut (goOnK lit2 3 (roundsK (ev cfN 100000) cLoop lit3 4)) = true := by decide +kernel
set_option maxRecDepth 10000000 in
theorem part4 : isCut (goOnK lit3 3 (roundsK (ev cfN 100000) cLoop lit4 1)) = true := by decide +kernel
end Go.Proofs.YtajdeaabgplacaaGreatDoor
