/-
  Parts of the run, evaluated by the kernel.
-/
import Derived.Test.YtajdeaabgplacaaGreatDoorSevL2
namespace Go.Proofs.YtajdeaabgplacaaGreatDoor
open Go Go.Proofs.YtajdeaabgplacaaGreatDoor.Sev
set_option linter.unusedVariables false
set_option maxRecDepth 10000000 in
theorem part18 : isCut (goOnK lit17 3 (aheadK (ev cfN 100000) lit18 1000 [.inLoop dLoop, .inBlock 2, .code r24, .code r25])) = true := by decide +kernel
set_option maxRecDepth 10000000 in
theorem part19 : isCut (goOnK lit18 3 (aheadK (ev cfN 100000) lit19 1000 [.code r26, .code r27])) = true := by decide +kernel
set_option maxRecDepth 10000000 in
theorem part_z : chkT (goOnK lit19 3 (stackK (ev cfN 100000) (endF cfN (ev cfN 100000) Tryz.f3) 1000 [.code B14])) = true := by decide +kernel
end Go.Proofs.YtajdeaabgplacaaGreatDoor
