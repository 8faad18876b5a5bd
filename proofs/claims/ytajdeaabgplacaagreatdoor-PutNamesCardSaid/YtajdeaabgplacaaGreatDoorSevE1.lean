/-
  awake, evaluated by the kernel.
-/
import Derived.Test.YtajdeaabgplacaaGreatDoorSevS0
namespace Go.Proofs.YtajdeaabgplacaaGreatDoor
open Go Go.Proofs.YtajdeaabgplacaaGreatDoor.Sev
set_option maxRecDepth 10000000 in
theorem awake_true : chkT (run cfA 100000 6 [] s0) = true := by decide +kernel
end Go.Proofs.YtajdeaabgplacaaGreatDoor
