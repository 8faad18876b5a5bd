/-
  awake, evaluated by the kernel.
-/
import Derived.Test.YtbbgjanjapccoaaGreatDoorSevS0
namespace Go.Proofs.YtbbgjanjapccoaaGreatDoor
open Go Go.Proofs.YtbbgjanjapccoaaGreatDoor.Sev
set_option maxRecDepth 10000000 in
theorem awake_true : chkT (run cfA 100000 5 [] s0) = true := by decide +kernel
end Go.Proofs.YtbbgjanjapccoaaGreatDoor
