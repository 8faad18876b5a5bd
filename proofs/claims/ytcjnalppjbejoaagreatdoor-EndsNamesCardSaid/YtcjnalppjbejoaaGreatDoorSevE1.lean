/-
  awake, evaluated by the kernel.
-/
import Derived.Test.YtcjnalppjbejoaaGreatDoorSevS0
namespace Go.Proofs.YtcjnalppjbejoaaGreatDoor
open Go Go.Proofs.YtcjnalppjbejoaaGreatDoor.Sev
set_option maxRecDepth 10000000 in
theorem awake_true : chkT (run cfA 100000 9 [] s0) = true := by decide +kernel
end Go.Proofs.YtcjnalppjbejoaaGreatDoor
