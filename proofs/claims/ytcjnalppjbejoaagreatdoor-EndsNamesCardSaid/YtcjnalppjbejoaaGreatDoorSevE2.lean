/-
  EndsNames, less awake, evaluated by the kernel.
-/
import Derived.Test.YtcjnalppjbejoaaGreatDoorSevS0
namespace Go.Proofs.YtcjnalppjbejoaaGreatDoor
open Go Go.Proofs.YtcjnalppjbejoaaGreatDoor.Sev
set_option maxRecDepth 10000000 in
theorem names_true : chkT (run cfN 100000 3 [] s0) = true := by decide +kernel
end Go.Proofs.YtcjnalppjbejoaaGreatDoor
