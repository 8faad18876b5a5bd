/-
  AxiomsNames, less awake, evaluated by the kernel.
-/
import Derived.Test.YtlmjmkjgefjmbaaGreatDoorSevS0
namespace Go.Proofs.YtlmjmkjgefjmbaaGreatDoor
open Go Go.Proofs.YtlmjmkjgefjmbaaGreatDoor.Sev
set_option maxRecDepth 10000000 in
theorem names_true : chkT (run cfN 100000 3 [] s0) = true := by decide +kernel
end Go.Proofs.YtlmjmkjgefjmbaaGreatDoor
