/-
  The evaluator's first state for this seat's closed row, and what it takes the program to be. Definitions alone.
-/
import Derived.Test.YtajdeaabgplacaaGreatDoorSevC
import Derived.Test.YtajdeaabgplacaaGreatDoorProg
namespace Go.Proofs.YtajdeaabgplacaaGreatDoor
open Go Go.Proofs.YtajdeaabgplacaaGreatDoor.Sev
noncomputable section
def beforeL : List AV := [.int .u8 (.ofNat 0), .int .u8 (.ofNat 0), .int .u8 (.ofNat 1), .int .u8 (.ofNat 1), .int .u8 (.ofNat 2)]
def s0 : St := ⟨mk7 ⟨pin6 (.cells .lf 0 3 false false [] false), pin6 (.cells (rowL beforeL) 5 398 false false [] false), nil6, nil6⟩, 2, 2⟩
/-- The ways of slices.SortedFunc are merged. -/
def cfA : Cf := ⟨Tryz.prog, fun f => Bool.rec 0 1 (Nat.beq f 198)⟩
/-- And awake is told elsewhere. -/
def cfN : Cf := ⟨Tryz.prog, fun f => Bool.rec (Bool.rec 0 2 (Nat.beq f 6)) 1 (Nat.beq f 198)⟩
end
end Go.Proofs.YtajdeaabgplacaaGreatDoor
