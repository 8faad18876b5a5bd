/-
  The evaluator's first state for this seat's closed row, and what it takes the program to be. Definitions alone.
-/
import Derived.Test.YtcjnalppjbejoaaGreatDoorSevC
import Derived.Test.YtcjnalppjbejoaaGreatDoorProg
namespace Go.Proofs.YtcjnalppjbejoaaGreatDoor
open Go Go.Proofs.YtcjnalppjbejoaaGreatDoor.Sev
noncomputable section
def beforeL : List AV := [.int .u8 (.ofNat 0), .int .u8 (.ofNat 0), .int .u8 (.ofNat 1), .int .u8 (.ofNat 1), .int .u8 (.ofNat 2)]
def s0 : St := ⟨.nd (.nd .lf (.cells (rowL beforeL) 5 422 false false [] false) .lf) (.cells .lf 0 3 false false [] false) .lf, 2, 2⟩
/-- The ways of slices.SortedFunc are merged. -/
def cfA : Cf := ⟨Tryz.prog, fun f => Bool.rec 0 1 (Nat.beq f 221)⟩
/-- And awake is told elsewhere. -/
def cfN : Cf := ⟨Tryz.prog, fun f => Bool.rec (Bool.rec 0 2 (Nat.beq f 9)) 1 (Nat.beq f 221)⟩
end
end Go.Proofs.YtcjnalppjbejoaaGreatDoor
