/-
  The evaluator's first state for this seat's closed rows, and what it takes the program to be. Definitions alone.
-/
import Derived.Test.YtlmjmkjgefjmbaaGreatDoorSevC
import Derived.Test.YtlmjmkjgefjmbaaGreatDoorProg
namespace Go.Proofs.YtlmjmkjgefjmbaaGreatDoor
open Go Go.Proofs.YtlmjmkjgefjmbaaGreatDoor.Sev
noncomputable section
def fnA (n : Nat) : AV := .fn (.func n) [] []
def stepsL : List AV := [.nilfn, fnA 140, fnA 142, fnA 144]
def doesL : List AV := [.nilfn, fnA 148, fnA 149, fnA 150, fnA 151, fnA 152, fnA 153, fnA 154, fnA 155, fnA 156]
def s0 : St := ⟨.nd (.nd .lf (.cells (rowL doesL) 10 172 false false [] false) .lf) (.cells (rowL stepsL) 4 134 false false [] false) (.nd .lf (.cells .lf 0 3 false false [] false) .lf), 3, 3⟩
/-- The ways of slices.SortedFunc are merged. -/
def cfA : Cf := ⟨Tryz.prog, fun f => Bool.rec 0 1 (Nat.beq f 62)⟩
/-- And awake is told elsewhere. -/
def cfN : Cf := ⟨Tryz.prog, fun f => Bool.rec (Bool.rec 0 2 (Nat.beq f 8)) 1 (Nat.beq f 62)⟩
end
end Go.Proofs.YtlmjmkjgefjmbaaGreatDoor
