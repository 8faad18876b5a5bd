/-
  The law PutNames holds of the program: the examples, what is refused, Deletes, quotas, and nobody's machine; package-level variables start as the text of the program lays them.
-/
import Derived.Test.YtajdeaabgplacaaGreatDoorSevAxL
import Derived.Test.YtajdeaabgplacaaGreatDoorSevK1
import Derived.Test.YtajdeaabgplacaaGreatDoorSevK2
namespace Go.Proofs.YtajdeaabgplacaaGreatDoor.putNames
open Go.ChangeShapes Go.WideShapes Go.ChangeAt Go.RowKit

theorem said : Rows.PutNamesSaid :=
  OpenClaim.holds_of_wide 3 Tryz.f3 rfl rfl rfl rfl rfl rfl rfl ⟨rfl, rfl, rfl, rfl, rfl⟩ rfl rfl rfl rfl rfl (by kernel_rfl) Tryz.func3 closedF
    (of_decide_eq_true (by kernel_rfl)) (by unfold Func.isWrapper; first | (rw [if_pos (by decide +kernel)]; kernel_rfl) | (rw [if_neg (by decide +kernel)]; exact ⟨rfl, rfl⟩))
    (fun os started H enc _ => lifted os started H enc)

theorem plain (f : FuncId) (fn : Func) (hf : Tryz.pinned.checked.prog.funcNamed "ferryman/ferrymanlaw23.PutNames" = some f) (hfn : Tryz.pinned.checked.prog.funcs[f]? = some fn) :
    false = Tryz.pinned.checked.prog.looks [] ∧ ∀ (j : Nat) t, fn.params[j]? = some t → Tryz.pinned.checked.prog.wantsStandIn t = false := by
  obtain rfl : f = 3 := Option.some.inj ((show Tryz.prog.funcNamed "ferryman/ferrymanlaw23.PutNames" = some 3 by kernel_rfl).symm.trans hf) |>.symm
  obtain rfl : fn = Tryz.f3 := (Option.some.inj (Tryz.func3.symm.trans hfn)).symm
  refine ⟨looksF, fun j t ht => ?_⟩
  rw [params] at ht
  simp at ht

theorem card : Rows.PutNamesCardSaid :=
  Claim7.holds_tied_plain_at .later [] _ _ _ _ said (fun _ h => by cases h) wfF (fun _ h => by cases h) putNames_row_tie rfl ⟨rfl, rfl⟩ (by kernel_rfl) rfl plain goesF
#print axioms card
end Go.Proofs.YtajdeaabgplacaaGreatDoor.putNames
namespace Go.Proofs.YtajdeaabgplacaaGreatDoor
/-- The law, under a short name, for the claim. -/
theorem putNames_holds : Rows.PutNamesCardSaid := putNames.card
end Go.Proofs.YtajdeaabgplacaaGreatDoor
