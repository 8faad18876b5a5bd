/-
  The closed facts of the row PutNames, one by one.
-/
import Derived.Test.YtajdeaabgplacaaGreatDoorRows
import Derived.JoinedOf
namespace Go.Proofs.YtajdeaabgplacaaGreatDoor
open Go
theorem k1 : Rows.putNamesRow.wf (OpenSpec.ofChange Rows.putNamesSpec) = true := by kernel_rfl
theorem k2 : laidOutB Tryz.prog = true := by kernel_rfl
theorem k3 : mapsRowed Tryz.prog = true := by kernel_rfl
theorem k4 : (Tryz.f3.params.all (Tryz.prog.readableRec ·)) = true := by kernel_rfl
theorem k5 : namedTie Tryz.prog Rows.putNamesRow.named Rows.putNamesSpec.vars = true := by kernel_rfl
theorem k6 : (Rows.putNamesRow.stops == []) = true := by kernel_rfl
theorem k7 : (Tryz.prog.stops == []) = true := by kernel_rfl
theorem k8 : (Rows.putNamesRow.knobs == []) = true := by kernel_rfl
theorem k9 : (Tryz.prog.stopKnobs == []) = true := by kernel_rfl
theorem k10 : (Rows.putNamesRow.inPlace == Tryz.prog.inPlace 3) = true := by kernel_rfl
theorem k11 : (Rows.putNamesRow.unfollowed == Tryz.prog.unfollowed 3) = true := by kernel_rfl
theorem k12 : (Rows.putNamesRow.recurses == Tryz.prog.recurses 3) = true := by kernel_rfl
theorem k13 : (Rows.putNamesRow.named == Tryz.prog.varsNamed 3) = true := by kernel_rfl
theorem k14 : (Rows.putNamesRow.maps == (Tryz.f3.params.toList ++ Rows.putNamesSpec.plain.varTypes Tryz.prog).any (Tryz.prog.mapsRec ·)) = true := by kernel_rfl
theorem k15 : (Rows.putNamesRow.ifaces == (Tryz.f3.params.toList ++ Rows.putNamesSpec.plain.varTypes Tryz.prog).any (Tryz.prog.ifacesRec ·)) = true := by kernel_rfl
theorem k16 : (Rows.putNamesRow.mapsOut == Tryz.prog.mapsAmong Tryz.f3.resultTypes.toList) = true := by kernel_rfl
theorem k17 : (Rows.putNamesRow.loops == (Tryz.f3.params.toList ++ Rows.putNamesSpec.plain.varTypes Tryz.prog).any (Tryz.prog.loopsFrom ·)) = true := by kernel_rfl
theorem k18 : (Rows.putNamesRow.wideKeys == (Tryz.f3.params.toList ++ Rows.putNamesSpec.plain.varTypes Tryz.prog ++ Tryz.f3.resultTypes.toList).any (Tryz.prog.wideKeysFrom ·)) = true := by kernel_rfl
theorem k19 : (Rows.putNamesSpec.vars.all (Tryz.prog.varReadable ·)) = true := by kernel_rfl
theorem k20 : (Tryz.f3.resultTypes.all (fun t => Tryz.prog.readableRec t && decide (t < Tryz.prog.types.size))) = true := by kernel_rfl
theorem k21 : (Rows.putNamesRow.ifacesOut == Tryz.f3.resultTypes.toList.any (Tryz.prog.ifacesRec ·)) = true := by kernel_rfl
theorem k22 : (Rows.putNamesRow.loopsOut == Tryz.f3.resultTypes.toList.any (Tryz.prog.loopsFrom ·)) = true := by kernel_rfl
theorem k23 : (Rows.putNamesRow.plainKeys == Tryz.prog.plainKeys) = true := by kernel_rfl
theorem k24 : Rows.putNamesRow.shortTexts.isNone = true := by kernel_rfl
theorem k25 : Tryz.prog.stopsHeard = true := by kernel_rfl
theorem k26 : Tryz.prog.mayEnter = true := by kernel_rfl
theorem k27 : (Rows.putNamesRow.lifted == Tryz.prog.liftsFinal) = true := by kernel_rfl
theorem k28 : (Tryz.prog.make == some Rows.putNamesRow.make) = true := by kernel_rfl
theorem k30 : (Rows.putNamesRow.pinned == Rows.putNamesRow.pinnedBy) = true := by kernel_rfl
theorem k31 : (Rows.putNamesRow.veiled == (Tryz.f3.params.toList ++ Rows.putNamesSpec.plain.varTypes Tryz.prog ++ Tryz.f3.resultTypes.toList).any (Tryz.prog.veiledRec ·)) = true := by kernel_rfl
theorem k32 : Rows.putNamesRow.veiledFits Tryz.prog Tryz.f3.params.toList (Tryz.f3.params.toList ++ Rows.putNamesSpec.plain.varTypes Tryz.prog ++ Tryz.f3.resultTypes.toList) = true := by kernel_rfl
theorem band_true {a b : Bool} (h : a = true) (h' : b = true) : (a && b) = true := by rw [h, h']; rfl
theorem closedF : joinedFacts Tryz.prog 3 Tryz.f3 Rows.putNamesSpec Rows.putNamesRow = true := by
  unfold joinedFacts
  refine (band_true (band_true (band_true (band_true (band_true (band_true (band_true (band_true (band_true (band_true (band_true (band_true (band_true (band_true (band_true (band_true (band_true (band_true (band_true (band_true (band_true (band_true (band_true (band_true (band_true (band_true (band_true (band_true (band_true (band_true (band_true ?_ ?_) ?_) ?_) ?_) ?_) ?_) ?_) ?_) ?_) ?_) ?_) ?_) ?_) ?_) ?_) ?_) ?_) ?_) ?_) ?_) ?_) ?_) ?_) ?_) ?_) ?_) ?_) ?_) ?_) ?_) ?_)
  · with_reducible exact k1
  · with_reducible exact k2
  · with_reducible exact k3
  · with_reducible exact k4
  · with_reducible exact k5
  · with_reducible exact k6
  · with_reducible exact k7
  · with_reducible exact k8
  · with_reducible exact k9
  · with_reducible exact k10
  · with_reducible exact k11
  · with_reducible exact k12
  · with_reducible exact k13
  · with_reducible exact k14
  · with_reducible exact k15
  · with_reducible exact k16
  · with_reducible exact k17
  · with_reducible exact k18
  · with_reducible exact k19
  · with_reducible exact k20
  · with_reducible exact k21
  · with_reducible exact k22
  · with_reducible exact k23
  · with_reducible exact k24
  · with_reducible exact k25
  · with_reducible exact k26
  · with_reducible exact k27
  · with_reducible exact k28
  · kernel_rfl
  · with_reducible exact k30
  · with_reducible exact k31
  · with_reducible exact k32
end Go.Proofs.YtajdeaabgplacaaGreatDoor
