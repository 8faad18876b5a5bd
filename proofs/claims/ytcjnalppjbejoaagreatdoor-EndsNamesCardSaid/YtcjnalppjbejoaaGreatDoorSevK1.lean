/-
  The closed facts of the row EndsNames, one by one.
-/
import Derived.Test.YtcjnalppjbejoaaGreatDoorRows
import Derived.JoinedOf
namespace Go.Proofs.YtcjnalppjbejoaaGreatDoor
open Go
theorem k1 : Rows.endsNamesRow.wf (OpenSpec.ofChange Rows.endsNamesSpec) = true := by kernel_rfl
theorem k2 : laidOutB Tryz.prog = true := by kernel_rfl
theorem k3 : mapsRowed Tryz.prog = true := by kernel_rfl
theorem k4 : (Tryz.f3.params.all (Tryz.prog.readableRec ·)) = true := by kernel_rfl
theorem k5 : namedTie Tryz.prog Rows.endsNamesRow.named Rows.endsNamesSpec.vars = true := by kernel_rfl
theorem k6 : (Rows.endsNamesRow.stops == []) = true := by kernel_rfl
theorem k7 : (Tryz.prog.stops == []) = true := by kernel_rfl
theorem k8 : (Rows.endsNamesRow.knobs == []) = true := by kernel_rfl
theorem k9 : (Tryz.prog.stopKnobs == []) = true := by kernel_rfl
theorem k10 : (Rows.endsNamesRow.inPlace == Tryz.prog.inPlace 3) = true := by kernel_rfl
theorem k11 : (Rows.endsNamesRow.unfollowed == Tryz.prog.unfollowed 3) = true := by kernel_rfl
theorem k12 : (Rows.endsNamesRow.recurses == Tryz.prog.recurses 3) = true := by kernel_rfl
theorem k13 : (Rows.endsNamesRow.named == Tryz.prog.varsNamed 3) = true := by kernel_rfl
theorem k14 : (Rows.endsNamesRow.maps == (Tryz.f3.params.toList ++ Rows.endsNamesSpec.plain.varTypes Tryz.prog).any (Tryz.prog.mapsRec ·)) = true := by kernel_rfl
theorem k15 : (Rows.endsNamesRow.ifaces == (Tryz.f3.params.toList ++ Rows.endsNamesSpec.plain.varTypes Tryz.prog).any (Tryz.prog.ifacesRec ·)) = true := by kernel_rfl
theorem k16 : (Rows.endsNamesRow.mapsOut == Tryz.prog.mapsAmong Tryz.f3.resultTypes.toList) = true := by kernel_rfl
theorem k17 : (Rows.endsNamesRow.loops == (Tryz.f3.params.toList ++ Rows.endsNamesSpec.plain.varTypes Tryz.prog).any (Tryz.prog.loopsFrom ·)) = true := by kernel_rfl
theorem k18 : (Rows.endsNamesRow.wideKeys == (Tryz.f3.params.toList ++ Rows.endsNamesSpec.plain.varTypes Tryz.prog ++ Tryz.f3.resultTypes.toList).any (Tryz.prog.wideKeysFrom ·)) = true := by kernel_rfl
theorem k19 : (Rows.endsNamesSpec.vars.all (Tryz.prog.varReadable ·)) = true := by kernel_rfl
theorem k20 : (Tryz.f3.resultTypes.all (fun t => Tryz.prog.readableRec t && decide (t < Tryz.prog.types.size))) = true := by kernel_rfl
theorem k21 : (Rows.endsNamesRow.ifacesOut == Tryz.f3.resultTypes.toList.any (Tryz.prog.ifacesRec ·)) = true := by kernel_rfl
theorem k22 : (Rows.endsNamesRow.loopsOut == Tryz.f3.resultTypes.toList.any (Tryz.prog.loopsFrom ·)) = true := by kernel_rfl
theorem k23 : (Rows.endsNamesRow.plainKeys == Tryz.prog.plainKeys) = true := by kernel_rfl
theorem k24 : Rows.endsNamesRow.shortTexts.isNone = true := by kernel_rfl
theorem k25 : Tryz.prog.stopsHeard = true := by kernel_rfl
theorem k26 : Tryz.prog.mayEnter = true := by kernel_rfl
theorem k27 : (Rows.endsNamesRow.lifted == Tryz.prog.liftsFinal) = true := by kernel_rfl
theorem k28 : (Tryz.prog.make == some Rows.endsNamesRow.make) = true := by kernel_rfl
theorem k30 : (Rows.endsNamesRow.pinned == Rows.endsNamesRow.pinnedBy) = true := by kernel_rfl
theorem k31 : (Rows.endsNamesRow.veiled == (Tryz.f3.params.toList ++ Rows.endsNamesSpec.plain.varTypes Tryz.prog ++ Tryz.f3.resultTypes.toList).any (Tryz.prog.veiledRec ·)) = true := by kernel_rfl
theorem k32 : Rows.endsNamesRow.veiledFits Tryz.prog Tryz.f3.params.toList (Tryz.f3.params.toList ++ Rows.endsNamesSpec.plain.varTypes Tryz.prog ++ Tryz.f3.resultTypes.toList) = true := by kernel_rfl
theorem band_true {a b : Bool} (h : a = true) (h' : b = true) : (a && b) = true := by rw [h, h']; rfl
theorem closedF : joinedFacts Tryz.prog 3 Tryz.f3 Rows.endsNamesSpec Rows.endsNamesRow = true := by
  unfold joinedFacts
  refine (band_true (band_true (band_true (band_true (band_true (band_true (band_true (band_true (band_true (band_true (band_true (band_true (band_true (band_true (band_true (band_true (band_true (band_true (band_true (band_true (band_true (band_true (band_true (band_true (band_true (band_true (band_true (band_true (band_true (band_true (band_true ?_ ?_) ?_) ?_) ?_) ?_) ?_) ?_) ?_) ?_) ?_) ?_) ?_) ?_) ?_) ?_) ?_) ?_) ?_) ?_) ?_) ?_) ?_) ?_) ?_) ?_) ?_) ?_) ?_) ?_) ?_) ?_)
  · with_reducible exact k1
  · with_reducible exact k2
  · with_reducible exact k3
  · with_reducible exact k4
  · with_reducible exact k5
  · with_reducible exact k6
  · with_reducible exact k7
  · with_reducible exact k8
  · with_reducible exact k9
  · with_reducible exact k10
  · with_reducible exact k11
  · with_reducible exact k12
  · with_reducible exact k13
  · with_reducible exact k14
  · with_reducible exact k15
  · with_reducible exact k16
  · with_reducible exact k17
  · with_reducible exact k18
  · with_reducible exact k19
  · with_reducible exact k20
  · with_reducible exact k21
  · with_reducible exact k22
  · with_reducible exact k23
  · with_reducible exact k24
  · with_reducible exact k25
  · with_reducible exact k26
  · with_reducible exact k27
  · with_reducible exact k28
  · kernel_rfl
  · with_reducible exact k30
  · with_reducible exact k31
  · with_reducible exact k32
end Go.Proofs.YtcjnalppjbejoaaGreatDoor
