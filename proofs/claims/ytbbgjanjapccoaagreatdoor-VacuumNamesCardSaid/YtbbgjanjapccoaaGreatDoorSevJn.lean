/-
  The parts of the run, joined.
-/
import Derived.Test.YtbbgjanjapccoaaGreatDoorSevQ1
import Derived.Test.YtbbgjanjapccoaaGreatDoorSevQ2
import Derived.Test.YtbbgjanjapccoaaGreatDoorSevQ3
import Derived.Test.YtbbgjanjapccoaaGreatDoorSevQ4
import Derived.Test.YtbbgjanjapccoaaGreatDoorSevQ5
import Derived.Test.YtbbgjanjapccoaaGreatDoorTie
import Derived.ProofKit
namespace Go.Proofs.YtbbgjanjapccoaaGreatDoor
open Go Go.Proofs.YtbbgjanjapccoaaGreatDoor.Sev
set_option linter.unusedVariables false
open Go.ChangeShapes Go.WideShapes Go.ChangeAt Go.RowKit
theorem cut_shape : B0 = .seq r0 (.seq r1 (.seq r2 (.seq x3 (.seq r5 (.seq x6 (.seq r8 (.seq x9 (.seq r11 (.seq r12 (.seq r13 (.seq r14 (.seq r15 (.seq r16 (.seq x17 (.seq r19 (.seq r20 (.seq x21 (.seq r23 (.seq x24 (.seq x26 (B21))))))))))))))))))))) := by kernel_rfl
theorem cut_body : Tryz.f3.body = some B0 := by kernel_rfl
theorem cut_parts {l : List (AV × St)} (hl : Le l (goOnK lit13 3 (stackK (ev cfN 100000) (endF cfN (ev cfN 100000) Tryz.f3) 1000 [.code (.seq x26 B21)]))) : PartsS cfN (ev cfN 100000) 3 Tryz.f3 l [.code B0] (firstK 3 Tryz.f3 s0) := by
  rw [cut_shape]
  refine PartsS.ahead [.code r0, .code r1, .code r2, .code x3] 1000 lit1 (by repeat (with_reducible first | apply Spine.cons | apply Spine.seq | exact Spine.nil)) (isCut_le part1) ?_
  refine PartsS.ahead [.code r5] 1000 lit2 (by repeat (with_reducible first | apply Spine.cons | apply Spine.seq | exact Spine.nil)) (isCut_le part2) ?_
  refine PartsS.ahead [.code x6] 1000 lit3 (by repeat (with_reducible first | apply Spine.cons | apply Spine.seq | exact Spine.nil)) (isCut_le part3) ?_
  refine PartsS.ahead [.code r8, .code x9] 1000 lit4 (by repeat (with_reducible first | apply Spine.cons | apply Spine.seq | exact Spine.nil)) (isCut_le part4) ?_
  refine PartsS.ahead [.code r11, .code r12, .code r13] 1000 lit5 (by repeat (with_reducible first | apply Spine.cons | apply Spine.seq | exact Spine.nil)) (isCut_le part5) ?_
  refine PartsS.ahead [.code r14] 1000 lit6 (by repeat (with_reducible first | apply Spine.cons | apply Spine.seq | exact Spine.nil)) (isCut_le part6) ?_
  refine PartsS.ahead [.code r15] 1000 lit7 (by repeat (with_reducible first | apply Spine.cons | apply Spine.seq | exact Spine.nil)) (isCut_le part7) ?_
  refine PartsS.ahead [.code r16] 1000 lit8 (by repeat (with_reducible first | apply Spine.cons | apply Spine.seq | exact Spine.nil)) (isCut_le part8) ?_
  refine PartsS.ahead [.code x17] 1000 lit9 (by repeat (with_reducible first | apply Spine.cons | apply Spine.seq | exact Spine.nil)) (isCut_le part9) ?_
  refine PartsS.ahead [.code r19] 1000 lit10 (by repeat (with_reducible first | apply Spine.cons | apply Spine.seq | exact Spine.nil)) (isCut_le part10) ?_
  refine PartsS.ahead [.code r20] 1000 lit11 (by repeat (with_reducible first | apply Spine.cons | apply Spine.seq | exact Spine.nil)) (isCut_le part11) ?_
  refine PartsS.ahead [.code x21] 1000 lit12 (by repeat (with_reducible first | apply Spine.cons | apply Spine.seq | exact Spine.nil)) (isCut_le part12) ?_
  refine PartsS.ahead [.code r23, .code x24] 1000 lit13 (by repeat (with_reducible first | apply Spine.cons | apply Spine.seq | exact Spine.nil)) (isCut_le part13) ?_
  exact PartsS.last 1000 hl
end Go.Proofs.YtbbgjanjapccoaaGreatDoor
