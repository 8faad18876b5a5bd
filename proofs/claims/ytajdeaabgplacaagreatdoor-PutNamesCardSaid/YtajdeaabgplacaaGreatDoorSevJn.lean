/-
  The parts of the run, joined.
-/
import Derived.Test.YtajdeaabgplacaaGreatDoorSevQ1
import Derived.Test.YtajdeaabgplacaaGreatDoorSevQ2
import Derived.Test.YtajdeaabgplacaaGreatDoorSevQ3
import Derived.Test.YtajdeaabgplacaaGreatDoorSevQ4
import Derived.Test.YtajdeaabgplacaaGreatDoorSevQ5
import Derived.Test.YtajdeaabgplacaaGreatDoorSevQ6
import Derived.Test.YtajdeaabgplacaaGreatDoorSevQ7
import Derived.Test.YtajdeaabgplacaaGreatDoorSevQ8
import Derived.Test.YtajdeaabgplacaaGreatDoorTie
import Derived.ProofKit
namespace Go.Proofs.YtajdeaabgplacaaGreatDoor
open Go Go.Proofs.YtajdeaabgplacaaGreatDoor.Sev
set_option linter.unusedVariables false
open Go.ChangeShapes Go.WideShapes Go.ChangeAt Go.RowKit
theorem cut_shape : B0 = .seq r0 (.seq r1 (.seq r2 (.seq r3 (.seq x4 (.seq r6 (.seq (.seq r7 (.block 0 (.loop cLoop))) (.seq r14 (.seq r15 (.seq (.seq r16 (.block 2 (.loop dLoop))) (.seq r24 (.seq r25 (.seq r26 (.seq r27 B14))))))))))))) := by kernel_rfl
theorem cut_body : Tryz.f3.body = some B0 := by kernel_rfl
theorem cut_round : dLoop = .seq y17 (.seq (.block 3 (.seq r19 (.seq r20 (.seq r21 D4)))) r18) := by kernel_rfl
theorem cut_parts {l : List (AV × St)} (hl : Le l (goOnK lit19 3 (stackK (ev cfN 100000) (endF cfN (ev cfN 100000) Tryz.f3) 1000 [.code B14]))) : PartsS cfN (ev cfN 100000) 3 Tryz.f3 l [.code B0] (firstK 3 Tryz.f3 s0) := by
  rw [cut_shape]
  refine PartsS.ahead [.code r0, .code r1, .code r2, .code r3, .code x4, .code r6, .code r7] 1000 lit1 (by repeat (with_reducible first | apply Spine.cons | apply Spine.seq | exact Spine.nil)) (isCut_le part1) ?_
  refine PartsS.block ?_
  refine PartsS.loop ?_
  refine PartsS.ahead [.code cLoop] 1000 lit2 (by repeat (with_reducible first | apply Spine.cons | apply Spine.seq | exact Spine.nil)) (isCut_le part2) ?_
  refine PartsS.rounds 4 lit3 (isCut_le part3) ?_
  refine PartsS.rounds 1 lit4 (isCut_le part4) ?_
  refine PartsS.rounds 1 lit5 (isCut_le part5) ?_
  refine PartsS.rounds 1 lit6 (isCut_le part6) ?_
  refine PartsS.rounds 1 lit7 (isCut_le part7) ?_
  refine PartsS.rounds 1 lit8 (isCut_le part8) ?_
  refine PartsS.rounds 1 lit9 (isCut_le part9) ?_
  refine PartsS.rounds 1 lit10 (isCut_le part10) ?_
  refine PartsS.ahead [.inLoop cLoop, .inBlock 0, .code r14, .code r15, .code r16] 1000 lit11 (by repeat (with_reducible first | apply Spine.cons | apply Spine.seq | exact Spine.nil)) (isCut_le part11) ?_
  refine PartsS.block ?_
  refine PartsS.loop ?_
  refine PartsS.is cut_round ?_
  refine PartsS.ahead [.code y17] 1000 lit12 (by repeat (with_reducible first | apply Spine.cons | apply Spine.seq | exact Spine.nil)) (isCut_le part12) ?_
  refine PartsS.block ?_
  refine PartsS.ahead [.code r19, .code r20] 1000 lit13 (by repeat (with_reducible first | apply Spine.cons | apply Spine.seq | exact Spine.nil)) (isCut_le part13) ?_
  refine PartsS.ahead [.code r21, .code D4, .inBlock 3, .code r18] 1000 lit14 (by repeat (with_reducible first | apply Spine.cons | apply Spine.seq | exact Spine.nil)) (isCut_le part14) ?_
  refine PartsS.inLoop ?_
  refine PartsS.is cut_round ?_
  refine PartsS.ahead [.code y17] 1000 lit15 (by repeat (with_reducible first | apply Spine.cons | apply Spine.seq | exact Spine.nil)) (isCut_le part15) ?_
  refine PartsS.block ?_
  refine PartsS.ahead [.code r19, .code r20] 1000 lit16 (by repeat (with_reducible first | apply Spine.cons | apply Spine.seq | exact Spine.nil)) (isCut_le part16) ?_
  refine PartsS.ahead [.code r21, .code D4, .inBlock 3, .code r18] 1000 lit17 (by repeat (with_reducible first | apply Spine.cons | apply Spine.seq | exact Spine.nil)) (isCut_le part17) ?_
  refine PartsS.ahead [.inLoop dLoop, .inBlock 2, .code r24, .code r25] 1000 lit18 (by repeat (with_reducible first | apply Spine.cons | apply Spine.seq | exact Spine.nil)) (isCut_le part18) ?_
  refine PartsS.ahead [.code r26, .code r27] 1000 lit19 (by repeat (with_reducible first | apply Spine.cons | apply Spine.seq | exact Spine.nil)) (isCut_le part19) ?_
  exact PartsS.last 1000 hl
end Go.Proofs.YtajdeaabgplacaaGreatDoor
