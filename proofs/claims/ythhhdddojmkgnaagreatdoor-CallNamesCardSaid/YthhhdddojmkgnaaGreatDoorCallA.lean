import Derived.Test.YthhhdddojmkgnaaGreatDoorRows
import Derived.WalkKit
import Derived.WalkSpells
import Derived.WalkLawsBesides
import Derived.StillTactics
import Derived.Laws.Pointers
import Derived.RowKit3
import Derived.RegionTactic
import Derived.BigRegion
import Derived.BigQuiet
import Derived.Deep.QuietTactic
import Derived.Outline
import Derived.Handy
namespace Go.Proofs.YthhhdddojmkgnaaGreatDoor
open Go.RowKit

/-- Returned, and below the heap's end the world is as it was. -/
def Ret (w : World) (v : Value) (e : Ending) (w' : World) : Prop := e = .returned v ∧ Below w.heap.size w w'

theorem Ret.of {w w' : World} {v v' : Value} (e : v = v') (h : Below w.heap.size w w') : Ret w v' (.returned v) w' := ⟨e ▸ rfl, h⟩
theorem Ret.bool {w w' : World} {b b' : Bool} (e : b = b') (h : Below w.heap.size w w') : Ret w (.bool b') (.returned (.bool b)) w' := ⟨e ▸ rfl, h⟩
theorem Ret.refl (w : World) (v : Value) : Ret w v (.returned v) w := ⟨rfl, Below.refl _ _⟩

/-- A config's eight numbers. -/
structure CfgR where
  tasks : Int
  active : Int
  keys : Int
  depth : Int
  ts : Int
  keylen : Int
  vallen : Int
  fan : Int

def cfgV (c : CfgR) : Value := .agg #[.int .i64 c.tasks, .int .i64 c.active, .int .i64 c.keys, .int .i64 c.depth, .int .i64 c.ts, .int .i64 c.keylen, .int .i64 c.vallen, .int .i64 c.fan]

def cfgOk (c : CfgR) : Bool := decide ((1 ≤ c.tasks ∧ c.tasks ≤ 6) ∧ (1 ≤ c.active ∧ c.active ≤ 8) ∧ (1 ≤ c.keys ∧ c.keys ≤ 64) ∧ (2 ≤ c.depth ∧ c.depth ≤ 8) ∧ (1 ≤ c.ts ∧ c.ts ≤ 1048576) ∧ (1 ≤ c.keylen ∧ c.keylen ≤ 64) ∧ (0 ≤ c.vallen ∧ c.vallen ≤ 256) ∧ (3 ≤ c.fan ∧ c.fan ≤ 8))

set_option maxHeartbeats 4000000 in
set_option maxRecDepth 100000 in
/-- text.May. -/
theorem textMay_any (a b c d e f g h : Int) (w : World) :
    Calls Tryz.prog 88 #[cfgV ⟨a, b, c, d, e, f, g, h⟩] w (Ret w (.bool (cfgOk ⟨a, b, c, d, e, f, g, h⟩))) := by
  unfold cfgV
  have i0 : ∀ w, (Instr.index 133 (.agg #[.int .i64 a, .int .i64 1, .int .i64 6, .int .i64 b, .int .i64 1, .int .i64 8, .int .i64 c, .int .i64 1, .int .i64 64, .int .i64 d, .int .i64 2, .int .i64 8, .int .i64 e, .int .i64 1, .int .i64 1048576, .int .i64 f, .int .i64 1, .int .i64 64, .int .i64 g, .int .i64 0, .int .i64 256, .int .i64 h, .int .i64 3, .int .i64 8]) (.int .i64 0)).run Tryz.prog w = .ok (.agg #[.int .i64 a, .int .i64 1, .int .i64 6]) w := fun _ => by kernel_rfl
  have i1 : ∀ w, (Instr.index 133 (.agg #[.int .i64 a, .int .i64 1, .int .i64 6, .int .i64 b, .int .i64 1, .int .i64 8, .int .i64 c, .int .i64 1, .int .i64 64, .int .i64 d, .int .i64 2, .int .i64 8, .int .i64 e, .int .i64 1, .int .i64 1048576, .int .i64 f, .int .i64 1, .int .i64 64, .int .i64 g, .int .i64 0, .int .i64 256, .int .i64 h, .int .i64 3, .int .i64 8]) (.int .i64 1)).run Tryz.prog w = .ok (.agg #[.int .i64 b, .int .i64 1, .int .i64 8]) w := fun _ => by kernel_rfl
  have i2 : ∀ w, (Instr.index 133 (.agg #[.int .i64 a, .int .i64 1, .int .i64 6, .int .i64 b, .int .i64 1, .int .i64 8, .int .i64 c, .int .i64 1, .int .i64 64, .int .i64 d, .int .i64 2, .int .i64 8, .int .i64 e, .int .i64 1, .int .i64 1048576, .int .i64 f, .int .i64 1, .int .i64 64, .int .i64 g, .int .i64 0, .int .i64 256, .int .i64 h, .int .i64 3, .int .i64 8]) (.int .i64 2)).run Tryz.prog w = .ok (.agg #[.int .i64 c, .int .i64 1, .int .i64 64]) w := fun _ => by kernel_rfl
  have i3 : ∀ w, (Instr.index 133 (.agg #[.int .i64 a, .int .i64 1, .int .i64 6, .int .i64 b, .int .i64 1, .int .i64 8, .int .i64 c, .int .i64 1, .int .i64 64, .int .i64 d, .int .i64 2, .int .i64 8, .int .i64 e, .int .i64 1, .int .i64 1048576, .int .i64 f, .int .i64 1, .int .i64 64, .int .i64 g, .int .i64 0, .int .i64 256, .int .i64 h, .int .i64 3, .int .i64 8]) (.int .i64 3)).run Tryz.prog w = .ok (.agg #[.int .i64 d, .int .i64 2, .int .i64 8]) w := fun _ => by kernel_rfl
  have i4 : ∀ w, (Instr.index 133 (.agg #[.int .i64 a, .int .i64 1, .int .i64 6, .int .i64 b, .int .i64 1, .int .i64 8, .int .i64 c, .int .i64 1, .int .i64 64, .int .i64 d, .int .i64 2, .int .i64 8, .int .i64 e, .int .i64 1, .int .i64 1048576, .int .i64 f, .int .i64 1, .int .i64 64, .int .i64 g, .int .i64 0, .int .i64 256, .int .i64 h, .int .i64 3, .int .i64 8]) (.int .i64 4)).run Tryz.prog w = .ok (.agg #[.int .i64 e, .int .i64 1, .int .i64 1048576]) w := fun _ => by kernel_rfl
  have i5 : ∀ w, (Instr.index 133 (.agg #[.int .i64 a, .int .i64 1, .int .i64 6, .int .i64 b, .int .i64 1, .int .i64 8, .int .i64 c, .int .i64 1, .int .i64 64, .int .i64 d, .int .i64 2, .int .i64 8, .int .i64 e, .int .i64 1, .int .i64 1048576, .int .i64 f, .int .i64 1, .int .i64 64, .int .i64 g, .int .i64 0, .int .i64 256, .int .i64 h, .int .i64 3, .int .i64 8]) (.int .i64 5)).run Tryz.prog w = .ok (.agg #[.int .i64 f, .int .i64 1, .int .i64 64]) w := fun _ => by kernel_rfl
  have i6 : ∀ w, (Instr.index 133 (.agg #[.int .i64 a, .int .i64 1, .int .i64 6, .int .i64 b, .int .i64 1, .int .i64 8, .int .i64 c, .int .i64 1, .int .i64 64, .int .i64 d, .int .i64 2, .int .i64 8, .int .i64 e, .int .i64 1, .int .i64 1048576, .int .i64 f, .int .i64 1, .int .i64 64, .int .i64 g, .int .i64 0, .int .i64 256, .int .i64 h, .int .i64 3, .int .i64 8]) (.int .i64 6)).run Tryz.prog w = .ok (.agg #[.int .i64 g, .int .i64 0, .int .i64 256]) w := fun _ => by kernel_rfl
  have i7 : ∀ w, (Instr.index 133 (.agg #[.int .i64 a, .int .i64 1, .int .i64 6, .int .i64 b, .int .i64 1, .int .i64 8, .int .i64 c, .int .i64 1, .int .i64 64, .int .i64 d, .int .i64 2, .int .i64 8, .int .i64 e, .int .i64 1, .int .i64 1048576, .int .i64 f, .int .i64 1, .int .i64 64, .int .i64 g, .int .i64 0, .int .i64 256, .int .i64 h, .int .i64 3, .int .i64 8]) (.int .i64 7)).run Tryz.prog w = .ok (.agg #[.int .i64 h, .int .i64 3, .int .i64 8]) w := fun _ => by kernel_rfl
  go_enter Tryz.func88, Tryz.ntmps88
  go_wp2
  go_rounds 9
  all_goals
    go_ret
    exact Ret.bool (by simp only [cfgOk, Bool.true_eq, Bool.false_eq, decide_eq_true_eq, decide_eq_false_iff_not]; omega) (by go_grown)
theorem textMay (c : CfgR) (w : World) : Calls Tryz.prog 88 #[cfgV c] w (Ret w (.bool (cfgOk c))) := textMay_any _ _ _ _ _ _ _ _ w

def lenOk (c : CfgR) (s : ByteArray) (lo hi : Int) : Bool := cfgOk c && decide (lo ≤ (s.size : Int)) && decide ((s.size : Int) ≤ hi)
end Go.Proofs.YthhhdddojmkgnaaGreatDoor
