/-
  The laws' helper 'long': of one call, and of two.
-/
import Derived.Test.YthhhdddojmkgnaaGreatDoorCallV
namespace Go.Proofs.YthhhdddojmkgnaaGreatDoor
open Go.RowKit

/-- What one call adds. -/
def longN (x : CallR) : Int := min 9000 (x.key.length : Int) + min 9000 (x.en.length : Int) + min 9000 (x.va.length : Int)

set_option maxHeartbeats 2000000 in
theorem long_one (x : CallR) (b : Nat) (w : World)
    (c2 : w.cell? ⟨b, 2, none⟩ = some (.string (bs x.key))) (c3 : w.cell? ⟨b, 3, none⟩ = some (.string (bs x.en))) (c4 : w.cell? ⟨b, 4, none⟩ = some (.string (bs x.va))) :
    Calls Tryz.prog 16 #[.slice (some ⟨b, 0, none⟩) 1 1] w (Ret w (.bool (decide (9000 ≤ longN x)))) := by
  have h1 : min 9000 (x.key.length : Int) ≤ 9000 := by omega
  have h1' : 0 ≤ min 9000 (x.key.length : Int) := by omega
  have h2 : min 9000 (x.en.length : Int) ≤ 9000 := by omega
  have h2' : 0 ≤ min 9000 (x.en.length : Int) := by omega
  have h3 : min 9000 (x.va.length : Int) ≤ 9000 := by omega
  have h3' : 0 ≤ min 9000 (x.va.length : Int) := by omega
  go_enter Tryz.func16, Tryz.ntmps16
  go_wp2
  refine wp_loop_rounds 2 ?_
  rw [rounds_succ]
  go_wp2
  go_quiet (fail)
  go_wp2
  rw [rounds_succ]
  go_wp2
  go_ret
  exact Ret.bool (decide_eq_decide.2 (by unfold longN; omega)) (below_drewN (Below.refl _ _) _)

set_option maxHeartbeats 4000000 in
theorem long_two (x y : CallR) (b : Nat) (w : World)
    (c2 : w.cell? ⟨b, 2, none⟩ = some (.string (bs x.key))) (c3 : w.cell? ⟨b, 3, none⟩ = some (.string (bs x.en))) (c4 : w.cell? ⟨b, 4, none⟩ = some (.string (bs x.va)))
    (d2 : w.cell? ⟨b, 9, none⟩ = some (.string (bs y.key))) (d3 : w.cell? ⟨b, 10, none⟩ = some (.string (bs y.en))) (d4 : w.cell? ⟨b, 11, none⟩ = some (.string (bs y.va))) :
    Calls Tryz.prog 16 #[.slice (some ⟨b, 0, none⟩) 2 2] w (Ret w (.bool (decide (9000 ≤ longN x + longN y)))) := by
  have h1 : min 9000 (x.key.length : Int) ≤ 9000 := by omega
  have h1' : 0 ≤ min 9000 (x.key.length : Int) := by omega
  have h2 : min 9000 (x.en.length : Int) ≤ 9000 := by omega
  have h2' : 0 ≤ min 9000 (x.en.length : Int) := by omega
  have h3 : min 9000 (x.va.length : Int) ≤ 9000 := by omega
  have h3' : 0 ≤ min 9000 (x.va.length : Int) := by omega
  have k1 : min 9000 (y.key.length : Int) ≤ 9000 := by omega
  have k1' : 0 ≤ min 9000 (y.key.length : Int) := by omega
  have k2 : min 9000 (y.en.length : Int) ≤ 9000 := by omega
  have k2' : 0 ≤ min 9000 (y.en.length : Int) := by omega
  have k3 : min 9000 (y.va.length : Int) ≤ 9000 := by omega
  have k3' : 0 ≤ min 9000 (y.va.length : Int) := by omega
  go_enter Tryz.func16, Tryz.ntmps16
  go_wp2
  refine wp_loop_rounds 3 ?_
  rw [rounds_succ]
  go_wp2
  go_quiet (fail)
  go_wp2
  rw [rounds_succ]
  go_wp2
  go_quiet (fail)
  go_wp2
  rw [rounds_succ]
  go_wp2
  go_ret
  exact Ret.bool (decide_eq_decide.2 (by unfold longN; omega)) (below_drewN (Below.refl _ _) _)
end Go.Proofs.YthhhdddojmkgnaaGreatDoor
