/-
  call.line, where the others' row has room: what is written.
-/
import Derived.Test.YthhhdddojmkgnaaGreatDoorCallTx
import Derived.Deep.Upon
namespace Go.Proofs.YthhhdddojmkgnaaGreatDoor
open Go.RowKit

theorem there_cell {W : World} {b : Nat} {cur : Array Value} {t : TypeId} {fr : Nat × Nat} (hh : W.heap[b]? = some (.cells cur t fr)) {j : Nat} (hj : j < cur.size) : (W.cell? ⟨b, j, none⟩).isSome = true := by
  have := cell_of_row W b j cur t fr hh
  rw [this, Array.getElem?_eq_getElem hj]; rfl

/-- The row moved by one, the first word ahead. -/
theorem room_row (W : World) (b : Nat) (f : Bs) (ls : List Bs) (cur : Array Value) (t : TypeId) (fr : Nat × Nat) (hh : W.heap[b]? = some (.cells cur t fr)) (hc : ls.length + 1 ≤ cur.size) :
    RowAt ((W.setCells b (0 + (0 + 1)) (ls.map strV)).setCells b (0 + 0) [strV f]) b (f :: ls) := by
  intro j x hj
  cases j with
  | zero =>
    simp at hj
    subst hj
    have := World.cell?_setCells_in b [strV f] (0 + 0) (W.setCells b (0 + (0 + 1)) (ls.map strV)) (fun i hi => by
      simp at hi
      subst hi
      rw [World.cell?_setCells_out b _ _ _ _ (fun _ _ => .inl (by simp))]
      exact there_cell hh (by omega)) 0 (by simp)
    exact this
  | succ i =>
    simp at hj
    have hil := (List.getElem?_eq_some_iff.1 hj).1
    rw [World.cell?_setCells_out b _ _ _ _ (fun _ _ => .inr (by simp))]
    have := World.cell?_setCells_in b (ls.map strV) (0 + (0 + 1)) W (fun i hi => there_cell hh (by simp at hi; omega)) i (by simpa using hil)
    rw [show 0 + (i + 1) = 0 + (0 + 1) + i by omega, this]
    simp [strV, (List.getElem?_eq_some_iff.1 hj).2]
end Go.Proofs.YthhhdddojmkgnaaGreatDoor
