/-
  Blocks known whole: what a block holds, behind calls that make memory, behind stores.
-/
import Derived.Test.YthhhdddojmkgnaaGreatDoorCallV
namespace Go.Proofs.YthhhdddojmkgnaaGreatDoor
open Go.RowKit

/-- The block holds these cells. -/
def Blk (W : World) (b : Nat) (xs : Array Value) (T : TypeId) : Prop := W.heap[b]? = some (.cells xs T (0, 0))

theorem Blk.lt {W : World} {b : Nat} {xs : Array Value} {T : TypeId} (h : Blk W b xs T) : b < W.heap.size := lt_of_block h
theorem Blk.cell {W : World} {b : Nat} {xs : Array Value} {T : TypeId} (h : Blk W b xs T) (j : Nat) : W.cell? ⟨b, j, none⟩ = xs[j]? := by
  have h : W.heap[b]? = some (.cells xs T (0, 0)) := h
  simp [World.cell?, h]
theorem Blk.free {W : World} {b : Nat} {xs : Array Value} {T : TypeId} (h : Blk W b xs T) (j : Nat) : W.frozen? ⟨b, j, none⟩ = false := by
  have h : W.heap[b]? = some (.cells xs T (0, 0)) := h
  simp [World.frozen?, h]
theorem Blk.below {W W' : World} {b : Nat} {xs : Array Value} {T : TypeId} (h : Blk W b xs T) (hb : Below W.heap.size W W') : Blk W' b xs T := by
  unfold Blk; rw [hb.block b h.lt]; exact h
theorem Blk.alloc {W : World} {b : Nat} {xs : Array Value} {T : TypeId} (h : Blk W b xs T) (o : Obj) : Blk (W.alloc o) b xs T := h.below (below_new W o)
theorem Blk.drew {W : World} {b : Nat} {xs : Array Value} {T : TypeId} (h : Blk W b xs T) : Blk W.drew b xs T := h
theorem Blk.drewN {W : World} {b : Nat} {xs : Array Value} {T : TypeId} (h : Blk W b xs T) (n : Nat) : Blk (W.drewN n) b xs T := h
theorem Blk.new (W : World) (xs : Array Value) (T : TypeId) : Blk (W.alloc (.cells xs T)) W.heap.size xs T := heap_alloc_new W _
theorem Blk.set {W : World} {b : Nat} {xs : Array Value} {T : TypeId} (h : Blk W b xs T) (j : Nat) (v : Value) : Blk (W.setCell ⟨b, j, none⟩ v) b (xs.setIfInBounds j v) T := by
  have h : W.heap[b]? = some (.cells xs T (0, 0)) := h
  unfold Blk
  simp [World.setCell, Array.getElem?_modify, h]
theorem Blk.set_other {W : World} {b c : Nat} {xs : Array Value} {T : TypeId} (h : Blk W b xs T) (j : Nat) (v : Value) (hc : b ≠ c) : Blk (W.setCell ⟨c, j, none⟩ v) b xs T := by
  unfold Blk; rw [Below.heap_setCell _ _ _ _ hc]; exact h
theorem hblk {W W' : World} {b : Nat} {xs : Array Value} {T : TypeId} (h : Hid (Blk W b xs T)) (hb : Below W.heap.size W W') : Hid (Blk W' b xs T) := Lib.hid (h.out.below hb)

/-- Three new blocks. -/
theorem three_new (w : World) (x y z : Array Value) (T U V : TypeId) : Below w.heap.size w (((w.alloc (.cells x T)).alloc (.cells y U)).alloc (.cells z V)) ∧ Blk (((w.alloc (.cells x T)).alloc (.cells y U)).alloc (.cells z V)) w.heap.size x T ∧
    Blk (((w.alloc (.cells x T)).alloc (.cells y U)).alloc (.cells z V)) (w.heap.size + 1) y U ∧ Blk (((w.alloc (.cells x T)).alloc (.cells y U)).alloc (.cells z V)) (w.heap.size + 2) z V ∧ (((w.alloc (.cells x T)).alloc (.cells y U)).alloc (.cells z V)).heap.size = w.heap.size + 3 := by
  refine ⟨(((Below.refl w.heap.size w).alloc (Nat.le_refl _) _).alloc (by simp) _).alloc (by simp; omega) _, ((Blk.new w x T).alloc _).alloc _, ?_, ?_, by simp⟩
  · have := (Blk.new (w.alloc (.cells x T)) y U).alloc (.cells z V)
    rwa [World.size_alloc] at this
  · have := Blk.new ((w.alloc (.cells x T)).alloc (.cells y U)) z V
    rwa [World.size_alloc, World.size_alloc] at this
def cfgCells (c : CfgR) : Array Value := #[.int .i64 c.tasks, .int .i64 c.active, .int .i64 c.keys, .int .i64 c.depth, .int .i64 c.ts, .int .i64 c.keylen, .int .i64 c.vallen, .int .i64 c.fan]
end Go.Proofs.YthhhdddojmkgnaaGreatDoor
