/-
  call.Tell of an answer without pairs; the laws' helper 'works'.
-/
import Derived.Test.YthhhdddojmkgnaaGreatDoorCallV
import Derived.Test.YthhhdddojmkgnaaGreatDoorCallK
namespace Go.Proofs.YthhhdddojmkgnaaGreatDoor
open Go.RowKit

def foundF (b : Bool) : Bs := if b then [49] else [48]
def ansV (err : Int) (found : Bool) (v : Bs) : Value := .agg #[.int .i64 err, .bool found, .string (bs v), .slice none 0 0]
def tellF0 (err : Int) (found : Bool) (v : Bs) : Bs := Lib.join (Lib.itoa err :: [foundF found, hexF v]) [32]

set_option maxHeartbeats 4000000 in
theorem tell_nil (err : Int) (found : Bool) (v : Bs) (w : World) (hE : Env w) (he : IsInt err) (hv : v.length ≤ 1000000000) :
    Calls Tryz.prog 14 #[ansV err found v] w (Ret w (.string (bs (tellF0 err found v)))) := by
  have hln : (tellF0 err found v).length ≤ 140737488355328 := by
    refine Nat.le_trans (join_length_le _ 2000000001 ?_) (by simp)
    intro y hy
    simp only [List.mem_cons, List.not_mem_nil, or_false] at hy
    rcases hy with rfl | rfl | rfl
    · exact Nat.le_trans (itoaLen _ he) (by decide)
    · cases found <;> decide
    · exact Nat.le_trans (hexF_length _) (by omega)
  have Hln := Lib.hid hln
  have HE := Lib.hid hE
  clear hln hE
  unfold ansV
  cases found
  · go_enter Tryz.func14, Tryz.ntmps14
    go_wp2_with fail
    refine (hex_any _ _ (by omega)).mono ?_
    rintro e w1 ⟨rfl, hb1⟩
    have c0 : w1.cell? ⟨w.heap.size, 0, none⟩ = some (.int .i64 err) := by rw [hb1.cell (by simp)]; exact Lib.cell_of_heap (heap_alloc_new w _) 0
    have c3 : w1.cell? ⟨w.heap.size, 3, none⟩ = some (.slice none 0 0) := by rw [hb1.cell (by simp)]; exact Lib.cell_of_heap (heap_alloc_new w _) 3
    have a3 : ∀ o, (w1.alloc o).cell? ⟨w.heap.size, 3, none⟩ = some (.slice none 0 0) := fun o => by rw [(below_new w1 o).cell (p := ⟨w.heap.size, 3, none⟩) (World.block_lt_of_cell? w1 _ c3)]; exact c3
    have a0 : ∀ o, (w1.alloc o).cell? ⟨w.heap.size, 0, none⟩ = some (.int .i64 err) := fun o => by rw [(below_new w1 o).cell (p := ⟨w.heap.size, 0, none⟩) (World.block_lt_of_cell? w1 _ c0)]; exact c0
    have n3 : w1.heap.size ≠ w.heap.size := World.new_ne w1 _ c3
    have n3s : ¬ w.heap.size = w1.heap.size := fun h => n3 h.symm
    have HB1 := Lib.hid (((Below.refl w.heap.size w).alloc (Nat.le_refl _) _).trans (hb1.mono (by simp)))
    clear hb1
    go_wp2_with fail
    refine wp_loop_rounds 1 ?_
    rw [rounds_succ]
    go_wp2_with fail
    refine (itoa_any err _ he (HE.out.below (HB1.out.trans ((below_new w1 _).mono HB1.out.size)))).mono ?_
    rintro e w2 ⟨rfl, hb2⟩
    have hr := Lib.hid ((rowAt_new w1 [foundF false, hexF v] 9).below (by simp) hb2)
    have hs2 := hb2.size
    have HB2 := Lib.hid ((HB1.out.trans ((below_new w1 _).mono HB1.out.size)).trans (hb2.mono (by have := HB1.out.size; simp; omega)))
    clear hb2
    go_wp2_with fail
    refine (line_grow (Lib.itoa err) [foundF false, hexF v] w1.heap.size 2 w2 hr.out (by have := hs2; simp at this; omega) (by simp) (by simp) (by simp) (by simp) Hln.out).mono ?_
    rintro e w3 ⟨rfl, hb3⟩
    go_wp2_with fail
    go_ret
    exact Ret.of rfl (HB2.out.trans (hb3.mono HB2.out.size))
  · go_enter Tryz.func14, Tryz.ntmps14
    go_wp2_with fail
    refine (hex_any _ _ (by omega)).mono ?_
    rintro e w1 ⟨rfl, hb1⟩
    have c0 : w1.cell? ⟨w.heap.size, 0, none⟩ = some (.int .i64 err) := by rw [hb1.cell (by simp)]; exact Lib.cell_of_heap (heap_alloc_new w _) 0
    have c3 : w1.cell? ⟨w.heap.size, 3, none⟩ = some (.slice none 0 0) := by rw [hb1.cell (by simp)]; exact Lib.cell_of_heap (heap_alloc_new w _) 3
    have a3 : ∀ o, (w1.alloc o).cell? ⟨w.heap.size, 3, none⟩ = some (.slice none 0 0) := fun o => by rw [(below_new w1 o).cell (p := ⟨w.heap.size, 3, none⟩) (World.block_lt_of_cell? w1 _ c3)]; exact c3
    have a0 : ∀ o, (w1.alloc o).cell? ⟨w.heap.size, 0, none⟩ = some (.int .i64 err) := fun o => by rw [(below_new w1 o).cell (p := ⟨w.heap.size, 0, none⟩) (World.block_lt_of_cell? w1 _ c0)]; exact c0
    have n3 : w1.heap.size ≠ w.heap.size := World.new_ne w1 _ c3
    have n3s : ¬ w.heap.size = w1.heap.size := fun h => n3 h.symm
    have HB1 := Lib.hid (((Below.refl w.heap.size w).alloc (Nat.le_refl _) _).trans (hb1.mono (by simp)))
    clear hb1
    go_wp2_with fail
    refine wp_loop_rounds 1 ?_
    rw [rounds_succ]
    go_wp2_with fail
    refine (itoa_any err _ he (HE.out.below (HB1.out.trans ((below_new w1 _).mono HB1.out.size)))).mono ?_
    rintro e w2 ⟨rfl, hb2⟩
    have hr := Lib.hid ((rowAt_new w1 [foundF true, hexF v] 9).below (by simp) hb2)
    have hs2 := hb2.size
    have HB2 := Lib.hid ((HB1.out.trans ((below_new w1 _).mono HB1.out.size)).trans (hb2.mono (by have := HB1.out.size; simp; omega)))
    clear hb2
    go_wp2_with fail
    refine (line_grow (Lib.itoa err) [foundF true, hexF v] w1.heap.size 2 w2 hr.out (by have := hs2; simp at this; omega) (by simp) (by simp) (by simp) (by simp) Hln.out).mono ?_
    rintro e w3 ⟨rfl, hb3⟩
    go_wp2_with fail
    go_ret
    exact Ret.of rfl (HB2.out.trans (hb3.mono HB2.out.size))
end Go.Proofs.YthhhdddojmkgnaaGreatDoor
