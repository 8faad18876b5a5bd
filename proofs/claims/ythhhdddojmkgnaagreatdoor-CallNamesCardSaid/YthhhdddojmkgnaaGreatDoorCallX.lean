/-
  The laws' helper 'works'.
-/
import Derived.Test.YthhhdddojmkgnaaGreatDoorCallZ
namespace Go.Proofs.YthhhdddojmkgnaaGreatDoor
open Go.RowKit

theorem pf1 : parseF [115, 99, 97, 110, 32, 50, 32, 45, 32, 54, 50, 32, 53] = some ⟨5, 2, [], [98], [], 5, 0⟩ := by kernel_rfl
theorem pf2 : parseF [103, 101, 116, 32, 48, 49, 32, 54, 49] = none := by kernel_rfl
theorem pf3 : parseF [103, 101, 116, 32, 49] = none := by kernel_rfl
theorem pf4 : parseF [98, 101, 103, 105, 110, 32] = none := by kernel_rfl
theorem sf1 : showF ⟨3, 1, [97], [], [], 0, 0⟩ = [112, 117, 116, 32, 49, 32, 54, 49, 32, 45] := by kernel_rfl
theorem sf2 : showF ⟨1, 0, [97], [], [], 0, 0⟩ = [98, 101, 103, 105, 110] := by kernel_rfl
theorem tf1 : tellF0 0 true [120] = [48, 32, 49, 32, 55, 56] := by kernel_rfl
theorem tf2 : tellF0 33 false [] = [51, 51, 32, 48, 32, 45] := by kernel_rfl
theorem ff1 : fitsN ⟨1, 1, 1, 2, 1, 2, 1, 3⟩ ⟨2, 0, [97, 98, 99], [], [], 0, 0⟩ = 32 := by kernel_rfl

theorem parse_none (l : Bs) (w : World) (hE : Env w) (hl : l.length ≤ 1000000000) (h : parseF l = none) :
    Calls Tryz.prog 17 #[.string (bs l)] w (Ret w (.tuple #[.agg #[.int .u8 0, .int .i64 0, .string ⟨#[]⟩, .string ⟨#[]⟩, .string ⟨#[]⟩, .int .i64 0, .int .u8 0], .int .i64 4])) := by
  refine (parse_any l w hE hl).mono ?_
  rintro e w1 ⟨hb1, he⟩
  rw [h] at he
  exact ⟨he, hb1⟩

theorem show_l1 (w : World) (hE : Env w) : Calls Tryz.prog 29 #[.agg #[.int .u8 3, .int .i64 1, .string ⟨#[97]⟩, .string ⟨#[]⟩, .string ⟨#[]⟩, .int .i64 0, .int .u8 0]] w (Ret w (.string ⟨#[112, 117, 116, 32, 49, 32, 54, 49, 32, 45]⟩)) := by
  have := show_any ⟨3, 1, [97], [], [], 0, 0⟩ w hE ⟨⟨by decide, by decide⟩, ⟨by decide, by decide⟩, by decide, by decide, by decide⟩
  rw [sf1] at this
  exact this
theorem show_l2 (w : World) (hE : Env w) : Calls Tryz.prog 29 #[.agg #[.int .u8 1, .int .i64 0, .string ⟨#[97]⟩, .string ⟨#[]⟩, .string ⟨#[]⟩, .int .i64 0, .int .u8 0]] w (Ret w (.string ⟨#[98, 101, 103, 105, 110]⟩)) := by
  have := show_any ⟨1, 0, [97], [], [], 0, 0⟩ w hE ⟨⟨by decide, by decide⟩, ⟨by decide, by decide⟩, by decide, by decide, by decide⟩
  rw [sf2] at this
  exact this
theorem tell_l1 (w : World) (hE : Env w) : Calls Tryz.prog 14 #[.agg #[.int .i64 0, .bool true, .string ⟨#[120]⟩, .slice none 0 0]] w (Ret w (.string ⟨#[48, 32, 49, 32, 55, 56]⟩)) := by
  have := tell_nil 0 true [120] w hE ⟨by decide, by decide⟩ (by decide)
  rw [tf1] at this
  exact this
theorem tell_l2 (w : World) (hE : Env w) : Calls Tryz.prog 14 #[.agg #[.int .i64 33, .bool false, .string ⟨#[]⟩, .slice none 0 0]] w (Ret w (.string ⟨#[51, 51, 32, 48, 32, 45]⟩)) := by
  have := tell_nil 33 false [] w hE ⟨by decide, by decide⟩ (by decide)
  rw [tf2] at this
  exact this
theorem fits_l (w : World) : Calls Tryz.prog 23 #[.agg #[.int .i64 1, .int .i64 1, .int .i64 1, .int .i64 2, .int .i64 1, .int .i64 2, .int .i64 1, .int .i64 3], .agg #[.int .u8 2, .int .i64 0, .string ⟨#[97, 98, 99]⟩, .string ⟨#[]⟩, .string ⟨#[]⟩, .int .i64 0, .int .u8 0]] w (Ret w (.int .i64 32)) := by
  have := fits_any ⟨1, 1, 1, 2, 1, 2, 1, 3⟩ ⟨2, 0, [97, 98, 99], [], [], 0, 0⟩ w (by decide) (by decide) (by decide)
  rw [ff1] at this
  exact this

theorem two_cells {w1 W : World} {x y : Array Value} {T U : TypeId} (h : Below (w1.heap.size + 2) ((w1.alloc (.cells x T)).alloc (.cells y U)) W) (j : Nat) :
    W.cell? ⟨w1.heap.size, j, none⟩ = x[j]? ∧ W.cell? ⟨w1.heap.size + 1, j, none⟩ = y[j]? :=
  ⟨by rw [h.cell (p := ⟨w1.heap.size, j, none⟩) (by simp)]; exact World.cell?_alloc2_first _ _ _ _, by rw [h.cell (p := ⟨w1.heap.size + 1, j, none⟩) (by simp)]; exact World.cell?_alloc2_new _ _ _ _⟩
theorem one_cells {w1 W : World} {x : Array Value} {T : TypeId} (h : Below (w1.heap.size + 1) (w1.alloc (.cells x T)) W) (j : Nat) :
    W.cell? ⟨w1.heap.size, j, none⟩ = x[j]? := by
  rw [h.cell (p := ⟨w1.heap.size, j, none⟩) (by simp)]
  exact Lib.cell_of_heap (heap_alloc_new w1 _) j
theorem hnext {B : Nat} {a W W' : World} (h : Hid (Below B a W)) (hB : B ≤ W.heap.size) (hb : Below W.heap.size W W') : Hid (Below B a W') := Lib.hid (h.out.trans (hb.mono hB))
theorem hnew {B : Nat} {a W W' : World} {o : Obj} (h : Hid (Below B a W)) (hB : B ≤ W.heap.size) (hb : Below (W.alloc o).heap.size (W.alloc o) W') : Hid (Below B a W') :=
  Lib.hid ((h.out.alloc hB o).trans (hb.mono (by simp; omega)))

set_option maxHeartbeats 4000000 in
theorem works_any (w : World) (hE : Env w) : Calls Tryz.prog 10 #[] w (Ret w (.bool true)) := by
  have HE := Lib.hid hE
  clear hE
  go_enter Tryz.func10, Tryz.ntmps10
  go_wp2_with fail
  refine (parse_any [115, 99, 97, 110, 32, 50, 32, 45, 32, 54, 50, 32, 53] w HE.out (by decide)).mono ?_
  rintro e w1 ⟨hb1, he⟩
  rw [pf1] at he
  have he : e = .returned (.tuple #[.agg #[.int .u8 5, .int .i64 2, .string ⟨#[]⟩, .string ⟨#[98]⟩, .string ⟨#[]⟩, .int .i64 5, .int .u8 0], .int .i64 0]) := he
  subst he
  have HW := Lib.hid hb1
  clear hb1
  have sz1 := HW.out.size
  go_wp2_with fail
  refine (parse_none [103, 101, 116, 32, 48, 49, 32, 54, 49] _ (HE.out.below ((HW.out.alloc sz1 _).alloc (by simp; omega) _)) (by decide) pf2).mono ?_
  rintro e w2 ⟨rfl, hb2⟩
  have HM : Hid (Below (w1.heap.size + 2) _ w2) := Lib.hid (by simpa only [World.size_alloc] using hb2)
  have HW := hnew (Lib.hid (HW.out.alloc sz1 _)) (by simp; omega) hb2
  have sz2 : w1.heap.size + 2 ≤ w2.heap.size := by have := hb2.size; simpa using this
  clear hb2
  go_wp2_with fail
  refine (parse_none [103, 101, 116, 32, 49] _ (HE.out.below (HW.out.alloc (by omega) _)) (by decide) pf3).mono ?_
  rintro e w3 ⟨rfl, hb3⟩
  have HM := hnew HM sz2 hb3
  have HW := hnew HW (by omega) hb3
  have sz3 : w1.heap.size + 2 ≤ w3.heap.size := by have := hb3.size; simp at this; omega
  clear hb3
  go_wp2_with fail
  refine (parse_none [98, 101, 103, 105, 110, 32] _ (HE.out.below (HW.out.alloc (by omega) _)) (by decide) pf4).mono ?_
  rintro e w4 ⟨rfl, hb4⟩
  have HM := hnew HM sz3 hb4
  have HW := hnew HW (by omega) hb4
  have sz4 : w1.heap.size + 2 ≤ w4.heap.size := by have := hb4.size; simp at this; omega
  clear hb4
  have x0 : ∀ o o2, ((w4.alloc o).alloc o2).cell? ⟨w1.heap.size, 0, none⟩ = some (.int .u8 5) := fun o o2 => (two_cells ((HM.out.alloc sz4 o).alloc (by simp; omega) o2) 0).1
  have y0 : ∀ o o2, ((w4.alloc o).alloc o2).cell? ⟨w1.heap.size + 1, 0, none⟩ = some (.int .u8 5) := fun o o2 => (two_cells ((HM.out.alloc sz4 o).alloc (by simp; omega) o2) 0).2
  have x1 : ∀ o o2, ((w4.alloc o).alloc o2).cell? ⟨w1.heap.size, 1, none⟩ = some (.int .i64 2) := fun o o2 => (two_cells ((HM.out.alloc sz4 o).alloc (by simp; omega) o2) 1).1
  have y1 : ∀ o o2, ((w4.alloc o).alloc o2).cell? ⟨w1.heap.size + 1, 1, none⟩ = some (.int .i64 2) := fun o o2 => (two_cells ((HM.out.alloc sz4 o).alloc (by simp; omega) o2) 1).2
  have x2 : ∀ o o2, ((w4.alloc o).alloc o2).cell? ⟨w1.heap.size, 2, none⟩ = some (.string ⟨#[]⟩) := fun o o2 => (two_cells ((HM.out.alloc sz4 o).alloc (by simp; omega) o2) 2).1
  have y2 : ∀ o o2, ((w4.alloc o).alloc o2).cell? ⟨w1.heap.size + 1, 2, none⟩ = some (.string ⟨#[]⟩) := fun o o2 => (two_cells ((HM.out.alloc sz4 o).alloc (by simp; omega) o2) 2).2
  have x3 : ∀ o o2, ((w4.alloc o).alloc o2).cell? ⟨w1.heap.size, 3, none⟩ = some (.string ⟨#[98]⟩) := fun o o2 => (two_cells ((HM.out.alloc sz4 o).alloc (by simp; omega) o2) 3).1
  have y3 : ∀ o o2, ((w4.alloc o).alloc o2).cell? ⟨w1.heap.size + 1, 3, none⟩ = some (.string ⟨#[98]⟩) := fun o o2 => (two_cells ((HM.out.alloc sz4 o).alloc (by simp; omega) o2) 3).2
  have x4 : ∀ o o2, ((w4.alloc o).alloc o2).cell? ⟨w1.heap.size, 4, none⟩ = some (.string ⟨#[]⟩) := fun o o2 => (two_cells ((HM.out.alloc sz4 o).alloc (by simp; omega) o2) 4).1
  have y4 : ∀ o o2, ((w4.alloc o).alloc o2).cell? ⟨w1.heap.size + 1, 4, none⟩ = some (.string ⟨#[]⟩) := fun o o2 => (two_cells ((HM.out.alloc sz4 o).alloc (by simp; omega) o2) 4).2
  have x5 : ∀ o o2, ((w4.alloc o).alloc o2).cell? ⟨w1.heap.size, 5, none⟩ = some (.int .i64 5) := fun o o2 => (two_cells ((HM.out.alloc sz4 o).alloc (by simp; omega) o2) 5).1
  have y5 : ∀ o o2, ((w4.alloc o).alloc o2).cell? ⟨w1.heap.size + 1, 5, none⟩ = some (.int .i64 5) := fun o o2 => (two_cells ((HM.out.alloc sz4 o).alloc (by simp; omega) o2) 5).2
  have x6 : ∀ o o2, ((w4.alloc o).alloc o2).cell? ⟨w1.heap.size, 6, none⟩ = some (.int .u8 0) := fun o o2 => (two_cells ((HM.out.alloc sz4 o).alloc (by simp; omega) o2) 6).1
  have y6 : ∀ o o2, ((w4.alloc o).alloc o2).cell? ⟨w1.heap.size + 1, 6, none⟩ = some (.int .u8 0) := fun o o2 => (two_cells ((HM.out.alloc sz4 o).alloc (by simp; omega) o2) 6).2
  go_wp2_with fail
  clear x0 x1 x2 x3 x4 x5 x6 y0 y1 y2 y3 y4 y5 y6
  refine (show_l1 _ (HE.out.below ((HW.out.alloc (by omega) _).alloc (by simp; omega) _))).mono ?_
  rintro e w5 ⟨rfl, hb5⟩
  have HC : Hid (Below (w4.heap.size + 2) _ w5) := Lib.hid (by simpa only [World.size_alloc] using hb5)
  have HV := hnew (Lib.hid (HW.out.alloc (by omega) _)) (by simp; omega) hb5
  have sz5 : w4.heap.size + 2 ≤ w5.heap.size := by have := hb5.size; simp at this; omega
  clear hb5 HM HW
  go_wp2_with fail
  refine (show_l2 _ (HE.out.below HV.out)).mono ?_
  rintro e w6 ⟨rfl, hb6⟩
  have HC := hnext HC sz5 hb6
  have HV := hnext HV (by omega) hb6
  have sz6 : w4.heap.size + 2 ≤ w6.heap.size := by have := hb6.size; omega
  clear hb6
  go_wp2_with fail
  refine (tell_l1 _ (HE.out.below HV.out)).mono ?_
  rintro e w7 ⟨rfl, hb7⟩
  have HC := hnext HC sz6 hb7
  have HV := hnext HV (by omega) hb7
  have sz7 : w4.heap.size + 2 ≤ w7.heap.size := by have := hb7.size; omega
  clear hb7
  go_wp2_with fail
  refine (tell_l2 _ (HE.out.below HV.out)).mono ?_
  rintro e w8 ⟨rfl, hb8⟩
  have HC := hnext HC sz7 hb8
  have HV := hnext HV (by omega) hb8
  have sz8 : w4.heap.size + 2 ≤ w8.heap.size := by have := hb8.size; omega
  clear hb8
  have c0 : w8.cell? ⟨w4.heap.size + 1, 0, none⟩ = some (.int .i64 1) := (two_cells HC.out 0).2
  have c1 : w8.cell? ⟨w4.heap.size + 1, 1, none⟩ = some (.int .i64 1) := (two_cells HC.out 1).2
  have c2 : w8.cell? ⟨w4.heap.size + 1, 2, none⟩ = some (.int .i64 1) := (two_cells HC.out 2).2
  have c3 : w8.cell? ⟨w4.heap.size + 1, 3, none⟩ = some (.int .i64 2) := (two_cells HC.out 3).2
  have c4 : w8.cell? ⟨w4.heap.size + 1, 4, none⟩ = some (.int .i64 1) := (two_cells HC.out 4).2
  have c5 : w8.cell? ⟨w4.heap.size + 1, 5, none⟩ = some (.int .i64 2) := (two_cells HC.out 5).2
  have c6 : w8.cell? ⟨w4.heap.size + 1, 6, none⟩ = some (.int .i64 1) := (two_cells HC.out 6).2
  have c7 : w8.cell? ⟨w4.heap.size + 1, 7, none⟩ = some (.int .i64 3) := (two_cells HC.out 7).2
  go_wp2_with fail
  refine (fits_l _).mono ?_
  rintro e w9 ⟨rfl, hb9⟩
  have HV := hnext HV (by omega) hb9
  clear hb9 c0 c1 c2 c3 c4 c5 c6 c7
  go_wp2_with fail
  go_ret
  exact Ret.of rfl HV.out
end Go.Proofs.YthhhdddojmkgnaaGreatDoor
