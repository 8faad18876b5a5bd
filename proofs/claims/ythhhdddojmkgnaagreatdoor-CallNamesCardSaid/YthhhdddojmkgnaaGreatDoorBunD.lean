/-
  What reference functions compute. (Written by the kit's print for this claim, cut to what is used and laid together by bundle.py.)
-/
import Derived.Test.YthhhdddojmkgnaaGreatDoorBunX
import Derived.Test.YthhhdddojmkgnaaGreatDoorBunA

section
namespace Go.Proofs.YthhhdddojmkgnaaGreatDoor.PRef
open Go.RowKit Go.Proofs.YthhhdddojmkgnaaGreatDoorW.PrintWords Go.Proofs.YthhhdddojmkgnaaGreatDoorW.PrintLast Go.Proofs.YthhhdddojmkgnaaGreatDoorW.PrintMore
attribute [local go_sem] max2_int min2_int max_two min_two max_three min_three max_four min_four   -- for this text's walks alone
set_option linter.unusedVariables false
set_option linter.unusedSimpArgs false
def call_Needs.f (a0 : Int) : Option (Bool) := if a0 ≥ 2 then (some (decide (a0 ≤ 7))) else (some false)
set_option maxHeartbeats 8000000 in
set_option maxRecDepth 100000 in
theorem call_Needs.calls (a0 : Int) (r : Bool) (w : World) (h : call_Needs.f a0 = some r) :
    Calls Tryz.prog 19 #[.int .u8 a0] w fun e w' => e = .returned (.bool r) ∧ Drawn0 w w' := by
  have H : (if a0 ≥ 2 then (some (decide (a0 ≤ 7))) else (some false)) = some r := h
  clear h
  by_cases c2 : a0 ≥ 2
  · rw [if_pos c2] at H
    have c2b0 : decide (2 ≤ a0) = true := decide_eq_true c2
    clear c2
    obtain rfl := Option.some.inj H
    go_enter Tryz.func19, Tryz.ntmps19
    go_wp2
    go_ret
    exact ⟨by first | rfl | (simp; done) | (simp [*]; done), by repeat (first | exact Drawn0.refl _ | apply Drawn0.step)⟩
  · rw [if_neg c2] at H
    have c2b0 : decide (2 ≤ a0) = false := decide_eq_false c2
    clear c2
    obtain rfl := Option.some.inj H
    go_enter Tryz.func19, Tryz.ntmps19
    go_wp2
    go_ret
    exact ⟨by first | rfl | (simp; done) | (simp [*]; done), by repeat (first | exact Drawn0.refl _ | apply Drawn0.step)⟩

def call_keyed.f (a0 : Int) : Option (Bool) := if a0 ≥ 2 then (some (decide (a0 ≤ 5))) else (some false)
set_option maxHeartbeats 8000000 in
set_option maxRecDepth 100000 in
theorem call_keyed.calls (a0 : Int) (r : Bool) (w : World) (h : call_keyed.f a0 = some r) :
    Calls Tryz.prog 52 #[.int .u8 a0] w fun e w' => e = .returned (.bool r) ∧ Drawn0 w w' := by
  have H : (if a0 ≥ 2 then (some (decide (a0 ≤ 5))) else (some false)) = some r := h
  clear h
  by_cases c2 : a0 ≥ 2
  · rw [if_pos c2] at H
    have c2b0 : decide (2 ≤ a0) = true := decide_eq_true c2
    clear c2
    obtain rfl := Option.some.inj H
    go_enter Tryz.func52, Tryz.ntmps52
    go_wp2
    go_ret
    exact ⟨by first | rfl | (simp; done) | (simp [*]; done), by repeat (first | exact Drawn0.refl _ | apply Drawn0.step)⟩
  · rw [if_neg c2] at H
    have c2b0 : decide (2 ≤ a0) = false := decide_eq_false c2
    clear c2
    obtain rfl := Option.some.inj H
    go_enter Tryz.func52, Tryz.ntmps52
    go_wp2
    go_ret
    exact ⟨by first | rfl | (simp; done) | (simp [*]; done), by repeat (first | exact Drawn0.refl _ | apply Drawn0.step)⟩

mutual
def call_Clean.j0 : Nat → Int → Int → ByteArray → ByteArray → ByteArray → Int → Int → Int → Int → ByteArray → ByteArray → ByteArray → Int → Int → Option (Int × Int × ByteArray × ByteArray × ByteArray × Int × Int)
  | 0, _, _, _, _, _, _, _, _, _, _, _, _, _, _ => none
  | k + 1, x309000, x309001, x309002, x309003, x309004, x309005, x309006, x311000, x311001, x311002, x311003, x311004, x311005, x311006 => (call_keyed.f x309000).bind fun t312 => (if t312 = true then (call_Clean.j1 k x309000 x309001 x309002 x309003 x309004 x309005 x309006 x311000 x311001 x309002 x311003 x311004 x311005 x311006) else (call_Clean.j1 k x309000 x309001 x309002 x309003 x309004 x309005 x309006 x311000 x311001 x311002 x311003 x311004 x311005 x311006))
def call_Clean.j1 : Nat → Int → Int → ByteArray → ByteArray → ByteArray → Int → Int → Int → Int → ByteArray → ByteArray → ByteArray → Int → Int → Option (Int × Int × ByteArray × ByteArray × ByteArray × Int × Int)
  | 0, _, _, _, _, _, _, _, _, _, _, _, _, _, _ => none
  | k + 1, x309000, x309001, x309002, x309003, x309004, x309005, x309006, x311000, x311001, x311002, x311003, x311004, x311005, x311006 => if x309000 = 3 then (some (x311000, x311001, x311002, x311003, x309004, x311005, x311006)) else (if x309000 = 5 then (some (x311000, x311001, x311002, x309003, x311004, x309005, x311006)) else (if x309000 = 9 then (some (x311000, x311001, x311002, x311003, x311004, x311005, x309006)) else (some (x311000, x311001, x311002, x311003, x311004, x311005, x311006))))
end
def call_Clean.f (k : Nat) (a0_0 : Int) (a0_1 : Int) (a0_2 : ByteArray) (a0_3 : ByteArray) (a0_4 : ByteArray) (a0_5 : Int) (a0_6 : Int) : Option (Int × Int × ByteArray × ByteArray × ByteArray × Int × Int) := (call_Needs.f a0_0).bind fun t311 => (if t311 = true then (call_Clean.j0 k a0_0 a0_1 a0_2 a0_3 a0_4 a0_5 a0_6 a0_0 a0_1 (⟨#[]⟩ : ByteArray) (⟨#[]⟩ : ByteArray) (⟨#[]⟩ : ByteArray) 0 0) else (call_Clean.j0 k a0_0 a0_1 a0_2 a0_3 a0_4 a0_5 a0_6 a0_0 0 (⟨#[]⟩ : ByteArray) (⟨#[]⟩ : ByteArray) (⟨#[]⟩ : ByteArray) 0 0))
def call_Clean.T10 : Bool × List (List Nat × List Nat) := (true, [([], []), ([0], [0]), ([], []), ([2], [2]), ([0, 1], []), ([4, 1, 0, 1], [1, 4]), ([0, 1, 2, 3, 4, 5], []), ([6, 3, 5, 0, 1, 2, 3, 4, 5], [3, 6])])
def call_Clean.B10 : List Nat := [0, 1, 0, 4, 3, 19, 63, 127]
theorem call_Clean.tab10 : rtab .any (opsOf Tryz.f25 10) = call_Clean.T10 := by kernel_rfl
theorem call_Clean.bits10 : waitsOk call_Clean.T10.2 call_Clean.B10 = true := by kernel_rfl
set_option maxHeartbeats 8000000 in
set_option maxRecDepth 100000 in
theorem call_Clean.calls (k : Nat) (a0_0 : Int) (a0_1 : Int) (a0_2 : ByteArray) (a0_3 : ByteArray) (a0_4 : ByteArray) (a0_5 : Int) (a0_6 : Int) (r1 : Int) (r2 : Int) (r3 : ByteArray) (r4 : ByteArray) (r5 : ByteArray) (r6 : Int) (r7 : Int) (w : World) (h : call_Clean.f k a0_0 a0_1 a0_2 a0_3 a0_4 a0_5 a0_6 = some (r1, r2, r3, r4, r5, r6, r7)) :
    Calls Tryz.prog 25 #[.agg #[.int .u8 a0_0, .int .i64 a0_1, .string a0_2, .string a0_3, .string a0_4, .int .i64 a0_5, .int .u8 a0_6]] w fun e w' => e = .returned (.agg #[.int .u8 r1, .int .i64 r2, .string r3, .string r4, .string r5, .int .i64 r6, .int .u8 r7]) ∧ Below w.heap.size w w' := by
  have hu38 := Tryz.underlying38
  have HB := Aside0.mk (Below.refl w.heap.size w)
  have H : ((call_Needs.f a0_0).bind fun t311 => (if t311 = true then (call_Clean.j0 k a0_0 a0_1 a0_2 a0_3 a0_4 a0_5 a0_6 a0_0 a0_1 (⟨#[]⟩ : ByteArray) (⟨#[]⟩ : ByteArray) (⟨#[]⟩ : ByteArray) 0 0) else (call_Clean.j0 k a0_0 a0_1 a0_2 a0_3 a0_4 a0_5 a0_6 a0_0 0 (⟨#[]⟩ : ByteArray) (⟨#[]⟩ : ByteArray) (⟨#[]⟩ : ByteArray) 0 0))) = some (r1, r2, r3, r4, r5, r6, r7) := h
  clear h
  replace H := Option.bind_eq_some_iff.mp H
  obtain ⟨t311, A20, H⟩ := H
  replace H : (if t311 = true then (call_Clean.j0 k a0_0 a0_1 a0_2 a0_3 a0_4 a0_5 a0_6 a0_0 a0_1 (⟨#[]⟩ : ByteArray) (⟨#[]⟩ : ByteArray) (⟨#[]⟩ : ByteArray) 0 0) else (call_Clean.j0 k a0_0 a0_1 a0_2 a0_3 a0_4 a0_5 a0_6 a0_0 0 (⟨#[]⟩ : ByteArray) (⟨#[]⟩ : ByteArray) (⟨#[]⟩ : ByteArray) 0 0)) = some (r1, r2, r3, r4, r5, r6, r7) := H
  have A2 := Aside0.mk A20
  clear A20
  have HC3 := Aside0.mk H
  clear H
  go_enter Tryz.func25, Tryz.ntmps25
  go_upto_if 9 with (first | ((with_reducible refine gate_dst (N := 1) rfl ?_); refine box_event ?hg (N := 1) ?hd (cs := #[.int .u8 a0_0, .int .i64 a0_1, .string a0_2, .string a0_3, .string a0_4, .int .i64 a0_5, .int .u8 a0_6]) (t := 38) ?hr ?_; (case hd => rfl); (case hg => rfl); (case hr => first | (go_simp; done) | (go_simp; rfl)); intro gb308 hg w4 hbox hb; have n0_ := Aside0.mk (below_step (by repeat (first | (with_reducible first | exact HB.out | apply below_alloc | apply pw_below_drewN | apply below_drew1) | exact HB.out)) hb); have n1_ := Aside0.mk (hbox); have n2_ := Aside0.mk ((by rw [hg]; exact (below_size (by repeat (first | (with_reducible first | exact HB.out | apply below_alloc | apply pw_below_drewN | apply below_drew1) | exact HB.out))) : w.heap.size ≤ gb308)); have n3_ := Aside0.mk ((by rw [hg]; exact (below_size (by repeat (first | (with_reducible first | exact HB.out | apply below_alloc | apply pw_below_drewN | apply below_drew1) | exact HB.out))) : w.heap.size ≤ gb308)); clear HB; have HB := n0_; have BK308 := n1_; have GW308 := n2_; have GE308 := n3_; clear n0_ n1_ n2_ n3_; clear hb hbox hg) | ((with_reducible refine gate_dst (N := 2) rfl ?_); refine box_event ?hg (N := 2) ?hd (cs := #[.int .u8 0, .int .i64 0, .string (⟨#[]⟩ : ByteArray), .string (⟨#[]⟩ : ByteArray), .string (⟨#[]⟩ : ByteArray), .int .i64 0, .int .u8 0]) (t := 38) ?hr ?_; (case hd => rfl); (case hg => rfl); (case hr => first | (go_simp; done) | (go_simp; rfl)); intro gb309 hg w5 hbox hb; have n0_ := Aside0.mk (blk_below (g := gb308) (o := .cells #[.int .u8 a0_0, .int .i64 a0_1, .string a0_2, .string a0_3, .string a0_4, .int .i64 a0_5, .int .u8 a0_6] 38 (0, 0)) (by (with_reducible repeat (first | refine blk_drewN ?_ _ | refine blk_drew ?_ | refine blk_alloc ?_ _)); exact BK308.out) hb); have n1_ := Aside0.mk (below_step (by repeat (first | (with_reducible first | exact HB.out | apply below_alloc | apply pw_below_drewN | apply below_drew1 | refine below_set ?_ GE308.out) | exact HB.out)) hb); have n2_ := Aside0.mk (hbox); have n3_ := Aside0.mk ((by rw [hg]; exact (below_size (by repeat (first | (with_reducible first | exact HB.out | apply below_alloc | apply pw_below_drewN | apply below_drew1 | refine below_set ?_ GE308.out) | exact HB.out))) : w.heap.size ≤ gb309)); have n4_ := Aside0.mk ((by rw [hg]; exact (below_size (by repeat (first | (with_reducible first | exact HB.out | apply below_alloc | apply pw_below_drewN | apply below_drew1 | refine below_set ?_ GE308.out) | exact HB.out))) : w.heap.size ≤ gb309)); have n5_ := Aside0.mk ((by rw [hg]; exact Nat.ne_of_lt (blk_lt (g := gb308) (o := .cells #[.int .u8 a0_0, .int .i64 a0_1, .string a0_2, .string a0_3, .string a0_4, .int .i64 a0_5, .int .u8 a0_6] 38 (0, 0)) (by (with_reducible repeat (first | refine blk_drewN ?_ _ | refine blk_drew ?_ | refine blk_alloc ?_ _)); exact BK308.out)) : gb308 ≠ gb309)); have n6_ := Aside0.mk ((by rw [hg]; exact Nat.ne_of_gt (blk_lt (g := gb308) (o := .cells #[.int .u8 a0_0, .int .i64 a0_1, .string a0_2, .string a0_3, .string a0_4, .int .i64 a0_5, .int .u8 a0_6] 38 (0, 0)) (by (with_reducible repeat (first | refine blk_drewN ?_ _ | refine blk_drew ?_ | refine blk_alloc ?_ _)); exact BK308.out)) : gb309 ≠ gb308)); clear BK308; clear HB; have BK308 := n0_; have HB := n1_; have BK309 := n2_; have GW309 := n3_; have GE309 := n4_; have NB308_309 := n5_; have NB309_308 := n6_; clear n0_ n1_ n2_ n3_ n4_ n5_ n6_; clear hb hbox hg; have hnb6 := NB308_309.out; have hnc6 := NB309_308.out; have hcz7_0 : w5.cell? ⟨gb308, 0, none⟩ = some (.int .u8 a0_0) := (blk_cell BK308.out 0).trans rfl; have hcz7_1 : w5.cell? ⟨gb308, 1, none⟩ = some (.int .i64 a0_1) := (blk_cell BK308.out 1).trans rfl; have hcz7_2 : w5.cell? ⟨gb308, 2, none⟩ = some (.string a0_2) := (blk_cell BK308.out 2).trans rfl; have hcz7_3 : w5.cell? ⟨gb308, 3, none⟩ = some (.string a0_3) := (blk_cell BK308.out 3).trans rfl; have hcz7_4 : w5.cell? ⟨gb308, 4, none⟩ = some (.string a0_4) := (blk_cell BK308.out 4).trans rfl; have hcz7_5 : w5.cell? ⟨gb308, 5, none⟩ = some (.int .i64 a0_5) := (blk_cell BK308.out 5).trans rfl; have hcz7_6 : w5.cell? ⟨gb308, 6, none⟩ = some (.int .u8 a0_6) := (blk_cell BK308.out 6).trans rfl; have hfz7_0 := blk_frozen BK308.out 0; have hfz7_1 := blk_frozen BK308.out 1; have hfz7_2 := blk_frozen BK308.out 2; have hfz7_3 := blk_frozen BK308.out 3; have hfz7_4 := blk_frozen BK308.out 4; have hfz7_5 := blk_frozen BK308.out 5; have hfz7_6 := blk_frozen BK308.out 6) | ((with_reducible refine gate_dst (N := 3) rfl ?_); refine box_event ?hg (N := 3) ?hd (cs := #[.int .u8 0, .int .i64 0, .string (⟨#[]⟩ : ByteArray), .string (⟨#[]⟩ : ByteArray), .string (⟨#[]⟩ : ByteArray), .int .i64 0, .int .u8 0]) (t := 38) ?hr ?_; (case hd => rfl); (case hg => rfl); (case hr => first | (go_simp; done) | (go_simp; rfl)); intro gb310 hg w8 hbox hb; have n0_ := Aside0.mk (blk_below (g := gb308) (o := .cells #[.int .u8 a0_0, .int .i64 a0_1, .string a0_2, .string a0_3, .string a0_4, .int .i64 a0_5, .int .u8 a0_6] 38 (0, 0)) (by (with_reducible repeat (first | refine blk_drewN ?_ _ | refine blk_drew ?_ | refine blk_alloc ?_ _)); exact BK308.out) hb); have n1_ := Aside0.mk (blk_below (g := gb309) (o := .cells #[.int .u8 0, .int .i64 0, .string (⟨#[]⟩ : ByteArray), .string (⟨#[]⟩ : ByteArray), .string (⟨#[]⟩ : ByteArray), .int .i64 0, .int .u8 0] 38 (0, 0)) (by (with_reducible repeat (first | refine blk_drewN ?_ _ | refine blk_drew ?_ | refine blk_alloc ?_ _)); exact BK309.out) hb); have n2_ := Aside0.mk (below_step (by repeat (first | (with_reducible first | exact HB.out | apply below_alloc | apply pw_below_drewN | apply below_drew1 | refine below_set ?_ GE308.out | refine below_set ?_ GE309.out) | exact HB.out)) hb); have n3_ := Aside0.mk (hbox); have n4_ := Aside0.mk ((by rw [hg]; exact (below_size (by repeat (first | (with_reducible first | exact HB.out | apply below_alloc | apply pw_below_drewN | apply below_drew1 | refine below_set ?_ GE308.out | refine below_set ?_ GE309.out) | exact HB.out))) : w.heap.size ≤ gb310)); have n5_ := Aside0.mk ((by rw [hg]; exact (below_size (by repeat (first | (with_reducible first | exact HB.out | apply below_alloc | apply pw_below_drewN | apply below_drew1 | refine below_set ?_ GE308.out | refine below_set ?_ GE309.out) | exact HB.out))) : w.heap.size ≤ gb310)); have n6_ := Aside0.mk ((by rw [hg]; exact Nat.ne_of_lt (blk_lt (g := gb308) (o := .cells #[.int .u8 a0_0, .int .i64 a0_1, .string a0_2, .string a0_3, .string a0_4, .int .i64 a0_5, .int .u8 a0_6] 38 (0, 0)) (by (with_reducible repeat (first | refine blk_drewN ?_ _ | refine blk_drew ?_ | refine blk_alloc ?_ _)); exact BK308.out)) : gb308 ≠ gb310)); have n7_ := Aside0.mk ((by rw [hg]; exact Nat.ne_of_gt (blk_lt (g := gb308) (o := .cells #[.int .u8 a0_0, .int .i64 a0_1, .string a0_2, .string a0_3, .string a0_4, .int .i64 a0_5, .int .u8 a0_6] 38 (0, 0)) (by (with_reducible repeat (first | refine blk_drewN ?_ _ | refine blk_drew ?_ | refine blk_alloc ?_ _)); exact BK308.out)) : gb310 ≠ gb308)); have n8_ := Aside0.mk ((by rw [hg]; exact Nat.ne_of_lt (blk_lt (g := gb309) (o := .cells #[.int .u8 0, .int .i64 0, .string (⟨#[]⟩ : ByteArray), .string (⟨#[]⟩ : ByteArray), .string (⟨#[]⟩ : ByteArray), .int .i64 0, .int .u8 0] 38 (0, 0)) (by (with_reducible repeat (first | refine blk_drewN ?_ _ | refine blk_drew ?_ | refine blk_alloc ?_ _)); exact BK309.out)) : gb309 ≠ gb310)); have n9_ := Aside0.mk ((by rw [hg]; exact Nat.ne_of_gt (blk_lt (g := gb309) (o := .cells #[.int .u8 0, .int .i64 0, .string (⟨#[]⟩ : ByteArray), .string (⟨#[]⟩ : ByteArray), .string (⟨#[]⟩ : ByteArray), .int .i64 0, .int .u8 0] 38 (0, 0)) (by (with_reducible repeat (first | refine blk_drewN ?_ _ | refine blk_drew ?_ | refine blk_alloc ?_ _)); exact BK309.out)) : gb310 ≠ gb309)); clear BK308; clear BK309; clear HB; have BK308 := n0_; have BK309 := n1_; have HB := n2_; have BK310 := n3_; have GW310 := n4_; have GE310 := n5_; have NB308_310 := n6_; have NB310_308 := n7_; have NB309_310 := n8_; have NB310_309 := n9_; clear n0_ n1_ n2_ n3_ n4_ n5_ n6_ n7_ n8_ n9_; clear hb hbox hg; have hnb9 := NB310_308.out; have hnc9 := NB308_310.out; have hnb10 := NB310_309.out; have hnc10 := NB309_310.out; have hcz11_0 : w8.cell? ⟨gb310, 0, none⟩ = some (.int .u8 0) := (blk_cell BK310.out 0).trans rfl; have hcz11_1 : w8.cell? ⟨gb310, 1, none⟩ = some (.int .i64 0) := (blk_cell BK310.out 1).trans rfl; have hcz11_2 : w8.cell? ⟨gb310, 2, none⟩ = some (.string (⟨#[]⟩ : ByteArray)) := (blk_cell BK310.out 2).trans rfl; have hcz11_3 : w8.cell? ⟨gb310, 3, none⟩ = some (.string (⟨#[]⟩ : ByteArray)) := (blk_cell BK310.out 3).trans rfl; have hcz11_4 : w8.cell? ⟨gb310, 4, none⟩ = some (.string (⟨#[]⟩ : ByteArray)) := (blk_cell BK310.out 4).trans rfl; have hcz11_5 : w8.cell? ⟨gb310, 5, none⟩ = some (.int .i64 0) := (blk_cell BK310.out 5).trans rfl; have hcz11_6 : w8.cell? ⟨gb310, 6, none⟩ = some (.int .u8 0) := (blk_cell BK310.out 6).trans rfl; have hfz11_0 := blk_frozen BK310.out 0; have hfz11_1 := blk_frozen BK310.out 1; have hfz11_2 := blk_frozen BK310.out 2; have hfz11_3 := blk_frozen BK310.out 3; have hfz11_4 := blk_frozen BK310.out 4; have hfz11_5 := blk_frozen BK310.out 5; have hfz11_6 := blk_frozen BK310.out 6; have hcz12_0 : w8.cell? ⟨gb308, 0, none⟩ = some (.int .u8 a0_0) := (blk_cell BK308.out 0).trans rfl; have hcz12_1 : w8.cell? ⟨gb308, 1, none⟩ = some (.int .i64 a0_1) := (blk_cell BK308.out 1).trans rfl; have hcz12_2 : w8.cell? ⟨gb308, 2, none⟩ = some (.string a0_2) := (blk_cell BK308.out 2).trans rfl; have hcz12_3 : w8.cell? ⟨gb308, 3, none⟩ = some (.string a0_3) := (blk_cell BK308.out 3).trans rfl; have hcz12_4 : w8.cell? ⟨gb308, 4, none⟩ = some (.string a0_4) := (blk_cell BK308.out 4).trans rfl; have hcz12_5 : w8.cell? ⟨gb308, 5, none⟩ = some (.int .i64 a0_5) := (blk_cell BK308.out 5).trans rfl; have hcz12_6 : w8.cell? ⟨gb308, 6, none⟩ = some (.int .u8 a0_6) := (blk_cell BK308.out 6).trans rfl; have hfz12_0 := blk_frozen BK308.out 0; have hfz12_1 := blk_frozen BK308.out 1; have hfz12_2 := blk_frozen BK308.out 2; have hfz12_3 := blk_frozen BK308.out 3; have hfz12_4 := blk_frozen BK308.out 4; have hfz12_5 := blk_frozen BK308.out 5; have hfz12_6 := blk_frozen BK308.out 6) | ((with_reducible refine gate_callee (f := 19) rfl ?_); refine goesL_ (some 9) rfl rfl Tryz.func19 (by kernel_rfl) rfl #[.int .u8 a0_0] rfl (by (try simp only [List.map_toArray, List.map_cons, List.map_nil]); first | done | rfl | (simp only [List.length_drop, List.length_take]; rfl)) ?_; (with_reducible refine (call_Needs.calls a0_0 t311 _ A2.out).mono ?_); rintro e w' ⟨rfl, ⟨nd, rfl⟩⟩; refine ⟨_, rfl, ?_⟩))
  (try simp only [Act.put, List.setIfInBounds_toArray, List.set_cons_zero, List.set_cons_succ])
  go_cut [] (fun wc => ∃ (kq : Nat) (x311001_2 : Int), Aside0 (call_Clean.j0 kq a0_0 a0_1 a0_2 a0_3 a0_4 a0_5 a0_6 a0_0 x311001_2 (⟨#[]⟩ : ByteArray) (⟨#[]⟩ : ByteArray) (⟨#[]⟩ : ByteArray) 0 0 = some (r1, r2, r3, r4, r5, r6, r7)) ∧ Aside0 (kq ≤ k) ∧ Aside0 (wc.heap[gb308]? = some (.cells #[.int .u8 a0_0, .int .i64 a0_1, .string a0_2, .string a0_3, .string a0_4, .int .i64 a0_5, .int .u8 a0_6] 38 (0, 0))) ∧ Aside0 (wc.heap[gb309]? = some (.cells #[.int .u8 0, .int .i64 0, .string (⟨#[]⟩ : ByteArray), .string (⟨#[]⟩ : ByteArray), .string (⟨#[]⟩ : ByteArray), .int .i64 0, .int .u8 0] 38 (0, 0))) ∧ Aside0 (wc.heap[gb310]? = some (.cells #[.int .u8 a0_0, .int .i64 x311001_2, .string (⟨#[]⟩ : ByteArray), .string (⟨#[]⟩ : ByteArray), .string (⟨#[]⟩ : ByteArray), .int .i64 0, .int .u8 0] 38 (0, 0))) ∧ Aside0 (Below w.heap.size w wc))
  case first =>
    have H := HC3.out
    clear HC3
    by_cases c13 : t311 = true
    · subst c13
      have H1 : (call_Clean.j0 k a0_0 a0_1 a0_2 a0_3 a0_4 a0_5 a0_6 a0_0 a0_1 (⟨#[]⟩ : ByteArray) (⟨#[]⟩ : ByteArray) (⟨#[]⟩ : ByteArray) 0 0) = some (r1, r2, r3, r4, r5, r6, r7) := by rw [if_pos rfl] at H; exact H
      clear H
      have H := H1
      clear H1
      have H' := Aside0.mk H
      clear H
      have hnb14 := NB308_309.out
      have hnc14 := NB309_308.out
      have hnb15 := NB308_310.out
      have hnc15 := NB310_308.out
      have hcz16_0 : w8.cell? ⟨gb308, 0, none⟩ = some (.int .u8 a0_0) := (blk_cell BK308.out 0).trans rfl
      have hcz16_1 : w8.cell? ⟨gb308, 1, none⟩ = some (.int .i64 a0_1) := (blk_cell BK308.out 1).trans rfl
      have hcz16_2 : w8.cell? ⟨gb308, 2, none⟩ = some (.string a0_2) := (blk_cell BK308.out 2).trans rfl
      have hcz16_3 : w8.cell? ⟨gb308, 3, none⟩ = some (.string a0_3) := (blk_cell BK308.out 3).trans rfl
      have hcz16_4 : w8.cell? ⟨gb308, 4, none⟩ = some (.string a0_4) := (blk_cell BK308.out 4).trans rfl
      have hcz16_5 : w8.cell? ⟨gb308, 5, none⟩ = some (.int .i64 a0_5) := (blk_cell BK308.out 5).trans rfl
      have hcz16_6 : w8.cell? ⟨gb308, 6, none⟩ = some (.int .u8 a0_6) := (blk_cell BK308.out 6).trans rfl
      have hfz16_0 := blk_frozen BK308.out 0
      have hfz16_1 := blk_frozen BK308.out 1
      have hfz16_2 := blk_frozen BK308.out 2
      have hfz16_3 := blk_frozen BK308.out 3
      have hfz16_4 := blk_frozen BK308.out 4
      have hfz16_5 := blk_frozen BK308.out 5
      have hfz16_6 := blk_frozen BK308.out 6
      have hnb17 := NB310_309.out
      have hnc17 := NB309_310.out
      have hcz18_0 : w8.cell? ⟨gb310, 0, none⟩ = some (.int .u8 0) := (blk_cell BK310.out 0).trans rfl
      have hcz18_1 : w8.cell? ⟨gb310, 1, none⟩ = some (.int .i64 0) := (blk_cell BK310.out 1).trans rfl
      have hcz18_2 : w8.cell? ⟨gb310, 2, none⟩ = some (.string (⟨#[]⟩ : ByteArray)) := (blk_cell BK310.out 2).trans rfl
      have hcz18_3 : w8.cell? ⟨gb310, 3, none⟩ = some (.string (⟨#[]⟩ : ByteArray)) := (blk_cell BK310.out 3).trans rfl
      have hcz18_4 : w8.cell? ⟨gb310, 4, none⟩ = some (.string (⟨#[]⟩ : ByteArray)) := (blk_cell BK310.out 4).trans rfl
      have hcz18_5 : w8.cell? ⟨gb310, 5, none⟩ = some (.int .i64 0) := (blk_cell BK310.out 5).trans rfl
      have hcz18_6 : w8.cell? ⟨gb310, 6, none⟩ = some (.int .u8 0) := (blk_cell BK310.out 6).trans rfl
      have hfz18_0 := blk_frozen BK310.out 0
      have hfz18_1 := blk_frozen BK310.out 1
      have hfz18_2 := blk_frozen BK310.out 2
      have hfz18_3 := blk_frozen BK310.out 3
      have hfz18_4 := blk_frozen BK310.out 4
      have hfz18_5 := blk_frozen BK310.out 5
      have hfz18_6 := blk_frozen BK310.out 6
      go_wp2
      go_meet
      case rel => exact ⟨_, (a0_1), H', ⟨by first | omega | exact Nat.le_refl _⟩, ⟨by (with_reducible repeat (first | refine blk_drewN ?_ _ | refine blk_drew ?_ | refine blk_alloc ?_ _)); refine blk_far ?_ NB308_310.out _; (with_reducible repeat (first | refine blk_drewN ?_ _ | refine blk_drew ?_ | refine blk_alloc ?_ _)); refine blk_far ?_ NB308_310.out _; (with_reducible repeat (first | refine blk_drewN ?_ _ | refine blk_drew ?_ | refine blk_alloc ?_ _)); refine blk_far ?_ NB308_310.out _; (with_reducible repeat (first | refine blk_drewN ?_ _ | refine blk_drew ?_ | refine blk_alloc ?_ _)); refine blk_far ?_ NB308_310.out _; (with_reducible repeat (first | refine blk_drewN ?_ _ | refine blk_drew ?_ | refine blk_alloc ?_ _)); refine blk_far ?_ NB308_310.out _; (with_reducible repeat (first | refine blk_drewN ?_ _ | refine blk_drew ?_ | refine blk_alloc ?_ _)); refine blk_far ?_ NB308_310.out _; (with_reducible repeat (first | refine blk_drewN ?_ _ | refine blk_drew ?_ | refine blk_alloc ?_ _)); refine blk_far ?_ NB308_310.out _; (with_reducible repeat (first | refine blk_drewN ?_ _ | refine blk_drew ?_ | refine blk_alloc ?_ _)); refine blk_far ?_ NB308_310.out _; (with_reducible repeat (first | refine blk_drewN ?_ _ | refine blk_drew ?_ | refine blk_alloc ?_ _)); exact BK308.out⟩, ⟨by (with_reducible repeat (first | refine blk_drewN ?_ _ | refine blk_drew ?_ | refine blk_alloc ?_ _)); refine blk_far ?_ NB309_310.out _; (with_reducible repeat (first | refine blk_drewN ?_ _ | refine blk_drew ?_ | refine blk_alloc ?_ _)); refine blk_far ?_ NB309_310.out _; (with_reducible repeat (first | refine blk_drewN ?_ _ | refine blk_drew ?_ | refine blk_alloc ?_ _)); refine blk_far ?_ NB309_310.out _; (with_reducible repeat (first | refine blk_drewN ?_ _ | refine blk_drew ?_ | refine blk_alloc ?_ _)); refine blk_far ?_ NB309_310.out _; (with_reducible repeat (first | refine blk_drewN ?_ _ | refine blk_drew ?_ | refine blk_alloc ?_ _)); refine blk_far ?_ NB309_310.out _; (with_reducible repeat (first | refine blk_drewN ?_ _ | refine blk_drew ?_ | refine blk_alloc ?_ _)); refine blk_far ?_ NB309_310.out _; (with_reducible repeat (first | refine blk_drewN ?_ _ | refine blk_drew ?_ | refine blk_alloc ?_ _)); refine blk_far ?_ NB309_310.out _; (with_reducible repeat (first | refine blk_drewN ?_ _ | refine blk_drew ?_ | refine blk_alloc ?_ _)); refine blk_far ?_ NB309_310.out _; (with_reducible repeat (first | refine blk_drewN ?_ _ | refine blk_drew ?_ | refine blk_alloc ?_ _)); exact BK309.out⟩, ⟨by (with_reducible repeat (first | refine blk_drewN ?_ _ | refine blk_drew ?_ | refine blk_alloc ?_ _)); refine blk_put (cs := #[.int .u8 a0_0, .int .i64 0, .string (⟨#[]⟩ : ByteArray), .string (⟨#[]⟩ : ByteArray), .string (⟨#[]⟩ : ByteArray), .int .i64 0, .int .u8 0]) ?_ 1 _ rfl; (with_reducible repeat (first | refine blk_drewN ?_ _ | refine blk_drew ?_ | refine blk_alloc ?_ _)); refine blk_put (cs := #[.int .u8 a0_0, .int .i64 0, .string (⟨#[]⟩ : ByteArray), .string (⟨#[]⟩ : ByteArray), .string (⟨#[]⟩ : ByteArray), .int .i64 0, .int .u8 0]) ?_ 6 _ rfl; (with_reducible repeat (first | refine blk_drewN ?_ _ | refine blk_drew ?_ | refine blk_alloc ?_ _)); refine blk_put (cs := #[.int .u8 a0_0, .int .i64 0, .string (⟨#[]⟩ : ByteArray), .string (⟨#[]⟩ : ByteArray), .string (⟨#[]⟩ : ByteArray), .int .i64 0, .int .u8 0]) ?_ 5 _ rfl; (with_reducible repeat (first | refine blk_drewN ?_ _ | refine blk_drew ?_ | refine blk_alloc ?_ _)); refine blk_put (cs := #[.int .u8 a0_0, .int .i64 0, .string (⟨#[]⟩ : ByteArray), .string (⟨#[]⟩ : ByteArray), .string (⟨#[]⟩ : ByteArray), .int .i64 0, .int .u8 0]) ?_ 4 _ rfl; (with_reducible repeat (first | refine blk_drewN ?_ _ | refine blk_drew ?_ | refine blk_alloc ?_ _)); refine blk_put (cs := #[.int .u8 a0_0, .int .i64 0, .string (⟨#[]⟩ : ByteArray), .string (⟨#[]⟩ : ByteArray), .string (⟨#[]⟩ : ByteArray), .int .i64 0, .int .u8 0]) ?_ 3 _ rfl; (with_reducible repeat (first | refine blk_drewN ?_ _ | refine blk_drew ?_ | refine blk_alloc ?_ _)); refine blk_put (cs := #[.int .u8 a0_0, .int .i64 0, .string (⟨#[]⟩ : ByteArray), .string (⟨#[]⟩ : ByteArray), .string (⟨#[]⟩ : ByteArray), .int .i64 0, .int .u8 0]) ?_ 2 _ rfl; (with_reducible repeat (first | refine blk_drewN ?_ _ | refine blk_drew ?_ | refine blk_alloc ?_ _)); refine blk_put (cs := #[.int .u8 a0_0, .int .i64 0, .string (⟨#[]⟩ : ByteArray), .string (⟨#[]⟩ : ByteArray), .string (⟨#[]⟩ : ByteArray), .int .i64 0, .int .u8 0]) ?_ 1 _ rfl; (with_reducible repeat (first | refine blk_drewN ?_ _ | refine blk_drew ?_ | refine blk_alloc ?_ _)); refine blk_put (cs := #[.int .u8 0, .int .i64 0, .string (⟨#[]⟩ : ByteArray), .string (⟨#[]⟩ : ByteArray), .string (⟨#[]⟩ : ByteArray), .int .i64 0, .int .u8 0]) ?_ 0 _ rfl; (with_reducible repeat (first | refine blk_drewN ?_ _ | refine blk_drew ?_ | refine blk_alloc ?_ _)); exact BK310.out⟩, ⟨by repeat (first | (with_reducible first | exact HB.out | apply below_alloc | apply pw_below_drewN | apply below_drew1 | refine below_set ?_ GE308.out | refine below_set ?_ GE309.out | refine below_set ?_ GE310.out) | exact HB.out)⟩⟩
    · replace c13 := Bool.eq_false_iff.mpr c13
      subst c13
      have H1 : (call_Clean.j0 k a0_0 a0_1 a0_2 a0_3 a0_4 a0_5 a0_6 a0_0 0 (⟨#[]⟩ : ByteArray) (⟨#[]⟩ : ByteArray) (⟨#[]⟩ : ByteArray) 0 0) = some (r1, r2, r3, r4, r5, r6, r7) := by rw [if_neg (show ¬ (false = true) by decide)] at H; exact H
      clear H
      have H := H1
      clear H1
      have H' := Aside0.mk H
      clear H
      go_wp2
      go_meet
      case rel => exact ⟨_, (0), H', ⟨by first | omega | exact Nat.le_refl _⟩, ⟨by (with_reducible repeat (first | refine blk_drewN ?_ _ | refine blk_drew ?_ | refine blk_alloc ?_ _)); refine blk_far ?_ NB308_310.out _; (with_reducible repeat (first | refine blk_drewN ?_ _ | refine blk_drew ?_ | refine blk_alloc ?_ _)); refine blk_far ?_ NB308_310.out _; (with_reducible repeat (first | refine blk_drewN ?_ _ | refine blk_drew ?_ | refine blk_alloc ?_ _)); refine blk_far ?_ NB308_310.out _; (with_reducible repeat (first | refine blk_drewN ?_ _ | refine blk_drew ?_ | refine blk_alloc ?_ _)); refine blk_far ?_ NB308_310.out _; (with_reducible repeat (first | refine blk_drewN ?_ _ | refine blk_drew ?_ | refine blk_alloc ?_ _)); refine blk_far ?_ NB308_310.out _; (with_reducible repeat (first | refine blk_drewN ?_ _ | refine blk_drew ?_ | refine blk_alloc ?_ _)); refine blk_far ?_ NB308_310.out _; (with_reducible repeat (first | refine blk_drewN ?_ _ | refine blk_drew ?_ | refine blk_alloc ?_ _)); refine blk_far ?_ NB308_310.out _; (with_reducible repeat (first | refine blk_drewN ?_ _ | refine blk_drew ?_ | refine blk_alloc ?_ _)); exact BK308.out⟩, ⟨by (with_reducible repeat (first | refine blk_drewN ?_ _ | refine blk_drew ?_ | refine blk_alloc ?_ _)); refine blk_far ?_ NB309_310.out _; (with_reducible repeat (first | refine blk_drewN ?_ _ | refine blk_drew ?_ | refine blk_alloc ?_ _)); refine blk_far ?_ NB309_310.out _; (with_reducible repeat (first | refine blk_drewN ?_ _ | refine blk_drew ?_ | refine blk_alloc ?_ _)); refine blk_far ?_ NB309_310.out _; (with_reducible repeat (first | refine blk_drewN ?_ _ | refine blk_drew ?_ | refine blk_alloc ?_ _)); refine blk_far ?_ NB309_310.out _; (with_reducible repeat (first | refine blk_drewN ?_ _ | refine blk_drew ?_ | refine blk_alloc ?_ _)); refine blk_far ?_ NB309_310.out _; (with_reducible repeat (first | refine blk_drewN ?_ _ | refine blk_drew ?_ | refine blk_alloc ?_ _)); refine blk_far ?_ NB309_310.out _; (with_reducible repeat (first | refine blk_drewN ?_ _ | refine blk_drew ?_ | refine blk_alloc ?_ _)); refine blk_far ?_ NB309_310.out _; (with_reducible repeat (first | refine blk_drewN ?_ _ | refine blk_drew ?_ | refine blk_alloc ?_ _)); exact BK309.out⟩, ⟨by (with_reducible repeat (first | refine blk_drewN ?_ _ | refine blk_drew ?_ | refine blk_alloc ?_ _)); refine blk_put (cs := #[.int .u8 a0_0, .int .i64 0, .string (⟨#[]⟩ : ByteArray), .string (⟨#[]⟩ : ByteArray), .string (⟨#[]⟩ : ByteArray), .int .i64 0, .int .u8 0]) ?_ 6 _ rfl; (with_reducible repeat (first | refine blk_drewN ?_ _ | refine blk_drew ?_ | refine blk_alloc ?_ _)); refine blk_put (cs := #[.int .u8 a0_0, .int .i64 0, .string (⟨#[]⟩ : ByteArray), .string (⟨#[]⟩ : ByteArray), .string (⟨#[]⟩ : ByteArray), .int .i64 0, .int .u8 0]) ?_ 5 _ rfl; (with_reducible repeat (first | refine blk_drewN ?_ _ | refine blk_drew ?_ | refine blk_alloc ?_ _)); refine blk_put (cs := #[.int .u8 a0_0, .int .i64 0, .string (⟨#[]⟩ : ByteArray), .string (⟨#[]⟩ : ByteArray), .string (⟨#[]⟩ : ByteArray), .int .i64 0, .int .u8 0]) ?_ 4 _ rfl; (with_reducible repeat (first | refine blk_drewN ?_ _ | refine blk_drew ?_ | refine blk_alloc ?_ _)); refine blk_put (cs := #[.int .u8 a0_0, .int .i64 0, .string (⟨#[]⟩ : ByteArray), .string (⟨#[]⟩ : ByteArray), .string (⟨#[]⟩ : ByteArray), .int .i64 0, .int .u8 0]) ?_ 3 _ rfl; (with_reducible repeat (first | refine blk_drewN ?_ _ | refine blk_drew ?_ | refine blk_alloc ?_ _)); refine blk_put (cs := #[.int .u8 a0_0, .int .i64 0, .string (⟨#[]⟩ : ByteArray), .string (⟨#[]⟩ : ByteArray), .string (⟨#[]⟩ : ByteArray), .int .i64 0, .int .u8 0]) ?_ 2 _ rfl; (with_reducible repeat (first | refine blk_drewN ?_ _ | refine blk_drew ?_ | refine blk_alloc ?_ _)); refine blk_put (cs := #[.int .u8 a0_0, .int .i64 0, .string (⟨#[]⟩ : ByteArray), .string (⟨#[]⟩ : ByteArray), .string (⟨#[]⟩ : ByteArray), .int .i64 0, .int .u8 0]) ?_ 1 _ rfl; (with_reducible repeat (first | refine blk_drewN ?_ _ | refine blk_drew ?_ | refine blk_alloc ?_ _)); refine blk_put (cs := #[.int .u8 0, .int .i64 0, .string (⟨#[]⟩ : ByteArray), .string (⟨#[]⟩ : ByteArray), .string (⟨#[]⟩ : ByteArray), .int .i64 0, .int .u8 0]) ?_ 0 _ rfl; (with_reducible repeat (first | refine blk_drewN ?_ _ | refine blk_drew ?_ | refine blk_alloc ?_ _)); exact BK310.out⟩, ⟨by repeat (first | (with_reducible first | exact HB.out | apply below_alloc | apply pw_below_drewN | apply below_drew1 | refine below_set ?_ GE308.out | refine below_set ?_ GE309.out | refine below_set ?_ GE310.out) | exact HB.out)⟩⟩
  case rest =>
    clear HC3
    try clear c1
    try clear c2
    try clear p2
    try clear c6
    try clear c9
    try clear c10
    try clear c13
    try clear c14
    try clear c15
    try clear c17
    try clear hcz11_0
    try clear hcz11_1
    try clear hcz11_2
    try clear hcz11_3
    try clear hcz11_4
    try clear hcz11_5
    try clear hcz11_6
    try clear hcz12_0
    try clear hcz12_1
    try clear hcz12_2
    try clear hcz12_3
    try clear hcz12_4
    try clear hcz12_5
    try clear hcz12_6
    try clear hcz16_0
    try clear hcz16_1
    try clear hcz16_2
    try clear hcz16_3
    try clear hcz16_4
    try clear hcz16_5
    try clear hcz16_6
    try clear hcz18_0
    try clear hcz18_1
    try clear hcz18_2
    try clear hcz18_3
    try clear hcz18_4
    try clear hcz18_5
    try clear hcz18_6
    try clear hcz7_0
    try clear hcz7_1
    try clear hcz7_2
    try clear hcz7_3
    try clear hcz7_4
    try clear hcz7_5
    try clear hcz7_6
    try clear hfz11_0
    try clear hfz11_1
    try clear hfz11_2
    try clear hfz11_3
    try clear hfz11_4
    try clear hfz11_5
    try clear hfz11_6
    try clear hfz12_0
    try clear hfz12_1
    try clear hfz12_2
    try clear hfz12_3
    try clear hfz12_4
    try clear hfz12_5
    try clear hfz12_6
    try clear hfz16_0
    try clear hfz16_1
    try clear hfz16_2
    try clear hfz16_3
    try clear hfz16_4
    try clear hfz16_5
    try clear hfz16_6
    try clear hfz18_0
    try clear hfz18_1
    try clear hfz18_2
    try clear hfz18_3
    try clear hfz18_4
    try clear hfz18_5
    try clear hfz18_6
    try clear hfz7_0
    try clear hfz7_1
    try clear hfz7_2
    try clear hfz7_3
    try clear hfz7_4
    try clear hfz7_5
    try clear hfz7_6
    obtain ⟨kq, x311001_2, HA, HJ2, BK308, BK309, BK310, HB⟩ := hcut
    cases kq with
    | zero => exact absurd HA.out (by simp [call_Clean.j0])
    | succ kj2 =>
      have H := HA.out
      clear HA
      simp only [call_Clean.j0] at H
      replace H := Option.bind_eq_some_iff.mp H
      obtain ⟨t312, A190, H⟩ := H
      replace H : (if t312 = true then (call_Clean.j1 kj2 a0_0 a0_1 a0_2 a0_3 a0_4 a0_5 a0_6 a0_0 x311001_2 a0_2 (⟨#[]⟩ : ByteArray) (⟨#[]⟩ : ByteArray) 0 0) else (call_Clean.j1 kj2 a0_0 a0_1 a0_2 a0_3 a0_4 a0_5 a0_6 a0_0 x311001_2 (⟨#[]⟩ : ByteArray) (⟨#[]⟩ : ByteArray) (⟨#[]⟩ : ByteArray) 0 0)) = some (r1, r2, r3, r4, r5, r6, r7) := H
      have A19 := Aside0.mk A190
      clear A190
      have HC20 := Aside0.mk H
      clear H
      have hnb21 := NB308_309.out
      have hnc21 := NB309_308.out
      have hnb22 := NB308_310.out
      have hnc22 := NB310_308.out
      have hcz23_0 : wc.cell? ⟨gb308, 0, none⟩ = some (.int .u8 a0_0) := (blk_cell BK308.out 0).trans rfl
      have hcz23_1 : wc.cell? ⟨gb308, 1, none⟩ = some (.int .i64 a0_1) := (blk_cell BK308.out 1).trans rfl
      have hcz23_2 : wc.cell? ⟨gb308, 2, none⟩ = some (.string a0_2) := (blk_cell BK308.out 2).trans rfl
      have hcz23_3 : wc.cell? ⟨gb308, 3, none⟩ = some (.string a0_3) := (blk_cell BK308.out 3).trans rfl
      have hcz23_4 : wc.cell? ⟨gb308, 4, none⟩ = some (.string a0_4) := (blk_cell BK308.out 4).trans rfl
      have hcz23_5 : wc.cell? ⟨gb308, 5, none⟩ = some (.int .i64 a0_5) := (blk_cell BK308.out 5).trans rfl
      have hcz23_6 : wc.cell? ⟨gb308, 6, none⟩ = some (.int .u8 a0_6) := (blk_cell BK308.out 6).trans rfl
      have hfz23_0 := blk_frozen BK308.out 0
      have hfz23_1 := blk_frozen BK308.out 1
      have hfz23_2 := blk_frozen BK308.out 2
      have hfz23_3 := blk_frozen BK308.out 3
      have hfz23_4 := blk_frozen BK308.out 4
      have hfz23_5 := blk_frozen BK308.out 5
      have hfz23_6 := blk_frozen BK308.out 6
      go_upto_if 15 with (first | ((with_reducible refine gate_callee (f := 52) rfl ?_); refine goesL_ (some 15) rfl rfl Tryz.func52 (by kernel_rfl) rfl #[.int .u8 a0_0] rfl (by (try simp only [List.map_toArray, List.map_cons, List.map_nil]); first | done | rfl | (simp only [List.length_drop, List.length_take]; rfl)) ?_; (with_reducible refine (call_keyed.calls a0_0 t312 _ A19.out).mono ?_); rintro e w' ⟨rfl, ⟨nd, rfl⟩⟩; refine ⟨_, rfl, ?_⟩))
      (try simp only [Act.put, List.setIfInBounds_toArray, List.set_cons_zero, List.set_cons_succ])
      go_cut [] (fun wc => ∃ (kq : Nat) (x311002_19 : ByteArray), Aside0 (call_Clean.j1 kq a0_0 a0_1 a0_2 a0_3 a0_4 a0_5 a0_6 a0_0 x311001_2 x311002_19 (⟨#[]⟩ : ByteArray) (⟨#[]⟩ : ByteArray) 0 0 = some (r1, r2, r3, r4, r5, r6, r7)) ∧ Aside0 (kq ≤ kj2) ∧ Aside0 (wc.heap[gb308]? = some (.cells #[.int .u8 a0_0, .int .i64 a0_1, .string a0_2, .string a0_3, .string a0_4, .int .i64 a0_5, .int .u8 a0_6] 38 (0, 0))) ∧ Aside0 (wc.heap[gb309]? = some (.cells #[.int .u8 0, .int .i64 0, .string (⟨#[]⟩ : ByteArray), .string (⟨#[]⟩ : ByteArray), .string (⟨#[]⟩ : ByteArray), .int .i64 0, .int .u8 0] 38 (0, 0))) ∧ Aside0 (wc.heap[gb310]? = some (.cells #[.int .u8 a0_0, .int .i64 x311001_2, .string x311002_19, .string (⟨#[]⟩ : ByteArray), .string (⟨#[]⟩ : ByteArray), .int .i64 0, .int .u8 0] 38 (0, 0))) ∧ Aside0 (Below w.heap.size w wc))
      case first =>
        have H := HC20.out
        clear HC20
        by_cases c24 : t312 = true
        · subst c24
          have H1 : (call_Clean.j1 kj2 a0_0 a0_1 a0_2 a0_3 a0_4 a0_5 a0_6 a0_0 x311001_2 a0_2 (⟨#[]⟩ : ByteArray) (⟨#[]⟩ : ByteArray) 0 0) = some (r1, r2, r3, r4, r5, r6, r7) := by rw [if_pos rfl] at H; exact H
          clear H
          have H := H1
          clear H1
          have H' := Aside0.mk H
          clear H
          have hnb25 := NB308_309.out
          have hnc25 := NB309_308.out
          have hnb26 := NB308_310.out
          have hnc26 := NB310_308.out
          have hcz27_0 : wc.cell? ⟨gb308, 0, none⟩ = some (.int .u8 a0_0) := (blk_cell BK308.out 0).trans rfl
          have hcz27_1 : wc.cell? ⟨gb308, 1, none⟩ = some (.int .i64 a0_1) := (blk_cell BK308.out 1).trans rfl
          have hcz27_2 : wc.cell? ⟨gb308, 2, none⟩ = some (.string a0_2) := (blk_cell BK308.out 2).trans rfl
          have hcz27_3 : wc.cell? ⟨gb308, 3, none⟩ = some (.string a0_3) := (blk_cell BK308.out 3).trans rfl
          have hcz27_4 : wc.cell? ⟨gb308, 4, none⟩ = some (.string a0_4) := (blk_cell BK308.out 4).trans rfl
          have hcz27_5 : wc.cell? ⟨gb308, 5, none⟩ = some (.int .i64 a0_5) := (blk_cell BK308.out 5).trans rfl
          have hcz27_6 : wc.cell? ⟨gb308, 6, none⟩ = some (.int .u8 a0_6) := (blk_cell BK308.out 6).trans rfl
          have hfz27_0 := blk_frozen BK308.out 0
          have hfz27_1 := blk_frozen BK308.out 1
          have hfz27_2 := blk_frozen BK308.out 2
          have hfz27_3 := blk_frozen BK308.out 3
          have hfz27_4 := blk_frozen BK308.out 4
          have hfz27_5 := blk_frozen BK308.out 5
          have hfz27_6 := blk_frozen BK308.out 6
          have hnb28 := NB310_309.out
          have hnc28 := NB309_310.out
          have hcz29_0 : wc.cell? ⟨gb310, 0, none⟩ = some (.int .u8 a0_0) := (blk_cell BK310.out 0).trans rfl
          have hcz29_1 : wc.cell? ⟨gb310, 1, none⟩ = some (.int .i64 x311001_2) := (blk_cell BK310.out 1).trans rfl
          have hcz29_2 : wc.cell? ⟨gb310, 2, none⟩ = some (.string (⟨#[]⟩ : ByteArray)) := (blk_cell BK310.out 2).trans rfl
          have hcz29_3 : wc.cell? ⟨gb310, 3, none⟩ = some (.string (⟨#[]⟩ : ByteArray)) := (blk_cell BK310.out 3).trans rfl
          have hcz29_4 : wc.cell? ⟨gb310, 4, none⟩ = some (.string (⟨#[]⟩ : ByteArray)) := (blk_cell BK310.out 4).trans rfl
          have hcz29_5 : wc.cell? ⟨gb310, 5, none⟩ = some (.int .i64 0) := (blk_cell BK310.out 5).trans rfl
          have hcz29_6 : wc.cell? ⟨gb310, 6, none⟩ = some (.int .u8 0) := (blk_cell BK310.out 6).trans rfl
          have hfz29_0 := blk_frozen BK310.out 0
          have hfz29_1 := blk_frozen BK310.out 1
          have hfz29_2 := blk_frozen BK310.out 2
          have hfz29_3 := blk_frozen BK310.out 3
          have hfz29_4 := blk_frozen BK310.out 4
          have hfz29_5 := blk_frozen BK310.out 5
          have hfz29_6 := blk_frozen BK310.out 6
          go_wp2
          go_meet
          case rel => exact ⟨_, (a0_2), H', ⟨by have := HJ2.out; first | omega | exact Nat.le_refl _⟩, ⟨by (with_reducible repeat (first | refine blk_drewN ?_ _ | refine blk_drew ?_ | refine blk_alloc ?_ _)); refine blk_far ?_ NB308_310.out _; (with_reducible repeat (first | refine blk_drewN ?_ _ | refine blk_drew ?_ | refine blk_alloc ?_ _)); exact BK308.out⟩, ⟨by (with_reducible repeat (first | refine blk_drewN ?_ _ | refine blk_drew ?_ | refine blk_alloc ?_ _)); refine blk_far ?_ NB309_310.out _; (with_reducible repeat (first | refine blk_drewN ?_ _ | refine blk_drew ?_ | refine blk_alloc ?_ _)); exact BK309.out⟩, ⟨by (with_reducible repeat (first | refine blk_drewN ?_ _ | refine blk_drew ?_ | refine blk_alloc ?_ _)); refine blk_put (cs := #[.int .u8 a0_0, .int .i64 x311001_2, .string (⟨#[]⟩ : ByteArray), .string (⟨#[]⟩ : ByteArray), .string (⟨#[]⟩ : ByteArray), .int .i64 0, .int .u8 0]) ?_ 2 _ rfl; (with_reducible repeat (first | refine blk_drewN ?_ _ | refine blk_drew ?_ | refine blk_alloc ?_ _)); exact BK310.out⟩, ⟨by repeat (first | (with_reducible first | exact HB.out | apply below_alloc | apply pw_below_drewN | apply below_drew1 | refine below_set ?_ GE308.out | refine below_set ?_ GE309.out | refine below_set ?_ GE310.out) | exact HB.out)⟩⟩
        · replace c24 := Bool.eq_false_iff.mpr c24
          subst c24
          have H1 : (call_Clean.j1 kj2 a0_0 a0_1 a0_2 a0_3 a0_4 a0_5 a0_6 a0_0 x311001_2 (⟨#[]⟩ : ByteArray) (⟨#[]⟩ : ByteArray) (⟨#[]⟩ : ByteArray) 0 0) = some (r1, r2, r3, r4, r5, r6, r7) := by rw [if_neg (show ¬ (false = true) by decide)] at H; exact H
          clear H
          have H := H1
          clear H1
          have H' := Aside0.mk H
          clear H
          go_wp2
          go_meet
          case rel => exact ⟨_, ((⟨#[]⟩ : ByteArray)), H', ⟨by have := HJ2.out; first | omega | exact Nat.le_refl _⟩, ⟨by (with_reducible repeat (first | refine blk_drewN ?_ _ | refine blk_drew ?_ | refine blk_alloc ?_ _)); exact BK308.out⟩, ⟨by (with_reducible repeat (first | refine blk_drewN ?_ _ | refine blk_drew ?_ | refine blk_alloc ?_ _)); exact BK309.out⟩, ⟨by (with_reducible repeat (first | refine blk_drewN ?_ _ | refine blk_drew ?_ | refine blk_alloc ?_ _)); exact BK310.out⟩, ⟨by repeat (first | (with_reducible first | exact HB.out | apply below_alloc | apply pw_below_drewN | apply below_drew1 | refine below_set ?_ GE308.out | refine below_set ?_ GE309.out | refine below_set ?_ GE310.out) | exact HB.out)⟩⟩
      case rest =>
        clear HC20
        try clear c1
        try clear c2
        try clear p2
        try clear c5
        try clear c6
        try clear c9
        try clear c10
        try clear c13
        try clear c14
        try clear c15
        try clear c17
        try clear c19
        try clear c21
        try clear c22
        try clear c24
        try clear c25
        try clear c26
        try clear c28
        try clear hcz11_0
        try clear hcz11_1
        try clear hcz11_2
        try clear hcz11_3
        try clear hcz11_4
        try clear hcz11_5
        try clear hcz11_6
        try clear hcz12_0
        try clear hcz12_1
        try clear hcz12_2
        try clear hcz12_3
        try clear hcz12_4
        try clear hcz12_5
        try clear hcz12_6
        try clear hcz16_0
        try clear hcz16_1
        try clear hcz16_2
        try clear hcz16_3
        try clear hcz16_4
        try clear hcz16_5
        try clear hcz16_6
        try clear hcz18_0
        try clear hcz18_1
        try clear hcz18_2
        try clear hcz18_3
        try clear hcz18_4
        try clear hcz18_5
        try clear hcz18_6
        try clear hcz23_0
        try clear hcz23_1
        try clear hcz23_2
        try clear hcz23_3
        try clear hcz23_4
        try clear hcz23_5
        try clear hcz23_6
        try clear hcz27_0
        try clear hcz27_1
        try clear hcz27_2
        try clear hcz27_3
        try clear hcz27_4
        try clear hcz27_5
        try clear hcz27_6
        try clear hcz29_0
        try clear hcz29_1
        try clear hcz29_2
        try clear hcz29_3
        try clear hcz29_4
        try clear hcz29_5
        try clear hcz29_6
        try clear hcz7_0
        try clear hcz7_1
        try clear hcz7_2
        try clear hcz7_3
        try clear hcz7_4
        try clear hcz7_5
        try clear hcz7_6
        try clear hfz11_0
        try clear hfz11_1
        try clear hfz11_2
        try clear hfz11_3
        try clear hfz11_4
        try clear hfz11_5
        try clear hfz11_6
        try clear hfz12_0
        try clear hfz12_1
        try clear hfz12_2
        try clear hfz12_3
        try clear hfz12_4
        try clear hfz12_5
        try clear hfz12_6
        try clear hfz16_0
        try clear hfz16_1
        try clear hfz16_2
        try clear hfz16_3
        try clear hfz16_4
        try clear hfz16_5
        try clear hfz16_6
        try clear hfz18_0
        try clear hfz18_1
        try clear hfz18_2
        try clear hfz18_3
        try clear hfz18_4
        try clear hfz18_5
        try clear hfz18_6
        try clear hfz23_0
        try clear hfz23_1
        try clear hfz23_2
        try clear hfz23_3
        try clear hfz23_4
        try clear hfz23_5
        try clear hfz23_6
        try clear hfz27_0
        try clear hfz27_1
        try clear hfz27_2
        try clear hfz27_3
        try clear hfz27_4
        try clear hfz27_5
        try clear hfz27_6
        try clear hfz29_0
        try clear hfz29_1
        try clear hfz29_2
        try clear hfz29_3
        try clear hfz29_4
        try clear hfz29_5
        try clear hfz29_6
        try clear hfz7_0
        try clear hfz7_1
        try clear hfz7_2
        try clear hfz7_3
        try clear hfz7_4
        try clear hfz7_5
        try clear hfz7_6
        try clear p2
        obtain ⟨kq, x311002_19, HA, HJ19, BK308, BK309, BK310, HB⟩ := hcut
        cases kq with
        | zero => exact absurd HA.out (by simp [call_Clean.j1])
        | succ kj19 =>
          have H := HA.out
          clear HA
          simp only [call_Clean.j1] at H
          by_cases c30 : a0_0 = 3
          · rw [if_pos c30] at H
            have c30b0 : (a0_0 == 3) = true := beq_iff_eq.mpr c30
            have c30b1 : (a0_0 != 3) = false := bne_eq_false_iff_eq.mpr c30
            clear c30
            simp only [Option.some.injEq, Prod.mk.injEq] at H
            obtain ⟨rfl, rfl, rfl, rfl, rfl, rfl, rfl⟩ := H
            have hnb31 := NB308_309.out
            have hnc31 := NB309_308.out
            have hnb32 := NB308_310.out
            have hnc32 := NB310_308.out
            have hcz33_0 : wc.cell? ⟨gb308, 0, none⟩ = some (.int .u8 a0_0) := (blk_cell BK308.out 0).trans rfl
            have hcz33_1 : wc.cell? ⟨gb308, 1, none⟩ = some (.int .i64 a0_1) := (blk_cell BK308.out 1).trans rfl
            have hcz33_2 : wc.cell? ⟨gb308, 2, none⟩ = some (.string a0_2) := (blk_cell BK308.out 2).trans rfl
            have hcz33_3 : wc.cell? ⟨gb308, 3, none⟩ = some (.string a0_3) := (blk_cell BK308.out 3).trans rfl
            have hcz33_4 : wc.cell? ⟨gb308, 4, none⟩ = some (.string a0_4) := (blk_cell BK308.out 4).trans rfl
            have hcz33_5 : wc.cell? ⟨gb308, 5, none⟩ = some (.int .i64 a0_5) := (blk_cell BK308.out 5).trans rfl
            have hcz33_6 : wc.cell? ⟨gb308, 6, none⟩ = some (.int .u8 a0_6) := (blk_cell BK308.out 6).trans rfl
            have hfz33_0 := blk_frozen BK308.out 0
            have hfz33_1 := blk_frozen BK308.out 1
            have hfz33_2 := blk_frozen BK308.out 2
            have hfz33_3 := blk_frozen BK308.out 3
            have hfz33_4 := blk_frozen BK308.out 4
            have hfz33_5 := blk_frozen BK308.out 5
            have hfz33_6 := blk_frozen BK308.out 6
            have hnb34 := NB310_309.out
            have hnc34 := NB309_310.out
            have hcz35_0 : wc.cell? ⟨gb310, 0, none⟩ = some (.int .u8 a0_0) := (blk_cell BK310.out 0).trans rfl
            have hcz35_1 : wc.cell? ⟨gb310, 1, none⟩ = some (.int .i64 x311001_2) := (blk_cell BK310.out 1).trans rfl
            have hcz35_2 : wc.cell? ⟨gb310, 2, none⟩ = some (.string x311002_19) := (blk_cell BK310.out 2).trans rfl
            have hcz35_3 : wc.cell? ⟨gb310, 3, none⟩ = some (.string (⟨#[]⟩ : ByteArray)) := (blk_cell BK310.out 3).trans rfl
            have hcz35_4 : wc.cell? ⟨gb310, 4, none⟩ = some (.string (⟨#[]⟩ : ByteArray)) := (blk_cell BK310.out 4).trans rfl
            have hcz35_5 : wc.cell? ⟨gb310, 5, none⟩ = some (.int .i64 0) := (blk_cell BK310.out 5).trans rfl
            have hcz35_6 : wc.cell? ⟨gb310, 6, none⟩ = some (.int .u8 0) := (blk_cell BK310.out 6).trans rfl
            have hfz35_0 := blk_frozen BK310.out 0
            have hfz35_1 := blk_frozen BK310.out 1
            have hfz35_2 := blk_frozen BK310.out 2
            have hfz35_3 := blk_frozen BK310.out 3
            have hfz35_4 := blk_frozen BK310.out 4
            have hfz35_5 := blk_frozen BK310.out 5
            have hfz35_6 := blk_frozen BK310.out 6
            have hcz36_0 : wc.cell? ⟨gb309, 0, none⟩ = some (.int .u8 0) := (blk_cell BK309.out 0).trans rfl
            have hcz36_1 : wc.cell? ⟨gb309, 1, none⟩ = some (.int .i64 0) := (blk_cell BK309.out 1).trans rfl
            have hcz36_2 : wc.cell? ⟨gb309, 2, none⟩ = some (.string (⟨#[]⟩ : ByteArray)) := (blk_cell BK309.out 2).trans rfl
            have hcz36_3 : wc.cell? ⟨gb309, 3, none⟩ = some (.string (⟨#[]⟩ : ByteArray)) := (blk_cell BK309.out 3).trans rfl
            have hcz36_4 : wc.cell? ⟨gb309, 4, none⟩ = some (.string (⟨#[]⟩ : ByteArray)) := (blk_cell BK309.out 4).trans rfl
            have hcz36_5 : wc.cell? ⟨gb309, 5, none⟩ = some (.int .i64 0) := (blk_cell BK309.out 5).trans rfl
            have hcz36_6 : wc.cell? ⟨gb309, 6, none⟩ = some (.int .u8 0) := (blk_cell BK309.out 6).trans rfl
            have hfz36_0 := blk_frozen BK309.out 0
            have hfz36_1 := blk_frozen BK309.out 1
            have hfz36_2 := blk_frozen BK309.out 2
            have hfz36_3 := blk_frozen BK309.out 3
            have hfz36_4 := blk_frozen BK309.out 4
            have hfz36_5 := blk_frozen BK309.out 5
            have hfz36_6 := blk_frozen BK309.out 6
            go_wp2
            refine bodyPost_ret (results_cell_row rfl _ _ gb309 38 #[.int .u8 a0_0, .int .i64 x311001_2, .string x311002_19, .string (⟨#[]⟩ : ByteArray), .string a0_4, .int .i64 0, .int .u8 0] (0, 0) _ rfl (by (with_reducible repeat (first | refine blk_drewN ?_ _ | refine blk_drew ?_ | refine blk_alloc ?_ _)); refine blk_put (cs := #[.int .u8 a0_0, .int .i64 x311001_2, .string x311002_19, .string (⟨#[]⟩ : ByteArray), .string a0_4, .int .i64 0, .int .u8 0]) ?_ 6 _ rfl; (with_reducible repeat (first | refine blk_drewN ?_ _ | refine blk_drew ?_ | refine blk_alloc ?_ _)); refine blk_put (cs := #[.int .u8 a0_0, .int .i64 x311001_2, .string x311002_19, .string (⟨#[]⟩ : ByteArray), .string a0_4, .int .i64 0, .int .u8 0]) ?_ 5 _ rfl; (with_reducible repeat (first | refine blk_drewN ?_ _ | refine blk_drew ?_ | refine blk_alloc ?_ _)); refine blk_put (cs := #[.int .u8 a0_0, .int .i64 x311001_2, .string x311002_19, .string (⟨#[]⟩ : ByteArray), .string (⟨#[]⟩ : ByteArray), .int .i64 0, .int .u8 0]) ?_ 4 _ rfl; (with_reducible repeat (first | refine blk_drewN ?_ _ | refine blk_drew ?_ | refine blk_alloc ?_ _)); refine blk_put (cs := #[.int .u8 a0_0, .int .i64 x311001_2, .string x311002_19, .string (⟨#[]⟩ : ByteArray), .string (⟨#[]⟩ : ByteArray), .int .i64 0, .int .u8 0]) ?_ 3 _ rfl; (with_reducible repeat (first | refine blk_drewN ?_ _ | refine blk_drew ?_ | refine blk_alloc ?_ _)); refine blk_put (cs := #[.int .u8 a0_0, .int .i64 x311001_2, .string (⟨#[]⟩ : ByteArray), .string (⟨#[]⟩ : ByteArray), .string (⟨#[]⟩ : ByteArray), .int .i64 0, .int .u8 0]) ?_ 2 _ rfl; (with_reducible repeat (first | refine blk_drewN ?_ _ | refine blk_drew ?_ | refine blk_alloc ?_ _)); refine blk_put (cs := #[.int .u8 a0_0, .int .i64 0, .string (⟨#[]⟩ : ByteArray), .string (⟨#[]⟩ : ByteArray), .string (⟨#[]⟩ : ByteArray), .int .i64 0, .int .u8 0]) ?_ 1 _ rfl; (with_reducible repeat (first | refine blk_drewN ?_ _ | refine blk_drew ?_ | refine blk_alloc ?_ _)); refine blk_put (cs := #[.int .u8 0, .int .i64 0, .string (⟨#[]⟩ : ByteArray), .string (⟨#[]⟩ : ByteArray), .string (⟨#[]⟩ : ByteArray), .int .i64 0, .int .u8 0]) ?_ 0 _ rfl; (with_reducible repeat (first | refine blk_drewN ?_ _ | refine blk_drew ?_ | refine blk_alloc ?_ _)); refine blk_far ?_ NB309_310.out _; (with_reducible repeat (first | refine blk_drewN ?_ _ | refine blk_drew ?_ | refine blk_alloc ?_ _)); exact BK309.out) Tryz.underlying38 rfl (by kernel_rfl)) rfl ?_
            exact ⟨by first | rfl | (simp [errW_none, errW_some] <;> rfl) | (simp [*, errW_none, errW_some] <;> rfl), by repeat (first | (with_reducible first | exact HB.out | apply below_alloc | apply pw_below_drewN | apply below_drew1 | refine below_set ?_ GE308.out | refine below_set ?_ GE309.out | refine below_set ?_ GE310.out) | exact HB.out)⟩
          · rw [if_neg c30] at H
            have c30b0 : (a0_0 == 3) = false := beq_eq_false_iff_ne.mpr c30
            have c30b1 : (a0_0 != 3) = true := bne_iff_ne.mpr c30
            by_cases c37 : a0_0 = 5
            · rw [if_pos c37] at H
              have c37b0 : (a0_0 == 5) = true := beq_iff_eq.mpr c37
              have c37b1 : (a0_0 != 5) = false := bne_eq_false_iff_eq.mpr c37
              clear c37
              simp only [Option.some.injEq, Prod.mk.injEq] at H
              obtain ⟨rfl, rfl, rfl, rfl, rfl, rfl, rfl⟩ := H
              have hnb38 := NB308_309.out
              have hnc38 := NB309_308.out
              have hnb39 := NB308_310.out
              have hnc39 := NB310_308.out
              have hcz40_0 : wc.cell? ⟨gb308, 0, none⟩ = some (.int .u8 a0_0) := (blk_cell BK308.out 0).trans rfl
              have hcz40_1 : wc.cell? ⟨gb308, 1, none⟩ = some (.int .i64 a0_1) := (blk_cell BK308.out 1).trans rfl
              have hcz40_2 : wc.cell? ⟨gb308, 2, none⟩ = some (.string a0_2) := (blk_cell BK308.out 2).trans rfl
              have hcz40_3 : wc.cell? ⟨gb308, 3, none⟩ = some (.string a0_3) := (blk_cell BK308.out 3).trans rfl
              have hcz40_4 : wc.cell? ⟨gb308, 4, none⟩ = some (.string a0_4) := (blk_cell BK308.out 4).trans rfl
              have hcz40_5 : wc.cell? ⟨gb308, 5, none⟩ = some (.int .i64 a0_5) := (blk_cell BK308.out 5).trans rfl
              have hcz40_6 : wc.cell? ⟨gb308, 6, none⟩ = some (.int .u8 a0_6) := (blk_cell BK308.out 6).trans rfl
              have hfz40_0 := blk_frozen BK308.out 0
              have hfz40_1 := blk_frozen BK308.out 1
              have hfz40_2 := blk_frozen BK308.out 2
              have hfz40_3 := blk_frozen BK308.out 3
              have hfz40_4 := blk_frozen BK308.out 4
              have hfz40_5 := blk_frozen BK308.out 5
              have hfz40_6 := blk_frozen BK308.out 6
              try go_wp2
              have n0_ := Aside0.mk (blk_drew BK308.out)
              have n1_ := Aside0.mk (blk_drew BK309.out)
              have n2_ := Aside0.mk (blk_drew BK310.out)
              have n3_ := Aside0.mk (below_drew1 HB.out)
              clear BK308
              clear BK309
              clear BK310
              clear HB
              have BK308 := n0_
              have BK309 := n1_
              have BK310 := n2_
              have HB := n3_
              clear n0_ n1_ n2_ n3_
              refine start_ (n := 8) (S := fun w' => w'.cell? ⟨gb308, 0, none⟩ = some (.int .u8 a0_0) ∧ w'.cell? ⟨gb308, 1, none⟩ = some (.int .i64 a0_1) ∧ w'.cell? ⟨gb308, 2, none⟩ = some (.string a0_2) ∧ w'.cell? ⟨gb308, 3, none⟩ = some (.string a0_3) ∧ w'.cell? ⟨gb308, 4, none⟩ = some (.string a0_4) ∧ w'.cell? ⟨gb308, 5, none⟩ = some (.int .i64 a0_5) ∧ w'.cell? ⟨gb308, 6, none⟩ = some (.int .u8 a0_6)) (ds := []) #[false, false, false, false, false, false, false, false] (by kernel_rfl) rfl rfl ⟨(blk_cell BK308.out 0).trans rfl, (blk_cell BK308.out 1).trans rfl, (blk_cell BK308.out 2).trans rfl, (blk_cell BK308.out 3).trans rfl, (blk_cell BK308.out 4).trans rfl, (blk_cell BK308.out 5).trans rfl, (blk_cell BK308.out 6).trans rfl⟩ (fun hHeld => ?_); refine with_tabW call_Clean.tab10 call_Clean.bits10 (fun HT_ HW_ => ?_)
              generalize wc.drew = w41 at BK308 BK309 BK310 HB hHeld ⊢
              refine pure_ (i := 0) (N := some 28) (v := ?_) (a' := ?_) #[true, false, false, false, false, false, false, false] rfl rfl (any_of HT_.out (by kernel_rfl)) (fun _ _ _ h => h) (Or.inl ⟨by rfl, ?_⟩) ?_ ?_
              rotate_left
              · intro w'
                go_simp
                with_reducible rfl
              rotate_left
              · simp only [Act.put, List.setIfInBounds_toArray, List.set_cons_zero, List.set_cons_succ, i64_w, i32_w]
                rfl
              refine pure_ (i := 2) (N := some 30) (v := ?_) (a' := ?_) #[true, false, true, false, false, false, false, false] rfl rfl (any_of HT_.out (by kernel_rfl)) (fun _ _ _ h => h) (Or.inl ⟨by rfl, ?_⟩) ?_ ?_
              rotate_left
              · intro w'
                go_simp
                with_reducible rfl
              rotate_left
              · simp only [Act.put, List.setIfInBounds_toArray, List.set_cons_zero, List.set_cons_succ, i64_w, i32_w]
                rfl
              refine take_ (i := 1) (N := some 29) (v := ?_) (a' := ?_) #[true, true, true, false, false, false, false, false] rfl rfl (take_ofW HT_.out HW_.out (by kernel_rfl)) (fun _ _ _ h => h) (Or.inl ⟨by rfl, ?_⟩) hHeld ?_ ?_
              rotate_left
              · rintro w' ⟨s0, s1, s2, s3, s4, s5, s6⟩
                go_simp
                with_reducible rfl
              rotate_left
              · simp only [Act.put, List.setIfInBounds_toArray, List.set_cons_zero, List.set_cons_succ, i64_w, i32_w]
                rfl
              refine pure_ (i := 4) (N := some 32) (v := ?_) (a' := ?_) #[true, true, true, false, true, false, false, false] rfl rfl (any_of HT_.out (by kernel_rfl)) (fun _ _ _ h => h) (Or.inl ⟨by rfl, ?_⟩) ?_ ?_
              rotate_left
              · intro w'
                go_simp
                with_reducible rfl
              rotate_left
              · simp only [Act.put, List.setIfInBounds_toArray, List.set_cons_zero, List.set_cons_succ, i64_w, i32_w]
                rfl
              refine take_ (i := 3) (N := some 31) (v := ?_) (a' := ?_) #[true, true, true, true, true, false, false, false] rfl rfl (take_ofW HT_.out HW_.out (by kernel_rfl)) (fun _ _ _ h => h) (Or.inl ⟨by rfl, ?_⟩) hHeld ?_ ?_
              rotate_left
              · rintro w' ⟨s0, s1, s2, s3, s4, s5, s6⟩
                go_simp
                with_reducible rfl
              rotate_left
              · simp only [Act.put, List.setIfInBounds_toArray, List.set_cons_zero, List.set_cons_succ, i64_w, i32_w]
                rfl
              refine one_ (i := 5) (N := none) #[true, true, true, true, true, true, false, false] rfl rfl (one_of HT_.out (by kernel_rfl)) (by decide) (fun K hK => ?_)
              have hs42 : w41.cell? ⟨gb310, 3, none⟩ = some (.string (⟨#[]⟩ : ByteArray)) := (blk_cell BK310.out 3).trans rfl
              have hfs42 := blk_frozen BK310.out 3
              have hns42_0 := NB308_310.out
              have hns42_1 := NB309_310.out
              have hms42_0 := NB310_308.out
              have hms42_1 := NB310_309.out
              refine skip_ (w1 := ?_) (by rfl) rfl ?_ ?_
              rotate_left
              · go_simp
                rfl
              refine hK.out _ _ ⟨((cell_far (p := ⟨gb310, _, none⟩) NB308_310.out _).trans (hHeld.1)), ((cell_far (p := ⟨gb310, _, none⟩) NB308_310.out _).trans (hHeld.2.1)), ((cell_far (p := ⟨gb310, _, none⟩) NB308_310.out _).trans (hHeld.2.2.1)), ((cell_far (p := ⟨gb310, _, none⟩) NB308_310.out _).trans (hHeld.2.2.2.1)), ((cell_far (p := ⟨gb310, _, none⟩) NB308_310.out _).trans (hHeld.2.2.2.2.1)), ((cell_far (p := ⟨gb310, _, none⟩) NB308_310.out _).trans (hHeld.2.2.2.2.2.1)), ((cell_far (p := ⟨gb310, _, none⟩) NB308_310.out _).trans (hHeld.2.2.2.2.2.2))⟩ (fun hHeld => ?_)
              clear hK K
              refine pure_ (i := 6) (N := some 33) (v := ?_) (a' := ?_) #[true, true, true, true, true, true, true, false] rfl rfl (any_of HT_.out (by kernel_rfl)) (fun _ _ _ h => h) (Or.inl ⟨by rfl, ?_⟩) ?_ ?_
              rotate_left
              · intro w'
                go_simp
                with_reducible rfl
              rotate_left
              · simp only [Act.put, List.setIfInBounds_toArray, List.set_cons_zero, List.set_cons_succ, i64_w, i32_w]
                rfl
              refine one_ (i := 7) (N := none) #[true, true, true, true, true, true, true, true] rfl rfl (one_of HT_.out (by kernel_rfl)) (by decide) (fun K hK => ?_)
              have hs43 : w41.cell? ⟨gb310, 5, none⟩ = some (.int .i64 0) := (blk_cell BK310.out 5).trans rfl
              have hfs43 := blk_frozen BK310.out 5
              have hns43_0 := NB308_310.out
              have hns43_1 := NB309_310.out
              have hms43_0 := NB310_308.out
              have hms43_1 := NB310_309.out
              refine skip_ (w1 := ?_) (by rfl) rfl ?_ ?_
              rotate_left
              · go_simp
                rfl
              refine hK.out _ _ ⟨((cell_far (p := ⟨gb310, _, none⟩) NB308_310.out _).trans (hHeld.1)), ((cell_far (p := ⟨gb310, _, none⟩) NB308_310.out _).trans (hHeld.2.1)), ((cell_far (p := ⟨gb310, _, none⟩) NB308_310.out _).trans (hHeld.2.2.1)), ((cell_far (p := ⟨gb310, _, none⟩) NB308_310.out _).trans (hHeld.2.2.2.1)), ((cell_far (p := ⟨gb310, _, none⟩) NB308_310.out _).trans (hHeld.2.2.2.2.1)), ((cell_far (p := ⟨gb310, _, none⟩) NB308_310.out _).trans (hHeld.2.2.2.2.2.1)), ((cell_far (p := ⟨gb310, _, none⟩) NB308_310.out _).trans (hHeld.2.2.2.2.2.2))⟩ (fun hHeld => ?_)
              clear hK K
              refine done_ (done_of HT_.out (by kernel_rfl)) ?_
              have hnb44 := NB310_309.out
              have hnc44 := NB309_310.out
              have hcz45_0 : w41.cell? ⟨gb310, 0, none⟩ = some (.int .u8 a0_0) := (blk_cell BK310.out 0).trans rfl
              have hcz45_1 : w41.cell? ⟨gb310, 1, none⟩ = some (.int .i64 x311001_2) := (blk_cell BK310.out 1).trans rfl
              have hcz45_2 : w41.cell? ⟨gb310, 2, none⟩ = some (.string x311002_19) := (blk_cell BK310.out 2).trans rfl
              have hcz45_3 : w41.cell? ⟨gb310, 3, none⟩ = some (.string (⟨#[]⟩ : ByteArray)) := (blk_cell BK310.out 3).trans rfl
              have hcz45_4 : w41.cell? ⟨gb310, 4, none⟩ = some (.string (⟨#[]⟩ : ByteArray)) := (blk_cell BK310.out 4).trans rfl
              have hcz45_5 : w41.cell? ⟨gb310, 5, none⟩ = some (.int .i64 0) := (blk_cell BK310.out 5).trans rfl
              have hcz45_6 : w41.cell? ⟨gb310, 6, none⟩ = some (.int .u8 0) := (blk_cell BK310.out 6).trans rfl
              have hfz45_0 := blk_frozen BK310.out 0
              have hfz45_1 := blk_frozen BK310.out 1
              have hfz45_2 := blk_frozen BK310.out 2
              have hfz45_3 := blk_frozen BK310.out 3
              have hfz45_4 := blk_frozen BK310.out 4
              have hfz45_5 := blk_frozen BK310.out 5
              have hfz45_6 := blk_frozen BK310.out 6
              have hcz46_0 : w41.cell? ⟨gb309, 0, none⟩ = some (.int .u8 0) := (blk_cell BK309.out 0).trans rfl
              have hcz46_1 : w41.cell? ⟨gb309, 1, none⟩ = some (.int .i64 0) := (blk_cell BK309.out 1).trans rfl
              have hcz46_2 : w41.cell? ⟨gb309, 2, none⟩ = some (.string (⟨#[]⟩ : ByteArray)) := (blk_cell BK309.out 2).trans rfl
              have hcz46_3 : w41.cell? ⟨gb309, 3, none⟩ = some (.string (⟨#[]⟩ : ByteArray)) := (blk_cell BK309.out 3).trans rfl
              have hcz46_4 : w41.cell? ⟨gb309, 4, none⟩ = some (.string (⟨#[]⟩ : ByteArray)) := (blk_cell BK309.out 4).trans rfl
              have hcz46_5 : w41.cell? ⟨gb309, 5, none⟩ = some (.int .i64 0) := (blk_cell BK309.out 5).trans rfl
              have hcz46_6 : w41.cell? ⟨gb309, 6, none⟩ = some (.int .u8 0) := (blk_cell BK309.out 6).trans rfl
              have hfz46_0 := blk_frozen BK309.out 0
              have hfz46_1 := blk_frozen BK309.out 1
              have hfz46_2 := blk_frozen BK309.out 2
              have hfz46_3 := blk_frozen BK309.out 3
              have hfz46_4 := blk_frozen BK309.out 4
              have hfz46_5 := blk_frozen BK309.out 5
              have hfz46_6 := blk_frozen BK309.out 6
              try go_wp2
              refine bodyPost_ret (results_cell_row rfl _ _ gb309 38 #[.int .u8 a0_0, .int .i64 x311001_2, .string x311002_19, .string a0_3, .string (⟨#[]⟩ : ByteArray), .int .i64 a0_5, .int .u8 0] (0, 0) _ rfl (by (with_reducible repeat (first | refine blk_drewN ?_ _ | refine blk_drew ?_ | refine blk_alloc ?_ _)); refine blk_put (cs := #[.int .u8 a0_0, .int .i64 x311001_2, .string x311002_19, .string a0_3, .string (⟨#[]⟩ : ByteArray), .int .i64 a0_5, .int .u8 0]) ?_ 6 _ rfl; (with_reducible repeat (first | refine blk_drewN ?_ _ | refine blk_drew ?_ | refine blk_alloc ?_ _)); refine blk_put (cs := #[.int .u8 a0_0, .int .i64 x311001_2, .string x311002_19, .string a0_3, .string (⟨#[]⟩ : ByteArray), .int .i64 0, .int .u8 0]) ?_ 5 _ rfl; (with_reducible repeat (first | refine blk_drewN ?_ _ | refine blk_drew ?_ | refine blk_alloc ?_ _)); refine blk_put (cs := #[.int .u8 a0_0, .int .i64 x311001_2, .string x311002_19, .string a0_3, .string (⟨#[]⟩ : ByteArray), .int .i64 0, .int .u8 0]) ?_ 4 _ rfl; (with_reducible repeat (first | refine blk_drewN ?_ _ | refine blk_drew ?_ | refine blk_alloc ?_ _)); refine blk_put (cs := #[.int .u8 a0_0, .int .i64 x311001_2, .string x311002_19, .string (⟨#[]⟩ : ByteArray), .string (⟨#[]⟩ : ByteArray), .int .i64 0, .int .u8 0]) ?_ 3 _ rfl; (with_reducible repeat (first | refine blk_drewN ?_ _ | refine blk_drew ?_ | refine blk_alloc ?_ _)); refine blk_put (cs := #[.int .u8 a0_0, .int .i64 x311001_2, .string (⟨#[]⟩ : ByteArray), .string (⟨#[]⟩ : ByteArray), .string (⟨#[]⟩ : ByteArray), .int .i64 0, .int .u8 0]) ?_ 2 _ rfl; (with_reducible repeat (first | refine blk_drewN ?_ _ | refine blk_drew ?_ | refine blk_alloc ?_ _)); refine blk_put (cs := #[.int .u8 a0_0, .int .i64 0, .string (⟨#[]⟩ : ByteArray), .string (⟨#[]⟩ : ByteArray), .string (⟨#[]⟩ : ByteArray), .int .i64 0, .int .u8 0]) ?_ 1 _ rfl; (with_reducible repeat (first | refine blk_drewN ?_ _ | refine blk_drew ?_ | refine blk_alloc ?_ _)); refine blk_put (cs := #[.int .u8 0, .int .i64 0, .string (⟨#[]⟩ : ByteArray), .string (⟨#[]⟩ : ByteArray), .string (⟨#[]⟩ : ByteArray), .int .i64 0, .int .u8 0]) ?_ 0 _ rfl; (with_reducible repeat (first | refine blk_drewN ?_ _ | refine blk_drew ?_ | refine blk_alloc ?_ _)); refine blk_far ?_ NB309_310.out _; (with_reducible repeat (first | refine blk_drewN ?_ _ | refine blk_drew ?_ | refine blk_alloc ?_ _)); refine blk_far ?_ NB309_310.out _; (with_reducible repeat (first | refine blk_drewN ?_ _ | refine blk_drew ?_ | refine blk_alloc ?_ _)); exact BK309.out) Tryz.underlying38 rfl (by kernel_rfl)) rfl ?_
              exact ⟨by first | rfl | (simp [errW_none, errW_some] <;> rfl) | (simp [*, errW_none, errW_some] <;> rfl), by repeat (first | (with_reducible first | exact HB.out | apply below_alloc | apply pw_below_drewN | apply below_drew1 | refine below_set ?_ GE308.out | refine below_set ?_ GE309.out | refine below_set ?_ GE310.out) | exact HB.out)⟩
            · rw [if_neg c37] at H
              have c37b0 : (a0_0 == 5) = false := beq_eq_false_iff_ne.mpr c37
              have c37b1 : (a0_0 != 5) = true := bne_iff_ne.mpr c37
              by_cases c47 : a0_0 = 9
              · rw [if_pos c47] at H
                have c47b0 : (a0_0 == 9) = true := beq_iff_eq.mpr c47
                have c47b1 : (a0_0 != 9) = false := bne_eq_false_iff_eq.mpr c47
                clear c47
                simp only [Option.some.injEq, Prod.mk.injEq] at H
                obtain ⟨rfl, rfl, rfl, rfl, rfl, rfl, rfl⟩ := H
                have hnb48 := NB308_309.out
                have hnc48 := NB309_308.out
                have hnb49 := NB308_310.out
                have hnc49 := NB310_308.out
                have hcz50_0 : wc.cell? ⟨gb308, 0, none⟩ = some (.int .u8 a0_0) := (blk_cell BK308.out 0).trans rfl
                have hcz50_1 : wc.cell? ⟨gb308, 1, none⟩ = some (.int .i64 a0_1) := (blk_cell BK308.out 1).trans rfl
                have hcz50_2 : wc.cell? ⟨gb308, 2, none⟩ = some (.string a0_2) := (blk_cell BK308.out 2).trans rfl
                have hcz50_3 : wc.cell? ⟨gb308, 3, none⟩ = some (.string a0_3) := (blk_cell BK308.out 3).trans rfl
                have hcz50_4 : wc.cell? ⟨gb308, 4, none⟩ = some (.string a0_4) := (blk_cell BK308.out 4).trans rfl
                have hcz50_5 : wc.cell? ⟨gb308, 5, none⟩ = some (.int .i64 a0_5) := (blk_cell BK308.out 5).trans rfl
                have hcz50_6 : wc.cell? ⟨gb308, 6, none⟩ = some (.int .u8 a0_6) := (blk_cell BK308.out 6).trans rfl
                have hfz50_0 := blk_frozen BK308.out 0
                have hfz50_1 := blk_frozen BK308.out 1
                have hfz50_2 := blk_frozen BK308.out 2
                have hfz50_3 := blk_frozen BK308.out 3
                have hfz50_4 := blk_frozen BK308.out 4
                have hfz50_5 := blk_frozen BK308.out 5
                have hfz50_6 := blk_frozen BK308.out 6
                have hnb51 := NB310_309.out
                have hnc51 := NB309_310.out
                have hcz52_0 : wc.cell? ⟨gb310, 0, none⟩ = some (.int .u8 a0_0) := (blk_cell BK310.out 0).trans rfl
                have hcz52_1 : wc.cell? ⟨gb310, 1, none⟩ = some (.int .i64 x311001_2) := (blk_cell BK310.out 1).trans rfl
                have hcz52_2 : wc.cell? ⟨gb310, 2, none⟩ = some (.string x311002_19) := (blk_cell BK310.out 2).trans rfl
                have hcz52_3 : wc.cell? ⟨gb310, 3, none⟩ = some (.string (⟨#[]⟩ : ByteArray)) := (blk_cell BK310.out 3).trans rfl
                have hcz52_4 : wc.cell? ⟨gb310, 4, none⟩ = some (.string (⟨#[]⟩ : ByteArray)) := (blk_cell BK310.out 4).trans rfl
                have hcz52_5 : wc.cell? ⟨gb310, 5, none⟩ = some (.int .i64 0) := (blk_cell BK310.out 5).trans rfl
                have hcz52_6 : wc.cell? ⟨gb310, 6, none⟩ = some (.int .u8 0) := (blk_cell BK310.out 6).trans rfl
                have hfz52_0 := blk_frozen BK310.out 0
                have hfz52_1 := blk_frozen BK310.out 1
                have hfz52_2 := blk_frozen BK310.out 2
                have hfz52_3 := blk_frozen BK310.out 3
                have hfz52_4 := blk_frozen BK310.out 4
                have hfz52_5 := blk_frozen BK310.out 5
                have hfz52_6 := blk_frozen BK310.out 6
                have hcz53_0 : wc.cell? ⟨gb309, 0, none⟩ = some (.int .u8 0) := (blk_cell BK309.out 0).trans rfl
                have hcz53_1 : wc.cell? ⟨gb309, 1, none⟩ = some (.int .i64 0) := (blk_cell BK309.out 1).trans rfl
                have hcz53_2 : wc.cell? ⟨gb309, 2, none⟩ = some (.string (⟨#[]⟩ : ByteArray)) := (blk_cell BK309.out 2).trans rfl
                have hcz53_3 : wc.cell? ⟨gb309, 3, none⟩ = some (.string (⟨#[]⟩ : ByteArray)) := (blk_cell BK309.out 3).trans rfl
                have hcz53_4 : wc.cell? ⟨gb309, 4, none⟩ = some (.string (⟨#[]⟩ : ByteArray)) := (blk_cell BK309.out 4).trans rfl
                have hcz53_5 : wc.cell? ⟨gb309, 5, none⟩ = some (.int .i64 0) := (blk_cell BK309.out 5).trans rfl
                have hcz53_6 : wc.cell? ⟨gb309, 6, none⟩ = some (.int .u8 0) := (blk_cell BK309.out 6).trans rfl
                have hfz53_0 := blk_frozen BK309.out 0
                have hfz53_1 := blk_frozen BK309.out 1
                have hfz53_2 := blk_frozen BK309.out 2
                have hfz53_3 := blk_frozen BK309.out 3
                have hfz53_4 := blk_frozen BK309.out 4
                have hfz53_5 := blk_frozen BK309.out 5
                have hfz53_6 := blk_frozen BK309.out 6
                go_wp2
                refine bodyPost_ret (results_cell_row rfl _ _ gb309 38 #[.int .u8 a0_0, .int .i64 x311001_2, .string x311002_19, .string (⟨#[]⟩ : ByteArray), .string (⟨#[]⟩ : ByteArray), .int .i64 0, .int .u8 a0_6] (0, 0) _ rfl (by (with_reducible repeat (first | refine blk_drewN ?_ _ | refine blk_drew ?_ | refine blk_alloc ?_ _)); refine blk_put (cs := #[.int .u8 a0_0, .int .i64 x311001_2, .string x311002_19, .string (⟨#[]⟩ : ByteArray), .string (⟨#[]⟩ : ByteArray), .int .i64 0, .int .u8 0]) ?_ 6 _ rfl; (with_reducible repeat (first | refine blk_drewN ?_ _ | refine blk_drew ?_ | refine blk_alloc ?_ _)); refine blk_put (cs := #[.int .u8 a0_0, .int .i64 x311001_2, .string x311002_19, .string (⟨#[]⟩ : ByteArray), .string (⟨#[]⟩ : ByteArray), .int .i64 0, .int .u8 0]) ?_ 5 _ rfl; (with_reducible repeat (first | refine blk_drewN ?_ _ | refine blk_drew ?_ | refine blk_alloc ?_ _)); refine blk_put (cs := #[.int .u8 a0_0, .int .i64 x311001_2, .string x311002_19, .string (⟨#[]⟩ : ByteArray), .string (⟨#[]⟩ : ByteArray), .int .i64 0, .int .u8 0]) ?_ 4 _ rfl; (with_reducible repeat (first | refine blk_drewN ?_ _ | refine blk_drew ?_ | refine blk_alloc ?_ _)); refine blk_put (cs := #[.int .u8 a0_0, .int .i64 x311001_2, .string x311002_19, .string (⟨#[]⟩ : ByteArray), .string (⟨#[]⟩ : ByteArray), .int .i64 0, .int .u8 0]) ?_ 3 _ rfl; (with_reducible repeat (first | refine blk_drewN ?_ _ | refine blk_drew ?_ | refine blk_alloc ?_ _)); refine blk_put (cs := #[.int .u8 a0_0, .int .i64 x311001_2, .string (⟨#[]⟩ : ByteArray), .string (⟨#[]⟩ : ByteArray), .string (⟨#[]⟩ : ByteArray), .int .i64 0, .int .u8 0]) ?_ 2 _ rfl; (with_reducible repeat (first | refine blk_drewN ?_ _ | refine blk_drew ?_ | refine blk_alloc ?_ _)); refine blk_put (cs := #[.int .u8 a0_0, .int .i64 0, .string (⟨#[]⟩ : ByteArray), .string (⟨#[]⟩ : ByteArray), .string (⟨#[]⟩ : ByteArray), .int .i64 0, .int .u8 0]) ?_ 1 _ rfl; (with_reducible repeat (first | refine blk_drewN ?_ _ | refine blk_drew ?_ | refine blk_alloc ?_ _)); refine blk_put (cs := #[.int .u8 0, .int .i64 0, .string (⟨#[]⟩ : ByteArray), .string (⟨#[]⟩ : ByteArray), .string (⟨#[]⟩ : ByteArray), .int .i64 0, .int .u8 0]) ?_ 0 _ rfl; (with_reducible repeat (first | refine blk_drewN ?_ _ | refine blk_drew ?_ | refine blk_alloc ?_ _)); refine blk_far ?_ NB309_310.out _; (with_reducible repeat (first | refine blk_drewN ?_ _ | refine blk_drew ?_ | refine blk_alloc ?_ _)); exact BK309.out) Tryz.underlying38 rfl (by kernel_rfl)) rfl ?_
                exact ⟨by first | rfl | (simp [errW_none, errW_some] <;> rfl) | (simp [*, errW_none, errW_some] <;> rfl), by repeat (first | (with_reducible first | exact HB.out | apply below_alloc | apply pw_below_drewN | apply below_drew1 | refine below_set ?_ GE308.out | refine below_set ?_ GE309.out | refine below_set ?_ GE310.out) | exact HB.out)⟩
              · rw [if_neg c47] at H
                have c47b0 : (a0_0 == 9) = false := beq_eq_false_iff_ne.mpr c47
                have c47b1 : (a0_0 != 9) = true := bne_iff_ne.mpr c47
                simp only [Option.some.injEq, Prod.mk.injEq] at H
                obtain ⟨rfl, rfl, rfl, rfl, rfl, rfl, rfl⟩ := H
                have hnb54 := NB308_309.out
                have hnc54 := NB309_308.out
                have hnb55 := NB308_310.out
                have hnc55 := NB310_308.out
                have hcz56_0 : wc.cell? ⟨gb308, 0, none⟩ = some (.int .u8 a0_0) := (blk_cell BK308.out 0).trans rfl
                have hcz56_1 : wc.cell? ⟨gb308, 1, none⟩ = some (.int .i64 a0_1) := (blk_cell BK308.out 1).trans rfl
                have hcz56_2 : wc.cell? ⟨gb308, 2, none⟩ = some (.string a0_2) := (blk_cell BK308.out 2).trans rfl
                have hcz56_3 : wc.cell? ⟨gb308, 3, none⟩ = some (.string a0_3) := (blk_cell BK308.out 3).trans rfl
                have hcz56_4 : wc.cell? ⟨gb308, 4, none⟩ = some (.string a0_4) := (blk_cell BK308.out 4).trans rfl
                have hcz56_5 : wc.cell? ⟨gb308, 5, none⟩ = some (.int .i64 a0_5) := (blk_cell BK308.out 5).trans rfl
                have hcz56_6 : wc.cell? ⟨gb308, 6, none⟩ = some (.int .u8 a0_6) := (blk_cell BK308.out 6).trans rfl
                have hfz56_0 := blk_frozen BK308.out 0
                have hfz56_1 := blk_frozen BK308.out 1
                have hfz56_2 := blk_frozen BK308.out 2
                have hfz56_3 := blk_frozen BK308.out 3
                have hfz56_4 := blk_frozen BK308.out 4
                have hfz56_5 := blk_frozen BK308.out 5
                have hfz56_6 := blk_frozen BK308.out 6
                have hnb57 := NB310_309.out
                have hnc57 := NB309_310.out
                have hcz58_0 : wc.cell? ⟨gb310, 0, none⟩ = some (.int .u8 a0_0) := (blk_cell BK310.out 0).trans rfl
                have hcz58_1 : wc.cell? ⟨gb310, 1, none⟩ = some (.int .i64 x311001_2) := (blk_cell BK310.out 1).trans rfl
                have hcz58_2 : wc.cell? ⟨gb310, 2, none⟩ = some (.string x311002_19) := (blk_cell BK310.out 2).trans rfl
                have hcz58_3 : wc.cell? ⟨gb310, 3, none⟩ = some (.string (⟨#[]⟩ : ByteArray)) := (blk_cell BK310.out 3).trans rfl
                have hcz58_4 : wc.cell? ⟨gb310, 4, none⟩ = some (.string (⟨#[]⟩ : ByteArray)) := (blk_cell BK310.out 4).trans rfl
                have hcz58_5 : wc.cell? ⟨gb310, 5, none⟩ = some (.int .i64 0) := (blk_cell BK310.out 5).trans rfl
                have hcz58_6 : wc.cell? ⟨gb310, 6, none⟩ = some (.int .u8 0) := (blk_cell BK310.out 6).trans rfl
                have hfz58_0 := blk_frozen BK310.out 0
                have hfz58_1 := blk_frozen BK310.out 1
                have hfz58_2 := blk_frozen BK310.out 2
                have hfz58_3 := blk_frozen BK310.out 3
                have hfz58_4 := blk_frozen BK310.out 4
                have hfz58_5 := blk_frozen BK310.out 5
                have hfz58_6 := blk_frozen BK310.out 6
                have hcz59_0 : wc.cell? ⟨gb309, 0, none⟩ = some (.int .u8 0) := (blk_cell BK309.out 0).trans rfl
                have hcz59_1 : wc.cell? ⟨gb309, 1, none⟩ = some (.int .i64 0) := (blk_cell BK309.out 1).trans rfl
                have hcz59_2 : wc.cell? ⟨gb309, 2, none⟩ = some (.string (⟨#[]⟩ : ByteArray)) := (blk_cell BK309.out 2).trans rfl
                have hcz59_3 : wc.cell? ⟨gb309, 3, none⟩ = some (.string (⟨#[]⟩ : ByteArray)) := (blk_cell BK309.out 3).trans rfl
                have hcz59_4 : wc.cell? ⟨gb309, 4, none⟩ = some (.string (⟨#[]⟩ : ByteArray)) := (blk_cell BK309.out 4).trans rfl
                have hcz59_5 : wc.cell? ⟨gb309, 5, none⟩ = some (.int .i64 0) := (blk_cell BK309.out 5).trans rfl
                have hcz59_6 : wc.cell? ⟨gb309, 6, none⟩ = some (.int .u8 0) := (blk_cell BK309.out 6).trans rfl
                have hfz59_0 := blk_frozen BK309.out 0
                have hfz59_1 := blk_frozen BK309.out 1
                have hfz59_2 := blk_frozen BK309.out 2
                have hfz59_3 := blk_frozen BK309.out 3
                have hfz59_4 := blk_frozen BK309.out 4
                have hfz59_5 := blk_frozen BK309.out 5
                have hfz59_6 := blk_frozen BK309.out 6
                go_wp2
                refine bodyPost_ret (results_cell_row rfl _ _ gb309 38 #[.int .u8 a0_0, .int .i64 x311001_2, .string x311002_19, .string (⟨#[]⟩ : ByteArray), .string (⟨#[]⟩ : ByteArray), .int .i64 0, .int .u8 0] (0, 0) _ rfl (by (with_reducible repeat (first | refine blk_drewN ?_ _ | refine blk_drew ?_ | refine blk_alloc ?_ _)); refine blk_put (cs := #[.int .u8 a0_0, .int .i64 x311001_2, .string x311002_19, .string (⟨#[]⟩ : ByteArray), .string (⟨#[]⟩ : ByteArray), .int .i64 0, .int .u8 0]) ?_ 6 _ rfl; (with_reducible repeat (first | refine blk_drewN ?_ _ | refine blk_drew ?_ | refine blk_alloc ?_ _)); refine blk_put (cs := #[.int .u8 a0_0, .int .i64 x311001_2, .string x311002_19, .string (⟨#[]⟩ : ByteArray), .string (⟨#[]⟩ : ByteArray), .int .i64 0, .int .u8 0]) ?_ 5 _ rfl; (with_reducible repeat (first | refine blk_drewN ?_ _ | refine blk_drew ?_ | refine blk_alloc ?_ _)); refine blk_put (cs := #[.int .u8 a0_0, .int .i64 x311001_2, .string x311002_19, .string (⟨#[]⟩ : ByteArray), .string (⟨#[]⟩ : ByteArray), .int .i64 0, .int .u8 0]) ?_ 4 _ rfl; (with_reducible repeat (first | refine blk_drewN ?_ _ | refine blk_drew ?_ | refine blk_alloc ?_ _)); refine blk_put (cs := #[.int .u8 a0_0, .int .i64 x311001_2, .string x311002_19, .string (⟨#[]⟩ : ByteArray), .string (⟨#[]⟩ : ByteArray), .int .i64 0, .int .u8 0]) ?_ 3 _ rfl; (with_reducible repeat (first | refine blk_drewN ?_ _ | refine blk_drew ?_ | refine blk_alloc ?_ _)); refine blk_put (cs := #[.int .u8 a0_0, .int .i64 x311001_2, .string (⟨#[]⟩ : ByteArray), .string (⟨#[]⟩ : ByteArray), .string (⟨#[]⟩ : ByteArray), .int .i64 0, .int .u8 0]) ?_ 2 _ rfl; (with_reducible repeat (first | refine blk_drewN ?_ _ | refine blk_drew ?_ | refine blk_alloc ?_ _)); refine blk_put (cs := #[.int .u8 a0_0, .int .i64 0, .string (⟨#[]⟩ : ByteArray), .string (⟨#[]⟩ : ByteArray), .string (⟨#[]⟩ : ByteArray), .int .i64 0, .int .u8 0]) ?_ 1 _ rfl; (with_reducible repeat (first | refine blk_drewN ?_ _ | refine blk_drew ?_ | refine blk_alloc ?_ _)); refine blk_put (cs := #[.int .u8 0, .int .i64 0, .string (⟨#[]⟩ : ByteArray), .string (⟨#[]⟩ : ByteArray), .string (⟨#[]⟩ : ByteArray), .int .i64 0, .int .u8 0]) ?_ 0 _ rfl; (with_reducible repeat (first | refine blk_drewN ?_ _ | refine blk_drew ?_ | refine blk_alloc ?_ _)); exact BK309.out) Tryz.underlying38 rfl (by kernel_rfl)) rfl ?_
                exact ⟨by first | rfl | (simp [errW_none, errW_some] <;> rfl) | (simp [*, errW_none, errW_some] <;> rfl), by repeat (first | (with_reducible first | exact HB.out | apply below_alloc | apply pw_below_drewN | apply below_drew1 | refine below_set ?_ GE308.out | refine below_set ?_ GE309.out | refine below_set ?_ GE310.out) | exact HB.out)⟩

end Go.Proofs.YthhhdddojmkgnaaGreatDoor.PRef
end
section
namespace Go.Proofs.YthhhdddojmkgnaaGreatDoor.PRef
open Go.RowKit Go.Proofs.YthhhdddojmkgnaaGreatDoorW.PrintWords Go.Proofs.YthhhdddojmkgnaaGreatDoorW.PrintLast Go.Proofs.YthhhdddojmkgnaaGreatDoorW.PrintMore
attribute [local go_sem] max2_int min2_int max_two min_two max_three min_three max_four min_four   -- for this text's walks alone
set_option linter.unusedVariables false
set_option linter.unusedSimpArgs false
attribute [local go_sem high] eqA38
def call_Same.f (k : Nat) (a0_0 : Int) (a0_1 : Int) (a0_2 : ByteArray) (a0_3 : ByteArray) (a0_4 : ByteArray) (a0_5 : Int) (a0_6 : Int) (a1_0 : Int) (a1_1 : Int) (a1_2 : ByteArray) (a1_3 : ByteArray) (a1_4 : ByteArray) (a1_5 : Int) (a1_6 : Int) : Option (Bool) := (call_Clean.f k a0_0 a0_1 a0_2 a0_3 a0_4 a0_5 a0_6).bind fun bt315 => ((call_Clean.f k a1_0 a1_1 a1_2 a1_3 a1_4 a1_5 a1_6).bind fun bt322 => (some (bt315.1 == bt322.1 && (bt315.2.1 == bt322.2.1 && (bt315.2.2.1.toList == bt322.2.2.1.toList && (bt315.2.2.2.1.toList == bt322.2.2.2.1.toList && (bt315.2.2.2.2.1.toList == bt322.2.2.2.2.1.toList && (bt315.2.2.2.2.2.1 == bt322.2.2.2.2.2.1 && (bt315.2.2.2.2.2.2 == bt322.2.2.2.2.2.2)))))))))
set_option maxHeartbeats 8000000 in
set_option maxRecDepth 100000 in
theorem call_Same.calls (k : Nat) (a0_0 : Int) (a0_1 : Int) (a0_2 : ByteArray) (a0_3 : ByteArray) (a0_4 : ByteArray) (a0_5 : Int) (a0_6 : Int) (a1_0 : Int) (a1_1 : Int) (a1_2 : ByteArray) (a1_3 : ByteArray) (a1_4 : ByteArray) (a1_5 : Int) (a1_6 : Int) (r : Bool) (w : World) (h : call_Same.f k a0_0 a0_1 a0_2 a0_3 a0_4 a0_5 a0_6 a1_0 a1_1 a1_2 a1_3 a1_4 a1_5 a1_6 = some r) :
    Calls Tryz.prog 27 #[.agg #[.int .u8 a0_0, .int .i64 a0_1, .string a0_2, .string a0_3, .string a0_4, .int .i64 a0_5, .int .u8 a0_6], .agg #[.int .u8 a1_0, .int .i64 a1_1, .string a1_2, .string a1_3, .string a1_4, .int .i64 a1_5, .int .u8 a1_6]] w fun e w' => e = .returned (.bool r) ∧ Below w.heap.size w w' := by
  have hu38 := Tryz.underlying38
  have HB := Aside0.mk (Below.refl w.heap.size w)
  have H : ((call_Clean.f k a0_0 a0_1 a0_2 a0_3 a0_4 a0_5 a0_6).bind fun bt315 => ((call_Clean.f k a1_0 a1_1 a1_2 a1_3 a1_4 a1_5 a1_6).bind fun bt322 => (some (bt315.1 == bt322.1 && (bt315.2.1 == bt322.2.1 && (bt315.2.2.1.toList == bt322.2.2.1.toList && (bt315.2.2.2.1.toList == bt322.2.2.2.1.toList && (bt315.2.2.2.2.1.toList == bt322.2.2.2.2.1.toList && (bt315.2.2.2.2.2.1 == bt322.2.2.2.2.2.1 && (bt315.2.2.2.2.2.2 == bt322.2.2.2.2.2.2)))))))))) = some r := h
  clear h
  replace H := Option.bind_eq_some_iff.mp H
  obtain ⟨⟨t315, t316, t317, t318, t319, t320, t321⟩, A30, H⟩ := H
  replace H : ((call_Clean.f k a1_0 a1_1 a1_2 a1_3 a1_4 a1_5 a1_6).bind fun bt322 => (some (t315 == bt322.1 && (t316 == bt322.2.1 && (t317.toList == bt322.2.2.1.toList && (t318.toList == bt322.2.2.2.1.toList && (t319.toList == bt322.2.2.2.2.1.toList && (t320 == bt322.2.2.2.2.2.1 && (t321 == bt322.2.2.2.2.2.2))))))))) = some r := H
  have A3 := Aside0.mk A30
  clear A30
  replace H := Option.bind_eq_some_iff.mp H
  obtain ⟨⟨t322, t323, t324, t325, t326, t327, t328⟩, A40, H⟩ := H
  replace H : (some (t315 == t322 && (t316 == t323 && (t317.toList == t324.toList && (t318.toList == t325.toList && (t319.toList == t326.toList && (t320 == t327 && (t321 == t328)))))))) = some r := H
  have A4 := Aside0.mk A40
  clear A40
  obtain rfl := Option.some.inj H
  go_enter Tryz.func27, Tryz.ntmps27
  try go_wp2_with (first | ((with_reducible refine gate_dst (N := 2) rfl ?_); refine box_event ?hg (N := 2) ?hd (cs := #[.int .u8 a0_0, .int .i64 a0_1, .string a0_2, .string a0_3, .string a0_4, .int .i64 a0_5, .int .u8 a0_6]) (t := 38) ?hr ?_; (case hd => rfl); (case hg => rfl); (case hr => first | (go_simp; done) | (go_simp; rfl)); intro gb313 hg w5 hbox hb; have n0_ := Aside0.mk (below_step (by repeat (first | (with_reducible first | exact HB.out | apply below_alloc | apply pw_below_drewN | apply below_drew1) | exact HB.out)) hb); have n1_ := Aside0.mk (hbox); have n2_ := Aside0.mk ((by rw [hg]; exact (below_size (by repeat (first | (with_reducible first | exact HB.out | apply below_alloc | apply pw_below_drewN | apply below_drew1) | exact HB.out))) : w.heap.size ≤ gb313)); have n3_ := Aside0.mk ((by rw [hg]; exact (below_size (by repeat (first | (with_reducible first | exact HB.out | apply below_alloc | apply pw_below_drewN | apply below_drew1) | exact HB.out))) : w.heap.size ≤ gb313)); clear HB; have HB := n0_; have BK313 := n1_; have GW313 := n2_; have GE313 := n3_; clear n0_ n1_ n2_ n3_; clear hb hbox hg) | ((with_reducible refine gate_dst (N := 3) rfl ?_); refine box_event ?hg (N := 3) ?hd (cs := #[.int .u8 a1_0, .int .i64 a1_1, .string a1_2, .string a1_3, .string a1_4, .int .i64 a1_5, .int .u8 a1_6]) (t := 38) ?hr ?_; (case hd => rfl); (case hg => rfl); (case hr => first | (go_simp; done) | (go_simp; rfl)); intro gb314 hg w6 hbox hb; have n0_ := Aside0.mk (blk_below (g := gb313) (o := .cells #[.int .u8 a0_0, .int .i64 a0_1, .string a0_2, .string a0_3, .string a0_4, .int .i64 a0_5, .int .u8 a0_6] 38 (0, 0)) (by (with_reducible repeat (first | refine blk_drewN ?_ _ | refine blk_drew ?_ | refine blk_alloc ?_ _)); exact BK313.out) hb); have n1_ := Aside0.mk (below_step (by repeat (first | (with_reducible first | exact HB.out | apply below_alloc | apply pw_below_drewN | apply below_drew1 | refine below_set ?_ GE313.out) | exact HB.out)) hb); have n2_ := Aside0.mk (hbox); have n3_ := Aside0.mk ((by rw [hg]; exact (below_size (by repeat (first | (with_reducible first | exact HB.out | apply below_alloc | apply pw_below_drewN | apply below_drew1 | refine below_set ?_ GE313.out) | exact HB.out))) : w.heap.size ≤ gb314)); have n4_ := Aside0.mk ((by rw [hg]; exact (below_size (by repeat (first | (with_reducible first | exact HB.out | apply below_alloc | apply pw_below_drewN | apply below_drew1 | refine below_set ?_ GE313.out) | exact HB.out))) : w.heap.size ≤ gb314)); have n5_ := Aside0.mk ((by rw [hg]; exact Nat.ne_of_lt (blk_lt (g := gb313) (o := .cells #[.int .u8 a0_0, .int .i64 a0_1, .string a0_2, .string a0_3, .string a0_4, .int .i64 a0_5, .int .u8 a0_6] 38 (0, 0)) (by (with_reducible repeat (first | refine blk_drewN ?_ _ | refine blk_drew ?_ | refine blk_alloc ?_ _)); exact BK313.out)) : gb313 ≠ gb314)); have n6_ := Aside0.mk ((by rw [hg]; exact Nat.ne_of_gt (blk_lt (g := gb313) (o := .cells #[.int .u8 a0_0, .int .i64 a0_1, .string a0_2, .string a0_3, .string a0_4, .int .i64 a0_5, .int .u8 a0_6] 38 (0, 0)) (by (with_reducible repeat (first | refine blk_drewN ?_ _ | refine blk_drew ?_ | refine blk_alloc ?_ _)); exact BK313.out)) : gb314 ≠ gb313)); clear BK313; clear HB; have BK313 := n0_; have HB := n1_; have BK314 := n2_; have GW314 := n3_; have GE314 := n4_; have NB313_314 := n5_; have NB314_313 := n6_; clear n0_ n1_ n2_ n3_ n4_ n5_ n6_; clear hb hbox hg))
  have n0_ := Aside0.mk (blk_drew BK313.out)
  have n1_ := Aside0.mk (blk_drew BK314.out)
  have n2_ := Aside0.mk (below_drew1 HB.out)
  clear BK313
  clear BK314
  clear HB
  have BK313 := n0_
  have BK314 := n1_
  have HB := n2_
  clear n0_ n1_ n2_
  refine start_ (n := 6) (S := fun w' => w'.cell? ⟨gb313, 0, none⟩ = some (.int .u8 a0_0) ∧ w'.cell? ⟨gb313, 1, none⟩ = some (.int .i64 a0_1) ∧ w'.cell? ⟨gb313, 2, none⟩ = some (.string a0_2) ∧ w'.cell? ⟨gb313, 3, none⟩ = some (.string a0_3) ∧ w'.cell? ⟨gb313, 4, none⟩ = some (.string a0_4) ∧ w'.cell? ⟨gb313, 5, none⟩ = some (.int .i64 a0_5) ∧ w'.cell? ⟨gb313, 6, none⟩ = some (.int .u8 a0_6) ∧ w'.cell? ⟨gb314, 0, none⟩ = some (.int .u8 a1_0) ∧ w'.cell? ⟨gb314, 1, none⟩ = some (.int .i64 a1_1) ∧ w'.cell? ⟨gb314, 2, none⟩ = some (.string a1_2) ∧ w'.cell? ⟨gb314, 3, none⟩ = some (.string a1_3) ∧ w'.cell? ⟨gb314, 4, none⟩ = some (.string a1_4) ∧ w'.cell? ⟨gb314, 5, none⟩ = some (.int .i64 a1_5) ∧ w'.cell? ⟨gb314, 6, none⟩ = some (.int .u8 a1_6)) (ds := []) #[false, false, false, false, false, false] (by kernel_rfl) rfl rfl ⟨(blk_cell BK313.out 0).trans rfl, (blk_cell BK313.out 1).trans rfl, (blk_cell BK313.out 2).trans rfl, (blk_cell BK313.out 3).trans rfl, (blk_cell BK313.out 4).trans rfl, (blk_cell BK313.out 5).trans rfl, (blk_cell BK313.out 6).trans rfl, (blk_cell BK314.out 0).trans rfl, (blk_cell BK314.out 1).trans rfl, (blk_cell BK314.out 2).trans rfl, (blk_cell BK314.out 3).trans rfl, (blk_cell BK314.out 4).trans rfl, (blk_cell BK314.out 5).trans rfl, (blk_cell BK314.out 6).trans rfl⟩ (fun hHeld => ?_)
  generalize w6.drew = w7 at BK313 BK314 HB hHeld ⊢
  refine take_ (i := 0) (N := some 5) (v := ?_) (a' := ?_) #[true, false, false, false, false, false] rfl rfl (by kernel_rfl) (fun _ _ _ h => h) (Or.inl ⟨by rfl, ?_⟩) hHeld ?_ ?_
  rotate_left
  · rintro w' ⟨s0, s1, s2, s3, s4, s5, s6, s7, s8, s9, s10, s11, s12, s13⟩
    go_simp
    with_reducible rfl
  rotate_left
  · simp only [Act.put, List.setIfInBounds_toArray, List.set_cons_zero, List.set_cons_succ, i64_w, i32_w]
    rfl
  refine take_ (i := 2) (N := some 7) (v := ?_) (a' := ?_) #[true, false, true, false, false, false] rfl rfl (by kernel_rfl) (fun _ _ _ h => h) (Or.inl ⟨by rfl, ?_⟩) hHeld ?_ ?_
  rotate_left
  · rintro w' ⟨s0, s1, s2, s3, s4, s5, s6, s7, s8, s9, s10, s11, s12, s13⟩
    go_simp
    with_reducible rfl
  rotate_left
  · simp only [Act.put, List.setIfInBounds_toArray, List.set_cons_zero, List.set_cons_succ, i64_w, i32_w]
    rfl
  refine one_ (i := 1) (N := some 6) #[true, true, true, false, false, false] rfl rfl (by kernel_rfl) (by decide) (fun K hK => ?_)
  refine goes_ Tryz.func25 (by kernel_rfl) rfl #[.agg #[.int .u8 a0_0, .int .i64 a0_1, .string a0_2, .string a0_3, .string a0_4, .int .i64 a0_5, .int .u8 a0_6]] (by rfl) rfl rfl (by (try simp only [List.map_toArray, List.map_cons, List.map_nil]); first | done | rfl | (simp only [List.length_drop, List.length_take]; rfl)) ?_
  with_reducible refine (call_Clean.calls k a0_0 a0_1 a0_2 a0_3 a0_4 a0_5 a0_6 t315 t316 t317 t318 t319 t320 t321 _ A3.out).mono ?_
  rintro e w8 ⟨rfl, hb⟩
  refine ⟨_, rfl, ?_⟩
  have n0_ := Aside0.mk (blk_below (g := gb313) (o := .cells #[.int .u8 a0_0, .int .i64 a0_1, .string a0_2, .string a0_3, .string a0_4, .int .i64 a0_5, .int .u8 a0_6] 38 (0, 0)) (by (with_reducible repeat (first | refine blk_drewN ?_ _ | refine blk_drew ?_ | refine blk_alloc ?_ _)); exact BK313.out) hb)
  have n1_ := Aside0.mk (blk_below (g := gb314) (o := .cells #[.int .u8 a1_0, .int .i64 a1_1, .string a1_2, .string a1_3, .string a1_4, .int .i64 a1_5, .int .u8 a1_6] 38 (0, 0)) (by (with_reducible repeat (first | refine blk_drewN ?_ _ | refine blk_drew ?_ | refine blk_alloc ?_ _)); exact BK314.out) hb)
  have n2_ := Aside0.mk (below_step (by repeat (first | (with_reducible first | exact HB.out | apply below_alloc | apply pw_below_drewN | apply below_drew1 | refine below_set ?_ GE313.out | refine below_set ?_ GE314.out) | exact HB.out)) hb)
  clear BK313
  clear BK314
  clear HB
  have BK313 := n0_
  have BK314 := n1_
  have HB := n2_
  clear n0_ n1_ n2_
  (try clear hb)
  (try clear hb2)
  (try clear hk)
  (try clear hi)
  refine hK.out _ _ ⟨(blk_cell BK313.out 0).trans rfl, (blk_cell BK313.out 1).trans rfl, (blk_cell BK313.out 2).trans rfl, (blk_cell BK313.out 3).trans rfl, (blk_cell BK313.out 4).trans rfl, (blk_cell BK313.out 5).trans rfl, (blk_cell BK313.out 6).trans rfl, (blk_cell BK314.out 0).trans rfl, (blk_cell BK314.out 1).trans rfl, (blk_cell BK314.out 2).trans rfl, (blk_cell BK314.out 3).trans rfl, (blk_cell BK314.out 4).trans rfl, (blk_cell BK314.out 5).trans rfl, (blk_cell BK314.out 6).trans rfl⟩ (fun hHeld => ?_)
  clear hK K
  refine norm_ (a' := ?_) ?_ ?_
  rotate_left
  · show Act.put _ (some 6) _ = _
    simp only [Act.put, List.setIfInBounds_toArray, List.set_cons_zero, List.set_cons_succ, i64_w, i32_w]
    rfl
  refine one_ (i := 3) (N := some 8) #[true, true, true, true, false, false] rfl rfl (by kernel_rfl) (by decide) (fun K hK => ?_)
  refine goes_ Tryz.func25 (by kernel_rfl) rfl #[.agg #[.int .u8 a1_0, .int .i64 a1_1, .string a1_2, .string a1_3, .string a1_4, .int .i64 a1_5, .int .u8 a1_6]] (by rfl) rfl rfl (by (try simp only [List.map_toArray, List.map_cons, List.map_nil]); first | done | rfl | (simp only [List.length_drop, List.length_take]; rfl)) ?_
  with_reducible refine (call_Clean.calls k a1_0 a1_1 a1_2 a1_3 a1_4 a1_5 a1_6 t322 t323 t324 t325 t326 t327 t328 _ A4.out).mono ?_
  rintro e w9 ⟨rfl, hb⟩
  refine ⟨_, rfl, ?_⟩
  have n0_ := Aside0.mk (blk_below (g := gb313) (o := .cells #[.int .u8 a0_0, .int .i64 a0_1, .string a0_2, .string a0_3, .string a0_4, .int .i64 a0_5, .int .u8 a0_6] 38 (0, 0)) (by (with_reducible repeat (first | refine blk_drewN ?_ _ | refine blk_drew ?_ | refine blk_alloc ?_ _)); exact BK313.out) hb)
  have n1_ := Aside0.mk (blk_below (g := gb314) (o := .cells #[.int .u8 a1_0, .int .i64 a1_1, .string a1_2, .string a1_3, .string a1_4, .int .i64 a1_5, .int .u8 a1_6] 38 (0, 0)) (by (with_reducible repeat (first | refine blk_drewN ?_ _ | refine blk_drew ?_ | refine blk_alloc ?_ _)); exact BK314.out) hb)
  have n2_ := Aside0.mk (below_step (by repeat (first | (with_reducible first | exact HB.out | apply below_alloc | apply pw_below_drewN | apply below_drew1 | refine below_set ?_ GE313.out | refine below_set ?_ GE314.out) | exact HB.out)) hb)
  clear BK313
  clear BK314
  clear HB
  have BK313 := n0_
  have BK314 := n1_
  have HB := n2_
  clear n0_ n1_ n2_
  (try clear hb)
  (try clear hb2)
  (try clear hk)
  (try clear hi)
  refine hK.out _ _ ⟨(blk_cell BK313.out 0).trans rfl, (blk_cell BK313.out 1).trans rfl, (blk_cell BK313.out 2).trans rfl, (blk_cell BK313.out 3).trans rfl, (blk_cell BK313.out 4).trans rfl, (blk_cell BK313.out 5).trans rfl, (blk_cell BK313.out 6).trans rfl, (blk_cell BK314.out 0).trans rfl, (blk_cell BK314.out 1).trans rfl, (blk_cell BK314.out 2).trans rfl, (blk_cell BK314.out 3).trans rfl, (blk_cell BK314.out 4).trans rfl, (blk_cell BK314.out 5).trans rfl, (blk_cell BK314.out 6).trans rfl⟩ (fun hHeld => ?_)
  clear hK K
  refine norm_ (a' := ?_) ?_ ?_
  rotate_left
  · show Act.put _ (some 8) _ = _
    simp only [Act.put, List.setIfInBounds_toArray, List.set_cons_zero, List.set_cons_succ, i64_w, i32_w]
    rfl
  refine pure_ (i := 4) (N := some 9) (v := ?_) (a' := ?_) #[true, true, true, true, true, false] rfl rfl (by kernel_rfl) (fun _ _ _ h => h) (Or.inl ⟨by rfl, ?_⟩) ?_ ?_
  rotate_left
  · intro w'
    go_simp
    with_reducible rfl
  rotate_left
  · simp only [Act.put, List.setIfInBounds_toArray, List.set_cons_zero, List.set_cons_succ, i64_w, i32_w]
    rfl
  refine pure_ (i := 5) (N := some 4) (v := ?_) (a' := ?_) #[true, true, true, true, true, true] rfl rfl (by kernel_rfl) (fun _ _ _ h => h) (Or.inl ⟨by rfl, ?_⟩) ?_ ?_
  rotate_left
  · intro w'
    go_simp
    with_reducible rfl
  rotate_left
  · simp only [Act.put, List.setIfInBounds_toArray, List.set_cons_zero, List.set_cons_succ, i64_w, i32_w]
    rfl
  refine done_ (by kernel_rfl) ?_
  try go_wp2
  go_ret
  exact ⟨by first | rfl | (simp [errW_none, errW_some] <;> rfl) | (simp [*, errW_none, errW_some] <;> rfl), by repeat (first | (with_reducible first | exact HB.out | apply below_alloc | apply pw_below_drewN | apply below_drew1 | refine below_set ?_ GE313.out | refine below_set ?_ GE314.out) | exact HB.out)⟩

end Go.Proofs.YthhhdddojmkgnaaGreatDoor.PRef
end
