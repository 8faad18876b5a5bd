/-
  The law CallLarger, walked: what fits a config fits a larger one.
-/
import Derived.Test.YthhhdddojmkgnaaDoorCallX
import Derived.Test.YthhhdddojmkgnaaDoorCallG
import Derived.Test.YthhhdddojmkgnaaDoorCallC
import Derived.BigRegion
import Derived.Deep.RegionHeld3
namespace Go.Proofs.YthhhdddojmkgnaaDoor
open Go.RowKit

/-- The larger config. -/
def larger (c d : CfgR) : CfgR := ⟨c.tasks, c.active, c.keys, c.depth, c.ts, max c.keylen d.keylen, max c.vallen d.vallen, c.fan⟩

theorem cfg_larger (c d : CfgR) (h : cfgOk c = true) (h1 : (larger c d).keylen ≤ 64) (h2 : (larger c d).vallen ≤ 256) : cfgOk (larger c d) = true := by
  unfold cfgOk at h ⊢
  have h := of_decide_eq_true h
  simp only [larger] at h1 h2
  have k1 : c.keylen ≤ max c.keylen d.keylen := by omega
  have k2 : c.vallen ≤ max c.vallen d.vallen := by omega
  exact decide_eq_true ⟨h.1, h.2.1, h.2.2.1, h.2.2.2.1, h.2.2.2.2.1, ⟨by simp only [larger]; omega, h1⟩, ⟨by simp only [larger]; omega, h2⟩, h.2.2.2.2.2.2.2⟩
theorem len_larger {c c' : CfgR} {s : ByteArray} {lo hi hi' : Int} (h : lenOk c s lo hi = true) (hc : cfgOk c = true → cfgOk c' = true) (hh : hi ≤ hi') : lenOk c' s lo hi' = true := by
  simp only [lenOk, Bool.and_eq_true, decide_eq_true_eq] at h ⊢
  exact ⟨⟨hc h.1.1, h.1.2⟩, by omega⟩
theorem fits_larger (c d : CfgR) (x : CallR) (h : fitsN c x = 0) (h1 : (larger c d).keylen ≤ 64) (h2 : (larger c d).vallen ≤ 256) : fitsN (larger c d) x = 0 := by
  have hc := fun h => cfg_larger c d h h1 h2
  have hk : c.keylen ≤ (larger c d).keylen := by simp only [larger]; omega
  have hv : c.vallen ≤ (larger c d).vallen := by simp only [larger]; omega
  unfold fitsN at h ⊢
  have hb : fitsB c x = true := by
    cases hb : fitsB c x with
    | true => rfl
    | false => rw [hb] at h; simp at h
  have hb2 : fitsB (larger c d) x = true := by
    clear h
    unfold fitsB at hb ⊢
    split at hb
    · rename_i e
      rw [if_pos e]
      simp only [Bool.and_eq_true] at hb ⊢
      exact ⟨⟨⟨len_larger hb.1.1.1 hc hk, len_larger hb.1.1.2 hc hk⟩, hb.1.2⟩, hb.2⟩
    · rename_i e
      rw [if_neg e]
      split at hb
      · rename_i e2
        rw [if_pos e2]
        simp only [Bool.and_eq_true, Bool.or_eq_true] at hb ⊢
        exact ⟨len_larger hb.1 hc hk, hb.2.imp id fun h => len_larger h hc hv⟩
      · rename_i e2
        rw [if_neg e2]
  rw [hb2]
  rfl

theorem min_le_of {a b c : Int} {n : Nat} (h : ¬ 9000 ≤ min 9000 (n : Int) + b + c) (hb : 0 ≤ b) (hc : 0 ≤ c) : n ≤ 9000 := by omega
theorem longN_parts {x : CallR} (h : ¬ 9000 ≤ longN x) : x.key.length ≤ 9000 ∧ x.en.length ≤ 9000 ∧ x.va.length ≤ 9000 := by
  unfold longN at h; omega

set_option maxHeartbeats 4000000 in
theorem larger_long (c d : CfgR) (x : CallR) (w : World) (hE : Env w) (hL : 9000 ≤ longN x) :
    Calls Tryd.prog 4 #[cfgV c, cfgV d, callV x] w (Ret w (.bool true)) := by
  have hdL : decide (9000 ≤ longN x) = true := decide_eq_true hL
  have HD := Lib.hid hdL
  have HE := Lib.hid hE
  clear hdL hE hL
  go_enter Tryd.func4, Tryd.ntmps4
  unfold cfgV callV callCells
  go_wp2_with fail
  obtain ⟨hB, -, -, h3, hs⟩ := three_new w (cfgCells c) (cfgCells d) (callCells x) 33 33 23
  unfold cfgCells callCells at hB h3 hs
  generalize (((w.alloc (.cells _ _)).alloc (.cells _ _)).alloc (.cells _ _)) = W0 at *
  have HB := Lib.hid hB
  have H3 := Lib.hid h3
  clear hB h3
  refine (works_any _ (HE.out.below HB.out)).mono ?_
  rintro e w1 ⟨rfl, hb1⟩
  have HB := Lib.hid (HB.out.trans (hb1.mono (by omega)))
  have B3 := H3.out.below hb1
  have hs1 := hb1.size
  clear hb1 H3
  have c0 := B3.cell 0
  have c1 := B3.cell 1
  have c2 := B3.cell 2
  have c3 := B3.cell 3
  have c4 := B3.cell 4
  have c5 := B3.cell 5
  have c6 := B3.cell 6
  clear B3
  simp only [List.getElem?_toArray, List.getElem?_cons_zero, List.getElem?_cons_succ] at c0 c1 c2 c3 c4 c5 c6
  go_wp2_with fail
  refine (long_one x _ _ (Lib.cell_of_heap (heap_alloc_new _ _) 2) (Lib.cell_of_heap (heap_alloc_new _ _) 3) (Lib.cell_of_heap (heap_alloc_new _ _) 4)).mono ?_
  rw [HD.out]
  rintro e w2 ⟨rfl, hb2⟩
  have HB := hnew HB (by omega) hb2
  clear hb2 c0 c1 c2 c3 c4 c5 c6
  go_wp2_with fail
  refine (works_any _ (HE.out.below HB.out)).mono ?_
  rintro e w3 ⟨rfl, hb3⟩
  go_wp2_with fail
  go_ret
  exact Ret.of rfl (HB.out.trans (hb3.mono HB.out.size))

/-- The world behind the assignments. -/
def largerW (v : World) (b : Nat) (c d : CfgR) : World := ((((((((v.setCell ⟨b + 1, 5, none⟩ (.int .i64 (max c.keylen d.keylen))).setCell ⟨b + 1, 6, none⟩ (.int .i64 (max c.vallen d.vallen))).setCell ⟨b + 1, 0, none⟩ (.int .i64 (c.tasks))).setCell ⟨b + 1, 1, none⟩ (.int .i64 (c.active))).setCell ⟨b + 1, 2, none⟩ (.int .i64 (c.keys))).setCell ⟨b + 1, 3, none⟩ (.int .i64 (c.depth))).setCell ⟨b + 1, 4, none⟩ (.int .i64 (c.ts))).setCell ⟨b + 1, 7, none⟩ (.int .i64 (c.fan))).drew.drew
theorem largerW_facts {w0 v : World} {b : Nat} {c d : CfgR} {x : CallR} (h1 : Blk v b (cfgCells c) 33) (h2 : Blk v (b + 1) (cfgCells d) 33) (h3 : Blk v (b + 2) (callCells x) 23) (hB : Below b w0 v) :
    Blk (largerW v b c d) b (cfgCells c) 33 ∧ Blk (largerW v b c d) (b + 1) (cfgCells (larger c d)) 33 ∧ Blk (largerW v b c d) (b + 2) (callCells x) 23 ∧ Below b w0 (largerW v b c d) := by
  unfold largerW
  have hd := (((((((((h2.set 5 (.int .i64 (max c.keylen d.keylen))).set 6 (.int .i64 (max c.vallen d.vallen))).set 0 (.int .i64 (c.tasks))).set 1 (.int .i64 (c.active))).set 2 (.int .i64 (c.keys))).set 3 (.int .i64 (c.depth))).set 4 (.int .i64 (c.ts))).set 7 (.int .i64 (c.fan)))).drew.drew
  unfold cfgCells at hd
  simp only [List.setIfInBounds_toArray, List.set_cons_zero, List.set_cons_succ] at hd
  exact ⟨(((((((((h1.set_other 5 (.int .i64 (max c.keylen d.keylen)) (show b ≠ b + 1 by omega)).set_other 6 (.int .i64 (max c.vallen d.vallen)) (show b ≠ b + 1 by omega)).set_other 0 (.int .i64 (c.tasks)) (show b ≠ b + 1 by omega)).set_other 1 (.int .i64 (c.active)) (show b ≠ b + 1 by omega)).set_other 2 (.int .i64 (c.keys)) (show b ≠ b + 1 by omega)).set_other 3 (.int .i64 (c.depth)) (show b ≠ b + 1 by omega)).set_other 4 (.int .i64 (c.ts)) (show b ≠ b + 1 by omega)).set_other 7 (.int .i64 (c.fan)) (show b ≠ b + 1 by omega))).drew.drew, hd, (((((((((h3.set_other 5 (.int .i64 (max c.keylen d.keylen)) (show b + 2 ≠ b + 1 by omega)).set_other 6 (.int .i64 (max c.vallen d.vallen)) (show b + 2 ≠ b + 1 by omega)).set_other 0 (.int .i64 (c.tasks)) (show b + 2 ≠ b + 1 by omega)).set_other 1 (.int .i64 (c.active)) (show b + 2 ≠ b + 1 by omega)).set_other 2 (.int .i64 (c.keys)) (show b + 2 ≠ b + 1 by omega)).set_other 3 (.int .i64 (c.depth)) (show b + 2 ≠ b + 1 by omega)).set_other 4 (.int .i64 (c.ts)) (show b + 2 ≠ b + 1 by omega)).set_other 7 (.int .i64 (c.fan)) (show b + 2 ≠ b + 1 by omega))).drew.drew, (((((((((hB.setCell (p := ⟨b + 1, 5, none⟩) (Nat.le_succ _) (.int .i64 (max c.keylen d.keylen))).setCell (p := ⟨b + 1, 6, none⟩) (Nat.le_succ _) (.int .i64 (max c.vallen d.vallen))).setCell (p := ⟨b + 1, 0, none⟩) (Nat.le_succ _) (.int .i64 (c.tasks))).setCell (p := ⟨b + 1, 1, none⟩) (Nat.le_succ _) (.int .i64 (c.active))).setCell (p := ⟨b + 1, 2, none⟩) (Nat.le_succ _) (.int .i64 (c.keys))).setCell (p := ⟨b + 1, 3, none⟩) (Nat.le_succ _) (.int .i64 (c.depth))).setCell (p := ⟨b + 1, 4, none⟩) (Nat.le_succ _) (.int .i64 (c.ts))).setCell (p := ⟨b + 1, 7, none⟩) (Nat.le_succ _) (.int .i64 (c.fan)))).drew.drew⟩

set_option maxHeartbeats 8000000 in
theorem larger_short (c d : CfgR) (x : CallR) (w : World) (hE : Env w) (hL : ¬ 9000 ≤ longN x) :
    Calls Tryd.prog 4 #[cfgV c, cfgV d, callV x] w (Ret w (.bool true)) := by
  have hdL : decide (9000 ≤ longN x) = false := decide_eq_false hL
  have HP := Lib.hid (longN_parts hL)
  have HD := Lib.hid hdL
  have HE := Lib.hid hE
  clear hdL hE hL
  go_enter Tryd.func4, Tryd.ntmps4
  unfold cfgV callV callCells
  go_wp2_with fail
  obtain ⟨hB, h1, h2, h3, hs⟩ := three_new w (cfgCells c) (cfgCells d) (callCells x) 33 33 23
  unfold cfgCells callCells at hB h1 h2 h3 hs
  generalize (((w.alloc (.cells _ _)).alloc (.cells _ _)).alloc (.cells _ _)) = W0 at *
  have HB := Lib.hid hB
  have H1 := Lib.hid h1
  have H2 := Lib.hid h2
  have H3 := Lib.hid h3
  clear hB h1 h2 h3
  refine (works_any _ (HE.out.below HB.out)).mono ?_
  rintro e w1 ⟨rfl, hb1⟩
  have HB := Lib.hid (HB.out.trans (hb1.mono (by omega)))
  have H1 := hblk H1 hb1
  have H2 := hblk H2 hb1
  have H3 := hblk H3 hb1
  have hs1 := hb1.size
  clear hb1
  have c0 := H3.out.cell 0
  have c1 := H3.out.cell 1
  have c2 := H3.out.cell 2
  have c3 := H3.out.cell 3
  have c4 := H3.out.cell 4
  have c5 := H3.out.cell 5
  have c6 := H3.out.cell 6
  simp only [List.getElem?_toArray, List.getElem?_cons_zero, List.getElem?_cons_succ] at c0 c1 c2 c3 c4 c5 c6
  go_wp2_with fail
  refine (long_one x _ _ (Lib.cell_of_heap (heap_alloc_new _ _) 2) (Lib.cell_of_heap (heap_alloc_new _ _) 3) (Lib.cell_of_heap (heap_alloc_new _ _) 4)).mono ?_
  rw [HD.out]
  rintro e w2 ⟨rfl, hb2⟩
  have HB := hnew HB (by omega) hb2
  have H1 := hblk (hblk H1 (below_new _ _)) hb2
  have H2 := hblk (hblk H2 (below_new _ _)) hb2
  have H3 := hblk (hblk H3 (below_new _ _)) hb2
  have hs2 := hb2.size
  clear hb2 c0 c1 c2 c3 c4 c5 c6
  simp only [World.size_alloc] at hs2
  have a0 := H1.out.cell 0
  have a1 := H1.out.cell 1
  have a2 := H1.out.cell 2
  have a3 := H1.out.cell 3
  have a4 := H1.out.cell 4
  have a5 := H1.out.cell 5
  have a6 := H1.out.cell 6
  have a7 := H1.out.cell 7
  have b0 := H2.out.cell 0
  have b1 := H2.out.cell 1
  have b2 := H2.out.cell 2
  have b3 := H2.out.cell 3
  have b4 := H2.out.cell 4
  have b5 := H2.out.cell 5
  have b6 := H2.out.cell 6
  have b7 := H2.out.cell 7
  have f0 := H2.out.free 0
  have f1 := H2.out.free 1
  have f2 := H2.out.free 2
  have f3 := H2.out.free 3
  have f4 := H2.out.free 4
  have f5 := H2.out.free 5
  have f6 := H2.out.free 6
  have f7 := H2.out.free 7
  simp only [List.getElem?_toArray, List.getElem?_cons_zero, List.getElem?_cons_succ] at a0 a1 a2 a3 a4 a5 a6 a7 b0 b1 b2 b3 b4 b5 b6 b7
  go_wp2_with fail
  go_region
  go_wp2_with fail
  go_region_held3 (fun W => W.cell? ⟨w.heap.size, 0, none⟩ = some (.int .i64 c.tasks) ∧ W.cell? ⟨w.heap.size, 1, none⟩ = some (.int .i64 c.active) ∧ W.cell? ⟨w.heap.size, 2, none⟩ = some (.int .i64 c.keys) ∧ W.cell? ⟨w.heap.size, 3, none⟩ = some (.int .i64 c.depth) ∧ W.cell? ⟨w.heap.size, 4, none⟩ = some (.int .i64 c.ts) ∧ W.cell? ⟨w.heap.size, 7, none⟩ = some (.int .i64 c.fan)) (go_keep) (fail)
  change Exit.then _ _ _ _ (largerW w2 w.heap.size c d)
  obtain ⟨kC, kD, kX, kB⟩ := largerW_facts (c := c) (d := d) (x := x) H1.out H2.out H3.out HB.out
  generalize largerW w2 w.heap.size c d = W at kC kD kX kB ⊢
  have KD := Lib.hid kD
  have KC := Lib.hid kC
  have KX := Lib.hid kX
  have KB := Lib.hid kB
  clear kD kC kX kB a0 a1 a2 a3 a4 a5 a6 a7 b0 b1 b2 b3 b4 b5 b6 b7 f0 f1 f2 f3 f4 f5 f6 f7 H1 H2 H3 HB
  by_cases hk : (64 : Int) < max c.keylen d.keylen
  · have d5 : W.cell? ⟨w.heap.size + 1, 5, none⟩ = some (.int .i64 (max c.keylen d.keylen)) := KD.out.cell 5
    go_wp2
    go_ret
    exact Ret.of rfl KB.out
  · by_cases hv : (256 : Int) < max c.vallen d.vallen
    · have d5 : W.cell? ⟨w.heap.size + 1, 5, none⟩ = some (.int .i64 (max c.keylen d.keylen)) := KD.out.cell 5
      have d6 : W.cell? ⟨w.heap.size + 1, 6, none⟩ = some (.int .i64 (max c.vallen d.vallen)) := KD.out.cell 6
      go_wp2
      go_ret
      exact Ret.of rfl KB.out
    · have d5 : W.cell? ⟨w.heap.size + 1, 5, none⟩ = some (.int .i64 (max c.keylen d.keylen)) := KD.out.cell 5
      have d6 : W.cell? ⟨w.heap.size + 1, 6, none⟩ = some (.int .i64 (max c.vallen d.vallen)) := KD.out.cell 6
      have a0 : W.cell? ⟨w.heap.size, 0, none⟩ = some (.int .i64 c.tasks) := KC.out.cell 0
      have a1 : W.cell? ⟨w.heap.size, 1, none⟩ = some (.int .i64 c.active) := KC.out.cell 1
      have a2 : W.cell? ⟨w.heap.size, 2, none⟩ = some (.int .i64 c.keys) := KC.out.cell 2
      have a3 : W.cell? ⟨w.heap.size, 3, none⟩ = some (.int .i64 c.depth) := KC.out.cell 3
      have a4 : W.cell? ⟨w.heap.size, 4, none⟩ = some (.int .i64 c.ts) := KC.out.cell 4
      have a5 : W.cell? ⟨w.heap.size, 5, none⟩ = some (.int .i64 c.keylen) := KC.out.cell 5
      have a6 : W.cell? ⟨w.heap.size, 6, none⟩ = some (.int .i64 c.vallen) := KC.out.cell 6
      have a7 : W.cell? ⟨w.heap.size, 7, none⟩ = some (.int .i64 c.fan) := KC.out.cell 7
      have x0 : W.cell? ⟨w.heap.size + 2, 0, none⟩ = some (.int .u8 x.kind) := KX.out.cell 0
      have x1 : W.cell? ⟨w.heap.size + 2, 1, none⟩ = some (.int .i64 x.tx) := KX.out.cell 1
      have x2 : W.cell? ⟨w.heap.size + 2, 2, none⟩ = some (.string (bs x.key)) := KX.out.cell 2
      have x3 : W.cell? ⟨w.heap.size + 2, 3, none⟩ = some (.string (bs x.en)) := KX.out.cell 3
      have x4 : W.cell? ⟨w.heap.size + 2, 4, none⟩ = some (.string (bs x.va)) := KX.out.cell 4
      have x5 : W.cell? ⟨w.heap.size + 2, 5, none⟩ = some (.int .i64 x.lim) := KX.out.cell 5
      have x6 : W.cell? ⟨w.heap.size + 2, 6, none⟩ = some (.int .u8 x.eng) := KX.out.cell 6
      go_wp2_with fail
      refine (fits_any ⟨c.tasks, c.active, c.keys, c.depth, c.ts, c.keylen, c.vallen, c.fan⟩ ⟨x.kind, x.tx, x.key, x.en, x.va, x.lim, x.eng⟩ _ (by have := HP.out; show x.key.length ≤ _; omega) (by have := HP.out; show x.en.length ≤ _; omega) (by have := HP.out; show x.va.length ≤ _; omega)).mono ?_
      rintro e w3 ⟨rfl, hb3⟩
      have HB3 := Lib.hid (KB.out.trans (hb3.mono KB.out.size))
      by_cases hf : fitsN c x = 0
      · have hfl := Lib.hid (fits_larger c d x hf (by simp only [larger]; omega) (by simp only [larger]; omega))
        change fitsN ⟨c.tasks, c.active, c.keys, c.depth, c.ts, c.keylen, c.vallen, c.fan⟩ ⟨x.kind, x.tx, x.key, x.en, x.va, x.lim, x.eng⟩ = 0 at hf
        rw [hf]
        have e0 : w3.cell? ⟨w.heap.size + 1, 0, none⟩ = some (.int .i64 c.tasks) := (KD.out.below hb3).cell 0
        have e1 : w3.cell? ⟨w.heap.size + 1, 1, none⟩ = some (.int .i64 c.active) := (KD.out.below hb3).cell 1
        have e2 : w3.cell? ⟨w.heap.size + 1, 2, none⟩ = some (.int .i64 c.keys) := (KD.out.below hb3).cell 2
        have e3 : w3.cell? ⟨w.heap.size + 1, 3, none⟩ = some (.int .i64 c.depth) := (KD.out.below hb3).cell 3
        have e4 : w3.cell? ⟨w.heap.size + 1, 4, none⟩ = some (.int .i64 c.ts) := (KD.out.below hb3).cell 4
        have e5 : w3.cell? ⟨w.heap.size + 1, 5, none⟩ = some (.int .i64 (max c.keylen d.keylen)) := (KD.out.below hb3).cell 5
        have e6 : w3.cell? ⟨w.heap.size + 1, 6, none⟩ = some (.int .i64 (max c.vallen d.vallen)) := (KD.out.below hb3).cell 6
        have e7 : w3.cell? ⟨w.heap.size + 1, 7, none⟩ = some (.int .i64 c.fan) := (KD.out.below hb3).cell 7
        have y0 : w3.cell? ⟨w.heap.size + 2, 0, none⟩ = some (.int .u8 x.kind) := (KX.out.below hb3).cell 0
        have y1 : w3.cell? ⟨w.heap.size + 2, 1, none⟩ = some (.int .i64 x.tx) := (KX.out.below hb3).cell 1
        have y2 : w3.cell? ⟨w.heap.size + 2, 2, none⟩ = some (.string (bs x.key)) := (KX.out.below hb3).cell 2
        have y3 : w3.cell? ⟨w.heap.size + 2, 3, none⟩ = some (.string (bs x.en)) := (KX.out.below hb3).cell 3
        have y4 : w3.cell? ⟨w.heap.size + 2, 4, none⟩ = some (.string (bs x.va)) := (KX.out.below hb3).cell 4
        have y5 : w3.cell? ⟨w.heap.size + 2, 5, none⟩ = some (.int .i64 x.lim) := (KX.out.below hb3).cell 5
        have y6 : w3.cell? ⟨w.heap.size + 2, 6, none⟩ = some (.int .u8 x.eng) := (KX.out.below hb3).cell 6
        clear a0 a1 a2 a3 a4 a5 a6 a7 x0 x1 x2 x3 x4 x5 x6 d5 d6 hb3 hf
        go_wp2_with fail
        refine (fits_any (larger c d) ⟨x.kind, x.tx, x.key, x.en, x.va, x.lim, x.eng⟩ _ (by have := HP.out; show x.key.length ≤ _; omega) (by have := HP.out; show x.en.length ≤ _; omega) (by have := HP.out; show x.va.length ≤ _; omega)).mono ?_
        rintro e w4 ⟨rfl, hb4⟩
        have hfl2 : fitsN (larger c d) ⟨x.kind, x.tx, x.key, x.en, x.va, x.lim, x.eng⟩ = 0 := hfl.out
        rw [hfl2]
        go_wp2
        go_ret
        exact Ret.of rfl (HB3.out.trans (hb4.mono HB3.out.size))
      · have hfb : (fitsN ⟨c.tasks, c.active, c.keys, c.depth, c.ts, c.keylen, c.vallen, c.fan⟩ ⟨x.kind, x.tx, x.key, x.en, x.va, x.lim, x.eng⟩ != 0) = true := by
          rw [bne_iff_ne]; exact hf
        clear a0 a1 a2 a3 a4 a5 a6 a7 x0 x1 x2 x3 x4 x5 x6 d5 d6 hb3
        go_wp2
        go_ret
        exact Ret.of rfl HB3.out

/-- The law CallLarger. -/
theorem larger_any (c d : CfgR) (x : CallR) (w : World) (hE : Env w) :
    Calls Tryd.prog 4 #[cfgV c, cfgV d, callV x] w (Ret w (.bool true)) := by
  by_cases hL : 9000 ≤ longN x
  · exact larger_long c d x w hE hL
  · exact larger_short c d x w hE hL
end Go.Proofs.YthhhdddojmkgnaaDoor
