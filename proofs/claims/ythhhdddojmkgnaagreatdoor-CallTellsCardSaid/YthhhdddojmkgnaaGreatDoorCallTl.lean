/-
  The law CallTells, walked: what the program's functions answer is what the reference's answer.
-/
import Derived.Test.YthhhdddojmkgnaaGreatDoorCallRg
import Derived.Test.YthhhdddojmkgnaaGreatDoorCallI
import Derived.Test.YthhhdddojmkgnaaGreatDoorCallD
namespace Go.Proofs.YthhhdddojmkgnaaGreatDoor
open Go.RowKit

theorem callOk_of {x : CallR} (h : CallIn x) (h1 : x.key.length ≤ 9000 ∧ x.en.length ≤ 9000 ∧ x.va.length ≤ 9000) : CallOk x := ⟨h.tx, h.lim, by omega, by omega, by omega⟩
theorem refOk_of {x : CallR} (h : CallIn x) (h1 : x.key.length ≤ 9000 ∧ x.en.length ≤ 9000 ∧ x.va.length ≤ 9000) : RefOk x := ⟨h.tx, h.lim, h.eng, by omega, by omega, by omega⟩
theorem longN_nn (x : CallR) : 0 ≤ longN x := by unfold longN; omega
theorem long2_parts {x y : CallR} (h : ¬ 9000 ≤ longN x + longN y) : (x.key.length ≤ 9000 ∧ x.en.length ≤ 9000 ∧ x.va.length ≤ 9000) ∧ (y.key.length ≤ 9000 ∧ y.en.length ≤ 9000 ∧ y.va.length ≤ 9000) := by
  unfold longN at h; omega

/-- What stands while CallTells compares. -/
structure TellS (w0 : World) (p q : Nat) (c : CfgR) (x y z : CallR) (W : World) : Prop where
  below : Below w0.heap.size w0 W
  env : Env W
  bc : Blk W w0.heap.size (cfgCells c) 36
  bx : Blk W (w0.heap.size + 1) (callCells x) 38
  by_ : Blk W (w0.heap.size + 2) (callCells y) 38
  ba : Blk W p (callCells z) 38
  bb : Blk W q (callCells z) 38
theorem TellS.step {w0 W W' : World} {p q : Nat} {c : CfgR} {x y z : CallR} (h : TellS w0 p q c x y z W) (hb : Below W.heap.size W W') : TellS w0 p q c x y z W' :=
  ⟨h.below.trans (hb.mono h.below.size), h.env.below hb, h.bc.below hb, h.bx.below hb, h.by_.below hb, h.ba.below hb, h.bb.below hb⟩

theorem TellS.drew {w0 W : World} {p q : Nat} {c : CfgR} {x y z : CallR} (h : TellS w0 p q c x y z W) : TellS w0 p q c x y z W.drew :=
  ⟨h.below.drew, h.env.below (Below.refl W.heap.size W).drew, h.bc, h.bx, h.by_, h.ba, h.bb⟩
attribute [local go_sem high] PRef.eqA38

set_option maxHeartbeats 16000000 in
set_option maxRecDepth 100000 in
theorem tells_main (c : CfgR) (x y : CallR) (s : Bs) (w : World) (hE : Env w) (hx : CallIn x) (hy : CallIn y) (hL : ¬ 9000 ≤ longN x + longN y) (hs : s.length ≤ 9000) :
    Calls Tryz.prog 4 #[cfgV c, callV x, callV y, .string (bs s)] w (Ret w (.bool true)) := by
  have hdL : decide (9000 ≤ longN x + longN y) = false := decide_eq_false hL
  have HD := Lib.hid hdL
  have HE := Lib.hid hE
  have HCx := Lib.hid (callOk_of hx (long2_parts hL).1)
  have HRx := Lib.hid (refOk_of hx (long2_parts hL).1)
  clear hdL hE hL hx hy
  go_enter Tryz.func4, Tryz.ntmps4
  unfold cfgV callV callCells
  go_wp2_with fail
  obtain ⟨hB, h1, h2, h3, hsz⟩ := three_new w (cfgCells c) (callCells x) (callCells y) 36 38 38
  unfold cfgCells callCells at hB h1 h2 h3 hsz
  generalize (((w.alloc (.cells _ _)).alloc (.cells _ _)).alloc (.cells _ _)) = W0 at *
  have HB := Lib.hid hB
  have H1 := Lib.hid h1
  have H2 := Lib.hid h2
  have H3 := Lib.hid h3
  clear hB h1 h2 h3
  refine (long_two x y _ _ ?k2 ?k3 ?k4 ?k9 ?k10 ?k11).mono ?_
  case k2 => rw [show w.heap.size + 1 + 1 + 1 = W0.heap.size by omega]; exact Lib.cell_of_heap (heap_alloc_new _ _) 2
  case k3 => rw [show w.heap.size + 1 + 1 + 1 = W0.heap.size by omega]; exact Lib.cell_of_heap (heap_alloc_new _ _) 3
  case k4 => rw [show w.heap.size + 1 + 1 + 1 = W0.heap.size by omega]; exact Lib.cell_of_heap (heap_alloc_new _ _) 4
  case k9 => rw [show w.heap.size + 1 + 1 + 1 = W0.heap.size by omega]; exact Lib.cell_of_heap (heap_alloc_new _ _) 9
  case k10 => rw [show w.heap.size + 1 + 1 + 1 = W0.heap.size by omega]; exact Lib.cell_of_heap (heap_alloc_new _ _) 10
  case k11 => rw [show w.heap.size + 1 + 1 + 1 = W0.heap.size by omega]; exact Lib.cell_of_heap (heap_alloc_new _ _) 11
  rw [HD.out]
  rintro e w1 ⟨rfl, hb1⟩
  have HB := hnew HB (by omega) hb1
  have H1 := hblk (hblk H1 (below_new _ _)) hb1
  have H2 := hblk (hblk H2 (below_new _ _)) hb1
  have H3 := hblk (hblk H3 (below_new _ _)) hb1
  have hs1 := hb1.size
  clear hb1
  simp only [World.size_alloc] at hs1
  go_wp2_with fail
  refine (parse_val s _ (HE.out.below HB.out) (by omega)).mono ?_
  rintro e w2 ⟨rfl, hb2⟩
  have HB := hnext HB (by omega) hb2
  have H1 := hblk H1 hb2
  have H2 := hblk H2 hb2
  have H3 := hblk H3 hb2
  have hs2 := hb2.size
  clear hb2
  unfold callV callCells
  go_wp2_with fail
  refine (refParse_val s _ (by omega)).mono ?_
  rintro e w3 ⟨rfl, hb3⟩
  have HA : Hid (Blk (w2.alloc (.cells (callCells (pz s)) 38)) w2.heap.size (callCells (pz s)) 38) := Lib.hid (Blk.new _ _ _)
  unfold callCells at HA
  have HA := hblk HA hb3
  have HB := hnew HB (by omega) hb3
  have H1 := hblk (hblk H1 (below_new _ _)) hb3
  have H2 := hblk (hblk H2 (below_new _ _)) hb3
  have H3 := hblk (hblk H3 (below_new _ _)) hb3
  have hs3 := hb3.size
  clear hb3
  simp only [World.size_alloc] at hs3
  unfold callV callCells
  go_wp2_with fail
  have HK : TellS w w2.heap.size w3.heap.size c x y (pz s) (w3.alloc (.cells (callCells (pz s)) 38)) := by
    have hbn := below_new w3 (.cells (callCells (pz s)) 38)
    have hB := HB.out.trans (hbn.mono (by omega))
    exact ⟨hB, HE.out.below hB, H1.out.below hbn, H2.out.below hbn, H3.out.below hbn, HA.out.below hbn, Blk.new _ _ _⟩
  have HK := Lib.hid HK
  clear HA HB H1 H2 H3
  refine det_start (S := TellS w w2.heap.size w3.heap.size c x y (pz s)) (n := 60) (l := #[false, false, false, false, false, false, false, false, false, false, false, false, false, false, false, false, false, false, false, false, false, false, false, false, false, false, false, false, false, false, false, false, false, false, false, false, false, false, false, false, false, false, false, false, false, false, false, false, false, false, false, false, false, false, false, false, false, false, false, false]) (by kernel_rfl) (by rfl) (by rfl) HK.out.drew ?_
  clear HK HE HD
  refine det_take (i := 0) (d := some 33) (l' := #[true, false, false, false, false, false, false, false, false, false, false, false, false, false, false, false, false, false, false, false, false, false, false, false, false, false, false, false, false, false, false, false, false, false, false, false, false, false, false, false, false, false, false, false, false, false, false, false, false, false, false, false, false, false, false, false, false, false, false, false]) (v := .agg (callCells (pz s))) rfl rfl rfl (by kernel_rfl) (by kernel_rfl) (by kernel_rfl) (Or.inl ⟨by rfl, ?_⟩) ?_
  · intro w9 hS
    have l0 := hS.ba.cell 0
    have l1 := hS.ba.cell 1
    have l2 := hS.ba.cell 2
    have l3 := hS.ba.cell 3
    have l4 := hS.ba.cell 4
    have l5 := hS.ba.cell 5
    have l6 := hS.ba.cell 6
    simp only [cfgCells, callCells, List.getElem?_toArray, List.getElem?_cons_zero, List.getElem?_cons_succ] at l0 l1 l2 l3 l4 l5 l6
    go_simp
    exact ⟨rfl, hS⟩
  simp only [Act.put, List.setIfInBounds_toArray, List.set_cons_zero, List.set_cons_succ]
  refine det_take (i := 1) (d := some 34) (l' := #[true, true, false, false, false, false, false, false, false, false, false, false, false, false, false, false, false, false, false, false, false, false, false, false, false, false, false, false, false, false, false, false, false, false, false, false, false, false, false, false, false, false, false, false, false, false, false, false, false, false, false, false, false, false, false, false, false, false, false, false]) (v := .agg (callCells (pz s))) rfl rfl rfl (by kernel_rfl) (by kernel_rfl) (by kernel_rfl) (Or.inl ⟨by rfl, ?_⟩) ?_
  · intro w9 hS
    have l0 := hS.bb.cell 0
    have l1 := hS.bb.cell 1
    have l2 := hS.bb.cell 2
    have l3 := hS.bb.cell 3
    have l4 := hS.bb.cell 4
    have l5 := hS.bb.cell 5
    have l6 := hS.bb.cell 6
    simp only [cfgCells, callCells, List.getElem?_toArray, List.getElem?_cons_zero, List.getElem?_cons_succ] at l0 l1 l2 l3 l4 l5 l6
    go_simp
    exact ⟨rfl, hS⟩
  simp only [Act.put, List.setIfInBounds_toArray, List.set_cons_zero, List.set_cons_succ]
  refine det_take (i := 2) (d := some 35) (l' := #[true, true, true, false, false, false, false, false, false, false, false, false, false, false, false, false, false, false, false, false, false, false, false, false, false, false, false, false, false, false, false, false, false, false, false, false, false, false, false, false, false, false, false, false, false, false, false, false, false, false, false, false, false, false, false, false, false, false, false, false]) (v := .bool true) rfl rfl rfl (by kernel_rfl) (by kernel_rfl) (by kernel_rfl) (Or.inl ⟨by rfl, ?_⟩) ?_
  · intro w9 hS
    simp only [callCells]
    go_simp
    first | exact ⟨rfl, hS⟩ | exact ⟨by simp, hS⟩
  simp only [Act.put, List.setIfInBounds_toArray, List.set_cons_zero, List.set_cons_succ]
  refine det_take (i := 3) (d := some 36) (l' := #[true, true, true, true, false, false, false, false, false, false, false, false, false, false, false, false, false, false, false, false, false, false, false, false, false, false, false, false, false, false, false, false, false, false, false, false, false, false, false, false, false, false, false, false, false, false, false, false, false, false, false, false, false, false, false, false, false, false, false, false]) (v := .bool true) rfl rfl rfl (by kernel_rfl) (by kernel_rfl) (by kernel_rfl) (Or.inl ⟨by rfl, ?_⟩) ?_
  · intro w9 hS
    go_simp
    exact ⟨rfl, hS⟩
  simp only [Act.put, List.setIfInBounds_toArray, List.set_cons_zero, List.set_cons_succ]
  refine det_take (i := 4) (d := some 37) (l' := #[true, true, true, true, true, false, false, false, false, false, false, false, false, false, false, false, false, false, false, false, false, false, false, false, false, false, false, false, false, false, false, false, false, false, false, false, false, false, false, false, false, false, false, false, false, false, false, false, false, false, false, false, false, false, false, false, false, false, false, false]) (v := .int .i64 (pe s)) rfl rfl rfl (by kernel_rfl) (by kernel_rfl) (by kernel_rfl) (Or.inl ⟨by rfl, ?_⟩) ?_
  · intro w9 hS
    go_simp
    exact ⟨rfl, hS⟩
  simp only [Act.put, List.setIfInBounds_toArray, List.set_cons_zero, List.set_cons_succ]
  refine det_take (i := 5) (d := some 38) (l' := #[true, true, true, true, true, true, false, false, false, false, false, false, false, false, false, false, false, false, false, false, false, false, false, false, false, false, false, false, false, false, false, false, false, false, false, false, false, false, false, false, false, false, false, false, false, false, false, false, false, false, false, false, false, false, false, false, false, false, false, false]) (v := .int .i64 (pe s)) rfl rfl rfl (by kernel_rfl) (by kernel_rfl) (by kernel_rfl) (Or.inl ⟨by rfl, ?_⟩) ?_
  · intro w9 hS
    go_simp
    exact ⟨rfl, hS⟩
  simp only [Act.put, List.setIfInBounds_toArray, List.set_cons_zero, List.set_cons_succ]
  refine det_take (i := 6) (d := some 39) (l' := #[true, true, true, true, true, true, true, false, false, false, false, false, false, false, false, false, false, false, false, false, false, false, false, false, false, false, false, false, false, false, false, false, false, false, false, false, false, false, false, false, false, false, false, false, false, false, false, false, false, false, false, false, false, false, false, false, false, false, false, false]) (v := .bool true) rfl rfl rfl (by kernel_rfl) (by kernel_rfl) (by kernel_rfl) (Or.inl ⟨by rfl, ?_⟩) ?_
  · intro w9 hS
    go_simp
    first | exact ⟨rfl, hS⟩ | exact ⟨by simp, hS⟩
  simp only [Act.put, List.setIfInBounds_toArray, List.set_cons_zero, List.set_cons_succ]
  refine det_take (i := 7) (d := some 40) (l' := #[true, true, true, true, true, true, true, true, false, false, false, false, false, false, false, false, false, false, false, false, false, false, false, false, false, false, false, false, false, false, false, false, false, false, false, false, false, false, false, false, false, false, false, false, false, false, false, false, false, false, false, false, false, false, false, false, false, false, false, false]) (v := .bool true) rfl rfl rfl (by kernel_rfl) (by kernel_rfl) (by kernel_rfl) (Or.inl ⟨by rfl, ?_⟩) ?_
  · intro w9 hS
    go_simp
    exact ⟨rfl, hS⟩
  simp only [Act.put, List.setIfInBounds_toArray, List.set_cons_zero, List.set_cons_succ]
  refine det_take (i := 8) (d := some 41) (l' := #[true, true, true, true, true, true, true, true, true, false, false, false, false, false, false, false, false, false, false, false, false, false, false, false, false, false, false, false, false, false, false, false, false, false, false, false, false, false, false, false, false, false, false, false, false, false, false, false, false, false, false, false, false, false, false, false, false, false, false, false]) (v := .bool true) rfl rfl rfl (by kernel_rfl) (by kernel_rfl) (by kernel_rfl) (Or.inl ⟨by rfl, ?_⟩) ?_
  · intro w9 hS
    go_simp
    exact ⟨rfl, hS⟩
  simp only [Act.put, List.setIfInBounds_toArray, List.set_cons_zero, List.set_cons_succ]
  refine det_take (i := 9) (d := some 42) (l' := #[true, true, true, true, true, true, true, true, true, true, false, false, false, false, false, false, false, false, false, false, false, false, false, false, false, false, false, false, false, false, false, false, false, false, false, false, false, false, false, false, false, false, false, false, false, false, false, false, false, false, false, false, false, false, false, false, false, false, false, false]) (v := .pointer (some ⟨w.heap.size + 1, 0, none⟩)) rfl rfl rfl (by kernel_rfl) (by kernel_rfl) (by kernel_rfl) (Or.inl ⟨by rfl, ?_⟩) ?_
  · intro w9 hS
    go_simp
    exact ⟨rfl, hS⟩
  simp only [Act.put, List.setIfInBounds_toArray, List.set_cons_zero, List.set_cons_succ]
  refine det_take (i := 10) (d := some 43) (l' := #[true, true, true, true, true, true, true, true, true, true, true, false, false, false, false, false, false, false, false, false, false, false, false, false, false, false, false, false, false, false, false, false, false, false, false, false, false, false, false, false, false, false, false, false, false, false, false, false, false, false, false, false, false, false, false, false, false, false, false, false]) (v := .int .u8 x.kind) rfl rfl rfl (by kernel_rfl) (by kernel_rfl) (by kernel_rfl) (Or.inl ⟨by rfl, ?_⟩) ?_
  · intro w9 hS
    have l0 := hS.bx.cell 0
    simp only [callCells, List.getElem?_toArray, List.getElem?_cons_zero] at l0
    go_simp
    exact ⟨rfl, hS⟩
  simp only [Act.put, List.setIfInBounds_toArray, List.set_cons_zero, List.set_cons_succ]
  refine det_take (i := 11) (d := some 44) (l' := #[true, true, true, true, true, true, true, true, true, true, true, true, false, false, false, false, false, false, false, false, false, false, false, false, false, false, false, false, false, false, false, false, false, false, false, false, false, false, false, false, false, false, false, false, false, false, false, false, false, false, false, false, false, false, false, false, false, false, false, false]) (v := .bool (needsF x.kind)) rfl rfl rfl (by kernel_rfl) (by kernel_rfl) (by kernel_rfl) (Or.inl ⟨by rfl, ?_⟩) ?_
  · intro w9 hS
    go_simp
    refine Calls.mono (needs_val x.kind _) ?_
    rintro e w8 ⟨rfl, hb⟩
    exact ⟨rfl, hS.step hb⟩
  simp only [Act.put, List.setIfInBounds_toArray, List.set_cons_zero, List.set_cons_succ]
  refine det_take (i := 12) (d := some 45) (l' := #[true, true, true, true, true, true, true, true, true, true, true, true, true, false, false, false, false, false, false, false, false, false, false, false, false, false, false, false, false, false, false, false, false, false, false, false, false, false, false, false, false, false, false, false, false, false, false, false, false, false, false, false, false, false, false, false, false, false, false, false]) (v := .pointer (some ⟨w.heap.size + 1, 0, none⟩)) rfl rfl rfl (by kernel_rfl) (by kernel_rfl) (by kernel_rfl) (Or.inl ⟨by rfl, ?_⟩) ?_
  · intro w9 hS
    go_simp
    exact ⟨rfl, hS⟩
  simp only [Act.put, List.setIfInBounds_toArray, List.set_cons_zero, List.set_cons_succ]
  refine det_take (i := 13) (d := some 46) (l' := #[true, true, true, true, true, true, true, true, true, true, true, true, true, true, false, false, false, false, false, false, false, false, false, false, false, false, false, false, false, false, false, false, false, false, false, false, false, false, false, false, false, false, false, false, false, false, false, false, false, false, false, false, false, false, false, false, false, false, false, false]) (v := .int .u8 x.kind) rfl rfl rfl (by kernel_rfl) (by kernel_rfl) (by kernel_rfl) (Or.inl ⟨by rfl, ?_⟩) ?_
  · intro w9 hS
    have l0 := hS.bx.cell 0
    simp only [callCells, List.getElem?_toArray, List.getElem?_cons_zero] at l0
    go_simp
    exact ⟨rfl, hS⟩
  simp only [Act.put, List.setIfInBounds_toArray, List.set_cons_zero, List.set_cons_succ]
  refine det_take (i := 14) (d := some 47) (l' := #[true, true, true, true, true, true, true, true, true, true, true, true, true, true, true, false, false, false, false, false, false, false, false, false, false, false, false, false, false, false, false, false, false, false, false, false, false, false, false, false, false, false, false, false, false, false, false, false, false, false, false, false, false, false, false, false, false, false, false, false]) (v := .bool (needsF x.kind)) rfl rfl rfl (by kernel_rfl) (by kernel_rfl) (by kernel_rfl) (Or.inl ⟨by rfl, ?_⟩) ?_
  · intro w9 hS
    go_simp
    refine Calls.mono (refNeeds_val x.kind _) ?_
    rintro e w8 ⟨rfl, hb⟩
    exact ⟨rfl, hS.step hb⟩
  simp only [Act.put, List.setIfInBounds_toArray, List.set_cons_zero, List.set_cons_succ]
  refine det_take (i := 15) (d := some 48) (l' := #[true, true, true, true, true, true, true, true, true, true, true, true, true, true, true, true, false, false, false, false, false, false, false, false, false, false, false, false, false, false, false, false, false, false, false, false, false, false, false, false, false, false, false, false, false, false, false, false, false, false, false, false, false, false, false, false, false, false, false, false]) (v := .bool true) rfl rfl rfl (by kernel_rfl) (by kernel_rfl) (by kernel_rfl) (Or.inl ⟨by rfl, ?_⟩) ?_
  · intro w9 hS
    go_simp
    first | exact ⟨rfl, hS⟩ | exact ⟨by simp, hS⟩
  simp only [Act.put, List.setIfInBounds_toArray, List.set_cons_zero, List.set_cons_succ]
  refine det_take (i := 16) (d := some 49) (l' := #[true, true, true, true, true, true, true, true, true, true, true, true, true, true, true, true, true, false, false, false, false, false, false, false, false, false, false, false, false, false, false, false, false, false, false, false, false, false, false, false, false, false, false, false, false, false, false, false, false, false, false, false, false, false, false, false, false, false, false, false]) (v := .bool true) rfl rfl rfl (by kernel_rfl) (by kernel_rfl) (by kernel_rfl) (Or.inl ⟨by rfl, ?_⟩) ?_
  · intro w9 hS
    go_simp
    exact ⟨rfl, hS⟩
  simp only [Act.put, List.setIfInBounds_toArray, List.set_cons_zero, List.set_cons_succ]
  refine det_take (i := 17) (d := some 50) (l' := #[true, true, true, true, true, true, true, true, true, true, true, true, true, true, true, true, true, true, false, false, false, false, false, false, false, false, false, false, false, false, false, false, false, false, false, false, false, false, false, false, false, false, false, false, false, false, false, false, false, false, false, false, false, false, false, false, false, false, false, false]) (v := .bool true) rfl rfl rfl (by kernel_rfl) (by kernel_rfl) (by kernel_rfl) (Or.inl ⟨by rfl, ?_⟩) ?_
  · intro w9 hS
    go_simp
    exact ⟨rfl, hS⟩
  simp only [Act.put, List.setIfInBounds_toArray, List.set_cons_zero, List.set_cons_succ]
  refine det_take (i := 18) (d := some 51) (l' := #[true, true, true, true, true, true, true, true, true, true, true, true, true, true, true, true, true, true, true, false, false, false, false, false, false, false, false, false, false, false, false, false, false, false, false, false, false, false, false, false, false, false, false, false, false, false, false, false, false, false, false, false, false, false, false, false, false, false, false, false]) (v := .agg (callCells x)) rfl rfl rfl (by kernel_rfl) (by kernel_rfl) (by kernel_rfl) (Or.inl ⟨by rfl, ?_⟩) ?_
  · intro w9 hS
    have l0 := hS.bx.cell 0
    have l1 := hS.bx.cell 1
    have l2 := hS.bx.cell 2
    have l3 := hS.bx.cell 3
    have l4 := hS.bx.cell 4
    have l5 := hS.bx.cell 5
    have l6 := hS.bx.cell 6
    simp only [cfgCells, callCells, List.getElem?_toArray, List.getElem?_cons_zero, List.getElem?_cons_succ] at l0 l1 l2 l3 l4 l5 l6
    go_simp
    exact ⟨rfl, hS⟩
  simp only [Act.put, List.setIfInBounds_toArray, List.set_cons_zero, List.set_cons_succ]
  refine det_take (i := 19) (d := some 52) (l' := #[true, true, true, true, true, true, true, true, true, true, true, true, true, true, true, true, true, true, true, true, false, false, false, false, false, false, false, false, false, false, false, false, false, false, false, false, false, false, false, false, false, false, false, false, false, false, false, false, false, false, false, false, false, false, false, false, false, false, false, false]) (v := .int .i64 (mayN x)) rfl rfl rfl (by kernel_rfl) (by kernel_rfl) (by kernel_rfl) (Or.inl ⟨by rfl, ?_⟩) ?_
  · intro w9 hS
    go_simp
    refine Calls.mono (may_any x _) ?_
    rintro e w8 ⟨rfl, hb⟩
    exact ⟨rfl, hS.step hb⟩
  simp only [Act.put, List.setIfInBounds_toArray, List.set_cons_zero, List.set_cons_succ]
  refine det_take (i := 20) (d := some 53) (l' := #[true, true, true, true, true, true, true, true, true, true, true, true, true, true, true, true, true, true, true, true, true, false, false, false, false, false, false, false, false, false, false, false, false, false, false, false, false, false, false, false, false, false, false, false, false, false, false, false, false, false, false, false, false, false, false, false, false, false, false, false]) (v := .agg (callCells x)) rfl rfl rfl (by kernel_rfl) (by kernel_rfl) (by kernel_rfl) (Or.inl ⟨by rfl, ?_⟩) ?_
  · intro w9 hS
    have l0 := hS.bx.cell 0
    have l1 := hS.bx.cell 1
    have l2 := hS.bx.cell 2
    have l3 := hS.bx.cell 3
    have l4 := hS.bx.cell 4
    have l5 := hS.bx.cell 5
    have l6 := hS.bx.cell 6
    simp only [cfgCells, callCells, List.getElem?_toArray, List.getElem?_cons_zero, List.getElem?_cons_succ] at l0 l1 l2 l3 l4 l5 l6
    go_simp
    exact ⟨rfl, hS⟩
  simp only [Act.put, List.setIfInBounds_toArray, List.set_cons_zero, List.set_cons_succ]
  refine det_take (i := 21) (d := some 54) (l' := #[true, true, true, true, true, true, true, true, true, true, true, true, true, true, true, true, true, true, true, true, true, true, false, false, false, false, false, false, false, false, false, false, false, false, false, false, false, false, false, false, false, false, false, false, false, false, false, false, false, false, false, false, false, false, false, false, false, false, false, false]) (v := .int .i64 (mayN x)) rfl rfl rfl (by kernel_rfl) (by kernel_rfl) (by kernel_rfl) (Or.inl ⟨by rfl, ?_⟩) ?_
  · intro w9 hS
    go_simp
    refine Calls.mono (refMay_val x _) ?_
    rintro e w8 ⟨rfl, hb⟩
    exact ⟨rfl, hS.step hb⟩
  simp only [Act.put, List.setIfInBounds_toArray, List.set_cons_zero, List.set_cons_succ]
  refine det_take (i := 22) (d := some 55) (l' := #[true, true, true, true, true, true, true, true, true, true, true, true, true, true, true, true, true, true, true, true, true, true, true, false, false, false, false, false, false, false, false, false, false, false, false, false, false, false, false, false, false, false, false, false, false, false, false, false, false, false, false, false, false, false, false, false, false, false, false, false]) (v := .bool true) rfl rfl rfl (by kernel_rfl) (by kernel_rfl) (by kernel_rfl) (Or.inl ⟨by rfl, ?_⟩) ?_
  · intro w9 hS
    go_simp
    first | exact ⟨rfl, hS⟩ | exact ⟨by simp, hS⟩
  simp only [Act.put, List.setIfInBounds_toArray, List.set_cons_zero, List.set_cons_succ]
  refine det_take (i := 23) (d := some 56) (l' := #[true, true, true, true, true, true, true, true, true, true, true, true, true, true, true, true, true, true, true, true, true, true, true, true, false, false, false, false, false, false, false, false, false, false, false, false, false, false, false, false, false, false, false, false, false, false, false, false, false, false, false, false, false, false, false, false, false, false, false, false]) (v := .bool true) rfl rfl rfl (by kernel_rfl) (by kernel_rfl) (by kernel_rfl) (Or.inl ⟨by rfl, ?_⟩) ?_
  · intro w9 hS
    go_simp
    exact ⟨rfl, hS⟩
  simp only [Act.put, List.setIfInBounds_toArray, List.set_cons_zero, List.set_cons_succ]
  refine det_take (i := 24) (d := some 57) (l' := #[true, true, true, true, true, true, true, true, true, true, true, true, true, true, true, true, true, true, true, true, true, true, true, true, true, false, false, false, false, false, false, false, false, false, false, false, false, false, false, false, false, false, false, false, false, false, false, false, false, false, false, false, false, false, false, false, false, false, false, false]) (v := .bool true) rfl rfl rfl (by kernel_rfl) (by kernel_rfl) (by kernel_rfl) (Or.inl ⟨by rfl, ?_⟩) ?_
  · intro w9 hS
    go_simp
    exact ⟨rfl, hS⟩
  simp only [Act.put, List.setIfInBounds_toArray, List.set_cons_zero, List.set_cons_succ]
  refine det_take (i := 25) (d := some 58) (l' := #[true, true, true, true, true, true, true, true, true, true, true, true, true, true, true, true, true, true, true, true, true, true, true, true, true, true, false, false, false, false, false, false, false, false, false, false, false, false, false, false, false, false, false, false, false, false, false, false, false, false, false, false, false, false, false, false, false, false, false, false]) (v := .agg (cfgCells c)) rfl rfl rfl (by kernel_rfl) (by kernel_rfl) (by kernel_rfl) (Or.inl ⟨by rfl, ?_⟩) ?_
  · intro w9 hS
    have l0 := hS.bc.cell 0
    have l1 := hS.bc.cell 1
    have l2 := hS.bc.cell 2
    have l3 := hS.bc.cell 3
    have l4 := hS.bc.cell 4
    have l5 := hS.bc.cell 5
    have l6 := hS.bc.cell 6
    have l7 := hS.bc.cell 7
    simp only [cfgCells, callCells, List.getElem?_toArray, List.getElem?_cons_zero, List.getElem?_cons_succ] at l0 l1 l2 l3 l4 l5 l6 l7
    go_simp
    exact ⟨rfl, hS⟩
  simp only [Act.put, List.setIfInBounds_toArray, List.set_cons_zero, List.set_cons_succ]
  refine det_take (i := 26) (d := some 59) (l' := #[true, true, true, true, true, true, true, true, true, true, true, true, true, true, true, true, true, true, true, true, true, true, true, true, true, true, true, false, false, false, false, false, false, false, false, false, false, false, false, false, false, false, false, false, false, false, false, false, false, false, false, false, false, false, false, false, false, false, false, false]) (v := .agg (callCells x)) rfl rfl rfl (by kernel_rfl) (by kernel_rfl) (by kernel_rfl) (Or.inl ⟨by rfl, ?_⟩) ?_
  · intro w9 hS
    have l0 := hS.bx.cell 0
    have l1 := hS.bx.cell 1
    have l2 := hS.bx.cell 2
    have l3 := hS.bx.cell 3
    have l4 := hS.bx.cell 4
    have l5 := hS.bx.cell 5
    have l6 := hS.bx.cell 6
    simp only [cfgCells, callCells, List.getElem?_toArray, List.getElem?_cons_zero, List.getElem?_cons_succ] at l0 l1 l2 l3 l4 l5 l6
    go_simp
    exact ⟨rfl, hS⟩
  simp only [Act.put, List.setIfInBounds_toArray, List.set_cons_zero, List.set_cons_succ]
  refine det_take (i := 27) (d := some 60) (l' := #[true, true, true, true, true, true, true, true, true, true, true, true, true, true, true, true, true, true, true, true, true, true, true, true, true, true, true, true, false, false, false, false, false, false, false, false, false, false, false, false, false, false, false, false, false, false, false, false, false, false, false, false, false, false, false, false, false, false, false, false]) (v := .int .i64 (fitsN c x)) rfl rfl rfl (by kernel_rfl) (by kernel_rfl) (by kernel_rfl) (Or.inl ⟨by rfl, ?_⟩) ?_
  · intro w9 hS
    go_simp
    refine Calls.mono (fits_any c x _ (by have := HRx.out.key; omega) (by have := HRx.out.en; omega) (by have := HRx.out.va; omega)) ?_
    rintro e w8 ⟨rfl, hb⟩
    exact ⟨rfl, hS.step hb⟩
  simp only [Act.put, List.setIfInBounds_toArray, List.set_cons_zero, List.set_cons_succ]
  refine det_take (i := 28) (d := some 61) (l' := #[true, true, true, true, true, true, true, true, true, true, true, true, true, true, true, true, true, true, true, true, true, true, true, true, true, true, true, true, true, false, false, false, false, false, false, false, false, false, false, false, false, false, false, false, false, false, false, false, false, false, false, false, false, false, false, false, false, false, false, false]) (v := .agg (cfgCells c)) rfl rfl rfl (by kernel_rfl) (by kernel_rfl) (by kernel_rfl) (Or.inl ⟨by rfl, ?_⟩) ?_
  · intro w9 hS
    have l0 := hS.bc.cell 0
    have l1 := hS.bc.cell 1
    have l2 := hS.bc.cell 2
    have l3 := hS.bc.cell 3
    have l4 := hS.bc.cell 4
    have l5 := hS.bc.cell 5
    have l6 := hS.bc.cell 6
    have l7 := hS.bc.cell 7
    simp only [cfgCells, callCells, List.getElem?_toArray, List.getElem?_cons_zero, List.getElem?_cons_succ] at l0 l1 l2 l3 l4 l5 l6 l7
    go_simp
    exact ⟨rfl, hS⟩
  simp only [Act.put, List.setIfInBounds_toArray, List.set_cons_zero, List.set_cons_succ]
  refine det_take (i := 29) (d := some 62) (l' := #[true, true, true, true, true, true, true, true, true, true, true, true, true, true, true, true, true, true, true, true, true, true, true, true, true, true, true, true, true, true, false, false, false, false, false, false, false, false, false, false, false, false, false, false, false, false, false, false, false, false, false, false, false, false, false, false, false, false, false, false]) (v := .agg (callCells x)) rfl rfl rfl (by kernel_rfl) (by kernel_rfl) (by kernel_rfl) (Or.inl ⟨by rfl, ?_⟩) ?_
  · intro w9 hS
    have l0 := hS.bx.cell 0
    have l1 := hS.bx.cell 1
    have l2 := hS.bx.cell 2
    have l3 := hS.bx.cell 3
    have l4 := hS.bx.cell 4
    have l5 := hS.bx.cell 5
    have l6 := hS.bx.cell 6
    simp only [cfgCells, callCells, List.getElem?_toArray, List.getElem?_cons_zero, List.getElem?_cons_succ] at l0 l1 l2 l3 l4 l5 l6
    go_simp
    exact ⟨rfl, hS⟩
  simp only [Act.put, List.setIfInBounds_toArray, List.set_cons_zero, List.set_cons_succ]
  refine det_take (i := 30) (d := some 63) (l' := #[true, true, true, true, true, true, true, true, true, true, true, true, true, true, true, true, true, true, true, true, true, true, true, true, true, true, true, true, true, true, true, false, false, false, false, false, false, false, false, false, false, false, false, false, false, false, false, false, false, false, false, false, false, false, false, false, false, false, false, false]) (v := .int .i64 (fitsN c x)) rfl rfl rfl (by kernel_rfl) (by kernel_rfl) (by kernel_rfl) (Or.inl ⟨by rfl, ?_⟩) ?_
  · intro w9 hS
    go_simp
    refine Calls.mono (refFits_val c x _) ?_
    rintro e w8 ⟨rfl, hb⟩
    exact ⟨rfl, hS.step hb⟩
  simp only [Act.put, List.setIfInBounds_toArray, List.set_cons_zero, List.set_cons_succ]
  refine det_take (i := 31) (d := some 64) (l' := #[true, true, true, true, true, true, true, true, true, true, true, true, true, true, true, true, true, true, true, true, true, true, true, true, true, true, true, true, true, true, true, true, false, false, false, false, false, false, false, false, false, false, false, false, false, false, false, false, false, false, false, false, false, false, false, false, false, false, false, false]) (v := .bool true) rfl rfl rfl (by kernel_rfl) (by kernel_rfl) (by kernel_rfl) (Or.inl ⟨by rfl, ?_⟩) ?_
  · intro w9 hS
    go_simp
    first | exact ⟨rfl, hS⟩ | exact ⟨by simp, hS⟩
  simp only [Act.put, List.setIfInBounds_toArray, List.set_cons_zero, List.set_cons_succ]
  refine det_take (i := 32) (d := some 65) (l' := #[true, true, true, true, true, true, true, true, true, true, true, true, true, true, true, true, true, true, true, true, true, true, true, true, true, true, true, true, true, true, true, true, true, false, false, false, false, false, false, false, false, false, false, false, false, false, false, false, false, false, false, false, false, false, false, false, false, false, false, false]) (v := .bool true) rfl rfl rfl (by kernel_rfl) (by kernel_rfl) (by kernel_rfl) (Or.inl ⟨by rfl, ?_⟩) ?_
  · intro w9 hS
    go_simp
    exact ⟨rfl, hS⟩
  simp only [Act.put, List.setIfInBounds_toArray, List.set_cons_zero, List.set_cons_succ]
  refine det_take (i := 33) (d := some 66) (l' := #[true, true, true, true, true, true, true, true, true, true, true, true, true, true, true, true, true, true, true, true, true, true, true, true, true, true, true, true, true, true, true, true, true, true, false, false, false, false, false, false, false, false, false, false, false, false, false, false, false, false, false, false, false, false, false, false, false, false, false, false]) (v := .bool true) rfl rfl rfl (by kernel_rfl) (by kernel_rfl) (by kernel_rfl) (Or.inl ⟨by rfl, ?_⟩) ?_
  · intro w9 hS
    go_simp
    exact ⟨rfl, hS⟩
  simp only [Act.put, List.setIfInBounds_toArray, List.set_cons_zero, List.set_cons_succ]
  refine det_take (i := 34) (d := some 67) (l' := #[true, true, true, true, true, true, true, true, true, true, true, true, true, true, true, true, true, true, true, true, true, true, true, true, true, true, true, true, true, true, true, true, true, true, true, false, false, false, false, false, false, false, false, false, false, false, false, false, false, false, false, false, false, false, false, false, false, false, false, false]) (v := .agg (callCells x)) rfl rfl rfl (by kernel_rfl) (by kernel_rfl) (by kernel_rfl) (Or.inl ⟨by rfl, ?_⟩) ?_
  · intro w9 hS
    have l0 := hS.bx.cell 0
    have l1 := hS.bx.cell 1
    have l2 := hS.bx.cell 2
    have l3 := hS.bx.cell 3
    have l4 := hS.bx.cell 4
    have l5 := hS.bx.cell 5
    have l6 := hS.bx.cell 6
    simp only [cfgCells, callCells, List.getElem?_toArray, List.getElem?_cons_zero, List.getElem?_cons_succ] at l0 l1 l2 l3 l4 l5 l6
    go_simp
    exact ⟨rfl, hS⟩
  simp only [Act.put, List.setIfInBounds_toArray, List.set_cons_zero, List.set_cons_succ]
  refine det_take (i := 35) (d := some 68) (l' := #[true, true, true, true, true, true, true, true, true, true, true, true, true, true, true, true, true, true, true, true, true, true, true, true, true, true, true, true, true, true, true, true, true, true, true, true, false, false, false, false, false, false, false, false, false, false, false, false, false, false, false, false, false, false, false, false, false, false, false, false]) (v := .agg (callCells (cleanF x))) rfl rfl rfl (by kernel_rfl) (by kernel_rfl) (by kernel_rfl) (Or.inl ⟨by rfl, ?_⟩) ?_
  · intro w9 hS
    go_simp
    refine Calls.mono (clean_val x _) ?_
    rintro e w8 ⟨rfl, hb⟩
    exact ⟨rfl, hS.step hb⟩
  simp only [Act.put, List.setIfInBounds_toArray, List.set_cons_zero, List.set_cons_succ]
  refine det_take (i := 36) (d := some 69) (l' := #[true, true, true, true, true, true, true, true, true, true, true, true, true, true, true, true, true, true, true, true, true, true, true, true, true, true, true, true, true, true, true, true, true, true, true, true, true, false, false, false, false, false, false, false, false, false, false, false, false, false, false, false, false, false, false, false, false, false, false, false]) (v := .agg (callCells x)) rfl rfl rfl (by kernel_rfl) (by kernel_rfl) (by kernel_rfl) (Or.inl ⟨by rfl, ?_⟩) ?_
  · intro w9 hS
    have l0 := hS.bx.cell 0
    have l1 := hS.bx.cell 1
    have l2 := hS.bx.cell 2
    have l3 := hS.bx.cell 3
    have l4 := hS.bx.cell 4
    have l5 := hS.bx.cell 5
    have l6 := hS.bx.cell 6
    simp only [cfgCells, callCells, List.getElem?_toArray, List.getElem?_cons_zero, List.getElem?_cons_succ] at l0 l1 l2 l3 l4 l5 l6
    go_simp
    exact ⟨rfl, hS⟩
  simp only [Act.put, List.setIfInBounds_toArray, List.set_cons_zero, List.set_cons_succ]
  refine det_take (i := 37) (d := some 70) (l' := #[true, true, true, true, true, true, true, true, true, true, true, true, true, true, true, true, true, true, true, true, true, true, true, true, true, true, true, true, true, true, true, true, true, true, true, true, true, true, false, false, false, false, false, false, false, false, false, false, false, false, false, false, false, false, false, false, false, false, false, false]) (v := .agg (callCells (cleanF x))) rfl rfl rfl (by kernel_rfl) (by kernel_rfl) (by kernel_rfl) (Or.inl ⟨by rfl, ?_⟩) ?_
  · intro w9 hS
    go_simp
    refine Calls.mono (refClean_val x _) ?_
    rintro e w8 ⟨rfl, hb⟩
    exact ⟨rfl, hS.step hb⟩
  simp only [Act.put, List.setIfInBounds_toArray, List.set_cons_zero, List.set_cons_succ]
  refine det_take (i := 38) (d := some 71) (l' := #[true, true, true, true, true, true, true, true, true, true, true, true, true, true, true, true, true, true, true, true, true, true, true, true, true, true, true, true, true, true, true, true, true, true, true, true, true, true, true, false, false, false, false, false, false, false, false, false, false, false, false, false, false, false, false, false, false, false, false, false]) (v := .bool true) rfl rfl rfl (by kernel_rfl) (by kernel_rfl) (by kernel_rfl) (Or.inl ⟨by rfl, ?_⟩) ?_
  · intro w9 hS
    simp only [callCells]
    go_simp
    first | exact ⟨rfl, hS⟩ | exact ⟨by simp, hS⟩
  simp only [Act.put, List.setIfInBounds_toArray, List.set_cons_zero, List.set_cons_succ]
  refine det_take (i := 39) (d := some 72) (l' := #[true, true, true, true, true, true, true, true, true, true, true, true, true, true, true, true, true, true, true, true, true, true, true, true, true, true, true, true, true, true, true, true, true, true, true, true, true, true, true, true, false, false, false, false, false, false, false, false, false, false, false, false, false, false, false, false, false, false, false, false]) (v := .bool true) rfl rfl rfl (by kernel_rfl) (by kernel_rfl) (by kernel_rfl) (Or.inl ⟨by rfl, ?_⟩) ?_
  · intro w9 hS
    go_simp
    exact ⟨rfl, hS⟩
  simp only [Act.put, List.setIfInBounds_toArray, List.set_cons_zero, List.set_cons_succ]
  refine det_take (i := 40) (d := some 73) (l' := #[true, true, true, true, true, true, true, true, true, true, true, true, true, true, true, true, true, true, true, true, true, true, true, true, true, true, true, true, true, true, true, true, true, true, true, true, true, true, true, true, true, false, false, false, false, false, false, false, false, false, false, false, false, false, false, false, false, false, false, false]) (v := .bool true) rfl rfl rfl (by kernel_rfl) (by kernel_rfl) (by kernel_rfl) (Or.inl ⟨by rfl, ?_⟩) ?_
  · intro w9 hS
    go_simp
    exact ⟨rfl, hS⟩
  simp only [Act.put, List.setIfInBounds_toArray, List.set_cons_zero, List.set_cons_succ]
  refine det_take (i := 41) (d := some 74) (l' := #[true, true, true, true, true, true, true, true, true, true, true, true, true, true, true, true, true, true, true, true, true, true, true, true, true, true, true, true, true, true, true, true, true, true, true, true, true, true, true, true, true, true, false, false, false, false, false, false, false, false, false, false, false, false, false, false, false, false, false, false]) (v := .agg (callCells x)) rfl rfl rfl (by kernel_rfl) (by kernel_rfl) (by kernel_rfl) (Or.inl ⟨by rfl, ?_⟩) ?_
  · intro w9 hS
    have l0 := hS.bx.cell 0
    have l1 := hS.bx.cell 1
    have l2 := hS.bx.cell 2
    have l3 := hS.bx.cell 3
    have l4 := hS.bx.cell 4
    have l5 := hS.bx.cell 5
    have l6 := hS.bx.cell 6
    simp only [cfgCells, callCells, List.getElem?_toArray, List.getElem?_cons_zero, List.getElem?_cons_succ] at l0 l1 l2 l3 l4 l5 l6
    go_simp
    exact ⟨rfl, hS⟩
  simp only [Act.put, List.setIfInBounds_toArray, List.set_cons_zero, List.set_cons_succ]
  refine det_take (i := 42) (d := some 75) (l' := #[true, true, true, true, true, true, true, true, true, true, true, true, true, true, true, true, true, true, true, true, true, true, true, true, true, true, true, true, true, true, true, true, true, true, true, true, true, true, true, true, true, true, true, false, false, false, false, false, false, false, false, false, false, false, false, false, false, false, false, false]) (v := .agg (callCells y)) rfl rfl rfl (by kernel_rfl) (by kernel_rfl) (by kernel_rfl) (Or.inl ⟨by rfl, ?_⟩) ?_
  · intro w9 hS
    have l0 := hS.by_.cell 0
    have l1 := hS.by_.cell 1
    have l2 := hS.by_.cell 2
    have l3 := hS.by_.cell 3
    have l4 := hS.by_.cell 4
    have l5 := hS.by_.cell 5
    have l6 := hS.by_.cell 6
    simp only [cfgCells, callCells, List.getElem?_toArray, List.getElem?_cons_zero, List.getElem?_cons_succ] at l0 l1 l2 l3 l4 l5 l6
    go_simp
    exact ⟨rfl, hS⟩
  simp only [Act.put, List.setIfInBounds_toArray, List.set_cons_zero, List.set_cons_succ]
  refine det_take (i := 43) (d := some 76) (l' := #[true, true, true, true, true, true, true, true, true, true, true, true, true, true, true, true, true, true, true, true, true, true, true, true, true, true, true, true, true, true, true, true, true, true, true, true, true, true, true, true, true, true, true, true, false, false, false, false, false, false, false, false, false, false, false, false, false, false, false, false]) (v := .bool (sameF x y)) rfl rfl rfl (by kernel_rfl) (by kernel_rfl) (by kernel_rfl) (Or.inl ⟨by rfl, ?_⟩) ?_
  · intro w9 hS
    go_simp
    refine Calls.mono (same_val x y _) ?_
    rintro e w8 ⟨rfl, hb⟩
    exact ⟨rfl, hS.step hb⟩
  simp only [Act.put, List.setIfInBounds_toArray, List.set_cons_zero, List.set_cons_succ]
  refine det_take (i := 44) (d := some 77) (l' := #[true, true, true, true, true, true, true, true, true, true, true, true, true, true, true, true, true, true, true, true, true, true, true, true, true, true, true, true, true, true, true, true, true, true, true, true, true, true, true, true, true, true, true, true, true, false, false, false, false, false, false, false, false, false, false, false, false, false, false, false]) (v := .agg (callCells x)) rfl rfl rfl (by kernel_rfl) (by kernel_rfl) (by kernel_rfl) (Or.inl ⟨by rfl, ?_⟩) ?_
  · intro w9 hS
    have l0 := hS.bx.cell 0
    have l1 := hS.bx.cell 1
    have l2 := hS.bx.cell 2
    have l3 := hS.bx.cell 3
    have l4 := hS.bx.cell 4
    have l5 := hS.bx.cell 5
    have l6 := hS.bx.cell 6
    simp only [cfgCells, callCells, List.getElem?_toArray, List.getElem?_cons_zero, List.getElem?_cons_succ] at l0 l1 l2 l3 l4 l5 l6
    go_simp
    exact ⟨rfl, hS⟩
  simp only [Act.put, List.setIfInBounds_toArray, List.set_cons_zero, List.set_cons_succ]
  refine det_take (i := 45) (d := some 78) (l' := #[true, true, true, true, true, true, true, true, true, true, true, true, true, true, true, true, true, true, true, true, true, true, true, true, true, true, true, true, true, true, true, true, true, true, true, true, true, true, true, true, true, true, true, true, true, true, false, false, false, false, false, false, false, false, false, false, false, false, false, false]) (v := .agg (callCells y)) rfl rfl rfl (by kernel_rfl) (by kernel_rfl) (by kernel_rfl) (Or.inl ⟨by rfl, ?_⟩) ?_
  · intro w9 hS
    have l0 := hS.by_.cell 0
    have l1 := hS.by_.cell 1
    have l2 := hS.by_.cell 2
    have l3 := hS.by_.cell 3
    have l4 := hS.by_.cell 4
    have l5 := hS.by_.cell 5
    have l6 := hS.by_.cell 6
    simp only [cfgCells, callCells, List.getElem?_toArray, List.getElem?_cons_zero, List.getElem?_cons_succ] at l0 l1 l2 l3 l4 l5 l6
    go_simp
    exact ⟨rfl, hS⟩
  simp only [Act.put, List.setIfInBounds_toArray, List.set_cons_zero, List.set_cons_succ]
  refine det_take (i := 46) (d := some 79) (l' := #[true, true, true, true, true, true, true, true, true, true, true, true, true, true, true, true, true, true, true, true, true, true, true, true, true, true, true, true, true, true, true, true, true, true, true, true, true, true, true, true, true, true, true, true, true, true, true, false, false, false, false, false, false, false, false, false, false, false, false, false]) (v := .bool (sameF x y)) rfl rfl rfl (by kernel_rfl) (by kernel_rfl) (by kernel_rfl) (Or.inl ⟨by rfl, ?_⟩) ?_
  · intro w9 hS
    go_simp
    refine Calls.mono (refSame_val x y _) ?_
    rintro e w8 ⟨rfl, hb⟩
    exact ⟨rfl, hS.step hb⟩
  simp only [Act.put, List.setIfInBounds_toArray, List.set_cons_zero, List.set_cons_succ]
  refine det_take (i := 47) (d := some 80) (l' := #[true, true, true, true, true, true, true, true, true, true, true, true, true, true, true, true, true, true, true, true, true, true, true, true, true, true, true, true, true, true, true, true, true, true, true, true, true, true, true, true, true, true, true, true, true, true, true, true, false, false, false, false, false, false, false, false, false, false, false, false]) (v := .bool true) rfl rfl rfl (by kernel_rfl) (by kernel_rfl) (by kernel_rfl) (Or.inl ⟨by rfl, ?_⟩) ?_
  · intro w9 hS
    go_simp
    first | exact ⟨rfl, hS⟩ | exact ⟨by simp, hS⟩
  simp only [Act.put, List.setIfInBounds_toArray, List.set_cons_zero, List.set_cons_succ]
  refine det_take (i := 48) (d := some 81) (l' := #[true, true, true, true, true, true, true, true, true, true, true, true, true, true, true, true, true, true, true, true, true, true, true, true, true, true, true, true, true, true, true, true, true, true, true, true, true, true, true, true, true, true, true, true, true, true, true, true, true, false, false, false, false, false, false, false, false, false, false, false]) (v := .bool true) rfl rfl rfl (by kernel_rfl) (by kernel_rfl) (by kernel_rfl) (Or.inl ⟨by rfl, ?_⟩) ?_
  · intro w9 hS
    go_simp
    exact ⟨rfl, hS⟩
  simp only [Act.put, List.setIfInBounds_toArray, List.set_cons_zero, List.set_cons_succ]
  refine det_take (i := 49) (d := some 82) (l' := #[true, true, true, true, true, true, true, true, true, true, true, true, true, true, true, true, true, true, true, true, true, true, true, true, true, true, true, true, true, true, true, true, true, true, true, true, true, true, true, true, true, true, true, true, true, true, true, true, true, true, false, false, false, false, false, false, false, false, false, false]) (v := .bool true) rfl rfl rfl (by kernel_rfl) (by kernel_rfl) (by kernel_rfl) (Or.inl ⟨by rfl, ?_⟩) ?_
  · intro w9 hS
    go_simp
    exact ⟨rfl, hS⟩
  simp only [Act.put, List.setIfInBounds_toArray, List.set_cons_zero, List.set_cons_succ]
  refine det_take (i := 50) (d := some 83) (l' := #[true, true, true, true, true, true, true, true, true, true, true, true, true, true, true, true, true, true, true, true, true, true, true, true, true, true, true, true, true, true, true, true, true, true, true, true, true, true, true, true, true, true, true, true, true, true, true, true, true, true, true, false, false, false, false, false, false, false, false, false]) (v := .agg (callCells x)) rfl rfl rfl (by kernel_rfl) (by kernel_rfl) (by kernel_rfl) (Or.inl ⟨by rfl, ?_⟩) ?_
  · intro w9 hS
    have l0 := hS.bx.cell 0
    have l1 := hS.bx.cell 1
    have l2 := hS.bx.cell 2
    have l3 := hS.bx.cell 3
    have l4 := hS.bx.cell 4
    have l5 := hS.bx.cell 5
    have l6 := hS.bx.cell 6
    simp only [cfgCells, callCells, List.getElem?_toArray, List.getElem?_cons_zero, List.getElem?_cons_succ] at l0 l1 l2 l3 l4 l5 l6
    go_simp
    exact ⟨rfl, hS⟩
  simp only [Act.put, List.setIfInBounds_toArray, List.set_cons_zero, List.set_cons_succ]
  refine det_take (i := 51) (d := some 84) (l' := #[true, true, true, true, true, true, true, true, true, true, true, true, true, true, true, true, true, true, true, true, true, true, true, true, true, true, true, true, true, true, true, true, true, true, true, true, true, true, true, true, true, true, true, true, true, true, true, true, true, true, true, true, false, false, false, false, false, false, false, false]) (v := .string (bs (showF x))) rfl rfl rfl (by kernel_rfl) (by kernel_rfl) (by kernel_rfl) (Or.inl ⟨by rfl, ?_⟩) ?_
  · intro w9 hS
    go_simp
    refine Calls.mono (show_any x _ hS.env HCx.out) ?_
    rintro e w8 ⟨rfl, hb⟩
    exact ⟨rfl, hS.step hb⟩
  simp only [Act.put, List.setIfInBounds_toArray, List.set_cons_zero, List.set_cons_succ]
  refine det_take (i := 52) (d := some 85) (l' := #[true, true, true, true, true, true, true, true, true, true, true, true, true, true, true, true, true, true, true, true, true, true, true, true, true, true, true, true, true, true, true, true, true, true, true, true, true, true, true, true, true, true, true, true, true, true, true, true, true, true, true, true, true, false, false, false, false, false, false, false]) (v := .agg (callCells x)) rfl rfl rfl (by kernel_rfl) (by kernel_rfl) (by kernel_rfl) (Or.inl ⟨by rfl, ?_⟩) ?_
  · intro w9 hS
    have l0 := hS.bx.cell 0
    have l1 := hS.bx.cell 1
    have l2 := hS.bx.cell 2
    have l3 := hS.bx.cell 3
    have l4 := hS.bx.cell 4
    have l5 := hS.bx.cell 5
    have l6 := hS.bx.cell 6
    simp only [cfgCells, callCells, List.getElem?_toArray, List.getElem?_cons_zero, List.getElem?_cons_succ] at l0 l1 l2 l3 l4 l5 l6
    go_simp
    exact ⟨rfl, hS⟩
  simp only [Act.put, List.setIfInBounds_toArray, List.set_cons_zero, List.set_cons_succ]
  refine det_take (i := 53) (d := some 86) (l' := #[true, true, true, true, true, true, true, true, true, true, true, true, true, true, true, true, true, true, true, true, true, true, true, true, true, true, true, true, true, true, true, true, true, true, true, true, true, true, true, true, true, true, true, true, true, true, true, true, true, true, true, true, true, true, false, false, false, false, false, false]) (v := .string (bs (showF x))) rfl rfl rfl (by kernel_rfl) (by kernel_rfl) (by kernel_rfl) (Or.inl ⟨by rfl, ?_⟩) ?_
  · intro w9 hS
    go_simp
    refine Calls.mono (refShow_val x HRx.out _) ?_
    rintro e w8 ⟨rfl, hb⟩
    exact ⟨rfl, hS.step hb⟩
  simp only [Act.put, List.setIfInBounds_toArray, List.set_cons_zero, List.set_cons_succ]
  refine det_take (i := 54) (d := some 87) (l' := #[true, true, true, true, true, true, true, true, true, true, true, true, true, true, true, true, true, true, true, true, true, true, true, true, true, true, true, true, true, true, true, true, true, true, true, true, true, true, true, true, true, true, true, true, true, true, true, true, true, true, true, true, true, true, true, false, false, false, false, false]) (v := .bool true) rfl rfl rfl (by kernel_rfl) (by kernel_rfl) (by kernel_rfl) (Or.inl ⟨by rfl, ?_⟩) ?_
  · intro w9 hS
    go_simp
    first | exact ⟨rfl, hS⟩ | exact ⟨by simp, hS⟩
  simp only [Act.put, List.setIfInBounds_toArray, List.set_cons_zero, List.set_cons_succ]
  refine det_take (i := 55) (d := some 88) (l' := #[true, true, true, true, true, true, true, true, true, true, true, true, true, true, true, true, true, true, true, true, true, true, true, true, true, true, true, true, true, true, true, true, true, true, true, true, true, true, true, true, true, true, true, true, true, true, true, true, true, true, true, true, true, true, true, true, false, false, false, false]) (v := .bool true) rfl rfl rfl (by kernel_rfl) (by kernel_rfl) (by kernel_rfl) (Or.inl ⟨by rfl, ?_⟩) ?_
  · intro w9 hS
    go_simp
    exact ⟨rfl, hS⟩
  simp only [Act.put, List.setIfInBounds_toArray, List.set_cons_zero, List.set_cons_succ]
  refine det_take (i := 56) (d := some 89) (l' := #[true, true, true, true, true, true, true, true, true, true, true, true, true, true, true, true, true, true, true, true, true, true, true, true, true, true, true, true, true, true, true, true, true, true, true, true, true, true, true, true, true, true, true, true, true, true, true, true, true, true, true, true, true, true, true, true, true, false, false, false]) (v := .bool true) rfl rfl rfl (by kernel_rfl) (by kernel_rfl) (by kernel_rfl) (Or.inl ⟨by rfl, ?_⟩) ?_
  · intro w9 hS
    go_simp
    exact ⟨rfl, hS⟩
  simp only [Act.put, List.setIfInBounds_toArray, List.set_cons_zero, List.set_cons_succ]
  refine det_take (i := 57) (d := some 90) (l' := #[true, true, true, true, true, true, true, true, true, true, true, true, true, true, true, true, true, true, true, true, true, true, true, true, true, true, true, true, true, true, true, true, true, true, true, true, true, true, true, true, true, true, true, true, true, true, true, true, true, true, true, true, true, true, true, true, true, true, false, false]) (v := .bool true) rfl rfl rfl (by kernel_rfl) (by kernel_rfl) (by kernel_rfl) (Or.inl ⟨by rfl, ?_⟩) ?_
  · intro w9 hS
    go_simp
    refine Calls.mono (works_any _ hS.env) ?_
    rintro e w8 ⟨rfl, hb⟩
    exact ⟨rfl, hS.step hb⟩
  simp only [Act.put, List.setIfInBounds_toArray, List.set_cons_zero, List.set_cons_succ]
  refine det_take (i := 58) (d := some 91) (l' := #[true, true, true, true, true, true, true, true, true, true, true, true, true, true, true, true, true, true, true, true, true, true, true, true, true, true, true, true, true, true, true, true, true, true, true, true, true, true, true, true, true, true, true, true, true, true, true, true, true, true, true, true, true, true, true, true, true, true, true, false]) (v := .bool true) rfl rfl rfl (by kernel_rfl) (by kernel_rfl) (by kernel_rfl) (Or.inl ⟨by rfl, ?_⟩) ?_
  · intro w9 hS
    go_simp
    exact ⟨rfl, hS⟩
  simp only [Act.put, List.setIfInBounds_toArray, List.set_cons_zero, List.set_cons_succ]
  refine det_take (i := 59) (d := some 8) (l' := #[true, true, true, true, true, true, true, true, true, true, true, true, true, true, true, true, true, true, true, true, true, true, true, true, true, true, true, true, true, true, true, true, true, true, true, true, true, true, true, true, true, true, true, true, true, true, true, true, true, true, true, true, true, true, true, true, true, true, true, true]) (v := .bool true) rfl rfl rfl (by kernel_rfl) (by kernel_rfl) (by kernel_rfl) (Or.inl ⟨by rfl, ?_⟩) ?_
  · intro w9 hS
    go_simp
    exact ⟨rfl, hS⟩
  simp only [Act.put, List.setIfInBounds_toArray, List.set_cons_zero, List.set_cons_succ]
  refine det_done (by kernel_rfl) ?_ _
  intro w9 hS
  go_wp2
  go_ret
  exact Ret.of rfl hS.below

set_option maxHeartbeats 4000000 in
theorem tells_long (c : CfgR) (x y : CallR) (s : Bs) (w : World) (hE : Env w) (hL : 9000 ≤ longN x + longN y) :
    Calls Tryz.prog 4 #[cfgV c, callV x, callV y, .string (bs s)] w (Ret w (.bool true)) := by
  have hdL : decide (9000 ≤ longN x + longN y) = true := decide_eq_true hL
  have HD := Lib.hid hdL
  have HE := Lib.hid hE
  clear hdL hE hL
  go_enter Tryz.func4, Tryz.ntmps4
  unfold cfgV callV callCells
  go_wp2_with fail
  obtain ⟨hB, h1, h2, h3, hsz⟩ := three_new w (cfgCells c) (callCells x) (callCells y) 36 38 38
  unfold cfgCells callCells at hB h1 h2 h3 hsz
  generalize (((w.alloc (.cells _ _)).alloc (.cells _ _)).alloc (.cells _ _)) = W0 at *
  have HB := Lib.hid hB
  have H1 := Lib.hid h1
  have H2 := Lib.hid h2
  have H3 := Lib.hid h3
  clear hB h1 h2 h3
  refine (long_two x y _ _ ?k2 ?k3 ?k4 ?k9 ?k10 ?k11).mono ?_
  case k2 => rw [show w.heap.size + 1 + 1 + 1 = W0.heap.size by omega]; exact Lib.cell_of_heap (heap_alloc_new _ _) 2
  case k3 => rw [show w.heap.size + 1 + 1 + 1 = W0.heap.size by omega]; exact Lib.cell_of_heap (heap_alloc_new _ _) 3
  case k4 => rw [show w.heap.size + 1 + 1 + 1 = W0.heap.size by omega]; exact Lib.cell_of_heap (heap_alloc_new _ _) 4
  case k9 => rw [show w.heap.size + 1 + 1 + 1 = W0.heap.size by omega]; exact Lib.cell_of_heap (heap_alloc_new _ _) 9
  case k10 => rw [show w.heap.size + 1 + 1 + 1 = W0.heap.size by omega]; exact Lib.cell_of_heap (heap_alloc_new _ _) 10
  case k11 => rw [show w.heap.size + 1 + 1 + 1 = W0.heap.size by omega]; exact Lib.cell_of_heap (heap_alloc_new _ _) 11
  rw [HD.out]
  rintro e w1 ⟨rfl, hb1⟩
  have HB := hnew HB (by omega) hb1
  clear hb1 H1 H2 H3
  go_wp2_with fail
  refine (works_any _ (HE.out.below HB.out)).mono ?_
  rintro e w3 ⟨rfl, hb3⟩
  go_wp2_with fail
  go_ret
  exact Ret.of rfl (HB.out.trans (hb3.mono HB.out.size))

set_option maxHeartbeats 4000000 in
theorem tells_wide (c : CfgR) (x y : CallR) (s : Bs) (w : World) (hE : Env w) (hL : ¬ 9000 ≤ longN x + longN y) (hs : 9000 < s.length) :
    Calls Tryz.prog 4 #[cfgV c, callV x, callV y, .string (bs s)] w (Ret w (.bool true)) := by
  have hdL : decide (9000 ≤ longN x + longN y) = false := decide_eq_false hL
  have HD := Lib.hid hdL
  have HE := Lib.hid hE
  clear hdL hE hL
  go_enter Tryz.func4, Tryz.ntmps4
  unfold cfgV callV callCells
  go_wp2_with fail
  obtain ⟨hB, h1, h2, h3, hsz⟩ := three_new w (cfgCells c) (callCells x) (callCells y) 36 38 38
  unfold cfgCells callCells at hB h1 h2 h3 hsz
  generalize (((w.alloc (.cells _ _)).alloc (.cells _ _)).alloc (.cells _ _)) = W0 at *
  have HB := Lib.hid hB
  have H1 := Lib.hid h1
  have H2 := Lib.hid h2
  have H3 := Lib.hid h3
  clear hB h1 h2 h3
  refine (long_two x y _ _ ?k2 ?k3 ?k4 ?k9 ?k10 ?k11).mono ?_
  case k2 => rw [show w.heap.size + 1 + 1 + 1 = W0.heap.size by omega]; exact Lib.cell_of_heap (heap_alloc_new _ _) 2
  case k3 => rw [show w.heap.size + 1 + 1 + 1 = W0.heap.size by omega]; exact Lib.cell_of_heap (heap_alloc_new _ _) 3
  case k4 => rw [show w.heap.size + 1 + 1 + 1 = W0.heap.size by omega]; exact Lib.cell_of_heap (heap_alloc_new _ _) 4
  case k9 => rw [show w.heap.size + 1 + 1 + 1 = W0.heap.size by omega]; exact Lib.cell_of_heap (heap_alloc_new _ _) 9
  case k10 => rw [show w.heap.size + 1 + 1 + 1 = W0.heap.size by omega]; exact Lib.cell_of_heap (heap_alloc_new _ _) 10
  case k11 => rw [show w.heap.size + 1 + 1 + 1 = W0.heap.size by omega]; exact Lib.cell_of_heap (heap_alloc_new _ _) 11
  rw [HD.out]
  rintro e w1 ⟨rfl, hb1⟩
  have HB := hnew HB (by omega) hb1
  clear hb1 H1 H2 H3
  go_wp2_with fail
  refine (works_any _ (HE.out.below HB.out)).mono ?_
  rintro e w3 ⟨rfl, hb3⟩
  go_wp2_with fail
  go_ret
  exact Ret.of rfl (HB.out.trans (hb3.mono HB.out.size))

/-- The law CallTells. -/
theorem tells_any (c : CfgR) (x y : CallR) (s : Bs) (w : World) (hE : Env w) (hx : CallIn x) (hy : CallIn y) :
    Calls Tryz.prog 4 #[cfgV c, callV x, callV y, .string (bs s)] w (Ret w (.bool true)) := by
  by_cases hL : 9000 ≤ longN x + longN y
  · exact tells_long c x y s w hE hL
  · by_cases hs : s.length ≤ 9000
    · exact tells_main c x y s w hE hx hy hL hs
    · exact tells_wide c x y s w hE hL (by omega)
end Go.Proofs.YthhhdddojmkgnaaGreatDoor

