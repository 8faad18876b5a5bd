/-
  The law CallOne walked.
-/
import Derived.Test.YthhhdddojmkgnaaGreatDoorCallRj
import Derived.Test.YthhhdddojmkgnaaGreatDoorCallRk
import Derived.Test.YthhhdddojmkgnaaGreatDoorCallIb
import Derived.Test.YthhhdddojmkgnaaGreatDoorCallD
namespace Go.Proofs.YthhhdddojmkgnaaGreatDoor
open Go.RowKit

theorem may_is (x : CallR) (m : Int) (w : World) (h : mayN x = m) : Calls Tryz.prog 21 #[callV x] w (Ret w (.int .i64 m)) := h ▸ may_any x w
theorem same_is (x y : CallR) (d : Bool) (w : World) (h : sameF x y = d) : Calls Tryz.prog 27 #[callV x, callV y] w (Ret w (.bool d)) := h ▸ same_val x y w
theorem answers_is (a b : AnsR) (va vb : Value) (d : Bool) (w : World) (hn : a.pairs.length ≤ 1000000) (hA : PairsAt w va a.pairs) (hB : PairsAt w vb b.pairs) (h : sameA a b = d) :
    Calls Tryz.prog 13 #[ansVV a va, ansVV b vb] w (Ret w (.bool d)) := h ▸ answers_val a b va vb w hn hA hB
theorem callOk_in {x : CallR} (h : CallIn x) (h1 : x.key.length ≤ 9000 ∧ x.en.length ≤ 9000 ∧ x.va.length ≤ 9000) : CallOk x := ⟨h.tx, h.lim, by omega, by omega, by omega⟩

/-- The law's own arguments. -/
structure OnS (w0 : World) (x y : CallR) (a b : AnsR) (va vb : Value) (W : World) : Prop where
  below : Below w0.heap.size w0 W
  env0 : Env w0
  pa0 : PairsAt w0 va a.pairs
  pb0 : PairsAt w0 vb b.pairs
  bx : Blk W w0.heap.size (callCells x) 38
  by_ : Blk W (w0.heap.size + 1) (callCells y) 38
  ba : Blk W (w0.heap.size + 2) (ansCells a va) 25
  bb : Blk W (w0.heap.size + 3) (ansCells b vb) 25
theorem OnS.step {w0 : World} {x y : CallR} {a b : AnsR} {va vb : Value} {W W' : World} (h : OnS w0 x y a b va vb W) (hb : Below W.heap.size W W') : OnS w0 x y a b va vb W' :=
  ⟨h.below.trans (hb.mono h.below.size), h.env0, h.pa0, h.pb0, h.bx.below hb, h.by_.below hb, h.ba.below hb, h.bb.below hb⟩
theorem OnS.drew {w0 : World} {x y : CallR} {a b : AnsR} {va vb : Value} {W : World} (h : OnS w0 x y a b va vb W) : OnS w0 x y a b va vb W.drew := h.step (Below.refl W.heap.size W).drew
theorem OnS.env {w0 : World} {x y : CallR} {a b : AnsR} {va vb : Value} {W : World} (h : OnS w0 x y a b va vb W) : Env W := h.env0.below h.below
theorem OnS.pa {w0 : World} {x y : CallR} {a b : AnsR} {va vb : Value} {W : World} (h : OnS w0 x y a b va vb W) : PairsAt W va a.pairs := h.pa0.below h.below
theorem OnS.pb {w0 : World} {x y : CallR} {a b : AnsR} {va vb : Value} {W : World} (h : OnS w0 x y a b va vb W) : PairsAt W vb b.pairs := h.pb0.below h.below
theorem OnS.new (w : World) (x y : CallR) (a b : AnsR) (va vb : Value) (hE : Env w) (ha : PairsAt w va a.pairs) (hb : PairsAt w vb b.pairs) :
    OnS w x y a b va vb ((((w.alloc (.cells (callCells x) 38)).alloc (.cells (callCells y) 38)).alloc (.cells (ansCells a va) 25)).alloc (.cells (ansCells b vb) 25)) := by
  obtain ⟨h1, h2, h3, h4, h5⟩ := three_new w (callCells x) (callCells y) (ansCells a va) 38 38 25
  refine ⟨h1.alloc (by omega) _, hE, ha, hb, h2.alloc _, h3.alloc _, h4.alloc _, ?_⟩
  have := Blk.new (((w.alloc (.cells (callCells x) 38)).alloc (.cells (callCells y) 38)).alloc (.cells (ansCells a va) 25)) (ansCells b vb) 25
  rwa [h5] at this

theorem ans_cat (a b : AnsR) (va vb : Value) : ansCells a va ++ ansCells b vb = #[.int .i64 a.err, .bool a.found, .string (bs a.va), va, .int .i64 b.err, .bool b.found, .string (bs b.va), vb] := by simp [ansCells]
theorem long_small {x y : CallR} (h : ¬ 9000 ≤ longN x + longN y) : (x.key.length ≤ 9000 ∧ x.en.length ≤ 9000 ∧ x.va.length ≤ 9000) ∧ (y.key.length ≤ 9000 ∧ y.en.length ≤ 9000 ∧ y.va.length ≤ 9000) := by
  unfold longN at h; omega
theorem slice_of {w : World} {v : Value} {ps : List (Bs × Bs)} (h : PairsAt w v ps) : ∃ A n c, v = .slice A n c := by
  obtain ⟨A, c, h, _⟩ := h
  exact ⟨_, _, _, h⟩

set_option maxRecDepth 100000 in
set_option maxHeartbeats 16000000 in
theorem one_main (x y : CallR) (a b : AnsR) (va vb : Value) (w : World) (hE : Env w) (hx : CallIn x) (hy : CallIn y) (ea : IsInt a.err) (eb : IsInt b.err) (hA : PairsAt w va a.pairs) (hB : PairsAt w vb b.pairs) (hL : ¬ 9000 ≤ longN x + longN y) (hw : wideF [a, b] = false) :
    Calls Tryz.prog 5 #[callV x, callV y, ansVV a va, ansVV b vb] w (Ret w (.bool true)) := by
  have hok := wide_ok hw (fun z hz => by simp at hz; rcases hz with rfl | rfl; exact ea; exact eb)
  have HAa := Lib.hid (hok a (by simp))
  have HAb := Lib.hid (hok b (by simp))
  have HCx := Lib.hid (callOk_in hx (long_small hL).1)
  have HCy := Lib.hid (callOk_in hy (long_small hL).2)
  have hdL : decide (9000 ≤ longN x + longN y) = false := decide_eq_false hL
  have HD := Lib.hid hdL
  have HW := Lib.hid hw
  have hna := hA.max
  have hnb := hB.max
  obtain ⟨D5, hD5⟩ : ∃ D, sameA a b = D := ⟨_, rfl⟩
  have hte : (tellF a == tellF b) = D5 := by
    rw [← hD5, Bool.eq_iff_iff, beq_iff_eq, sameA_iff]
    exact tell_inj ea eb
  have HEq := Lib.hid hD5
  have HTe := Lib.hid hte
  have HS := Lib.hid (OnS.new w x y a b va vb hE hA hB)
  obtain ⟨vA, vn, vc, rfl⟩ := slice_of hA
  obtain ⟨uA, un, uc, rfl⟩ := slice_of hB
  clear hok hdL hw hL hD5 hte hE hA hB ea eb
  go_enter Tryz.func5, Tryz.ntmps5
  unfold callV callCells ansVV ansCells
  go_wp2_with fail
  refine (works_any _ HS.out.env).mono ?_
  rintro e w1 ⟨rfl, hb1⟩
  have HS := Lib.hid (HS.out.step hb1)
  clear hb1
  have cx0 := HS.out.bx.cell 0
  have cx1 := HS.out.bx.cell 1
  have cx2 := HS.out.bx.cell 2
  have cx3 := HS.out.bx.cell 3
  have cx4 := HS.out.bx.cell 4
  have cx5 := HS.out.bx.cell 5
  have cx6 := HS.out.bx.cell 6
  simp only [callCells, List.getElem?_toArray, List.getElem?_cons_zero, List.getElem?_cons_succ] at cx0 cx1 cx2 cx3 cx4 cx5 cx6
  have cy0 := HS.out.by_.cell 0
  have cy1 := HS.out.by_.cell 1
  have cy2 := HS.out.by_.cell 2
  have cy3 := HS.out.by_.cell 3
  have cy4 := HS.out.by_.cell 4
  have cy5 := HS.out.by_.cell 5
  have cy6 := HS.out.by_.cell 6
  simp only [callCells, List.getElem?_toArray, List.getElem?_cons_zero, List.getElem?_cons_succ] at cy0 cy1 cy2 cy3 cy4 cy5 cy6
  go_wp2_with fail
  refine (long_two x y _ _ ?k2 ?k3 ?k4 ?k9 ?k10 ?k11).mono ?_
  case k2 => exact Lib.cell_of_heap (heap_alloc_new _ _) 2
  case k3 => exact Lib.cell_of_heap (heap_alloc_new _ _) 3
  case k4 => exact Lib.cell_of_heap (heap_alloc_new _ _) 4
  case k9 => exact Lib.cell_of_heap (heap_alloc_new _ _) 9
  case k10 => exact Lib.cell_of_heap (heap_alloc_new _ _) 10
  case k11 => exact Lib.cell_of_heap (heap_alloc_new _ _) 11
  rw [HD.out]
  rintro e w2 ⟨rfl, hb2⟩
  have HS := Lib.hid ((HS.out.step (below_new _ _)).step hb2)
  clear hb2 cx0 cy0 cx1 cy1 cx2 cy2 cx3 cy3 cx4 cy4 cx5 cy5 cx6 cy6
  have ca0 := HS.out.ba.cell 0
  have ca1 := HS.out.ba.cell 1
  have ca2 := HS.out.ba.cell 2
  have ca3 := HS.out.ba.cell 3
  simp only [ansCells, List.getElem?_toArray, List.getElem?_cons_zero, List.getElem?_cons_succ] at ca0 ca1 ca2 ca3
  have cb0 := HS.out.bb.cell 0
  have cb1 := HS.out.bb.cell 1
  have cb2 := HS.out.bb.cell 2
  have cb3 := HS.out.bb.cell 3
  simp only [ansCells, List.getElem?_toArray, List.getElem?_cons_zero, List.getElem?_cons_succ] at cb0 cb1 cb2 cb3
  go_wp2_with fail
  refine (wide_two a b (.slice vA vn vc) (.slice uA un uc) _ _ hna hnb (HS.out.step (below_new _ _)).pa (HS.out.step (below_new _ _)).pb ?kw).mono ?_
  case kw =>
    intro j
    rw [ans_cat]
    exact Lib.cell_of_heap (heap_alloc_new _ _) j
  rw [HW.out]
  rintro e w3 ⟨rfl, hb3⟩
  have HS := Lib.hid ((HS.out.step (below_new _ _)).step hb3)
  clear hb3 ca0 cb0 ca1 cb1 ca2 cb2 ca3 cb3
  go_wp2_with fail
  cases hmx : mayF x
  · have HMx := Lib.hid (show mayN x = 1 by rw [mayN, hmx]; rfl)
    clear hmx
    refine det_start (n := 19) (l := #[false, false, false, false, false, false, false, false, false, false, false, false, false, false, false, false, false, false, false]) (S := OnS w x y a b (.slice vA vn vc) (.slice uA un uc)) (by kernel_rfl) (by rfl) (by rfl) HS.out.drew ?_
    refine det_take (i := 0) (d := some 24) (l' := #[true, false, false, false, false, false, false, false, false, false, false, false, false, false, false, false, false, false, false]) (v := .agg (callCells x)) rfl rfl rfl (by kernel_rfl) (by kernel_rfl) (by kernel_rfl) (Or.inl ⟨by rfl, ?_⟩) ?_
    · intro w9 hS
      have l0 := hS.bx.cell 0
      have l1 := hS.bx.cell 1
      have l2 := hS.bx.cell 2
      have l3 := hS.bx.cell 3
      have l4 := hS.bx.cell 4
      have l5 := hS.bx.cell 5
      have l6 := hS.bx.cell 6
      simp only [callCells, List.getElem?_toArray, List.getElem?_cons_zero, List.getElem?_cons_succ] at l0 l1 l2 l3 l4 l5 l6
      go_simp
      exact ⟨rfl, hS⟩
    simp only [Act.put, List.setIfInBounds_toArray, List.set_cons_zero, List.set_cons_succ]
    refine det_take (i := 1) (d := some 25) (l' := #[true, true, false, false, false, false, false, false, false, false, false, false, false, false, false, false, false, false, false]) (v := .int .i64 1) rfl rfl rfl (by kernel_rfl) (by kernel_rfl) (by kernel_rfl) (Or.inl ⟨by rfl, ?_⟩) ?_
    · intro w9 hS
      go_simp
      refine Calls.mono (may_is x 1 _ HMx.out) ?_
      rintro e w8 ⟨rfl, hb⟩
      exact ⟨rfl, hS.step hb⟩
    simp only [Act.put, List.setIfInBounds_toArray, List.set_cons_zero, List.set_cons_succ]
    refine det_take (i := 2) (d := some 26) (l' := #[true, true, true, false, false, false, false, false, false, false, false, false, false, false, false, false, false, false, false]) (v := .bool false) rfl rfl rfl (by kernel_rfl) (by kernel_rfl) (by kernel_rfl) (Or.inl ⟨by rfl, ?_⟩) ?_
    · intro w9 hS
      go_simp
      first | exact ⟨rfl, hS⟩ | exact ⟨by simp, hS⟩
    simp only [Act.put, List.setIfInBounds_toArray, List.set_cons_zero, List.set_cons_succ]
    refine det_take (i := 3) (d := some 27) (l' := #[true, true, true, true, false, false, false, false, false, false, false, false, false, false, false, false, false, false, false]) (v := .bool false) rfl rfl rfl (by kernel_rfl) (by kernel_rfl) (by kernel_rfl) (Or.inl ⟨by rfl, ?_⟩) ?_
    · intro w9 hS
      go_simp
      exact ⟨rfl, hS⟩
    simp only [Act.put, List.setIfInBounds_toArray, List.set_cons_zero, List.set_cons_succ]
    refine det_take (i := 4) (d := some 28) (l' := #[true, true, true, true, true, false, false, false, false, false, false, false, false, false, false, false, false, false, false]) (v := undef) rfl rfl rfl (by kernel_rfl) (by kernel_rfl) (by kernel_rfl) (Or.inr ⟨by rfl, rfl⟩) ?_
    simp only [Act.put, List.setIfInBounds_toArray, List.set_cons_zero, List.set_cons_succ]
    refine det_take (i := 5) (d := some 29) (l' := #[true, true, true, true, true, true, false, false, false, false, false, false, false, false, false, false, false, false, false]) (v := undef) rfl rfl rfl (by kernel_rfl) (by kernel_rfl) (by kernel_rfl) (Or.inr ⟨by rfl, rfl⟩) ?_
    simp only [Act.put, List.setIfInBounds_toArray, List.set_cons_zero, List.set_cons_succ]
    refine det_take (i := 6) (d := some 30) (l' := #[true, true, true, true, true, true, true, false, false, false, false, false, false, false, false, false, false, false, false]) (v := undef) rfl rfl rfl (by kernel_rfl) (by kernel_rfl) (by kernel_rfl) (Or.inr ⟨by rfl, rfl⟩) ?_
    simp only [Act.put, List.setIfInBounds_toArray, List.set_cons_zero, List.set_cons_succ]
    refine det_take (i := 7) (d := some 31) (l' := #[true, true, true, true, true, true, true, true, false, false, false, false, false, false, false, false, false, false, false]) (v := .bool false) rfl rfl rfl (by kernel_rfl) (by kernel_rfl) (by kernel_rfl) (Or.inl ⟨by rfl, ?_⟩) ?_
    · intro w9 hS
      go_simp
      exact ⟨rfl, hS⟩
    simp only [Act.put, List.setIfInBounds_toArray, List.set_cons_zero, List.set_cons_succ]
    refine det_take (i := 8) (d := some 32) (l' := #[true, true, true, true, true, true, true, true, true, false, false, false, false, false, false, false, false, false, false]) (v := .bool false) rfl rfl rfl (by kernel_rfl) (by kernel_rfl) (by kernel_rfl) (Or.inl ⟨by rfl, ?_⟩) ?_
    · intro w9 hS
      go_simp
      exact ⟨rfl, hS⟩
    simp only [Act.put, List.setIfInBounds_toArray, List.set_cons_zero, List.set_cons_succ]
    refine det_take (i := 9) (d := some 33) (l' := #[true, true, true, true, true, true, true, true, true, true, false, false, false, false, false, false, false, false, false]) (v := undef) rfl rfl rfl (by kernel_rfl) (by kernel_rfl) (by kernel_rfl) (Or.inr ⟨by rfl, rfl⟩) ?_
    simp only [Act.put, List.setIfInBounds_toArray, List.set_cons_zero, List.set_cons_succ]
    refine det_take (i := 10) (d := some 34) (l' := #[true, true, true, true, true, true, true, true, true, true, true, false, false, false, false, false, false, false, false]) (v := undef) rfl rfl rfl (by kernel_rfl) (by kernel_rfl) (by kernel_rfl) (Or.inr ⟨by rfl, rfl⟩) ?_
    simp only [Act.put, List.setIfInBounds_toArray, List.set_cons_zero, List.set_cons_succ]
    refine det_take (i := 11) (d := some 35) (l' := #[true, true, true, true, true, true, true, true, true, true, true, true, false, false, false, false, false, false, false]) (v := undef) rfl rfl rfl (by kernel_rfl) (by kernel_rfl) (by kernel_rfl) (Or.inr ⟨by rfl, rfl⟩) ?_
    simp only [Act.put, List.setIfInBounds_toArray, List.set_cons_zero, List.set_cons_succ]
    refine det_take (i := 12) (d := some 36) (l' := #[true, true, true, true, true, true, true, true, true, true, true, true, true, false, false, false, false, false, false]) (v := undef) rfl rfl rfl (by kernel_rfl) (by kernel_rfl) (by kernel_rfl) (Or.inr ⟨by rfl, rfl⟩) ?_
    simp only [Act.put, List.setIfInBounds_toArray, List.set_cons_zero, List.set_cons_succ]
    refine det_take (i := 13) (d := some 37) (l' := #[true, true, true, true, true, true, true, true, true, true, true, true, true, true, false, false, false, false, false]) (v := undef) rfl rfl rfl (by kernel_rfl) (by kernel_rfl) (by kernel_rfl) (Or.inr ⟨by rfl, rfl⟩) ?_
    simp only [Act.put, List.setIfInBounds_toArray, List.set_cons_zero, List.set_cons_succ]
    refine det_take (i := 14) (d := some 38) (l' := #[true, true, true, true, true, true, true, true, true, true, true, true, true, true, true, false, false, false, false]) (v := undef) rfl rfl rfl (by kernel_rfl) (by kernel_rfl) (by kernel_rfl) (Or.inr ⟨by rfl, rfl⟩) ?_
    simp only [Act.put, List.setIfInBounds_toArray, List.set_cons_zero, List.set_cons_succ]
    refine det_take (i := 15) (d := some 39) (l' := #[true, true, true, true, true, true, true, true, true, true, true, true, true, true, true, true, false, false, false]) (v := undef) rfl rfl rfl (by kernel_rfl) (by kernel_rfl) (by kernel_rfl) (Or.inr ⟨by rfl, rfl⟩) ?_
    simp only [Act.put, List.setIfInBounds_toArray, List.set_cons_zero, List.set_cons_succ]
    refine det_take (i := 16) (d := some 40) (l' := #[true, true, true, true, true, true, true, true, true, true, true, true, true, true, true, true, true, false, false]) (v := undef) rfl rfl rfl (by kernel_rfl) (by kernel_rfl) (by kernel_rfl) (Or.inr ⟨by rfl, rfl⟩) ?_
    simp only [Act.put, List.setIfInBounds_toArray, List.set_cons_zero, List.set_cons_succ]
    refine det_take (i := 17) (d := some 41) (l' := #[true, true, true, true, true, true, true, true, true, true, true, true, true, true, true, true, true, true, false]) (v := undef) rfl rfl rfl (by kernel_rfl) (by kernel_rfl) (by kernel_rfl) (Or.inr ⟨by rfl, rfl⟩) ?_
    simp only [Act.put, List.setIfInBounds_toArray, List.set_cons_zero, List.set_cons_succ]
    refine det_take (i := 18) (d := some 42) (l' := #[true, true, true, true, true, true, true, true, true, true, true, true, true, true, true, true, true, true, true]) (v := .bool false) rfl rfl rfl (by kernel_rfl) (by kernel_rfl) (by kernel_rfl) (Or.inl ⟨by rfl, ?_⟩) ?_
    · intro w9 hS
      go_simp
      exact ⟨rfl, hS⟩
    simp only [Act.put, List.setIfInBounds_toArray, List.set_cons_zero, List.set_cons_succ]
    refine det_done (by kernel_rfl) ?_ _
    intro w4 hS
    have HS := Lib.hid hS
    clear hS
    go_wp2_with fail
    refine det_start (n := 10) (l := #[false, false, false, false, false, false, false, false, false, false]) (S := OnS w x y a b (.slice vA vn vc) (.slice uA un uc)) (by kernel_rfl) (by rfl) (by rfl) HS.out.drew ?_
    refine det_take (i := 0) (d := some 43) (l' := #[true, false, false, false, false, false, false, false, false, false]) (v := .agg (ansCells a (.slice vA vn vc))) rfl rfl rfl (by kernel_rfl) (by kernel_rfl) (by kernel_rfl) (Or.inl ⟨by rfl, ?_⟩) ?_
    · intro w9 hS
      have l0 := hS.ba.cell 0
      have l1 := hS.ba.cell 1
      have l2 := hS.ba.cell 2
      have l3 := hS.ba.cell 3
      simp only [ansCells, List.getElem?_toArray, List.getElem?_cons_zero, List.getElem?_cons_succ] at l0 l1 l2 l3
      go_simp
      exact ⟨rfl, hS⟩
    simp only [Act.put, List.setIfInBounds_toArray, List.set_cons_zero, List.set_cons_succ]
    refine det_take (i := 1) (d := some 44) (l' := #[true, true, false, false, false, false, false, false, false, false]) (v := .string (bs (tellF a))) rfl rfl rfl (by kernel_rfl) (by kernel_rfl) (by kernel_rfl) (Or.inl ⟨by rfl, ?_⟩) ?_
    · intro w9 hS
      go_simp
      refine Calls.mono (tell_any a _ _ hS.env HAa.out hS.pa) ?_
      rintro e w8 ⟨rfl, hb⟩
      exact ⟨rfl, hS.step hb⟩
    simp only [Act.put, List.setIfInBounds_toArray, List.set_cons_zero, List.set_cons_succ]
    refine det_take (i := 2) (d := some 45) (l' := #[true, true, true, false, false, false, false, false, false, false]) (v := .agg (ansCells b (.slice uA un uc))) rfl rfl rfl (by kernel_rfl) (by kernel_rfl) (by kernel_rfl) (Or.inl ⟨by rfl, ?_⟩) ?_
    · intro w9 hS
      have l0 := hS.bb.cell 0
      have l1 := hS.bb.cell 1
      have l2 := hS.bb.cell 2
      have l3 := hS.bb.cell 3
      simp only [ansCells, List.getElem?_toArray, List.getElem?_cons_zero, List.getElem?_cons_succ] at l0 l1 l2 l3
      go_simp
      exact ⟨rfl, hS⟩
    simp only [Act.put, List.setIfInBounds_toArray, List.set_cons_zero, List.set_cons_succ]
    refine det_take (i := 3) (d := some 46) (l' := #[true, true, true, true, false, false, false, false, false, false]) (v := .string (bs (tellF b))) rfl rfl rfl (by kernel_rfl) (by kernel_rfl) (by kernel_rfl) (Or.inl ⟨by rfl, ?_⟩) ?_
    · intro w9 hS
      go_simp
      refine Calls.mono (tell_any b _ _ hS.env HAb.out hS.pb) ?_
      rintro e w8 ⟨rfl, hb⟩
      exact ⟨rfl, hS.step hb⟩
    simp only [Act.put, List.setIfInBounds_toArray, List.set_cons_zero, List.set_cons_succ]
    refine det_take (i := 4) (d := some 47) (l' := #[true, true, true, true, true, false, false, false, false, false]) (v := .bool D5) rfl rfl rfl (by kernel_rfl) (by kernel_rfl) (by kernel_rfl) (Or.inl ⟨by rfl, ?_⟩) ?_
    · intro w9 hS
      go_simp
      first | exact ⟨rfl, hS⟩ | exact ⟨by rw [HTe.out], hS⟩ | exact ⟨by simp [HTe.out], hS⟩
    simp only [Act.put, List.setIfInBounds_toArray, List.set_cons_zero, List.set_cons_succ]
    refine det_take (i := 5) (d := some 48) (l' := #[true, true, true, true, true, true, false, false, false, false]) (v := .agg (ansCells a (.slice vA vn vc))) rfl rfl rfl (by kernel_rfl) (by kernel_rfl) (by kernel_rfl) (Or.inl ⟨by rfl, ?_⟩) ?_
    · intro w9 hS
      have l0 := hS.ba.cell 0
      have l1 := hS.ba.cell 1
      have l2 := hS.ba.cell 2
      have l3 := hS.ba.cell 3
      simp only [ansCells, List.getElem?_toArray, List.getElem?_cons_zero, List.getElem?_cons_succ] at l0 l1 l2 l3
      go_simp
      exact ⟨rfl, hS⟩
    simp only [Act.put, List.setIfInBounds_toArray, List.set_cons_zero, List.set_cons_succ]
    refine det_take (i := 6) (d := some 49) (l' := #[true, true, true, true, true, true, true, false, false, false]) (v := .agg (ansCells b (.slice uA un uc))) rfl rfl rfl (by kernel_rfl) (by kernel_rfl) (by kernel_rfl) (Or.inl ⟨by rfl, ?_⟩) ?_
    · intro w9 hS
      have l0 := hS.bb.cell 0
      have l1 := hS.bb.cell 1
      have l2 := hS.bb.cell 2
      have l3 := hS.bb.cell 3
      simp only [ansCells, List.getElem?_toArray, List.getElem?_cons_zero, List.getElem?_cons_succ] at l0 l1 l2 l3
      go_simp
      exact ⟨rfl, hS⟩
    simp only [Act.put, List.setIfInBounds_toArray, List.set_cons_zero, List.set_cons_succ]
    refine det_take (i := 7) (d := some 50) (l' := #[true, true, true, true, true, true, true, true, false, false]) (v := .bool D5) rfl rfl rfl (by kernel_rfl) (by kernel_rfl) (by kernel_rfl) (Or.inl ⟨by rfl, ?_⟩) ?_
    · intro w9 hS
      go_simp
      refine Calls.mono (answers_is a b _ _ D5 _ (by have := HAa.out.n; omega) hS.pa hS.pb HEq.out) ?_
      rintro e w8 ⟨rfl, hb⟩
      exact ⟨rfl, hS.step hb⟩
    simp only [Act.put, List.setIfInBounds_toArray, List.set_cons_zero, List.set_cons_succ]
    refine det_take (i := 8) (d := some 51) (l' := #[true, true, true, true, true, true, true, true, true, false]) (v := .bool true) rfl rfl rfl (by kernel_rfl) (by kernel_rfl) (by kernel_rfl) (Or.inl ⟨by rfl, ?_⟩) ?_
    · intro w9 hS
      go_simp
      first | exact ⟨rfl, hS⟩ | exact ⟨by simp, hS⟩
    simp only [Act.put, List.setIfInBounds_toArray, List.set_cons_zero, List.set_cons_succ]
    refine det_take (i := 9) (d := some 8) (l' := #[true, true, true, true, true, true, true, true, true, true]) (v := .bool true) rfl rfl rfl (by kernel_rfl) (by kernel_rfl) (by kernel_rfl) (Or.inl ⟨by rfl, ?_⟩) ?_
    · intro w9 hS
      go_simp
      exact ⟨rfl, hS⟩
    simp only [Act.put, List.setIfInBounds_toArray, List.set_cons_zero, List.set_cons_succ]
    refine det_done (by kernel_rfl) ?_ _
    intro w5 hS
    have HS5 := Lib.hid hS.below
    clear hS HS
    go_wp2_with fail
    go_ret
    exact Ret.of rfl HS5.out
  cases hmy : mayF y
  · have HMx := Lib.hid (show mayN x = 0 by rw [mayN, hmx]; rfl)
    have HMy := Lib.hid (show mayN y = 1 by rw [mayN, hmy]; rfl)
    clear hmx hmy
    refine det_start (n := 19) (l := #[false, false, false, false, false, false, false, false, false, false, false, false, false, false, false, false, false, false, false]) (S := OnS w x y a b (.slice vA vn vc) (.slice uA un uc)) (by kernel_rfl) (by rfl) (by rfl) HS.out.drew ?_
    refine det_take (i := 0) (d := some 24) (l' := #[true, false, false, false, false, false, false, false, false, false, false, false, false, false, false, false, false, false, false]) (v := .agg (callCells x)) rfl rfl rfl (by kernel_rfl) (by kernel_rfl) (by kernel_rfl) (Or.inl ⟨by rfl, ?_⟩) ?_
    · intro w9 hS
      have l0 := hS.bx.cell 0
      have l1 := hS.bx.cell 1
      have l2 := hS.bx.cell 2
      have l3 := hS.bx.cell 3
      have l4 := hS.bx.cell 4
      have l5 := hS.bx.cell 5
      have l6 := hS.bx.cell 6
      simp only [callCells, List.getElem?_toArray, List.getElem?_cons_zero, List.getElem?_cons_succ] at l0 l1 l2 l3 l4 l5 l6
      go_simp
      exact ⟨rfl, hS⟩
    simp only [Act.put, List.setIfInBounds_toArray, List.set_cons_zero, List.set_cons_succ]
    refine det_take (i := 1) (d := some 25) (l' := #[true, true, false, false, false, false, false, false, false, false, false, false, false, false, false, false, false, false, false]) (v := .int .i64 0) rfl rfl rfl (by kernel_rfl) (by kernel_rfl) (by kernel_rfl) (Or.inl ⟨by rfl, ?_⟩) ?_
    · intro w9 hS
      go_simp
      refine Calls.mono (may_is x 0 _ HMx.out) ?_
      rintro e w8 ⟨rfl, hb⟩
      exact ⟨rfl, hS.step hb⟩
    simp only [Act.put, List.setIfInBounds_toArray, List.set_cons_zero, List.set_cons_succ]
    refine det_take (i := 2) (d := some 26) (l' := #[true, true, true, false, false, false, false, false, false, false, false, false, false, false, false, false, false, false, false]) (v := .bool true) rfl rfl rfl (by kernel_rfl) (by kernel_rfl) (by kernel_rfl) (Or.inl ⟨by rfl, ?_⟩) ?_
    · intro w9 hS
      go_simp
      first | exact ⟨rfl, hS⟩ | exact ⟨by simp, hS⟩
    simp only [Act.put, List.setIfInBounds_toArray, List.set_cons_zero, List.set_cons_succ]
    refine det_take (i := 3) (d := some 27) (l' := #[true, true, true, true, false, false, false, false, false, false, false, false, false, false, false, false, false, false, false]) (v := .bool true) rfl rfl rfl (by kernel_rfl) (by kernel_rfl) (by kernel_rfl) (Or.inl ⟨by rfl, ?_⟩) ?_
    · intro w9 hS
      go_simp
      exact ⟨rfl, hS⟩
    simp only [Act.put, List.setIfInBounds_toArray, List.set_cons_zero, List.set_cons_succ]
    refine det_take (i := 4) (d := some 28) (l' := #[true, true, true, true, true, false, false, false, false, false, false, false, false, false, false, false, false, false, false]) (v := .agg (callCells y)) rfl rfl rfl (by kernel_rfl) (by kernel_rfl) (by kernel_rfl) (Or.inl ⟨by rfl, ?_⟩) ?_
    · intro w9 hS
      have l0 := hS.by_.cell 0
      have l1 := hS.by_.cell 1
      have l2 := hS.by_.cell 2
      have l3 := hS.by_.cell 3
      have l4 := hS.by_.cell 4
      have l5 := hS.by_.cell 5
      have l6 := hS.by_.cell 6
      simp only [callCells, List.getElem?_toArray, List.getElem?_cons_zero, List.getElem?_cons_succ] at l0 l1 l2 l3 l4 l5 l6
      go_simp
      exact ⟨rfl, hS⟩
    simp only [Act.put, List.setIfInBounds_toArray, List.set_cons_zero, List.set_cons_succ]
    refine det_take (i := 5) (d := some 29) (l' := #[true, true, true, true, true, true, false, false, false, false, false, false, false, false, false, false, false, false, false]) (v := .int .i64 1) rfl rfl rfl (by kernel_rfl) (by kernel_rfl) (by kernel_rfl) (Or.inl ⟨by rfl, ?_⟩) ?_
    · intro w9 hS
      go_simp
      refine Calls.mono (may_is y 1 _ HMy.out) ?_
      rintro e w8 ⟨rfl, hb⟩
      exact ⟨rfl, hS.step hb⟩
    simp only [Act.put, List.setIfInBounds_toArray, List.set_cons_zero, List.set_cons_succ]
    refine det_take (i := 6) (d := some 30) (l' := #[true, true, true, true, true, true, true, false, false, false, false, false, false, false, false, false, false, false, false]) (v := .bool false) rfl rfl rfl (by kernel_rfl) (by kernel_rfl) (by kernel_rfl) (Or.inl ⟨by rfl, ?_⟩) ?_
    · intro w9 hS
      go_simp
      first | exact ⟨rfl, hS⟩ | exact ⟨by simp, hS⟩
    simp only [Act.put, List.setIfInBounds_toArray, List.set_cons_zero, List.set_cons_succ]
    refine det_take (i := 7) (d := some 31) (l' := #[true, true, true, true, true, true, true, true, false, false, false, false, false, false, false, false, false, false, false]) (v := .bool false) rfl rfl rfl (by kernel_rfl) (by kernel_rfl) (by kernel_rfl) (Or.inl ⟨by rfl, ?_⟩) ?_
    · intro w9 hS
      go_simp
      exact ⟨rfl, hS⟩
    simp only [Act.put, List.setIfInBounds_toArray, List.set_cons_zero, List.set_cons_succ]
    refine det_take (i := 8) (d := some 32) (l' := #[true, true, true, true, true, true, true, true, true, false, false, false, false, false, false, false, false, false, false]) (v := .bool false) rfl rfl rfl (by kernel_rfl) (by kernel_rfl) (by kernel_rfl) (Or.inl ⟨by rfl, ?_⟩) ?_
    · intro w9 hS
      go_simp
      exact ⟨rfl, hS⟩
    simp only [Act.put, List.setIfInBounds_toArray, List.set_cons_zero, List.set_cons_succ]
    refine det_take (i := 9) (d := some 33) (l' := #[true, true, true, true, true, true, true, true, true, true, false, false, false, false, false, false, false, false, false]) (v := undef) rfl rfl rfl (by kernel_rfl) (by kernel_rfl) (by kernel_rfl) (Or.inr ⟨by rfl, rfl⟩) ?_
    simp only [Act.put, List.setIfInBounds_toArray, List.set_cons_zero, List.set_cons_succ]
    refine det_take (i := 10) (d := some 34) (l' := #[true, true, true, true, true, true, true, true, true, true, true, false, false, false, false, false, false, false, false]) (v := undef) rfl rfl rfl (by kernel_rfl) (by kernel_rfl) (by kernel_rfl) (Or.inr ⟨by rfl, rfl⟩) ?_
    simp only [Act.put, List.setIfInBounds_toArray, List.set_cons_zero, List.set_cons_succ]
    refine det_take (i := 11) (d := some 35) (l' := #[true, true, true, true, true, true, true, true, true, true, true, true, false, false, false, false, false, false, false]) (v := undef) rfl rfl rfl (by kernel_rfl) (by kernel_rfl) (by kernel_rfl) (Or.inr ⟨by rfl, rfl⟩) ?_
    simp only [Act.put, List.setIfInBounds_toArray, List.set_cons_zero, List.set_cons_succ]
    refine det_take (i := 12) (d := some 36) (l' := #[true, true, true, true, true, true, true, true, true, true, true, true, true, false, false, false, false, false, false]) (v := undef) rfl rfl rfl (by kernel_rfl) (by kernel_rfl) (by kernel_rfl) (Or.inr ⟨by rfl, rfl⟩) ?_
    simp only [Act.put, List.setIfInBounds_toArray, List.set_cons_zero, List.set_cons_succ]
    refine det_take (i := 13) (d := some 37) (l' := #[true, true, true, true, true, true, true, true, true, true, true, true, true, true, false, false, false, false, false]) (v := undef) rfl rfl rfl (by kernel_rfl) (by kernel_rfl) (by kernel_rfl) (Or.inr ⟨by rfl, rfl⟩) ?_
    simp only [Act.put, List.setIfInBounds_toArray, List.set_cons_zero, List.set_cons_succ]
    refine det_take (i := 14) (d := some 38) (l' := #[true, true, true, true, true, true, true, true, true, true, true, true, true, true, true, false, false, false, false]) (v := undef) rfl rfl rfl (by kernel_rfl) (by kernel_rfl) (by kernel_rfl) (Or.inr ⟨by rfl, rfl⟩) ?_
    simp only [Act.put, List.setIfInBounds_toArray, List.set_cons_zero, List.set_cons_succ]
    refine det_take (i := 15) (d := some 39) (l' := #[true, true, true, true, true, true, true, true, true, true, true, true, true, true, true, true, false, false, false]) (v := undef) rfl rfl rfl (by kernel_rfl) (by kernel_rfl) (by kernel_rfl) (Or.inr ⟨by rfl, rfl⟩) ?_
    simp only [Act.put, List.setIfInBounds_toArray, List.set_cons_zero, List.set_cons_succ]
    refine det_take (i := 16) (d := some 40) (l' := #[true, true, true, true, true, true, true, true, true, true, true, true, true, true, true, true, true, false, false]) (v := undef) rfl rfl rfl (by kernel_rfl) (by kernel_rfl) (by kernel_rfl) (Or.inr ⟨by rfl, rfl⟩) ?_
    simp only [Act.put, List.setIfInBounds_toArray, List.set_cons_zero, List.set_cons_succ]
    refine det_take (i := 17) (d := some 41) (l' := #[true, true, true, true, true, true, true, true, true, true, true, true, true, true, true, true, true, true, false]) (v := undef) rfl rfl rfl (by kernel_rfl) (by kernel_rfl) (by kernel_rfl) (Or.inr ⟨by rfl, rfl⟩) ?_
    simp only [Act.put, List.setIfInBounds_toArray, List.set_cons_zero, List.set_cons_succ]
    refine det_take (i := 18) (d := some 42) (l' := #[true, true, true, true, true, true, true, true, true, true, true, true, true, true, true, true, true, true, true]) (v := .bool false) rfl rfl rfl (by kernel_rfl) (by kernel_rfl) (by kernel_rfl) (Or.inl ⟨by rfl, ?_⟩) ?_
    · intro w9 hS
      go_simp
      exact ⟨rfl, hS⟩
    simp only [Act.put, List.setIfInBounds_toArray, List.set_cons_zero, List.set_cons_succ]
    refine det_done (by kernel_rfl) ?_ _
    intro w4 hS
    have HS := Lib.hid hS
    clear hS
    go_wp2_with fail
    refine det_start (n := 10) (l := #[false, false, false, false, false, false, false, false, false, false]) (S := OnS w x y a b (.slice vA vn vc) (.slice uA un uc)) (by kernel_rfl) (by rfl) (by rfl) HS.out.drew ?_
    refine det_take (i := 0) (d := some 43) (l' := #[true, false, false, false, false, false, false, false, false, false]) (v := .agg (ansCells a (.slice vA vn vc))) rfl rfl rfl (by kernel_rfl) (by kernel_rfl) (by kernel_rfl) (Or.inl ⟨by rfl, ?_⟩) ?_
    · intro w9 hS
      have l0 := hS.ba.cell 0
      have l1 := hS.ba.cell 1
      have l2 := hS.ba.cell 2
      have l3 := hS.ba.cell 3
      simp only [ansCells, List.getElem?_toArray, List.getElem?_cons_zero, List.getElem?_cons_succ] at l0 l1 l2 l3
      go_simp
      exact ⟨rfl, hS⟩
    simp only [Act.put, List.setIfInBounds_toArray, List.set_cons_zero, List.set_cons_succ]
    refine det_take (i := 1) (d := some 44) (l' := #[true, true, false, false, false, false, false, false, false, false]) (v := .string (bs (tellF a))) rfl rfl rfl (by kernel_rfl) (by kernel_rfl) (by kernel_rfl) (Or.inl ⟨by rfl, ?_⟩) ?_
    · intro w9 hS
      go_simp
      refine Calls.mono (tell_any a _ _ hS.env HAa.out hS.pa) ?_
      rintro e w8 ⟨rfl, hb⟩
      exact ⟨rfl, hS.step hb⟩
    simp only [Act.put, List.setIfInBounds_toArray, List.set_cons_zero, List.set_cons_succ]
    refine det_take (i := 2) (d := some 45) (l' := #[true, true, true, false, false, false, false, false, false, false]) (v := .agg (ansCells b (.slice uA un uc))) rfl rfl rfl (by kernel_rfl) (by kernel_rfl) (by kernel_rfl) (Or.inl ⟨by rfl, ?_⟩) ?_
    · intro w9 hS
      have l0 := hS.bb.cell 0
      have l1 := hS.bb.cell 1
      have l2 := hS.bb.cell 2
      have l3 := hS.bb.cell 3
      simp only [ansCells, List.getElem?_toArray, List.getElem?_cons_zero, List.getElem?_cons_succ] at l0 l1 l2 l3
      go_simp
      exact ⟨rfl, hS⟩
    simp only [Act.put, List.setIfInBounds_toArray, List.set_cons_zero, List.set_cons_succ]
    refine det_take (i := 3) (d := some 46) (l' := #[true, true, true, true, false, false, false, false, false, false]) (v := .string (bs (tellF b))) rfl rfl rfl (by kernel_rfl) (by kernel_rfl) (by kernel_rfl) (Or.inl ⟨by rfl, ?_⟩) ?_
    · intro w9 hS
      go_simp
      refine Calls.mono (tell_any b _ _ hS.env HAb.out hS.pb) ?_
      rintro e w8 ⟨rfl, hb⟩
      exact ⟨rfl, hS.step hb⟩
    simp only [Act.put, List.setIfInBounds_toArray, List.set_cons_zero, List.set_cons_succ]
    refine det_take (i := 4) (d := some 47) (l' := #[true, true, true, true, true, false, false, false, false, false]) (v := .bool D5) rfl rfl rfl (by kernel_rfl) (by kernel_rfl) (by kernel_rfl) (Or.inl ⟨by rfl, ?_⟩) ?_
    · intro w9 hS
      go_simp
      first | exact ⟨rfl, hS⟩ | exact ⟨by rw [HTe.out], hS⟩ | exact ⟨by simp [HTe.out], hS⟩
    simp only [Act.put, List.setIfInBounds_toArray, List.set_cons_zero, List.set_cons_succ]
    refine det_take (i := 5) (d := some 48) (l' := #[true, true, true, true, true, true, false, false, false, false]) (v := .agg (ansCells a (.slice vA vn vc))) rfl rfl rfl (by kernel_rfl) (by kernel_rfl) (by kernel_rfl) (Or.inl ⟨by rfl, ?_⟩) ?_
    · intro w9 hS
      have l0 := hS.ba.cell 0
      have l1 := hS.ba.cell 1
      have l2 := hS.ba.cell 2
      have l3 := hS.ba.cell 3
      simp only [ansCells, List.getElem?_toArray, List.getElem?_cons_zero, List.getElem?_cons_succ] at l0 l1 l2 l3
      go_simp
      exact ⟨rfl, hS⟩
    simp only [Act.put, List.setIfInBounds_toArray, List.set_cons_zero, List.set_cons_succ]
    refine det_take (i := 6) (d := some 49) (l' := #[true, true, true, true, true, true, true, false, false, false]) (v := .agg (ansCells b (.slice uA un uc))) rfl rfl rfl (by kernel_rfl) (by kernel_rfl) (by kernel_rfl) (Or.inl ⟨by rfl, ?_⟩) ?_
    · intro w9 hS
      have l0 := hS.bb.cell 0
      have l1 := hS.bb.cell 1
      have l2 := hS.bb.cell 2
      have l3 := hS.bb.cell 3
      simp only [ansCells, List.getElem?_toArray, List.getElem?_cons_zero, List.getElem?_cons_succ] at l0 l1 l2 l3
      go_simp
      exact ⟨rfl, hS⟩
    simp only [Act.put, List.setIfInBounds_toArray, List.set_cons_zero, List.set_cons_succ]
    refine det_take (i := 7) (d := some 50) (l' := #[true, true, true, true, true, true, true, true, false, false]) (v := .bool D5) rfl rfl rfl (by kernel_rfl) (by kernel_rfl) (by kernel_rfl) (Or.inl ⟨by rfl, ?_⟩) ?_
    · intro w9 hS
      go_simp
      refine Calls.mono (answers_is a b _ _ D5 _ (by have := HAa.out.n; omega) hS.pa hS.pb HEq.out) ?_
      rintro e w8 ⟨rfl, hb⟩
      exact ⟨rfl, hS.step hb⟩
    simp only [Act.put, List.setIfInBounds_toArray, List.set_cons_zero, List.set_cons_succ]
    refine det_take (i := 8) (d := some 51) (l' := #[true, true, true, true, true, true, true, true, true, false]) (v := .bool true) rfl rfl rfl (by kernel_rfl) (by kernel_rfl) (by kernel_rfl) (Or.inl ⟨by rfl, ?_⟩) ?_
    · intro w9 hS
      go_simp
      first | exact ⟨rfl, hS⟩ | exact ⟨by simp, hS⟩
    simp only [Act.put, List.setIfInBounds_toArray, List.set_cons_zero, List.set_cons_succ]
    refine det_take (i := 9) (d := some 8) (l' := #[true, true, true, true, true, true, true, true, true, true]) (v := .bool true) rfl rfl rfl (by kernel_rfl) (by kernel_rfl) (by kernel_rfl) (Or.inl ⟨by rfl, ?_⟩) ?_
    · intro w9 hS
      go_simp
      exact ⟨rfl, hS⟩
    simp only [Act.put, List.setIfInBounds_toArray, List.set_cons_zero, List.set_cons_succ]
    refine det_done (by kernel_rfl) ?_ _
    intro w5 hS
    have HS5 := Lib.hid hS.below
    clear hS HS
    go_wp2_with fail
    go_ret
    exact Ret.of rfl HS5.out
  · have HMx := Lib.hid (show mayN x = 0 by rw [mayN, hmx]; rfl)
    have HMy := Lib.hid (show mayN y = 0 by rw [mayN, hmy]; rfl)
    obtain ⟨D3, hD3⟩ : ∃ D, sameF x y = D := ⟨_, rfl⟩
    have hsh : (showF x == showF y) = D3 := by
      rw [← hD3, Bool.eq_iff_iff, beq_iff_eq]
      show _ ↔ sameB (cleanF x) (cleanF y) = true
      rw [sameB_iff]
      exact show_inj hmx hmy HCx.out.tx HCx.out.lim HCy.out.tx HCy.out.lim
    have HSm := Lib.hid hD3
    have HSh := Lib.hid hsh
    clear hmx hmy hD3 hsh
    refine det_start (n := 19) (l := #[false, false, false, false, false, false, false, false, false, false, false, false, false, false, false, false, false, false, false]) (S := OnS w x y a b (.slice vA vn vc) (.slice uA un uc)) (by kernel_rfl) (by rfl) (by rfl) HS.out.drew ?_
    refine det_take (i := 0) (d := some 24) (l' := #[true, false, false, false, false, false, false, false, false, false, false, false, false, false, false, false, false, false, false]) (v := .agg (callCells x)) rfl rfl rfl (by kernel_rfl) (by kernel_rfl) (by kernel_rfl) (Or.inl ⟨by rfl, ?_⟩) ?_
    · intro w9 hS
      have l0 := hS.bx.cell 0
      have l1 := hS.bx.cell 1
      have l2 := hS.bx.cell 2
      have l3 := hS.bx.cell 3
      have l4 := hS.bx.cell 4
      have l5 := hS.bx.cell 5
      have l6 := hS.bx.cell 6
      simp only [callCells, List.getElem?_toArray, List.getElem?_cons_zero, List.getElem?_cons_succ] at l0 l1 l2 l3 l4 l5 l6
      go_simp
      exact ⟨rfl, hS⟩
    simp only [Act.put, List.setIfInBounds_toArray, List.set_cons_zero, List.set_cons_succ]
    refine det_take (i := 1) (d := some 25) (l' := #[true, true, false, false, false, false, false, false, false, false, false, false, false, false, false, false, false, false, false]) (v := .int .i64 0) rfl rfl rfl (by kernel_rfl) (by kernel_rfl) (by kernel_rfl) (Or.inl ⟨by rfl, ?_⟩) ?_
    · intro w9 hS
      go_simp
      refine Calls.mono (may_is x 0 _ HMx.out) ?_
      rintro e w8 ⟨rfl, hb⟩
      exact ⟨rfl, hS.step hb⟩
    simp only [Act.put, List.setIfInBounds_toArray, List.set_cons_zero, List.set_cons_succ]
    refine det_take (i := 2) (d := some 26) (l' := #[true, true, true, false, false, false, false, false, false, false, false, false, false, false, false, false, false, false, false]) (v := .bool true) rfl rfl rfl (by kernel_rfl) (by kernel_rfl) (by kernel_rfl) (Or.inl ⟨by rfl, ?_⟩) ?_
    · intro w9 hS
      go_simp
      first | exact ⟨rfl, hS⟩ | exact ⟨by simp, hS⟩
    simp only [Act.put, List.setIfInBounds_toArray, List.set_cons_zero, List.set_cons_succ]
    refine det_take (i := 3) (d := some 27) (l' := #[true, true, true, true, false, false, false, false, false, false, false, false, false, false, false, false, false, false, false]) (v := .bool true) rfl rfl rfl (by kernel_rfl) (by kernel_rfl) (by kernel_rfl) (Or.inl ⟨by rfl, ?_⟩) ?_
    · intro w9 hS
      go_simp
      exact ⟨rfl, hS⟩
    simp only [Act.put, List.setIfInBounds_toArray, List.set_cons_zero, List.set_cons_succ]
    refine det_take (i := 4) (d := some 28) (l' := #[true, true, true, true, true, false, false, false, false, false, false, false, false, false, false, false, false, false, false]) (v := .agg (callCells y)) rfl rfl rfl (by kernel_rfl) (by kernel_rfl) (by kernel_rfl) (Or.inl ⟨by rfl, ?_⟩) ?_
    · intro w9 hS
      have l0 := hS.by_.cell 0
      have l1 := hS.by_.cell 1
      have l2 := hS.by_.cell 2
      have l3 := hS.by_.cell 3
      have l4 := hS.by_.cell 4
      have l5 := hS.by_.cell 5
      have l6 := hS.by_.cell 6
      simp only [callCells, List.getElem?_toArray, List.getElem?_cons_zero, List.getElem?_cons_succ] at l0 l1 l2 l3 l4 l5 l6
      go_simp
      exact ⟨rfl, hS⟩
    simp only [Act.put, List.setIfInBounds_toArray, List.set_cons_zero, List.set_cons_succ]
    refine det_take (i := 5) (d := some 29) (l' := #[true, true, true, true, true, true, false, false, false, false, false, false, false, false, false, false, false, false, false]) (v := .int .i64 0) rfl rfl rfl (by kernel_rfl) (by kernel_rfl) (by kernel_rfl) (Or.inl ⟨by rfl, ?_⟩) ?_
    · intro w9 hS
      go_simp
      refine Calls.mono (may_is y 0 _ HMy.out) ?_
      rintro e w8 ⟨rfl, hb⟩
      exact ⟨rfl, hS.step hb⟩
    simp only [Act.put, List.setIfInBounds_toArray, List.set_cons_zero, List.set_cons_succ]
    refine det_take (i := 6) (d := some 30) (l' := #[true, true, true, true, true, true, true, false, false, false, false, false, false, false, false, false, false, false, false]) (v := .bool true) rfl rfl rfl (by kernel_rfl) (by kernel_rfl) (by kernel_rfl) (Or.inl ⟨by rfl, ?_⟩) ?_
    · intro w9 hS
      go_simp
      first | exact ⟨rfl, hS⟩ | exact ⟨by simp, hS⟩
    simp only [Act.put, List.setIfInBounds_toArray, List.set_cons_zero, List.set_cons_succ]
    refine det_take (i := 7) (d := some 31) (l' := #[true, true, true, true, true, true, true, true, false, false, false, false, false, false, false, false, false, false, false]) (v := .bool true) rfl rfl rfl (by kernel_rfl) (by kernel_rfl) (by kernel_rfl) (Or.inl ⟨by rfl, ?_⟩) ?_
    · intro w9 hS
      go_simp
      exact ⟨rfl, hS⟩
    simp only [Act.put, List.setIfInBounds_toArray, List.set_cons_zero, List.set_cons_succ]
    refine det_take (i := 8) (d := some 32) (l' := #[true, true, true, true, true, true, true, true, true, false, false, false, false, false, false, false, false, false, false]) (v := .bool true) rfl rfl rfl (by kernel_rfl) (by kernel_rfl) (by kernel_rfl) (Or.inl ⟨by rfl, ?_⟩) ?_
    · intro w9 hS
      go_simp
      exact ⟨rfl, hS⟩
    simp only [Act.put, List.setIfInBounds_toArray, List.set_cons_zero, List.set_cons_succ]
    refine det_take (i := 9) (d := some 33) (l' := #[true, true, true, true, true, true, true, true, true, true, false, false, false, false, false, false, false, false, false]) (v := .agg (callCells x)) rfl rfl rfl (by kernel_rfl) (by kernel_rfl) (by kernel_rfl) (Or.inl ⟨by rfl, ?_⟩) ?_
    · intro w9 hS
      have l0 := hS.bx.cell 0
      have l1 := hS.bx.cell 1
      have l2 := hS.bx.cell 2
      have l3 := hS.bx.cell 3
      have l4 := hS.bx.cell 4
      have l5 := hS.bx.cell 5
      have l6 := hS.bx.cell 6
      simp only [callCells, List.getElem?_toArray, List.getElem?_cons_zero, List.getElem?_cons_succ] at l0 l1 l2 l3 l4 l5 l6
      go_simp
      exact ⟨rfl, hS⟩
    simp only [Act.put, List.setIfInBounds_toArray, List.set_cons_zero, List.set_cons_succ]
    refine det_take (i := 10) (d := some 34) (l' := #[true, true, true, true, true, true, true, true, true, true, true, false, false, false, false, false, false, false, false]) (v := .string (bs (showF x))) rfl rfl rfl (by kernel_rfl) (by kernel_rfl) (by kernel_rfl) (Or.inl ⟨by rfl, ?_⟩) ?_
    · intro w9 hS
      go_simp
      refine Calls.mono (show_any x _ hS.env HCx.out) ?_
      rintro e w8 ⟨rfl, hb⟩
      exact ⟨rfl, hS.step hb⟩
    simp only [Act.put, List.setIfInBounds_toArray, List.set_cons_zero, List.set_cons_succ]
    refine det_take (i := 11) (d := some 35) (l' := #[true, true, true, true, true, true, true, true, true, true, true, true, false, false, false, false, false, false, false]) (v := .agg (callCells y)) rfl rfl rfl (by kernel_rfl) (by kernel_rfl) (by kernel_rfl) (Or.inl ⟨by rfl, ?_⟩) ?_
    · intro w9 hS
      have l0 := hS.by_.cell 0
      have l1 := hS.by_.cell 1
      have l2 := hS.by_.cell 2
      have l3 := hS.by_.cell 3
      have l4 := hS.by_.cell 4
      have l5 := hS.by_.cell 5
      have l6 := hS.by_.cell 6
      simp only [callCells, List.getElem?_toArray, List.getElem?_cons_zero, List.getElem?_cons_succ] at l0 l1 l2 l3 l4 l5 l6
      go_simp
      exact ⟨rfl, hS⟩
    simp only [Act.put, List.setIfInBounds_toArray, List.set_cons_zero, List.set_cons_succ]
    refine det_take (i := 12) (d := some 36) (l' := #[true, true, true, true, true, true, true, true, true, true, true, true, true, false, false, false, false, false, false]) (v := .string (bs (showF y))) rfl rfl rfl (by kernel_rfl) (by kernel_rfl) (by kernel_rfl) (Or.inl ⟨by rfl, ?_⟩) ?_
    · intro w9 hS
      go_simp
      refine Calls.mono (show_any y _ hS.env HCy.out) ?_
      rintro e w8 ⟨rfl, hb⟩
      exact ⟨rfl, hS.step hb⟩
    simp only [Act.put, List.setIfInBounds_toArray, List.set_cons_zero, List.set_cons_succ]
    refine det_take (i := 13) (d := some 37) (l' := #[true, true, true, true, true, true, true, true, true, true, true, true, true, true, false, false, false, false, false]) (v := .bool D3) rfl rfl rfl (by kernel_rfl) (by kernel_rfl) (by kernel_rfl) (Or.inl ⟨by rfl, ?_⟩) ?_
    · intro w9 hS
      go_simp
      first | exact ⟨rfl, hS⟩ | exact ⟨by rw [HSh.out], hS⟩ | exact ⟨by simp [HSh.out], hS⟩
    simp only [Act.put, List.setIfInBounds_toArray, List.set_cons_zero, List.set_cons_succ]
    refine det_take (i := 14) (d := some 38) (l' := #[true, true, true, true, true, true, true, true, true, true, true, true, true, true, true, false, false, false, false]) (v := .agg (callCells x)) rfl rfl rfl (by kernel_rfl) (by kernel_rfl) (by kernel_rfl) (Or.inl ⟨by rfl, ?_⟩) ?_
    · intro w9 hS
      have l0 := hS.bx.cell 0
      have l1 := hS.bx.cell 1
      have l2 := hS.bx.cell 2
      have l3 := hS.bx.cell 3
      have l4 := hS.bx.cell 4
      have l5 := hS.bx.cell 5
      have l6 := hS.bx.cell 6
      simp only [callCells, List.getElem?_toArray, List.getElem?_cons_zero, List.getElem?_cons_succ] at l0 l1 l2 l3 l4 l5 l6
      go_simp
      exact ⟨rfl, hS⟩
    simp only [Act.put, List.setIfInBounds_toArray, List.set_cons_zero, List.set_cons_succ]
    refine det_take (i := 15) (d := some 39) (l' := #[true, true, true, true, true, true, true, true, true, true, true, true, true, true, true, true, false, false, false]) (v := .agg (callCells y)) rfl rfl rfl (by kernel_rfl) (by kernel_rfl) (by kernel_rfl) (Or.inl ⟨by rfl, ?_⟩) ?_
    · intro w9 hS
      have l0 := hS.by_.cell 0
      have l1 := hS.by_.cell 1
      have l2 := hS.by_.cell 2
      have l3 := hS.by_.cell 3
      have l4 := hS.by_.cell 4
      have l5 := hS.by_.cell 5
      have l6 := hS.by_.cell 6
      simp only [callCells, List.getElem?_toArray, List.getElem?_cons_zero, List.getElem?_cons_succ] at l0 l1 l2 l3 l4 l5 l6
      go_simp
      exact ⟨rfl, hS⟩
    simp only [Act.put, List.setIfInBounds_toArray, List.set_cons_zero, List.set_cons_succ]
    refine det_take (i := 16) (d := some 40) (l' := #[true, true, true, true, true, true, true, true, true, true, true, true, true, true, true, true, true, false, false]) (v := .bool D3) rfl rfl rfl (by kernel_rfl) (by kernel_rfl) (by kernel_rfl) (Or.inl ⟨by rfl, ?_⟩) ?_
    · intro w9 hS
      go_simp
      refine Calls.mono (same_is x y D3 _ HSm.out) ?_
      rintro e w8 ⟨rfl, hb⟩
      exact ⟨rfl, hS.step hb⟩
    simp only [Act.put, List.setIfInBounds_toArray, List.set_cons_zero, List.set_cons_succ]
    refine det_take (i := 17) (d := some 41) (l' := #[true, true, true, true, true, true, true, true, true, true, true, true, true, true, true, true, true, true, false]) (v := .bool false) rfl rfl rfl (by kernel_rfl) (by kernel_rfl) (by kernel_rfl) (Or.inl ⟨by rfl, ?_⟩) ?_
    · intro w9 hS
      go_simp
      first | exact ⟨rfl, hS⟩ | exact ⟨by simp, hS⟩
    simp only [Act.put, List.setIfInBounds_toArray, List.set_cons_zero, List.set_cons_succ]
    refine det_take (i := 18) (d := some 42) (l' := #[true, true, true, true, true, true, true, true, true, true, true, true, true, true, true, true, true, true, true]) (v := .bool false) rfl rfl rfl (by kernel_rfl) (by kernel_rfl) (by kernel_rfl) (Or.inl ⟨by rfl, ?_⟩) ?_
    · intro w9 hS
      go_simp
      exact ⟨rfl, hS⟩
    simp only [Act.put, List.setIfInBounds_toArray, List.set_cons_zero, List.set_cons_succ]
    refine det_done (by kernel_rfl) ?_ _
    intro w4 hS
    have HS := Lib.hid hS
    clear hS
    go_wp2_with fail
    refine det_start (n := 10) (l := #[false, false, false, false, false, false, false, false, false, false]) (S := OnS w x y a b (.slice vA vn vc) (.slice uA un uc)) (by kernel_rfl) (by rfl) (by rfl) HS.out.drew ?_
    refine det_take (i := 0) (d := some 43) (l' := #[true, false, false, false, false, false, false, false, false, false]) (v := .agg (ansCells a (.slice vA vn vc))) rfl rfl rfl (by kernel_rfl) (by kernel_rfl) (by kernel_rfl) (Or.inl ⟨by rfl, ?_⟩) ?_
    · intro w9 hS
      have l0 := hS.ba.cell 0
      have l1 := hS.ba.cell 1
      have l2 := hS.ba.cell 2
      have l3 := hS.ba.cell 3
      simp only [ansCells, List.getElem?_toArray, List.getElem?_cons_zero, List.getElem?_cons_succ] at l0 l1 l2 l3
      go_simp
      exact ⟨rfl, hS⟩
    simp only [Act.put, List.setIfInBounds_toArray, List.set_cons_zero, List.set_cons_succ]
    refine det_take (i := 1) (d := some 44) (l' := #[true, true, false, false, false, false, false, false, false, false]) (v := .string (bs (tellF a))) rfl rfl rfl (by kernel_rfl) (by kernel_rfl) (by kernel_rfl) (Or.inl ⟨by rfl, ?_⟩) ?_
    · intro w9 hS
      go_simp
      refine Calls.mono (tell_any a _ _ hS.env HAa.out hS.pa) ?_
      rintro e w8 ⟨rfl, hb⟩
      exact ⟨rfl, hS.step hb⟩
    simp only [Act.put, List.setIfInBounds_toArray, List.set_cons_zero, List.set_cons_succ]
    refine det_take (i := 2) (d := some 45) (l' := #[true, true, true, false, false, false, false, false, false, false]) (v := .agg (ansCells b (.slice uA un uc))) rfl rfl rfl (by kernel_rfl) (by kernel_rfl) (by kernel_rfl) (Or.inl ⟨by rfl, ?_⟩) ?_
    · intro w9 hS
      have l0 := hS.bb.cell 0
      have l1 := hS.bb.cell 1
      have l2 := hS.bb.cell 2
      have l3 := hS.bb.cell 3
      simp only [ansCells, List.getElem?_toArray, List.getElem?_cons_zero, List.getElem?_cons_succ] at l0 l1 l2 l3
      go_simp
      exact ⟨rfl, hS⟩
    simp only [Act.put, List.setIfInBounds_toArray, List.set_cons_zero, List.set_cons_succ]
    refine det_take (i := 3) (d := some 46) (l' := #[true, true, true, true, false, false, false, false, false, false]) (v := .string (bs (tellF b))) rfl rfl rfl (by kernel_rfl) (by kernel_rfl) (by kernel_rfl) (Or.inl ⟨by rfl, ?_⟩) ?_
    · intro w9 hS
      go_simp
      refine Calls.mono (tell_any b _ _ hS.env HAb.out hS.pb) ?_
      rintro e w8 ⟨rfl, hb⟩
      exact ⟨rfl, hS.step hb⟩
    simp only [Act.put, List.setIfInBounds_toArray, List.set_cons_zero, List.set_cons_succ]
    refine det_take (i := 4) (d := some 47) (l' := #[true, true, true, true, true, false, false, false, false, false]) (v := .bool D5) rfl rfl rfl (by kernel_rfl) (by kernel_rfl) (by kernel_rfl) (Or.inl ⟨by rfl, ?_⟩) ?_
    · intro w9 hS
      go_simp
      first | exact ⟨rfl, hS⟩ | exact ⟨by rw [HTe.out], hS⟩ | exact ⟨by simp [HTe.out], hS⟩
    simp only [Act.put, List.setIfInBounds_toArray, List.set_cons_zero, List.set_cons_succ]
    refine det_take (i := 5) (d := some 48) (l' := #[true, true, true, true, true, true, false, false, false, false]) (v := .agg (ansCells a (.slice vA vn vc))) rfl rfl rfl (by kernel_rfl) (by kernel_rfl) (by kernel_rfl) (Or.inl ⟨by rfl, ?_⟩) ?_
    · intro w9 hS
      have l0 := hS.ba.cell 0
      have l1 := hS.ba.cell 1
      have l2 := hS.ba.cell 2
      have l3 := hS.ba.cell 3
      simp only [ansCells, List.getElem?_toArray, List.getElem?_cons_zero, List.getElem?_cons_succ] at l0 l1 l2 l3
      go_simp
      exact ⟨rfl, hS⟩
    simp only [Act.put, List.setIfInBounds_toArray, List.set_cons_zero, List.set_cons_succ]
    refine det_take (i := 6) (d := some 49) (l' := #[true, true, true, true, true, true, true, false, false, false]) (v := .agg (ansCells b (.slice uA un uc))) rfl rfl rfl (by kernel_rfl) (by kernel_rfl) (by kernel_rfl) (Or.inl ⟨by rfl, ?_⟩) ?_
    · intro w9 hS
      have l0 := hS.bb.cell 0
      have l1 := hS.bb.cell 1
      have l2 := hS.bb.cell 2
      have l3 := hS.bb.cell 3
      simp only [ansCells, List.getElem?_toArray, List.getElem?_cons_zero, List.getElem?_cons_succ] at l0 l1 l2 l3
      go_simp
      exact ⟨rfl, hS⟩
    simp only [Act.put, List.setIfInBounds_toArray, List.set_cons_zero, List.set_cons_succ]
    refine det_take (i := 7) (d := some 50) (l' := #[true, true, true, true, true, true, true, true, false, false]) (v := .bool D5) rfl rfl rfl (by kernel_rfl) (by kernel_rfl) (by kernel_rfl) (Or.inl ⟨by rfl, ?_⟩) ?_
    · intro w9 hS
      go_simp
      refine Calls.mono (answers_is a b _ _ D5 _ (by have := HAa.out.n; omega) hS.pa hS.pb HEq.out) ?_
      rintro e w8 ⟨rfl, hb⟩
      exact ⟨rfl, hS.step hb⟩
    simp only [Act.put, List.setIfInBounds_toArray, List.set_cons_zero, List.set_cons_succ]
    refine det_take (i := 8) (d := some 51) (l' := #[true, true, true, true, true, true, true, true, true, false]) (v := .bool true) rfl rfl rfl (by kernel_rfl) (by kernel_rfl) (by kernel_rfl) (Or.inl ⟨by rfl, ?_⟩) ?_
    · intro w9 hS
      go_simp
      first | exact ⟨rfl, hS⟩ | exact ⟨by simp, hS⟩
    simp only [Act.put, List.setIfInBounds_toArray, List.set_cons_zero, List.set_cons_succ]
    refine det_take (i := 9) (d := some 8) (l' := #[true, true, true, true, true, true, true, true, true, true]) (v := .bool true) rfl rfl rfl (by kernel_rfl) (by kernel_rfl) (by kernel_rfl) (Or.inl ⟨by rfl, ?_⟩) ?_
    · intro w9 hS
      go_simp
      exact ⟨rfl, hS⟩
    simp only [Act.put, List.setIfInBounds_toArray, List.set_cons_zero, List.set_cons_succ]
    refine det_done (by kernel_rfl) ?_ _
    intro w5 hS
    have HS5 := Lib.hid hS.below
    clear hS HS
    go_wp2_with fail
    go_ret
    exact Ret.of rfl HS5.out
set_option maxRecDepth 100000 in
set_option maxHeartbeats 8000000 in
theorem one_long (x y : CallR) (a b : AnsR) (va vb : Value) (w : World) (hE : Env w) (hA : PairsAt w va a.pairs) (hB : PairsAt w vb b.pairs) (hL : 9000 ≤ longN x + longN y) :
    Calls Tryz.prog 5 #[callV x, callV y, ansVV a va, ansVV b vb] w (Ret w (.bool true)) := by
  have hdL : decide (9000 ≤ longN x + longN y) = true := decide_eq_true hL
  have HD := Lib.hid hdL
  clear hL hdL
  have hna := hA.max
  have hnb := hB.max
  have HS := Lib.hid (OnS.new w x y a b va vb hE hA hB)
  obtain ⟨vA, vn, vc, rfl⟩ := slice_of hA
  obtain ⟨uA, un, uc, rfl⟩ := slice_of hB
  clear hE hA hB
  go_enter Tryz.func5, Tryz.ntmps5
  unfold callV callCells ansVV ansCells
  go_wp2_with fail
  refine (works_any _ HS.out.env).mono ?_
  rintro e w1 ⟨rfl, hb1⟩
  have HS := Lib.hid (HS.out.step hb1)
  clear hb1
  have cx0 := HS.out.bx.cell 0
  have cx1 := HS.out.bx.cell 1
  have cx2 := HS.out.bx.cell 2
  have cx3 := HS.out.bx.cell 3
  have cx4 := HS.out.bx.cell 4
  have cx5 := HS.out.bx.cell 5
  have cx6 := HS.out.bx.cell 6
  simp only [callCells, List.getElem?_toArray, List.getElem?_cons_zero, List.getElem?_cons_succ] at cx0 cx1 cx2 cx3 cx4 cx5 cx6
  have cy0 := HS.out.by_.cell 0
  have cy1 := HS.out.by_.cell 1
  have cy2 := HS.out.by_.cell 2
  have cy3 := HS.out.by_.cell 3
  have cy4 := HS.out.by_.cell 4
  have cy5 := HS.out.by_.cell 5
  have cy6 := HS.out.by_.cell 6
  simp only [callCells, List.getElem?_toArray, List.getElem?_cons_zero, List.getElem?_cons_succ] at cy0 cy1 cy2 cy3 cy4 cy5 cy6
  go_wp2_with fail
  refine (long_two x y _ _ ?k2 ?k3 ?k4 ?k9 ?k10 ?k11).mono ?_
  case k2 => exact Lib.cell_of_heap (heap_alloc_new _ _) 2
  case k3 => exact Lib.cell_of_heap (heap_alloc_new _ _) 3
  case k4 => exact Lib.cell_of_heap (heap_alloc_new _ _) 4
  case k9 => exact Lib.cell_of_heap (heap_alloc_new _ _) 9
  case k10 => exact Lib.cell_of_heap (heap_alloc_new _ _) 10
  case k11 => exact Lib.cell_of_heap (heap_alloc_new _ _) 11
  rw [HD.out]
  rintro e w9 ⟨rfl, hb9⟩
  have HS := Lib.hid ((HS.out.step (below_new _ _)).step hb9)
  clear hb9 cx0 cy0 cx1 cy1 cx2 cy2 cx3 cy3 cx4 cy4 cx5 cy5 cx6 cy6
  go_wp2_with fail
  refine (works_any _ HS.out.env).mono ?_
  rintro e w8 ⟨rfl, hb8⟩
  have HF := Lib.hid (HS.out.step hb8).below
  clear hb8
  go_wp2_with fail
  go_ret
  exact Ret.of rfl HF.out
set_option maxRecDepth 100000 in
set_option maxHeartbeats 8000000 in
theorem one_wide (x y : CallR) (a b : AnsR) (va vb : Value) (w : World) (hE : Env w) (hA : PairsAt w va a.pairs) (hB : PairsAt w vb b.pairs) (hL : ¬ 9000 ≤ longN x + longN y) (hw : wideF [a, b] = true) :
    Calls Tryz.prog 5 #[callV x, callV y, ansVV a va, ansVV b vb] w (Ret w (.bool true)) := by
  have hdL : decide (9000 ≤ longN x + longN y) = false := decide_eq_false hL
  have HD := Lib.hid hdL
  have HW := Lib.hid hw
  clear hL hdL hw
  have hna := hA.max
  have hnb := hB.max
  have HS := Lib.hid (OnS.new w x y a b va vb hE hA hB)
  obtain ⟨vA, vn, vc, rfl⟩ := slice_of hA
  obtain ⟨uA, un, uc, rfl⟩ := slice_of hB
  clear hE hA hB
  go_enter Tryz.func5, Tryz.ntmps5
  unfold callV callCells ansVV ansCells
  go_wp2_with fail
  refine (works_any _ HS.out.env).mono ?_
  rintro e w1 ⟨rfl, hb1⟩
  have HS := Lib.hid (HS.out.step hb1)
  clear hb1
  have cx0 := HS.out.bx.cell 0
  have cx1 := HS.out.bx.cell 1
  have cx2 := HS.out.bx.cell 2
  have cx3 := HS.out.bx.cell 3
  have cx4 := HS.out.bx.cell 4
  have cx5 := HS.out.bx.cell 5
  have cx6 := HS.out.bx.cell 6
  simp only [callCells, List.getElem?_toArray, List.getElem?_cons_zero, List.getElem?_cons_succ] at cx0 cx1 cx2 cx3 cx4 cx5 cx6
  have cy0 := HS.out.by_.cell 0
  have cy1 := HS.out.by_.cell 1
  have cy2 := HS.out.by_.cell 2
  have cy3 := HS.out.by_.cell 3
  have cy4 := HS.out.by_.cell 4
  have cy5 := HS.out.by_.cell 5
  have cy6 := HS.out.by_.cell 6
  simp only [callCells, List.getElem?_toArray, List.getElem?_cons_zero, List.getElem?_cons_succ] at cy0 cy1 cy2 cy3 cy4 cy5 cy6
  go_wp2_with fail
  refine (long_two x y _ _ ?k2 ?k3 ?k4 ?k9 ?k10 ?k11).mono ?_
  case k2 => exact Lib.cell_of_heap (heap_alloc_new _ _) 2
  case k3 => exact Lib.cell_of_heap (heap_alloc_new _ _) 3
  case k4 => exact Lib.cell_of_heap (heap_alloc_new _ _) 4
  case k9 => exact Lib.cell_of_heap (heap_alloc_new _ _) 9
  case k10 => exact Lib.cell_of_heap (heap_alloc_new _ _) 10
  case k11 => exact Lib.cell_of_heap (heap_alloc_new _ _) 11
  rw [HD.out]
  rintro e w2 ⟨rfl, hb2⟩
  have HS := Lib.hid ((HS.out.step (below_new _ _)).step hb2)
  clear hb2 cx0 cy0 cx1 cy1 cx2 cy2 cx3 cy3 cx4 cy4 cx5 cy5 cx6 cy6
  have ca0 := HS.out.ba.cell 0
  have ca1 := HS.out.ba.cell 1
  have ca2 := HS.out.ba.cell 2
  have ca3 := HS.out.ba.cell 3
  simp only [ansCells, List.getElem?_toArray, List.getElem?_cons_zero, List.getElem?_cons_succ] at ca0 ca1 ca2 ca3
  have cb0 := HS.out.bb.cell 0
  have cb1 := HS.out.bb.cell 1
  have cb2 := HS.out.bb.cell 2
  have cb3 := HS.out.bb.cell 3
  simp only [ansCells, List.getElem?_toArray, List.getElem?_cons_zero, List.getElem?_cons_succ] at cb0 cb1 cb2 cb3
  go_wp2_with fail
  refine (wide_two a b (.slice vA vn vc) (.slice uA un uc) _ _ hna hnb (HS.out.step (below_new _ _)).pa (HS.out.step (below_new _ _)).pb ?kw).mono ?_
  case kw =>
    intro j
    rw [ans_cat]
    exact Lib.cell_of_heap (heap_alloc_new _ _) j
  rw [HW.out]
  rintro e w9 ⟨rfl, hb9⟩
  have HS := Lib.hid ((HS.out.step (below_new _ _)).step hb9)
  clear hb9 ca0 cb0 ca1 cb1 ca2 cb2 ca3 cb3
  go_wp2_with fail
  refine (works_any _ HS.out.env).mono ?_
  rintro e w8 ⟨rfl, hb8⟩
  have HF := Lib.hid (HS.out.step hb8).below
  clear hb8
  go_wp2_with fail
  go_ret
  exact Ret.of rfl HF.out
/-- The law CallOne. -/
theorem one_any (x y : CallR) (a b : AnsR) (va vb : Value) (w : World) (hE : Env w) (hx : CallIn x) (hy : CallIn y) (ea : IsInt a.err) (eb : IsInt b.err) (hA : PairsAt w va a.pairs) (hB : PairsAt w vb b.pairs) :
    Calls Tryz.prog 5 #[callV x, callV y, ansVV a va, ansVV b vb] w (Ret w (.bool true)) := by
  by_cases hL : 9000 ≤ longN x + longN y
  · exact one_long x y a b va vb w hE hA hB hL
  · cases hw : wideF [a, b] with
    | true => exact one_wide x y a b va vb w hE hA hB hL hw
    | false => exact one_main x y a b va vb w hE hx hy ea eb hA hB hL hw
end Go.Proofs.YthhhdddojmkgnaaGreatDoor
