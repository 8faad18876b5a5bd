/-
  The law CallBack walked.
-/
import Derived.Test.YthhhdddojmkgnaaGreatDoorCallRj
import Derived.Test.YthhhdddojmkgnaaGreatDoorCallRk
import Derived.Test.YthhhdddojmkgnaaGreatDoorCallIb
import Derived.Test.YthhhdddojmkgnaaGreatDoorCallD
import Derived.Test.YthhhdddojmkgnaaGreatDoorCallSl
namespace Go.Proofs.YthhhdddojmkgnaaGreatDoor
open Go.RowKit

theorem may_is (x : CallR) (m : Int) (w : World) (h : mayN x = m) : Calls Tryz.prog 21 #[callV x] w (Ret w (.int .i64 m)) := h ▸ may_any x w
theorem same_is (x y : CallR) (d : Bool) (w : World) (h : sameF x y = d) : Calls Tryz.prog 27 #[callV x, callV y] w (Ret w (.bool d)) := h ▸ same_val x y w
theorem clean_is (x : CallR) (w : World) (h : cleanF x = x) : Calls Tryz.prog 25 #[callV x] w (Ret w (callV x)) := by
  have := clean_val x w
  rwa [h] at this
theorem answers_same (a : AnsR) (va vb : Value) (w : World) (h : AnsOk a) (hA : PairsAt w va a.pairs) (hB : PairsAt w vb a.pairs) : Calls Tryz.prog 13 #[ansVV a va, ansVV a vb] w (Ret w (.bool true)) := by
  have := answers_val a a va vb w (by have := h.n; omega) hA hB
  rwa [(sameA_iff a a).2 rfl] at this
theorem callOk_in {x : CallR} (h : CallIn x) (h1 : x.key.length ≤ 9000 ∧ x.en.length ≤ 9000 ∧ x.va.length ≤ 9000) : CallOk x := ⟨h.tx, h.lim, by omega, by omega, by omega⟩
theorem long1_small {x : CallR} (h : ¬ 9000 ≤ longN x) : x.key.length ≤ 9000 ∧ x.en.length ≤ 9000 ∧ x.va.length ≤ 9000 := by
  unfold longN at h; omega
theorem slice_of {w : World} {v : Value} {ps : List (Bs × Bs)} (h : PairsAt w v ps) : ∃ A n c, v = .slice A n c := by
  obtain ⟨A, c, h, _⟩ := h
  exact ⟨_, _, _, h⟩
theorem clean_clean (x : CallR) : cleanF (cleanF x) = cleanF x := by
  obtain ⟨k, tx, key, en, va, lim, eng⟩ := x
  simp only [cleanF]
  congr 1 <;> split <;> rfl
/-- Parse at what it answers. -/
theorem parse_at (l : Bs) (z : CallR) (n : Int) (w : World) (hE : Env w) (hl : l.length ≤ 1000000000) (hz : pz l = z) (hn : pe l = n) : Calls Tryz.prog 17 #[.string (bs l)] w (Ret w (.tuple #[callV z, .int .i64 n])) := by
  subst hz; subst hn
  exact parse_val l w hE hl
/-- Read at what it answers. -/
def ReadA (a : AnsR) (n : Int) (w : World) (e : Ending) (w' : World) : Prop :=
  ∃ A k c, e = .returned (.tuple #[ansVV a (.slice A k c), .int .i64 n]) ∧ PairsAt w' (.slice A k c) a.pairs ∧ Below w.heap.size w w'
theorem read_at (l : Bs) (a : AnsR) (n : Int) (w : World) (hE : Env w) (hl : l.length ≤ 1000000000) (hz : ra l = a) (hn : re l = n) : Calls Tryz.prog 11 #[.string (bs l)] w (ReadA a n w) := by
  subst hz; subst hn
  refine (read_val l w hE hl).mono ?_
  rintro e w' ⟨v, rfl, ho, hb⟩
  have hp := pairs_of_row ho
  obtain ⟨A, k, c, rfl⟩ := slice_of hp
  exact ⟨A, k, c, rfl, hp, hb⟩

/-- The law's own arguments. -/
structure Bk0 (w0 : World) (x : CallR) (a : AnsR) (va : Value) (W : World) : Prop where
  below : Below w0.heap.size w0 W
  env0 : Env w0
  pa0 : PairsAt w0 va a.pairs
  bx : Blk W w0.heap.size (callCells x) 38
  ba : Blk W (w0.heap.size + 1) (ansCells a va) 25
theorem Bk0.step {w0 : World} {x : CallR} {a : AnsR} {va : Value} {W W' : World} (h : Bk0 w0 x a va W) (hb : Below W.heap.size W W') : Bk0 w0 x a va W' :=
  ⟨h.below.trans (hb.mono h.below.size), h.env0, h.pa0, h.bx.below hb, h.ba.below hb⟩
theorem Bk0.env {w0 : World} {x : CallR} {a : AnsR} {va : Value} {W : World} (h : Bk0 w0 x a va W) : Env W := h.env0.below h.below
theorem Bk0.pa {w0 : World} {x : CallR} {a : AnsR} {va : Value} {W : World} (h : Bk0 w0 x a va W) : PairsAt W va a.pairs := h.pa0.below h.below
theorem Bk0.new (w : World) (x : CallR) (a : AnsR) (va : Value) (hE : Env w) (ha : PairsAt w va a.pairs) : Bk0 w x a va ((w.alloc (.cells (callCells x) 38)).alloc (.cells (ansCells a va) 25)) := by
  refine ⟨(below_new w _).trans ((below_new _ _).mono (by simp)), hE, ha, (Blk.new w _ _).alloc _, ?_⟩
  have := Blk.new (w.alloc (.cells (callCells x) 38)) (ansCells a va) 25
  rwa [World.size_alloc] at this

/-- What stands while what was parsed is compared. -/
structure Bk4 (w0 : World) (x : CallR) (a : AnsR) (va : Value) (y : CallR) (p : Nat) (W : World) : Prop where
  b0 : Bk0 w0 x a va W
  by_ : Blk W p (callCells y) 38
theorem Bk4.step {w0 : World} {x : CallR} {a : AnsR} {va : Value} {y : CallR} {p : Nat} {W W' : World} (h : Bk4 w0 x a va y p W) (hb : Below W.heap.size W W') : Bk4 w0 x a va y p W' := ⟨h.b0.step hb, h.by_.below hb⟩
theorem Bk4.drew {w0 : World} {x : CallR} {a : AnsR} {va : Value} {y : CallR} {p : Nat} {W : World} (h : Bk4 w0 x a va y p W) : Bk4 w0 x a va y p W.drew := h.step (Below.refl W.heap.size W).drew
theorem Bk4.bx {w0 : World} {x : CallR} {a : AnsR} {va : Value} {y : CallR} {p : Nat} {W : World} (h : Bk4 w0 x a va y p W) : Blk W w0.heap.size (callCells x) 38 := h.b0.bx

/-- What stands at last: what was parsed, and read, of the text. -/
structure Bk9 (w0 : World) (z : CallR) (d : AnsR) (vd : Value) (p q : Nat) (W : World) : Prop where
  below : Below w0.heap.size w0 W
  env0 : Env w0
  bz : Blk W p (callCells z) 38
  bd : Blk W q (ansCells d vd) 25
  pd : PairsAt W vd d.pairs
theorem Bk9.step {w0 : World} {z : CallR} {d : AnsR} {vd : Value} {p q : Nat} {W W' : World} (h : Bk9 w0 z d vd p q W) (hb : Below W.heap.size W W') : Bk9 w0 z d vd p q W' :=
  ⟨h.below.trans (hb.mono h.below.size), h.env0, h.bz.below hb, h.bd.below hb, h.pd.below hb⟩
theorem Bk9.drew {w0 : World} {z : CallR} {d : AnsR} {vd : Value} {p q : Nat} {W : World} (h : Bk9 w0 z d vd p q W) : Bk9 w0 z d vd p q W.drew := h.step (Below.refl W.heap.size W).drew
theorem Bk9.env {w0 : World} {z : CallR} {d : AnsR} {vd : Value} {p q : Nat} {W : World} (h : Bk9 w0 z d vd p q W) : Env W := h.env0.below h.below
attribute [local go_sem high] PRef.eqA38

set_option maxRecDepth 100000 in
set_option maxHeartbeats 16000000 in
theorem back_main (x : CallR) (a : AnsR) (va : Value) (s : Bs) (w : World) (hE : Env w) (hx : CallIn x) (ea : IsInt a.err) (hA : PairsAt w va a.pairs) (hL : ¬ 9000 ≤ longN x) (hw : wideF [a] = false) (hs : s.length ≤ 9000) :
    Calls Tryz.prog 8 #[callV x, ansVV a va, .string (bs s)] w (Ret w (.bool true)) := by
  have HAa := Lib.hid (wide_ok hw (fun z hz => by simp at hz; subst hz; exact ea) a (by simp))
  have HCx := Lib.hid (callOk_in hx (long1_small hL))
  have hsl := show_length hx.tx hx.lim (long1_small hL)
  have htl : (tellF a).length ≤ 1000000000 := by
    have h1 : wideL 0 [a] < 9000 := by
      have := of_decide_eq_false hw
      omega
    obtain ⟨h2, h3, h4⟩ := wideL_small [a] 0 (by omega) h1 a (by simp)
    exact tell_short a ea h2 h3 h4
  have hdL : decide (9000 ≤ longN x) = false := decide_eq_false hL
  have HD := Lib.hid hdL
  have HW := Lib.hid hw
  have hna := hA.max
  have hrt : readF (tellF a) = some a := read_tell a ea
  have HRa := Lib.hid (show ra (tellF a) = a by unfold ra; rw [hrt]; rfl)
  have HRe := Lib.hid (show re (tellF a) = 0 by unfold re; rw [hrt]; rfl)
  have HTx := Lib.hid hx.tx
  have HLx := Lib.hid hx.lim
  have HS := Lib.hid (Bk0.new w x a va hE hA)
  obtain ⟨vA, vn, vc, rfl⟩ := slice_of hA
  clear hdL hw hL hE hA ea hrt hx
  go_enter Tryz.func8, Tryz.ntmps8
  unfold callV callCells ansVV ansCells
  go_wp2_with fail
  refine (works_any _ HS.out.env).mono ?_
  rintro e w1 ⟨rfl, hb1⟩
  have HS := Lib.hid (HS.out.step hb1)
  clear hb1
  have cx0 := HS.out.bx.cell 0
  have cx1 := HS.out.bx.cell 1
  have cx2 := HS.out.bx.cell 2
  have cx3 := HS.out.bx.cell 3
  have cx4 := HS.out.bx.cell 4
  have cx5 := HS.out.bx.cell 5
  have cx6 := HS.out.bx.cell 6
  simp only [callCells, List.getElem?_toArray, List.getElem?_cons_zero, List.getElem?_cons_succ] at cx0 cx1 cx2 cx3 cx4 cx5 cx6
  go_wp2_with fail
  refine (long_one x _ _ ?k2 ?k3 ?k4).mono ?_
  case k2 => exact Lib.cell_of_heap (heap_alloc_new _ _) 2
  case k3 => exact Lib.cell_of_heap (heap_alloc_new _ _) 3
  case k4 => exact Lib.cell_of_heap (heap_alloc_new _ _) 4
  rw [HD.out]
  rintro e w2 ⟨rfl, hb2⟩
  have HS := Lib.hid ((HS.out.step (below_new _ _)).step hb2)
  clear hb2 cx0 cx1 cx2 cx3 cx4 cx5 cx6
  have ca0 := HS.out.ba.cell 0
  have ca1 := HS.out.ba.cell 1
  have ca2 := HS.out.ba.cell 2
  have ca3 := HS.out.ba.cell 3
  simp only [ansCells, List.getElem?_toArray, List.getElem?_cons_zero, List.getElem?_cons_succ] at ca0 ca1 ca2 ca3
  go_wp2_with fail
  refine (wide_one a (.slice vA vn vc) _ _ hna (HS.out.step (below_new _ _)).pa ?kw).mono ?_
  case kw =>
    intro j
    exact Lib.cell_of_heap (heap_alloc_new _ _) j
  rw [HW.out]
  rintro e w3 ⟨rfl, hb3⟩
  have HS := Lib.hid ((HS.out.step (below_new _ _)).step hb3)
  clear hb3 ca0 ca1 ca2 ca3
  have cx0 := HS.out.bx.cell 0
  have cx1 := HS.out.bx.cell 1
  have cx2 := HS.out.bx.cell 2
  have cx3 := HS.out.bx.cell 3
  have cx4 := HS.out.bx.cell 4
  have cx5 := HS.out.bx.cell 5
  have cx6 := HS.out.bx.cell 6
  simp only [callCells, List.getElem?_toArray, List.getElem?_cons_zero, List.getElem?_cons_succ] at cx0 cx1 cx2 cx3 cx4 cx5 cx6
  go_wp2_with fail
  refine (show_any x _ HS.out.env HCx.out).mono ?_
  rintro e w31 ⟨rfl, hb31⟩
  have HS := Lib.hid (HS.out.step hb31)
  clear hb31 cx0 cx1 cx2 cx3 cx4 cx5 cx6
  go_wp2_with fail
  cases hmx : mayF x
  · have HMx := Lib.hid (show mayN x = 1 by rw [mayN, hmx]; rfl)
    have hsh : showF x = [] := by rw [showF, hmx]; rfl
    have hpn : parseF (showF x) = none := by rw [hsh]; rfl
    have HPz := Lib.hid (show pz (showF x) = noCall by unfold pz; rw [hpn]; rfl)
    have HPe := Lib.hid (show pe (showF x) = 4 by unfold pe; rw [hpn]; rfl)
    clear hmx hsh hpn
    refine (parse_at (showF x) noCall 4 _ HS.out.env (by omega) HPz.out HPe.out).mono ?_
    rintro e w4 ⟨rfl, hb4⟩
    have HS := Lib.hid (HS.out.step hb4)
    have HS4 : Hid (Bk4 w x a (.slice vA vn vc) noCall w4.heap.size (w4.alloc (.cells (callCells noCall) 38))) := Lib.hid ⟨HS.out.step (below_new _ _), Blk.new _ _ _⟩
    clear hb4 HS
    unfold callV callCells
    go_wp2_with fail
    refine det_start (n := 22) (l := #[false, false, false, false, false, false, false, false, false, false, false, false, false, false, false, false, false, false, false, false, false, false]) (S := Bk4 w x a (.slice vA vn vc) noCall w4.heap.size) (by kernel_rfl) (by rfl) (by rfl) HS4.out.drew ?_
    refine det_take (i := 0) (d := some 39) (l' := #[true, false, false, false, false, false, false, false, false, false, false, false, false, false, false, false, false, false, false, false, false, false]) (v := .int .i64 4) rfl rfl rfl (by kernel_rfl) (by kernel_rfl) (by kernel_rfl) (Or.inl ⟨by rfl, ?_⟩) ?_
    · intro w9 hS
      go_simp
      exact ⟨rfl, hS⟩
    simp only [Act.put, List.setIfInBounds_toArray, List.set_cons_zero, List.set_cons_succ]
    refine det_take (i := 1) (d := some 40) (l' := #[true, true, false, false, false, false, false, false, false, false, false, false, false, false, false, false, false, false, false, false, false, false]) (v := .bool false) rfl rfl rfl (by kernel_rfl) (by kernel_rfl) (by kernel_rfl) (Or.inl ⟨by rfl, ?_⟩) ?_
    · intro w9 hS
      go_simp
      first | exact ⟨rfl, hS⟩ | exact ⟨by simp, hS⟩
    simp only [Act.put, List.setIfInBounds_toArray, List.set_cons_zero, List.set_cons_succ]
    refine det_take (i := 2) (d := some 41) (l' := #[true, true, true, false, false, false, false, false, false, false, false, false, false, false, false, false, false, false, false, false, false, false]) (v := .agg (callCells x)) rfl rfl rfl (by kernel_rfl) (by kernel_rfl) (by kernel_rfl) (Or.inl ⟨by rfl, ?_⟩) ?_
    · intro w9 hS
      have l0 := hS.bx.cell 0
      have l1 := hS.bx.cell 1
      have l2 := hS.bx.cell 2
      have l3 := hS.bx.cell 3
      have l4 := hS.bx.cell 4
      have l5 := hS.bx.cell 5
      have l6 := hS.bx.cell 6
      simp only [callCells, List.getElem?_toArray, List.getElem?_cons_zero, List.getElem?_cons_succ] at l0 l1 l2 l3 l4 l5 l6
      go_simp
      exact ⟨rfl, hS⟩
    simp only [Act.put, List.setIfInBounds_toArray, List.set_cons_zero, List.set_cons_succ]
    refine det_take (i := 3) (d := some 42) (l' := #[true, true, true, true, false, false, false, false, false, false, false, false, false, false, false, false, false, false, false, false, false, false]) (v := .int .i64 1) rfl rfl rfl (by kernel_rfl) (by kernel_rfl) (by kernel_rfl) (Or.inl ⟨by rfl, ?_⟩) ?_
    · intro w9 hS
      go_simp
      refine Calls.mono (may_is x 1 _ HMx.out) ?_
      rintro e w8 ⟨rfl, hb⟩
      exact ⟨rfl, hS.step hb⟩
    simp only [Act.put, List.setIfInBounds_toArray, List.set_cons_zero, List.set_cons_succ]
    refine det_take (i := 4) (d := some 43) (l' := #[true, true, true, true, true, false, false, false, false, false, false, false, false, false, false, false, false, false, false, false, false, false]) (v := .bool false) rfl rfl rfl (by kernel_rfl) (by kernel_rfl) (by kernel_rfl) (Or.inl ⟨by rfl, ?_⟩) ?_
    · intro w9 hS
      go_simp
      first | exact ⟨rfl, hS⟩ | exact ⟨by simp, hS⟩
    simp only [Act.put, List.setIfInBounds_toArray, List.set_cons_zero, List.set_cons_succ]
    refine det_take (i := 5) (d := some 44) (l' := #[true, true, true, true, true, true, false, false, false, false, false, false, false, false, false, false, false, false, false, false, false, false]) (v := .bool false) rfl rfl rfl (by kernel_rfl) (by kernel_rfl) (by kernel_rfl) (Or.inl ⟨by rfl, ?_⟩) ?_
    · intro w9 hS
      go_simp
      first | exact ⟨rfl, hS⟩ | exact ⟨by simp, hS⟩
    simp only [Act.put, List.setIfInBounds_toArray, List.set_cons_zero, List.set_cons_succ]
    refine det_take (i := 6) (d := some 45) (l' := #[true, true, true, true, true, true, true, false, false, false, false, false, false, false, false, false, false, false, false, false, false, false]) (v := .bool false) rfl rfl rfl (by kernel_rfl) (by kernel_rfl) (by kernel_rfl) (Or.inl ⟨by rfl, ?_⟩) ?_
    · intro w9 hS
      go_simp
      exact ⟨rfl, hS⟩
    simp only [Act.put, List.setIfInBounds_toArray, List.set_cons_zero, List.set_cons_succ]
    refine det_take (i := 7) (d := some 46) (l' := #[true, true, true, true, true, true, true, true, false, false, false, false, false, false, false, false, false, false, false, false, false, false]) (v := .int .i64 4) rfl rfl rfl (by kernel_rfl) (by kernel_rfl) (by kernel_rfl) (Or.inl ⟨by rfl, ?_⟩) ?_
    · intro w9 hS
      go_simp
      exact ⟨rfl, hS⟩
    simp only [Act.put, List.setIfInBounds_toArray, List.set_cons_zero, List.set_cons_succ]
    refine det_take (i := 8) (d := some 47) (l' := #[true, true, true, true, true, true, true, true, true, false, false, false, false, false, false, false, false, false, false, false, false, false]) (v := .bool false) rfl rfl rfl (by kernel_rfl) (by kernel_rfl) (by kernel_rfl) (Or.inl ⟨by rfl, ?_⟩) ?_
    · intro w9 hS
      go_simp
      first | exact ⟨rfl, hS⟩ | exact ⟨by simp, hS⟩
    simp only [Act.put, List.setIfInBounds_toArray, List.set_cons_zero, List.set_cons_succ]
    refine det_take (i := 9) (d := some 48) (l' := #[true, true, true, true, true, true, true, true, true, true, false, false, false, false, false, false, false, false, false, false, false, false]) (v := .bool false) rfl rfl rfl (by kernel_rfl) (by kernel_rfl) (by kernel_rfl) (Or.inl ⟨by rfl, ?_⟩) ?_
    · intro w9 hS
      go_simp
      exact ⟨rfl, hS⟩
    simp only [Act.put, List.setIfInBounds_toArray, List.set_cons_zero, List.set_cons_succ]
    refine det_take (i := 10) (d := some 49) (l' := #[true, true, true, true, true, true, true, true, true, true, true, false, false, false, false, false, false, false, false, false, false, false]) (v := undef) rfl rfl rfl (by kernel_rfl) (by kernel_rfl) (by kernel_rfl) (Or.inr ⟨by rfl, rfl⟩) ?_
    simp only [Act.put, List.setIfInBounds_toArray, List.set_cons_zero, List.set_cons_succ]
    refine det_take (i := 11) (d := some 50) (l' := #[true, true, true, true, true, true, true, true, true, true, true, true, false, false, false, false, false, false, false, false, false, false]) (v := undef) rfl rfl rfl (by kernel_rfl) (by kernel_rfl) (by kernel_rfl) (Or.inr ⟨by rfl, rfl⟩) ?_
    simp only [Act.put, List.setIfInBounds_toArray, List.set_cons_zero, List.set_cons_succ]
    refine det_take (i := 12) (d := some 51) (l' := #[true, true, true, true, true, true, true, true, true, true, true, true, true, false, false, false, false, false, false, false, false, false]) (v := undef) rfl rfl rfl (by kernel_rfl) (by kernel_rfl) (by kernel_rfl) (Or.inr ⟨by rfl, rfl⟩) ?_
    simp only [Act.put, List.setIfInBounds_toArray, List.set_cons_zero, List.set_cons_succ]
    refine det_take (i := 13) (d := some 52) (l' := #[true, true, true, true, true, true, true, true, true, true, true, true, true, true, false, false, false, false, false, false, false, false]) (v := undef) rfl rfl rfl (by kernel_rfl) (by kernel_rfl) (by kernel_rfl) (Or.inr ⟨by rfl, rfl⟩) ?_
    simp only [Act.put, List.setIfInBounds_toArray, List.set_cons_zero, List.set_cons_succ]
    refine det_take (i := 14) (d := some 53) (l' := #[true, true, true, true, true, true, true, true, true, true, true, true, true, true, true, false, false, false, false, false, false, false]) (v := undef) rfl rfl rfl (by kernel_rfl) (by kernel_rfl) (by kernel_rfl) (Or.inr ⟨by rfl, rfl⟩) ?_
    simp only [Act.put, List.setIfInBounds_toArray, List.set_cons_zero, List.set_cons_succ]
    refine det_take (i := 15) (d := some 54) (l' := #[true, true, true, true, true, true, true, true, true, true, true, true, true, true, true, true, false, false, false, false, false, false]) (v := undef) rfl rfl rfl (by kernel_rfl) (by kernel_rfl) (by kernel_rfl) (Or.inr ⟨by rfl, rfl⟩) ?_
    simp only [Act.put, List.setIfInBounds_toArray, List.set_cons_zero, List.set_cons_succ]
    refine det_take (i := 16) (d := some 55) (l' := #[true, true, true, true, true, true, true, true, true, true, true, true, true, true, true, true, true, false, false, false, false, false]) (v := undef) rfl rfl rfl (by kernel_rfl) (by kernel_rfl) (by kernel_rfl) (Or.inr ⟨by rfl, rfl⟩) ?_
    simp only [Act.put, List.setIfInBounds_toArray, List.set_cons_zero, List.set_cons_succ]
    refine det_take (i := 17) (d := some 56) (l' := #[true, true, true, true, true, true, true, true, true, true, true, true, true, true, true, true, true, true, false, false, false, false]) (v := undef) rfl rfl rfl (by kernel_rfl) (by kernel_rfl) (by kernel_rfl) (Or.inr ⟨by rfl, rfl⟩) ?_
    simp only [Act.put, List.setIfInBounds_toArray, List.set_cons_zero, List.set_cons_succ]
    refine det_take (i := 18) (d := some 57) (l' := #[true, true, true, true, true, true, true, true, true, true, true, true, true, true, true, true, true, true, true, false, false, false]) (v := undef) rfl rfl rfl (by kernel_rfl) (by kernel_rfl) (by kernel_rfl) (Or.inr ⟨by rfl, rfl⟩) ?_
    simp only [Act.put, List.setIfInBounds_toArray, List.set_cons_zero, List.set_cons_succ]
    refine det_take (i := 19) (d := some 58) (l' := #[true, true, true, true, true, true, true, true, true, true, true, true, true, true, true, true, true, true, true, true, false, false]) (v := undef) rfl rfl rfl (by kernel_rfl) (by kernel_rfl) (by kernel_rfl) (Or.inr ⟨by rfl, rfl⟩) ?_
    simp only [Act.put, List.setIfInBounds_toArray, List.set_cons_zero, List.set_cons_succ]
    refine det_take (i := 20) (d := some 59) (l' := #[true, true, true, true, true, true, true, true, true, true, true, true, true, true, true, true, true, true, true, true, true, false]) (v := .bool false) rfl rfl rfl (by kernel_rfl) (by kernel_rfl) (by kernel_rfl) (Or.inl ⟨by rfl, ?_⟩) ?_
    · intro w9 hS
      go_simp
      exact ⟨rfl, hS⟩
    simp only [Act.put, List.setIfInBounds_toArray, List.set_cons_zero, List.set_cons_succ]
    refine det_take (i := 21) (d := some 60) (l' := #[true, true, true, true, true, true, true, true, true, true, true, true, true, true, true, true, true, true, true, true, true, true]) (v := .bool false) rfl rfl rfl (by kernel_rfl) (by kernel_rfl) (by kernel_rfl) (Or.inl ⟨by rfl, ?_⟩) ?_
    · intro w9 hS
      go_simp
      exact ⟨rfl, hS⟩
    simp only [Act.put, List.setIfInBounds_toArray, List.set_cons_zero, List.set_cons_succ]
    refine det_done (by kernel_rfl) ?_ _
    intro w41 hS
    have HS := Lib.hid hS.b0
    clear hS HS4
    have ca0 := HS.out.ba.cell 0
    have ca1 := HS.out.ba.cell 1
    have ca2 := HS.out.ba.cell 2
    have ca3 := HS.out.ba.cell 3
    simp only [ansCells, List.getElem?_toArray, List.getElem?_cons_zero, List.getElem?_cons_succ] at ca0 ca1 ca2 ca3
    go_wp2_with fail
    refine (tell_any a _ _ HS.out.env HAa.out HS.out.pa).mono ?_
    rintro e w5 ⟨rfl, hb5⟩
    have HS := Lib.hid (HS.out.step hb5)
    clear hb5 ca0 ca1 ca2 ca3
    go_wp2_with fail
    refine (read_at (tellF a) a 0 _ HS.out.env htl HRa.out HRe.out).mono ?_
    rintro e w6 ⟨uA, un, uc, rfl, hpu, hb6⟩
    have HS := Lib.hid ((HS.out.step hb6).step (below_new w6 (.cells (ansCells a (.slice uA un uc)) 25)))
    have HPu := Lib.hid (hpu.below (below_new w6 (.cells (ansCells a (.slice uA un uc)) 25)))
    clear hb6 hpu
    have ca0 := HS.out.ba.cell 0
    have ca1 := HS.out.ba.cell 1
    have ca2 := HS.out.ba.cell 2
    have ca3 := HS.out.ba.cell 3
    simp only [ansCells, List.getElem?_toArray, List.getElem?_cons_zero, List.getElem?_cons_succ] at ca0 ca1 ca2 ca3
    unfold ansVV ansCells
    simp only [ansCells] at ca0 ca1 ca2 ca3 HS HPu
    go_wp2_with fail
    refine (answers_same a _ _ _ HAa.out HS.out.pa HPu.out).mono ?_
    rintro e w7 ⟨rfl, hb7⟩
    have HS := Lib.hid (HS.out.step hb7)
    clear hb7 HPu ca0 ca1 ca2 ca3
    have HB7 := Lib.hid HS.out.below
    have HE7 := Lib.hid HS.out.env0
    clear HS
    go_wp2_with fail
    obtain ⟨z, hz⟩ : ∃ z, pz s = z := ⟨_, rfl⟩
    obtain ⟨d, hd⟩ : ∃ d, ra s = d := ⟨_, rfl⟩
    have HAd := Lib.hid (show AnsOk d from hd ▸ ra_n s (by omega))
    cases hp : parseF s with
    | some z' =>
      have hr := parse_no_read hp
      obtain rfl : z' = z := by rw [← hz]; unfold pz; rw [hp]; rfl
      have hq := parse_is s z' hp
      have HCz := Lib.hid (parsed_ok hp (by omega))
      have HMz := Lib.hid (show mayN z' = 0 by rw [mayN, hq.may]; rfl)
      have HCl := Lib.hid hq.clean
      have HSz := Lib.hid (show_parse hp)
      have HPE := Lib.hid (show pe s = 0 by unfold pe; rw [hp]; rfl)
      have HRE := Lib.hid (show re s = 4 by unfold re; rw [hr]; rfl)
      have HZ := Lib.hid hz
      have HD' := Lib.hid hd
      clear hp hr hq hz hd
      refine (parse_at s z' 0 _ (HE7.out.below HB7.out) (by omega) HZ.out HPE.out).mono ?_
      rintro e w8 ⟨rfl, hb8⟩
      have HB8 := Lib.hid (HB7.out.trans (hb8.mono HB7.out.size))
      clear hb8 HB7
      unfold callV callCells
      go_wp2_with fail
      have HB8n := Lib.hid (HB8.out.trans ((below_new w8 (.cells (callCells z') 38)).mono HB8.out.size))
      have HZ8 := Lib.hid (Blk.new w8 (callCells z') 38)
      refine (read_at s d 4 _ (HE7.out.below HB8n.out) (by omega) HD'.out HRE.out).mono ?_
      rintro e w9 ⟨dA, dn, dc, rfl, hpd, hb9⟩
      have HS9 : Hid (Bk9 w z' d (.slice dA dn dc) w8.heap.size w9.heap.size (w9.alloc (.cells (ansCells d (.slice dA dn dc)) 25))) := Lib.hid
        ⟨(HB8n.out.trans (hb9.mono HB8n.out.size)).alloc (Nat.le_trans HB8n.out.size hb9.size) _, HE7.out, (HZ8.out.below hb9).alloc _, Blk.new _ _ _, hpd.below (below_new _ _)⟩
      clear hb9 hpd HB8 HB8n HZ8
      unfold ansVV ansCells
      go_wp2_with fail
      refine det_start (n := 38) (l := #[false, false, false, false, false, false, false, false, false, false, false, false, false, false, false, false, false, false, false, false, false, false, false, false, false, false, false, false, false, false, false, false, false, false, false, false, false, false]) (S := Bk9 w z' d (.slice dA dn dc) w8.heap.size w9.heap.size) (by kernel_rfl) (by rfl) (by rfl) HS9.out.drew ?_
      refine det_take (i := 0) (d := some 85) (l' := #[true, false, false, false, false, false, false, false, false, false, false, false, false, false, false, false, false, false, false, false, false, false, false, false, false, false, false, false, false, false, false, false, false, false, false, false, false, false]) (v := .int .i64 0) rfl rfl rfl (by kernel_rfl) (by kernel_rfl) (by kernel_rfl) (Or.inl ⟨by rfl, ?_⟩) ?_
      · intro w9 hS
        go_simp
        exact ⟨rfl, hS⟩
      simp only [Act.put, List.setIfInBounds_toArray, List.set_cons_zero, List.set_cons_succ]
      refine det_take (i := 1) (d := some 86) (l' := #[true, true, false, false, false, false, false, false, false, false, false, false, false, false, false, false, false, false, false, false, false, false, false, false, false, false, false, false, false, false, false, false, false, false, false, false, false, false]) (v := .bool false) rfl rfl rfl (by kernel_rfl) (by kernel_rfl) (by kernel_rfl) (Or.inl ⟨by rfl, ?_⟩) ?_
      · intro w9 hS
        go_simp
        first | exact ⟨rfl, hS⟩ | exact ⟨by simp, hS⟩
      simp only [Act.put, List.setIfInBounds_toArray, List.set_cons_zero, List.set_cons_succ]
      refine det_take (i := 2) (d := some 87) (l' := #[true, true, true, false, false, false, false, false, false, false, false, false, false, false, false, false, false, false, false, false, false, false, false, false, false, false, false, false, false, false, false, false, false, false, false, false, false, false]) (v := .bool false) rfl rfl rfl (by kernel_rfl) (by kernel_rfl) (by kernel_rfl) (Or.inl ⟨by rfl, ?_⟩) ?_
      · intro w9 hS
        go_simp
        exact ⟨rfl, hS⟩
      simp only [Act.put, List.setIfInBounds_toArray, List.set_cons_zero, List.set_cons_succ]
      refine det_take (i := 3) (d := some 88) (l' := #[true, true, true, true, false, false, false, false, false, false, false, false, false, false, false, false, false, false, false, false, false, false, false, false, false, false, false, false, false, false, false, false, false, false, false, false, false, false]) (v := .agg (callCells z')) rfl rfl rfl (by kernel_rfl) (by kernel_rfl) (by kernel_rfl) (Or.inl ⟨by rfl, ?_⟩) ?_
      · intro w9 hS
        have l0 := hS.bz.cell 0
        have l1 := hS.bz.cell 1
        have l2 := hS.bz.cell 2
        have l3 := hS.bz.cell 3
        have l4 := hS.bz.cell 4
        have l5 := hS.bz.cell 5
        have l6 := hS.bz.cell 6
        simp only [callCells, List.getElem?_toArray, List.getElem?_cons_zero, List.getElem?_cons_succ] at l0 l1 l2 l3 l4 l5 l6
        go_simp
        exact ⟨rfl, hS⟩
      simp only [Act.put, List.setIfInBounds_toArray, List.set_cons_zero, List.set_cons_succ]
      refine det_take (i := 4) (d := some 89) (l' := #[true, true, true, true, true, false, false, false, false, false, false, false, false, false, false, false, false, false, false, false, false, false, false, false, false, false, false, false, false, false, false, false, false, false, false, false, false, false]) (v := .string (bs (showF z'))) rfl rfl rfl (by kernel_rfl) (by kernel_rfl) (by kernel_rfl) (Or.inl ⟨by rfl, ?_⟩) ?_
      · intro w9 hS
        go_simp
        refine Calls.mono (show_any z' _ hS.env HCz.out) ?_
        rintro e w8 ⟨rfl, hb⟩
        exact ⟨rfl, hS.step hb⟩
      simp only [Act.put, List.setIfInBounds_toArray, List.set_cons_zero, List.set_cons_succ]
      refine det_take (i := 5) (d := some 90) (l' := #[true, true, true, true, true, true, false, false, false, false, false, false, false, false, false, false, false, false, false, false, false, false, false, false, false, false, false, false, false, false, false, false, false, false, false, false, false, false]) (v := .string (bs s)) rfl rfl rfl (by kernel_rfl) (by kernel_rfl) (by kernel_rfl) (Or.inl ⟨by rfl, ?_⟩) ?_
      · intro w9 hS
        go_simp
        exact ⟨rfl, hS⟩
      simp only [Act.put, List.setIfInBounds_toArray, List.set_cons_zero, List.set_cons_succ]
      refine det_take (i := 6) (d := some 91) (l' := #[true, true, true, true, true, true, true, false, false, false, false, false, false, false, false, false, false, false, false, false, false, false, false, false, false, false, false, false, false, false, false, false, false, false, false, false, false, false]) (v := .bool true) rfl rfl rfl (by kernel_rfl) (by kernel_rfl) (by kernel_rfl) (Or.inl ⟨by rfl, ?_⟩) ?_
      · intro w9 hS
        go_simp
        first | exact ⟨rfl, hS⟩ | exact ⟨by rw [HSz.out]; simp, hS⟩ | exact ⟨by simp [HSz.out], hS⟩
      simp only [Act.put, List.setIfInBounds_toArray, List.set_cons_zero, List.set_cons_succ]
      refine det_take (i := 7) (d := some 92) (l' := #[true, true, true, true, true, true, true, true, false, false, false, false, false, false, false, false, false, false, false, false, false, false, false, false, false, false, false, false, false, false, false, false, false, false, false, false, false, false]) (v := .bool true) rfl rfl rfl (by kernel_rfl) (by kernel_rfl) (by kernel_rfl) (Or.inl ⟨by rfl, ?_⟩) ?_
      · intro w9 hS
        go_simp
        exact ⟨rfl, hS⟩
      simp only [Act.put, List.setIfInBounds_toArray, List.set_cons_zero, List.set_cons_succ]
      refine det_take (i := 8) (d := some 93) (l' := #[true, true, true, true, true, true, true, true, true, false, false, false, false, false, false, false, false, false, false, false, false, false, false, false, false, false, false, false, false, false, false, false, false, false, false, false, false, false]) (v := .agg (callCells z')) rfl rfl rfl (by kernel_rfl) (by kernel_rfl) (by kernel_rfl) (Or.inl ⟨by rfl, ?_⟩) ?_
      · intro w9 hS
        have l0 := hS.bz.cell 0
        have l1 := hS.bz.cell 1
        have l2 := hS.bz.cell 2
        have l3 := hS.bz.cell 3
        have l4 := hS.bz.cell 4
        have l5 := hS.bz.cell 5
        have l6 := hS.bz.cell 6
        simp only [callCells, List.getElem?_toArray, List.getElem?_cons_zero, List.getElem?_cons_succ] at l0 l1 l2 l3 l4 l5 l6
        go_simp
        exact ⟨rfl, hS⟩
      simp only [Act.put, List.setIfInBounds_toArray, List.set_cons_zero, List.set_cons_succ]
      refine det_take (i := 9) (d := some 94) (l' := #[true, true, true, true, true, true, true, true, true, true, false, false, false, false, false, false, false, false, false, false, false, false, false, false, false, false, false, false, false, false, false, false, false, false, false, false, false, false]) (v := .int .i64 0) rfl rfl rfl (by kernel_rfl) (by kernel_rfl) (by kernel_rfl) (Or.inl ⟨by rfl, ?_⟩) ?_
      · intro w9 hS
        go_simp
        refine Calls.mono (may_is z' 0 _ HMz.out) ?_
        rintro e w8 ⟨rfl, hb⟩
        exact ⟨rfl, hS.step hb⟩
      simp only [Act.put, List.setIfInBounds_toArray, List.set_cons_zero, List.set_cons_succ]
      refine det_take (i := 10) (d := some 95) (l' := #[true, true, true, true, true, true, true, true, true, true, true, false, false, false, false, false, false, false, false, false, false, false, false, false, false, false, false, false, false, false, false, false, false, false, false, false, false, false]) (v := .bool true) rfl rfl rfl (by kernel_rfl) (by kernel_rfl) (by kernel_rfl) (Or.inl ⟨by rfl, ?_⟩) ?_
      · intro w9 hS
        go_simp
        first | exact ⟨rfl, hS⟩ | exact ⟨by simp, hS⟩
      simp only [Act.put, List.setIfInBounds_toArray, List.set_cons_zero, List.set_cons_succ]
      refine det_take (i := 11) (d := some 96) (l' := #[true, true, true, true, true, true, true, true, true, true, true, true, false, false, false, false, false, false, false, false, false, false, false, false, false, false, false, false, false, false, false, false, false, false, false, false, false, false]) (v := .bool true) rfl rfl rfl (by kernel_rfl) (by kernel_rfl) (by kernel_rfl) (Or.inl ⟨by rfl, ?_⟩) ?_
      · intro w9 hS
        go_simp
        exact ⟨rfl, hS⟩
      simp only [Act.put, List.setIfInBounds_toArray, List.set_cons_zero, List.set_cons_succ]
      refine det_take (i := 12) (d := some 97) (l' := #[true, true, true, true, true, true, true, true, true, true, true, true, true, false, false, false, false, false, false, false, false, false, false, false, false, false, false, false, false, false, false, false, false, false, false, false, false, false]) (v := .bool true) rfl rfl rfl (by kernel_rfl) (by kernel_rfl) (by kernel_rfl) (Or.inl ⟨by rfl, ?_⟩) ?_
      · intro w9 hS
        go_simp
        exact ⟨rfl, hS⟩
      simp only [Act.put, List.setIfInBounds_toArray, List.set_cons_zero, List.set_cons_succ]
      refine det_take (i := 13) (d := some 98) (l' := #[true, true, true, true, true, true, true, true, true, true, true, true, true, true, false, false, false, false, false, false, false, false, false, false, false, false, false, false, false, false, false, false, false, false, false, false, false, false]) (v := .agg (callCells z')) rfl rfl rfl (by kernel_rfl) (by kernel_rfl) (by kernel_rfl) (Or.inl ⟨by rfl, ?_⟩) ?_
      · intro w9 hS
        have l0 := hS.bz.cell 0
        have l1 := hS.bz.cell 1
        have l2 := hS.bz.cell 2
        have l3 := hS.bz.cell 3
        have l4 := hS.bz.cell 4
        have l5 := hS.bz.cell 5
        have l6 := hS.bz.cell 6
        simp only [callCells, List.getElem?_toArray, List.getElem?_cons_zero, List.getElem?_cons_succ] at l0 l1 l2 l3 l4 l5 l6
        go_simp
        exact ⟨rfl, hS⟩
      simp only [Act.put, List.setIfInBounds_toArray, List.set_cons_zero, List.set_cons_succ]
      refine det_take (i := 14) (d := some 99) (l' := #[true, true, true, true, true, true, true, true, true, true, true, true, true, true, true, false, false, false, false, false, false, false, false, false, false, false, false, false, false, false, false, false, false, false, false, false, false, false]) (v := .agg (callCells z')) rfl rfl rfl (by kernel_rfl) (by kernel_rfl) (by kernel_rfl) (Or.inl ⟨by rfl, ?_⟩) ?_
      · intro w9 hS
        go_simp
        refine Calls.mono (clean_is z' _ HCl.out) ?_
        rintro e w8 ⟨rfl, hb⟩
        exact ⟨rfl, hS.step hb⟩
      simp only [Act.put, List.setIfInBounds_toArray, List.set_cons_zero, List.set_cons_succ]
      refine det_take (i := 15) (d := some 100) (l' := #[true, true, true, true, true, true, true, true, true, true, true, true, true, true, true, true, false, false, false, false, false, false, false, false, false, false, false, false, false, false, false, false, false, false, false, false, false, false]) (v := .agg (callCells z')) rfl rfl rfl (by kernel_rfl) (by kernel_rfl) (by kernel_rfl) (Or.inl ⟨by rfl, ?_⟩) ?_
      · intro w9 hS
        have l0 := hS.bz.cell 0
        have l1 := hS.bz.cell 1
        have l2 := hS.bz.cell 2
        have l3 := hS.bz.cell 3
        have l4 := hS.bz.cell 4
        have l5 := hS.bz.cell 5
        have l6 := hS.bz.cell 6
        simp only [callCells, List.getElem?_toArray, List.getElem?_cons_zero, List.getElem?_cons_succ] at l0 l1 l2 l3 l4 l5 l6
        go_simp
        exact ⟨rfl, hS⟩
      simp only [Act.put, List.setIfInBounds_toArray, List.set_cons_zero, List.set_cons_succ]
      refine det_take (i := 16) (d := some 101) (l' := #[true, true, true, true, true, true, true, true, true, true, true, true, true, true, true, true, true, false, false, false, false, false, false, false, false, false, false, false, false, false, false, false, false, false, false, false, false, false]) (v := .bool true) rfl rfl rfl (by kernel_rfl) (by kernel_rfl) (by kernel_rfl) (Or.inl ⟨by rfl, ?_⟩) ?_
      · intro w9 hS
        simp only [callCells]
        go_simp
        first | exact ⟨rfl, hS⟩ | exact ⟨by simp, hS⟩
      simp only [Act.put, List.setIfInBounds_toArray, List.set_cons_zero, List.set_cons_succ]
      refine det_take (i := 17) (d := some 102) (l' := #[true, true, true, true, true, true, true, true, true, true, true, true, true, true, true, true, true, true, false, false, false, false, false, false, false, false, false, false, false, false, false, false, false, false, false, false, false, false]) (v := .bool true) rfl rfl rfl (by kernel_rfl) (by kernel_rfl) (by kernel_rfl) (Or.inl ⟨by rfl, ?_⟩) ?_
      · intro w9 hS
        go_simp
        exact ⟨rfl, hS⟩
      simp only [Act.put, List.setIfInBounds_toArray, List.set_cons_zero, List.set_cons_succ]
      refine det_take (i := 18) (d := some 103) (l' := #[true, true, true, true, true, true, true, true, true, true, true, true, true, true, true, true, true, true, true, false, false, false, false, false, false, false, false, false, false, false, false, false, false, false, false, false, false, false]) (v := .bool true) rfl rfl rfl (by kernel_rfl) (by kernel_rfl) (by kernel_rfl) (Or.inl ⟨by rfl, ?_⟩) ?_
      · intro w9 hS
        go_simp
        exact ⟨rfl, hS⟩
      simp only [Act.put, List.setIfInBounds_toArray, List.set_cons_zero, List.set_cons_succ]
      refine det_take (i := 19) (d := some 104) (l' := #[true, true, true, true, true, true, true, true, true, true, true, true, true, true, true, true, true, true, true, true, false, false, false, false, false, false, false, false, false, false, false, false, false, false, false, false, false, false]) (v := .bool true) rfl rfl rfl (by kernel_rfl) (by kernel_rfl) (by kernel_rfl) (Or.inl ⟨by rfl, ?_⟩) ?_
      · intro w9 hS
        go_simp
        exact ⟨rfl, hS⟩
      simp only [Act.put, List.setIfInBounds_toArray, List.set_cons_zero, List.set_cons_succ]
      refine det_take (i := 20) (d := some 105) (l' := #[true, true, true, true, true, true, true, true, true, true, true, true, true, true, true, true, true, true, true, true, true, false, false, false, false, false, false, false, false, false, false, false, false, false, false, false, false, false]) (v := .int .i64 4) rfl rfl rfl (by kernel_rfl) (by kernel_rfl) (by kernel_rfl) (Or.inl ⟨by rfl, ?_⟩) ?_
      · intro w9 hS
        go_simp
        exact ⟨rfl, hS⟩
      simp only [Act.put, List.setIfInBounds_toArray, List.set_cons_zero, List.set_cons_succ]
      refine det_take (i := 21) (d := some 106) (l' := #[true, true, true, true, true, true, true, true, true, true, true, true, true, true, true, true, true, true, true, true, true, true, false, false, false, false, false, false, false, false, false, false, false, false, false, false, false, false]) (v := .bool true) rfl rfl rfl (by kernel_rfl) (by kernel_rfl) (by kernel_rfl) (Or.inl ⟨by rfl, ?_⟩) ?_
      · intro w9 hS
        go_simp
        first | exact ⟨rfl, hS⟩ | exact ⟨by simp, hS⟩
      simp only [Act.put, List.setIfInBounds_toArray, List.set_cons_zero, List.set_cons_succ]
      refine det_take (i := 22) (d := some 107) (l' := #[true, true, true, true, true, true, true, true, true, true, true, true, true, true, true, true, true, true, true, true, true, true, true, false, false, false, false, false, false, false, false, false, false, false, false, false, false, false]) (v := .bool true) rfl rfl rfl (by kernel_rfl) (by kernel_rfl) (by kernel_rfl) (Or.inl ⟨by rfl, ?_⟩) ?_
      · intro w9 hS
        go_simp
        exact ⟨rfl, hS⟩
      simp only [Act.put, List.setIfInBounds_toArray, List.set_cons_zero, List.set_cons_succ]
      refine det_take (i := 23) (d := some 108) (l' := #[true, true, true, true, true, true, true, true, true, true, true, true, true, true, true, true, true, true, true, true, true, true, true, true, false, false, false, false, false, false, false, false, false, false, false, false, false, false]) (v := undef) rfl rfl rfl (by kernel_rfl) (by kernel_rfl) (by kernel_rfl) (Or.inr ⟨by rfl, rfl⟩) ?_
      simp only [Act.put, List.setIfInBounds_toArray, List.set_cons_zero, List.set_cons_succ]
      refine det_take (i := 24) (d := some 109) (l' := #[true, true, true, true, true, true, true, true, true, true, true, true, true, true, true, true, true, true, true, true, true, true, true, true, true, false, false, false, false, false, false, false, false, false, false, false, false, false]) (v := undef) rfl rfl rfl (by kernel_rfl) (by kernel_rfl) (by kernel_rfl) (Or.inr ⟨by rfl, rfl⟩) ?_
      simp only [Act.put, List.setIfInBounds_toArray, List.set_cons_zero, List.set_cons_succ]
      refine det_take (i := 25) (d := some 110) (l' := #[true, true, true, true, true, true, true, true, true, true, true, true, true, true, true, true, true, true, true, true, true, true, true, true, true, true, false, false, false, false, false, false, false, false, false, false, false, false]) (v := undef) rfl rfl rfl (by kernel_rfl) (by kernel_rfl) (by kernel_rfl) (Or.inr ⟨by rfl, rfl⟩) ?_
      simp only [Act.put, List.setIfInBounds_toArray, List.set_cons_zero, List.set_cons_succ]
      refine det_take (i := 26) (d := some 111) (l' := #[true, true, true, true, true, true, true, true, true, true, true, true, true, true, true, true, true, true, true, true, true, true, true, true, true, true, true, false, false, false, false, false, false, false, false, false, false, false]) (v := undef) rfl rfl rfl (by kernel_rfl) (by kernel_rfl) (by kernel_rfl) (Or.inr ⟨by rfl, rfl⟩) ?_
      simp only [Act.put, List.setIfInBounds_toArray, List.set_cons_zero, List.set_cons_succ]
      refine det_take (i := 27) (d := some 112) (l' := #[true, true, true, true, true, true, true, true, true, true, true, true, true, true, true, true, true, true, true, true, true, true, true, true, true, true, true, true, false, false, false, false, false, false, false, false, false, false]) (v := .bool true) rfl rfl rfl (by kernel_rfl) (by kernel_rfl) (by kernel_rfl) (Or.inl ⟨by rfl, ?_⟩) ?_
      · intro w9 hS
        go_simp
        exact ⟨rfl, hS⟩
      simp only [Act.put, List.setIfInBounds_toArray, List.set_cons_zero, List.set_cons_succ]
      refine det_take (i := 28) (d := some 113) (l' := #[true, true, true, true, true, true, true, true, true, true, true, true, true, true, true, true, true, true, true, true, true, true, true, true, true, true, true, true, true, false, false, false, false, false, false, false, false, false]) (v := .bool true) rfl rfl rfl (by kernel_rfl) (by kernel_rfl) (by kernel_rfl) (Or.inl ⟨by rfl, ?_⟩) ?_
      · intro w9 hS
        go_simp
        exact ⟨rfl, hS⟩
      simp only [Act.put, List.setIfInBounds_toArray, List.set_cons_zero, List.set_cons_succ]
      refine det_take (i := 29) (d := some 114) (l' := #[true, true, true, true, true, true, true, true, true, true, true, true, true, true, true, true, true, true, true, true, true, true, true, true, true, true, true, true, true, true, false, false, false, false, false, false, false, false]) (v := .bool true) rfl rfl rfl (by kernel_rfl) (by kernel_rfl) (by kernel_rfl) (Or.inl ⟨by rfl, ?_⟩) ?_
      · intro w9 hS
        go_simp
        exact ⟨rfl, hS⟩
      simp only [Act.put, List.setIfInBounds_toArray, List.set_cons_zero, List.set_cons_succ]
      refine det_take (i := 30) (d := some 115) (l' := #[true, true, true, true, true, true, true, true, true, true, true, true, true, true, true, true, true, true, true, true, true, true, true, true, true, true, true, true, true, true, true, false, false, false, false, false, false, false]) (v := .int .i64 0) rfl rfl rfl (by kernel_rfl) (by kernel_rfl) (by kernel_rfl) (Or.inl ⟨by rfl, ?_⟩) ?_
      · intro w9 hS
        go_simp
        exact ⟨rfl, hS⟩
      simp only [Act.put, List.setIfInBounds_toArray, List.set_cons_zero, List.set_cons_succ]
      refine det_take (i := 31) (d := some 116) (l' := #[true, true, true, true, true, true, true, true, true, true, true, true, true, true, true, true, true, true, true, true, true, true, true, true, true, true, true, true, true, true, true, true, false, false, false, false, false, false]) (v := .bool false) rfl rfl rfl (by kernel_rfl) (by kernel_rfl) (by kernel_rfl) (Or.inl ⟨by rfl, ?_⟩) ?_
      · intro w9 hS
        go_simp
        first | exact ⟨rfl, hS⟩ | exact ⟨by simp, hS⟩
      simp only [Act.put, List.setIfInBounds_toArray, List.set_cons_zero, List.set_cons_succ]
      refine det_take (i := 32) (d := some 117) (l' := #[true, true, true, true, true, true, true, true, true, true, true, true, true, true, true, true, true, true, true, true, true, true, true, true, true, true, true, true, true, true, true, true, true, false, false, false, false, false]) (v := .bool false) rfl rfl rfl (by kernel_rfl) (by kernel_rfl) (by kernel_rfl) (Or.inl ⟨by rfl, ?_⟩) ?_
      · intro w9 hS
        go_simp
        exact ⟨rfl, hS⟩
      simp only [Act.put, List.setIfInBounds_toArray, List.set_cons_zero, List.set_cons_succ]
      refine det_take (i := 33) (d := some 118) (l' := #[true, true, true, true, true, true, true, true, true, true, true, true, true, true, true, true, true, true, true, true, true, true, true, true, true, true, true, true, true, true, true, true, true, true, false, false, false, false]) (v := .int .i64 4) rfl rfl rfl (by kernel_rfl) (by kernel_rfl) (by kernel_rfl) (Or.inl ⟨by rfl, ?_⟩) ?_
      · intro w9 hS
        go_simp
        exact ⟨rfl, hS⟩
      simp only [Act.put, List.setIfInBounds_toArray, List.set_cons_zero, List.set_cons_succ]
      refine det_take (i := 34) (d := some 119) (l' := #[true, true, true, true, true, true, true, true, true, true, true, true, true, true, true, true, true, true, true, true, true, true, true, true, true, true, true, true, true, true, true, true, true, true, true, false, false, false]) (v := .bool true) rfl rfl rfl (by kernel_rfl) (by kernel_rfl) (by kernel_rfl) (Or.inl ⟨by rfl, ?_⟩) ?_
      · intro w9 hS
        go_simp
        first | exact ⟨rfl, hS⟩ | exact ⟨by simp, hS⟩
      simp only [Act.put, List.setIfInBounds_toArray, List.set_cons_zero, List.set_cons_succ]
      refine det_take (i := 35) (d := some 120) (l' := #[true, true, true, true, true, true, true, true, true, true, true, true, true, true, true, true, true, true, true, true, true, true, true, true, true, true, true, true, true, true, true, true, true, true, true, true, false, false]) (v := .bool true) rfl rfl rfl (by kernel_rfl) (by kernel_rfl) (by kernel_rfl) (Or.inl ⟨by rfl, ?_⟩) ?_
      · intro w9 hS
        go_simp
        exact ⟨rfl, hS⟩
      simp only [Act.put, List.setIfInBounds_toArray, List.set_cons_zero, List.set_cons_succ]
      refine det_take (i := 36) (d := some 121) (l' := #[true, true, true, true, true, true, true, true, true, true, true, true, true, true, true, true, true, true, true, true, true, true, true, true, true, true, true, true, true, true, true, true, true, true, true, true, true, false]) (v := .bool true) rfl rfl rfl (by kernel_rfl) (by kernel_rfl) (by kernel_rfl) (Or.inl ⟨by rfl, ?_⟩) ?_
      · intro w9 hS
        go_simp
        exact ⟨rfl, hS⟩
      simp only [Act.put, List.setIfInBounds_toArray, List.set_cons_zero, List.set_cons_succ]
      refine det_take (i := 37) (d := some 6) (l' := #[true, true, true, true, true, true, true, true, true, true, true, true, true, true, true, true, true, true, true, true, true, true, true, true, true, true, true, true, true, true, true, true, true, true, true, true, true, true]) (v := .bool true) rfl rfl rfl (by kernel_rfl) (by kernel_rfl) (by kernel_rfl) (Or.inl ⟨by rfl, ?_⟩) ?_
      · intro w9 hS
        go_simp
        exact ⟨rfl, hS⟩
      simp only [Act.put, List.setIfInBounds_toArray, List.set_cons_zero, List.set_cons_succ]
      refine det_done (by kernel_rfl) ?_ _
      intro w42 hS
      have HF := Lib.hid hS.below
      clear hS HS9
      go_wp2_with fail
      go_ret
      exact Ret.of rfl HF.out
    | none =>
      cases hr : readF s with
      | some d' =>
        obtain rfl : d' = d := by rw [← hd]; unfold ra; rw [hr]; rfl
        have HTd := Lib.hid (tell_read hr)
        have HPE := Lib.hid (show pe s = 4 by unfold pe; rw [hp]; rfl)
        have HRE := Lib.hid (show re s = 0 by unfold re; rw [hr]; rfl)
        have HZ := Lib.hid hz
        have HD' := Lib.hid hd
        clear hp hr hz hd
        refine (parse_at s z 4 _ (HE7.out.below HB7.out) (by omega) HZ.out HPE.out).mono ?_
        rintro e w8 ⟨rfl, hb8⟩
        have HB8 := Lib.hid (HB7.out.trans (hb8.mono HB7.out.size))
        clear hb8 HB7
        unfold callV callCells
        go_wp2_with fail
        have HB8n := Lib.hid (HB8.out.trans ((below_new w8 (.cells (callCells z) 38)).mono HB8.out.size))
        have HZ8 := Lib.hid (Blk.new w8 (callCells z) 38)
        refine (read_at s d' 0 _ (HE7.out.below HB8n.out) (by omega) HD'.out HRE.out).mono ?_
        rintro e w9 ⟨dA, dn, dc, rfl, hpd, hb9⟩
        have HS9 : Hid (Bk9 w z d' (.slice dA dn dc) w8.heap.size w9.heap.size (w9.alloc (.cells (ansCells d' (.slice dA dn dc)) 25))) := Lib.hid
          ⟨(HB8n.out.trans (hb9.mono HB8n.out.size)).alloc (Nat.le_trans HB8n.out.size hb9.size) _, HE7.out, (HZ8.out.below hb9).alloc _, Blk.new _ _ _, hpd.below (below_new _ _)⟩
        clear hb9 hpd HB8 HB8n HZ8
        unfold ansVV ansCells
        go_wp2_with fail
        refine det_start (n := 38) (l := #[false, false, false, false, false, false, false, false, false, false, false, false, false, false, false, false, false, false, false, false, false, false, false, false, false, false, false, false, false, false, false, false, false, false, false, false, false, false]) (S := Bk9 w z d' (.slice dA dn dc) w8.heap.size w9.heap.size) (by kernel_rfl) (by rfl) (by rfl) HS9.out.drew ?_
        refine det_take (i := 0) (d := some 85) (l' := #[true, false, false, false, false, false, false, false, false, false, false, false, false, false, false, false, false, false, false, false, false, false, false, false, false, false, false, false, false, false, false, false, false, false, false, false, false, false]) (v := .int .i64 4) rfl rfl rfl (by kernel_rfl) (by kernel_rfl) (by kernel_rfl) (Or.inl ⟨by rfl, ?_⟩) ?_
        · intro w9 hS
          go_simp
          exact ⟨rfl, hS⟩
        simp only [Act.put, List.setIfInBounds_toArray, List.set_cons_zero, List.set_cons_succ]
        refine det_take (i := 1) (d := some 86) (l' := #[true, true, false, false, false, false, false, false, false, false, false, false, false, false, false, false, false, false, false, false, false, false, false, false, false, false, false, false, false, false, false, false, false, false, false, false, false, false]) (v := .bool true) rfl rfl rfl (by kernel_rfl) (by kernel_rfl) (by kernel_rfl) (Or.inl ⟨by rfl, ?_⟩) ?_
        · intro w9 hS
          go_simp
          first | exact ⟨rfl, hS⟩ | exact ⟨by simp, hS⟩
        simp only [Act.put, List.setIfInBounds_toArray, List.set_cons_zero, List.set_cons_succ]
        refine det_take (i := 2) (d := some 87) (l' := #[true, true, true, false, false, false, false, false, false, false, false, false, false, false, false, false, false, false, false, false, false, false, false, false, false, false, false, false, false, false, false, false, false, false, false, false, false, false]) (v := .bool true) rfl rfl rfl (by kernel_rfl) (by kernel_rfl) (by kernel_rfl) (Or.inl ⟨by rfl, ?_⟩) ?_
        · intro w9 hS
          go_simp
          exact ⟨rfl, hS⟩
        simp only [Act.put, List.setIfInBounds_toArray, List.set_cons_zero, List.set_cons_succ]
        refine det_take (i := 3) (d := some 88) (l' := #[true, true, true, true, false, false, false, false, false, false, false, false, false, false, false, false, false, false, false, false, false, false, false, false, false, false, false, false, false, false, false, false, false, false, false, false, false, false]) (v := undef) rfl rfl rfl (by kernel_rfl) (by kernel_rfl) (by kernel_rfl) (Or.inr ⟨by rfl, rfl⟩) ?_
        simp only [Act.put, List.setIfInBounds_toArray, List.set_cons_zero, List.set_cons_succ]
        refine det_take (i := 4) (d := some 89) (l' := #[true, true, true, true, true, false, false, false, false, false, false, false, false, false, false, false, false, false, false, false, false, false, false, false, false, false, false, false, false, false, false, false, false, false, false, false, false, false]) (v := undef) rfl rfl rfl (by kernel_rfl) (by kernel_rfl) (by kernel_rfl) (Or.inr ⟨by rfl, rfl⟩) ?_
        simp only [Act.put, List.setIfInBounds_toArray, List.set_cons_zero, List.set_cons_succ]
        refine det_take (i := 5) (d := some 90) (l' := #[true, true, true, true, true, true, false, false, false, false, false, false, false, false, false, false, false, false, false, false, false, false, false, false, false, false, false, false, false, false, false, false, false, false, false, false, false, false]) (v := undef) rfl rfl rfl (by kernel_rfl) (by kernel_rfl) (by kernel_rfl) (Or.inr ⟨by rfl, rfl⟩) ?_
        simp only [Act.put, List.setIfInBounds_toArray, List.set_cons_zero, List.set_cons_succ]
        refine det_take (i := 6) (d := some 91) (l' := #[true, true, true, true, true, true, true, false, false, false, false, false, false, false, false, false, false, false, false, false, false, false, false, false, false, false, false, false, false, false, false, false, false, false, false, false, false, false]) (v := undef) rfl rfl rfl (by kernel_rfl) (by kernel_rfl) (by kernel_rfl) (Or.inr ⟨by rfl, rfl⟩) ?_
        simp only [Act.put, List.setIfInBounds_toArray, List.set_cons_zero, List.set_cons_succ]
        refine det_take (i := 7) (d := some 92) (l' := #[true, true, true, true, true, true, true, true, false, false, false, false, false, false, false, false, false, false, false, false, false, false, false, false, false, false, false, false, false, false, false, false, false, false, false, false, false, false]) (v := undef) rfl rfl rfl (by kernel_rfl) (by kernel_rfl) (by kernel_rfl) (Or.inr ⟨by rfl, rfl⟩) ?_
        simp only [Act.put, List.setIfInBounds_toArray, List.set_cons_zero, List.set_cons_succ]
        refine det_take (i := 8) (d := some 93) (l' := #[true, true, true, true, true, true, true, true, true, false, false, false, false, false, false, false, false, false, false, false, false, false, false, false, false, false, false, false, false, false, false, false, false, false, false, false, false, false]) (v := undef) rfl rfl rfl (by kernel_rfl) (by kernel_rfl) (by kernel_rfl) (Or.inr ⟨by rfl, rfl⟩) ?_
        simp only [Act.put, List.setIfInBounds_toArray, List.set_cons_zero, List.set_cons_succ]
        refine det_take (i := 9) (d := some 94) (l' := #[true, true, true, true, true, true, true, true, true, true, false, false, false, false, false, false, false, false, false, false, false, false, false, false, false, false, false, false, false, false, false, false, false, false, false, false, false, false]) (v := undef) rfl rfl rfl (by kernel_rfl) (by kernel_rfl) (by kernel_rfl) (Or.inr ⟨by rfl, rfl⟩) ?_
        simp only [Act.put, List.setIfInBounds_toArray, List.set_cons_zero, List.set_cons_succ]
        refine det_take (i := 10) (d := some 95) (l' := #[true, true, true, true, true, true, true, true, true, true, true, false, false, false, false, false, false, false, false, false, false, false, false, false, false, false, false, false, false, false, false, false, false, false, false, false, false, false]) (v := undef) rfl rfl rfl (by kernel_rfl) (by kernel_rfl) (by kernel_rfl) (Or.inr ⟨by rfl, rfl⟩) ?_
        simp only [Act.put, List.setIfInBounds_toArray, List.set_cons_zero, List.set_cons_succ]
        refine det_take (i := 11) (d := some 96) (l' := #[true, true, true, true, true, true, true, true, true, true, true, true, false, false, false, false, false, false, false, false, false, false, false, false, false, false, false, false, false, false, false, false, false, false, false, false, false, false]) (v := undef) rfl rfl rfl (by kernel_rfl) (by kernel_rfl) (by kernel_rfl) (Or.inr ⟨by rfl, rfl⟩) ?_
        simp only [Act.put, List.setIfInBounds_toArray, List.set_cons_zero, List.set_cons_succ]
        refine det_take (i := 12) (d := some 97) (l' := #[true, true, true, true, true, true, true, true, true, true, true, true, true, false, false, false, false, false, false, false, false, false, false, false, false, false, false, false, false, false, false, false, false, false, false, false, false, false]) (v := undef) rfl rfl rfl (by kernel_rfl) (by kernel_rfl) (by kernel_rfl) (Or.inr ⟨by rfl, rfl⟩) ?_
        simp only [Act.put, List.setIfInBounds_toArray, List.set_cons_zero, List.set_cons_succ]
        refine det_take (i := 13) (d := some 98) (l' := #[true, true, true, true, true, true, true, true, true, true, true, true, true, true, false, false, false, false, false, false, false, false, false, false, false, false, false, false, false, false, false, false, false, false, false, false, false, false]) (v := undef) rfl rfl rfl (by kernel_rfl) (by kernel_rfl) (by kernel_rfl) (Or.inr ⟨by rfl, rfl⟩) ?_
        simp only [Act.put, List.setIfInBounds_toArray, List.set_cons_zero, List.set_cons_succ]
        refine det_take (i := 14) (d := some 99) (l' := #[true, true, true, true, true, true, true, true, true, true, true, true, true, true, true, false, false, false, false, false, false, false, false, false, false, false, false, false, false, false, false, false, false, false, false, false, false, false]) (v := undef) rfl rfl rfl (by kernel_rfl) (by kernel_rfl) (by kernel_rfl) (Or.inr ⟨by rfl, rfl⟩) ?_
        simp only [Act.put, List.setIfInBounds_toArray, List.set_cons_zero, List.set_cons_succ]
        refine det_take (i := 15) (d := some 100) (l' := #[true, true, true, true, true, true, true, true, true, true, true, true, true, true, true, true, false, false, false, false, false, false, false, false, false, false, false, false, false, false, false, false, false, false, false, false, false, false]) (v := undef) rfl rfl rfl (by kernel_rfl) (by kernel_rfl) (by kernel_rfl) (Or.inr ⟨by rfl, rfl⟩) ?_
        simp only [Act.put, List.setIfInBounds_toArray, List.set_cons_zero, List.set_cons_succ]
        refine det_take (i := 16) (d := some 101) (l' := #[true, true, true, true, true, true, true, true, true, true, true, true, true, true, true, true, true, false, false, false, false, false, false, false, false, false, false, false, false, false, false, false, false, false, false, false, false, false]) (v := undef) rfl rfl rfl (by kernel_rfl) (by kernel_rfl) (by kernel_rfl) (Or.inr ⟨by rfl, rfl⟩) ?_
        simp only [Act.put, List.setIfInBounds_toArray, List.set_cons_zero, List.set_cons_succ]
        refine det_take (i := 17) (d := some 102) (l' := #[true, true, true, true, true, true, true, true, true, true, true, true, true, true, true, true, true, true, false, false, false, false, false, false, false, false, false, false, false, false, false, false, false, false, false, false, false, false]) (v := undef) rfl rfl rfl (by kernel_rfl) (by kernel_rfl) (by kernel_rfl) (Or.inr ⟨by rfl, rfl⟩) ?_
        simp only [Act.put, List.setIfInBounds_toArray, List.set_cons_zero, List.set_cons_succ]
        refine det_take (i := 18) (d := some 103) (l' := #[true, true, true, true, true, true, true, true, true, true, true, true, true, true, true, true, true, true, true, false, false, false, false, false, false, false, false, false, false, false, false, false, false, false, false, false, false, false]) (v := .bool true) rfl rfl rfl (by kernel_rfl) (by kernel_rfl) (by kernel_rfl) (Or.inl ⟨by rfl, ?_⟩) ?_
        · intro w9 hS
          go_simp
          exact ⟨rfl, hS⟩
        simp only [Act.put, List.setIfInBounds_toArray, List.set_cons_zero, List.set_cons_succ]
        refine det_take (i := 19) (d := some 104) (l' := #[true, true, true, true, true, true, true, true, true, true, true, true, true, true, true, true, true, true, true, true, false, false, false, false, false, false, false, false, false, false, false, false, false, false, false, false, false, false]) (v := .bool true) rfl rfl rfl (by kernel_rfl) (by kernel_rfl) (by kernel_rfl) (Or.inl ⟨by rfl, ?_⟩) ?_
        · intro w9 hS
          go_simp
          exact ⟨rfl, hS⟩
        simp only [Act.put, List.setIfInBounds_toArray, List.set_cons_zero, List.set_cons_succ]
        refine det_take (i := 20) (d := some 105) (l' := #[true, true, true, true, true, true, true, true, true, true, true, true, true, true, true, true, true, true, true, true, true, false, false, false, false, false, false, false, false, false, false, false, false, false, false, false, false, false]) (v := .int .i64 0) rfl rfl rfl (by kernel_rfl) (by kernel_rfl) (by kernel_rfl) (Or.inl ⟨by rfl, ?_⟩) ?_
        · intro w9 hS
          go_simp
          exact ⟨rfl, hS⟩
        simp only [Act.put, List.setIfInBounds_toArray, List.set_cons_zero, List.set_cons_succ]
        refine det_take (i := 21) (d := some 106) (l' := #[true, true, true, true, true, true, true, true, true, true, true, true, true, true, true, true, true, true, true, true, true, true, false, false, false, false, false, false, false, false, false, false, false, false, false, false, false, false]) (v := .bool false) rfl rfl rfl (by kernel_rfl) (by kernel_rfl) (by kernel_rfl) (Or.inl ⟨by rfl, ?_⟩) ?_
        · intro w9 hS
          go_simp
          first | exact ⟨rfl, hS⟩ | exact ⟨by simp, hS⟩
        simp only [Act.put, List.setIfInBounds_toArray, List.set_cons_zero, List.set_cons_succ]
        refine det_take (i := 22) (d := some 107) (l' := #[true, true, true, true, true, true, true, true, true, true, true, true, true, true, true, true, true, true, true, true, true, true, true, false, false, false, false, false, false, false, false, false, false, false, false, false, false, false]) (v := .bool false) rfl rfl rfl (by kernel_rfl) (by kernel_rfl) (by kernel_rfl) (Or.inl ⟨by rfl, ?_⟩) ?_
        · intro w9 hS
          go_simp
          exact ⟨rfl, hS⟩
        simp only [Act.put, List.setIfInBounds_toArray, List.set_cons_zero, List.set_cons_succ]
        refine det_take (i := 23) (d := some 108) (l' := #[true, true, true, true, true, true, true, true, true, true, true, true, true, true, true, true, true, true, true, true, true, true, true, true, false, false, false, false, false, false, false, false, false, false, false, false, false, false]) (v := .agg (ansCells d' (.slice dA dn dc))) rfl rfl rfl (by kernel_rfl) (by kernel_rfl) (by kernel_rfl) (Or.inl ⟨by rfl, ?_⟩) ?_
        · intro w9 hS
          have l0 := hS.bd.cell 0
          have l1 := hS.bd.cell 1
          have l2 := hS.bd.cell 2
          have l3 := hS.bd.cell 3
          simp only [ansCells, List.getElem?_toArray, List.getElem?_cons_zero, List.getElem?_cons_succ] at l0 l1 l2 l3
          go_simp
          exact ⟨rfl, hS⟩
        simp only [Act.put, List.setIfInBounds_toArray, List.set_cons_zero, List.set_cons_succ]
        refine det_take (i := 24) (d := some 109) (l' := #[true, true, true, true, true, true, true, true, true, true, true, true, true, true, true, true, true, true, true, true, true, true, true, true, true, false, false, false, false, false, false, false, false, false, false, false, false, false]) (v := .string (bs (tellF d'))) rfl rfl rfl (by kernel_rfl) (by kernel_rfl) (by kernel_rfl) (Or.inl ⟨by rfl, ?_⟩) ?_
        · intro w9 hS
          go_simp
          refine Calls.mono (tell_any d' _ _ hS.env HAd.out hS.pd) ?_
          rintro e w8 ⟨rfl, hb⟩
          exact ⟨rfl, hS.step hb⟩
        simp only [Act.put, List.setIfInBounds_toArray, List.set_cons_zero, List.set_cons_succ]
        refine det_take (i := 25) (d := some 110) (l' := #[true, true, true, true, true, true, true, true, true, true, true, true, true, true, true, true, true, true, true, true, true, true, true, true, true, true, false, false, false, false, false, false, false, false, false, false, false, false]) (v := .string (bs s)) rfl rfl rfl (by kernel_rfl) (by kernel_rfl) (by kernel_rfl) (Or.inl ⟨by rfl, ?_⟩) ?_
        · intro w9 hS
          go_simp
          exact ⟨rfl, hS⟩
        simp only [Act.put, List.setIfInBounds_toArray, List.set_cons_zero, List.set_cons_succ]
        refine det_take (i := 26) (d := some 111) (l' := #[true, true, true, true, true, true, true, true, true, true, true, true, true, true, true, true, true, true, true, true, true, true, true, true, true, true, true, false, false, false, false, false, false, false, false, false, false, false]) (v := .bool true) rfl rfl rfl (by kernel_rfl) (by kernel_rfl) (by kernel_rfl) (Or.inl ⟨by rfl, ?_⟩) ?_
        · intro w9 hS
          go_simp
          first | exact ⟨rfl, hS⟩ | exact ⟨by rw [HTd.out]; simp, hS⟩ | exact ⟨by simp [HTd.out], hS⟩
        simp only [Act.put, List.setIfInBounds_toArray, List.set_cons_zero, List.set_cons_succ]
        refine det_take (i := 27) (d := some 112) (l' := #[true, true, true, true, true, true, true, true, true, true, true, true, true, true, true, true, true, true, true, true, true, true, true, true, true, true, true, true, false, false, false, false, false, false, false, false, false, false]) (v := .bool true) rfl rfl rfl (by kernel_rfl) (by kernel_rfl) (by kernel_rfl) (Or.inl ⟨by rfl, ?_⟩) ?_
        · intro w9 hS
          go_simp
          exact ⟨rfl, hS⟩
        simp only [Act.put, List.setIfInBounds_toArray, List.set_cons_zero, List.set_cons_succ]
        refine det_take (i := 28) (d := some 113) (l' := #[true, true, true, true, true, true, true, true, true, true, true, true, true, true, true, true, true, true, true, true, true, true, true, true, true, true, true, true, true, false, false, false, false, false, false, false, false, false]) (v := .bool true) rfl rfl rfl (by kernel_rfl) (by kernel_rfl) (by kernel_rfl) (Or.inl ⟨by rfl, ?_⟩) ?_
        · intro w9 hS
          go_simp
          exact ⟨rfl, hS⟩
        simp only [Act.put, List.setIfInBounds_toArray, List.set_cons_zero, List.set_cons_succ]
        refine det_take (i := 29) (d := some 114) (l' := #[true, true, true, true, true, true, true, true, true, true, true, true, true, true, true, true, true, true, true, true, true, true, true, true, true, true, true, true, true, true, false, false, false, false, false, false, false, false]) (v := .bool true) rfl rfl rfl (by kernel_rfl) (by kernel_rfl) (by kernel_rfl) (Or.inl ⟨by rfl, ?_⟩) ?_
        · intro w9 hS
          go_simp
          exact ⟨rfl, hS⟩
        simp only [Act.put, List.setIfInBounds_toArray, List.set_cons_zero, List.set_cons_succ]
        refine det_take (i := 30) (d := some 115) (l' := #[true, true, true, true, true, true, true, true, true, true, true, true, true, true, true, true, true, true, true, true, true, true, true, true, true, true, true, true, true, true, true, false, false, false, false, false, false, false]) (v := .int .i64 4) rfl rfl rfl (by kernel_rfl) (by kernel_rfl) (by kernel_rfl) (Or.inl ⟨by rfl, ?_⟩) ?_
        · intro w9 hS
          go_simp
          exact ⟨rfl, hS⟩
        simp only [Act.put, List.setIfInBounds_toArray, List.set_cons_zero, List.set_cons_succ]
        refine det_take (i := 31) (d := some 116) (l' := #[true, true, true, true, true, true, true, true, true, true, true, true, true, true, true, true, true, true, true, true, true, true, true, true, true, true, true, true, true, true, true, true, false, false, false, false, false, false]) (v := .bool true) rfl rfl rfl (by kernel_rfl) (by kernel_rfl) (by kernel_rfl) (Or.inl ⟨by rfl, ?_⟩) ?_
        · intro w9 hS
          go_simp
          first | exact ⟨rfl, hS⟩ | exact ⟨by simp, hS⟩
        simp only [Act.put, List.setIfInBounds_toArray, List.set_cons_zero, List.set_cons_succ]
        refine det_take (i := 32) (d := some 117) (l' := #[true, true, true, true, true, true, true, true, true, true, true, true, true, true, true, true, true, true, true, true, true, true, true, true, true, true, true, true, true, true, true, true, true, false, false, false, false, false]) (v := .bool true) rfl rfl rfl (by kernel_rfl) (by kernel_rfl) (by kernel_rfl) (Or.inl ⟨by rfl, ?_⟩) ?_
        · intro w9 hS
          go_simp
          exact ⟨rfl, hS⟩
        simp only [Act.put, List.setIfInBounds_toArray, List.set_cons_zero, List.set_cons_succ]
        refine det_take (i := 33) (d := some 118) (l' := #[true, true, true, true, true, true, true, true, true, true, true, true, true, true, true, true, true, true, true, true, true, true, true, true, true, true, true, true, true, true, true, true, true, true, false, false, false, false]) (v := undef) rfl rfl rfl (by kernel_rfl) (by kernel_rfl) (by kernel_rfl) (Or.inr ⟨by rfl, rfl⟩) ?_
        simp only [Act.put, List.setIfInBounds_toArray, List.set_cons_zero, List.set_cons_succ]
        refine det_take (i := 34) (d := some 119) (l' := #[true, true, true, true, true, true, true, true, true, true, true, true, true, true, true, true, true, true, true, true, true, true, true, true, true, true, true, true, true, true, true, true, true, true, true, false, false, false]) (v := undef) rfl rfl rfl (by kernel_rfl) (by kernel_rfl) (by kernel_rfl) (Or.inr ⟨by rfl, rfl⟩) ?_
        simp only [Act.put, List.setIfInBounds_toArray, List.set_cons_zero, List.set_cons_succ]
        refine det_take (i := 35) (d := some 120) (l' := #[true, true, true, true, true, true, true, true, true, true, true, true, true, true, true, true, true, true, true, true, true, true, true, true, true, true, true, true, true, true, true, true, true, true, true, true, false, false]) (v := .bool true) rfl rfl rfl (by kernel_rfl) (by kernel_rfl) (by kernel_rfl) (Or.inl ⟨by rfl, ?_⟩) ?_
        · intro w9 hS
          go_simp
          exact ⟨rfl, hS⟩
        simp only [Act.put, List.setIfInBounds_toArray, List.set_cons_zero, List.set_cons_succ]
        refine det_take (i := 36) (d := some 121) (l' := #[true, true, true, true, true, true, true, true, true, true, true, true, true, true, true, true, true, true, true, true, true, true, true, true, true, true, true, true, true, true, true, true, true, true, true, true, true, false]) (v := .bool true) rfl rfl rfl (by kernel_rfl) (by kernel_rfl) (by kernel_rfl) (Or.inl ⟨by rfl, ?_⟩) ?_
        · intro w9 hS
          go_simp
          exact ⟨rfl, hS⟩
        simp only [Act.put, List.setIfInBounds_toArray, List.set_cons_zero, List.set_cons_succ]
        refine det_take (i := 37) (d := some 6) (l' := #[true, true, true, true, true, true, true, true, true, true, true, true, true, true, true, true, true, true, true, true, true, true, true, true, true, true, true, true, true, true, true, true, true, true, true, true, true, true]) (v := .bool true) rfl rfl rfl (by kernel_rfl) (by kernel_rfl) (by kernel_rfl) (Or.inl ⟨by rfl, ?_⟩) ?_
        · intro w9 hS
          go_simp
          exact ⟨rfl, hS⟩
        simp only [Act.put, List.setIfInBounds_toArray, List.set_cons_zero, List.set_cons_succ]
        refine det_done (by kernel_rfl) ?_ _
        intro w42 hS
        have HF := Lib.hid hS.below
        clear hS HS9
        go_wp2_with fail
        go_ret
        exact Ret.of rfl HF.out
      | none =>
        have HPE := Lib.hid (show pe s = 4 by unfold pe; rw [hp]; rfl)
        have HRE := Lib.hid (show re s = 4 by unfold re; rw [hr]; rfl)
        have HZ := Lib.hid hz
        have HD' := Lib.hid hd
        clear hp hr hz hd
        refine (parse_at s z 4 _ (HE7.out.below HB7.out) (by omega) HZ.out HPE.out).mono ?_
        rintro e w8 ⟨rfl, hb8⟩
        have HB8 := Lib.hid (HB7.out.trans (hb8.mono HB7.out.size))
        clear hb8 HB7
        unfold callV callCells
        go_wp2_with fail
        have HB8n := Lib.hid (HB8.out.trans ((below_new w8 (.cells (callCells z) 38)).mono HB8.out.size))
        have HZ8 := Lib.hid (Blk.new w8 (callCells z) 38)
        refine (read_at s d 4 _ (HE7.out.below HB8n.out) (by omega) HD'.out HRE.out).mono ?_
        rintro e w9 ⟨dA, dn, dc, rfl, hpd, hb9⟩
        have HS9 : Hid (Bk9 w z d (.slice dA dn dc) w8.heap.size w9.heap.size (w9.alloc (.cells (ansCells d (.slice dA dn dc)) 25))) := Lib.hid
          ⟨(HB8n.out.trans (hb9.mono HB8n.out.size)).alloc (Nat.le_trans HB8n.out.size hb9.size) _, HE7.out, (HZ8.out.below hb9).alloc _, Blk.new _ _ _, hpd.below (below_new _ _)⟩
        clear hb9 hpd HB8 HB8n HZ8
        unfold ansVV ansCells
        go_wp2_with fail
        refine det_start (n := 38) (l := #[false, false, false, false, false, false, false, false, false, false, false, false, false, false, false, false, false, false, false, false, false, false, false, false, false, false, false, false, false, false, false, false, false, false, false, false, false, false]) (S := Bk9 w z d (.slice dA dn dc) w8.heap.size w9.heap.size) (by kernel_rfl) (by rfl) (by rfl) HS9.out.drew ?_
        refine det_take (i := 0) (d := some 85) (l' := #[true, false, false, false, false, false, false, false, false, false, false, false, false, false, false, false, false, false, false, false, false, false, false, false, false, false, false, false, false, false, false, false, false, false, false, false, false, false]) (v := .int .i64 4) rfl rfl rfl (by kernel_rfl) (by kernel_rfl) (by kernel_rfl) (Or.inl ⟨by rfl, ?_⟩) ?_
        · intro w9 hS
          go_simp
          exact ⟨rfl, hS⟩
        simp only [Act.put, List.setIfInBounds_toArray, List.set_cons_zero, List.set_cons_succ]
        refine det_take (i := 1) (d := some 86) (l' := #[true, true, false, false, false, false, false, false, false, false, false, false, false, false, false, false, false, false, false, false, false, false, false, false, false, false, false, false, false, false, false, false, false, false, false, false, false, false]) (v := .bool true) rfl rfl rfl (by kernel_rfl) (by kernel_rfl) (by kernel_rfl) (Or.inl ⟨by rfl, ?_⟩) ?_
        · intro w9 hS
          go_simp
          first | exact ⟨rfl, hS⟩ | exact ⟨by simp, hS⟩
        simp only [Act.put, List.setIfInBounds_toArray, List.set_cons_zero, List.set_cons_succ]
        refine det_take (i := 2) (d := some 87) (l' := #[true, true, true, false, false, false, false, false, false, false, false, false, false, false, false, false, false, false, false, false, false, false, false, false, false, false, false, false, false, false, false, false, false, false, false, false, false, false]) (v := .bool true) rfl rfl rfl (by kernel_rfl) (by kernel_rfl) (by kernel_rfl) (Or.inl ⟨by rfl, ?_⟩) ?_
        · intro w9 hS
          go_simp
          exact ⟨rfl, hS⟩
        simp only [Act.put, List.setIfInBounds_toArray, List.set_cons_zero, List.set_cons_succ]
        refine det_take (i := 3) (d := some 88) (l' := #[true, true, true, true, false, false, false, false, false, false, false, false, false, false, false, false, false, false, false, false, false, false, false, false, false, false, false, false, false, false, false, false, false, false, false, false, false, false]) (v := undef) rfl rfl rfl (by kernel_rfl) (by kernel_rfl) (by kernel_rfl) (Or.inr ⟨by rfl, rfl⟩) ?_
        simp only [Act.put, List.setIfInBounds_toArray, List.set_cons_zero, List.set_cons_succ]
        refine det_take (i := 4) (d := some 89) (l' := #[true, true, true, true, true, false, false, false, false, false, false, false, false, false, false, false, false, false, false, false, false, false, false, false, false, false, false, false, false, false, false, false, false, false, false, false, false, false]) (v := undef) rfl rfl rfl (by kernel_rfl) (by kernel_rfl) (by kernel_rfl) (Or.inr ⟨by rfl, rfl⟩) ?_
        simp only [Act.put, List.setIfInBounds_toArray, List.set_cons_zero, List.set_cons_succ]
        refine det_take (i := 5) (d := some 90) (l' := #[true, true, true, true, true, true, false, false, false, false, false, false, false, false, false, false, false, false, false, false, false, false, false, false, false, false, false, false, false, false, false, false, false, false, false, false, false, false]) (v := undef) rfl rfl rfl (by kernel_rfl) (by kernel_rfl) (by kernel_rfl) (Or.inr ⟨by rfl, rfl⟩) ?_
        simp only [Act.put, List.setIfInBounds_toArray, List.set_cons_zero, List.set_cons_succ]
        refine det_take (i := 6) (d := some 91) (l' := #[true, true, true, true, true, true, true, false, false, false, false, false, false, false, false, false, false, false, false, false, false, false, false, false, false, false, false, false, false, false, false, false, false, false, false, false, false, false]) (v := undef) rfl rfl rfl (by kernel_rfl) (by kernel_rfl) (by kernel_rfl) (Or.inr ⟨by rfl, rfl⟩) ?_
        simp only [Act.put, List.setIfInBounds_toArray, List.set_cons_zero, List.set_cons_succ]
        refine det_take (i := 7) (d := some 92) (l' := #[true, true, true, true, true, true, true, true, false, false, false, false, false, false, false, false, false, false, false, false, false, false, false, false, false, false, false, false, false, false, false, false, false, false, false, false, false, false]) (v := undef) rfl rfl rfl (by kernel_rfl) (by kernel_rfl) (by kernel_rfl) (Or.inr ⟨by rfl, rfl⟩) ?_
        simp only [Act.put, List.setIfInBounds_toArray, List.set_cons_zero, List.set_cons_succ]
        refine det_take (i := 8) (d := some 93) (l' := #[true, true, true, true, true, true, true, true, true, false, false, false, false, false, false, false, false, false, false, false, false, false, false, false, false, false, false, false, false, false, false, false, false, false, false, false, false, false]) (v := undef) rfl rfl rfl (by kernel_rfl) (by kernel_rfl) (by kernel_rfl) (Or.inr ⟨by rfl, rfl⟩) ?_
        simp only [Act.put, List.setIfInBounds_toArray, List.set_cons_zero, List.set_cons_succ]
        refine det_take (i := 9) (d := some 94) (l' := #[true, true, true, true, true, true, true, true, true, true, false, false, false, false, false, false, false, false, false, false, false, false, false, false, false, false, false, false, false, false, false, false, false, false, false, false, false, false]) (v := undef) rfl rfl rfl (by kernel_rfl) (by kernel_rfl) (by kernel_rfl) (Or.inr ⟨by rfl, rfl⟩) ?_
        simp only [Act.put, List.setIfInBounds_toArray, List.set_cons_zero, List.set_cons_succ]
        refine det_take (i := 10) (d := some 95) (l' := #[true, true, true, true, true, true, true, true, true, true, true, false, false, false, false, false, false, false, false, false, false, false, false, false, false, false, false, false, false, false, false, false, false, false, false, false, false, false]) (v := undef) rfl rfl rfl (by kernel_rfl) (by kernel_rfl) (by kernel_rfl) (Or.inr ⟨by rfl, rfl⟩) ?_
        simp only [Act.put, List.setIfInBounds_toArray, List.set_cons_zero, List.set_cons_succ]
        refine det_take (i := 11) (d := some 96) (l' := #[true, true, true, true, true, true, true, true, true, true, true, true, false, false, false, false, false, false, false, false, false, false, false, false, false, false, false, false, false, false, false, false, false, false, false, false, false, false]) (v := undef) rfl rfl rfl (by kernel_rfl) (by kernel_rfl) (by kernel_rfl) (Or.inr ⟨by rfl, rfl⟩) ?_
        simp only [Act.put, List.setIfInBounds_toArray, List.set_cons_zero, List.set_cons_succ]
        refine det_take (i := 12) (d := some 97) (l' := #[true, true, true, true, true, true, true, true, true, true, true, true, true, false, false, false, false, false, false, false, false, false, false, false, false, false, false, false, false, false, false, false, false, false, false, false, false, false]) (v := undef) rfl rfl rfl (by kernel_rfl) (by kernel_rfl) (by kernel_rfl) (Or.inr ⟨by rfl, rfl⟩) ?_
        simp only [Act.put, List.setIfInBounds_toArray, List.set_cons_zero, List.set_cons_succ]
        refine det_take (i := 13) (d := some 98) (l' := #[true, true, true, true, true, true, true, true, true, true, true, true, true, true, false, false, false, false, false, false, false, false, false, false, false, false, false, false, false, false, false, false, false, false, false, false, false, false]) (v := undef) rfl rfl rfl (by kernel_rfl) (by kernel_rfl) (by kernel_rfl) (Or.inr ⟨by rfl, rfl⟩) ?_
        simp only [Act.put, List.setIfInBounds_toArray, List.set_cons_zero, List.set_cons_succ]
        refine det_take (i := 14) (d := some 99) (l' := #[true, true, true, true, true, true, true, true, true, true, true, true, true, true, true, false, false, false, false, false, false, false, false, false, false, false, false, false, false, false, false, false, false, false, false, false, false, false]) (v := undef) rfl rfl rfl (by kernel_rfl) (by kernel_rfl) (by kernel_rfl) (Or.inr ⟨by rfl, rfl⟩) ?_
        simp only [Act.put, List.setIfInBounds_toArray, List.set_cons_zero, List.set_cons_succ]
        refine det_take (i := 15) (d := some 100) (l' := #[true, true, true, true, true, true, true, true, true, true, true, true, true, true, true, true, false, false, false, false, false, false, false, false, false, false, false, false, false, false, false, false, false, false, false, false, false, false]) (v := undef) rfl rfl rfl (by kernel_rfl) (by kernel_rfl) (by kernel_rfl) (Or.inr ⟨by rfl, rfl⟩) ?_
        simp only [Act.put, List.setIfInBounds_toArray, List.set_cons_zero, List.set_cons_succ]
        refine det_take (i := 16) (d := some 101) (l' := #[true, true, true, true, true, true, true, true, true, true, true, true, true, true, true, true, true, false, false, false, false, false, false, false, false, false, false, false, false, false, false, false, false, false, false, false, false, false]) (v := undef) rfl rfl rfl (by kernel_rfl) (by kernel_rfl) (by kernel_rfl) (Or.inr ⟨by rfl, rfl⟩) ?_
        simp only [Act.put, List.setIfInBounds_toArray, List.set_cons_zero, List.set_cons_succ]
        refine det_take (i := 17) (d := some 102) (l' := #[true, true, true, true, true, true, true, true, true, true, true, true, true, true, true, true, true, true, false, false, false, false, false, false, false, false, false, false, false, false, false, false, false, false, false, false, false, false]) (v := undef) rfl rfl rfl (by kernel_rfl) (by kernel_rfl) (by kernel_rfl) (Or.inr ⟨by rfl, rfl⟩) ?_
        simp only [Act.put, List.setIfInBounds_toArray, List.set_cons_zero, List.set_cons_succ]
        refine det_take (i := 18) (d := some 103) (l' := #[true, true, true, true, true, true, true, true, true, true, true, true, true, true, true, true, true, true, true, false, false, false, false, false, false, false, false, false, false, false, false, false, false, false, false, false, false, false]) (v := .bool true) rfl rfl rfl (by kernel_rfl) (by kernel_rfl) (by kernel_rfl) (Or.inl ⟨by rfl, ?_⟩) ?_
        · intro w9 hS
          go_simp
          exact ⟨rfl, hS⟩
        simp only [Act.put, List.setIfInBounds_toArray, List.set_cons_zero, List.set_cons_succ]
        refine det_take (i := 19) (d := some 104) (l' := #[true, true, true, true, true, true, true, true, true, true, true, true, true, true, true, true, true, true, true, true, false, false, false, false, false, false, false, false, false, false, false, false, false, false, false, false, false, false]) (v := .bool true) rfl rfl rfl (by kernel_rfl) (by kernel_rfl) (by kernel_rfl) (Or.inl ⟨by rfl, ?_⟩) ?_
        · intro w9 hS
          go_simp
          exact ⟨rfl, hS⟩
        simp only [Act.put, List.setIfInBounds_toArray, List.set_cons_zero, List.set_cons_succ]
        refine det_take (i := 20) (d := some 105) (l' := #[true, true, true, true, true, true, true, true, true, true, true, true, true, true, true, true, true, true, true, true, true, false, false, false, false, false, false, false, false, false, false, false, false, false, false, false, false, false]) (v := .int .i64 4) rfl rfl rfl (by kernel_rfl) (by kernel_rfl) (by kernel_rfl) (Or.inl ⟨by rfl, ?_⟩) ?_
        · intro w9 hS
          go_simp
          exact ⟨rfl, hS⟩
        simp only [Act.put, List.setIfInBounds_toArray, List.set_cons_zero, List.set_cons_succ]
        refine det_take (i := 21) (d := some 106) (l' := #[true, true, true, true, true, true, true, true, true, true, true, true, true, true, true, true, true, true, true, true, true, true, false, false, false, false, false, false, false, false, false, false, false, false, false, false, false, false]) (v := .bool true) rfl rfl rfl (by kernel_rfl) (by kernel_rfl) (by kernel_rfl) (Or.inl ⟨by rfl, ?_⟩) ?_
        · intro w9 hS
          go_simp
          first | exact ⟨rfl, hS⟩ | exact ⟨by simp, hS⟩
        simp only [Act.put, List.setIfInBounds_toArray, List.set_cons_zero, List.set_cons_succ]
        refine det_take (i := 22) (d := some 107) (l' := #[true, true, true, true, true, true, true, true, true, true, true, true, true, true, true, true, true, true, true, true, true, true, true, false, false, false, false, false, false, false, false, false, false, false, false, false, false, false]) (v := .bool true) rfl rfl rfl (by kernel_rfl) (by kernel_rfl) (by kernel_rfl) (Or.inl ⟨by rfl, ?_⟩) ?_
        · intro w9 hS
          go_simp
          exact ⟨rfl, hS⟩
        simp only [Act.put, List.setIfInBounds_toArray, List.set_cons_zero, List.set_cons_succ]
        refine det_take (i := 23) (d := some 108) (l' := #[true, true, true, true, true, true, true, true, true, true, true, true, true, true, true, true, true, true, true, true, true, true, true, true, false, false, false, false, false, false, false, false, false, false, false, false, false, false]) (v := undef) rfl rfl rfl (by kernel_rfl) (by kernel_rfl) (by kernel_rfl) (Or.inr ⟨by rfl, rfl⟩) ?_
        simp only [Act.put, List.setIfInBounds_toArray, List.set_cons_zero, List.set_cons_succ]
        refine det_take (i := 24) (d := some 109) (l' := #[true, true, true, true, true, true, true, true, true, true, true, true, true, true, true, true, true, true, true, true, true, true, true, true, true, false, false, false, false, false, false, false, false, false, false, false, false, false]) (v := undef) rfl rfl rfl (by kernel_rfl) (by kernel_rfl) (by kernel_rfl) (Or.inr ⟨by rfl, rfl⟩) ?_
        simp only [Act.put, List.setIfInBounds_toArray, List.set_cons_zero, List.set_cons_succ]
        refine det_take (i := 25) (d := some 110) (l' := #[true, true, true, true, true, true, true, true, true, true, true, true, true, true, true, true, true, true, true, true, true, true, true, true, true, true, false, false, false, false, false, false, false, false, false, false, false, false]) (v := undef) rfl rfl rfl (by kernel_rfl) (by kernel_rfl) (by kernel_rfl) (Or.inr ⟨by rfl, rfl⟩) ?_
        simp only [Act.put, List.setIfInBounds_toArray, List.set_cons_zero, List.set_cons_succ]
        refine det_take (i := 26) (d := some 111) (l' := #[true, true, true, true, true, true, true, true, true, true, true, true, true, true, true, true, true, true, true, true, true, true, true, true, true, true, true, false, false, false, false, false, false, false, false, false, false, false]) (v := undef) rfl rfl rfl (by kernel_rfl) (by kernel_rfl) (by kernel_rfl) (Or.inr ⟨by rfl, rfl⟩) ?_
        simp only [Act.put, List.setIfInBounds_toArray, List.set_cons_zero, List.set_cons_succ]
        refine det_take (i := 27) (d := some 112) (l' := #[true, true, true, true, true, true, true, true, true, true, true, true, true, true, true, true, true, true, true, true, true, true, true, true, true, true, true, true, false, false, false, false, false, false, false, false, false, false]) (v := .bool true) rfl rfl rfl (by kernel_rfl) (by kernel_rfl) (by kernel_rfl) (Or.inl ⟨by rfl, ?_⟩) ?_
        · intro w9 hS
          go_simp
          exact ⟨rfl, hS⟩
        simp only [Act.put, List.setIfInBounds_toArray, List.set_cons_zero, List.set_cons_succ]
        refine det_take (i := 28) (d := some 113) (l' := #[true, true, true, true, true, true, true, true, true, true, true, true, true, true, true, true, true, true, true, true, true, true, true, true, true, true, true, true, true, false, false, false, false, false, false, false, false, false]) (v := .bool true) rfl rfl rfl (by kernel_rfl) (by kernel_rfl) (by kernel_rfl) (Or.inl ⟨by rfl, ?_⟩) ?_
        · intro w9 hS
          go_simp
          exact ⟨rfl, hS⟩
        simp only [Act.put, List.setIfInBounds_toArray, List.set_cons_zero, List.set_cons_succ]
        refine det_take (i := 29) (d := some 114) (l' := #[true, true, true, true, true, true, true, true, true, true, true, true, true, true, true, true, true, true, true, true, true, true, true, true, true, true, true, true, true, true, false, false, false, false, false, false, false, false]) (v := .bool true) rfl rfl rfl (by kernel_rfl) (by kernel_rfl) (by kernel_rfl) (Or.inl ⟨by rfl, ?_⟩) ?_
        · intro w9 hS
          go_simp
          exact ⟨rfl, hS⟩
        simp only [Act.put, List.setIfInBounds_toArray, List.set_cons_zero, List.set_cons_succ]
        refine det_take (i := 30) (d := some 115) (l' := #[true, true, true, true, true, true, true, true, true, true, true, true, true, true, true, true, true, true, true, true, true, true, true, true, true, true, true, true, true, true, true, false, false, false, false, false, false, false]) (v := .int .i64 4) rfl rfl rfl (by kernel_rfl) (by kernel_rfl) (by kernel_rfl) (Or.inl ⟨by rfl, ?_⟩) ?_
        · intro w9 hS
          go_simp
          exact ⟨rfl, hS⟩
        simp only [Act.put, List.setIfInBounds_toArray, List.set_cons_zero, List.set_cons_succ]
        refine det_take (i := 31) (d := some 116) (l' := #[true, true, true, true, true, true, true, true, true, true, true, true, true, true, true, true, true, true, true, true, true, true, true, true, true, true, true, true, true, true, true, true, false, false, false, false, false, false]) (v := .bool true) rfl rfl rfl (by kernel_rfl) (by kernel_rfl) (by kernel_rfl) (Or.inl ⟨by rfl, ?_⟩) ?_
        · intro w9 hS
          go_simp
          first | exact ⟨rfl, hS⟩ | exact ⟨by simp, hS⟩
        simp only [Act.put, List.setIfInBounds_toArray, List.set_cons_zero, List.set_cons_succ]
        refine det_take (i := 32) (d := some 117) (l' := #[true, true, true, true, true, true, true, true, true, true, true, true, true, true, true, true, true, true, true, true, true, true, true, true, true, true, true, true, true, true, true, true, true, false, false, false, false, false]) (v := .bool true) rfl rfl rfl (by kernel_rfl) (by kernel_rfl) (by kernel_rfl) (Or.inl ⟨by rfl, ?_⟩) ?_
        · intro w9 hS
          go_simp
          exact ⟨rfl, hS⟩
        simp only [Act.put, List.setIfInBounds_toArray, List.set_cons_zero, List.set_cons_succ]
        refine det_take (i := 33) (d := some 118) (l' := #[true, true, true, true, true, true, true, true, true, true, true, true, true, true, true, true, true, true, true, true, true, true, true, true, true, true, true, true, true, true, true, true, true, true, false, false, false, false]) (v := undef) rfl rfl rfl (by kernel_rfl) (by kernel_rfl) (by kernel_rfl) (Or.inr ⟨by rfl, rfl⟩) ?_
        simp only [Act.put, List.setIfInBounds_toArray, List.set_cons_zero, List.set_cons_succ]
        refine det_take (i := 34) (d := some 119) (l' := #[true, true, true, true, true, true, true, true, true, true, true, true, true, true, true, true, true, true, true, true, true, true, true, true, true, true, true, true, true, true, true, true, true, true, true, false, false, false]) (v := undef) rfl rfl rfl (by kernel_rfl) (by kernel_rfl) (by kernel_rfl) (Or.inr ⟨by rfl, rfl⟩) ?_
        simp only [Act.put, List.setIfInBounds_toArray, List.set_cons_zero, List.set_cons_succ]
        refine det_take (i := 35) (d := some 120) (l' := #[true, true, true, true, true, true, true, true, true, true, true, true, true, true, true, true, true, true, true, true, true, true, true, true, true, true, true, true, true, true, true, true, true, true, true, true, false, false]) (v := .bool true) rfl rfl rfl (by kernel_rfl) (by kernel_rfl) (by kernel_rfl) (Or.inl ⟨by rfl, ?_⟩) ?_
        · intro w9 hS
          go_simp
          exact ⟨rfl, hS⟩
        simp only [Act.put, List.setIfInBounds_toArray, List.set_cons_zero, List.set_cons_succ]
        refine det_take (i := 36) (d := some 121) (l' := #[true, true, true, true, true, true, true, true, true, true, true, true, true, true, true, true, true, true, true, true, true, true, true, true, true, true, true, true, true, true, true, true, true, true, true, true, true, false]) (v := .bool true) rfl rfl rfl (by kernel_rfl) (by kernel_rfl) (by kernel_rfl) (Or.inl ⟨by rfl, ?_⟩) ?_
        · intro w9 hS
          go_simp
          exact ⟨rfl, hS⟩
        simp only [Act.put, List.setIfInBounds_toArray, List.set_cons_zero, List.set_cons_succ]
        refine det_take (i := 37) (d := some 6) (l' := #[true, true, true, true, true, true, true, true, true, true, true, true, true, true, true, true, true, true, true, true, true, true, true, true, true, true, true, true, true, true, true, true, true, true, true, true, true, true]) (v := .bool true) rfl rfl rfl (by kernel_rfl) (by kernel_rfl) (by kernel_rfl) (Or.inl ⟨by rfl, ?_⟩) ?_
        · intro w9 hS
          go_simp
          exact ⟨rfl, hS⟩
        simp only [Act.put, List.setIfInBounds_toArray, List.set_cons_zero, List.set_cons_succ]
        refine det_done (by kernel_rfl) ?_ _
        intro w42 hS
        have HF := Lib.hid hS.below
        clear hS HS9
        go_wp2_with fail
        go_ret
        exact Ret.of rfl HF.out
  · have HMx := Lib.hid (show mayN x = 0 by rw [mayN, hmx]; rfl)
    have hpn := parse_show x hmx HTx.out HLx.out
    have HPz := Lib.hid (show pz (showF x) = cleanF x by unfold pz; rw [hpn]; rfl)
    have HPe := Lib.hid (show pe (showF x) = 0 by unfold pe; rw [hpn]; rfl)
    have HSm := Lib.hid (show sameF x (cleanF x) = true by show sameB (cleanF x) (cleanF (cleanF x)) = true; rw [clean_clean]; exact (sameB_iff _ _).2 rfl)
    clear hmx hpn
    refine (parse_at (showF x) (cleanF x) 0 _ HS.out.env (by omega) HPz.out HPe.out).mono ?_
    rintro e w4 ⟨rfl, hb4⟩
    have HS := Lib.hid (HS.out.step hb4)
    have HS4 : Hid (Bk4 w x a (.slice vA vn vc) (cleanF x) w4.heap.size (w4.alloc (.cells (callCells (cleanF x)) 38))) := Lib.hid ⟨HS.out.step (below_new _ _), Blk.new _ _ _⟩
    clear hb4 HS
    unfold callV callCells
    go_wp2_with fail
    refine det_start (n := 22) (l := #[false, false, false, false, false, false, false, false, false, false, false, false, false, false, false, false, false, false, false, false, false, false]) (S := Bk4 w x a (.slice vA vn vc) (cleanF x) w4.heap.size) (by kernel_rfl) (by rfl) (by rfl) HS4.out.drew ?_
    refine det_take (i := 0) (d := some 39) (l' := #[true, false, false, false, false, false, false, false, false, false, false, false, false, false, false, false, false, false, false, false, false, false]) (v := .int .i64 0) rfl rfl rfl (by kernel_rfl) (by kernel_rfl) (by kernel_rfl) (Or.inl ⟨by rfl, ?_⟩) ?_
    · intro w9 hS
      go_simp
      exact ⟨rfl, hS⟩
    simp only [Act.put, List.setIfInBounds_toArray, List.set_cons_zero, List.set_cons_succ]
    refine det_take (i := 1) (d := some 40) (l' := #[true, true, false, false, false, false, false, false, false, false, false, false, false, false, false, false, false, false, false, false, false, false]) (v := .bool true) rfl rfl rfl (by kernel_rfl) (by kernel_rfl) (by kernel_rfl) (Or.inl ⟨by rfl, ?_⟩) ?_
    · intro w9 hS
      go_simp
      first | exact ⟨rfl, hS⟩ | exact ⟨by simp, hS⟩
    simp only [Act.put, List.setIfInBounds_toArray, List.set_cons_zero, List.set_cons_succ]
    refine det_take (i := 2) (d := some 41) (l' := #[true, true, true, false, false, false, false, false, false, false, false, false, false, false, false, false, false, false, false, false, false, false]) (v := .agg (callCells x)) rfl rfl rfl (by kernel_rfl) (by kernel_rfl) (by kernel_rfl) (Or.inl ⟨by rfl, ?_⟩) ?_
    · intro w9 hS
      have l0 := hS.bx.cell 0
      have l1 := hS.bx.cell 1
      have l2 := hS.bx.cell 2
      have l3 := hS.bx.cell 3
      have l4 := hS.bx.cell 4
      have l5 := hS.bx.cell 5
      have l6 := hS.bx.cell 6
      simp only [callCells, List.getElem?_toArray, List.getElem?_cons_zero, List.getElem?_cons_succ] at l0 l1 l2 l3 l4 l5 l6
      go_simp
      exact ⟨rfl, hS⟩
    simp only [Act.put, List.setIfInBounds_toArray, List.set_cons_zero, List.set_cons_succ]
    refine det_take (i := 3) (d := some 42) (l' := #[true, true, true, true, false, false, false, false, false, false, false, false, false, false, false, false, false, false, false, false, false, false]) (v := .int .i64 0) rfl rfl rfl (by kernel_rfl) (by kernel_rfl) (by kernel_rfl) (Or.inl ⟨by rfl, ?_⟩) ?_
    · intro w9 hS
      go_simp
      refine Calls.mono (may_is x 0 _ HMx.out) ?_
      rintro e w8 ⟨rfl, hb⟩
      exact ⟨rfl, hS.step hb⟩
    simp only [Act.put, List.setIfInBounds_toArray, List.set_cons_zero, List.set_cons_succ]
    refine det_take (i := 4) (d := some 43) (l' := #[true, true, true, true, true, false, false, false, false, false, false, false, false, false, false, false, false, false, false, false, false, false]) (v := .bool true) rfl rfl rfl (by kernel_rfl) (by kernel_rfl) (by kernel_rfl) (Or.inl ⟨by rfl, ?_⟩) ?_
    · intro w9 hS
      go_simp
      first | exact ⟨rfl, hS⟩ | exact ⟨by simp, hS⟩
    simp only [Act.put, List.setIfInBounds_toArray, List.set_cons_zero, List.set_cons_succ]
    refine det_take (i := 5) (d := some 44) (l' := #[true, true, true, true, true, true, false, false, false, false, false, false, false, false, false, false, false, false, false, false, false, false]) (v := .bool false) rfl rfl rfl (by kernel_rfl) (by kernel_rfl) (by kernel_rfl) (Or.inl ⟨by rfl, ?_⟩) ?_
    · intro w9 hS
      go_simp
      first | exact ⟨rfl, hS⟩ | exact ⟨by simp, hS⟩
    simp only [Act.put, List.setIfInBounds_toArray, List.set_cons_zero, List.set_cons_succ]
    refine det_take (i := 6) (d := some 45) (l' := #[true, true, true, true, true, true, true, false, false, false, false, false, false, false, false, false, false, false, false, false, false, false]) (v := .bool false) rfl rfl rfl (by kernel_rfl) (by kernel_rfl) (by kernel_rfl) (Or.inl ⟨by rfl, ?_⟩) ?_
    · intro w9 hS
      go_simp
      exact ⟨rfl, hS⟩
    simp only [Act.put, List.setIfInBounds_toArray, List.set_cons_zero, List.set_cons_succ]
    refine det_take (i := 7) (d := some 46) (l' := #[true, true, true, true, true, true, true, true, false, false, false, false, false, false, false, false, false, false, false, false, false, false]) (v := .int .i64 0) rfl rfl rfl (by kernel_rfl) (by kernel_rfl) (by kernel_rfl) (Or.inl ⟨by rfl, ?_⟩) ?_
    · intro w9 hS
      go_simp
      exact ⟨rfl, hS⟩
    simp only [Act.put, List.setIfInBounds_toArray, List.set_cons_zero, List.set_cons_succ]
    refine det_take (i := 8) (d := some 47) (l' := #[true, true, true, true, true, true, true, true, true, false, false, false, false, false, false, false, false, false, false, false, false, false]) (v := .bool true) rfl rfl rfl (by kernel_rfl) (by kernel_rfl) (by kernel_rfl) (Or.inl ⟨by rfl, ?_⟩) ?_
    · intro w9 hS
      go_simp
      first | exact ⟨rfl, hS⟩ | exact ⟨by simp, hS⟩
    simp only [Act.put, List.setIfInBounds_toArray, List.set_cons_zero, List.set_cons_succ]
    refine det_take (i := 9) (d := some 48) (l' := #[true, true, true, true, true, true, true, true, true, true, false, false, false, false, false, false, false, false, false, false, false, false]) (v := .bool true) rfl rfl rfl (by kernel_rfl) (by kernel_rfl) (by kernel_rfl) (Or.inl ⟨by rfl, ?_⟩) ?_
    · intro w9 hS
      go_simp
      exact ⟨rfl, hS⟩
    simp only [Act.put, List.setIfInBounds_toArray, List.set_cons_zero, List.set_cons_succ]
    refine det_take (i := 10) (d := some 49) (l' := #[true, true, true, true, true, true, true, true, true, true, true, false, false, false, false, false, false, false, false, false, false, false]) (v := .agg (callCells (cleanF x))) rfl rfl rfl (by kernel_rfl) (by kernel_rfl) (by kernel_rfl) (Or.inl ⟨by rfl, ?_⟩) ?_
    · intro w9 hS
      have l0 := hS.by_.cell 0
      have l1 := hS.by_.cell 1
      have l2 := hS.by_.cell 2
      have l3 := hS.by_.cell 3
      have l4 := hS.by_.cell 4
      have l5 := hS.by_.cell 5
      have l6 := hS.by_.cell 6
      simp only [callCells, List.getElem?_toArray, List.getElem?_cons_zero, List.getElem?_cons_succ] at l0 l1 l2 l3 l4 l5 l6
      go_simp
      exact ⟨rfl, hS⟩
    simp only [Act.put, List.setIfInBounds_toArray, List.set_cons_zero, List.set_cons_succ]
    refine det_take (i := 11) (d := some 50) (l' := #[true, true, true, true, true, true, true, true, true, true, true, true, false, false, false, false, false, false, false, false, false, false]) (v := .agg (callCells x)) rfl rfl rfl (by kernel_rfl) (by kernel_rfl) (by kernel_rfl) (Or.inl ⟨by rfl, ?_⟩) ?_
    · intro w9 hS
      have l0 := hS.bx.cell 0
      have l1 := hS.bx.cell 1
      have l2 := hS.bx.cell 2
      have l3 := hS.bx.cell 3
      have l4 := hS.bx.cell 4
      have l5 := hS.bx.cell 5
      have l6 := hS.bx.cell 6
      simp only [callCells, List.getElem?_toArray, List.getElem?_cons_zero, List.getElem?_cons_succ] at l0 l1 l2 l3 l4 l5 l6
      go_simp
      exact ⟨rfl, hS⟩
    simp only [Act.put, List.setIfInBounds_toArray, List.set_cons_zero, List.set_cons_succ]
    refine det_take (i := 12) (d := some 51) (l' := #[true, true, true, true, true, true, true, true, true, true, true, true, true, false, false, false, false, false, false, false, false, false]) (v := .agg (callCells (cleanF x))) rfl rfl rfl (by kernel_rfl) (by kernel_rfl) (by kernel_rfl) (Or.inl ⟨by rfl, ?_⟩) ?_
    · intro w9 hS
      go_simp
      refine Calls.mono (clean_val x _) ?_
      rintro e w8 ⟨rfl, hb⟩
      exact ⟨rfl, hS.step hb⟩
    simp only [Act.put, List.setIfInBounds_toArray, List.set_cons_zero, List.set_cons_succ]
    refine det_take (i := 13) (d := some 52) (l' := #[true, true, true, true, true, true, true, true, true, true, true, true, true, true, false, false, false, false, false, false, false, false]) (v := .bool false) rfl rfl rfl (by kernel_rfl) (by kernel_rfl) (by kernel_rfl) (Or.inl ⟨by rfl, ?_⟩) ?_
    · intro w9 hS
      simp only [callCells]
      go_simp
      first | exact ⟨rfl, hS⟩ | exact ⟨by simp, hS⟩
    simp only [Act.put, List.setIfInBounds_toArray, List.set_cons_zero, List.set_cons_succ]
    refine det_take (i := 14) (d := some 53) (l' := #[true, true, true, true, true, true, true, true, true, true, true, true, true, true, true, false, false, false, false, false, false, false]) (v := .bool false) rfl rfl rfl (by kernel_rfl) (by kernel_rfl) (by kernel_rfl) (Or.inl ⟨by rfl, ?_⟩) ?_
    · intro w9 hS
      go_simp
      exact ⟨rfl, hS⟩
    simp only [Act.put, List.setIfInBounds_toArray, List.set_cons_zero, List.set_cons_succ]
    refine det_take (i := 15) (d := some 54) (l' := #[true, true, true, true, true, true, true, true, true, true, true, true, true, true, true, true, false, false, false, false, false, false]) (v := .agg (callCells x)) rfl rfl rfl (by kernel_rfl) (by kernel_rfl) (by kernel_rfl) (Or.inl ⟨by rfl, ?_⟩) ?_
    · intro w9 hS
      have l0 := hS.bx.cell 0
      have l1 := hS.bx.cell 1
      have l2 := hS.bx.cell 2
      have l3 := hS.bx.cell 3
      have l4 := hS.bx.cell 4
      have l5 := hS.bx.cell 5
      have l6 := hS.bx.cell 6
      simp only [callCells, List.getElem?_toArray, List.getElem?_cons_zero, List.getElem?_cons_succ] at l0 l1 l2 l3 l4 l5 l6
      go_simp
      exact ⟨rfl, hS⟩
    simp only [Act.put, List.setIfInBounds_toArray, List.set_cons_zero, List.set_cons_succ]
    refine det_take (i := 16) (d := some 55) (l' := #[true, true, true, true, true, true, true, true, true, true, true, true, true, true, true, true, true, false, false, false, false, false]) (v := .agg (callCells (cleanF x))) rfl rfl rfl (by kernel_rfl) (by kernel_rfl) (by kernel_rfl) (Or.inl ⟨by rfl, ?_⟩) ?_
    · intro w9 hS
      have l0 := hS.by_.cell 0
      have l1 := hS.by_.cell 1
      have l2 := hS.by_.cell 2
      have l3 := hS.by_.cell 3
      have l4 := hS.by_.cell 4
      have l5 := hS.by_.cell 5
      have l6 := hS.by_.cell 6
      simp only [callCells, List.getElem?_toArray, List.getElem?_cons_zero, List.getElem?_cons_succ] at l0 l1 l2 l3 l4 l5 l6
      go_simp
      exact ⟨rfl, hS⟩
    simp only [Act.put, List.setIfInBounds_toArray, List.set_cons_zero, List.set_cons_succ]
    refine det_take (i := 17) (d := some 56) (l' := #[true, true, true, true, true, true, true, true, true, true, true, true, true, true, true, true, true, true, false, false, false, false]) (v := .bool true) rfl rfl rfl (by kernel_rfl) (by kernel_rfl) (by kernel_rfl) (Or.inl ⟨by rfl, ?_⟩) ?_
    · intro w9 hS
      go_simp
      refine Calls.mono (same_is x (cleanF x) true _ HSm.out) ?_
      rintro e w8 ⟨rfl, hb⟩
      exact ⟨rfl, hS.step hb⟩
    simp only [Act.put, List.setIfInBounds_toArray, List.set_cons_zero, List.set_cons_succ]
    refine det_take (i := 18) (d := some 57) (l' := #[true, true, true, true, true, true, true, true, true, true, true, true, true, true, true, true, true, true, true, false, false, false]) (v := .bool false) rfl rfl rfl (by kernel_rfl) (by kernel_rfl) (by kernel_rfl) (Or.inl ⟨by rfl, ?_⟩) ?_
    · intro w9 hS
      go_simp
      first | exact ⟨rfl, hS⟩ | exact ⟨by simp, hS⟩
    simp only [Act.put, List.setIfInBounds_toArray, List.set_cons_zero, List.set_cons_succ]
    refine det_take (i := 19) (d := some 58) (l' := #[true, true, true, true, true, true, true, true, true, true, true, true, true, true, true, true, true, true, true, true, false, false]) (v := .bool false) rfl rfl rfl (by kernel_rfl) (by kernel_rfl) (by kernel_rfl) (Or.inl ⟨by rfl, ?_⟩) ?_
    · intro w9 hS
      go_simp
      exact ⟨rfl, hS⟩
    simp only [Act.put, List.setIfInBounds_toArray, List.set_cons_zero, List.set_cons_succ]
    refine det_take (i := 20) (d := some 59) (l' := #[true, true, true, true, true, true, true, true, true, true, true, true, true, true, true, true, true, true, true, true, true, false]) (v := .bool false) rfl rfl rfl (by kernel_rfl) (by kernel_rfl) (by kernel_rfl) (Or.inl ⟨by rfl, ?_⟩) ?_
    · intro w9 hS
      go_simp
      exact ⟨rfl, hS⟩
    simp only [Act.put, List.setIfInBounds_toArray, List.set_cons_zero, List.set_cons_succ]
    refine det_take (i := 21) (d := some 60) (l' := #[true, true, true, true, true, true, true, true, true, true, true, true, true, true, true, true, true, true, true, true, true, true]) (v := .bool false) rfl rfl rfl (by kernel_rfl) (by kernel_rfl) (by kernel_rfl) (Or.inl ⟨by rfl, ?_⟩) ?_
    · intro w9 hS
      go_simp
      exact ⟨rfl, hS⟩
    simp only [Act.put, List.setIfInBounds_toArray, List.set_cons_zero, List.set_cons_succ]
    refine det_done (by kernel_rfl) ?_ _
    intro w41 hS
    have HS := Lib.hid hS.b0
    clear hS HS4
    have ca0 := HS.out.ba.cell 0
    have ca1 := HS.out.ba.cell 1
    have ca2 := HS.out.ba.cell 2
    have ca3 := HS.out.ba.cell 3
    simp only [ansCells, List.getElem?_toArray, List.getElem?_cons_zero, List.getElem?_cons_succ] at ca0 ca1 ca2 ca3
    go_wp2_with fail
    refine (tell_any a _ _ HS.out.env HAa.out HS.out.pa).mono ?_
    rintro e w5 ⟨rfl, hb5⟩
    have HS := Lib.hid (HS.out.step hb5)
    clear hb5 ca0 ca1 ca2 ca3
    go_wp2_with fail
    refine (read_at (tellF a) a 0 _ HS.out.env htl HRa.out HRe.out).mono ?_
    rintro e w6 ⟨uA, un, uc, rfl, hpu, hb6⟩
    have HS := Lib.hid ((HS.out.step hb6).step (below_new w6 (.cells (ansCells a (.slice uA un uc)) 25)))
    have HPu := Lib.hid (hpu.below (below_new w6 (.cells (ansCells a (.slice uA un uc)) 25)))
    clear hb6 hpu
    have ca0 := HS.out.ba.cell 0
    have ca1 := HS.out.ba.cell 1
    have ca2 := HS.out.ba.cell 2
    have ca3 := HS.out.ba.cell 3
    simp only [ansCells, List.getElem?_toArray, List.getElem?_cons_zero, List.getElem?_cons_succ] at ca0 ca1 ca2 ca3
    unfold ansVV ansCells
    simp only [ansCells] at ca0 ca1 ca2 ca3 HS HPu
    go_wp2_with fail
    refine (answers_same a _ _ _ HAa.out HS.out.pa HPu.out).mono ?_
    rintro e w7 ⟨rfl, hb7⟩
    have HS := Lib.hid (HS.out.step hb7)
    clear hb7 HPu ca0 ca1 ca2 ca3
    have HB7 := Lib.hid HS.out.below
    have HE7 := Lib.hid HS.out.env0
    clear HS
    go_wp2_with fail
    obtain ⟨z, hz⟩ : ∃ z, pz s = z := ⟨_, rfl⟩
    obtain ⟨d, hd⟩ : ∃ d, ra s = d := ⟨_, rfl⟩
    have HAd := Lib.hid (show AnsOk d from hd ▸ ra_n s (by omega))
    cases hp : parseF s with
    | some z' =>
      have hr := parse_no_read hp
      obtain rfl : z' = z := by rw [← hz]; unfold pz; rw [hp]; rfl
      have hq := parse_is s z' hp
      have HCz := Lib.hid (parsed_ok hp (by omega))
      have HMz := Lib.hid (show mayN z' = 0 by rw [mayN, hq.may]; rfl)
      have HCl := Lib.hid hq.clean
      have HSz := Lib.hid (show_parse hp)
      have HPE := Lib.hid (show pe s = 0 by unfold pe; rw [hp]; rfl)
      have HRE := Lib.hid (show re s = 4 by unfold re; rw [hr]; rfl)
      have HZ := Lib.hid hz
      have HD' := Lib.hid hd
      clear hp hr hq hz hd
      refine (parse_at s z' 0 _ (HE7.out.below HB7.out) (by omega) HZ.out HPE.out).mono ?_
      rintro e w8 ⟨rfl, hb8⟩
      have HB8 := Lib.hid (HB7.out.trans (hb8.mono HB7.out.size))
      clear hb8 HB7
      unfold callV callCells
      go_wp2_with fail
      have HB8n := Lib.hid (HB8.out.trans ((below_new w8 (.cells (callCells z') 38)).mono HB8.out.size))
      have HZ8 := Lib.hid (Blk.new w8 (callCells z') 38)
      refine (read_at s d 4 _ (HE7.out.below HB8n.out) (by omega) HD'.out HRE.out).mono ?_
      rintro e w9 ⟨dA, dn, dc, rfl, hpd, hb9⟩
      have HS9 : Hid (Bk9 w z' d (.slice dA dn dc) w8.heap.size w9.heap.size (w9.alloc (.cells (ansCells d (.slice dA dn dc)) 25))) := Lib.hid
        ⟨(HB8n.out.trans (hb9.mono HB8n.out.size)).alloc (Nat.le_trans HB8n.out.size hb9.size) _, HE7.out, (HZ8.out.below hb9).alloc _, Blk.new _ _ _, hpd.below (below_new _ _)⟩
      clear hb9 hpd HB8 HB8n HZ8
      unfold ansVV ansCells
      go_wp2_with fail
      refine det_start (n := 38) (l := #[false, false, false, false, false, false, false, false, false, false, false, false, false, false, false, false, false, false, false, false, false, false, false, false, false, false, false, false, false, false, false, false, false, false, false, false, false, false]) (S := Bk9 w z' d (.slice dA dn dc) w8.heap.size w9.heap.size) (by kernel_rfl) (by rfl) (by rfl) HS9.out.drew ?_
      refine det_take (i := 0) (d := some 85) (l' := #[true, false, false, false, false, false, false, false, false, false, false, false, false, false, false, false, false, false, false, false, false, false, false, false, false, false, false, false, false, false, false, false, false, false, false, false, false, false]) (v := .int .i64 0) rfl rfl rfl (by kernel_rfl) (by kernel_rfl) (by kernel_rfl) (Or.inl ⟨by rfl, ?_⟩) ?_
      · intro w9 hS
        go_simp
        exact ⟨rfl, hS⟩
      simp only [Act.put, List.setIfInBounds_toArray, List.set_cons_zero, List.set_cons_succ]
      refine det_take (i := 1) (d := some 86) (l' := #[true, true, false, false, false, false, false, false, false, false, false, false, false, false, false, false, false, false, false, false, false, false, false, false, false, false, false, false, false, false, false, false, false, false, false, false, false, false]) (v := .bool false) rfl rfl rfl (by kernel_rfl) (by kernel_rfl) (by kernel_rfl) (Or.inl ⟨by rfl, ?_⟩) ?_
      · intro w9 hS
        go_simp
        first | exact ⟨rfl, hS⟩ | exact ⟨by simp, hS⟩
      simp only [Act.put, List.setIfInBounds_toArray, List.set_cons_zero, List.set_cons_succ]
      refine det_take (i := 2) (d := some 87) (l' := #[true, true, true, false, false, false, false, false, false, false, false, false, false, false, false, false, false, false, false, false, false, false, false, false, false, false, false, false, false, false, false, false, false, false, false, false, false, false]) (v := .bool false) rfl rfl rfl (by kernel_rfl) (by kernel_rfl) (by kernel_rfl) (Or.inl ⟨by rfl, ?_⟩) ?_
      · intro w9 hS
        go_simp
        exact ⟨rfl, hS⟩
      simp only [Act.put, List.setIfInBounds_toArray, List.set_cons_zero, List.set_cons_succ]
      refine det_take (i := 3) (d := some 88) (l' := #[true, true, true, true, false, false, false, false, false, false, false, false, false, false, false, false, false, false, false, false, false, false, false, false, false, false, false, false, false, false, false, false, false, false, false, false, false, false]) (v := .agg (callCells z')) rfl rfl rfl (by kernel_rfl) (by kernel_rfl) (by kernel_rfl) (Or.inl ⟨by rfl, ?_⟩) ?_
      · intro w9 hS
        have l0 := hS.bz.cell 0
        have l1 := hS.bz.cell 1
        have l2 := hS.bz.cell 2
        have l3 := hS.bz.cell 3
        have l4 := hS.bz.cell 4
        have l5 := hS.bz.cell 5
        have l6 := hS.bz.cell 6
        simp only [callCells, List.getElem?_toArray, List.getElem?_cons_zero, List.getElem?_cons_succ] at l0 l1 l2 l3 l4 l5 l6
        go_simp
        exact ⟨rfl, hS⟩
      simp only [Act.put, List.setIfInBounds_toArray, List.set_cons_zero, List.set_cons_succ]
      refine det_take (i := 4) (d := some 89) (l' := #[true, true, true, true, true, false, false, false, false, false, false, false, false, false, false, false, false, false, false, false, false, false, false, false, false, false, false, false, false, false, false, false, false, false, false, false, false, false]) (v := .string (bs (showF z'))) rfl rfl rfl (by kernel_rfl) (by kernel_rfl) (by kernel_rfl) (Or.inl ⟨by rfl, ?_⟩) ?_
      · intro w9 hS
        go_simp
        refine Calls.mono (show_any z' _ hS.env HCz.out) ?_
        rintro e w8 ⟨rfl, hb⟩
        exact ⟨rfl, hS.step hb⟩
      simp only [Act.put, List.setIfInBounds_toArray, List.set_cons_zero, List.set_cons_succ]
      refine det_take (i := 5) (d := some 90) (l' := #[true, true, true, true, true, true, false, false, false, false, false, false, false, false, false, false, false, false, false, false, false, false, false, false, false, false, false, false, false, false, false, false, false, false, false, false, false, false]) (v := .string (bs s)) rfl rfl rfl (by kernel_rfl) (by kernel_rfl) (by kernel_rfl) (Or.inl ⟨by rfl, ?_⟩) ?_
      · intro w9 hS
        go_simp
        exact ⟨rfl, hS⟩
      simp only [Act.put, List.setIfInBounds_toArray, List.set_cons_zero, List.set_cons_succ]
      refine det_take (i := 6) (d := some 91) (l' := #[true, true, true, true, true, true, true, false, false, false, false, false, false, false, false, false, false, false, false, false, false, false, false, false, false, false, false, false, false, false, false, false, false, false, false, false, false, false]) (v := .bool true) rfl rfl rfl (by kernel_rfl) (by kernel_rfl) (by kernel_rfl) (Or.inl ⟨by rfl, ?_⟩) ?_
      · intro w9 hS
        go_simp
        first | exact ⟨rfl, hS⟩ | exact ⟨by rw [HSz.out]; simp, hS⟩ | exact ⟨by simp [HSz.out], hS⟩
      simp only [Act.put, List.setIfInBounds_toArray, List.set_cons_zero, List.set_cons_succ]
      refine det_take (i := 7) (d := some 92) (l' := #[true, true, true, true, true, true, true, true, false, false, false, false, false, false, false, false, false, false, false, false, false, false, false, false, false, false, false, false, false, false, false, false, false, false, false, false, false, false]) (v := .bool true) rfl rfl rfl (by kernel_rfl) (by kernel_rfl) (by kernel_rfl) (Or.inl ⟨by rfl, ?_⟩) ?_
      · intro w9 hS
        go_simp
        exact ⟨rfl, hS⟩
      simp only [Act.put, List.setIfInBounds_toArray, List.set_cons_zero, List.set_cons_succ]
      refine det_take (i := 8) (d := some 93) (l' := #[true, true, true, true, true, true, true, true, true, false, false, false, false, false, false, false, false, false, false, false, false, false, false, false, false, false, false, false, false, false, false, false, false, false, false, false, false, false]) (v := .agg (callCells z')) rfl rfl rfl (by kernel_rfl) (by kernel_rfl) (by kernel_rfl) (Or.inl ⟨by rfl, ?_⟩) ?_
      · intro w9 hS
        have l0 := hS.bz.cell 0
        have l1 := hS.bz.cell 1
        have l2 := hS.bz.cell 2
        have l3 := hS.bz.cell 3
        have l4 := hS.bz.cell 4
        have l5 := hS.bz.cell 5
        have l6 := hS.bz.cell 6
        simp only [callCells, List.getElem?_toArray, List.getElem?_cons_zero, List.getElem?_cons_succ] at l0 l1 l2 l3 l4 l5 l6
        go_simp
        exact ⟨rfl, hS⟩
      simp only [Act.put, List.setIfInBounds_toArray, List.set_cons_zero, List.set_cons_succ]
      refine det_take (i := 9) (d := some 94) (l' := #[true, true, true, true, true, true, true, true, true, true, false, false, false, false, false, false, false, false, false, false, false, false, false, false, false, false, false, false, false, false, false, false, false, false, false, false, false, false]) (v := .int .i64 0) rfl rfl rfl (by kernel_rfl) (by kernel_rfl) (by kernel_rfl) (Or.inl ⟨by rfl, ?_⟩) ?_
      · intro w9 hS
        go_simp
        refine Calls.mono (may_is z' 0 _ HMz.out) ?_
        rintro e w8 ⟨rfl, hb⟩
        exact ⟨rfl, hS.step hb⟩
      simp only [Act.put, List.setIfInBounds_toArray, List.set_cons_zero, List.set_cons_succ]
      refine det_take (i := 10) (d := some 95) (l' := #[true, true, true, true, true, true, true, true, true, true, true, false, false, false, false, false, false, false, false, false, false, false, false, false, false, false, false, false, false, false, false, false, false, false, false, false, false, false]) (v := .bool true) rfl rfl rfl (by kernel_rfl) (by kernel_rfl) (by kernel_rfl) (Or.inl ⟨by rfl, ?_⟩) ?_
      · intro w9 hS
        go_simp
        first | exact ⟨rfl, hS⟩ | exact ⟨by simp, hS⟩
      simp only [Act.put, List.setIfInBounds_toArray, List.set_cons_zero, List.set_cons_succ]
      refine det_take (i := 11) (d := some 96) (l' := #[true, true, true, true, true, true, true, true, true, true, true, true, false, false, false, false, false, false, false, false, false, false, false, false, false, false, false, false, false, false, false, false, false, false, false, false, false, false]) (v := .bool true) rfl rfl rfl (by kernel_rfl) (by kernel_rfl) (by kernel_rfl) (Or.inl ⟨by rfl, ?_⟩) ?_
      · intro w9 hS
        go_simp
        exact ⟨rfl, hS⟩
      simp only [Act.put, List.setIfInBounds_toArray, List.set_cons_zero, List.set_cons_succ]
      refine det_take (i := 12) (d := some 97) (l' := #[true, true, true, true, true, true, true, true, true, true, true, true, true, false, false, false, false, false, false, false, false, false, false, false, false, false, false, false, false, false, false, false, false, false, false, false, false, false]) (v := .bool true) rfl rfl rfl (by kernel_rfl) (by kernel_rfl) (by kernel_rfl) (Or.inl ⟨by rfl, ?_⟩) ?_
      · intro w9 hS
        go_simp
        exact ⟨rfl, hS⟩
      simp only [Act.put, List.setIfInBounds_toArray, List.set_cons_zero, List.set_cons_succ]
      refine det_take (i := 13) (d := some 98) (l' := #[true, true, true, true, true, true, true, true, true, true, true, true, true, true, false, false, false, false, false, false, false, false, false, false, false, false, false, false, false, false, false, false, false, false, false, false, false, false]) (v := .agg (callCells z')) rfl rfl rfl (by kernel_rfl) (by kernel_rfl) (by kernel_rfl) (Or.inl ⟨by rfl, ?_⟩) ?_
      · intro w9 hS
        have l0 := hS.bz.cell 0
        have l1 := hS.bz.cell 1
        have l2 := hS.bz.cell 2
        have l3 := hS.bz.cell 3
        have l4 := hS.bz.cell 4
        have l5 := hS.bz.cell 5
        have l6 := hS.bz.cell 6
        simp only [callCells, List.getElem?_toArray, List.getElem?_cons_zero, List.getElem?_cons_succ] at l0 l1 l2 l3 l4 l5 l6
        go_simp
        exact ⟨rfl, hS⟩
      simp only [Act.put, List.setIfInBounds_toArray, List.set_cons_zero, List.set_cons_succ]
      refine det_take (i := 14) (d := some 99) (l' := #[true, true, true, true, true, true, true, true, true, true, true, true, true, true, true, false, false, false, false, false, false, false, false, false, false, false, false, false, false, false, false, false, false, false, false, false, false, false]) (v := .agg (callCells z')) rfl rfl rfl (by kernel_rfl) (by kernel_rfl) (by kernel_rfl) (Or.inl ⟨by rfl, ?_⟩) ?_
      · intro w9 hS
        go_simp
        refine Calls.mono (clean_is z' _ HCl.out) ?_
        rintro e w8 ⟨rfl, hb⟩
        exact ⟨rfl, hS.step hb⟩
      simp only [Act.put, List.setIfInBounds_toArray, List.set_cons_zero, List.set_cons_succ]
      refine det_take (i := 15) (d := some 100) (l' := #[true, true, true, true, true, true, true, true, true, true, true, true, true, true, true, true, false, false, false, false, false, false, false, false, false, false, false, false, false, false, false, false, false, false, false, false, false, false]) (v := .agg (callCells z')) rfl rfl rfl (by kernel_rfl) (by kernel_rfl) (by kernel_rfl) (Or.inl ⟨by rfl, ?_⟩) ?_
      · intro w9 hS
        have l0 := hS.bz.cell 0
        have l1 := hS.bz.cell 1
        have l2 := hS.bz.cell 2
        have l3 := hS.bz.cell 3
        have l4 := hS.bz.cell 4
        have l5 := hS.bz.cell 5
        have l6 := hS.bz.cell 6
        simp only [callCells, List.getElem?_toArray, List.getElem?_cons_zero, List.getElem?_cons_succ] at l0 l1 l2 l3 l4 l5 l6
        go_simp
        exact ⟨rfl, hS⟩
      simp only [Act.put, List.setIfInBounds_toArray, List.set_cons_zero, List.set_cons_succ]
      refine det_take (i := 16) (d := some 101) (l' := #[true, true, true, true, true, true, true, true, true, true, true, true, true, true, true, true, true, false, false, false, false, false, false, false, false, false, false, false, false, false, false, false, false, false, false, false, false, false]) (v := .bool true) rfl rfl rfl (by kernel_rfl) (by kernel_rfl) (by kernel_rfl) (Or.inl ⟨by rfl, ?_⟩) ?_
      · intro w9 hS
        simp only [callCells]
        go_simp
        first | exact ⟨rfl, hS⟩ | exact ⟨by simp, hS⟩
      simp only [Act.put, List.setIfInBounds_toArray, List.set_cons_zero, List.set_cons_succ]
      refine det_take (i := 17) (d := some 102) (l' := #[true, true, true, true, true, true, true, true, true, true, true, true, true, true, true, true, true, true, false, false, false, false, false, false, false, false, false, false, false, false, false, false, false, false, false, false, false, false]) (v := .bool true) rfl rfl rfl (by kernel_rfl) (by kernel_rfl) (by kernel_rfl) (Or.inl ⟨by rfl, ?_⟩) ?_
      · intro w9 hS
        go_simp
        exact ⟨rfl, hS⟩
      simp only [Act.put, List.setIfInBounds_toArray, List.set_cons_zero, List.set_cons_succ]
      refine det_take (i := 18) (d := some 103) (l' := #[true, true, true, true, true, true, true, true, true, true, true, true, true, true, true, true, true, true, true, false, false, false, false, false, false, false, false, false, false, false, false, false, false, false, false, false, false, false]) (v := .bool true) rfl rfl rfl (by kernel_rfl) (by kernel_rfl) (by kernel_rfl) (Or.inl ⟨by rfl, ?_⟩) ?_
      · intro w9 hS
        go_simp
        exact ⟨rfl, hS⟩
      simp only [Act.put, List.setIfInBounds_toArray, List.set_cons_zero, List.set_cons_succ]
      refine det_take (i := 19) (d := some 104) (l' := #[true, true, true, true, true, true, true, true, true, true, true, true, true, true, true, true, true, true, true, true, false, false, false, false, false, false, false, false, false, false, false, false, false, false, false, false, false, false]) (v := .bool true) rfl rfl rfl (by kernel_rfl) (by kernel_rfl) (by kernel_rfl) (Or.inl ⟨by rfl, ?_⟩) ?_
      · intro w9 hS
        go_simp
        exact ⟨rfl, hS⟩
      simp only [Act.put, List.setIfInBounds_toArray, List.set_cons_zero, List.set_cons_succ]
      refine det_take (i := 20) (d := some 105) (l' := #[true, true, true, true, true, true, true, true, true, true, true, true, true, true, true, true, true, true, true, true, true, false, false, false, false, false, false, false, false, false, false, false, false, false, false, false, false, false]) (v := .int .i64 4) rfl rfl rfl (by kernel_rfl) (by kernel_rfl) (by kernel_rfl) (Or.inl ⟨by rfl, ?_⟩) ?_
      · intro w9 hS
        go_simp
        exact ⟨rfl, hS⟩
      simp only [Act.put, List.setIfInBounds_toArray, List.set_cons_zero, List.set_cons_succ]
      refine det_take (i := 21) (d := some 106) (l' := #[true, true, true, true, true, true, true, true, true, true, true, true, true, true, true, true, true, true, true, true, true, true, false, false, false, false, false, false, false, false, false, false, false, false, false, false, false, false]) (v := .bool true) rfl rfl rfl (by kernel_rfl) (by kernel_rfl) (by kernel_rfl) (Or.inl ⟨by rfl, ?_⟩) ?_
      · intro w9 hS
        go_simp
        first | exact ⟨rfl, hS⟩ | exact ⟨by simp, hS⟩
      simp only [Act.put, List.setIfInBounds_toArray, List.set_cons_zero, List.set_cons_succ]
      refine det_take (i := 22) (d := some 107) (l' := #[true, true, true, true, true, true, true, true, true, true, true, true, true, true, true, true, true, true, true, true, true, true, true, false, false, false, false, false, false, false, false, false, false, false, false, false, false, false]) (v := .bool true) rfl rfl rfl (by kernel_rfl) (by kernel_rfl) (by kernel_rfl) (Or.inl ⟨by rfl, ?_⟩) ?_
      · intro w9 hS
        go_simp
        exact ⟨rfl, hS⟩
      simp only [Act.put, List.setIfInBounds_toArray, List.set_cons_zero, List.set_cons_succ]
      refine det_take (i := 23) (d := some 108) (l' := #[true, true, true, true, true, true, true, true, true, true, true, true, true, true, true, true, true, true, true, true, true, true, true, true, false, false, false, false, false, false, false, false, false, false, false, false, false, false]) (v := undef) rfl rfl rfl (by kernel_rfl) (by kernel_rfl) (by kernel_rfl) (Or.inr ⟨by rfl, rfl⟩) ?_
      simp only [Act.put, List.setIfInBounds_toArray, List.set_cons_zero, List.set_cons_succ]
      refine det_take (i := 24) (d := some 109) (l' := #[true, true, true, true, true, true, true, true, true, true, true, true, true, true, true, true, true, true, true, true, true, true, true, true, true, false, false, false, false, false, false, false, false, false, false, false, false, false]) (v := undef) rfl rfl rfl (by kernel_rfl) (by kernel_rfl) (by kernel_rfl) (Or.inr ⟨by rfl, rfl⟩) ?_
      simp only [Act.put, List.setIfInBounds_toArray, List.set_cons_zero, List.set_cons_succ]
      refine det_take (i := 25) (d := some 110) (l' := #[true, true, true, true, true, true, true, true, true, true, true, true, true, true, true, true, true, true, true, true, true, true, true, true, true, true, false, false, false, false, false, false, false, false, false, false, false, false]) (v := undef) rfl rfl rfl (by kernel_rfl) (by kernel_rfl) (by kernel_rfl) (Or.inr ⟨by rfl, rfl⟩) ?_
      simp only [Act.put, List.setIfInBounds_toArray, List.set_cons_zero, List.set_cons_succ]
      refine det_take (i := 26) (d := some 111) (l' := #[true, true, true, true, true, true, true, true, true, true, true, true, true, true, true, true, true, true, true, true, true, true, true, true, true, true, true, false, false, false, false, false, false, false, false, false, false, false]) (v := undef) rfl rfl rfl (by kernel_rfl) (by kernel_rfl) (by kernel_rfl) (Or.inr ⟨by rfl, rfl⟩) ?_
      simp only [Act.put, List.setIfInBounds_toArray, List.set_cons_zero, List.set_cons_succ]
      refine det_take (i := 27) (d := some 112) (l' := #[true, true, true, true, true, true, true, true, true, true, true, true, true, true, true, true, true, true, true, true, true, true, true, true, true, true, true, true, false, false, false, false, false, false, false, false, false, false]) (v := .bool true) rfl rfl rfl (by kernel_rfl) (by kernel_rfl) (by kernel_rfl) (Or.inl ⟨by rfl, ?_⟩) ?_
      · intro w9 hS
        go_simp
        exact ⟨rfl, hS⟩
      simp only [Act.put, List.setIfInBounds_toArray, List.set_cons_zero, List.set_cons_succ]
      refine det_take (i := 28) (d := some 113) (l' := #[true, true, true, true, true, true, true, true, true, true, true, true, true, true, true, true, true, true, true, true, true, true, true, true, true, true, true, true, true, false, false, false, false, false, false, false, false, false]) (v := .bool true) rfl rfl rfl (by kernel_rfl) (by kernel_rfl) (by kernel_rfl) (Or.inl ⟨by rfl, ?_⟩) ?_
      · intro w9 hS
        go_simp
        exact ⟨rfl, hS⟩
      simp only [Act.put, List.setIfInBounds_toArray, List.set_cons_zero, List.set_cons_succ]
      refine det_take (i := 29) (d := some 114) (l' := #[true, true, true, true, true, true, true, true, true, true, true, true, true, true, true, true, true, true, true, true, true, true, true, true, true, true, true, true, true, true, false, false, false, false, false, false, false, false]) (v := .bool true) rfl rfl rfl (by kernel_rfl) (by kernel_rfl) (by kernel_rfl) (Or.inl ⟨by rfl, ?_⟩) ?_
      · intro w9 hS
        go_simp
        exact ⟨rfl, hS⟩
      simp only [Act.put, List.setIfInBounds_toArray, List.set_cons_zero, List.set_cons_succ]
      refine det_take (i := 30) (d := some 115) (l' := #[true, true, true, true, true, true, true, true, true, true, true, true, true, true, true, true, true, true, true, true, true, true, true, true, true, true, true, true, true, true, true, false, false, false, false, false, false, false]) (v := .int .i64 0) rfl rfl rfl (by kernel_rfl) (by kernel_rfl) (by kernel_rfl) (Or.inl ⟨by rfl, ?_⟩) ?_
      · intro w9 hS
        go_simp
        exact ⟨rfl, hS⟩
      simp only [Act.put, List.setIfInBounds_toArray, List.set_cons_zero, List.set_cons_succ]
      refine det_take (i := 31) (d := some 116) (l' := #[true, true, true, true, true, true, true, true, true, true, true, true, true, true, true, true, true, true, true, true, true, true, true, true, true, true, true, true, true, true, true, true, false, false, false, false, false, false]) (v := .bool false) rfl rfl rfl (by kernel_rfl) (by kernel_rfl) (by kernel_rfl) (Or.inl ⟨by rfl, ?_⟩) ?_
      · intro w9 hS
        go_simp
        first | exact ⟨rfl, hS⟩ | exact ⟨by simp, hS⟩
      simp only [Act.put, List.setIfInBounds_toArray, List.set_cons_zero, List.set_cons_succ]
      refine det_take (i := 32) (d := some 117) (l' := #[true, true, true, true, true, true, true, true, true, true, true, true, true, true, true, true, true, true, true, true, true, true, true, true, true, true, true, true, true, true, true, true, true, false, false, false, false, false]) (v := .bool false) rfl rfl rfl (by kernel_rfl) (by kernel_rfl) (by kernel_rfl) (Or.inl ⟨by rfl, ?_⟩) ?_
      · intro w9 hS
        go_simp
        exact ⟨rfl, hS⟩
      simp only [Act.put, List.setIfInBounds_toArray, List.set_cons_zero, List.set_cons_succ]
      refine det_take (i := 33) (d := some 118) (l' := #[true, true, true, true, true, true, true, true, true, true, true, true, true, true, true, true, true, true, true, true, true, true, true, true, true, true, true, true, true, true, true, true, true, true, false, false, false, false]) (v := .int .i64 4) rfl rfl rfl (by kernel_rfl) (by kernel_rfl) (by kernel_rfl) (Or.inl ⟨by rfl, ?_⟩) ?_
      · intro w9 hS
        go_simp
        exact ⟨rfl, hS⟩
      simp only [Act.put, List.setIfInBounds_toArray, List.set_cons_zero, List.set_cons_succ]
      refine det_take (i := 34) (d := some 119) (l' := #[true, true, true, true, true, true, true, true, true, true, true, true, true, true, true, true, true, true, true, true, true, true, true, true, true, true, true, true, true, true, true, true, true, true, true, false, false, false]) (v := .bool true) rfl rfl rfl (by kernel_rfl) (by kernel_rfl) (by kernel_rfl) (Or.inl ⟨by rfl, ?_⟩) ?_
      · intro w9 hS
        go_simp
        first | exact ⟨rfl, hS⟩ | exact ⟨by simp, hS⟩
      simp only [Act.put, List.setIfInBounds_toArray, List.set_cons_zero, List.set_cons_succ]
      refine det_take (i := 35) (d := some 120) (l' := #[true, true, true, true, true, true, true, true, true, true, true, true, true, true, true, true, true, true, true, true, true, true, true, true, true, true, true, true, true, true, true, true, true, true, true, true, false, false]) (v := .bool true) rfl rfl rfl (by kernel_rfl) (by kernel_rfl) (by kernel_rfl) (Or.inl ⟨by rfl, ?_⟩) ?_
      · intro w9 hS
        go_simp
        exact ⟨rfl, hS⟩
      simp only [Act.put, List.setIfInBounds_toArray, List.set_cons_zero, List.set_cons_succ]
      refine det_take (i := 36) (d := some 121) (l' := #[true, true, true, true, true, true, true, true, true, true, true, true, true, true, true, true, true, true, true, true, true, true, true, true, true, true, true, true, true, true, true, true, true, true, true, true, true, false]) (v := .bool true) rfl rfl rfl (by kernel_rfl) (by kernel_rfl) (by kernel_rfl) (Or.inl ⟨by rfl, ?_⟩) ?_
      · intro w9 hS
        go_simp
        exact ⟨rfl, hS⟩
      simp only [Act.put, List.setIfInBounds_toArray, List.set_cons_zero, List.set_cons_succ]
      refine det_take (i := 37) (d := some 6) (l' := #[true, true, true, true, true, true, true, true, true, true, true, true, true, true, true, true, true, true, true, true, true, true, true, true, true, true, true, true, true, true, true, true, true, true, true, true, true, true]) (v := .bool true) rfl rfl rfl (by kernel_rfl) (by kernel_rfl) (by kernel_rfl) (Or.inl ⟨by rfl, ?_⟩) ?_
      · intro w9 hS
        go_simp
        exact ⟨rfl, hS⟩
      simp only [Act.put, List.setIfInBounds_toArray, List.set_cons_zero, List.set_cons_succ]
      refine det_done (by kernel_rfl) ?_ _
      intro w42 hS
      have HF := Lib.hid hS.below
      clear hS HS9
      go_wp2_with fail
      go_ret
      exact Ret.of rfl HF.out
    | none =>
      cases hr : readF s with
      | some d' =>
        obtain rfl : d' = d := by rw [← hd]; unfold ra; rw [hr]; rfl
        have HTd := Lib.hid (tell_read hr)
        have HPE := Lib.hid (show pe s = 4 by unfold pe; rw [hp]; rfl)
        have HRE := Lib.hid (show re s = 0 by unfold re; rw [hr]; rfl)
        have HZ := Lib.hid hz
        have HD' := Lib.hid hd
        clear hp hr hz hd
        refine (parse_at s z 4 _ (HE7.out.below HB7.out) (by omega) HZ.out HPE.out).mono ?_
        rintro e w8 ⟨rfl, hb8⟩
        have HB8 := Lib.hid (HB7.out.trans (hb8.mono HB7.out.size))
        clear hb8 HB7
        unfold callV callCells
        go_wp2_with fail
        have HB8n := Lib.hid (HB8.out.trans ((below_new w8 (.cells (callCells z) 38)).mono HB8.out.size))
        have HZ8 := Lib.hid (Blk.new w8 (callCells z) 38)
        refine (read_at s d' 0 _ (HE7.out.below HB8n.out) (by omega) HD'.out HRE.out).mono ?_
        rintro e w9 ⟨dA, dn, dc, rfl, hpd, hb9⟩
        have HS9 : Hid (Bk9 w z d' (.slice dA dn dc) w8.heap.size w9.heap.size (w9.alloc (.cells (ansCells d' (.slice dA dn dc)) 25))) := Lib.hid
          ⟨(HB8n.out.trans (hb9.mono HB8n.out.size)).alloc (Nat.le_trans HB8n.out.size hb9.size) _, HE7.out, (HZ8.out.below hb9).alloc _, Blk.new _ _ _, hpd.below (below_new _ _)⟩
        clear hb9 hpd HB8 HB8n HZ8
        unfold ansVV ansCells
        go_wp2_with fail
        refine det_start (n := 38) (l := #[false, false, false, false, false, false, false, false, false, false, false, false, false, false, false, false, false, false, false, false, false, false, false, false, false, false, false, false, false, false, false, false, false, false, false, false, false, false]) (S := Bk9 w z d' (.slice dA dn dc) w8.heap.size w9.heap.size) (by kernel_rfl) (by rfl) (by rfl) HS9.out.drew ?_
        refine det_take (i := 0) (d := some 85) (l' := #[true, false, false, false, false, false, false, false, false, false, false, false, false, false, false, false, false, false, false, false, false, false, false, false, false, false, false, false, false, false, false, false, false, false, false, false, false, false]) (v := .int .i64 4) rfl rfl rfl (by kernel_rfl) (by kernel_rfl) (by kernel_rfl) (Or.inl ⟨by rfl, ?_⟩) ?_
        · intro w9 hS
          go_simp
          exact ⟨rfl, hS⟩
        simp only [Act.put, List.setIfInBounds_toArray, List.set_cons_zero, List.set_cons_succ]
        refine det_take (i := 1) (d := some 86) (l' := #[true, true, false, false, false, false, false, false, false, false, false, false, false, false, false, false, false, false, false, false, false, false, false, false, false, false, false, false, false, false, false, false, false, false, false, false, false, false]) (v := .bool true) rfl rfl rfl (by kernel_rfl) (by kernel_rfl) (by kernel_rfl) (Or.inl ⟨by rfl, ?_⟩) ?_
        · intro w9 hS
          go_simp
          first | exact ⟨rfl, hS⟩ | exact ⟨by simp, hS⟩
        simp only [Act.put, List.setIfInBounds_toArray, List.set_cons_zero, List.set_cons_succ]
        refine det_take (i := 2) (d := some 87) (l' := #[true, true, true, false, false, false, false, false, false, false, false, false, false, false, false, false, false, false, false, false, false, false, false, false, false, false, false, false, false, false, false, false, false, false, false, false, false, false]) (v := .bool true) rfl rfl rfl (by kernel_rfl) (by kernel_rfl) (by kernel_rfl) (Or.inl ⟨by rfl, ?_⟩) ?_
        · intro w9 hS
          go_simp
          exact ⟨rfl, hS⟩
        simp only [Act.put, List.setIfInBounds_toArray, List.set_cons_zero, List.set_cons_succ]
        refine det_take (i := 3) (d := some 88) (l' := #[true, true, true, true, false, false, false, false, false, false, false, false, false, false, false, false, false, false, false, false, false, false, false, false, false, false, false, false, false, false, false, false, false, false, false, false, false, false]) (v := undef) rfl rfl rfl (by kernel_rfl) (by kernel_rfl) (by kernel_rfl) (Or.inr ⟨by rfl, rfl⟩) ?_
        simp only [Act.put, List.setIfInBounds_toArray, List.set_cons_zero, List.set_cons_succ]
        refine det_take (i := 4) (d := some 89) (l' := #[true, true, true, true, true, false, false, false, false, false, false, false, false, false, false, false, false, false, false, false, false, false, false, false, false, false, false, false, false, false, false, false, false, false, false, false, false, false]) (v := undef) rfl rfl rfl (by kernel_rfl) (by kernel_rfl) (by kernel_rfl) (Or.inr ⟨by rfl, rfl⟩) ?_
        simp only [Act.put, List.setIfInBounds_toArray, List.set_cons_zero, List.set_cons_succ]
        refine det_take (i := 5) (d := some 90) (l' := #[true, true, true, true, true, true, false, false, false, false, false, false, false, false, false, false, false, false, false, false, false, false, false, false, false, false, false, false, false, false, false, false, false, false, false, false, false, false]) (v := undef) rfl rfl rfl (by kernel_rfl) (by kernel_rfl) (by kernel_rfl) (Or.inr ⟨by rfl, rfl⟩) ?_
        simp only [Act.put, List.setIfInBounds_toArray, List.set_cons_zero, List.set_cons_succ]
        refine det_take (i := 6) (d := some 91) (l' := #[true, true, true, true, true, true, true, false, false, false, false, false, false, false, false, false, false, false, false, false, false, false, false, false, false, false, false, false, false, false, false, false, false, false, false, false, false, false]) (v := undef) rfl rfl rfl (by kernel_rfl) (by kernel_rfl) (by kernel_rfl) (Or.inr ⟨by rfl, rfl⟩) ?_
        simp only [Act.put, List.setIfInBounds_toArray, List.set_cons_zero, List.set_cons_succ]
        refine det_take (i := 7) (d := some 92) (l' := #[true, true, true, true, true, true, true, true, false, false, false, false, false, false, false, false, false, false, false, false, false, false, false, false, false, false, false, false, false, false, false, false, false, false, false, false, false, false]) (v := undef) rfl rfl rfl (by kernel_rfl) (by kernel_rfl) (by kernel_rfl) (Or.inr ⟨by rfl, rfl⟩) ?_
        simp only [Act.put, List.setIfInBounds_toArray, List.set_cons_zero, List.set_cons_succ]
        refine det_take (i := 8) (d := some 93) (l' := #[true, true, true, true, true, true, true, true, true, false, false, false, false, false, false, false, false, false, false, false, false, false, false, false, false, false, false, false, false, false, false, false, false, false, false, false, false, false]) (v := undef) rfl rfl rfl (by kernel_rfl) (by kernel_rfl) (by kernel_rfl) (Or.inr ⟨by rfl, rfl⟩) ?_
        simp only [Act.put, List.setIfInBounds_toArray, List.set_cons_zero, List.set_cons_succ]
        refine det_take (i := 9) (d := some 94) (l' := #[true, true, true, true, true, true, true, true, true, true, false, false, false, false, false, false, false, false, false, false, false, false, false, false, false, false, false, false, false, false, false, false, false, false, false, false, false, false]) (v := undef) rfl rfl rfl (by kernel_rfl) (by kernel_rfl) (by kernel_rfl) (Or.inr ⟨by rfl, rfl⟩) ?_
        simp only [Act.put, List.setIfInBounds_toArray, List.set_cons_zero, List.set_cons_succ]
        refine det_take (i := 10) (d := some 95) (l' := #[true, true, true, true, true, true, true, true, true, true, true, false, false, false, false, false, false, false, false, false, false, false, false, false, false, false, false, false, false, false, false, false, false, false, false, false, false, false]) (v := undef) rfl rfl rfl (by kernel_rfl) (by kernel_rfl) (by kernel_rfl) (Or.inr ⟨by rfl, rfl⟩) ?_
        simp only [Act.put, List.setIfInBounds_toArray, List.set_cons_zero, List.set_cons_succ]
        refine det_take (i := 11) (d := some 96) (l' := #[true, true, true, true, true, true, true, true, true, true, true, true, false, false, false, false, false, false, false, false, false, false, false, false, false, false, false, false, false, false, false, false, false, false, false, false, false, false]) (v := undef) rfl rfl rfl (by kernel_rfl) (by kernel_rfl) (by kernel_rfl) (Or.inr ⟨by rfl, rfl⟩) ?_
        simp only [Act.put, List.setIfInBounds_toArray, List.set_cons_zero, List.set_cons_succ]
        refine det_take (i := 12) (d := some 97) (l' := #[true, true, true, true, true, true, true, true, true, true, true, true, true, false, false, false, false, false, false, false, false, false, false, false, false, false, false, false, false, false, false, false, false, false, false, false, false, false]) (v := undef) rfl rfl rfl (by kernel_rfl) (by kernel_rfl) (by kernel_rfl) (Or.inr ⟨by rfl, rfl⟩) ?_
        simp only [Act.put, List.setIfInBounds_toArray, List.set_cons_zero, List.set_cons_succ]
        refine det_take (i := 13) (d := some 98) (l' := #[true, true, true, true, true, true, true, true, true, true, true, true, true, true, false, false, false, false, false, false, false, false, false, false, false, false, false, false, false, false, false, false, false, false, false, false, false, false]) (v := undef) rfl rfl rfl (by kernel_rfl) (by kernel_rfl) (by kernel_rfl) (Or.inr ⟨by rfl, rfl⟩) ?_
        simp only [Act.put, List.setIfInBounds_toArray, List.set_cons_zero, List.set_cons_succ]
        refine det_take (i := 14) (d := some 99) (l' := #[true, true, true, true, true, true, true, true, true, true, true, true, true, true, true, false, false, false, false, false, false, false, false, false, false, false, false, false, false, false, false, false, false, false, false, false, false, false]) (v := undef) rfl rfl rfl (by kernel_rfl) (by kernel_rfl) (by kernel_rfl) (Or.inr ⟨by rfl, rfl⟩) ?_
        simp only [Act.put, List.setIfInBounds_toArray, List.set_cons_zero, List.set_cons_succ]
        refine det_take (i := 15) (d := some 100) (l' := #[true, true, true, true, true, true, true, true, true, true, true, true, true, true, true, true, false, false, false, false, false, false, false, false, false, false, false, false, false, false, false, false, false, false, false, false, false, false]) (v := undef) rfl rfl rfl (by kernel_rfl) (by kernel_rfl) (by kernel_rfl) (Or.inr ⟨by rfl, rfl⟩) ?_
        simp only [Act.put, List.setIfInBounds_toArray, List.set_cons_zero, List.set_cons_succ]
        refine det_take (i := 16) (d := some 101) (l' := #[true, true, true, true, true, true, true, true, true, true, true, true, true, true, true, true, true, false, false, false, false, false, false, false, false, false, false, false, false, false, false, false, false, false, false, false, false, false]) (v := undef) rfl rfl rfl (by kernel_rfl) (by kernel_rfl) (by kernel_rfl) (Or.inr ⟨by rfl, rfl⟩) ?_
        simp only [Act.put, List.setIfInBounds_toArray, List.set_cons_zero, List.set_cons_succ]
        refine det_take (i := 17) (d := some 102) (l' := #[true, true, true, true, true, true, true, true, true, true, true, true, true, true, true, true, true, true, false, false, false, false, false, false, false, false, false, false, false, false, false, false, false, false, false, false, false, false]) (v := undef) rfl rfl rfl (by kernel_rfl) (by kernel_rfl) (by kernel_rfl) (Or.inr ⟨by rfl, rfl⟩) ?_
        simp only [Act.put, List.setIfInBounds_toArray, List.set_cons_zero, List.set_cons_succ]
        refine det_take (i := 18) (d := some 103) (l' := #[true, true, true, true, true, true, true, true, true, true, true, true, true, true, true, true, true, true, true, false, false, false, false, false, false, false, false, false, false, false, false, false, false, false, false, false, false, false]) (v := .bool true) rfl rfl rfl (by kernel_rfl) (by kernel_rfl) (by kernel_rfl) (Or.inl ⟨by rfl, ?_⟩) ?_
        · intro w9 hS
          go_simp
          exact ⟨rfl, hS⟩
        simp only [Act.put, List.setIfInBounds_toArray, List.set_cons_zero, List.set_cons_succ]
        refine det_take (i := 19) (d := some 104) (l' := #[true, true, true, true, true, true, true, true, true, true, true, true, true, true, true, true, true, true, true, true, false, false, false, false, false, false, false, false, false, false, false, false, false, false, false, false, false, false]) (v := .bool true) rfl rfl rfl (by kernel_rfl) (by kernel_rfl) (by kernel_rfl) (Or.inl ⟨by rfl, ?_⟩) ?_
        · intro w9 hS
          go_simp
          exact ⟨rfl, hS⟩
        simp only [Act.put, List.setIfInBounds_toArray, List.set_cons_zero, List.set_cons_succ]
        refine det_take (i := 20) (d := some 105) (l' := #[true, true, true, true, true, true, true, true, true, true, true, true, true, true, true, true, true, true, true, true, true, false, false, false, false, false, false, false, false, false, false, false, false, false, false, false, false, false]) (v := .int .i64 0) rfl rfl rfl (by kernel_rfl) (by kernel_rfl) (by kernel_rfl) (Or.inl ⟨by rfl, ?_⟩) ?_
        · intro w9 hS
          go_simp
          exact ⟨rfl, hS⟩
        simp only [Act.put, List.setIfInBounds_toArray, List.set_cons_zero, List.set_cons_succ]
        refine det_take (i := 21) (d := some 106) (l' := #[true, true, true, true, true, true, true, true, true, true, true, true, true, true, true, true, true, true, true, true, true, true, false, false, false, false, false, false, false, false, false, false, false, false, false, false, false, false]) (v := .bool false) rfl rfl rfl (by kernel_rfl) (by kernel_rfl) (by kernel_rfl) (Or.inl ⟨by rfl, ?_⟩) ?_
        · intro w9 hS
          go_simp
          first | exact ⟨rfl, hS⟩ | exact ⟨by simp, hS⟩
        simp only [Act.put, List.setIfInBounds_toArray, List.set_cons_zero, List.set_cons_succ]
        refine det_take (i := 22) (d := some 107) (l' := #[true, true, true, true, true, true, true, true, true, true, true, true, true, true, true, true, true, true, true, true, true, true, true, false, false, false, false, false, false, false, false, false, false, false, false, false, false, false]) (v := .bool false) rfl rfl rfl (by kernel_rfl) (by kernel_rfl) (by kernel_rfl) (Or.inl ⟨by rfl, ?_⟩) ?_
        · intro w9 hS
          go_simp
          exact ⟨rfl, hS⟩
        simp only [Act.put, List.setIfInBounds_toArray, List.set_cons_zero, List.set_cons_succ]
        refine det_take (i := 23) (d := some 108) (l' := #[true, true, true, true, true, true, true, true, true, true, true, true, true, true, true, true, true, true, true, true, true, true, true, true, false, false, false, false, false, false, false, false, false, false, false, false, false, false]) (v := .agg (ansCells d' (.slice dA dn dc))) rfl rfl rfl (by kernel_rfl) (by kernel_rfl) (by kernel_rfl) (Or.inl ⟨by rfl, ?_⟩) ?_
        · intro w9 hS
          have l0 := hS.bd.cell 0
          have l1 := hS.bd.cell 1
          have l2 := hS.bd.cell 2
          have l3 := hS.bd.cell 3
          simp only [ansCells, List.getElem?_toArray, List.getElem?_cons_zero, List.getElem?_cons_succ] at l0 l1 l2 l3
          go_simp
          exact ⟨rfl, hS⟩
        simp only [Act.put, List.setIfInBounds_toArray, List.set_cons_zero, List.set_cons_succ]
        refine det_take (i := 24) (d := some 109) (l' := #[true, true, true, true, true, true, true, true, true, true, true, true, true, true, true, true, true, true, true, true, true, true, true, true, true, false, false, false, false, false, false, false, false, false, false, false, false, false]) (v := .string (bs (tellF d'))) rfl rfl rfl (by kernel_rfl) (by kernel_rfl) (by kernel_rfl) (Or.inl ⟨by rfl, ?_⟩) ?_
        · intro w9 hS
          go_simp
          refine Calls.mono (tell_any d' _ _ hS.env HAd.out hS.pd) ?_
          rintro e w8 ⟨rfl, hb⟩
          exact ⟨rfl, hS.step hb⟩
        simp only [Act.put, List.setIfInBounds_toArray, List.set_cons_zero, List.set_cons_succ]
        refine det_take (i := 25) (d := some 110) (l' := #[true, true, true, true, true, true, true, true, true, true, true, true, true, true, true, true, true, true, true, true, true, true, true, true, true, true, false, false, false, false, false, false, false, false, false, false, false, false]) (v := .string (bs s)) rfl rfl rfl (by kernel_rfl) (by kernel_rfl) (by kernel_rfl) (Or.inl ⟨by rfl, ?_⟩) ?_
        · intro w9 hS
          go_simp
          exact ⟨rfl, hS⟩
        simp only [Act.put, List.setIfInBounds_toArray, List.set_cons_zero, List.set_cons_succ]
        refine det_take (i := 26) (d := some 111) (l' := #[true, true, true, true, true, true, true, true, true, true, true, true, true, true, true, true, true, true, true, true, true, true, true, true, true, true, true, false, false, false, false, false, false, false, false, false, false, false]) (v := .bool true) rfl rfl rfl (by kernel_rfl) (by kernel_rfl) (by kernel_rfl) (Or.inl ⟨by rfl, ?_⟩) ?_
        · intro w9 hS
          go_simp
          first | exact ⟨rfl, hS⟩ | exact ⟨by rw [HTd.out]; simp, hS⟩ | exact ⟨by simp [HTd.out], hS⟩
        simp only [Act.put, List.setIfInBounds_toArray, List.set_cons_zero, List.set_cons_succ]
        refine det_take (i := 27) (d := some 112) (l' := #[true, true, true, true, true, true, true, true, true, true, true, true, true, true, true, true, true, true, true, true, true, true, true, true, true, true, true, true, false, false, false, false, false, false, false, false, false, false]) (v := .bool true) rfl rfl rfl (by kernel_rfl) (by kernel_rfl) (by kernel_rfl) (Or.inl ⟨by rfl, ?_⟩) ?_
        · intro w9 hS
          go_simp
          exact ⟨rfl, hS⟩
        simp only [Act.put, List.setIfInBounds_toArray, List.set_cons_zero, List.set_cons_succ]
        refine det_take (i := 28) (d := some 113) (l' := #[true, true, true, true, true, true, true, true, true, true, true, true, true, true, true, true, true, true, true, true, true, true, true, true, true, true, true, true, true, false, false, false, false, false, false, false, false, false]) (v := .bool true) rfl rfl rfl (by kernel_rfl) (by kernel_rfl) (by kernel_rfl) (Or.inl ⟨by rfl, ?_⟩) ?_
        · intro w9 hS
          go_simp
          exact ⟨rfl, hS⟩
        simp only [Act.put, List.setIfInBounds_toArray, List.set_cons_zero, List.set_cons_succ]
        refine det_take (i := 29) (d := some 114) (l' := #[true, true, true, true, true, true, true, true, true, true, true, true, true, true, true, true, true, true, true, true, true, true, true, true, true, true, true, true, true, true, false, false, false, false, false, false, false, false]) (v := .bool true) rfl rfl rfl (by kernel_rfl) (by kernel_rfl) (by kernel_rfl) (Or.inl ⟨by rfl, ?_⟩) ?_
        · intro w9 hS
          go_simp
          exact ⟨rfl, hS⟩
        simp only [Act.put, List.setIfInBounds_toArray, List.set_cons_zero, List.set_cons_succ]
        refine det_take (i := 30) (d := some 115) (l' := #[true, true, true, true, true, true, true, true, true, true, true, true, true, true, true, true, true, true, true, true, true, true, true, true, true, true, true, true, true, true, true, false, false, false, false, false, false, false]) (v := .int .i64 4) rfl rfl rfl (by kernel_rfl) (by kernel_rfl) (by kernel_rfl) (Or.inl ⟨by rfl, ?_⟩) ?_
        · intro w9 hS
          go_simp
          exact ⟨rfl, hS⟩
        simp only [Act.put, List.setIfInBounds_toArray, List.set_cons_zero, List.set_cons_succ]
        refine det_take (i := 31) (d := some 116) (l' := #[true, true, true, true, true, true, true, true, true, true, true, true, true, true, true, true, true, true, true, true, true, true, true, true, true, true, true, true, true, true, true, true, false, false, false, false, false, false]) (v := .bool true) rfl rfl rfl (by kernel_rfl) (by kernel_rfl) (by kernel_rfl) (Or.inl ⟨by rfl, ?_⟩) ?_
        · intro w9 hS
          go_simp
          first | exact ⟨rfl, hS⟩ | exact ⟨by simp, hS⟩
        simp only [Act.put, List.setIfInBounds_toArray, List.set_cons_zero, List.set_cons_succ]
        refine det_take (i := 32) (d := some 117) (l' := #[true, true, true, true, true, true, true, true, true, true, true, true, true, true, true, true, true, true, true, true, true, true, true, true, true, true, true, true, true, true, true, true, true, false, false, false, false, false]) (v := .bool true) rfl rfl rfl (by kernel_rfl) (by kernel_rfl) (by kernel_rfl) (Or.inl ⟨by rfl, ?_⟩) ?_
        · intro w9 hS
          go_simp
          exact ⟨rfl, hS⟩
        simp only [Act.put, List.setIfInBounds_toArray, List.set_cons_zero, List.set_cons_succ]
        refine det_take (i := 33) (d := some 118) (l' := #[true, true, true, true, true, true, true, true, true, true, true, true, true, true, true, true, true, true, true, true, true, true, true, true, true, true, true, true, true, true, true, true, true, true, false, false, false, false]) (v := undef) rfl rfl rfl (by kernel_rfl) (by kernel_rfl) (by kernel_rfl) (Or.inr ⟨by rfl, rfl⟩) ?_
        simp only [Act.put, List.setIfInBounds_toArray, List.set_cons_zero, List.set_cons_succ]
        refine det_take (i := 34) (d := some 119) (l' := #[true, true, true, true, true, true, true, true, true, true, true, true, true, true, true, true, true, true, true, true, true, true, true, true, true, true, true, true, true, true, true, true, true, true, true, false, false, false]) (v := undef) rfl rfl rfl (by kernel_rfl) (by kernel_rfl) (by kernel_rfl) (Or.inr ⟨by rfl, rfl⟩) ?_
        simp only [Act.put, List.setIfInBounds_toArray, List.set_cons_zero, List.set_cons_succ]
        refine det_take (i := 35) (d := some 120) (l' := #[true, true, true, true, true, true, true, true, true, true, true, true, true, true, true, true, true, true, true, true, true, true, true, true, true, true, true, true, true, true, true, true, true, true, true, true, false, false]) (v := .bool true) rfl rfl rfl (by kernel_rfl) (by kernel_rfl) (by kernel_rfl) (Or.inl ⟨by rfl, ?_⟩) ?_
        · intro w9 hS
          go_simp
          exact ⟨rfl, hS⟩
        simp only [Act.put, List.setIfInBounds_toArray, List.set_cons_zero, List.set_cons_succ]
        refine det_take (i := 36) (d := some 121) (l' := #[true, true, true, true, true, true, true, true, true, true, true, true, true, true, true, true, true, true, true, true, true, true, true, true, true, true, true, true, true, true, true, true, true, true, true, true, true, false]) (v := .bool true) rfl rfl rfl (by kernel_rfl) (by kernel_rfl) (by kernel_rfl) (Or.inl ⟨by rfl, ?_⟩) ?_
        · intro w9 hS
          go_simp
          exact ⟨rfl, hS⟩
        simp only [Act.put, List.setIfInBounds_toArray, List.set_cons_zero, List.set_cons_succ]
        refine det_take (i := 37) (d := some 6) (l' := #[true, true, true, true, true, true, true, true, true, true, true, true, true, true, true, true, true, true, true, true, true, true, true, true, true, true, true, true, true, true, true, true, true, true, true, true, true, true]) (v := .bool true) rfl rfl rfl (by kernel_rfl) (by kernel_rfl) (by kernel_rfl) (Or.inl ⟨by rfl, ?_⟩) ?_
        · intro w9 hS
          go_simp
          exact ⟨rfl, hS⟩
        simp only [Act.put, List.setIfInBounds_toArray, List.set_cons_zero, List.set_cons_succ]
        refine det_done (by kernel_rfl) ?_ _
        intro w42 hS
        have HF := Lib.hid hS.below
        clear hS HS9
        go_wp2_with fail
        go_ret
        exact Ret.of rfl HF.out
      | none =>
        have HPE := Lib.hid (show pe s = 4 by unfold pe; rw [hp]; rfl)
        have HRE := Lib.hid (show re s = 4 by unfold re; rw [hr]; rfl)
        have HZ := Lib.hid hz
        have HD' := Lib.hid hd
        clear hp hr hz hd
        refine (parse_at s z 4 _ (HE7.out.below HB7.out) (by omega) HZ.out HPE.out).mono ?_
        rintro e w8 ⟨rfl, hb8⟩
        have HB8 := Lib.hid (HB7.out.trans (hb8.mono HB7.out.size))
        clear hb8 HB7
        unfold callV callCells
        go_wp2_with fail
        have HB8n := Lib.hid (HB8.out.trans ((below_new w8 (.cells (callCells z) 38)).mono HB8.out.size))
        have HZ8 := Lib.hid (Blk.new w8 (callCells z) 38)
        refine (read_at s d 4 _ (HE7.out.below HB8n.out) (by omega) HD'.out HRE.out).mono ?_
        rintro e w9 ⟨dA, dn, dc, rfl, hpd, hb9⟩
        have HS9 : Hid (Bk9 w z d (.slice dA dn dc) w8.heap.size w9.heap.size (w9.alloc (.cells (ansCells d (.slice dA dn dc)) 25))) := Lib.hid
          ⟨(HB8n.out.trans (hb9.mono HB8n.out.size)).alloc (Nat.le_trans HB8n.out.size hb9.size) _, HE7.out, (HZ8.out.below hb9).alloc _, Blk.new _ _ _, hpd.below (below_new _ _)⟩
        clear hb9 hpd HB8 HB8n HZ8
        unfold ansVV ansCells
        go_wp2_with fail
        refine det_start (n := 38) (l := #[false, false, false, false, false, false, false, false, false, false, false, false, false, false, false, false, false, false, false, false, false, false, false, false, false, false, false, false, false, false, false, false, false, false, false, false, false, false]) (S := Bk9 w z d (.slice dA dn dc) w8.heap.size w9.heap.size) (by kernel_rfl) (by rfl) (by rfl) HS9.out.drew ?_
        refine det_take (i := 0) (d := some 85) (l' := #[true, false, false, false, false, false, false, false, false, false, false, false, false, false, false, false, false, false, false, false, false, false, false, false, false, false, false, false, false, false, false, false, false, false, false, false, false, false]) (v := .int .i64 4) rfl rfl rfl (by kernel_rfl) (by kernel_rfl) (by kernel_rfl) (Or.inl ⟨by rfl, ?_⟩) ?_
        · intro w9 hS
          go_simp
          exact ⟨rfl, hS⟩
        simp only [Act.put, List.setIfInBounds_toArray, List.set_cons_zero, List.set_cons_succ]
        refine det_take (i := 1) (d := some 86) (l' := #[true, true, false, false, false, false, false, false, false, false, false, false, false, false, false, false, false, false, false, false, false, false, false, false, false, false, false, false, false, false, false, false, false, false, false, false, false, false]) (v := .bool true) rfl rfl rfl (by kernel_rfl) (by kernel_rfl) (by kernel_rfl) (Or.inl ⟨by rfl, ?_⟩) ?_
        · intro w9 hS
          go_simp
          first | exact ⟨rfl, hS⟩ | exact ⟨by simp, hS⟩
        simp only [Act.put, List.setIfInBounds_toArray, List.set_cons_zero, List.set_cons_succ]
        refine det_take (i := 2) (d := some 87) (l' := #[true, true, true, false, false, false, false, false, false, false, false, false, false, false, false, false, false, false, false, false, false, false, false, false, false, false, false, false, false, false, false, false, false, false, false, false, false, false]) (v := .bool true) rfl rfl rfl (by kernel_rfl) (by kernel_rfl) (by kernel_rfl) (Or.inl ⟨by rfl, ?_⟩) ?_
        · intro w9 hS
          go_simp
          exact ⟨rfl, hS⟩
        simp only [Act.put, List.setIfInBounds_toArray, List.set_cons_zero, List.set_cons_succ]
        refine det_take (i := 3) (d := some 88) (l' := #[true, true, true, true, false, false, false, false, false, false, false, false, false, false, false, false, false, false, false, false, false, false, false, false, false, false, false, false, false, false, false, false, false, false, false, false, false, false]) (v := undef) rfl rfl rfl (by kernel_rfl) (by kernel_rfl) (by kernel_rfl) (Or.inr ⟨by rfl, rfl⟩) ?_
        simp only [Act.put, List.setIfInBounds_toArray, List.set_cons_zero, List.set_cons_succ]
        refine det_take (i := 4) (d := some 89) (l' := #[true, true, true, true, true, false, false, false, false, false, false, false, false, false, false, false, false, false, false, false, false, false, false, false, false, false, false, false, false, false, false, false, false, false, false, false, false, false]) (v := undef) rfl rfl rfl (by kernel_rfl) (by kernel_rfl) (by kernel_rfl) (Or.inr ⟨by rfl, rfl⟩) ?_
        simp only [Act.put, List.setIfInBounds_toArray, List.set_cons_zero, List.set_cons_succ]
        refine det_take (i := 5) (d := some 90) (l' := #[true, true, true, true, true, true, false, false, false, false, false, false, false, false, false, false, false, false, false, false, false, false, false, false, false, false, false, false, false, false, false, false, false, false, false, false, false, false]) (v := undef) rfl rfl rfl (by kernel_rfl) (by kernel_rfl) (by kernel_rfl) (Or.inr ⟨by rfl, rfl⟩) ?_
        simp only [Act.put, List.setIfInBounds_toArray, List.set_cons_zero, List.set_cons_succ]
        refine det_take (i := 6) (d := some 91) (l' := #[true, true, true, true, true, true, true, false, false, false, false, false, false, false, false, false, false, false, false, false, false, false, false, false, false, false, false, false, false, false, false, false, false, false, false, false, false, false]) (v := undef) rfl rfl rfl (by kernel_rfl) (by kernel_rfl) (by kernel_rfl) (Or.inr ⟨by rfl, rfl⟩) ?_
        simp only [Act.put, List.setIfInBounds_toArray, List.set_cons_zero, List.set_cons_succ]
        refine det_take (i := 7) (d := some 92) (l' := #[true, true, true, true, true, true, true, true, false, false, false, false, false, false, false, false, false, false, false, false, false, false, false, false, false, false, false, false, false, false, false, false, false, false, false, false, false, false]) (v := undef) rfl rfl rfl (by kernel_rfl) (by kernel_rfl) (by kernel_rfl) (Or.inr ⟨by rfl, rfl⟩) ?_
        simp only [Act.put, List.setIfInBounds_toArray, List.set_cons_zero, List.set_cons_succ]
        refine det_take (i := 8) (d := some 93) (l' := #[true, true, true, true, true, true, true, true, true, false, false, false, false, false, false, false, false, false, false, false, false, false, false, false, false, false, false, false, false, false, false, false, false, false, false, false, false, false]) (v := undef) rfl rfl rfl (by kernel_rfl) (by kernel_rfl) (by kernel_rfl) (Or.inr ⟨by rfl, rfl⟩) ?_
        simp only [Act.put, List.setIfInBounds_toArray, List.set_cons_zero, List.set_cons_succ]
        refine det_take (i := 9) (d := some 94) (l' := #[true, true, true, true, true, true, true, true, true, true, false, false, false, false, false, false, false, false, false, false, false, false, false, false, false, false, false, false, false, false, false, false, false, false, false, false, false, false]) (v := undef) rfl rfl rfl (by kernel_rfl) (by kernel_rfl) (by kernel_rfl) (Or.inr ⟨by rfl, rfl⟩) ?_
        simp only [Act.put, List.setIfInBounds_toArray, List.set_cons_zero, List.set_cons_succ]
        refine det_take (i := 10) (d := some 95) (l' := #[true, true, true, true, true, true, true, true, true, true, true, false, false, false, false, false, false, false, false, false, false, false, false, false, false, false, false, false, false, false, false, false, false, false, false, false, false, false]) (v := undef) rfl rfl rfl (by kernel_rfl) (by kernel_rfl) (by kernel_rfl) (Or.inr ⟨by rfl, rfl⟩) ?_
        simp only [Act.put, List.setIfInBounds_toArray, List.set_cons_zero, List.set_cons_succ]
        refine det_take (i := 11) (d := some 96) (l' := #[true, true, true, true, true, true, true, true, true, true, true, true, false, false, false, false, false, false, false, false, false, false, false, false, false, false, false, false, false, false, false, false, false, false, false, false, false, false]) (v := undef) rfl rfl rfl (by kernel_rfl) (by kernel_rfl) (by kernel_rfl) (Or.inr ⟨by rfl, rfl⟩) ?_
        simp only [Act.put, List.setIfInBounds_toArray, List.set_cons_zero, List.set_cons_succ]
        refine det_take (i := 12) (d := some 97) (l' := #[true, true, true, true, true, true, true, true, true, true, true, true, true, false, false, false, false, false, false, false, false, false, false, false, false, false, false, false, false, false, false, false, false, false, false, false, false, false]) (v := undef) rfl rfl rfl (by kernel_rfl) (by kernel_rfl) (by kernel_rfl) (Or.inr ⟨by rfl, rfl⟩) ?_
        simp only [Act.put, List.setIfInBounds_toArray, List.set_cons_zero, List.set_cons_succ]
        refine det_take (i := 13) (d := some 98) (l' := #[true, true, true, true, true, true, true, true, true, true, true, true, true, true, false, false, false, false, false, false, false, false, false, false, false, false, false, false, false, false, false, false, false, false, false, false, false, false]) (v := undef) rfl rfl rfl (by kernel_rfl) (by kernel_rfl) (by kernel_rfl) (Or.inr ⟨by rfl, rfl⟩) ?_
        simp only [Act.put, List.setIfInBounds_toArray, List.set_cons_zero, List.set_cons_succ]
        refine det_take (i := 14) (d := some 99) (l' := #[true, true, true, true, true, true, true, true, true, true, true, true, true, true, true, false, false, false, false, false, false, false, false, false, false, false, false, false, false, false, false, false, false, false, false, false, false, false]) (v := undef) rfl rfl rfl (by kernel_rfl) (by kernel_rfl) (by kernel_rfl) (Or.inr ⟨by rfl, rfl⟩) ?_
        simp only [Act.put, List.setIfInBounds_toArray, List.set_cons_zero, List.set_cons_succ]
        refine det_take (i := 15) (d := some 100) (l' := #[true, true, true, true, true, true, true, true, true, true, true, true, true, true, true, true, false, false, false, false, false, false, false, false, false, false, false, false, false, false, false, false, false, false, false, false, false, false]) (v := undef) rfl rfl rfl (by kernel_rfl) (by kernel_rfl) (by kernel_rfl) (Or.inr ⟨by rfl, rfl⟩) ?_
        simp only [Act.put, List.setIfInBounds_toArray, List.set_cons_zero, List.set_cons_succ]
        refine det_take (i := 16) (d := some 101) (l' := #[true, true, true, true, true, true, true, true, true, true, true, true, true, true, true, true, true, false, false, false, false, false, false, false, false, false, false, false, false, false, false, false, false, false, false, false, false, false]) (v := undef) rfl rfl rfl (by kernel_rfl) (by kernel_rfl) (by kernel_rfl) (Or.inr ⟨by rfl, rfl⟩) ?_
        simp only [Act.put, List.setIfInBounds_toArray, List.set_cons_zero, List.set_cons_succ]
        refine det_take (i := 17) (d := some 102) (l' := #[true, true, true, true, true, true, true, true, true, true, true, true, true, true, true, true, true, true, false, false, false, false, false, false, false, false, false, false, false, false, false, false, false, false, false, false, false, false]) (v := undef) rfl rfl rfl (by kernel_rfl) (by kernel_rfl) (by kernel_rfl) (Or.inr ⟨by rfl, rfl⟩) ?_
        simp only [Act.put, List.setIfInBounds_toArray, List.set_cons_zero, List.set_cons_succ]
        refine det_take (i := 18) (d := some 103) (l' := #[true, true, true, true, true, true, true, true, true, true, true, true, true, true, true, true, true, true, true, false, false, false, false, false, false, false, false, false, false, false, false, false, false, false, false, false, false, false]) (v := .bool true) rfl rfl rfl (by kernel_rfl) (by kernel_rfl) (by kernel_rfl) (Or.inl ⟨by rfl, ?_⟩) ?_
        · intro w9 hS
          go_simp
          exact ⟨rfl, hS⟩
        simp only [Act.put, List.setIfInBounds_toArray, List.set_cons_zero, List.set_cons_succ]
        refine det_take (i := 19) (d := some 104) (l' := #[true, true, true, true, true, true, true, true, true, true, true, true, true, true, true, true, true, true, true, true, false, false, false, false, false, false, false, false, false, false, false, false, false, false, false, false, false, false]) (v := .bool true) rfl rfl rfl (by kernel_rfl) (by kernel_rfl) (by kernel_rfl) (Or.inl ⟨by rfl, ?_⟩) ?_
        · intro w9 hS
          go_simp
          exact ⟨rfl, hS⟩
        simp only [Act.put, List.setIfInBounds_toArray, List.set_cons_zero, List.set_cons_succ]
        refine det_take (i := 20) (d := some 105) (l' := #[true, true, true, true, true, true, true, true, true, true, true, true, true, true, true, true, true, true, true, true, true, false, false, false, false, false, false, false, false, false, false, false, false, false, false, false, false, false]) (v := .int .i64 4) rfl rfl rfl (by kernel_rfl) (by kernel_rfl) (by kernel_rfl) (Or.inl ⟨by rfl, ?_⟩) ?_
        · intro w9 hS
          go_simp
          exact ⟨rfl, hS⟩
        simp only [Act.put, List.setIfInBounds_toArray, List.set_cons_zero, List.set_cons_succ]
        refine det_take (i := 21) (d := some 106) (l' := #[true, true, true, true, true, true, true, true, true, true, true, true, true, true, true, true, true, true, true, true, true, true, false, false, false, false, false, false, false, false, false, false, false, false, false, false, false, false]) (v := .bool true) rfl rfl rfl (by kernel_rfl) (by kernel_rfl) (by kernel_rfl) (Or.inl ⟨by rfl, ?_⟩) ?_
        · intro w9 hS
          go_simp
          first | exact ⟨rfl, hS⟩ | exact ⟨by simp, hS⟩
        simp only [Act.put, List.setIfInBounds_toArray, List.set_cons_zero, List.set_cons_succ]
        refine det_take (i := 22) (d := some 107) (l' := #[true, true, true, true, true, true, true, true, true, true, true, true, true, true, true, true, true, true, true, true, true, true, true, false, false, false, false, false, false, false, false, false, false, false, false, false, false, false]) (v := .bool true) rfl rfl rfl (by kernel_rfl) (by kernel_rfl) (by kernel_rfl) (Or.inl ⟨by rfl, ?_⟩) ?_
        · intro w9 hS
          go_simp
          exact ⟨rfl, hS⟩
        simp only [Act.put, List.setIfInBounds_toArray, List.set_cons_zero, List.set_cons_succ]
        refine det_take (i := 23) (d := some 108) (l' := #[true, true, true, true, true, true, true, true, true, true, true, true, true, true, true, true, true, true, true, true, true, true, true, true, false, false, false, false, false, false, false, false, false, false, false, false, false, false]) (v := undef) rfl rfl rfl (by kernel_rfl) (by kernel_rfl) (by kernel_rfl) (Or.inr ⟨by rfl, rfl⟩) ?_
        simp only [Act.put, List.setIfInBounds_toArray, List.set_cons_zero, List.set_cons_succ]
        refine det_take (i := 24) (d := some 109) (l' := #[true, true, true, true, true, true, true, true, true, true, true, true, true, true, true, true, true, true, true, true, true, true, true, true, true, false, false, false, false, false, false, false, false, false, false, false, false, false]) (v := undef) rfl rfl rfl (by kernel_rfl) (by kernel_rfl) (by kernel_rfl) (Or.inr ⟨by rfl, rfl⟩) ?_
        simp only [Act.put, List.setIfInBounds_toArray, List.set_cons_zero, List.set_cons_succ]
        refine det_take (i := 25) (d := some 110) (l' := #[true, true, true, true, true, true, true, true, true, true, true, true, true, true, true, true, true, true, true, true, true, true, true, true, true, true, false, false, false, false, false, false, false, false, false, false, false, false]) (v := undef) rfl rfl rfl (by kernel_rfl) (by kernel_rfl) (by kernel_rfl) (Or.inr ⟨by rfl, rfl⟩) ?_
        simp only [Act.put, List.setIfInBounds_toArray, List.set_cons_zero, List.set_cons_succ]
        refine det_take (i := 26) (d := some 111) (l' := #[true, true, true, true, true, true, true, true, true, true, true, true, true, true, true, true, true, true, true, true, true, true, true, true, true, true, true, false, false, false, false, false, false, false, false, false, false, false]) (v := undef) rfl rfl rfl (by kernel_rfl) (by kernel_rfl) (by kernel_rfl) (Or.inr ⟨by rfl, rfl⟩) ?_
        simp only [Act.put, List.setIfInBounds_toArray, List.set_cons_zero, List.set_cons_succ]
        refine det_take (i := 27) (d := some 112) (l' := #[true, true, true, true, true, true, true, true, true, true, true, true, true, true, true, true, true, true, true, true, true, true, true, true, true, true, true, true, false, false, false, false, false, false, false, false, false, false]) (v := .bool true) rfl rfl rfl (by kernel_rfl) (by kernel_rfl) (by kernel_rfl) (Or.inl ⟨by rfl, ?_⟩) ?_
        · intro w9 hS
          go_simp
          exact ⟨rfl, hS⟩
        simp only [Act.put, List.setIfInBounds_toArray, List.set_cons_zero, List.set_cons_succ]
        refine det_take (i := 28) (d := some 113) (l' := #[true, true, true, true, true, true, true, true, true, true, true, true, true, true, true, true, true, true, true, true, true, true, true, true, true, true, true, true, true, false, false, false, false, false, false, false, false, false]) (v := .bool true) rfl rfl rfl (by kernel_rfl) (by kernel_rfl) (by kernel_rfl) (Or.inl ⟨by rfl, ?_⟩) ?_
        · intro w9 hS
          go_simp
          exact ⟨rfl, hS⟩
        simp only [Act.put, List.setIfInBounds_toArray, List.set_cons_zero, List.set_cons_succ]
        refine det_take (i := 29) (d := some 114) (l' := #[true, true, true, true, true, true, true, true, true, true, true, true, true, true, true, true, true, true, true, true, true, true, true, true, true, true, true, true, true, true, false, false, false, false, false, false, false, false]) (v := .bool true) rfl rfl rfl (by kernel_rfl) (by kernel_rfl) (by kernel_rfl) (Or.inl ⟨by rfl, ?_⟩) ?_
        · intro w9 hS
          go_simp
          exact ⟨rfl, hS⟩
        simp only [Act.put, List.setIfInBounds_toArray, List.set_cons_zero, List.set_cons_succ]
        refine det_take (i := 30) (d := some 115) (l' := #[true, true, true, true, true, true, true, true, true, true, true, true, true, true, true, true, true, true, true, true, true, true, true, true, true, true, true, true, true, true, true, false, false, false, false, false, false, false]) (v := .int .i64 4) rfl rfl rfl (by kernel_rfl) (by kernel_rfl) (by kernel_rfl) (Or.inl ⟨by rfl, ?_⟩) ?_
        · intro w9 hS
          go_simp
          exact ⟨rfl, hS⟩
        simp only [Act.put, List.setIfInBounds_toArray, List.set_cons_zero, List.set_cons_succ]
        refine det_take (i := 31) (d := some 116) (l' := #[true, true, true, true, true, true, true, true, true, true, true, true, true, true, true, true, true, true, true, true, true, true, true, true, true, true, true, true, true, true, true, true, false, false, false, false, false, false]) (v := .bool true) rfl rfl rfl (by kernel_rfl) (by kernel_rfl) (by kernel_rfl) (Or.inl ⟨by rfl, ?_⟩) ?_
        · intro w9 hS
          go_simp
          first | exact ⟨rfl, hS⟩ | exact ⟨by simp, hS⟩
        simp only [Act.put, List.setIfInBounds_toArray, List.set_cons_zero, List.set_cons_succ]
        refine det_take (i := 32) (d := some 117) (l' := #[true, true, true, true, true, true, true, true, true, true, true, true, true, true, true, true, true, true, true, true, true, true, true, true, true, true, true, true, true, true, true, true, true, false, false, false, false, false]) (v := .bool true) rfl rfl rfl (by kernel_rfl) (by kernel_rfl) (by kernel_rfl) (Or.inl ⟨by rfl, ?_⟩) ?_
        · intro w9 hS
          go_simp
          exact ⟨rfl, hS⟩
        simp only [Act.put, List.setIfInBounds_toArray, List.set_cons_zero, List.set_cons_succ]
        refine det_take (i := 33) (d := some 118) (l' := #[true, true, true, true, true, true, true, true, true, true, true, true, true, true, true, true, true, true, true, true, true, true, true, true, true, true, true, true, true, true, true, true, true, true, false, false, false, false]) (v := undef) rfl rfl rfl (by kernel_rfl) (by kernel_rfl) (by kernel_rfl) (Or.inr ⟨by rfl, rfl⟩) ?_
        simp only [Act.put, List.setIfInBounds_toArray, List.set_cons_zero, List.set_cons_succ]
        refine det_take (i := 34) (d := some 119) (l' := #[true, true, true, true, true, true, true, true, true, true, true, true, true, true, true, true, true, true, true, true, true, true, true, true, true, true, true, true, true, true, true, true, true, true, true, false, false, false]) (v := undef) rfl rfl rfl (by kernel_rfl) (by kernel_rfl) (by kernel_rfl) (Or.inr ⟨by rfl, rfl⟩) ?_
        simp only [Act.put, List.setIfInBounds_toArray, List.set_cons_zero, List.set_cons_succ]
        refine det_take (i := 35) (d := some 120) (l' := #[true, true, true, true, true, true, true, true, true, true, true, true, true, true, true, true, true, true, true, true, true, true, true, true, true, true, true, true, true, true, true, true, true, true, true, true, false, false]) (v := .bool true) rfl rfl rfl (by kernel_rfl) (by kernel_rfl) (by kernel_rfl) (Or.inl ⟨by rfl, ?_⟩) ?_
        · intro w9 hS
          go_simp
          exact ⟨rfl, hS⟩
        simp only [Act.put, List.setIfInBounds_toArray, List.set_cons_zero, List.set_cons_succ]
        refine det_take (i := 36) (d := some 121) (l' := #[true, true, true, true, true, true, true, true, true, true, true, true, true, true, true, true, true, true, true, true, true, true, true, true, true, true, true, true, true, true, true, true, true, true, true, true, true, false]) (v := .bool true) rfl rfl rfl (by kernel_rfl) (by kernel_rfl) (by kernel_rfl) (Or.inl ⟨by rfl, ?_⟩) ?_
        · intro w9 hS
          go_simp
          exact ⟨rfl, hS⟩
        simp only [Act.put, List.setIfInBounds_toArray, List.set_cons_zero, List.set_cons_succ]
        refine det_take (i := 37) (d := some 6) (l' := #[true, true, true, true, true, true, true, true, true, true, true, true, true, true, true, true, true, true, true, true, true, true, true, true, true, true, true, true, true, true, true, true, true, true, true, true, true, true]) (v := .bool true) rfl rfl rfl (by kernel_rfl) (by kernel_rfl) (by kernel_rfl) (Or.inl ⟨by rfl, ?_⟩) ?_
        · intro w9 hS
          go_simp
          exact ⟨rfl, hS⟩
        simp only [Act.put, List.setIfInBounds_toArray, List.set_cons_zero, List.set_cons_succ]
        refine det_done (by kernel_rfl) ?_ _
        intro w42 hS
        have HF := Lib.hid hS.below
        clear hS HS9
        go_wp2_with fail
        go_ret
        exact Ret.of rfl HF.out
set_option maxRecDepth 100000 in
set_option maxHeartbeats 8000000 in
theorem back_long (x : CallR) (a : AnsR) (va : Value) (s : Bs) (w : World) (hE : Env w) (hA : PairsAt w va a.pairs) (hL : 9000 ≤ longN x) :
    Calls Tryz.prog 8 #[callV x, ansVV a va, .string (bs s)] w (Ret w (.bool true)) := by
  have hdL : decide (9000 ≤ longN x) = true := decide_eq_true hL
  have HD := Lib.hid hdL
  clear hL hdL
  have hna := hA.max
  have HS := Lib.hid (Bk0.new w x a va hE hA)
  obtain ⟨vA, vn, vc, rfl⟩ := slice_of hA
  clear hE hA
  go_enter Tryz.func8, Tryz.ntmps8
  unfold callV callCells ansVV ansCells
  go_wp2_with fail
  refine (works_any _ HS.out.env).mono ?_
  rintro e w1 ⟨rfl, hb1⟩
  have HS := Lib.hid (HS.out.step hb1)
  clear hb1
  have cx0 := HS.out.bx.cell 0
  have cx1 := HS.out.bx.cell 1
  have cx2 := HS.out.bx.cell 2
  have cx3 := HS.out.bx.cell 3
  have cx4 := HS.out.bx.cell 4
  have cx5 := HS.out.bx.cell 5
  have cx6 := HS.out.bx.cell 6
  simp only [callCells, List.getElem?_toArray, List.getElem?_cons_zero, List.getElem?_cons_succ] at cx0 cx1 cx2 cx3 cx4 cx5 cx6
  go_wp2_with fail
  refine (long_one x _ _ ?k2 ?k3 ?k4).mono ?_
  case k2 => exact Lib.cell_of_heap (heap_alloc_new _ _) 2
  case k3 => exact Lib.cell_of_heap (heap_alloc_new _ _) 3
  case k4 => exact Lib.cell_of_heap (heap_alloc_new _ _) 4
  rw [HD.out]
  rintro e w9 ⟨rfl, hb9⟩
  have HS := Lib.hid ((HS.out.step (below_new _ _)).step hb9)
  clear hb9 cx0 cx1 cx2 cx3 cx4 cx5 cx6
  go_wp2_with fail
  refine (works_any _ HS.out.env).mono ?_
  rintro e w8 ⟨rfl, hb8⟩
  have HF := Lib.hid (HS.out.step hb8).below
  clear hb8
  go_wp2_with fail
  go_ret
  exact Ret.of rfl HF.out
set_option maxRecDepth 100000 in
set_option maxHeartbeats 8000000 in
theorem back_wide (x : CallR) (a : AnsR) (va : Value) (s : Bs) (w : World) (hE : Env w) (hA : PairsAt w va a.pairs) (hL : ¬ 9000 ≤ longN x) (hw : wideF [a] = true) :
    Calls Tryz.prog 8 #[callV x, ansVV a va, .string (bs s)] w (Ret w (.bool true)) := by
  have hdL : decide (9000 ≤ longN x) = false := decide_eq_false hL
  have HD := Lib.hid hdL
  have HW := Lib.hid hw
  clear hL hdL hw
  have hna := hA.max
  have HS := Lib.hid (Bk0.new w x a va hE hA)
  obtain ⟨vA, vn, vc, rfl⟩ := slice_of hA
  clear hE hA
  go_enter Tryz.func8, Tryz.ntmps8
  unfold callV callCells ansVV ansCells
  go_wp2_with fail
  refine (works_any _ HS.out.env).mono ?_
  rintro e w1 ⟨rfl, hb1⟩
  have HS := Lib.hid (HS.out.step hb1)
  clear hb1
  have cx0 := HS.out.bx.cell 0
  have cx1 := HS.out.bx.cell 1
  have cx2 := HS.out.bx.cell 2
  have cx3 := HS.out.bx.cell 3
  have cx4 := HS.out.bx.cell 4
  have cx5 := HS.out.bx.cell 5
  have cx6 := HS.out.bx.cell 6
  simp only [callCells, List.getElem?_toArray, List.getElem?_cons_zero, List.getElem?_cons_succ] at cx0 cx1 cx2 cx3 cx4 cx5 cx6
  go_wp2_with fail
  refine (long_one x _ _ ?k2 ?k3 ?k4).mono ?_
  case k2 => exact Lib.cell_of_heap (heap_alloc_new _ _) 2
  case k3 => exact Lib.cell_of_heap (heap_alloc_new _ _) 3
  case k4 => exact Lib.cell_of_heap (heap_alloc_new _ _) 4
  rw [HD.out]
  rintro e w2 ⟨rfl, hb2⟩
  have HS := Lib.hid ((HS.out.step (below_new _ _)).step hb2)
  clear hb2 cx0 cx1 cx2 cx3 cx4 cx5 cx6
  have ca0 := HS.out.ba.cell 0
  have ca1 := HS.out.ba.cell 1
  have ca2 := HS.out.ba.cell 2
  have ca3 := HS.out.ba.cell 3
  simp only [ansCells, List.getElem?_toArray, List.getElem?_cons_zero, List.getElem?_cons_succ] at ca0 ca1 ca2 ca3
  go_wp2_with fail
  refine (wide_one a (.slice vA vn vc) _ _ hna (HS.out.step (below_new _ _)).pa ?kw).mono ?_
  case kw =>
    intro j
    exact Lib.cell_of_heap (heap_alloc_new _ _) j
  rw [HW.out]
  rintro e w9 ⟨rfl, hb9⟩
  have HS := Lib.hid ((HS.out.step (below_new _ _)).step hb9)
  clear hb9 ca0 ca1 ca2 ca3
  go_wp2_with fail
  refine (works_any _ HS.out.env).mono ?_
  rintro e w8 ⟨rfl, hb8⟩
  have HF := Lib.hid (HS.out.step hb8).below
  clear hb8
  go_wp2_with fail
  go_ret
  exact Ret.of rfl HF.out
set_option maxRecDepth 100000 in
set_option maxHeartbeats 8000000 in
theorem back_text (x : CallR) (a : AnsR) (va : Value) (s : Bs) (w : World) (hE : Env w) (hA : PairsAt w va a.pairs) (hL : ¬ 9000 ≤ longN x) (hw : wideF [a] = false) (hs : 9000 < s.length) :
    Calls Tryz.prog 8 #[callV x, ansVV a va, .string (bs s)] w (Ret w (.bool true)) := by
  have hdL : decide (9000 ≤ longN x) = false := decide_eq_false hL
  have HD := Lib.hid hdL
  have HW := Lib.hid hw
  clear hL hdL hw
  have hna := hA.max
  have HS := Lib.hid (Bk0.new w x a va hE hA)
  obtain ⟨vA, vn, vc, rfl⟩ := slice_of hA
  clear hE hA
  go_enter Tryz.func8, Tryz.ntmps8
  unfold callV callCells ansVV ansCells
  go_wp2_with fail
  refine (works_any _ HS.out.env).mono ?_
  rintro e w1 ⟨rfl, hb1⟩
  have HS := Lib.hid (HS.out.step hb1)
  clear hb1
  have cx0 := HS.out.bx.cell 0
  have cx1 := HS.out.bx.cell 1
  have cx2 := HS.out.bx.cell 2
  have cx3 := HS.out.bx.cell 3
  have cx4 := HS.out.bx.cell 4
  have cx5 := HS.out.bx.cell 5
  have cx6 := HS.out.bx.cell 6
  simp only [callCells, List.getElem?_toArray, List.getElem?_cons_zero, List.getElem?_cons_succ] at cx0 cx1 cx2 cx3 cx4 cx5 cx6
  go_wp2_with fail
  refine (long_one x _ _ ?k2 ?k3 ?k4).mono ?_
  case k2 => exact Lib.cell_of_heap (heap_alloc_new _ _) 2
  case k3 => exact Lib.cell_of_heap (heap_alloc_new _ _) 3
  case k4 => exact Lib.cell_of_heap (heap_alloc_new _ _) 4
  rw [HD.out]
  rintro e w2 ⟨rfl, hb2⟩
  have HS := Lib.hid ((HS.out.step (below_new _ _)).step hb2)
  clear hb2 cx0 cx1 cx2 cx3 cx4 cx5 cx6
  have ca0 := HS.out.ba.cell 0
  have ca1 := HS.out.ba.cell 1
  have ca2 := HS.out.ba.cell 2
  have ca3 := HS.out.ba.cell 3
  simp only [ansCells, List.getElem?_toArray, List.getElem?_cons_zero, List.getElem?_cons_succ] at ca0 ca1 ca2 ca3
  go_wp2_with fail
  refine (wide_one a (.slice vA vn vc) _ _ hna (HS.out.step (below_new _ _)).pa ?kw).mono ?_
  case kw =>
    intro j
    exact Lib.cell_of_heap (heap_alloc_new _ _) j
  rw [HW.out]
  rintro e w9 ⟨rfl, hb9⟩
  have HS := Lib.hid ((HS.out.step (below_new _ _)).step hb9)
  clear hb9 ca0 ca1 ca2 ca3
  go_wp2_with fail
  refine (works_any _ HS.out.env).mono ?_
  rintro e w8 ⟨rfl, hb8⟩
  have HF := Lib.hid (HS.out.step hb8).below
  clear hb8
  go_wp2_with fail
  go_ret
  exact Ret.of rfl HF.out
/-- The law CallBack. -/
theorem back_any (x : CallR) (a : AnsR) (va : Value) (s : Bs) (w : World) (hE : Env w) (hx : CallIn x) (ea : IsInt a.err) (hA : PairsAt w va a.pairs) :
    Calls Tryz.prog 8 #[callV x, ansVV a va, .string (bs s)] w (Ret w (.bool true)) := by
  by_cases hL : 9000 ≤ longN x
  · exact back_long x a va s w hE hA hL
  · cases hw : wideF [a] with
    | true => exact back_wide x a va s w hE hA hL hw
    | false =>
      by_cases hs : s.length ≤ 9000
      · exact back_main x a va s w hE hx ea hA hL hw hs
      · exact back_text x a va s w hE hA hL hw (by omega)
end Go.Proofs.YthhhdddojmkgnaaGreatDoor
