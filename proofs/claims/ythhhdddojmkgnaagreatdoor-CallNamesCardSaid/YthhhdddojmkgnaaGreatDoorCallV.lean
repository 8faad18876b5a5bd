/-
  call.Show.
-/
import Derived.Test.YthhhdddojmkgnaaGreatDoorCallL
import Derived.Deep.RegionHeld3
import Derived.Lib.ItoaLen
namespace Go.Proofs.YthhhdddojmkgnaaGreatDoor
open Go.RowKit

theorem Env.word {w : World} (h : Env w) (k : Nat) (hk : k < 10) : w.cell? ⟨0, k, none⟩ = some (.string (bs (wordF k))) := by
  refine h.words k _ ?_
  rw [wordF, List.getD_eq_getElem?_getD]
  rw [List.getElem?_eq_getElem (by simpa [wordL] using hk)]
  rfl

structure CallOk (x : CallR) : Prop where
  tx : IsInt x.tx
  lim : IsInt x.lim
  key : x.key.length ≤ 1000000000
  en : x.en.length ≤ 1000000000
  va : x.va.length ≤ 1000000000

/-- The call lies in its variable; new memory alone was made since. -/
def Boxed (w : World) (x : CallR) (W : World) : Prop := Below (w.heap.size + 1) (w.alloc (.cells (callCells x) 38)) W
theorem Boxed.step {w W W' : World} {x : CallR} (h : Boxed w x W) (hb : Below W.heap.size W W') : Boxed w x W' := Below.trans h (hb.mono (by have := Below.size h; simpa using this))
theorem Boxed.below {w W : World} {x : CallR} (h : Boxed w x W) : Below w.heap.size w W := ((Below.refl _ _).alloc (Nat.le_refl _) _).trans (Below.mono h (Nat.le_succ _))
theorem Boxed.env {w W : World} {x : CallR} (h : Boxed w x W) (hE : Env w) : Env W := hE.below h.below
theorem Boxed.cell {w W : World} {x : CallR} (h : Boxed w x W) (j : Nat) : W.cell? ⟨w.heap.size, j, none⟩ = (callCells x)[j]? := by
  rw [Below.cell h (p := ⟨w.heap.size, j, none⟩) (Nat.lt_succ_self _)]
  exact Lib.cell_of_heap (heap_alloc_new w _) j
theorem Boxed.drew {w W : World} {x : CallR} (h : Boxed w x W) : Boxed w x W.drew := Below.drew h
theorem hboxed {w W W' : World} {x : CallR} (h : Hid (Boxed w x W)) (hb : Below W.heap.size W W') : Hid (Boxed w x W') := Lib.hid (h.out.step hb)
theorem below_new (W : World) (o : Obj) : Below W.heap.size W (W.alloc o) := (Below.refl _ _).alloc (Nat.le_refl _) _
theorem rowAt_new (W : World) (ls : List Bs) (T : TypeId) : RowAt (W.alloc (.cells (ls.map strV).toArray T)) W.heap.size ls := by
  intro j x hj
  rw [Lib.cell_of_heap (heap_alloc_new W _)]
  simp [hj, strV]
theorem hbenv {w W : World} {x : CallR} (h : Hid (Boxed w x W)) (hE : Hid (Env w)) : Env W := h.out.env hE.out
theorem kcell {W W' : World} {a : Addr} {v : Value} (h : W.cell? a = some v) (hb : Below W.heap.size W W') : W'.cell? a = some v := by
  rw [hb.cell (World.block_lt_of_cell? W a h)]; exact h
theorem keep1 {w W W' : World} {x : CallR} {a1 : Addr} {v1 : Value} (h : W.cell? a1 = some v1 ∧ Hid (Boxed w x W)) (hb : Below W.heap.size W W') :
    W'.cell? a1 = some v1 ∧ Hid (Boxed w x W') := ⟨kcell h.1 hb, hboxed h.2 hb⟩
theorem keep2 {w W W' : World} {x : CallR} {a1 a2 : Addr} {v1 v2 : Value} (h : W.cell? a1 = some v1 ∧ W.cell? a2 = some v2 ∧ Hid (Boxed w x W)) (hb : Below W.heap.size W W') :
    W'.cell? a1 = some v1 ∧ W'.cell? a2 = some v2 ∧ Hid (Boxed w x W') := ⟨kcell h.1 hb, keep1 h.2 hb⟩
theorem keep3 {w W W' : World} {x : CallR} {a1 a2 a3 : Addr} {v1 v2 v3 : Value} (h : W.cell? a1 = some v1 ∧ W.cell? a2 = some v2 ∧ W.cell? a3 = some v3 ∧ Hid (Boxed w x W)) (hb : Below W.heap.size W W') :
    W'.cell? a1 = some v1 ∧ W'.cell? a2 = some v2 ∧ W'.cell? a3 = some v3 ∧ Hid (Boxed w x W') := ⟨kcell h.1 hb, keep2 h.2 hb⟩
theorem hexF_length (l : Bs) : (hexF l).length ≤ 2 * l.length + 1 := by
  rw [hexF]; split
  · simp
  · rw [hexL_length]; omega

theorem itoaLen (n : Int) (h : IsInt n) : (Lib.itoa n).length ≤ 21 := Lib.itoa_length_le n h.1 h.2
/-- No more than that long. -/
theorem join_length_le (ls : List Bs) (B : Nat) (h : ∀ x ∈ ls, x.length ≤ B) : (Lib.join ls [32]).length ≤ ls.length * (B + 1) := by
  cases ls with
  | nil => simp [Lib.join_nil]
  | cons x r =>
    rw [Lib.join_cons]
    have hr : ∀ r : List Bs, (∀ y ∈ r, y.length ≤ B) → (Lib.joinTail [32] r).length ≤ r.length * (B + 1) := by
      intro r
      induction r with
      | nil => simp [Lib.joinTail]
      | cons y s ih =>
        intro h
        have h1 := ih fun z hz => h z (by simp [hz])
        have h2 := h y (by simp)
        simp only [Lib.joinTail, List.map_cons, List.flatten_cons, List.length_append, List.length_cons, List.length_nil] at h1 ⊢
        rw [Nat.add_mul]
        omega
    have h1 := hr r fun y hy => h y (by simp [hy])
    have h2 := h x (by simp)
    simp only [List.length_append, List.length_cons]
    rw [Nat.add_mul]
    omega

theorem show_no (x : CallR) (w : World) (hm : mayF x = false) : Calls Tryz.prog 29 #[callV x] w (Ret w (.string (bs (showF x)))) := by
  have hmn : mayN x = 1 := by rw [mayN, hm]; rfl
  have hs : showF x = [] := by rw [showF, hm]; rfl
  obtain ⟨k, tx, key, en, va, lim, eng⟩ := x
  have hv : callV ⟨k, tx, key, en, va, lim, eng⟩ = .agg #[.int .u8 k, .int .i64 tx, .string (bs key), .string (bs en), .string (bs va), .int .i64 lim, .int .u8 eng] := rfl
  have hmy := fun wx => may_any ⟨k, tx, key, en, va, lim, eng⟩ wx
  rw [hmn] at hmy
  have Hmy := Lib.hid hmy
  clear hmn hmy hm
  rw [hv, hs]
  clear hv hs
  go_enter Tryz.func29, Tryz.ntmps29
  go_wp2_with fail
  refine (Hmy.out _).mono ?_
  rintro e w1 ⟨rfl, hb1⟩
  have HB1 := Lib.hid (((Below.refl w.heap.size w).alloc (Nat.le_refl _) _).trans (hb1.mono (by simp)))
  clear hb1
  go_wp2_with fail
  go_ret
  exact Ret.of rfl HB1.out

set_option maxHeartbeats 4000000 in
theorem show_1 (tx : Int) (key en va : Bs) (lim : Int) (eng : Nat) (w : World) (hE : Env w) (ho : CallOk ⟨1, tx, key, en, va, lim, eng⟩) (hm : mayF ⟨1, tx, key, en, va, lim, eng⟩ = true) :
    Calls Tryz.prog 29 #[callV ⟨1, tx, key, en, va, lim, eng⟩] w (Ret w (.string (bs (showF ⟨1, tx, key, en, va, lim, eng⟩)))) := by
  have hmn : mayN ⟨1, tx, key, en, va, lim, eng⟩ = 0 := by rw [mayN, hm]; rfl
  have hs : showF ⟨1, tx, key, en, va, lim, eng⟩ = wordF 1 := by rw [showF, hm]; exact Lib.join_one _ _
  have hv : callV ⟨1, tx, key, en, va, lim, eng⟩ = .agg #[.int .u8 1, .int .i64 tx, .string (bs key), .string (bs en), .string (bs va), .int .i64 lim, .int .u8 eng] := rfl
  have hmy := fun wx => may_any ⟨1, tx, key, en, va, lim, eng⟩ wx
  rw [hmn] at hmy
  have Hmy := Lib.hid hmy
  have HE := Lib.hid hE
  clear hmn hmy hE hm
  rw [hv, hs]
  clear hv hs
  have hlk : key.length ≤ 1000000000 := ho.key
  have hle : en.length ≤ 1000000000 := ho.en
  have hlv : va.length ≤ 1000000000 := ho.va
  go_enter Tryz.func29, Tryz.ntmps29
  go_wp2_with fail
  refine (Hmy.out _).mono ?_
  rintro e w1 ⟨rfl, hb1⟩
  have HX : Hid (Boxed w ⟨1, tx, key, en, va, lim, eng⟩ w1) := Lib.hid (by rw [World.size_alloc] at hb1; exact hb1)
  have c0 : w1.cell? ⟨w.heap.size, 0, none⟩ = some (.int .u8 1) := HX.out.cell 0
  have c1 : w1.cell? ⟨w.heap.size, 1, none⟩ = some (.int .i64 tx) := HX.out.cell 1
  have cw : w1.cell? ⟨0, 1, none⟩ = some (.string (bs (wordF 1))) := (HX.out.env HE.out).word 1 (by decide)
  have HXd := Lib.hid HX.out.drew
  have d0 : w1.drew.cell? ⟨w.heap.size, 0, none⟩ = some (.int .u8 1) := c0
  have d1 : w1.drew.cell? ⟨w.heap.size, 1, none⟩ = some (.int .i64 tx) := c1
  have dw : w1.drew.cell? ⟨0, 1, none⟩ = some (.string (bs (wordF 1))) := cw
  clear hb1
  go_wp2_with fail
  go_region_held3 (fun W => W.cell? ⟨w.heap.size, 0, none⟩ = some (.int .u8 1) ∧ W.cell? ⟨w.heap.size, 1, none⟩ = some (.int .i64 tx) ∧ W.cell? ⟨0, 1, none⟩ = some (.string (bs (wordF 1))) ∧ Hid (Boxed w ⟨1, tx, key, en, va, lim, eng⟩ W))
    (first | exact ⟨d0, d1, dw, HXd⟩ | exact keep3 ⟨d0, d1, dw, HXd⟩ hb)
    (first | (go_at_call 48; refine (itoa_any tx _ ho.tx (hbenv HXd HE)).mono ?_; rintro e w2 ⟨rfl, hb⟩))
  rename_i hh
  obtain ⟨c0, -, -, HY⟩ := hh
  rename_i w2 _
  clear cw hb HXd HX d0 d1 dw
  go_wp2_with (first | (go_at_call 19; refine (needs_f _ _ (by omega)).mono ?_; rintro e w' ⟨rfl, rfl⟩))
  go_ret
  exact Ret.of rfl HY.out.below

set_option maxHeartbeats 4000000 in
theorem show_2 (tx : Int) (key en va : Bs) (lim : Int) (eng : Nat) (w : World) (hE : Env w) (ho : CallOk ⟨2, tx, key, en, va, lim, eng⟩) (hm : mayF ⟨2, tx, key, en, va, lim, eng⟩ = true) :
    Calls Tryz.prog 29 #[callV ⟨2, tx, key, en, va, lim, eng⟩] w (Ret w (.string (bs (showF ⟨2, tx, key, en, va, lim, eng⟩)))) := by
  have hmn : mayN ⟨2, tx, key, en, va, lim, eng⟩ = 0 := by rw [mayN, hm]; rfl
  have hs : showF ⟨2, tx, key, en, va, lim, eng⟩ = Lib.join (wordF 2 :: [Lib.itoa tx, hexF key]) [32] := by rw [showF, hm]; rfl
  have hv : callV ⟨2, tx, key, en, va, lim, eng⟩ = .agg #[.int .u8 2, .int .i64 tx, .string (bs key), .string (bs en), .string (bs va), .int .i64 lim, .int .u8 eng] := rfl
  have hmy := fun wx => may_any ⟨2, tx, key, en, va, lim, eng⟩ wx
  rw [hmn] at hmy
  have Hmy := Lib.hid hmy
  have HE := Lib.hid hE
  clear hmn hmy hE hm
  rw [hv, hs]
  clear hv hs
  have hlk : key.length ≤ 1000000000 := ho.key
  have hle : en.length ≤ 1000000000 := ho.en
  have hlv : va.length ≤ 1000000000 := ho.va
  have hln : (Lib.join (wordF 2 :: [Lib.itoa tx, hexF key]) [32]).length ≤ 140737488355328 := by
    refine Nat.le_trans (join_length_le _ 2000000001 ?_) (by simp)
    intro y hy
    simp only [List.mem_cons, List.not_mem_nil, or_false] at hy
    rcases hy with rfl | rfl | rfl
    · decide
    · exact Nat.le_trans (itoaLen _ (by exact ho.tx)) (by decide)
    · exact Nat.le_trans (hexF_length _) (by omega)
  have Hln := Lib.hid hln
  clear hln
  go_enter Tryz.func29, Tryz.ntmps29
  go_wp2_with fail
  refine (Hmy.out _).mono ?_
  rintro e w1 ⟨rfl, hb1⟩
  have HX : Hid (Boxed w ⟨2, tx, key, en, va, lim, eng⟩ w1) := Lib.hid (by rw [World.size_alloc] at hb1; exact hb1)
  have c0 : w1.cell? ⟨w.heap.size, 0, none⟩ = some (.int .u8 2) := HX.out.cell 0
  have c1 : w1.cell? ⟨w.heap.size, 1, none⟩ = some (.int .i64 tx) := HX.out.cell 1
  have cw : w1.cell? ⟨0, 2, none⟩ = some (.string (bs (wordF 2))) := (HX.out.env HE.out).word 2 (by decide)
  have HXd := Lib.hid HX.out.drew
  have d0 : w1.drew.cell? ⟨w.heap.size, 0, none⟩ = some (.int .u8 2) := c0
  have d1 : w1.drew.cell? ⟨w.heap.size, 1, none⟩ = some (.int .i64 tx) := c1
  have dw : w1.drew.cell? ⟨0, 2, none⟩ = some (.string (bs (wordF 2))) := cw
  clear hb1
  go_wp2_with fail
  go_region_held3 (fun W => W.cell? ⟨w.heap.size, 0, none⟩ = some (.int .u8 2) ∧ W.cell? ⟨w.heap.size, 1, none⟩ = some (.int .i64 tx) ∧ W.cell? ⟨0, 2, none⟩ = some (.string (bs (wordF 2))) ∧ Hid (Boxed w ⟨2, tx, key, en, va, lim, eng⟩ W))
    (first | exact ⟨d0, d1, dw, HXd⟩ | exact keep3 ⟨d0, d1, dw, HXd⟩ hb)
    (first | (go_at_call 48; refine (itoa_any tx _ ho.tx (hbenv HXd HE)).mono ?_; rintro e w2 ⟨rfl, hb⟩))
  rename_i hh
  obtain ⟨c0, -, -, HY⟩ := hh
  rename_i w2 _
  clear cw hb HXd HX d0 d1 dw
  have c2 : w2.cell? ⟨w.heap.size, 2, none⟩ = some (.string (bs key)) := HY.out.cell 2
  go_wp2_with fail
  refine (hex_any _ _ (by omega)).mono ?_
  rintro e w3 ⟨rfl, hb⟩
  have HZ := hboxed HY hb
  clear hb
  go_wp2_with fail
  refine (line_grow (wordF 2) [Lib.itoa tx, hexF key] _ 2 _ (rowAt_new _ [Lib.itoa tx, hexF key] _) (by simp) (by simp) (by simp) (by simp) (by simp) Hln.out).mono ?_
  rintro e w4 ⟨rfl, hb⟩
  go_wp2_with fail
  go_ret
  exact Ret.of rfl (HZ.out.step (below_new _ _) |>.step hb).below

set_option maxHeartbeats 4000000 in
theorem show_3 (tx : Int) (key en va : Bs) (lim : Int) (eng : Nat) (w : World) (hE : Env w) (ho : CallOk ⟨3, tx, key, en, va, lim, eng⟩) (hm : mayF ⟨3, tx, key, en, va, lim, eng⟩ = true) :
    Calls Tryz.prog 29 #[callV ⟨3, tx, key, en, va, lim, eng⟩] w (Ret w (.string (bs (showF ⟨3, tx, key, en, va, lim, eng⟩)))) := by
  have hmn : mayN ⟨3, tx, key, en, va, lim, eng⟩ = 0 := by rw [mayN, hm]; rfl
  have hs : showF ⟨3, tx, key, en, va, lim, eng⟩ = Lib.join (wordF 3 :: [Lib.itoa tx, hexF key, hexF va]) [32] := by rw [showF, hm]; rfl
  have hv : callV ⟨3, tx, key, en, va, lim, eng⟩ = .agg #[.int .u8 3, .int .i64 tx, .string (bs key), .string (bs en), .string (bs va), .int .i64 lim, .int .u8 eng] := rfl
  have hmy := fun wx => may_any ⟨3, tx, key, en, va, lim, eng⟩ wx
  rw [hmn] at hmy
  have Hmy := Lib.hid hmy
  have HE := Lib.hid hE
  clear hmn hmy hE hm
  rw [hv, hs]
  clear hv hs
  have hlk : key.length ≤ 1000000000 := ho.key
  have hle : en.length ≤ 1000000000 := ho.en
  have hlv : va.length ≤ 1000000000 := ho.va
  have hln : (Lib.join (wordF 3 :: [Lib.itoa tx, hexF key, hexF va]) [32]).length ≤ 140737488355328 := by
    refine Nat.le_trans (join_length_le _ 2000000001 ?_) (by simp)
    intro y hy
    simp only [List.mem_cons, List.not_mem_nil, or_false] at hy
    rcases hy with rfl | rfl | rfl | rfl
    · decide
    · exact Nat.le_trans (itoaLen _ (by exact ho.tx)) (by decide)
    · exact Nat.le_trans (hexF_length _) (by omega)
    · exact Nat.le_trans (hexF_length _) (by omega)
  have Hln := Lib.hid hln
  clear hln
  go_enter Tryz.func29, Tryz.ntmps29
  go_wp2_with fail
  refine (Hmy.out _).mono ?_
  rintro e w1 ⟨rfl, hb1⟩
  have HX : Hid (Boxed w ⟨3, tx, key, en, va, lim, eng⟩ w1) := Lib.hid (by rw [World.size_alloc] at hb1; exact hb1)
  have c0 : w1.cell? ⟨w.heap.size, 0, none⟩ = some (.int .u8 3) := HX.out.cell 0
  have c1 : w1.cell? ⟨w.heap.size, 1, none⟩ = some (.int .i64 tx) := HX.out.cell 1
  have cw : w1.cell? ⟨0, 3, none⟩ = some (.string (bs (wordF 3))) := (HX.out.env HE.out).word 3 (by decide)
  have HXd := Lib.hid HX.out.drew
  have d0 : w1.drew.cell? ⟨w.heap.size, 0, none⟩ = some (.int .u8 3) := c0
  have d1 : w1.drew.cell? ⟨w.heap.size, 1, none⟩ = some (.int .i64 tx) := c1
  have dw : w1.drew.cell? ⟨0, 3, none⟩ = some (.string (bs (wordF 3))) := cw
  clear hb1
  go_wp2_with fail
  go_region_held3 (fun W => W.cell? ⟨w.heap.size, 0, none⟩ = some (.int .u8 3) ∧ W.cell? ⟨w.heap.size, 1, none⟩ = some (.int .i64 tx) ∧ W.cell? ⟨0, 3, none⟩ = some (.string (bs (wordF 3))) ∧ Hid (Boxed w ⟨3, tx, key, en, va, lim, eng⟩ W))
    (first | exact ⟨d0, d1, dw, HXd⟩ | exact keep3 ⟨d0, d1, dw, HXd⟩ hb)
    (first | (go_at_call 48; refine (itoa_any tx _ ho.tx (hbenv HXd HE)).mono ?_; rintro e w2 ⟨rfl, hb⟩))
  rename_i hh
  obtain ⟨c0, -, -, HY⟩ := hh
  rename_i w2 _
  clear cw hb HXd HX d0 d1 dw
  have c2 : w2.cell? ⟨w.heap.size, 2, none⟩ = some (.string (bs key)) := HY.out.cell 2
  have c4 : w2.cell? ⟨w.heap.size, 4, none⟩ = some (.string (bs va)) := HY.out.cell 4
  have HYd := Lib.hid HY.out.drew
  have d2 : w2.drew.cell? ⟨w.heap.size, 2, none⟩ = some (.string (bs key)) := c2
  have d4 : w2.drew.cell? ⟨w.heap.size, 4, none⟩ = some (.string (bs va)) := c4
  go_wp2_with fail
  go_region_held3 (fun W => W.cell? ⟨w.heap.size, 2, none⟩ = some (.string (bs key)) ∧ W.cell? ⟨w.heap.size, 4, none⟩ = some (.string (bs va)) ∧ Hid (Boxed w ⟨3, tx, key, en, va, lim, eng⟩ W))
    (first | exact ⟨d2, d4, HYd⟩ | exact keep2 ⟨d2, d4, HYd⟩ hb | exact keep2 (by assumption) hb | exact keep2 (by assumption) (below_new _ _))
    (first | (go_at_call 46; refine (hex_any _ _ (by omega)).mono ?_; rintro e w3 ⟨rfl, hb⟩) | (go_at_call 48; refine (itoa_any lim _ ho.lim (hbenv (And.right (And.right (And.right (by assumption)))) HE)).mono ?_; rintro e w4 ⟨rfl, hb⟩) | (go_at_call 47; refine (line_grow (wordF 3) [Lib.itoa tx, hexF key, hexF va] _ 3 _ (rowAt_new _ [Lib.itoa tx, hexF key, hexF va] _) (by simp) (by simp) (by simp) (by simp) (by simp) Hln.out).mono ?_; rintro e w9 ⟨rfl, hb⟩))
  rename_i hh
  obtain ⟨-, -, HZ⟩ := hh
  go_wp2_with fail
  go_ret
  exact Ret.of rfl HZ.out.below

set_option maxHeartbeats 4000000 in
theorem show_4 (tx : Int) (key en va : Bs) (lim : Int) (eng : Nat) (w : World) (hE : Env w) (ho : CallOk ⟨4, tx, key, en, va, lim, eng⟩) (hm : mayF ⟨4, tx, key, en, va, lim, eng⟩ = true) :
    Calls Tryz.prog 29 #[callV ⟨4, tx, key, en, va, lim, eng⟩] w (Ret w (.string (bs (showF ⟨4, tx, key, en, va, lim, eng⟩)))) := by
  have hmn : mayN ⟨4, tx, key, en, va, lim, eng⟩ = 0 := by rw [mayN, hm]; rfl
  have hs : showF ⟨4, tx, key, en, va, lim, eng⟩ = Lib.join (wordF 4 :: [Lib.itoa tx, hexF key]) [32] := by rw [showF, hm]; rfl
  have hv : callV ⟨4, tx, key, en, va, lim, eng⟩ = .agg #[.int .u8 4, .int .i64 tx, .string (bs key), .string (bs en), .string (bs va), .int .i64 lim, .int .u8 eng] := rfl
  have hmy := fun wx => may_any ⟨4, tx, key, en, va, lim, eng⟩ wx
  rw [hmn] at hmy
  have Hmy := Lib.hid hmy
  have HE := Lib.hid hE
  clear hmn hmy hE hm
  rw [hv, hs]
  clear hv hs
  have hlk : key.length ≤ 1000000000 := ho.key
  have hle : en.length ≤ 1000000000 := ho.en
  have hlv : va.length ≤ 1000000000 := ho.va
  have hln : (Lib.join (wordF 4 :: [Lib.itoa tx, hexF key]) [32]).length ≤ 140737488355328 := by
    refine Nat.le_trans (join_length_le _ 2000000001 ?_) (by simp)
    intro y hy
    simp only [List.mem_cons, List.not_mem_nil, or_false] at hy
    rcases hy with rfl | rfl | rfl
    · decide
    · exact Nat.le_trans (itoaLen _ (by exact ho.tx)) (by decide)
    · exact Nat.le_trans (hexF_length _) (by omega)
  have Hln := Lib.hid hln
  clear hln
  go_enter Tryz.func29, Tryz.ntmps29
  go_wp2_with fail
  refine (Hmy.out _).mono ?_
  rintro e w1 ⟨rfl, hb1⟩
  have HX : Hid (Boxed w ⟨4, tx, key, en, va, lim, eng⟩ w1) := Lib.hid (by rw [World.size_alloc] at hb1; exact hb1)
  have c0 : w1.cell? ⟨w.heap.size, 0, none⟩ = some (.int .u8 4) := HX.out.cell 0
  have c1 : w1.cell? ⟨w.heap.size, 1, none⟩ = some (.int .i64 tx) := HX.out.cell 1
  have cw : w1.cell? ⟨0, 4, none⟩ = some (.string (bs (wordF 4))) := (HX.out.env HE.out).word 4 (by decide)
  have HXd := Lib.hid HX.out.drew
  have d0 : w1.drew.cell? ⟨w.heap.size, 0, none⟩ = some (.int .u8 4) := c0
  have d1 : w1.drew.cell? ⟨w.heap.size, 1, none⟩ = some (.int .i64 tx) := c1
  have dw : w1.drew.cell? ⟨0, 4, none⟩ = some (.string (bs (wordF 4))) := cw
  clear hb1
  go_wp2_with fail
  go_region_held3 (fun W => W.cell? ⟨w.heap.size, 0, none⟩ = some (.int .u8 4) ∧ W.cell? ⟨w.heap.size, 1, none⟩ = some (.int .i64 tx) ∧ W.cell? ⟨0, 4, none⟩ = some (.string (bs (wordF 4))) ∧ Hid (Boxed w ⟨4, tx, key, en, va, lim, eng⟩ W))
    (first | exact ⟨d0, d1, dw, HXd⟩ | exact keep3 ⟨d0, d1, dw, HXd⟩ hb)
    (first | (go_at_call 48; refine (itoa_any tx _ ho.tx (hbenv HXd HE)).mono ?_; rintro e w2 ⟨rfl, hb⟩))
  rename_i hh
  obtain ⟨c0, -, -, HY⟩ := hh
  rename_i w2 _
  clear cw hb HXd HX d0 d1 dw
  have c2 : w2.cell? ⟨w.heap.size, 2, none⟩ = some (.string (bs key)) := HY.out.cell 2
  go_wp2_with fail
  refine (hex_any _ _ (by omega)).mono ?_
  rintro e w3 ⟨rfl, hb⟩
  have HZ := hboxed HY hb
  clear hb
  go_wp2_with fail
  refine (line_grow (wordF 4) [Lib.itoa tx, hexF key] _ 2 _ (rowAt_new _ [Lib.itoa tx, hexF key] _) (by simp) (by simp) (by simp) (by simp) (by simp) Hln.out).mono ?_
  rintro e w4 ⟨rfl, hb⟩
  go_wp2_with fail
  go_ret
  exact Ret.of rfl (HZ.out.step (below_new _ _) |>.step hb).below

set_option maxHeartbeats 4000000 in
theorem show_5 (tx : Int) (key en va : Bs) (lim : Int) (eng : Nat) (w : World) (hE : Env w) (ho : CallOk ⟨5, tx, key, en, va, lim, eng⟩) (hm : mayF ⟨5, tx, key, en, va, lim, eng⟩ = true) :
    Calls Tryz.prog 29 #[callV ⟨5, tx, key, en, va, lim, eng⟩] w (Ret w (.string (bs (showF ⟨5, tx, key, en, va, lim, eng⟩)))) := by
  have hmn : mayN ⟨5, tx, key, en, va, lim, eng⟩ = 0 := by rw [mayN, hm]; rfl
  have hs : showF ⟨5, tx, key, en, va, lim, eng⟩ = Lib.join (wordF 5 :: [Lib.itoa tx, hexF key, hexF en, Lib.itoa lim]) [32] := by rw [showF, hm]; rfl
  have hv : callV ⟨5, tx, key, en, va, lim, eng⟩ = .agg #[.int .u8 5, .int .i64 tx, .string (bs key), .string (bs en), .string (bs va), .int .i64 lim, .int .u8 eng] := rfl
  have hmy := fun wx => may_any ⟨5, tx, key, en, va, lim, eng⟩ wx
  rw [hmn] at hmy
  have Hmy := Lib.hid hmy
  have HE := Lib.hid hE
  clear hmn hmy hE hm
  rw [hv, hs]
  clear hv hs
  have hlk : key.length ≤ 1000000000 := ho.key
  have hle : en.length ≤ 1000000000 := ho.en
  have hlv : va.length ≤ 1000000000 := ho.va
  have hln : (Lib.join (wordF 5 :: [Lib.itoa tx, hexF key, hexF en, Lib.itoa lim]) [32]).length ≤ 140737488355328 := by
    refine Nat.le_trans (join_length_le _ 2000000001 ?_) (by simp)
    intro y hy
    simp only [List.mem_cons, List.not_mem_nil, or_false] at hy
    rcases hy with rfl | rfl | rfl | rfl | rfl
    · decide
    · exact Nat.le_trans (itoaLen _ (by exact ho.tx)) (by decide)
    · exact Nat.le_trans (hexF_length _) (by omega)
    · exact Nat.le_trans (hexF_length _) (by omega)
    · exact Nat.le_trans (itoaLen _ (by exact ho.lim)) (by decide)
  have Hln := Lib.hid hln
  clear hln
  go_enter Tryz.func29, Tryz.ntmps29
  go_wp2_with fail
  refine (Hmy.out _).mono ?_
  rintro e w1 ⟨rfl, hb1⟩
  have HX : Hid (Boxed w ⟨5, tx, key, en, va, lim, eng⟩ w1) := Lib.hid (by rw [World.size_alloc] at hb1; exact hb1)
  have c0 : w1.cell? ⟨w.heap.size, 0, none⟩ = some (.int .u8 5) := HX.out.cell 0
  have c1 : w1.cell? ⟨w.heap.size, 1, none⟩ = some (.int .i64 tx) := HX.out.cell 1
  have cw : w1.cell? ⟨0, 5, none⟩ = some (.string (bs (wordF 5))) := (HX.out.env HE.out).word 5 (by decide)
  have HXd := Lib.hid HX.out.drew
  have d0 : w1.drew.cell? ⟨w.heap.size, 0, none⟩ = some (.int .u8 5) := c0
  have d1 : w1.drew.cell? ⟨w.heap.size, 1, none⟩ = some (.int .i64 tx) := c1
  have dw : w1.drew.cell? ⟨0, 5, none⟩ = some (.string (bs (wordF 5))) := cw
  clear hb1
  go_wp2_with fail
  go_region_held3 (fun W => W.cell? ⟨w.heap.size, 0, none⟩ = some (.int .u8 5) ∧ W.cell? ⟨w.heap.size, 1, none⟩ = some (.int .i64 tx) ∧ W.cell? ⟨0, 5, none⟩ = some (.string (bs (wordF 5))) ∧ Hid (Boxed w ⟨5, tx, key, en, va, lim, eng⟩ W))
    (first | exact ⟨d0, d1, dw, HXd⟩ | exact keep3 ⟨d0, d1, dw, HXd⟩ hb)
    (first | (go_at_call 48; refine (itoa_any tx _ ho.tx (hbenv HXd HE)).mono ?_; rintro e w2 ⟨rfl, hb⟩))
  rename_i hh
  obtain ⟨c0, -, -, HY⟩ := hh
  rename_i w2 _
  clear cw hb HXd HX d0 d1 dw
  have c2 : w2.cell? ⟨w.heap.size, 2, none⟩ = some (.string (bs key)) := HY.out.cell 2
  have c3 : w2.cell? ⟨w.heap.size, 3, none⟩ = some (.string (bs en)) := HY.out.cell 3
  have c5 : w2.cell? ⟨w.heap.size, 5, none⟩ = some (.int .i64 lim) := HY.out.cell 5
  have HYd := Lib.hid HY.out.drew
  have d2 : w2.drew.cell? ⟨w.heap.size, 2, none⟩ = some (.string (bs key)) := c2
  have d3 : w2.drew.cell? ⟨w.heap.size, 3, none⟩ = some (.string (bs en)) := c3
  have d5 : w2.drew.cell? ⟨w.heap.size, 5, none⟩ = some (.int .i64 lim) := c5
  go_wp2_with fail
  go_region_held3 (fun W => W.cell? ⟨w.heap.size, 2, none⟩ = some (.string (bs key)) ∧ W.cell? ⟨w.heap.size, 3, none⟩ = some (.string (bs en)) ∧ W.cell? ⟨w.heap.size, 5, none⟩ = some (.int .i64 lim) ∧ Hid (Boxed w ⟨5, tx, key, en, va, lim, eng⟩ W))
    (first | exact ⟨d2, d3, d5, HYd⟩ | exact keep3 ⟨d2, d3, d5, HYd⟩ hb | exact keep3 (by assumption) hb | exact keep3 (by assumption) (below_new _ _))
    (first | (go_at_call 46; refine (hex_any _ _ (by omega)).mono ?_; rintro e w3 ⟨rfl, hb⟩) | (go_at_call 48; refine (itoa_any lim _ ho.lim (hbenv (And.right (And.right (And.right (by assumption)))) HE)).mono ?_; rintro e w4 ⟨rfl, hb⟩) | (go_at_call 47; refine (line_grow (wordF 5) [Lib.itoa tx, hexF key, hexF en, Lib.itoa lim] _ 4 _ (rowAt_new _ [Lib.itoa tx, hexF key, hexF en, Lib.itoa lim] _) (by simp) (by simp) (by simp) (by simp) (by simp) Hln.out).mono ?_; rintro e w9 ⟨rfl, hb⟩))
  rename_i hh
  obtain ⟨-, -, -, HZ⟩ := hh
  go_wp2_with fail
  go_ret
  exact Ret.of rfl HZ.out.below

set_option maxHeartbeats 4000000 in
theorem show_6 (tx : Int) (key en va : Bs) (lim : Int) (eng : Nat) (w : World) (hE : Env w) (ho : CallOk ⟨6, tx, key, en, va, lim, eng⟩) (hm : mayF ⟨6, tx, key, en, va, lim, eng⟩ = true) :
    Calls Tryz.prog 29 #[callV ⟨6, tx, key, en, va, lim, eng⟩] w (Ret w (.string (bs (showF ⟨6, tx, key, en, va, lim, eng⟩)))) := by
  have hmn : mayN ⟨6, tx, key, en, va, lim, eng⟩ = 0 := by rw [mayN, hm]; rfl
  have hs : showF ⟨6, tx, key, en, va, lim, eng⟩ = Lib.join (wordF 6 :: [Lib.itoa tx]) [32] := by rw [showF, hm]; rfl
  have hv : callV ⟨6, tx, key, en, va, lim, eng⟩ = .agg #[.int .u8 6, .int .i64 tx, .string (bs key), .string (bs en), .string (bs va), .int .i64 lim, .int .u8 eng] := rfl
  have hmy := fun wx => may_any ⟨6, tx, key, en, va, lim, eng⟩ wx
  rw [hmn] at hmy
  have Hmy := Lib.hid hmy
  have HE := Lib.hid hE
  clear hmn hmy hE hm
  rw [hv, hs]
  clear hv hs
  have hlk : key.length ≤ 1000000000 := ho.key
  have hle : en.length ≤ 1000000000 := ho.en
  have hlv : va.length ≤ 1000000000 := ho.va
  have hln : (Lib.join (wordF 6 :: [Lib.itoa tx]) [32]).length ≤ 140737488355328 := by
    refine Nat.le_trans (join_length_le _ 2000000001 ?_) (by simp)
    intro y hy
    simp only [List.mem_cons, List.not_mem_nil, or_false] at hy
    rcases hy with rfl | rfl
    · decide
    · exact Nat.le_trans (itoaLen _ (by exact ho.tx)) (by decide)
  have Hln := Lib.hid hln
  clear hln
  go_enter Tryz.func29, Tryz.ntmps29
  go_wp2_with fail
  refine (Hmy.out _).mono ?_
  rintro e w1 ⟨rfl, hb1⟩
  have HX : Hid (Boxed w ⟨6, tx, key, en, va, lim, eng⟩ w1) := Lib.hid (by rw [World.size_alloc] at hb1; exact hb1)
  have c0 : w1.cell? ⟨w.heap.size, 0, none⟩ = some (.int .u8 6) := HX.out.cell 0
  have c1 : w1.cell? ⟨w.heap.size, 1, none⟩ = some (.int .i64 tx) := HX.out.cell 1
  have cw : w1.cell? ⟨0, 6, none⟩ = some (.string (bs (wordF 6))) := (HX.out.env HE.out).word 6 (by decide)
  have HXd := Lib.hid HX.out.drew
  have d0 : w1.drew.cell? ⟨w.heap.size, 0, none⟩ = some (.int .u8 6) := c0
  have d1 : w1.drew.cell? ⟨w.heap.size, 1, none⟩ = some (.int .i64 tx) := c1
  have dw : w1.drew.cell? ⟨0, 6, none⟩ = some (.string (bs (wordF 6))) := cw
  clear hb1
  go_wp2_with fail
  go_region_held3 (fun W => W.cell? ⟨w.heap.size, 0, none⟩ = some (.int .u8 6) ∧ W.cell? ⟨w.heap.size, 1, none⟩ = some (.int .i64 tx) ∧ W.cell? ⟨0, 6, none⟩ = some (.string (bs (wordF 6))) ∧ Hid (Boxed w ⟨6, tx, key, en, va, lim, eng⟩ W))
    (first | exact ⟨d0, d1, dw, HXd⟩ | exact keep3 ⟨d0, d1, dw, HXd⟩ hb)
    (first | (go_at_call 48; refine (itoa_any tx _ ho.tx (hbenv HXd HE)).mono ?_; rintro e w2 ⟨rfl, hb⟩))
  rename_i hh
  obtain ⟨c0, -, -, HY⟩ := hh
  rename_i w2 _
  clear cw hb HXd HX d0 d1 dw
  go_wp2_with (first | (go_at_call 19; refine (needs_t _ _ (by omega) (by omega)).mono ?_; rintro e w' ⟨rfl, rfl⟩))
  refine (line_grow (wordF 6) [Lib.itoa tx] _ 1 _ (rowAt_new _ [Lib.itoa tx] _) (by simp) (by simp) (by simp) (by simp) (by simp) Hln.out).mono ?_
  rintro e w4 ⟨rfl, hb⟩
  go_wp2_with fail
  go_ret
  exact Ret.of rfl (HY.out.step (below_new _ _) |>.step hb).below

set_option maxHeartbeats 4000000 in
theorem show_7 (tx : Int) (key en va : Bs) (lim : Int) (eng : Nat) (w : World) (hE : Env w) (ho : CallOk ⟨7, tx, key, en, va, lim, eng⟩) (hm : mayF ⟨7, tx, key, en, va, lim, eng⟩ = true) :
    Calls Tryz.prog 29 #[callV ⟨7, tx, key, en, va, lim, eng⟩] w (Ret w (.string (bs (showF ⟨7, tx, key, en, va, lim, eng⟩)))) := by
  have hmn : mayN ⟨7, tx, key, en, va, lim, eng⟩ = 0 := by rw [mayN, hm]; rfl
  have hs : showF ⟨7, tx, key, en, va, lim, eng⟩ = Lib.join (wordF 7 :: [Lib.itoa tx]) [32] := by rw [showF, hm]; rfl
  have hv : callV ⟨7, tx, key, en, va, lim, eng⟩ = .agg #[.int .u8 7, .int .i64 tx, .string (bs key), .string (bs en), .string (bs va), .int .i64 lim, .int .u8 eng] := rfl
  have hmy := fun wx => may_any ⟨7, tx, key, en, va, lim, eng⟩ wx
  rw [hmn] at hmy
  have Hmy := Lib.hid hmy
  have HE := Lib.hid hE
  clear hmn hmy hE hm
  rw [hv, hs]
  clear hv hs
  have hlk : key.length ≤ 1000000000 := ho.key
  have hle : en.length ≤ 1000000000 := ho.en
  have hlv : va.length ≤ 1000000000 := ho.va
  have hln : (Lib.join (wordF 7 :: [Lib.itoa tx]) [32]).length ≤ 140737488355328 := by
    refine Nat.le_trans (join_length_le _ 2000000001 ?_) (by simp)
    intro y hy
    simp only [List.mem_cons, List.not_mem_nil, or_false] at hy
    rcases hy with rfl | rfl
    · decide
    · exact Nat.le_trans (itoaLen _ (by exact ho.tx)) (by decide)
  have Hln := Lib.hid hln
  clear hln
  go_enter Tryz.func29, Tryz.ntmps29
  go_wp2_with fail
  refine (Hmy.out _).mono ?_
  rintro e w1 ⟨rfl, hb1⟩
  have HX : Hid (Boxed w ⟨7, tx, key, en, va, lim, eng⟩ w1) := Lib.hid (by rw [World.size_alloc] at hb1; exact hb1)
  have c0 : w1.cell? ⟨w.heap.size, 0, none⟩ = some (.int .u8 7) := HX.out.cell 0
  have c1 : w1.cell? ⟨w.heap.size, 1, none⟩ = some (.int .i64 tx) := HX.out.cell 1
  have cw : w1.cell? ⟨0, 7, none⟩ = some (.string (bs (wordF 7))) := (HX.out.env HE.out).word 7 (by decide)
  have HXd := Lib.hid HX.out.drew
  have d0 : w1.drew.cell? ⟨w.heap.size, 0, none⟩ = some (.int .u8 7) := c0
  have d1 : w1.drew.cell? ⟨w.heap.size, 1, none⟩ = some (.int .i64 tx) := c1
  have dw : w1.drew.cell? ⟨0, 7, none⟩ = some (.string (bs (wordF 7))) := cw
  clear hb1
  go_wp2_with fail
  go_region_held3 (fun W => W.cell? ⟨w.heap.size, 0, none⟩ = some (.int .u8 7) ∧ W.cell? ⟨w.heap.size, 1, none⟩ = some (.int .i64 tx) ∧ W.cell? ⟨0, 7, none⟩ = some (.string (bs (wordF 7))) ∧ Hid (Boxed w ⟨7, tx, key, en, va, lim, eng⟩ W))
    (first | exact ⟨d0, d1, dw, HXd⟩ | exact keep3 ⟨d0, d1, dw, HXd⟩ hb)
    (first | (go_at_call 48; refine (itoa_any tx _ ho.tx (hbenv HXd HE)).mono ?_; rintro e w2 ⟨rfl, hb⟩))
  rename_i hh
  obtain ⟨c0, -, -, HY⟩ := hh
  rename_i w2 _
  clear cw hb HXd HX d0 d1 dw
  go_wp2_with (first | (go_at_call 19; refine (needs_t _ _ (by omega) (by omega)).mono ?_; rintro e w' ⟨rfl, rfl⟩))
  refine (line_grow (wordF 7) [Lib.itoa tx] _ 1 _ (rowAt_new _ [Lib.itoa tx] _) (by simp) (by simp) (by simp) (by simp) (by simp) Hln.out).mono ?_
  rintro e w4 ⟨rfl, hb⟩
  go_wp2_with fail
  go_ret
  exact Ret.of rfl (HY.out.step (below_new _ _) |>.step hb).below

set_option maxHeartbeats 4000000 in
theorem show_8 (tx : Int) (key en va : Bs) (lim : Int) (eng : Nat) (w : World) (hE : Env w) (ho : CallOk ⟨8, tx, key, en, va, lim, eng⟩) (hm : mayF ⟨8, tx, key, en, va, lim, eng⟩ = true) :
    Calls Tryz.prog 29 #[callV ⟨8, tx, key, en, va, lim, eng⟩] w (Ret w (.string (bs (showF ⟨8, tx, key, en, va, lim, eng⟩)))) := by
  have hmn : mayN ⟨8, tx, key, en, va, lim, eng⟩ = 0 := by rw [mayN, hm]; rfl
  have hs : showF ⟨8, tx, key, en, va, lim, eng⟩ = wordF 8 := by rw [showF, hm]; exact Lib.join_one _ _
  have hv : callV ⟨8, tx, key, en, va, lim, eng⟩ = .agg #[.int .u8 8, .int .i64 tx, .string (bs key), .string (bs en), .string (bs va), .int .i64 lim, .int .u8 eng] := rfl
  have hmy := fun wx => may_any ⟨8, tx, key, en, va, lim, eng⟩ wx
  rw [hmn] at hmy
  have Hmy := Lib.hid hmy
  have HE := Lib.hid hE
  clear hmn hmy hE hm
  rw [hv, hs]
  clear hv hs
  have hlk : key.length ≤ 1000000000 := ho.key
  have hle : en.length ≤ 1000000000 := ho.en
  have hlv : va.length ≤ 1000000000 := ho.va
  go_enter Tryz.func29, Tryz.ntmps29
  go_wp2_with fail
  refine (Hmy.out _).mono ?_
  rintro e w1 ⟨rfl, hb1⟩
  have HX : Hid (Boxed w ⟨8, tx, key, en, va, lim, eng⟩ w1) := Lib.hid (by rw [World.size_alloc] at hb1; exact hb1)
  have c0 : w1.cell? ⟨w.heap.size, 0, none⟩ = some (.int .u8 8) := HX.out.cell 0
  have c1 : w1.cell? ⟨w.heap.size, 1, none⟩ = some (.int .i64 tx) := HX.out.cell 1
  have cw : w1.cell? ⟨0, 8, none⟩ = some (.string (bs (wordF 8))) := (HX.out.env HE.out).word 8 (by decide)
  have HXd := Lib.hid HX.out.drew
  have d0 : w1.drew.cell? ⟨w.heap.size, 0, none⟩ = some (.int .u8 8) := c0
  have d1 : w1.drew.cell? ⟨w.heap.size, 1, none⟩ = some (.int .i64 tx) := c1
  have dw : w1.drew.cell? ⟨0, 8, none⟩ = some (.string (bs (wordF 8))) := cw
  clear hb1
  go_wp2_with fail
  go_region_held3 (fun W => W.cell? ⟨w.heap.size, 0, none⟩ = some (.int .u8 8) ∧ W.cell? ⟨w.heap.size, 1, none⟩ = some (.int .i64 tx) ∧ W.cell? ⟨0, 8, none⟩ = some (.string (bs (wordF 8))) ∧ Hid (Boxed w ⟨8, tx, key, en, va, lim, eng⟩ W))
    (first | exact ⟨d0, d1, dw, HXd⟩ | exact keep3 ⟨d0, d1, dw, HXd⟩ hb)
    (first | (go_at_call 48; refine (itoa_any tx _ ho.tx (hbenv HXd HE)).mono ?_; rintro e w2 ⟨rfl, hb⟩))
  rename_i hh
  obtain ⟨c0, -, -, HY⟩ := hh
  rename_i w2 _
  clear cw hb HXd HX d0 d1 dw
  go_wp2_with (first | (go_at_call 19; refine (needs_f _ _ (by omega)).mono ?_; rintro e w' ⟨rfl, rfl⟩))
  go_ret
  exact Ret.of rfl HY.out.below

set_option maxHeartbeats 4000000 in
theorem show_9 (tx : Int) (key en va : Bs) (lim : Int) (eng : Nat) (w : World) (hE : Env w) (ho : CallOk ⟨9, tx, key, en, va, lim, eng⟩) (hm : mayF ⟨9, tx, key, en, va, lim, eng⟩ = true) :
    Calls Tryz.prog 29 #[callV ⟨9, tx, key, en, va, lim, eng⟩] w (Ret w (.string (bs (showF ⟨9, tx, key, en, va, lim, eng⟩)))) := by
  have hmn : mayN ⟨9, tx, key, en, va, lim, eng⟩ = 0 := by rw [mayN, hm]; rfl
  have he : eng ≤ 2 := by simp [mayF] at hm; omega
  have hs : showF ⟨9, tx, key, en, va, lim, eng⟩ = Lib.join (wordF 9 :: [Lib.itoa eng]) [32] := by rw [showF, hm]; rfl
  have hv : callV ⟨9, tx, key, en, va, lim, eng⟩ = .agg #[.int .u8 9, .int .i64 tx, .string (bs key), .string (bs en), .string (bs va), .int .i64 lim, .int .u8 eng] := rfl
  have hmy := fun wx => may_any ⟨9, tx, key, en, va, lim, eng⟩ wx
  rw [hmn] at hmy
  have Hmy := Lib.hid hmy
  have HE := Lib.hid hE
  clear hmn hmy hE hm
  rw [hv, hs]
  clear hv hs
  have hlk : key.length ≤ 1000000000 := ho.key
  have hle : en.length ≤ 1000000000 := ho.en
  have hlv : va.length ≤ 1000000000 := ho.va
  have hln : (Lib.join (wordF 9 :: [Lib.itoa eng]) [32]).length ≤ 140737488355328 := by
    refine Nat.le_trans (join_length_le _ 2000000001 ?_) (by simp)
    intro y hy
    simp only [List.mem_cons, List.not_mem_nil, or_false] at hy
    rcases hy with rfl | rfl
    · decide
    · exact Nat.le_trans (itoaLen _ (by exact ⟨by omega, by omega⟩)) (by decide)
  have Hln := Lib.hid hln
  clear hln
  go_enter Tryz.func29, Tryz.ntmps29
  go_wp2_with fail
  refine (Hmy.out _).mono ?_
  rintro e w1 ⟨rfl, hb1⟩
  have HX : Hid (Boxed w ⟨9, tx, key, en, va, lim, eng⟩ w1) := Lib.hid (by rw [World.size_alloc] at hb1; exact hb1)
  have c0 : w1.cell? ⟨w.heap.size, 0, none⟩ = some (.int .u8 9) := HX.out.cell 0
  have c1 : w1.cell? ⟨w.heap.size, 1, none⟩ = some (.int .i64 tx) := HX.out.cell 1
  have cw : w1.cell? ⟨0, 9, none⟩ = some (.string (bs (wordF 9))) := (HX.out.env HE.out).word 9 (by decide)
  have HXd := Lib.hid HX.out.drew
  have d0 : w1.drew.cell? ⟨w.heap.size, 0, none⟩ = some (.int .u8 9) := c0
  have d1 : w1.drew.cell? ⟨w.heap.size, 1, none⟩ = some (.int .i64 tx) := c1
  have dw : w1.drew.cell? ⟨0, 9, none⟩ = some (.string (bs (wordF 9))) := cw
  clear hb1
  go_wp2_with fail
  go_region_held3 (fun W => W.cell? ⟨w.heap.size, 0, none⟩ = some (.int .u8 9) ∧ W.cell? ⟨w.heap.size, 1, none⟩ = some (.int .i64 tx) ∧ W.cell? ⟨0, 9, none⟩ = some (.string (bs (wordF 9))) ∧ Hid (Boxed w ⟨9, tx, key, en, va, lim, eng⟩ W))
    (first | exact ⟨d0, d1, dw, HXd⟩ | exact keep3 ⟨d0, d1, dw, HXd⟩ hb)
    (first | (go_at_call 48; refine (itoa_any tx _ ho.tx (hbenv HXd HE)).mono ?_; rintro e w2 ⟨rfl, hb⟩))
  rename_i hh
  obtain ⟨c0, -, -, HY⟩ := hh
  rename_i w2 _
  clear cw hb HXd HX d0 d1 dw
  have c6 : w2.cell? ⟨w.heap.size, 6, none⟩ = some (.int .u8 eng) := HY.out.cell 6
  go_wp2_with fail
  refine (itoa_any eng _ ⟨by omega, by omega⟩ (HY.out.env HE.out)).mono ?_
  rintro e w3 ⟨rfl, hb⟩
  have HZ := hboxed HY hb
  clear hb
  go_wp2_with fail
  refine (line_grow (wordF 9) [Lib.itoa eng] _ 1 _ (rowAt_new _ [Lib.itoa eng] _) (by simp) (by simp) (by simp) (by simp) (by simp) Hln.out).mono ?_
  rintro e w4 ⟨rfl, hb⟩
  go_wp2_with fail
  go_ret
  exact Ret.of rfl (HZ.out.step (below_new _ _) |>.step hb).below

/-- call.Show. -/
theorem show_any (x : CallR) (w : World) (hE : Env w) (ho : CallOk x) : Calls Tryz.prog 29 #[callV x] w (Ret w (.string (bs (showF x)))) := by
  cases hm : mayF x with
  | false => exact show_no x w hm
  | true =>
    obtain ⟨k, tx, key, en, va, lim, eng⟩ := x
    have hk : 1 ≤ k ∧ k ≤ 9 := by
      have := hm
      simp [mayF] at this
      omega
    obtain ⟨h1, h9⟩ := hk
    rcases (show k = 1 ∨ k = 2 ∨ k = 3 ∨ k = 4 ∨ k = 5 ∨ k = 6 ∨ k = 7 ∨ k = 8 ∨ k = 9 by omega) with rfl | rfl | rfl | rfl | rfl | rfl | rfl | rfl | rfl
    · exact show_1 tx key en va lim eng w hE ho hm
    · exact show_2 tx key en va lim eng w hE ho hm
    · exact show_3 tx key en va lim eng w hE ho hm
    · exact show_4 tx key en va lim eng w hE ho hm
    · exact show_5 tx key en va lim eng w hE ho hm
    · exact show_6 tx key en va lim eng w hE ho hm
    · exact show_7 tx key en va lim eng w hE ho hm
    · exact show_8 tx key en va lim eng w hE ho hm
    · exact show_9 tx key en va lim eng w hE ho hm
end Go.Proofs.YthhhdddojmkgnaaGreatDoor
