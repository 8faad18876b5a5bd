/-
  The law CallAnswers walked.
-/
import Derived.Test.YthhhdddojmkgnaaGreatDoorCallRj
import Derived.Test.YthhhdddojmkgnaaGreatDoorCallX
import Derived.Test.YthhhdddojmkgnaaGreatDoorCallD
namespace Go.Proofs.YthhhdddojmkgnaaGreatDoor
open Go.RowKit

theorem answers_same (a : AnsR) (va vb : Value) (w : World) (h : AnsOk a) (hA : PairsAt w va a.pairs) (hB : PairsAt w vb a.pairs) : Calls Tryz.prog 13 #[ansVV a va, ansVV a vb] w (Ret w (.bool true)) := by
  have := answers_val a a va vb w (by have := h.n; omega) hA hB
  rwa [(sameA_iff a a).2 rfl] at this

/-- The law's own argument, and what it rests on. -/
structure An0 (w0 : World) (a : AnsR) (v : Value) (W : World) : Prop where
  box : Below (w0.heap.size + 1) (w0.alloc (.cells (ansCells a v) 25)) W
  env0 : Env w0
  pa0 : PairsAt w0 v a.pairs
theorem An0.below {w0 : World} {a : AnsR} {v : Value} {W : World} (h : An0 w0 a v W) : Below w0.heap.size w0 W := (below_new w0 _).trans (h.box.mono (Nat.le_succ _))
theorem An0.env {w0 : World} {a : AnsR} {v : Value} {W : World} (h : An0 w0 a v W) : Env W := h.env0.below h.below
theorem An0.pa {w0 : World} {a : AnsR} {v : Value} {W : World} (h : An0 w0 a v W) : PairsAt W v a.pairs := h.pa0.below h.below
theorem An0.size {w0 : World} {a : AnsR} {v : Value} {W : World} (h : An0 w0 a v W) : w0.heap.size + 1 ≤ W.heap.size := by have := h.box.size; simpa using this
theorem An0.ba {w0 : World} {a : AnsR} {v : Value} {W : World} (h : An0 w0 a v W) : Blk W w0.heap.size (ansCells a v) 25 := by
  have := Blk.new w0 (ansCells a v) 25
  unfold Blk
  rw [h.box.block _ (Nat.lt_succ_self _)]
  exact this
theorem An0.step {w0 : World} {a : AnsR} {v : Value} {W W' : World} (h : An0 w0 a v W) (hb : Below W.heap.size W W') : An0 w0 a v W' := ⟨h.box.trans (hb.mono h.size), h.env0, h.pa0⟩

/-- What stands while CallAnswers compares. -/
structure AnS (w0 : World) (a : AnsR) (v : Value) (z : AnsR) (p q base : Nat) (vx vy : Value) (W : World) : Prop where
  an : An0 w0 a v W
  bx : Blk W p (ansCells z vx) 25
  by_ : Blk W q (ansCells z vy) 25
  ox : W.ownsRow base 33 2 vx z.pairs.length (pairCells z.pairs)
  py : PairsAt W vy z.pairs
theorem AnS.step {w0 : World} {a : AnsR} {v : Value} {z : AnsR} {p q base : Nat} {vx vy : Value} {W W' : World} (h : AnS w0 a v z p q base vx vy W) (hb : Below W.heap.size W W') : AnS w0 a v z p q base vx vy W' :=
  ⟨h.an.step hb, h.bx.below hb, h.by_.below hb, row_below h.ox hb, h.py.below hb⟩
theorem AnS.drew {w0 : World} {a : AnsR} {v : Value} {z : AnsR} {p q base : Nat} {vx vy : Value} {W : World} (h : AnS w0 a v z p q base vx vy W) : AnS w0 a v z p q base vx vy W.drew := h.step (Below.refl W.heap.size W).drew
theorem AnS.env {w0 : World} {a : AnsR} {v : Value} {z : AnsR} {p q base : Nat} {vx vy : Value} {W : World} (h : AnS w0 a v z p q base vx vy W) : Env W := h.an.env
theorem AnS.pa {w0 : World} {a : AnsR} {v : Value} {z : AnsR} {p q base : Nat} {vx vy : Value} {W : World} (h : AnS w0 a v z p q base vx vy W) : PairsAt W v a.pairs := h.an.pa
theorem AnS.ba {w0 : World} {a : AnsR} {v : Value} {z : AnsR} {p q base : Nat} {vx vy : Value} {W : World} (h : AnS w0 a v z p q base vx vy W) : Blk W w0.heap.size (ansCells a v) 25 := h.an.ba
theorem AnS.px {w0 : World} {a : AnsR} {v : Value} {z : AnsR} {p q base : Nat} {vx vy : Value} {W : World} (h : AnS w0 a v z p q base vx vy W) : PairsAt W vx z.pairs := pairs_of_row h.ox

/-- While the answer read is spoilt: its variable, its row's block. -/
structure AnP (w0 : World) (a : AnsR) (v : Value) (z : AnsR) (p : Nat) (A : Option Addr) (n c : Nat) (W : World) : Prop where
  an : An0 w0 a v W
  bx : Blk W p (ansCells z (.slice A n c)) 25
  row : ∀ k, k < n → ∃ g cur, A = some ⟨g, 0, none⟩ ∧ w0.heap.size + 1 ≤ g ∧ g ≠ p ∧ W.heap[g]? = some (.cells cur 33 (0, 0)) ∧ n * 2 ≤ cur.size
theorem AnS.spoil {w0 : World} {a : AnsR} {v : Value} {z : AnsR} {p q base : Nat} {vx vy : Value} {W : World} (h : AnS w0 a v z p q base vx vy W) (hb : w0.heap.size + 1 ≤ base) : ∃ A c, vx = .slice A z.pairs.length c ∧ AnP w0 a v z p A z.pairs.length c W := by
  rcases h.ox.2 with ⟨e, h0⟩ | ⟨g, cap, cur, e, hg, hh, hn, hm, hs, ht⟩
  · exact ⟨none, 0, by rw [e, h0], h.an, by rw [h0, ← e]; exact h.bx, fun k hk => by omega⟩
  · refine ⟨_, cap, e, h.an, by rw [← e]; exact h.bx, fun k hk => ⟨g, cur, rfl, by omega, fun e2 => ?_, hh, by omega⟩⟩
    rw [e2] at hh
    have h3 := Option.some.inj (hh.symm.trans h.bx)
    injection h3 with _ h4 _
    exact absurd h4 (by decide)
theorem AnP.put {w0 : World} {a : AnsR} {v : Value} {z : AnsR} {p : Nat} {A : Option Addr} {n c : Nat} {W : World} (h : AnP w0 a v z p A n c W) {g : Nat} (hA : A = some ⟨g, 0, none⟩) (h1 : w0.heap.size + 1 ≤ g) (h2 : g ≠ p) (j : Nat) (u : Value) : AnP w0 a v z p A n c (W.setCell ⟨g, j, none⟩ u) := by
  refine ⟨⟨h.an.box.setCell (by exact h1) _, h.an.env0, h.an.pa0⟩, h.bx.set_other _ _ (Ne.symm h2), fun k hk => ?_⟩
  obtain ⟨g', cur, e, a1, a2, a3, a4⟩ := h.row k hk
  rw [hA] at e
  simp only [Option.some.injEq, Addr.mk.injEq, and_true] at e
  subst e
  refine ⟨g, cur.setIfInBounds j u, hA, a1, a2, ?_, by simpa using a4⟩
  simp [World.setCell, Array.getElem?_modify, a3]

set_option maxRecDepth 100000 in
set_option maxHeartbeats 16000000 in
theorem answers_main (a : AnsR) (v : Value) (s : Bs) (w : World) (hE : Env w) (he : IsInt a.err) (hP : PairsAt w v a.pairs) (hw : wideF [a] = false) (hs : s.length ≤ 9000) :
    Calls Tryz.prog 3 #[ansVV a v, .string (bs s)] w (Ret w (.bool true)) := by
  have hn := hP.max
  have HA := Lib.hid (wide_ok hw (fun x hx => by simp at hx; subst hx; exact he) a (by simp))
  have HOz := Lib.hid (ra_n s (by omega))
  have HW := Lib.hid hw
  have HE := Lib.hid hE
  have HP := Lib.hid hP
  obtain ⟨vA, vn, vc, rfl⟩ : ∃ vA vn vc, v = .slice vA vn vc := by
    obtain ⟨A, c, h, _⟩ := hP
    exact ⟨_, _, _, h⟩
  obtain ⟨v, hv⟩ : ∃ v, v = Value.slice vA vn vc := ⟨_, rfl⟩
  clear hw hE hP he
  go_enter Tryz.func3, Tryz.ntmps3
  unfold ansVV ansCells
  go_wp2_with fail
  rw [← hv] at HP ⊢
  clear hv
  have hz0 : (w.alloc (.cells (ansCells a v) 25)).heap.size = w.heap.size + 1 := by simp
  have HN := Lib.hid (An0.mk (w0 := w) (a := a) (v := v) (W := (w.alloc (.cells (ansCells a v) 25)).alloc (.cells (ansCells a v) 25)) ((Below.refl _ _).alloc (by simp) _) HE.out HP.out)
  refine (wide_one a v (w.heap.size + 1) _ hn HN.out.pa ?k1).mono ?_
  case k1 =>
    intro j
    rw [← hz0]
    exact Lib.cell_of_heap (heap_alloc_new _ _) j
  rw [HW.out]
  rintro e w1 ⟨rfl, hb1⟩
  have HN1 := Lib.hid (HN.out.step hb1)
  clear hb1 HN hz0
  go_wp2_with fail
  go_loopw [5] (fun i wr => ∃ k : Nat, k ≤ 2 ∧ i = .int .i64 k ∧ Hid (An0 w a v wr)) (fun i _ => 2 - (intOf i).toNat)
  case atStart => exact ⟨0, by omega, rfl, HN1⟩
  case round =>
    obtain ⟨k, hk, rfl, HR⟩ := hrel
    clear HN1
    obtain ⟨wo, rfl⟩ : ∃ wo : World, wo = wr := ⟨_, rfl⟩
    by_cases hlt : k < 2
    · go_wp2_with fail
      refine (read_val s _ HR.out.env (by omega)).mono ?_
      rintro e w2 ⟨vx, rfl, hox, hb2⟩
      obtain ⟨xA, xn, xc, rfl⟩ : ∃ xA xn xc, vx = .slice xA xn xc := by
        rcases hox.2 with ⟨h, _⟩ | ⟨_, _, _, h, _⟩
        · exact ⟨_, _, _, h⟩
        · exact ⟨_, _, _, h⟩
      have hsz := HR.out.size
      have hbase : w.heap.size + 1 ≤ wo.heap.size := hsz
      have HN2 := Lib.hid (HR.out.step hb2)
      have HOX := Lib.hid hox
      clear hox hb2 hsz HR
      unfold ansVV ansCells
      go_wp2_with fail
      have hz2 := HN2.out.size
      have HN3 := Lib.hid (HN2.out.step (below_new w2 (.cells (ansCells (ra s) (.slice xA xn xc)) 25)))
      have HBX := Lib.hid (Blk.new w2 (ansCells (ra s) (.slice xA xn xc)) 25)
      have HOX := Lib.hid (HOX.out.alloc (.cells (ansCells (ra s) (.slice xA xn xc)) 25))
      refine (refRead_val s _ (by omega)).mono ?_
      rintro e w3 ⟨vy, rfl, hpy, hb3⟩
      obtain ⟨yA, yn, yc, rfl⟩ : ∃ yA yn yc, vy = .slice yA yn yc := by
        obtain ⟨A, c, h, _⟩ := hpy
        exact ⟨_, _, _, h⟩
      have HS : Hid (AnS w a v (ra s) w2.heap.size w3.heap.size wo.heap.size (.slice xA xn xc) (.slice yA yn yc) (w3.alloc (.cells (ansCells (ra s) (.slice yA yn yc)) 25))) := Lib.hid
        ⟨(HN3.out.step hb3).step (below_new _ _), (HBX.out.below hb3).alloc _, Blk.new _ _ _, (row_below HOX.out hb3).alloc _, hpy.below (below_new _ _)⟩
      clear hpy hb3 HN3 HBX HOX HN2
      unfold ansVV ansCells
      go_wp2_with fail
      refine det_start (n := 16) (l := #[false, false, false, false, false, false, false, false, false, false, false, false, false, false, false, false]) (S := AnS w a v (ra s) w2.heap.size w3.heap.size wo.heap.size (.slice xA xn xc) (.slice yA yn yc)) (by kernel_rfl) (by rfl) (by rfl) HS.out.drew ?_
      refine det_take (i := 0) (d := some 34) (l' := #[true, false, false, false, false, false, false, false, false, false, false, false, false, false, false, false]) (v := .int .i64 (re s)) rfl rfl rfl (by kernel_rfl) (by kernel_rfl) (by kernel_rfl) (Or.inl ⟨by rfl, ?_⟩) ?_
      · intro w9 hS
        go_simp
        exact ⟨rfl, hS⟩
      simp only [Act.put, List.setIfInBounds_toArray, List.set_cons_zero, List.set_cons_succ]
      refine det_take (i := 1) (d := some 35) (l' := #[true, true, false, false, false, false, false, false, false, false, false, false, false, false, false, false]) (v := .int .i64 (re s)) rfl rfl rfl (by kernel_rfl) (by kernel_rfl) (by kernel_rfl) (Or.inl ⟨by rfl, ?_⟩) ?_
      · intro w9 hS
        go_simp
        exact ⟨rfl, hS⟩
      simp only [Act.put, List.setIfInBounds_toArray, List.set_cons_zero, List.set_cons_succ]
      refine det_take (i := 2) (d := some 36) (l' := #[true, true, true, false, false, false, false, false, false, false, false, false, false, false, false, false]) (v := .bool false) rfl rfl rfl (by kernel_rfl) (by kernel_rfl) (by kernel_rfl) (Or.inl ⟨by rfl, ?_⟩) ?_
      · intro w9 hS
        go_simp
        first | exact ⟨rfl, hS⟩ | exact ⟨by simp, hS⟩
      simp only [Act.put, List.setIfInBounds_toArray, List.set_cons_zero, List.set_cons_succ]
      refine det_take (i := 3) (d := some 37) (l' := #[true, true, true, true, false, false, false, false, false, false, false, false, false, false, false, false]) (v := .bool false) rfl rfl rfl (by kernel_rfl) (by kernel_rfl) (by kernel_rfl) (Or.inl ⟨by rfl, ?_⟩) ?_
      · intro w9 hS
        go_simp
        exact ⟨rfl, hS⟩
      simp only [Act.put, List.setIfInBounds_toArray, List.set_cons_zero, List.set_cons_succ]
      refine det_take (i := 4) (d := some 38) (l' := #[true, true, true, true, true, false, false, false, false, false, false, false, false, false, false, false]) (v := .agg (ansCells (ra s) (.slice xA xn xc))) rfl rfl rfl (by kernel_rfl) (by kernel_rfl) (by kernel_rfl) (Or.inl ⟨by rfl, ?_⟩) ?_
      · intro w9 hS
        have l0 := hS.bx.cell 0
        have l1 := hS.bx.cell 1
        have l2 := hS.bx.cell 2
        have l3 := hS.bx.cell 3
        simp only [ansCells, List.getElem?_toArray, List.getElem?_cons_zero, List.getElem?_cons_succ] at l0 l1 l2 l3
        go_simp
        exact ⟨rfl, hS⟩
      simp only [Act.put, List.setIfInBounds_toArray, List.set_cons_zero, List.set_cons_succ]
      refine det_take (i := 5) (d := some 39) (l' := #[true, true, true, true, true, true, false, false, false, false, false, false, false, false, false, false]) (v := .agg (ansCells (ra s) (.slice yA yn yc))) rfl rfl rfl (by kernel_rfl) (by kernel_rfl) (by kernel_rfl) (Or.inl ⟨by rfl, ?_⟩) ?_
      · intro w9 hS
        have l0 := hS.by_.cell 0
        have l1 := hS.by_.cell 1
        have l2 := hS.by_.cell 2
        have l3 := hS.by_.cell 3
        simp only [ansCells, List.getElem?_toArray, List.getElem?_cons_zero, List.getElem?_cons_succ] at l0 l1 l2 l3
        go_simp
        exact ⟨rfl, hS⟩
      simp only [Act.put, List.setIfInBounds_toArray, List.set_cons_zero, List.set_cons_succ]
      refine det_take (i := 6) (d := some 40) (l' := #[true, true, true, true, true, true, true, false, false, false, false, false, false, false, false, false]) (v := .bool true) rfl rfl rfl (by kernel_rfl) (by kernel_rfl) (by kernel_rfl) (Or.inl ⟨by rfl, ?_⟩) ?_
      · intro w9 hS
        go_simp
        refine Calls.mono (answers_same (ra s) _ _ _ HOz.out hS.px hS.py) ?_
        rintro e w8 ⟨rfl, hb⟩
        exact ⟨rfl, hS.step hb⟩
      simp only [Act.put, List.setIfInBounds_toArray, List.set_cons_zero, List.set_cons_succ]
      refine det_take (i := 7) (d := some 41) (l' := #[true, true, true, true, true, true, true, true, false, false, false, false, false, false, false, false]) (v := .bool false) rfl rfl rfl (by kernel_rfl) (by kernel_rfl) (by kernel_rfl) (Or.inl ⟨by rfl, ?_⟩) ?_
      · intro w9 hS
        go_simp
        first | exact ⟨rfl, hS⟩ | exact ⟨by simp, hS⟩
      simp only [Act.put, List.setIfInBounds_toArray, List.set_cons_zero, List.set_cons_succ]
      refine det_take (i := 8) (d := some 42) (l' := #[true, true, true, true, true, true, true, true, true, false, false, false, false, false, false, false]) (v := .bool false) rfl rfl rfl (by kernel_rfl) (by kernel_rfl) (by kernel_rfl) (Or.inl ⟨by rfl, ?_⟩) ?_
      · intro w9 hS
        go_simp
        first | exact ⟨rfl, hS⟩ | exact ⟨by simp, hS⟩
      simp only [Act.put, List.setIfInBounds_toArray, List.set_cons_zero, List.set_cons_succ]
      refine det_take (i := 9) (d := some 43) (l' := #[true, true, true, true, true, true, true, true, true, true, false, false, false, false, false, false]) (v := .bool false) rfl rfl rfl (by kernel_rfl) (by kernel_rfl) (by kernel_rfl) (Or.inl ⟨by rfl, ?_⟩) ?_
      · intro w9 hS
        go_simp
        exact ⟨rfl, hS⟩
      simp only [Act.put, List.setIfInBounds_toArray, List.set_cons_zero, List.set_cons_succ]
      refine det_take (i := 10) (d := some 44) (l' := #[true, true, true, true, true, true, true, true, true, true, true, false, false, false, false, false]) (v := .agg (ansCells a v)) rfl rfl rfl (by kernel_rfl) (by kernel_rfl) (by kernel_rfl) (Or.inl ⟨by rfl, ?_⟩) ?_
      · intro w9 hS
        have l0 := hS.ba.cell 0
        have l1 := hS.ba.cell 1
        have l2 := hS.ba.cell 2
        have l3 := hS.ba.cell 3
        simp only [ansCells, List.getElem?_toArray, List.getElem?_cons_zero, List.getElem?_cons_succ] at l0 l1 l2 l3
        go_simp
        exact ⟨rfl, hS⟩
      simp only [Act.put, List.setIfInBounds_toArray, List.set_cons_zero, List.set_cons_succ]
      refine det_take (i := 11) (d := some 45) (l' := #[true, true, true, true, true, true, true, true, true, true, true, true, false, false, false, false]) (v := .string (bs (tellF a))) rfl rfl rfl (by kernel_rfl) (by kernel_rfl) (by kernel_rfl) (Or.inl ⟨by rfl, ?_⟩) ?_
      · intro w9 hS
        go_simp
        refine Calls.mono (tell_any a v _ hS.env HA.out hS.pa) ?_
        rintro e w8 ⟨rfl, hb⟩
        exact ⟨rfl, hS.step hb⟩
      simp only [Act.put, List.setIfInBounds_toArray, List.set_cons_zero, List.set_cons_succ]
      refine det_take (i := 12) (d := some 46) (l' := #[true, true, true, true, true, true, true, true, true, true, true, true, true, false, false, false]) (v := .agg (ansCells a v)) rfl rfl rfl (by kernel_rfl) (by kernel_rfl) (by kernel_rfl) (Or.inl ⟨by rfl, ?_⟩) ?_
      · intro w9 hS
        have l0 := hS.ba.cell 0
        have l1 := hS.ba.cell 1
        have l2 := hS.ba.cell 2
        have l3 := hS.ba.cell 3
        simp only [ansCells, List.getElem?_toArray, List.getElem?_cons_zero, List.getElem?_cons_succ] at l0 l1 l2 l3
        go_simp
        exact ⟨rfl, hS⟩
      simp only [Act.put, List.setIfInBounds_toArray, List.set_cons_zero, List.set_cons_succ]
      refine det_take (i := 13) (d := some 47) (l' := #[true, true, true, true, true, true, true, true, true, true, true, true, true, true, false, false]) (v := .string (bs (tellF a))) rfl rfl rfl (by kernel_rfl) (by kernel_rfl) (by kernel_rfl) (Or.inl ⟨by rfl, ?_⟩) ?_
      · intro w9 hS
        go_simp
        refine Calls.mono (refTell_val a v _ HA.out hS.pa) ?_
        rintro e w8 ⟨rfl, hb⟩
        exact ⟨rfl, hS.step hb⟩
      simp only [Act.put, List.setIfInBounds_toArray, List.set_cons_zero, List.set_cons_succ]
      refine det_take (i := 14) (d := some 48) (l' := #[true, true, true, true, true, true, true, true, true, true, true, true, true, true, true, false]) (v := .bool false) rfl rfl rfl (by kernel_rfl) (by kernel_rfl) (by kernel_rfl) (Or.inl ⟨by rfl, ?_⟩) ?_
      · intro w9 hS
        go_simp
        first | exact ⟨rfl, hS⟩ | exact ⟨by simp, hS⟩
      simp only [Act.put, List.setIfInBounds_toArray, List.set_cons_zero, List.set_cons_succ]
      refine det_take (i := 15) (d := some 49) (l' := #[true, true, true, true, true, true, true, true, true, true, true, true, true, true, true, true]) (v := .bool false) rfl rfl rfl (by kernel_rfl) (by kernel_rfl) (by kernel_rfl) (Or.inl ⟨by rfl, ?_⟩) ?_
      · intro w9 hS
        go_simp
        first | exact ⟨rfl, hS⟩ | exact ⟨by simp, hS⟩
      simp only [Act.put, List.setIfInBounds_toArray, List.set_cons_zero, List.set_cons_succ]
      refine det_done (by kernel_rfl) ?_ _
      intro w4 hS
      have HS4 := Lib.hid hS
      clear hS HS
      obtain ⟨A0, c0, e0, hq0⟩ := HS4.out.spoil hbase
      injection e0 with e1 e2 e3
      subst e1 e3
      rw [← e2] at hq0
      have hxn : xn ≤ 100000 := by rw [e2]; exact HOz.out.n
      have HQ0 := Lib.hid hq0
      clear e2 hq0 HS4
      go_wp2_with fail
      go_loopw [10] (fun i wr => ∃ j : Nat, j ≤ xn ∧ i = .int .i64 j ∧ Hid (AnP w a v (ra s) w2.heap.size xA xn xc wr)) (fun i _ => xn - (intOf i).toNat)
      case atStart => exact ⟨0, Nat.zero_le _, rfl, HQ0⟩
      case round =>
        obtain ⟨j, hj, rfl, HQ⟩ := hrel
        clear HQ0
        have k3 : wr.cell? ⟨w2.heap.size, 3, none⟩ = some (.slice xA xn xc) := HQ.out.bx.cell 3
        by_cases hjn : j < xn
        · obtain ⟨g, cur, rfl, hg1, hg2, hh, hcur⟩ := HQ.out.row j hjn
          have cg : wr.cell? ⟨g, j * 2, none⟩ = some (cur[j * 2]'(by omega)) := by
            rw [Lib.cell_of_heap hh, Array.getElem?_eq_getElem (by omega)]
          have fg : wr.frozen? ⟨g, j * 2, none⟩ = false := Lib.frozen_of_heap hh _
          have HQn := Lib.hid (HQ.out.put rfl hg1 hg2 (j * 2) (.string ⟨#[115, 112, 111, 105, 108, 116]⟩))
          clear hh
          go_wp2
          go_roundw
          case rel => exact ⟨j + 1, by omega, by go_num, HQn⟩
          case measure => simp [intOf]; omega
        · obtain rfl : j = xn := by omega
          have HR := Lib.hid HQ.out.an
          clear hj hjn
          go_wp2
          go_roundw
          case rel => exact ⟨k + 1, by omega, by go_num, HR⟩
          case measure => simp [intOf]; omega
    · obtain rfl : k = 2 := by omega
      go_wp2_with fail
      refine (works_any _ HR.out.env).mono ?_
      rintro e w9 ⟨rfl, hb9⟩
      have HF := Lib.hid (HR.out.below.trans (hb9.mono HR.out.below.size))
      clear hb9
      go_wp2_with fail
      go_ret
      exact Ret.of rfl HF.out
set_option maxRecDepth 100000 in
set_option maxHeartbeats 4000000 in
theorem answers_long (a : AnsR) (v : Value) (s : Bs) (w : World) (hE : Env w) (hP : PairsAt w v a.pairs) (hw : wideF [a] = true ∨ (wideF [a] = false ∧ 9000 < s.length)) :
    Calls Tryz.prog 3 #[ansVV a v, .string (bs s)] w (Ret w (.bool true)) := by
  have hn := hP.max
  have HE := Lib.hid hE
  have HP := Lib.hid hP
  obtain ⟨vA, vn, vc, rfl⟩ : ∃ vA vn vc, v = .slice vA vn vc := by
    obtain ⟨A, c, h, _⟩ := hP
    exact ⟨_, _, _, h⟩
  clear hE hP
  have hz0 : (w.alloc (.cells (ansCells a (.slice vA vn vc)) 25)).heap.size = w.heap.size + 1 := by simp
  have HN := Lib.hid (An0.mk (w0 := w) (a := a) (v := .slice vA vn vc) (W := (w.alloc (.cells (ansCells a (.slice vA vn vc)) 25)).alloc (.cells (ansCells a (.slice vA vn vc)) 25)) ((Below.refl _ _).alloc (by simp) _) HE.out HP.out)
  have hwide := wide_one a (.slice vA vn vc) (w.heap.size + 1) _ hn HN.out.pa (fun j => by
    rw [← hz0]
    exact Lib.cell_of_heap (heap_alloc_new _ _) j)
  rcases hw with hw | ⟨hw, hs⟩
  · rw [hw] at hwide
    have HW := Lib.hid hwide
    clear hw hwide hz0
    unfold ansVV ansCells
    go_enter Tryz.func3, Tryz.ntmps3
    go_wp2_with fail
    refine HW.out.mono ?_
    rintro e w1 ⟨rfl, hb1⟩
    have HN1 := Lib.hid (HN.out.step hb1)
    clear hb1 HN HW
    go_wp2_with fail
    refine (works_any _ HN1.out.env).mono ?_
    rintro e w9 ⟨rfl, hb9⟩
    have HF := Lib.hid (HN1.out.below.trans (hb9.mono HN1.out.below.size))
    clear hb9
    go_wp2_with fail
    go_ret
    exact Ret.of rfl HF.out
  · rw [hw] at hwide
    have HW := Lib.hid hwide
    clear hw hwide hz0
    unfold ansVV ansCells
    go_enter Tryz.func3, Tryz.ntmps3
    go_wp2_with fail
    refine HW.out.mono ?_
    rintro e w1 ⟨rfl, hb1⟩
    have HN1 := Lib.hid (HN.out.step hb1)
    clear hb1 HN HW
    go_wp2_with fail
    refine (works_any _ HN1.out.env).mono ?_
    rintro e w9 ⟨rfl, hb9⟩
    have HF := Lib.hid (HN1.out.below.trans (hb9.mono HN1.out.below.size))
    clear hb9
    go_wp2_with fail
    go_ret
    exact Ret.of rfl HF.out

/-- The law CallAnswers. -/
theorem answers_any (a : AnsR) (v : Value) (s : Bs) (w : World) (hE : Env w) (he : IsInt a.err) (hP : PairsAt w v a.pairs) :
    Calls Tryz.prog 3 #[ansVV a v, .string (bs s)] w (Ret w (.bool true)) := by
  cases hw : wideF [a] with
  | true => exact answers_long a v s w hE hP (.inl hw)
  | false =>
    by_cases hs : s.length ≤ 9000
    · exact answers_main a v s w hE he hP hw hs
    · exact answers_long a v s w hE hP (.inr ⟨hw, by omega⟩)
end Go.Proofs.YthhhdddojmkgnaaGreatDoor
