/-
  The laws' helper fits: the bounds of a config, over its table.
-/
import Derived.Test.YthhhdddojmkgnaaGreatDoorCallX
import Derived.Test.YthhhdddojmkgnaaGreatDoorCallC
import Derived.Test.YthhhdddojmkgnaaGreatDoorCallD
namespace Go.Proofs.YthhhdddojmkgnaaGreatDoor
open Go.RowKit

def cfg1 : CfgR := ⟨1, 1, 1, 2, 1, 2, 1, 3⟩
def cfg0 : CfgR := ⟨1, 1, 1, 2, 1, 2, 1, 2⟩
def fitCells : Array Value := #[.int .u8 2, .int .i64 0, .string ⟨#[97, 98]⟩, .string ⟨#[]⟩, .string ⟨#[108, 111, 110, 103]⟩, .int .i64 0, .int .u8 0, .int .i64 0, .int .u8 2, .int .i64 0, .string ⟨#[]⟩, .string ⟨#[]⟩, .string ⟨#[]⟩, .int .i64 0, .int .u8 0, .int .i64 32, .int .u8 3, .int .i64 0, .string ⟨#[97]⟩, .string ⟨#[]⟩, .string ⟨#[98]⟩, .int .i64 0, .int .u8 0, .int .i64 0, .int .u8 3, .int .i64 0, .string ⟨#[97]⟩, .string ⟨#[]⟩, .string ⟨#[98, 98]⟩, .int .i64 0, .int .u8 0, .int .i64 32, .int .u8 4, .int .i64 0, .string ⟨#[97, 98, 99]⟩, .string ⟨#[]⟩, .string ⟨#[]⟩, .int .i64 0, .int .u8 0, .int .i64 32, .int .u8 5, .int .i64 0, .string ⟨#[97, 98]⟩, .string ⟨#[97, 98]⟩, .string ⟨#[]⟩, .int .i64 128, .int .u8 0, .int .i64 0, .int .u8 5, .int .i64 0, .string ⟨#[97, 98, 99]⟩, .string ⟨#[]⟩, .string ⟨#[]⟩, .int .i64 0, .int .u8 0, .int .i64 32, .int .u8 5, .int .i64 0, .string ⟨#[]⟩, .string ⟨#[97, 98, 99]⟩, .string ⟨#[]⟩, .int .i64 0, .int .u8 0, .int .i64 32, .int .u8 5, .int .i64 0, .string ⟨#[]⟩, .string ⟨#[]⟩, .string ⟨#[]⟩, .int .i64 129, .int .u8 0, .int .i64 32, .int .u8 5, .int .i64 0, .string ⟨#[]⟩, .string ⟨#[]⟩, .string ⟨#[]⟩, .int .i64 (-1), .int .u8 0, .int .i64 32, .int .u8 1, .int .i64 0, .string ⟨#[97, 98, 99]⟩, .string ⟨#[]⟩, .string ⟨#[]⟩, .int .i64 0, .int .u8 0, .int .i64 0, .int .u8 6, .int .i64 0, .string ⟨#[]⟩, .string ⟨#[]⟩, .string ⟨#[108, 111, 110, 103]⟩, .int .i64 0, .int .u8 0, .int .i64 0, .int .u8 77, .int .i64 0, .string ⟨#[97, 98, 99]⟩, .string ⟨#[]⟩, .string ⟨#[]⟩, .int .i64 0, .int .u8 0, .int .i64 0]
/-- Short texts. -/
structure Short (x : CallR) : Prop where
  key : x.key.length ≤ 10
  en : x.en.length ≤ 10
  va : x.va.length ≤ 10
theorem fits_is (c : CfgR) (x : CallR) (e : Int) (w : World) (h : Short x) (hf : fitsN c x = e) : Calls Tryz.prog 23 #[cfgV c, callV x] w (Ret w (.int .i64 e)) :=
  hf ▸ fits_any c x w (by have := h.key; omega) (by have := h.en; omega) (by have := h.va; omega)
/-- The cells of one row of the table. -/
def RowIs (W : World) (b o : Nat) (x : CallR) (e : Int) : Prop :=
  W.cell? ⟨b, o, none⟩ = some (.int .u8 x.kind) ∧ W.cell? ⟨b, o + 1, none⟩ = some (.int .i64 x.tx) ∧ W.cell? ⟨b, o + 2, none⟩ = some (.string (bs x.key)) ∧ W.cell? ⟨b, o + 3, none⟩ = some (.string (bs x.en)) ∧
  W.cell? ⟨b, o + 4, none⟩ = some (.string (bs x.va)) ∧ W.cell? ⟨b, o + 5, none⟩ = some (.int .i64 x.lim) ∧ W.cell? ⟨b, o + 6, none⟩ = some (.int .u8 x.eng) ∧ W.cell? ⟨b, o + 7, none⟩ = some (.int .i64 e)
theorem fit_row {W : World} {b : Nat} {T : TypeId} (h : Blk W b fitCells T) (k : Nat) (hk : k < 13) : ∃ (x : CallR) (e : Int), RowIs W b (k * 8) x e ∧ fitsN cfg1 x = e ∧ fitsN cfg0 x = (if 2 ≤ x.kind ∧ x.kind ≤ 5 then 32 else 0) ∧
    x.kind < 256 ∧ x.key.length ≤ 10 ∧ x.en.length ≤ 10 ∧ x.va.length ≤ 10 := by
  match k, hk with
  | 0, _ => exact ⟨⟨2, 0, [97, 98], [], [108, 111, 110, 103], 0, 0⟩, 0, ⟨h.cell _, h.cell _, h.cell _, h.cell _, h.cell _, h.cell _, h.cell _, h.cell _⟩, by kernel_rfl, by kernel_rfl, by decide, by decide, by decide, by decide⟩
  | 1, _ => exact ⟨⟨2, 0, [], [], [], 0, 0⟩, 32, ⟨h.cell _, h.cell _, h.cell _, h.cell _, h.cell _, h.cell _, h.cell _, h.cell _⟩, by kernel_rfl, by kernel_rfl, by decide, by decide, by decide, by decide⟩
  | 2, _ => exact ⟨⟨3, 0, [97], [], [98], 0, 0⟩, 0, ⟨h.cell _, h.cell _, h.cell _, h.cell _, h.cell _, h.cell _, h.cell _, h.cell _⟩, by kernel_rfl, by kernel_rfl, by decide, by decide, by decide, by decide⟩
  | 3, _ => exact ⟨⟨3, 0, [97], [], [98, 98], 0, 0⟩, 32, ⟨h.cell _, h.cell _, h.cell _, h.cell _, h.cell _, h.cell _, h.cell _, h.cell _⟩, by kernel_rfl, by kernel_rfl, by decide, by decide, by decide, by decide⟩
  | 4, _ => exact ⟨⟨4, 0, [97, 98, 99], [], [], 0, 0⟩, 32, ⟨h.cell _, h.cell _, h.cell _, h.cell _, h.cell _, h.cell _, h.cell _, h.cell _⟩, by kernel_rfl, by kernel_rfl, by decide, by decide, by decide, by decide⟩
  | 5, _ => exact ⟨⟨5, 0, [97, 98], [97, 98], [], 128, 0⟩, 0, ⟨h.cell _, h.cell _, h.cell _, h.cell _, h.cell _, h.cell _, h.cell _, h.cell _⟩, by kernel_rfl, by kernel_rfl, by decide, by decide, by decide, by decide⟩
  | 6, _ => exact ⟨⟨5, 0, [97, 98, 99], [], [], 0, 0⟩, 32, ⟨h.cell _, h.cell _, h.cell _, h.cell _, h.cell _, h.cell _, h.cell _, h.cell _⟩, by kernel_rfl, by kernel_rfl, by decide, by decide, by decide, by decide⟩
  | 7, _ => exact ⟨⟨5, 0, [], [97, 98, 99], [], 0, 0⟩, 32, ⟨h.cell _, h.cell _, h.cell _, h.cell _, h.cell _, h.cell _, h.cell _, h.cell _⟩, by kernel_rfl, by kernel_rfl, by decide, by decide, by decide, by decide⟩
  | 8, _ => exact ⟨⟨5, 0, [], [], [], 129, 0⟩, 32, ⟨h.cell _, h.cell _, h.cell _, h.cell _, h.cell _, h.cell _, h.cell _, h.cell _⟩, by kernel_rfl, by kernel_rfl, by decide, by decide, by decide, by decide⟩
  | 9, _ => exact ⟨⟨5, 0, [], [], [], (-1), 0⟩, 32, ⟨h.cell _, h.cell _, h.cell _, h.cell _, h.cell _, h.cell _, h.cell _, h.cell _⟩, by kernel_rfl, by kernel_rfl, by decide, by decide, by decide, by decide⟩
  | 10, _ => exact ⟨⟨1, 0, [97, 98, 99], [], [], 0, 0⟩, 0, ⟨h.cell _, h.cell _, h.cell _, h.cell _, h.cell _, h.cell _, h.cell _, h.cell _⟩, by kernel_rfl, by kernel_rfl, by decide, by decide, by decide, by decide⟩
  | 11, _ => exact ⟨⟨6, 0, [], [], [108, 111, 110, 103], 0, 0⟩, 0, ⟨h.cell _, h.cell _, h.cell _, h.cell _, h.cell _, h.cell _, h.cell _, h.cell _⟩, by kernel_rfl, by kernel_rfl, by decide, by decide, by decide, by decide⟩
  | 12, _ => exact ⟨⟨77, 0, [97, 98, 99], [], [], 0, 0⟩, 0, ⟨h.cell _, h.cell _, h.cell _, h.cell _, h.cell _, h.cell _, h.cell _, h.cell _⟩, by kernel_rfl, by kernel_rfl, by decide, by decide, by decide, by decide⟩
  | n + 13, hk => exact absurd hk (by omega)

def fitBox (x : CallR) (e : Int) : Array Value := #[.int .u8 x.kind, .int .i64 x.tx, .string (bs x.key), .string (bs x.en), .string (bs x.va), .int .i64 x.lim, .int .u8 x.eng, .int .i64 e]
abbrev fitW (w : World) : World := ((w.alloc (.cells (cfgCells cfg1) 36)).alloc (.cells (cfgCells cfg0) 36)).alloc (.cells fitCells 81)
def FtS (w W : World) : Prop := Below (w.heap.size + 3) (fitW w) W
theorem FtS.step {w W W' : World} (h : FtS w W) (hb : Below W.heap.size W W') : FtS w W' := Below.trans h (hb.mono (by have := Below.size h; simp [fitW] at this; omega))
theorem FtS.far {w W : World} (h : FtS w W) : Below w.heap.size w W := (three_new w _ _ _ _ _ _).1.trans (Below.mono h (by omega))
theorem FtS.bc {w W : World} (h : FtS w W) : Blk W w.heap.size (cfgCells cfg1) 36 := by
  unfold Blk; rw [Below.block h _ (by omega)]; exact (three_new w _ _ _ _ _ _).2.1
theorem FtS.bn {w W : World} (h : FtS w W) : Blk W (w.heap.size + 1) (cfgCells cfg0) 36 := by
  unfold Blk; rw [Below.block h _ (by omega)]; exact (three_new w _ _ _ _ _ _).2.2.1
theorem FtS.bt {w W : World} (h : FtS w W) : Blk W (w.heap.size + 2) fitCells 81 := by
  unfold Blk; rw [Below.block h _ (by omega)]; exact (three_new w _ _ _ _ _ _).2.2.2.1
structure FtB (w : World) (x : CallR) (e : Int) (p : Nat) (W : World) : Prop where
  ft : FtS w W
  bp : Blk W p (fitBox x e) 81
theorem FtB.step {w W W' : World} {x : CallR} {e : Int} {p : Nat} (h : FtB w x e p W) (hb : Below W.heap.size W W') : FtB w x e p W' := ⟨h.ft.step hb, h.bp.below hb⟩
theorem FtB.drew {w W : World} {x : CallR} {e : Int} {p : Nat} (h : FtB w x e p W) : FtB w x e p W.drew := h.step (Below.refl W.heap.size W).drew
theorem FtB.bc {w W : World} {x : CallR} {e : Int} {p : Nat} (h : FtB w x e p W) : Blk W w.heap.size (cfgCells cfg1) 36 := h.ft.bc

set_option maxRecDepth 100000 in
set_option maxHeartbeats 8000000 in
theorem fits_law (w : World) : Calls Tryz.prog 35 #[] w (Ret w (.bool true)) := by
  have HS0 : Hid (FtS w (fitW w)) := Lib.hid (Below.refl _ _)
  go_enter Tryz.func35, Tryz.ntmps35
  go_wp2_with fail
  go_loopw [37] (fun i wr => ∃ k : Nat, k ≤ 13 ∧ i = .int .i64 k ∧ Hid (FtS w wr)) (fun i _ => 13 - (intOf i).toNat)
  case atStart => exact ⟨0, Nat.zero_le _, rfl, HS0⟩
  case round =>
    obtain ⟨k, hk, rfl, HS⟩ := hrel
    clear HS0
    obtain ⟨wr, rfl⟩ : ∃ wo : World, wo = wr := ⟨_, rfl⟩
    by_cases hlt : k < 13
    · obtain ⟨x, e, ⟨r0, r1, r2, r3, r4, r5, r6, r7⟩, hf1, hf0, hk256, l1, l2, l3⟩ := fit_row HS.out.bt k hlt
      have HF1 := Lib.hid hf1
      have HL := Lib.hid (Short.mk l1 l2 l3)
      clear hf1 l1 l2 l3
      have HB := Lib.hid (FtB.mk (HS.out.step (below_new wr (.cells (fitBox x e) 81))) (Blk.new wr (fitBox x e) 81))
      have n0 := HB.out.ft.bn.cell 0
      have n1 := HB.out.ft.bn.cell 1
      have n2 := HB.out.ft.bn.cell 2
      have n3 := HB.out.ft.bn.cell 3
      have n4 := HB.out.ft.bn.cell 4
      have n5 := HB.out.ft.bn.cell 5
      have n6 := HB.out.ft.bn.cell 6
      have n7 := HB.out.ft.bn.cell 7
      simp only [cfgCells, cfg0, fitBox, List.getElem?_toArray, List.getElem?_cons_zero, List.getElem?_cons_succ] at n0 n1 n2 n3 n4 n5 n6 n7
      have hway : (2 ≤ x.kind ∧ x.kind ≤ 5) ∨ x.kind < 2 ∨ 5 < x.kind := by omega
      rcases hway with hkd | hkd | hkd
      · have hz : fitsN cfg0 x = 32 := by rw [hf0]; first | exact if_pos hkd | exact if_neg (by omega)
        have HF0 := Lib.hid hz
        clear hf0 hz
        go_wp2_with fail
        refine (fits_is cfg0 x _ _ HL.out HF0.out).mono ?_
        rintro e' w2 ⟨rfl, hb2⟩
        have HB := Lib.hid (HB.out.step hb2)
        clear hb2 n0 n1 n2 n3 n4 n5 n6 n7 r0 r1 r2 r3 r4 r5 r6 r7
        go_wp2_with fail
        refine det_start (n := 22) (l := #[false, false, false, false, false, false, false, false, false, false, false, false, false, false, false, false, false, false, false, false, false, false]) (S := FtB w x e wr.heap.size) (by kernel_rfl) (by rfl) (by rfl) HB.out.drew ?_
        refine det_take (i := 0) (d := some 45) (l' := #[true, false, false, false, false, false, false, false, false, false, false, false, false, false, false, false, false, false, false, false, false, false]) (v := .agg (cfgCells cfg1)) rfl rfl rfl (by kernel_rfl) (by kernel_rfl) (by kernel_rfl) (Or.inl ⟨by rfl, ?_⟩) ?_
        · intro w9 hS
          have l0 := hS.bc.cell 0
          have l1 := hS.bc.cell 1
          have l2 := hS.bc.cell 2
          have l3 := hS.bc.cell 3
          have l4 := hS.bc.cell 4
          have l5 := hS.bc.cell 5
          have l6 := hS.bc.cell 6
          have l7 := hS.bc.cell 7
          simp only [cfgCells, List.getElem?_toArray, List.getElem?_cons_zero, List.getElem?_cons_succ] at l0 l1 l2 l3 l4 l5 l6 l7
          go_simp
          exact ⟨rfl, hS⟩
        simp only [Act.put, List.setIfInBounds_toArray, List.set_cons_zero, List.set_cons_succ]
        refine det_take (i := 1) (d := some 46) (l' := #[true, true, false, false, false, false, false, false, false, false, false, false, false, false, false, false, false, false, false, false, false, false]) (v := .pointer (some ⟨wr.heap.size, 0, none⟩)) rfl rfl rfl (by kernel_rfl) (by kernel_rfl) (by kernel_rfl) (Or.inl ⟨by rfl, ?_⟩) ?_
        · intro w9 hS
          go_simp
          exact ⟨rfl, hS⟩
        simp only [Act.put, List.setIfInBounds_toArray, List.set_cons_zero, List.set_cons_succ]
        refine det_take (i := 2) (d := some 47) (l' := #[true, true, true, false, false, false, false, false, false, false, false, false, false, false, false, false, false, false, false, false, false, false]) (v := .agg (callCells x)) rfl rfl rfl (by kernel_rfl) (by kernel_rfl) (by kernel_rfl) (Or.inl ⟨by rfl, ?_⟩) ?_
        · intro w9 hS
          have l0 := hS.bp.cell 0
          have l1 := hS.bp.cell 1
          have l2 := hS.bp.cell 2
          have l3 := hS.bp.cell 3
          have l4 := hS.bp.cell 4
          have l5 := hS.bp.cell 5
          have l6 := hS.bp.cell 6
          have l7 := hS.bp.cell 7
          simp only [fitBox, List.getElem?_toArray, List.getElem?_cons_zero, List.getElem?_cons_succ] at l0 l1 l2 l3 l4 l5 l6 l7
          go_simp
          exact ⟨rfl, hS⟩
        simp only [Act.put, List.setIfInBounds_toArray, List.set_cons_zero, List.set_cons_succ]
        refine det_take (i := 3) (d := some 48) (l' := #[true, true, true, true, false, false, false, false, false, false, false, false, false, false, false, false, false, false, false, false, false, false]) (v := .int .i64 e) rfl rfl rfl (by kernel_rfl) (by kernel_rfl) (by kernel_rfl) (Or.inl ⟨by rfl, ?_⟩) ?_
        · intro w9 hS
          go_simp
          refine Calls.mono (fits_is cfg1 x e _ HL.out HF1.out) ?_
          rintro e w8 ⟨rfl, hb⟩
          exact ⟨rfl, hS.step hb⟩
        simp only [Act.put, List.setIfInBounds_toArray, List.set_cons_zero, List.set_cons_succ]
        refine det_take (i := 4) (d := some 49) (l' := #[true, true, true, true, true, false, false, false, false, false, false, false, false, false, false, false, false, false, false, false, false, false]) (v := .pointer (some ⟨wr.heap.size, 7, none⟩)) rfl rfl rfl (by kernel_rfl) (by kernel_rfl) (by kernel_rfl) (Or.inl ⟨by rfl, ?_⟩) ?_
        · intro w9 hS
          go_simp
          exact ⟨rfl, hS⟩
        simp only [Act.put, List.setIfInBounds_toArray, List.set_cons_zero, List.set_cons_succ]
        refine det_take (i := 5) (d := some 50) (l' := #[true, true, true, true, true, true, false, false, false, false, false, false, false, false, false, false, false, false, false, false, false, false]) (v := .int .i64 e) rfl rfl rfl (by kernel_rfl) (by kernel_rfl) (by kernel_rfl) (Or.inl ⟨by rfl, ?_⟩) ?_
        · intro w9 hS
          have l0 := hS.bp.cell 0
          have l1 := hS.bp.cell 1
          have l2 := hS.bp.cell 2
          have l3 := hS.bp.cell 3
          have l4 := hS.bp.cell 4
          have l5 := hS.bp.cell 5
          have l6 := hS.bp.cell 6
          have l7 := hS.bp.cell 7
          simp only [fitBox, List.getElem?_toArray, List.getElem?_cons_zero, List.getElem?_cons_succ] at l0 l1 l2 l3 l4 l5 l6 l7
          go_simp
          exact ⟨rfl, hS⟩
        simp only [Act.put, List.setIfInBounds_toArray, List.set_cons_zero, List.set_cons_succ]
        refine det_take (i := 6) (d := some 51) (l' := #[true, true, true, true, true, true, true, false, false, false, false, false, false, false, false, false, false, false, false, false, false, false]) (v := .bool false) rfl rfl rfl (by kernel_rfl) (by kernel_rfl) (by kernel_rfl) (Or.inl ⟨by rfl, ?_⟩) ?_
        · intro w9 hS
          go_simp
          first | exact ⟨rfl, hS⟩ | exact ⟨by simp, hS⟩
        simp only [Act.put, List.setIfInBounds_toArray, List.set_cons_zero, List.set_cons_succ]
        refine det_take (i := 7) (d := some 52) (l' := #[true, true, true, true, true, true, true, true, false, false, false, false, false, false, false, false, false, false, false, false, false, false]) (v := .bool false) rfl rfl rfl (by kernel_rfl) (by kernel_rfl) (by kernel_rfl) (Or.inl ⟨by rfl, ?_⟩) ?_
        · intro w9 hS
          go_simp
          exact ⟨rfl, hS⟩
        simp only [Act.put, List.setIfInBounds_toArray, List.set_cons_zero, List.set_cons_succ]
        refine det_take (i := 8) (d := some 53) (l' := #[true, true, true, true, true, true, true, true, true, false, false, false, false, false, false, false, false, false, false, false, false, false]) (v := .int .i64 32) rfl rfl rfl (by kernel_rfl) (by kernel_rfl) (by kernel_rfl) (Or.inl ⟨by rfl, ?_⟩) ?_
        · intro w9 hS
          go_simp
          exact ⟨rfl, hS⟩
        simp only [Act.put, List.setIfInBounds_toArray, List.set_cons_zero, List.set_cons_succ]
        refine det_take (i := 9) (d := some 54) (l' := #[true, true, true, true, true, true, true, true, true, true, false, false, false, false, false, false, false, false, false, false, false, false]) (v := .bool true) rfl rfl rfl (by kernel_rfl) (by kernel_rfl) (by kernel_rfl) (Or.inl ⟨by rfl, ?_⟩) ?_
        · intro w9 hS
          go_simp
          first | exact ⟨rfl, hS⟩ | exact ⟨by simp, hS⟩
        simp only [Act.put, List.setIfInBounds_toArray, List.set_cons_zero, List.set_cons_succ]
        refine det_take (i := 10) (d := some 55) (l' := #[true, true, true, true, true, true, true, true, true, true, true, false, false, false, false, false, false, false, false, false, false, false]) (v := .pointer (some ⟨wr.heap.size, 0, none⟩)) rfl rfl rfl (by kernel_rfl) (by kernel_rfl) (by kernel_rfl) (Or.inl ⟨by rfl, ?_⟩) ?_
        · intro w9 hS
          go_simp
          exact ⟨rfl, hS⟩
        simp only [Act.put, List.setIfInBounds_toArray, List.set_cons_zero, List.set_cons_succ]
        refine det_take (i := 11) (d := some 56) (l' := #[true, true, true, true, true, true, true, true, true, true, true, true, false, false, false, false, false, false, false, false, false, false]) (v := .pointer (some ⟨wr.heap.size, 0, none⟩)) rfl rfl rfl (by kernel_rfl) (by kernel_rfl) (by kernel_rfl) (Or.inl ⟨by rfl, ?_⟩) ?_
        · intro w9 hS
          go_simp
          exact ⟨rfl, hS⟩
        simp only [Act.put, List.setIfInBounds_toArray, List.set_cons_zero, List.set_cons_succ]
        refine det_take (i := 12) (d := some 57) (l' := #[true, true, true, true, true, true, true, true, true, true, true, true, true, false, false, false, false, false, false, false, false, false]) (v := .int .u8 x.kind) rfl rfl rfl (by kernel_rfl) (by kernel_rfl) (by kernel_rfl) (Or.inl ⟨by rfl, ?_⟩) ?_
        · intro w9 hS
          have l0 := hS.bp.cell 0
          have l1 := hS.bp.cell 1
          have l2 := hS.bp.cell 2
          have l3 := hS.bp.cell 3
          have l4 := hS.bp.cell 4
          have l5 := hS.bp.cell 5
          have l6 := hS.bp.cell 6
          have l7 := hS.bp.cell 7
          simp only [fitBox, List.getElem?_toArray, List.getElem?_cons_zero, List.getElem?_cons_succ] at l0 l1 l2 l3 l4 l5 l6 l7
          go_simp
          exact ⟨rfl, hS⟩
        simp only [Act.put, List.setIfInBounds_toArray, List.set_cons_zero, List.set_cons_succ]
        refine det_take (i := 13) (d := some 58) (l' := #[true, true, true, true, true, true, true, true, true, true, true, true, true, true, false, false, false, false, false, false, false, false]) (v := .bool true) rfl rfl rfl (by kernel_rfl) (by kernel_rfl) (by kernel_rfl) (Or.inl ⟨by rfl, ?_⟩) ?_
        · intro w9 hS
          go_simp
          first | exact ⟨rfl, hS⟩ | exact ⟨by simp; omega, hS⟩ | exact ⟨by simp [*], hS⟩
        simp only [Act.put, List.setIfInBounds_toArray, List.set_cons_zero, List.set_cons_succ]
        refine det_take (i := 14) (d := some 59) (l' := #[true, true, true, true, true, true, true, true, true, true, true, true, true, true, true, false, false, false, false, false, false, false]) (v := .bool true) rfl rfl rfl (by kernel_rfl) (by kernel_rfl) (by kernel_rfl) (Or.inl ⟨by rfl, ?_⟩) ?_
        · intro w9 hS
          go_simp
          exact ⟨rfl, hS⟩
        simp only [Act.put, List.setIfInBounds_toArray, List.set_cons_zero, List.set_cons_succ]
        refine det_take (i := 15) (d := some 60) (l' := #[true, true, true, true, true, true, true, true, true, true, true, true, true, true, true, true, false, false, false, false, false, false]) (v := .pointer (some ⟨wr.heap.size, 0, none⟩)) rfl rfl rfl (by kernel_rfl) (by kernel_rfl) (by kernel_rfl) (Or.inl ⟨by rfl, ?_⟩) ?_
        · intro w9 hS
          go_simp
          exact ⟨rfl, hS⟩
        simp only [Act.put, List.setIfInBounds_toArray, List.set_cons_zero, List.set_cons_succ]
        refine det_take (i := 16) (d := some 61) (l' := #[true, true, true, true, true, true, true, true, true, true, true, true, true, true, true, true, true, false, false, false, false, false]) (v := .pointer (some ⟨wr.heap.size, 0, none⟩)) rfl rfl rfl (by kernel_rfl) (by kernel_rfl) (by kernel_rfl) (Or.inl ⟨by rfl, ?_⟩) ?_
        · intro w9 hS
          go_simp
          exact ⟨rfl, hS⟩
        simp only [Act.put, List.setIfInBounds_toArray, List.set_cons_zero, List.set_cons_succ]
        refine det_take (i := 17) (d := some 62) (l' := #[true, true, true, true, true, true, true, true, true, true, true, true, true, true, true, true, true, true, false, false, false, false]) (v := .int .u8 x.kind) rfl rfl rfl (by kernel_rfl) (by kernel_rfl) (by kernel_rfl) (Or.inl ⟨by rfl, ?_⟩) ?_
        · intro w9 hS
          have l0 := hS.bp.cell 0
          have l1 := hS.bp.cell 1
          have l2 := hS.bp.cell 2
          have l3 := hS.bp.cell 3
          have l4 := hS.bp.cell 4
          have l5 := hS.bp.cell 5
          have l6 := hS.bp.cell 6
          have l7 := hS.bp.cell 7
          simp only [fitBox, List.getElem?_toArray, List.getElem?_cons_zero, List.getElem?_cons_succ] at l0 l1 l2 l3 l4 l5 l6 l7
          go_simp
          exact ⟨rfl, hS⟩
        simp only [Act.put, List.setIfInBounds_toArray, List.set_cons_zero, List.set_cons_succ]
        refine det_take (i := 18) (d := some 63) (l' := #[true, true, true, true, true, true, true, true, true, true, true, true, true, true, true, true, true, true, true, false, false, false]) (v := .bool true) rfl rfl rfl (by kernel_rfl) (by kernel_rfl) (by kernel_rfl) (Or.inl ⟨by rfl, ?_⟩) ?_
        · intro w9 hS
          go_simp
          first | exact ⟨rfl, hS⟩ | exact ⟨by simp; omega, hS⟩ | exact ⟨by simp [*], hS⟩
        simp only [Act.put, List.setIfInBounds_toArray, List.set_cons_zero, List.set_cons_succ]
        refine det_take (i := 19) (d := some 64) (l' := #[true, true, true, true, true, true, true, true, true, true, true, true, true, true, true, true, true, true, true, true, false, false]) (v := .bool true) rfl rfl rfl (by kernel_rfl) (by kernel_rfl) (by kernel_rfl) (Or.inl ⟨by rfl, ?_⟩) ?_
        · intro w9 hS
          go_simp
          exact ⟨rfl, hS⟩
        simp only [Act.put, List.setIfInBounds_toArray, List.set_cons_zero, List.set_cons_succ]
        refine det_take (i := 20) (d := some 65) (l' := #[true, true, true, true, true, true, true, true, true, true, true, true, true, true, true, true, true, true, true, true, true, false]) (v := .bool false) rfl rfl rfl (by kernel_rfl) (by kernel_rfl) (by kernel_rfl) (Or.inl ⟨by rfl, ?_⟩) ?_
        · intro w9 hS
          go_simp
          first | exact ⟨rfl, hS⟩ | exact ⟨by simp, hS⟩
        simp only [Act.put, List.setIfInBounds_toArray, List.set_cons_zero, List.set_cons_succ]
        refine det_take (i := 21) (d := some 66) (l' := #[true, true, true, true, true, true, true, true, true, true, true, true, true, true, true, true, true, true, true, true, true, true]) (v := .bool false) rfl rfl rfl (by kernel_rfl) (by kernel_rfl) (by kernel_rfl) (Or.inl ⟨by rfl, ?_⟩) ?_
        · intro w9 hS
          go_simp
          exact ⟨rfl, hS⟩
        simp only [Act.put, List.setIfInBounds_toArray, List.set_cons_zero, List.set_cons_succ]
        refine det_done (by kernel_rfl) ?_ _
        intro w4 hS
        have HS4 := Lib.hid hS.ft
        clear hS HS HB
        go_wp2
        go_roundw
        case rel => exact ⟨k + 1, by omega, by go_num, HS4⟩
        case measure => simp [intOf]; omega
      · have hz : fitsN cfg0 x = 0 := by rw [hf0]; first | exact if_pos hkd | exact if_neg (by omega)
        have HF0 := Lib.hid hz
        clear hf0 hz
        go_wp2_with fail
        refine (fits_is cfg0 x _ _ HL.out HF0.out).mono ?_
        rintro e' w2 ⟨rfl, hb2⟩
        have HB := Lib.hid (HB.out.step hb2)
        clear hb2 n0 n1 n2 n3 n4 n5 n6 n7 r0 r1 r2 r3 r4 r5 r6 r7
        go_wp2_with fail
        refine det_start (n := 22) (l := #[false, false, false, false, false, false, false, false, false, false, false, false, false, false, false, false, false, false, false, false, false, false]) (S := FtB w x e wr.heap.size) (by kernel_rfl) (by rfl) (by rfl) HB.out.drew ?_
        refine det_take (i := 0) (d := some 45) (l' := #[true, false, false, false, false, false, false, false, false, false, false, false, false, false, false, false, false, false, false, false, false, false]) (v := .agg (cfgCells cfg1)) rfl rfl rfl (by kernel_rfl) (by kernel_rfl) (by kernel_rfl) (Or.inl ⟨by rfl, ?_⟩) ?_
        · intro w9 hS
          have l0 := hS.bc.cell 0
          have l1 := hS.bc.cell 1
          have l2 := hS.bc.cell 2
          have l3 := hS.bc.cell 3
          have l4 := hS.bc.cell 4
          have l5 := hS.bc.cell 5
          have l6 := hS.bc.cell 6
          have l7 := hS.bc.cell 7
          simp only [cfgCells, List.getElem?_toArray, List.getElem?_cons_zero, List.getElem?_cons_succ] at l0 l1 l2 l3 l4 l5 l6 l7
          go_simp
          exact ⟨rfl, hS⟩
        simp only [Act.put, List.setIfInBounds_toArray, List.set_cons_zero, List.set_cons_succ]
        refine det_take (i := 1) (d := some 46) (l' := #[true, true, false, false, false, false, false, false, false, false, false, false, false, false, false, false, false, false, false, false, false, false]) (v := .pointer (some ⟨wr.heap.size, 0, none⟩)) rfl rfl rfl (by kernel_rfl) (by kernel_rfl) (by kernel_rfl) (Or.inl ⟨by rfl, ?_⟩) ?_
        · intro w9 hS
          go_simp
          exact ⟨rfl, hS⟩
        simp only [Act.put, List.setIfInBounds_toArray, List.set_cons_zero, List.set_cons_succ]
        refine det_take (i := 2) (d := some 47) (l' := #[true, true, true, false, false, false, false, false, false, false, false, false, false, false, false, false, false, false, false, false, false, false]) (v := .agg (callCells x)) rfl rfl rfl (by kernel_rfl) (by kernel_rfl) (by kernel_rfl) (Or.inl ⟨by rfl, ?_⟩) ?_
        · intro w9 hS
          have l0 := hS.bp.cell 0
          have l1 := hS.bp.cell 1
          have l2 := hS.bp.cell 2
          have l3 := hS.bp.cell 3
          have l4 := hS.bp.cell 4
          have l5 := hS.bp.cell 5
          have l6 := hS.bp.cell 6
          have l7 := hS.bp.cell 7
          simp only [fitBox, List.getElem?_toArray, List.getElem?_cons_zero, List.getElem?_cons_succ] at l0 l1 l2 l3 l4 l5 l6 l7
          go_simp
          exact ⟨rfl, hS⟩
        simp only [Act.put, List.setIfInBounds_toArray, List.set_cons_zero, List.set_cons_succ]
        refine det_take (i := 3) (d := some 48) (l' := #[true, true, true, true, false, false, false, false, false, false, false, false, false, false, false, false, false, false, false, false, false, false]) (v := .int .i64 e) rfl rfl rfl (by kernel_rfl) (by kernel_rfl) (by kernel_rfl) (Or.inl ⟨by rfl, ?_⟩) ?_
        · intro w9 hS
          go_simp
          refine Calls.mono (fits_is cfg1 x e _ HL.out HF1.out) ?_
          rintro e w8 ⟨rfl, hb⟩
          exact ⟨rfl, hS.step hb⟩
        simp only [Act.put, List.setIfInBounds_toArray, List.set_cons_zero, List.set_cons_succ]
        refine det_take (i := 4) (d := some 49) (l' := #[true, true, true, true, true, false, false, false, false, false, false, false, false, false, false, false, false, false, false, false, false, false]) (v := .pointer (some ⟨wr.heap.size, 7, none⟩)) rfl rfl rfl (by kernel_rfl) (by kernel_rfl) (by kernel_rfl) (Or.inl ⟨by rfl, ?_⟩) ?_
        · intro w9 hS
          go_simp
          exact ⟨rfl, hS⟩
        simp only [Act.put, List.setIfInBounds_toArray, List.set_cons_zero, List.set_cons_succ]
        refine det_take (i := 5) (d := some 50) (l' := #[true, true, true, true, true, true, false, false, false, false, false, false, false, false, false, false, false, false, false, false, false, false]) (v := .int .i64 e) rfl rfl rfl (by kernel_rfl) (by kernel_rfl) (by kernel_rfl) (Or.inl ⟨by rfl, ?_⟩) ?_
        · intro w9 hS
          have l0 := hS.bp.cell 0
          have l1 := hS.bp.cell 1
          have l2 := hS.bp.cell 2
          have l3 := hS.bp.cell 3
          have l4 := hS.bp.cell 4
          have l5 := hS.bp.cell 5
          have l6 := hS.bp.cell 6
          have l7 := hS.bp.cell 7
          simp only [fitBox, List.getElem?_toArray, List.getElem?_cons_zero, List.getElem?_cons_succ] at l0 l1 l2 l3 l4 l5 l6 l7
          go_simp
          exact ⟨rfl, hS⟩
        simp only [Act.put, List.setIfInBounds_toArray, List.set_cons_zero, List.set_cons_succ]
        refine det_take (i := 6) (d := some 51) (l' := #[true, true, true, true, true, true, true, false, false, false, false, false, false, false, false, false, false, false, false, false, false, false]) (v := .bool false) rfl rfl rfl (by kernel_rfl) (by kernel_rfl) (by kernel_rfl) (Or.inl ⟨by rfl, ?_⟩) ?_
        · intro w9 hS
          go_simp
          first | exact ⟨rfl, hS⟩ | exact ⟨by simp, hS⟩
        simp only [Act.put, List.setIfInBounds_toArray, List.set_cons_zero, List.set_cons_succ]
        refine det_take (i := 7) (d := some 52) (l' := #[true, true, true, true, true, true, true, true, false, false, false, false, false, false, false, false, false, false, false, false, false, false]) (v := .bool false) rfl rfl rfl (by kernel_rfl) (by kernel_rfl) (by kernel_rfl) (Or.inl ⟨by rfl, ?_⟩) ?_
        · intro w9 hS
          go_simp
          exact ⟨rfl, hS⟩
        simp only [Act.put, List.setIfInBounds_toArray, List.set_cons_zero, List.set_cons_succ]
        refine det_take (i := 8) (d := some 53) (l' := #[true, true, true, true, true, true, true, true, true, false, false, false, false, false, false, false, false, false, false, false, false, false]) (v := .int .i64 0) rfl rfl rfl (by kernel_rfl) (by kernel_rfl) (by kernel_rfl) (Or.inl ⟨by rfl, ?_⟩) ?_
        · intro w9 hS
          go_simp
          exact ⟨rfl, hS⟩
        simp only [Act.put, List.setIfInBounds_toArray, List.set_cons_zero, List.set_cons_succ]
        refine det_take (i := 9) (d := some 54) (l' := #[true, true, true, true, true, true, true, true, true, true, false, false, false, false, false, false, false, false, false, false, false, false]) (v := .bool false) rfl rfl rfl (by kernel_rfl) (by kernel_rfl) (by kernel_rfl) (Or.inl ⟨by rfl, ?_⟩) ?_
        · intro w9 hS
          go_simp
          first | exact ⟨rfl, hS⟩ | exact ⟨by simp, hS⟩
        simp only [Act.put, List.setIfInBounds_toArray, List.set_cons_zero, List.set_cons_succ]
        refine det_take (i := 10) (d := some 55) (l' := #[true, true, true, true, true, true, true, true, true, true, true, false, false, false, false, false, false, false, false, false, false, false]) (v := .pointer (some ⟨wr.heap.size, 0, none⟩)) rfl rfl rfl (by kernel_rfl) (by kernel_rfl) (by kernel_rfl) (Or.inl ⟨by rfl, ?_⟩) ?_
        · intro w9 hS
          go_simp
          exact ⟨rfl, hS⟩
        simp only [Act.put, List.setIfInBounds_toArray, List.set_cons_zero, List.set_cons_succ]
        refine det_take (i := 11) (d := some 56) (l' := #[true, true, true, true, true, true, true, true, true, true, true, true, false, false, false, false, false, false, false, false, false, false]) (v := .pointer (some ⟨wr.heap.size, 0, none⟩)) rfl rfl rfl (by kernel_rfl) (by kernel_rfl) (by kernel_rfl) (Or.inl ⟨by rfl, ?_⟩) ?_
        · intro w9 hS
          go_simp
          exact ⟨rfl, hS⟩
        simp only [Act.put, List.setIfInBounds_toArray, List.set_cons_zero, List.set_cons_succ]
        refine det_take (i := 12) (d := some 57) (l' := #[true, true, true, true, true, true, true, true, true, true, true, true, true, false, false, false, false, false, false, false, false, false]) (v := .int .u8 x.kind) rfl rfl rfl (by kernel_rfl) (by kernel_rfl) (by kernel_rfl) (Or.inl ⟨by rfl, ?_⟩) ?_
        · intro w9 hS
          have l0 := hS.bp.cell 0
          have l1 := hS.bp.cell 1
          have l2 := hS.bp.cell 2
          have l3 := hS.bp.cell 3
          have l4 := hS.bp.cell 4
          have l5 := hS.bp.cell 5
          have l6 := hS.bp.cell 6
          have l7 := hS.bp.cell 7
          simp only [fitBox, List.getElem?_toArray, List.getElem?_cons_zero, List.getElem?_cons_succ] at l0 l1 l2 l3 l4 l5 l6 l7
          go_simp
          exact ⟨rfl, hS⟩
        simp only [Act.put, List.setIfInBounds_toArray, List.set_cons_zero, List.set_cons_succ]
        refine det_take (i := 13) (d := some 58) (l' := #[true, true, true, true, true, true, true, true, true, true, true, true, true, true, false, false, false, false, false, false, false, false]) (v := .bool false) rfl rfl rfl (by kernel_rfl) (by kernel_rfl) (by kernel_rfl) (Or.inl ⟨by rfl, ?_⟩) ?_
        · intro w9 hS
          go_simp
          first | exact ⟨rfl, hS⟩ | exact ⟨by simp; omega, hS⟩ | exact ⟨by simp [*], hS⟩
        simp only [Act.put, List.setIfInBounds_toArray, List.set_cons_zero, List.set_cons_succ]
        refine det_take (i := 14) (d := some 59) (l' := #[true, true, true, true, true, true, true, true, true, true, true, true, true, true, true, false, false, false, false, false, false, false]) (v := .bool false) rfl rfl rfl (by kernel_rfl) (by kernel_rfl) (by kernel_rfl) (Or.inl ⟨by rfl, ?_⟩) ?_
        · intro w9 hS
          go_simp
          exact ⟨rfl, hS⟩
        simp only [Act.put, List.setIfInBounds_toArray, List.set_cons_zero, List.set_cons_succ]
        refine det_take (i := 15) (d := some 60) (l' := #[true, true, true, true, true, true, true, true, true, true, true, true, true, true, true, true, false, false, false, false, false, false]) (v := undef) rfl rfl rfl (by kernel_rfl) (by kernel_rfl) (by kernel_rfl) (Or.inr ⟨by rfl, rfl⟩) ?_
        simp only [Act.put, List.setIfInBounds_toArray, List.set_cons_zero, List.set_cons_succ]
        refine det_take (i := 16) (d := some 61) (l' := #[true, true, true, true, true, true, true, true, true, true, true, true, true, true, true, true, true, false, false, false, false, false]) (v := undef) rfl rfl rfl (by kernel_rfl) (by kernel_rfl) (by kernel_rfl) (Or.inr ⟨by rfl, rfl⟩) ?_
        simp only [Act.put, List.setIfInBounds_toArray, List.set_cons_zero, List.set_cons_succ]
        refine det_take (i := 17) (d := some 62) (l' := #[true, true, true, true, true, true, true, true, true, true, true, true, true, true, true, true, true, true, false, false, false, false]) (v := undef) rfl rfl rfl (by kernel_rfl) (by kernel_rfl) (by kernel_rfl) (Or.inr ⟨by rfl, rfl⟩) ?_
        simp only [Act.put, List.setIfInBounds_toArray, List.set_cons_zero, List.set_cons_succ]
        refine det_take (i := 18) (d := some 63) (l' := #[true, true, true, true, true, true, true, true, true, true, true, true, true, true, true, true, true, true, true, false, false, false]) (v := undef) rfl rfl rfl (by kernel_rfl) (by kernel_rfl) (by kernel_rfl) (Or.inr ⟨by rfl, rfl⟩) ?_
        simp only [Act.put, List.setIfInBounds_toArray, List.set_cons_zero, List.set_cons_succ]
        refine det_take (i := 19) (d := some 64) (l' := #[true, true, true, true, true, true, true, true, true, true, true, true, true, true, true, true, true, true, true, true, false, false]) (v := .bool false) rfl rfl rfl (by kernel_rfl) (by kernel_rfl) (by kernel_rfl) (Or.inl ⟨by rfl, ?_⟩) ?_
        · intro w9 hS
          go_simp
          exact ⟨rfl, hS⟩
        simp only [Act.put, List.setIfInBounds_toArray, List.set_cons_zero, List.set_cons_succ]
        refine det_take (i := 20) (d := some 65) (l' := #[true, true, true, true, true, true, true, true, true, true, true, true, true, true, true, true, true, true, true, true, true, false]) (v := .bool false) rfl rfl rfl (by kernel_rfl) (by kernel_rfl) (by kernel_rfl) (Or.inl ⟨by rfl, ?_⟩) ?_
        · intro w9 hS
          go_simp
          first | exact ⟨rfl, hS⟩ | exact ⟨by simp, hS⟩
        simp only [Act.put, List.setIfInBounds_toArray, List.set_cons_zero, List.set_cons_succ]
        refine det_take (i := 21) (d := some 66) (l' := #[true, true, true, true, true, true, true, true, true, true, true, true, true, true, true, true, true, true, true, true, true, true]) (v := .bool false) rfl rfl rfl (by kernel_rfl) (by kernel_rfl) (by kernel_rfl) (Or.inl ⟨by rfl, ?_⟩) ?_
        · intro w9 hS
          go_simp
          exact ⟨rfl, hS⟩
        simp only [Act.put, List.setIfInBounds_toArray, List.set_cons_zero, List.set_cons_succ]
        refine det_done (by kernel_rfl) ?_ _
        intro w4 hS
        have HS4 := Lib.hid hS.ft
        clear hS HS HB
        go_wp2
        go_roundw
        case rel => exact ⟨k + 1, by omega, by go_num, HS4⟩
        case measure => simp [intOf]; omega
      · have hz : fitsN cfg0 x = 0 := by rw [hf0]; first | exact if_pos hkd | exact if_neg (by omega)
        have HF0 := Lib.hid hz
        clear hf0 hz
        go_wp2_with fail
        refine (fits_is cfg0 x _ _ HL.out HF0.out).mono ?_
        rintro e' w2 ⟨rfl, hb2⟩
        have HB := Lib.hid (HB.out.step hb2)
        clear hb2 n0 n1 n2 n3 n4 n5 n6 n7 r0 r1 r2 r3 r4 r5 r6 r7
        go_wp2_with fail
        refine det_start (n := 22) (l := #[false, false, false, false, false, false, false, false, false, false, false, false, false, false, false, false, false, false, false, false, false, false]) (S := FtB w x e wr.heap.size) (by kernel_rfl) (by rfl) (by rfl) HB.out.drew ?_
        refine det_take (i := 0) (d := some 45) (l' := #[true, false, false, false, false, false, false, false, false, false, false, false, false, false, false, false, false, false, false, false, false, false]) (v := .agg (cfgCells cfg1)) rfl rfl rfl (by kernel_rfl) (by kernel_rfl) (by kernel_rfl) (Or.inl ⟨by rfl, ?_⟩) ?_
        · intro w9 hS
          have l0 := hS.bc.cell 0
          have l1 := hS.bc.cell 1
          have l2 := hS.bc.cell 2
          have l3 := hS.bc.cell 3
          have l4 := hS.bc.cell 4
          have l5 := hS.bc.cell 5
          have l6 := hS.bc.cell 6
          have l7 := hS.bc.cell 7
          simp only [cfgCells, List.getElem?_toArray, List.getElem?_cons_zero, List.getElem?_cons_succ] at l0 l1 l2 l3 l4 l5 l6 l7
          go_simp
          exact ⟨rfl, hS⟩
        simp only [Act.put, List.setIfInBounds_toArray, List.set_cons_zero, List.set_cons_succ]
        refine det_take (i := 1) (d := some 46) (l' := #[true, true, false, false, false, false, false, false, false, false, false, false, false, false, false, false, false, false, false, false, false, false]) (v := .pointer (some ⟨wr.heap.size, 0, none⟩)) rfl rfl rfl (by kernel_rfl) (by kernel_rfl) (by kernel_rfl) (Or.inl ⟨by rfl, ?_⟩) ?_
        · intro w9 hS
          go_simp
          exact ⟨rfl, hS⟩
        simp only [Act.put, List.setIfInBounds_toArray, List.set_cons_zero, List.set_cons_succ]
        refine det_take (i := 2) (d := some 47) (l' := #[true, true, true, false, false, false, false, false, false, false, false, false, false, false, false, false, false, false, false, false, false, false]) (v := .agg (callCells x)) rfl rfl rfl (by kernel_rfl) (by kernel_rfl) (by kernel_rfl) (Or.inl ⟨by rfl, ?_⟩) ?_
        · intro w9 hS
          have l0 := hS.bp.cell 0
          have l1 := hS.bp.cell 1
          have l2 := hS.bp.cell 2
          have l3 := hS.bp.cell 3
          have l4 := hS.bp.cell 4
          have l5 := hS.bp.cell 5
          have l6 := hS.bp.cell 6
          have l7 := hS.bp.cell 7
          simp only [fitBox, List.getElem?_toArray, List.getElem?_cons_zero, List.getElem?_cons_succ] at l0 l1 l2 l3 l4 l5 l6 l7
          go_simp
          exact ⟨rfl, hS⟩
        simp only [Act.put, List.setIfInBounds_toArray, List.set_cons_zero, List.set_cons_succ]
        refine det_take (i := 3) (d := some 48) (l' := #[true, true, true, true, false, false, false, false, false, false, false, false, false, false, false, false, false, false, false, false, false, false]) (v := .int .i64 e) rfl rfl rfl (by kernel_rfl) (by kernel_rfl) (by kernel_rfl) (Or.inl ⟨by rfl, ?_⟩) ?_
        · intro w9 hS
          go_simp
          refine Calls.mono (fits_is cfg1 x e _ HL.out HF1.out) ?_
          rintro e w8 ⟨rfl, hb⟩
          exact ⟨rfl, hS.step hb⟩
        simp only [Act.put, List.setIfInBounds_toArray, List.set_cons_zero, List.set_cons_succ]
        refine det_take (i := 4) (d := some 49) (l' := #[true, true, true, true, true, false, false, false, false, false, false, false, false, false, false, false, false, false, false, false, false, false]) (v := .pointer (some ⟨wr.heap.size, 7, none⟩)) rfl rfl rfl (by kernel_rfl) (by kernel_rfl) (by kernel_rfl) (Or.inl ⟨by rfl, ?_⟩) ?_
        · intro w9 hS
          go_simp
          exact ⟨rfl, hS⟩
        simp only [Act.put, List.setIfInBounds_toArray, List.set_cons_zero, List.set_cons_succ]
        refine det_take (i := 5) (d := some 50) (l' := #[true, true, true, true, true, true, false, false, false, false, false, false, false, false, false, false, false, false, false, false, false, false]) (v := .int .i64 e) rfl rfl rfl (by kernel_rfl) (by kernel_rfl) (by kernel_rfl) (Or.inl ⟨by rfl, ?_⟩) ?_
        · intro w9 hS
          have l0 := hS.bp.cell 0
          have l1 := hS.bp.cell 1
          have l2 := hS.bp.cell 2
          have l3 := hS.bp.cell 3
          have l4 := hS.bp.cell 4
          have l5 := hS.bp.cell 5
          have l6 := hS.bp.cell 6
          have l7 := hS.bp.cell 7
          simp only [fitBox, List.getElem?_toArray, List.getElem?_cons_zero, List.getElem?_cons_succ] at l0 l1 l2 l3 l4 l5 l6 l7
          go_simp
          exact ⟨rfl, hS⟩
        simp only [Act.put, List.setIfInBounds_toArray, List.set_cons_zero, List.set_cons_succ]
        refine det_take (i := 6) (d := some 51) (l' := #[true, true, true, true, true, true, true, false, false, false, false, false, false, false, false, false, false, false, false, false, false, false]) (v := .bool false) rfl rfl rfl (by kernel_rfl) (by kernel_rfl) (by kernel_rfl) (Or.inl ⟨by rfl, ?_⟩) ?_
        · intro w9 hS
          go_simp
          first | exact ⟨rfl, hS⟩ | exact ⟨by simp, hS⟩
        simp only [Act.put, List.setIfInBounds_toArray, List.set_cons_zero, List.set_cons_succ]
        refine det_take (i := 7) (d := some 52) (l' := #[true, true, true, true, true, true, true, true, false, false, false, false, false, false, false, false, false, false, false, false, false, false]) (v := .bool false) rfl rfl rfl (by kernel_rfl) (by kernel_rfl) (by kernel_rfl) (Or.inl ⟨by rfl, ?_⟩) ?_
        · intro w9 hS
          go_simp
          exact ⟨rfl, hS⟩
        simp only [Act.put, List.setIfInBounds_toArray, List.set_cons_zero, List.set_cons_succ]
        refine det_take (i := 8) (d := some 53) (l' := #[true, true, true, true, true, true, true, true, true, false, false, false, false, false, false, false, false, false, false, false, false, false]) (v := .int .i64 0) rfl rfl rfl (by kernel_rfl) (by kernel_rfl) (by kernel_rfl) (Or.inl ⟨by rfl, ?_⟩) ?_
        · intro w9 hS
          go_simp
          exact ⟨rfl, hS⟩
        simp only [Act.put, List.setIfInBounds_toArray, List.set_cons_zero, List.set_cons_succ]
        refine det_take (i := 9) (d := some 54) (l' := #[true, true, true, true, true, true, true, true, true, true, false, false, false, false, false, false, false, false, false, false, false, false]) (v := .bool false) rfl rfl rfl (by kernel_rfl) (by kernel_rfl) (by kernel_rfl) (Or.inl ⟨by rfl, ?_⟩) ?_
        · intro w9 hS
          go_simp
          first | exact ⟨rfl, hS⟩ | exact ⟨by simp, hS⟩
        simp only [Act.put, List.setIfInBounds_toArray, List.set_cons_zero, List.set_cons_succ]
        refine det_take (i := 10) (d := some 55) (l' := #[true, true, true, true, true, true, true, true, true, true, true, false, false, false, false, false, false, false, false, false, false, false]) (v := .pointer (some ⟨wr.heap.size, 0, none⟩)) rfl rfl rfl (by kernel_rfl) (by kernel_rfl) (by kernel_rfl) (Or.inl ⟨by rfl, ?_⟩) ?_
        · intro w9 hS
          go_simp
          exact ⟨rfl, hS⟩
        simp only [Act.put, List.setIfInBounds_toArray, List.set_cons_zero, List.set_cons_succ]
        refine det_take (i := 11) (d := some 56) (l' := #[true, true, true, true, true, true, true, true, true, true, true, true, false, false, false, false, false, false, false, false, false, false]) (v := .pointer (some ⟨wr.heap.size, 0, none⟩)) rfl rfl rfl (by kernel_rfl) (by kernel_rfl) (by kernel_rfl) (Or.inl ⟨by rfl, ?_⟩) ?_
        · intro w9 hS
          go_simp
          exact ⟨rfl, hS⟩
        simp only [Act.put, List.setIfInBounds_toArray, List.set_cons_zero, List.set_cons_succ]
        refine det_take (i := 12) (d := some 57) (l' := #[true, true, true, true, true, true, true, true, true, true, true, true, true, false, false, false, false, false, false, false, false, false]) (v := .int .u8 x.kind) rfl rfl rfl (by kernel_rfl) (by kernel_rfl) (by kernel_rfl) (Or.inl ⟨by rfl, ?_⟩) ?_
        · intro w9 hS
          have l0 := hS.bp.cell 0
          have l1 := hS.bp.cell 1
          have l2 := hS.bp.cell 2
          have l3 := hS.bp.cell 3
          have l4 := hS.bp.cell 4
          have l5 := hS.bp.cell 5
          have l6 := hS.bp.cell 6
          have l7 := hS.bp.cell 7
          simp only [fitBox, List.getElem?_toArray, List.getElem?_cons_zero, List.getElem?_cons_succ] at l0 l1 l2 l3 l4 l5 l6 l7
          go_simp
          exact ⟨rfl, hS⟩
        simp only [Act.put, List.setIfInBounds_toArray, List.set_cons_zero, List.set_cons_succ]
        refine det_take (i := 13) (d := some 58) (l' := #[true, true, true, true, true, true, true, true, true, true, true, true, true, true, false, false, false, false, false, false, false, false]) (v := .bool true) rfl rfl rfl (by kernel_rfl) (by kernel_rfl) (by kernel_rfl) (Or.inl ⟨by rfl, ?_⟩) ?_
        · intro w9 hS
          go_simp
          first | exact ⟨rfl, hS⟩ | exact ⟨by simp; omega, hS⟩ | exact ⟨by simp [*], hS⟩
        simp only [Act.put, List.setIfInBounds_toArray, List.set_cons_zero, List.set_cons_succ]
        refine det_take (i := 14) (d := some 59) (l' := #[true, true, true, true, true, true, true, true, true, true, true, true, true, true, true, false, false, false, false, false, false, false]) (v := .bool true) rfl rfl rfl (by kernel_rfl) (by kernel_rfl) (by kernel_rfl) (Or.inl ⟨by rfl, ?_⟩) ?_
        · intro w9 hS
          go_simp
          exact ⟨rfl, hS⟩
        simp only [Act.put, List.setIfInBounds_toArray, List.set_cons_zero, List.set_cons_succ]
        refine det_take (i := 15) (d := some 60) (l' := #[true, true, true, true, true, true, true, true, true, true, true, true, true, true, true, true, false, false, false, false, false, false]) (v := .pointer (some ⟨wr.heap.size, 0, none⟩)) rfl rfl rfl (by kernel_rfl) (by kernel_rfl) (by kernel_rfl) (Or.inl ⟨by rfl, ?_⟩) ?_
        · intro w9 hS
          go_simp
          exact ⟨rfl, hS⟩
        simp only [Act.put, List.setIfInBounds_toArray, List.set_cons_zero, List.set_cons_succ]
        refine det_take (i := 16) (d := some 61) (l' := #[true, true, true, true, true, true, true, true, true, true, true, true, true, true, true, true, true, false, false, false, false, false]) (v := .pointer (some ⟨wr.heap.size, 0, none⟩)) rfl rfl rfl (by kernel_rfl) (by kernel_rfl) (by kernel_rfl) (Or.inl ⟨by rfl, ?_⟩) ?_
        · intro w9 hS
          go_simp
          exact ⟨rfl, hS⟩
        simp only [Act.put, List.setIfInBounds_toArray, List.set_cons_zero, List.set_cons_succ]
        refine det_take (i := 17) (d := some 62) (l' := #[true, true, true, true, true, true, true, true, true, true, true, true, true, true, true, true, true, true, false, false, false, false]) (v := .int .u8 x.kind) rfl rfl rfl (by kernel_rfl) (by kernel_rfl) (by kernel_rfl) (Or.inl ⟨by rfl, ?_⟩) ?_
        · intro w9 hS
          have l0 := hS.bp.cell 0
          have l1 := hS.bp.cell 1
          have l2 := hS.bp.cell 2
          have l3 := hS.bp.cell 3
          have l4 := hS.bp.cell 4
          have l5 := hS.bp.cell 5
          have l6 := hS.bp.cell 6
          have l7 := hS.bp.cell 7
          simp only [fitBox, List.getElem?_toArray, List.getElem?_cons_zero, List.getElem?_cons_succ] at l0 l1 l2 l3 l4 l5 l6 l7
          go_simp
          exact ⟨rfl, hS⟩
        simp only [Act.put, List.setIfInBounds_toArray, List.set_cons_zero, List.set_cons_succ]
        refine det_take (i := 18) (d := some 63) (l' := #[true, true, true, true, true, true, true, true, true, true, true, true, true, true, true, true, true, true, true, false, false, false]) (v := .bool false) rfl rfl rfl (by kernel_rfl) (by kernel_rfl) (by kernel_rfl) (Or.inl ⟨by rfl, ?_⟩) ?_
        · intro w9 hS
          go_simp
          first | exact ⟨rfl, hS⟩ | exact ⟨by simp; omega, hS⟩ | exact ⟨by simp [*], hS⟩
        simp only [Act.put, List.setIfInBounds_toArray, List.set_cons_zero, List.set_cons_succ]
        refine det_take (i := 19) (d := some 64) (l' := #[true, true, true, true, true, true, true, true, true, true, true, true, true, true, true, true, true, true, true, true, false, false]) (v := .bool false) rfl rfl rfl (by kernel_rfl) (by kernel_rfl) (by kernel_rfl) (Or.inl ⟨by rfl, ?_⟩) ?_
        · intro w9 hS
          go_simp
          exact ⟨rfl, hS⟩
        simp only [Act.put, List.setIfInBounds_toArray, List.set_cons_zero, List.set_cons_succ]
        refine det_take (i := 20) (d := some 65) (l' := #[true, true, true, true, true, true, true, true, true, true, true, true, true, true, true, true, true, true, true, true, true, false]) (v := .bool false) rfl rfl rfl (by kernel_rfl) (by kernel_rfl) (by kernel_rfl) (Or.inl ⟨by rfl, ?_⟩) ?_
        · intro w9 hS
          go_simp
          first | exact ⟨rfl, hS⟩ | exact ⟨by simp, hS⟩
        simp only [Act.put, List.setIfInBounds_toArray, List.set_cons_zero, List.set_cons_succ]
        refine det_take (i := 21) (d := some 66) (l' := #[true, true, true, true, true, true, true, true, true, true, true, true, true, true, true, true, true, true, true, true, true, true]) (v := .bool false) rfl rfl rfl (by kernel_rfl) (by kernel_rfl) (by kernel_rfl) (Or.inl ⟨by rfl, ?_⟩) ?_
        · intro w9 hS
          go_simp
          exact ⟨rfl, hS⟩
        simp only [Act.put, List.setIfInBounds_toArray, List.set_cons_zero, List.set_cons_succ]
        refine det_done (by kernel_rfl) ?_ _
        intro w4 hS
        have HS4 := Lib.hid hS.ft
        clear hS HS HB
        go_wp2
        go_roundw
        case rel => exact ⟨k + 1, by omega, by go_num, HS4⟩
        case measure => simp [intOf]; omega
    · obtain rfl : k = 13 := by omega
      go_wp2
      go_ret
      exact Ret.of rfl HS.out.far
end Go.Proofs.YthhhdddojmkgnaaGreatDoor
