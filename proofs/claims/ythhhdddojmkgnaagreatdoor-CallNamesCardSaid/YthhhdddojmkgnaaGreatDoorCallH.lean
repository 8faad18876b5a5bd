/-
  call.hex: a text's word.
-/
import Derived.Test.YthhhdddojmkgnaaGreatDoorCallW
import Derived.Lib.ConvBytes
namespace Go.Proofs.YthhhdddojmkgnaaGreatDoor
open Go.RowKit

theorem hexL_length (l : Bs) : (hexL l).length = 2 * l.length := by
  induction l with
  | nil => rfl
  | cons c r ih => simp [hexL, ih]; omega
theorem hexL_append (a b : Bs) : hexL (a ++ b) = hexL a ++ hexL b := by
  induction a with
  | nil => rfl
  | cons c r ih => simp [hexL, ih]
theorem hexL_take_succ (s : Bs) (k : Nat) (h : k < s.length) : hexL (s.take (k + 1)) = hexL (s.take k) ++ [hexDig (s[k].toNat / 16)] ++ [hexDig (s[k].toNat % 16)] := by
  rw [List.take_succ_eq_append_getElem h, hexL_append]; simp [hexL]

def digs : ByteArray := ⟨#[48, 49, 50, 51, 52, 53, 54, 55, 56, 57, 97, 98, 99, 100, 101, 102]⟩
theorem digs_at (n : Nat) (h : n < 16) : digs.data.toList.getD n 0 = hexDig n := by
  have : ∀ i : Fin 16, digs.data.toList.getD i.val 0 = hexDig i.val := by decide
  exact this ⟨n, h⟩
theorem digs_get (n : Nat) (h : n < 16) (hp : n < (ByteArray.mk #[48, 49, 50, 51, 52, 53, 54, 55, 56, 57, 97, 98, 99, 100, 101, 102]).size) : (ByteArray.mk #[48, 49, 50, 51, 52, 53, 54, 55, 56, 57, 97, 98, 99, 100, 101, 102])[n]'hp = hexDig n := by
  rw [← digs_at n h]
  show _ = digs.data.toList.getD n 0
  simp only [List.getD_eq_getElem?_getD]
  rw [List.getElem?_eq_getElem (by simpa [digs] using h)]
  rfl

set_option maxHeartbeats 1000000 in
theorem hex_any (s : Bs) (w : World) (hs : s.length ≤ 1000000000) :
    Calls Tryz.prog 46 #[.string (bs s)] w (Ret w (.string (bs (hexF s)))) := by
  have hcv := fun wx => Lib.run_convert_string_bytes (P := Tryz.prog) wx 9 61 5 (bs s) Tryz.underlying9 Tryz.underlying61 Tryz.underlying5
  go_enter Tryz.func46, Tryz.ntmps46
  go_wp2
  go_loopw [9] (fun i wr => ∃ k : Nat, k ≤ s.length ∧ i = .int .i64 k ∧ Hid (Bld wr (w.heap.size + 2) w.heap.size (hexL (s.take k))) ∧ Hid (Keep (w.heap.size + 2) w.heap.size (Lib.bytesWorld (w.alloc (.cells #[.pointer none, .slice none 0 0] 90)) 5 (bs s)) wr)) (fun i _ => s.length - (intOf i).toNat)
  case atStart => exact ⟨0, Nat.zero_le _, rfl, (bld_fresh w _).below (Lib.bytesWorld_below _ _ _), Keep.refl _ _ _⟩
  case round =>
    obtain ⟨k, hk, rfl, HB, HK⟩ := hrel
    by_cases hlt : k < s.length
    · have hlt' := hlt
      have hcell : wr.cell? ⟨w.heap.size + 1, k, none⟩ = some (.int .u8 (s[k].toNat : Int)) := by
        have h1 := Lib.bytesWorld_cell (w.alloc (.cells #[.pointer none, .slice none 0 0] 90)) 5 (bs s) k (by rw [bs_size]; exact hlt)
        rw [World.size_alloc] at h1
        rw [World.cell?_of_block (HK.out.block (w.heap.size + 1) (by omega) (by omega)), h1, bs_data]
        simp [List.getD_eq_getElem?_getD, List.getElem?_eq_getElem hlt']
      have Hn := Lib.hid (hexL_take_succ s k hlt')
      have hl1 : (hexL (s.take k)).length ≤ 2000000000 := by rw [hexL_length, List.length_take]; omega
      have hsw := HK.out.size
      rw [Lib.bytesWorld_size, World.size_alloc] at hsw
      generalize hc : s[k] = c at hcell Hn
      have hb := c.toNat_lt
      clear hc
      go_wp2_with fail
      refine (writeByte (w.heap.size + 2) w.heap.size _ _ _ rfl _ HB.out (by omega) (by omega)).mono ?_
      rintro e w1 ⟨rfl, hB1, hK1⟩
      have HB1 := Lib.hid hB1
      have HK1 := Lib.hid hK1
      have hsw1 := hK1.size
      clear hB1 hK1
      go_wp2_with fail
      refine (writeByte (w.heap.size + 2) w.heap.size _ _ _ rfl _ HB1.out (by simp; omega) (by omega)).mono ?_
      rintro e w2 ⟨rfl, hB2, hK2⟩
      rw [digs_get _ (by omega), digs_get _ (by omega), ← Hn.out] at hB2
      have HB2 := Lib.hid hB2
      have HK2 := Lib.hid (HK.out.trans (HK1.out.trans hK2))
      clear hB2 hK2 HB1 HB HK HK1 hcell
      go_wp2
      go_roundw
      case rel => exact ⟨k + 1, by omega, by go_num, HB2, HK2⟩
      case measure => simp [intOf]; omega
    · have hke : k = s.length := by omega
      subst hke
      have hsw := HK.out.size
      rw [Lib.bytesWorld_size, World.size_alloc] at hsw
      have hb0 : Below w.heap.size w wr := HK.out.below (((Below.refl _ _).alloc (Nat.le_refl _) _).trans ((Lib.bytesWorld_below _ _ _).mono (by simp))) (by omega) (Nat.le_refl _)
      have Hb0 := Lib.hid hb0
      have hB : Bld wr (w.heap.size + 2) w.heap.size (hexL s) := by
        have := HB.out
        rwa [List.take_length] at this
      have HB' := Lib.hid hB
      clear hB hb0 HB HK
      by_cases he : s = []
      · subst he
        go_wp2
        go_ret
        exact Ret.of rfl Hb0.out
      · have he1 : (s == []) = false := by simpa using he
        have He := Lib.hid he
        clear he
        go_wp2_with fail
        refine (Tryz.Builder_String_any w.heap.size w.heap.size (hexL s) wr (HB'.out.is (by omega)) (by omega)).mono ?_
        rintro e w' ⟨rfl, hb'⟩
        have Hb' := Lib.hid (Hb0.out.trans hb')
        clear hb'
        go_wp2
        go_ret
        exact Ret.of (by rw [hexF, if_neg He.out]; rfl) Hb'.out
end Go.Proofs.YthhhdddojmkgnaaGreatDoor
