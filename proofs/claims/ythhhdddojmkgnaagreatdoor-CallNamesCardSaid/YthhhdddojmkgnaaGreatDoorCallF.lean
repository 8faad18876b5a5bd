/-
  call.Fits.
-/
import Derived.Test.YthhhdddojmkgnaaGreatDoorCallY
namespace Go.Proofs.YthhhdddojmkgnaaGreatDoor
open Go.RowKit

/-- What call.Fits answers. -/
def fitsB (c : CfgR) (x : CallR) : Bool :=
  if x.kind = 5 then lenOk c (bs x.key) 0 c.keylen && lenOk c (bs x.en) 0 c.keylen && decide (0 ≤ x.lim) && decide (x.lim ≤ 128)
  else if keyedF x.kind then lenOk c (bs x.key) 1 c.keylen && (decide (x.kind ≠ 3) || lenOk c (bs x.va) 0 c.vallen)
  else true
def fitsN (c : CfgR) (x : CallR) : Int := if fitsB c x then 0 else 32

set_option maxHeartbeats 4000000 in
theorem fits_any (c : CfgR) (x : CallR) (w : World) (h1 : x.key.length ≤ 1000000000) (h2 : x.en.length ≤ 1000000000) (h3 : x.va.length ≤ 1000000000) :
    Calls Tryz.prog 23 #[cfgV c, callV x] w (Ret w (.int .i64 (fitsN c x))) := by
  obtain ⟨t1, t2, t3, t4, t5, t6, t7, t8⟩ := c
  obtain ⟨k, tx, key, en, va, lim, eng⟩ := x
  have hv : callV ⟨k, tx, key, en, va, lim, eng⟩ = .agg #[.int .u8 k, .int .i64 tx, .string (bs key), .string (bs en), .string (bs va), .int .i64 lim, .int .u8 eng] := rfl
  have hcv : cfgV ⟨t1, t2, t3, t4, t5, t6, t7, t8⟩ = .agg #[.int .i64 t1, .int .i64 t2, .int .i64 t3, .int .i64 t4, .int .i64 t5, .int .i64 t6, .int .i64 t7, .int .i64 t8] := rfl
  rw [hv, hcv]
  clear hv hcv
  have g1 : (bs key).size ≤ 9223372036854775807 := by rw [bs_size]; exact Nat.le_trans h1 (by decide)
  have g2 : (bs en).size ≤ 9223372036854775807 := by rw [bs_size]; exact Nat.le_trans h2 (by decide)
  have g3 : (bs va).size ≤ 9223372036854775807 := by rw [bs_size]; exact Nat.le_trans h3 (by decide)
  by_cases k5 : k = 5
  · subst k5
    cases ha : lenOk ⟨t1, t2, t3, t4, t5, t6, t7, t8⟩ (bs key) 0 t6
    · have Ha := Lib.hid ha
      have hf : fitsN ⟨t1, t2, t3, t4, t5, t6, t7, t8⟩ ⟨5, tx, key, en, va, lim, eng⟩ = 32 := by simp [fitsN, fitsB, ha]
      have Hf := Lib.hid hf
      clear hf
      clear ha
      go_enter Tryz.func23, Tryz.ntmps23
      go_wp2_with (first | (go_at_call 54; refine (textBound ⟨t1, t2, t3, t4, t5, t6, t7, t8⟩ (bs _) _ (by rw [bs_size]; omega)).mono ?_; rw [Ha.out]; rintro e w' ⟨rfl, hbHa⟩; obtain ⟨hkHa, hfHa⟩ := bcell hbHa))
      go_ret
      exact Ret.of (by rw [Hf.out]; rfl) (Below.trans (by go_grown) (hbHa.mono (by simp; omega)))
    have Ha := Lib.hid ha
    cases hb : lenOk ⟨t1, t2, t3, t4, t5, t6, t7, t8⟩ (bs en) 0 t6
    · have Hb := Lib.hid hb
      have hf : fitsN ⟨t1, t2, t3, t4, t5, t6, t7, t8⟩ ⟨5, tx, key, en, va, lim, eng⟩ = 32 := by simp [fitsN, fitsB, ha, hb]
      have Hf := Lib.hid hf
      clear hf
      clear ha hb
      go_enter Tryz.func23, Tryz.ntmps23
      go_wp2_with (first | (go_at_call 54; refine (textBound ⟨t1, t2, t3, t4, t5, t6, t7, t8⟩ (bs _) _ (by rw [bs_size]; omega)).mono ?_; rw [Ha.out]; rintro e w' ⟨rfl, hbHa⟩; obtain ⟨hkHa, hfHa⟩ := bcell hbHa) | (go_at_call 54; refine (textBound ⟨t1, t2, t3, t4, t5, t6, t7, t8⟩ (bs _) _ (by rw [bs_size]; omega)).mono ?_; rw [Hb.out]; rintro e w' ⟨rfl, hbHb⟩; obtain ⟨hkHb, hfHb⟩ := bcell (hbHa.trans (hbHb.mono hbHa.size))))
      go_ret
      exact Ret.of (by rw [Hf.out]; rfl) (Below.trans (Below.trans (by go_grown) (hbHa.mono (by simp; omega))) (hbHb.mono (by have := hbHa.size; simp at this; omega)))
    have Hb := Lib.hid hb
    by_cases hl : 0 ≤ lim
    · by_cases hm : lim ≤ 128
      · have hf : fitsN ⟨t1, t2, t3, t4, t5, t6, t7, t8⟩ ⟨5, tx, key, en, va, lim, eng⟩ = 0 := by simp [fitsN, fitsB, ha, hb, hl, hm]
        have Hf := Lib.hid hf
        clear hf ha hb
        go_enter Tryz.func23, Tryz.ntmps23
        go_wp2_with (first | (go_at_call 54; refine (textBound ⟨t1, t2, t3, t4, t5, t6, t7, t8⟩ (bs _) _ (by rw [bs_size]; omega)).mono ?_; rw [Ha.out]; rintro e w' ⟨rfl, hbHa⟩; obtain ⟨hkHa, hfHa⟩ := bcell hbHa) | (go_at_call 54; refine (textBound ⟨t1, t2, t3, t4, t5, t6, t7, t8⟩ (bs _) _ (by rw [bs_size]; omega)).mono ?_; rw [Hb.out]; rintro e w' ⟨rfl, hbHb⟩; obtain ⟨hkHb, hfHb⟩ := bcell (hbHa.trans (hbHb.mono hbHa.size))))
        go_ret
        exact Ret.of (by rw [Hf.out]; rfl) (Below.trans (Below.trans (by go_grown) (hbHa.mono (by simp; omega))) (hbHb.mono (by have := hbHa.size; simp at this; omega)))
      · have hf : fitsN ⟨t1, t2, t3, t4, t5, t6, t7, t8⟩ ⟨5, tx, key, en, va, lim, eng⟩ = 32 := by simp [fitsN, fitsB, ha, hb, hl, hm]
        have Hf := Lib.hid hf
        clear hf ha hb
        go_enter Tryz.func23, Tryz.ntmps23
        go_wp2_with (first | (go_at_call 54; refine (textBound ⟨t1, t2, t3, t4, t5, t6, t7, t8⟩ (bs _) _ (by rw [bs_size]; omega)).mono ?_; rw [Ha.out]; rintro e w' ⟨rfl, hbHa⟩; obtain ⟨hkHa, hfHa⟩ := bcell hbHa) | (go_at_call 54; refine (textBound ⟨t1, t2, t3, t4, t5, t6, t7, t8⟩ (bs _) _ (by rw [bs_size]; omega)).mono ?_; rw [Hb.out]; rintro e w' ⟨rfl, hbHb⟩; obtain ⟨hkHb, hfHb⟩ := bcell (hbHa.trans (hbHb.mono hbHa.size))))
        go_ret
        exact Ret.of (by rw [Hf.out]; rfl) (Below.trans (Below.trans (by go_grown) (hbHa.mono (by simp; omega))) (hbHb.mono (by have := hbHa.size; simp at this; omega)))
        rename_i hq
        have hq2 : lim ≤ 128 := by simpa using hq
        omega
    · have hf : fitsN ⟨t1, t2, t3, t4, t5, t6, t7, t8⟩ ⟨5, tx, key, en, va, lim, eng⟩ = 32 := by simp [fitsN, fitsB, ha, hb, hl]
      have Hf := Lib.hid hf
      clear hf ha hb
      go_enter Tryz.func23, Tryz.ntmps23
      go_wp2_with (first | (go_at_call 54; refine (textBound ⟨t1, t2, t3, t4, t5, t6, t7, t8⟩ (bs _) _ (by rw [bs_size]; omega)).mono ?_; rw [Ha.out]; rintro e w' ⟨rfl, hbHa⟩; obtain ⟨hkHa, hfHa⟩ := bcell hbHa) | (go_at_call 54; refine (textBound ⟨t1, t2, t3, t4, t5, t6, t7, t8⟩ (bs _) _ (by rw [bs_size]; omega)).mono ?_; rw [Hb.out]; rintro e w' ⟨rfl, hbHb⟩; obtain ⟨hkHb, hfHb⟩ := bcell (hbHa.trans (hbHb.mono hbHa.size))))
      go_ret
      exact Ret.of (by rw [Hf.out]; rfl) (Below.trans (Below.trans (by go_grown) (hbHa.mono (by simp; omega))) (hbHb.mono (by have := hbHa.size; simp at this; omega)))
  have k5' : ((k : Int) == 5) = false := by rw [beq_eq_false_iff_ne]; omega
  by_cases hkd : 2 ≤ k ∧ k ≤ 5
  · obtain ⟨q1, q2⟩ := hkd
    cases ha : lenOk ⟨t1, t2, t3, t4, t5, t6, t7, t8⟩ (bs key) 1 t6
    · have hf : fitsN ⟨t1, t2, t3, t4, t5, t6, t7, t8⟩ ⟨k, tx, key, en, va, lim, eng⟩ = 32 := by simp [fitsN, fitsB, keyedF, ha, k5, q1, q2]
      have Ha := Lib.hid ha
      have Hf := Lib.hid hf
      clear hf ha k5
      go_enter Tryz.func23, Tryz.ntmps23
      go_wp2_with (first | (go_at_call 52; refine (keyed_t _ _ (by omega) (by omega)).mono ?_; rintro e w' ⟨rfl, rfl⟩) | (go_at_call 55; refine (textKey ⟨t1, t2, t3, t4, t5, t6, t7, t8⟩ (bs _) _ (by rw [bs_size]; omega)).mono ?_; rw [Ha.out]; rintro e w' ⟨rfl, hbHa⟩; obtain ⟨hkHa, hfHa⟩ := bcell hbHa))
      go_ret
      exact Ret.of (by rw [Hf.out]; rfl) (Below.trans (by go_grown) (hbHa.mono (by simp; omega)))
    have Ha := Lib.hid ha
    by_cases k3 : k = 3
    · subst k3
      cases hb : lenOk ⟨t1, t2, t3, t4, t5, t6, t7, t8⟩ (bs va) 0 t7
      · have hf : fitsN ⟨t1, t2, t3, t4, t5, t6, t7, t8⟩ ⟨3, tx, key, en, va, lim, eng⟩ = 32 := by simp [fitsN, fitsB, keyedF, ha, hb]
        have Hb := Lib.hid hb
        have Hf := Lib.hid hf
        clear hf ha hb k5
        go_enter Tryz.func23, Tryz.ntmps23
        go_wp2_with (first | (go_at_call 52; refine (keyed_t _ _ (by omega) (by omega)).mono ?_; rintro e w' ⟨rfl, rfl⟩) | (go_at_call 55; refine (textKey ⟨t1, t2, t3, t4, t5, t6, t7, t8⟩ (bs _) _ (by rw [bs_size]; omega)).mono ?_; rw [Ha.out]; rintro e w' ⟨rfl, hbHa⟩; obtain ⟨hkHa, hfHa⟩ := bcell hbHa) | (go_at_call 56; refine (textValue ⟨t1, t2, t3, t4, t5, t6, t7, t8⟩ (bs _) _ (by rw [bs_size]; omega)).mono ?_; rw [Hb.out]; rintro e w' ⟨rfl, hbHb⟩; obtain ⟨hkHb, hfHb⟩ := bcell (hbHa.trans (hbHb.mono hbHa.size))))
        go_ret
        exact Ret.of (by rw [Hf.out]; rfl) (Below.trans (Below.trans (by go_grown) (hbHa.mono (by simp; omega))) (hbHb.mono (by have := hbHa.size; simp at this; omega)))
      · have hf : fitsN ⟨t1, t2, t3, t4, t5, t6, t7, t8⟩ ⟨3, tx, key, en, va, lim, eng⟩ = 0 := by simp [fitsN, fitsB, keyedF, ha, hb]
        have Hb := Lib.hid hb
        have Hf := Lib.hid hf
        clear hf ha hb k5
        go_enter Tryz.func23, Tryz.ntmps23
        go_wp2_with (first | (go_at_call 52; refine (keyed_t _ _ (by omega) (by omega)).mono ?_; rintro e w' ⟨rfl, rfl⟩) | (go_at_call 55; refine (textKey ⟨t1, t2, t3, t4, t5, t6, t7, t8⟩ (bs _) _ (by rw [bs_size]; omega)).mono ?_; rw [Ha.out]; rintro e w' ⟨rfl, hbHa⟩; obtain ⟨hkHa, hfHa⟩ := bcell hbHa) | (go_at_call 56; refine (textValue ⟨t1, t2, t3, t4, t5, t6, t7, t8⟩ (bs _) _ (by rw [bs_size]; omega)).mono ?_; rw [Hb.out]; rintro e w' ⟨rfl, hbHb⟩; obtain ⟨hkHb, hfHb⟩ := bcell (hbHa.trans (hbHb.mono hbHa.size))))
        go_ret
        exact Ret.of (by rw [Hf.out]; rfl) (Below.trans (Below.trans (by go_grown) (hbHa.mono (by simp; omega))) (hbHb.mono (by have := hbHa.size; simp at this; omega)))
    · have hf : fitsN ⟨t1, t2, t3, t4, t5, t6, t7, t8⟩ ⟨k, tx, key, en, va, lim, eng⟩ = 0 := by simp [fitsN, fitsB, keyedF, ha, k5, k3, q1, q2]
      have k3' : ((k : Int) != 3) = true := by rw [bne_iff_ne]; omega
      have Hf := Lib.hid hf
      clear hf ha k5 k3
      go_enter Tryz.func23, Tryz.ntmps23
      go_wp2_with (first | (go_at_call 52; refine (keyed_t _ _ (by omega) (by omega)).mono ?_; rintro e w' ⟨rfl, rfl⟩) | (go_at_call 55; refine (textKey ⟨t1, t2, t3, t4, t5, t6, t7, t8⟩ (bs _) _ (by rw [bs_size]; omega)).mono ?_; rw [Ha.out]; rintro e w' ⟨rfl, hbHa⟩; obtain ⟨hkHa, hfHa⟩ := bcell hbHa))
      go_ret
      exact Ret.of (by rw [Hf.out]; rfl) (Below.trans (by go_grown) (hbHa.mono (by simp; omega)))
  · have q : k < 2 ∨ 5 < k := by omega
    have hf : fitsN ⟨t1, t2, t3, t4, t5, t6, t7, t8⟩ ⟨k, tx, key, en, va, lim, eng⟩ = 0 := by
      have : keyedF k = false := by simp [keyedF]; omega
      simp [fitsN, fitsB, this, k5]
    have Hf := Lib.hid hf
    clear hf hkd k5
    have q' : (k : Int) < 2 ∨ 5 < (k : Int) := by omega
    go_enter Tryz.func23, Tryz.ntmps23
    go_wp2_with (first | (go_at_call 52; refine (keyed_f _ _ (by omega)).mono ?_; rintro e w' ⟨rfl, rfl⟩))
    go_ret
    exact Ret.of (by rw [Hf.out]; rfl) (by go_grown)
end Go.Proofs.YthhhdddojmkgnaaGreatDoor
