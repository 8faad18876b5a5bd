/-
  strconv.ParseUint of two bytes at base 16, 8 bits.
-/
import Derived.Test.YthhhdddojmkgnaaGreatDoorCallN
namespace Go.Proofs.YthhhdddojmkgnaaGreatDoor
open Go.RowKit

theorem lower_all : ∀ c : Fin 256, (65 ≤ c.val → c.val ≤ 90 → bits .or .u8 (c.val : Int) 32 = (c.val : Int) + 32) ∧ (97 ≤ c.val → c.val ≤ 122 → bits .or .u8 (c.val : Int) 32 = (c.val : Int)) ∧
    ((c.val < 65 ∨ 90 < c.val) → (c.val < 97 ∨ 122 < c.val) → bits .or .u8 (c.val : Int) 32 < 97 ∨ 122 < bits .or .u8 (c.val : Int) 32) := by decide +kernel

theorem lower_u (c : UInt8) (w : World) (h1 : 65 ≤ (c.toNat : Int)) (h2 : (c.toNat : Int) ≤ 90) : Calls Tryz.prog 97 #[.int .u8 c.toNat] w fun e w' => e = .returned (.int .u8 ((c.toNat : Int) + 32)) ∧ w = w' := by
  have := (lower_all ⟨c.toNat, c.toNat_lt⟩).1 (by simp; omega) (by simp; omega)
  refine (Tryz.internal_strconv_lower c.toNat w).mono ?_
  rintro e w' ⟨rfl, rfl⟩
  exact ⟨by rw [this], rfl⟩
theorem lower_l (c : UInt8) (w : World) (h1 : 97 ≤ (c.toNat : Int)) (h2 : (c.toNat : Int) ≤ 122) : Calls Tryz.prog 97 #[.int .u8 c.toNat] w fun e w' => e = .returned (.int .u8 (c.toNat : Int)) ∧ w = w' := by
  have := (lower_all ⟨c.toNat, c.toNat_lt⟩).2.1 (by simp; omega) (by simp; omega)
  refine (Tryz.internal_strconv_lower c.toNat w).mono ?_
  rintro e w' ⟨rfl, rfl⟩
  exact ⟨by rw [this], rfl⟩
def lowv (c : UInt8) : Int := bits .or .u8 (c.toNat : Int) 32
theorem lowv_o (c : UInt8) (h1 : (c.toNat : Int) < 65 ∨ 90 < (c.toNat : Int)) (h2 : (c.toNat : Int) < 97 ∨ 122 < (c.toNat : Int)) : lowv c < 97 ∨ 122 < lowv c :=
  (lower_all ⟨c.toNat, c.toNat_lt⟩).2.2 (by simp; omega) (by simp; omega)
theorem lower_o (c : UInt8) (w : World) : Calls Tryz.prog 97 #[.int .u8 c.toNat] w fun e w' => e = .returned (.int .u8 (lowv c)) ∧ w = w' := by
  refine (Tryz.internal_strconv_lower c.toNat w).mono ?_
  rintro e w' ⟨rfl, rfl⟩
  exact ⟨rfl, rfl⟩
theorem lower_95 (w : World) : Calls Tryz.prog 97 #[.int .u8 95] w fun e w' => e = .returned (.int .u8 127) ∧ w = w' := by
  refine (Tryz.internal_strconv_lower 95 w).mono ?_
  rintro e w' ⟨rfl, rfl⟩
  exact ⟨rfl, rfl⟩

/-- What the first k of two digits say. -/
def Val2 (a b : UInt8) (k m : Nat) : Prop := (k = 0 ∧ m = 0) ∨ (k = 1 ∧ hexVal a = some m) ∨ (k = 2 ∧ ∃ x y, hexVal a = some x ∧ hexVal b = some y ∧ m = 16 * x + y)

/-- How the inner one ends. -/
def PU (a b : UInt8) (w : World) (e : Ending) (w' : World) : Prop :=
  Below w.heap.size w w' ∧ ((∃ x y, hexVal a = some x ∧ hexVal b = some y ∧ e = .returned (.tuple #[.int .u64 ((16 * x + y : Nat) : Int), .nilIface])) ∨
    ((hexVal a = none ∨ hexVal b = none) ∧ e = .returned (.tuple #[.int .u64 0, .iface 113 (.int .i64 2)])))

theorem hexVal_lt {c : UInt8} {x : Nat} (h : hexVal c = some x) : x < 16 := by
  unfold hexVal at h
  split at h
  · injection h; omega
  · split at h
    · injection h; omega
    · split at h
      · injection h; omega
      · cases h

def chr2 (a b : UInt8) (k : Nat) : UInt8 := if k = 0 then a else b
theorem Val2.step {a b : UInt8} {k m x : Nat} (h : Val2 a b k m) (hk : k < 2) (hx : hexVal (chr2 a b k) = some x) : Val2 a b (k + 1) (16 * m + x) := by
  rcases h with ⟨rfl, rfl⟩ | ⟨rfl, hm⟩ | ⟨rfl, _⟩
  · exact .inr (.inl ⟨rfl, by simpa [chr2] using hx⟩)
  · exact .inr (.inr ⟨rfl, m, x, hm, by simpa [chr2] using hx, rfl⟩)
  · omega
theorem Val2.none {a b : UInt8} {k : Nat} (hx : hexVal (chr2 a b k) = none) : hexVal a = none ∨ hexVal b = none := by
  unfold chr2 at hx
  split at hx
  · exact .inl hx
  · exact .inr hx
theorem Val2.done {a b : UInt8} {m : Nat} (h : Val2 a b 2 m) : ∃ x y, hexVal a = some x ∧ hexVal b = some y ∧ m = 16 * x + y := by
  rcases h with ⟨h, _⟩ | ⟨h, _⟩ | ⟨_, h⟩
  · omega
  · omega
  · exact h
theorem Val2.le {a b : UInt8} {k m : Nat} (h : Val2 a b k m) (hk : k < 2) : m < 16 := by
  rcases h with ⟨_, rfl⟩ | ⟨_, h⟩ | ⟨h, _⟩
  · omega
  · exact hexVal_lt h
  · omega
/-- The six kinds of a byte. -/
theorem kinds (c : UInt8) : (48 ≤ (c.toNat : Int) ∧ (c.toNat : Int) ≤ 57 ∧ hexVal c = some (c.toNat - 48)) ∨
    (65 ≤ (c.toNat : Int) ∧ (c.toNat : Int) ≤ 70 ∧ hexVal c = some (c.toNat - 55)) ∨ (71 ≤ (c.toNat : Int) ∧ (c.toNat : Int) ≤ 90 ∧ hexVal c = none) ∨
    (97 ≤ (c.toNat : Int) ∧ (c.toNat : Int) ≤ 102 ∧ hexVal c = some (c.toNat - 87)) ∨ (103 ≤ (c.toNat : Int) ∧ (c.toNat : Int) ≤ 122 ∧ hexVal c = none) ∨
    (((c.toNat : Int) < 48 ∨ 57 < (c.toNat : Int)) ∧ ((c.toNat : Int) < 65 ∨ 90 < (c.toNat : Int)) ∧ ((c.toNat : Int) < 97 ∨ 122 < (c.toNat : Int)) ∧ hexVal c = none) := by
  unfold hexVal
  by_cases h1 : 48 ≤ c.toNat ∧ c.toNat ≤ 57
  · left; rw [if_pos h1]; exact ⟨by omega, by omega, rfl⟩
  rw [if_neg h1]
  by_cases h2 : 97 ≤ c.toNat ∧ c.toNat ≤ 102
  · right; right; right; left; rw [if_pos h2]; exact ⟨by omega, by omega, rfl⟩
  rw [if_neg h2]
  by_cases h3 : 65 ≤ c.toNat ∧ c.toNat ≤ 70
  · right; left; rw [if_pos h3]; exact ⟨by omega, by omega, rfl⟩
  rw [if_neg h3]
  by_cases h4 : 71 ≤ c.toNat ∧ c.toNat ≤ 90
  · right; right; left; exact ⟨by omega, by omega, rfl⟩
  by_cases h5 : 103 ≤ c.toNat ∧ c.toNat ≤ 122
  · right; right; right; right; left; exact ⟨by omega, by omega, rfl⟩
  right; right; right; right; right
  exact ⟨by omega, by omega, by omega, rfl⟩

set_option maxHeartbeats 2000000 in
set_option maxRecDepth 100000 in
theorem parseUintI (a b : UInt8) (w : World) :
    Calls Tryz.prog 78 #[.string (bs [a, b]), .int .i64 16, .int .i64 8] w (PU a b w) := by
  have hcv := fun wx => Lib.run_convert_string_bytes (P := Tryz.prog) wx 9 61 5 (bs [a, b]) Tryz.underlying9 Tryz.underlying61 Tryz.underlying5
  have h2 : (bs [a, b]).size = 2 := by simp [bs_size]
  go_enter Tryz.func78, Tryz.ntmps78
  go_wp2_with fail
  go_loop [12, 13, 101] (fun u n i => ∃ (k m : Nat) (q : Int), u = .bool false ∧ k ≤ 2 ∧ i = .int .i64 k ∧ n = .int .u64 q ∧ Hid (Val2 a b k m ∧ q = m)) (fun _ _ i => 2 - (intOf i).toNat)
  case atStart => exact ⟨0, 0, 0, rfl, by omega, rfl, rfl, .inl ⟨rfl, rfl⟩, rfl⟩
  case round =>
    obtain ⟨k, m, q, rfl, hk, rfl, rfl, HV⟩ := hrel
    by_cases hlt : k < 2
    · have hcell : (Lib.bytesWorld w 5 (bs [a, b])).cell? ⟨w.heap.size, k, none⟩ = some (.int .u8 ((chr2 a b k).toNat : Int)) := by
        rw [Lib.bytesWorld_cell w 5 (bs [a, b]) k (by rw [h2]; exact hlt), bs_data]
        rcases Nat.lt_or_ge k 1 with h | h
        · obtain rfl : k = 0 := by omega
          rfl
        · obtain rfl : k = 1 := by omega
          rfl
      have hm1 : q < 16 := by have := HV.out.1.le hlt; have := HV.out.2; omega
      have hm0 : 0 ≤ q := by have := HV.out.2; omega
      have Hs := Lib.hid (fun x => HV.out.1.step (x := x) hlt)
      have Hn := Lib.hid (Val2.none (a := a) (b := b) (k := k))
      have Hq := Lib.hid HV.out.2
      clear HV
      generalize chr2 a b k = c at *
      have hc := c.toNat_lt
      rcases kinds c with ⟨q1, q2, hv⟩ | ⟨q1, q2, hv⟩ | ⟨q1, q2, hv⟩ | ⟨q1, q2, hv⟩ | ⟨q1, q2, hv⟩ | ⟨q1, q2, q3, hv⟩
      all_goals
        have Hv := Lib.hid hv
        clear hv
      · go_wp2
        refine ⟨⟨k + 1, _, _, rfl, by omega, by go_num, rfl, Hs.out _ Hv.out, ?_⟩, by simp [intOf]; omega⟩
        rw [Hq.out]; omega
      · go_wp2_with (go_at_call 97; refine (lower_u c _ (by omega) (by omega)).mono ?_; rintro e w' ⟨rfl, rfl⟩)
        refine ⟨⟨k + 1, _, _, rfl, by omega, by go_num, rfl, Hs.out _ Hv.out, ?_⟩, by simp [intOf]; omega⟩
        rw [Hq.out]; omega
      · go_wp2_with (go_at_call 97; refine (lower_u c _ (by omega) (by omega)).mono ?_; rintro e w' ⟨rfl, rfl⟩)
        go_ret2
        exact ⟨Lib.bytesWorld_below _ _ _, .inr ⟨Hn.out Hv.out, rfl⟩⟩
      · go_wp2_with (go_at_call 97; refine (lower_l c _ (by omega) (by omega)).mono ?_; rintro e w' ⟨rfl, rfl⟩)
        refine ⟨⟨k + 1, _, _, rfl, by omega, by go_num, rfl, Hs.out _ Hv.out, ?_⟩, by simp [intOf]; omega⟩
        rw [Hq.out]; omega
      · go_wp2_with (go_at_call 97; refine (lower_l c _ (by omega) (by omega)).mono ?_; rintro e w' ⟨rfl, rfl⟩)
        go_ret2
        exact ⟨Lib.bytesWorld_below _ _ _, .inr ⟨Hn.out Hv.out, rfl⟩⟩
      · have hlv := lowv_o c q2 q3
        by_cases h95 : (c.toNat : Int) = 95
        · go_wp2_with (go_at_call 97; refine (lower_95 _).mono ?_; rintro e w' ⟨rfl, rfl⟩)
          go_ret2
          exact ⟨Lib.bytesWorld_below _ _ _, .inr ⟨Hn.out Hv.out, rfl⟩⟩
        · go_wp2_with (go_at_call 97; refine (lower_o c _).mono ?_; rintro e w' ⟨rfl, rfl⟩)
          all_goals
            go_ret2
            exact ⟨Lib.bytesWorld_below _ _ _, .inr ⟨Hn.out Hv.out, rfl⟩⟩
    · have hkk : k = 2 := by omega
      subst hkk
      have Hd := Lib.hid HV.out.1.done
      have Hq := Lib.hid HV.out.2
      clear HV
      go_wp2
      go_ret2
      obtain ⟨x, y, hx, hy, hm⟩ := Hd.out
      exact ⟨Lib.bytesWorld_below _ _ _, .inl ⟨x, y, hx, hy, by rw [Hq.out, hm]; rfl⟩⟩
end Go.Proofs.YthhhdddojmkgnaaGreatDoor
