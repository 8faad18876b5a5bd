/-
  call.Needs, keyed, May, Clean, Same.
-/
import Derived.Test.YthhhdddojmkgnaaGreatDoorCallR
namespace Go.Proofs.YthhhdddojmkgnaaGreatDoor
open Go.RowKit

theorem needs_any (k : Int) (w : World) :
    Calls Tryz.prog 19 #[.int .u8 k] w fun e w' => e = .returned (.bool (decide (2 ≤ k) && decide (k ≤ 7))) ∧ w = w' := by
  by_cases h1 : 2 ≤ k <;> by_cases h2 : k ≤ 7
  all_goals
    go_enter Tryz.func19, Tryz.ntmps19
    go_wp2
    go_ret
    simp [h1, h2]
theorem needs_t (k : Int) (w : World) (h1 : 2 ≤ k) (h2 : k ≤ 7) :
    Calls Tryz.prog 19 #[.int .u8 k] w fun e w' => e = .returned (.bool true) ∧ w = w' := by
  have := needs_any k w; simpa [h1, h2] using this
theorem needs_f (k : Int) (w : World) (h : k < 2 ∨ 7 < k) :
    Calls Tryz.prog 19 #[.int .u8 k] w fun e w' => e = .returned (.bool false) ∧ w = w' := by
  have := needs_any k w
  have e : (decide (2 ≤ k) && decide (k ≤ 7)) = false := by simp; omega
  simpa [e] using this
theorem keyed_any (k : Int) (w : World) :
    Calls Tryz.prog 52 #[.int .u8 k] w fun e w' => e = .returned (.bool (decide (2 ≤ k) && decide (k ≤ 5))) ∧ w = w' := by
  by_cases h1 : 2 ≤ k <;> by_cases h2 : k ≤ 5
  all_goals
    go_enter Tryz.func52, Tryz.ntmps52
    go_wp2
    go_ret
    simp [h1, h2]
theorem keyed_t (k : Int) (w : World) (h1 : 2 ≤ k) (h2 : k ≤ 5) :
    Calls Tryz.prog 52 #[.int .u8 k] w fun e w' => e = .returned (.bool true) ∧ w = w' := by
  have := keyed_any k w; simpa [h1, h2] using this
theorem keyed_f (k : Int) (w : World) (h : k < 2 ∨ 5 < k) :
    Calls Tryz.prog 52 #[.int .u8 k] w fun e w' => e = .returned (.bool false) ∧ w = w' := by
  have := keyed_any k w
  have e : (decide (2 ≤ k) && decide (k ≤ 5)) = false := by simp; omega
  simpa [e] using this

def mayN (c : CallR) : Int := if mayF c then 0 else 1

theorem may_any (c : CallR) (w : World) : Calls Tryz.prog 21 #[callV c] w (Ret w (.int .i64 (mayN c))) := by
  obtain ⟨k, tx, key, en, va, lim, eng⟩ := c
  have hv : callV ⟨k, tx, key, en, va, lim, eng⟩ = .agg #[.int .u8 k, .int .i64 tx, .string (bs key), .string (bs en), .string (bs va), .int .i64 lim, .int .u8 eng] := rfl
  rw [hv]
  clear hv
  by_cases h1 : k < 1
  · have hm : mayN ⟨k, tx, key, en, va, lim, eng⟩ = 1 := by simp [mayN, mayF]; omega
    have Hm := Lib.hid hm
    clear hm
    go_enter Tryz.func21, Tryz.ntmps21
    go_wp2
    go_ret
    exact Ret.of (by rw [Hm.out]; rfl) (by go_grown)
  by_cases h2 : 9 < k
  · have hm : mayN ⟨k, tx, key, en, va, lim, eng⟩ = 1 := by simp [mayN, mayF]; omega
    have Hm := Lib.hid hm
    clear hm
    go_enter Tryz.func21, Tryz.ntmps21
    go_wp2
    go_ret
    exact Ret.of (by rw [Hm.out]; rfl) (by go_grown)
  by_cases h3 : k = 9
  · subst h3
    by_cases h4 : eng = 1
    · subst h4
      go_enter Tryz.func21, Tryz.ntmps21
      go_wp2
      go_ret
      exact Ret.of (by rfl) (by go_grown)
    by_cases h5 : eng = 2
    · subst h5
      go_enter Tryz.func21, Tryz.ntmps21
      go_wp2
      go_ret
      exact Ret.of (by rfl) (by go_grown)
    · have h4' : ((eng : Int) != 1) = true := by rw [bne_iff_ne]; omega
      have h5' : ((eng : Int) != 2) = true := by rw [bne_iff_ne]; omega
      have hm : mayN ⟨9, tx, key, en, va, lim, eng⟩ = 1 := by simp [mayN, mayF, h4, h5]
      have Hm := Lib.hid hm
      clear hm h4 h5
      go_enter Tryz.func21, Tryz.ntmps21
      go_wp2
      go_ret
      exact Ret.of (by rw [Hm.out]; rfl) (by go_grown)
  · have h3' : ¬ (k : Int) = 9 := by omega
    have hm : mayN ⟨k, tx, key, en, va, lim, eng⟩ = 0 := by
      have a1 : 1 ≤ k := by omega
      have a2 : k ≤ 9 := by omega
      simp [mayN, mayF, h3, a1, a2]
    have Hm := Lib.hid hm
    clear hm h3
    go_enter Tryz.func21, Tryz.ntmps21
    go_wp2
    go_ret
    exact Ret.of (by rw [Hm.out]; rfl) (by go_grown)
end Go.Proofs.YthhhdddojmkgnaaGreatDoor
