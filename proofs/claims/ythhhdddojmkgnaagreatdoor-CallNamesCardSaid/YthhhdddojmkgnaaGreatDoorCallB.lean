import Derived.Test.YthhhdddojmkgnaaGreatDoorCallA
import Derived.Lib.Hide
namespace Go.Proofs.YthhhdddojmkgnaaGreatDoor
open Go.RowKit

theorem makeFunc_any (fn : Fn) (first cap : Array Value) (w : World) : (Instr.makeFunc fn first cap).run Tryz.prog w = .ok (.func fn first cap) w := rfl

theorem bcell {W w1 : World} (hb : Below W.heap.size W w1) : (∀ b o, b < W.heap.size → w1.cell? ⟨b, o, none⟩ = W.cell? ⟨b, o, none⟩) ∧ (∀ b o, b < W.heap.size → w1.frozen? ⟨b, o, none⟩ = W.frozen? ⟨b, o, none⟩) :=
  ⟨fun b o h => hb.cell (p := ⟨b, o, none⟩) h, fun b o h => hb.frozen (p := ⟨b, o, none⟩) h⟩

set_option maxHeartbeats 1000000 in
theorem textBound (c : CfgR) (s : ByteArray) (w : World) (_hs : s.size ≤ 9223372036854775807) : Calls Tryz.prog 54 #[cfgV c, .string s] w (Ret w (.bool (lenOk c s 0 c.keylen))) := by
  obtain ⟨t1, t2, t3, t4, t5, t6, t7, t8⟩ := c
  have hmf := makeFunc_any
  cases hc : cfgOk ⟨t1, t2, t3, t4, t5, t6, t7, t8⟩
  · have Hc := Lib.hid hc
    clear hc
    unfold cfgV
    go_enter Tryz.func54, Tryz.ntmps54
    go_wp2_with (first | (go_at_call 88; refine (textMay ⟨t1, t2, t3, t4, t5, t6, t7, t8⟩ _).mono ?_; rw [Hc.out]; rintro e w' ⟨rfl, hb⟩) | go_in)
    go_ret
    exact Ret.bool (by simp [lenOk, Hc.out]) (Below.trans (by go_grown) (hb.mono (by simp; omega)))
  · have Hc := Lib.hid hc
    clear hc
    unfold cfgV
    by_cases h2 : (s.size : Int) ≤ t6
    all_goals
      go_enter Tryz.func54, Tryz.ntmps54
      go_wp2_with (first | (go_at_call 88; refine (textMay ⟨t1, t2, t3, t4, t5, t6, t7, t8⟩ _).mono ?_; rw [Hc.out]; rintro e w' ⟨rfl, hb⟩; obtain ⟨hk, hf⟩ := bcell hb) | go_in)
      go_ret
      exact Ret.bool (by first | (simp [lenOk, Hc.out]; done) | (simp [lenOk, Hc.out]; omega)) (Below.trans (by go_grown) (hb.mono (by simp; omega)))

set_option maxHeartbeats 1000000 in
theorem textKey (c : CfgR) (s : ByteArray) (w : World) (_hs : s.size ≤ 9223372036854775807) : Calls Tryz.prog 55 #[cfgV c, .string s] w (Ret w (.bool (lenOk c s 1 c.keylen))) := by
  obtain ⟨t1, t2, t3, t4, t5, t6, t7, t8⟩ := c
  have hmf := makeFunc_any
  cases hc : cfgOk ⟨t1, t2, t3, t4, t5, t6, t7, t8⟩
  · have Hc := Lib.hid hc
    clear hc
    unfold cfgV
    go_enter Tryz.func55, Tryz.ntmps55
    go_wp2_with (first | (go_at_call 88; refine (textMay ⟨t1, t2, t3, t4, t5, t6, t7, t8⟩ _).mono ?_; rw [Hc.out]; rintro e w' ⟨rfl, hb⟩) | go_in)
    go_ret
    exact Ret.bool (by simp [lenOk, Hc.out]) (Below.trans (by go_grown) (hb.mono (by simp; omega)))
  · have Hc := Lib.hid hc
    clear hc
    unfold cfgV
    by_cases h1 : (1 : Int) ≤ (s.size : Int) <;> by_cases h2 : (s.size : Int) ≤ t6
    all_goals
      go_enter Tryz.func55, Tryz.ntmps55
      go_wp2_with (first | (go_at_call 88; refine (textMay ⟨t1, t2, t3, t4, t5, t6, t7, t8⟩ _).mono ?_; rw [Hc.out]; rintro e w' ⟨rfl, hb⟩; obtain ⟨hk, hf⟩ := bcell hb) | go_in)
      go_ret
      exact Ret.bool (by first | (simp [lenOk, Hc.out]; done) | (simp [lenOk, Hc.out]; omega)) (Below.trans (by go_grown) (hb.mono (by simp; omega)))

set_option maxHeartbeats 1000000 in
theorem textValue (c : CfgR) (s : ByteArray) (w : World) (_hs : s.size ≤ 9223372036854775807) : Calls Tryz.prog 56 #[cfgV c, .string s] w (Ret w (.bool (lenOk c s 0 c.vallen))) := by
  obtain ⟨t1, t2, t3, t4, t5, t6, t7, t8⟩ := c
  have hmf := makeFunc_any
  cases hc : cfgOk ⟨t1, t2, t3, t4, t5, t6, t7, t8⟩
  · have Hc := Lib.hid hc
    clear hc
    unfold cfgV
    go_enter Tryz.func56, Tryz.ntmps56
    go_wp2_with (first | (go_at_call 88; refine (textMay ⟨t1, t2, t3, t4, t5, t6, t7, t8⟩ _).mono ?_; rw [Hc.out]; rintro e w' ⟨rfl, hb⟩) | go_in)
    go_ret
    exact Ret.bool (by simp [lenOk, Hc.out]) (Below.trans (by go_grown) (hb.mono (by simp; omega)))
  · have Hc := Lib.hid hc
    clear hc
    unfold cfgV
    by_cases h2 : (s.size : Int) ≤ t7
    all_goals
      go_enter Tryz.func56, Tryz.ntmps56
      go_wp2_with (first | (go_at_call 88; refine (textMay ⟨t1, t2, t3, t4, t5, t6, t7, t8⟩ _).mono ?_; rw [Hc.out]; rintro e w' ⟨rfl, hb⟩; obtain ⟨hk, hf⟩ := bcell hb) | go_in)
      go_ret
      exact Ret.bool (by first | (simp [lenOk, Hc.out]; done) | (simp [lenOk, Hc.out]; omega)) (Below.trans (by go_grown) (hb.mono (by simp; omega)))

end Go.Proofs.YthhhdddojmkgnaaGreatDoor
