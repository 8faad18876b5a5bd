/-
  What the reference's Needs, May, Show, Clean compute (as printed) is what the plain functions do.
-/
import Derived.Test.YthhhdddojmkgnaaGreatDoorCallRb
import Derived.Test.YthhhdddojmkgnaaGreatDoorBunD
namespace Go.Proofs.YthhhdddojmkgnaaGreatDoor
open Go.RowKit Go.Proofs.YthhhdddojmkgnaaGreatDoorW.PrintWords Go.Proofs.YthhhdddojmkgnaaGreatDoorW.PrintLast Go.Proofs.YthhhdddojmkgnaaGreatDoorW.PrintMore
open Go

theorem refNeeds (k : Nat) : PRef.ferrymanref20_Needs.f (k : Int) = some (needsF k) := by
  unfold PRef.ferrymanref20_Needs.f needsF
  by_cases h : 2 ≤ k ∧ k ≤ 7
  · rcases (show k = 2 ∨ k = 3 ∨ k = 4 ∨ k = 5 ∨ k = 6 ∨ k = 7 by omega) with rfl | rfl | rfl | rfl | rfl | rfl <;> rfl
  · rw [if_neg (by omega), if_neg (by omega), if_neg (by omega), if_neg (by omega), if_neg (by omega)]
    have h1 : ((k : Int) == 7) = false := by simp; omega
    have h2 : (decide (2 ≤ k) && decide (k ≤ 7)) = false := by simp; omega
    rw [h1, h2]

theorem refMay (x : CallR) : PRef.ferrymanref20_May.f (x.kind : Int) x.tx (bs x.key) (bs x.en) (bs x.va) x.lim (x.eng : Int) = some (if mayF x then 0 else 1) := by
  unfold PRef.ferrymanref20_May.f
  by_cases h1 : (x.kind : Int) < 1
  · rw [if_pos h1]
    have : mayF x = false := by simp [mayF]; omega
    rw [this]; rfl
  · rw [if_neg h1]
    by_cases h2 : (x.kind : Int) > 9
    · rw [if_pos h2]
      have : mayF x = false := by simp [mayF]; omega
      rw [this]; rfl
    · rw [if_neg h2]
      by_cases h3 : (x.kind : Int) = 9
      · rw [if_pos h3]
        by_cases h4 : (x.eng : Int) = 1
        · rw [if_pos h4]
          have : mayF x = true := by simp [mayF]; omega
          rw [this]; rfl
        · rw [if_neg h4]
          by_cases h5 : (x.eng : Int) = 2
          · rw [if_pos h5]
            have : mayF x = true := by simp [mayF]; omega
            rw [this]; rfl
          · rw [if_neg h5]
            have : mayF x = false := by simp [mayF]; omega
            rw [this]; rfl
      · rw [if_neg h3]
        have : mayF x = true := by simp [mayF]; omega
        rw [this]; rfl

/-- The bounds under which the reference is read. -/
structure RefOk (x : CallR) : Prop where
  tx : Ok64 x.tx
  lim : Ok64 x.lim
  eng : x.eng < 256
  key : x.key.length ≤ 1000000
  en : x.en.length ≤ 1000000
  va : x.va.length ≤ 1000000

theorem hexF_len (l : Bs) : (hexF l).length ≤ 2 * l.length + 1 := by
  rw [hexF]; split
  · simp
  · rw [hexL_len]; omega
theorem itoa_len (n : Int) (h : Ok64 n) : (Lib.itoa n).length ≤ 21 := Lib.itoa_length_le n h.1 h.2
theorem word_len (k : Nat) : (wordF k).length ≤ 7 := by
  by_cases h : k < 10
  · have : ∀ i : Fin 10, (wordF i.val).length ≤ 7 := by decide
    exact this ⟨k, h⟩
  · rw [wordF, List.getD_eq_getElem?_getD, List.getElem?_eq_none (by simp [wordL]; omega)]; simp
theorem join2 (a b : Bs) : Lib.join [a, b] [32] = a ++ [32] ++ b := by rw [join_cons_cons, Lib.join_one]; simp
theorem join3 (a b c : Bs) : Lib.join [a, b, c] [32] = a ++ [32] ++ b ++ [32] ++ c := by rw [join_cons_cons, join2]; simp
theorem join4 (a b c d : Bs) : Lib.join [a, b, c, d] [32] = a ++ [32] ++ b ++ [32] ++ c ++ [32] ++ d := by rw [join_cons_cons, join3]; simp
theorem join5 (a b c d e : Bs) : Lib.join [a, b, c, d, e] [32] = a ++ [32] ++ b ++ [32] ++ c ++ [32] ++ d ++ [32] ++ e := by rw [join_cons_cons, join4]; simp

theorem size_le {l : Bs} {n : Nat} (h : l.length + n ≤ 9000000) : (bs l).size + n ≤ 9223372036854775807 := by rw [bs_size]; omega

set_option maxHeartbeats 8000000 in
theorem show_ev (x : CallR) (h : RefOk x) : Ev (fun k => PRef.ferrymanref20_Show.f k (x.kind : Int) x.tx (bs x.key) (bs x.en) (bs x.va) x.lim (x.eng : Int)) (bs (showF x)) := by
  have hMay := refMay x
  cases hm : mayF x with
  | false =>
    refine ⟨0, fun k _ => ?_⟩
    simp only [PRef.ferrymanref20_Show.f]
    rw [hMay, hm, showF, hm]
    rfl
  | true =>
    obtain ⟨h1, h9, he⟩ := mayF_kind hm
    rw [hm] at hMay
    obtain ⟨K1, k1⟩ := whole_ev x.tx h.tx
    obtain ⟨K2, k2⟩ := hex_ev x.key (by have := h.key; omega)
    obtain ⟨K3, k3⟩ := hex_ev x.en (by have := h.en; omega)
    obtain ⟨K4, k4⟩ := hex_ev x.va (by have := h.va; omega)
    obtain ⟨K5, k5⟩ := whole_ev x.lim h.lim
    obtain ⟨K6, k6⟩ := whole_ev (x.eng : Int) (by unfold Ok64; have := h.eng; omega)
    have l1 := itoa_len x.tx h.tx
    have l2 := hexF_len x.key
    have l3 := hexF_len x.en
    have l4 := hexF_len x.va
    have l5 := itoa_len x.lim h.lim
    have l6 := itoa_len (x.eng : Int) (by unfold Ok64; have := h.eng; omega)
    have m2 := h.key
    have m3 := h.en
    have m4 := h.va
    have me := h.eng
    refine ⟨K1 + K2 + K3 + K4 + K5 + K6 + 5, fun k hk => ?_⟩
    obtain ⟨k, rfl⟩ : ∃ m, k = m + 2 := ⟨k - 2, by omega⟩
    have w1 := k1 (k + 2) (by omega)
    have w2 := k2 k (by omega)
    have w3 := k3 k (by omega)
    have w4 := k4 k (by omega)
    have w5 := k5 k (by omega)
    have w6 := k6 k (by omega)
    have ww := word_len x.kind
    have hW := word_is x.kind (by omega)
    have hN := refNeeds x.kind
    have e1 : (bs (wordF x.kind)).size + 1 ≤ 9223372036854775807 := size_le (by omega)
    have ew : wrap64 (x.eng : Int) = (x.eng : Int) := wrap_in (by omega) (by omega)
    simp only [PRef.ferrymanref20_Show.f]
    rw [hMay, hW]
    simp only [Option.bind_some]
    rw [hN]
    simp only [Option.bind_some, if_true, showF, hm]
    obtain ⟨kd, tx, key, en, va, lim, eng⟩ := x
    simp only at h1 h9 he hm w1 w2 w3 w4 w5 w6 l1 l2 l3 l4 l5 l6 m2 m3 m4 me ww e1 ew ⊢
    clear k1 k2 k3 k4 k5 k6 hMay hW hN h
    have f1 : (bs (wordF kd) ++ bs [32]).size + (bs (Lib.itoa tx)).size ≤ 9223372036854775807 := by rw [bs_append, bs_size, bs_size]; simp; omega
    have f2 : (bs (wordF kd) ++ bs [32] ++ bs (Lib.itoa tx)).size + 1 ≤ 9223372036854775807 := by rw [bs_append, bs_append, bs_size]; simp; omega
    have f3 : (bs (wordF kd) ++ bs [32] ++ bs (Lib.itoa tx) ++ bs [32]).size + (bs (hexF key)).size ≤ 9223372036854775807 := by rw [bs_append, bs_append, bs_append, bs_size, bs_size]; simp; omega
    have f4 : (bs (wordF kd) ++ bs [32] ++ bs (Lib.itoa tx) ++ bs [32] ++ bs (hexF key)).size + 1 ≤ 9223372036854775807 := by rw [bs_append, bs_append, bs_append, bs_append, bs_size]; simp; omega
    have f5 : (bs (wordF kd) ++ bs [32] ++ bs (Lib.itoa tx) ++ bs [32] ++ bs (hexF key) ++ bs [32]).size + (bs (hexF va)).size ≤ 9223372036854775807 := by rw [bs_append, bs_append, bs_append, bs_append, bs_append, bs_size, bs_size]; simp; omega
    have f6 : (bs (wordF kd) ++ bs [32] ++ bs (Lib.itoa tx) ++ bs [32] ++ bs (hexF key) ++ bs [32]).size + (bs (hexF en)).size ≤ 9223372036854775807 := by rw [bs_append, bs_append, bs_append, bs_append, bs_append, bs_size, bs_size]; simp; omega
    have f7 : (bs (wordF kd) ++ bs [32] ++ bs (Lib.itoa tx) ++ bs [32] ++ bs (hexF key) ++ bs [32] ++ bs (hexF en)).size + 1 ≤ 9223372036854775807 := by rw [bs_append, bs_append, bs_append, bs_append, bs_append, bs_append, bs_size]; simp; omega
    have f8 : (bs (wordF kd) ++ bs [32] ++ bs (Lib.itoa tx) ++ bs [32] ++ bs (hexF key) ++ bs [32] ++ bs (hexF en) ++ bs [32]).size + (bs (Lib.itoa lim)).size ≤ 9223372036854775807 := by rw [bs_append, bs_append, bs_append, bs_append, bs_append, bs_append, bs_append, bs_size, bs_size]; simp; omega
    have f9 : (bs (wordF kd) ++ bs [32]).size + (bs (Lib.itoa (eng : Int))).size ≤ 9223372036854775807 := by rw [bs_append, bs_size, bs_size]; simp; omega
    rcases cases9 h1 h9 with rfl | rfl | rfl | rfl | rfl | rfl | rfl | rfl | rfl
    · rfl
    · simp only [needsF, PRef.ferrymanref20_Show.j0, PRef.ferrymanref20_Show.j1, e1, bs_32, w1, w2, f1, f2, f3, Option.bind_some, if_true, if_pos]
      simp [callWords, join3, bs_append]
    · simp only [needsF, PRef.ferrymanref20_Show.j0, PRef.ferrymanref20_Show.j1, e1, bs_32, w1, w2, w4, f1, f2, f3, f4, f5, Option.bind_some, if_true, if_pos]
      simp [callWords, join4, bs_append]
    · simp only [needsF, PRef.ferrymanref20_Show.j0, PRef.ferrymanref20_Show.j1, e1, bs_32, w1, w2, f1, f2, f3, Option.bind_some, if_true, if_pos]
      simp [callWords, join3, bs_append]
    · simp only [needsF, PRef.ferrymanref20_Show.j0, PRef.ferrymanref20_Show.j1, e1, bs_32, w1, w2, w3, w5, f1, f2, f3, f4, f6, f7, f8, Option.bind_some, if_true, if_pos]
      simp [callWords, join5, bs_append]
    · simp only [needsF, PRef.ferrymanref20_Show.j0, PRef.ferrymanref20_Show.j1, e1, bs_32, w1, w2, f1, f2, f3, Option.bind_some, if_true, if_pos]
      simp [callWords, join2, bs_append, needsF]
    · simp only [needsF, PRef.ferrymanref20_Show.j0, PRef.ferrymanref20_Show.j1, e1, bs_32, w1, w2, f1, f2, f3, Option.bind_some, if_true, if_pos]
      simp [callWords, join2, bs_append, needsF]
    · rfl
    · simp only [needsF, PRef.ferrymanref20_Show.j0, PRef.ferrymanref20_Show.j1, e1, bs_32, w6, f9, ew, Option.bind_some, if_true, if_pos]
      simp [callWords, join2, bs_append, w6, f9]
end Go.Proofs.YthhhdddojmkgnaaGreatDoor
