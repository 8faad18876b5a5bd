/-
  Plain laws of the Call package: what is shown is parsed as it was, and what is parsed, shown, is the text. No program in sight.
-/
import Derived.Test.YthhhdddojmkgnaaGreatDoorCallP
import Derived.Lib.AtoiAllCases
namespace Go.Proofs.YthhhdddojmkgnaaGreatDoor
open Go

/-! ### Numbers -/
theorem parseUint10_append (a b : Bs) (acc v : Nat) (h : Lib.parseUint10 acc a = .ok v) : Lib.parseUint10 acc (a ++ b) = Lib.parseUint10 v b := by
  induction a generalizing acc with
  | nil => simp only [Lib.parseUint10, Lib.NumEnd.ok.injEq] at h; subst h; rfl
  | cons c r ih =>
    simp only [Lib.parseUint10, List.cons_append] at h ⊢
    split at h
    · rename_i hc
      rw [if_pos hc]
      split at h
      · cases h
      · rename_i h1
        rw [if_neg h1]
        split at h
        · cases h
        · rename_i h2
          rw [if_neg h2]
          exact ih _ h
    · cases h

theorem dig_toNat (d : Nat) (h : d < 10) : (UInt8.ofNat (48 + d)).toNat = 48 + d := by
  simp only [UInt8.toNat_ofNat']; omega

theorem parse_dec (u : Nat) : u < 18446744073709551616 → Lib.parseUint10 0 (Lib.decDigits u) = .ok u := by
  induction u using Nat.strongRecOn with
  | _ u ih =>
    intro hu
    rw [Lib.decDigits]
    split
    · rename_i h
      simp only [Lib.parseUint10]
      rw [dig_toNat u h, if_pos ⟨by omega, by omega⟩, if_neg (by omega), if_neg (by omega)]
      congr 1; omega
    · rename_i h
      rw [parseUint10_append _ _ _ _ (ih (u / 10) (by omega) (by omega))]
      simp only [Lib.parseUint10]
      rw [dig_toNat (u % 10) (by omega), if_pos ⟨by omega, by omega⟩, if_neg (by omega), if_neg (by omega)]
      congr 1; omega

theorem dec_ne (u : Nat) : Lib.decDigits u ≠ [] := by
  rw [Lib.decDigits]; split <;> simp

theorem dec_digit (u : Nat) : ∀ c ∈ Lib.decDigits u, 48 ≤ c.toNat ∧ c.toNat ≤ 57 := by
  induction u using Nat.strongRecOn with
  | _ u ih =>
    rw [Lib.decDigits]
    split
    · rename_i h
      intro c hc
      simp only [List.mem_singleton] at hc
      subst hc
      rw [dig_toNat u h]; omega
    · rename_i h
      intro c hc
      rw [List.mem_append] at hc
      rcases hc with hc | hc
      · exact ih (u / 10) (by omega) c hc
      · simp only [List.mem_singleton] at hc
        subst hc
        rw [dig_toNat _ (by omega)]; omega

theorem parseMag_dec (u : Nat) (hu : u < 18446744073709551616) : Lib.parseMag (Lib.decDigits u) = .ok u := by
  rw [Lib.parseMag, if_neg (dec_ne u), parse_dec u hu]

theorem atoi_itoa (v : Int) (h1 : -9223372036854775808 ≤ v) (h2 : v ≤ 9223372036854775807) : Lib.atoiAll (Lib.itoa v) = .ok v := by
  rw [Lib.itoa]
  split
  · rename_i h
    rw [Lib.atoiAll_minus, parseMag_dec _ (by omega)]
    simp only [Lib.signed]
    rw [if_neg (by omega)]
    congr 1; omega
  · rename_i h
    have hd := dec_digit v.toNat
    cases hl : Lib.decDigits v.toNat with
    | nil => exact absurd hl (dec_ne _)
    | cons c r =>
      have hc := hd c (by rw [hl]; simp)
      rw [Lib.atoiAll_plain c r (by omega) (by omega), ← hl, parseMag_dec _ (by omega)]
      simp only [Lib.signless]
      rw [if_neg (by omega)]
      congr 1; omega

theorem itoa_ne (v : Int) : Lib.itoa v ≠ [] := by
  rw [Lib.itoa]; split
  · simp
  · exact dec_ne _

theorem itoa_no32 (v : Int) : (32 : UInt8) ∉ Lib.itoa v := by
  rw [Lib.itoa]
  intro h
  split at h
  · rw [List.mem_cons] at h
    rcases h with h | h
    · exact absurd h (by decide)
    · have := dec_digit _ _ h; simp at this
  · have := dec_digit _ _ h; simp at this

theorem numOf_itoa (v : Int) (h1 : -9223372036854775808 ≤ v) (h2 : v ≤ 9223372036854775807) : numOf (Lib.itoa v) = (v, false) := by
  simp [numOf, atoi_itoa v h1 h2]

theorem numOf_false {s : Bs} (h : (numOf s).2 = false) : Lib.itoa (numOf s).1 = s ∧ -9223372036854775808 ≤ (numOf s).1 ∧ (numOf s).1 ≤ 9223372036854775807 := by
  rw [numOf] at h ⊢
  split at h
  · rename_i v hv
    simp only [decide_eq_false_iff_not, ne_eq, Decidable.not_not] at h
    exact ⟨h, Lib.atoiAll_bounds hv⟩
  · simp at h
  · simp at h

/-! ### Texts -/
theorem hexL_len (l : Bs) : (hexL l).length = 2 * l.length := by
  induction l with
  | nil => rfl
  | cons c r ih => simp [hexL, ih]; omega

theorem hexDig_pair : ∀ i : Fin 256, pairOf (hexDig (i.val / 16)) (hexDig (i.val % 16)) = (UInt8.ofNat i.val, false) := by decide +kernel

theorem hexDig_ne32 : ∀ i : Fin 16, hexDig i.val ≠ 32 := by decide

theorem pairOf_hex (c : UInt8) : pairOf (hexDig (c.toNat / 16)) (hexDig (c.toNat % 16)) = (c, false) := by
  have := hexDig_pair ⟨c.toNat, c.toNat_lt⟩
  simpa using this

theorem textL_hexL (l : Bs) : textL (hexL l) = (l, false) := by
  induction l with
  | nil => rfl
  | cons c r ih => simp only [hexL, textL, ih, pairOf_hex, Bool.or_self]

theorem hexF_ne (l : Bs) : hexF l ≠ [] := by
  rw [hexF]; split
  · simp
  · intro h
    have := congrArg List.length h
    rw [hexL_len, List.length_nil] at this
    rename_i hl
    exact hl (List.eq_nil_of_length_eq_zero (by omega))

theorem hexL_no32 (l : Bs) : (32 : UInt8) ∉ hexL l := by
  induction l with
  | nil => simp [hexL]
  | cons c r ih =>
    simp only [hexL, List.mem_cons, not_or]
    have hb := c.toNat_lt
    exact ⟨fun h => hexDig_ne32 ⟨c.toNat / 16, by omega⟩ h.symm, fun h => hexDig_ne32 ⟨c.toNat % 16, by omega⟩ h.symm, ih⟩

theorem hexF_no32 (l : Bs) : (32 : UInt8) ∉ hexF l := by
  rw [hexF]; split
  · decide
  · exact hexL_no32 l

theorem textOf_hexF (l : Bs) : textOf (hexF l) = (l, false) := by
  rw [hexF]; split
  · rename_i h; subst h; rfl
  · rename_i h
    have hl := hexL_len l
    have hn : 0 < l.length := List.length_pos_iff.2 h
    rw [textOf, if_neg (by intro e; have := congrArg List.length e; rw [hl] at this; simp at this; omega)]
    simp only [textL_hexL, hl, Bool.false_or, Prod.mk.injEq, true_and, Bool.or_eq_false_iff, decide_eq_false_iff_not]
    omega

theorem hexVal_back : ∀ i : Fin 256, ∀ x, hexVal (UInt8.ofNat i.val) = some x → lowHex (UInt8.ofNat i.val) = true → x < 16 ∧ hexDig x = UInt8.ofNat i.val := by
  intro i x hx hl
  have : ∀ i : Fin 256, ((hexVal (UInt8.ofNat i.val)).all fun x => !lowHex (UInt8.ofNat i.val) || (decide (x < 16) && decide (hexDig x = UInt8.ofNat i.val))) = true := by decide +kernel
  have h := this i
  rw [hx] at h
  simp only [Option.all_some, hl, Bool.not_true, Bool.false_or, Bool.and_eq_true, decide_eq_true_eq] at h
  exact h

theorem hexVal_low {a : UInt8} {x : Nat} (hx : hexVal a = some x) (hl : lowHex a = true) : x < 16 ∧ hexDig x = a := by
  have := hexVal_back ⟨a.toNat, a.toNat_lt⟩ x
  simp only [UInt8.ofNat_toNat] at this
  exact this hx hl

theorem pairOf_false {a b : UInt8} (h : (pairOf a b).2 = false) : hexDig ((pairOf a b).1.toNat / 16) = a ∧ hexDig ((pairOf a b).1.toNat % 16) = b := by
  rw [pairOf] at h ⊢
  split at h
  · rename_i x y hx hy
    simp only [Bool.not_eq_false', Bool.and_eq_true] at h
    obtain ⟨h1, e1⟩ := hexVal_low hx h.1
    obtain ⟨h2, e2⟩ := hexVal_low hy h.2
    have : (UInt8.ofNat (16 * x + y)).toNat = 16 * x + y := by simp only [UInt8.toNat_ofNat']; omega
    rw [this, show (16 * x + y) / 16 = x by omega, show (16 * x + y) % 16 = y by omega]
    exact ⟨e1, e2⟩
  · simp at h

theorem hexL_textL : ∀ (n : Nat) (s : Bs), s.length = 2 * n → (textL s).2 = false → hexL (textL s).1 = s
  | 0, s, h, _ => by
    have : s = [] := List.eq_nil_of_length_eq_zero (by omega)
    subst this; rfl
  | n + 1, s, h, hf => by
    match s, h with
    | a :: b :: r, h =>
      simp only [textL, Bool.or_eq_false_iff] at hf ⊢
      simp only [hexL]
      rw [(pairOf_false hf.1).1, (pairOf_false hf.1).2, hexL_textL n r (by simp at h; omega) hf.2]

theorem textL_len : ∀ (n : Nat) (s : Bs), s.length = 2 * n → (textL s).1.length = n
  | 0, s, h => by
    have : s = [] := List.eq_nil_of_length_eq_zero (by omega)
    subst this; rfl
  | n + 1, s, h => by
    match s, h with
    | a :: b :: r, h =>
      simp only [textL, List.length_cons]
      rw [textL_len n r (by simp at h; omega)]

theorem textOf_false {s : Bs} (h : (textOf s).2 = false) : hexF (textOf s).1 = s := by
  rw [textOf] at h ⊢
  split at h
  · rename_i e; rw [if_pos e]; subst e; rfl
  · rename_i e
    rw [if_neg e]
    simp only [Bool.or_eq_false_iff, decide_eq_false_iff_not] at h
    obtain ⟨⟨h1, h2⟩, h3⟩ := h
    have hn : s.length = 2 * (s.length / 2) := by omega
    have hl := textL_len _ s hn
    show hexF (textL s).1 = s
    rw [hexF, if_neg (by intro e2; rw [e2] at hl; simp at hl; omega)]
    exact hexL_textL _ s hn h1

theorem textL_length : ∀ (n : Nat) (s : Bs), s.length ≤ n → (textL s).1.length ≤ s.length
  | n, [], _ => by simp [textL]
  | n, [a], _ => by simp [textL]
  | 0, a :: b :: r, h => by simp at h
  | n + 1, a :: b :: r, h => by
    simp only [textL, List.length_cons]
    have := textL_length n r (by simp at h; omega)
    omega
theorem textOf_length (s : Bs) : (textOf s).1.length ≤ s.length := by
  rw [textOf]; split
  · simp
  · exact textL_length _ s (Nat.le_refl _)

/-! ### Words -/
theorem splitF_ne (s : Bs) : splitF s ≠ [] := by
  induction s with
  | nil => simp [splitF]
  | cons c r ih =>
    rw [splitF]; split
    · simp
    · split
      · simp
      · simp

theorem splitF_cons32 (r : Bs) : splitF (32 :: r) = [] :: splitF r := by rw [splitF, if_pos rfl]

theorem splitF_cons (c : UInt8) (r : Bs) (h : c ≠ 32) : ∃ w ws, splitF r = w :: ws ∧ splitF (c :: r) = (c :: w) :: ws := by
  cases hr : splitF r with
  | nil => exact absurd hr (splitF_ne r)
  | cons w ws => exact ⟨w, ws, rfl, by rw [splitF, if_neg h, hr]⟩

theorem splitF_word (a : Bs) (h : (32 : UInt8) ∉ a) : splitF a = [a] := by
  induction a with
  | nil => rfl
  | cons c r ih =>
    simp only [List.mem_cons, not_or] at h
    obtain ⟨w, ws, h1, h2⟩ := splitF_cons c r (fun e => h.1 e.symm)
    rw [ih h.2] at h1
    injection h1 with h3 h4
    subst h3; subst h4
    exact h2

theorem splitF_append (a r : Bs) (h : (32 : UInt8) ∉ a) : splitF (a ++ 32 :: r) = a :: splitF r := by
  induction a with
  | nil => exact splitF_cons32 r
  | cons c t ih =>
    simp only [List.mem_cons, not_or] at h
    rw [List.cons_append]
    obtain ⟨w, ws, h1, h2⟩ := splitF_cons c (t ++ 32 :: r) (fun e => h.1 e.symm)
    rw [ih h.2] at h1
    injection h1 with h3 h4
    subst h3; subst h4
    exact h2

theorem join_cons_cons (a b : Bs) (r : List Bs) : Lib.join (a :: b :: r) [32] = a ++ 32 :: Lib.join (b :: r) [32] := by
  rw [Lib.join_cons, Lib.join_cons]
  simp [Lib.joinTail]

theorem splitF_join : ∀ (ws : List Bs), ws ≠ [] → (∀ w ∈ ws, (32 : UInt8) ∉ w) → splitF (Lib.join ws [32]) = ws
  | [], h, _ => absurd rfl h
  | [a], _, h => by rw [Lib.join_one]; exact splitF_word a (h a (by simp))
  | a :: b :: r, _, h => by
    rw [join_cons_cons, splitF_append _ _ (h a (by simp)), splitF_join (b :: r) (by simp) (fun w hw => h w (List.mem_cons_of_mem _ hw))]

theorem join_splitF (s : Bs) : Lib.join (splitF s) [32] = s := by
  induction s with
  | nil => rfl
  | cons c r ih =>
    by_cases h : c = 32
    · subst h
      rw [splitF_cons32]
      cases hr : splitF r with
      | nil => exact absurd hr (splitF_ne r)
      | cons w ws => rw [join_cons_cons, ← hr, ih]; rfl
    · obtain ⟨w, ws, h1, h2⟩ := splitF_cons c r h
      rw [h2]
      rw [h1] at ih
      rw [Lib.join_cons] at ih ⊢
      rw [List.cons_append, ih]

theorem splitF_no32 (s : Bs) : ∀ w ∈ splitF s, (32 : UInt8) ∉ w := by
  induction s with
  | nil => simp [splitF]
  | cons c r ih =>
    by_cases h : c = 32
    · subst h
      rw [splitF_cons32]
      intro w hw
      rw [List.mem_cons] at hw
      rcases hw with rfl | hw
      · simp
      · exact ih w hw
    · obtain ⟨w, ws, h1, h2⟩ := splitF_cons c r h
      rw [h2]
      rw [h1] at ih
      intro x hx
      rw [List.mem_cons] at hx
      rcases hx with rfl | hx
      · intro hm
        rw [List.mem_cons] at hm
        rcases hm with hm | hm
        · exact h hm.symm
        · exact ih w (by simp) hm
      · exact ih x (List.mem_cons_of_mem _ hx)

theorem splitF_len (s : Bs) : (splitF s).length = s.count 32 + 1 := by
  induction s with
  | nil => rfl
  | cons c r ih =>
    by_cases h : c = 32
    · subst h
      rw [splitF_cons32, List.length_cons, ih, List.count_cons_self]
    · obtain ⟨w, ws, h1, h2⟩ := splitF_cons c r h
      rw [h2]
      rw [h1] at ih
      rw [List.count_cons_of_ne h]
      simpa using ih

theorem splitF_head (s : Bs) : (splitF s).headD [] = s.takeWhile (· != 32) := by
  induction s with
  | nil => rfl
  | cons c r ih =>
    by_cases h : c = 32
    · subst h
      rw [splitF_cons32]; rfl
    · obtain ⟨w, ws, h1, h2⟩ := splitF_cons c r h
      rw [h2]
      rw [h1] at ih
      rw [List.takeWhile_cons_of_pos (by simpa using h), ← ih]
      rfl

theorem splitF_mem_length (s : Bs) : ∀ w ∈ splitF s, w.length ≤ s.length := by
  induction s with
  | nil => simp [splitF]
  | cons c r ih =>
    by_cases h : c = 32
    · subst h
      rw [splitF_cons32]
      intro w hw
      rw [List.mem_cons] at hw
      rcases hw with rfl | hw
      · simp
      · have := ih w hw; simp; omega
    · obtain ⟨w, ws, h1, h2⟩ := splitF_cons c r h
      rw [h2]
      rw [h1] at ih
      intro x hx
      rw [List.mem_cons] at hx
      rcases hx with rfl | hx
      · have := ih w (by simp); simp; omega
      · have := ih x (List.mem_cons_of_mem _ hx); simp; omega
end Go.Proofs.YthhhdddojmkgnaaGreatDoor
