/-
  What the reference's small functions compute (as printed) is what the plain functions do: whole, hex, word, split, number, told.
-/
import Derived.Test.YthhhdddojmkgnaaGreatDoorCallJ
import Derived.Test.YthhhdddojmkgnaaGreatDoorCallM
import Derived.Lib.ItoaLen
import Derived.Test.YthhhdddojmkgnaaGreatDoorBunA
namespace Go.Proofs.YthhhdddojmkgnaaGreatDoor
open Go.RowKit Go.Proofs.YthhhdddojmkgnaaGreatDoorW.PrintWords Go.Proofs.YthhhdddojmkgnaaGreatDoorW.PrintLast Go.Proofs.YthhhdddojmkgnaaGreatDoorW.PrintMore
open Go

theorem bs_append (a b : Bs) : bs a ++ bs b = bs (a ++ b) := by
  apply ByteArray.ext
  simp [bs, ByteArray.data_append]
theorem bs_nil : (⟨#[]⟩ : ByteArray) = bs [] := rfl
theorem bs_32 : (⟨#[32]⟩ : ByteArray) = bs [32] := rfl
theorem bs_45 : (⟨#[45]⟩ : ByteArray) = bs [45] := rfl
theorem u64_in (n : Int) (h0 : 0 ≤ n) (h1 : n < 18446744073709551616) : IntKind.u64.wrap n = n := by
  simp [IntKind.wrap, IntKind.signed, IntKind.bits]; omega
theorem wrap_in {n : Int} (h0 : -9223372036854775808 ≤ n) (h1 : n ≤ 9223372036854775807) : wrap64 n = n := by
  unfold wrap64; omega
theorem strOne (x : Nat) (n : Int) (h : n = (x : Int)) : strOfNums [n] = bs [UInt8.ofNat x] := by
  subst h; simp [strOfNums, bs]
theorem bt_bs (s : Bs) (i : Nat) (h : i < s.length) : bt (bs s) (i : Int) = (s[i].toNat : Int) := by
  unfold bt
  rw [dif_pos (by rw [Int.toNat_natCast, bs_size]; exact h)]
  simp [bs, ByteArray.getElem_eq_getElem_data]

/-! ### whole -/
theorem whole_loop (x0 : Int) : ∀ (u : Nat) (s : Bs), u < 18446744073709551616 → s.length + Lib.nDigits u ≤ 1000 →
    Ev (fun k => PRef.ferrymanref20_whole.l0 k x0 (u : Int) (bs s)) (bs ((if x0 < 0 then [45] else []) ++ (Lib.decDigits u ++ s))) := by
  intro u
  induction u using Nat.strongRecOn with
  | _ u ih =>
    intro s hu hs
    by_cases h : u < 10
    · refine ⟨1, fun k hk => ?_⟩
      obtain ⟨k, rfl⟩ : ∃ m, k = m + 1 := ⟨k - 1, by omega⟩
      simp only [PRef.ferrymanref20_whole.l0]
      rw [if_neg (by omega)]
      simp only [Option.bind_some]
      rw [strOne (48 + u) _ (by rw [u64_in _ (by omega) (by omega)]; omega), bs_45, bs_append, bs_append, bs_size, bs_size, bs_size, Lib.decDigits_one h]
      have hl := Lib.nDigits_pos u
      rw [if_pos (by simp; omega)]
      split
      · rw [if_pos (by simp; omega)]
      · rfl
    · have hd : Lib.decDigits u = Lib.decDigits (u / 10) ++ [UInt8.ofNat (48 + u % 10)] := by rw [Lib.decDigits, dif_neg h]
      have hn := Lib.nDigits_big h
      have := ih (u / 10) (by omega) (UInt8.ofNat (48 + u % 10) :: s) (by omega) (by simp; omega)
      rw [hd, List.append_assoc]
      refine Ev.step (fun k => ?_) this
      simp only [PRef.ferrymanref20_whole.l0]
      rw [if_pos (by omega)]
      simp only [Option.bind_some]
      have e1 : Int.tmod (u : Int) 10 = ((u % 10 : Nat) : Int) := by rw [Int.tmod_eq_emod_of_nonneg (by omega)]; omega
      have e2 : Int.tdiv (u : Int) 10 = ((u / 10 : Nat) : Int) := by rw [Int.tdiv_eq_ediv_of_nonneg (by omega)]; omega
      rw [e1, e2, strOne (48 + u % 10) _ (by rw [u64_in _ (by omega) (by omega)]; omega), bs_append, bs_size, bs_size, u64_in _ (by omega) (by omega)]
      rw [if_pos (by simp; omega)]
      rfl

theorem nDig_le (u : Nat) (h : u < 18446744073709551616) : Lib.nDigits u ≤ 20 := Lib.nDigits_le20 u h

theorem whole_ev (n : Int) (h : Ok64 n) : Ev (fun k => PRef.ferrymanref20_whole.f k n) (bs (Lib.itoa n)) := by
  obtain ⟨h1, h2⟩ := h
  by_cases hn : n < 0
  · have e : IntKind.u64.wrap (-(IntKind.u64.wrap n)) = ((n.natAbs : Nat) : Int) := by
      simp [IntKind.wrap, IntKind.signed, IntKind.bits]; omega
    have := whole_loop n n.natAbs [] (by omega) (by have := nDig_le n.natAbs (by omega); simp; omega)
    rw [if_pos hn, List.append_nil] at this
    rw [Lib.itoa, if_pos hn]
    refine Ev.congr (fun k => ?_) (Ev.step (g := fun k => PRef.ferrymanref20_whole.j0 k n (n.natAbs : Int)) (fun k => rfl) this)
    simp only [PRef.ferrymanref20_whole.f]
    rw [if_pos hn, e]
  · have e : IntKind.u64.wrap n = ((n.toNat : Nat) : Int) := by rw [u64_in _ (by omega) (by omega)]; omega
    have := whole_loop n n.toNat [] (by omega) (by have := nDig_le n.toNat (by omega); simp; omega)
    rw [if_neg hn, List.append_nil] at this
    rw [Lib.itoa, if_neg hn]
    refine Ev.congr (fun k => ?_) (Ev.step (g := fun k => PRef.ferrymanref20_whole.j0 k n (n.toNat : Int)) (fun k => rfl) this)
    simp only [PRef.ferrymanref20_whole.f]
    rw [if_neg hn, e]

/-! ### hex -/
theorem hex_dig (d : Nat) (h : d < 16) (k : Nat) (s acc : Bs) (i : Int) (y : List Int) (j : Nat) (hj : j < 2) (hy : rd y (j : Int) = (d : Int)) (hl : y.length = 2) (ha : acc.length ≤ 1000000000) :
    PRef.ferrymanref20_hex.l1 (k + 1) (bs s) (bs acc) i y 2 (j : Int) = PRef.ferrymanref20_hex.l1 k (bs s) (bs (acc ++ [hexDig d])) i y 2 ((j + 1 : Nat) : Int) := by
  simp only [PRef.ferrymanref20_hex.l1]
  rw [if_pos (by omega), if_pos (by omega), if_pos (by omega), hy]
  have ew : wrap64 ((j : Int) + 1) = ((j + 1 : Nat) : Int) := by rw [wrap_in (by omega) (by omega)]; omega
  by_cases hd : d < 10
  · rw [if_pos (by omega)]
    simp only [Option.bind_some]
    rw [strOne (48 + d) _ (by omega), bs_append, bs_size, bs_size, if_pos (by simp; omega), ew, hexDig, if_pos hd]
  · rw [if_neg (by omega)]
    simp only [Option.bind_some]
    rw [strOne (87 + d) _ (by omega), bs_append, bs_size, bs_size, if_pos (by simp; omega), ew, hexDig, if_neg hd]

theorem hexL_app (a b : Bs) : hexL (a ++ b) = hexL a ++ hexL b := by
  induction a with
  | nil => rfl
  | cons c r ih => simp [hexL, ih]

theorem hex_loop (s : Bs) (hs : s.length ≤ 100000000) : ∀ (d i : Nat), i ≤ s.length → s.length - i = d →
    Ev (fun k => PRef.ferrymanref20_hex.l0 k (bs s) (bs (hexL (s.take i))) (i : Int)) (bs (hexF s)) := by
  intro d
  induction d with
  | zero =>
    intro i hi hd
    have : i = s.length := by omega
    subst this
    refine ⟨1, fun k hk => ?_⟩
    obtain ⟨k, rfl⟩ : ∃ m, k = m + 1 := ⟨k - 1, by omega⟩
    simp only [PRef.ferrymanref20_hex.l0]
    rw [bs_size, if_neg (by omega), List.take_length, bs_toList]
    by_cases h : s = []
    · subst h; rfl
    · have hp := List.length_pos_iff.2 h
      rw [if_neg (by intro e; have := congrArg List.length e; rw [hexL_len] at this; simp at this; omega), hexF, if_neg h]
  | succ d ih =>
    intro i hi hd
    have hlt : i < s.length := by omega
    have hb := s[i].toNat_lt
    have hl : (hexL (s.take i)).length ≤ 200000000 := by rw [hexL_len, List.length_take]; omega
    have := ih (i + 1) (by omega) (by omega)
    have et : hexL (s.take (i + 1)) = hexL (s.take i) ++ [hexDig (s[i].toNat / 16)] ++ [hexDig (s[i].toNat % 16)] := by
      rw [List.take_succ_eq_append_getElem hlt, hexL_app]; simp [hexL]
    rw [et] at this
    refine Ev.step (f := fun k => PRef.ferrymanref20_hex.l1 k (bs s) (bs (hexL (s.take i))) (i : Int) [((s[i].toNat / 16 : Nat) : Int), ((s[i].toNat % 16 : Nat) : Int)] 2 ((0 : Nat) : Int)) (fun k => ?_) ?_
    · simp only [PRef.ferrymanref20_hex.l0]
      rw [bs_size, if_pos (by omega), if_pos (by omega), bt_bs s i hlt]
      simp only [Option.bind_some]
      have e1 : Int.tdiv (s[i].toNat : Int) 16 % 256 = ((s[i].toNat / 16 : Nat) : Int) := by rw [Int.tdiv_eq_ediv_of_nonneg (by omega)]; omega
      have e2 : Int.tmod (s[i].toNat : Int) 16 = ((s[i].toNat % 16 : Nat) : Int) := by rw [Int.tmod_eq_emod_of_nonneg (by omega)]; omega
      rw [e1, e2]
      rfl
    · refine Ev.step (fun k => hex_dig (s[i].toNat / 16) (by omega) k s _ _ _ 0 (by omega) rfl rfl (by omega)) ?_
      refine Ev.step (fun k => hex_dig (s[i].toNat % 16) (by omega) k s _ _ _ 1 (by omega) rfl rfl (by simp; omega)) ?_
      refine Ev.step (fun k => ?_) this
      simp only [PRef.ferrymanref20_hex.l1]
      rw [if_neg (by omega), wrap_in (by omega) (by omega)]
      rfl

theorem hex_ev (s : Bs) (hs : s.length ≤ 100000000) : Ev (fun k => PRef.ferrymanref20_hex.f k (bs s)) (bs (hexF s)) :=
  hex_loop s hs s.length 0 (by omega) (by omega)

/-! ### word -/
theorem word_is : ∀ k : Nat, k < 10 → PRef.ferrymanref20_word.f (k : Int) = some (bs (wordF k)) := by
  intro k hk
  rcases (show k = 0 ∨ k = 1 ∨ k = 2 ∨ k = 3 ∨ k = 4 ∨ k = 5 ∨ k = 6 ∨ k = 7 ∨ k = 8 ∨ k = 9 by omega) with rfl | rfl | rfl | rfl | rfl | rfl | rfl | rfl | rfl | rfl <;> rfl
end Go.Proofs.YthhhdddojmkgnaaGreatDoor
