/-
  What the reference's split, number, told, Show compute (as printed) is what the plain functions do.
-/
import Derived.Test.YthhhdddojmkgnaaGreatDoorCallRa
import Derived.Test.YthhhdddojmkgnaaGreatDoorBunB
namespace Go.Proofs.YthhhdddojmkgnaaGreatDoor
open Go.RowKit Go.Proofs.YthhhdddojmkgnaaGreatDoorW.PrintWords Go.Proofs.YthhhdddojmkgnaaGreatDoorW.PrintLast Go.Proofs.YthhhdddojmkgnaaGreatDoorW.PrintMore
open Go

theorem byte_eq {c n : UInt8} (h : (c.toNat : Int) = (n.toNat : Int)) : c = n := UInt8.toNat_inj.1 (by omega)

/-! ### split -/
theorem ext_bs (s : Bs) (f i : Nat) : (bs s).extract ((f : Int)).toNat ((i : Int)).toNat = bs ((s.take i).drop f) := by
  rw [Int.toNat_natCast, Int.toNat_natCast]; exact bs_extract s f i

theorem cut_word (s : Bs) (f i : Nat) (hf : f ≤ i) (hi : i < s.length) : s.drop f = (s.take i).drop f ++ s[i] :: s.drop (i + 1) := by
  have h := List.take_append_drop i s
  rw [List.drop_eq_getElem_cons hi] at h
  conv => lhs; rw [← h, List.drop_append_of_le_length (by rw [List.length_take]; omega)]

theorem split_loop (s : Bs) (hs : s.length ≤ 1000000) : ∀ (d i f : Nat) (acc : List Bs), f ≤ i → i ≤ s.length → s.length - i = d → acc.length ≤ i → (32 : UInt8) ∉ (s.take i).drop f →
    Ev (fun k => PRef.ferrymanref20_split.l0 k (bs s) (acc.map bs) (f : Int) (i : Int)) ((acc ++ splitF (s.drop f)).map bs) := by
  intro d
  induction d with
  | zero =>
    intro i f acc hf hi hd ha hno
    have : i = s.length := by omega
    subst this
    rw [List.take_length] at hno
    rw [splitF_word _ hno]
    refine ⟨2, fun k hk => ?_⟩
    obtain ⟨k, rfl⟩ : ∃ m, k = m + 2 := ⟨k - 2, by omega⟩
    simp only [PRef.ferrymanref20_split.l0]
    rw [bs_size, if_pos (by omega), if_pos rfl, if_pos (by omega), if_pos (by omega), if_pos (by simp; omega), if_neg (by rw [wrap_in (by omega) (by omega)]; omega), ext_bs, List.take_length]
    simp
  | succ d ih =>
    intro i f acc hf hi hd ha hno
    have hlt : i < s.length := by omega
    have hw : wrap64 ((i : Int) + 1) = ((i + 1 : Nat) : Int) := by rw [wrap_in (by omega) (by omega)]; rfl
    have hb := s[i].toNat_lt
    by_cases h32 : s[i] = 32
    · have := ih (i + 1) (i + 1) (acc ++ [(s.take i).drop f]) (Nat.le_refl _) (by omega) (by omega) (by simp; omega) (by simp)
      rw [cut_word s f i hf hlt, h32, splitF_append _ _ hno]
      rw [List.append_assoc] at this
      refine Ev.step (fun k => ?_) this
      simp only [PRef.ferrymanref20_split.l0]
      rw [bs_size, if_pos (by omega), if_neg (by omega), if_pos (by omega), if_pos (by omega), bt_bs s i hlt, h32, if_pos (by decide), if_pos (by omega), if_pos (by omega), if_pos (by simp; omega), ext_bs, hw]
      simp
    · have hno' : (32 : UInt8) ∉ (s.take (i + 1)).drop f := by
        rw [List.take_succ_eq_append_getElem hlt, List.drop_append_of_le_length (by rw [List.length_take]; omega)]
        intro hm
        rw [List.mem_append] at hm
        rcases hm with hm | hm
        · exact hno hm
        · exact h32 (List.mem_singleton.1 hm).symm
      refine Ev.step (fun k => ?_) (ih (i + 1) f acc (by omega) (by omega) (by omega) (by omega) hno')
      simp only [PRef.ferrymanref20_split.l0]
      have hne : ¬ ((s[i].toNat : Int) = 32) := fun e => h32 (byte_eq (n := 32) e)
      rw [bs_size, if_pos (by omega), if_neg (by omega), if_pos (by omega), if_pos (by omega), bt_bs s i hlt, if_neg hne, hw]

theorem split_ev (s : Bs) (hs : s.length ≤ 1000000) : Ev (fun k => PRef.ferrymanref20_split.f k (bs s)) ((splitF s).map bs) :=
  split_loop s hs s.length 0 0 [] (Nat.le_refl _) (Nat.zero_le _) rfl (Nat.le_refl _) (by simp)

theorem at_is (ws : List Bs) (i : Nat) : PRef.ferrymanref20_at.f (ws.map bs) (i : Int) = some (bs (ws.getD i [])) := by
  unfold PRef.ferrymanref20_at.f
  rw [List.length_map]
  by_cases h : i < ws.length
  · rw [if_neg (by omega), if_pos (by omega), if_pos (by omega)]
    unfold rdOf
    simp [List.getD_eq_getElem?_getD, List.getElem?_eq_getElem h]
  · rw [if_pos (by omega)]
    simp [List.getD_eq_getElem?_getD, List.getElem?_eq_none (show ws.length ≤ i by omega)]
    rfl

/-! ### number -/
def numU (a : Int) : Bs → Int
  | [] => a
  | c :: r => numU (IntKind.u64.wrap (IntKind.u64.wrap (a * 10) + ((c.toNat : Int) - 48) % 256)) r
def numF : Bs → Int
  | [] => 0
  | c :: r => if c = 45 then wrap64 (IntKind.u64.wrap (-(numU 0 r))) else wrap64 (numU 0 (c :: r))
theorem wrap64_ok (n : Int) : Ok64 (wrap64 n) := by unfold Ok64 wrap64; omega
theorem numF_ok (s : Bs) : Ok64 (numF s) := by
  cases s with
  | nil => exact ok64_0
  | cons c r => rw [numF]; split <;> exact wrap64_ok _
theorem num_fin (s : Bs) (hs : s.length ≤ 1000000) : ∀ (d i : Nat) (a : Int), 1 ≤ i → i ≤ s.length → s.length - i = d →
    Ev (fun k => PRef.ferrymanref20_number.l0 k (bs s) a (i : Int)) (if s.head? = some 45 then wrap64 (IntKind.u64.wrap (-(numU a (s.drop i)))) else wrap64 (numU a (s.drop i))) := by
  intro d
  induction d with
  | zero =>
    intro i a h1 hi hd
    have : i = s.length := by omega
    subst this
    refine ⟨1, fun k hk => ?_⟩
    obtain ⟨k, rfl⟩ : ∃ m, k = m + 1 := ⟨k - 1, by omega⟩
    simp only [PRef.ferrymanref20_number.l0]
    have h0 : 0 < s.length := by omega
    have hb := bt_bs s 0 h0
    rw [bs_size, if_neg (by omega), if_pos (by omega), if_pos (by omega), show ((0 : Int)) = ((0 : Nat) : Int) from rfl, hb, List.drop_length, numU]
    have hh : s.head? = some s[0] := by
      cases s with
      | nil => simp at h0
      | cons c r => rfl
    rw [hh]
    by_cases h45 : s[0] = 45
    · rw [if_pos (by rw [h45]; decide), if_pos (by rw [h45])]
    · rw [if_neg (show ¬ ((s[0].toNat : Int) = 45) from fun e => h45 (byte_eq (n := 45) e)), if_neg (by simpa using h45)]
  | succ d ih =>
    intro i a h1 hi hd
    have hlt : i < s.length := by omega
    have hw : wrap64 ((i : Int) + 1) = ((i + 1 : Nat) : Int) := by rw [wrap_in (by omega) (by omega)]; rfl
    rw [List.drop_eq_getElem_cons hlt, numU]
    refine Ev.step (fun k => ?_) (ih (i + 1) _ (by omega) (by omega) (by omega))
    simp only [PRef.ferrymanref20_number.l0]
    rw [bs_size, if_pos (by omega), if_pos (by omega), if_pos (by omega), bt_bs s i hlt, hw]

theorem number_ev (s : Bs) (hs : s.length ≤ 1000000) : Ev (fun k => PRef.ferrymanref20_number.f k (bs s)) (numF s) := by
  cases s with
  | nil =>
    refine ⟨1, fun k hk => ?_⟩
    obtain ⟨k, rfl⟩ : ∃ m, k = m + 1 := ⟨k - 1, by omega⟩
    simp only [PRef.ferrymanref20_number.f, PRef.ferrymanref20_number.l0]
    rw [bs_size, if_neg (by simp), if_neg (by simp), wrap_in (by omega) (by omega)]
    rfl
  | cons c r =>
    have hb := bt_bs (c :: r) 0 (by simp)
    simp only [List.getElem_cons_zero] at hb
    have hw : wrap64 ((0 : Int) + 1) = ((1 : Nat) : Int) := by rw [wrap_in (by omega) (by omega)]; rfl
    by_cases h45 : c = 45
    · have := num_fin (c :: r) hs r.length 1 0 (by omega) (by simp) (by simp)
      rw [numF, if_pos h45]
      rw [List.head?_cons, if_pos (by rw [h45]), List.drop_succ_cons, List.drop_zero] at this
      refine Ev.step (g := fun k => PRef.ferrymanref20_number.f k (bs (c :: r))) (fun k => ?_) this
      simp only [PRef.ferrymanref20_number.f, PRef.ferrymanref20_number.l0]
      rw [bs_size, if_pos (by simp), if_neg (by omega), if_pos (by omega)]
      have hb2 : bt (bs (c :: r)) 0 = 45 := by rw [show (0 : Int) = ((0 : Nat) : Int) from rfl, hb, h45]; rfl
      rw [if_pos hb2, hw]
    · have := num_fin (c :: r) hs r.length 1 (IntKind.u64.wrap (IntKind.u64.wrap (0 * 10) + ((c.toNat : Int) - 48) % 256)) (by omega) (by simp) (by simp)
      rw [numF, if_neg h45, numU]
      rw [List.head?_cons, if_neg (by simpa using h45), List.drop_succ_cons, List.drop_zero] at this
      refine Ev.step (g := fun k => PRef.ferrymanref20_number.f k (bs (c :: r))) (fun k => ?_) this
      simp only [PRef.ferrymanref20_number.f, PRef.ferrymanref20_number.l0]
      have hb2 : bt (bs (c :: r)) 0 = (c.toNat : Int) := by rw [show (0 : Int) = ((0 : Nat) : Int) from rfl, hb]
      have hne : ¬ ((c.toNat : Int) = 45) := fun e => h45 (byte_eq (n := 45) e)
      rw [bs_size, if_pos (by simp), if_neg (by omega), if_pos (by omega), hb2, if_neg hne, hw]

theorem numU_append (a : Int) (x y : Bs) : numU a (x ++ y) = numU (numU a x) y := by
  induction x generalizing a with
  | nil => rfl
  | cons c r ih => exact ih _
theorem numU_dec (u : Nat) : u < 18446744073709551616 → numU 0 (Lib.decDigits u) = (u : Int) := by
  induction u using Nat.strongRecOn with
  | _ u ih =>
    intro hu
    rw [Lib.decDigits]
    split
    · rename_i h
      simp only [numU]
      rw [dig_toNat u h, u64_in (0 * 10) (by omega) (by omega), u64_in _ (by omega) (by omega)]; omega
    · rename_i h
      rw [numU_append, ih (u / 10) (by omega) (by omega)]
      simp only [numU]
      rw [dig_toNat _ (by omega), u64_in (((u / 10 : Nat) : Int) * 10) (by omega) (by omega), u64_in _ (by omega) (by omega)]; omega
theorem numF_itoa (v : Int) (h : Ok64 v) : numF (Lib.itoa v) = v := by
  obtain ⟨h1, h2⟩ := h
  rw [Lib.itoa]
  split
  · rename_i hn
    rw [numF, if_pos rfl, numU_dec _ (by omega)]
    simp [IntKind.wrap, IntKind.signed, IntKind.bits, wrap64]; omega
  · rename_i hn
    cases hl : Lib.decDigits v.toNat with
    | nil => exact absurd hl (dec_ne _)
    | cons c r =>
      have hc := dec_digit v.toNat c (by rw [hl]; simp)
      rw [numF, if_neg (by intro e; rw [e] at hc; simp at hc), ← hl, numU_dec _ (by omega), wrap_in (by omega) (by omega)]
      omega

/-! ### told -/
def digI (c : UInt8) : Int := if (c.toNat : Int) ≥ 97 then (((c.toNat : Int) - 97) % 256 + 10) % 256 else ((c.toNat : Int) - 48) % 256
def toldF : Bs → Bs
  | a :: b :: r => UInt8.ofNat ((((16 * digI a) % 256 + digI b) % 256).toNat) :: toldF r
  | _ => []
theorem digit_is (c : UInt8) : PRef.ferrymanref20_digit.f (c.toNat : Int) = some (digI c) := by
  unfold PRef.ferrymanref20_digit.f digI
  split <;> rfl
theorem strOne' (n : Int) : strOfNums [n] = bs [UInt8.ofNat n.toNat] := by simp [strOfNums, bs]
theorem told_loop (s : Bs) (hs : s.length ≤ 1000000) : ∀ (d i : Nat) (acc : Bs), i ≤ s.length → s.length - i ≤ d → acc.length ≤ i →
    Ev (fun k => PRef.ferrymanref20_told.l0 k (bs s) (bs acc) (i : Int)) (bs (acc ++ toldF (s.drop i))) := by
  intro d
  induction d using Nat.strongRecOn with
  | _ d ih =>
    intro i acc hi hd ha
    have hw : wrap64 ((i : Int) + 1) = ((i + 1 : Nat) : Int) := by rw [wrap_in (by omega) (by omega)]; rfl
    by_cases h : i + 1 < s.length
    · have hw2 : wrap64 ((i : Int) + 2) = ((i + 2 : Nat) : Int) := by rw [wrap_in (by omega) (by omega)]; rfl
      have e : s.drop i = s[i] :: s[i + 1] :: s.drop (i + 2) := by
        rw [List.drop_eq_getElem_cons (by omega), List.drop_eq_getElem_cons h]
      rw [e, toldF]
      have := ih (d - 1) (by omega) (i + 2) (acc ++ [UInt8.ofNat ((((16 * digI s[i]) % 256 + digI s[i + 1]) % 256).toNat)]) (by omega) (by omega) (by simp; omega)
      rw [List.append_assoc] at this
      refine Ev.step (fun k => ?_) this
      simp only [PRef.ferrymanref20_told.l0]
      rw [hw, bs_size, if_pos (by omega), if_pos (by omega), if_pos (by omega), bt_bs s i (by omega), digit_is]
      simp only [Option.bind_some]
      rw [if_pos (by omega), bt_bs s (i + 1) h, digit_is]
      simp only [Option.bind_some]
      rw [strOne', bs_append, bs_size, bs_size, if_pos (by simp; omega), hw2]
    · have e : toldF (s.drop i) = [] := by
        have hl : (s.drop i).length ≤ 1 := by rw [List.length_drop]; omega
        match s.drop i, hl with
        | [], _ => rfl
        | [a], _ => rfl
        | a :: b :: r, hl => simp at hl
      rw [e, List.append_nil]
      refine ⟨1, fun k hk => ?_⟩
      obtain ⟨k, rfl⟩ : ∃ m, k = m + 1 := ⟨k - 1, by omega⟩
      simp only [PRef.ferrymanref20_told.l0]
      rw [hw, bs_size, if_neg (by omega)]
theorem told_ev (s : Bs) (hs : s.length ≤ 1000000) : Ev (fun k => PRef.ferrymanref20_told.f k (bs s)) (bs (toldF s)) := by
  have := told_loop s hs s.length 0 [] (Nat.zero_le _) (by omega) (Nat.le_refl _)
  rwa [List.drop_zero, List.nil_append] at this
theorem told_pair : ∀ i : Fin 256, (((16 * digI (hexDig (i.val / 16))) % 256 + digI (hexDig (i.val % 16))) % 256).toNat = i.val := by decide +kernel
theorem toldF_hexL (l : Bs) : toldF (hexL l) = l := by
  induction l with
  | nil => rfl
  | cons c r ih =>
    simp only [hexL, toldF, ih]
    rw [told_pair ⟨c.toNat, c.toNat_lt⟩]
    simp
theorem toldF_hexF (l : Bs) : toldF (hexF l) = l := by
  rw [hexF]; split
  · rename_i h; subst h; rfl
  · exact toldF_hexL l
theorem toldF_length : ∀ (n : Nat) (s : Bs), s.length ≤ n → (toldF s).length ≤ s.length
  | n, [], _ => by simp [toldF]
  | n, [a], _ => by simp [toldF]
  | 0, a :: b :: r, h => by simp at h
  | n + 1, a :: b :: r, h => by
    simp only [toldF, List.length_cons]
    have := toldF_length n r (by simp at h; omega)
    omega
end Go.Proofs.YthhhdddojmkgnaaGreatDoor
