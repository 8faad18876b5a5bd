/-
  What the reference's Read computes (as printed) is the plain thing.
-/
import Derived.Test.YthhhdddojmkgnaaGreatDoorCallRh
import Derived.Test.YthhhdddojmkgnaaGreatDoorBunH
namespace Go.Proofs.YthhhdddojmkgnaaGreatDoor
open Go.RowKit Go.Proofs.YthhhdddojmkgnaaGreatDoorW.PrintWords Go.Proofs.YthhhdddojmkgnaaGreatDoorW.PrintLast Go.Proofs.YthhhdddojmkgnaaGreatDoorW.PrintMore
open Go

def toldPairs : List Bs → List (Bs × Bs)
  | [] => []
  | [a] => [(toldF a, toldF [])]
  | a :: b :: t => (toldF a, toldF b) :: toldPairs t
def candA (ws : List Bs) : AnsR := ⟨numF (ws.getD 0 []), decide (ws.getD 1 [] = [49]), toldF (ws.getD 2 []), toldPairs (ws.drop 3)⟩
theorem toldPairs_words (ps : List (Bs × Bs)) : toldPairs (pairWords ps) = ps := by
  induction ps with
  | nil => rfl
  | cons p r ih => simp [pairWords, toldPairs, toldF_hexF, ih]
theorem candA_words (a : AnsR) (h : Ok64 a.err) : candA (tellWords a) = a := by
  obtain ⟨err, found, va, ps⟩ := a
  simp only [candA, tellWords, List.getD_cons_zero, List.getD_cons_succ, List.drop_succ_cons, List.drop_zero, numF_itoa err h, toldF_hexF, toldPairs_words]
  cases found <;> rfl
theorem readF_cand (s : Bs) : readF s = if tellF (candA (splitF s)) = s then some (candA (splitF s)) else none := by
  cases h : readF s with
  | some a =>
    have h1 := read_is h
    have h2 := tell_read h
    rw [h1.words, candA_words a h1.err, if_pos h2]
  | none =>
    split
    · rename_i e
      have := read_tell (candA (splitF s)) (numF_ok _)
      rw [e, h] at this
      cases this
    · rfl
theorem toldPairs_len : ∀ (n : Nat) (l : List Bs), l.length ≤ n → (toldPairs l).length ≤ l.length
  | _, [], _ => Nat.le_refl _
  | _, [a], _ => Nat.le_refl _
  | 0, a :: b :: t, h => by simp at h
  | n + 1, a :: b :: t, h => by
    have := toldPairs_len n t (by simp at h; omega)
    simp only [toldPairs, List.length_cons]
    omega
theorem toldPairs_mem : ∀ (n : Nat) (l : List Bs) (B : Nat), l.length ≤ n → (∀ x ∈ l, x.length ≤ B) → ∀ p ∈ toldPairs l, p.1.length ≤ B ∧ p.2.length ≤ B
  | _, [], _, _, _ => by simp [toldPairs]
  | _, [a], B, _, h => by
    intro p hp
    simp only [toldPairs, List.mem_singleton] at hp
    subst hp
    exact ⟨Nat.le_trans (toldF_length _ a (Nat.le_refl _)) (h a (by simp)), by simp [toldF]⟩
  | 0, a :: b :: t, _, hl, _ => by simp at hl
  | n + 1, a :: b :: t, B, hl, h => by
    intro p hp
    simp only [toldPairs, List.mem_cons] at hp
    rcases hp with rfl | hp
    · exact ⟨Nat.le_trans (toldF_length _ a (Nat.le_refl _)) (h a (by simp)), Nat.le_trans (toldF_length _ b (Nat.le_refl _)) (h b (by simp))⟩
    · exact toldPairs_mem n t B (by simp at hl; omega) (fun x hx => h x (by simp [hx])) p hp
theorem toldPairs_next {ws : List Bs} {j : Nat} (hj : j < ws.length) : toldPairs (ws.drop j) = (toldF (ws.getD j []), toldF (ws.getD (j + 1) [])) :: toldPairs (ws.drop (j + 2)) := by
  rw [List.drop_eq_getElem_cons hj, List.getD_eq_getElem?_getD, List.getElem?_eq_getElem hj]
  by_cases h1 : j + 1 < ws.length
  · rw [List.drop_eq_getElem_cons h1, List.getD_eq_getElem?_getD, List.getElem?_eq_getElem h1]
    rfl
  · rw [List.drop_of_length_le (by omega), List.drop_of_length_le (by omega), List.getD_eq_getElem?_getD, List.getElem?_eq_none (by omega)]
    rfl

def encA : Option AnsR → Int × Bool × ByteArray × List PRef.S33 × Int
  | none => (0, false, ⟨#[]⟩, [], 4)
  | some a => (a.err, a.found, bs a.va, a.pairs.map sp, 0)

theorem readR_loop (s : Bs) (ws : List Bs) (e : Int) (fnd : Bool) (va : Bs) (hw : ∀ x ∈ ws, x.length ≤ 1000000) (hn : ws.length ≤ 1000000) : ∀ (d j : Nat) (acc : List (Bs × Bs)), ws.length - j ≤ d → acc.length ≤ j →
    AnsOk ⟨e, fnd, va, acc ++ toldPairs (ws.drop j)⟩ → Ev (fun k => PRef.ferrymanref20_Read.l0 k (bs s) (ws.map bs) (j : Int) e fnd (bs va) (acc.map sp)) (encA (if tellF ⟨e, fnd, va, acc ++ toldPairs (ws.drop j)⟩ = s then some ⟨e, fnd, va, acc ++ toldPairs (ws.drop j)⟩ else none)) := by
  have stop : ∀ (j : Nat) (acc : List (Bs × Bs)), ws.length ≤ j → AnsOk ⟨e, fnd, va, acc ++ toldPairs (ws.drop j)⟩ → Ev (fun k => PRef.ferrymanref20_Read.l0 k (bs s) (ws.map bs) (j : Int) e fnd (bs va) (acc.map sp)) (encA (if tellF ⟨e, fnd, va, acc ++ toldPairs (ws.drop j)⟩ = s then some ⟨e, fnd, va, acc ++ toldPairs (ws.drop j)⟩ else none)) := by
    intro j acc hj hok
    rw [List.drop_of_length_le hj] at hok ⊢
    have e0 : acc ++ toldPairs [] = acc := List.append_nil _
    rw [e0] at hok ⊢
    obtain ⟨K, hK⟩ := tellR_ev _ hok
    refine ⟨K + 1, fun k hk => ?_⟩
    obtain ⟨k, rfl⟩ : ∃ m, k = m + 1 := ⟨k - 1, by omega⟩
    simp only [PRef.ferrymanref20_Read.l0]
    rw [if_neg (by rw [List.length_map]; omega)]
    have q : PRef.ferrymanref20_Tell.f k e fnd (bs va) (acc.map sp) = some (bs (tellF ⟨e, fnd, va, acc⟩)) := hK k (by omega)
    rw [q]
    simp only [Option.bind_some, bs_list_inj]
    by_cases hT : tellF ⟨e, fnd, va, acc⟩ = s
    · rw [if_pos hT, if_pos hT]; rfl
    · rw [if_neg hT, if_neg hT]; rfl
  intro d
  induction d with
  | zero => intro j acc hd _ hok; exact stop j acc (by omega) hok
  | succ d ih =>
    intro j acc hd hacc hok
    by_cases hjn : j < ws.length
    · have hnx := toldPairs_next hjn
      have he : acc ++ toldPairs (ws.drop j) = (acc ++ [(toldF (ws.getD j []), toldF (ws.getD (j + 1) []))]) ++ toldPairs (ws.drop (j + 2)) := by rw [hnx]; simp
      rw [he] at hok ⊢
      have hg : ∀ i, (ws.getD i []).length ≤ 1000000 := by
        intro i
        rw [List.getD_eq_getElem?_getD]
        cases hq : ws[i]? with
        | none => simp
        | some x => exact hw x (List.mem_of_getElem? hq)
      obtain ⟨K1, k1⟩ := told_ev (ws.getD j []) (hg j)
      obtain ⟨K2, k2⟩ := told_ev (ws.getD (j + 1) []) (hg (j + 1))
      obtain ⟨K3, k3⟩ := ih (j + 2) (acc ++ [(toldF (ws.getD j []), toldF (ws.getD (j + 1) []))]) (by omega) (by simp; omega) hok
      have e1 : wrap64 ((j : Int) + 1) = ((j + 1 : Nat) : Int) := by rw [wrap_in (by omega) (by omega)]; omega
      have e2 : wrap64 ((j : Int) + 2) = ((j + 2 : Nat) : Int) := by rw [wrap_in (by omega) (by omega)]; omega
      have E1 := Lib.hid e1
      have E2 := Lib.hid e2
      clear e1 e2
      have hrd : rdOf ByteArray.empty (ws.map bs) (j : Int) = bs (ws.getD j []) := by
        unfold rdOf
        rw [Int.toNat_natCast, List.getD_eq_getElem?_getD, List.getD_eq_getElem?_getD, List.getElem?_map, List.getElem?_eq_getElem hjn]; rfl
      refine ⟨K1 + K2 + K3 + 1, fun k hk => ?_⟩
      obtain ⟨k, rfl⟩ : ∃ m, k = m + 1 := ⟨k - 1, by omega⟩
      have q1 : PRef.ferrymanref20_told.f k (bs (ws.getD j [])) = some _ := k1 k (by omega)
      have q2 : PRef.ferrymanref20_told.f k (bs (ws.getD (j + 1) [])) = some _ := k2 k (by omega)
      have q3 := k3 k (by omega)
      have a1 : PRef.ferrymanref20_at.f (ws.map bs) ((j + 1 : Nat) : Int) = some (bs (ws.getD (j + 1) [])) := at_is ws (j + 1)
      have c1 : (j : Int) < ((ws.map bs).length : Int) := by rw [List.length_map]; exact Int.ofNat_lt.2 hjn
      have c2 : (0 : Int) ≤ (j : Int) := Int.natCast_nonneg j
      clear k1 k2 k3 ih stop
      simp only [PRef.ferrymanref20_Read.l0]
      rw [if_pos c1, if_pos c2, hrd, q1]
      rw [Option.bind_some]
      rw [E1.out, a1]
      rw [Option.bind_some]
      rw [q2]
      rw [Option.bind_some]
      have hL : (acc.map sp).length < 4398046511104 := by rw [List.length_map]; exact Nat.lt_of_le_of_lt (Nat.le_trans hacc (Nat.le_of_lt hjn)) (Nat.lt_of_le_of_lt hn (by decide))
      rw [if_pos hL, E2.out]
      have hsp : sp (toldF (ws.getD j []), toldF (ws.getD (j + 1) [])) = (⟨bs (toldF (ws.getD j [])), bs (toldF (ws.getD (j + 1) []))⟩ : PRef.S33) := rfl
      rw [List.map_append, List.map_cons, List.map_nil, hsp] at q3
      exact q3
    · exact stop j acc (by omega) hok

theorem candA_ok (s : Bs) (hs : s.length ≤ 99999) : AnsOk (candA (splitF s)) := by
  have hm : ∀ x ∈ splitF s, x.length ≤ 99999 := fun x hx => Nat.le_trans (splitF_mem_length s x hx) hs
  have hl : (splitF s).length ≤ 100000 := by
    have h1 := splitF_len s
    have h2 : s.count 32 ≤ s.length := List.count_le_length
    omega
  refine ⟨numF_ok _, ?_, ?_, ?_⟩
  · exact Nat.le_trans (toldF_length _ _ (Nat.le_refl _)) (Nat.le_trans (getD_len s 2) (by omega))
  · exact Nat.le_trans (toldPairs_len _ _ (Nat.le_refl _)) (by rw [List.length_drop]; omega)
  · intro p hp
    have := toldPairs_mem _ _ 99999 (Nat.le_refl _) (fun x hx => hm x (List.mem_of_mem_drop hx)) p hp
    omega
theorem refRead (s : Bs) (hs : s.length ≤ 99999) : ∃ k, PRef.ferrymanref20_Read.f k (bs s) = some (encA (readF s)) := by
  rw [readF_cand]
  have hok := candA_ok s hs
  have hm : ∀ x ∈ splitF s, x.length ≤ 1000000 := fun x hx => Nat.le_trans (splitF_mem_length s x hx) (by omega)
  have hl : (splitF s).length ≤ 1000000 := by
    have h1 := splitF_len s
    have h2 : s.count 32 ≤ s.length := List.count_le_length
    omega
  have hpos : 0 < (splitF s).length := by
    have := splitF_ne s
    exact List.length_pos_iff.2 this
  obtain ⟨K0, k0⟩ := split_ev s (by omega)
  obtain ⟨K1, k1⟩ := number_ev ((splitF s).getD 0 []) (Nat.le_trans (getD_len s 0) (by omega))
  obtain ⟨K2, k2⟩ := told_ev ((splitF s).getD 2 []) (Nat.le_trans (getD_len s 2) (by omega))
  have hL : Ev (fun k => PRef.ferrymanref20_Read.l0 k (bs s) ((splitF s).map bs) (3 : Int) (candA (splitF s)).err (candA (splitF s)).found (bs (candA (splitF s)).va) []) (encA (if tellF (candA (splitF s)) = s then some (candA (splitF s)) else none)) := by
    exact readR_loop s (splitF s) (candA (splitF s)).err (candA (splitF s)).found (candA (splitF s)).va hm hl _ 3 [] (Nat.le_refl _) (by simp) hok
  obtain ⟨K3, k3⟩ := hL
  refine ⟨K0 + K1 + K2 + K3, ?_⟩
  simp only [PRef.ferrymanref20_Read.f]
  have q0 : PRef.ferrymanref20_split.f (K0 + K1 + K2 + K3) (bs s) = some ((splitF s).map bs) := k0 _ (by omega)
  have q1 : PRef.ferrymanref20_number.f (K0 + K1 + K2 + K3) (bs ((splitF s).getD 0 [])) = some _ := k1 _ (by omega)
  have q2 : PRef.ferrymanref20_told.f (K0 + K1 + K2 + K3) (bs ((splitF s).getD 2 [])) = some _ := k2 _ (by omega)
  have q3 := k3 (K0 + K1 + K2 + K3) (by omega)
  have hrd : rdOf ByteArray.empty ((splitF s).map bs) 0 = bs ((splitF s).getD 0 []) := by
    cases h : splitF s with
    | nil => rw [h] at hpos; cases hpos
    | cons a b => rfl
  have a1 : PRef.ferrymanref20_at.f ((splitF s).map bs) 1 = some (bs ((splitF s).getD 1 [])) := at_is (splitF s) 1
  have a2 : PRef.ferrymanref20_at.f ((splitF s).map bs) 2 = some (bs ((splitF s).getD 2 [])) := at_is (splitF s) 2
  rw [q0]
  simp only [Option.bind_some]
  rw [if_pos (by rw [List.length_map]; omega), hrd, q1]
  simp only [Option.bind_some]
  rw [a1, a2]
  simp only [Option.bind_some]
  rw [q2]
  simp only [Option.bind_some]
  have e1 : ((bs ((splitF s).getD 1 [])).toList == ([49] : List UInt8)) = decide ((splitF s).getD 1 [] = [49]) := by
    rw [bs_toList, Bool.eq_iff_iff]; simp
  rw [e1]
  exact q3
end Go.Proofs.YthhhdddojmkgnaaGreatDoor
