/-
  How long a shown call, a told answer, a parsed call's texts are.
-/
import Derived.Test.YthhhdddojmkgnaaGreatDoorCallPb
namespace Go.Proofs.YthhhdddojmkgnaaGreatDoor
open Go.RowKit

theorem show_length {x : CallR} (ht : IsInt x.tx) (hl : IsInt x.lim) (h1 : x.key.length ≤ 9000 ∧ x.en.length ≤ 9000 ∧ x.va.length ≤ 9000) : (showF x).length ≤ 100000 := by
  cases hm : mayF x with
  | false => rw [showF, hm]; simp
  | true =>
    rw [showF, if_pos hm]
    have hk := mayF_kind hm
    have hw : ∀ y ∈ callWords x, y.length ≤ 18001 := by
      have b0 : (wordF x.kind).length ≤ 18001 := by
        have : ∀ i : Fin 10, (wordF i.val).length ≤ 18001 := by decide
        exact this ⟨x.kind, by omega⟩
      have b1 := itoaLen x.tx ht
      have b2 := hexF_length x.key
      have b3 := hexF_length x.va
      have b4 := hexF_length x.en
      have b5 := itoaLen x.lim hl
      have b6 : x.kind = 9 → (Lib.itoa (x.eng : Int)).length ≤ 21 := fun e => itoaLen _ (by unfold IsInt; have := hk.2.2 e; omega)
      unfold callWords
      split
      · intro y hy; simp only [List.mem_cons, List.not_mem_nil, or_false] at hy; rcases hy with rfl | rfl | rfl <;> omega
      · split
        · intro y hy; simp only [List.mem_cons, List.not_mem_nil, or_false] at hy; rcases hy with rfl | rfl | rfl | rfl <;> omega
        · split
          · intro y hy; simp only [List.mem_cons, List.not_mem_nil, or_false] at hy; rcases hy with rfl | rfl | rfl | rfl | rfl <;> omega
          · split
            · rename_i h9
              have := b6 h9
              intro y hy; simp only [List.mem_cons, List.not_mem_nil, or_false] at hy; rcases hy with rfl | rfl <;> omega
            · split
              · intro y hy; simp only [List.mem_cons, List.not_mem_nil, or_false] at hy; rcases hy with rfl | rfl <;> omega
              · intro y hy; simp only [List.mem_cons, List.not_mem_nil, or_false] at hy; subst hy; omega
    have hj := join_length_le (callWords x) 18001 hw
    have hn := callWords_len x
    have : arityF x.kind ≤ 5 := by unfold arityF; repeat' split
                                   all_goals omega
    have : (callWords x).length * 18002 ≤ 5 * 18002 := Nat.mul_le_mul_right _ (by omega)
    omega


theorem hexF_ge (l : Bs) : l.length ≤ (hexF l).length := by
  rw [hexF]
  split
  · rename_i h; subst h; simp
  · rw [hexL_length]; omega
theorem parsed_ok {s : Bs} {z : CallR} (h : parseF s = some z) (hs : s.length ≤ 1000000000) : CallOk z := by
  have hp := parse_is s z h
  obtain ⟨h1, h9, _⟩ := mayF_kind hp.may
  have hw : ∀ y ∈ callWords z, y.length ≤ 1000000000 := fun y hy => Nat.le_trans (splitF_le s y (by rw [hp.words]; exact hy)) hs
  have hc := hp.clean
  have ht := hp.tx
  have hl := hp.lim
  obtain ⟨k, tx, key, en, va, lim, eng⟩ := z
  simp only at h1 h9 ht hl
  have g1 := hexF_ge key
  have g2 := hexF_ge en
  have g3 := hexF_ge va
  have c1 := congrArg (fun c : CallR => c.key.length) hc
  have c2 := congrArg (fun c : CallR => c.en.length) hc
  have c3 := congrArg (fun c : CallR => c.va.length) hc
  clear hc hp h
  rcases cases9 h1 h9 with rfl | rfl | rfl | rfl | rfl | rfl | rfl | rfl | rfl
  all_goals
    simp [cleanF, needsF, keyedF] at c1 c2 c3
    simp [callWords, needsF] at hw
    exact ⟨ht, hl, by simp only; first | omega | (simp [c1]; done), by simp only; first | omega | (simp [c2]; done), by simp only; first | omega | (simp [c3]; done)⟩
/-- An answer that is not wide is told in few bytes. -/
theorem tell_short (a : AnsR) (he : IsInt a.err) (h1 : a.va.length < 9000) (h2 : a.pairs.length < 900) (h3 : ∀ p ∈ a.pairs, p.1.length < 9000 ∧ p.2.length < 9000) : (tellF a).length ≤ 1000000000 := by
  refine Nat.le_trans (join_length_le _ 18001 ?_) ?_
  · intro y hy
    have hw : ∀ l : List (Bs × Bs), (∀ p ∈ l, p.1.length < 9000 ∧ p.2.length < 9000) → ∀ y ∈ pairWords l, y.length ≤ 18001 := by
      intro l
      induction l with
      | nil => intro _ y hy; simp [pairWords] at hy
      | cons p r ih =>
        intro hl y hy
        have := hl p (by simp)
        simp only [pairWords, List.mem_cons] at hy
        rcases hy with rfl | rfl | hy
        · exact Nat.le_trans (hexF_length _) (by omega)
        · exact Nat.le_trans (hexF_length _) (by omega)
        · exact ih (fun q hq => hl q (by simp [hq])) y hy
    simp only [tellWords, List.mem_cons] at hy
    rcases hy with rfl | rfl | rfl | hy
    · exact Nat.le_trans (itoaLen _ he) (by decide)
    · cases a.found <;> decide
    · exact Nat.le_trans (hexF_length _) (by omega)
    · exact hw _ h3 y hy
  · simp only [tellWords, List.length_cons, pairWords_length]
    omega
end Go.Proofs.YthhhdddojmkgnaaGreatDoor
