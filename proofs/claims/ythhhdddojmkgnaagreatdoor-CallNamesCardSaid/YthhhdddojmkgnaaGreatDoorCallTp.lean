/-
  Plain functions and laws of answers: an answer's text, the answer of a text; each is the other's back. No program in sight.
-/
import Derived.Test.YthhhdddojmkgnaaGreatDoorCallJ
namespace Go.Proofs.YthhhdddojmkgnaaGreatDoor
open Go

/-- An answer. -/
structure AnsR where
  err : Int
  found : Bool
  va : Bs
  pairs : List (Bs × Bs)

def found1 (b : Bool) : Bs := if b then [49] else [48]
def pairWords : List (Bs × Bs) → List Bs
  | [] => []
  | p :: r => hexF p.1 :: hexF p.2 :: pairWords r
def tellWords (a : AnsR) : List Bs := Lib.itoa a.err :: found1 a.found :: hexF a.va :: pairWords a.pairs
def tellF (a : AnsR) : Bs := Lib.join (tellWords a) [32]

/-- Read's loop, from a reader that is not bad. -/
def readPairs : List Bs → List (Bs × Bs) × Rd
  | [] => ([], ⟨[], false⟩)
  | [a] => ([((textOf a).1, (textOf []).1)], ⟨[], true⟩)
  | a :: b :: t =>
    if (textOf a).2 || (textOf b).2 then ([((textOf a).1, (textOf b).1)], ⟨t, true⟩)
    else (((textOf a).1, (textOf b).1) :: (readPairs t).1, (readPairs t).2)
/-- What stands behind the found word: is the reader bad then? -/
def foundBad (f : Bs × Rd) : Bool := f.2.bad || (!decide (f.1 = [49]) && !decide (f.1 = [48]))
def rdV (ws : List Bs) : Bs × Rd := Rd.text ⟨(Rd.number ⟨ws, false⟩).2.next.2.l, foundBad (Rd.number ⟨ws, false⟩).2.next⟩
def rdP (ws : List Bs) : List (Bs × Bs) × Rd := if (rdV ws).2.bad then ([], (rdV ws).2) else readPairs (rdV ws).2.l
def readW (ws : List Bs) : Option AnsR := if (rdP ws).2.done then some ⟨(Rd.number ⟨ws, false⟩).1, decide ((Rd.number ⟨ws, false⟩).2.next.1 = [49]), (rdV ws).1, (rdP ws).1⟩ else none
def readF (s : Bs) : Option AnsR := readW (splitF s)

theorem readPairs_words (l : List (Bs × Bs)) : readPairs (pairWords l) = (l, ⟨[], false⟩) := by
  induction l with
  | nil => rfl
  | cons p r ih => simp [pairWords, readPairs, textOf_hexF, ih]
theorem readPairs_done : ∀ (n : Nat) (ws : List Bs), ws.length ≤ n → (readPairs ws).2.done = true → pairWords (readPairs ws).1 = ws
  | n, [], _, _ => rfl
  | n, [a], _, h => by simp [readPairs, Rd.done] at h
  | 0, a :: b :: t, h, _ => by simp at h
  | n + 1, a :: b :: t, hl, h => by
    rw [readPairs] at h ⊢
    split at h
    · simp [Rd.done] at h
    · rename_i hb
      rw [if_neg hb]
      simp only [Bool.or_eq_true, not_or, Bool.not_eq_true] at hb
      simp only [pairWords]
      rw [readPairs_done n t (by simp at hl; omega) h, textOf_false hb.1, textOf_false hb.2]

theorem pairWords_no32 (l : List (Bs × Bs)) : ∀ w ∈ pairWords l, (32 : UInt8) ∉ w := by
  induction l with
  | nil => simp [pairWords]
  | cons p r ih =>
    intro w hw
    simp only [pairWords, List.mem_cons] at hw
    rcases hw with rfl | rfl | hw
    · exact hexF_no32 _
    · exact hexF_no32 _
    · exact ih w hw
theorem splitF_tellF (a : AnsR) : splitF (tellF a) = tellWords a := by
  refine splitF_join _ (by simp [tellWords]) ?_
  intro w hw
  simp only [tellWords, List.mem_cons] at hw
  rcases hw with rfl | rfl | rfl | hw
  · exact itoa_no32 _
  · cases a.found <;> decide
  · exact hexF_no32 _
  · exact pairWords_no32 _ w hw

theorem read_tell (a : AnsR) (h : Ok64 a.err) : readF (tellF a) = some a := by
  rw [readF, splitF_tellF]
  obtain ⟨err, found, va, pairs⟩ := a
  have hn := number_good err (found1 found :: hexF va :: pairWords pairs) h.1 h.2
  have hw : tellWords ⟨err, found, va, pairs⟩ = Lib.itoa err :: found1 found :: hexF va :: pairWords pairs := rfl
  have hx : Rd.next ⟨found1 found :: hexF va :: pairWords pairs, false⟩ = (found1 found, ⟨hexF va :: pairWords pairs, false⟩) := rfl
  have hf : foundBad (found1 found, ⟨hexF va :: pairWords pairs, false⟩) = false := by cases found <;> rfl
  have hv : rdV (tellWords ⟨err, found, va, pairs⟩) = (va, ⟨pairWords pairs, false⟩) := by
    rw [rdV, hw, hn]
    simp only [hx, hf]
    exact text_good va _
  have hp : rdP (tellWords ⟨err, found, va, pairs⟩) = (pairs, ⟨[], false⟩) := by
    rw [rdP, hv]
    simp only [Bool.false_eq_true, if_false, readPairs_words]
  rw [readW, hp, hv, hw, hn]
  simp only [hx, done_nil, if_true]
  cases found <;> rfl

/-- What a text that is read is. -/
structure ReadIs (s : Bs) (a : AnsR) : Prop where
  err : Ok64 a.err
  words : splitF s = tellWords a

theorem read_is {s : Bs} {a : AnsR} (h : readF s = some a) : ReadIs s a := by
  rw [readF] at h
  generalize hws : splitF s = ws at h
  rw [readW] at h
  split at h
  · rename_i hd
    simp only [Option.some.injEq] at h
    have hvb : (rdV ws).2.bad = false := by
      cases hb : (rdV ws).2.bad with
      | false => rfl
      | true =>
        rw [rdP, hb, if_pos rfl] at hd
        have := (done_true hd).1
        simp only at this
        rw [hb] at this
        cases this
    have hp : rdP ws = readPairs (rdV ws).2.l := by rw [rdP, hvb]; rfl
    obtain ⟨hfb, va, t3, e3, q3⟩ := text_bad (r := ⟨(Rd.number ⟨ws, false⟩).2.next.2.l, foundBad (Rd.number ⟨ws, false⟩).2.next⟩) hvb
    simp only at hfb e3
    have q3 : rdV ws = (va, ⟨t3, false⟩) := q3
    rw [q3] at hp h
    simp only at hp h
    simp only [foundBad, Bool.or_eq_false_iff, Bool.and_eq_false_iff, Bool.not_eq_false', decide_eq_true_eq] at hfb
    obtain ⟨hnb, hf⟩ := hfb
    have hnext : ∃ fw t2, (Rd.number ⟨ws, false⟩).2.l = fw :: t2 ∧ (Rd.number ⟨ws, false⟩).2.next = (fw, ⟨t2, false⟩) ∧ (Rd.number ⟨ws, false⟩).2.bad = false := by
      generalize (Rd.number ⟨ws, false⟩).2 = r at hnb
      obtain ⟨l, b⟩ := r
      cases l with
      | nil => simp [Rd.next] at hnb
      | cons x t =>
        simp only [Rd.next] at hnb ⊢
        exact ⟨x, t, rfl, by rw [hnb], hnb⟩
    obtain ⟨fw, t2, el, en, eb⟩ := hnext
    obtain ⟨_, err, t1, e1, q1, b⟩ := number_bad eb
    rw [en] at e3 hf h
    simp only at e3 hf h e1
    rw [q1] at el h
    simp only at el h
    rw [hp] at hd h
    have hpw := readPairs_done t3.length t3 (Nat.le_refl _) hd
    subst h
    refine ⟨b, ?_⟩
    rw [hws, e1, el, e3]
    simp only [tellWords, hpw]
    rcases hf with hf | hf
    · rw [hf]; rfl
    · rw [hf]; rfl
  · cases h

theorem tell_read {s : Bs} {a : AnsR} (h : readF s = some a) : tellF a = s := by
  rw [tellF, ← (read_is h).words, join_splitF]
theorem tell_inj {a b : AnsR} (ha : Ok64 a.err) (hb : Ok64 b.err) : tellF a = tellF b ↔ a = b := by
  constructor
  · intro h
    have h1 := read_tell a ha
    rw [h, read_tell b hb] at h1
    exact (Option.some.inj h1).symm
  · intro h; rw [h]

/-- No text is a call's and an answer's. -/
theorem parse_no_read {s : Bs} {z : CallR} (h : parseF s = some z) : readF s = none := by
  cases hr : readF s with
  | none => rfl
  | some a =>
    have h1 := (parse_is s z h).words
    have h2 := (read_is hr).words
    rw [h1] at h2
    have h3 := callWords_head z
    rw [h2] at h3
    have h4 : Lib.itoa a.err = wordF z.kind := h3
    have hk := mayF_kind (parse_is s z h).may
    have h5 := numOf_itoa a.err (read_is hr).err.1 (read_is hr).err.2
    rw [h4] at h5
    have : ∀ i : Fin 10, 1 ≤ i.val → (numOf (wordF i.val)).2 = true := by decide +kernel
    have h6 := this ⟨z.kind, by omega⟩ hk.1
    simp only at h6
    rw [h5] at h6
    cases h6
end Go.Proofs.YthhhdddojmkgnaaGreatDoor
