/-
  Plain laws of a call's text: parse behind show, show behind parse, the number of a text's words. No program in sight.
-/
import Derived.Test.YthhhdddojmkgnaaGreatDoorCallQ
namespace Go.Proofs.YthhhdddojmkgnaaGreatDoor
open Go

/-! ### Readers -/
theorem number_bad {r : Rd} (h : r.number.2.bad = false) : r.bad = false ∧ ∃ v t, r.l = Lib.itoa v :: t ∧ r.number = (v, ⟨t, false⟩) ∧ -9223372036854775808 ≤ v ∧ v ≤ 9223372036854775807 := by
  obtain ⟨l, b⟩ := r
  cases l with
  | nil => simp [Rd.number, Rd.next] at h
  | cons s t =>
    simp only [Rd.number, Rd.next, Bool.or_eq_false_iff] at h ⊢
    obtain ⟨h1, h2⟩ := h
    obtain ⟨e, b1, b2⟩ := numOf_false h2
    exact ⟨h1, (numOf s).1, t, by rw [e], by rw [h1, h2]; rfl, b1, b2⟩

theorem text_bad {r : Rd} (h : r.text.2.bad = false) : r.bad = false ∧ ∃ v t, r.l = hexF v :: t ∧ r.text = (v, ⟨t, false⟩) := by
  obtain ⟨l, b⟩ := r
  cases l with
  | nil => simp [Rd.text, Rd.next] at h
  | cons s t =>
    simp only [Rd.text, Rd.next, Bool.or_eq_false_iff] at h ⊢
    obtain ⟨h1, h2⟩ := h
    exact ⟨h1, (textOf s).1, t, by rw [textOf_false h2], by rw [h1, h2]; rfl⟩

theorem number_good (v : Int) (t : List Bs) (h1 : -9223372036854775808 ≤ v) (h2 : v ≤ 9223372036854775807) : Rd.number ⟨Lib.itoa v :: t, false⟩ = (v, ⟨t, false⟩) := by
  simp [Rd.number, Rd.next, numOf_itoa v h1 h2]
theorem text_good (v : Bs) (t : List Bs) : Rd.text ⟨hexF v :: t, false⟩ = (v, ⟨t, false⟩) := by
  simp [Rd.text, Rd.next, textOf_hexF v]
theorem done_true {r : Rd} (h : r.done = true) : r.bad = false ∧ r.l = [] := by
  simpa [Rd.done] using h

/-! ### Kinds -/
theorem kindOf_word : ∀ k, 1 ≤ k → k ≤ 9 → kindOf (wordF k) = k := by
  intro k h1 h2
  have : ∀ i : Fin 10, 1 ≤ i.val → kindOf (wordF i.val) = i.val := by decide
  exact this ⟨k, by omega⟩ h1
theorem kindOf_lt (w : Bs) : kindOf w < 10 := by rw [kindOf]; split <;> omega
theorem kindOf_back (w : Bs) (h : 1 ≤ kindOf w) : wordF (kindOf w) = w := by
  rw [kindOf] at h ⊢
  split at h
  · rename_i hlt
    rw [if_pos hlt, wordF, List.getD_eq_getElem?_getD]
    have hm : w ∈ wordL := by
      rw [← List.idxOf_lt_length_iff]
      exact hlt
    rw [List.getElem?_eq_getElem (by rw [List.idxOf_lt_length_iff]; exact hm)]
    simp
  · omega
theorem wordF_no32 (k : Nat) (hk : k ≤ 9) : (32 : UInt8) ∉ wordF k := by
  have : ∀ i : Fin 10, (32 : UInt8) ∉ wordF i.val := by decide
  exact this ⟨k, by omega⟩
theorem wordF_ne (k : Nat) (h1 : 1 ≤ k) (hk : k ≤ 9) : wordF k ≠ [] := by
  have : ∀ i : Fin 10, 1 ≤ i.val → wordF i.val ≠ [] := by decide
  exact this ⟨k, by omega⟩ h1

def Ok64 (v : Int) : Prop := -9223372036854775808 ≤ v ∧ v ≤ 9223372036854775807

theorem mayF_kind {x : CallR} (h : mayF x = true) : 1 ≤ x.kind ∧ x.kind ≤ 9 ∧ (x.kind = 9 → x.eng = 1 ∨ x.eng = 2) := by
  simp only [mayF, Bool.and_eq_true, Bool.or_eq_true, decide_eq_true_eq] at h
  obtain ⟨⟨h1, h2⟩, h3⟩ := h
  exact ⟨h1, h2, fun e => by omega⟩

theorem cases9 {k : Nat} (h1 : 1 ≤ k) (h2 : k ≤ 9) : k = 1 ∨ k = 2 ∨ k = 3 ∨ k = 4 ∨ k = 5 ∨ k = 6 ∨ k = 7 ∨ k = 8 ∨ k = 9 := by omega

theorem callWords_ne (x : CallR) : callWords x ≠ [] := by
  unfold callWords; repeat' split
  all_goals simp

theorem callWords_no32 (x : CallR) (hk : x.kind ≤ 9) : ∀ w ∈ callWords x, (32 : UInt8) ∉ w := by
  have h0 := wordF_no32 x.kind hk
  have h1 := itoa_no32 x.tx
  have h2 := hexF_no32 x.key
  have h3 := hexF_no32 x.va
  have h4 := hexF_no32 x.en
  have h5 := itoa_no32 x.lim
  have h6 := itoa_no32 (x.eng : Int)
  unfold callWords
  repeat' split
  all_goals (intro w hw; simp only [List.mem_cons, List.not_mem_nil, or_false] at hw)
  · rcases hw with rfl | rfl | rfl <;> assumption
  · rcases hw with rfl | rfl | rfl | rfl <;> assumption
  · rcases hw with rfl | rfl | rfl | rfl | rfl <;> assumption
  · rcases hw with rfl | rfl <;> assumption
  · rcases hw with rfl | rfl <;> assumption
  · subst hw; assumption

theorem splitF_showF {x : CallR} (h : mayF x = true) : splitF (showF x) = callWords x := by
  rw [showF, if_pos h]
  exact splitF_join _ (callWords_ne x) (callWords_no32 x (mayF_kind h).2.1)

theorem eng_ok (e : Nat) (h : e = 1 ∨ e = 2) : Rd.number ⟨[Lib.itoa (e : Int)], false⟩ = ((e : Int), ⟨[], false⟩) :=
  number_good _ _ (by omega) (by omega)

/-- Parse behind the first word. -/
def parseK (k : Nat) (r1 : Rd) : Option CallR :=
  let tx := if needsF k then r1.number.1 else 0
  let r2 := if needsF k then r1.number.2 else r1
  let key := if keyedF k then r2.text.1 else []
  let r3 := if keyedF k then r2.text.2 else r2
  if k = 3 then
    let x : CallR := ⟨k, tx, key, [], r3.text.1, 0, 0⟩
    if r3.text.2.done && mayF x then some x else none
  else if k = 5 then
    let x : CallR := ⟨k, tx, key, r3.text.1, [], r3.text.2.number.1, 0⟩
    if r3.text.2.number.2.done && mayF x then some x else none
  else if k = 9 then
    let n := r3.number.1
    let e := (n % 256).toNat
    let x : CallR := ⟨k, tx, key, [], [], 0, e⟩
    let r4 : Rd := ⟨r3.number.2.l, r3.number.2.bad || decide ((e : Int) ≠ n)⟩
    if r4.done && mayF x then some x else none
  else
    let x : CallR := ⟨k, tx, key, [], [], 0, 0⟩
    if r3.done && mayF x then some x else none
theorem parseF_K (s : Bs) : parseF s = parseK (kindOf (Rd.next ⟨splitF s, false⟩).1) (Rd.next ⟨splitF s, false⟩).2 := rfl

theorem parseK_0 (r : Rd) : parseK 0 r = none := by simp [parseK, mayF]
theorem parseK_1 (r : Rd) : parseK 1 r = if r.done then some ⟨1, 0, [], [], [], 0, 0⟩ else none := by simp [parseK, needsF, keyedF, mayF]
theorem parseK_8 (r : Rd) : parseK 8 r = if r.done then some ⟨8, 0, [], [], [], 0, 0⟩ else none := by simp [parseK, needsF, keyedF, mayF]
theorem parseK_6 (r : Rd) : parseK 6 r = if r.number.2.done then some ⟨6, r.number.1, [], [], [], 0, 0⟩ else none := by simp [parseK, needsF, keyedF, mayF]
theorem parseK_7 (r : Rd) : parseK 7 r = if r.number.2.done then some ⟨7, r.number.1, [], [], [], 0, 0⟩ else none := by simp [parseK, needsF, keyedF, mayF]
theorem parseK_2 (r : Rd) : parseK 2 r = if r.number.2.text.2.done then some ⟨2, r.number.1, r.number.2.text.1, [], [], 0, 0⟩ else none := by simp [parseK, needsF, keyedF, mayF]
theorem parseK_4 (r : Rd) : parseK 4 r = if r.number.2.text.2.done then some ⟨4, r.number.1, r.number.2.text.1, [], [], 0, 0⟩ else none := by simp [parseK, needsF, keyedF, mayF]
theorem parseK_3 (r : Rd) : parseK 3 r = if r.number.2.text.2.text.2.done then some ⟨3, r.number.1, r.number.2.text.1, [], r.number.2.text.2.text.1, 0, 0⟩ else none := by simp [parseK, needsF, keyedF, mayF]
theorem parseK_5 (r : Rd) : parseK 5 r = if r.number.2.text.2.text.2.number.2.done then some ⟨5, r.number.1, r.number.2.text.1, r.number.2.text.2.text.1, [], r.number.2.text.2.text.2.number.1, 0⟩ else none := by simp [parseK, needsF, keyedF, mayF]
theorem parseK_9 (r : Rd) : parseK 9 r = if Rd.done ⟨r.number.2.l, r.number.2.bad || decide ((((r.number.1 % 256).toNat : Nat) : Int) ≠ r.number.1)⟩ && mayF ⟨9, 0, [], [], [], 0, (r.number.1 % 256).toNat⟩ then some ⟨9, 0, [], [], [], 0, (r.number.1 % 256).toNat⟩ else none := by simp [parseK, needsF, keyedF]

theorem done_nil : Rd.done ⟨[], false⟩ = true := rfl

/-- What is shown is parsed as it was, clean. -/
theorem parse_show (x : CallR) (h : mayF x = true) (ht : Ok64 x.tx) (hl : Ok64 x.lim) : parseF (showF x) = some (cleanF x) := by
  rw [parseF_K, splitF_showF h]
  obtain ⟨h1, h9, he⟩ := mayF_kind h
  obtain ⟨k, tx, key, en, va, lim, eng⟩ := x
  have hw := kindOf_word k h1 h9
  simp only at h1 h9 he ht hl hw
  have hn : ∀ t, Rd.next ⟨wordF k :: t, false⟩ = (wordF k, ⟨t, false⟩) := fun _ => rfl
  have nt := fun t => number_good tx t ht.1 ht.2
  have nl := fun t => number_good lim t hl.1 hl.2
  rcases cases9 h1 h9 with rfl | rfl | rfl | rfl | rfl | rfl | rfl | rfl | rfl
  · rfl
  · rw [show callWords ⟨2, tx, key, en, va, lim, eng⟩ = [wordF 2, Lib.itoa tx, hexF key] from rfl, hn, hw, parseK_2, nt, text_good, done_nil]; rfl
  · rw [show callWords ⟨3, tx, key, en, va, lim, eng⟩ = [wordF 3, Lib.itoa tx, hexF key, hexF va] from rfl, hn, hw, parseK_3, nt, text_good, text_good, done_nil]; rfl
  · rw [show callWords ⟨4, tx, key, en, va, lim, eng⟩ = [wordF 4, Lib.itoa tx, hexF key] from rfl, hn, hw, parseK_4, nt, text_good, done_nil]; rfl
  · rw [show callWords ⟨5, tx, key, en, va, lim, eng⟩ = [wordF 5, Lib.itoa tx, hexF key, hexF en, Lib.itoa lim] from rfl, hn, hw, parseK_5, nt, text_good, text_good, nl, done_nil]; rfl
  · rw [show callWords ⟨6, tx, key, en, va, lim, eng⟩ = [wordF 6, Lib.itoa tx] from rfl, hn, hw, parseK_6, nt, done_nil]; rfl
  · rw [show callWords ⟨7, tx, key, en, va, lim, eng⟩ = [wordF 7, Lib.itoa tx] from rfl, hn, hw, parseK_7, nt, done_nil]; rfl
  · rfl
  · have he := he rfl
    have hm : ((eng : Int) % 256).toNat = eng := by omega
    rw [show callWords ⟨9, tx, key, en, va, lim, eng⟩ = [wordF 9, Lib.itoa (eng : Int)] from rfl, hn, hw, parseK_9, eng_ok eng he]
    simp only [hm]
    have e1 : mayF ⟨9, 0, [], [], [], 0, eng⟩ = true := by
      rcases he with rfl | rfl <;> rfl
    rw [e1]
    simp [Rd.done, cleanF, needsF, keyedF]

/-- What a parsed text is. -/
structure Parsed (s : Bs) (z : CallR) : Prop where
  may : mayF z = true
  clean : cleanF z = z
  words : splitF s = callWords z
  tx : Ok64 z.tx
  lim : Ok64 z.lim

theorem ok64_0 : Ok64 0 := ⟨by decide, by decide⟩

theorem next_kind {ws : List Bs} {k : Nat} (hk : kindOf (Rd.next ⟨ws, false⟩).1 = k) (h1 : 1 ≤ k) : ∃ t, ws = wordF k :: t ∧ Rd.next ⟨ws, false⟩ = (wordF k, ⟨t, false⟩) := by
  cases ws with
  | nil =>
    simp only [Rd.next] at hk
    have : kindOf [] = 0 := by decide
    omega
  | cons w t =>
    simp only [Rd.next] at hk ⊢
    have := kindOf_back w (by omega)
    rw [hk] at this
    exact ⟨t, by rw [this], by rw [this]⟩

theorem if_some {b : Bool} {x z : CallR} (h : (if b = true then some x else none) = some z) : b = true ∧ x = z := by
  cases b with
  | false => simp at h
  | true => simpa using h

theorem parse_is (s : Bs) (z : CallR) (h : parseF s = some z) : Parsed s z := by
  rw [parseF_K] at h
  generalize hws : splitF s = ws at h
  generalize hk : kindOf (Rd.next ⟨ws, false⟩).1 = k at h
  have hk10 : k < 10 := by rw [← hk]; exact kindOf_lt _
  have hk1 : 1 ≤ k := by
    rcases Nat.eq_zero_or_pos k with h0 | h0
    · subst h0
      rw [parseK_0] at h
      cases h
    · exact h0
  obtain ⟨t, hwt, hn⟩ := next_kind hk hk1
  rw [hn] at h
  simp only at h
  rcases cases9 hk1 (by omega) with rfl | rfl | rfl | rfl | rfl | rfl | rfl | rfl | rfl
  · rw [parseK_1] at h
    obtain ⟨hd, rfl⟩ := if_some h
    obtain ⟨_, hl⟩ := done_true hd
    simp only at hl
    subst hl
    exact ⟨rfl, rfl, by rw [hws, hwt]; rfl, ok64_0, ok64_0⟩
  · rw [parseK_2] at h
    obtain ⟨hd, rfl⟩ := if_some h
    obtain ⟨hb, hl⟩ := done_true hd
    obtain ⟨hb2, key, t2, e2, q2⟩ := text_bad hb
    obtain ⟨_, tx, t1, e1, q1, b⟩ := number_bad hb2
    simp only [q1] at e2 q2 hl
    simp only [q2] at hl
    simp only at e1
    subst hl; subst e2; subst e1
    exact ⟨rfl, rfl, by rw [hws, hwt, q1]; simp only [q2]; rfl, by rw [q1]; exact b, ok64_0⟩
  · rw [parseK_3] at h
    obtain ⟨hd, rfl⟩ := if_some h
    obtain ⟨hb, hl⟩ := done_true hd
    obtain ⟨hb3, va, t3, e3, q3⟩ := text_bad hb
    obtain ⟨hb2, key, t2, e2, q2⟩ := text_bad hb3
    obtain ⟨_, tx, t1, e1, q1, b⟩ := number_bad hb2
    simp only [q1] at e2 q2 e3 q3 hl
    simp only [q2] at e3 q3 hl
    simp only [q3] at hl
    simp only at e1
    subst hl; subst e3; subst e2; subst e1
    exact ⟨rfl, rfl, by rw [hws, hwt, q1]; simp only [q2, q3]; rfl, by rw [q1]; exact b, ok64_0⟩
  · rw [parseK_4] at h
    obtain ⟨hd, rfl⟩ := if_some h
    obtain ⟨hb, hl⟩ := done_true hd
    obtain ⟨hb2, key, t2, e2, q2⟩ := text_bad hb
    obtain ⟨_, tx, t1, e1, q1, b⟩ := number_bad hb2
    simp only [q1] at e2 q2 hl
    simp only [q2] at hl
    simp only at e1
    subst hl; subst e2; subst e1
    exact ⟨rfl, rfl, by rw [hws, hwt, q1]; simp only [q2]; rfl, by rw [q1]; exact b, ok64_0⟩
  · rw [parseK_5] at h
    obtain ⟨hd, rfl⟩ := if_some h
    obtain ⟨hb, hl⟩ := done_true hd
    obtain ⟨hb4, lim, t4, e4, q4, b4⟩ := number_bad hb
    obtain ⟨hb3, en, t3, e3, q3⟩ := text_bad hb4
    obtain ⟨hb2, key, t2, e2, q2⟩ := text_bad hb3
    obtain ⟨_, tx, t1, e1, q1, b⟩ := number_bad hb2
    simp only [q1] at e2 q2 e3 q3 e4 q4 hl
    simp only [q2] at e3 q3 e4 q4 hl
    simp only [q3] at e4 q4 hl
    simp only [q4] at hl
    simp only at e1
    subst hl; subst e4; subst e3; subst e2; subst e1
    exact ⟨rfl, rfl, by rw [hws, hwt, q1]; simp only [q2, q3, q4]; rfl, by rw [q1]; exact b, by rw [q1]; simp only [q2, q3, q4]; exact b4⟩
  · rw [parseK_6] at h
    obtain ⟨hd, rfl⟩ := if_some h
    obtain ⟨hb, hl⟩ := done_true hd
    obtain ⟨_, tx, t1, e1, q1, b⟩ := number_bad hb
    simp only [q1] at hl
    simp only at e1
    subst hl; subst e1
    exact ⟨rfl, rfl, by rw [hws, hwt, q1]; rfl, by rw [q1]; exact b, ok64_0⟩
  · rw [parseK_7] at h
    obtain ⟨hd, rfl⟩ := if_some h
    obtain ⟨hb, hl⟩ := done_true hd
    obtain ⟨_, tx, t1, e1, q1, b⟩ := number_bad hb
    simp only [q1] at hl
    simp only at e1
    subst hl; subst e1
    exact ⟨rfl, rfl, by rw [hws, hwt, q1]; rfl, by rw [q1]; exact b, ok64_0⟩
  · rw [parseK_8] at h
    obtain ⟨hd, rfl⟩ := if_some h
    obtain ⟨_, hl⟩ := done_true hd
    simp only at hl
    subst hl
    exact ⟨rfl, rfl, by rw [hws, hwt]; rfl, ok64_0, ok64_0⟩
  · rw [parseK_9] at h
    obtain ⟨hd, rfl⟩ := if_some h
    simp only [Bool.and_eq_true] at hd
    obtain ⟨hd, hm⟩ := hd
    obtain ⟨hb, hl⟩ := done_true hd
    simp only [Bool.or_eq_false_iff, decide_eq_false_iff_not, ne_eq, Decidable.not_not] at hb hl
    obtain ⟨hb, hv⟩ := hb
    obtain ⟨_, n, t1, e1, q1, b⟩ := number_bad hb
    rw [q1] at hl hv hm ⊢
    simp only at e1 hl hv hm ⊢
    subst hl; subst e1
    exact ⟨hm, rfl, by rw [hws, hwt]; show _ = [wordF 9, Lib.itoa (((n % 256).toNat : Nat) : Int)]; rw [hv], ok64_0, ok64_0⟩

/-- What is parsed, shown, is the text. -/
theorem show_parse {s : Bs} {z : CallR} (h : parseF s = some z) : showF z = s := by
  have hp := parse_is s z h
  rw [showF, if_pos hp.may, ← hp.words, join_splitF]

/-- A call's text is one call's alone, but for what its Kind does not name. -/
theorem show_inj {x y : CallR} (hx : mayF x = true) (hy : mayF y = true) (tx : Ok64 x.tx) (lx : Ok64 x.lim) (ty : Ok64 y.tx) (ly : Ok64 y.lim) : showF x = showF y ↔ cleanF x = cleanF y := by
  constructor
  · intro h
    have h1 := parse_show x hx tx lx
    rw [h, parse_show y hy ty ly] at h1
    exact (Option.some.inj h1).symm
  · intro h
    have e : ∀ z, mayF z = true → showF (cleanF z) = showF z := by
      intro z hz
      obtain ⟨h1, h9, _⟩ := mayF_kind hz
      obtain ⟨k, a, b, c, d, e, f⟩ := z
      simp only at h1 h9
      rcases cases9 h1 h9 with rfl | rfl | rfl | rfl | rfl | rfl | rfl | rfl | rfl <;> rfl
    rw [← e x hx, ← e y hy, h]

theorem show_clean {z : CallR} (hz : mayF z = true) : showF (cleanF z) = showF z := by
  obtain ⟨h1, h9, _⟩ := mayF_kind hz
  obtain ⟨k, a, b, c, d, e, f⟩ := z
  simp only at h1 h9
  rcases cases9 h1 h9 with rfl | rfl | rfl | rfl | rfl | rfl | rfl | rfl | rfl <;> rfl
theorem may_clean (z : CallR) : mayF (cleanF z) = mayF z := by
  obtain ⟨k, a, b, c, d, e, f⟩ := z
  by_cases h : k = 9
  · subst h; rfl
  · simp [mayF, cleanF, h]

/-! ### How many words -/
def arityF (k : Nat) : Nat := if k = 2 ∨ k = 4 then 3 else if k = 3 then 4 else if k = 5 then 5 else if k = 9 then 2 else if needsF k then 2 else 1
theorem callWords_len (x : CallR) : (callWords x).length = arityF x.kind := by
  unfold callWords arityF
  repeat' split
  all_goals first | rfl | contradiction
theorem callWords_head (x : CallR) : (callWords x).headD [] = wordF x.kind := by
  unfold callWords; repeat' split
  all_goals rfl
/-- The first word's Kind. -/
def headK (s : Bs) : Nat := kindOf (s.takeWhile (· != 32))
theorem parse_count {s : Bs} {z : CallR} (h : parseF s = some z) : s.count 32 + 1 = arityF (headK s) ∧ headK s = z.kind ∧ 1 ≤ z.kind := by
  have hp := parse_is s z h
  have hk := mayF_kind hp.may
  have h2 : headK s = z.kind := by rw [headK, ← splitF_head, hp.words, callWords_head, kindOf_word _ hk.1 hk.2.1]
  exact ⟨by rw [← splitF_len, hp.words, callWords_len, h2], h2, hk.1⟩
theorem show_count {x : CallR} (h : mayF x = true) : (showF x).count 32 + 1 = arityF (headK (showF x)) := by
  have hk := mayF_kind h
  have h2 : headK (showF x) = x.kind := by rw [headK, ← splitF_head, splitF_showF h, callWords_head, kindOf_word _ hk.1 hk.2.1]
  rw [← splitF_len, splitF_showF h, callWords_len, h2]
/-- Another number of words behind the same first one: none. -/
theorem parse_off {x : CallR} (hx : mayF x = true) {t : Bs} (hh : headK t = headK (showF x)) (hc : t.count 32 ≠ (showF x).count 32) : parseF t = none := by
  cases h : parseF t with
  | none => rfl
  | some z =>
    have h1 := (parse_count h).1
    have h2 := show_count hx
    rw [hh] at h1
    omega
theorem head_cut (u v : Bs) : (u ++ 32 :: v).takeWhile (· != 32) = u.takeWhile (· != 32) := by
  induction u with
  | nil => simp
  | cons c r ih =>
    rw [List.cons_append]
    by_cases h : c = 32
    · subst h; simp
    · rw [List.takeWhile_cons_of_pos (by simpa using h), List.takeWhile_cons_of_pos (by simpa using h), ih]
theorem headK_cut (u v : Bs) : headK (u ++ 32 :: v) = headK u := by rw [headK, headK, head_cut]
theorem cut_at {s : Bs} {i : Nat} {c : UInt8} (h : s[i]? = some c) : s = s.take i ++ c :: s.drop (i + 1) := by
  obtain ⟨hi, e⟩ := List.getElem?_eq_some_iff.1 h
  conv => lhs; rw [← List.take_append_drop i s, List.drop_eq_getElem_cons hi, e]

/-- A beginning that ends ahead of a blank is no call's text. -/
theorem words_cut {x : CallR} (hx : mayF x = true) {i : Nat} (h : (showF x)[i]? = some 32) : parseF ((showF x).take i) = none := by
  have hs := cut_at h
  refine parse_off hx ?_ ?_
  · conv => rhs; rw [hs]
    rw [headK_cut]
  · have := congrArg (List.count 32) hs
    rw [List.count_append, List.count_cons_self] at this
    omega
/-- One word more. -/
theorem words_more {x : CallR} (hx : mayF x = true) (w : Bs) : parseF (showF x ++ 32 :: w) = none := by
  refine parse_off hx (headK_cut _ _) ?_
  rw [List.count_append, List.count_cons_self]
  omega
/-- A blank ahead. -/
theorem words_ahead (t : Bs) : parseF (32 :: t) = none := by
  cases h : parseF (32 :: t) with
  | none => rfl
  | some z =>
    have h1 := (parse_count h).2
    have : headK (32 :: t) = 0 := by
      rw [headK, show (32 :: t : Bs).takeWhile (· != 32) = [] by simp]
      decide
    omega
/-- A blank too many. -/
theorem words_blank {x : CallR} (hx : mayF x = true) (i : Nat) (h : (showF x)[i]? = some 32 ∨ (1 ≤ i ∧ (showF x)[i - 1]? = some 32) ∨ i = (showF x).length) : parseF ((showF x).take i ++ 32 :: (showF x).drop i) = none := by
  refine parse_off hx ?_ ?_
  · rw [headK_cut]
    rcases h with h | ⟨h1, h⟩ | h
    · conv => rhs; rw [cut_at h]
      rw [headK_cut]
    · have hs := cut_at h
      rw [show i - 1 + 1 = i by omega] at hs
      have ht : (showF x).take i = (showF x).take (i - 1) ++ [32] := by
        obtain ⟨hi, e⟩ := List.getElem?_eq_some_iff.1 h
        rw [show i = i - 1 + 1 by omega, List.take_succ_eq_append_getElem hi, e]
        simp
      rw [ht, headK_cut]
      conv => rhs; rw [hs]
      rw [headK_cut]
    · rw [h, List.take_length]
  · rw [List.count_append, List.count_cons_self]
    have := congrArg (List.count 32) (List.take_append_drop i (showF x))
    rw [List.count_append] at this
    omega
end Go.Proofs.YthhhdddojmkgnaaGreatDoor
