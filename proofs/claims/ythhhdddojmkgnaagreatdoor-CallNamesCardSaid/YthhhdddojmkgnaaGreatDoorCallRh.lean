/-
  What the reference's Tell and Answers, and the laws' helper wide, compute (as printed) is the plain thing.
-/
import Derived.Test.YthhhdddojmkgnaaGreatDoorCallRb
import Derived.Test.YthhhdddojmkgnaaGreatDoorCallPb
import Derived.Test.YthhhdddojmkgnaaGreatDoorBunF
import Derived.Test.YthhhdddojmkgnaaGreatDoorBunG
import Derived.Test.YthhhdddojmkgnaaGreatDoorBunI
namespace Go.Proofs.YthhhdddojmkgnaaGreatDoor
open Go.RowKit Go.Proofs.YthhhdddojmkgnaaGreatDoorW.PrintWords Go.Proofs.YthhhdddojmkgnaaGreatDoorW.PrintLast Go.Proofs.YthhhdddojmkgnaaGreatDoorW.PrintMore
open Go

theorem hexF_len (l : Bs) : (hexF l).length ≤ 2 * l.length + 1 := hexF_length l
theorem itoa_len (n : Int) (h : Ok64 n) : (Lib.itoa n).length ≤ 21 := itoaLen n h
theorem bs_list_inj {a b : Bs} : ((bs a).toList = (bs b).toList) = (a = b) := by rw [bs_toList, bs_toList]
theorem getD_len (s : Bs) (i : Nat) : ((splitF s).getD i []).length ≤ s.length := by
  rw [List.getD_eq_getElem?_getD]
  cases h : (splitF s)[i]? with
  | none => simp
  | some w => exact splitF_mem_length s w (List.mem_of_getElem? h)

def sp (p : Bs × Bs) : PRef.S33 := ⟨bs p.1, bs p.2⟩
def sa (a : AnsR) : PRef.S25 := ⟨a.err, a.found, bs a.va, a.pairs.map sp⟩
theorem rd_sp {ps : List (Bs × Bs)} {j : Nat} {p : Bs × Bs} (h : ps[j]? = some p) : PRef.rd_T33 (ps.map sp) (j : Int) = sp p := by
  unfold PRef.rd_T33
  rw [Int.toNat_natCast, List.getD_eq_getElem?_getD, List.getElem?_map, h]; rfl
theorem rd_sa {l : List AnsR} {j : Nat} {a : AnsR} (h : l[j]? = some a) : PRef.rd_T25 (l.map sa) (j : Int) = sa a := by
  unfold PRef.rd_T25
  rw [Int.toNat_natCast, List.getD_eq_getElem?_getD, List.getElem?_map, h]; rfl
theorem bs_30 : (⟨#[32, 48, 32]⟩ : ByteArray) = bs [32, 48, 32] := rfl
theorem bs_31 : (⟨#[32, 49, 32]⟩ : ByteArray) = bs [32, 49, 32] := rfl

/-! ### Tell -/
theorem tellR_loop (a : AnsR) (h : AnsOk a) (M : Nat) (hM : M ≤ 9223372036854775807) : ∀ (d j : Nat) (acc : Bs), j ≤ a.pairs.length → a.pairs.length - j = d → (acc ++ Lib.joinTail [32] (pairWords (a.pairs.drop j))).length ≤ M →
    Ev (fun k => PRef.ferrymanref20_Tell.l0 k (bs acc) (j : Int) a.err a.found (bs a.va) (a.pairs.map sp)) (bs (acc ++ Lib.joinTail [32] (pairWords (a.pairs.drop j)))) := by
  have hn := h.n
  intro d
  induction d with
  | zero =>
    intro j acc hj hd hacc
    obtain rfl : j = a.pairs.length := by omega
    refine ⟨1, fun k hk => ?_⟩
    obtain ⟨k, rfl⟩ : ∃ m, k = m + 1 := ⟨k - 1, by omega⟩
    simp only [PRef.ferrymanref20_Tell.l0]
    rw [if_neg (by rw [List.length_map]; omega)]
    simp [pairWords, Lib.joinTail]
  | succ d ih =>
    intro j acc hj hd hacc
    have hjn : j < a.pairs.length := by omega
    obtain ⟨p, hp⟩ : ∃ p, a.pairs[j]? = some p := ⟨_, List.getElem?_eq_getElem hjn⟩
    have hpl := h.pairs p (List.mem_of_getElem? hp)
    obtain ⟨K1, k1⟩ := hex_ev p.1 (by omega)
    obtain ⟨K2, k2⟩ := hex_ev p.2 (by omega)
    have hdrop : acc ++ Lib.joinTail [32] (pairWords (a.pairs.drop j)) = (acc ++ [32] ++ hexF p.1 ++ [32] ++ hexF p.2) ++ Lib.joinTail [32] (pairWords (a.pairs.drop (j + 1))) := by
      rw [List.drop_eq_getElem_cons hjn, (List.getElem?_eq_some_iff.1 hp).2]
      simp [pairWords, Lib.joinTail]
    rw [hdrop] at hacc ⊢
    obtain ⟨K3, k3⟩ := ih (j + 1) (acc ++ [32] ++ hexF p.1 ++ [32] ++ hexF p.2) (by omega) (by omega) hacc
    have hrd := rd_sp hp
    have hS : acc.length + 1 + (hexF p.1).length + 1 + (hexF p.2).length ≤ 9223372036854775807 := by
      simp only [List.length_append, List.length_cons, List.length_nil] at hacc
      omega
    clear hacc hdrop ih
    refine ⟨K1 + K2 + K3 + 1, fun k hk => ?_⟩
    obtain ⟨k, rfl⟩ : ∃ m, k = m + 1 := ⟨k - 1, by omega⟩
    simp only [PRef.ferrymanref20_Tell.l0]
    rw [if_pos (by rw [List.length_map]; omega), if_pos (by rw [bs_size]; omega), if_pos (by omega), hrd]
    have q1 : PRef.ferrymanref20_hex.f k (sp p).f0 = some (bs (hexF p.1)) := k1 k (by omega)
    have q2 : PRef.ferrymanref20_hex.f k (sp p).f1 = some (bs (hexF p.2)) := k2 k (by omega)
    have ew : wrap64 ((j : Int) + 1) = ((j + 1 : Nat) : Int) := by rw [wrap_in (by omega) (by omega)]; omega
    rw [q1]
    simp only [Option.bind_some, bs_32, bs_append, bs_size]
    rw [if_pos (by simp only [List.length_append, List.length_cons, List.length_nil]; omega), if_pos (by simp only [List.length_append, List.length_cons, List.length_nil]; omega), q2]
    simp only [Option.bind_some, bs_append, bs_size]
    rw [if_pos (by simp only [List.length_append, List.length_cons, List.length_nil]; omega), ew]
    exact k3 k (by omega)

theorem tellR_ev (a : AnsR) (h : AnsOk a) : Ev (fun k => PRef.ferrymanref20_Tell.f k a.err a.found (bs a.va) (a.pairs.map sp)) (bs (tellF a)) := by
  obtain ⟨K1, k1⟩ := whole_ev a.err h.err
  have hva := h.va
  obtain ⟨K2, k2⟩ := hex_ev a.va (by omega)
  have l1 := itoa_len a.err h.err
  have l2 := hexF_len a.va
  have e : tellF a = (Lib.itoa a.err ++ 32 :: found1 a.found ++ [32] ++ hexF a.va) ++ Lib.joinTail [32] (pairWords (a.pairs.drop 0)) := by
    rw [tellF, tellWords, Lib.join_cons]
    simp [Lib.joinTail]
  have hlen : (Lib.itoa a.err ++ 32 :: found1 a.found ++ [32] ++ hexF a.va).length ≤ 3000000 := by
    have : (found1 a.found).length = 1 := by cases a.found <;> rfl
    simp only [List.length_append, List.length_cons, List.length_nil, this]; omega
  have hT := tell_len a h
  rw [show Lib.join (Lib.itoa a.err :: found1 a.found :: hexF a.va :: pairWords a.pairs) [32] = tellF a from rfl, e] at hT
  obtain ⟨K3, k3⟩ := tellR_loop a h 140737488355328 (by decide) a.pairs.length 0 _ (by omega) (by omega) hT
  rw [e]
  refine ⟨K1 + K2 + K3 + 1, fun k hk => ?_⟩
  simp only [PRef.ferrymanref20_Tell.f]
  have q1 : PRef.ferrymanref20_whole.f k a.err = some (bs (Lib.itoa a.err)) := k1 k (by omega)
  obtain ⟨m, hm⟩ : ∃ m, k = m + 1 := ⟨k - 1, by omega⟩
  have q2 : PRef.ferrymanref20_hex.f m (bs a.va) = some (bs (hexF a.va)) := k2 m (by omega)
  rw [q1]
  simp only [Option.bind_some, bs_size]
  rw [if_pos (by omega)]
  subst hm
  have q3 := k3 m (by omega)
  cases hf : a.found
  · rw [hf] at q3 hlen
    simp only [Bool.false_eq_true, if_false, PRef.ferrymanref20_Tell.j0]
    rw [q2]
    simp only [Option.bind_some, bs_30, bs_append, bs_size]
    rw [if_pos (by simp only [List.length_append, List.length_cons, List.length_nil]; omega)]
    rw [show Lib.itoa a.err ++ [32, 48, 32] ++ hexF a.va = Lib.itoa a.err ++ 32 :: found1 false ++ [32] ++ hexF a.va by simp [found1]]
    exact q3
  · rw [hf] at q3 hlen
    simp only [if_true, PRef.ferrymanref20_Tell.j0]
    rw [if_pos (by omega), q2]
    simp only [Option.bind_some, bs_31, bs_append, bs_size]
    rw [if_pos (by simp only [List.length_append, List.length_cons, List.length_nil]; omega)]
    rw [show Lib.itoa a.err ++ [32, 49, 32] ++ hexF a.va = Lib.itoa a.err ++ 32 :: found1 true ++ [32] ++ hexF a.va by simp [found1]]
    exact q3

/-! ### Answers -/
def sameA (a b : AnsR) : Bool := a.err == b.err && (a.found == b.found && (a.va == b.va && a.pairs == b.pairs))
theorem sameA_iff (a b : AnsR) : sameA a b = true ↔ a = b := by
  obtain ⟨e, f, v, p⟩ := a
  obtain ⟨e', f', v', p'⟩ := b
  simp [sameA]
theorem answersR_loop (a b : AnsR) (hl : a.pairs.length = b.pairs.length) (hn : a.pairs.length ≤ 1000000) : ∀ (d j : Nat), j ≤ a.pairs.length → a.pairs.length - j = d →
    Ev (fun k => PRef.ferrymanref06_Answers.l0 k (j : Int) a.err a.found (bs a.va) (a.pairs.map sp) b.err b.found (bs b.va) (b.pairs.map sp)) (a.pairs.drop j == b.pairs.drop j) := by
  intro d
  induction d with
  | zero =>
    intro j hj hd
    obtain rfl : j = a.pairs.length := by omega
    refine ⟨1, fun k hk => ?_⟩
    obtain ⟨k, rfl⟩ : ∃ m, k = m + 1 := ⟨k - 1, by omega⟩
    simp only [PRef.ferrymanref06_Answers.l0]
    rw [if_neg (by rw [List.length_map]; omega), List.drop_length, hl, List.drop_length]
    rfl
  | succ d ih =>
    intro j hj hd
    have hja : j < a.pairs.length := by omega
    have hjb : j < b.pairs.length := by omega
    obtain ⟨p, hp⟩ : ∃ p, a.pairs[j]? = some p := ⟨_, List.getElem?_eq_getElem hja⟩
    obtain ⟨q, hq⟩ : ∃ q, b.pairs[j]? = some q := ⟨_, List.getElem?_eq_getElem hjb⟩
    have da : a.pairs.drop j = p :: a.pairs.drop (j + 1) := by rw [List.drop_eq_getElem_cons hja, (List.getElem?_eq_some_iff.1 hp).2]
    have db : b.pairs.drop j = q :: b.pairs.drop (j + 1) := by rw [List.drop_eq_getElem_cons hjb, (List.getElem?_eq_some_iff.1 hq).2]
    have ew : wrap64 ((j : Int) + 1) = ((j + 1 : Nat) : Int) := by rw [wrap_in (by omega) (by omega)]; omega
    obtain ⟨K, hK⟩ := ih (j + 1) (by omega) (by omega)
    refine ⟨K + 1, fun k hk => ?_⟩
    obtain ⟨k, rfl⟩ : ∃ m, k = m + 1 := ⟨k - 1, by omega⟩
    simp only [PRef.ferrymanref06_Answers.l0]
    rw [if_pos (by rw [List.length_map]; omega), if_pos (by omega), if_pos (by rw [List.length_map]; omega), rd_sp hp, rd_sp hq, ew, da, db]
    simp only [sp, bs_toList]
    have hK' := hK k (by omega)
    dsimp only at hK'
    by_cases hpq : p = q
    · subst hpq
      rw [if_neg (by simp), hK']
      simp
    · rw [if_pos]
      · simp [hpq]
      · by_cases h1 : p.1 = q.1
        · by_cases h2 : p.2 = q.2
          · exact absurd (Prod.ext h1 h2) hpq
          · simp [h2]
        · simp [h1]
theorem answersR_ev (a b : AnsR) (hn : a.pairs.length ≤ 1000000) : Ev (fun k => PRef.ferrymanref20_Answers.f k a.err a.found (bs a.va) (a.pairs.map sp) b.err b.found (bs b.va) (b.pairs.map sp)) (sameA a b) := by
  have main : Ev (fun k => PRef.ferrymanref06_Answers.f k a.err a.found (bs a.va) (a.pairs.map sp) b.err b.found (bs b.va) (b.pairs.map sp)) (sameA a b) := by
    have no : ∀ c : Bool, c = true → sameA a b = false → Ev (fun k => PRef.ferrymanref06_Answers.j0 k c a.err a.found (bs a.va) (a.pairs.map sp) b.err b.found (bs b.va) (b.pairs.map sp)) (sameA a b) := by
      intro c hc hs
      subst hc
      refine ⟨1, fun k hk => ?_⟩
      obtain ⟨k, rfl⟩ : ∃ m, k = m + 1 := ⟨k - 1, by omega⟩
      simp only [PRef.ferrymanref06_Answers.j0]
      rw [if_pos trivial, hs]
    by_cases h1 : a.err = b.err
    · by_cases h2 : a.found = b.found
      · by_cases h3 : a.va = b.va
        · by_cases h4 : a.pairs.length = b.pairs.length
          · have hL := answersR_loop a b h4 hn a.pairs.length 0 (by omega) (by omega)
            have hs : sameA a b = (a.pairs.drop 0 == b.pairs.drop 0) := by simp [sameA, h1, h2, h3]
            rw [hs]
            refine Ev.congr (fun k => ?_) (Ev.step (g := fun k => PRef.ferrymanref06_Answers.j0 k false a.err a.found (bs a.va) (a.pairs.map sp) b.err b.found (bs b.va) (b.pairs.map sp)) (fun k => rfl) hL)
            simp only [PRef.ferrymanref06_Answers.f]
            rw [if_pos h1, if_neg (by simp [h2]), if_pos (by rw [bs_toList, bs_toList]; exact h3)]
            simp [h4]
          · refine Ev.congr (fun k => ?_) (no true rfl (by
              have : a.pairs ≠ b.pairs := fun e => h4 (by rw [e])
              simp [sameA, this]))
            simp only [PRef.ferrymanref06_Answers.f]
            rw [if_pos h1, if_neg (by simp [h2]), if_pos (by rw [bs_toList, bs_toList]; exact h3)]
            rw [show (((a.pairs.map sp).length : Int) != ((b.pairs.map sp).length : Int)) = true by rw [bne_iff_ne]; simp; omega]
        · refine Ev.congr (fun k => ?_) (no true rfl (by simp [sameA, h3]))
          simp only [PRef.ferrymanref06_Answers.f]
          rw [if_pos h1, if_neg (by simp [h2]), if_neg (by rw [bs_toList, bs_toList]; exact h3)]
      · refine Ev.congr (fun k => ?_) (no true rfl (by simp [sameA, h2]))
        simp only [PRef.ferrymanref06_Answers.f]
        rw [if_pos h1, if_pos (by rw [bne_iff_ne]; exact h2)]
    · refine Ev.congr (fun k => ?_) (no true rfl (by simp [sameA, h1]))
      simp only [PRef.ferrymanref06_Answers.f]
      rw [if_neg h1]
  obtain ⟨K, hK⟩ := main
  refine ⟨K, fun k hk => ?_⟩
  have hK' := hK k hk
  dsimp only at hK'
  simp only [PRef.ferrymanref20_Answers.f]
  rw [hK']
  rfl

/-! ### wide -/
def wideP : Int → List (Bs × Bs) → Int
  | n, [] => n
  | n, p :: r => if n < 9000 then wideP (n + 10 + min 9000 (p.1.length : Int) + min 9000 (p.2.length : Int)) r else n
def wideA (n : Int) (a : AnsR) : Int := wideP (n + min 9000 (a.va.length : Int)) a.pairs
def wideL (n : Int) : List AnsR → Int
  | [] => n
  | a :: r => wideL (wideA n a) r
def wideF (l : List AnsR) : Bool := decide (9000 ≤ wideL 0 l)
theorem mn_min (x : Nat) : mn 9000 (x : Int) = min 9000 (x : Int) := by unfold mn; split <;> omega
theorem wideP_ge : ∀ (ps : List (Bs × Bs)) (n : Int), n ≤ wideP n ps ∧ wideP n ps ≤ max n 9000 + 27010
  | [], n => by simp only [wideP]; omega
  | p :: r, n => by
    rw [wideP]
    split
    · have := wideP_ge r (n + 10 + min 9000 (p.1.length : Int) + min 9000 (p.2.length : Int))
      constructor
      · omega
      · have h2 : wideP (n + 10 + min 9000 (p.1.length : Int) + min 9000 (p.2.length : Int)) r ≤ max (n + 10 + min 9000 (p.1.length : Int) + min 9000 (p.2.length : Int)) 27010 := wideP_le r _
        omega
    · omega
where
  wideP_le : ∀ (ps : List (Bs × Bs)) (n : Int), wideP n ps ≤ max n 27010
    | [], n => by simp only [wideP]; omega
    | p :: r, n => by
      rw [wideP]
      split
      · have := wideP_le r (n + 10 + min 9000 (p.1.length : Int) + min 9000 (p.2.length : Int))
        omega
      · omega
theorem wideP_small : ∀ (ps : List (Bs × Bs)) (n : Int), 0 ≤ n → wideP n ps < 9000 → n + ps.length * 10 < 9000 ∧ ∀ p ∈ ps, p.1.length < 9000 ∧ p.2.length < 9000
  | [], n, _, h => by simp only [wideP] at h; simp; exact h
  | p :: r, n, h0, h => by
    rw [wideP] at h
    split at h
    · have ih := wideP_small r _ (by omega) h
      have hge := (wideP_ge r (n + 10 + min 9000 (p.1.length : Int) + min 9000 (p.2.length : Int))).1
      refine ⟨by simp only [List.length_cons]; omega, fun q hq => ?_⟩
      rcases List.mem_cons.1 hq with rfl | hq
      · omega
      · exact ih.2 q hq
    · omega
theorem wideL_ge : ∀ (l : List AnsR) (n : Int), n ≤ wideL n l
  | [], n => by simp [wideL]
  | a :: r, n => by
    have h1 := wideL_ge r (wideA n a)
    have h2 := (wideP_ge a.pairs (n + min 9000 (a.va.length : Int))).1
    rw [wideL]
    unfold wideA at *
    omega
theorem wideL_small : ∀ (l : List AnsR) (n : Int), 0 ≤ n → wideL n l < 9000 → ∀ a ∈ l, a.va.length < 9000 ∧ a.pairs.length < 900 ∧ ∀ p ∈ a.pairs, p.1.length < 9000 ∧ p.2.length < 9000
  | [], _, _, _ => by simp
  | a :: r, n, h0, h => by
    rw [wideL] at h
    have h1 := wideL_ge r (wideA n a)
    have h2 := (wideP_ge a.pairs (n + min 9000 (a.va.length : Int))).1
    have h3 := wideP_small a.pairs (n + min 9000 (a.va.length : Int)) (by omega) (by unfold wideA at h1 h; omega)
    intro b hb
    rcases List.mem_cons.1 hb with rfl | hb
    · exact ⟨by unfold wideA at h1 h; omega, by omega, h3.2⟩
    · exact wideL_small r (wideA n a) (by unfold wideA; omega) h b hb

theorem min9 (x : Nat) : 0 ≤ min 9000 (x : Int) ∧ min 9000 (x : Int) ≤ 9000 := by omega
theorem wr3 (n m1 m2 : Int) (h0 : 0 ≤ n) (h1 : n < 9000) (a1 : 0 ≤ m1) (b1 : m1 ≤ 9000) (a2 : 0 ≤ m2) (b2 : m2 ≤ 9000) : wrap64 (n + 10) = n + 10 ∧ wrap64 (n + 10 + m1) = n + 10 + m1 ∧ wrap64 (n + 10 + m1 + m2) = n + 10 + m1 + m2 :=
  ⟨wrap_in (by omega) (by omega), wrap_in (by omega) (by omega), wrap_in (by omega) (by omega)⟩
theorem st2 (n n0 m1 m2 : Int) (h00 : 0 ≤ n0) (h0 : n0 ≤ n) (h1 : n < 9000) (a1 : 0 ≤ m1) (b1 : m1 ≤ 9000) (a2 : 0 ≤ m2) (b2 : m2 ≤ 9000) : n0 ≤ n + 10 + m1 + m2 ∧ n + 10 + m1 + m2 ≤ n0 + 27010 := by omega
theorem wideR_in (l : List AnsR) (i : Nat) (a : AnsR) (ha : l[i]? = some a) (hl : l.length ≤ 100) (hp : a.pairs.length ≤ 9223372036854775807) (r : Bool) (n0 : Int) (h00 : 0 ≤ n0) (h01 : n0 ≤ 10000000)
    (next : ∀ n, n0 ≤ n → n ≤ n0 + 27010 → n = wideP n0 (a.pairs.drop 0) → Ev (fun k => PRef.ferrymanlaw20_wide.l0 k (l.map sa) n ((i + 1 : Nat) : Int)) r) :
    ∀ (d j : Nat) (n : Int), n0 ≤ n → n ≤ n0 + 27010 → j ≤ a.pairs.length → a.pairs.length - j = d → wideP n (a.pairs.drop j) = wideP n0 (a.pairs.drop 0) →
    Ev (fun k => PRef.ferrymanlaw20_wide.l1 k (l.map sa) n (i : Int) (j : Int)) r := by
  have hil : i < l.length := (List.getElem?_eq_some_iff.1 ha).1
  have ei : wrap64 ((i : Int) + 1) = ((i + 1 : Nat) : Int) := by rw [wrap_in (by omega) (by omega)]; omega
  intro d
  induction d with
  | zero =>
    intro j n h1 h2 hj hd hw
    obtain rfl : j = a.pairs.length := by omega
    rw [List.drop_length, wideP] at hw
    obtain ⟨K, hK⟩ := next n h1 h2 hw
    refine ⟨K + 1, fun k hk => ?_⟩
    obtain ⟨k, rfl⟩ : ∃ m, k = m + 1 := ⟨k - 1, by omega⟩
    simp only [PRef.ferrymanlaw20_wide.l1]
    rw [if_pos (by omega), if_pos (by rw [List.length_map]; omega), rd_sa ha, if_neg (by simp only [sa, List.length_map]; omega), ei]
    exact hK k (by omega)
  | succ d ih =>
    intro j n h1 h2 hj hd hw
    have hjn : j < a.pairs.length := by omega
    obtain ⟨p, hp'⟩ : ∃ p, a.pairs[j]? = some p := ⟨_, List.getElem?_eq_getElem hjn⟩
    have da : a.pairs.drop j = p :: a.pairs.drop (j + 1) := by rw [List.drop_eq_getElem_cons hjn, (List.getElem?_eq_some_iff.1 hp').2]
    rw [da, wideP] at hw
    by_cases hlt : n < 9000
    · rw [if_pos hlt] at hw
      have ej : wrap64 ((j : Int) + 1) = ((j + 1 : Nat) : Int) := by rw [wrap_in (by omega) (by omega)]; omega
      have b1 := min9 p.1.length
      have b2 := min9 p.2.length
      have hs : PRef.rd_T33 (sa a).f3 (j : Int) = sp p := rd_sp hp'
      obtain ⟨m1, e1⟩ : ∃ m1, m1 = min 9000 (p.1.length : Int) := ⟨_, rfl⟩
      obtain ⟨m2, e2⟩ : ∃ m2, m2 = min 9000 (p.2.length : Int) := ⟨_, rfl⟩
      have f1 : mn 9000 ((sp p).f0.size : Int) = m1 := by rw [e1]; simp only [sp, bs_size, mn_min]
      have f2 : mn 9000 ((sp p).f1.size : Int) = m2 := by rw [e2]; simp only [sp, bs_size, mn_min]
      rw [← e1] at hw b1
      rw [← e2] at hw b2
      clear e1 e2
      obtain ⟨K, hK⟩ := ih (j + 1) (n + 10 + m1 + m2) (st2 n n0 m1 m2 h00 h1 hlt b1.1 b1.2 b2.1 b2.2).1 (st2 n n0 m1 m2 h00 h1 hlt b1.1 b1.2 b2.1 b2.2).2 (by omega) (by omega) hw
      obtain ⟨w1, w2, w3⟩ := wr3 n m1 m2 (by omega) hlt b1.1 b1.2 b2.1 b2.2
      refine ⟨K + 1, fun k hk => ?_⟩
      obtain ⟨k, rfl⟩ : ∃ m, k = m + 1 := ⟨k - 1, by omega⟩
      simp only [PRef.ferrymanlaw20_wide.l1]
      rw [if_pos (by omega), if_pos (by rw [List.length_map]; omega), rd_sa ha, if_pos (by simp only [sa, List.length_map]; omega), if_pos hlt, if_pos (by omega), hs, f1, f2, w1, w2, w3, ej]
      exact hK k (by omega)
    · rw [if_neg hlt] at hw
      obtain ⟨K, hK⟩ := next n h1 h2 hw
      refine ⟨K + 1, fun k hk => ?_⟩
      obtain ⟨k, rfl⟩ : ∃ m, k = m + 1 := ⟨k - 1, by omega⟩
      simp only [PRef.ferrymanlaw20_wide.l1]
      rw [if_pos (by omega), if_pos (by rw [List.length_map]; omega), rd_sa ha, if_pos (by simp only [sa, List.length_map]; omega), if_neg hlt, ei]
      exact hK k (by omega)
theorem wideR_out (l : List AnsR) (hl : l.length ≤ 100) (hp : ∀ a ∈ l, a.pairs.length ≤ 9223372036854775807) : ∀ (d i : Nat) (n : Int), 0 ≤ n → n + 40000 * d ≤ 5000000 → i ≤ l.length → l.length - i = d →
    Ev (fun k => PRef.ferrymanlaw20_wide.l0 k (l.map sa) n (i : Int)) (decide (9000 ≤ wideL n (l.drop i))) := by
  intro d
  induction d with
  | zero =>
    intro i n h0 h1 hi hd
    obtain rfl : i = l.length := by omega
    refine ⟨1, fun k hk => ?_⟩
    obtain ⟨k, rfl⟩ : ∃ m, k = m + 1 := ⟨k - 1, by omega⟩
    simp only [PRef.ferrymanlaw20_wide.l0]
    rw [if_neg (by rw [List.length_map]; omega), List.drop_length, wideL]
  | succ d ih =>
    intro i n h0 h1 hi hd
    have hil : i < l.length := by omega
    obtain ⟨a, ha⟩ : ∃ a, l[i]? = some a := ⟨_, List.getElem?_eq_getElem hil⟩
    have da : l.drop i = a :: l.drop (i + 1) := by rw [List.drop_eq_getElem_cons hil, (List.getElem?_eq_some_iff.1 ha).2]
    rw [da, wideL]
    have b1 := min9 a.va.length
    have f1 : mn 9000 ((sa a).f2.size : Int) = min 9000 (a.va.length : Int) := by simp only [sa, bs_size, mn_min]
    have hA : wideA n a = wideP (n + min 9000 (a.va.length : Int)) (a.pairs.drop 0) := rfl
    generalize min 9000 (a.va.length : Int) = m1 at b1 f1 hA
    obtain ⟨K, hK⟩ := wideR_in l i a ha hl (hp a (List.mem_of_getElem? ha)) (decide (9000 ≤ wideL (wideA n a) (l.drop (i + 1)))) (n + m1) (by omega) (by omega)
      (fun m hm1 hm2 hm3 => by
        rw [hA, ← hm3]
        exact ih (i + 1) m (by omega) (by omega) (by omega) (by omega)) a.pairs.length 0 _ (by omega) (by omega) (by omega) (by omega) rfl
    have w1 : wrap64 (n + m1) = n + m1 := wrap_in (by omega) (by omega)
    refine ⟨K + 1, fun k hk => ?_⟩
    obtain ⟨k, rfl⟩ : ∃ m, k = m + 1 := ⟨k - 1, by omega⟩
    simp only [PRef.ferrymanlaw20_wide.l0]
    rw [if_pos (by rw [List.length_map]; omega), if_pos (by omega), rd_sa ha, f1, w1]
    exact hK k (by omega)
theorem wideR_ev (l : List AnsR) (hl : l.length ≤ 100) (hp : ∀ a ∈ l, a.pairs.length ≤ 9223372036854775807) : Ev (fun k => PRef.ferrymanlaw20_wide.f k (l.map sa)) (wideF l) :=
  wideR_out l hl hp l.length 0 0 (by omega) (by omega) (by omega) (by omega)
end Go.Proofs.YthhhdddojmkgnaaGreatDoor
