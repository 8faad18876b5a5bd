/-
  The contracts of Read, of the reference's Tell, Read, Answers, and of wide, in one form.
-/
import Derived.Test.YthhhdddojmkgnaaGreatDoorCallRi
import Derived.Test.YthhhdddojmkgnaaGreatDoorCallPd
namespace Go.Proofs.YthhhdddojmkgnaaGreatDoor
open Go.RowKit Go.Proofs.YthhhdddojmkgnaaGreatDoorW.PrintWords Go.Proofs.YthhhdddojmkgnaaGreatDoorW.PrintLast Go.Proofs.YthhhdddojmkgnaaGreatDoorW.PrintMore
open Go

/-- What Read answers: the answer, the number. -/
def ra (s : Bs) : AnsR := (readF s).getD noAns
def re (s : Bs) : Int := if (readF s).isSome then 0 else 4

theorem add2 (b off j i : Nat) : (⟨b, off, none⟩ : Addr).add (j * 2 + i) = ⟨b, off + j * 2 + i, none⟩ := by
  rw [Addr.add_lit]; congr 1; omega
theorem pairsC {w : World} {v : Value} {ps : List (Bs × Bs)} (h : PairsAt w v ps) : ∃ A c, v = .slice A (ps.map sp).length c ∧ (ps.map sp).length ≤ c ∧ Kd.C PRef.k33 w A (ps.map sp).length (ps.map sp) := by
  obtain ⟨A, c, rfl, h1, h2, h3⟩ := h
  refine ⟨A, c, by rw [List.length_map], by rw [List.length_map]; exact h1, rfl, by rw [List.length_map]; unfold maxLen at h2; omega, fun hpos => ?_⟩
  rw [List.length_map] at hpos
  obtain ⟨b, off, rfl, _, _⟩ := h3 0 _ (List.getElem?_eq_getElem hpos)
  refine ⟨_, rfl, fun j p hj => ?_⟩
  rw [List.getElem?_map, Option.map_eq_some_iff] at hj
  obtain ⟨q, hq, rfl⟩ := hj
  obtain ⟨b', off', e, c0, c1⟩ := h3 j q hq
  simp only [Option.some.injEq, Addr.mk.injEq, and_true] at e
  obtain ⟨rfl, rfl⟩ := e
  refine ⟨_, rfl, PRef.k33_mk w (sp q), fun i u hu => ?_⟩
  have hsz : (PRef.k33).sz = 2 := rfl
  rw [hsz]
  match i, hu with
  | 0, hu =>
    simp only [List.getElem?_cons_zero, Option.some.injEq] at hu
    subst hu
    rw [add2]
    exact c0
  | 1, hu =>
    simp only [List.getElem?_cons_succ, List.getElem?_cons_zero, Option.some.injEq] at hu
    subst hu
    rw [add2]
    exact c1
  | i + 2, hu => simp at hu
theorem pairs_of_C {w : World} {A : Option Addr} {c : Nat} {ps : List (Bs × Bs)} (h : Kd.C PRef.k33 w A (ps.map sp).length (ps.map sp)) (hc : (ps.map sp).length ≤ c) (hm : c ≤ maxLen) : PairsAt w (.slice A (ps.map sp).length c) ps := by
  obtain ⟨h1, h2, h3⟩ := h
  refine ⟨A, c, by rw [List.length_map], by rw [List.length_map] at hc; exact hc, hm, fun j p hj => ?_⟩
  have hjl := (List.getElem?_eq_some_iff.1 hj).1
  obtain ⟨ad, rfl, h4⟩ := h3 (by rw [List.length_map]; omega)
  obtain ⟨cs, _, hK, hcell⟩ := h4 j (sp p) (by rw [List.getElem?_map, hj]; rfl)
  obtain rfl := PRef.k33_open hK
  have k0 := hcell 0 _ rfl
  have k1 := hcell 1 _ rfl
  have hsz : (PRef.k33).sz = 2 := rfl
  rw [hsz] at k0 k1
  obtain ⟨b, off, spot⟩ := ad
  cases spot with
  | none =>
    rw [add2] at k0 k1
    exact ⟨b, off, rfl, k0, k1⟩
  | some x =>
    obtain ⟨cs, _, hK, hcell⟩ := h4 0 _ (by rw [List.getElem?_map, List.getElem?_eq_getElem (by omega)]; rfl)
    obtain rfl := PRef.k33_open hK
    have z := hcell 0 _ rfl
    rw [hsz] at z
    have e : ((⟨b, off, some x⟩ : Addr).add (0 * 2 + 0)) = ⟨b, off, some x⟩ := by unfold Addr.add; rfl
    rw [e] at z
    unfold World.cell? at z
    split at z <;> simp at z

theorem refTell_val (a : AnsR) (v : Value) (w : World) (ha : AnsOk a) (hP : PairsAt w v a.pairs) : Calls Tryz.prog 15 #[ansVV a v] w (Ret w (.string (bs (tellF a)))) := by
  obtain ⟨A, c, rfl, h1, h2⟩ := pairsC hP
  obtain ⟨k, hk⟩ := (tellR_ev a ha).rounds
  exact PRef.ferrymanref20_Tell.calls k a.err a.found (bs a.va) A c (a.pairs.map sp) _ w h2 h1 hk
theorem answers_val (a b : AnsR) (va vb : Value) (w : World) (hn : a.pairs.length ≤ 1000000) (hA : PairsAt w va a.pairs) (hB : PairsAt w vb b.pairs) :
    Calls Tryz.prog 13 #[ansVV a va, ansVV b vb] w (Ret w (.bool (sameA a b))) := by
  obtain ⟨A, c, rfl, h1, h2⟩ := pairsC hA
  obtain ⟨B, d, rfl, h3, h4⟩ := pairsC hB
  obtain ⟨k, hk⟩ := (answersR_ev a b hn).rounds
  exact PRef.ferrymanref20_Answers.calls k a.err a.found (bs a.va) A c (a.pairs.map sp) b.err b.found (bs b.va) B d (b.pairs.map sp) _ w h2 h1 h4 h3 hk

/-- What Read leaves, in one form: a row of one's own. -/
def ReadV (s : Bs) (w : World) (e : Ending) (w' : World) : Prop :=
  ∃ v, e = .returned (.tuple #[ansVV (ra s) v, .int .i64 (re s)]) ∧ w'.ownsRow w.heap.size 33 2 v (ra s).pairs.length (pairCells (ra s).pairs) ∧ Below w.heap.size w w'
theorem read_val (s : Bs) (w : World) (hE : Env w) (hl : s.length ≤ 1000000000) : Calls Tryz.prog 11 #[.string (bs s)] w (ReadV s w) := by
  refine (read_any s w hE (by omega)).mono ?_
  rintro e w' ⟨hb, he⟩
  unfold ReadV ra re
  cases h : readF s with
  | some a =>
    rw [h] at he
    obtain ⟨v, e, ho⟩ := he
    exact ⟨v, e, ho, hb⟩
  | none =>
    rw [h] at he
    exact ⟨_, he, World.ownsRow_nil _ _ _ _, hb⟩
/-- What the reference's Read leaves. -/
def ReadR (s : Bs) (w : World) (e : Ending) (w' : World) : Prop :=
  ∃ v, e = .returned (.tuple #[ansVV (ra s) v, .int .i64 (re s)]) ∧ PairsAt w' v (ra s).pairs ∧ Below w.heap.size w w'
theorem refRead_val (s : Bs) (w : World) (hl : s.length ≤ 99999) : Calls Tryz.prog 12 #[.string (bs s)] w (ReadR s w) := by
  obtain ⟨k, hk⟩ := refRead s hl
  have main : ∀ (a : AnsR) (n : Int), PRef.ferrymanref20_Read.f k (bs s) = some (a.err, a.found, bs a.va, a.pairs.map sp, n) → Calls Tryz.prog 12 #[.string (bs s)] w fun e w' => ∃ v, e = .returned (.tuple #[ansVV a v, .int .i64 n]) ∧ PairsAt w' v a.pairs ∧ Below w.heap.size w w' := by
    intro a n h
    refine (PRef.ferrymanref20_Read.calls k (bs s) a.err a.found (bs a.va) (a.pairs.map sp) n w h).mono ?_
    rintro e w' ⟨v, rfl, hR, hb⟩
    obtain ⟨inner, ho⟩ := Kd.R_own hR
    obtain ⟨A, c, rfl, hc, hC⟩ := Kd.R_reads hR
    refine ⟨_, rfl, pairs_of_C hC hc ?_, hb⟩
    rcases ho.2 with ⟨h, _⟩ | ⟨g, cap, cur, h, _, _, _, hm, _⟩
    · injection h with _ _ h
      rw [h]; unfold maxLen; omega
    · injection h with _ _ h
      rw [h]; exact hm
  unfold ReadR ra re
  cases h : readF s with
  | some a =>
    rw [h] at hk
    exact main a 0 hk
  | none =>
    rw [h] at hk
    exact main noAns 4 hk
theorem ra_n (s : Bs) (hl : s.length ≤ 99999) : AnsOk (ra s) := by
  unfold ra
  cases h : readF s with
  | none => exact ⟨⟨by decide, by decide⟩, by decide, by decide, fun p hp => by cases hp⟩
  | some a =>
    have := readF_cand s
    rw [h] at this
    split at this
    · have e := Option.some.inj this
      rw [e]
      exact candA_ok s hl
    · cases this

/-! ### wide -/
theorem wide_one (a : AnsR) (v : Value) (b : Nat) (w : World) (hn : a.pairs.length ≤ 9223372036854775807) (hP : PairsAt w v a.pairs) (hc : ∀ j, w.cell? ⟨b, j, none⟩ = (ansCells a v)[j]?) :
    Calls Tryz.prog 9 #[.slice (some ⟨b, 0, none⟩) 1 1] w (Ret w (.bool (wideF [a]))) := by
  obtain ⟨A, c, rfl, h1, h2⟩ := pairsC hP
  obtain ⟨k, hk⟩ := (wideR_ev [a] (by simp) (fun x hx => by simp at hx; subst hx; exact hn)).rounds
  refine PRef.ferrymanlaw20_wide.calls k (some ⟨b, 0, none⟩) 1 ([a].map sa) _ w ⟨rfl, by simp, fun _ => ⟨_, rfl, fun j p hj => ?_⟩⟩ (Nat.le_refl _) hk
  match j, hj with
  | 0, hj =>
    simp only [List.map_cons, List.map_nil, List.getElem?_cons_zero, Option.some.injEq] at hj
    subst hj
    refine ⟨_, rfl, PRef.k25_mk w (sa a) h1 h2, fun i u hu => ?_⟩
    rw [show 0 * (PRef.k25).sz + i = i by omega, Addr.add_lit, Nat.zero_add, hc i, ← hu]
    simp [ansCells, sa]
  | j + 1, hj => simp at hj
theorem wide_two (a1 a2 : AnsR) (v1 v2 : Value) (b : Nat) (w : World) (hn1 : a1.pairs.length ≤ 9223372036854775807) (hn2 : a2.pairs.length ≤ 9223372036854775807) (hP1 : PairsAt w v1 a1.pairs) (hP2 : PairsAt w v2 a2.pairs) (hc : ∀ j, w.cell? ⟨b, j, none⟩ = (ansCells a1 v1 ++ ansCells a2 v2)[j]?) :
    Calls Tryz.prog 9 #[.slice (some ⟨b, 0, none⟩) 2 2] w (Ret w (.bool (wideF [a1, a2]))) := by
  obtain ⟨A, c, rfl, h1, h2⟩ := pairsC hP1
  obtain ⟨B, d, rfl, h3, h4⟩ := pairsC hP2
  obtain ⟨k, hk⟩ := (wideR_ev [a1, a2] (by simp) (fun x hx => by simp at hx; rcases hx with rfl | rfl; exact hn1; exact hn2)).rounds
  refine PRef.ferrymanlaw20_wide.calls k (some ⟨b, 0, none⟩) 2 ([a1, a2].map sa) _ w ⟨rfl, by simp, fun _ => ⟨_, rfl, fun j p hj => ?_⟩⟩ (Nat.le_refl _) hk
  have hsz : (PRef.k25).sz = 4 := rfl
  match j, hj with
  | 0, hj =>
    simp only [List.map_cons, List.map_nil, List.getElem?_cons_zero, Option.some.injEq] at hj
    subst hj
    refine ⟨_, rfl, PRef.k25_mk w (sa a1) h1 h2, fun i u hu => ?_⟩
    have hi : i < 4 := (List.getElem?_eq_some_iff.1 hu).1
    rw [show 0 * (PRef.k25).sz + i = i by omega, Addr.add_lit, Nat.zero_add, hc i, ← hu]
    rw [Array.getElem?_append_left (by simp [ansCells]; omega)]
    simp [ansCells, sa]
  | 1, hj =>
    simp only [List.map_cons, List.map_nil, List.getElem?_cons_succ, List.getElem?_cons_zero, Option.some.injEq] at hj
    subst hj
    refine ⟨_, rfl, PRef.k25_mk w (sa a2) h3 h4, fun i u hu => ?_⟩
    have hi : i < 4 := (List.getElem?_eq_some_iff.1 hu).1
    rw [hsz, show 1 * 4 + i = 4 + i by omega, Addr.add_lit, Nat.zero_add, hc (4 + i), ← hu]
    rw [Array.getElem?_append_right (by simp [ansCells])]
    simp [ansCells, sa]
  | j + 2, hj => simp at hj
theorem wide_ok {l : List AnsR} (h : wideF l = false) (hi : ∀ a ∈ l, IsInt a.err) : ∀ a ∈ l, AnsOk a := by
  intro a ha
  have h1 : wideL 0 l < 9000 := by
    have := of_decide_eq_false h
    omega
  obtain ⟨h2, h3, h4⟩ := wideL_small l 0 (by omega) h1 a ha
  exact ⟨hi a ha, by omega, by omega, fun p hp => by have := h4 p hp; omega⟩
end Go.Proofs.YthhhdddojmkgnaaGreatDoor
