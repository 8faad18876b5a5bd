/-
  What the package-level variables hold; strconv.Itoa and Atoi at these; (*reader).number, done; call.open.
-/
import Derived.Test.YthhhdddojmkgnaaGreatDoorCallH
import Derived.WalkSmall
import Derived.Lib.SplitLaws
import Derived.Lib.AppendIntMem
namespace Go.Proofs.YthhhdddojmkgnaaGreatDoor
open Go.RowKit

/-- What the listed variables hold. -/
structure Env (w : World) : Prop where
  pow : Lib.TabIs Tryz.prog w "internal/strconv.uint64pow10" .u64 Lib.pow10Tab
  max : ∃ m, w.cell? ⟨5, 0, none⟩ = some (.int .i64 m)
  words : ∀ i x, wordL[i]? = some x → w.cell? ⟨0, i, none⟩ = some (.string (bs x))
  syn : ∃ te pe, w.cell? ⟨1, 0, none⟩ = some (.iface te pe)
  rng : ∃ te pe, w.cell? ⟨2, 0, none⟩ = some (.iface te pe)
  size : 10 ≤ w.heap.size

theorem powNamed : Tryz.prog.globalNamed "internal/strconv.uint64pow10" = some 4 := by kernel_rfl

theorem Env.kept {w w' : World} (h : Env w) (hb : Below 10 w w') : Env w' where
  pow := var?_below hb powNamed (by decide) h.pow
  max := by
    obtain ⟨m, hm⟩ := h.max
    exact ⟨m, by rw [hb.cell (by decide)]; exact hm⟩
  words := fun i x hx => by rw [hb.cell (p := ⟨0, i, none⟩) (show 0 < 10 by decide)]; exact h.words i x hx
  syn := by
    obtain ⟨te, pe, hm⟩ := h.syn
    exact ⟨te, pe, by rw [hb.cell (by decide)]; exact hm⟩
  rng := by
    obtain ⟨te, pe, hm⟩ := h.rng
    exact ⟨te, pe, by rw [hb.cell (by decide)]; exact hm⟩
  size := Nat.le_trans h.size hb.size

theorem Env.below {w w' : World} (h : Env w) (hb : Below w.heap.size w w') : Env w' := h.kept (hb.mono h.size)
theorem Env.only {w w' : World} {r : Nat} (h : Env w) (hb : Only r w w') (hr : 10 ≤ r) : Env w' := h.kept (hb.below (Below.refl _ _) hr h.size)

/-- An int. -/
def IsInt (n : Int) : Prop := -9223372036854775808 ≤ n ∧ n ≤ 9223372036854775807

theorem itoa_any (n : Int) (w : World) (hn : IsInt n) (h : Env w) : Calls Tryz.prog 48 #[.int .i64 n] w (Ret w (.string (bs (Lib.itoa n)))) := by
  refine (Tryz.strconv_Itoa n hn.1 hn.2 w h.pow).mono ?_
  rintro e w' ⟨rfl, k, os, rfl⟩
  exact Ret.of rfl (Go.Lib.below_grow _ _ (Nat.le_refl _) _ _)

/-- Atoi: the number, and an error that is nil or not. -/
def AtoiRet (s : Bs) (w : World) (e : Ending) (w' : World) : Prop :=
  Below w.heap.size w w' ∧ match Lib.atoiAll s with
  | .ok v => e = .returned (.tuple #[.int .i64 v, .nilIface])
  | .range => ∃ N, e = .returned (.tuple #[.int .i64 (Lib.atoiSat s), .iface 116 (.pointer (some ⟨N, 0, none⟩))])
  | _ => ∃ N, e = .returned (.tuple #[.int .i64 0, .iface 116 (.pointer (some ⟨N, 0, none⟩))])

theorem atoi_any (s : Bs) (w : World) (hs : s.length ≤ 1000000000) (h : Env w) : Calls Tryz.prog 62 #[.string (bs s)] w (AtoiRet s w) := by
  have hd : (bs s).data.toList = s := bs_data s
  rcases hr : Lib.atoiAll s with v | _ | _
  · refine (Tryz.strconv_Atoi_ok (bs s) (by rw [bs_size]; omega) v (by rw [hd]; exact hr) w).mono ?_
    rintro e w' ⟨rfl, hw⟩
    refine ⟨?_, by rw [hr]⟩
    rcases hw with rfl | ⟨t, rfl⟩
    · exact Below.refl _ _
    · exact Lib.bytesWorld_below _ _ _
  · obtain ⟨te, pe, hv⟩ := h.syn
    refine (Tryz.strconv_Atoi_syntax (bs s) (by rw [bs_size]; omega) (by rw [hd]; exact hr) _ w hv (.inr ⟨te, pe, rfl⟩)).mono ?_
    rintro e w' ⟨N, rfl, _, _, hb⟩
    exact ⟨hb, by rw [hr]; exact ⟨N, rfl⟩⟩
  · obtain ⟨te, pe, hv⟩ := h.rng
    refine (Tryz.strconv_Atoi_range (bs s) (by rw [bs_size]; omega) (by rw [hd]; exact hr) _ w hv (.inr ⟨te, pe, rfl⟩)).mono ?_
    rintro e w' ⟨N, rfl, _, _, hb⟩
    exact ⟨hb, by rw [hr, hd]; exact ⟨N, rfl⟩⟩

/-- A word's number: what it says, and whether it is bad. -/
theorem numOf_ok {s : Bs} {v : Int} (h : Lib.atoiAll s = .ok v) : numOf s = (v, decide (Lib.itoa v ≠ s)) := by simp [numOf, h]
theorem numOf_syntax {s : Bs} (h : Lib.atoiAll s = Lib.atoiAll []) : numOf s = (0, true) := by simp only [numOf, h]; rfl
theorem numOf_range {s : Bs} (h : Lib.atoiAll s = .range) : numOf s = (Lib.atoiSat s, true) := by simp [numOf, h]

theorem Rd.next_eq (ls : List Bs) (bad : Bool) : Rd.next ⟨ls, bad⟩ = (ls.headD [], ⟨ls.tail, bad || ls.isEmpty⟩) := by
  cases ls <;> simp [Rd.next]

theorem next_any (M r : Nat) (ls : List Bs) (bad : Bool) (w : World) (h : RdAt w M r ls bad) :
    Calls Tryz.prog 38 #[.pointer (some ⟨r, 0, none⟩)] w (RdRet w M r (.string (bs (ls.headD []))) ls.tail (bad || ls.isEmpty)) := by
  cases ls with
  | nil => simpa using next_nil M r bad w h
  | cons l t => simpa using next_cons M r bad l t w h

theorem atoi_ok (s : Bs) (v : Int) (w : World) (hs : s.length ≤ 1000000000) (h : Env w) (ha : Lib.atoiAll s = .ok v) :
    Calls Tryz.prog 62 #[.string (bs s)] w (Ret w (.tuple #[.int .i64 v, .nilIface])) := by
  refine (atoi_any s w hs h).mono ?_
  rintro e w' ⟨hb, he⟩
  rw [ha] at he
  exact ⟨he, hb⟩
def AtoiBad (s : Bs) (w : World) (e : Ending) (w' : World) : Prop :=
  Below w.heap.size w w' ∧ ∃ N, e = .returned (.tuple #[.int .i64 (numOf s).1, .iface 116 (.pointer (some ⟨N, 0, none⟩))])
theorem atoi_bad (s : Bs) (w : World) (hs : s.length ≤ 1000000000) (h : Env w) (ha : ∀ v, Lib.atoiAll s ≠ .ok v) :
    Calls Tryz.prog 62 #[.string (bs s)] w (AtoiBad s w) := by
  refine (atoi_any s w hs h).mono ?_
  rintro e w' ⟨hb, he⟩
  refine ⟨hb, ?_⟩
  rcases hr : Lib.atoiAll s with v | _ | _
  · exact absurd hr (ha v)
  · rw [hr] at he; rw [numOf_syntax hr]; exact he
  · rw [hr] at he; rw [numOf_range hr]; exact he
theorem numOf_bad {s : Bs} (ha : ∀ v, Lib.atoiAll s ≠ .ok v) : (numOf s).2 = true := by
  rcases hr : Lib.atoiAll s with v | _ | _
  · exact absurd hr (ha v)
  · rw [numOf_syntax hr]
  · rw [numOf_range hr]
theorem atoi_int {s : Bs} {v : Int} (h : Lib.atoiAll s = .ok v) : IsInt v := by
  have := Lib.atoiAll_bounds h
  exact ⟨by omega, by omega⟩

set_option maxHeartbeats 1000000 in
theorem number_core (M r : Nat) (s : Bs) (t : List Bs) (b : Bool) (w : World) (hE : Env w) (hr : 10 ≤ r) (hlen : s.length ≤ 1000000000)
    (hN : Calls Tryz.prog 38 #[.pointer (some ⟨r, 0, none⟩)] w (RdRet w M r (.string (bs s)) t b)) :
    Calls Tryz.prog 37 #[.pointer (some ⟨r, 0, none⟩)] w (RdRet w M r (.int .i64 (numOf s).1) t (b || (numOf s).2)) := by
  have HN := Lib.hid hN
  have HE := Lib.hid hE
  clear hN hE
  by_cases hok : ∃ v, Lib.atoiAll s = .ok v
  · obtain ⟨v, ha⟩ := hok
    have Ha := Lib.hid ha
    clear ha
    cases b
    all_goals
      go_enter Tryz.func37, Tryz.ntmps37
      go_wp2_with fail
      refine HN.out.mono ?_
      rintro e w1 ⟨rfl, hR1, hO1⟩
      have HR1 := Lib.hid hR1
      have HO1 := Lib.hid hO1
      have HE1 := Lib.hid (HE.out.only hO1 hr)
      clear hR1 hO1
      go_wp2_with fail
      refine (atoi_ok s v _ hlen HE1.out Ha.out).mono ?_
      rintro e w2 ⟨rfl, hb2⟩
      have HR2 := Lib.hid (HR1.out.below hb2)
      have HO2 := Lib.hid (HO1.out.trans (.of_below hb2))
      have HE2 := Lib.hid (HE1.out.below hb2)
      clear hb2 HR1 HO1 HE1
      obtain ⟨c1, f1⟩ := HR2.out.cell1
      go_wp2_with fail
    · refine (itoa_any v _ (atoi_int Ha.out) HE2.out).mono ?_
      rintro e w3 ⟨rfl, hb3⟩
      have HR3 := Lib.hid (HR2.out.below hb3)
      have HO3 := Lib.hid (HO2.out.trans (.of_below hb3))
      clear hb3 HR2 HO2 HE2 c1 f1
      obtain ⟨c1, f1⟩ := HR3.out.cell1
      go_wp2
      go_ret
      have e1 := numOf_ok Ha.out
      refine ⟨by rw [e1]; rfl, ?_, HO3.out.trans (Only.setCell _ _ _ _)⟩
      have := HR3.out.setBad (!Lib.itoa v == s)
      rw [e1]
      have e2 : (!Lib.itoa v == s) = (false || decide (Lib.itoa v ≠ s)) := by
        by_cases h : Lib.itoa v = s <;> simp [h]
      show RdAt _ M r t (false || decide (Lib.itoa v ≠ s))
      rw [← e2]
      exact this
    · go_wp2
      go_ret
      have e1 := numOf_ok Ha.out
      refine ⟨by rw [e1]; rfl, ?_, HO2.out.trans (Only.setCell _ _ _ _)⟩
      simpa using HR2.out.setBad true
  · have ha : ∀ v, Lib.atoiAll s ≠ .ok v := fun v h => hok ⟨v, h⟩
    have Ha := Lib.hid ha
    clear ha hok
    cases b
    all_goals
      go_enter Tryz.func37, Tryz.ntmps37
      go_wp2_with fail
      refine HN.out.mono ?_
      rintro e w1 ⟨rfl, hR1, hO1⟩
      have HR1 := Lib.hid hR1
      have HO1 := Lib.hid hO1
      have HE1 := Lib.hid (HE.out.only hO1 hr)
      clear hR1 hO1
      go_wp2_with fail
      refine (atoi_bad s _ hlen HE1.out Ha.out).mono ?_
      rintro e w2 ⟨hb2, N, rfl⟩
      have HR2 := Lib.hid (HR1.out.below hb2)
      have HO2 := Lib.hid (HO1.out.trans (.of_below hb2))
      clear hb2 HR1 HO1 HE1
      obtain ⟨c1, f1⟩ := HR2.out.cell1
      go_wp2
      go_ret
      refine ⟨rfl, ?_, HO2.out.trans (Only.setCell _ _ _ _)⟩
      rw [numOf_bad Ha.out]
      simpa using HR2.out.setBad true

theorem number_any (M r : Nat) (ls : List Bs) (bad : Bool) (w : World) (h : RdAt w M r ls bad) (he : Env w) (hr : 10 ≤ r) (hl : ∀ x ∈ ls, x.length ≤ 1000000000) :
    Calls Tryz.prog 37 #[.pointer (some ⟨r, 0, none⟩)] w (RdRet w M r (.int .i64 (numOf (ls.headD [])).1) ls.tail ((bad || ls.isEmpty) || (numOf (ls.headD [])).2)) := by
  refine number_core M r _ _ _ w he hr ?_ (next_any M r ls bad w h)
  cases ls with
  | nil => simp
  | cons l t => exact hl l (by simp)
end Go.Proofs.YthhhdddojmkgnaaGreatDoor
