/-
  call.line, where the others' row has room: its contract.
-/
import Derived.Test.YthhhdddojmkgnaaGreatDoorCallLm
namespace Go.Proofs.YthhhdddojmkgnaaGreatDoor
open Go.RowKit

theorem kep_set (b : Nat) (vs : List Value) (o : Nat) (w : World) : Kep w (w.setCells b o vs) (fun k => k = b) := by
  induction vs generalizing o w with
  | nil => exact Kep.refl _ _
  | cons v r ih =>
    have h := ih (o + 1) (w.setCell ⟨b, o, none⟩ v)
    refine ⟨h.os, h.tape, h.output, ?_, fun k hk hs => ?_⟩
    · have := h.size; simp [World.setCell] at this; exact this
    · rw [World.setCells, h.block k (by simp [World.setCell]; exact hk) hs, Below.heap_setCell _ _ _ _ hs]

theorem Kep.trans {w w1 w2 : World} {S : Nat → Prop} (h1 : Kep w w1 S) (h2 : Kep w1 w2 S) : Kep w w2 S :=
  ⟨h2.os.trans h1.os, h2.tape.trans h1.tape, h2.output.trans h1.output, Nat.le_trans h1.size h2.size, fun k hk hs => (h2.block k (Nat.lt_of_lt_of_le hk h1.size) hs).trans (h1.block k hk hs)⟩
theorem Kep.drew (w : World) (S : Nat → Prop) : Kep w w.drew S := ⟨rfl, rfl, rfl, Nat.le_refl _, fun _ _ _ => rfl⟩

theorem line_room (f : Bs) (ls : List Bs) (b c : Nat) (w : World) (cur : Array Value) (fr : Nat × Nat) (hh : w.heap[b]? = some (.cells cur 9 fr)) (hr : RowAt w b ls) (hn : 0 < ls.length) (hc : ls.length + 1 ≤ c) (hcc : cur.size = c) (hc6 : c ≤ 9223372036854775807) (hbig : ls.length ≤ 1000000000)
    (hfz : ∀ j, w.frozen? ⟨b, j, none⟩ = false) (hlen : (Lib.join (f :: ls) [32]).length ≤ 140737488355328) :
    Calls Tryz.prog 47 #[.string (bs f), .slice (some ⟨b, 0, none⟩) ls.length c] w fun e w' => e = .returned (.string (bs (Lib.join (f :: ls) [32]))) ∧ Kep w w' (fun k => k = b) := by
  have hb : b < w.heap.size := by
    rcases Nat.lt_or_ge b w.heap.size with h | h
    · exact h
    · rw [Array.getElem?_eq_none h] at hh; cases hh
  have hh' : (w.alloc (.cells #[strV f] 9)).heap[b]? = some (.cells cur 9 fr) := by rw [Lib.alloc_old w _ b hb]; exact hh
  go_enter Tryz.func47, Tryz.ntmps47
  go_wp2_with fail
  refine (Any2.slices_Insert_string_shift Tryz.lays2_22 b 0 ls.length c 0 w.heap.size 0 1 1 (ls.map strV) [strV f] _ hn (by omega) hc (by omega) (by omega) (by simp) rfl (RowAt.vals (hr.below hb ((Below.refl _ _).alloc (Nat.le_refl _) _)))
    (fun j hj => by rw [Nat.zero_add]; exact there_cell hh' (by omega)) ?s1 ?s2 (one_strV _) (by simp [strV, Value.oneCell']) 9 9 1 c ?s3 ?s4 (by omega) ?s5 ?s6).mono ?_
  case s1 =>
    intro j _
    rw [World.frozen?_of_block (a := ⟨b, 0 + j, none⟩) (w := w) (Lib.alloc_old w _ b hb)]
    exact hfz _
  case s2 =>
    intro j v hj
    cases j with
    | zero => simp at hj; subst hj; exact Lib.cell_of_heap (heap_alloc_new w _) 0
    | succ i => simp at hj
  case s3 => unfold World.shape?; rw [heap_alloc_new]; rfl
  case s4 =>
    show (w.alloc (.cells #[strV f] 9)).shape? b = _
    unfold World.shape?; rw [hh', ← hcc]
  case s5 => unfold World.frozen?; rw [heap_alloc_new]; rfl
  case s6 => unfold World.frozen?; rw [heap_alloc_new]; rfl
  rintro e w2 ⟨rfl, hw2⟩
  have hR : RowAt w2 b (f :: ls) := by rw [hw2]; exact room_row (w.alloc (.cells #[strV f] 9)).drew b f ls cur _ fr hh' (by omega)
  have hK : Kep w w2 (fun k => k = b) := by
    rw [hw2]
    exact (((Kep.of_below (below_new w _)).trans (Kep.drew _ _)).trans (kep_set b _ _ _)).trans (kep_set b _ _ _)
  have hS : b < w2.heap.size := Nat.lt_of_lt_of_le hb hK.size
  have hJ := Lib.hid (Tryz.strings_Join b 0 c ((f :: ls).map bs) (bs [32]) w2 hR.strs hS (by simp; omega) (by simpa using hc) (by rw [map_bs]; exact hlen))
  have HK := Lib.hid hK
  clear hw2 hR hK hfz hh hh' hr
  rw [List.length_map, List.length_cons, map_bs] at hJ
  go_wp2_with fail
  refine hJ.out.mono ?_
  rintro e w3 ⟨rfl, hb3⟩
  go_wp2_with fail
  go_ret
  exact ⟨rfl, HK.out.trans (Kep.of_below hb3)⟩
end Go.Proofs.YthhhdddojmkgnaaGreatDoor
