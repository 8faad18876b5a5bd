/-
  call.line: a first word ahead of the others, blanks between.
-/
import Derived.Test.YthhhdddojmkgnaaGreatDoorCallF
namespace Go.Proofs.YthhhdddojmkgnaaGreatDoor
open Go.RowKit

/-- These texts lie from the block's beginning on. -/
def RowAt (w : World) (b : Nat) (ls : List Bs) : Prop := ∀ j x, ls[j]? = some x → w.cell? ⟨b, 0 + j, none⟩ = some (.string (bs x))
def strV (l : Bs) : Value := .string (bs l)

theorem RowAt.vals {w : World} {b : Nat} {ls : List Bs} (h : RowAt w b ls) : ∀ j v, (ls.map strV)[j]? = some v → w.cell? ⟨b, 0 + j, none⟩ = some v := by
  intro j v hj
  rw [List.getElem?_map, Option.map_eq_some_iff] at hj
  obtain ⟨x, hx, rfl⟩ := hj
  exact h j x hx
theorem one_strV (ls : List Bs) : ∀ v ∈ ls.map strV, v.oneCell' = true := by
  intro v hv
  obtain ⟨x, _, rfl⟩ := List.mem_map.1 hv
  rfl
theorem RowAt.strs {w : World} {b : Nat} {ls : List Bs} (h : RowAt w b ls) : ∀ (j : Nat) x, (ls.map bs)[j]? = some x → w.cell? ⟨b, 0 + j, none⟩ = some (.string x) := by
  intro j v hj
  rw [List.getElem?_map, Option.map_eq_some_iff] at hj
  obtain ⟨x, hx, rfl⟩ := hj
  exact h j x hx
theorem map_bs (ls : List Bs) : (ls.map bs).map (·.data.toList) = ls := by
  rw [List.map_map]
  conv => rhs; rw [← List.map_id ls]
  apply List.map_congr_left
  intro a _
  simp [bs]

/-- The new row's cells are what was written. -/
theorem grown_row (w : World) (f : Bs) (ls : List Bs) (k : Nat) (T : TypeId) :
    RowAt ((((w.alloc (.cells (((ls.map strV).take 0).toArray ++ Builtin.zeroCells (Value.string ⟨#[]⟩).cells (ls.length + 1 - 0) ++ Builtin.zeroCells (Value.string ⟨#[]⟩).cells k) T)).drew.setCells w.heap.size 0 [strV f]).drew).setCells w.heap.size (0 + 1) ((ls.map strV).drop 0)) w.heap.size (f :: ls) := by
  intro j x hj
  have hs : ∀ i, i < ls.length + 1 → ((w.alloc (.cells (((ls.map strV).take 0).toArray ++ Builtin.zeroCells (Value.string ⟨#[]⟩).cells (ls.length + 1 - 0) ++ Builtin.zeroCells (Value.string ⟨#[]⟩).cells k) T)).drew.cell? ⟨w.heap.size, i, none⟩).isSome = true := by
    intro i hi
    have h1 : (Value.string ⟨#[]⟩).cells.size = 1 := rfl
    have h2 : i < (((ls.map strV).take 0).toArray ++ Builtin.zeroCells (Value.string ⟨#[]⟩).cells (ls.length + 1 - 0) ++ Builtin.zeroCells (Value.string ⟨#[]⟩).cells k).size := by
      simp only [Array.size_append, size_zeroCells, List.take_zero, h1]
      simp
      omega
    show ((w.alloc _).cell? ⟨w.heap.size, i, none⟩).isSome = true
    rw [Lib.cell_of_heap (heap_alloc_new w _) i, Array.getElem?_eq_getElem h2]
    rfl
  cases j with
  | zero =>
    simp only [List.getElem?_cons_zero, Option.some.injEq] at hj
    subst hj
    rw [World.cell?_setCells_out _ _ _ _ _ (fun _ _ => Or.inl (by simp))]
    show ((w.alloc _).drew.setCells w.heap.size 0 [strV f]).cell? ⟨w.heap.size, 0 + 0, none⟩ = _
    rw [World.cell?_setCells_in _ _ _ _ (fun j hj => hs _ (by simp at hj; omega)) 0 (by simp)]
    rfl
  | succ i =>
    rw [List.getElem?_cons_succ] at hj
    have hi : i < ls.length := (List.getElem?_eq_some_iff.1 hj).1
    have hx : (ls.map strV)[i]'(by simpa using hi) = strV x := by
      rw [List.getElem_map]
      exact congrArg strV (List.getElem?_eq_some_iff.1 hj).2
    rw [show 0 + (i + 1) = 0 + 1 + i by omega, List.drop_zero]
    rw [World.cell?_setCells_in _ _ _ _ (fun j hj => ?_) i (by simpa using hi), hx]
    · rfl
    · show (((w.alloc _).drew.setCells w.heap.size 0 [strV f]).cell? ⟨w.heap.size, 0 + 1 + j, none⟩).isSome = true
      rw [World.cell?_setCells_out _ _ _ _ _ (fun _ _ => Or.inr (by simp))]
      exact hs _ (by simp at hj; omega)
theorem below_setCells {B : Nat} {a : World} (b : Nat) (hb : B ≤ b) : ∀ (vs : List Value) (o : Nat) {w : World}, Below B a w → Below B a (w.setCells b o vs)
  | [], _, _, h => h
  | v :: r, o, _, h => below_setCells b hb r (o + 1) (h.setCell (p := ⟨b, o, none⟩) hb v)
theorem grown_below (w : World) (f : Bs) (ls : List Bs) (o : Obj) {B : Nat} {a : World} (h : Below B a (w.alloc o)) (hB : B ≤ w.heap.size) :
    Below B a ((((w.alloc o).drew.setCells w.heap.size 0 [strV f]).drew).setCells w.heap.size (0 + 1) ((ls.map strV).drop 0)) :=
  below_setCells _ hB _ _ (below_setCells _ hB _ _ h.drew).drew

theorem RowAt.below {w w' : World} {b : Nat} {ls : List Bs} (h : RowAt w b ls) (hb : b < w.heap.size) (hw : Below w.heap.size w w') : RowAt w' b ls := fun j x hj => by
  rw [hw.cell (p := ⟨b, 0 + j, none⟩) hb]; exact h j x hj

/-- call.line, where the others' row has no room. -/
theorem line_grow (f : Bs) (ls : List Bs) (b c : Nat) (w : World) (hr : RowAt w b ls) (hb : b < w.heap.size) (hn : 0 < ls.length) (hc : ls.length ≤ c) (hc2 : c < ls.length + 1) (hbig : ls.length ≤ 1000000000) (hlen : (Lib.join (f :: ls) [32]).length ≤ 140737488355328) :
    Calls Tryz.prog 47 #[.string (bs f), .slice (some ⟨b, 0, none⟩) ls.length c] w (Ret w (.string (bs (Lib.join (f :: ls) [32])))) := by
  go_enter Tryz.func47, Tryz.ntmps47
  go_wp2_with fail
  refine (Any2.slices_Insert_string_grow Tryz.lays2_22 b 0 ls.length c 0 w.heap.size 0 1 1 (ls.map strV) [strV f] _ hn (by omega) hc hc2 (by omega) (by simp) rfl (RowAt.vals (hr.below hb ((Below.refl _ _).alloc (Nat.le_refl _) _))) ?_ (one_strV _) (by simp [strV, Value.oneCell'])).mono ?_
  · intro j v hj
    cases j with
    | zero => rw [show w.heap.size = (w.drewN 0).heap.size from rfl]; simp at hj; subst hj; exact Lib.cell_of_heap (heap_alloc_new w _) 0
    | succ i => simp at hj
  rintro e w2 ⟨rfl, hw2⟩
  have hR : RowAt w2 (w.heap.size + 1) (f :: ls) := by
    have h : RowAt w2 (w.alloc (.cells #[strV f] 9)).heap.size (f :: ls) := by rw [hw2]; exact grown_row _ f ls _ _
    rwa [World.size_alloc] at h
  have hB : Below w.heap.size w w2 := by rw [hw2]; exact grown_below _ f ls _ (((Below.refl _ _).alloc (Nat.le_refl _) _).alloc (by simp) _) (by simp)
  have hS : w.heap.size + 1 < w2.heap.size := by
    have := (show Below w.heap.size _ w2 by rw [hw2]; exact grown_below (w.alloc _) f ls _ (Below.refl _ _) (by simp)).size
    simp at this
    omega
  have hJ := Lib.hid (Tryz.strings_Join (w.heap.size + 1) 0 (grownCap (w.alloc (.cells #[strV f] 9)) (ls.length + 1) c 9) ((f :: ls).map bs) (bs [32]) w2 hR.strs hS (by simp; omega) (by simpa using grownCap_ge _ (ls.length + 1) _ _) (by rw [map_bs]; exact hlen))
  clear hw2 hR
  rw [List.length_map, List.length_cons, map_bs] at hJ
  go_wp2_with fail
  refine hJ.out.mono ?_
  rintro e w3 ⟨rfl, hb3⟩
  go_wp2_with fail
  go_ret
  exact Ret.of rfl (hB.trans (hb3.mono hB.size))
end Go.Proofs.YthhhdddojmkgnaaGreatDoor
