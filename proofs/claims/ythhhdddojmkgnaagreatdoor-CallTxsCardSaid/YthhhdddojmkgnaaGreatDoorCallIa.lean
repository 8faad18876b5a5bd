/-
  A list of ints among the arguments: read as the plain list.
-/
import Derived.Test.YthhhdddojmkgnaaGreatDoorCallI
namespace Go.Proofs.YthhhdddojmkgnaaGreatDoor
open Go.ChangeShapes Go.WideShapes Go.ChangeAt Go.RowKit Go.Joins Go.Deep

/-- A slice of ints whose elements are these. -/
def IntsAt (w : World) (A : Option Addr) (n c : Nat) (zs : List Int) : Prop :=
  zs.length = n ∧ n ≤ c ∧ (A = none → n = 0 ∧ c = 0) ∧ ∀ ad, A = some ad → ∀ i, i < n → w.cell? (ad.add i) = some (.int .i64 (zs.getD i 0))
theorem IntsAt.below {w w' : World} {A : Option Addr} {n c : Nat} {zs : List Int} (h : IntsAt w A n c zs) (hb : Below w.heap.size w w') : IntsAt w' A n c zs :=
  ⟨h.1, h.2.1, h.2.2.1, fun ad ha i hi => by
    have := h.2.2.2 ad ha i hi
    rw [hb.cell (World.block_lt_of_cell? w _ this)]; exact this⟩

set_option maxRecDepth 100000 in
theorem open_nums {H : Type} {enc : TypeId × Value → H} {w : World} {base b0 : Nat} {spare : Nat → Bool} {held : Bool} {v : Value} {d : DataW H} {p : List MemPlace}
    (hv : Value.okWide Tryz.prog w .any b0 50 v) (h : DataW.Trod enc Tryz.prog w base spare held 50 v d p) : ∃ A n c zs, v = .slice A n c ∧ IntsAt w A n c zs ∧ ∀ z ∈ zs, IsInt z := by
  obtain ⟨A, n, c, rfl⟩ := okWide_slice Tryz.underlying50 hv
  refine ⟨A, n, c, ?_⟩
  obtain ⟨fuel, hf⟩ := h
  rcases open_ints Tryz.underlying50 Tryz.underlying3 (by kernel_rfl) hf with ⟨hcs, _⟩ | ⟨x, l, cc, zs, hcs, _, hl, hm, hz, _, hcell, hwz⟩
  · simp [Value.cells] at hcs
    obtain ⟨rfl, rfl, rfl⟩ := hcs
    exact ⟨[], rfl, ⟨rfl, Nat.le_refl _, fun _ => ⟨rfl, rfl⟩, fun ad ha => by cases ha⟩, by simp⟩
  · simp [Value.cells] at hcs
    obtain ⟨rfl, rfl, rfl⟩ := hcs
    have hz : c ≤ zs.length ∨ n ≤ zs.length := by
      by_cases hsp : spare x.block = true
      · simp [hsp] at hz; left; omega
      · simp [hsp] at hz; right; omega
    have hzn : n ≤ zs.length := by omega
    refine ⟨zs.take n, rfl, ⟨by rw [List.length_take]; omega, hl, (fun ha => by cases ha), fun ad ha i hi => ?_⟩, fun z hzm => ?_⟩
    · cases ha
      have := hcell i (by omega)
      rw [this, List.getD_eq_getElem?_getD, List.getD_eq_getElem?_getD, List.getElem?_take_of_lt hi]
    · have := hwz z (List.mem_of_mem_take hzm)
      simp [Lit.wf, IntKind.min, IntKind.max, IntKind.signed, IntKind.bits] at this
      exact this
end Go.Proofs.YthhhdddojmkgnaaGreatDoor
