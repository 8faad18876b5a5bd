/-
  A text's words (plain), and call.open.
-/
import Derived.Test.YthhhdddojmkgnaaGreatDoorCallT
namespace Go.Proofs.YthhhdddojmkgnaaGreatDoor
open Go.RowKit

theorem splitF_ne (l : Bs) : splitF l ≠ [] := by
  cases l with
  | nil => simp [splitF]
  | cons c r =>
    simp only [splitF]
    split
    · simp
    · split <;> simp

theorem splitF_cons_ne {c : UInt8} {r w : Bs} {ws : List Bs} (hc : c ≠ 32) (h : splitF r = w :: ws) : splitF (c :: r) = (c :: w) :: ws := by
  simp [splitF, hc, h]

theorem splitK_eq : ∀ l : Bs, Lib.splitK [32] 0 (Lib.count l [32]) l = splitF l
  | [] => by rw [Lib.count_miss (by simp [Lib.index])]; rfl
  | c :: r => by
    by_cases hc : c = 32
    · subst hc
      rw [Lib.count_cons_eq, Nat.add_comm]
      have hix : Lib.index (32 :: r) [32] = 0 := by rw [Lib.index]; simp [List.isPrefixOf]
      simp only [Lib.splitK, hix]
      rw [if_neg (by decide)]
      simp [splitF, splitK_eq r]
    · rw [Lib.count_cons_ne c 32 r hc]
      have ih := splitK_eq r
      have hp : ([32] : List UInt8).isPrefixOf (c :: r) = false := by simp [List.isPrefixOf, Ne.symm hc]
      have hix : Lib.index (c :: r) [32] = if Lib.index r [32] == -1 then -1 else Lib.index r [32] + 1 := by rw [Lib.index, hp]; simp
      by_cases hm : Lib.index r [32] = -1
      · rw [Lib.count_miss hm] at ih ⊢
        simp only [Lib.splitK] at ih ⊢
        exact (splitF_cons_ne hc ih.symm).symm
      · have hge := Lib.index_ge r [32]
        obtain ⟨j, hj⟩ : ∃ j : Nat, Lib.index r [32] = j := ⟨(Lib.index r [32]).toNat, by omega⟩
        rw [Lib.count_hit (by simp) hj] at ih ⊢
        rw [Nat.add_comm] at ih ⊢
        have hix2 : Lib.index (c :: r) [32] = ((j + 1 : Nat) : Int) := by rw [hix, if_neg (fun e => hm (beq_iff_eq.1 e)), hj]; omega
        simp only [Lib.splitK, hix2, hj] at ih ⊢
        rw [if_neg (by first | (simp; done) | (simp; omega))] at ih ⊢
        simp only [Int.toNat_natCast, Nat.add_zero, List.length_cons, List.length_nil, Nat.zero_add] at ih ⊢
        rw [splitF_cons_ne hc ih.symm]
        rfl

theorem splitB_eq (l : Bs) : (Lib.splitB (bs [32]) 0 (Lib.countB (bs l) (bs [32])) (bs l)).map (·.data.toList) = splitF l := by
  rw [Lib.splitB_data, bs_data, bs_data]
  exact splitK_eq l

theorem heap_alloc_new1 (w : World) (o o' : Obj) : ((w.alloc o).alloc o').heap[w.heap.size + 1]? = some o' := by
  have h := heap_alloc_new (w.alloc o) o'
  rwa [World.size_alloc] at h

/-- What call.open leaves: a reader of the text's words. -/
def OpenRet (l : Bs) (w : World) (e : Ending) (w' : World) : Prop :=
  ∃ r, e = .returned (.pointer (some ⟨r, 0, none⟩)) ∧ w.heap.size ≤ r ∧ RdAt w' (r + 1) r (splitF l) false ∧ Below w.heap.size w w'

theorem open_any (l : Bs) (w : World) (hE : Env w) (hl : l.length ≤ 1000000000) : Calls Tryz.prog 36 #[.string (bs l)] w (OpenRet l w) := by
  obtain ⟨m, hm⟩ := hE.max
  have hlen : (splitF l).length = Lib.countB (bs l) (bs [32]) + 1 := by
    rw [← splitB_eq, List.length_map, Lib.splitB_all (bs [32]) (by simp [bs_size]) 0 _ _ rfl]
  have HL := Lib.hid hlen
  have HM := Lib.hid hm
  have hn : (splitF l).length ≤ 1000000001 := by
    rw [hlen]
    have := Lib.countB_le (bs [32]) (by simp [bs_size]) l.length (bs l) (by simp [bs_size])
    rw [bs_size] at this
    omega
  clear hm hlen
  go_enter Tryz.func36, Tryz.ntmps36
  go_wp2_with fail
  refine (Tryz.strings_Split (bs l) (bs [32]) m _ (by rw [bs_size]; omega) HM.out (by simp [bs_size])).mono ?_
  rintro e w' ⟨rfl, rfl⟩
  rw [← HL.out]
  go_wp2
  go_ret
  refine ⟨_, rfl, ?_, ?_, ?_⟩
  · simp
  · refine ⟨⟨Nat.lt_succ_self _, by simp⟩, _, _, heap_alloc_new1 _ _ _, Nat.le_refl _, by unfold maxLen; omega, fun i x hi => ?_⟩
    refine ⟨w.heap.size, 0, rfl, by simp, by omega, ?_⟩
    rw [World.cell?_alloc_past _ _ _ (by simp), World.cell?_alloc_at _ _ _ _ (by simp)]
    rw [← splitB_eq, List.getElem?_map] at hi
    obtain ⟨y, hy, hyx⟩ := Option.map_eq_some_iff.1 hi
    simp only [Nat.zero_add, List.getElem?_toArray, List.getElem?_map, hy, Option.map_some]
    rw [← hyx, bs_list]
  · exact ((Below.refl _ _).alloc (Nat.le_refl _) _).alloc (by simp) _
end Go.Proofs.YthhhdddojmkgnaaGreatDoor
