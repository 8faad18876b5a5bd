/-
  call.Tell of any answer.
-/
import Derived.Test.YthhhdddojmkgnaaGreatDoorCallPa
namespace Go.Proofs.YthhhdddojmkgnaaGreatDoor
open Go.RowKit

/-- How much an answer may hold. -/
structure AnsOk (a : AnsR) : Prop where
  err : IsInt a.err
  va : a.va.length ≤ 1000000
  n : a.pairs.length ≤ 100000
  pairs : ∀ p ∈ a.pairs, p.1.length ≤ 1000000 ∧ p.2.length ≤ 1000000

theorem tell_len (a : AnsR) (h : AnsOk a) : (Lib.join (Lib.itoa a.err :: found1 a.found :: hexF a.va :: pairWords a.pairs) [32]).length ≤ 140737488355328 := by
  refine Nat.le_trans (join_length_le _ 2000001 ?_) ?_
  · intro y hy
    have hw : ∀ l : List (Bs × Bs), (∀ p ∈ l, p.1.length ≤ 1000000 ∧ p.2.length ≤ 1000000) → ∀ y ∈ pairWords l, y.length ≤ 2000001 := by
      intro l
      induction l with
      | nil => intro _ y hy; simp [pairWords] at hy
      | cons p r ih =>
        intro hl y hy
        have := hl p (by simp)
        simp only [pairWords, List.mem_cons] at hy
        rcases hy with rfl | rfl | hy
        · exact Nat.le_trans (hexF_length _) (by omega)
        · exact Nat.le_trans (hexF_length _) (by omega)
        · exact ih (fun q hq => hl q (by simp [hq])) y hy
    simp only [List.mem_cons] at hy
    rcases hy with rfl | rfl | rfl | hy
    · exact Nat.le_trans (itoaLen _ h.err) (by decide)
    · cases a.found <;> decide
    · exact Nat.le_trans (hexF_length _) (by have := h.va; omega)
    · exact hw _ h.pairs y hy
  · have := h.n
    simp only [List.length_cons, pairWords_length]
    omega

set_option maxRecDepth 100000 in
set_option maxHeartbeats 8000000 in
theorem tell_any (a : AnsR) (v : Value) (w : World) (hE : Env w) (ha : AnsOk a) (hP : PairsAt w v a.pairs) :
    Calls Tryz.prog 14 #[ansVV a v] w (Ret w (.string (bs (tellF a)))) := by
  have Hln := Lib.hid (tell_len a ha)
  have HE := Lib.hid hE
  have HA := Lib.hid ha
  obtain ⟨i0, hi, hz0, hz1, hz2⟩ := info_parts infoStr
  obtain ⟨A, c, rfl, hc1, hc2, hcell⟩ := hP
  have HC := Lib.hid hcell
  have hva := ha.va
  have hn := ha.n
  obtain ⟨err, found, va, ps⟩ := a
  simp only at hva hn hc1
  unfold maxLen at hc2
  clear hcell hE ha
  obtain ⟨N, hN⟩ : ∃ N, N = ps.length := ⟨_, rfl⟩
  rw [← hN] at hn hc1 ⊢
  have HN := Lib.hid hN
  clear hN
  unfold ansVV ansCells
  simp only
  cases found
  all_goals
    go_enter Tryz.func14, Tryz.ntmps14
    go_wp2_with fail
    refine (hex_any _ _ (by omega)).mono ?_
    rintro e w1 ⟨rfl, hb1⟩
    have HX : Hid (Below (w.heap.size + 1) (w.alloc (.cells #[.int .i64 err, .bool _, .string (bs va), .slice A N c] 25)) w1) := Lib.hid (by rw [World.size_alloc] at hb1; exact hb1)
    have c3 : w1.cell? ⟨w.heap.size, 3, none⟩ = some (.slice A N c) := by rw [hb1.cell (by simp)]; exact Lib.cell_of_heap (heap_alloc_new w _) 3
    have a3 : ∀ o, (w1.alloc o).cell? ⟨w.heap.size, 3, none⟩ = some (.slice A N c) := fun o => by rw [(below_new w1 o).cell (p := ⟨w.heap.size, 3, none⟩) (World.block_lt_of_cell? w1 _ c3)]; exact c3
    have n3 : w1.heap.size ≠ w.heap.size := World.new_ne w1 _ c3
    have n3s : ¬ w.heap.size = w1.heap.size := fun h => n3 h.symm
    clear hb1
    go_wp2_with fail
    have HS0 : Hid (TSt w ⟨err, _, va, ps⟩ (.slice A N c) 0 (.slice (some ⟨w1.heap.size, 0, none⟩) 2 2) (w1.alloc (.cells #[.string (bs (found1 _)), .string (bs (hexF va))] 9))) := Lib.hid
      ⟨⟨rfl, .inr ⟨_, 2, _, rfl, by have := HX.out.size; simpa using this, heap_alloc_new _ _, Nat.le_refl _, by decide, rfl, rfl⟩⟩, HX.out.alloc (by have := HX.out.size; simpa using this) _⟩
    clear c3 a3 n3 n3s HX
    go_loopw [4, 17] (fun v i wr => ∃ k : Nat, k ≤ N ∧ i = .int .i64 k ∧ Hid (TSt w ⟨err, _, va, ps⟩ (.slice A N c) k v wr)) (fun _ i _ => N - (intOf i).toNat)
    case atStart => exact ⟨0, Nat.zero_le _, rfl, HS0⟩
    case round =>
      obtain ⟨k, hk, rfl, HS⟩ := hrel
      clear HS0
      rename_i wr
      by_cases hlt : k < N
      · obtain ⟨p, hp⟩ : ∃ p, ps[k]? = some p := ⟨_, List.getElem?_eq_getElem (by rw [← HN.out]; exact hlt)⟩
        obtain ⟨b, off, rfl, d0, d1⟩ := HC.out k p hp
        have d0 := kcell d0 HS.out.far
        have d1 := kcell d1 HS.out.far
        have hpl := HA.out.pairs p (List.mem_of_getElem? hp)
        have hp1 : p.1.length ≤ 1000000000 := by omega
        have hp2 : p.2.length ≤ 1000000000 := by omega
        have HP := Lib.hid hp
        clear hp hpl
        obtain ⟨px, py⟩ := p
        unfold strV at d0 d1
        simp only at d0 d1 hp1 hp2
        go_wp2_with fail
        have hsz := HS.out.size
        have HW := Lib.hid ((HS.out.step (below_new wr (.cells #[.string (bs px), .string (bs py)] 33))).drew)
        have hne : ∀ j, u4.ownBlock = some j → j ≠ wr.heap.size := HS.out.ne
        have e0 : (wr.alloc (.cells #[.string (bs px), .string (bs py)] 33)).drew.cell? ⟨wr.heap.size, 0, none⟩ = some (.string (bs px)) := Lib.cell_of_heap (heap_alloc_new wr _) 0
        have e1 : (wr.alloc (.cells #[.string (bs px), .string (bs py)] 33)).drew.cell? ⟨wr.heap.size, 1, none⟩ = some (.string (bs py)) := Lib.cell_of_heap (heap_alloc_new wr _) 1
        go_region_held3 (fun W => W.cell? ⟨wr.heap.size, 0, none⟩ = some (.string (bs px)) ∧ W.cell? ⟨wr.heap.size, 1, none⟩ = some (.string (bs py)))
          (first | exact ⟨e0, e1⟩ | exact keepc2 ⟨e0, e1⟩ hb | exact keepc2 (by assumption) hb | exact keepc2 (by assumption) (below_new _ _) | exact keepg2 (by assumption) hgrow hne hne)
          (first | (go_at_call 46; refine (hex_any _ _ (by assumption)).mono ?_; rintro e w3 ⟨rfl, hb⟩; have HW := Lib.hid (HW.out.step hb)) | (refine step_append_lies _ (by rfl) _ _ _ (by rfl) (w.heap.size + 1) 9 i0 _ 1 16 Tryz.underlying60 hi hz0 hz1 hz2 rfl (by omega) u4 (2 + 2 * k) _ (by rfl) (HW.out.own.alloc _) ⟨w3.heap.size, 0, none⟩ 2 2 [.string (bs (hexF px)), .string (bs (hexF py))] (by rfl) (by rfl) (World.news_of_block (cs := #[.string (bs (hexF px)), .string (bs (hexF py))]) (t := 9) (fr := (0, 0)) (heap_alloc_new w3 _)) (by simp [Value.oneCell']) (by omega) (by unfold maxLen; omega) (by omega) (by have := HW.out.size; simp; omega) (w3.heap.size + 1) (by simp) ?_; intro g cap w9 hown1 hgrow hat hlt9))
        have HS9 := Lib.hid ((HW.out).push HP.out hown1 hgrow)
        have hsz9 := HS9.out.size
        clear hown1 hgrow hat hlt9 hb HW hne e0 e1 HS
        go_wp2
        go_roundw
        case rel => exact ⟨k + 1, by omega, by go_num, HS9⟩
        case measure => simp [intOf]; omega
      · obtain rfl : k = N := by omega
        have c0 := HS.out.cell 0
        simp only [ansCells, List.getElem?_toArray, List.getElem?_cons_zero] at c0
        clear hlt hk
        go_wp2_with fail
        refine (itoa_any err _ HA.out.err (HE.out.below HS.out.far)).mono ?_
        rintro e w2 ⟨rfl, hb2⟩
        have HS2 := Lib.hid (HS.out.step hb2)
        clear hb2 c0 HS
        go_wp2_with fail
        refine (line_own (Lib.itoa err) (found1 _ :: hexF va :: pairWords ps) u4 (w.heap.size + 1) (2 + 2 * k) w2 ?o1 ?o2 (by simp) ?o3 Hln.out).mono ?_
        case o1 =>
          have := HS2.out.own
          simp only [HN.out, List.take_length] at this
          rw [HN.out]
          exact this
        case o2 => simp [pairWords_length, ← HN.out]; omega
        case o3 => simp [pairWords_length, ← HN.out]; omega
        rintro e w3 ⟨rfl, hk3⟩
        have HK3 := Lib.hid (hk3.below HS2.out.far HS2.out.far.size (fun j hj => by have := (HS2.out.own.lt j hj).1; omega))
        clear hk3
        go_wp2_with fail
        go_ret
        exact Ret.of rfl HK3.out
end Go.Proofs.YthhhdddojmkgnaaGreatDoor
