/-
  The law CallWords, walked: no proper beginning of words is a call's text, nor one with a blank, or a word, too many.
-/
import Derived.Test.YthhhdddojmkgnaaDoorCallX
import Derived.Test.YthhhdddojmkgnaaDoorCallG
import Derived.Test.YthhhdddojmkgnaaDoorCallC
import Derived.Test.YthhhdddojmkgnaaDoorCallJ
import Derived.Test.YthhhdddojmkgnaaDoorCallI
namespace Go.Proofs.YthhhdddojmkgnaaDoor
open Go.RowKit

theorem show_length {x : CallR} (ht : IsInt x.tx) (hl : IsInt x.lim) (h1 : x.key.length ≤ 9000 ∧ x.en.length ≤ 9000 ∧ x.va.length ≤ 9000) : (showF x).length ≤ 100000 := by
  cases hm : mayF x with
  | false => rw [showF, hm]; simp
  | true =>
    rw [showF, if_pos hm]
    have hk := mayF_kind hm
    have hw : ∀ y ∈ callWords x, y.length ≤ 18001 := by
      have b0 : (wordF x.kind).length ≤ 18001 := by
        have : ∀ i : Fin 10, (wordF i.val).length ≤ 18001 := by decide
        exact this ⟨x.kind, by omega⟩
      have b1 := itoaLen x.tx ht
      have b2 := hexF_length x.key
      have b3 := hexF_length x.va
      have b4 := hexF_length x.en
      have b5 := itoaLen x.lim hl
      have b6 : x.kind = 9 → (Lib.itoa (x.eng : Int)).length ≤ 21 := fun e => itoaLen _ (by unfold IsInt; have := hk.2.2 e; omega)
      unfold callWords
      split
      · intro y hy; simp only [List.mem_cons, List.not_mem_nil, or_false] at hy; rcases hy with rfl | rfl | rfl <;> omega
      · split
        · intro y hy; simp only [List.mem_cons, List.not_mem_nil, or_false] at hy; rcases hy with rfl | rfl | rfl | rfl <;> omega
        · split
          · intro y hy; simp only [List.mem_cons, List.not_mem_nil, or_false] at hy; rcases hy with rfl | rfl | rfl | rfl | rfl <;> omega
          · split
            · rename_i h9
              have := b6 h9
              intro y hy; simp only [List.mem_cons, List.not_mem_nil, or_false] at hy; rcases hy with rfl | rfl <;> omega
            · split
              · intro y hy; simp only [List.mem_cons, List.not_mem_nil, or_false] at hy; rcases hy with rfl | rfl <;> omega
              · intro y hy; simp only [List.mem_cons, List.not_mem_nil, or_false] at hy; subst hy; omega
    have hj := join_length_le (callWords x) 18001 hw
    have hn := callWords_len x
    have : arityF x.kind ≤ 5 := by unfold arityF; repeat' split
                                   all_goals omega
    have : (callWords x).length * 18002 ≤ 5 * 18002 := Nat.mul_le_mul_right _ (by omega)
    omega

theorem bs_get (s : Bs) (k : Nat) (h : k < s.length) (h' : k < (bs s).size) : (bs s)[k]'h' = s[k] := by
  simp [bs, ByteArray.getElem_eq_getElem_data]
  rfl
theorem byte32 {c : UInt8} (h : c = 32) : ((c.toNat : Int) == 32) = true := by subst h; rfl
theorem byteN32 {c : UInt8} (h : ¬ c = 32) : ((c.toNat : Int) == 32) = false := by
  rw [beq_eq_false_iff_ne]
  intro e
  apply h
  apply UInt8.toNat_inj.1
  have : c.toNat = 32 := by omega
  rw [this]; rfl
theorem bs_app (a b : Bs) : bs a ++ bs b = bs (a ++ b) := by
  apply ByteArray.ext
  simp [bs, ByteArray.data_append]
theorem four_ne : ((4 : Int) != 4) = false := rfl

theorem at_nat (a : Int) (n : Nat) (hn : n ≤ 1000000) : ∃ j : Nat, j ≤ n ∧ wrap64 ((IntKind.u64.wrap a).tmod ((n : Int) + 1)) = (j : Int) := by
  have hb : 0 ≤ IntKind.u64.wrap a := by simp [IntKind.wrap, IntKind.signed, IntKind.bits]; omega
  have h1 : (IntKind.u64.wrap a).tmod ((n : Int) + 1) = IntKind.u64.wrap a % ((n : Int) + 1) := Int.tmod_eq_emod_of_nonneg hb
  have h2 := Int.emod_nonneg (IntKind.u64.wrap a) (show ((n : Int) + 1) ≠ 0 by omega)
  have h3 := Int.emod_lt_of_pos (IntKind.u64.wrap a) (show 0 < ((n : Int) + 1) by omega)
  rw [h1]
  refine ⟨(IntKind.u64.wrap a % ((n : Int) + 1)).toNat, by omega, ?_⟩
  unfold wrap64
  omega

theorem longP {x : CallR} (h : ¬ 9000 ≤ longN x) : x.key.length ≤ 9000 ∧ x.en.length ≤ 9000 ∧ x.va.length ≤ 9000 := by
  unfold longN at h; omega

set_option maxHeartbeats 4000000 in
theorem words_long (x : CallR) (at' : Int) (word : Bs) (w : World) (hE : Env w) (hL : 9000 ≤ longN x) :
    Calls Tryd.prog 3 #[callV x, .int .i64 at', .string (bs word)] w (Ret w (.bool true)) := by
  have hdL : decide (9000 ≤ longN x) = true := decide_eq_true hL
  have HD := Lib.hid hdL
  have HE := Lib.hid hE
  clear hdL hE hL
  go_enter Tryd.func3, Tryd.ntmps3
  unfold callV callCells
  go_wp2_with fail
  have hB := below_new w (.cells (callCells x) 23)
  have h3 := Blk.new w (callCells x) 23
  unfold callCells at hB h3
  generalize (w.alloc (.cells _ _)) = W0 at *
  have HB := Lib.hid hB
  have H3 := Lib.hid h3
  clear hB h3
  refine (works_any _ (HE.out.below HB.out)).mono ?_
  rintro e w1 ⟨rfl, hb1⟩
  have HB := Lib.hid (HB.out.trans (hb1.mono HB.out.size))
  have B3 := H3.out.below hb1
  have hs1 := HB.out.size
  clear hb1 H3
  have c0 := B3.cell 0
  have c1 := B3.cell 1
  have c2 := B3.cell 2
  have c3 := B3.cell 3
  have c4 := B3.cell 4
  have c5 := B3.cell 5
  have c6 := B3.cell 6
  clear B3
  simp only [List.getElem?_toArray, List.getElem?_cons_zero, List.getElem?_cons_succ] at c0 c1 c2 c3 c4 c5 c6
  go_wp2_with fail
  refine (long_one x _ _ (Lib.cell_of_heap (heap_alloc_new _ _) 2) (Lib.cell_of_heap (heap_alloc_new _ _) 3) (Lib.cell_of_heap (heap_alloc_new _ _) 4)).mono ?_
  rw [HD.out]
  rintro e w2 ⟨rfl, hb2⟩
  have HB := hnew HB (by omega) hb2
  clear hb2 c0 c1 c2 c3 c4 c5 c6
  go_wp2_with fail
  refine (works_any _ (HE.out.below HB.out)).mono ?_
  rintro e w3 ⟨rfl, hb3⟩
  go_wp2_with fail
  go_ret
  exact Ret.of rfl (HB.out.trans (hb3.mono HB.out.size))

set_option maxHeartbeats 4000000 in
theorem words_wide (x : CallR) (at' : Int) (word : Bs) (w : World) (hE : Env w) (hL : ¬ 9000 ≤ longN x) (hw : 3000 < word.length) :
    Calls Tryd.prog 3 #[callV x, .int .i64 at', .string (bs word)] w (Ret w (.bool true)) := by
  have hdL : decide (9000 ≤ longN x) = false := decide_eq_false hL
  have HD := Lib.hid hdL
  have HE := Lib.hid hE
  clear hdL hE hL
  go_enter Tryd.func3, Tryd.ntmps3
  unfold callV callCells
  go_wp2_with fail
  have hB := below_new w (.cells (callCells x) 23)
  have h3 := Blk.new w (callCells x) 23
  unfold callCells at hB h3
  generalize (w.alloc (.cells _ _)) = W0 at *
  have HB := Lib.hid hB
  have H3 := Lib.hid h3
  clear hB h3
  refine (works_any _ (HE.out.below HB.out)).mono ?_
  rintro e w1 ⟨rfl, hb1⟩
  have HB := Lib.hid (HB.out.trans (hb1.mono HB.out.size))
  have B3 := H3.out.below hb1
  have hs1 := HB.out.size
  clear hb1 H3
  have c0 := B3.cell 0
  have c1 := B3.cell 1
  have c2 := B3.cell 2
  have c3 := B3.cell 3
  have c4 := B3.cell 4
  have c5 := B3.cell 5
  have c6 := B3.cell 6
  clear B3
  simp only [List.getElem?_toArray, List.getElem?_cons_zero, List.getElem?_cons_succ] at c0 c1 c2 c3 c4 c5 c6
  go_wp2_with fail
  refine (long_one x _ _ (Lib.cell_of_heap (heap_alloc_new _ _) 2) (Lib.cell_of_heap (heap_alloc_new _ _) 3) (Lib.cell_of_heap (heap_alloc_new _ _) 4)).mono ?_
  rw [HD.out]
  rintro e w2 ⟨rfl, hb2⟩
  have HB := hnew HB (by omega) hb2
  clear hb2 c0 c1 c2 c3 c4 c5 c6
  go_wp2_with fail
  refine (works_any _ (HE.out.below HB.out)).mono ?_
  rintro e w3 ⟨rfl, hb3⟩
  go_wp2_with fail
  go_ret
  exact Ret.of rfl (HB.out.trans (hb3.mono HB.out.size))

set_option maxHeartbeats 4000000 in
theorem words_none (x : CallR) (at' : Int) (word : Bs) (w : World) (hE : Env w) (ho : CallOk x) (hL : ¬ 9000 ≤ longN x) (hw : word.length ≤ 3000) (hm : mayF x = false) :
    Calls Tryd.prog 3 #[callV x, .int .i64 at', .string (bs word)] w (Ret w (.bool true)) := by
  have hdL : decide (9000 ≤ longN x) = false := decide_eq_false hL
  have HD := Lib.hid hdL
  have HE := Lib.hid hE
  have HM := Lib.hid hm
  clear hdL hE hL hm
  go_enter Tryd.func3, Tryd.ntmps3
  unfold callV callCells
  go_wp2_with fail
  have hB := below_new w (.cells (callCells x) 23)
  have h3 := Blk.new w (callCells x) 23
  unfold callCells at hB h3
  generalize (w.alloc (.cells _ _)) = W0 at *
  have HB := Lib.hid hB
  have H3 := Lib.hid h3
  clear hB h3
  refine (works_any _ (HE.out.below HB.out)).mono ?_
  rintro e w1 ⟨rfl, hb1⟩
  have HB := Lib.hid (HB.out.trans (hb1.mono HB.out.size))
  have B3 := H3.out.below hb1
  have hs1 := HB.out.size
  have H3 := hblk H3 hb1
  clear hb1
  have c0 := B3.cell 0
  have c1 := B3.cell 1
  have c2 := B3.cell 2
  have c3 := B3.cell 3
  have c4 := B3.cell 4
  have c5 := B3.cell 5
  have c6 := B3.cell 6
  clear B3
  simp only [List.getElem?_toArray, List.getElem?_cons_zero, List.getElem?_cons_succ] at c0 c1 c2 c3 c4 c5 c6
  go_wp2_with fail
  refine (long_one x _ _ (Lib.cell_of_heap (heap_alloc_new _ _) 2) (Lib.cell_of_heap (heap_alloc_new _ _) 3) (Lib.cell_of_heap (heap_alloc_new _ _) 4)).mono ?_
  rw [HD.out]
  rintro e w2 ⟨rfl, hb2⟩
  have HB := hnew HB (by omega) hb2
  have H3 := hblk (hblk H3 (below_new _ _)) hb2
  clear hb2 c0 c1 c2 c3 c4 c5 c6
  have c0 := H3.out.cell 0
  have c1 := H3.out.cell 1
  have c2 := H3.out.cell 2
  have c3 := H3.out.cell 3
  have c4 := H3.out.cell 4
  have c5 := H3.out.cell 5
  have c6 := H3.out.cell 6
  simp only [List.getElem?_toArray, List.getElem?_cons_zero, List.getElem?_cons_succ] at c0 c1 c2 c3 c4 c5 c6
  go_wp2_with fail
  have hsh := show_any x _ (HE.out.below HB.out) ho
  rw [showF, HM.out] at hsh
  refine hsh.mono ?_
  clear hsh c0 c1 c2 c3 c4 c5 c6
  rintro e w3 ⟨rfl, hb3⟩
  go_wp2_with fail
  go_ret
  exact Ret.of rfl (HB.out.trans (hb3.mono HB.out.size))

set_option maxHeartbeats 16000000 in
theorem words_main (x : CallR) (at' : Int) (word : Bs) (w : World) (hE : Env w) (ho : CallOk x) (hL : ¬ 9000 ≤ longN x) (hw : word.length ≤ 3000) (hm : mayF x = true) :
    Calls Tryd.prog 3 #[callV x, .int .i64 at', .string (bs word)] w (Ret w (.bool true)) := by
  have hdL : decide (9000 ≤ longN x) = false := decide_eq_false hL
  have hlen := show_length ho.tx ho.lim (longP hL)
  have hne : showF x ≠ [] := by
    intro e
    have := splitF_showF hm
    rw [e] at this
    have h2 := callWords_head x
    rw [← this] at h2
    have hk := mayF_kind hm
    exact wordF_ne x.kind hk.1 hk.2.1 h2.symm
  have HD := Lib.hid hdL
  have HE := Lib.hid hE
  have HM := Lib.hid hm
  clear hdL hE hL hm
  go_enter Tryd.func3, Tryd.ntmps3
  unfold callV callCells
  go_wp2_with fail
  have hB := below_new w (.cells (callCells x) 23)
  have h3 := Blk.new w (callCells x) 23
  unfold callCells at hB h3
  generalize (w.alloc (.cells _ _)) = W0 at *
  have HB := Lib.hid hB
  have H3 := Lib.hid h3
  clear hB h3
  refine (works_any _ (HE.out.below HB.out)).mono ?_
  rintro e w1 ⟨rfl, hb1⟩
  have HB := Lib.hid (HB.out.trans (hb1.mono HB.out.size))
  have B3 := H3.out.below hb1
  have hs1 := HB.out.size
  have H3 := hblk H3 hb1
  clear hb1
  have c0 := B3.cell 0
  have c1 := B3.cell 1
  have c2 := B3.cell 2
  have c3 := B3.cell 3
  have c4 := B3.cell 4
  have c5 := B3.cell 5
  have c6 := B3.cell 6
  clear B3
  simp only [List.getElem?_toArray, List.getElem?_cons_zero, List.getElem?_cons_succ] at c0 c1 c2 c3 c4 c5 c6
  go_wp2_with fail
  refine (long_one x _ _ (Lib.cell_of_heap (heap_alloc_new _ _) 2) (Lib.cell_of_heap (heap_alloc_new _ _) 3) (Lib.cell_of_heap (heap_alloc_new _ _) 4)).mono ?_
  rw [HD.out]
  rintro e w2 ⟨rfl, hb2⟩
  have HB := hnew HB (by omega) hb2
  have H3 := hblk (hblk H3 (below_new _ _)) hb2
  clear hb2 c0 c1 c2 c3 c4 c5 c6
  have c0 := H3.out.cell 0
  have c1 := H3.out.cell 1
  have c2 := H3.out.cell 2
  have c3 := H3.out.cell 3
  have c4 := H3.out.cell 4
  have c5 := H3.out.cell 5
  have c6 := H3.out.cell 6
  simp only [List.getElem?_toArray, List.getElem?_cons_zero, List.getElem?_cons_succ] at c0 c1 c2 c3 c4 c5 c6
  go_wp2_with fail
  refine (show_any x _ (HE.out.below HB.out) ho).mono ?_
  clear c0 c1 c2 c3 c4 c5 c6
  rintro e w3 ⟨rfl, hb3⟩
  have HB := hnext HB HB.out.size hb3
  clear hb3 H3
  obtain ⟨s, hs⟩ : ∃ s, s = showF x := ⟨_, rfl⟩
  rw [← hs] at hlen hne ⊢
  have HS := Lib.hid hs
  clear hs
  have hne1 : (s == []) = false := by simpa using hne
  have hne2 : s.isEmpty = false := by simpa using hne
  have Hne := Lib.hid hne
  clear hne
  go_wp2_with fail
  go_loopw [8] (fun i wr => ∃ k : Nat, k ≤ s.length ∧ i = .int .i64 k ∧ Hid (Below w.heap.size w wr)) (fun i _ => s.length - (intOf i).toNat)
  case atStart => exact ⟨0, Nat.zero_le _, rfl, HB⟩
  case round =>
    obtain ⟨k, hk, rfl, HBr⟩ := hrel
    clear HB
    by_cases hlt : k < s.length
    · by_cases h32 : s[k] = 32
      · have hg : s[k]? = some 32 := by rw [List.getElem?_eq_getElem hlt, h32]
        have hcut : parseF (s.take k) = none := by
          have := words_cut HM.out (i := k) (by rw [← HS.out]; exact hg)
          rwa [← HS.out] at this
        have Hcut := Lib.hid hcut
        have hbt : ((((bs s)[k]'(by rw [bs_size]; exact hlt)).toNat : Int) == 32) = true := by rw [bs_get s k hlt]; exact byte32 h32
        clear hcut hg h32
        go_wp2_with fail
        refine (parse_none (s.take k) _ (HE.out.below HBr.out) (by rw [List.length_take]; omega) Hcut.out).mono ?_
        rintro e w4 ⟨rfl, hb4⟩
        have HB4 := Lib.hid (((HBr.out.trans (hb4.mono HBr.out.size))).alloc (Nat.le_trans HBr.out.size hb4.size) (.cells (callCells noCall) 23))
        unfold callCells noCall at HB4
        clear hb4
        go_wp2
        go_roundw
        case rel => exact ⟨k + 1, by omega, by go_num, HB4⟩
        case measure => simp [intOf]; omega
      · have hbt : ((((bs s)[k]'(by rw [bs_size]; exact hlt)).toNat : Int) == 32) = false := by rw [bs_get s k hlt]; exact byteN32 h32
        clear h32
        go_wp2
        go_roundw
        case rel => exact ⟨k + 1, by omega, by go_num, HBr⟩
        case measure => simp [intOf]; omega
    · have hke : k = s.length := by omega
      clear hlt hk
      go_wp2_with fail
      rw [show ({ data := #[32] } : ByteArray) = bs [32] from rfl, bs_app, bs_app]
      have Hmore := Lib.hid (words_more HM.out word)
      rw [← HS.out] at Hmore
      refine (parse_none (s ++ [32] ++ word) _ (HE.out.below HBr.out) (by simp; omega) (by have := Hmore.out; simpa using this)).mono ?_
      rintro e w4 ⟨rfl, hb4⟩
      have HB4 := Lib.hid (((HBr.out.trans (hb4.mono HBr.out.size))).alloc (Nat.le_trans HBr.out.size hb4.size) (.cells (callCells noCall) 23))
      unfold callCells noCall at HB4
      clear hb4
      go_wp2_with fail
      obtain ⟨j, hj, ej⟩ := at_nat at' s.length (by omega)
      rw [ej]
      clear ej
      rw [show ({ data := #[32] } : ByteArray) = bs [32] from rfl, bs_app]
      refine (parse_none ([32] ++ s) _ (HE.out.below HB4.out) (by simp; omega) (words_ahead s)).mono ?_
      rintro e w5 ⟨rfl, hb5⟩
      have HB5 := Lib.hid (((HB4.out.trans (hb5.mono HB4.out.size))).alloc (Nat.le_trans HB4.out.size hb5.size) (.cells #[.int .u8 0, .int .i64 0, .string ⟨#[]⟩, .string ⟨#[]⟩, .string ⟨#[]⟩, .int .i64 0, .int .u8 0] 23))
      clear hb5 HB4 HBr Hmore
      have hpos : 0 < s.length := List.length_pos_iff.2 Hne.out
      rcases j with _ | m
      · by_cases h0 : s[0] = 32
        · have b0 : ((((bs s)[0]'(by rw [bs_size]; exact hpos)).toNat : Int) == 32) = true := by rw [bs_get s 0 hpos]; exact byte32 h0
          have hw0 : s[0]? = some 32 := by rw [List.getElem?_eq_getElem hpos, h0]
          have hno := Lib.hid (words_blank HM.out 0 (by rw [← HS.out]; exact (.inl hw0)))
          rw [← HS.out] at hno
          have HPC := Lib.hid (fun (W : World) (h : Env W) => (show Calls Tryd.prog 8 #[.string ({ data := #[32] } ++ bs s)] W _ from by
            rw [show ({ data := #[32] } : ByteArray) = bs [32] from rfl, bs_app]
            exact parse_none _ W h (by simp; omega) (by simpa using hno.out)))
          go_wp2_with fail
          generalize (w5.alloc (.cells #[.int .u8 0, .int .i64 0, .string ⟨#[]⟩, .string ⟨#[]⟩, .string ⟨#[]⟩, .int .i64 0, .int .u8 0] 23)) = W5 at HB5 ⊢
          go_region_with (first | (go_at_call 8; refine (HPC.out _ (HE.out.below HB5.out.drew)).mono ?_; rintro e w6 ⟨rfl, hb6⟩) | (go_at_call 8; refine (HPC.out _ (HE.out.below (HB5.out.alloc HB5.out.size _).drew)).mono ?_; rintro e w6 ⟨rfl, hb6⟩; have kb := (Blk.new W5 #[.int .u8 0, .int .i64 0, .string ⟨#[]⟩, .string ⟨#[]⟩, .string ⟨#[]⟩, .int .i64 0, .int .u8 0] 23).drew.below hb6; have z0 := kb.cell 0; have g0 := kb.free 0; have z1 := kb.cell 1; have g1 := kb.free 1; have z2 := kb.cell 2; have g2 := kb.free 2; have z3 := kb.cell 3; have g3 := kb.free 3; have z4 := kb.cell 4; have g4 := kb.free 4; have z5 := kb.cell 5; have g5 := kb.free 5; have z6 := kb.cell 6; have g6 := kb.free 6; simp only [List.getElem?_toArray, List.getElem?_cons_zero, List.getElem?_cons_succ] at z0 z1 z2 z3 z4 z5 z6))
          all_goals (go_wp2_with fail; go_ret; refine Ret.of rfl ?_; first | exact (HB5.out.drew.trans (hb6.mono HB5.out.size)).alloc (Nat.le_trans HB5.out.size hb6.size) _ | exact (((((((((HB5.out.alloc HB5.out.size _).drew.trans (hb6.mono (by have := HB5.out.size; show w.heap.size ≤ (W5.alloc _).heap.size; rw [World.size_alloc]; omega))).setCell (p := ⟨W5.heap.size, 0, none⟩) HB5.out.size _).setCell (p := ⟨W5.heap.size, 1, none⟩) HB5.out.size _).setCell (p := ⟨W5.heap.size, 2, none⟩) HB5.out.size _).setCell (p := ⟨W5.heap.size, 3, none⟩) HB5.out.size _).setCell (p := ⟨W5.heap.size, 4, none⟩) HB5.out.size _).setCell (p := ⟨W5.heap.size, 5, none⟩) HB5.out.size _).setCell (p := ⟨W5.heap.size, 6, none⟩) HB5.out.size _))
        · have b0 : ((((bs s)[0]'(by rw [bs_size]; exact hpos)).toNat : Int) == 32) = false := by rw [bs_get s 0 hpos]; exact byteN32 h0
          have hn0 : ((0 : Int) == (s.length : Int)) = false := by rw [beq_eq_false_iff_ne]; omega
          go_wp2
          go_ret
          exact Ret.of rfl HB5.out
      · by_cases hlt : m + 1 < s.length
        · by_cases h1 : s[m + 1] = 32
          · have b1 : ((((bs s)[m + 1]'(by rw [bs_size]; exact hlt)).toNat : Int) == 32) = true := by rw [bs_get s (m + 1) hlt]; exact byte32 h1
            have hw1 : s[m + 1]? = some 32 := by rw [List.getElem?_eq_getElem hlt, h1]
            have hno := Lib.hid (words_blank HM.out (m + 1) (by rw [← HS.out]; exact (.inl hw1)))
            rw [← HS.out] at hno
            have HPC := Lib.hid (fun (W : World) (h : Env W) => (show Calls Tryd.prog 8 #[.string (bs (List.take (m + 1) s) ++ { data := #[32] } ++ bs (List.drop (m + 1) s))] W _ from by
              rw [show ({ data := #[32] } : ByteArray) = bs [32] from rfl, bs_app, bs_app]
              exact parse_none _ W h (by simp; omega) (by simpa using hno.out)))
            go_wp2_with fail
            generalize (w5.alloc (.cells #[.int .u8 0, .int .i64 0, .string ⟨#[]⟩, .string ⟨#[]⟩, .string ⟨#[]⟩, .int .i64 0, .int .u8 0] 23)) = W5 at HB5 ⊢
            go_region_with (first | (go_at_call 8; refine (HPC.out _ (HE.out.below HB5.out.drew)).mono ?_; rintro e w6 ⟨rfl, hb6⟩) | (go_at_call 8; refine (HPC.out _ (HE.out.below (HB5.out.alloc HB5.out.size _).drew)).mono ?_; rintro e w6 ⟨rfl, hb6⟩; have kb := (Blk.new W5 #[.int .u8 0, .int .i64 0, .string ⟨#[]⟩, .string ⟨#[]⟩, .string ⟨#[]⟩, .int .i64 0, .int .u8 0] 23).drew.below hb6; have z0 := kb.cell 0; have g0 := kb.free 0; have z1 := kb.cell 1; have g1 := kb.free 1; have z2 := kb.cell 2; have g2 := kb.free 2; have z3 := kb.cell 3; have g3 := kb.free 3; have z4 := kb.cell 4; have g4 := kb.free 4; have z5 := kb.cell 5; have g5 := kb.free 5; have z6 := kb.cell 6; have g6 := kb.free 6; simp only [List.getElem?_toArray, List.getElem?_cons_zero, List.getElem?_cons_succ] at z0 z1 z2 z3 z4 z5 z6))
            all_goals (go_wp2_with fail; go_ret; refine Ret.of rfl ?_; first | exact (HB5.out.drew.trans (hb6.mono HB5.out.size)).alloc (Nat.le_trans HB5.out.size hb6.size) _ | exact (((((((((HB5.out.alloc HB5.out.size _).drew.trans (hb6.mono (by have := HB5.out.size; show w.heap.size ≤ (W5.alloc _).heap.size; rw [World.size_alloc]; omega))).setCell (p := ⟨W5.heap.size, 0, none⟩) HB5.out.size _).setCell (p := ⟨W5.heap.size, 1, none⟩) HB5.out.size _).setCell (p := ⟨W5.heap.size, 2, none⟩) HB5.out.size _).setCell (p := ⟨W5.heap.size, 3, none⟩) HB5.out.size _).setCell (p := ⟨W5.heap.size, 4, none⟩) HB5.out.size _).setCell (p := ⟨W5.heap.size, 5, none⟩) HB5.out.size _).setCell (p := ⟨W5.heap.size, 6, none⟩) HB5.out.size _))
          · have b1 : ((((bs s)[m + 1]'(by rw [bs_size]; exact hlt)).toNat : Int) == 32) = false := by rw [bs_get s (m + 1) hlt]; exact byteN32 h1
            by_cases h2 : s[m] = 32
            · have b2 : ((((bs s)[m]'(by rw [bs_size]; omega)).toNat : Int) == 32) = true := by rw [bs_get s m (by omega)]; exact byte32 h2
              have hw2 : s[m + 1 - 1]? = some 32 := by rw [Nat.add_sub_cancel, List.getElem?_eq_getElem (by omega), h2]
              have hno := Lib.hid (words_blank HM.out (m + 1) (by rw [← HS.out]; exact (.inr (.inl ⟨by omega, hw2⟩))))
              rw [← HS.out] at hno
              have HPC := Lib.hid (fun (W : World) (h : Env W) => (show Calls Tryd.prog 8 #[.string (bs (List.take (m + 1) s) ++ { data := #[32] } ++ bs (List.drop (m + 1) s))] W _ from by
                rw [show ({ data := #[32] } : ByteArray) = bs [32] from rfl, bs_app, bs_app]
                exact parse_none _ W h (by simp; omega) (by simpa using hno.out)))
              go_wp2_with fail
              generalize (w5.alloc (.cells #[.int .u8 0, .int .i64 0, .string ⟨#[]⟩, .string ⟨#[]⟩, .string ⟨#[]⟩, .int .i64 0, .int .u8 0] 23)) = W5 at HB5 ⊢
              go_region_with (first | (go_at_call 8; refine (HPC.out _ (HE.out.below HB5.out.drew)).mono ?_; rintro e w6 ⟨rfl, hb6⟩) | (go_at_call 8; refine (HPC.out _ (HE.out.below (HB5.out.alloc HB5.out.size _).drew)).mono ?_; rintro e w6 ⟨rfl, hb6⟩; have kb := (Blk.new W5 #[.int .u8 0, .int .i64 0, .string ⟨#[]⟩, .string ⟨#[]⟩, .string ⟨#[]⟩, .int .i64 0, .int .u8 0] 23).drew.below hb6; have z0 := kb.cell 0; have g0 := kb.free 0; have z1 := kb.cell 1; have g1 := kb.free 1; have z2 := kb.cell 2; have g2 := kb.free 2; have z3 := kb.cell 3; have g3 := kb.free 3; have z4 := kb.cell 4; have g4 := kb.free 4; have z5 := kb.cell 5; have g5 := kb.free 5; have z6 := kb.cell 6; have g6 := kb.free 6; simp only [List.getElem?_toArray, List.getElem?_cons_zero, List.getElem?_cons_succ] at z0 z1 z2 z3 z4 z5 z6))
              all_goals (go_wp2_with fail; go_ret; refine Ret.of rfl ?_; first | exact (HB5.out.drew.trans (hb6.mono HB5.out.size)).alloc (Nat.le_trans HB5.out.size hb6.size) _ | exact (((((((((HB5.out.alloc HB5.out.size _).drew.trans (hb6.mono (by have := HB5.out.size; show w.heap.size ≤ (W5.alloc _).heap.size; rw [World.size_alloc]; omega))).setCell (p := ⟨W5.heap.size, 0, none⟩) HB5.out.size _).setCell (p := ⟨W5.heap.size, 1, none⟩) HB5.out.size _).setCell (p := ⟨W5.heap.size, 2, none⟩) HB5.out.size _).setCell (p := ⟨W5.heap.size, 3, none⟩) HB5.out.size _).setCell (p := ⟨W5.heap.size, 4, none⟩) HB5.out.size _).setCell (p := ⟨W5.heap.size, 5, none⟩) HB5.out.size _).setCell (p := ⟨W5.heap.size, 6, none⟩) HB5.out.size _))
            · have b2 : ((((bs s)[m]'(by rw [bs_size]; omega)).toNat : Int) == 32) = false := by rw [bs_get s m (by omega)]; exact byteN32 h2
              have hn1 : (((m : Int) + 1) == (s.length : Int)) = false := by rw [beq_eq_false_iff_ne]; omega
              go_wp2
              go_ret
              exact Ret.of rfl HB5.out
        · have hm1 : m + 1 = s.length := by omega
          have Hm1 := Lib.hid hm1
          clear hm1
          have hge : (s.length : Int) ≤ (m : Int) + 1 := by omega
          have hmb : (m : Int) < (s.length : Int) := by have := Hm1.out; omega
          by_cases h2 : s[m]'(by have := Hm1.out; omega) = 32
          · have b2 : ((((bs s)[m]'(by rw [bs_size]; have := Hm1.out; omega)).toNat : Int) == 32) = true := by rw [bs_get s m (by have := Hm1.out; omega)]; exact byte32 h2
            have hw2 : s[m + 1 - 1]? = some 32 := by rw [Nat.add_sub_cancel, List.getElem?_eq_getElem (by have := Hm1.out; omega), h2]
            have hno := Lib.hid (words_blank HM.out (m + 1) (by rw [← HS.out]; exact (.inr (.inl ⟨by omega, hw2⟩))))
            rw [← HS.out] at hno
            have HPC := Lib.hid (fun (W : World) (h : Env W) => (show Calls Tryd.prog 8 #[.string (bs (List.take (m + 1) s) ++ { data := #[32] } ++ bs (List.drop (m + 1) s))] W _ from by
              rw [show ({ data := #[32] } : ByteArray) = bs [32] from rfl, bs_app, bs_app]
              exact parse_none _ W h (by simp; omega) (by simpa using hno.out)))
            go_wp2_with fail
            generalize (w5.alloc (.cells #[.int .u8 0, .int .i64 0, .string ⟨#[]⟩, .string ⟨#[]⟩, .string ⟨#[]⟩, .int .i64 0, .int .u8 0] 23)) = W5 at HB5 ⊢
            go_region_with (first | (go_at_call 8; refine (HPC.out _ (HE.out.below HB5.out.drew)).mono ?_; rintro e w6 ⟨rfl, hb6⟩) | (go_at_call 8; refine (HPC.out _ (HE.out.below (HB5.out.alloc HB5.out.size _).drew)).mono ?_; rintro e w6 ⟨rfl, hb6⟩; have kb := (Blk.new W5 #[.int .u8 0, .int .i64 0, .string ⟨#[]⟩, .string ⟨#[]⟩, .string ⟨#[]⟩, .int .i64 0, .int .u8 0] 23).drew.below hb6; have z0 := kb.cell 0; have g0 := kb.free 0; have z1 := kb.cell 1; have g1 := kb.free 1; have z2 := kb.cell 2; have g2 := kb.free 2; have z3 := kb.cell 3; have g3 := kb.free 3; have z4 := kb.cell 4; have g4 := kb.free 4; have z5 := kb.cell 5; have g5 := kb.free 5; have z6 := kb.cell 6; have g6 := kb.free 6; simp only [List.getElem?_toArray, List.getElem?_cons_zero, List.getElem?_cons_succ] at z0 z1 z2 z3 z4 z5 z6))
            all_goals (go_wp2_with fail; go_ret; refine Ret.of rfl ?_; first | exact (HB5.out.drew.trans (hb6.mono HB5.out.size)).alloc (Nat.le_trans HB5.out.size hb6.size) _ | exact (((((((((HB5.out.alloc HB5.out.size _).drew.trans (hb6.mono (by have := HB5.out.size; show w.heap.size ≤ (W5.alloc _).heap.size; rw [World.size_alloc]; omega))).setCell (p := ⟨W5.heap.size, 0, none⟩) HB5.out.size _).setCell (p := ⟨W5.heap.size, 1, none⟩) HB5.out.size _).setCell (p := ⟨W5.heap.size, 2, none⟩) HB5.out.size _).setCell (p := ⟨W5.heap.size, 3, none⟩) HB5.out.size _).setCell (p := ⟨W5.heap.size, 4, none⟩) HB5.out.size _).setCell (p := ⟨W5.heap.size, 5, none⟩) HB5.out.size _).setCell (p := ⟨W5.heap.size, 6, none⟩) HB5.out.size _))
          · have b2 : ((((bs s)[m]'(by rw [bs_size]; have := Hm1.out; omega)).toNat : Int) == 32) = false := by rw [bs_get s m (by have := Hm1.out; omega)]; exact byteN32 h2
            have hn1 : (((m : Int) + 1) == (s.length : Int)) = true := by rw [beq_iff_eq]; have := Hm1.out; omega
            have hno := Lib.hid (words_blank HM.out (m + 1) (by rw [← HS.out]; exact (.inr (.inr Hm1.out))))
            rw [← HS.out] at hno
            have HPC := Lib.hid (fun (W : World) (h : Env W) => (show Calls Tryd.prog 8 #[.string (bs (List.take (m + 1) s) ++ { data := #[32] } ++ bs (List.drop (m + 1) s))] W _ from by
              rw [show ({ data := #[32] } : ByteArray) = bs [32] from rfl, bs_app, bs_app]
              exact parse_none _ W h (by simp; omega) (by simpa using hno.out)))
            go_wp2_with fail
            generalize (w5.alloc (.cells #[.int .u8 0, .int .i64 0, .string ⟨#[]⟩, .string ⟨#[]⟩, .string ⟨#[]⟩, .int .i64 0, .int .u8 0] 23)) = W5 at HB5 ⊢
            go_region_with (first | (go_at_call 8; refine (HPC.out _ (HE.out.below HB5.out.drew)).mono ?_; rintro e w6 ⟨rfl, hb6⟩) | (go_at_call 8; refine (HPC.out _ (HE.out.below (HB5.out.alloc HB5.out.size _).drew)).mono ?_; rintro e w6 ⟨rfl, hb6⟩; have kb := (Blk.new W5 #[.int .u8 0, .int .i64 0, .string ⟨#[]⟩, .string ⟨#[]⟩, .string ⟨#[]⟩, .int .i64 0, .int .u8 0] 23).drew.below hb6; have z0 := kb.cell 0; have g0 := kb.free 0; have z1 := kb.cell 1; have g1 := kb.free 1; have z2 := kb.cell 2; have g2 := kb.free 2; have z3 := kb.cell 3; have g3 := kb.free 3; have z4 := kb.cell 4; have g4 := kb.free 4; have z5 := kb.cell 5; have g5 := kb.free 5; have z6 := kb.cell 6; have g6 := kb.free 6; simp only [List.getElem?_toArray, List.getElem?_cons_zero, List.getElem?_cons_succ] at z0 z1 z2 z3 z4 z5 z6))
            all_goals (go_wp2_with fail; go_ret; refine Ret.of rfl ?_; first | exact (HB5.out.drew.trans (hb6.mono HB5.out.size)).alloc (Nat.le_trans HB5.out.size hb6.size) _ | exact (((((((((HB5.out.alloc HB5.out.size _).drew.trans (hb6.mono (by have := HB5.out.size; show w.heap.size ≤ (W5.alloc _).heap.size; rw [World.size_alloc]; omega))).setCell (p := ⟨W5.heap.size, 0, none⟩) HB5.out.size _).setCell (p := ⟨W5.heap.size, 1, none⟩) HB5.out.size _).setCell (p := ⟨W5.heap.size, 2, none⟩) HB5.out.size _).setCell (p := ⟨W5.heap.size, 3, none⟩) HB5.out.size _).setCell (p := ⟨W5.heap.size, 4, none⟩) HB5.out.size _).setCell (p := ⟨W5.heap.size, 5, none⟩) HB5.out.size _).setCell (p := ⟨W5.heap.size, 6, none⟩) HB5.out.size _))

/-- The law CallWords. -/
theorem words_any (x : CallR) (at' : Int) (word : Bs) (w : World) (hE : Env w) (hx : CallIn x) :
    Calls Tryd.prog 3 #[callV x, .int .i64 at', .string (bs word)] w (Ret w (.bool true)) := by
  by_cases hL : 9000 ≤ longN x
  · exact words_long x at' word w hE hL
  · by_cases hw : word.length ≤ 3000
    · have hp := longP hL
      have ho : CallOk x := ⟨hx.tx, hx.lim, by omega, by omega, by omega⟩
      cases hm : mayF x with
      | false => exact words_none x at' word w hE ho hL hw hm
      | true => exact words_main x at' word w hE ho hL hw hm
    · exact words_wide x at' word w hE hL (by omega)
end Go.Proofs.YthhhdddojmkgnaaDoor
