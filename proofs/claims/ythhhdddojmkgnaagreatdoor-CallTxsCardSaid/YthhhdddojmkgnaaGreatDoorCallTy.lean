/-
  The law CallTxs walked.
-/
import Derived.Test.YthhhdddojmkgnaaGreatDoorCallTxs
namespace Go.Proofs.YthhhdddojmkgnaaGreatDoor
open Go.RowKit

theorem take_next {l : List Int} {k : Nat} (h : k < l.length) : l.take (k + 1) = l.take k ++ [l.getD k 0] := by
  rw [List.take_succ_eq_append_getElem h, List.getD_eq_getElem?_getD, List.getElem?_eq_getElem h]; rfl

/-- Ints out of a slice among the arguments, appended to a row of one's own. -/
theorem wpList_append_ints {ops : Array Oper} {rest : List Oper} {o : Oper} {a : Act} {Q : Exit → Act → World → Prop} (hgd : o.guard = none) (s x : Operand)
    (ho : o.op = .call { callee := .builtin .append, args := #[s, x], argTypes := #[50, 50] })
    (w : World) (base : Nat) (v : Value) (k : Nat) (zs : List Int) (hs : a.eval s = v) (hown : w.ownsRow base 3 1 v k (zs.map (Value.int .i64)))
    (A : Option Addr) (n c : Nat) (xs : List Int) (hx : a.eval x = .slice A n c) (hI : IntsAt w A n c xs) (hk : k + n ≤ 100000) (hbase : base ≤ w.heap.size)
    (h : ∀ v' w', w'.ownsRow base 3 1 v' (k + n) ((zs ++ xs).map (Value.int .i64)) → w.grownBy w' v.ownBlock → (v'.ownBlock = v.ownBlock ∨ v'.ownBlock = some w.heap.size) → wpList Tryz.prog ops Q rest (a.put o.dst v') w') : wpList Tryz.prog ops Q (o :: rest) a w := by
  obtain ⟨i0, hi, hz0, hz1, hz2⟩ := info_parts infoInt
  have hrun : ∃ v' w', (Builtin.append_ #[50, 50] o.type #[v, .slice A n c]).run Tryz.prog w = .ok v' w' ∧ w'.ownsRow base 3 1 v' (k + n) ((zs ++ xs).map (Value.int .i64)) ∧ w.grownBy w' v.ownBlock ∧ (v'.ownBlock = v.ownBlock ∨ v'.ownBlock = some w.heap.size) := by
    cases A with
    | none =>
      obtain ⟨rfl, rfl⟩ := hI.2.2.1 rfl
      have hxs : xs = [] := List.eq_nil_of_length_eq_zero hI.1
      subst hxs
      refine ⟨v, w, ?_, by simpa using hown, ⟨rfl, rfl, rfl, Nat.le_refl _, fun _ _ _ => rfl⟩, .inl rfl⟩
      have hsrc : Src Tryz.prog i0.size 50 (.slice none 0 0) 0 [] w := Src.ofNil w Tryz.underlying50 0
      rcases hown.2 with ⟨rfl, _⟩ | ⟨g, cap, cur, rfl, _, _, hn, _⟩
      · exact run_append_nothing w _ _ _ _ i0 Tryz.underlying50 hi none 0 0 (Nat.le_refl _) _ hsrc
      · exact run_append_nothing w _ _ _ _ i0 Tryz.underlying50 hi _ _ _ hn _ hsrc
    | some ad =>
      obtain ⟨v', w', hr, h2, h3, _, h5⟩ := run_append_own_at (P := Tryz.prog) w base 50 o.type 3 i0 (.int .i64 0) 1 8 Tryz.underlying50 hi hz0 hz1 hz2 rfl (by decide) v k _ hown ad n c (xs.map (Value.int .i64)) (by rw [List.length_map, hI.1]; omega) (fun j u hu => by
        rw [List.getElem?_map] at hu
        rcases hj : xs[j]? with _ | z
        · rw [hj] at hu; cases hu
        · rw [hj] at hu
          have hjl := (List.getElem?_eq_some_iff.1 hj).1
          have := hI.2.2.2 ad rfl j (by rw [← hI.1]; exact hjl)
          rw [this, List.getD_eq_getElem?_getD, hj]
          simpa using hu) (fun u hu => by
        obtain ⟨z, _, rfl⟩ := List.mem_map.1 hu
        rfl) (by unfold maxLen; omega) (by omega) hbase
      exact ⟨v', w', hr, by rw [List.map_append]; exact h2, h3, h5⟩
  obtain ⟨v', w', hr, h2, h3, h4⟩ := hrun
  refine wpList_plain hgd fun K hK => ?_
  unfold Oper.wp execOp
  simp only [ho, resolve, invoke, builtin, Sem.run_bind, Sem.run_pure, Result.andThen_ok, List.map_toArray, List.map_cons, List.map_nil, hs, hx, hr]
  exact hK _ _ (h v' w' h2 h3 h4)

/-- A row of one's own, as a list of ints. -/
theorem ints_of_row {w : World} {base n : Nat} {v : Value} {zs : List Int} (h : w.ownsRow base 3 1 v n (zs.map (Value.int .i64))) : ∃ A c, v = .slice A n c ∧ IntsAt w A n c zs := by
  have hlen : zs.length = n := by have := h.1; rw [List.length_map] at this; omega
  rcases h.2 with ⟨rfl, h0⟩ | ⟨g, cap, cur, rfl, _, hh, hn, _, hs, ht⟩
  · exact ⟨none, 0, by rw [h0], hlen, by omega, fun _ => ⟨h0, rfl⟩, fun ad ha => by cases ha⟩
  · refine ⟨_, cap, rfl, hlen, hn, (fun ha => by cases ha), fun ad ha i hi => ?_⟩
    cases ha
    exact h.cells (g := g) rfl i (.int .i64 (zs.getD i 0)) (by rw [List.getElem?_map, List.getElem?_eq_getElem (by omega), List.getD_eq_getElem?_getD, List.getElem?_eq_getElem (by omega)]; rfl)

/-- What is added to the one while the other gets it as it is. -/
def upI (z : Int) : Int := wrap64 (z + 1)
theorem up_low {l more : List Int} {q : Nat} (h : q < l.length) : (l ++ more.map upI).getD q 0 = (l ++ more).getD q 0 := by
  simp [List.getD_eq_getElem?_getD, List.getElem?_append_left h]
theorem up_high {l more : List Int} {q : Nat} (h : l.length ≤ q) (h2 : q < (l ++ more).length) : (l ++ more.map upI).getD q 0 = wrap64 ((l ++ more).getD q 0 + 1) := by
  rw [List.length_append] at h2
  have h3 : q - l.length < more.length := by omega
  simp [List.getD_eq_getElem?_getD, List.getElem?_append_right h, List.getElem?_eq_getElem h3, upI]

set_option maxRecDepth 100000 in
set_option maxHeartbeats 4000000 in
theorem txs_long (A1 A2 : Option Addr) (n1 c1 n2 c2 : Nat) (n : Int) (w : World) (hE : Env w) (hn : 300 < n1 ∨ 300 < n2) :
    Calls Tryz.prog 6 #[.slice A1 n1 c1, .slice A2 n2 c2, .int .i64 n] w (Ret w (.bool true)) := by
  have HE := Lib.hid hE
  clear hE
  by_cases h1 : 300 < n1
  · clear hn
    go_enter Tryz.func6, Tryz.ntmps6
    go_wp2_with fail
    refine (works_any _ HE.out).mono ?_
    rintro e w1 ⟨rfl, hb1⟩
    have HB := Lib.hid hb1
    clear hb1
    go_wp2_with fail
    refine (works_any _ (HE.out.below HB.out)).mono ?_
    rintro e w2 ⟨rfl, hb2⟩
    go_wp2_with fail
    go_ret
    exact Ret.of rfl (HB.out.trans (hb2.mono HB.out.size))
  · have h2 : 300 < n2 := by omega
    clear hn
    go_enter Tryz.func6, Tryz.ntmps6
    go_wp2_with fail
    refine (works_any _ HE.out).mono ?_
    rintro e w1 ⟨rfl, hb1⟩
    have HB := Lib.hid hb1
    clear hb1
    go_wp2_with fail
    refine (works_any _ (HE.out.below HB.out)).mono ?_
    rintro e w2 ⟨rfl, hb2⟩
    go_wp2_with fail
    go_ret
    exact Ret.of rfl (HB.out.trans (hb2.mono HB.out.size))

set_option maxRecDepth 100000 in
set_option maxHeartbeats 16000000 in
theorem txs_main (A1 A2 : Option Addr) (n1 c1 n2 c2 : Nat) (n : Int) (l more : List Int) (w : World) (hE : Env w) (hn1 : n1 ≤ 300) (hn2 : n2 ≤ 300)
    (hl : IntsAt w A1 n1 c1 l) (hm : IntsAt w A2 n2 c2 more) :
    Calls Tryz.prog 6 #[.slice A1 n1 c1, .slice A2 n2 c2, .int .i64 n] w (Ret w (.bool true)) := by
  have HE := Lib.hid hE
  have HL := Lib.hid hl
  have HM := Lib.hid hm
  clear hE hl hm
  go_enter Tryz.func6, Tryz.ntmps6
  go_wp2_with fail
  refine (works_any _ HE.out).mono ?_
  rintro e w1 ⟨rfl, hb1⟩
  have HB := Lib.hid hb1
  clear hb1
  go_wp2_with fail
  refine (add_nil _ _).mono ?_
  rintro e w2 ⟨rfl, rfl⟩
  go_wp2_with fail
  refine (of_nil _).mono ?_
  rintro e w3 ⟨rfl, rfl⟩
  go_wp2_with fail
  refine (len_nil _).mono ?_
  rintro e w4 ⟨rfl, rfl⟩
  go_wp2_with fail
  refine (copy_nil _).mono ?_
  rintro e w5 ⟨rfl, rfl⟩
  go_wp2_with fail
  have hS : St1 w w5.heap.size [] (w5.alloc (.cells #[.slice none 0 0] 58)) := ⟨⟨none, ⟨_, Blk.new _ _ _, World.ownsRow_nil _ _ _ _, rfl⟩, fun g hg => by cases hg⟩, HB.out.alloc HB.out.size _⟩
  have hbt : w.heap.size ≤ w5.heap.size := HB.out.size
  generalize (w5.alloc (.cells _ _)) = W0 at *
  generalize w5.heap.size = bt at *
  have HS := Lib.hid hS
  clear hS HB
  go_loopw [11] (fun i wr => ∃ k : Nat, k ≤ n1 ∧ i = .int .i64 k ∧ Hid (St1 w bt (l.take k) wr)) (fun i _ => n1 - (intOf i).toNat)
  case atStart => exact ⟨0, Nat.zero_le _, rfl, HS⟩
  case round =>
    obtain ⟨k, hk, rfl, HSr⟩ := hrel
    clear HS
    by_cases hlt : k < n1
    · obtain ⟨ad, rfl, hcell⟩ := (HL.out.below HSr.out.2).get hlt
      obtain ⟨y, hy⟩ : ∃ y, y = l.getD k 0 := ⟨_, rfl⟩
      rw [← hy] at hcell
      have Hy := Lib.hid hy
      clear hy
      go_wp2_with fail
      refine (HSr.out.add hbt (by rw [List.length_take]; omega) y).mono ?_
      rintro e w6 ⟨rfl, hS6⟩
      have HS6 := Lib.hid (show St1 w bt (l.take (k + 1)) w6 by rw [take_next (by rw [HL.out.1]; omega), ← Hy.out]; exact hS6)
      clear hS6
      go_wp2
      go_roundw
      case rel => exact ⟨k + 1, by omega, by go_num, HS6⟩
      case measure => simp [intOf]; omega
    · obtain rfl : k = n1 := by omega
      clear hlt hk
      have hll : l.take k = l := List.take_of_length_le (by rw [HL.out.1]; omega)
      rw [hll] at HSr
      clear hll
      go_wp2_with fail
      refine (HSr.out.copy (by rw [HL.out.1]; omega)).mono ?_
      rintro e w7 ⟨bc, rfl, hbc, hne, hS7⟩
      have HS7 := Lib.hid (show St2 w bt bc (l ++ (more.take 0).map upI) (l ++ more.take 0) w7 by simpa using hS7)
      clear hS7 HSr
      go_wp2_with fail
      go_loopw [13] (fun i wr => ∃ j : Nat, j ≤ n2 ∧ i = .int .i64 j ∧ Hid (St2 w bt bc (l ++ (more.take j).map upI) (l ++ more.take j) wr)) (fun i _ => n2 - (intOf i).toNat)
      case atStart => exact ⟨0, Nat.zero_le _, rfl, HS7⟩
      case round =>
        obtain ⟨j, hj, rfl, HSs⟩ := hrel
        clear HS7
        by_cases hlt : j < n2
        · obtain ⟨ad, rfl, hcell⟩ := (HM.out.below HSs.out.far).get hlt
          obtain ⟨y, hy⟩ : ∃ y, y = more.getD j 0 := ⟨_, rfl⟩
          rw [← hy] at hcell
          have Hy := Lib.hid hy
          have hlenL := HL.out.1
          have hlenM := HM.out.1
          clear hy
          go_wp2_with fail
          refine (HSs.out.addC hbc hne (by rw [List.length_append, List.length_take]; omega) y).mono ?_
          rintro e w8 ⟨rfl, hS8⟩
          have hcell8 := (HM.out.below hS8.far).at hlt
          rw [← Hy.out] at hcell8
          have HS8 := Lib.hid hS8
          clear hS8 hcell
          go_wp2_with fail
          refine (HS8.out.addT hbt hne (by rw [List.length_append, List.length_map, List.length_take]; omega) (upI y)).mono ?_
          rintro e w9 ⟨rfl, hS9⟩
          have HS9 := Lib.hid (show St2 w bt bc (l ++ (more.take (j + 1)).map upI) (l ++ more.take (j + 1)) w9 by
            rw [take_next (by rw [hlenM]; omega), ← Hy.out, List.map_append, ← List.append_assoc, ← List.append_assoc]; exact hS9)
          clear hS9
          go_wp2
          go_roundw
          case rel => exact ⟨j + 1, by omega, by go_num, HS9⟩
          case measure => simp [intOf]; omega
        · obtain rfl : j = n2 := by omega
          clear hlt hj
          have hll : more.take j = more := List.take_of_length_le (by rw [HM.out.1]; omega)
          rw [hll] at HSs
          clear hll
          have HSn := Lib.hid (HSs.out.below (below_new wr (.cells #[] 3)))
          have HLn := Lib.hid (HL.out.below (HSn.out.far))
          have HMn := Lib.hid (HM.out.below (HSn.out.far))
          have HO := Lib.hid (show (wr.alloc (.cells #[] 3)).ownsRow wr.heap.size 3 1 (.slice (some ⟨wr.heap.size, 0, none⟩) 0 0) 0 (([] : List Int).map (Value.int .i64)) from
            ⟨rfl, .inr ⟨_, 0, #[], rfl, Nat.le_refl _, heap_alloc_new _ _, Nat.le_refl _, Nat.zero_le _, rfl, rfl⟩⟩)
          go_wp2_with (at_builtin; go_loud (refine wpList_append_ints rfl _ _ rfl _ wr.heap.size _ _ [] ?e1 HO.out _ _ _ _ ?e2 HLn.out ?e3 ?e4 ?_))
          case e1 => rfl
          case e2 => rfl
          case e3 => omega
          case e4 => simp
          intro v1 w10 ho1 hg1 hb1
          have B10 : Below wr.heap.size wr w10 := ⟨hg1.os, hg1.tape, hg1.output, by have := hg1.size; simp at this; omega, fun q hq => by
            rw [hg1.block q (by simp; omega) (by simp [Value.ownBlock]; omega), Lib.alloc_old wr _ q hq]⟩
          have hb1' : ∀ g, v1.ownBlock = some g → wr.heap.size ≤ g := fun g hg => by
            rcases hb1 with h | h <;> rw [hg] at h <;> simp [Value.ownBlock] at h <;> omega
          have HS10 := Lib.hid (HSs.out.below B10)
          have HM10 := Lib.hid (HM.out.below HS10.out.far)
          have HO1 := Lib.hid ho1
          have HB10 := Lib.hid B10
          have Hb1 := Lib.hid hb1'
          clear ho1 hg1 hb1 hb1' B10 HO HMn HLn HSn
          have hs10 := HB10.out.size
          go_wp2_with (at_builtin; go_loud (refine wpList_append_ints rfl _ _ rfl _ wr.heap.size _ _ l ?e1 HO1.out _ _ _ _ ?e2 HM10.out ?e3 ?e4 ?_))
          case e1 => rfl
          case e2 => rfl
          case e3 => omega
          case e4 => exact hs10
          intro v2 w11 ho2 hg2 hb2
          have B11 : Below wr.heap.size wr w11 := ⟨hg2.os.trans HB10.out.os, hg2.tape.trans HB10.out.tape, hg2.output.trans HB10.out.output, Nat.le_trans hs10 hg2.size, fun q hq => by
            rw [hg2.block q (by omega) (fun e => by have := Hb1.out q e.symm; omega), HB10.out.block q hq]⟩
          rw [← List.map_append] at ho2
          obtain ⟨A3, c3, rfl, hI3⟩ := ints_of_row ho2
          have HS := Lib.hid (HSs.out.below B11)
          have HA := Lib.hid hI3
          have hlenA : (l ++ more.map upI).length = k + j := by rw [List.length_append, List.length_map, HL.out.1, HM.out.1]
          have hlenB : (l ++ more).length = k + j := by rw [List.length_append, HL.out.1, HM.out.1]
          clear ho2 hg2 hb2 B11 hI3 HS10 HM10 HO1 HB10 Hb1 hs10 HSs
          obtain ⟨N, hN⟩ : ∃ N, N = k + j := ⟨_, rfl⟩
          rw [← hN] at hlenA hlenB HA ⊢
          have hN6 : N ≤ 600 := by omega
          have hl1 := HS.out.len1
          have hl2 := HS.out.len2
          rw [hlenA] at hl1
          rw [hlenB] at hl2
          have HL1 := Lib.hid hl1
          have HL2 := Lib.hid hl2
          have HlA := Lib.hid hlenA
          have HlB := Lib.hid hlenB
          clear hl1 hl2 hlenA hlenB
          go_wp2_with fail
          refine HL1.out.mono ?_
          rintro e w12 ⟨rfl, rfl⟩
          go_wp2_with fail
          refine HL2.out.mono ?_
          rintro e w13 ⟨rfl, rfl⟩
          clear HL1 HL2
          go_wp2_with fail
          go_loopw [15] (fun i wr => ∃ q : Nat, q ≤ N ∧ i = .int .i64 q ∧ wr = w13) (fun i _ => N - (intOf i).toNat)
          case atStart => exact ⟨0, Nat.zero_le _, rfl, rfl⟩
          case round =>
            obtain ⟨q, hq, rfl, rfl⟩ := hrel
            by_cases hlt : q < N
            · obtain ⟨ad, rfl, hcell⟩ := HA.out.get hlt
              have hof1 := HS.out.of1 q (by rw [HlA.out]; exact hlt) (by rw [HlA.out]; omega)
              have hof2 := HS.out.of2 q (by rw [HlB.out]; exact hlt) (by rw [HlB.out]; omega)
              have hlow : q < k → (l ++ more.map upI).getD q 0 = (l ++ more).getD q 0 := fun h => up_low (by rw [HL.out.1]; exact h)
              have hhigh : ¬ q < k → (l ++ more.map upI).getD q 0 = wrap64 ((l ++ more).getD q 0 + 1) := fun h => up_high (by rw [HL.out.1]; omega) (by rw [HlB.out]; exact hlt)
              generalize (l ++ more).getD q 0 = y at *
              generalize (l ++ more.map upI).getD q 0 = z at *
              have H1 := Lib.hid hof1
              have H2 := Lib.hid hof2
              clear hof1 hof2
              by_cases hqk : q < k
              · obtain rfl := hlow hqk
                clear hlow hhigh
                go_wp2_with fail
                refine H2.out.mono ?_
                rintro e w14 ⟨rfl, rfl⟩
                go_wp2_with fail
                refine H1.out.mono ?_
                rintro e w15 ⟨rfl, rfl⟩
                go_wp2
                go_roundw
                case rel => exact ⟨q + 1, by omega, by go_num, trivial⟩
                case measure => simp [intOf]; omega
              · obtain rfl := hhigh hqk
                clear hlow hhigh
                go_wp2_with fail
                refine H2.out.mono ?_
                rintro e w14 ⟨rfl, rfl⟩
                go_wp2_with fail
                refine H1.out.mono ?_
                rintro e w15 ⟨rfl, rfl⟩
                go_wp2
                go_roundw
                case rel => exact ⟨q + 1, by omega, by go_num, trivial⟩
                case measure => simp [intOf]; omega
            · obtain rfl : q = N := by omega
              clear hlt hq
              by_cases hn1' : n < 1
              · go_wp2_with fail
                refine (of_low bt n _ hn1').mono ?_
                rintro e w14 ⟨rfl, rfl⟩
                go_wp2_with fail
                go_ret
                exact Ret.of rfl HS.out.far
              · by_cases hnN : n ≤ (q : Int)
                · obtain ⟨m, rfl⟩ : ∃ m : Nat, n = (m : Int) + 1 := ⟨(n - 1).toNat, by omega⟩
                  go_wp2_with fail
                  refine (HS.out.of1 m (by rw [HlA.out]; omega) (by rw [HlA.out]; omega)).mono ?_
                  rintro e w14 ⟨rfl, rfl⟩
                  go_wp2_with fail
                  go_ret
                  exact Ret.of rfl HS.out.far
                · go_wp2_with fail
                  refine (HS.out.high1 n (by omega) (by rw [HlA.out]; omega)).mono ?_
                  rintro e w14 ⟨rfl, rfl⟩
                  go_wp2_with fail
                  go_ret
                  rw [show decide (n ≤ (k : Int) + (j : Int)) = false from decide_eq_false (by omega)]
                  exact Ret.of rfl HS.out.far

theorem txs_any (A1 A2 : Option Addr) (n1 c1 n2 c2 : Nat) (n : Int) (l more : List Int) (w : World) (hE : Env w) (hl : IntsAt w A1 n1 c1 l) (hm : IntsAt w A2 n2 c2 more) :
    Calls Tryz.prog 6 #[.slice A1 n1 c1, .slice A2 n2 c2, .int .i64 n] w (Ret w (.bool true)) := by
  by_cases h : 300 < n1 ∨ 300 < n2
  · exact txs_long A1 A2 n1 c1 n2 c2 n w hE h
  · exact txs_main A1 A2 n1 c1 n2 c2 n l more w hE (by omega) (by omega) hl hm
end Go.Proofs.YthhhdddojmkgnaaGreatDoor
