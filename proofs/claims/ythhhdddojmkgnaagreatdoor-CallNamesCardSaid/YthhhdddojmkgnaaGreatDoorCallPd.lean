/-
  call.Read: the answer of any text.
-/
import Derived.Test.YthhhdddojmkgnaaGreatDoorCallPc
namespace Go.Proofs.YthhhdddojmkgnaaGreatDoor
open Go.RowKit

set_option maxRecDepth 100000 in
set_option maxHeartbeats 8000000 in
theorem read_any (s : Bs) (w : World) (hE : Env w) (hl : s.length ≤ 1000000000) :
    Calls Tryz.prog 11 #[.string (bs s)] w (ReadRet s w) := by
  obtain ⟨i0, hi, hz0, hz1, hz2⟩ := info_parts infoPair
  go_enter Tryz.func11, Tryz.ntmps11
  go_wp2_with fail
  refine (open_any s _ (hE.below ((Below.refl _ _).alloc (Nat.le_refl _) _)) (by omega)).mono ?_
  rintro e w1 ⟨r, rfl, hr, hR1, hB1⟩
  rw [World.size_alloc] at hr
  have hlens : ∀ x ∈ splitF s, x.length ≤ 1000000000 := fun x hx => Nat.le_trans (splitF_le s x hx) (by omega)
  have hr10 : 10 ≤ r := by have := hE.size; omega
  have HL := Lib.hid hlens
  have HE := Lib.hid hE
  have HR1 := Lib.hid hR1
  have HN1 := Lib.hid (show Blk w1 w.heap.size (ansCells noAns (.slice none 0 0)) 25 from (Blk.new w _ _).below (by rw [World.size_alloc] at hB1 ⊢; exact hB1))
  have HF1 := Lib.hid (((Below.refl w.heap.size w).alloc (Nat.le_refl _) _).trans (hB1.mono (by simp)))
  clear hlens hE hR1 hB1
  go_wp2_with fail
  refine (number_ex _ r _ false _ HR1.out (HE.out.below HF1.out) hr10 HL.out).mono ?_
  rintro e w2 ⟨n, ls1, b1, hs1, rfl, hR2, hO2⟩
  have S1 := Lib.hid hs1
  have HRd := Lib.hid hR2
  have hs2 := hO2.size
  have hrlt := hR2.lt
  have HN2 := Lib.hid (show Blk w2 w.heap.size (ansCells noAns (.slice none 0 0)) 25 from (by unfold Blk; rw [hO2.block _ HN1.out.lt (by omega)]; exact HN1.out))
  have HF2 := Lib.hid (hO2.below HF1.out (by omega) HF1.out.size)
  have HL2 := Lib.hid (fun x hx => HL.out x (hs1.mem x hx))
  clear hs1 hR2 hO2 HR1 HN1 HF1
  go_wp2_with fail
  have hS : RdSt w r w2.heap.size ls1 b1 ⟨n, false, [], []⟩ (.slice none 0 0) (w2.alloc (.cells #[.int .i64 n, .bool false, .string ⟨#[]⟩, .slice none 0 0] 25)) :=
    { rd := HRd.out.below (below_new _ _), res := HN2.out.alloc _, box := Blk.new _ _ _, own := World.ownsRow_nil _ _ _ _, far := HF2.out.alloc HF2.out.size _, rN := by omega, rq := hrlt, lens := HL2.out }
  generalize (w2.alloc (.cells _ _)) = W0 at hS ⊢
  generalize w2.heap.size = q at hS hs2 hrlt ⊢
  have HS := Lib.hid hS
  clear hS HRd HN2 HF2 HL2
  refine (next_any _ r ls1 b1 _ HS.out.rd).mono ?_
  rintro e w3 ⟨rfl, hR3, hO3⟩
  have HS3 := Lib.hid (HS.out.next hR3 hO3 (fun x hx => List.mem_of_mem_tail hx))
  clear hR3 hO3 HS
  obtain ⟨f, hf⟩ : ∃ f, f = ls1.headD [] := ⟨_, rfl⟩
  obtain ⟨b2, hb2⟩ : ∃ b2, b2 = (b1 || ls1.isEmpty) := ⟨_, rfl⟩
  obtain ⟨ls2, hls2⟩ : ∃ ls2, ls2 = ls1.tail := ⟨_, rfl⟩
  rw [← hb2, ← hls2] at HS3
  rw [← hf]
  have Hf := Lib.hid hf
  have Hb2 := Lib.hid hb2
  have Hls2 := Lib.hid hls2
  clear hf hb2 hls2
  have q1 : w3.cell? ⟨q, 1, none⟩ = some (.bool false) := HS3.out.box.cell 1
  have g1 := HS3.out.box.free 1
  have c1 := HS3.out.rd.cell1.1
  have f1 := HS3.out.rd.cell1.2
  have nrq : r ≠ q := by omega
  have e49 : (f == [49]) = decide (f = [49]) := by rw [Bool.eq_iff_iff]; simp
  have e48 : (f == [48]) = decide (f = [48]) := by rw [Bool.eq_iff_iff]; simp
  obtain ⟨F, hF⟩ : ∃ F, F = decide (f = [49]) := ⟨_, rfl⟩
  obtain ⟨B, hB⟩ : ∃ B, B = (b2 || (!decide (f = [49]) && !decide (f = [48]))) := ⟨_, rfl⟩
  have E49 := Lib.hid e49
  have E48 := Lib.hid e48
  have HF := Lib.hid hF
  have HB := Lib.hid hB
  clear e49 e48 hF hB
  go_upto_region 6 with fail
  have HS5 := Lib.hid (HS3.out.two (F := f == [49]) (B := true) (F' := F) (B' := B) (by rw [HF.out, E49.out]) (by rw [HB.out]; simp [*]))
  rotate_left 1
  have HS5 := Lib.hid (HS3.out.two (F := true) (B := false) (F' := F) (B' := B) (by rw [HF.out]; simp [*]) (by rw [HB.out]; simp [*]))
  rotate_left 1
  have HS5 := Lib.hid (HS3.out.two (F := f == [49]) (B := !f == [49] && !f == [48]) (F' := F) (B' := B) (by rw [HF.out, E49.out]) (by rw [HB.out, E49.out, E48.out]; simp [*]))
  rotate_left 1
  all_goals
    clear q1 g1 c1 f1
    go_wp2_with fail
    refine (text_ex _ r ls2 B _ HS5.out.rd (HE.out.below HS5.out.far) hr10 HS5.out.lens).mono ?_
    rintro e w6 ⟨x, ls3, b3, hs3, rfl, hR6, hO6⟩
    have HS6 := Lib.hid (HS5.out.next hR6 hO6 hs3.mem)
    have T3 := Lib.hid hs3
    clear hs3 hR6 hO6 HS5
    have k2 : w6.cell? ⟨q, 2, none⟩ = some (.string (bs [])) := HS6.out.box.cell 2
    have g2 := HS6.out.box.free 2
    go_wp2_with fail
    have HS7 := Lib.hid (HS6.out.store (j := 2) (u := .string (bs x)) (a' := ⟨n, F, x, []⟩) rfl rfl)
    generalize (w6.setCell ⟨q, 2, none⟩ (.string (bs x))) = W7 at HS7 ⊢
    clear k2 g2 HS6
    have hL3 : ls3.length ≤ 1000000001 := by
      have h1 := splitF_len s
      have h2 : s.count 32 ≤ s.length := List.count_le_length
      rw [T3.out.2.1, Hls2.out, S1.out.2.1]
      simp only [List.length_tail]
      omega
    go_loopw [] (fun wr => ∃ (ls : List Bs) (bad : Bool) (qs : List (Bs × Bs)) (v : Value), Hid (restP ls3 b3 = (qs ++ (restP ls bad).1, (restP ls bad).2)) ∧ qs.length + ls.length ≤ 1000000001 ∧ Hid (RdSt w r q ls bad ⟨n, F, x, qs⟩ v wr)) (fun wr => wlen (wr.cell? ⟨r, 0, none⟩))
    case atStart => exact ⟨ls3, b3, [], _, Lib.hid rfl, by simp; exact hL3, HS7⟩
    case round =>
      obtain ⟨ls, bad, qs, v, HP, hql, HS⟩ := hrel
      clear HS7
      obtain ⟨pw, capw, c0, hcap⟩ := HS.out.words
      have c1 := HS.out.rd.cell1.1
      by_cases hdone : ls = [] ∨ bad = true
      · have hrd : readF s = if !bad && decide (ls = []) then some ⟨n, F, x, qs⟩ else none := by
          have hp : restP ls3 b3 = (qs, ⟨ls, bad⟩) := by rw [HP.out, restP_end hdone]; simp
          have hb : B = ((b1 || ls1.isEmpty) || (!decide (f = [49]) && !decide (f = [48]))) := by rw [HB.out, Hb2.out]
          rw [HF.out]
          exact read_of S1.out Hf.out Hls2.out hb T3.out hp
        have hdn := done_any _ r ls bad _ HS.out.rd
        obtain ⟨D, hD⟩ : ∃ D, D = (!bad && decide (ls = [])) := ⟨_, rfl⟩
        rw [← hD] at hrd hdn
        have HRD := Lib.hid hrd
        have HDN := Lib.hid hdn
        have r0 : wr.cell? ⟨w.heap.size, 0, none⟩ = some (.int .i64 0) := HS.out.res.cell 0
        have r1 : wr.cell? ⟨w.heap.size, 1, none⟩ = some (.bool false) := HS.out.res.cell 1
        have r2 : wr.cell? ⟨w.heap.size, 2, none⟩ = some (.string (bs [])) := HS.out.res.cell 2
        have r3 : wr.cell? ⟨w.heap.size, 3, none⟩ = some (.slice none 0 0) := HS.out.res.cell 3
        have g0 := HS.out.res.free 0
        have g1 := HS.out.res.free 1
        have g2 := HS.out.res.free 2
        have g3 := HS.out.res.free 3
        clear hrd hdn hD
        have hway : ls = [] ∨ ((0 : Int) < (ls.length : Int) ∧ bad = true) := by
          by_cases h0 : ls = []
          · exact .inl h0
          · exact .inr ⟨by have := List.length_pos_iff.2 h0; omega, hdone.resolve_left h0⟩
        clear hdone
        rcases hway with hway | ⟨hway, hbt⟩
        case' inl => subst hway; simp only [List.length_nil] at c0 hcap
        case' inr => subst hbt
        all_goals
          go_wp2_with fail
          refine HDN.out.mono ?_
          rintro e w9 ⟨rfl, hw9⟩
          subst hw9
          cases D
          · go_wp2_with fail
            refine bodyPost_ret (v := .tuple #[ansVV noAns (.slice none 0 0), .int .i64 4]) ?_ rfl (ReadRet.none (by rw [HRD.out]; rfl) ?_)
            · exact results_read rfl rfl (blk4 HS.out.res noAns _)
            · exact (HS.out.fin _ _ _ _).2
          · obtain ⟨vA, vn, vc, rfl⟩ : ∃ vA vn vc, v = .slice vA vn vc := by
              rcases HS.out.own.2 with ⟨h, _⟩ | ⟨_, _, _, h, _⟩
              · exact ⟨_, _, _, h⟩
              · exact ⟨_, _, _, h⟩
            have k0 : wr.cell? ⟨q, 0, none⟩ = some (.int .i64 n) := HS.out.box.cell 0
            have k1 : wr.cell? ⟨q, 1, none⟩ = some (.bool F) := HS.out.box.cell 1
            have k2 : wr.cell? ⟨q, 2, none⟩ = some (.string (bs x)) := HS.out.box.cell 2
            have k3 : wr.cell? ⟨q, 3, none⟩ = some (.slice vA vn vc) := HS.out.box.cell 3
            go_wp2_with fail
            refine bodyPost_ret (v := .tuple #[ansVV ⟨n, F, x, qs⟩ (.slice vA vn vc), .int .i64 0]) ?_ rfl (ReadRet.some (by rw [HRD.out]; rfl) ?_ ?_)
            · exact results_read rfl rfl (blk4 HS.out.res ⟨n, F, x, qs⟩ (.slice vA vn vc))
            · exact (HS.out.fin _ _ _ _).1
            · exact (HS.out.fin _ _ _ _).2
      · obtain ⟨hne, hbad⟩ := not_or.1 hdone
        obtain rfl : bad = false := by simpa using hbad
        have hpos : (0 : Int) < (ls.length : Int) := by have := List.length_pos_iff.2 hne; omega
        have k3 : wr.cell? ⟨q, 3, none⟩ = some v := HS.out.box.cell 3
        have Hne := Lib.hid hne
        clear hdone hbad hne
        go_wp2_with fail
        have HW := Lib.hid HS.out.drew
        have k3 : wr.drew.cell? ⟨q, 3, none⟩ = some v := HW.out.box.cell 3
        have HU : Hid True := Lib.hid trivial
        have HY := Lib.hid (show ∀ j, v.ownBlock = some j → j ≠ q from fun j hj e => by have := (HS.out.own.lt j hj).1; omega)
        clear c0 c1
        go_region_law (first | (go_simp; go_at_call 39; refine (text_ex _ r _ _ _ HW.out.rd (HE.out.below HW.out.far) hr10 HW.out.lens).mono ?_; rintro e w8 ⟨y, ls5, b5, hs5, rfl, hR5, hO5⟩; have HW := Lib.hid (HW.out.next hR5 hO5 hs5.mem); have HU := Lib.hid (And.intro hs5 HU.out); clear hs5 hR5 hO5; have k3 : w8.cell? ⟨q, 3, none⟩ = some v := HW.out.box.cell 3; have a3 : ∀ o, (w8.alloc o).cell? ⟨q, 3, none⟩ = some v := fun o => kcell k3 (below_new w8 o)) | (refine step_append_lies _ (by rfl) _ _ _ (by rfl) (q + 1) 33 i0 _ 2 32 Tryz.underlying23 hi hz0 hz1 hz2 rfl (by omega) v qs.length _ (by rfl) (HW.out.own.alloc _) ⟨w8.heap.size, 0, none⟩ 1 1 _ (by rfl) (by rfl) (World.news_of_block (heap_alloc_new w8 _)) (by simp [Value.oneCell']) (by omega) (by unfold maxLen; omega) (by omega) (by have := HW.out.box.lt; simp; omega) (w8.heap.size + 1) (by simp) ?_; intro g cap w9 hown1 hgrow hat hlt9; have k9 : w9.cell? ⟨q, 3, none⟩ = some v := hgrow.cell (a3 _) (fun e => HY.out q e.symm rfl); have f9 : w9.frozen? ⟨q, 3, none⟩ = false := (grow_blk HW.out.box hgrow HY.out).free 3))
        all_goals
          have HS9 := Lib.hid (HW.out.push hown1 hgrow)
          have HP9 := Lib.hid (restP_step Hne.out HU.out.2.1 HU.out.1)
          have hl9 : ls5.length + 1 ≤ ls.length := by
            have := HU.out
            rw [this.1.2.1, this.2.1.2.1]
            have := List.length_pos_iff.2 Hne.out
            simp only [List.length_tail]
            omega
          clear hown1 hgrow hat hlt9 k9 f9 k3 a3 HU HW HY
          go_wp2
          go_roundw
          case rel => exact ⟨ls5, b5, _, _, Lib.hid (by rw [HP.out, HP9.out]; simp), by simp; omega, HS9⟩
          case measure =>
            obtain ⟨p1, cap1, e1, _⟩ := HS9.out.words
            obtain ⟨p0, cap0, e0, _⟩ := HS.out.words
            rw [e1, e0]
            simp only [wlen]
            omega
end Go.Proofs.YthhhdddojmkgnaaGreatDoor
