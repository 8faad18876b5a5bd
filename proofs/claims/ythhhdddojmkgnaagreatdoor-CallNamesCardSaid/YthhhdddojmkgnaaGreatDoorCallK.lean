/-
  call.Parse: its first statements: the reader, the Kind.
-/
import Derived.Test.YthhhdddojmkgnaaGreatDoorCallY
import Derived.Laws.ResultCell
import Derived.Laws.Rows
namespace Go.Proofs.YthhhdddojmkgnaaGreatDoor
open Go.RowKit

theorem PS0.boxd {w W : World} {N r : Nat} {ls : List Bs} {bad : Bool} (h : PS0 w W N r ls bad) (c : CallR) : PSt w (W.drew.alloc (.cells (callCells c) 38)) N r W.heap.size ls bad c := h.drew.box c
/-- What call.Parse answers. -/
def ParseRet (l : Bs) (w : World) (e : Ending) (w' : World) : Prop :=
  Below w.heap.size w w' ∧ match parseF l with
    | some c => e = .returned (.tuple #[callV c, .int .i64 0])
    | none => e = .returned (.tuple #[callV noCall, .int .i64 4])
theorem ParseRet.some {l : Bs} {w w' : World} {c : CallR} (h : parseF l = some c) (hb : Below w.heap.size w w') : ParseRet l w (.returned (.tuple #[callV c, .int .i64 0])) w' := ⟨hb, by rw [h]⟩
theorem ParseRet.none {l : Bs} {w w' : World} (h : parseF l = none) (hb : Below w.heap.size w w') : ParseRet l w (.returned (.tuple #[callV noCall, .int .i64 4])) w' := ⟨hb, by rw [h]⟩

theorem load_call {W : World} {N : Nat} {c : CallR} (h : W.heap[N]? = some (.cells (callCells c) 38 (0, 0))) : (loadVar 38 ⟨N, 0, none⟩).run Tryz.prog W = .ok (callV c) W := by
  have hi : (Tryz.prog.info? 38).map (·.size) = some 7 := by kernel_rfl
  refine run_loadVar_row W N _ _ _ _ _ h Tryz.underlying38 ?_ ?_
  · rfl
  · exact hi
theorem results_parse {tmps : Array Value} {W : World} {N : Nat} {c : CallR} {e : Int} (hp : tmps.getD 2 undef = .pointer (some ⟨N, 0, none⟩)) (hu : tmps.getD 3 undef = .int .i64 e)
    (h : W.heap[N]? = some (.cells (callCells c) 38 (0, 0))) : (results Tryz.f17 tmps).run Tryz.prog W = .ok (.tuple #[callV c, .int .i64 e]) W := by
  rw [results_cell_tmp (p := 2) (u := 3) (ty := 38) rfl, hp, hu]
  have ha : (asAddr (.pointer (some ⟨N, 0, none⟩))).run Tryz.prog W = .ok ⟨N, 0, none⟩ W := rfl
  rw [ha, Result.andThen_ok, load_call h, Result.andThen_ok]
theorem heap7 {W : World} {N : Nat} (h : W.heap[N]? = some (.cells (callCells noCall) 38 (0, 0))) (c : CallR) :
    (((((((W.setCell ⟨N, 0, none⟩ (.int .u8 c.kind)).setCell ⟨N, 1, none⟩ (.int .i64 c.tx)).setCell ⟨N, 2, none⟩ (.string (bs c.key))).setCell ⟨N, 3, none⟩ (.string (bs c.en))).setCell ⟨N, 4, none⟩ (.string (bs c.va))).setCell ⟨N, 5, none⟩ (.int .i64 c.lim)).setCell ⟨N, 6, none⟩ (.int .u8 c.eng)).heap[N]? = some (.cells (callCells c) 38 (0, 0)) :=
  heap_setCell7 (heap_setCell7 (heap_setCell7 (heap_setCell7 (heap_setCell7 (heap_setCell7 (heap_setCell7 h _) _) _) _) _) _) _

theorem kindOf_le (w : Bs) : kindOf w ≤ 9 := by
  rw [kindOf]; split <;> omega
theorem wrap_idx (w : Bs) : IntKind.u8.wrap (max 0 (idxV w)) = (kindOf w : Int) := by
  have h := kindOf_le w
  have : max 0 (idxV w) = (kindOf w : Int) := by
    rw [idxV_eq, kindOf]; split <;> omega
  rw [this]
  exact IntWalk.u8_in _ (by omega)
/-- The struct laid cell by cell. -/
theorem stored7 {w W : World} {N r q : Nat} {ls : List Bs} {bad : Bool} (h : PSt w W N r q ls bad noCall) (k : Nat) :
    PSt w (((((((W.setCell ⟨q, 0, none⟩ (.int .u8 k)).setCell ⟨q, 1, none⟩ (.int .i64 0)).setCell ⟨q, 2, none⟩ (.string ⟨#[]⟩)).setCell ⟨q, 3, none⟩ (.string ⟨#[]⟩)).setCell ⟨q, 4, none⟩ (.string ⟨#[]⟩)).setCell ⟨q, 5, none⟩ (.int .i64 0)).setCell ⟨q, 6, none⟩ (.int .u8 0)) N r q ls bad { noCall with kind := k } := by
  have h0 := h.store (j := 0) (v := .int .u8 k) (c' := { noCall with kind := k }) rfl
  exact (((((h0.store (j := 1) rfl).store (j := 2) rfl).store (j := 3) rfl).store (j := 4) rfl).store (j := 5) rfl).store (j := 6) rfl

theorem splitF_le : ∀ (l x : Bs), x ∈ splitF l → x.length ≤ l.length
  | [], x, h => by simp [splitF] at h; subst h; simp
  | c :: r, x, h => by
    have ih := splitF_le r
    by_cases hc : c = 32
    · simp only [splitF, hc, if_true, List.mem_cons] at h
      rcases h with rfl | h
      · simp
      · have := ih x h; simp; omega
    · cases hs : splitF r with
      | nil => exact absurd hs (splitF_ne r)
      | cons w ws =>
        rw [splitF_cons_ne hc hs] at h
        rw [hs] at ih
        rcases List.mem_cons.1 h with rfl | h
        · have := ih w (by simp); simp; omega
        · have := ih x (by simp [h]); simp; omega

theorem num_eq {ls ls' : List Bs} {b b' : Bool} {n : Int} (s : NumStep ls b n ls' b') : Rd.number ⟨ls, b⟩ = (n, ⟨ls', b'⟩) := by
  obtain ⟨rfl, rfl, rfl, _⟩ := s
  simp only [Rd.number, Rd.next_eq]
theorem text_eq {ls ls' : List Bs} {b b' : Bool} {x : Bs} (s : TextStep ls b x ls' b') : Rd.text ⟨ls, b⟩ = (x, ⟨ls', b'⟩) := by
  obtain ⟨rfl, rfl, rfl⟩ := s
  simp only [Rd.text, Rd.next_eq]
theorem start_eq {l w0 : Bs} {ws : List Bs} (h : splitF l = w0 :: ws) : Rd.next ⟨splitF l, false⟩ = (w0, ⟨ws, false⟩) := by rw [h]; rfl
theorem parse_5 {l w0 : Bs} {ws ls3 ls4 ls5 ls6 : List Bs} {b3 b4 b5 b6 : Bool} {n m : Int} {x y : Bs} (h : splitF l = w0 :: ws) (hk : kindOf w0 = 5) (s3 : NumStep ws false n ls3 b3) (s4 : TextStep ls3 b3 x ls4 b4) (s5 : TextStep ls4 b4 y ls5 b5) (s6 : NumStep ls5 b5 m ls6 b6) :
    parseF l = if (!b6 && decide (ls6 = [])) && mayF ⟨5, n, x, y, [], m, 0⟩ then some ⟨5, n, x, y, [], m, 0⟩ else none := by
  simp [parseF, start_eq h, hk, needsF, keyedF, num_eq s3, text_eq s4, text_eq s5, num_eq s6, Rd.done]
theorem parse_3 {l w0 : Bs} {ws ls3 ls4 ls5 : List Bs} {b3 b4 b5 : Bool} {n : Int} {x y : Bs} (h : splitF l = w0 :: ws) (hk : kindOf w0 = 3) (s3 : NumStep ws false n ls3 b3) (s4 : TextStep ls3 b3 x ls4 b4) (s5 : TextStep ls4 b4 y ls5 b5) :
    parseF l = if (!b5 && decide (ls5 = [])) && mayF ⟨3, n, x, [], y, 0, 0⟩ then some ⟨3, n, x, [], y, 0, 0⟩ else none := by
  simp [parseF, start_eq h, hk, needsF, keyedF, num_eq s3, text_eq s4, text_eq s5, Rd.done]
theorem parse_g {l w0 : Bs} {ws ls3 ls4 : List Bs} {b3 b4 : Bool} {k : Nat} {n : Int} {x : Bs} (h : splitF l = w0 :: ws) (hk : kindOf w0 = k) (hg : k = 2 ∨ k = 4) (s3 : NumStep ws false n ls3 b3) (s4 : TextStep ls3 b3 x ls4 b4) :
    parseF l = if (!b4 && decide (ls4 = [])) && mayF ⟨k, n, x, [], [], 0, 0⟩ then some ⟨k, n, x, [], [], 0, 0⟩ else none := by
  rcases hg with rfl | rfl <;> simp [parseF, start_eq h, hk, needsF, keyedF, num_eq s3, text_eq s4, Rd.done]
theorem parse_e {l w0 : Bs} {ws ls3 : List Bs} {b3 : Bool} {k : Nat} {n : Int} (h : splitF l = w0 :: ws) (hk : kindOf w0 = k) (h1 : 6 ≤ k) (h2 : k ≤ 7) (s3 : NumStep ws false n ls3 b3) :
    parseF l = if (!b3 && decide (ls3 = [])) && mayF ⟨k, n, [], [], [], 0, 0⟩ then some ⟨k, n, [], [], [], 0, 0⟩ else none := by
  have : k = 6 ∨ k = 7 := by omega
  rcases this with rfl | rfl <;> simp [parseF, start_eq h, hk, needsF, keyedF, num_eq s3, Rd.done]
theorem parse_p {l w0 : Bs} {ws : List Bs} {k : Nat} (h : splitF l = w0 :: ws) (hk : kindOf w0 = k) (hp : k < 2 ∨ k = 8) :
    parseF l = if (!false && decide (ws = [])) && mayF ⟨k, 0, [], [], [], 0, 0⟩ then some ⟨k, 0, [], [], [], 0, 0⟩ else none := by
  have : k = 0 ∨ k = 1 ∨ k = 8 := by omega
  rcases this with rfl | rfl | rfl <;> simp [parseF, start_eq h, hk, needsF, keyedF, Rd.done]
theorem parse_9 {l w0 : Bs} {ws ls3 : List Bs} {b3 : Bool} {n : Int} {t : Nat} (h : splitF l = w0 :: ws) (hk : kindOf w0 = 9) (s3 : NumStep ws false n ls3 b3) (ht : n % 256 = (t : Int)) :
    parseF l = if (!(b3 || ((t : Int) != n)) && decide (ls3 = [])) && mayF ⟨9, 0, [], [], [], 0, t⟩ then some ⟨9, 0, [], [], [], 0, t⟩ else none := by
  have e : (n % 256).toNat = t := by omega
  have e2 : decide ((t : Int) ≠ n) = ((t : Int) != n) := by
    by_cases q : (t : Int) = n <;> simp [q]
  rw [← e2]
  simp [parseF, start_eq h, hk, needsF, keyedF, num_eq s3, Rd.done, e]
theorem parse_9f {l w0 : Bs} {ws ls3 : List Bs} {n : Int} {t : Nat} (h : splitF l = w0 :: ws) (hk : kindOf w0 = 9) (s3 : NumStep ws false n ls3 false) (ht : n % 256 = (t : Int)) :
    parseF l = if (!((t : Int) != n) && decide (ls3 = [])) && mayF ⟨9, 0, [], [], [], 0, t⟩ then some ⟨9, 0, [], [], [], 0, t⟩ else none := by
  have := parse_9 h hk s3 ht
  rwa [Bool.false_or] at this
theorem parse_9t {l w0 : Bs} {ws ls3 : List Bs} {n : Int} {t : Nat} (h : splitF l = w0 :: ws) (hk : kindOf w0 = 9) (s3 : NumStep ws false n ls3 true) (ht : n % 256 = (t : Int)) :
    parseF l = if (!true && decide (ls3 = [])) && mayF ⟨9, 0, [], [], [], 0, t⟩ then some ⟨9, 0, [], [], [], 0, t⟩ else none := by
  have := parse_9 h hk s3 ht
  rwa [Bool.true_or] at this

set_option maxHeartbeats 40000000 in
theorem parse_any (l : Bs) (w : World) (hE : Env w) (hl : l.length ≤ 1000000000) :
    Calls Tryz.prog 17 #[.string (bs l)] w (ParseRet l w) := by
  go_enter Tryz.func17, Tryz.ntmps17
  go_wp2_with fail
  refine (open_any l _ (hE.below ((Below.refl _ _).alloc (Nat.le_refl _) _)) hl).mono ?_
  rintro e w1 ⟨r, rfl, hr, hR1, hB1⟩
  obtain ⟨w0, ws, hsp⟩ : ∃ w0 ws, splitF l = w0 :: ws := by
    cases hs : splitF l with
    | nil => exact absurd hs (splitF_ne l)
    | cons a b => exact ⟨a, b, rfl⟩
  have hlens : ∀ x ∈ splitF l, x.length ≤ 1000000000 := fun x hx => Nat.le_trans (splitF_le l x hx) hl
  rw [hsp] at hR1 hlens
  have Hsp := Lib.hid hsp
  clear hsp
  have HR1 := Lib.hid hR1
  rw [World.size_alloc] at hr
  have HP := Lib.hid (PS0.mk hR1 (by rw [hB1.block _ (by simp)]; exact heap_alloc_new _ _) (((Below.refl _ _).alloc (Nat.le_refl _) _).trans (hB1.mono (by simp))) (Nat.le_refl _) (by omega) (by omega) hlens)
  have hr10 : 10 ≤ r := by have := hE.size; omega
  have HEe := Lib.hid hE
  clear hR1 hB1 hlens hE
  go_upto_region 2 with fail
  go_cut [5] (fun s5 wx => ∃ q : Nat, s5 = .pointer (some ⟨q, 0, none⟩) ∧ Hid (PSt w wx w.heap.size r q ws false { noCall with kind := kindOf w0 }))
  case first =>
    refine region_start (n := 9) (l := #[false, false, false, false, false, false, false, false, false]) (by kernel_rfl) (by rfl) (by rfl) ?_
    refine region_take (i := 0) (d := some 9) (l' := #[true, false, false, false, false, false, false, false, false]) (v := ?_) rfl rfl rfl (by kernel_rfl) (by kernel_rfl) (by kernel_rfl) (fun _ _ _ h => h) (Or.inl ⟨by rfl, ?_⟩) ?_
    rotate_left 1
    · intro w; go_simp; try with_reducible rfl
    simp only [Act.put, List.setIfInBounds_toArray, List.set_cons_zero, List.set_cons_succ]
    refine region_take (i := 1) (d := some 10) (l' := #[true, true, false, false, false, false, false, false, false]) (v := ?_) rfl rfl rfl (by kernel_rfl) (by kernel_rfl) (by kernel_rfl) (fun _ _ _ h => h) (Or.inl ⟨by rfl, ?_⟩) ?_
    rotate_left 1
    · intro w; go_simp; try with_reducible rfl
    simp only [Act.put, List.setIfInBounds_toArray, List.set_cons_zero, List.set_cons_succ]
    refine wpAny_ready (rs := [2, 7]) (by kernel_rfl) (by simp) ?_
    refine region_cons (i := 2) (d := some 11) (l' := #[true, true, true, false, false, false, false, false, false]) rfl rfl rfl (fun K hK => ?_) (region_cons (i := 7) (d := some 5) (l' := #[true, true, false, false, false, false, false, true, false]) rfl rfl rfl (fun K hK => ?_) (AllReady.nil))
    · go_simp
      refine (next_cons _ r _ _ _ _ HR1.out.drew).mono ?_
      rintro e w2 ⟨rfl, hR2, hO2⟩
      have HP2 := Lib.hid (HP.out.drew.next hR2 hO2 (fun _ hx => List.mem_cons_of_mem _ hx))
      clear hR2 hO2
      refine hK _ _ ?_
      clear hK K
      try simp only [Act.put, List.setIfInBounds_toArray, List.set_cons_zero, List.set_cons_succ]
      refine wpAny_ready (rs := [3, 7]) (by kernel_rfl) (by simp) ?_
      refine region_cons (i := 3) (d := some 12) (l' := #[true, true, true, true, false, false, false, false, false]) rfl rfl rfl (fun K hK => ?_) (region_cons (i := 7) (d := some 5) (l' := #[true, true, true, false, false, false, false, true, false]) rfl rfl rfl (fun K hK => ?_) (AllReady.nil))
      · go_simp
        refine (index_words _ _ (HEe.out.below HP2.out.below)).mono ?_
        rintro e w3 ⟨rfl, rfl⟩
        refine hK _ _ ?_
        clear hK K
        try simp only [Act.put, List.setIfInBounds_toArray, List.set_cons_zero, List.set_cons_succ]
        refine region_take (i := 4) (d := some 13) (l' := #[true, true, true, true, true, false, false, false, false]) (v := ?_) rfl rfl rfl (by kernel_rfl) (by kernel_rfl) (by kernel_rfl) (fun _ _ _ h => h) (Or.inl ⟨by rfl, ?_⟩) ?_
        rotate_left 1
        · intro w; go_simp; try with_reducible rfl
        simp only [Act.put, List.setIfInBounds_toArray, List.set_cons_zero, List.set_cons_succ]
        refine region_take (i := 5) (d := some 14) (l' := #[true, true, true, true, true, true, false, false, false]) (v := ?_) rfl rfl rfl (by kernel_rfl) (by kernel_rfl) (by kernel_rfl) (fun _ _ _ h => h) (Or.inl ⟨by rfl, ?_⟩) ?_
        rotate_left 1
        · intro w; go_simp; try with_reducible rfl
        simp only [Act.put, List.setIfInBounds_toArray, List.set_cons_zero, List.set_cons_succ]
        refine region_take (i := 6) (d := some 15) (l' := #[true, true, true, true, true, true, true, false, false]) (v := ?_) rfl rfl rfl (by kernel_rfl) (by kernel_rfl) (by kernel_rfl) (fun _ _ _ h => h) (Or.inl ⟨by rfl, ?_⟩) ?_
        rotate_left 1
        · intro w; go_simp; try with_reducible rfl
        simp only [Act.put, List.setIfInBounds_toArray, List.set_cons_zero, List.set_cons_succ]
        refine region_one (i := 7) (d := some 5) (l' := #[true, true, true, true, true, true, true, true, false]) rfl rfl rfl (by kernel_rfl) (fun K hK => ?_)
        go_simp
        refine hK _ _ ?_
        clear hK K
        try simp only [Act.put, List.setIfInBounds_toArray, List.set_cons_zero, List.set_cons_succ]
        refine region_one (i := 8) (d := none) (l' := #[true, true, true, true, true, true, true, true, true]) rfl rfl rfl (by kernel_rfl) (fun K hK => ?_)
        go_simp
        refine hK _ _ ?_
        clear hK K
        refine wpAny_done (by kernel_rfl) ?_ _
        go_wp2_with fail
        go_meet
        exact ⟨w2.heap.size, rfl, by rw [wrap_idx]; exact HP2.out.box { noCall with kind := kindOf w0 }⟩
      · go_simp
        refine hK _ _ ?_
        clear hK K
        try simp only [Act.put, List.setIfInBounds_toArray, List.set_cons_zero, List.set_cons_succ]
        refine region_one (i := 3) (d := some 12) (l' := #[true, true, true, true, false, false, false, true, false]) rfl rfl rfl (by kernel_rfl) (fun K hK => ?_)
        go_simp
        refine (index_words _ _ (by exact HEe.out.below (HP2.out.box noCall).below)).mono ?_
        rintro e w3 ⟨rfl, rfl⟩
        refine hK _ _ ?_
        clear hK K
        try simp only [Act.put, List.setIfInBounds_toArray, List.set_cons_zero, List.set_cons_succ]
        refine region_take (i := 4) (d := some 13) (l' := #[true, true, true, true, true, false, false, true, false]) (v := ?_) rfl rfl rfl (by kernel_rfl) (by kernel_rfl) (by kernel_rfl) (fun _ _ _ h => h) (Or.inl ⟨by rfl, ?_⟩) ?_
        rotate_left 1
        · intro w; go_simp; try with_reducible rfl
        simp only [Act.put, List.setIfInBounds_toArray, List.set_cons_zero, List.set_cons_succ]
        refine region_take (i := 5) (d := some 14) (l' := #[true, true, true, true, true, true, false, true, false]) (v := ?_) rfl rfl rfl (by kernel_rfl) (by kernel_rfl) (by kernel_rfl) (fun _ _ _ h => h) (Or.inl ⟨by rfl, ?_⟩) ?_
        rotate_left 1
        · intro w; go_simp; try with_reducible rfl
        simp only [Act.put, List.setIfInBounds_toArray, List.set_cons_zero, List.set_cons_succ]
        refine region_take (i := 6) (d := some 15) (l' := #[true, true, true, true, true, true, true, true, false]) (v := ?_) rfl rfl rfl (by kernel_rfl) (by kernel_rfl) (by kernel_rfl) (fun _ _ _ h => h) (Or.inl ⟨by rfl, ?_⟩) ?_
        rotate_left 1
        · intro w; go_simp; try with_reducible rfl
        simp only [Act.put, List.setIfInBounds_toArray, List.set_cons_zero, List.set_cons_succ]
        refine region_one (i := 8) (d := none) (l' := #[true, true, true, true, true, true, true, true, true]) rfl rfl rfl (by kernel_rfl) (fun K hK => ?_)
        go_simp
        refine hK _ _ ?_
        clear hK K
        refine wpAny_done (by kernel_rfl) ?_ _
        go_wp2_with fail
        go_meet
        exact ⟨w2.heap.size, rfl, by rw [wrap_idx]; exact HP2.out.box { noCall with kind := kindOf w0 }⟩
    · go_simp
      refine hK _ _ ?_
      clear hK K
      try simp only [Act.put, List.setIfInBounds_toArray, List.set_cons_zero, List.set_cons_succ]
      refine region_one (i := 2) (d := some 11) (l' := #[true, true, true, false, false, false, false, true, false]) rfl rfl rfl (by kernel_rfl) (fun K hK => ?_)
      go_simp
      have HQ := Lib.hid (PS0.boxd HP.out noCall)
      refine (next_cons _ r _ _ _ _ HQ.out.rd).mono ?_
      rintro e w2 ⟨rfl, hR2, hO2⟩
      have HP2 := Lib.hid (HQ.out.next hR2 hO2 (fun _ hx => List.mem_cons_of_mem _ hx))
      clear hR2 hO2
      have k0 := HP2.out.cell 0
      have k1 := HP2.out.cell 1
      have k2 := HP2.out.cell 2
      have k3 := HP2.out.cell 3
      have k4 := HP2.out.cell 4
      have k5 := HP2.out.cell 5
      have k6 := HP2.out.cell 6
      have f0 := HP2.out.free 0
      have f1 := HP2.out.free 1
      have f2 := HP2.out.free 2
      have f3 := HP2.out.free 3
      have f4 := HP2.out.free 4
      have f5 := HP2.out.free 5
      have f6 := HP2.out.free 6
      simp only [callCells, noCall, List.getElem?_toArray, List.getElem?_cons_zero, List.getElem?_cons_succ] at k0 k1 k2 k3 k4 k5 k6
      refine hK _ _ ?_
      clear hK K
      try simp only [Act.put, List.setIfInBounds_toArray, List.set_cons_zero, List.set_cons_succ]
      refine region_one (i := 3) (d := some 12) (l' := #[true, true, true, true, false, false, false, true, false]) rfl rfl rfl (by kernel_rfl) (fun K hK => ?_)
      go_simp
      refine (index_words _ _ (HEe.out.below HP2.out.below)).mono ?_
      rintro e w3 ⟨rfl, rfl⟩
      refine hK _ _ ?_
      clear hK K
      try simp only [Act.put, List.setIfInBounds_toArray, List.set_cons_zero, List.set_cons_succ]
      refine region_take (i := 4) (d := some 13) (l' := #[true, true, true, true, true, false, false, true, false]) (v := ?_) rfl rfl rfl (by kernel_rfl) (by kernel_rfl) (by kernel_rfl) (fun _ _ _ h => h) (Or.inl ⟨by rfl, ?_⟩) ?_
      rotate_left 1
      · intro w; go_simp; try with_reducible rfl
      simp only [Act.put, List.setIfInBounds_toArray, List.set_cons_zero, List.set_cons_succ]
      refine region_take (i := 5) (d := some 14) (l' := #[true, true, true, true, true, true, false, true, false]) (v := ?_) rfl rfl rfl (by kernel_rfl) (by kernel_rfl) (by kernel_rfl) (fun _ _ _ h => h) (Or.inl ⟨by rfl, ?_⟩) ?_
      rotate_left 1
      · intro w; go_simp; try with_reducible rfl
      simp only [Act.put, List.setIfInBounds_toArray, List.set_cons_zero, List.set_cons_succ]
      refine region_take (i := 6) (d := some 15) (l' := #[true, true, true, true, true, true, true, true, false]) (v := ?_) rfl rfl rfl (by kernel_rfl) (by kernel_rfl) (by kernel_rfl) (fun _ _ _ h => h) (Or.inl ⟨by rfl, ?_⟩) ?_
      rotate_left 1
      · intro w; go_simp; try with_reducible rfl
      simp only [Act.put, List.setIfInBounds_toArray, List.set_cons_zero, List.set_cons_succ]
      refine region_one (i := 8) (d := none) (l' := #[true, true, true, true, true, true, true, true, true]) rfl rfl rfl (by kernel_rfl) (fun K hK => ?_)
      go_simp
      refine hK _ _ ?_
      clear hK K
      refine wpAny_done (by kernel_rfl) ?_ _
      go_wp2_with fail
      go_meet
      exact ⟨w1.heap.size, rfl, by rw [wrap_idx]; exact stored7 HP2.out (kindOf w0)⟩

  case rest =>
    obtain ⟨q, rfl, HP2⟩ := hcut
    have HP2 : Hid (PSt w wc w.heap.size r q ws false ⟨kindOf w0, 0, [], [], [], 0, 0⟩) := HP2
    have hk9 := kindOf_le w0
    obtain ⟨k, hkd⟩ : ∃ k, kindOf w0 = k := ⟨_, rfl⟩
    rw [hkd] at HP2 hk9
    have Hkd := Lib.hid hkd
    clear hkd HR1 HP
    by_cases h5 : k = 5
    · subst h5
      have k0_2 : wc.cell? ⟨q, 0, none⟩ = some (.int .u8 5) := HP2.out.cell 0
      go_wp2_with (go_at_call 19; refine (needs_t _ _ (by omega) (by omega)).mono ?_; rintro e w' ⟨rfl, rfl⟩)
      refine (number_ex _ r ws false _ HP2.out.rd (HEe.out.below HP2.out.below) hr10 HP2.out.lens).mono ?_
      rintro e w3 ⟨n, ls3, b3, hs3, rfl, hR3, hO3⟩
      have S3 := Lib.hid hs3
      have HP3 := Lib.hid (HP2.out.next hR3 hO3 hs3.mem)
      clear hs3 hR3 hO3
      clear k0_2
      have k0_3 : w3.cell? ⟨q, 0, none⟩ = some (.int .u8 5) := HP3.out.cell 0
      have k1_3 : w3.cell? ⟨q, 1, none⟩ = some (.int .i64 0) := HP3.out.cell 1
      have f1_3 := HP3.out.free 1
      have HQ3tx := Lib.hid (HP3.out.store (j := 1) (v := .int .i64 n) (c' := ⟨5, n, [], [], [], 0, 0⟩) rfl)
      go_wp2_with (go_at_call 52; refine (keyed_t _ _ (by omega) (by omega)).mono ?_; rintro e w' ⟨rfl, rfl⟩)
      refine (text_ex _ r ls3 b3 _ HQ3tx.out.rd (HEe.out.below HQ3tx.out.below) hr10 HQ3tx.out.lens).mono ?_
      rintro e w4 ⟨x, ls4, b4, hs4, rfl, hR4, hO4⟩
      have S4 := Lib.hid hs4
      have HP4 := Lib.hid (HQ3tx.out.next hR4 hO4 hs4.mem)
      clear hs4 hR4 hO4
      clear k0_3 k1_3 f1_3
      have k0_4 : w4.cell? ⟨q, 0, none⟩ = some (.int .u8 5) := HP4.out.cell 0
      have k2_4 : w4.cell? ⟨q, 2, none⟩ = some (.string (bs [])) := HP4.out.cell 2
      have f2_4 := HP4.out.free 2
      have HQ4key := Lib.hid (HP4.out.store (j := 2) (v := .string (bs x)) (c' := ⟨5, n, x, [], [], 0, 0⟩) rfl)
      go_wp2_with fail
      refine (text_ex _ r ls4 b4 _ HQ4key.out.rd (HEe.out.below HQ4key.out.below) hr10 HQ4key.out.lens).mono ?_
      rintro e w5 ⟨y, ls5, b5, hs5, rfl, hR5, hO5⟩
      have S5 := Lib.hid hs5
      have HP5 := Lib.hid (HQ4key.out.next hR5 hO5 hs5.mem)
      clear hs5 hR5 hO5
      clear k0_4 k2_4 f2_4
      go_wp2_with fail
      refine (number_ex _ r ls5 b5 _ HP5.out.rd (HEe.out.below HP5.out.below) hr10 HP5.out.lens).mono ?_
      rintro e w6 ⟨m, ls6, b6, hs6, rfl, hR6, hO6⟩
      have S6 := Lib.hid hs6
      have HP6 := Lib.hid (HP5.out.next hR6 hO6 hs6.mem)
      clear hs6 hR6 hO6
      have k0_6 : w6.cell? ⟨q, 0, none⟩ = some (.int .u8 5) := HP6.out.cell 0
      have k3_6 : w6.cell? ⟨q, 3, none⟩ = some (.string (bs [])) := HP6.out.cell 3
      have k5_6 : w6.cell? ⟨q, 5, none⟩ = some (.int .i64 0) := HP6.out.cell 5
      have f3_6 := HP6.out.free 3
      have f5_6 := HP6.out.free 5
      have HQ6en := Lib.hid (HP6.out.store (j := 3) (v := .string (bs y)) (c' := ⟨5, n, x, y, [], 0, 0⟩) rfl)
      have HQ6lim := Lib.hid (HQ6en.out.store (j := 5) (v := .int .i64 m) (c' := ⟨5, n, x, y, [], m, 0⟩) rfl)
      go_wp2_with fail
      have HD := Lib.hid (done_any _ r ls6 b6 _ HQ6lim.out.rd)
      have HPARSE := Lib.hid (parse_5 Hsp.out Hkd.out S3.out S4.out S5.out S6.out)
      refine HD.out.mono ?_
      rintro e w' ⟨rfl, hw⟩
      clear k0_6 k3_6 k5_6 f3_6 f5_6
      have HF := Lib.hid (hw ▸ HQ6lim.out)
      clear hw HD
      have r0 := HF.out.rcell 0
      have r1 := HF.out.rcell 1
      have r2 := HF.out.rcell 2
      have r3 := HF.out.rcell 3
      have r4 := HF.out.rcell 4
      have r5 := HF.out.rcell 5
      have r6 := HF.out.rcell 6
      simp only [callCells, noCall, List.getElem?_toArray, List.getElem?_cons_zero, List.getElem?_cons_succ] at r0 r1 r2 r3 r4 r5 r6
      have g0 := HF.out.rfree 0
      have g1 := HF.out.rfree 1
      have g2 := HF.out.rfree 2
      have g3 := HF.out.rfree 3
      have g4 := HF.out.rfree 4
      have g5 := HF.out.rfree 5
      have g6 := HF.out.rfree 6
      have k0 : w'.cell? ⟨q, 0, none⟩ = some (.int .u8 5) := HF.out.cell 0
      have k1 : w'.cell? ⟨q, 1, none⟩ = some (.int .i64 n) := HF.out.cell 1
      have k2 : w'.cell? ⟨q, 2, none⟩ = some (.string (bs x)) := HF.out.cell 2
      have k3 : w'.cell? ⟨q, 3, none⟩ = some (.string (bs y)) := HF.out.cell 3
      have k4 : w'.cell? ⟨q, 4, none⟩ = some (.string (bs [])) := HF.out.cell 4
      have k5 : w'.cell? ⟨q, 5, none⟩ = some (.int .i64 m) := HF.out.cell 5
      have k6 : w'.cell? ⟨q, 6, none⟩ = some (.int .u8 0) := HF.out.cell 6
      cases hd : (!b6 && decide (ls6 = []))
      · go_wp2_with fail
        refine bodyPost_ret (v := .tuple #[callV noCall, .int .i64 4]) ?_ rfl (ParseRet.none (by rw [HPARSE.out, hd]; rfl) ?_)
        · exact results_parse rfl rfl (heap7 HF.out.res noCall)
        · exact (((((((HF.out.below.setCell (p := ⟨_, 0, none⟩) (Nat.le_refl _) _).setCell (p := ⟨_, 1, none⟩) (Nat.le_refl _) _).setCell (p := ⟨_, 2, none⟩) (Nat.le_refl _) _).setCell (p := ⟨_, 3, none⟩) (Nat.le_refl _) _).setCell (p := ⟨_, 4, none⟩) (Nat.le_refl _) _).setCell (p := ⟨_, 5, none⟩) (Nat.le_refl _) _).setCell (p := ⟨_, 6, none⟩) (Nat.le_refl _) _)
      · have Hd := Lib.hid hd
        clear hd k0 k1 k2 k3 k4 k5 k6 r0 r1 r2 r3 r4 r5 r6 g0 g1 g2 g3 g4 g5 g6
        have k0 : w'.cell? ⟨q, 0, none⟩ = some (.int .u8 5) := HF.out.cell 0
        have k1 : w'.cell? ⟨q, 1, none⟩ = some (.int .i64 n) := HF.out.cell 1
        have k2 : w'.cell? ⟨q, 2, none⟩ = some (.string (bs x)) := HF.out.cell 2
        have k3 : w'.cell? ⟨q, 3, none⟩ = some (.string (bs y)) := HF.out.cell 3
        have k4 : w'.cell? ⟨q, 4, none⟩ = some (.string (bs [])) := HF.out.cell 4
        have k5 : w'.cell? ⟨q, 5, none⟩ = some (.int .i64 m) := HF.out.cell 5
        have k6 : w'.cell? ⟨q, 6, none⟩ = some (.int .u8 0) := HF.out.cell 6
        have hmy := may_any ⟨5, n, x, y, [], m, 0⟩ w'
        cases hm : mayF ⟨5, n, x, y, [], m, 0⟩
        · have hmn : mayN ⟨5, n, x, y, [], m, 0⟩ = 1 := by rw [mayN, hm]; rfl
          rw [hmn] at hmy
          have HM := Lib.hid hmy
          have Hm := Lib.hid hm
          clear hmy hm hmn
          go_wp2_with fail
          refine HM.out.mono ?_
          rintro e w2 ⟨rfl, hb⟩
          have HG := Lib.hid (HF.out.quiet hb)
          clear hb HM k0 k1 k2 k3 k4 k5 k6
          have r0 := HG.out.rcell 0
          have r1 := HG.out.rcell 1
          have r2 := HG.out.rcell 2
          have r3 := HG.out.rcell 3
          have r4 := HG.out.rcell 4
          have r5 := HG.out.rcell 5
          have r6 := HG.out.rcell 6
          simp only [callCells, noCall, List.getElem?_toArray, List.getElem?_cons_zero, List.getElem?_cons_succ] at r0 r1 r2 r3 r4 r5 r6
          have g0 := HG.out.rfree 0
          have g1 := HG.out.rfree 1
          have g2 := HG.out.rfree 2
          have g3 := HG.out.rfree 3
          have g4 := HG.out.rfree 4
          have g5 := HG.out.rfree 5
          have g6 := HG.out.rfree 6
          go_wp2_with fail
          refine bodyPost_ret (v := .tuple #[callV noCall, .int .i64 4]) ?_ rfl (ParseRet.none (by rw [HPARSE.out, Hd.out, Hm.out]; rfl) ?_)
          · exact results_parse rfl rfl (heap7 HG.out.res noCall)
          · exact (((((((HG.out.below.setCell (p := ⟨_, 0, none⟩) (Nat.le_refl _) _).setCell (p := ⟨_, 1, none⟩) (Nat.le_refl _) _).setCell (p := ⟨_, 2, none⟩) (Nat.le_refl _) _).setCell (p := ⟨_, 3, none⟩) (Nat.le_refl _) _).setCell (p := ⟨_, 4, none⟩) (Nat.le_refl _) _).setCell (p := ⟨_, 5, none⟩) (Nat.le_refl _) _).setCell (p := ⟨_, 6, none⟩) (Nat.le_refl _) _)
        · have hmn : mayN ⟨5, n, x, y, [], m, 0⟩ = 0 := by rw [mayN, hm]; rfl
          rw [hmn] at hmy
          have HM := Lib.hid hmy
          have Hm := Lib.hid hm
          clear hmy hm hmn
          go_wp2_with fail
          refine HM.out.mono ?_
          rintro e w2 ⟨rfl, hb⟩
          have HG := Lib.hid (HF.out.quiet hb)
          clear hb HM k0 k1 k2 k3 k4 k5 k6
          have r0 := HG.out.rcell 0
          have r1 := HG.out.rcell 1
          have r2 := HG.out.rcell 2
          have r3 := HG.out.rcell 3
          have r4 := HG.out.rcell 4
          have r5 := HG.out.rcell 5
          have r6 := HG.out.rcell 6
          simp only [callCells, noCall, List.getElem?_toArray, List.getElem?_cons_zero, List.getElem?_cons_succ] at r0 r1 r2 r3 r4 r5 r6
          have g0 := HG.out.rfree 0
          have g1 := HG.out.rfree 1
          have g2 := HG.out.rfree 2
          have g3 := HG.out.rfree 3
          have g4 := HG.out.rfree 4
          have g5 := HG.out.rfree 5
          have g6 := HG.out.rfree 6
          have k0 : w2.cell? ⟨q, 0, none⟩ = some (.int .u8 5) := HG.out.cell 0
          have k1 : w2.cell? ⟨q, 1, none⟩ = some (.int .i64 n) := HG.out.cell 1
          have k2 : w2.cell? ⟨q, 2, none⟩ = some (.string (bs x)) := HG.out.cell 2
          have k3 : w2.cell? ⟨q, 3, none⟩ = some (.string (bs y)) := HG.out.cell 3
          have k4 : w2.cell? ⟨q, 4, none⟩ = some (.string (bs [])) := HG.out.cell 4
          have k5 : w2.cell? ⟨q, 5, none⟩ = some (.int .i64 m) := HG.out.cell 5
          have k6 : w2.cell? ⟨q, 6, none⟩ = some (.int .u8 0) := HG.out.cell 6
          go_wp2_with fail
          refine bodyPost_ret (v := .tuple #[callV ⟨5, n, x, y, [], m, 0⟩, .int .i64 0]) ?_ rfl (ParseRet.some (by rw [HPARSE.out, Hd.out, Hm.out]; rfl) ?_)
          · exact results_parse rfl rfl (heap7 HG.out.res ⟨5, n, x, y, [], m, 0⟩)
          · exact (((((((HG.out.below.setCell (p := ⟨_, 0, none⟩) (Nat.le_refl _) _).setCell (p := ⟨_, 1, none⟩) (Nat.le_refl _) _).setCell (p := ⟨_, 2, none⟩) (Nat.le_refl _) _).setCell (p := ⟨_, 3, none⟩) (Nat.le_refl _) _).setCell (p := ⟨_, 4, none⟩) (Nat.le_refl _) _).setCell (p := ⟨_, 5, none⟩) (Nat.le_refl _) _).setCell (p := ⟨_, 6, none⟩) (Nat.le_refl _) _)
    by_cases h3 : k = 3
    · subst h3
      have k0_2 : wc.cell? ⟨q, 0, none⟩ = some (.int .u8 3) := HP2.out.cell 0
      go_wp2_with (go_at_call 19; refine (needs_t _ _ (by omega) (by omega)).mono ?_; rintro e w' ⟨rfl, rfl⟩)
      refine (number_ex _ r ws false _ HP2.out.rd (HEe.out.below HP2.out.below) hr10 HP2.out.lens).mono ?_
      rintro e w3 ⟨n, ls3, b3, hs3, rfl, hR3, hO3⟩
      have S3 := Lib.hid hs3
      have HP3 := Lib.hid (HP2.out.next hR3 hO3 hs3.mem)
      clear hs3 hR3 hO3
      clear k0_2
      have k0_3 : w3.cell? ⟨q, 0, none⟩ = some (.int .u8 3) := HP3.out.cell 0
      have k1_3 : w3.cell? ⟨q, 1, none⟩ = some (.int .i64 0) := HP3.out.cell 1
      have f1_3 := HP3.out.free 1
      have HQ3tx := Lib.hid (HP3.out.store (j := 1) (v := .int .i64 n) (c' := ⟨3, n, [], [], [], 0, 0⟩) rfl)
      go_wp2_with (go_at_call 52; refine (keyed_t _ _ (by omega) (by omega)).mono ?_; rintro e w' ⟨rfl, rfl⟩)
      refine (text_ex _ r ls3 b3 _ HQ3tx.out.rd (HEe.out.below HQ3tx.out.below) hr10 HQ3tx.out.lens).mono ?_
      rintro e w4 ⟨x, ls4, b4, hs4, rfl, hR4, hO4⟩
      have S4 := Lib.hid hs4
      have HP4 := Lib.hid (HQ3tx.out.next hR4 hO4 hs4.mem)
      clear hs4 hR4 hO4
      clear k0_3 k1_3 f1_3
      have k0_4 : w4.cell? ⟨q, 0, none⟩ = some (.int .u8 3) := HP4.out.cell 0
      have k2_4 : w4.cell? ⟨q, 2, none⟩ = some (.string (bs [])) := HP4.out.cell 2
      have f2_4 := HP4.out.free 2
      have HQ4key := Lib.hid (HP4.out.store (j := 2) (v := .string (bs x)) (c' := ⟨3, n, x, [], [], 0, 0⟩) rfl)
      go_wp2_with fail
      refine (text_ex _ r ls4 b4 _ HQ4key.out.rd (HEe.out.below HQ4key.out.below) hr10 HQ4key.out.lens).mono ?_
      rintro e w5 ⟨z, ls5, b5, hs5, rfl, hR5, hO5⟩
      have S5 := Lib.hid hs5
      have HP5 := Lib.hid (HQ4key.out.next hR5 hO5 hs5.mem)
      clear hs5 hR5 hO5
      clear k0_4 k2_4 f2_4
      have k0_5 : w5.cell? ⟨q, 0, none⟩ = some (.int .u8 3) := HP5.out.cell 0
      have k4_5 : w5.cell? ⟨q, 4, none⟩ = some (.string (bs [])) := HP5.out.cell 4
      have f4_5 := HP5.out.free 4
      have HQ5va := Lib.hid (HP5.out.store (j := 4) (v := .string (bs z)) (c' := ⟨3, n, x, [], z, 0, 0⟩) rfl)
      go_wp2_with fail
      have HD := Lib.hid (done_any _ r ls5 b5 _ HQ5va.out.rd)
      have HPARSE := Lib.hid (parse_3 Hsp.out Hkd.out S3.out S4.out S5.out)
      refine HD.out.mono ?_
      rintro e w' ⟨rfl, hw⟩
      clear k0_5 k4_5 f4_5
      have HF := Lib.hid (hw ▸ HQ5va.out)
      clear hw HD
      have r0 := HF.out.rcell 0
      have r1 := HF.out.rcell 1
      have r2 := HF.out.rcell 2
      have r3 := HF.out.rcell 3
      have r4 := HF.out.rcell 4
      have r5 := HF.out.rcell 5
      have r6 := HF.out.rcell 6
      simp only [callCells, noCall, List.getElem?_toArray, List.getElem?_cons_zero, List.getElem?_cons_succ] at r0 r1 r2 r3 r4 r5 r6
      have g0 := HF.out.rfree 0
      have g1 := HF.out.rfree 1
      have g2 := HF.out.rfree 2
      have g3 := HF.out.rfree 3
      have g4 := HF.out.rfree 4
      have g5 := HF.out.rfree 5
      have g6 := HF.out.rfree 6
      have k0 : w'.cell? ⟨q, 0, none⟩ = some (.int .u8 3) := HF.out.cell 0
      have k1 : w'.cell? ⟨q, 1, none⟩ = some (.int .i64 n) := HF.out.cell 1
      have k2 : w'.cell? ⟨q, 2, none⟩ = some (.string (bs x)) := HF.out.cell 2
      have k3 : w'.cell? ⟨q, 3, none⟩ = some (.string (bs [])) := HF.out.cell 3
      have k4 : w'.cell? ⟨q, 4, none⟩ = some (.string (bs z)) := HF.out.cell 4
      have k5 : w'.cell? ⟨q, 5, none⟩ = some (.int .i64 0) := HF.out.cell 5
      have k6 : w'.cell? ⟨q, 6, none⟩ = some (.int .u8 0) := HF.out.cell 6
      cases hd : (!b5 && decide (ls5 = []))
      · go_wp2_with fail
        refine bodyPost_ret (v := .tuple #[callV noCall, .int .i64 4]) ?_ rfl (ParseRet.none (by rw [HPARSE.out, hd]; rfl) ?_)
        · exact results_parse rfl rfl (heap7 HF.out.res noCall)
        · exact (((((((HF.out.below.setCell (p := ⟨_, 0, none⟩) (Nat.le_refl _) _).setCell (p := ⟨_, 1, none⟩) (Nat.le_refl _) _).setCell (p := ⟨_, 2, none⟩) (Nat.le_refl _) _).setCell (p := ⟨_, 3, none⟩) (Nat.le_refl _) _).setCell (p := ⟨_, 4, none⟩) (Nat.le_refl _) _).setCell (p := ⟨_, 5, none⟩) (Nat.le_refl _) _).setCell (p := ⟨_, 6, none⟩) (Nat.le_refl _) _)
      · have Hd := Lib.hid hd
        clear hd k0 k1 k2 k3 k4 k5 k6 r0 r1 r2 r3 r4 r5 r6 g0 g1 g2 g3 g4 g5 g6
        have k0 : w'.cell? ⟨q, 0, none⟩ = some (.int .u8 3) := HF.out.cell 0
        have k1 : w'.cell? ⟨q, 1, none⟩ = some (.int .i64 n) := HF.out.cell 1
        have k2 : w'.cell? ⟨q, 2, none⟩ = some (.string (bs x)) := HF.out.cell 2
        have k3 : w'.cell? ⟨q, 3, none⟩ = some (.string (bs [])) := HF.out.cell 3
        have k4 : w'.cell? ⟨q, 4, none⟩ = some (.string (bs z)) := HF.out.cell 4
        have k5 : w'.cell? ⟨q, 5, none⟩ = some (.int .i64 0) := HF.out.cell 5
        have k6 : w'.cell? ⟨q, 6, none⟩ = some (.int .u8 0) := HF.out.cell 6
        have hmy := may_any ⟨3, n, x, [], z, 0, 0⟩ w'
        cases hm : mayF ⟨3, n, x, [], z, 0, 0⟩
        · have hmn : mayN ⟨3, n, x, [], z, 0, 0⟩ = 1 := by rw [mayN, hm]; rfl
          rw [hmn] at hmy
          have HM := Lib.hid hmy
          have Hm := Lib.hid hm
          clear hmy hm hmn
          go_wp2_with fail
          refine HM.out.mono ?_
          rintro e w2 ⟨rfl, hb⟩
          have HG := Lib.hid (HF.out.quiet hb)
          clear hb HM k0 k1 k2 k3 k4 k5 k6
          have r0 := HG.out.rcell 0
          have r1 := HG.out.rcell 1
          have r2 := HG.out.rcell 2
          have r3 := HG.out.rcell 3
          have r4 := HG.out.rcell 4
          have r5 := HG.out.rcell 5
          have r6 := HG.out.rcell 6
          simp only [callCells, noCall, List.getElem?_toArray, List.getElem?_cons_zero, List.getElem?_cons_succ] at r0 r1 r2 r3 r4 r5 r6
          have g0 := HG.out.rfree 0
          have g1 := HG.out.rfree 1
          have g2 := HG.out.rfree 2
          have g3 := HG.out.rfree 3
          have g4 := HG.out.rfree 4
          have g5 := HG.out.rfree 5
          have g6 := HG.out.rfree 6
          go_wp2_with fail
          refine bodyPost_ret (v := .tuple #[callV noCall, .int .i64 4]) ?_ rfl (ParseRet.none (by rw [HPARSE.out, Hd.out, Hm.out]; rfl) ?_)
          · exact results_parse rfl rfl (heap7 HG.out.res noCall)
          · exact (((((((HG.out.below.setCell (p := ⟨_, 0, none⟩) (Nat.le_refl _) _).setCell (p := ⟨_, 1, none⟩) (Nat.le_refl _) _).setCell (p := ⟨_, 2, none⟩) (Nat.le_refl _) _).setCell (p := ⟨_, 3, none⟩) (Nat.le_refl _) _).setCell (p := ⟨_, 4, none⟩) (Nat.le_refl _) _).setCell (p := ⟨_, 5, none⟩) (Nat.le_refl _) _).setCell (p := ⟨_, 6, none⟩) (Nat.le_refl _) _)
        · have hmn : mayN ⟨3, n, x, [], z, 0, 0⟩ = 0 := by rw [mayN, hm]; rfl
          rw [hmn] at hmy
          have HM := Lib.hid hmy
          have Hm := Lib.hid hm
          clear hmy hm hmn
          go_wp2_with fail
          refine HM.out.mono ?_
          rintro e w2 ⟨rfl, hb⟩
          have HG := Lib.hid (HF.out.quiet hb)
          clear hb HM k0 k1 k2 k3 k4 k5 k6
          have r0 := HG.out.rcell 0
          have r1 := HG.out.rcell 1
          have r2 := HG.out.rcell 2
          have r3 := HG.out.rcell 3
          have r4 := HG.out.rcell 4
          have r5 := HG.out.rcell 5
          have r6 := HG.out.rcell 6
          simp only [callCells, noCall, List.getElem?_toArray, List.getElem?_cons_zero, List.getElem?_cons_succ] at r0 r1 r2 r3 r4 r5 r6
          have g0 := HG.out.rfree 0
          have g1 := HG.out.rfree 1
          have g2 := HG.out.rfree 2
          have g3 := HG.out.rfree 3
          have g4 := HG.out.rfree 4
          have g5 := HG.out.rfree 5
          have g6 := HG.out.rfree 6
          have k0 : w2.cell? ⟨q, 0, none⟩ = some (.int .u8 3) := HG.out.cell 0
          have k1 : w2.cell? ⟨q, 1, none⟩ = some (.int .i64 n) := HG.out.cell 1
          have k2 : w2.cell? ⟨q, 2, none⟩ = some (.string (bs x)) := HG.out.cell 2
          have k3 : w2.cell? ⟨q, 3, none⟩ = some (.string (bs [])) := HG.out.cell 3
          have k4 : w2.cell? ⟨q, 4, none⟩ = some (.string (bs z)) := HG.out.cell 4
          have k5 : w2.cell? ⟨q, 5, none⟩ = some (.int .i64 0) := HG.out.cell 5
          have k6 : w2.cell? ⟨q, 6, none⟩ = some (.int .u8 0) := HG.out.cell 6
          go_wp2_with fail
          refine bodyPost_ret (v := .tuple #[callV ⟨3, n, x, [], z, 0, 0⟩, .int .i64 0]) ?_ rfl (ParseRet.some (by rw [HPARSE.out, Hd.out, Hm.out]; rfl) ?_)
          · exact results_parse rfl rfl (heap7 HG.out.res ⟨3, n, x, [], z, 0, 0⟩)
          · exact (((((((HG.out.below.setCell (p := ⟨_, 0, none⟩) (Nat.le_refl _) _).setCell (p := ⟨_, 1, none⟩) (Nat.le_refl _) _).setCell (p := ⟨_, 2, none⟩) (Nat.le_refl _) _).setCell (p := ⟨_, 3, none⟩) (Nat.le_refl _) _).setCell (p := ⟨_, 4, none⟩) (Nat.le_refl _) _).setCell (p := ⟨_, 5, none⟩) (Nat.le_refl _) _).setCell (p := ⟨_, 6, none⟩) (Nat.le_refl _) _)
    by_cases h9 : k = 9
    · subst h9
      have k0_2 : wc.cell? ⟨q, 0, none⟩ = some (.int .u8 9) := HP2.out.cell 0
      go_wp2_with (first | (go_at_call 19; refine (needs_f _ _ (by omega)).mono ?_; rintro e w' ⟨rfl, rfl⟩) | (go_at_call 52; refine (keyed_f _ _ (by omega)).mono ?_; rintro e w' ⟨rfl, rfl⟩))
      refine (number_ex _ r ws false _ HP2.out.rd (HEe.out.below HP2.out.below) hr10 HP2.out.lens).mono ?_
      rintro e w3 ⟨n, ls3, b3, hs3, rfl, hR3, hO3⟩
      have S3 := Lib.hid hs3
      have HP3 := Lib.hid (HP2.out.next hR3 hO3 hs3.mem)
      clear hs3 hR3 hO3
      clear k0_2
      have k0_3 : w3.cell? ⟨q, 0, none⟩ = some (.int .u8 9) := HP3.out.cell 0
      have k6_3 : w3.cell? ⟨q, 6, none⟩ = some (.int .u8 0) := HP3.out.cell 6
      have f6_3 := HP3.out.free 6
      have hn1 := S3.out.2.2.2
      have hn2 := hn1.1
      have hn3 := hn1.2
      clear hn1
      obtain ⟨t, ht⟩ : ∃ t : Nat, n % 256 = (t : Int) := ⟨(n % 256).toNat, by omega⟩
      have Ht := Lib.hid ht
      clear ht
      have HQ3eng := Lib.hid (HP3.out.store (j := 6) (v := .int .u8 t) (c' := ⟨9, 0, [], [], [], 0, t⟩) rfl)
      cases hb3 : b3
      · have S3b := Lib.hid (hb3 ▸ S3.out)
        rw [hb3] at HQ3eng HP3
        clear hb3
        obtain ⟨rc, rf⟩ := HQ3eng.out.rd.cell1
        have HB := Lib.hid (HQ3eng.out.setBad (((t : Int) != n)))
        have rc3 := HP3.out.rd.cell1
        skip
        obtain ⟨rc3, rf3⟩ := rc3
        go_wp2_with fail
        simp only [Ht.out]
        have HD := Lib.hid (done_any _ r ls3 ((t : Int) != n) _ HB.out.rd)
        have HPARSE := Lib.hid (parse_9f Hsp.out Hkd.out S3b.out Ht.out)
        refine HD.out.mono ?_
        rintro e w' ⟨rfl, hw⟩
        clear k0_3 k6_3 f6_3
        have HF := Lib.hid (hw ▸ HB.out)
        clear hw HD
        have r0 := HF.out.rcell 0
        have r1 := HF.out.rcell 1
        have r2 := HF.out.rcell 2
        have r3 := HF.out.rcell 3
        have r4 := HF.out.rcell 4
        have r5 := HF.out.rcell 5
        have r6 := HF.out.rcell 6
        simp only [callCells, noCall, List.getElem?_toArray, List.getElem?_cons_zero, List.getElem?_cons_succ] at r0 r1 r2 r3 r4 r5 r6
        have g0 := HF.out.rfree 0
        have g1 := HF.out.rfree 1
        have g2 := HF.out.rfree 2
        have g3 := HF.out.rfree 3
        have g4 := HF.out.rfree 4
        have g5 := HF.out.rfree 5
        have g6 := HF.out.rfree 6
        have k0 : w'.cell? ⟨q, 0, none⟩ = some (.int .u8 9) := HF.out.cell 0
        have k1 : w'.cell? ⟨q, 1, none⟩ = some (.int .i64 0) := HF.out.cell 1
        have k2 : w'.cell? ⟨q, 2, none⟩ = some (.string (bs [])) := HF.out.cell 2
        have k3 : w'.cell? ⟨q, 3, none⟩ = some (.string (bs [])) := HF.out.cell 3
        have k4 : w'.cell? ⟨q, 4, none⟩ = some (.string (bs [])) := HF.out.cell 4
        have k5 : w'.cell? ⟨q, 5, none⟩ = some (.int .i64 0) := HF.out.cell 5
        have k6 : w'.cell? ⟨q, 6, none⟩ = some (.int .u8 t) := HF.out.cell 6
        cases hd : (!((t : Int) != n) && decide (ls3 = []))
        · go_wp2_with fail
          refine bodyPost_ret (v := .tuple #[callV noCall, .int .i64 4]) ?_ rfl (ParseRet.none (by rw [HPARSE.out, hd]; rfl) ?_)
          · exact results_parse rfl rfl (heap7 HF.out.res noCall)
          · exact (((((((HF.out.below.setCell (p := ⟨_, 0, none⟩) (Nat.le_refl _) _).setCell (p := ⟨_, 1, none⟩) (Nat.le_refl _) _).setCell (p := ⟨_, 2, none⟩) (Nat.le_refl _) _).setCell (p := ⟨_, 3, none⟩) (Nat.le_refl _) _).setCell (p := ⟨_, 4, none⟩) (Nat.le_refl _) _).setCell (p := ⟨_, 5, none⟩) (Nat.le_refl _) _).setCell (p := ⟨_, 6, none⟩) (Nat.le_refl _) _)
        · have Hd := Lib.hid hd
          clear hd k0 k1 k2 k3 k4 k5 k6 r0 r1 r2 r3 r4 r5 r6 g0 g1 g2 g3 g4 g5 g6
          have k0 : w'.cell? ⟨q, 0, none⟩ = some (.int .u8 9) := HF.out.cell 0
          have k1 : w'.cell? ⟨q, 1, none⟩ = some (.int .i64 0) := HF.out.cell 1
          have k2 : w'.cell? ⟨q, 2, none⟩ = some (.string (bs [])) := HF.out.cell 2
          have k3 : w'.cell? ⟨q, 3, none⟩ = some (.string (bs [])) := HF.out.cell 3
          have k4 : w'.cell? ⟨q, 4, none⟩ = some (.string (bs [])) := HF.out.cell 4
          have k5 : w'.cell? ⟨q, 5, none⟩ = some (.int .i64 0) := HF.out.cell 5
          have k6 : w'.cell? ⟨q, 6, none⟩ = some (.int .u8 t) := HF.out.cell 6
          have hmy := may_any ⟨9, 0, [], [], [], 0, t⟩ w'
          cases hm : mayF ⟨9, 0, [], [], [], 0, t⟩
          · have hmn : mayN ⟨9, 0, [], [], [], 0, t⟩ = 1 := by rw [mayN, hm]; rfl
            rw [hmn] at hmy
            have HM := Lib.hid hmy
            have Hm := Lib.hid hm
            clear hmy hm hmn
            go_wp2_with fail
            refine HM.out.mono ?_
            rintro e w2 ⟨rfl, hb⟩
            have HG := Lib.hid (HF.out.quiet hb)
            clear hb HM k0 k1 k2 k3 k4 k5 k6
            have r0 := HG.out.rcell 0
            have r1 := HG.out.rcell 1
            have r2 := HG.out.rcell 2
            have r3 := HG.out.rcell 3
            have r4 := HG.out.rcell 4
            have r5 := HG.out.rcell 5
            have r6 := HG.out.rcell 6
            simp only [callCells, noCall, List.getElem?_toArray, List.getElem?_cons_zero, List.getElem?_cons_succ] at r0 r1 r2 r3 r4 r5 r6
            have g0 := HG.out.rfree 0
            have g1 := HG.out.rfree 1
            have g2 := HG.out.rfree 2
            have g3 := HG.out.rfree 3
            have g4 := HG.out.rfree 4
            have g5 := HG.out.rfree 5
            have g6 := HG.out.rfree 6
            go_wp2_with fail
            refine bodyPost_ret (v := .tuple #[callV noCall, .int .i64 4]) ?_ rfl (ParseRet.none (by rw [HPARSE.out, Hd.out, Hm.out]; rfl) ?_)
            · exact results_parse rfl rfl (heap7 HG.out.res noCall)
            · exact (((((((HG.out.below.setCell (p := ⟨_, 0, none⟩) (Nat.le_refl _) _).setCell (p := ⟨_, 1, none⟩) (Nat.le_refl _) _).setCell (p := ⟨_, 2, none⟩) (Nat.le_refl _) _).setCell (p := ⟨_, 3, none⟩) (Nat.le_refl _) _).setCell (p := ⟨_, 4, none⟩) (Nat.le_refl _) _).setCell (p := ⟨_, 5, none⟩) (Nat.le_refl _) _).setCell (p := ⟨_, 6, none⟩) (Nat.le_refl _) _)
          · have hmn : mayN ⟨9, 0, [], [], [], 0, t⟩ = 0 := by rw [mayN, hm]; rfl
            rw [hmn] at hmy
            have HM := Lib.hid hmy
            have Hm := Lib.hid hm
            clear hmy hm hmn
            go_wp2_with fail
            refine HM.out.mono ?_
            rintro e w2 ⟨rfl, hb⟩
            have HG := Lib.hid (HF.out.quiet hb)
            clear hb HM k0 k1 k2 k3 k4 k5 k6
            have r0 := HG.out.rcell 0
            have r1 := HG.out.rcell 1
            have r2 := HG.out.rcell 2
            have r3 := HG.out.rcell 3
            have r4 := HG.out.rcell 4
            have r5 := HG.out.rcell 5
            have r6 := HG.out.rcell 6
            simp only [callCells, noCall, List.getElem?_toArray, List.getElem?_cons_zero, List.getElem?_cons_succ] at r0 r1 r2 r3 r4 r5 r6
            have g0 := HG.out.rfree 0
            have g1 := HG.out.rfree 1
            have g2 := HG.out.rfree 2
            have g3 := HG.out.rfree 3
            have g4 := HG.out.rfree 4
            have g5 := HG.out.rfree 5
            have g6 := HG.out.rfree 6
            have k0 : w2.cell? ⟨q, 0, none⟩ = some (.int .u8 9) := HG.out.cell 0
            have k1 : w2.cell? ⟨q, 1, none⟩ = some (.int .i64 0) := HG.out.cell 1
            have k2 : w2.cell? ⟨q, 2, none⟩ = some (.string (bs [])) := HG.out.cell 2
            have k3 : w2.cell? ⟨q, 3, none⟩ = some (.string (bs [])) := HG.out.cell 3
            have k4 : w2.cell? ⟨q, 4, none⟩ = some (.string (bs [])) := HG.out.cell 4
            have k5 : w2.cell? ⟨q, 5, none⟩ = some (.int .i64 0) := HG.out.cell 5
            have k6 : w2.cell? ⟨q, 6, none⟩ = some (.int .u8 t) := HG.out.cell 6
            go_wp2_with fail
            refine bodyPost_ret (v := .tuple #[callV ⟨9, 0, [], [], [], 0, t⟩, .int .i64 0]) ?_ rfl (ParseRet.some (by rw [HPARSE.out, Hd.out, Hm.out]; rfl) ?_)
            · exact results_parse rfl rfl (heap7 HG.out.res ⟨9, 0, [], [], [], 0, t⟩)
            · exact (((((((HG.out.below.setCell (p := ⟨_, 0, none⟩) (Nat.le_refl _) _).setCell (p := ⟨_, 1, none⟩) (Nat.le_refl _) _).setCell (p := ⟨_, 2, none⟩) (Nat.le_refl _) _).setCell (p := ⟨_, 3, none⟩) (Nat.le_refl _) _).setCell (p := ⟨_, 4, none⟩) (Nat.le_refl _) _).setCell (p := ⟨_, 5, none⟩) (Nat.le_refl _) _).setCell (p := ⟨_, 6, none⟩) (Nat.le_refl _) _)
      · have S3b := Lib.hid (hb3 ▸ S3.out)
        rw [hb3] at HQ3eng HP3
        clear hb3
        obtain ⟨rc, rf⟩ := HQ3eng.out.rd.cell1
        have HB := Lib.hid (HQ3eng.out.setBad (true))
        have rc3 := HP3.out.rd.cell1
        skip
        obtain ⟨rc3, rf3⟩ := rc3
        go_wp2_with fail
        simp only [Ht.out]
        have HD := Lib.hid (done_any _ r ls3 true _ HB.out.rd)
        have HPARSE := Lib.hid (parse_9t Hsp.out Hkd.out S3b.out Ht.out)
        refine HD.out.mono ?_
        rintro e w' ⟨rfl, hw⟩
        clear k0_3 k6_3 f6_3
        have HF := Lib.hid (hw ▸ HB.out)
        clear hw HD
        have r0 := HF.out.rcell 0
        have r1 := HF.out.rcell 1
        have r2 := HF.out.rcell 2
        have r3 := HF.out.rcell 3
        have r4 := HF.out.rcell 4
        have r5 := HF.out.rcell 5
        have r6 := HF.out.rcell 6
        simp only [callCells, noCall, List.getElem?_toArray, List.getElem?_cons_zero, List.getElem?_cons_succ] at r0 r1 r2 r3 r4 r5 r6
        have g0 := HF.out.rfree 0
        have g1 := HF.out.rfree 1
        have g2 := HF.out.rfree 2
        have g3 := HF.out.rfree 3
        have g4 := HF.out.rfree 4
        have g5 := HF.out.rfree 5
        have g6 := HF.out.rfree 6
        have k0 : w'.cell? ⟨q, 0, none⟩ = some (.int .u8 9) := HF.out.cell 0
        have k1 : w'.cell? ⟨q, 1, none⟩ = some (.int .i64 0) := HF.out.cell 1
        have k2 : w'.cell? ⟨q, 2, none⟩ = some (.string (bs [])) := HF.out.cell 2
        have k3 : w'.cell? ⟨q, 3, none⟩ = some (.string (bs [])) := HF.out.cell 3
        have k4 : w'.cell? ⟨q, 4, none⟩ = some (.string (bs [])) := HF.out.cell 4
        have k5 : w'.cell? ⟨q, 5, none⟩ = some (.int .i64 0) := HF.out.cell 5
        have k6 : w'.cell? ⟨q, 6, none⟩ = some (.int .u8 t) := HF.out.cell 6
        cases hd : (!true && decide (ls3 = []))
        · go_wp2_with fail
          refine bodyPost_ret (v := .tuple #[callV noCall, .int .i64 4]) ?_ rfl (ParseRet.none (by rw [HPARSE.out, hd]; rfl) ?_)
          · exact results_parse rfl rfl (heap7 HF.out.res noCall)
          · exact (((((((HF.out.below.setCell (p := ⟨_, 0, none⟩) (Nat.le_refl _) _).setCell (p := ⟨_, 1, none⟩) (Nat.le_refl _) _).setCell (p := ⟨_, 2, none⟩) (Nat.le_refl _) _).setCell (p := ⟨_, 3, none⟩) (Nat.le_refl _) _).setCell (p := ⟨_, 4, none⟩) (Nat.le_refl _) _).setCell (p := ⟨_, 5, none⟩) (Nat.le_refl _) _).setCell (p := ⟨_, 6, none⟩) (Nat.le_refl _) _)
        · have Hd := Lib.hid hd
          clear hd k0 k1 k2 k3 k4 k5 k6 r0 r1 r2 r3 r4 r5 r6 g0 g1 g2 g3 g4 g5 g6
          have k0 : w'.cell? ⟨q, 0, none⟩ = some (.int .u8 9) := HF.out.cell 0
          have k1 : w'.cell? ⟨q, 1, none⟩ = some (.int .i64 0) := HF.out.cell 1
          have k2 : w'.cell? ⟨q, 2, none⟩ = some (.string (bs [])) := HF.out.cell 2
          have k3 : w'.cell? ⟨q, 3, none⟩ = some (.string (bs [])) := HF.out.cell 3
          have k4 : w'.cell? ⟨q, 4, none⟩ = some (.string (bs [])) := HF.out.cell 4
          have k5 : w'.cell? ⟨q, 5, none⟩ = some (.int .i64 0) := HF.out.cell 5
          have k6 : w'.cell? ⟨q, 6, none⟩ = some (.int .u8 t) := HF.out.cell 6
          have hmy := may_any ⟨9, 0, [], [], [], 0, t⟩ w'
          cases hm : mayF ⟨9, 0, [], [], [], 0, t⟩
          · have hmn : mayN ⟨9, 0, [], [], [], 0, t⟩ = 1 := by rw [mayN, hm]; rfl
            rw [hmn] at hmy
            have HM := Lib.hid hmy
            have Hm := Lib.hid hm
            clear hmy hm hmn
            go_wp2_with fail
            refine HM.out.mono ?_
            rintro e w2 ⟨rfl, hb⟩
            have HG := Lib.hid (HF.out.quiet hb)
            clear hb HM k0 k1 k2 k3 k4 k5 k6
            have r0 := HG.out.rcell 0
            have r1 := HG.out.rcell 1
            have r2 := HG.out.rcell 2
            have r3 := HG.out.rcell 3
            have r4 := HG.out.rcell 4
            have r5 := HG.out.rcell 5
            have r6 := HG.out.rcell 6
            simp only [callCells, noCall, List.getElem?_toArray, List.getElem?_cons_zero, List.getElem?_cons_succ] at r0 r1 r2 r3 r4 r5 r6
            have g0 := HG.out.rfree 0
            have g1 := HG.out.rfree 1
            have g2 := HG.out.rfree 2
            have g3 := HG.out.rfree 3
            have g4 := HG.out.rfree 4
            have g5 := HG.out.rfree 5
            have g6 := HG.out.rfree 6
            go_wp2_with fail
            refine bodyPost_ret (v := .tuple #[callV noCall, .int .i64 4]) ?_ rfl (ParseRet.none (by rw [HPARSE.out, Hd.out, Hm.out]; rfl) ?_)
            · exact results_parse rfl rfl (heap7 HG.out.res noCall)
            · exact (((((((HG.out.below.setCell (p := ⟨_, 0, none⟩) (Nat.le_refl _) _).setCell (p := ⟨_, 1, none⟩) (Nat.le_refl _) _).setCell (p := ⟨_, 2, none⟩) (Nat.le_refl _) _).setCell (p := ⟨_, 3, none⟩) (Nat.le_refl _) _).setCell (p := ⟨_, 4, none⟩) (Nat.le_refl _) _).setCell (p := ⟨_, 5, none⟩) (Nat.le_refl _) _).setCell (p := ⟨_, 6, none⟩) (Nat.le_refl _) _)
          · have hmn : mayN ⟨9, 0, [], [], [], 0, t⟩ = 0 := by rw [mayN, hm]; rfl
            rw [hmn] at hmy
            have HM := Lib.hid hmy
            have Hm := Lib.hid hm
            clear hmy hm hmn
            go_wp2_with fail
            refine HM.out.mono ?_
            rintro e w2 ⟨rfl, hb⟩
            have HG := Lib.hid (HF.out.quiet hb)
            clear hb HM k0 k1 k2 k3 k4 k5 k6
            have r0 := HG.out.rcell 0
            have r1 := HG.out.rcell 1
            have r2 := HG.out.rcell 2
            have r3 := HG.out.rcell 3
            have r4 := HG.out.rcell 4
            have r5 := HG.out.rcell 5
            have r6 := HG.out.rcell 6
            simp only [callCells, noCall, List.getElem?_toArray, List.getElem?_cons_zero, List.getElem?_cons_succ] at r0 r1 r2 r3 r4 r5 r6
            have g0 := HG.out.rfree 0
            have g1 := HG.out.rfree 1
            have g2 := HG.out.rfree 2
            have g3 := HG.out.rfree 3
            have g4 := HG.out.rfree 4
            have g5 := HG.out.rfree 5
            have g6 := HG.out.rfree 6
            have k0 : w2.cell? ⟨q, 0, none⟩ = some (.int .u8 9) := HG.out.cell 0
            have k1 : w2.cell? ⟨q, 1, none⟩ = some (.int .i64 0) := HG.out.cell 1
            have k2 : w2.cell? ⟨q, 2, none⟩ = some (.string (bs [])) := HG.out.cell 2
            have k3 : w2.cell? ⟨q, 3, none⟩ = some (.string (bs [])) := HG.out.cell 3
            have k4 : w2.cell? ⟨q, 4, none⟩ = some (.string (bs [])) := HG.out.cell 4
            have k5 : w2.cell? ⟨q, 5, none⟩ = some (.int .i64 0) := HG.out.cell 5
            have k6 : w2.cell? ⟨q, 6, none⟩ = some (.int .u8 t) := HG.out.cell 6
            go_wp2_with fail
            refine bodyPost_ret (v := .tuple #[callV ⟨9, 0, [], [], [], 0, t⟩, .int .i64 0]) ?_ rfl (ParseRet.some (by rw [HPARSE.out, Hd.out, Hm.out]; rfl) ?_)
            · exact results_parse rfl rfl (heap7 HG.out.res ⟨9, 0, [], [], [], 0, t⟩)
            · exact (((((((HG.out.below.setCell (p := ⟨_, 0, none⟩) (Nat.le_refl _) _).setCell (p := ⟨_, 1, none⟩) (Nat.le_refl _) _).setCell (p := ⟨_, 2, none⟩) (Nat.le_refl _) _).setCell (p := ⟨_, 3, none⟩) (Nat.le_refl _) _).setCell (p := ⟨_, 4, none⟩) (Nat.le_refl _) _).setCell (p := ⟨_, 5, none⟩) (Nat.le_refl _) _).setCell (p := ⟨_, 6, none⟩) (Nat.le_refl _) _)
    have n5 : ¬ (k : Int) = 5 := by omega
    have n3 : ¬ (k : Int) = 3 := by omega
    have n9 : ¬ (k : Int) = 9 := by omega
    by_cases hg : k = 2 ∨ k = 4
    · have hg1 : 2 ≤ k := by omega
      have hg2 : k ≤ 5 := by omega
      have Hg := Lib.hid hg
      clear hg h5 h3 h9
      have k0_2 : wc.cell? ⟨q, 0, none⟩ = some (.int .u8 k) := HP2.out.cell 0
      go_wp2_with (go_at_call 19; refine (needs_t _ _ (by omega) (by omega)).mono ?_; rintro e w' ⟨rfl, rfl⟩)
      refine (number_ex _ r ws false _ HP2.out.rd (HEe.out.below HP2.out.below) hr10 HP2.out.lens).mono ?_
      rintro e w3 ⟨n, ls3, b3, hs3, rfl, hR3, hO3⟩
      have S3 := Lib.hid hs3
      have HP3 := Lib.hid (HP2.out.next hR3 hO3 hs3.mem)
      clear hs3 hR3 hO3
      clear k0_2
      have k0_3 : w3.cell? ⟨q, 0, none⟩ = some (.int .u8 k) := HP3.out.cell 0
      have k1_3 : w3.cell? ⟨q, 1, none⟩ = some (.int .i64 0) := HP3.out.cell 1
      have f1_3 := HP3.out.free 1
      have HQ3tx := Lib.hid (HP3.out.store (j := 1) (v := .int .i64 n) (c' := ⟨k, n, [], [], [], 0, 0⟩) rfl)
      go_wp2_with (go_at_call 52; refine (keyed_t _ _ (by omega) (by omega)).mono ?_; rintro e w' ⟨rfl, rfl⟩)
      refine (text_ex _ r ls3 b3 _ HQ3tx.out.rd (HEe.out.below HQ3tx.out.below) hr10 HQ3tx.out.lens).mono ?_
      rintro e w4 ⟨x, ls4, b4, hs4, rfl, hR4, hO4⟩
      have S4 := Lib.hid hs4
      have HP4 := Lib.hid (HQ3tx.out.next hR4 hO4 hs4.mem)
      clear hs4 hR4 hO4
      clear k0_3 k1_3 f1_3
      have k0_4 : w4.cell? ⟨q, 0, none⟩ = some (.int .u8 k) := HP4.out.cell 0
      have k2_4 : w4.cell? ⟨q, 2, none⟩ = some (.string (bs [])) := HP4.out.cell 2
      have f2_4 := HP4.out.free 2
      have HQ4key := Lib.hid (HP4.out.store (j := 2) (v := .string (bs x)) (c' := ⟨k, n, x, [], [], 0, 0⟩) rfl)
      go_wp2_with fail
      have HD := Lib.hid (done_any _ r ls4 b4 _ HQ4key.out.rd)
      have HPARSE := Lib.hid (parse_g Hsp.out Hkd.out Hg.out S3.out S4.out)
      refine HD.out.mono ?_
      rintro e w' ⟨rfl, hw⟩
      clear k0_4 k2_4 f2_4
      have HF := Lib.hid (hw ▸ HQ4key.out)
      clear hw HD
      have r0 := HF.out.rcell 0
      have r1 := HF.out.rcell 1
      have r2 := HF.out.rcell 2
      have r3 := HF.out.rcell 3
      have r4 := HF.out.rcell 4
      have r5 := HF.out.rcell 5
      have r6 := HF.out.rcell 6
      simp only [callCells, noCall, List.getElem?_toArray, List.getElem?_cons_zero, List.getElem?_cons_succ] at r0 r1 r2 r3 r4 r5 r6
      have g0 := HF.out.rfree 0
      have g1 := HF.out.rfree 1
      have g2 := HF.out.rfree 2
      have g3 := HF.out.rfree 3
      have g4 := HF.out.rfree 4
      have g5 := HF.out.rfree 5
      have g6 := HF.out.rfree 6
      have k0 : w'.cell? ⟨q, 0, none⟩ = some (.int .u8 k) := HF.out.cell 0
      have k1 : w'.cell? ⟨q, 1, none⟩ = some (.int .i64 n) := HF.out.cell 1
      have k2 : w'.cell? ⟨q, 2, none⟩ = some (.string (bs x)) := HF.out.cell 2
      have k3 : w'.cell? ⟨q, 3, none⟩ = some (.string (bs [])) := HF.out.cell 3
      have k4 : w'.cell? ⟨q, 4, none⟩ = some (.string (bs [])) := HF.out.cell 4
      have k5 : w'.cell? ⟨q, 5, none⟩ = some (.int .i64 0) := HF.out.cell 5
      have k6 : w'.cell? ⟨q, 6, none⟩ = some (.int .u8 0) := HF.out.cell 6
      cases hd : (!b4 && decide (ls4 = []))
      · go_wp2_with fail
        refine bodyPost_ret (v := .tuple #[callV noCall, .int .i64 4]) ?_ rfl (ParseRet.none (by rw [HPARSE.out, hd]; rfl) ?_)
        · exact results_parse rfl rfl (heap7 HF.out.res noCall)
        · exact (((((((HF.out.below.setCell (p := ⟨_, 0, none⟩) (Nat.le_refl _) _).setCell (p := ⟨_, 1, none⟩) (Nat.le_refl _) _).setCell (p := ⟨_, 2, none⟩) (Nat.le_refl _) _).setCell (p := ⟨_, 3, none⟩) (Nat.le_refl _) _).setCell (p := ⟨_, 4, none⟩) (Nat.le_refl _) _).setCell (p := ⟨_, 5, none⟩) (Nat.le_refl _) _).setCell (p := ⟨_, 6, none⟩) (Nat.le_refl _) _)
      · have Hd := Lib.hid hd
        clear hd k0 k1 k2 k3 k4 k5 k6 r0 r1 r2 r3 r4 r5 r6 g0 g1 g2 g3 g4 g5 g6
        have k0 : w'.cell? ⟨q, 0, none⟩ = some (.int .u8 k) := HF.out.cell 0
        have k1 : w'.cell? ⟨q, 1, none⟩ = some (.int .i64 n) := HF.out.cell 1
        have k2 : w'.cell? ⟨q, 2, none⟩ = some (.string (bs x)) := HF.out.cell 2
        have k3 : w'.cell? ⟨q, 3, none⟩ = some (.string (bs [])) := HF.out.cell 3
        have k4 : w'.cell? ⟨q, 4, none⟩ = some (.string (bs [])) := HF.out.cell 4
        have k5 : w'.cell? ⟨q, 5, none⟩ = some (.int .i64 0) := HF.out.cell 5
        have k6 : w'.cell? ⟨q, 6, none⟩ = some (.int .u8 0) := HF.out.cell 6
        have hmy := may_any ⟨k, n, x, [], [], 0, 0⟩ w'
        cases hm : mayF ⟨k, n, x, [], [], 0, 0⟩
        · have hmn : mayN ⟨k, n, x, [], [], 0, 0⟩ = 1 := by rw [mayN, hm]; rfl
          rw [hmn] at hmy
          have HM := Lib.hid hmy
          have Hm := Lib.hid hm
          clear hmy hm hmn
          go_wp2_with fail
          refine HM.out.mono ?_
          rintro e w2 ⟨rfl, hb⟩
          have HG := Lib.hid (HF.out.quiet hb)
          clear hb HM k0 k1 k2 k3 k4 k5 k6
          have r0 := HG.out.rcell 0
          have r1 := HG.out.rcell 1
          have r2 := HG.out.rcell 2
          have r3 := HG.out.rcell 3
          have r4 := HG.out.rcell 4
          have r5 := HG.out.rcell 5
          have r6 := HG.out.rcell 6
          simp only [callCells, noCall, List.getElem?_toArray, List.getElem?_cons_zero, List.getElem?_cons_succ] at r0 r1 r2 r3 r4 r5 r6
          have g0 := HG.out.rfree 0
          have g1 := HG.out.rfree 1
          have g2 := HG.out.rfree 2
          have g3 := HG.out.rfree 3
          have g4 := HG.out.rfree 4
          have g5 := HG.out.rfree 5
          have g6 := HG.out.rfree 6
          go_wp2_with fail
          refine bodyPost_ret (v := .tuple #[callV noCall, .int .i64 4]) ?_ rfl (ParseRet.none (by rw [HPARSE.out, Hd.out, Hm.out]; rfl) ?_)
          · exact results_parse rfl rfl (heap7 HG.out.res noCall)
          · exact (((((((HG.out.below.setCell (p := ⟨_, 0, none⟩) (Nat.le_refl _) _).setCell (p := ⟨_, 1, none⟩) (Nat.le_refl _) _).setCell (p := ⟨_, 2, none⟩) (Nat.le_refl _) _).setCell (p := ⟨_, 3, none⟩) (Nat.le_refl _) _).setCell (p := ⟨_, 4, none⟩) (Nat.le_refl _) _).setCell (p := ⟨_, 5, none⟩) (Nat.le_refl _) _).setCell (p := ⟨_, 6, none⟩) (Nat.le_refl _) _)
        · have hmn : mayN ⟨k, n, x, [], [], 0, 0⟩ = 0 := by rw [mayN, hm]; rfl
          rw [hmn] at hmy
          have HM := Lib.hid hmy
          have Hm := Lib.hid hm
          clear hmy hm hmn
          go_wp2_with fail
          refine HM.out.mono ?_
          rintro e w2 ⟨rfl, hb⟩
          have HG := Lib.hid (HF.out.quiet hb)
          clear hb HM k0 k1 k2 k3 k4 k5 k6
          have r0 := HG.out.rcell 0
          have r1 := HG.out.rcell 1
          have r2 := HG.out.rcell 2
          have r3 := HG.out.rcell 3
          have r4 := HG.out.rcell 4
          have r5 := HG.out.rcell 5
          have r6 := HG.out.rcell 6
          simp only [callCells, noCall, List.getElem?_toArray, List.getElem?_cons_zero, List.getElem?_cons_succ] at r0 r1 r2 r3 r4 r5 r6
          have g0 := HG.out.rfree 0
          have g1 := HG.out.rfree 1
          have g2 := HG.out.rfree 2
          have g3 := HG.out.rfree 3
          have g4 := HG.out.rfree 4
          have g5 := HG.out.rfree 5
          have g6 := HG.out.rfree 6
          have k0 : w2.cell? ⟨q, 0, none⟩ = some (.int .u8 k) := HG.out.cell 0
          have k1 : w2.cell? ⟨q, 1, none⟩ = some (.int .i64 n) := HG.out.cell 1
          have k2 : w2.cell? ⟨q, 2, none⟩ = some (.string (bs x)) := HG.out.cell 2
          have k3 : w2.cell? ⟨q, 3, none⟩ = some (.string (bs [])) := HG.out.cell 3
          have k4 : w2.cell? ⟨q, 4, none⟩ = some (.string (bs [])) := HG.out.cell 4
          have k5 : w2.cell? ⟨q, 5, none⟩ = some (.int .i64 0) := HG.out.cell 5
          have k6 : w2.cell? ⟨q, 6, none⟩ = some (.int .u8 0) := HG.out.cell 6
          go_wp2_with fail
          refine bodyPost_ret (v := .tuple #[callV ⟨k, n, x, [], [], 0, 0⟩, .int .i64 0]) ?_ rfl (ParseRet.some (by rw [HPARSE.out, Hd.out, Hm.out]; rfl) ?_)
          · exact results_parse rfl rfl (heap7 HG.out.res ⟨k, n, x, [], [], 0, 0⟩)
          · exact (((((((HG.out.below.setCell (p := ⟨_, 0, none⟩) (Nat.le_refl _) _).setCell (p := ⟨_, 1, none⟩) (Nat.le_refl _) _).setCell (p := ⟨_, 2, none⟩) (Nat.le_refl _) _).setCell (p := ⟨_, 3, none⟩) (Nat.le_refl _) _).setCell (p := ⟨_, 4, none⟩) (Nat.le_refl _) _).setCell (p := ⟨_, 5, none⟩) (Nat.le_refl _) _).setCell (p := ⟨_, 6, none⟩) (Nat.le_refl _) _)
    by_cases he : k = 6 ∨ k = 7
    · have hg1 : 6 ≤ k := by omega
      have hg2 : k ≤ 7 := by omega
      clear he hg h5 h3 h9
      have k0_2 : wc.cell? ⟨q, 0, none⟩ = some (.int .u8 k) := HP2.out.cell 0
      go_wp2_with (go_at_call 19; refine (needs_t _ _ (by omega) (by omega)).mono ?_; rintro e w' ⟨rfl, rfl⟩)
      refine (number_ex _ r ws false _ HP2.out.rd (HEe.out.below HP2.out.below) hr10 HP2.out.lens).mono ?_
      rintro e w3 ⟨n, ls3, b3, hs3, rfl, hR3, hO3⟩
      have S3 := Lib.hid hs3
      have HP3 := Lib.hid (HP2.out.next hR3 hO3 hs3.mem)
      clear hs3 hR3 hO3
      clear k0_2
      have k0_3 : w3.cell? ⟨q, 0, none⟩ = some (.int .u8 k) := HP3.out.cell 0
      have k1_3 : w3.cell? ⟨q, 1, none⟩ = some (.int .i64 0) := HP3.out.cell 1
      have f1_3 := HP3.out.free 1
      have HQ3tx := Lib.hid (HP3.out.store (j := 1) (v := .int .i64 n) (c' := ⟨k, n, [], [], [], 0, 0⟩) rfl)
      go_wp2_with (go_at_call 52; refine (keyed_f _ _ (by omega)).mono ?_; rintro e w' ⟨rfl, rfl⟩)
      have HD := Lib.hid (done_any _ r ls3 b3 _ HQ3tx.out.rd)
      have HPARSE := Lib.hid (parse_e Hsp.out Hkd.out (by omega) (by omega) S3.out)
      refine HD.out.mono ?_
      rintro e w' ⟨rfl, hw⟩
      clear k0_3 k1_3 f1_3
      have HF := Lib.hid (hw ▸ HQ3tx.out)
      clear hw HD
      have r0 := HF.out.rcell 0
      have r1 := HF.out.rcell 1
      have r2 := HF.out.rcell 2
      have r3 := HF.out.rcell 3
      have r4 := HF.out.rcell 4
      have r5 := HF.out.rcell 5
      have r6 := HF.out.rcell 6
      simp only [callCells, noCall, List.getElem?_toArray, List.getElem?_cons_zero, List.getElem?_cons_succ] at r0 r1 r2 r3 r4 r5 r6
      have g0 := HF.out.rfree 0
      have g1 := HF.out.rfree 1
      have g2 := HF.out.rfree 2
      have g3 := HF.out.rfree 3
      have g4 := HF.out.rfree 4
      have g5 := HF.out.rfree 5
      have g6 := HF.out.rfree 6
      have k0 : w'.cell? ⟨q, 0, none⟩ = some (.int .u8 k) := HF.out.cell 0
      have k1 : w'.cell? ⟨q, 1, none⟩ = some (.int .i64 n) := HF.out.cell 1
      have k2 : w'.cell? ⟨q, 2, none⟩ = some (.string (bs [])) := HF.out.cell 2
      have k3 : w'.cell? ⟨q, 3, none⟩ = some (.string (bs [])) := HF.out.cell 3
      have k4 : w'.cell? ⟨q, 4, none⟩ = some (.string (bs [])) := HF.out.cell 4
      have k5 : w'.cell? ⟨q, 5, none⟩ = some (.int .i64 0) := HF.out.cell 5
      have k6 : w'.cell? ⟨q, 6, none⟩ = some (.int .u8 0) := HF.out.cell 6
      cases hd : (!b3 && decide (ls3 = []))
      · go_wp2_with fail
        refine bodyPost_ret (v := .tuple #[callV noCall, .int .i64 4]) ?_ rfl (ParseRet.none (by rw [HPARSE.out, hd]; rfl) ?_)
        · exact results_parse rfl rfl (heap7 HF.out.res noCall)
        · exact (((((((HF.out.below.setCell (p := ⟨_, 0, none⟩) (Nat.le_refl _) _).setCell (p := ⟨_, 1, none⟩) (Nat.le_refl _) _).setCell (p := ⟨_, 2, none⟩) (Nat.le_refl _) _).setCell (p := ⟨_, 3, none⟩) (Nat.le_refl _) _).setCell (p := ⟨_, 4, none⟩) (Nat.le_refl _) _).setCell (p := ⟨_, 5, none⟩) (Nat.le_refl _) _).setCell (p := ⟨_, 6, none⟩) (Nat.le_refl _) _)
      · have Hd := Lib.hid hd
        clear hd k0 k1 k2 k3 k4 k5 k6 r0 r1 r2 r3 r4 r5 r6 g0 g1 g2 g3 g4 g5 g6
        have k0 : w'.cell? ⟨q, 0, none⟩ = some (.int .u8 k) := HF.out.cell 0
        have k1 : w'.cell? ⟨q, 1, none⟩ = some (.int .i64 n) := HF.out.cell 1
        have k2 : w'.cell? ⟨q, 2, none⟩ = some (.string (bs [])) := HF.out.cell 2
        have k3 : w'.cell? ⟨q, 3, none⟩ = some (.string (bs [])) := HF.out.cell 3
        have k4 : w'.cell? ⟨q, 4, none⟩ = some (.string (bs [])) := HF.out.cell 4
        have k5 : w'.cell? ⟨q, 5, none⟩ = some (.int .i64 0) := HF.out.cell 5
        have k6 : w'.cell? ⟨q, 6, none⟩ = some (.int .u8 0) := HF.out.cell 6
        have hmy := may_any ⟨k, n, [], [], [], 0, 0⟩ w'
        cases hm : mayF ⟨k, n, [], [], [], 0, 0⟩
        · have hmn : mayN ⟨k, n, [], [], [], 0, 0⟩ = 1 := by rw [mayN, hm]; rfl
          rw [hmn] at hmy
          have HM := Lib.hid hmy
          have Hm := Lib.hid hm
          clear hmy hm hmn
          go_wp2_with fail
          refine HM.out.mono ?_
          rintro e w2 ⟨rfl, hb⟩
          have HG := Lib.hid (HF.out.quiet hb)
          clear hb HM k0 k1 k2 k3 k4 k5 k6
          have r0 := HG.out.rcell 0
          have r1 := HG.out.rcell 1
          have r2 := HG.out.rcell 2
          have r3 := HG.out.rcell 3
          have r4 := HG.out.rcell 4
          have r5 := HG.out.rcell 5
          have r6 := HG.out.rcell 6
          simp only [callCells, noCall, List.getElem?_toArray, List.getElem?_cons_zero, List.getElem?_cons_succ] at r0 r1 r2 r3 r4 r5 r6
          have g0 := HG.out.rfree 0
          have g1 := HG.out.rfree 1
          have g2 := HG.out.rfree 2
          have g3 := HG.out.rfree 3
          have g4 := HG.out.rfree 4
          have g5 := HG.out.rfree 5
          have g6 := HG.out.rfree 6
          go_wp2_with fail
          refine bodyPost_ret (v := .tuple #[callV noCall, .int .i64 4]) ?_ rfl (ParseRet.none (by rw [HPARSE.out, Hd.out, Hm.out]; rfl) ?_)
          · exact results_parse rfl rfl (heap7 HG.out.res noCall)
          · exact (((((((HG.out.below.setCell (p := ⟨_, 0, none⟩) (Nat.le_refl _) _).setCell (p := ⟨_, 1, none⟩) (Nat.le_refl _) _).setCell (p := ⟨_, 2, none⟩) (Nat.le_refl _) _).setCell (p := ⟨_, 3, none⟩) (Nat.le_refl _) _).setCell (p := ⟨_, 4, none⟩) (Nat.le_refl _) _).setCell (p := ⟨_, 5, none⟩) (Nat.le_refl _) _).setCell (p := ⟨_, 6, none⟩) (Nat.le_refl _) _)
        · have hmn : mayN ⟨k, n, [], [], [], 0, 0⟩ = 0 := by rw [mayN, hm]; rfl
          rw [hmn] at hmy
          have HM := Lib.hid hmy
          have Hm := Lib.hid hm
          clear hmy hm hmn
          go_wp2_with fail
          refine HM.out.mono ?_
          rintro e w2 ⟨rfl, hb⟩
          have HG := Lib.hid (HF.out.quiet hb)
          clear hb HM k0 k1 k2 k3 k4 k5 k6
          have r0 := HG.out.rcell 0
          have r1 := HG.out.rcell 1
          have r2 := HG.out.rcell 2
          have r3 := HG.out.rcell 3
          have r4 := HG.out.rcell 4
          have r5 := HG.out.rcell 5
          have r6 := HG.out.rcell 6
          simp only [callCells, noCall, List.getElem?_toArray, List.getElem?_cons_zero, List.getElem?_cons_succ] at r0 r1 r2 r3 r4 r5 r6
          have g0 := HG.out.rfree 0
          have g1 := HG.out.rfree 1
          have g2 := HG.out.rfree 2
          have g3 := HG.out.rfree 3
          have g4 := HG.out.rfree 4
          have g5 := HG.out.rfree 5
          have g6 := HG.out.rfree 6
          have k0 : w2.cell? ⟨q, 0, none⟩ = some (.int .u8 k) := HG.out.cell 0
          have k1 : w2.cell? ⟨q, 1, none⟩ = some (.int .i64 n) := HG.out.cell 1
          have k2 : w2.cell? ⟨q, 2, none⟩ = some (.string (bs [])) := HG.out.cell 2
          have k3 : w2.cell? ⟨q, 3, none⟩ = some (.string (bs [])) := HG.out.cell 3
          have k4 : w2.cell? ⟨q, 4, none⟩ = some (.string (bs [])) := HG.out.cell 4
          have k5 : w2.cell? ⟨q, 5, none⟩ = some (.int .i64 0) := HG.out.cell 5
          have k6 : w2.cell? ⟨q, 6, none⟩ = some (.int .u8 0) := HG.out.cell 6
          go_wp2_with fail
          refine bodyPost_ret (v := .tuple #[callV ⟨k, n, [], [], [], 0, 0⟩, .int .i64 0]) ?_ rfl (ParseRet.some (by rw [HPARSE.out, Hd.out, Hm.out]; rfl) ?_)
          · exact results_parse rfl rfl (heap7 HG.out.res ⟨k, n, [], [], [], 0, 0⟩)
          · exact (((((((HG.out.below.setCell (p := ⟨_, 0, none⟩) (Nat.le_refl _) _).setCell (p := ⟨_, 1, none⟩) (Nat.le_refl _) _).setCell (p := ⟨_, 2, none⟩) (Nat.le_refl _) _).setCell (p := ⟨_, 3, none⟩) (Nat.le_refl _) _).setCell (p := ⟨_, 4, none⟩) (Nat.le_refl _) _).setCell (p := ⟨_, 5, none⟩) (Nat.le_refl _) _).setCell (p := ⟨_, 6, none⟩) (Nat.le_refl _) _)
    · have hp : k < 2 ∨ k = 8 := by omega
      have hp1 : (k : Int) < 2 ∨ 7 < (k : Int) := by omega
      have Hp := Lib.hid hp
      clear hp he hg h5 h3 h9
      have k0_2 : wc.cell? ⟨q, 0, none⟩ = some (.int .u8 k) := HP2.out.cell 0
      go_wp2_with (first | (go_at_call 19; refine (needs_f _ _ (by omega)).mono ?_; rintro e w' ⟨rfl, rfl⟩) | (go_at_call 52; refine (keyed_f _ _ (by omega)).mono ?_; rintro e w' ⟨rfl, rfl⟩))
      have HD := Lib.hid (done_any _ r ws false _ HP2.out.rd)
      have HPARSE := Lib.hid (parse_p Hsp.out Hkd.out Hp.out)
      refine HD.out.mono ?_
      rintro e w' ⟨rfl, hw⟩
      clear k0_2
      have HF := Lib.hid (hw ▸ HP2.out)
      clear hw HD
      have r0 := HF.out.rcell 0
      have r1 := HF.out.rcell 1
      have r2 := HF.out.rcell 2
      have r3 := HF.out.rcell 3
      have r4 := HF.out.rcell 4
      have r5 := HF.out.rcell 5
      have r6 := HF.out.rcell 6
      simp only [callCells, noCall, List.getElem?_toArray, List.getElem?_cons_zero, List.getElem?_cons_succ] at r0 r1 r2 r3 r4 r5 r6
      have g0 := HF.out.rfree 0
      have g1 := HF.out.rfree 1
      have g2 := HF.out.rfree 2
      have g3 := HF.out.rfree 3
      have g4 := HF.out.rfree 4
      have g5 := HF.out.rfree 5
      have g6 := HF.out.rfree 6
      have k0 : w'.cell? ⟨q, 0, none⟩ = some (.int .u8 k) := HF.out.cell 0
      have k1 : w'.cell? ⟨q, 1, none⟩ = some (.int .i64 0) := HF.out.cell 1
      have k2 : w'.cell? ⟨q, 2, none⟩ = some (.string (bs [])) := HF.out.cell 2
      have k3 : w'.cell? ⟨q, 3, none⟩ = some (.string (bs [])) := HF.out.cell 3
      have k4 : w'.cell? ⟨q, 4, none⟩ = some (.string (bs [])) := HF.out.cell 4
      have k5 : w'.cell? ⟨q, 5, none⟩ = some (.int .i64 0) := HF.out.cell 5
      have k6 : w'.cell? ⟨q, 6, none⟩ = some (.int .u8 0) := HF.out.cell 6
      cases hd : (!false && decide (ws = []))
      · go_wp2_with fail
        refine bodyPost_ret (v := .tuple #[callV noCall, .int .i64 4]) ?_ rfl (ParseRet.none (by rw [HPARSE.out, hd]; rfl) ?_)
        · exact results_parse rfl rfl (heap7 HF.out.res noCall)
        · exact (((((((HF.out.below.setCell (p := ⟨_, 0, none⟩) (Nat.le_refl _) _).setCell (p := ⟨_, 1, none⟩) (Nat.le_refl _) _).setCell (p := ⟨_, 2, none⟩) (Nat.le_refl _) _).setCell (p := ⟨_, 3, none⟩) (Nat.le_refl _) _).setCell (p := ⟨_, 4, none⟩) (Nat.le_refl _) _).setCell (p := ⟨_, 5, none⟩) (Nat.le_refl _) _).setCell (p := ⟨_, 6, none⟩) (Nat.le_refl _) _)
      · have Hd := Lib.hid hd
        clear hd k0 k1 k2 k3 k4 k5 k6 r0 r1 r2 r3 r4 r5 r6 g0 g1 g2 g3 g4 g5 g6
        have k0 : w'.cell? ⟨q, 0, none⟩ = some (.int .u8 k) := HF.out.cell 0
        have k1 : w'.cell? ⟨q, 1, none⟩ = some (.int .i64 0) := HF.out.cell 1
        have k2 : w'.cell? ⟨q, 2, none⟩ = some (.string (bs [])) := HF.out.cell 2
        have k3 : w'.cell? ⟨q, 3, none⟩ = some (.string (bs [])) := HF.out.cell 3
        have k4 : w'.cell? ⟨q, 4, none⟩ = some (.string (bs [])) := HF.out.cell 4
        have k5 : w'.cell? ⟨q, 5, none⟩ = some (.int .i64 0) := HF.out.cell 5
        have k6 : w'.cell? ⟨q, 6, none⟩ = some (.int .u8 0) := HF.out.cell 6
        have hmy := may_any ⟨k, 0, [], [], [], 0, 0⟩ w'
        cases hm : mayF ⟨k, 0, [], [], [], 0, 0⟩
        · have hmn : mayN ⟨k, 0, [], [], [], 0, 0⟩ = 1 := by rw [mayN, hm]; rfl
          rw [hmn] at hmy
          have HM := Lib.hid hmy
          have Hm := Lib.hid hm
          clear hmy hm hmn
          go_wp2_with fail
          refine HM.out.mono ?_
          rintro e w2 ⟨rfl, hb⟩
          have HG := Lib.hid (HF.out.quiet hb)
          clear hb HM k0 k1 k2 k3 k4 k5 k6
          have r0 := HG.out.rcell 0
          have r1 := HG.out.rcell 1
          have r2 := HG.out.rcell 2
          have r3 := HG.out.rcell 3
          have r4 := HG.out.rcell 4
          have r5 := HG.out.rcell 5
          have r6 := HG.out.rcell 6
          simp only [callCells, noCall, List.getElem?_toArray, List.getElem?_cons_zero, List.getElem?_cons_succ] at r0 r1 r2 r3 r4 r5 r6
          have g0 := HG.out.rfree 0
          have g1 := HG.out.rfree 1
          have g2 := HG.out.rfree 2
          have g3 := HG.out.rfree 3
          have g4 := HG.out.rfree 4
          have g5 := HG.out.rfree 5
          have g6 := HG.out.rfree 6
          go_wp2_with fail
          refine bodyPost_ret (v := .tuple #[callV noCall, .int .i64 4]) ?_ rfl (ParseRet.none (by rw [HPARSE.out, Hd.out, Hm.out]; rfl) ?_)
          · exact results_parse rfl rfl (heap7 HG.out.res noCall)
          · exact (((((((HG.out.below.setCell (p := ⟨_, 0, none⟩) (Nat.le_refl _) _).setCell (p := ⟨_, 1, none⟩) (Nat.le_refl _) _).setCell (p := ⟨_, 2, none⟩) (Nat.le_refl _) _).setCell (p := ⟨_, 3, none⟩) (Nat.le_refl _) _).setCell (p := ⟨_, 4, none⟩) (Nat.le_refl _) _).setCell (p := ⟨_, 5, none⟩) (Nat.le_refl _) _).setCell (p := ⟨_, 6, none⟩) (Nat.le_refl _) _)
        · have hmn : mayN ⟨k, 0, [], [], [], 0, 0⟩ = 0 := by rw [mayN, hm]; rfl
          rw [hmn] at hmy
          have HM := Lib.hid hmy
          have Hm := Lib.hid hm
          clear hmy hm hmn
          go_wp2_with fail
          refine HM.out.mono ?_
          rintro e w2 ⟨rfl, hb⟩
          have HG := Lib.hid (HF.out.quiet hb)
          clear hb HM k0 k1 k2 k3 k4 k5 k6
          have r0 := HG.out.rcell 0
          have r1 := HG.out.rcell 1
          have r2 := HG.out.rcell 2
          have r3 := HG.out.rcell 3
          have r4 := HG.out.rcell 4
          have r5 := HG.out.rcell 5
          have r6 := HG.out.rcell 6
          simp only [callCells, noCall, List.getElem?_toArray, List.getElem?_cons_zero, List.getElem?_cons_succ] at r0 r1 r2 r3 r4 r5 r6
          have g0 := HG.out.rfree 0
          have g1 := HG.out.rfree 1
          have g2 := HG.out.rfree 2
          have g3 := HG.out.rfree 3
          have g4 := HG.out.rfree 4
          have g5 := HG.out.rfree 5
          have g6 := HG.out.rfree 6
          have k0 : w2.cell? ⟨q, 0, none⟩ = some (.int .u8 k) := HG.out.cell 0
          have k1 : w2.cell? ⟨q, 1, none⟩ = some (.int .i64 0) := HG.out.cell 1
          have k2 : w2.cell? ⟨q, 2, none⟩ = some (.string (bs [])) := HG.out.cell 2
          have k3 : w2.cell? ⟨q, 3, none⟩ = some (.string (bs [])) := HG.out.cell 3
          have k4 : w2.cell? ⟨q, 4, none⟩ = some (.string (bs [])) := HG.out.cell 4
          have k5 : w2.cell? ⟨q, 5, none⟩ = some (.int .i64 0) := HG.out.cell 5
          have k6 : w2.cell? ⟨q, 6, none⟩ = some (.int .u8 0) := HG.out.cell 6
          go_wp2_with fail
          refine bodyPost_ret (v := .tuple #[callV ⟨k, 0, [], [], [], 0, 0⟩, .int .i64 0]) ?_ rfl (ParseRet.some (by rw [HPARSE.out, Hd.out, Hm.out]; rfl) ?_)
          · exact results_parse rfl rfl (heap7 HG.out.res ⟨k, 0, [], [], [], 0, 0⟩)
          · exact (((((((HG.out.below.setCell (p := ⟨_, 0, none⟩) (Nat.le_refl _) _).setCell (p := ⟨_, 1, none⟩) (Nat.le_refl _) _).setCell (p := ⟨_, 2, none⟩) (Nat.le_refl _) _).setCell (p := ⟨_, 3, none⟩) (Nat.le_refl _) _).setCell (p := ⟨_, 4, none⟩) (Nat.le_refl _) _).setCell (p := ⟨_, 5, none⟩) (Nat.le_refl _) _).setCell (p := ⟨_, 6, none⟩) (Nat.le_refl _) _)
end Go.Proofs.YthhhdddojmkgnaaGreatDoor
