/-
  strconv.ParseUint, strings.ToLower at two bytes; (*reader).text, done; call.open.
-/
import Derived.Test.YthhhdddojmkgnaaGreatDoorCallU
import Derived.Deep.RegionLaw
import Derived.Deep.RegionWith
import Derived.Deep.RegionHeld3
namespace Go.Proofs.YthhhdddojmkgnaaGreatDoor
open Go.RowKit

/-- How ParseUint ends: good, or bad. -/
def PUok (x : UInt8) (w : World) (e : Ending) (w' : World) : Prop := Below w.heap.size w w' ∧ e = .returned (.tuple #[.int .u64 (x.toNat : Int), .nilIface])
def PUbad (w : World) (e : Ending) (w' : World) : Prop := Below w.heap.size w w' ∧ ∃ N, e = .returned (.tuple #[.int .u64 0, .iface 116 (.pointer (some ⟨N, 0, none⟩))])

theorem puI_ok (a b : UInt8) (x y : Nat) (w : World) (ha : hexVal a = some x) (hb : hexVal b = some y) :
    Calls Tryz.prog 78 #[.string (bs [a, b]), .int .i64 16, .int .i64 8] w (Ret w (.tuple #[.int .u64 ((16 * x + y : Nat) : Int), .nilIface])) := by
  refine (parseUintI a b w).mono ?_
  rintro e w' ⟨hw, h | h⟩
  · obtain ⟨x', y', hx, hy, rfl⟩ := h
    rw [ha] at hx; rw [hb] at hy
    injection hx with hx; injection hy with hy
    subst hx; subst hy
    exact Ret.of rfl hw
  · rw [ha, hb] at h
    rcases h.1 with h | h <;> cases h
theorem puI_bad (a b : UInt8) (w : World) (h : hexVal a = none ∨ hexVal b = none) :
    Calls Tryz.prog 78 #[.string (bs [a, b]), .int .i64 16, .int .i64 8] w (Ret w (.tuple #[.int .u64 0, .iface 113 (.int .i64 2)])) := by
  refine (parseUintI a b w).mono ?_
  rintro e w' ⟨hw, h' | h'⟩
  · obtain ⟨x', y', hx, hy, rfl⟩ := h'
    rw [hx, hy] at h
    rcases h with h | h <;> cases h
  · rw [h'.2]; exact Ret.of rfl hw

theorem pu_ok (a b : UInt8) (x y : Nat) (w : World) (ha : hexVal a = some x) (hb : hexVal b = some y) :
    Calls Tryz.prog 63 #[.string (bs [a, b]), .int .i64 16, .int .i64 8] w (PUok (pairOf a b).1 w) := by
  have Hc := Lib.hid (fun w => puI_ok a b x y w ha hb)
  have ex : (((pairOf a b).1).toNat : Int) = ((16 * x + y : Nat) : Int) := by
    have h1 := hexVal_lt ha
    have h2 := hexVal_lt hb
    simp only [pairOf, ha, hb]
    rw [UInt8.toNat_ofNat', Nat.mod_eq_of_lt (by omega)]
  have Hx := Lib.hid ex
  clear ex ha hb
  go_enter Tryz.func63, Tryz.ntmps63
  go_wp2_with fail
  refine (Hc.out _).mono ?_
  rintro e w1 ⟨rfl, hb1⟩
  go_wp2
  go_ret2
  exact ⟨hb1, by rw [Hx.out]; rfl⟩

theorem pu_bad (a b : UInt8) (w : World) (he : Env w) (h : hexVal a = none ∨ hexVal b = none) :
    Calls Tryz.prog 63 #[.string (bs [a, b]), .int .i64 16, .int .i64 8] w (PUbad w) := by
  have Hc := Lib.hid (fun w => puI_bad a b w h)
  have HE := Lib.hid he
  clear h he
  go_enter Tryz.func63, Tryz.ntmps63
  go_wp2_with fail
  refine (Hc.out _).mono ?_
  rintro e w1 ⟨rfl, hb1⟩
  have Hb := Lib.hid hb1
  have HE1 := Lib.hid (HE.out.below hb1)
  clear hb1
  go_wp2_with fail
  obtain ⟨te, pe, hv⟩ := HE1.out.syn
  have Hv := Lib.hid hv
  clear hv
  refine (Tryz.strconv_toError_syntax _ (bs [a, b]) _ _ _ _ (by simp [bs_size]) Hv.out (.inr ⟨te, pe, rfl⟩)).mono ?_
  rintro e w2 ⟨N, rfl, _, _, hb2⟩
  go_wp2
  go_ret2
  exact ⟨Hb.out.trans (hb2.mono Hb.out.size), N, rfl⟩

theorem hexVal_ascii {c : UInt8} {x : Nat} (h : hexVal c = some x) : c.toNat < 128 := by
  unfold hexVal at h
  split at h
  · omega
  · split at h
    · omega
    · split at h
      · omega
      · cases h

theorem toLower_hex (a b : UInt8) (x y : Nat) (w : World) (ha : hexVal a = some x) (hb : hexVal b = some y) :
    Calls Tryz.prog 64 #[.string (bs [a, b])] w (Ret w (.string (bs (Lib.toLowerA [a, b])))) := by
  refine (Tryz.strings_ToLower_ascii (bs [a, b]) w (by simp [bs_size]) ?_).mono ?_
  · intro j c hj
    rw [bs_data] at hj
    match j, hj with
    | 0, hj => simp at hj; subst hj; exact hexVal_ascii ha
    | 1, hj => simp at hj; subst hj; exact hexVal_ascii hb
  · rintro e w' ⟨rfl, hw⟩
    rw [bs_data]
    exact Ret.of rfl hw

theorem lowerB_same (c : UInt8) : (Lib.lowerB c = c) ↔ lowHex c = true := by
  have : ∀ i : Fin 256, (Lib.lowerB (UInt8.ofNat i.val) = UInt8.ofNat i.val) ↔ lowHex (UInt8.ofNat i.val) = true := by decide +kernel
  have h := this ⟨c.toNat, c.toNat_lt⟩
  simpa using h
theorem lower_same (a b : UInt8) : (Lib.toLowerA [a, b] == [a, b]) = (lowHex a && lowHex b) := by
  have ha := lowerB_same a
  have hb := lowerB_same b
  simp only [Lib.toLowerA, List.map_cons, List.map_nil]
  rw [Bool.eq_iff_iff]
  simp [ha, hb]

theorem done_any (M r : Nat) (ls : List Bs) (bad : Bool) (w : World) (h : RdAt w M r ls bad) :
    Calls Tryz.prog 40 #[.pointer (some ⟨r, 0, none⟩)] w fun e w' => e = .returned (.bool (!bad && decide (ls = []))) ∧ w = w' := by
  obtain ⟨_, p, cap, h, h1, h2, h3⟩ := h
  obtain ⟨c0, c1, f0, f1⟩ := cell_of_pair h
  clear h h3
  cases bad
  · cases ls with
    | nil =>
      simp only [List.length_nil] at c0
      go_enter Tryz.func40, Tryz.ntmps40
      go_wp2
      go_ret
      simp
    | cons l t =>
      simp only [List.length_cons] at c0
      go_enter Tryz.func40, Tryz.ntmps40
      go_wp2
      go_ret
      simp; omega
  · go_enter Tryz.func40, Tryz.ntmps40
    go_wp2
    go_ret
    simp

def strLen : Value → Nat
  | .string s => s.size
  | _ => 0

theorem Only.trans' {r N : Nat} {a b c : World} (h : Only r a b) (k : Below N b c) (hN : a.heap.size ≤ N) : Only r a c :=
  ⟨k.os.trans h.os, k.tape.trans h.tape, k.output.trans h.output, Nat.le_trans h.size k.size, fun i hi hr => (k.block i (by omega)).trans (h.block i hi hr)⟩

theorem Bld.setOther {w : World} {base b r : Nat} {l : Bs} (h : Bld w base b l) (hr : r ≠ b) (hb : r < base) (o : Nat) (v : Value) : Bld (w.setCell ⟨r, o, none⟩ v) base b l := by
  obtain ⟨p, u, h1, h2, h3⟩ := h
  refine ⟨p, u, by rw [Below.heap_setCell _ _ _ _ (fun e => hr e.symm)]; exact h1, h2, ownsRow_setCell_below h3 hb v⟩

/-- In a round of text's loop: the reader in block r, the builder in block N. -/
structure TextInv (w : World) (M r N : Nat) (s : Bs) (t : List Bs) (b : Bool) (rest out : Bs) (bd : Bool) (wr : World) : Prop where
  rd : RdAt wr M r t bd
  MN : M ≤ N
  size : N < wr.heap.size
  bld : Bld wr (N + 1) N out
  only : Only r w wr
  bad : (bd || (textL rest).2) = (b || (textL s).2)
  val : out ++ (textL rest).1 = (textL s).1
  par : rest.length % 2 = s.length % 2
  len : rest.length + 2 * out.length = s.length

theorem Bld.drew {w : World} {base b : Nat} {l : Bs} (h : Bld w base b l) : Bld w.drew base b l := h
theorem RdAt.drew {w : World} {M r : Nat} {ls : List Bs} {bad : Bool} (h : RdAt w M r ls bad) : RdAt w.drew M r ls bad := h
theorem Only.drew {r : Nat} {w w' : World} (h : Only r w w') : Only r w w'.drew := ⟨h.os, h.tape, h.output, h.size, h.block⟩

theorem TextInv.step {w wr w5 w6 : World} {M r N : Nat} {s t b} {c d : UInt8} {rest' out : Bs} {bd bd' : Bool} {p : UInt8} (h : TextInv w M r N s t b (c :: d :: rest') out bd wr)
    (hp : p = (pairOf c d).1) (hbd : bd' = (bd || (pairOf c d).2)) (h1 : RdAt w5 M r t bd') (h4 : Only r w w5) (hs : N < w5.heap.size) (hB : Bld w6 (N + 1) N (out ++ [p])) (hK : Keep (N + 1) N w5 w6) (hw : w.heap.size ≤ N) :
    TextInv w M r N s t b rest' (out ++ [p]) bd' w6 where
  rd := h1.blocks (fun k hk => hK.block k (by have := h.MN; omega) (by have := h.MN; omega)) hK.size
  MN := h.MN
  size := Nat.lt_of_lt_of_le hs hK.size
  bld := hB
  only := ⟨hK.os.trans h4.os, hK.tape.trans h4.tape, hK.output.trans h4.output, Nat.le_trans h4.size hK.size, fun k hk hr => (hK.block k (by omega) (by omega)).trans (h4.block k hk hr)⟩
  bad := by
    have := h.bad
    simp only [textL] at this
    rw [← this, hbd, Bool.or_assoc]
  val := by
    have := h.val
    simp only [textL] at this
    rw [← this, hp]
    simp
  par := by
    have := h.par
    simp only [List.length_cons] at this
    omega
  len := by
    have := h.len
    simp only [List.length_cons] at this
    simp
    omega

theorem TextInv.fin {w wr w' : World} {M r N : Nat} {s t b} {rest out : Bs} {bd X : Bool} (h : TextInv w M r N s t b rest out bd wr) (hr : rest.length ≤ 1) (hm : s ≠ [45])
    (hX : X = (bd || decide (rest.length = 1) || decide (out.length = 0))) (hw : w.heap.size ≤ N) (hb : Below N (wr.setCell ⟨r, 1, none⟩ (.bool X)) w') :
    RdRet w M r (.string (bs (textOf s).1)) t (b || (textOf s).2) (.returned (.string (bs out))) w' := by
  have e1 : (textL rest).1 = [] ∧ (textL rest).2 = false := by
    match rest, hr with
    | [], _ => exact ⟨rfl, rfl⟩
    | [_], _ => exact ⟨rfl, rfl⟩
  have hv := h.val
  have hbd := h.bad
  rw [e1.1, List.append_nil] at hv
  rw [e1.2, Bool.or_false] at hbd
  have hp := h.par
  have hl := h.len
  have hsz := h.size
  have e2 : (textOf s).1 = out := by rw [textOf, if_neg hm]; exact hv.symm
  have e3 : (b || (textOf s).2) = X := by
    rw [textOf, if_neg hm, hX, hbd]
    have h1 : decide (s.length % 2 = 1) = decide (rest.length = 1) := by
      by_cases hh : rest.length = 1
      · simp [hh]; omega
      · simp [hh]; omega
    by_cases h2 : rest.length = 1
    · simp [h1, h2]
    · have h3 : decide (s.length < 2) = decide (out.length = 0) := by
        by_cases hh : out.length = 0
        · rw [decide_eq_true hh]; simp; omega
        · rw [decide_eq_false hh]; simp; omega
      simp only [h1, h2, h3, decide_false, Bool.or_false, Bool.or_assoc]
  refine ⟨by rw [e2], ?_, ?_⟩
  · rw [e3]
    exact (h.rd.setBad X).blocks (fun k hk => hb.block k (by have := h.MN; omega)) hb.size
  · refine (h.only.trans (Only.setCell r 1 wr (.bool X))).trans' hb hw

theorem pair_ok {c d : UInt8} {x y : Nat} (hx : hexVal c = some x) (hy : hexVal d = some y) : (pairOf c d).2 = !(Lib.toLowerA [c, d] == [c, d]) := by
  rw [lower_same]; simp [pairOf, hx, hy]
theorem pair_bad {c d : UInt8} (h : hexVal c = none ∨ hexVal d = none) : (pairOf c d).2 = true ∧ (pairOf c d).1 = 0 := by
  rcases h with h | h
  · simp [pairOf, h]
  · cases hc : hexVal c <;> simp [pairOf, h, hc]
theorem byte_mod (c : UInt8) : (c.toNat : Int) % 256 = (c.toNat : Int) := by have := c.toNat_lt; omega

set_option maxHeartbeats 4000000 in
theorem text_core (M r : Nat) (s : Bs) (t : List Bs) (b : Bool) (w : World) (hE : Env w) (hr : 10 ≤ r) (hlen : s.length ≤ 1000000000)
    (hN : Calls Tryz.prog 38 #[.pointer (some ⟨r, 0, none⟩)] w (RdRet w M r (.string (bs s)) t b)) :
    Calls Tryz.prog 39 #[.pointer (some ⟨r, 0, none⟩)] w (RdRet w M r (.string (bs (textOf s).1)) t (b || (textOf s).2)) := by
  have HN := Lib.hid hN
  have HE := Lib.hid hE
  clear hN hE
  go_enter Tryz.func39, Tryz.ntmps39
  go_wp2_with fail
  refine HN.out.mono ?_
  rintro e w1 ⟨rfl, hR1, hO1⟩
  have HR1 := Lib.hid hR1
  have HO1 := Lib.hid hO1
  have HE1 := Lib.hid (HE.out.only hO1 hr)
  have hs1 := hO1.size
  have hrl := hR1.lt
  clear hR1 hO1
  by_cases hm : s = [45]
  · subst hm
    go_wp2
    go_ret
    exact ⟨rfl, by simpa [textOf] using HR1.out, HO1.out⟩
  · have hm1 : (s == [45]) = false := by simpa using hm
    have Hm := Lib.hid hm
    clear hm
    go_wp2
    go_loopw [3] (fun v wr => ∃ (rest out : Bs) (bd : Bool), v = .string (bs rest) ∧ rest.length ≤ 1000000000 ∧ Hid (TextInv w M r w1.heap.size s t b rest out bd wr)) (fun v _ => strLen v)
    case atStart =>
      refine ⟨s, [], b, rfl, hlen, ?_⟩
      exact { rd := HR1.out.below ((Below.refl _ _).alloc (Nat.le_refl _) _), MN := HR1.out.1.2, size := by simp, bld := bld_fresh w1 _, only := HO1.out.trans (.of_below ((Below.refl _ _).alloc (Nat.le_refl _) _)), bad := rfl, val := by simp, par := rfl, len := by simp }
    case round =>
      obtain ⟨rest, out, bd, rfl, hrest, HI⟩ := hrel
      match rest, hrest, HI with
      | c :: d :: rest', hrest, HI =>
        have hI := HI.out
        have HE1 := Lib.hid (HE.out.only hI.only hr)
        have hsz := hI.size
        have hlo : out.length ≤ 1000000000 := by have := hI.len; omega
        clear hI
        simp only [List.length_cons] at hrest
        have hsl : ∀ wx, (Instr.slice 9 (.string (bs (c :: d :: rest'))) none (some (.int .i64 2)) none).run Tryz.prog wx = .ok (.string (bs [c, d])) wx := by
          intro wx
          go_simp
          intro h
          omega
        by_cases hg : ∃ x y, hexVal c = some x ∧ hexVal d = some y
        · obtain ⟨x, y, hx, hy⟩ := hg
          have Hx := Lib.hid hx
          have Hy := Lib.hid hy
          clear hx hy
          go_wp2_with fail
          refine (pu_ok c d x y _ Hx.out Hy.out).mono ?_
          rintro e w2 ⟨hb2, rfl⟩
          have HB2 := Lib.hid hb2
          have HR2 := Lib.hid (HI.out.rd.below hb2)
          have HL2 := Lib.hid (HI.out.bld.below hb2)
          have HO2 := Lib.hid (HI.out.only.trans (.of_below hb2))
          have hs2 := hb2.size
          clear hb2
          obtain ⟨c1, f1⟩ := HR2.out.cell1
          cases bd
          · go_wp2_with fail
            refine region_start (n := 20) (l := #[false, false, false, false, false, false, false, false, false, false, false, false, false, false, false, false, false, false, false, false]) (by kernel_rfl) (by rfl) (by rfl) ?_
            refine region_take (i := 0) (d := some 22) (l' := #[true, false, false, false, false, false, false, false, false, false, false, false, false, false, false, false, false, false, false, false]) (v := ?_) rfl rfl rfl (by kernel_rfl) (by kernel_rfl) (by kernel_rfl) (fun _ _ _ h => h) (Or.inl ⟨by rfl, ?_⟩) ?_
            rotate_left 1
            · intro w; go_simp; try with_reducible rfl
            simp only [Act.put, List.setIfInBounds_toArray, List.set_cons_zero, List.set_cons_succ]
            refine region_take (i := 1) (d := some 23) (l' := #[true, true, false, false, false, false, false, false, false, false, false, false, false, false, false, false, false, false, false, false]) (v := ?_) rfl rfl rfl (by kernel_rfl) (by kernel_rfl) (by kernel_rfl) (fun _ _ _ h => h) (Or.inl ⟨by rfl, ?_⟩) ?_
            rotate_left 1
            · intro w; go_simp; try with_reducible rfl
            simp only [Act.put, List.setIfInBounds_toArray, List.set_cons_zero, List.set_cons_succ]
            refine region_take (i := 2) (d := some 24) (l' := #[true, true, true, false, false, false, false, false, false, false, false, false, false, false, false, false, false, false, false, false]) (v := ?_) rfl rfl rfl (by kernel_rfl) (by kernel_rfl) (by kernel_rfl) (fun _ _ _ h => h) (Or.inl ⟨by rfl, ?_⟩) ?_
            rotate_left 1
            · intro w; go_simp; try with_reducible rfl
            simp only [Act.put, List.setIfInBounds_toArray, List.set_cons_zero, List.set_cons_succ]
            refine region_take (i := 3) (d := some 25) (l' := #[true, true, true, true, false, false, false, false, false, false, false, false, false, false, false, false, false, false, false, false]) (v := ?_) rfl rfl rfl (by kernel_rfl) (by kernel_rfl) (by kernel_rfl) (fun _ _ _ h => h) (Or.inl ⟨by rfl, ?_⟩) ?_
            rotate_left 1
            · intro w; go_simp; try with_reducible rfl
            simp only [Act.put, List.setIfInBounds_toArray, List.set_cons_zero, List.set_cons_succ]
            refine region_one (i := 4) (d := some 26) (l' := #[true, true, true, true, true, false, false, false, false, false, false, false, false, false, false, false, false, false, false, false]) rfl rfl rfl (by kernel_rfl) (fun K hK => ?_)
            go_simp
            refine hK _ _ ?_
            clear hK K
            try simp only [Act.put, List.setIfInBounds_toArray, List.set_cons_zero, List.set_cons_succ]
            refine region_take (i := 5) (d := some 27) (l' := #[true, true, true, true, true, true, false, false, false, false, false, false, false, false, false, false, false, false, false, false]) (v := ?_) rfl rfl rfl (by kernel_rfl) (by kernel_rfl) (by kernel_rfl) (fun _ _ _ h => h) (Or.inl ⟨by rfl, ?_⟩) ?_
            rotate_left 1
            · intro w; go_simp; try with_reducible rfl
            simp only [Act.put, List.setIfInBounds_toArray, List.set_cons_zero, List.set_cons_succ]
            refine region_take (i := 6) (d := some 28) (l' := #[true, true, true, true, true, true, true, false, false, false, false, false, false, false, false, false, false, false, false, false]) (v := ?_) rfl rfl rfl (by kernel_rfl) (by kernel_rfl) (by kernel_rfl) (fun _ _ _ h => h) (Or.inl ⟨by rfl, ?_⟩) ?_
            rotate_left 1
            · intro w; go_simp; try with_reducible rfl
            simp only [Act.put, List.setIfInBounds_toArray, List.set_cons_zero, List.set_cons_succ]
            refine region_take (i := 7) (d := some 29) (l' := #[true, true, true, true, true, true, true, true, false, false, false, false, false, false, false, false, false, false, false, false]) (v := ?_) rfl rfl rfl (by kernel_rfl) (by kernel_rfl) (by kernel_rfl) (fun _ _ _ h => h) (Or.inl ⟨by rfl, ?_⟩) ?_
            rotate_left 1
            · intro w; go_simp; try with_reducible rfl
            simp only [Act.put, List.setIfInBounds_toArray, List.set_cons_zero, List.set_cons_succ]
            refine region_take (i := 8) (d := some 30) (l' := #[true, true, true, true, true, true, true, true, true, false, false, false, false, false, false, false, false, false, false, false]) (v := ?_) rfl rfl rfl (by kernel_rfl) (by kernel_rfl) (by kernel_rfl) (fun _ _ _ h => h) (Or.inl ⟨by rfl, ?_⟩) ?_
            rotate_left 1
            · intro w; go_simp; try with_reducible rfl
            simp only [Act.put, List.setIfInBounds_toArray, List.set_cons_zero, List.set_cons_succ]
            refine region_take (i := 9) (d := some 31) (l' := #[true, true, true, true, true, true, true, true, true, true, false, false, false, false, false, false, false, false, false, false]) (v := ?_) rfl rfl rfl (by kernel_rfl) (by kernel_rfl) (by kernel_rfl) (fun _ _ _ h => h) (Or.inl ⟨by rfl, ?_⟩) ?_
            rotate_left 1
            · intro w; go_simp; try with_reducible rfl
            simp only [Act.put, List.setIfInBounds_toArray, List.set_cons_zero, List.set_cons_succ]
            refine region_take (i := 10) (d := some 32) (l' := #[true, true, true, true, true, true, true, true, true, true, true, false, false, false, false, false, false, false, false, false]) (v := ?_) rfl rfl rfl (by kernel_rfl) (by kernel_rfl) (by kernel_rfl) (fun _ _ _ h => h) (Or.inl ⟨by rfl, ?_⟩) ?_
            rotate_left 1
            · intro w; go_simp; try with_reducible rfl
            simp only [Act.put, List.setIfInBounds_toArray, List.set_cons_zero, List.set_cons_succ]
            refine region_take (i := 11) (d := some 33) (l' := #[true, true, true, true, true, true, true, true, true, true, true, true, false, false, false, false, false, false, false, false]) (v := ?_) rfl rfl rfl (by kernel_rfl) (by kernel_rfl) (by kernel_rfl) (fun _ _ _ h => h) (Or.inl ⟨by rfl, ?_⟩) ?_
            rotate_left 1
            · intro w; go_simp; try with_reducible rfl
            simp only [Act.put, List.setIfInBounds_toArray, List.set_cons_zero, List.set_cons_succ]
            refine region_take (i := 13) (d := some 35) (l' := #[true, true, true, true, true, true, true, true, true, true, true, true, false, true, false, false, false, false, false, false]) (v := ?_) rfl rfl rfl (by kernel_rfl) (by kernel_rfl) (by kernel_rfl) (fun _ _ _ h => h) (Or.inl ⟨by rfl, ?_⟩) ?_
            rotate_left 1
            · intro w; go_simp; try with_reducible rfl
            simp only [Act.put, List.setIfInBounds_toArray, List.set_cons_zero, List.set_cons_succ]
            refine region_take (i := 14) (d := some 36) (l' := #[true, true, true, true, true, true, true, true, true, true, true, true, false, true, true, false, false, false, false, false]) (v := ?_) rfl rfl rfl (by kernel_rfl) (by kernel_rfl) (by kernel_rfl) (fun _ _ _ h => h) (Or.inl ⟨by rfl, ?_⟩) ?_
            rotate_left 1
            · intro w; go_simp; try with_reducible rfl
            simp only [Act.put, List.setIfInBounds_toArray, List.set_cons_zero, List.set_cons_succ]
            refine region_one (i := 12) (d := some 34) (l' := #[true, true, true, true, true, true, true, true, true, true, true, true, true, true, true, false, false, false, false, false]) rfl rfl rfl (by kernel_rfl) (fun K hK => ?_)
            go_simp
            refine (toLower_hex c d x y _ Hx.out Hy.out).mono ?_
            rintro e w3 ⟨rfl, hb3⟩
            have HB3 := Lib.hid (undrew hb3)
            have c3 := (hb3.cell (p := ⟨r, 1, none⟩) (by simp; omega)).trans c1
            have f3 := (hb3.frozen (p := ⟨r, 1, none⟩) (by simp; omega)).trans f1
            clear hb3
            refine hK _ _ ?_
            clear hK K
            try simp only [Act.put, List.setIfInBounds_toArray, List.set_cons_zero, List.set_cons_succ]
            refine region_take (i := 15) (d := some 37) (l' := #[true, true, true, true, true, true, true, true, true, true, true, true, true, true, true, true, false, false, false, false]) (v := ?_) rfl rfl rfl (by kernel_rfl) (by kernel_rfl) (by kernel_rfl) (fun _ _ _ h => h) (Or.inl ⟨by rfl, ?_⟩) ?_
            rotate_left 1
            · intro w; go_simp; try with_reducible rfl
            simp only [Act.put, List.setIfInBounds_toArray, List.set_cons_zero, List.set_cons_succ]
            refine region_take (i := 16) (d := some 38) (l' := #[true, true, true, true, true, true, true, true, true, true, true, true, true, true, true, true, true, false, false, false]) (v := ?_) rfl rfl rfl (by kernel_rfl) (by kernel_rfl) (by kernel_rfl) (fun _ _ _ h => h) (Or.inl ⟨by rfl, ?_⟩) ?_
            rotate_left 1
            · intro w; go_simp; try with_reducible rfl
            simp only [Act.put, List.setIfInBounds_toArray, List.set_cons_zero, List.set_cons_succ]
            refine region_take (i := 17) (d := some 39) (l' := #[true, true, true, true, true, true, true, true, true, true, true, true, true, true, true, true, true, true, false, false]) (v := ?_) rfl rfl rfl (by kernel_rfl) (by kernel_rfl) (by kernel_rfl) (fun _ _ _ h => h) (Or.inl ⟨by rfl, ?_⟩) ?_
            rotate_left 1
            · intro w; go_simp; try with_reducible rfl
            simp only [Act.put, List.setIfInBounds_toArray, List.set_cons_zero, List.set_cons_succ]
            refine region_take (i := 18) (d := some 40) (l' := #[true, true, true, true, true, true, true, true, true, true, true, true, true, true, true, true, true, true, true, false]) (v := ?_) rfl rfl rfl (by kernel_rfl) (by kernel_rfl) (by kernel_rfl) (fun _ _ _ h => h) (Or.inl ⟨by rfl, ?_⟩) ?_
            rotate_left 1
            · intro w; go_simp; try with_reducible rfl
            simp only [Act.put, List.setIfInBounds_toArray, List.set_cons_zero, List.set_cons_succ]
            refine region_one (i := 19) (d := none) (l' := #[true, true, true, true, true, true, true, true, true, true, true, true, true, true, true, true, true, true, true, true]) rfl rfl rfl (by kernel_rfl) (fun K hK => ?_)
            go_simp
            refine hK _ _ ?_
            clear hK K
            refine wpAny_done (by kernel_rfl) ?_ _
            have hs3 := HB3.out.size
            go_wp2_with fail
            refine (writeByte (w1.heap.size + 1) w1.heap.size out (pairOf c d).1 _ (byte_mod _) _ ((HL2.out.below (w' := w3) HB3.out).setOther (r := r) (by omega) (by omega) _ _) (by omega) (by simp; omega)).mono ?_
            rintro e w6 ⟨rfl, hB6, hK6⟩
            have HT := Lib.hid (HI.out.step rfl (by rw [pair_ok Hx.out Hy.out]; rfl) ((HR2.out.below (w' := w3) HB3.out).setBad _) ((HO2.out.trans (.of_below (w' := w3) HB3.out)).trans (Only.setCell _ _ _ _)) (by simp; omega) hB6 hK6 hs1)
            clear hB6 hK6 c1 f1
            go_wp2
            go_roundw
            case rel => exact ⟨rest', _, _, rfl, by omega, HT⟩
            case measure => simp [strLen, bs_size]; omega
          · go_wp2_with fail
            refine region_start (n := 20) (l := #[false, false, false, false, false, false, false, false, false, false, false, false, false, false, false, false, false, false, false, false]) (by kernel_rfl) (by rfl) (by rfl) ?_
            refine region_take (i := 0) (d := some 22) (l' := #[true, false, false, false, false, false, false, false, false, false, false, false, false, false, false, false, false, false, false, false]) (v := ?_) rfl rfl rfl (by kernel_rfl) (by kernel_rfl) (by kernel_rfl) (fun _ _ _ h => h) (Or.inl ⟨by rfl, ?_⟩) ?_
            rotate_left 1
            · intro w; go_simp; try with_reducible rfl
            simp only [Act.put, List.setIfInBounds_toArray, List.set_cons_zero, List.set_cons_succ]
            refine region_take (i := 1) (d := some 23) (l' := #[true, true, false, false, false, false, false, false, false, false, false, false, false, false, false, false, false, false, false, false]) (v := ?_) rfl rfl rfl (by kernel_rfl) (by kernel_rfl) (by kernel_rfl) (fun _ _ _ h => h) (Or.inl ⟨by rfl, ?_⟩) ?_
            rotate_left 1
            · intro w; go_simp; try with_reducible rfl
            simp only [Act.put, List.setIfInBounds_toArray, List.set_cons_zero, List.set_cons_succ]
            refine region_take (i := 2) (d := some 24) (l' := #[true, true, true, false, false, false, false, false, false, false, false, false, false, false, false, false, false, false, false, false]) (v := ?_) rfl rfl rfl (by kernel_rfl) (by kernel_rfl) (by kernel_rfl) (fun _ _ _ h => h) (Or.inl ⟨by rfl, ?_⟩) ?_
            rotate_left 1
            · intro w; go_simp; try with_reducible rfl
            simp only [Act.put, List.setIfInBounds_toArray, List.set_cons_zero, List.set_cons_succ]
            refine region_take (i := 3) (d := some 25) (l' := #[true, true, true, true, false, false, false, false, false, false, false, false, false, false, false, false, false, false, false, false]) (v := ?_) rfl rfl rfl (by kernel_rfl) (by kernel_rfl) (by kernel_rfl) (fun _ _ _ h => h) (Or.inl ⟨by rfl, ?_⟩) ?_
            rotate_left 1
            · intro w; go_simp; try with_reducible rfl
            simp only [Act.put, List.setIfInBounds_toArray, List.set_cons_zero, List.set_cons_succ]
            refine region_one (i := 4) (d := some 26) (l' := #[true, true, true, true, true, false, false, false, false, false, false, false, false, false, false, false, false, false, false, false]) rfl rfl rfl (by kernel_rfl) (fun K hK => ?_)
            go_simp
            refine hK _ _ ?_
            clear hK K
            try simp only [Act.put, List.setIfInBounds_toArray, List.set_cons_zero, List.set_cons_succ]
            refine region_take (i := 5) (d := some 27) (l' := #[true, true, true, true, true, true, false, false, false, false, false, false, false, false, false, false, false, false, false, false]) (v := ?_) rfl rfl rfl (by kernel_rfl) (by kernel_rfl) (by kernel_rfl) (fun _ _ _ h => h) (Or.inl ⟨by rfl, ?_⟩) ?_
            rotate_left 1
            · intro w; go_simp; try with_reducible rfl
            simp only [Act.put, List.setIfInBounds_toArray, List.set_cons_zero, List.set_cons_succ]
            refine region_take (i := 6) (d := some 28) (l' := #[true, true, true, true, true, true, true, false, false, false, false, false, false, false, false, false, false, false, false, false]) (v := undef) rfl rfl rfl (by kernel_rfl) (by kernel_rfl) (by kernel_rfl) (fun _ _ _ h => h) (Or.inr ⟨by rfl, rfl⟩) ?_
            simp only [Act.put, List.setIfInBounds_toArray, List.set_cons_zero, List.set_cons_succ]
            refine region_take (i := 7) (d := some 29) (l' := #[true, true, true, true, true, true, true, true, false, false, false, false, false, false, false, false, false, false, false, false]) (v := undef) rfl rfl rfl (by kernel_rfl) (by kernel_rfl) (by kernel_rfl) (fun _ _ _ h => h) (Or.inr ⟨by rfl, rfl⟩) ?_
            simp only [Act.put, List.setIfInBounds_toArray, List.set_cons_zero, List.set_cons_succ]
            refine region_take (i := 8) (d := some 30) (l' := #[true, true, true, true, true, true, true, true, true, false, false, false, false, false, false, false, false, false, false, false]) (v := ?_) rfl rfl rfl (by kernel_rfl) (by kernel_rfl) (by kernel_rfl) (fun _ _ _ h => h) (Or.inl ⟨by rfl, ?_⟩) ?_
            rotate_left 1
            · intro w; go_simp; try with_reducible rfl
            simp only [Act.put, List.setIfInBounds_toArray, List.set_cons_zero, List.set_cons_succ]
            refine region_take (i := 9) (d := some 31) (l' := #[true, true, true, true, true, true, true, true, true, true, false, false, false, false, false, false, false, false, false, false]) (v := ?_) rfl rfl rfl (by kernel_rfl) (by kernel_rfl) (by kernel_rfl) (fun _ _ _ h => h) (Or.inl ⟨by rfl, ?_⟩) ?_
            rotate_left 1
            · intro w; go_simp; try with_reducible rfl
            simp only [Act.put, List.setIfInBounds_toArray, List.set_cons_zero, List.set_cons_succ]
            refine region_take (i := 10) (d := some 32) (l' := #[true, true, true, true, true, true, true, true, true, true, true, false, false, false, false, false, false, false, false, false]) (v := undef) rfl rfl rfl (by kernel_rfl) (by kernel_rfl) (by kernel_rfl) (fun _ _ _ h => h) (Or.inr ⟨by rfl, rfl⟩) ?_
            simp only [Act.put, List.setIfInBounds_toArray, List.set_cons_zero, List.set_cons_succ]
            refine region_take (i := 11) (d := some 33) (l' := #[true, true, true, true, true, true, true, true, true, true, true, true, false, false, false, false, false, false, false, false]) (v := undef) rfl rfl rfl (by kernel_rfl) (by kernel_rfl) (by kernel_rfl) (fun _ _ _ h => h) (Or.inr ⟨by rfl, rfl⟩) ?_
            simp only [Act.put, List.setIfInBounds_toArray, List.set_cons_zero, List.set_cons_succ]
            refine region_take (i := 12) (d := some 34) (l' := #[true, true, true, true, true, true, true, true, true, true, true, true, true, false, false, false, false, false, false, false]) (v := undef) rfl rfl rfl (by kernel_rfl) (by kernel_rfl) (by kernel_rfl) (fun _ _ _ h => h) (Or.inr ⟨by rfl, rfl⟩) ?_
            simp only [Act.put, List.setIfInBounds_toArray, List.set_cons_zero, List.set_cons_succ]
            refine region_take (i := 13) (d := some 35) (l' := #[true, true, true, true, true, true, true, true, true, true, true, true, true, true, false, false, false, false, false, false]) (v := undef) rfl rfl rfl (by kernel_rfl) (by kernel_rfl) (by kernel_rfl) (fun _ _ _ h => h) (Or.inr ⟨by rfl, rfl⟩) ?_
            simp only [Act.put, List.setIfInBounds_toArray, List.set_cons_zero, List.set_cons_succ]
            refine region_take (i := 14) (d := some 36) (l' := #[true, true, true, true, true, true, true, true, true, true, true, true, true, true, true, false, false, false, false, false]) (v := undef) rfl rfl rfl (by kernel_rfl) (by kernel_rfl) (by kernel_rfl) (fun _ _ _ h => h) (Or.inr ⟨by rfl, rfl⟩) ?_
            simp only [Act.put, List.setIfInBounds_toArray, List.set_cons_zero, List.set_cons_succ]
            refine region_take (i := 15) (d := some 37) (l' := #[true, true, true, true, true, true, true, true, true, true, true, true, true, true, true, true, false, false, false, false]) (v := undef) rfl rfl rfl (by kernel_rfl) (by kernel_rfl) (by kernel_rfl) (fun _ _ _ h => h) (Or.inr ⟨by rfl, rfl⟩) ?_
            simp only [Act.put, List.setIfInBounds_toArray, List.set_cons_zero, List.set_cons_succ]
            refine region_take (i := 16) (d := some 38) (l' := #[true, true, true, true, true, true, true, true, true, true, true, true, true, true, true, true, true, false, false, false]) (v := ?_) rfl rfl rfl (by kernel_rfl) (by kernel_rfl) (by kernel_rfl) (fun _ _ _ h => h) (Or.inl ⟨by rfl, ?_⟩) ?_
            rotate_left 1
            · intro w; go_simp; try with_reducible rfl
            simp only [Act.put, List.setIfInBounds_toArray, List.set_cons_zero, List.set_cons_succ]
            refine region_take (i := 17) (d := some 39) (l' := #[true, true, true, true, true, true, true, true, true, true, true, true, true, true, true, true, true, true, false, false]) (v := ?_) rfl rfl rfl (by kernel_rfl) (by kernel_rfl) (by kernel_rfl) (fun _ _ _ h => h) (Or.inl ⟨by rfl, ?_⟩) ?_
            rotate_left 1
            · intro w; go_simp; try with_reducible rfl
            simp only [Act.put, List.setIfInBounds_toArray, List.set_cons_zero, List.set_cons_succ]
            refine region_take (i := 18) (d := some 40) (l' := #[true, true, true, true, true, true, true, true, true, true, true, true, true, true, true, true, true, true, true, false]) (v := ?_) rfl rfl rfl (by kernel_rfl) (by kernel_rfl) (by kernel_rfl) (fun _ _ _ h => h) (Or.inl ⟨by rfl, ?_⟩) ?_
            rotate_left 1
            · intro w; go_simp; try with_reducible rfl
            simp only [Act.put, List.setIfInBounds_toArray, List.set_cons_zero, List.set_cons_succ]
            refine region_one (i := 19) (d := none) (l' := #[true, true, true, true, true, true, true, true, true, true, true, true, true, true, true, true, true, true, true, true]) rfl rfl rfl (by kernel_rfl) (fun K hK => ?_)
            go_simp
            refine hK _ _ ?_
            clear hK K
            refine wpAny_done (by kernel_rfl) ?_ _
            go_wp2_with fail
            refine (writeByte (w1.heap.size + 1) w1.heap.size out (pairOf c d).1 _ (byte_mod _) _ (Bld.drew (HL2.out.setOther (r := r) (by omega) (by omega) _ _)) (by omega) (by simp; omega)).mono ?_
            rintro e w6 ⟨rfl, hB6, hK6⟩
            have HT := Lib.hid (HI.out.step rfl rfl (RdAt.drew (HR2.out.setBad _)) (Only.drew (HO2.out.trans (Only.setCell _ _ _ _))) (by simp; omega) hB6 hK6 hs1)
            clear hB6 hK6 c1 f1
            go_wp2
            go_roundw
            case rel => exact ⟨rest', _, _, rfl, by omega, HT⟩
            case measure => simp [strLen, bs_size]; omega
        · have hn : hexVal c = none ∨ hexVal d = none := by
            cases hc : hexVal c with
            | none => exact .inl rfl
            | some x => cases hd : hexVal d with
              | none => exact .inr rfl
              | some y => exact absurd ⟨x, y, hc, hd⟩ hg
          have Hn := Lib.hid hn
          clear hn hg
          go_wp2_with fail
          refine (pu_bad c d _ HE1.out Hn.out).mono ?_
          rintro e w2 ⟨hb2, N2, rfl⟩
          have HB2 := Lib.hid hb2
          have HR2 := Lib.hid (HI.out.rd.below hb2)
          have HL2 := Lib.hid (HI.out.bld.below hb2)
          have HO2 := Lib.hid (HI.out.only.trans (.of_below hb2))
          have hs2 := hb2.size
          clear hb2
          obtain ⟨c1, f1⟩ := HR2.out.cell1
          cases bd
          · go_wp2_with fail
            refine region_start (n := 20) (l := #[false, false, false, false, false, false, false, false, false, false, false, false, false, false, false, false, false, false, false, false]) (by kernel_rfl) (by rfl) (by rfl) ?_
            refine region_take (i := 0) (d := some 22) (l' := #[true, false, false, false, false, false, false, false, false, false, false, false, false, false, false, false, false, false, false, false]) (v := ?_) rfl rfl rfl (by kernel_rfl) (by kernel_rfl) (by kernel_rfl) (fun _ _ _ h => h) (Or.inl ⟨by rfl, ?_⟩) ?_
            rotate_left 1
            · intro w; go_simp; try with_reducible rfl
            simp only [Act.put, List.setIfInBounds_toArray, List.set_cons_zero, List.set_cons_succ]
            refine region_take (i := 1) (d := some 23) (l' := #[true, true, false, false, false, false, false, false, false, false, false, false, false, false, false, false, false, false, false, false]) (v := ?_) rfl rfl rfl (by kernel_rfl) (by kernel_rfl) (by kernel_rfl) (fun _ _ _ h => h) (Or.inl ⟨by rfl, ?_⟩) ?_
            rotate_left 1
            · intro w; go_simp; try with_reducible rfl
            simp only [Act.put, List.setIfInBounds_toArray, List.set_cons_zero, List.set_cons_succ]
            refine region_take (i := 2) (d := some 24) (l' := #[true, true, true, false, false, false, false, false, false, false, false, false, false, false, false, false, false, false, false, false]) (v := ?_) rfl rfl rfl (by kernel_rfl) (by kernel_rfl) (by kernel_rfl) (fun _ _ _ h => h) (Or.inl ⟨by rfl, ?_⟩) ?_
            rotate_left 1
            · intro w; go_simp; try with_reducible rfl
            simp only [Act.put, List.setIfInBounds_toArray, List.set_cons_zero, List.set_cons_succ]
            refine region_take (i := 3) (d := some 25) (l' := #[true, true, true, true, false, false, false, false, false, false, false, false, false, false, false, false, false, false, false, false]) (v := ?_) rfl rfl rfl (by kernel_rfl) (by kernel_rfl) (by kernel_rfl) (fun _ _ _ h => h) (Or.inl ⟨by rfl, ?_⟩) ?_
            rotate_left 1
            · intro w; go_simp; try with_reducible rfl
            simp only [Act.put, List.setIfInBounds_toArray, List.set_cons_zero, List.set_cons_succ]
            refine region_one (i := 4) (d := some 26) (l' := #[true, true, true, true, true, false, false, false, false, false, false, false, false, false, false, false, false, false, false, false]) rfl rfl rfl (by kernel_rfl) (fun K hK => ?_)
            go_simp
            refine hK _ _ ?_
            clear hK K
            try simp only [Act.put, List.setIfInBounds_toArray, List.set_cons_zero, List.set_cons_succ]
            refine region_take (i := 5) (d := some 27) (l' := #[true, true, true, true, true, true, false, false, false, false, false, false, false, false, false, false, false, false, false, false]) (v := ?_) rfl rfl rfl (by kernel_rfl) (by kernel_rfl) (by kernel_rfl) (fun _ _ _ h => h) (Or.inl ⟨by rfl, ?_⟩) ?_
            rotate_left 1
            · intro w; go_simp; try with_reducible rfl
            simp only [Act.put, List.setIfInBounds_toArray, List.set_cons_zero, List.set_cons_succ]
            refine region_take (i := 6) (d := some 28) (l' := #[true, true, true, true, true, true, true, false, false, false, false, false, false, false, false, false, false, false, false, false]) (v := ?_) rfl rfl rfl (by kernel_rfl) (by kernel_rfl) (by kernel_rfl) (fun _ _ _ h => h) (Or.inl ⟨by rfl, ?_⟩) ?_
            rotate_left 1
            · intro w; go_simp; try with_reducible rfl
            simp only [Act.put, List.setIfInBounds_toArray, List.set_cons_zero, List.set_cons_succ]
            refine region_take (i := 7) (d := some 29) (l' := #[true, true, true, true, true, true, true, true, false, false, false, false, false, false, false, false, false, false, false, false]) (v := ?_) rfl rfl rfl (by kernel_rfl) (by kernel_rfl) (by kernel_rfl) (fun _ _ _ h => h) (Or.inl ⟨by rfl, ?_⟩) ?_
            rotate_left 1
            · intro w; go_simp; try with_reducible rfl
            simp only [Act.put, List.setIfInBounds_toArray, List.set_cons_zero, List.set_cons_succ]
            refine region_take (i := 8) (d := some 30) (l' := #[true, true, true, true, true, true, true, true, true, false, false, false, false, false, false, false, false, false, false, false]) (v := ?_) rfl rfl rfl (by kernel_rfl) (by kernel_rfl) (by kernel_rfl) (fun _ _ _ h => h) (Or.inl ⟨by rfl, ?_⟩) ?_
            rotate_left 1
            · intro w; go_simp; try with_reducible rfl
            simp only [Act.put, List.setIfInBounds_toArray, List.set_cons_zero, List.set_cons_succ]
            refine region_take (i := 9) (d := some 31) (l' := #[true, true, true, true, true, true, true, true, true, true, false, false, false, false, false, false, false, false, false, false]) (v := ?_) rfl rfl rfl (by kernel_rfl) (by kernel_rfl) (by kernel_rfl) (fun _ _ _ h => h) (Or.inl ⟨by rfl, ?_⟩) ?_
            rotate_left 1
            · intro w; go_simp; try with_reducible rfl
            simp only [Act.put, List.setIfInBounds_toArray, List.set_cons_zero, List.set_cons_succ]
            refine region_take (i := 10) (d := some 32) (l' := #[true, true, true, true, true, true, true, true, true, true, true, false, false, false, false, false, false, false, false, false]) (v := undef) rfl rfl rfl (by kernel_rfl) (by kernel_rfl) (by kernel_rfl) (fun _ _ _ h => h) (Or.inr ⟨by rfl, rfl⟩) ?_
            simp only [Act.put, List.setIfInBounds_toArray, List.set_cons_zero, List.set_cons_succ]
            refine region_take (i := 11) (d := some 33) (l' := #[true, true, true, true, true, true, true, true, true, true, true, true, false, false, false, false, false, false, false, false]) (v := undef) rfl rfl rfl (by kernel_rfl) (by kernel_rfl) (by kernel_rfl) (fun _ _ _ h => h) (Or.inr ⟨by rfl, rfl⟩) ?_
            simp only [Act.put, List.setIfInBounds_toArray, List.set_cons_zero, List.set_cons_succ]
            refine region_take (i := 12) (d := some 34) (l' := #[true, true, true, true, true, true, true, true, true, true, true, true, true, false, false, false, false, false, false, false]) (v := undef) rfl rfl rfl (by kernel_rfl) (by kernel_rfl) (by kernel_rfl) (fun _ _ _ h => h) (Or.inr ⟨by rfl, rfl⟩) ?_
            simp only [Act.put, List.setIfInBounds_toArray, List.set_cons_zero, List.set_cons_succ]
            refine region_take (i := 13) (d := some 35) (l' := #[true, true, true, true, true, true, true, true, true, true, true, true, true, true, false, false, false, false, false, false]) (v := undef) rfl rfl rfl (by kernel_rfl) (by kernel_rfl) (by kernel_rfl) (fun _ _ _ h => h) (Or.inr ⟨by rfl, rfl⟩) ?_
            simp only [Act.put, List.setIfInBounds_toArray, List.set_cons_zero, List.set_cons_succ]
            refine region_take (i := 14) (d := some 36) (l' := #[true, true, true, true, true, true, true, true, true, true, true, true, true, true, true, false, false, false, false, false]) (v := undef) rfl rfl rfl (by kernel_rfl) (by kernel_rfl) (by kernel_rfl) (fun _ _ _ h => h) (Or.inr ⟨by rfl, rfl⟩) ?_
            simp only [Act.put, List.setIfInBounds_toArray, List.set_cons_zero, List.set_cons_succ]
            refine region_take (i := 15) (d := some 37) (l' := #[true, true, true, true, true, true, true, true, true, true, true, true, true, true, true, true, false, false, false, false]) (v := undef) rfl rfl rfl (by kernel_rfl) (by kernel_rfl) (by kernel_rfl) (fun _ _ _ h => h) (Or.inr ⟨by rfl, rfl⟩) ?_
            simp only [Act.put, List.setIfInBounds_toArray, List.set_cons_zero, List.set_cons_succ]
            refine region_take (i := 16) (d := some 38) (l' := #[true, true, true, true, true, true, true, true, true, true, true, true, true, true, true, true, true, false, false, false]) (v := ?_) rfl rfl rfl (by kernel_rfl) (by kernel_rfl) (by kernel_rfl) (fun _ _ _ h => h) (Or.inl ⟨by rfl, ?_⟩) ?_
            rotate_left 1
            · intro w; go_simp; try with_reducible rfl
            simp only [Act.put, List.setIfInBounds_toArray, List.set_cons_zero, List.set_cons_succ]
            refine region_take (i := 17) (d := some 39) (l' := #[true, true, true, true, true, true, true, true, true, true, true, true, true, true, true, true, true, true, false, false]) (v := ?_) rfl rfl rfl (by kernel_rfl) (by kernel_rfl) (by kernel_rfl) (fun _ _ _ h => h) (Or.inl ⟨by rfl, ?_⟩) ?_
            rotate_left 1
            · intro w; go_simp; try with_reducible rfl
            simp only [Act.put, List.setIfInBounds_toArray, List.set_cons_zero, List.set_cons_succ]
            refine region_take (i := 18) (d := some 40) (l' := #[true, true, true, true, true, true, true, true, true, true, true, true, true, true, true, true, true, true, true, false]) (v := ?_) rfl rfl rfl (by kernel_rfl) (by kernel_rfl) (by kernel_rfl) (fun _ _ _ h => h) (Or.inl ⟨by rfl, ?_⟩) ?_
            rotate_left 1
            · intro w; go_simp; try with_reducible rfl
            simp only [Act.put, List.setIfInBounds_toArray, List.set_cons_zero, List.set_cons_succ]
            refine region_one (i := 19) (d := none) (l' := #[true, true, true, true, true, true, true, true, true, true, true, true, true, true, true, true, true, true, true, true]) rfl rfl rfl (by kernel_rfl) (fun K hK => ?_)
            go_simp
            refine hK _ _ ?_
            clear hK K
            refine wpAny_done (by kernel_rfl) ?_ _
            go_wp2_with fail
            refine (writeByte (w1.heap.size + 1) w1.heap.size out 0 _ rfl _ (Bld.drew (HL2.out.setOther (r := r) (by omega) (by omega) _ _)) (by omega) (by simp; omega)).mono ?_
            rintro e w6 ⟨rfl, hB6, hK6⟩
            have HT := Lib.hid (HI.out.step (pair_bad Hn.out).2.symm (by rw [(pair_bad Hn.out).1]; rfl) (RdAt.drew (HR2.out.setBad _)) (Only.drew (HO2.out.trans (Only.setCell _ _ _ _))) (by simp; omega) hB6 hK6 hs1)
            clear hB6 hK6 c1 f1
            go_wp2
            go_roundw
            case rel => exact ⟨rest', _, _, rfl, by omega, HT⟩
            case measure => simp [strLen, bs_size]; omega
          · go_wp2_with fail
            refine region_start (n := 20) (l := #[false, false, false, false, false, false, false, false, false, false, false, false, false, false, false, false, false, false, false, false]) (by kernel_rfl) (by rfl) (by rfl) ?_
            refine region_take (i := 0) (d := some 22) (l' := #[true, false, false, false, false, false, false, false, false, false, false, false, false, false, false, false, false, false, false, false]) (v := ?_) rfl rfl rfl (by kernel_rfl) (by kernel_rfl) (by kernel_rfl) (fun _ _ _ h => h) (Or.inl ⟨by rfl, ?_⟩) ?_
            rotate_left 1
            · intro w; go_simp; try with_reducible rfl
            simp only [Act.put, List.setIfInBounds_toArray, List.set_cons_zero, List.set_cons_succ]
            refine region_take (i := 1) (d := some 23) (l' := #[true, true, false, false, false, false, false, false, false, false, false, false, false, false, false, false, false, false, false, false]) (v := ?_) rfl rfl rfl (by kernel_rfl) (by kernel_rfl) (by kernel_rfl) (fun _ _ _ h => h) (Or.inl ⟨by rfl, ?_⟩) ?_
            rotate_left 1
            · intro w; go_simp; try with_reducible rfl
            simp only [Act.put, List.setIfInBounds_toArray, List.set_cons_zero, List.set_cons_succ]
            refine region_take (i := 2) (d := some 24) (l' := #[true, true, true, false, false, false, false, false, false, false, false, false, false, false, false, false, false, false, false, false]) (v := ?_) rfl rfl rfl (by kernel_rfl) (by kernel_rfl) (by kernel_rfl) (fun _ _ _ h => h) (Or.inl ⟨by rfl, ?_⟩) ?_
            rotate_left 1
            · intro w; go_simp; try with_reducible rfl
            simp only [Act.put, List.setIfInBounds_toArray, List.set_cons_zero, List.set_cons_succ]
            refine region_take (i := 3) (d := some 25) (l' := #[true, true, true, true, false, false, false, false, false, false, false, false, false, false, false, false, false, false, false, false]) (v := ?_) rfl rfl rfl (by kernel_rfl) (by kernel_rfl) (by kernel_rfl) (fun _ _ _ h => h) (Or.inl ⟨by rfl, ?_⟩) ?_
            rotate_left 1
            · intro w; go_simp; try with_reducible rfl
            simp only [Act.put, List.setIfInBounds_toArray, List.set_cons_zero, List.set_cons_succ]
            refine region_one (i := 4) (d := some 26) (l' := #[true, true, true, true, true, false, false, false, false, false, false, false, false, false, false, false, false, false, false, false]) rfl rfl rfl (by kernel_rfl) (fun K hK => ?_)
            go_simp
            refine hK _ _ ?_
            clear hK K
            try simp only [Act.put, List.setIfInBounds_toArray, List.set_cons_zero, List.set_cons_succ]
            refine region_take (i := 5) (d := some 27) (l' := #[true, true, true, true, true, true, false, false, false, false, false, false, false, false, false, false, false, false, false, false]) (v := ?_) rfl rfl rfl (by kernel_rfl) (by kernel_rfl) (by kernel_rfl) (fun _ _ _ h => h) (Or.inl ⟨by rfl, ?_⟩) ?_
            rotate_left 1
            · intro w; go_simp; try with_reducible rfl
            simp only [Act.put, List.setIfInBounds_toArray, List.set_cons_zero, List.set_cons_succ]
            refine region_take (i := 6) (d := some 28) (l' := #[true, true, true, true, true, true, true, false, false, false, false, false, false, false, false, false, false, false, false, false]) (v := undef) rfl rfl rfl (by kernel_rfl) (by kernel_rfl) (by kernel_rfl) (fun _ _ _ h => h) (Or.inr ⟨by rfl, rfl⟩) ?_
            simp only [Act.put, List.setIfInBounds_toArray, List.set_cons_zero, List.set_cons_succ]
            refine region_take (i := 7) (d := some 29) (l' := #[true, true, true, true, true, true, true, true, false, false, false, false, false, false, false, false, false, false, false, false]) (v := undef) rfl rfl rfl (by kernel_rfl) (by kernel_rfl) (by kernel_rfl) (fun _ _ _ h => h) (Or.inr ⟨by rfl, rfl⟩) ?_
            simp only [Act.put, List.setIfInBounds_toArray, List.set_cons_zero, List.set_cons_succ]
            refine region_take (i := 8) (d := some 30) (l' := #[true, true, true, true, true, true, true, true, true, false, false, false, false, false, false, false, false, false, false, false]) (v := ?_) rfl rfl rfl (by kernel_rfl) (by kernel_rfl) (by kernel_rfl) (fun _ _ _ h => h) (Or.inl ⟨by rfl, ?_⟩) ?_
            rotate_left 1
            · intro w; go_simp; try with_reducible rfl
            simp only [Act.put, List.setIfInBounds_toArray, List.set_cons_zero, List.set_cons_succ]
            refine region_take (i := 9) (d := some 31) (l' := #[true, true, true, true, true, true, true, true, true, true, false, false, false, false, false, false, false, false, false, false]) (v := ?_) rfl rfl rfl (by kernel_rfl) (by kernel_rfl) (by kernel_rfl) (fun _ _ _ h => h) (Or.inl ⟨by rfl, ?_⟩) ?_
            rotate_left 1
            · intro w; go_simp; try with_reducible rfl
            simp only [Act.put, List.setIfInBounds_toArray, List.set_cons_zero, List.set_cons_succ]
            refine region_take (i := 10) (d := some 32) (l' := #[true, true, true, true, true, true, true, true, true, true, true, false, false, false, false, false, false, false, false, false]) (v := undef) rfl rfl rfl (by kernel_rfl) (by kernel_rfl) (by kernel_rfl) (fun _ _ _ h => h) (Or.inr ⟨by rfl, rfl⟩) ?_
            simp only [Act.put, List.setIfInBounds_toArray, List.set_cons_zero, List.set_cons_succ]
            refine region_take (i := 11) (d := some 33) (l' := #[true, true, true, true, true, true, true, true, true, true, true, true, false, false, false, false, false, false, false, false]) (v := undef) rfl rfl rfl (by kernel_rfl) (by kernel_rfl) (by kernel_rfl) (fun _ _ _ h => h) (Or.inr ⟨by rfl, rfl⟩) ?_
            simp only [Act.put, List.setIfInBounds_toArray, List.set_cons_zero, List.set_cons_succ]
            refine region_take (i := 12) (d := some 34) (l' := #[true, true, true, true, true, true, true, true, true, true, true, true, true, false, false, false, false, false, false, false]) (v := undef) rfl rfl rfl (by kernel_rfl) (by kernel_rfl) (by kernel_rfl) (fun _ _ _ h => h) (Or.inr ⟨by rfl, rfl⟩) ?_
            simp only [Act.put, List.setIfInBounds_toArray, List.set_cons_zero, List.set_cons_succ]
            refine region_take (i := 13) (d := some 35) (l' := #[true, true, true, true, true, true, true, true, true, true, true, true, true, true, false, false, false, false, false, false]) (v := undef) rfl rfl rfl (by kernel_rfl) (by kernel_rfl) (by kernel_rfl) (fun _ _ _ h => h) (Or.inr ⟨by rfl, rfl⟩) ?_
            simp only [Act.put, List.setIfInBounds_toArray, List.set_cons_zero, List.set_cons_succ]
            refine region_take (i := 14) (d := some 36) (l' := #[true, true, true, true, true, true, true, true, true, true, true, true, true, true, true, false, false, false, false, false]) (v := undef) rfl rfl rfl (by kernel_rfl) (by kernel_rfl) (by kernel_rfl) (fun _ _ _ h => h) (Or.inr ⟨by rfl, rfl⟩) ?_
            simp only [Act.put, List.setIfInBounds_toArray, List.set_cons_zero, List.set_cons_succ]
            refine region_take (i := 15) (d := some 37) (l' := #[true, true, true, true, true, true, true, true, true, true, true, true, true, true, true, true, false, false, false, false]) (v := undef) rfl rfl rfl (by kernel_rfl) (by kernel_rfl) (by kernel_rfl) (fun _ _ _ h => h) (Or.inr ⟨by rfl, rfl⟩) ?_
            simp only [Act.put, List.setIfInBounds_toArray, List.set_cons_zero, List.set_cons_succ]
            refine region_take (i := 16) (d := some 38) (l' := #[true, true, true, true, true, true, true, true, true, true, true, true, true, true, true, true, true, false, false, false]) (v := ?_) rfl rfl rfl (by kernel_rfl) (by kernel_rfl) (by kernel_rfl) (fun _ _ _ h => h) (Or.inl ⟨by rfl, ?_⟩) ?_
            rotate_left 1
            · intro w; go_simp; try with_reducible rfl
            simp only [Act.put, List.setIfInBounds_toArray, List.set_cons_zero, List.set_cons_succ]
            refine region_take (i := 17) (d := some 39) (l' := #[true, true, true, true, true, true, true, true, true, true, true, true, true, true, true, true, true, true, false, false]) (v := ?_) rfl rfl rfl (by kernel_rfl) (by kernel_rfl) (by kernel_rfl) (fun _ _ _ h => h) (Or.inl ⟨by rfl, ?_⟩) ?_
            rotate_left 1
            · intro w; go_simp; try with_reducible rfl
            simp only [Act.put, List.setIfInBounds_toArray, List.set_cons_zero, List.set_cons_succ]
            refine region_take (i := 18) (d := some 40) (l' := #[true, true, true, true, true, true, true, true, true, true, true, true, true, true, true, true, true, true, true, false]) (v := ?_) rfl rfl rfl (by kernel_rfl) (by kernel_rfl) (by kernel_rfl) (fun _ _ _ h => h) (Or.inl ⟨by rfl, ?_⟩) ?_
            rotate_left 1
            · intro w; go_simp; try with_reducible rfl
            simp only [Act.put, List.setIfInBounds_toArray, List.set_cons_zero, List.set_cons_succ]
            refine region_one (i := 19) (d := none) (l' := #[true, true, true, true, true, true, true, true, true, true, true, true, true, true, true, true, true, true, true, true]) rfl rfl rfl (by kernel_rfl) (fun K hK => ?_)
            go_simp
            refine hK _ _ ?_
            clear hK K
            refine wpAny_done (by kernel_rfl) ?_ _
            go_wp2_with fail
            refine (writeByte (w1.heap.size + 1) w1.heap.size out 0 _ rfl _ (Bld.drew (HL2.out.setOther (r := r) (by omega) (by omega) _ _)) (by omega) (by simp; omega)).mono ?_
            rintro e w6 ⟨rfl, hB6, hK6⟩
            have HT := Lib.hid (HI.out.step (pair_bad Hn.out).2.symm rfl (RdAt.drew (HR2.out.setBad _)) (Only.drew (HO2.out.trans (Only.setCell _ _ _ _))) (by simp; omega) hB6 hK6 hs1)
            clear hB6 hK6 c1 f1
            go_wp2
            go_roundw
            case rel => exact ⟨rest', _, _, rfl, by omega, HT⟩
            case measure => simp [strLen, bs_size]; omega
      | [c], hrest, HI =>
        have hsz := HI.out.size
        obtain ⟨c1, f1⟩ := HI.out.rd.cell1
        cases bd
        all_goals
          go_wp2_with fail
          refine (Tryz.Builder_String_any w1.heap.size w1.heap.size out _ (Bld.is (HI.out.bld.setOther (r := r) (by omega) (by omega) 1 (.bool true)) (by omega)) (by simp; omega)).mono ?_
          rintro e w' ⟨rfl, hb'⟩
          have Hf := Lib.hid (HI.out.fin (X := true) (by simp) Hm.out (by simp) hs1 hb')
          clear hb'
          go_wp2
          go_ret
          exact Hf.out
      | [], hrest, HI =>
        have hsz := HI.out.size
        obtain ⟨c1, f1⟩ := HI.out.rd.cell1
        cases bd
        · go_wp2_with fail
          refine (Tryz.Builder_Len w1.heap.size w1.heap.size (Lib.byteCells out) _ (Bld.is HI.out.bld (by omega))).mono ?_
          rintro e w4 ⟨rfl, rfl⟩
          rw [Lib.byteCells_length]
          go_wp2_with fail
          refine (Tryz.Builder_String_any w1.heap.size w1.heap.size out _ (Bld.is (HI.out.bld.setOther (r := r) (by omega) (by omega) 1 (.bool ((out.length : Int) == 0))) (by omega)) (by simp; omega)).mono ?_
          rintro e w' ⟨rfl, hb'⟩
          have Hf := Lib.hid (HI.out.fin (X := ((out.length : Int) == 0)) (by simp) Hm.out (by by_cases h : out.length = 0 <;> simp [h]) hs1 hb')
          clear hb'
          go_wp2
          go_ret
          exact Hf.out
        · go_wp2_with fail
          refine (Tryz.Builder_String_any w1.heap.size w1.heap.size out _ (Bld.is (HI.out.bld.setOther (r := r) (by omega) (by omega) 1 (.bool true)) (by omega)) (by simp; omega)).mono ?_
          rintro e w' ⟨rfl, hb'⟩
          have Hf := Lib.hid (HI.out.fin (X := true) (by simp) Hm.out (by simp) hs1 hb')
          clear hb'
          go_wp2
          go_ret
          exact Hf.out
theorem text_any (M r : Nat) (ls : List Bs) (bad : Bool) (w : World) (h : RdAt w M r ls bad) (he : Env w) (hr : 10 ≤ r) (hl : ∀ x ∈ ls, x.length ≤ 1000000000) :
    Calls Tryz.prog 39 #[.pointer (some ⟨r, 0, none⟩)] w (RdRet w M r (.string (bs (textOf (ls.headD [])).1)) ls.tail ((bad || ls.isEmpty) || (textOf (ls.headD [])).2)) := by
  refine text_core M r _ _ _ w he hr ?_ (next_any M r ls bad w h)
  cases ls with
  | nil => simp
  | cons l t => exact hl l (by simp)
end Go.Proofs.YthhhdddojmkgnaaGreatDoor
