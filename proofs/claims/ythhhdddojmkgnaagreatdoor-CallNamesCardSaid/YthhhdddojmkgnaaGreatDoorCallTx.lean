/-
  Package call's Txs: Add, Len, Of, Copy, at nil and at a Txs in memory.
-/
import Derived.Test.YthhhdddojmkgnaaGreatDoorCallX
import Derived.Test.YthhhdddojmkgnaaGreatDoorCallC
import Derived.Deep.AppendLies
namespace Go.Proofs.YthhhdddojmkgnaaGreatDoor
open Go.RowKit

/-- But for the blocks of S the old memory is as it was. -/
structure Kep (w w' : World) (S : Nat → Prop) : Prop where
  os : w'.os = w.os
  tape : w'.tape = w.tape
  output : w'.output = w.output
  size : w.heap.size ≤ w'.heap.size
  block : ∀ k, k < w.heap.size → ¬ S k → w'.heap[k]? = w.heap[k]?
theorem Kep.refl (w : World) (S : Nat → Prop) : Kep w w S := ⟨rfl, rfl, rfl, Nat.le_refl _, fun _ _ _ => rfl⟩
theorem Kep.of_below {w w' : World} {S : Nat → Prop} (h : Below w.heap.size w w') : Kep w w' S := ⟨h.os, h.tape, h.output, h.size, fun k hk _ => h.block k hk⟩
theorem Kep.below {B : Nat} {w0 w w' : World} {S : Nat → Prop} (h : Kep w w' S) (hb : Below B w0 w) (hB : B ≤ w.heap.size) (hS : ∀ k, S k → B ≤ k) : Below B w0 w' :=
  hb.trans ⟨h.os, h.tape, h.output, h.size, fun k hk => h.block k (by omega) (fun hs => by have := hS k hs; omega)⟩

/-- A Txs in block b, its row in block o (none: nil). -/
def TxAt (w : World) (b : Nat) (o : Option Nat) (zs : List Int) : Prop :=
  ∃ v, Blk w b #[v] 58 ∧ w.ownsRow 0 3 1 v zs.length (zs.map (Value.int .i64)) ∧ v.ownBlock = o

theorem row_kept {w w' : World} {base n : Nat} {v : Value} {xs : List Value} (h : w.ownsRow base 3 1 v n xs) (ho : ∀ g, v.ownBlock = some g → w'.heap[g]? = w.heap[g]?) : w'.ownsRow base 3 1 v n xs := by
  obtain ⟨h1, h2⟩ := h
  refine ⟨h1, ?_⟩
  rcases h2 with h2 | ⟨g, cap, cur, rfl, hg, hh, r⟩
  · exact .inl h2
  · exact .inr ⟨g, cap, cur, rfl, hg, (ho g rfl).trans hh, r⟩
theorem TxAt.kept {w w' : World} {b : Nat} {o : Option Nat} {zs : List Int} (h : TxAt w b o zs) (hb : w'.heap[b]? = w.heap[b]?) (ho : ∀ g, o = some g → w'.heap[g]? = w.heap[g]?) : TxAt w' b o zs := by
  obtain ⟨v, h1, h2, rfl⟩ := h
  exact ⟨v, by unfold Blk; rw [hb]; exact h1, row_kept h2 ho, rfl⟩
theorem TxAt.lt {w : World} {b : Nat} {o : Option Nat} {zs : List Int} (h : TxAt w b o zs) : b < w.heap.size := by
  obtain ⟨v, h1, _⟩ := h
  exact h1.lt
theorem neTx : 58 ≠ 3 := by decide
theorem TxAt.own {w : World} {b : Nat} {o : Option Nat} {zs : List Int} (h : TxAt w b o zs) : ∀ g, o = some g → g < w.heap.size ∧ g ≠ b := by
  obtain ⟨v, h1, h2, rfl⟩ := h
  intro g hg
  refine ⟨(h2.lt g hg).2, fun e => ?_⟩
  have := Lib.ownBlock_ne h2 h1 neTx
  rw [hg, e] at this
  exact this rfl
theorem TxAt.kep {w w' : World} {b : Nat} {o : Option Nat} {zs : List Int} {S : Nat → Prop} (h : TxAt w b o zs) (hk : Kep w w' S) (hb : ¬ S b) (ho : ∀ g, o = some g → ¬ S g) : TxAt w' b o zs :=
  h.kept (hk.block b h.lt hb) (fun g hg => hk.block g (h.own g hg).1 (ho g hg))
theorem TxAt.below {w w' : World} {b : Nat} {o : Option Nat} {zs : List Int} (h : TxAt w b o zs) (hb : Below w.heap.size w w') : TxAt w' b o zs :=
  h.kep (S := fun _ => False) (.of_below hb) (fun h => h) (fun _ _ h => h)

theorem infoInt : (Tryz.prog.info? 3).map (fun i => (i.zero, i.size, i.bytes)) = some (some (.int .i64 0), 1, 8) := by kernel_rfl

/-! ### nil -/
theorem add_nil (x : Int) (w : World) : Calls Tryz.prog 31 #[.pointer none, .int .i64 x] w fun e w' => e = .returned (.tuple #[]) ∧ w' = w := by
  go_enter Tryz.func31, Tryz.ntmps31
  go_wp2
  go_end0
  exact ⟨rfl, rfl⟩
theorem len_nil (w : World) : Calls Tryz.prog 33 #[.pointer none] w fun e w' => e = .returned (.int .i64 0) ∧ w' = w := by
  go_enter Tryz.func33, Tryz.ntmps33
  go_wp2
  go_ret
  exact ⟨rfl, rfl⟩
theorem copy_nil (w : World) : Calls Tryz.prog 34 #[.pointer none] w fun e w' => e = .returned (.pointer none) ∧ w' = w := by
  go_enter Tryz.func34, Tryz.ntmps34
  go_wp2
  go_ret
  exact ⟨rfl, rfl⟩
theorem of_nil (w : World) : Calls Tryz.prog 32 #[.pointer none, .int .i64 1] w fun e w' => e = .returned (.tuple #[.int .i64 0, .bool false]) ∧ w' = w := by
  go_enter Tryz.func32, Tryz.ntmps32
  go_wp2_with fail
  refine (len_nil _).mono ?_
  rintro e w1 ⟨rfl, rfl⟩
  go_wp2
  go_ret2
  exact ⟨rfl, rfl⟩

/-! ### Len -/
theorem TxAt.form {w : World} {b : Nat} {o : Option Nat} {zs : List Int} (h : TxAt w b o zs) : ∃ A cap, w.cell? ⟨b, 0, none⟩ = some (.slice A zs.length cap) ∧
    (∀ i, i < zs.length → ∃ g, A = some ⟨g, 0, none⟩ ∧ w.cell? ⟨g, i, none⟩ = some (.int .i64 (zs.getD i 0))) ∧ zs.length ≤ cap := by
  obtain ⟨v, h1, h2, _⟩ := h
  have hc := h1.cell 0
  rcases h2.2 with ⟨rfl, h0⟩ | ⟨g, cap, cur, rfl, _, hh, hn, _, hs, ht⟩
  · exact ⟨none, 0, by rw [h0]; exact hc, fun i hi => by omega, by omega⟩
  · refine ⟨some ⟨g, 0, none⟩, cap, hc, fun i hi => ⟨g, rfl, ?_⟩, hn⟩
    have hcell := h2.cells (g := g) rfl i (.int .i64 (zs.getD i 0)) (by rw [List.getElem?_map, List.getElem?_eq_getElem hi, List.getD_eq_getElem?_getD, List.getElem?_eq_getElem hi]; rfl)
    rwa [Addr.add_lit, Nat.zero_add] at hcell
theorem len_any (b : Nat) (o : Option Nat) (zs : List Int) (w : World) (h : TxAt w b o zs) : Calls Tryz.prog 33 #[.pointer (some ⟨b, 0, none⟩)] w fun e w' => e = .returned (.int .i64 zs.length) ∧ w' = w := by
  obtain ⟨A, cap, hc, _, _⟩ := h.form
  go_enter Tryz.func33, Tryz.ntmps33
  go_wp2
  go_ret
  exact ⟨rfl, rfl⟩

/-! ### Of -/
theorem of_low (b : Nat) (n : Int) (w : World) (hn : n < 1) : Calls Tryz.prog 32 #[.pointer (some ⟨b, 0, none⟩), .int .i64 n] w fun e w' => e = .returned (.tuple #[.int .i64 0, .bool false]) ∧ w' = w := by
  go_enter Tryz.func32, Tryz.ntmps32
  go_wp2
  go_ret2
  exact ⟨rfl, rfl⟩
theorem of_high (b : Nat) (o : Option Nat) (zs : List Int) (n : Int) (w : World) (h : TxAt w b o zs) (h1 : 1 ≤ n) (h2 : (zs.length : Int) < n) : Calls Tryz.prog 32 #[.pointer (some ⟨b, 0, none⟩), .int .i64 n] w fun e w' => e = .returned (.tuple #[.int .i64 0, .bool false]) ∧ w' = w := by
  have hd := Lib.hid h
  clear h
  go_enter Tryz.func32, Tryz.ntmps32
  go_wp2_with fail
  refine (len_any b o zs _ hd.out).mono ?_
  rintro e w1 ⟨rfl, rfl⟩
  go_wp2
  go_ret2
  exact ⟨rfl, rfl⟩
theorem of_in (b : Nat) (o : Option Nat) (zs : List Int) (i : Nat) (w : World) (h : TxAt w b o zs) (hi : i < zs.length) (hz : zs.length ≤ 100000) : Calls Tryz.prog 32 #[.pointer (some ⟨b, 0, none⟩), .int .i64 ((i : Int) + 1)] w fun e w' => e = .returned (.tuple #[.int .i64 (zs.getD i 0), .bool true]) ∧ w' = w := by
  have hd := Lib.hid h
  obtain ⟨A, cap, hc, hx, hcap⟩ := h.form
  obtain ⟨g, rfl, hg⟩ := hx i hi
  clear h hx
  obtain ⟨y, hy⟩ : ∃ y, y = zs.getD i 0 := ⟨_, rfl⟩
  rw [← hy] at hg ⊢
  clear hy
  have hi1 : (i : Int) + 1 ≤ (zs.length : Int) := by omega
  have hi2 : (i : Int) < (zs.length : Int) := by omega
  go_enter Tryz.func32, Tryz.ntmps32
  go_wp2_with fail
  refine (len_any b o zs _ hd.out).mono ?_
  rintro e w1 ⟨rfl, rfl⟩
  go_wp2
  go_ret2
  exact ⟨rfl, rfl⟩

/-! ### Add -/
/-- What Add leaves. -/
def AddRet (w : World) (b : Nat) (o : Option Nat) (zs : List Int) (e : Ending) (w' : World) : Prop :=
  e = .returned (.tuple #[]) ∧ ∃ g, TxAt w' b (some g) zs ∧ (o = some g ∨ w.heap.size ≤ g) ∧ Kep w w' (fun k => k = b ∨ some k = o)
theorem add_any (b : Nat) (o : Option Nat) (zs : List Int) (x : Int) (w : World) (h : TxAt w b o zs) (hz : zs.length ≤ 100000) :
    Calls Tryz.prog 31 #[.pointer (some ⟨b, 0, none⟩), .int .i64 x] w (AddRet w b o (zs ++ [x])) := by
  obtain ⟨i0, hi, hz0, hz1, hz2⟩ := info_parts infoInt
  have hlt := h.lt
  obtain ⟨v, hb, hown, rfl⟩ := h
  have hne := Lib.ownBlock_ne hown hb neTx
  have Hb := Lib.hid hb
  have c0 : w.cell? ⟨b, 0, none⟩ = some v := hb.cell 0
  clear hb
  go_enter Tryz.func31, Tryz.ntmps31
  go_wp2_with (at_builtin; refine wpList_append_lies _ rfl _ _ 50 rfl 0 3 i0 (.int .i64 0) 1 8 Tryz.underlying50 hi hz0 hz1 hz2 rfl (by decide) _ _ _ rfl (hown.alloc _) ⟨w.heap.size, 0, none⟩ 1 1 [.int .i64 x] rfl rfl ?c1 ?c2 (by decide) ?c3 ?c4 ?c5 (w.heap.size + 1) ?c6 ?_)
  case c1 =>
    intro j u hj
    match j, hj with
    | 0, hj => simp at hj; subst hj; simp [Addr.add]
  case c2 => intro u hu; simp at hu; subst hu; rfl
  case c3 => unfold maxLen; omega
  case c4 => omega
  case c5 => exact Nat.zero_le _
  case c6 => simp
  intro g cap w1 hown1 hgrow hat hglt
  have hb1 : Blk w1 b #[v] 58 := by
    unfold Blk
    rw [hgrow.block b (by simp; omega) (fun e => hne e.symm)]
    exact Hb.out.alloc _
  have d0 : w1.cell? ⟨b, 0, none⟩ = some v := hb1.cell 0
  have f0 := hb1.free 0
  have HB1 := Lib.hid hb1
  have HO1 := Lib.hid hown1
  have HG := Lib.hid hgrow
  have HT := Lib.hid hat
  clear hb1 hown1 hgrow hat
  go_wp2
  go_end0
  have hne1 : g ≠ b := by
    intro e
    have := Lib.ownBlock_ne HO1.out HB1.out neTx
    exact this (by rw [e]; rfl)
  refine ⟨rfl, g, ⟨_, HB1.out.set 0 _, ?_, rfl⟩, ?_, ?_⟩
  · have := row_kept (w' := w1.setCell ⟨b, 0, none⟩ (.slice (some ⟨g, 0, none⟩) (zs.length + 1) cap)) HO1.out (fun k hk => Below.heap_setCell _ _ _ _ (by simp [Value.ownBlock] at hk; show k ≠ b; omega))
    rw [List.length_append, List.map_append]
    exact this
  · rcases HT.out with h1 | h1
    · exact .inl h1
    · exact .inr (by omega)
  · have hg := HG.out
    refine ⟨hg.os, hg.tape, hg.output, ?_, fun k hk hs => ?_⟩
    · have := hg.size; simp [World.setCell] at this ⊢; omega
    · have hkb : k ≠ b := fun e => hs (.inl e)
      rw [Below.heap_setCell _ _ _ _ hkb, hg.block k (by simp; omega) (fun e => hs (.inr e)), Lib.alloc_old w _ k hk]

/-! ### Copy -/
/-- What Copy leaves: a Txs in new memory. -/
def CopyRet (w : World) (zs : List Int) (e : Ending) (w' : World) : Prop :=
  ∃ b o, e = .returned (.pointer (some ⟨b, 0, none⟩)) ∧ TxAt w' b o zs ∧ w.heap.size ≤ b ∧ (∀ g, o = some g → w.heap.size ≤ g) ∧ Below w.heap.size w w'
theorem copy_any (b : Nat) (o : Option Nat) (zs : List Int) (w : World) (h : TxAt w b o zs) (hz : zs.length ≤ 100000) :
    Calls Tryz.prog 34 #[.pointer (some ⟨b, 0, none⟩)] w (CopyRet w zs) := by
  obtain ⟨v, hb, hown, rfl⟩ := h
  have c0 : w.cell? ⟨b, 0, none⟩ = some v := hb.cell 0
  have hclone : Calls Tryz.prog 60 #[v] w fun e w' => ∃ v', e = .returned v' ∧ w'.ownsRow w.heap.size 3 1 v' zs.length (zs.map (Value.int .i64)) ∧ Below w.heap.size w w' := by
    rcases hown.2 with ⟨rfl, h0⟩ | ⟨g, cap, cur, rfl, _, hh, hn, _, hs, ht⟩
    · refine (Tryz.slices_Clone_int_nil 0 0 w).mono ?_
      rintro e w' ⟨rfl, rfl⟩
      have : zs = [] := List.eq_nil_of_length_eq_zero h0
      subst this
      exact ⟨_, rfl, World.ownsRow_nil _ _ _ _, Below.refl _ _⟩
    · refine (Tryz.slices_Clone_int g 0 zs.length cap zs w (Nat.le_refl _) (by omega) ?_).mono ?_
      · intro j hj
        have hcell := hown.cells (g := g) rfl j (.int .i64 (zs.getD j 0)) (by rw [List.getElem?_map, List.getElem?_eq_getElem hj, List.getD_eq_getElem?_getD, List.getElem?_eq_getElem hj]; rfl)
        rw [Addr.add_lit, Nat.zero_add] at hcell
        rw [Nat.zero_add]
        exact hcell
      · rintro e w' ⟨v', rfl, h1, _, h2⟩
        rw [List.take_length] at h1
        exact ⟨v', rfl, h1, h2⟩
  have HC := Lib.hid hclone
  clear hclone hb hown
  go_enter Tryz.func34, Tryz.ntmps34
  go_wp2_with fail
  refine HC.out.mono ?_
  rintro e w1 ⟨v', rfl, h1, h2⟩
  obtain ⟨A', n', c', rfl⟩ : ∃ A' n' c', v' = .slice A' n' c' := by
    rcases h1.2 with ⟨h, _⟩ | ⟨_, _, _, h, _⟩
    · exact ⟨_, _, _, h⟩
    · exact ⟨_, _, _, h⟩
  have H1 := Lib.hid h1
  have H2 := Lib.hid h2
  clear h1 h2
  go_wp2
  go_ret
  have hsz := H2.out.size
  refine ⟨w1.heap.size, _, rfl, ⟨_, Blk.new w1 _ _, ?_, rfl⟩, hsz, fun g hg => (H1.out.lt g hg).1, H2.out.trans ((below_new w1 _).mono hsz)⟩
  have := H1.out.alloc (.cells #[.slice A' n' c'] 58)
  exact ⟨this.1, this.2.imp id fun ⟨g, cap, cur, a1, a2, r⟩ => ⟨g, cap, cur, a1, Nat.zero_le _, r⟩⟩
end Go.Proofs.YthhhdddojmkgnaaGreatDoor
