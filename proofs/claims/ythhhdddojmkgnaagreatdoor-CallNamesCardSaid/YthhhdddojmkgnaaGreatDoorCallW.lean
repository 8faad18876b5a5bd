/-
  A strings.Builder that the call has made, with a frame that reaches above it: WriteByte keeps every block below 'base' but the builder's own.
-/
import Derived.Test.YthhhdddojmkgnaaGreatDoorCallM
import Derived.Lib.Builder
namespace Go.Proofs.YthhhdddojmkgnaaGreatDoor
open Go.RowKit

/-- Below 'base' only block b may have turned. -/
structure Keep (base b : Nat) (w w' : World) : Prop where
  os : w'.os = w.os
  tape : w'.tape = w.tape
  output : w'.output = w.output
  size : w.heap.size ≤ w'.heap.size
  block : ∀ k, k < base → k ≠ b → w'.heap[k]? = w.heap[k]?

theorem Keep.refl (base b : Nat) (w : World) : Keep base b w w := ⟨rfl, rfl, rfl, Nat.le_refl _, fun _ _ _ => rfl⟩
theorem Keep.trans {base b : Nat} {x y z : World} (h : Keep base b x y) (k : Keep base b y z) : Keep base b x z :=
  ⟨k.os.trans h.os, k.tape.trans h.tape, k.output.trans h.output, Nat.le_trans h.size k.size, fun i hi hr => (k.block i hi hr).trans (h.block i hi hr)⟩
theorem Keep.of_below {base b : Nat} {w w' : World} (h : Below w.heap.size w w') (hb : base ≤ w.heap.size) : Keep base b w w' :=
  ⟨h.os, h.tape, h.output, h.size, fun k hk _ => h.block k (by omega)⟩
theorem Keep.below {base b B : Nat} {w0 w w' : World} (h : Keep base b w w') (hw : Below B w0 w) (h1 : B ≤ base) (h2 : B ≤ b) : Below B w0 w' :=
  hw.trans ⟨h.os, h.tape, h.output, h.size, fun k hk => h.block k (by omega) (by omega)⟩

/-- A builder in block b that holds these bytes, in a row from 'base' on. -/
def Bld (w : World) (base b : Nat) (l : Bs) : Prop :=
  ∃ p v, w.heap[b]? = some (.cells #[p, v] 90 (0, 0)) ∧ (p = .pointer none ∨ p = .pointer (some ⟨b, 0, none⟩)) ∧ w.ownsRow base 5 1 v l.length (Lib.byteCells l)

theorem Bld.lt {w : World} {base b : Nat} {l : Bs} (h : Bld w base b l) : b < w.heap.size := by
  obtain ⟨p, v, h, _⟩ := h
  exact lt_of_block h

theorem ownsRow_below {w w' : World} {base e size n : Nat} {v : Value} {xs : List Value} (h : w.ownsRow base e size v n xs) (hb : Below w.heap.size w w') : w'.ownsRow base e size v n xs :=
  h.kept (row := none) ⟨hb.os, hb.tape, hb.output, hb.size, fun k hk _ => hb.block k hk⟩ (by
    cases hv : v.ownBlock with
    | none => exact .inl rfl
    | some k => exact .inr (by simp))

theorem ownsRow_mono {w : World} {base base' e size n : Nat} {v : Value} {xs : List Value} (h : w.ownsRow base e size v n xs) (hb : base' ≤ base) : w.ownsRow base' e size v n xs := by
  obtain ⟨h1, h2⟩ := h
  refine ⟨h1, ?_⟩
  rcases h2 with h2 | ⟨g, cap, cur, hv, hg, r⟩
  · exact .inl h2
  · exact .inr ⟨g, cap, cur, hv, by omega, r⟩

theorem Bld.below {w w' : World} {base b : Nat} {l : Bs} (h : Bld w base b l) (hb : Below w.heap.size w w') : Bld w' base b l := by
  have hl := h.lt
  obtain ⟨p, v, h, hp, ho⟩ := h
  exact ⟨p, v, by rw [hb.block b hl]; exact h, hp, ownsRow_below ho hb⟩

theorem bld_fresh (w : World) (base : Nat) : Bld (w.alloc (.cells #[.pointer none, .slice none 0 0] 90)) base w.heap.size [] :=
  ⟨_, _, heap_alloc_new w _, .inl rfl, World.ownsRow_nil _ _ _ _⟩

theorem neTB : 90 ≠ 5 := by decide

theorem Bld.is {w : World} {base b : Nat} {l : Bs} (h : Bld w base b l) (hb : b ≤ base) : Lib.IsBuilder 90 5 b b (Lib.byteCells l) w := by
  obtain ⟨p, v, h, hp, ho⟩ := h
  have hne := Lib.ownBlock_ne ho h neTB
  rw [← Lib.byteCells_length l] at ho
  rcases hp with rfl | rfl
  · exact .inl ⟨Nat.le_refl _, v, h, ownsRow_mono ho hb, hne⟩
  · exact .inr ⟨Nat.le_refl _, v, h, ownsRow_mono ho hb, hne⟩

theorem infoByte : (Tryz.prog.info? 5).map (fun i => (i.zero, i.size, i.bytes)) = some (some (.int .u8 0), 1, 1) := by kernel_rfl

theorem copyCheck_used (b : Nat) (w : World) (h0 : w.cell? ⟨b, 0, none⟩ = some (.pointer (some ⟨b, 0, none⟩))) :
    Calls Tryz.prog 83 #[.pointer (some ⟨b, 0, none⟩)] w fun e w' => e = .returned (.tuple #[]) ∧ w' = w :=
  Any.Builder_copyCheck_used { Tryz.lays167 with } Tryz.Builder_Extra_167.toX72 b w h0
theorem copyCheck_fresh (b : Nat) (w : World) (h0 : w.cell? ⟨b, 0, none⟩ = some (.pointer none)) (hsh : w.shape? b = some (90, 2)) (hfz : w.frozen? ⟨b, 0, none⟩ = false) :
    Calls Tryz.prog 83 #[.pointer (some ⟨b, 0, none⟩)] w fun e w' => e = .returned (.tuple #[]) ∧ w' = w.setCell ⟨b, 0, none⟩ (.pointer (some ⟨b, 0, none⟩)) :=
  Any.Builder_copyCheck_fresh { Tryz.lays167 with } Tryz.Builder_Extra_167.toX72 b w h0 hsh hfz

/-- Behind copyCheck the builder bears its own address. -/
def Used (w : World) (base b : Nat) (l : Bs) (e : Ending) (w' : World) : Prop :=
  e = .returned (.tuple #[]) ∧ ∃ v, w'.heap[b]? = some (.cells #[.pointer (some ⟨b, 0, none⟩), v] 90 (0, 0)) ∧ w'.ownsRow base 5 1 v l.length (Lib.byteCells l) ∧ Keep base b w w'

theorem copyCheck_any (base b : Nat) (l : Bs) (w : World) (h : Bld w base b l) :
    Calls Tryz.prog 83 #[.pointer (some ⟨b, 0, none⟩)] w (Used w base b l) := by
  obtain ⟨p, v, h, hp, ho⟩ := h
  have hne := Lib.ownBlock_ne ho h neTB
  have hc := cell_of_pair h
  rcases hp with rfl | rfl
  · refine (copyCheck_fresh b w hc.1 (by simp [World.shape?, h]) hc.2.2.1).mono ?_
    rintro e w' ⟨rfl, rfl⟩
    refine ⟨rfl, v, heap_setCell0 h _, ?_, ⟨rfl, rfl, rfl, by simp [World.setCell], fun k _ hk => Below.heap_setCell _ _ _ _ hk⟩⟩
    exact ho.kept (row := some b) ⟨rfl, rfl, rfl, by simp [World.setCell], fun k _ hk => Below.heap_setCell _ _ _ _ (fun e => hk (by simp [e]))⟩ (Or.inr hne)
  · refine (copyCheck_used b w hc.1).mono ?_
    rintro e w' ⟨rfl, rfl⟩
    exact ⟨rfl, v, h, ho, Keep.refl _ _ _⟩

set_option maxHeartbeats 2000000 in
set_option maxRecDepth 100000 in
theorem writeByte (base b : Nat) (l : Bs) (c : UInt8) (x : Int) (hx : x = (c.toNat : Int)) (w : World) (h : Bld w base b l) (hlen : l.length + 1 ≤ 140737488355328) (hbase : base ≤ w.heap.size) :
    Calls Tryz.prog 65 #[.pointer (some ⟨b, 0, none⟩), .int .u8 x] w fun e w' => e = .returned .nilIface ∧ Bld w' base b (l ++ [c]) ∧ Keep base b w w' := by
  obtain ⟨i0, hi, hz0, hz1, hz2⟩ := info_parts infoByte
  have Hx := Lib.hid hx
  clear hx
  go_enter Tryz.func65, Tryz.ntmps65
  go_wp2_with (go_at_call 83; refine (copyCheck_any base b l _ h).mono ?_)
  rintro e w1 ⟨rfl, v, hbk, hown, hk1⟩
  have Hk := Lib.hid hk1
  have hs1 := hk1.size
  have hne := Lib.ownBlock_ne hown hbk neTB
  have c0 : w1.cell? ⟨b, 0, none⟩ = some (.pointer (some ⟨b, 0, none⟩)) := (cell_of_pair hbk).1
  have c1 : w1.cell? ⟨b, 1, none⟩ = some v := (cell_of_pair hbk).2.1
  have Hb := Lib.hid hbk
  clear hk1 hbk
  go_wp2_with (at_builtin; refine wpList_append_own _ rfl _ _ 61 rfl base 5 i0 (.int .u8 0) 1 1 Tryz.underlying61 hi hz0 hz1 hz2 rfl (by decide) _ _ _ rfl (hown.alloc _) ⟨w1.heap.size, 0, none⟩ 1 1 [.int .u8 x] rfl rfl ?c1 ?c2 ?c3 ?c4 ?c5 ?_)
  case c1 =>
    intro j u hj
    match j, hj with
    | 0, hj => simp at hj; subst hj; simp [Addr.add]
  case c2 => intro u hu; simp at hu; subst hu; rfl
  case c3 => unfold maxLen; omega
  case c4 => omega
  case c5 => simp; omega
  intro v' w2 hown' hgrow _
  have hlt : b < w1.heap.size := lt_of_block Hb.out
  have hb2 : w2.heap[b]? = some (.cells #[.pointer (some ⟨b, 0, none⟩), v] 90 (0, 0)) := by
    rw [hgrow.block b (by simp; omega) (fun e => hne e.symm), Lib.alloc_old w1 _ b hlt]
    exact Hb.out
  have d0 : w2.cell? ⟨b, 0, none⟩ = some (.pointer (some ⟨b, 0, none⟩)) := (cell_of_pair hb2).1
  have d1 : w2.cell? ⟨b, 1, none⟩ = some v := (cell_of_pair hb2).2.1
  have f1 : w2.frozen? ⟨b, 1, none⟩ = false := (cell_of_pair hb2).2.2.2
  obtain ⟨g, cap, rfl⟩ : ∃ g cap, v' = .slice (some ⟨g, 0, none⟩) (l.length + 1) cap := by
    rcases hown'.2 with ⟨_, h0⟩ | ⟨g, cap, cur, hv, _⟩
    · omega
    · exact ⟨g, cap, hv⟩
  go_wp2
  go_ret
  have ebs : Lib.byteCells (l ++ [c]) = Lib.byteCells l ++ [.int .u8 x] := by rw [Lib.byteCells_append, Hx.out]; rfl
  have hne' := Lib.ownBlock_ne hown' hb2 neTB
  refine ⟨rfl, ⟨_, _, heap_setCell1 hb2 _, .inr rfl, ?_⟩, ?_⟩
  · rw [ebs, List.length_append]
    exact hown'.kept (row := some b) ⟨rfl, rfl, rfl, by simp [World.setCell], fun k _ hk => Below.heap_setCell _ _ _ _ (fun e => hk (by simp [e]))⟩ (Or.inr hne')
  · refine Hk.out.trans ⟨hgrow.os, hgrow.tape, hgrow.output, ?_, fun k hk hkb => ?_⟩
    · have := hgrow.size; simp [World.setCell] at this ⊢; omega
    · rw [Below.heap_setCell _ _ _ _ hkb, hgrow.block k (by simp; omega) (fun e => by have := (hown.lt k e.symm).1; omega), Lib.alloc_old w1 _ k (by omega)]
end Go.Proofs.YthhhdddojmkgnaaGreatDoor
