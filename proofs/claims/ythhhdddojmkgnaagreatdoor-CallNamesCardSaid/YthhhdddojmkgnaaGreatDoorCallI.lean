/-
  A call, a config among the arguments: read as the plain records.
-/
import Derived.Test.YthhhdddojmkgnaaGreatDoorCallE
import Derived.Test.YthhhdddojmkgnaaGreatDoorCallV
namespace Go.Proofs.YthhhdddojmkgnaaGreatDoor
open Go.ChangeShapes Go.WideShapes Go.ChangeAt Go.RowKit Go.Joins Go.Deep
open Go.ChangeMaps (open_string shut_string)

theorem int_of {H : Type} {enc : TypeId × Value → H} {w : World} {base : Nat} {spare : Nat → Bool} {held : Bool} {n : Nat} {v : Value} {y : DataW H × List MemPlace}
    (h : DataW.trod enc Tryz.prog w base spare held n 3 [v] = some y) : ∃ i : Int, v = .int .i64 i ∧ IsInt i := by
  obtain ⟨i, e, _, wi⟩ := DataW.trod_int Tryz.underlying3 h
  refine ⟨i, (List.cons.inj e).1, ?_⟩
  have := wi
  simp [Lit.wf, IntKind.min, IntKind.max, IntKind.signed, IntKind.bits] at this
  exact this
theorem byte_of {H : Type} {enc : TypeId × Value → H} {w : World} {base : Nat} {spare : Nat → Bool} {held : Bool} {n : Nat} {v : Value} {y : DataW H × List MemPlace}
    (h : DataW.trod enc Tryz.prog w base spare held n 5 [v] = some y) : ∃ i : Nat, v = .int .u8 (i : Int) ∧ i < 256 := by
  obtain ⟨i, e, _, wi⟩ := DataW.trod_int Tryz.underlying5 h
  have := wi
  simp [Lit.wf, IntKind.min, IntKind.max, IntKind.signed, IntKind.bits] at this
  exact ⟨i.toNat, by rw [(List.cons.inj e).1]; congr 1; omega, by omega⟩
theorem str_of {H : Type} {enc : TypeId × Value → H} {w : World} {base : Nat} {spare : Nat → Bool} {held : Bool} {n : Nat} {v : Value} {y : DataW H × List MemPlace}
    (h : DataW.trod enc Tryz.prog w base spare held n 9 [v] = some y) : ∃ l : Bs, v = .string (bs l) ∧ l.length ≤ maxLen := by
  obtain ⟨s, e, _, hs⟩ := DataW.trod_string Tryz.underlying9 h
  exact ⟨s.data.toList, by rw [(List.cons.inj e).1, bs_list], by rw [Array.length_toList]; exact hs⟩

/-- What a call that came in is. -/
structure CallIn (x : CallR) : Prop where
  kind : x.kind < 256
  tx : IsInt x.tx
  lim : IsInt x.lim
  eng : x.eng < 256

theorem cCall : Tryz.prog.cellsOf 38 = 7 := by kernel_rfl
theorem cCfg : Tryz.prog.cellsOf 36 = 8 := by kernel_rfl

set_option maxRecDepth 100000 in
theorem open_call {H : Type} {enc : TypeId × Value → H} {w : World} {base b0 : Nat} {spare : Nat → Bool} {held : Bool} {v : Value} {d : DataW H} {p : List MemPlace}
    (hv : Value.okWide Tryz.prog w .any b0 38 v) (h : DataW.Trod enc Tryz.prog w base spare held 38 v d p) : ∃ x : CallR, v = callV x ∧ CallIn x := by
  obtain ⟨v0, v1, v2, v3, v4, v5, v6, y0, y1, y2, y3, y4, y5, y6, n, rfl, _, _, r0, r1, r2, r3, r4, r5, r6⟩ := open_agg7 Tryz.underlying38 (by kernel_rfl) cCall hv h
  obtain ⟨k, rfl, hk⟩ := byte_of r0
  obtain ⟨tx, rfl, ht⟩ := int_of r1
  obtain ⟨key, rfl, _⟩ := str_of r2
  obtain ⟨en, rfl, _⟩ := str_of r3
  obtain ⟨va, rfl, _⟩ := str_of r4
  obtain ⟨lim, rfl, hl⟩ := int_of r5
  obtain ⟨eng, rfl, he⟩ := byte_of r6
  exact ⟨⟨k, tx, key, en, va, lim, eng⟩, rfl, hk, ht, hl, he⟩

set_option maxRecDepth 100000 in
theorem open_cfg {H : Type} {enc : TypeId × Value → H} {w : World} {base b0 : Nat} {spare : Nat → Bool} {held : Bool} {v : Value} {d : DataW H} {p : List MemPlace}
    (hv : Value.okWide Tryz.prog w .any b0 36 v) (h : DataW.Trod enc Tryz.prog w base spare held 36 v d p) : ∃ c : CfgR, v = cfgV c := by
  obtain ⟨v0, v1, v2, v3, v4, v5, v6, v7, y0, y1, y2, y3, y4, y5, y6, y7, n, rfl, _, _, r0, r1, r2, r3, r4, r5, r6, r7⟩ := open_agg8 Tryz.underlying36 (by kernel_rfl) cCfg hv h
  obtain ⟨i0, rfl, _⟩ := int_of r0
  obtain ⟨i1, rfl, _⟩ := int_of r1
  obtain ⟨i2, rfl, _⟩ := int_of r2
  obtain ⟨i3, rfl, _⟩ := int_of r3
  obtain ⟨i4, rfl, _⟩ := int_of r4
  obtain ⟨i5, rfl, _⟩ := int_of r5
  obtain ⟨i6, rfl, _⟩ := int_of r6
  obtain ⟨i7, rfl, _⟩ := int_of r7
  exact ⟨⟨i0, i1, i2, i3, i4, i5, i6, i7⟩, rfl⟩

theorem trod_lt' {H : Type} {enc : TypeId × Value → H} {w : World} {base : Nat} {spare : Nat → Bool} {held : Bool} {t : TypeId} {v : Value} {d : DataW H} {p : List MemPlace}
    (h : DataW.Trod enc Tryz.prog w base spare held t v d p) : ∀ x ∈ p, x.block < w.heap.size := by
  obtain ⟨m, hm⟩ := h
  exact DataW.trod_lt m _ _ _ hm
set_option maxRecDepth 100000 in
theorem open_str {H : Type} {enc : TypeId × Value → H} {w : World} {base b0 : Nat} {spare : Nat → Bool} {held : Bool} {v : Value} {d : DataW H} {p : List MemPlace}
    (hv : Value.okWide Tryz.prog w .any b0 9 v) (h : DataW.Trod enc Tryz.prog w base spare held 9 v d p) : ∃ l : Bs, v = .string (bs l) ∧ l.length ≤ maxLen := by
  obtain ⟨s, rfl, _, _, hs⟩ := open_string Tryz.underlying9 hv h
  exact ⟨s.data.toList, by rw [bs_list], by rw [Array.length_toList]; exact hs⟩
set_option maxRecDepth 100000 in
theorem open_num {H : Type} {enc : TypeId × Value → H} {w : World} {base b0 : Nat} {spare : Nat → Bool} {held : Bool} {v : Value} {d : DataW H} {p : List MemPlace}
    (hv : Value.okWide Tryz.prog w .any b0 3 v) (h : DataW.Trod enc Tryz.prog w base spare held 3 v d p) : ∃ n : Int, v = .int .i64 n ∧ IsInt n := by
  obtain ⟨n, rfl, _, _, wn⟩ := open_int Tryz.underlying3 hv h
  refine ⟨n, rfl, ?_⟩
  have := wn
  simp [Lit.wf, IntKind.min, IntKind.max, IntKind.signed, IntKind.bits] at this
  exact this
end Go.Proofs.YthhhdddojmkgnaaGreatDoor
