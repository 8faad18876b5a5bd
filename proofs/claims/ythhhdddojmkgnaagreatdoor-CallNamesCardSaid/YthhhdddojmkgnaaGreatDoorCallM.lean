/-
  Memory words of the Call proofs: strings as lists of bytes; a reader's two cells; 'only that block has turned'.
-/
import Derived.Test.YthhhdddojmkgnaaGreatDoorCallB
import Derived.Test.YthhhdddojmkgnaaGreatDoorCallShelf
import Derived.Test.YthhhdddojmkgnaaGreatDoorCallP
import Derived.RegionCalls
namespace Go.Proofs.YthhhdddojmkgnaaGreatDoor
open Go.RowKit


def bs (l : Bs) : ByteArray := ⟨l.toArray⟩
theorem bs_list (s : ByteArray) : bs s.data.toList = s := by cases s; simp [bs]
theorem bs_data (l : Bs) : (bs l).data.toList = l := by simp [bs]
@[go_sem] theorem bs_size (l : Bs) : (bs l).size = l.length := by simp [bs, ByteArray.size]
@[go_sem] theorem bs_toList (l : Bs) : (bs l).toList = l := by rw [ByteArray.toList_eq, bs_data]
@[go_sem] theorem bs_extract (l : Bs) (i j : Nat) : (bs l).extract i j = bs ((l.take j).drop i) := by
  apply ByteArray.ext
  simp [bs, ByteArray.data_extract, List.extract_toArray, List.drop_take]
theorem exists_bs (s : ByteArray) : ∃ l, s = bs l := ⟨_, (bs_list s).symm⟩
theorem bs_inj {a b : Bs} (h : bs a = bs b) : a = b := by
  have := congrArg (fun s : ByteArray => s.data.toList) h
  simpa [bs] using this

section
variable {P : Program} {ops : Array Oper} {Q : Exit → Act → World → Prop} {md : Region.Mode}
/-- A region that draws its order, the operations and what is listed written out. -/
theorem region_start {id n : Nat} {l : Array Bool} {a : Act} {w : World} (hm : P.follows .mixedOrders = true) (hn : ops.size = n) (hl : Array.replicate n false = l)
    (h : wpAny P .any ops Q n l a w.drew) : (Code.region id ops true).wp P Q a w := by
  subst hn; subst hl
  exact wp_region_any hm h
/-- An operation that yields in whatever world is taken first. -/
theorem region_take {i : Nat} {oi : Oper} {d : Option Tmp} {v : Value} {fuel : Nat} {l l' : Array Bool} {a : Act} {w : World} (hi : ops[i]? = some oi) (hd : oi.dst = d) (hl : l.setIfInBounds i true = l')
    (hs : Region.noSelect ops = true) (hf : Region.free md ops l i = true) (hr : (Region.ready md ops l).contains i = true)
    (hQ : ∀ c a w, Q (.panic c) (a.put d v) w → Q (.panic c) a w) (hy : Yields P ops oi v a)
    (h : wpAny P md ops Q fuel l' (a.put d v) w) : wpAny P md ops Q (fuel + 1) l a w := by
  subst hd; subst hl
  exact wpAny_take hi hs hf hr hQ hy h
/-- One of several that may come next. -/
theorem region_cons {i : Nat} {oi : Oper} {d : Option Tmp} {fuel : Nat} {l l' : Array Bool} {a : Act} {w : World} {rs : List Nat} (hi : ops[i]? = some oi) (hd : oi.dst = d) (hl : l.setIfInBounds i true = l')
    (h : ∀ K : Act → World → Prop, (∀ a w, wpAny P md ops Q fuel l' a w → K a w) → if Region.wanted oi (yielded ops a.tmps) = true then Oper.wp P oi a w K Q else K (a.put d undef) w)
    (hs : AllReady P md ops Q fuel l a w rs) : AllReady P md ops Q fuel l a w (i :: rs) := by
  subst hd; subst hl
  exact AllReady.cons hi h hs
/-- One that alone may come next is carried out. -/
theorem region_one {i : Nat} {oi : Oper} {d : Option Tmp} {fuel : Nat} {l l' : Array Bool} {a : Act} {w : World} (hi : ops[i]? = some oi) (hd : oi.dst = d) (hl : l.setIfInBounds i true = l')
    (hr : Region.ready md ops l = [i]) (h : ∀ K : Act → World → Prop, (∀ a w, wpAny P md ops Q fuel l' a w → K a w) → if Region.wanted oi (yielded ops a.tmps) = true then Oper.wp P oi a w K Q else K (a.put d undef) w) : wpAny P md ops Q (fuel + 1) l a w := by
  subst hd; subst hl
  exact wpAny_ready hr (by simp) (AllReady.cons hi h AllReady.nil)
end

/-- Only block r may have turned; there may be new ones. -/
structure Only (r : Nat) (w w' : World) : Prop where
  os : w'.os = w.os
  tape : w'.tape = w.tape
  output : w'.output = w.output
  size : w.heap.size ≤ w'.heap.size
  block : ∀ k, k < w.heap.size → k ≠ r → w'.heap[k]? = w.heap[k]?

theorem Only.refl (r : Nat) (w : World) : Only r w w := ⟨rfl, rfl, rfl, Nat.le_refl _, fun _ _ _ => rfl⟩
theorem Only.trans {r : Nat} {a b c : World} (h : Only r a b) (k : Only r b c) : Only r a c :=
  ⟨k.os.trans h.os, k.tape.trans h.tape, k.output.trans h.output, Nat.le_trans h.size k.size, fun i hi hr => (k.block i (Nat.lt_of_lt_of_le hi h.size) hr).trans (h.block i hi hr)⟩
theorem Only.of_below {r : Nat} {w w' : World} (h : Below w.heap.size w w') : Only r w w' := ⟨h.os, h.tape, h.output, h.size, fun k hk _ => h.block k hk⟩
theorem Only.setCell (r o : Nat) (w : World) (v : Value) : Only r w (w.setCell ⟨r, o, none⟩ v) :=
  ⟨rfl, rfl, rfl, by simp [World.setCell], fun k _ hr => Below.heap_setCell _ _ _ _ hr⟩
theorem Only.below {r B : Nat} {w0 w w' : World} (h : Only r w w') (hb : Below B w0 w) (hr : B ≤ r) (hB : B ≤ w.heap.size) : Below B w0 w' :=
  hb.trans ⟨h.os, h.tape, h.output, h.size, fun k hk => h.block k (by omega) (by omega)⟩

theorem undrew {w w' : World} (h : Below w.drew.heap.size w.drew w') : Below w.heap.size w w' := ⟨h.os, h.tape, h.output, h.size, h.block⟩

theorem heap_setCell0 {w : World} {r : Nat} {x y : Value} {T : TypeId} (h : w.heap[r]? = some (.cells #[x, y] T (0, 0))) (v : Value) :
    (w.setCell ⟨r, 0, none⟩ v).heap[r]? = some (.cells #[v, y] T (0, 0)) := by
  simp [World.setCell, Array.getElem?_modify, h]
theorem heap_setCell1 {w : World} {r : Nat} {x y : Value} {T : TypeId} (h : w.heap[r]? = some (.cells #[x, y] T (0, 0))) (v : Value) :
    (w.setCell ⟨r, 1, none⟩ v).heap[r]? = some (.cells #[x, v] T (0, 0)) := by
  simp [World.setCell, Array.getElem?_modify, h]
theorem cell_of_pair {w : World} {r : Nat} {x y : Value} {T : TypeId} (h : w.heap[r]? = some (.cells #[x, y] T (0, 0))) :
    w.cell? ⟨r, 0, none⟩ = some x ∧ w.cell? ⟨r, 1, none⟩ = some y ∧ w.frozen? ⟨r, 0, none⟩ = false ∧ w.frozen? ⟨r, 1, none⟩ = false := by
  simp [World.cell?, World.frozen?, h]
theorem lt_of_block {w : World} {r : Nat} {o : Obj} (h : w.heap[r]? = some o) : r < w.heap.size := by
  rcases Nat.lt_or_ge r w.heap.size with h1 | h1
  · exact h1
  · rw [Array.getElem?_eq_none h1] at h; cases h

/-- A slice of strings whose elements are these; its array lies below M and is not block r. -/
def StrsAt (w : World) (M r : Nat) (p : Option Addr) (ls : List Bs) : Prop :=
  ∀ i l, ls[i]? = some l → ∃ b off, p = some ⟨b, off, none⟩ ∧ b ≠ r ∧ b < M ∧ w.cell? ⟨b, off + i, none⟩ = some (.string (bs l))

/-- A reader in block r, it and its words below M: these words are left; is it bad? -/
def RdAt (w : World) (M r : Nat) (ls : List Bs) (bad : Bool) : Prop :=
  (r < M ∧ M ≤ w.heap.size) ∧ ∃ p cap, w.heap[r]? = some (.cells #[.slice p ls.length cap, .bool bad] 68 (0, 0)) ∧ ls.length ≤ cap ∧ cap ≤ maxLen ∧ StrsAt w M r p ls

theorem StrsAt.only {w w' : World} {M r : Nat} {p : Option Addr} {ls : List Bs} (h : StrsAt w M r p ls) (ho : ∀ k, k < M → k ≠ r → w'.heap[k]? = w.heap[k]?) : StrsAt w' M r p ls := by
  intro i l hi
  obtain ⟨b, off, hp, hr, hb, hc⟩ := h i l hi
  exact ⟨b, off, hp, hr, hb, by rw [World.cell?_of_block (w := w) (ho b hb hr)]; exact hc⟩

theorem RdAt.lt {w : World} {M r : Nat} {ls : List Bs} {bad : Bool} (h : RdAt w M r ls bad) : r < w.heap.size := Nat.lt_of_lt_of_le h.1.1 h.1.2

theorem RdAt.blocks {w w' : World} {M r : Nat} {ls : List Bs} {bad : Bool} (h : RdAt w M r ls bad) (hb : ∀ k, k < M → w'.heap[k]? = w.heap[k]?) (hs : w.heap.size ≤ w'.heap.size) : RdAt w' M r ls bad := by
  obtain ⟨hr, p, cap, h, h1, h2, h3⟩ := h
  exact ⟨⟨hr.1, Nat.le_trans hr.2 hs⟩, p, cap, by rw [hb r hr.1]; exact h, h1, h2, h3.only (fun k hk _ => hb k hk)⟩

theorem RdAt.below {w w' : World} {M r : Nat} {ls : List Bs} {bad : Bool} (h : RdAt w M r ls bad) (hb : Below w.heap.size w w') : RdAt w' M r ls bad :=
  h.blocks (fun k hk => hb.block k (Nat.lt_of_lt_of_le hk h.1.2)) hb.size

theorem RdAt.setBad {w : World} {M r : Nat} {ls : List Bs} {bad : Bool} (h : RdAt w M r ls bad) (b : Bool) : RdAt (w.setCell ⟨r, 1, none⟩ (.bool b)) M r ls b := by
  obtain ⟨hr, p, cap, h, h1, h2, h3⟩ := h
  exact ⟨⟨hr.1, by simpa [World.setCell] using hr.2⟩, p, cap, heap_setCell1 h _, h1, h2, h3.only (fun k _ hk => Below.heap_setCell _ _ _ _ hk)⟩

/-- The reader's flag, as a cell. -/
theorem RdAt.cell1 {w : World} {M r : Nat} {ls : List Bs} {bad : Bool} (h : RdAt w M r ls bad) : w.cell? ⟨r, 1, none⟩ = some (.bool bad) ∧ w.frozen? ⟨r, 1, none⟩ = false := by
  obtain ⟨_, p, cap, h, _⟩ := h
  have := cell_of_pair h
  exact ⟨this.2.1, this.2.2.2⟩

/-- What a reader's method leaves: its value, the reader, and nothing else has turned. -/
def RdRet (w : World) (M r : Nat) (v : Value) (ls : List Bs) (bad : Bool) (e : Ending) (w' : World) : Prop := e = .returned v ∧ RdAt w' M r ls bad ∧ Only r w w'

theorem next_nil (M r : Nat) (bad : Bool) (w : World) (h : RdAt w M r [] bad) :
    Calls Tryz.prog 38 #[.pointer (some ⟨r, 0, none⟩)] w (RdRet w M r (.string (bs [])) [] true) := by
  have HR := Lib.hid (h.setBad true)
  obtain ⟨hr, p, cap, h, h1, h2, h3⟩ := h
  obtain ⟨c0, c1, f0, f1⟩ := cell_of_pair h
  clear h h3
  simp only [List.length_nil] at c0
  go_enter Tryz.func38, Tryz.ntmps38
  go_wp2
  go_ret
  exact ⟨rfl, HR.out, Only.setCell _ _ _ _⟩

theorem next_cons (M r : Nat) (bad : Bool) (l : Bs) (ls : List Bs) (w : World) (h : RdAt w M r (l :: ls) bad) :
    Calls Tryz.prog 38 #[.pointer (some ⟨r, 0, none⟩)] w (RdRet w M r (.string (bs l)) ls bad) := by
  obtain ⟨hr, p, cap, h, h1, h2, h3⟩ := h
  obtain ⟨b, off, rfl, hbr, hb, hcl⟩ := h3 0 l rfl
  obtain ⟨c0, c1, f0, f1⟩ := cell_of_pair h
  have Hh := Lib.hid h
  have H3 := Lib.hid h3
  clear h h3
  unfold maxLen at h2
  simp only [List.length_cons, Nat.add_zero] at c0 hcl h1
  by_cases hcap : cap = 1
  · subst hcap
    have hl0 : ls.length = 0 := by omega
    obtain rfl : ls = [] := List.eq_nil_of_length_eq_zero hl0
    clear hl0
    simp only [List.length_nil, Nat.zero_add] at c0 h1
    go_enter Tryz.func38, Tryz.ntmps38
    go_wp2
    go_ret
    exact ⟨rfl, ⟨⟨hr.1, by simpa [World.setCell] using hr.2⟩, _, _, heap_setCell0 Hh.out _, by simp, by simp [maxLen], fun i x hx => by simp at hx⟩, Only.setCell _ _ _ _⟩
  · go_enter Tryz.func38, Tryz.ntmps38
    go_wp2
    go_ret
    refine ⟨rfl, ⟨⟨hr.1, by simpa [World.setCell] using hr.2⟩, _, _, heap_setCell0 Hh.out _, by omega, by unfold maxLen; omega, ?_⟩, Only.setCell _ _ _ _⟩
    intro i x hx
    obtain ⟨b', off', hp, hr', hb', hc'⟩ := H3.out (i + 1) x (by simpa using hx)
    simp only [Option.some.injEq, Addr.mk.injEq, and_true] at hp
    obtain ⟨rfl, rfl⟩ := hp
    refine ⟨b, off + 1, rfl, hr', hb', ?_⟩
    rw [show off + 1 + i = off + (i + 1) by omega, World.cell?_of_block (w := w) (Below.heap_setCell _ _ _ _ hr')]
    exact hc'
end Go.Proofs.YthhhdddojmkgnaaGreatDoor
