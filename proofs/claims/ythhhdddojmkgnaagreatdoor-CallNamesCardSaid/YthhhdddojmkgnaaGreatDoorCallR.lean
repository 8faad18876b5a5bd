/-
  call.Parse: the state of its walk.
-/
import Derived.Test.YthhhdddojmkgnaaGreatDoorCallS
import Derived.Deep.DeepCutAuto
namespace Go.Proofs.YthhhdddojmkgnaaGreatDoor
open Go.RowKit

def callCells (c : CallR) : Array Value := #[.int .u8 c.kind, .int .i64 c.tx, .string (bs c.key), .string (bs c.en), .string (bs c.va), .int .i64 c.lim, .int .u8 c.eng]
def callV (c : CallR) : Value := .agg (callCells c)
def noCall : CallR := ⟨0, 0, [], [], [], 0, 0⟩

structure PSt (w W : World) (N r q : Nat) (ls : List Bs) (bad : Bool) (c : CallR) : Prop where
  rd : RdAt W (r + 1) r ls bad
  blk : W.heap[q]? = some (.cells (callCells c) 38 (0, 0))
  res : W.heap[N]? = some (.cells (callCells noCall) 38 (0, 0))
  below : Below w.heap.size w W
  hN : w.heap.size ≤ N
  hr : w.heap.size ≤ r
  rq : r < q
  rN : N < r
  lens : ∀ x ∈ ls, x.length ≤ 1000000000

/-- A reader's method has gone by. -/
theorem PSt.next {w W W' : World} {N r q : Nat} {ls ls' : List Bs} {bad bad' : Bool} {c : CallR} (h : PSt w W N r q ls bad c) (h1 : RdAt W' (r + 1) r ls' bad') (h2 : Only r W W') (hl : ∀ x ∈ ls', x ∈ ls) : PSt w W' N r q ls' bad' c :=
  { h with
    rd := h1
    blk := by rw [h2.block q (lt_of_block h.blk) (by have := h.rq; omega)]; exact h.blk
    res := by rw [h2.block N (lt_of_block h.res) (by have := h.rN; omega)]; exact h.res
    below := h2.below h.below h.hr h.below.size
    lens := fun x hx => h.lens x (hl x hx) }
/-- A callee that makes new memory alone has gone by. -/
theorem PSt.quiet {w W W' : World} {N r q : Nat} {ls : List Bs} {bad : Bool} {c : CallR} (h : PSt w W N r q ls bad c) (h2 : Below W.heap.size W W') : PSt w W' N r q ls bad c :=
  h.next (h.rd.below h2) (.of_below h2) (fun _ hx => hx)
theorem PSt.drew {w W : World} {N r q : Nat} {ls : List Bs} {bad : Bool} {c : CallR} (h : PSt w W N r q ls bad c) : PSt w W.drew N r q ls bad c :=
  { h with rd := h.rd.drew, blk := h.blk, res := h.res, below := h.below.drew }
theorem PSt.setBad {w W : World} {N r q : Nat} {ls : List Bs} {bad : Bool} {c : CallR} (h : PSt w W N r q ls bad c) (b : Bool) : PSt w (W.setCell ⟨r, 1, none⟩ (.bool b)) N r q ls b c :=
  h.next (h.rd.setBad b) (Only.setCell _ _ _ _) (fun _ hx => hx)

theorem heap_setCell7 {w : World} {q j : Nat} {cs : Array Value} {T : TypeId} (h : w.heap[q]? = some (.cells cs T (0, 0))) (v : Value) :
    (w.setCell ⟨q, j, none⟩ v).heap[q]? = some (.cells (cs.setIfInBounds j v) T (0, 0)) := by
  simp [World.setCell, Array.getElem?_modify, h]

theorem PSt.store {w W : World} {N r q j : Nat} {ls : List Bs} {bad : Bool} {c c' : CallR} {v : Value} (h : PSt w W N r q ls bad c) (hc : (callCells c).setIfInBounds j v = callCells c') : PSt w (W.setCell ⟨q, j, none⟩ v) N r q ls bad c' :=
  { h with
    rd := h.rd.blocks (fun k hk => Below.heap_setCell _ _ _ _ (by have := h.rq; simp; omega)) (by simp [World.setCell])
    blk := by rw [heap_setCell7 h.blk, hc]
    res := by rw [Below.heap_setCell _ _ _ _ (by have := h.rq; have := h.rN; simp; omega)]; exact h.res
    below := h.below.setCell (p := ⟨q, j, none⟩) (by have := h.rq; have := h.hr; simp; omega) v }

theorem PSt.kind {w W : World} {N r q : Nat} {ls : List Bs} {bad : Bool} {c : CallR} (h : PSt w W N r q ls bad c) : W.cell? ⟨q, 0, none⟩ = some (.int .u8 c.kind) := by
  rw [Lib.cell_of_heap h.blk]; rfl
theorem PSt.cell {w W : World} {N r q : Nat} {ls : List Bs} {bad : Bool} {c : CallR} (h : PSt w W N r q ls bad c) (j : Nat) : W.cell? ⟨q, j, none⟩ = (callCells c)[j]? := Lib.cell_of_heap h.blk j
theorem PSt.free {w W : World} {N r q : Nat} {ls : List Bs} {bad : Bool} {c : CallR} (h : PSt w W N r q ls bad c) (j : Nat) : W.frozen? ⟨q, j, none⟩ = false := Lib.frozen_of_heap h.blk j
theorem PSt.rcell {w W : World} {N r q : Nat} {ls : List Bs} {bad : Bool} {c : CallR} (h : PSt w W N r q ls bad c) (j : Nat) : W.cell? ⟨N, j, none⟩ = (callCells noCall)[j]? := Lib.cell_of_heap h.res j
theorem PSt.rfree {w W : World} {N r q : Nat} {ls : List Bs} {bad : Bool} {c : CallR} (h : PSt w W N r q ls bad c) (j : Nat) : W.frozen? ⟨N, j, none⟩ = false := Lib.frozen_of_heap h.res j

/-- The same ahead of the struct's variable. -/
structure PS0 (w W : World) (N r : Nat) (ls : List Bs) (bad : Bool) : Prop where
  rd : RdAt W (r + 1) r ls bad
  res : W.heap[N]? = some (.cells (callCells noCall) 38 (0, 0))
  below : Below w.heap.size w W
  hN : w.heap.size ≤ N
  hr : w.heap.size ≤ r
  rN : N < r
  lens : ∀ x ∈ ls, x.length ≤ 1000000000
theorem PS0.next {w W W' : World} {N r : Nat} {ls ls' : List Bs} {bad bad' : Bool} (h : PS0 w W N r ls bad) (h1 : RdAt W' (r + 1) r ls' bad') (h2 : Only r W W') (hl : ∀ x ∈ ls', x ∈ ls) : PS0 w W' N r ls' bad' :=
  { h with
    rd := h1
    res := by rw [h2.block N (lt_of_block h.res) (by have := h.rN; omega)]; exact h.res
    below := h2.below h.below h.hr h.below.size
    lens := fun x hx => h.lens x (hl x hx) }
theorem PS0.drew {w W : World} {N r : Nat} {ls : List Bs} {bad : Bool} (h : PS0 w W N r ls bad) : PS0 w W.drew N r ls bad :=
  { h with rd := h.rd.drew, res := h.res, below := h.below.drew }
theorem PS0.box {w W : World} {N r : Nat} {ls : List Bs} {bad : Bool} (h : PS0 w W N r ls bad) (c : CallR) : PSt w (W.alloc (.cells (callCells c) 38)) N r W.heap.size ls bad c where
  rd := h.rd.below ((Below.refl _ _).alloc (Nat.le_refl _) _)
  blk := heap_alloc_new _ _
  res := by rw [Lib.alloc_old _ _ _ (lt_of_block h.res)]; exact h.res
  below := h.below.alloc h.below.size _
  hN := h.hN
  hr := h.hr
  rq := h.rd.lt
  rN := h.rN
  lens := h.lens

/-- One number, one text read off the words. -/
def NumStep (ls : List Bs) (bad : Bool) (n : Int) (ls' : List Bs) (bad' : Bool) : Prop := n = (numOf (ls.headD [])).1 ∧ ls' = ls.tail ∧ bad' = ((bad || ls.isEmpty) || (numOf (ls.headD [])).2) ∧ IsInt n
def TextStep (ls : List Bs) (bad : Bool) (x : Bs) (ls' : List Bs) (bad' : Bool) : Prop := x = (textOf (ls.headD [])).1 ∧ ls' = ls.tail ∧ bad' = ((bad || ls.isEmpty) || (textOf (ls.headD [])).2)
theorem NumStep.mem {ls : List Bs} {bad : Bool} {n : Int} {ls' : List Bs} {bad' : Bool} (h : NumStep ls bad n ls' bad') : ∀ x ∈ ls', x ∈ ls := by
  rw [h.2.1]; exact fun _ hx => List.mem_of_mem_tail hx
theorem TextStep.mem {ls : List Bs} {bad : Bool} {n : Bs} {ls' : List Bs} {bad' : Bool} (h : TextStep ls bad n ls' bad') : ∀ x ∈ ls', x ∈ ls := by
  rw [h.2.1]; exact fun _ hx => List.mem_of_mem_tail hx
def NumRet (w : World) (M r : Nat) (ls : List Bs) (bad : Bool) (e : Ending) (w' : World) : Prop := ∃ n ls' bad', NumStep ls bad n ls' bad' ∧ e = .returned (.int .i64 n) ∧ RdAt w' M r ls' bad' ∧ Only r w w'
def TextRet (w : World) (M r : Nat) (ls : List Bs) (bad : Bool) (e : Ending) (w' : World) : Prop := ∃ x ls' bad', TextStep ls bad x ls' bad' ∧ e = .returned (.string (bs x)) ∧ RdAt w' M r ls' bad' ∧ Only r w w'
theorem numOf_int (s : Bs) : IsInt (numOf s).1 := by
  rcases hr : Lib.atoiAll s with v | _ | _
  · rw [numOf_ok hr]; exact atoi_int hr
  · rw [numOf_syntax hr]; exact ⟨by decide, by decide⟩
  · rw [numOf_range hr]
    have := Lib.atoiSat_bounds s
    exact ⟨by omega, by omega⟩
theorem number_ex (M r : Nat) (ls : List Bs) (bad : Bool) (w : World) (h : RdAt w M r ls bad) (he : Env w) (hr : 10 ≤ r) (hl : ∀ x ∈ ls, x.length ≤ 1000000000) :
    Calls Tryz.prog 37 #[.pointer (some ⟨r, 0, none⟩)] w (NumRet w M r ls bad) := by
  refine (number_any M r ls bad w h he hr hl).mono ?_
  rintro e w' ⟨rfl, h1, h2⟩
  exact ⟨_, _, _, ⟨rfl, rfl, rfl, numOf_int _⟩, rfl, h1, h2⟩
theorem text_ex (M r : Nat) (ls : List Bs) (bad : Bool) (w : World) (h : RdAt w M r ls bad) (he : Env w) (hr : 10 ≤ r) (hl : ∀ x ∈ ls, x.length ≤ 1000000000) :
    Calls Tryz.prog 39 #[.pointer (some ⟨r, 0, none⟩)] w (TextRet w M r ls bad) := by
  refine (text_any M r ls bad w h he hr hl).mono ?_
  rintro e w' ⟨rfl, h1, h2⟩
  exact ⟨_, _, _, ⟨rfl, rfl, rfl⟩, rfl, h1, h2⟩

/-- Which place a word has among the Kinds' words: -1: none. -/
def idxV (w : Bs) : Int := Lib.idxOfS ((wordL.map bs).take 10) (bs w)
theorem idxFrom_map (x : Bs) : ∀ (L : List Bs) (i : Nat), Lib.idxFromS (L.map bs) (bs x) i = if L.idxOf x < L.length then ((i + L.idxOf x : Nat) : Int) else -1
  | [], i => by simp [Lib.idxFromS]
  | z :: L, i => by
    by_cases h : z = x
    · subst h; simp [Lib.idxFromS]
    · have hb : ¬ bs z = bs x := fun e => h (bs_inj e)
      have ih := idxFrom_map x L (i + 1)
      simp only [List.map_cons, Lib.idxFromS, if_neg hb]
      have hi : (z :: L).idxOf x = L.idxOf x + 1 := by rw [List.idxOf_cons, beq_eq_false_iff_ne.2 h]; rfl
      rw [ih, hi]
      simp only [List.length_cons, Nat.add_lt_add_iff_right]
      split
      · omega
      · rfl
theorem idxV_eq (w : Bs) : idxV w = if wordL.idxOf w < 10 then ((wordL.idxOf w : Nat) : Int) else -1 := by
  have : (wordL.map bs).take 10 = wordL.map bs := by simp [wordL]
  have hl : wordL.length = 10 := rfl
  rw [idxV, this, Lib.idxOfS, idxFrom_map, hl, Nat.zero_add]

theorem index_words (w : Bs) (W : World) (hE : Env W) : Calls Tryz.prog 51 #[.slice (some ⟨0, 0, none⟩) 10 10, .string (bs w)] W fun e w' => e = .returned (.int .i64 (idxV w)) ∧ W = w' := by
  refine (Tryz.slices_Index_string 0 0 10 10 (wordL.map bs) (bs w) W (by simp [wordL]) (by omega) ?_).mono ?_
  · intro j hj
    rw [List.length_map] at hj
    have := hE.words j _ (List.getElem?_eq_getElem hj)
    simp only [Nat.zero_add]
    rw [this]
    simp [List.getD_eq_getElem?_getD, List.getElem?_map, List.getElem?_eq_getElem hj]
  · rintro e w' ⟨rfl, rfl⟩
    exact ⟨rfl, rfl⟩
end Go.Proofs.YthhhdddojmkgnaaGreatDoor
