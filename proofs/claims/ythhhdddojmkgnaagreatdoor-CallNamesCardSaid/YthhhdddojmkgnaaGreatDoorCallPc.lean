/-
  call.Read: the state of its walk; what its loop computes.
-/
import Derived.Test.YthhhdddojmkgnaaGreatDoorCallPa
import Derived.Laws.ResultCell
import Derived.Laws.Rows
namespace Go.Proofs.YthhhdddojmkgnaaGreatDoor
open Go.RowKit

/-! ### Plain -/
def restP (ls : List Bs) (bad : Bool) : List (Bs × Bs) × Rd := if bad then ([], ⟨ls, true⟩) else readPairs ls
theorem rdP_rest (ws : List Bs) : rdP ws = restP (rdV ws).2.l (rdV ws).2.bad := by
  unfold rdP restP
  generalize (rdV ws).2 = r
  obtain ⟨l, b⟩ := r
  cases b <;> rfl
theorem restP_step {ls ls2 ls3 : List Bs} {b2 b3 : Bool} {x y : Bs} (h : ls ≠ []) (s1 : TextStep ls false x ls2 b2) (s2 : TextStep ls2 b2 y ls3 b3) :
    restP ls false = ((x, y) :: (restP ls3 b3).1, (restP ls3 b3).2) := by
  obtain ⟨rfl, rfl, rfl⟩ := s1
  obtain ⟨rfl, rfl, rfl⟩ := s2
  match ls, h with
  | [a], _ => simp [restP, readPairs]
  | a :: b :: t, _ =>
    by_cases hb : (textOf a).2 || (textOf b).2
    · simp [restP, readPairs, hb]
    · simp only [Bool.not_eq_true] at hb
      simp [restP, readPairs, hb]
theorem restP_end {ls : List Bs} {bad : Bool} (h : ls = [] ∨ bad = true) : restP ls bad = ([], ⟨ls, bad⟩) := by
  unfold restP
  cases bad
  · rcases h with rfl | h
    · rfl
    · cases h
  · rfl
/-- The words' reading, statement by statement. -/
theorem read_of {s : Bs} {ls1 ls2 ls3 ls4 : List Bs} {b1 b2 b3 b4 : Bool} {n : Int} {va : Bs} {f : Bs} {qs : List (Bs × Bs)} (s1 : NumStep (splitF s) false n ls1 b1) (e2 : f = ls1.headD []) (e3 : ls2 = ls1.tail) (e4 : b2 = ((b1 || ls1.isEmpty) || (!decide (f = [49]) && !decide (f = [48]))))
    (s3 : TextStep ls2 b2 va ls3 b3) (hq : restP ls3 b3 = (qs, ⟨ls4, b4⟩)) : readF s = if !b4 && decide (ls4 = []) then some ⟨n, decide (f = [49]), va, qs⟩ else none := by
  have h1 : Rd.number ⟨splitF s, false⟩ = (n, ⟨ls1, b1⟩) := num_eq s1
  have h2 : Rd.next ⟨ls1, b1⟩ = (f, ⟨ls2, b1 || ls1.isEmpty⟩) := by rw [Rd.next_eq, e2, e3]
  have h3 : rdV (splitF s) = (va, ⟨ls3, b3⟩) := by
    unfold rdV foundBad
    rw [h1]
    simp only [h2]
    rw [← e4]
    exact text_eq s3
  rw [readF, readW, rdP_rest, h3, hq, h1]
  simp only [h2]
  rfl

/-! ### Memory -/
def pairCells (ps : List (Bs × Bs)) : List Value := ps.flatMap fun p => [strV p.1, strV p.2]
theorem pairCells_length (ps : List (Bs × Bs)) : (pairCells ps).length = ps.length * 2 := by
  induction ps with
  | nil => rfl
  | cons p r ih =>
    have : pairCells (p :: r) = strV p.1 :: strV p.2 :: pairCells r := rfl
    rw [this]; simp [ih]; omega
theorem pairCells_get (ps : List (Bs × Bs)) (j : Nat) (p : Bs × Bs) (h : ps[j]? = some p) : (pairCells ps)[j * 2]? = some (strV p.1) ∧ (pairCells ps)[j * 2 + 1]? = some (strV p.2) := by
  induction ps generalizing j with
  | nil => simp at h
  | cons q r ih =>
    have e : pairCells (q :: r) = strV q.1 :: strV q.2 :: pairCells r := rfl
    rw [e]
    cases j with
    | zero => simp at h; subst h; simp
    | succ i =>
      rw [List.getElem?_cons_succ] at h
      have := ih i h
      rw [show (i + 1) * 2 = i * 2 + 1 + 1 by omega]
      simpa using this
theorem pairs_of_row {w : World} {base n : Nat} {v : Value} {ps : List (Bs × Bs)} (h : w.ownsRow base 33 2 v n (pairCells ps)) : PairsAt w v ps := by
  have hlen : ps.length = n := by have := h.1; rw [pairCells_length] at this; omega
  rcases h.2 with ⟨rfl, h0⟩ | ⟨g, cap, cur, rfl, _, hh, hn, hm, hs, ht⟩
  · refine ⟨none, 0, by rw [hlen, h0], by omega, by unfold maxLen; omega, fun j p hj => ?_⟩
    have := (List.getElem?_eq_some_iff.1 hj).1
    omega
  · subst hlen
    refine ⟨_, cap, rfl, hn, hm, fun j p hj => ⟨g, 0, rfl, ?_⟩⟩
    have h1 := h.cells (g := g) rfl (j * 2) _ (pairCells_get ps j p hj).1
    have h2 := h.cells (g := g) rfl (j * 2 + 1) _ (pairCells_get ps j p hj).2
    rw [Addr.add_lit] at h1 h2
    exact ⟨h1, by rw [show 0 + j * 2 + 1 = 0 + (j * 2 + 1) by omega]; exact h2⟩

def noAns : AnsR := ⟨0, false, [], []⟩
/-- Read's state: the reader, the answer's variable, its row of pairs. -/
structure RdSt (w : World) (r q : Nat) (ls : List Bs) (bad : Bool) (a : AnsR) (v : Value) (W : World) : Prop where
  rd : RdAt W (r + 1) r ls bad
  res : Blk W w.heap.size (ansCells noAns (.slice none 0 0)) 25
  box : Blk W q (ansCells a v) 25
  own : W.ownsRow (q + 1) 33 2 v a.pairs.length (pairCells a.pairs)
  far : Below w.heap.size w W
  rN : w.heap.size < r
  rq : r < q
  lens : ∀ x ∈ ls, x.length ≤ 1000000000
theorem RdSt.next {w W W' : World} {r q : Nat} {ls ls' : List Bs} {bad bad' : Bool} {a : AnsR} {v : Value} (h : RdSt w r q ls bad a v W) (h1 : RdAt W' (r + 1) r ls' bad') (h2 : Only r W W') (hl : ∀ x ∈ ls', x ∈ ls) : RdSt w r q ls' bad' a v W' :=
  { h with
    rd := h1
    res := by unfold Blk; rw [h2.block _ h.res.lt (by have := h.rN; omega)]; exact h.res
    box := by unfold Blk; rw [h2.block _ h.box.lt (by have := h.rq; omega)]; exact h.box
    own := by
      obtain ⟨e1, e2⟩ := h.own
      refine ⟨e1, e2.imp id fun ⟨g, cap, cur, hv, hg, hh, t⟩ => ⟨g, cap, cur, hv, hg, ?_, t⟩⟩
      rw [h2.block g (lt_of_block hh) (by have := h.rq; omega)]; exact hh
    far := h2.below h.far (by have := h.rN; omega) h.far.size
    lens := fun x hx => h.lens x (hl x hx) }
theorem RdSt.drew {w W : World} {r q : Nat} {ls : List Bs} {bad : Bool} {a : AnsR} {v : Value} (h : RdSt w r q ls bad a v W) : RdSt w r q ls bad a v W.drew :=
  { h with rd := h.rd.drew, res := h.res, box := h.box, own := h.own, far := h.far.drew }
theorem RdSt.setBad {w W : World} {r q : Nat} {ls : List Bs} {bad : Bool} {a : AnsR} {v : Value} (h : RdSt w r q ls bad a v W) (b : Bool) : RdSt w r q ls b a v (W.setCell ⟨r, 1, none⟩ (.bool b)) :=
  h.next (h.rd.setBad b) (Only.setCell _ _ _ _) (fun _ hx => hx)
theorem RdSt.quiet {w W W' : World} {r q : Nat} {ls : List Bs} {bad : Bool} {a : AnsR} {v : Value} (h : RdSt w r q ls bad a v W) (h2 : Below W.heap.size W W') : RdSt w r q ls bad a v W' :=
  h.next (h.rd.below h2) (.of_below h2) (fun _ hx => hx)
/-- A store into the answer's variable. -/
theorem RdSt.store {w W : World} {r q j : Nat} {ls : List Bs} {bad : Bool} {a a' : AnsR} {v u : Value} (h : RdSt w r q ls bad a v W) (hc : (ansCells a v).setIfInBounds j u = ansCells a' v) (hp : a'.pairs = a.pairs) : RdSt w r q ls bad a' v (W.setCell ⟨q, j, none⟩ u) :=
  { h with
    rd := h.rd.blocks (fun k hk => Below.heap_setCell _ _ _ _ (by have := h.rq; show k ≠ q; omega)) (by simp [World.setCell])
    res := h.res.set_other _ _ (by have := h.rN; have := h.rq; omega)
    box := by rw [← hc]; exact h.box.set j u
    own := by
      rw [hp]
      obtain ⟨e1, e2⟩ := h.own
      refine ⟨e1, e2.imp id fun ⟨g, cap, cur, hv, hg, hh, t⟩ => ⟨g, cap, cur, hv, hg, ?_, t⟩⟩
      rw [Below.heap_setCell _ _ _ _ (by show g ≠ q; omega)]; exact hh
    far := h.far.setCell (by show w.heap.size ≤ q; have := h.rN; have := h.rq; omega) _ }
theorem RdSt.two {w W : World} {r q : Nat} {ls : List Bs} {bad : Bool} {n : Int} {F0 F B F' B' : Bool} {v : Value} (h : RdSt w r q ls bad ⟨n, F0, [], []⟩ v W) (hF : F = F') (hB : B = B') :
    RdSt w r q ls B' ⟨n, F', [], []⟩ v ((W.setCell ⟨q, 1, none⟩ (.bool F)).setCell ⟨r, 1, none⟩ (.bool B)) := by
  subst hF; subst hB
  exact (h.store (j := 1) (u := .bool F) (a' := ⟨n, F, [], []⟩) rfl rfl).setBad B
/-- A pair appended, the row stored back. -/
theorem RdSt.push {w W W' : World} {r q : Nat} {ls : List Bs} {bad : Bool} {a : AnsR} {v v' : Value} {o : Obj} {x y : Bs} (h : RdSt w r q ls bad a v W)
    (hown : W'.ownsRow (q + 1) 33 2 v' (a.pairs.length + 1) (pairCells a.pairs ++ [.string (bs x), .string (bs y)])) (hg : (W.alloc o).grownBy W' v.ownBlock) :
    RdSt w r q ls bad { a with pairs := a.pairs ++ [(x, y)] } v' (W'.setCell ⟨q, 3, none⟩ v') := by
  have hq := h.rq
  have hN := h.rN
  have hlt := h.box.lt
  have hb : ∀ k, k ≤ q → W'.heap[k]? = W.heap[k]? := fun k hk => by
    rw [hg.block k (by simp; omega) (fun e => by have := (h.own.lt k e.symm).1; omega), Lib.alloc_old W _ k (by omega)]
  have hs : W.heap.size ≤ W'.heap.size := by have := hg.size; simp at this; omega
  refine { rd := ?_, res := ?_, box := ?_, own := ?_, far := ?_, rN := hN, rq := hq, lens := h.lens }
  · exact h.rd.blocks (fun k hk => by rw [Below.heap_setCell _ _ _ _ (by show k ≠ q; omega)]; exact hb k (by omega)) (by simp [World.setCell]; omega)
  · have : Blk W' w.heap.size (ansCells noAns (.slice none 0 0)) 25 := by unfold Blk; rw [hb _ (by omega)]; exact h.res
    exact this.set_other _ _ (by omega)
  · have : Blk W' q (ansCells a v) 25 := by unfold Blk; rw [hb _ (by omega)]; exact h.box
    exact this.set 3 v'
  · have e : pairCells (a.pairs ++ [(x, y)]) = pairCells a.pairs ++ [.string (bs x), .string (bs y)] := by simp [pairCells, strV]
    rw [List.length_append, e]
    obtain ⟨e1, e2⟩ := hown
    refine ⟨e1, e2.imp id fun ⟨g, cap, cur, hv, hg, hh, t⟩ => ⟨g, cap, cur, hv, hg, ?_, t⟩⟩
    rw [Below.heap_setCell _ _ _ _ (by show g ≠ q; omega)]; exact hh
  · refine Below.setCell ?_ (by show w.heap.size ≤ q; omega) _
    exact grow_below (h.far.alloc h.far.size o) hg (by have := h.far.size; simp; omega) (fun k hk => by have := (h.own.lt k hk).1; omega)

theorem grow_blk {W W' : World} {q : Nat} {xs : Array Value} {T : TypeId} {o : Obj} {row : Option Nat} (h : Blk W q xs T) (hg : (W.alloc o).grownBy W' row) (hn : ∀ j, row = some j → j ≠ q) : Blk W' q xs T := by
  have hl := h.lt
  unfold Blk
  rw [hg.block q (by simp; omega) (fun e => hn q e.symm rfl), Lib.alloc_old W _ q hl]
  exact h
/-- How many words are left, by the reader's first cell. -/
def wlen : Option Value → Nat
  | some (.slice _ n _) => n
  | _ => 0
theorem RdSt.words {w W : World} {r q : Nat} {ls : List Bs} {bad : Bool} {a : AnsR} {v : Value} (h : RdSt w r q ls bad a v W) : ∃ p cap, W.cell? ⟨r, 0, none⟩ = some (.slice p ls.length cap) ∧ ls.length ≤ cap := by
  obtain ⟨_, p, cap, hh, h1, _⟩ := h.rd
  exact ⟨p, cap, (cell_of_pair hh).1, h1⟩

/-- What Read leaves. -/
def ReadRet (s : Bs) (w : World) (e : Ending) (w' : World) : Prop :=
  Below w.heap.size w w' ∧ match readF s with
    | some a => ∃ v, e = .returned (.tuple #[ansVV a v, .int .i64 0]) ∧ w'.ownsRow w.heap.size 33 2 v a.pairs.length (pairCells a.pairs)
    | none => e = .returned (.tuple #[ansVV noAns (.slice none 0 0), .int .i64 4])

theorem row_set {W : World} {base e size n : Nat} {v : Value} {xs : List Value} (h : W.ownsRow base e size v n xs) {k : Nat} (hk : k < base) (j : Nat) (u : Value) : (W.setCell ⟨k, j, none⟩ u).ownsRow base e size v n xs := by
  obtain ⟨e1, e2⟩ := h
  refine ⟨e1, e2.imp id fun ⟨g, cap, cur, hv, hg, hh, t⟩ => ⟨g, cap, cur, hv, hg, ?_, t⟩⟩
  rw [Below.heap_setCell _ _ _ _ (by show g ≠ k; omega)]; exact hh
theorem row_low {W : World} {base base' e size n : Nat} {v : Value} {xs : List Value} (h : W.ownsRow base e size v n xs) (hb : base' ≤ base) : W.ownsRow base' e size v n xs := by
  obtain ⟨e1, e2⟩ := h
  exact ⟨e1, e2.imp id fun ⟨g, cap, cur, hv, hg, t⟩ => ⟨g, cap, cur, hv, Nat.le_trans hb hg, t⟩⟩
theorem RdSt.fin {w W : World} {r q : Nat} {ls : List Bs} {bad : Bool} {a : AnsR} {v : Value} (h : RdSt w r q ls bad a v W) (u0 u1 u2 u3 : Value) :
    ((((W.setCell ⟨w.heap.size, 0, none⟩ u0).setCell ⟨w.heap.size, 1, none⟩ u1).setCell ⟨w.heap.size, 2, none⟩ u2).setCell ⟨w.heap.size, 3, none⟩ u3).ownsRow w.heap.size 33 2 v a.pairs.length (pairCells a.pairs) ∧
    Below w.heap.size w ((((W.setCell ⟨w.heap.size, 0, none⟩ u0).setCell ⟨w.heap.size, 1, none⟩ u1).setCell ⟨w.heap.size, 2, none⟩ u2).setCell ⟨w.heap.size, 3, none⟩ u3) := by
  have hN := h.rN
  have hq := h.rq
  refine ⟨row_low (row_set (row_set (row_set (row_set h.own (by omega) _ _) (by omega) _ _) (by omega) _ _) (by omega) _ _) (by omega), ?_⟩
  exact (((h.far.setCell (Nat.le_refl _) _).setCell (Nat.le_refl _) _).setCell (Nat.le_refl _) _).setCell (Nat.le_refl _) _
theorem ReadRet.none {s : Bs} {w w' : World} (h : readF s = none) (hb : Below w.heap.size w w') : ReadRet s w (.returned (.tuple #[ansVV noAns (.slice none 0 0), .int .i64 4])) w' := ⟨hb, by rw [h]⟩
theorem ReadRet.some {s : Bs} {w w' : World} {a : AnsR} {v : Value} (h : readF s = some a) (ho : w'.ownsRow w.heap.size 33 2 v a.pairs.length (pairCells a.pairs)) (hb : Below w.heap.size w w') : ReadRet s w (.returned (.tuple #[ansVV a v, .int .i64 0])) w' := ⟨hb, by rw [h]; exact ⟨v, rfl, ho⟩⟩

theorem load_ans {W : World} {N : Nat} {a : AnsR} {v : Value} (h : Blk W N (ansCells a v) 25) : (loadVar 25 ⟨N, 0, none⟩).run Tryz.prog W = .ok (ansVV a v) W := by
  have hi : (Tryz.prog.info? 25).map (·.size) = some 4 := by kernel_rfl
  refine run_loadVar_row W N _ _ _ _ _ h Tryz.underlying25 ?_ ?_
  · rfl
  · exact hi
theorem results_read {tmps : Array Value} {W : World} {N : Nat} {a : AnsR} {v : Value} {e : Int} (hp : tmps.getD 2 undef = .pointer (some ⟨N, 0, none⟩)) (hu : tmps.getD 3 undef = .int .i64 e)
    (h : Blk W N (ansCells a v) 25) : (results Tryz.f11 tmps).run Tryz.prog W = .ok (.tuple #[ansVV a v, .int .i64 e]) W := by
  rw [results_cell_tmp (p := 2) (u := 3) (ty := 25) rfl, hp, hu]
  have ha : (asAddr (.pointer (some ⟨N, 0, none⟩))).run Tryz.prog W = .ok ⟨N, 0, none⟩ W := rfl
  rw [ha, Result.andThen_ok, load_ans h, Result.andThen_ok]
theorem blk4 {W : World} {N : Nat} {a0 : AnsR} {v0 : Value} (h : Blk W N (ansCells a0 v0) 25) (a : AnsR) (v : Value) :
    Blk ((((W.setCell ⟨N, 0, none⟩ (.int .i64 a.err)).setCell ⟨N, 1, none⟩ (.bool a.found)).setCell ⟨N, 2, none⟩ (.string (bs a.va))).setCell ⟨N, 3, none⟩ v) N (ansCells a v) 25 :=
  (((h.set 0 _).set 1 _).set 2 _).set 3 _
end Go.Proofs.YthhhdddojmkgnaaGreatDoor
