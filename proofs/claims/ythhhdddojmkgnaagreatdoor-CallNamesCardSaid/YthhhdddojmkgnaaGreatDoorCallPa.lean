/-
  Answers in memory: a slice of pairs; a row of one's own handed to call.line.
-/
import Derived.Test.YthhhdddojmkgnaaGreatDoorCallLn
import Derived.Test.YthhhdddojmkgnaaGreatDoorCallTp
import Derived.Deep.RegionHeld3
import Derived.Deep.AppendLies
namespace Go.Proofs.YthhhdddojmkgnaaGreatDoor
open Go.RowKit

/-- A slice of pairs whose elements are these. -/
def PairsAt (w : World) (v : Value) (ps : List (Bs × Bs)) : Prop :=
  ∃ A c, v = .slice A ps.length c ∧ ps.length ≤ c ∧ c ≤ maxLen ∧ ∀ j p, ps[j]? = some p → ∃ b off, A = some ⟨b, off, none⟩ ∧ w.cell? ⟨b, off + j * 2, none⟩ = some (strV p.1) ∧ w.cell? ⟨b, off + j * 2 + 1, none⟩ = some (strV p.2)
theorem PairsAt.below {w w' : World} {v : Value} {ps : List (Bs × Bs)} (h : PairsAt w v ps) (hb : Below w.heap.size w w') : PairsAt w' v ps := by
  obtain ⟨A, c, rfl, h1, h2, h3⟩ := h
  refine ⟨A, c, rfl, h1, h2, fun j p hj => ?_⟩
  obtain ⟨b, off, rfl, c0, c1⟩ := h3 j p hj
  exact ⟨b, off, rfl, kcell c0 hb, kcell c1 hb⟩
theorem PairsAt.max {w : World} {v : Value} {ps : List (Bs × Bs)} (h : PairsAt w v ps) : ps.length ≤ 9223372036854775807 := by
  obtain ⟨A, c, _, h1, h2, _⟩ := h
  unfold maxLen at h2
  omega
def ansCells (a : AnsR) (v : Value) : Array Value := #[.int .i64 a.err, .bool a.found, .string (bs a.va), v]
def ansVV (a : AnsR) (v : Value) : Value := .agg (ansCells a v)

theorem grow_below {B : Nat} {a W W' : World} {row : Option Nat} (h : Below B a W) (hg : W.grownBy W' row) (hB : B ≤ W.heap.size) (hr : ∀ k, row = some k → B ≤ k) : Below B a W' :=
  ⟨hg.os.trans h.os, hg.tape.trans h.tape, hg.output.trans h.output, Nat.le_trans h.size hg.size, fun k hk => (hg.block k (by omega) (fun e => by have := hr k e.symm; omega)).trans (h.block k hk)⟩

theorem row_below {w w' : World} {base e size n : Nat} {v : Value} {xs : List Value} (h : w.ownsRow base e size v n xs) (hb : Below w.heap.size w w') : w'.ownsRow base e size v n xs := by
  obtain ⟨h1, h2⟩ := h
  refine ⟨h1, ?_⟩
  rcases h2 with h2 | ⟨g, cap, cur, rfl, hg, hh, r⟩
  · exact .inl h2
  · exact .inr ⟨g, cap, cur, rfl, hg, (hb.block g (lt_of_block hh)).trans hh, r⟩

/-- call.line at a row of one's own. -/
theorem line_own (f : Bs) (ls : List Bs) (v : Value) (base n : Nat) (w : World) (h : w.ownsRow base 9 1 v n (ls.map strV)) (hl : n = ls.length) (hn : 0 < ls.length) (hbig : ls.length ≤ 1000000000) (hlen : (Lib.join (f :: ls) [32]).length ≤ 140737488355328) :
    Calls Tryz.prog 47 #[.string (bs f), v] w fun e w' => e = .returned (.string (bs (Lib.join (f :: ls) [32]))) ∧ Kep w w' (fun k => v.ownBlock = some k) := by
  subst hl
  rcases h.2 with ⟨_, h0⟩ | ⟨g, cap, cur, rfl, hg, hh, hn1, hc, hs, ht⟩
  · omega
  · have hr : RowAt w g ls := by
      intro j x hj
      have := h.cells (g := g) rfl j (strV x) (by rw [List.getElem?_map, hj]; rfl)
      rwa [Addr.add_lit] at this
    by_cases hroom : ls.length + 1 ≤ cap
    · refine (line_room f ls g cap w cur (0, 0) hh hr hn hroom (by omega) (by unfold maxLen at hc; omega) hbig (fun j => Lib.frozen_of_heap hh j) hlen).mono ?_
      rintro e w' ⟨rfl, hk⟩
      exact ⟨rfl, ⟨hk.os, hk.tape, hk.output, hk.size, fun k hk1 hk2 => hk.block k hk1 (fun e => hk2 (by rw [e]; rfl))⟩⟩
    · refine (line_grow f ls g cap w hr (lt_of_block hh) hn hn1 (by omega) hbig hlen).mono ?_
      rintro e w' ⟨rfl, hb⟩
      exact ⟨rfl, Kep.of_below hb⟩

theorem pairWords_length (l : List (Bs × Bs)) : (pairWords l).length = 2 * l.length := by
  induction l with
  | nil => rfl
  | cons p r ih => simp [pairWords, ih]; omega
theorem pairWords_append (a b : List (Bs × Bs)) : pairWords (a ++ b) = pairWords a ++ pairWords b := by
  induction a with
  | nil => rfl
  | cons p r ih => simp [pairWords, ih]
theorem pairWords_next {l : List (Bs × Bs)} {k : Nat} {p : Bs × Bs} (h : l[k]? = some p) : pairWords (l.take (k + 1)) = pairWords (l.take k) ++ [hexF p.1, hexF p.2] := by
  obtain ⟨hk, e⟩ := List.getElem?_eq_some_iff.1 h
  rw [List.take_succ_eq_append_getElem hk, pairWords_append, e]
  rfl

/-- Tell's state: its answer's box, and the row of words so far. -/
structure TSt (w : World) (a : AnsR) (pv : Value) (k : Nat) (v : Value) (W : World) : Prop where
  own : W.ownsRow (w.heap.size + 1) 9 1 v (2 + 2 * k) ((found1 a.found :: hexF a.va :: pairWords (a.pairs.take k)).map strV)
  box : Below (w.heap.size + 1) (w.alloc (.cells (ansCells a pv) 25)) W
theorem TSt.step {w : World} {a : AnsR} {pv : Value} {k : Nat} {v : Value} {W W' : World} (h : TSt w a pv k v W) (hb : Below W.heap.size W W') : TSt w a pv k v W' :=
  ⟨row_below h.own hb, h.box.trans (hb.mono (by have := h.box.size; simpa using this))⟩
theorem TSt.drew {w : World} {a : AnsR} {pv : Value} {k : Nat} {v : Value} {W : World} (h : TSt w a pv k v W) : TSt w a pv k v W.drew := ⟨h.own, h.box.drew⟩
theorem TSt.far {w : World} {a : AnsR} {pv : Value} {k : Nat} {v : Value} {W : World} (h : TSt w a pv k v W) : Below w.heap.size w W := (below_new w _).trans (h.box.mono (Nat.le_succ _))
theorem TSt.cell {w : World} {a : AnsR} {pv : Value} {k : Nat} {v : Value} {W : World} (h : TSt w a pv k v W) (j : Nat) : W.cell? ⟨w.heap.size, j, none⟩ = (ansCells a pv)[j]? := by
  rw [h.box.cell (p := ⟨w.heap.size, j, none⟩) (Nat.lt_succ_self _)]
  exact Lib.cell_of_heap (heap_alloc_new w _) j
theorem TSt.size {w : World} {a : AnsR} {pv : Value} {k : Nat} {v : Value} {W : World} (h : TSt w a pv k v W) : w.heap.size + 1 ≤ W.heap.size := by have := h.box.size; simpa using this
theorem TSt.push {w : World} {a : AnsR} {pv : Value} {k : Nat} {v : Value} {W W' : World} {o : Obj} (h : TSt w a pv k v W) {p : Bs × Bs} (hp : a.pairs[k]? = some p) {v' : Value}
    (hown : W'.ownsRow (w.heap.size + 1) 9 1 v' (2 + 2 * k + 2) ((found1 a.found :: hexF a.va :: pairWords (a.pairs.take k)).map strV ++ [.string (bs (hexF p.1)), .string (bs (hexF p.2))])) (hg : (W.alloc o).grownBy W' v.ownBlock) : TSt w a pv (k + 1) v' W' := by
  refine ⟨?_, grow_below (h.step (below_new W o)).box hg (by have := h.size; simp; omega) fun j hj => (h.own.lt j hj).1⟩
  rw [pairWords_next hp, show 2 + 2 * (k + 1) = 2 + 2 * k + 2 by omega]
  simpa [strV] using hown
theorem TSt.ne {w : World} {a : AnsR} {pv : Value} {k : Nat} {v : Value} {W : World} (h : TSt w a pv k v W) : ∀ j, v.ownBlock = some j → j ≠ W.heap.size := fun j hj e => by
  have := (h.own.lt j hj).2
  omega

theorem keepc2 {W W' : World} {a1 a2 : Addr} {v1 v2 : Value} (h : W.cell? a1 = some v1 ∧ W.cell? a2 = some v2) (hb : Below W.heap.size W W') : W'.cell? a1 = some v1 ∧ W'.cell? a2 = some v2 := ⟨kcell h.1 hb, kcell h.2 hb⟩
theorem keepg2 {W W' : World} {a1 a2 : Addr} {v1 v2 : Value} {row : Option Nat} (h : W.cell? a1 = some v1 ∧ W.cell? a2 = some v2) (hg : W.grownBy W' row) (h1 : ∀ j, row = some j → j ≠ a1.block) (h2 : ∀ j, row = some j → j ≠ a2.block) : W'.cell? a1 = some v1 ∧ W'.cell? a2 = some v2 :=
  ⟨hg.cell h.1 (fun e => h1 _ e.symm rfl), hg.cell h.2 (fun e => h2 _ e.symm rfl)⟩

theorem infoStr : (Tryz.prog.info? 9).map (fun i => (i.zero, i.size, i.bytes)) = some (some (.string ⟨#[]⟩), 1, 16) := by kernel_rfl
theorem infoPair : (Tryz.prog.info? 33).map (fun i => (i.zero, i.size, i.bytes)) = some (some (.agg #[.string ⟨#[]⟩, .string ⟨#[]⟩]), 2, 32) := by kernel_rfl
end Go.Proofs.YthhhdddojmkgnaaGreatDoor
