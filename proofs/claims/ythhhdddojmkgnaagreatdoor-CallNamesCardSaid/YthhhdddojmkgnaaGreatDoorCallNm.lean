/-
  The law CallNames walked.
-/
import Derived.Test.YthhhdddojmkgnaaGreatDoorCallRj
import Derived.Test.YthhhdddojmkgnaaGreatDoorCallRk
import Derived.Test.YthhhdddojmkgnaaGreatDoorCallFt
import Derived.Test.YthhhdddojmkgnaaGreatDoorCallD
namespace Go.Proofs.YthhhdddojmkgnaaGreatDoor
open Go.RowKit

theorem show_is (x : CallR) (s : Bs) (w : World) (hE : Env w) (hc : CallOk x) (h : showF x = s) : Calls Tryz.prog 29 #[callV x] w (Ret w (.string (bs s))) := h ▸ show_any x w hE hc
theorem may_is (x : CallR) (m : Int) (w : World) (h : mayN x = m) : Calls Tryz.prog 21 #[callV x] w (Ret w (.int .i64 m)) := h ▸ may_any x w
theorem needs_is (k : Nat) (b : Bool) (w : World) (h : needsF k = b) : Calls Tryz.prog 19 #[.int .u8 k] w (Ret w (.bool b)) := by
  subst h
  exact (PRef.call_Needs.calls k _ w (callNeeds k)).mono fun _ _ ⟨he, hd⟩ => ⟨he, hd.below⟩
theorem same_is (x y : CallR) (d : Bool) (w : World) (h : sameF x y = d) : Calls Tryz.prog 27 #[callV x, callV y] w (Ret w (.bool d)) := h ▸ same_val x y w
theorem clean_clean (x : CallR) : cleanF (cleanF x) = cleanF x := by
  obtain ⟨k, tx, key, en, va, lim, eng⟩ := x
  simp only [cleanF]
  congr 1 <;> split <;> rfl
theorem same_clean (x : CallR) : sameF x (cleanF x) = true := by
  show sameB (cleanF x) (cleanF (cleanF x)) = true
  rw [clean_clean]; exact (sameB_iff _ _).2 rfl
theorem answers_same (a : AnsR) (va vb : Value) (w : World) (h : AnsOk a) (hA : PairsAt w va a.pairs) (hB : PairsAt w vb a.pairs) : Calls Tryz.prog 13 #[ansVV a va, ansVV a vb] w (Ret w (.bool true)) := by
  have := answers_val a a va vb w (by have := h.n; omega) hA hB
  rwa [(sameA_iff a a).2 rfl] at this
theorem slice_of {w : World} {v : Value} {ps : List (Bs × Bs)} (h : PairsAt w v ps) : ∃ A n c, v = .slice A n c := by
  obtain ⟨A, c, h, _⟩ := h
  exact ⟨_, _, _, h⟩
theorem parse_at (l : Bs) (z : CallR) (n : Int) (w : World) (hE : Env w) (hl : l.length ≤ 1000000000) (hz : pz l = z) (hn : pe l = n) : Calls Tryz.prog 17 #[.string (bs l)] w (Ret w (.tuple #[callV z, .int .i64 n])) := by
  subst hz; subst hn
  exact parse_val l w hE hl
def ReadA (a : AnsR) (n : Int) (w : World) (e : Ending) (w' : World) : Prop :=
  ∃ A k c, e = .returned (.tuple #[ansVV a (.slice A k c), .int .i64 n]) ∧ PairsAt w' (.slice A k c) a.pairs ∧ Below w.heap.size w w'
theorem read_at (l : Bs) (a : AnsR) (n : Int) (w : World) (hE : Env w) (hl : l.length ≤ 1000000000) (hz : ra l = a) (hn : re l = n) : Calls Tryz.prog 11 #[.string (bs l)] w (ReadA a n w) := by
  subst hz; subst hn
  refine (read_val l w hE hl).mono ?_
  rintro e w' ⟨v, rfl, ho, hb⟩
  have hp := pairs_of_row ho
  obtain ⟨A, k, c, rfl⟩ := slice_of hp
  exact ⟨A, k, c, rfl, hp, hb⟩

/-! ### The tables -/
def allK (k : Nat) : CallR := ⟨k, -3, [107], [255, 0], [118], 7, 2⟩
def textCells : Array Value := #[.string ⟨#[]⟩, .string ⟨#[98, 101, 103, 105, 110]⟩, .string ⟨#[103, 101, 116, 32, 45, 51, 32, 54, 98]⟩, .string ⟨#[112, 117, 116, 32, 45, 51, 32, 54, 98, 32, 55, 54]⟩, .string ⟨#[100, 101, 108, 101, 116, 101, 32, 45, 51, 32, 54, 98]⟩, .string ⟨#[115, 99, 97, 110, 32, 45, 51, 32, 54, 98, 32, 102, 102, 48, 48, 32, 55]⟩, .string ⟨#[99, 111, 109, 109, 105, 116, 32, 45, 51]⟩, .string ⟨#[97, 98, 111, 114, 116, 32, 45, 51]⟩, .string ⟨#[118, 97, 99, 117, 117, 109]⟩, .string ⟨#[109, 105, 103, 114, 97, 116, 101, 32, 50]⟩, .string ⟨#[]⟩]
def noneCells : Array Value := #[.string ⟨#[]⟩, .string ⟨#[32]⟩, .string ⟨#[98, 101, 103, 105, 110, 32, 98, 101, 103, 105, 110]⟩, .string ⟨#[66, 101, 103, 105, 110]⟩, .string ⟨#[103, 101, 116]⟩, .string ⟨#[103, 101, 116, 32, 49, 32, 54]⟩, .string ⟨#[103, 101, 116, 32, 49, 32, 54, 66]⟩, .string ⟨#[103, 101, 116, 32, 49, 32, 54, 103]⟩, .string ⟨#[103, 101, 116, 32, 49, 32, 54, 49, 32, 54, 49]⟩, .string ⟨#[103, 101, 116, 32, 32, 49, 32, 54, 49]⟩, .string ⟨#[103, 101, 116, 32, 49, 32, 45, 45, 32]⟩, .string ⟨#[103, 101, 116, 32, 49, 32, 45, 54, 49]⟩, .string ⟨#[103, 101, 116, 32, 45, 48, 32, 54, 49]⟩, .string ⟨#[103, 101, 116, 32, 43, 49, 32, 54, 49]⟩, .string ⟨#[112, 117, 116, 32, 49, 32, 54, 49]⟩, .string ⟨#[115, 99, 97, 110, 32, 49, 32, 45, 32, 45, 32, 45, 48]⟩, .string ⟨#[115, 99, 97, 110, 32, 49, 32, 45, 32, 45]⟩, .string ⟨#[99, 111, 109, 109, 105, 116]⟩, .string ⟨#[99, 111, 109, 109, 105, 116, 32, 49, 32]⟩, .string ⟨#[109, 105, 103, 114, 97, 116, 101, 32, 48]⟩, .string ⟨#[109, 105, 103, 114, 97, 116, 101, 32, 51]⟩, .string ⟨#[109, 105, 103, 114, 97, 116, 101, 32, 50, 53, 56]⟩, .string ⟨#[118, 97, 99, 117, 117, 109, 32, 49]⟩, .string ⟨#[103, 101, 116, 32, 57, 57, 57, 57, 57, 57, 57, 57, 57, 57, 57, 57, 57, 57, 57, 57, 57, 57, 57, 57, 32, 54, 49]⟩, .string ⟨#[98, 101, 103, 105, 110, 10]⟩, .string ⟨#[120]⟩]
def answCells : Array Value := #[.string ⟨#[]⟩, .string ⟨#[48]⟩, .string ⟨#[48, 32, 48]⟩, .string ⟨#[48, 32, 50, 32, 45]⟩, .string ⟨#[48, 32, 49, 32, 55]⟩, .string ⟨#[48, 48, 32, 49, 32, 45]⟩, .string ⟨#[48, 32, 49, 32, 45, 32, 54, 49]⟩, .string ⟨#[48, 32, 49, 32, 45, 32, 54, 49, 32, 54, 50, 32, 54, 51]⟩, .string ⟨#[48, 32, 49, 32, 45, 32, 32, 54, 49, 32, 54, 50]⟩, .string ⟨#[48, 32, 48, 32, 45, 32]⟩, .string ⟨#[97, 32, 48, 32, 45]⟩]
def mayK (k : Nat) : Bool := decide (1 ≤ k) && decide (k ≤ 9)
theorem name_row (k : Nat) (hk : k < 11) : ∃ T : Bs, textCells[k]? = some (.string (bs T)) ∧ showF (allK k) = T ∧ pz T = (if mayK k then cleanF (allK k) else noCall) ∧ pe T = (if mayK k then 0 else 4) ∧ mayN (allK k) = (if mayK k then 0 else 1) ∧ needsF k = (decide (2 ≤ k) && decide (k ≤ 7)) ∧ T.length ≤ 100 := by
  match k, hk with
  | 0, _ => exact ⟨[], rfl, by kernel_rfl, by kernel_rfl, by kernel_rfl, by kernel_rfl, by kernel_rfl, by decide⟩
  | 1, _ => exact ⟨[98, 101, 103, 105, 110], rfl, by kernel_rfl, by kernel_rfl, by kernel_rfl, by kernel_rfl, by kernel_rfl, by decide⟩
  | 2, _ => exact ⟨[103, 101, 116, 32, 45, 51, 32, 54, 98], rfl, by kernel_rfl, by kernel_rfl, by kernel_rfl, by kernel_rfl, by kernel_rfl, by decide⟩
  | 3, _ => exact ⟨[112, 117, 116, 32, 45, 51, 32, 54, 98, 32, 55, 54], rfl, by kernel_rfl, by kernel_rfl, by kernel_rfl, by kernel_rfl, by kernel_rfl, by decide⟩
  | 4, _ => exact ⟨[100, 101, 108, 101, 116, 101, 32, 45, 51, 32, 54, 98], rfl, by kernel_rfl, by kernel_rfl, by kernel_rfl, by kernel_rfl, by kernel_rfl, by decide⟩
  | 5, _ => exact ⟨[115, 99, 97, 110, 32, 45, 51, 32, 54, 98, 32, 102, 102, 48, 48, 32, 55], rfl, by kernel_rfl, by kernel_rfl, by kernel_rfl, by kernel_rfl, by kernel_rfl, by decide⟩
  | 6, _ => exact ⟨[99, 111, 109, 109, 105, 116, 32, 45, 51], rfl, by kernel_rfl, by kernel_rfl, by kernel_rfl, by kernel_rfl, by kernel_rfl, by decide⟩
  | 7, _ => exact ⟨[97, 98, 111, 114, 116, 32, 45, 51], rfl, by kernel_rfl, by kernel_rfl, by kernel_rfl, by kernel_rfl, by kernel_rfl, by decide⟩
  | 8, _ => exact ⟨[118, 97, 99, 117, 117, 109], rfl, by kernel_rfl, by kernel_rfl, by kernel_rfl, by kernel_rfl, by kernel_rfl, by decide⟩
  | 9, _ => exact ⟨[109, 105, 103, 114, 97, 116, 101, 32, 50], rfl, by kernel_rfl, by kernel_rfl, by kernel_rfl, by kernel_rfl, by kernel_rfl, by decide⟩
  | 10, _ => exact ⟨[], rfl, by kernel_rfl, by kernel_rfl, by kernel_rfl, by kernel_rfl, by kernel_rfl, by decide⟩
  | n + 11, hk => exact absurd hk (by omega)
theorem none_row (k : Nat) (hk : k < 26) : ∃ T : Bs, noneCells[k]? = some (.string (bs T)) ∧ pz T = noCall ∧ pe T = 4 ∧ T.length ≤ 100 := by
  match k, hk with
  | 0, _ => exact ⟨[], rfl, by kernel_rfl, by kernel_rfl, by decide⟩
  | 1, _ => exact ⟨[32], rfl, by kernel_rfl, by kernel_rfl, by decide⟩
  | 2, _ => exact ⟨[98, 101, 103, 105, 110, 32, 98, 101, 103, 105, 110], rfl, by kernel_rfl, by kernel_rfl, by decide⟩
  | 3, _ => exact ⟨[66, 101, 103, 105, 110], rfl, by kernel_rfl, by kernel_rfl, by decide⟩
  | 4, _ => exact ⟨[103, 101, 116], rfl, by kernel_rfl, by kernel_rfl, by decide⟩
  | 5, _ => exact ⟨[103, 101, 116, 32, 49, 32, 54], rfl, by kernel_rfl, by kernel_rfl, by decide⟩
  | 6, _ => exact ⟨[103, 101, 116, 32, 49, 32, 54, 66], rfl, by kernel_rfl, by kernel_rfl, by decide⟩
  | 7, _ => exact ⟨[103, 101, 116, 32, 49, 32, 54, 103], rfl, by kernel_rfl, by kernel_rfl, by decide⟩
  | 8, _ => exact ⟨[103, 101, 116, 32, 49, 32, 54, 49, 32, 54, 49], rfl, by kernel_rfl, by kernel_rfl, by decide⟩
  | 9, _ => exact ⟨[103, 101, 116, 32, 32, 49, 32, 54, 49], rfl, by kernel_rfl, by kernel_rfl, by decide⟩
  | 10, _ => exact ⟨[103, 101, 116, 32, 49, 32, 45, 45, 32], rfl, by kernel_rfl, by kernel_rfl, by decide⟩
  | 11, _ => exact ⟨[103, 101, 116, 32, 49, 32, 45, 54, 49], rfl, by kernel_rfl, by kernel_rfl, by decide⟩
  | 12, _ => exact ⟨[103, 101, 116, 32, 45, 48, 32, 54, 49], rfl, by kernel_rfl, by kernel_rfl, by decide⟩
  | 13, _ => exact ⟨[103, 101, 116, 32, 43, 49, 32, 54, 49], rfl, by kernel_rfl, by kernel_rfl, by decide⟩
  | 14, _ => exact ⟨[112, 117, 116, 32, 49, 32, 54, 49], rfl, by kernel_rfl, by kernel_rfl, by decide⟩
  | 15, _ => exact ⟨[115, 99, 97, 110, 32, 49, 32, 45, 32, 45, 32, 45, 48], rfl, by kernel_rfl, by kernel_rfl, by decide⟩
  | 16, _ => exact ⟨[115, 99, 97, 110, 32, 49, 32, 45, 32, 45], rfl, by kernel_rfl, by kernel_rfl, by decide⟩
  | 17, _ => exact ⟨[99, 111, 109, 109, 105, 116], rfl, by kernel_rfl, by kernel_rfl, by decide⟩
  | 18, _ => exact ⟨[99, 111, 109, 109, 105, 116, 32, 49, 32], rfl, by kernel_rfl, by kernel_rfl, by decide⟩
  | 19, _ => exact ⟨[109, 105, 103, 114, 97, 116, 101, 32, 48], rfl, by kernel_rfl, by kernel_rfl, by decide⟩
  | 20, _ => exact ⟨[109, 105, 103, 114, 97, 116, 101, 32, 51], rfl, by kernel_rfl, by kernel_rfl, by decide⟩
  | 21, _ => exact ⟨[109, 105, 103, 114, 97, 116, 101, 32, 50, 53, 56], rfl, by kernel_rfl, by kernel_rfl, by decide⟩
  | 22, _ => exact ⟨[118, 97, 99, 117, 117, 109, 32, 49], rfl, by kernel_rfl, by kernel_rfl, by decide⟩
  | 23, _ => exact ⟨[103, 101, 116, 32, 57, 57, 57, 57, 57, 57, 57, 57, 57, 57, 57, 57, 57, 57, 57, 57, 57, 57, 57, 57, 32, 54, 49], rfl, by kernel_rfl, by kernel_rfl, by decide⟩
  | 24, _ => exact ⟨[98, 101, 103, 105, 110, 10], rfl, by kernel_rfl, by kernel_rfl, by decide⟩
  | 25, _ => exact ⟨[120], rfl, by kernel_rfl, by kernel_rfl, by decide⟩
  | n + 26, hk => exact absurd hk (by omega)
theorem answ_row (k : Nat) (hk : k < 11) : ∃ T : Bs, answCells[k]? = some (.string (bs T)) ∧ ra T = noAns ∧ re T = 4 ∧ T.length ≤ 100 := by
  match k, hk with
  | 0, _ => exact ⟨[], rfl, by kernel_rfl, by kernel_rfl, by decide⟩
  | 1, _ => exact ⟨[48], rfl, by kernel_rfl, by kernel_rfl, by decide⟩
  | 2, _ => exact ⟨[48, 32, 48], rfl, by kernel_rfl, by kernel_rfl, by decide⟩
  | 3, _ => exact ⟨[48, 32, 50, 32, 45], rfl, by kernel_rfl, by kernel_rfl, by decide⟩
  | 4, _ => exact ⟨[48, 32, 49, 32, 55], rfl, by kernel_rfl, by kernel_rfl, by decide⟩
  | 5, _ => exact ⟨[48, 48, 32, 49, 32, 45], rfl, by kernel_rfl, by kernel_rfl, by decide⟩
  | 6, _ => exact ⟨[48, 32, 49, 32, 45, 32, 54, 49], rfl, by kernel_rfl, by kernel_rfl, by decide⟩
  | 7, _ => exact ⟨[48, 32, 49, 32, 45, 32, 54, 49, 32, 54, 50, 32, 54, 51], rfl, by kernel_rfl, by kernel_rfl, by decide⟩
  | 8, _ => exact ⟨[48, 32, 49, 32, 45, 32, 32, 54, 49, 32, 54, 50], rfl, by kernel_rfl, by kernel_rfl, by decide⟩
  | 9, _ => exact ⟨[48, 32, 48, 32, 45, 32], rfl, by kernel_rfl, by kernel_rfl, by decide⟩
  | 10, _ => exact ⟨[97, 32, 48, 32, 45], rfl, by kernel_rfl, by kernel_rfl, by decide⟩
  | n + 11, hk => exact absurd hk (by omega)
def litA : Bs := [45, 55, 32, 48, 32, 45, 32, 54, 49, 32, 45, 32, 45, 32, 54, 50]
def ansA : AnsR := ⟨-7, false, [], [([97], []), ([], [98])]⟩
theorem lit_ra : ra litA = ansA := by kernel_rfl
theorem lit_re : re litA = 0 := by kernel_rfl
theorem allK_ok (k : Nat) : CallOk (allK k) :=
  ⟨show IsInt (-3) from ⟨by decide, by decide⟩, show IsInt 7 from ⟨by decide, by decide⟩, show ([107] : Bs).length ≤ 1000000000 by decide, show ([255, 0] : Bs).length ≤ 1000000000 by decide, show ([118] : Bs).length ≤ 1000000000 by decide⟩

/-- The law's own variables. -/
structure NmS (w0 : World) (p q : Nat) (c : CallR) (W : World) : Prop where
  below : Below w0.heap.size w0 W
  env0 : Env w0
  pw : w0.heap.size ≤ p
  pq : p ≠ q
  ba : Blk W p (callCells c) 38
  bq : Blk W q textCells 9
theorem NmS.step {w0 : World} {p q : Nat} {c : CallR} {W W' : World} (h : NmS w0 p q c W) (hb : Below W.heap.size W W') : NmS w0 p q c W' :=
  { h with below := h.below.trans (hb.mono h.below.size), ba := h.ba.below hb, bq := h.bq.below hb }
theorem NmS.env {w0 : World} {p q : Nat} {c : CallR} {W : World} (h : NmS w0 p q c W) : Env W := h.env0.below h.below
theorem NmS.put {w0 : World} {p q : Nat} {c c' : CallR} {W : World} {j : Nat} {v : Value} (h : NmS w0 p q c W) (hc : (callCells c).setIfInBounds j v = callCells c') : NmS w0 p q c' (W.setCell ⟨p, j, none⟩ v) :=
  { h with below := h.below.setCell h.pw _, ba := hc ▸ h.ba.set j v, bq := h.bq.set_other _ _ (Ne.symm h.pq) }
/-- And what was parsed. -/
structure NmB (w0 : World) (p q : Nat) (c : CallR) (k : Nat) (T : Bs) (r : Nat) (y : CallR) (W : World) : Prop where
  nm : NmS w0 p q c W
  by_ : Blk W r (callCells y) 38
  row : textCells[k]? = some (.string (bs T))
theorem NmB.step {w0 : World} {p q : Nat} {c : CallR} {k : Nat} {T : Bs} {r : Nat} {y : CallR} {W W' : World} (h : NmB w0 p q c k T r y W) (hb : Below W.heap.size W W') : NmB w0 p q c k T r y W' := ⟨h.nm.step hb, h.by_.below hb, h.row⟩
theorem NmB.drew {w0 : World} {p q : Nat} {c : CallR} {k : Nat} {T : Bs} {r : Nat} {y : CallR} {W : World} (h : NmB w0 p q c k T r y W) : NmB w0 p q c k T r y W.drew := h.step (Below.refl W.heap.size W).drew
theorem NmB.env {w0 : World} {p q : Nat} {c : CallR} {k : Nat} {T : Bs} {r : Nat} {y : CallR} {W : World} (h : NmB w0 p q c k T r y W) : Env W := h.nm.env
theorem NmB.ba {w0 : World} {p q : Nat} {c : CallR} {k : Nat} {T : Bs} {r : Nat} {y : CallR} {W : World} (h : NmB w0 p q c k T r y W) : Blk W p (callCells c) 38 := h.nm.ba
theorem NmB.bt {w0 : World} {p q : Nat} {c : CallR} {k : Nat} {T : Bs} {r : Nat} {y : CallR} {W : World} (h : NmB w0 p q c k T r y W) : W.cell? ⟨q, k, none⟩ = some (.string (bs T)) := (h.nm.bq.cell k).trans h.row
/-- Beside them a table. -/
structure NmT (w0 : World) (p q : Nat) (c : CallR) (r : Nat) (cells : Array Value) (T : TypeId) (W : World) : Prop where
  nm : NmS w0 p q c W
  pr : p ≠ r
  bl : Blk W r cells T
theorem NmT.step {w0 : World} {p q : Nat} {c : CallR} {r : Nat} {cells : Array Value} {T : TypeId} {W W' : World} (h : NmT w0 p q c r cells T W) (hb : Below W.heap.size W W') : NmT w0 p q c r cells T W' := ⟨h.nm.step hb, h.pr, h.bl.below hb⟩
theorem NmT.put {w0 : World} {p q : Nat} {c c' : CallR} {r : Nat} {cells : Array Value} {T : TypeId} {W : World} {j : Nat} {v : Value} (h : NmT w0 p q c r cells T W) (hc : (callCells c).setIfInBounds j v = callCells c') : NmT w0 p q c' r cells T (W.setCell ⟨p, j, none⟩ v) :=
  ⟨h.nm.put hc, h.pr, h.bl.set_other _ _ (Ne.symm h.pr)⟩
/-- A table alone. -/
structure Tab (w0 : World) (r : Nat) (cells : Array Value) (T : TypeId) (W : World) : Prop where
  below : Below w0.heap.size w0 W
  env0 : Env w0
  bl : Blk W r cells T
theorem Tab.step {w0 : World} {r : Nat} {cells : Array Value} {T : TypeId} {W W' : World} (h : Tab w0 r cells T W) (hb : Below W.heap.size W W') : Tab w0 r cells T W' := ⟨h.below.trans (hb.mono h.below.size), h.env0, h.bl.below hb⟩
theorem Tab.env {w0 : World} {r : Nat} {cells : Array Value} {T : TypeId} {W : World} (h : Tab w0 r cells T W) : Env W := h.env0.below h.below
def migE (e : Nat) : CallR := ⟨9, -3, [107], [255, 0], [118], 7, e⟩
def engCells : Array Value := #[.int .u8 0, .int .u8 3, .int .u8 255]
theorem eng_row (k : Nat) (hk : k < 3) : ∃ e : Nat, engCells[k]? = some (.int .u8 e) ∧ mayN (migE e) = 1 ∧ showF (migE e) = [] ∧ e < 256 := by
  match k, hk with
  | 0, _ => exact ⟨0, rfl, by kernel_rfl, by kernel_rfl, by decide⟩
  | 1, _ => exact ⟨3, rfl, by kernel_rfl, by kernel_rfl, by decide⟩
  | 2, _ => exact ⟨255, rfl, by kernel_rfl, by kernel_rfl, by decide⟩
  | n + 3, hk => exact absurd hk (by omega)
theorem migE_ok (e : Nat) : CallOk (migE e) :=
  ⟨show IsInt (-3) from ⟨by decide, by decide⟩, show IsInt 7 from ⟨by decide, by decide⟩, show ([107] : Bs).length ≤ 1000000000 by decide, show ([255, 0] : Bs).length ≤ 1000000000 by decide, show ([118] : Bs).length ≤ 1000000000 by decide⟩
theorem noAns_ok : AnsOk noAns := ⟨⟨by decide, by decide⟩, by decide, by decide, fun p hp => by cases hp⟩
attribute [local go_sem high] PRef.eqA38

set_option maxRecDepth 100000 in
set_option maxHeartbeats 16000000 in
theorem names_any (w : World) (hE : Env w) : Calls Tryz.prog 7 #[] w (Ret w (.bool true)) := by
  have HE := Lib.hid hE
  clear hE
  go_enter Tryz.func7, Tryz.ntmps7
  go_outline
  go_wp2_with fail
  refine (works_any _ HE.out).mono ?_
  rintro e w1 ⟨rfl, hb1⟩
  have HB1 := Lib.hid hb1
  clear hb1
  have HS0 : Hid (NmS w w1.heap.size (w1.heap.size + 1) (allK 0) ((w1.alloc (.cells (callCells (allK 0)) 38)).alloc (.cells textCells 9))) := Lib.hid
    { below := (HB1.out.alloc HB1.out.size _).alloc (by have := HB1.out.size; simp; omega) _, env0 := HE.out, pw := HB1.out.size, pq := by omega, ba := (Blk.new w1 _ _).alloc _, bq := by
        have := Blk.new (w1.alloc (.cells (callCells (allK 0)) 38)) textCells 9
        rwa [World.size_alloc] at this }
  go_wp2_with fail
  go_loopw [3] (fun i wr => ∃ k j : Nat, k ≤ 11 ∧ i = .int .u8 k ∧ Hid (NmS w w1.heap.size (w1.heap.size + 1) (allK j) wr)) (fun i _ => 11 - (intOf i).toNat)
  case atStart => exact ⟨0, 0, Nat.zero_le _, rfl, HS0⟩
  case round =>
    obtain ⟨k, j, hk, rfl, HS⟩ := hrel
    clear HS0
    obtain ⟨wo, rfl⟩ : ∃ wo : World, wo = wr := ⟨_, rfl⟩
    have HS0x := Lib.hid HS.out.ba.lt
    by_cases hlt : k < 11
    · obtain ⟨T, hrow, hsh, hpz, hpe, hmy, hnd, hTl⟩ := name_row k hlt
      have hle : (k : Int) ≤ 10 := by omega
      have a0 := HS.out.ba.cell 0
      have f0 := HS.out.ba.free 0
      simp only [callCells, List.getElem?_toArray, List.getElem?_cons_zero] at a0
      have kT : wo.cell? ⟨w1.heap.size + 1, k, none⟩ = some (.string (bs T)) := (HS.out.bq.cell k).trans hrow
      have HS := Lib.hid (HS.out.put (j := 0) (v := .int .u8 k) (c' := allK k) rfl)
      have HRow := Lib.hid hrow
      have HSh := Lib.hid hsh
      have HCk := Lib.hid (allK_ok k)
      have HSm := Lib.hid (same_clean (allK k))
      clear hrow hsh
      have hway : k < 1 ∨ (1 ≤ k ∧ k < 2) ∨ (2 ≤ k ∧ k ≤ 7) ∨ (8 ≤ k ∧ k ≤ 9) ∨ 10 ≤ k := by omega
      rcases hway with hw | ⟨hw, hw'⟩ | ⟨hw, hw'⟩ | ⟨hw, hw'⟩ | hw
      · have hmk : mayK k = false := by simp [mayK]; omega
        have hn7 : (decide (2 ≤ k) && decide (k ≤ 7)) = false := by simp; omega
        simp only [hmk, hn7, if_true, Bool.false_eq_true, if_false] at hpz hpe hmy hnd
        have HPz := Lib.hid hpz
        have HPe := Lib.hid hpe
        have HMy := Lib.hid hmy
        have HNd := Lib.hid hnd
        have t0 : decide ((0 : Int) < (k : Int)) = false := by simp; omega
        have t0' : decide (0 < k) = false := by simp; omega
        have t10 : decide ((k : Int) < 10) = true := by simp; omega
        clear hpz hpe hmy hnd hmk hn7
        go_wp2_with fail
        refine (parse_at T noCall 4 _ HS.out.env (by omega) HPz.out HPe.out).mono ?_
        rintro e w4 ⟨rfl, hb4⟩
        have HB : Hid (NmB w w1.heap.size (w1.heap.size + 1) (allK k) k T w4.heap.size noCall (w4.alloc (.cells (callCells noCall) 38))) := Lib.hid ⟨(HS.out.step hb4).step (below_new _ _), Blk.new _ _ _, HRow.out⟩
        clear hb4 HS a0 f0 kT
        unfold callV callCells
        go_wp2_with fail
        refine det_start (n := 47) (l := #[false, false, false, false, false, false, false, false, false, false, false, false, false, false, false, false, false, false, false, false, false, false, false, false, false, false, false, false, false, false, false, false, false, false, false, false, false, false, false, false, false, false, false, false, false, false, false]) (S := NmB w w1.heap.size (w1.heap.size + 1) (allK k) k T w4.heap.size noCall) (by kernel_rfl) (by rfl) (by rfl) HB.out.drew ?_
        refine det_take (i := 0) (d := some 49) (l' := #[true, false, false, false, false, false, false, false, false, false, false, false, false, false, false, false, false, false, false, false, false, false, false, false, false, false, false, false, false, false, false, false, false, false, false, false, false, false, false, false, false, false, false, false, false, false, false]) (v := .agg (callCells (allK k))) rfl rfl rfl (by kernel_rfl) (by kernel_rfl) (by kernel_rfl) (Or.inl ⟨by rfl, ?_⟩) ?_
        · intro w9 hS
          have l0 := hS.ba.cell 0
          have l1 := hS.ba.cell 1
          have l2 := hS.ba.cell 2
          have l3 := hS.ba.cell 3
          have l4 := hS.ba.cell 4
          have l5 := hS.ba.cell 5
          have l6 := hS.ba.cell 6
          simp only [callCells, List.getElem?_toArray, List.getElem?_cons_zero, List.getElem?_cons_succ] at l0 l1 l2 l3 l4 l5 l6
          go_simp
          exact ⟨rfl, hS⟩
        simp only [Act.put, List.setIfInBounds_toArray, List.set_cons_zero, List.set_cons_succ]
        refine det_take (i := 1) (d := some 50) (l' := #[true, true, false, false, false, false, false, false, false, false, false, false, false, false, false, false, false, false, false, false, false, false, false, false, false, false, false, false, false, false, false, false, false, false, false, false, false, false, false, false, false, false, false, false, false, false, false]) (v := .string (bs T)) rfl rfl rfl (by kernel_rfl) (by kernel_rfl) (by kernel_rfl) (Or.inl ⟨by rfl, ?_⟩) ?_
        · intro w9 hS
          go_simp
          refine Calls.mono (show_is (allK k) T _ hS.env HCk.out HSh.out) ?_
          rintro e w8 ⟨rfl, hb⟩
          exact ⟨rfl, hS.step hb⟩
        simp only [Act.put, List.setIfInBounds_toArray, List.set_cons_zero, List.set_cons_succ]
        refine det_take (i := 2) (d := some 51) (l' := #[true, true, true, false, false, false, false, false, false, false, false, false, false, false, false, false, false, false, false, false, false, false, false, false, false, false, false, false, false, false, false, false, false, false, false, false, false, false, false, false, false, false, false, false, false, false, false]) (v := .slice (some ⟨w1.heap.size + 1, 0, none⟩) 11 11) rfl rfl rfl (by kernel_rfl) (by kernel_rfl) (by kernel_rfl) (Or.inl ⟨by rfl, ?_⟩) ?_
        · intro w9 hS
          go_simp
          exact ⟨rfl, hS⟩
        simp only [Act.put, List.setIfInBounds_toArray, List.set_cons_zero, List.set_cons_succ]
        refine det_take (i := 3) (d := some 52) (l' := #[true, true, true, true, false, false, false, false, false, false, false, false, false, false, false, false, false, false, false, false, false, false, false, false, false, false, false, false, false, false, false, false, false, false, false, false, false, false, false, false, false, false, false, false, false, false, false]) (v := .int .u8 k) rfl rfl rfl (by kernel_rfl) (by kernel_rfl) (by kernel_rfl) (Or.inl ⟨by rfl, ?_⟩) ?_
        · intro w9 hS
          go_simp
          exact ⟨rfl, hS⟩
        simp only [Act.put, List.setIfInBounds_toArray, List.set_cons_zero, List.set_cons_succ]
        refine det_take (i := 4) (d := some 53) (l' := #[true, true, true, true, true, false, false, false, false, false, false, false, false, false, false, false, false, false, false, false, false, false, false, false, false, false, false, false, false, false, false, false, false, false, false, false, false, false, false, false, false, false, false, false, false, false, false]) (v := .pointer (some ⟨w1.heap.size + 1, k, none⟩)) rfl rfl rfl (by kernel_rfl) (by kernel_rfl) (by kernel_rfl) (Or.inl ⟨by rfl, ?_⟩) ?_
        · intro w9 hS
          have hk11 : (k : Int) < 11 := by omega
          go_simp
          first | exact ⟨rfl, hS⟩ | exact ⟨by simp; omega, hS⟩ | exact ⟨by simp [*], hS⟩
        simp only [Act.put, List.setIfInBounds_toArray, List.set_cons_zero, List.set_cons_succ]
        refine det_take (i := 5) (d := some 54) (l' := #[true, true, true, true, true, true, false, false, false, false, false, false, false, false, false, false, false, false, false, false, false, false, false, false, false, false, false, false, false, false, false, false, false, false, false, false, false, false, false, false, false, false, false, false, false, false, false]) (v := .string (bs T)) rfl rfl rfl (by kernel_rfl) (by kernel_rfl) (by kernel_rfl) (Or.inl ⟨by rfl, ?_⟩) ?_
        · intro w9 hS
          have l0 := hS.bt
          go_simp
          exact ⟨rfl, hS⟩
        simp only [Act.put, List.setIfInBounds_toArray, List.set_cons_zero, List.set_cons_succ]
        refine det_take (i := 6) (d := some 55) (l' := #[true, true, true, true, true, true, true, false, false, false, false, false, false, false, false, false, false, false, false, false, false, false, false, false, false, false, false, false, false, false, false, false, false, false, false, false, false, false, false, false, false, false, false, false, false, false, false]) (v := .bool false) rfl rfl rfl (by kernel_rfl) (by kernel_rfl) (by kernel_rfl) (Or.inl ⟨by rfl, ?_⟩) ?_
        · intro w9 hS
          go_simp
          first | exact ⟨rfl, hS⟩ | exact ⟨by simp, hS⟩
        simp only [Act.put, List.setIfInBounds_toArray, List.set_cons_zero, List.set_cons_succ]
        refine det_take (i := 7) (d := some 56) (l' := #[true, true, true, true, true, true, true, true, false, false, false, false, false, false, false, false, false, false, false, false, false, false, false, false, false, false, false, false, false, false, false, false, false, false, false, false, false, false, false, false, false, false, false, false, false, false, false]) (v := .bool false) rfl rfl rfl (by kernel_rfl) (by kernel_rfl) (by kernel_rfl) (Or.inl ⟨by rfl, ?_⟩) ?_
        · intro w9 hS
          go_simp
          exact ⟨rfl, hS⟩
        simp only [Act.put, List.setIfInBounds_toArray, List.set_cons_zero, List.set_cons_succ]
        refine det_take (i := 8) (d := some 57) (l' := #[true, true, true, true, true, true, true, true, true, false, false, false, false, false, false, false, false, false, false, false, false, false, false, false, false, false, false, false, false, false, false, false, false, false, false, false, false, false, false, false, false, false, false, false, false, false, false]) (v := .agg (callCells (allK k))) rfl rfl rfl (by kernel_rfl) (by kernel_rfl) (by kernel_rfl) (Or.inl ⟨by rfl, ?_⟩) ?_
        · intro w9 hS
          have l0 := hS.ba.cell 0
          have l1 := hS.ba.cell 1
          have l2 := hS.ba.cell 2
          have l3 := hS.ba.cell 3
          have l4 := hS.ba.cell 4
          have l5 := hS.ba.cell 5
          have l6 := hS.ba.cell 6
          simp only [callCells, List.getElem?_toArray, List.getElem?_cons_zero, List.getElem?_cons_succ] at l0 l1 l2 l3 l4 l5 l6
          go_simp
          exact ⟨rfl, hS⟩
        simp only [Act.put, List.setIfInBounds_toArray, List.set_cons_zero, List.set_cons_succ]
        refine det_take (i := 9) (d := some 58) (l' := #[true, true, true, true, true, true, true, true, true, true, false, false, false, false, false, false, false, false, false, false, false, false, false, false, false, false, false, false, false, false, false, false, false, false, false, false, false, false, false, false, false, false, false, false, false, false, false]) (v := .int .i64 1) rfl rfl rfl (by kernel_rfl) (by kernel_rfl) (by kernel_rfl) (Or.inl ⟨by rfl, ?_⟩) ?_
        · intro w9 hS
          go_simp
          refine Calls.mono (may_is (allK k) 1 _ HMy.out) ?_
          rintro e w8 ⟨rfl, hb⟩
          exact ⟨rfl, hS.step hb⟩
        simp only [Act.put, List.setIfInBounds_toArray, List.set_cons_zero, List.set_cons_succ]
        refine det_take (i := 10) (d := some 59) (l' := #[true, true, true, true, true, true, true, true, true, true, true, false, false, false, false, false, false, false, false, false, false, false, false, false, false, false, false, false, false, false, false, false, false, false, false, false, false, false, false, false, false, false, false, false, false, false, false]) (v := .bool false) rfl rfl rfl (by kernel_rfl) (by kernel_rfl) (by kernel_rfl) (Or.inl ⟨by rfl, ?_⟩) ?_
        · intro w9 hS
          go_simp
          first | exact ⟨rfl, hS⟩ | exact ⟨by simp, hS⟩
        simp only [Act.put, List.setIfInBounds_toArray, List.set_cons_zero, List.set_cons_succ]
        refine det_take (i := 11) (d := some 60) (l' := #[true, true, true, true, true, true, true, true, true, true, true, true, false, false, false, false, false, false, false, false, false, false, false, false, false, false, false, false, false, false, false, false, false, false, false, false, false, false, false, false, false, false, false, false, false, false, false]) (v := .bool false) rfl rfl rfl (by kernel_rfl) (by kernel_rfl) (by kernel_rfl) (Or.inl ⟨by rfl, ?_⟩) ?_
        · intro w9 hS
          go_simp
          exact ⟨rfl, hS⟩
        simp only [Act.put, List.setIfInBounds_toArray, List.set_cons_zero, List.set_cons_succ]
        refine det_take (i := 12) (d := some 61) (l' := #[true, true, true, true, true, true, true, true, true, true, true, true, true, false, false, false, false, false, false, false, false, false, false, false, false, false, false, false, false, false, false, false, false, false, false, false, false, false, false, false, false, false, false, false, false, false, false]) (v := .bool false) rfl rfl rfl (by kernel_rfl) (by kernel_rfl) (by kernel_rfl) (Or.inl ⟨by rfl, ?_⟩) ?_
        · intro w9 hS
          go_simp
          first | exact ⟨rfl, hS⟩ | exact ⟨by simp, hS⟩
        simp only [Act.put, List.setIfInBounds_toArray, List.set_cons_zero, List.set_cons_succ]
        refine det_take (i := 13) (d := some 62) (l' := #[true, true, true, true, true, true, true, true, true, true, true, true, true, true, false, false, false, false, false, false, false, false, false, false, false, false, false, false, false, false, false, false, false, false, false, false, false, false, false, false, false, false, false, false, false, false, false]) (v := .bool false) rfl rfl rfl (by kernel_rfl) (by kernel_rfl) (by kernel_rfl) (Or.inl ⟨by rfl, ?_⟩) ?_
        · intro w9 hS
          go_simp
          exact ⟨rfl, hS⟩
        simp only [Act.put, List.setIfInBounds_toArray, List.set_cons_zero, List.set_cons_succ]
        refine det_take (i := 14) (d := some 63) (l' := #[true, true, true, true, true, true, true, true, true, true, true, true, true, true, true, false, false, false, false, false, false, false, false, false, false, false, false, false, false, false, false, false, false, false, false, false, false, false, false, false, false, false, false, false, false, false, false]) (v := .bool false) rfl rfl rfl (by kernel_rfl) (by kernel_rfl) (by kernel_rfl) (Or.inl ⟨by rfl, ?_⟩) ?_
        · intro w9 hS
          go_simp
          exact ⟨rfl, hS⟩
        simp only [Act.put, List.setIfInBounds_toArray, List.set_cons_zero, List.set_cons_succ]
        refine det_take (i := 15) (d := some 64) (l' := #[true, true, true, true, true, true, true, true, true, true, true, true, true, true, true, true, false, false, false, false, false, false, false, false, false, false, false, false, false, false, false, false, false, false, false, false, false, false, false, false, false, false, false, false, false, false, false]) (v := .int .i64 4) rfl rfl rfl (by kernel_rfl) (by kernel_rfl) (by kernel_rfl) (Or.inl ⟨by rfl, ?_⟩) ?_
        · intro w9 hS
          go_simp
          exact ⟨rfl, hS⟩
        simp only [Act.put, List.setIfInBounds_toArray, List.set_cons_zero, List.set_cons_succ]
        refine det_take (i := 16) (d := some 65) (l' := #[true, true, true, true, true, true, true, true, true, true, true, true, true, true, true, true, true, false, false, false, false, false, false, false, false, false, false, false, false, false, false, false, false, false, false, false, false, false, false, false, false, false, false, false, false, false, false]) (v := .bool false) rfl rfl rfl (by kernel_rfl) (by kernel_rfl) (by kernel_rfl) (Or.inl ⟨by rfl, ?_⟩) ?_
        · intro w9 hS
          go_simp
          first | exact ⟨rfl, hS⟩ | exact ⟨by simp, hS⟩
        simp only [Act.put, List.setIfInBounds_toArray, List.set_cons_zero, List.set_cons_succ]
        refine det_take (i := 17) (d := some 66) (l' := #[true, true, true, true, true, true, true, true, true, true, true, true, true, true, true, true, true, true, false, false, false, false, false, false, false, false, false, false, false, false, false, false, false, false, false, false, false, false, false, false, false, false, false, false, false, false, false]) (v := .bool false) rfl rfl rfl (by kernel_rfl) (by kernel_rfl) (by kernel_rfl) (Or.inl ⟨by rfl, ?_⟩) ?_
        · intro w9 hS
          go_simp
          exact ⟨rfl, hS⟩
        simp only [Act.put, List.setIfInBounds_toArray, List.set_cons_zero, List.set_cons_succ]
        refine det_take (i := 18) (d := some 67) (l' := #[true, true, true, true, true, true, true, true, true, true, true, true, true, true, true, true, true, true, true, false, false, false, false, false, false, false, false, false, false, false, false, false, false, false, false, false, false, false, false, false, false, false, false, false, false, false, false]) (v := .bool false) rfl rfl rfl (by kernel_rfl) (by kernel_rfl) (by kernel_rfl) (Or.inl ⟨by rfl, ?_⟩) ?_
        · intro w9 hS
          go_simp
          first | exact ⟨rfl, hS⟩ | exact ⟨by simp, hS⟩
        simp only [Act.put, List.setIfInBounds_toArray, List.set_cons_zero, List.set_cons_succ]
        refine det_take (i := 19) (d := some 68) (l' := #[true, true, true, true, true, true, true, true, true, true, true, true, true, true, true, true, true, true, true, true, false, false, false, false, false, false, false, false, false, false, false, false, false, false, false, false, false, false, false, false, false, false, false, false, false, false, false]) (v := .bool false) rfl rfl rfl (by kernel_rfl) (by kernel_rfl) (by kernel_rfl) (Or.inl ⟨by rfl, ?_⟩) ?_
        · intro w9 hS
          go_simp
          exact ⟨rfl, hS⟩
        simp only [Act.put, List.setIfInBounds_toArray, List.set_cons_zero, List.set_cons_succ]
        refine det_take (i := 20) (d := some 69) (l' := #[true, true, true, true, true, true, true, true, true, true, true, true, true, true, true, true, true, true, true, true, true, false, false, false, false, false, false, false, false, false, false, false, false, false, false, false, false, false, false, false, false, false, false, false, false, false, false]) (v := .bool false) rfl rfl rfl (by kernel_rfl) (by kernel_rfl) (by kernel_rfl) (Or.inl ⟨by rfl, ?_⟩) ?_
        · intro w9 hS
          go_simp
          exact ⟨rfl, hS⟩
        simp only [Act.put, List.setIfInBounds_toArray, List.set_cons_zero, List.set_cons_succ]
        refine det_take (i := 21) (d := some 70) (l' := #[true, true, true, true, true, true, true, true, true, true, true, true, true, true, true, true, true, true, true, true, true, true, false, false, false, false, false, false, false, false, false, false, false, false, false, false, false, false, false, false, false, false, false, false, false, false, false]) (v := .bool false) rfl rfl rfl (by kernel_rfl) (by kernel_rfl) (by kernel_rfl) (Or.inl ⟨by rfl, ?_⟩) ?_
        · intro w9 hS
          go_simp
          exact ⟨rfl, hS⟩
        simp only [Act.put, List.setIfInBounds_toArray, List.set_cons_zero, List.set_cons_succ]
        refine det_take (i := 22) (d := some 71) (l' := #[true, true, true, true, true, true, true, true, true, true, true, true, true, true, true, true, true, true, true, true, true, true, true, false, false, false, false, false, false, false, false, false, false, false, false, false, false, false, false, false, false, false, false, false, false, false, false]) (v := .bool false) rfl rfl rfl (by kernel_rfl) (by kernel_rfl) (by kernel_rfl) (Or.inl ⟨by rfl, ?_⟩) ?_
        · intro w9 hS
          go_simp
          exact ⟨rfl, hS⟩
        simp only [Act.put, List.setIfInBounds_toArray, List.set_cons_zero, List.set_cons_succ]
        refine det_take (i := 23) (d := some 72) (l' := #[true, true, true, true, true, true, true, true, true, true, true, true, true, true, true, true, true, true, true, true, true, true, true, true, false, false, false, false, false, false, false, false, false, false, false, false, false, false, false, false, false, false, false, false, false, false, false]) (v := undef) rfl rfl rfl (by kernel_rfl) (by kernel_rfl) (by kernel_rfl) (Or.inr ⟨by rfl, rfl⟩) ?_
        simp only [Act.put, List.setIfInBounds_toArray, List.set_cons_zero, List.set_cons_succ]
        refine det_take (i := 24) (d := some 73) (l' := #[true, true, true, true, true, true, true, true, true, true, true, true, true, true, true, true, true, true, true, true, true, true, true, true, true, false, false, false, false, false, false, false, false, false, false, false, false, false, false, false, false, false, false, false, false, false, false]) (v := undef) rfl rfl rfl (by kernel_rfl) (by kernel_rfl) (by kernel_rfl) (Or.inr ⟨by rfl, rfl⟩) ?_
        simp only [Act.put, List.setIfInBounds_toArray, List.set_cons_zero, List.set_cons_succ]
        refine det_take (i := 25) (d := some 74) (l' := #[true, true, true, true, true, true, true, true, true, true, true, true, true, true, true, true, true, true, true, true, true, true, true, true, true, true, false, false, false, false, false, false, false, false, false, false, false, false, false, false, false, false, false, false, false, false, false]) (v := undef) rfl rfl rfl (by kernel_rfl) (by kernel_rfl) (by kernel_rfl) (Or.inr ⟨by rfl, rfl⟩) ?_
        simp only [Act.put, List.setIfInBounds_toArray, List.set_cons_zero, List.set_cons_succ]
        refine det_take (i := 26) (d := some 75) (l' := #[true, true, true, true, true, true, true, true, true, true, true, true, true, true, true, true, true, true, true, true, true, true, true, true, true, true, true, false, false, false, false, false, false, false, false, false, false, false, false, false, false, false, false, false, false, false, false]) (v := undef) rfl rfl rfl (by kernel_rfl) (by kernel_rfl) (by kernel_rfl) (Or.inr ⟨by rfl, rfl⟩) ?_
        simp only [Act.put, List.setIfInBounds_toArray, List.set_cons_zero, List.set_cons_succ]
        refine det_take (i := 27) (d := some 76) (l' := #[true, true, true, true, true, true, true, true, true, true, true, true, true, true, true, true, true, true, true, true, true, true, true, true, true, true, true, true, false, false, false, false, false, false, false, false, false, false, false, false, false, false, false, false, false, false, false]) (v := .bool false) rfl rfl rfl (by kernel_rfl) (by kernel_rfl) (by kernel_rfl) (Or.inl ⟨by rfl, ?_⟩) ?_
        · intro w9 hS
          go_simp
          exact ⟨rfl, hS⟩
        simp only [Act.put, List.setIfInBounds_toArray, List.set_cons_zero, List.set_cons_succ]
        refine det_take (i := 28) (d := some 77) (l' := #[true, true, true, true, true, true, true, true, true, true, true, true, true, true, true, true, true, true, true, true, true, true, true, true, true, true, true, true, true, false, false, false, false, false, false, false, false, false, false, false, false, false, false, false, false, false, false]) (v := .bool false) rfl rfl rfl (by kernel_rfl) (by kernel_rfl) (by kernel_rfl) (Or.inl ⟨by rfl, ?_⟩) ?_
        · intro w9 hS
          go_simp
          exact ⟨rfl, hS⟩
        simp only [Act.put, List.setIfInBounds_toArray, List.set_cons_zero, List.set_cons_succ]
        refine det_take (i := 29) (d := some 78) (l' := #[true, true, true, true, true, true, true, true, true, true, true, true, true, true, true, true, true, true, true, true, true, true, true, true, true, true, true, true, true, true, false, false, false, false, false, false, false, false, false, false, false, false, false, false, false, false, false]) (v := .bool false) rfl rfl rfl (by kernel_rfl) (by kernel_rfl) (by kernel_rfl) (Or.inl ⟨by rfl, ?_⟩) ?_
        · intro w9 hS
          go_simp
          exact ⟨rfl, hS⟩
        simp only [Act.put, List.setIfInBounds_toArray, List.set_cons_zero, List.set_cons_succ]
        refine det_take (i := 30) (d := some 79) (l' := #[true, true, true, true, true, true, true, true, true, true, true, true, true, true, true, true, true, true, true, true, true, true, true, true, true, true, true, true, true, true, true, false, false, false, false, false, false, false, false, false, false, false, false, false, false, false, false]) (v := .int .u8 k) rfl rfl rfl (by kernel_rfl) (by kernel_rfl) (by kernel_rfl) (Or.inl ⟨by rfl, ?_⟩) ?_
        · intro w9 hS
          go_simp
          exact ⟨rfl, hS⟩
        simp only [Act.put, List.setIfInBounds_toArray, List.set_cons_zero, List.set_cons_succ]
        refine det_take (i := 31) (d := some 80) (l' := #[true, true, true, true, true, true, true, true, true, true, true, true, true, true, true, true, true, true, true, true, true, true, true, true, true, true, true, true, true, true, true, true, false, false, false, false, false, false, false, false, false, false, false, false, false, false, false]) (v := .bool false) rfl rfl rfl (by kernel_rfl) (by kernel_rfl) (by kernel_rfl) (Or.inl ⟨by rfl, ?_⟩) ?_
        · intro w9 hS
          go_simp
          refine Calls.mono (needs_is k false _ HNd.out) ?_
          rintro e w8 ⟨rfl, hb⟩
          exact ⟨rfl, hS.step hb⟩
        simp only [Act.put, List.setIfInBounds_toArray, List.set_cons_zero, List.set_cons_succ]
        refine det_take (i := 32) (d := some 81) (l' := #[true, true, true, true, true, true, true, true, true, true, true, true, true, true, true, true, true, true, true, true, true, true, true, true, true, true, true, true, true, true, true, true, true, false, false, false, false, false, false, false, false, false, false, false, false, false, false]) (v := .int .u8 k) rfl rfl rfl (by kernel_rfl) (by kernel_rfl) (by kernel_rfl) (Or.inl ⟨by rfl, ?_⟩) ?_
        · intro w9 hS
          go_simp
          exact ⟨rfl, hS⟩
        simp only [Act.put, List.setIfInBounds_toArray, List.set_cons_zero, List.set_cons_succ]
        refine det_take (i := 33) (d := some 82) (l' := #[true, true, true, true, true, true, true, true, true, true, true, true, true, true, true, true, true, true, true, true, true, true, true, true, true, true, true, true, true, true, true, true, true, true, false, false, false, false, false, false, false, false, false, false, false, false, false]) (v := .bool false) rfl rfl rfl (by kernel_rfl) (by kernel_rfl) (by kernel_rfl) (Or.inl ⟨by rfl, ?_⟩) ?_
        · intro w9 hS
          go_simp
          first | exact ⟨rfl, hS⟩ | exact ⟨by simp; omega, hS⟩ | exact ⟨by simp [*], hS⟩
        simp only [Act.put, List.setIfInBounds_toArray, List.set_cons_zero, List.set_cons_succ]
        refine det_take (i := 34) (d := some 83) (l' := #[true, true, true, true, true, true, true, true, true, true, true, true, true, true, true, true, true, true, true, true, true, true, true, true, true, true, true, true, true, true, true, true, true, true, true, false, false, false, false, false, false, false, false, false, false, false, false]) (v := .bool false) rfl rfl rfl (by kernel_rfl) (by kernel_rfl) (by kernel_rfl) (Or.inl ⟨by rfl, ?_⟩) ?_
        · intro w9 hS
          go_simp
          exact ⟨rfl, hS⟩
        simp only [Act.put, List.setIfInBounds_toArray, List.set_cons_zero, List.set_cons_succ]
        refine det_take (i := 35) (d := some 84) (l' := #[true, true, true, true, true, true, true, true, true, true, true, true, true, true, true, true, true, true, true, true, true, true, true, true, true, true, true, true, true, true, true, true, true, true, true, true, false, false, false, false, false, false, false, false, false, false, false]) (v := undef) rfl rfl rfl (by kernel_rfl) (by kernel_rfl) (by kernel_rfl) (Or.inr ⟨by rfl, rfl⟩) ?_
        simp only [Act.put, List.setIfInBounds_toArray, List.set_cons_zero, List.set_cons_succ]
        refine det_take (i := 36) (d := some 85) (l' := #[true, true, true, true, true, true, true, true, true, true, true, true, true, true, true, true, true, true, true, true, true, true, true, true, true, true, true, true, true, true, true, true, true, true, true, true, true, false, false, false, false, false, false, false, false, false, false]) (v := undef) rfl rfl rfl (by kernel_rfl) (by kernel_rfl) (by kernel_rfl) (Or.inr ⟨by rfl, rfl⟩) ?_
        simp only [Act.put, List.setIfInBounds_toArray, List.set_cons_zero, List.set_cons_succ]
        refine det_take (i := 37) (d := some 86) (l' := #[true, true, true, true, true, true, true, true, true, true, true, true, true, true, true, true, true, true, true, true, true, true, true, true, true, true, true, true, true, true, true, true, true, true, true, true, true, true, false, false, false, false, false, false, false, false, false]) (v := .bool false) rfl rfl rfl (by kernel_rfl) (by kernel_rfl) (by kernel_rfl) (Or.inl ⟨by rfl, ?_⟩) ?_
        · intro w9 hS
          go_simp
          exact ⟨rfl, hS⟩
        simp only [Act.put, List.setIfInBounds_toArray, List.set_cons_zero, List.set_cons_succ]
        refine det_take (i := 38) (d := some 87) (l' := #[true, true, true, true, true, true, true, true, true, true, true, true, true, true, true, true, true, true, true, true, true, true, true, true, true, true, true, true, true, true, true, true, true, true, true, true, true, true, true, false, false, false, false, false, false, false, false]) (v := .bool false) rfl rfl rfl (by kernel_rfl) (by kernel_rfl) (by kernel_rfl) (Or.inl ⟨by rfl, ?_⟩) ?_
        · intro w9 hS
          go_simp
          first | exact ⟨rfl, hS⟩ | exact ⟨by simp, hS⟩
        simp only [Act.put, List.setIfInBounds_toArray, List.set_cons_zero, List.set_cons_succ]
        refine det_take (i := 39) (d := some 88) (l' := #[true, true, true, true, true, true, true, true, true, true, true, true, true, true, true, true, true, true, true, true, true, true, true, true, true, true, true, true, true, true, true, true, true, true, true, true, true, true, true, true, false, false, false, false, false, false, false]) (v := .bool false) rfl rfl rfl (by kernel_rfl) (by kernel_rfl) (by kernel_rfl) (Or.inl ⟨by rfl, ?_⟩) ?_
        · intro w9 hS
          go_simp
          exact ⟨rfl, hS⟩
        simp only [Act.put, List.setIfInBounds_toArray, List.set_cons_zero, List.set_cons_succ]
        refine det_take (i := 40) (d := some 89) (l' := #[true, true, true, true, true, true, true, true, true, true, true, true, true, true, true, true, true, true, true, true, true, true, true, true, true, true, true, true, true, true, true, true, true, true, true, true, true, true, true, true, true, false, false, false, false, false, false]) (v := .bool false) rfl rfl rfl (by kernel_rfl) (by kernel_rfl) (by kernel_rfl) (Or.inl ⟨by rfl, ?_⟩) ?_
        · intro w9 hS
          go_simp
          exact ⟨rfl, hS⟩
        simp only [Act.put, List.setIfInBounds_toArray, List.set_cons_zero, List.set_cons_succ]
        refine det_take (i := 41) (d := some 90) (l' := #[true, true, true, true, true, true, true, true, true, true, true, true, true, true, true, true, true, true, true, true, true, true, true, true, true, true, true, true, true, true, true, true, true, true, true, true, true, true, true, true, true, true, false, false, false, false, false]) (v := .agg (callCells (allK k))) rfl rfl rfl (by kernel_rfl) (by kernel_rfl) (by kernel_rfl) (Or.inl ⟨by rfl, ?_⟩) ?_
        · intro w9 hS
          have l0 := hS.ba.cell 0
          have l1 := hS.ba.cell 1
          have l2 := hS.ba.cell 2
          have l3 := hS.ba.cell 3
          have l4 := hS.ba.cell 4
          have l5 := hS.ba.cell 5
          have l6 := hS.ba.cell 6
          simp only [callCells, List.getElem?_toArray, List.getElem?_cons_zero, List.getElem?_cons_succ] at l0 l1 l2 l3 l4 l5 l6
          go_simp
          exact ⟨rfl, hS⟩
        simp only [Act.put, List.setIfInBounds_toArray, List.set_cons_zero, List.set_cons_succ]
        refine det_take (i := 42) (d := some 91) (l' := #[true, true, true, true, true, true, true, true, true, true, true, true, true, true, true, true, true, true, true, true, true, true, true, true, true, true, true, true, true, true, true, true, true, true, true, true, true, true, true, true, true, true, true, false, false, false, false]) (v := .agg (callCells (allK k))) rfl rfl rfl (by kernel_rfl) (by kernel_rfl) (by kernel_rfl) (Or.inl ⟨by rfl, ?_⟩) ?_
        · intro w9 hS
          have l0 := hS.ba.cell 0
          have l1 := hS.ba.cell 1
          have l2 := hS.ba.cell 2
          have l3 := hS.ba.cell 3
          have l4 := hS.ba.cell 4
          have l5 := hS.ba.cell 5
          have l6 := hS.ba.cell 6
          simp only [callCells, List.getElem?_toArray, List.getElem?_cons_zero, List.getElem?_cons_succ] at l0 l1 l2 l3 l4 l5 l6
          go_simp
          exact ⟨rfl, hS⟩
        simp only [Act.put, List.setIfInBounds_toArray, List.set_cons_zero, List.set_cons_succ]
        refine det_take (i := 43) (d := some 92) (l' := #[true, true, true, true, true, true, true, true, true, true, true, true, true, true, true, true, true, true, true, true, true, true, true, true, true, true, true, true, true, true, true, true, true, true, true, true, true, true, true, true, true, true, true, true, false, false, false]) (v := .agg (callCells (cleanF (allK k)))) rfl rfl rfl (by kernel_rfl) (by kernel_rfl) (by kernel_rfl) (Or.inl ⟨by rfl, ?_⟩) ?_
        · intro w9 hS
          go_simp
          refine Calls.mono (clean_val (allK k) _) ?_
          rintro e w8 ⟨rfl, hb⟩
          exact ⟨rfl, hS.step hb⟩
        simp only [Act.put, List.setIfInBounds_toArray, List.set_cons_zero, List.set_cons_succ]
        refine det_take (i := 44) (d := some 93) (l' := #[true, true, true, true, true, true, true, true, true, true, true, true, true, true, true, true, true, true, true, true, true, true, true, true, true, true, true, true, true, true, true, true, true, true, true, true, true, true, true, true, true, true, true, true, true, false, false]) (v := .bool true) rfl rfl rfl (by kernel_rfl) (by kernel_rfl) (by kernel_rfl) (Or.inl ⟨by rfl, ?_⟩) ?_
        · intro w9 hS
          go_simp
          refine Calls.mono (same_is (allK k) (cleanF (allK k)) true _ HSm.out) ?_
          rintro e w8 ⟨rfl, hb⟩
          exact ⟨rfl, hS.step hb⟩
        simp only [Act.put, List.setIfInBounds_toArray, List.set_cons_zero, List.set_cons_succ]
        refine det_take (i := 45) (d := some 94) (l' := #[true, true, true, true, true, true, true, true, true, true, true, true, true, true, true, true, true, true, true, true, true, true, true, true, true, true, true, true, true, true, true, true, true, true, true, true, true, true, true, true, true, true, true, true, true, true, false]) (v := .bool false) rfl rfl rfl (by kernel_rfl) (by kernel_rfl) (by kernel_rfl) (Or.inl ⟨by rfl, ?_⟩) ?_
        · intro w9 hS
          go_simp
          first | exact ⟨rfl, hS⟩ | exact ⟨by simp, hS⟩
        simp only [Act.put, List.setIfInBounds_toArray, List.set_cons_zero, List.set_cons_succ]
        refine det_take (i := 46) (d := some 95) (l' := #[true, true, true, true, true, true, true, true, true, true, true, true, true, true, true, true, true, true, true, true, true, true, true, true, true, true, true, true, true, true, true, true, true, true, true, true, true, true, true, true, true, true, true, true, true, true, true]) (v := .bool false) rfl rfl rfl (by kernel_rfl) (by kernel_rfl) (by kernel_rfl) (Or.inl ⟨by rfl, ?_⟩) ?_
        · intro w9 hS
          go_simp
          exact ⟨rfl, hS⟩
        simp only [Act.put, List.setIfInBounds_toArray, List.set_cons_zero, List.set_cons_succ]
        refine det_done (by kernel_rfl) ?_ _
        intro w5 hS
        have HS5 := Lib.hid hS.nm
        clear hS HB
        go_wp2
        go_roundw
        case rel => exact ⟨k + 1, k, by omega, by go_num, HS5⟩
        case measure => simp [intOf]; omega
      · have hmk : mayK k = true := by simp [mayK]; omega
        have hn7 : (decide (2 ≤ k) && decide (k ≤ 7)) = false := by simp; omega
        simp only [hmk, hn7, if_true, Bool.false_eq_true, if_false] at hpz hpe hmy hnd
        have HPz := Lib.hid hpz
        have HPe := Lib.hid hpe
        have HMy := Lib.hid hmy
        have HNd := Lib.hid hnd
        have t0 : decide ((0 : Int) < (k : Int)) = true := by simp; omega
        have t0' : decide (0 < k) = true := by simp; omega
        have t10 : decide ((k : Int) < 10) = true := by simp; omega
        clear hpz hpe hmy hnd hmk hn7
        go_wp2_with fail
        refine (parse_at T (cleanF (allK k)) 0 _ HS.out.env (by omega) HPz.out HPe.out).mono ?_
        rintro e w4 ⟨rfl, hb4⟩
        have HB : Hid (NmB w w1.heap.size (w1.heap.size + 1) (allK k) k T w4.heap.size (cleanF (allK k)) (w4.alloc (.cells (callCells (cleanF (allK k))) 38))) := Lib.hid ⟨(HS.out.step hb4).step (below_new _ _), Blk.new _ _ _, HRow.out⟩
        clear hb4 HS a0 f0 kT
        unfold callV callCells
        go_wp2_with fail
        refine det_start (n := 47) (l := #[false, false, false, false, false, false, false, false, false, false, false, false, false, false, false, false, false, false, false, false, false, false, false, false, false, false, false, false, false, false, false, false, false, false, false, false, false, false, false, false, false, false, false, false, false, false, false]) (S := NmB w w1.heap.size (w1.heap.size + 1) (allK k) k T w4.heap.size (cleanF (allK k))) (by kernel_rfl) (by rfl) (by rfl) HB.out.drew ?_
        refine det_take (i := 0) (d := some 49) (l' := #[true, false, false, false, false, false, false, false, false, false, false, false, false, false, false, false, false, false, false, false, false, false, false, false, false, false, false, false, false, false, false, false, false, false, false, false, false, false, false, false, false, false, false, false, false, false, false]) (v := .agg (callCells (allK k))) rfl rfl rfl (by kernel_rfl) (by kernel_rfl) (by kernel_rfl) (Or.inl ⟨by rfl, ?_⟩) ?_
        · intro w9 hS
          have l0 := hS.ba.cell 0
          have l1 := hS.ba.cell 1
          have l2 := hS.ba.cell 2
          have l3 := hS.ba.cell 3
          have l4 := hS.ba.cell 4
          have l5 := hS.ba.cell 5
          have l6 := hS.ba.cell 6
          simp only [callCells, List.getElem?_toArray, List.getElem?_cons_zero, List.getElem?_cons_succ] at l0 l1 l2 l3 l4 l5 l6
          go_simp
          exact ⟨rfl, hS⟩
        simp only [Act.put, List.setIfInBounds_toArray, List.set_cons_zero, List.set_cons_succ]
        refine det_take (i := 1) (d := some 50) (l' := #[true, true, false, false, false, false, false, false, false, false, false, false, false, false, false, false, false, false, false, false, false, false, false, false, false, false, false, false, false, false, false, false, false, false, false, false, false, false, false, false, false, false, false, false, false, false, false]) (v := .string (bs T)) rfl rfl rfl (by kernel_rfl) (by kernel_rfl) (by kernel_rfl) (Or.inl ⟨by rfl, ?_⟩) ?_
        · intro w9 hS
          go_simp
          refine Calls.mono (show_is (allK k) T _ hS.env HCk.out HSh.out) ?_
          rintro e w8 ⟨rfl, hb⟩
          exact ⟨rfl, hS.step hb⟩
        simp only [Act.put, List.setIfInBounds_toArray, List.set_cons_zero, List.set_cons_succ]
        refine det_take (i := 2) (d := some 51) (l' := #[true, true, true, false, false, false, false, false, false, false, false, false, false, false, false, false, false, false, false, false, false, false, false, false, false, false, false, false, false, false, false, false, false, false, false, false, false, false, false, false, false, false, false, false, false, false, false]) (v := .slice (some ⟨w1.heap.size + 1, 0, none⟩) 11 11) rfl rfl rfl (by kernel_rfl) (by kernel_rfl) (by kernel_rfl) (Or.inl ⟨by rfl, ?_⟩) ?_
        · intro w9 hS
          go_simp
          exact ⟨rfl, hS⟩
        simp only [Act.put, List.setIfInBounds_toArray, List.set_cons_zero, List.set_cons_succ]
        refine det_take (i := 3) (d := some 52) (l' := #[true, true, true, true, false, false, false, false, false, false, false, false, false, false, false, false, false, false, false, false, false, false, false, false, false, false, false, false, false, false, false, false, false, false, false, false, false, false, false, false, false, false, false, false, false, false, false]) (v := .int .u8 k) rfl rfl rfl (by kernel_rfl) (by kernel_rfl) (by kernel_rfl) (Or.inl ⟨by rfl, ?_⟩) ?_
        · intro w9 hS
          go_simp
          exact ⟨rfl, hS⟩
        simp only [Act.put, List.setIfInBounds_toArray, List.set_cons_zero, List.set_cons_succ]
        refine det_take (i := 4) (d := some 53) (l' := #[true, true, true, true, true, false, false, false, false, false, false, false, false, false, false, false, false, false, false, false, false, false, false, false, false, false, false, false, false, false, false, false, false, false, false, false, false, false, false, false, false, false, false, false, false, false, false]) (v := .pointer (some ⟨w1.heap.size + 1, k, none⟩)) rfl rfl rfl (by kernel_rfl) (by kernel_rfl) (by kernel_rfl) (Or.inl ⟨by rfl, ?_⟩) ?_
        · intro w9 hS
          have hk11 : (k : Int) < 11 := by omega
          go_simp
          first | exact ⟨rfl, hS⟩ | exact ⟨by simp; omega, hS⟩ | exact ⟨by simp [*], hS⟩
        simp only [Act.put, List.setIfInBounds_toArray, List.set_cons_zero, List.set_cons_succ]
        refine det_take (i := 5) (d := some 54) (l' := #[true, true, true, true, true, true, false, false, false, false, false, false, false, false, false, false, false, false, false, false, false, false, false, false, false, false, false, false, false, false, false, false, false, false, false, false, false, false, false, false, false, false, false, false, false, false, false]) (v := .string (bs T)) rfl rfl rfl (by kernel_rfl) (by kernel_rfl) (by kernel_rfl) (Or.inl ⟨by rfl, ?_⟩) ?_
        · intro w9 hS
          have l0 := hS.bt
          go_simp
          exact ⟨rfl, hS⟩
        simp only [Act.put, List.setIfInBounds_toArray, List.set_cons_zero, List.set_cons_succ]
        refine det_take (i := 6) (d := some 55) (l' := #[true, true, true, true, true, true, true, false, false, false, false, false, false, false, false, false, false, false, false, false, false, false, false, false, false, false, false, false, false, false, false, false, false, false, false, false, false, false, false, false, false, false, false, false, false, false, false]) (v := .bool false) rfl rfl rfl (by kernel_rfl) (by kernel_rfl) (by kernel_rfl) (Or.inl ⟨by rfl, ?_⟩) ?_
        · intro w9 hS
          go_simp
          first | exact ⟨rfl, hS⟩ | exact ⟨by simp, hS⟩
        simp only [Act.put, List.setIfInBounds_toArray, List.set_cons_zero, List.set_cons_succ]
        refine det_take (i := 7) (d := some 56) (l' := #[true, true, true, true, true, true, true, true, false, false, false, false, false, false, false, false, false, false, false, false, false, false, false, false, false, false, false, false, false, false, false, false, false, false, false, false, false, false, false, false, false, false, false, false, false, false, false]) (v := .bool false) rfl rfl rfl (by kernel_rfl) (by kernel_rfl) (by kernel_rfl) (Or.inl ⟨by rfl, ?_⟩) ?_
        · intro w9 hS
          go_simp
          exact ⟨rfl, hS⟩
        simp only [Act.put, List.setIfInBounds_toArray, List.set_cons_zero, List.set_cons_succ]
        refine det_take (i := 8) (d := some 57) (l' := #[true, true, true, true, true, true, true, true, true, false, false, false, false, false, false, false, false, false, false, false, false, false, false, false, false, false, false, false, false, false, false, false, false, false, false, false, false, false, false, false, false, false, false, false, false, false, false]) (v := .agg (callCells (allK k))) rfl rfl rfl (by kernel_rfl) (by kernel_rfl) (by kernel_rfl) (Or.inl ⟨by rfl, ?_⟩) ?_
        · intro w9 hS
          have l0 := hS.ba.cell 0
          have l1 := hS.ba.cell 1
          have l2 := hS.ba.cell 2
          have l3 := hS.ba.cell 3
          have l4 := hS.ba.cell 4
          have l5 := hS.ba.cell 5
          have l6 := hS.ba.cell 6
          simp only [callCells, List.getElem?_toArray, List.getElem?_cons_zero, List.getElem?_cons_succ] at l0 l1 l2 l3 l4 l5 l6
          go_simp
          exact ⟨rfl, hS⟩
        simp only [Act.put, List.setIfInBounds_toArray, List.set_cons_zero, List.set_cons_succ]
        refine det_take (i := 9) (d := some 58) (l' := #[true, true, true, true, true, true, true, true, true, true, false, false, false, false, false, false, false, false, false, false, false, false, false, false, false, false, false, false, false, false, false, false, false, false, false, false, false, false, false, false, false, false, false, false, false, false, false]) (v := .int .i64 0) rfl rfl rfl (by kernel_rfl) (by kernel_rfl) (by kernel_rfl) (Or.inl ⟨by rfl, ?_⟩) ?_
        · intro w9 hS
          go_simp
          refine Calls.mono (may_is (allK k) 0 _ HMy.out) ?_
          rintro e w8 ⟨rfl, hb⟩
          exact ⟨rfl, hS.step hb⟩
        simp only [Act.put, List.setIfInBounds_toArray, List.set_cons_zero, List.set_cons_succ]
        refine det_take (i := 10) (d := some 59) (l' := #[true, true, true, true, true, true, true, true, true, true, true, false, false, false, false, false, false, false, false, false, false, false, false, false, false, false, false, false, false, false, false, false, false, false, false, false, false, false, false, false, false, false, false, false, false, false, false]) (v := .bool true) rfl rfl rfl (by kernel_rfl) (by kernel_rfl) (by kernel_rfl) (Or.inl ⟨by rfl, ?_⟩) ?_
        · intro w9 hS
          go_simp
          first | exact ⟨rfl, hS⟩ | exact ⟨by simp, hS⟩
        simp only [Act.put, List.setIfInBounds_toArray, List.set_cons_zero, List.set_cons_succ]
        refine det_take (i := 11) (d := some 60) (l' := #[true, true, true, true, true, true, true, true, true, true, true, true, false, false, false, false, false, false, false, false, false, false, false, false, false, false, false, false, false, false, false, false, false, false, false, false, false, false, false, false, false, false, false, false, false, false, false]) (v := .bool true) rfl rfl rfl (by kernel_rfl) (by kernel_rfl) (by kernel_rfl) (Or.inl ⟨by rfl, ?_⟩) ?_
        · intro w9 hS
          go_simp
          exact ⟨rfl, hS⟩
        simp only [Act.put, List.setIfInBounds_toArray, List.set_cons_zero, List.set_cons_succ]
        refine det_take (i := 12) (d := some 61) (l' := #[true, true, true, true, true, true, true, true, true, true, true, true, true, false, false, false, false, false, false, false, false, false, false, false, false, false, false, false, false, false, false, false, false, false, false, false, false, false, false, false, false, false, false, false, false, false, false]) (v := .bool false) rfl rfl rfl (by kernel_rfl) (by kernel_rfl) (by kernel_rfl) (Or.inl ⟨by rfl, ?_⟩) ?_
        · intro w9 hS
          go_simp
          first | exact ⟨rfl, hS⟩ | exact ⟨by simp, hS⟩
        simp only [Act.put, List.setIfInBounds_toArray, List.set_cons_zero, List.set_cons_succ]
        refine det_take (i := 13) (d := some 62) (l' := #[true, true, true, true, true, true, true, true, true, true, true, true, true, true, false, false, false, false, false, false, false, false, false, false, false, false, false, false, false, false, false, false, false, false, false, false, false, false, false, false, false, false, false, false, false, false, false]) (v := .bool false) rfl rfl rfl (by kernel_rfl) (by kernel_rfl) (by kernel_rfl) (Or.inl ⟨by rfl, ?_⟩) ?_
        · intro w9 hS
          go_simp
          exact ⟨rfl, hS⟩
        simp only [Act.put, List.setIfInBounds_toArray, List.set_cons_zero, List.set_cons_succ]
        refine det_take (i := 14) (d := some 63) (l' := #[true, true, true, true, true, true, true, true, true, true, true, true, true, true, true, false, false, false, false, false, false, false, false, false, false, false, false, false, false, false, false, false, false, false, false, false, false, false, false, false, false, false, false, false, false, false, false]) (v := .bool false) rfl rfl rfl (by kernel_rfl) (by kernel_rfl) (by kernel_rfl) (Or.inl ⟨by rfl, ?_⟩) ?_
        · intro w9 hS
          go_simp
          exact ⟨rfl, hS⟩
        simp only [Act.put, List.setIfInBounds_toArray, List.set_cons_zero, List.set_cons_succ]
        refine det_take (i := 15) (d := some 64) (l' := #[true, true, true, true, true, true, true, true, true, true, true, true, true, true, true, true, false, false, false, false, false, false, false, false, false, false, false, false, false, false, false, false, false, false, false, false, false, false, false, false, false, false, false, false, false, false, false]) (v := .int .i64 0) rfl rfl rfl (by kernel_rfl) (by kernel_rfl) (by kernel_rfl) (Or.inl ⟨by rfl, ?_⟩) ?_
        · intro w9 hS
          go_simp
          exact ⟨rfl, hS⟩
        simp only [Act.put, List.setIfInBounds_toArray, List.set_cons_zero, List.set_cons_succ]
        refine det_take (i := 16) (d := some 65) (l' := #[true, true, true, true, true, true, true, true, true, true, true, true, true, true, true, true, true, false, false, false, false, false, false, false, false, false, false, false, false, false, false, false, false, false, false, false, false, false, false, false, false, false, false, false, false, false, false]) (v := .bool true) rfl rfl rfl (by kernel_rfl) (by kernel_rfl) (by kernel_rfl) (Or.inl ⟨by rfl, ?_⟩) ?_
        · intro w9 hS
          go_simp
          first | exact ⟨rfl, hS⟩ | exact ⟨by simp, hS⟩
        simp only [Act.put, List.setIfInBounds_toArray, List.set_cons_zero, List.set_cons_succ]
        refine det_take (i := 17) (d := some 66) (l' := #[true, true, true, true, true, true, true, true, true, true, true, true, true, true, true, true, true, true, false, false, false, false, false, false, false, false, false, false, false, false, false, false, false, false, false, false, false, false, false, false, false, false, false, false, false, false, false]) (v := .bool true) rfl rfl rfl (by kernel_rfl) (by kernel_rfl) (by kernel_rfl) (Or.inl ⟨by rfl, ?_⟩) ?_
        · intro w9 hS
          go_simp
          exact ⟨rfl, hS⟩
        simp only [Act.put, List.setIfInBounds_toArray, List.set_cons_zero, List.set_cons_succ]
        refine det_take (i := 18) (d := some 67) (l' := #[true, true, true, true, true, true, true, true, true, true, true, true, true, true, true, true, true, true, true, false, false, false, false, false, false, false, false, false, false, false, false, false, false, false, false, false, false, false, false, false, false, false, false, false, false, false, false]) (v := .bool false) rfl rfl rfl (by kernel_rfl) (by kernel_rfl) (by kernel_rfl) (Or.inl ⟨by rfl, ?_⟩) ?_
        · intro w9 hS
          go_simp
          first | exact ⟨rfl, hS⟩ | exact ⟨by simp, hS⟩
        simp only [Act.put, List.setIfInBounds_toArray, List.set_cons_zero, List.set_cons_succ]
        refine det_take (i := 19) (d := some 68) (l' := #[true, true, true, true, true, true, true, true, true, true, true, true, true, true, true, true, true, true, true, true, false, false, false, false, false, false, false, false, false, false, false, false, false, false, false, false, false, false, false, false, false, false, false, false, false, false, false]) (v := .bool false) rfl rfl rfl (by kernel_rfl) (by kernel_rfl) (by kernel_rfl) (Or.inl ⟨by rfl, ?_⟩) ?_
        · intro w9 hS
          go_simp
          exact ⟨rfl, hS⟩
        simp only [Act.put, List.setIfInBounds_toArray, List.set_cons_zero, List.set_cons_succ]
        refine det_take (i := 20) (d := some 69) (l' := #[true, true, true, true, true, true, true, true, true, true, true, true, true, true, true, true, true, true, true, true, true, false, false, false, false, false, false, false, false, false, false, false, false, false, false, false, false, false, false, false, false, false, false, false, false, false, false]) (v := .bool false) rfl rfl rfl (by kernel_rfl) (by kernel_rfl) (by kernel_rfl) (Or.inl ⟨by rfl, ?_⟩) ?_
        · intro w9 hS
          go_simp
          exact ⟨rfl, hS⟩
        simp only [Act.put, List.setIfInBounds_toArray, List.set_cons_zero, List.set_cons_succ]
        refine det_take (i := 21) (d := some 70) (l' := #[true, true, true, true, true, true, true, true, true, true, true, true, true, true, true, true, true, true, true, true, true, true, false, false, false, false, false, false, false, false, false, false, false, false, false, false, false, false, false, false, false, false, false, false, false, false, false]) (v := .bool true) rfl rfl rfl (by kernel_rfl) (by kernel_rfl) (by kernel_rfl) (Or.inl ⟨by rfl, ?_⟩) ?_
        · intro w9 hS
          go_simp
          exact ⟨rfl, hS⟩
        simp only [Act.put, List.setIfInBounds_toArray, List.set_cons_zero, List.set_cons_succ]
        refine det_take (i := 22) (d := some 71) (l' := #[true, true, true, true, true, true, true, true, true, true, true, true, true, true, true, true, true, true, true, true, true, true, true, false, false, false, false, false, false, false, false, false, false, false, false, false, false, false, false, false, false, false, false, false, false, false, false]) (v := .bool true) rfl rfl rfl (by kernel_rfl) (by kernel_rfl) (by kernel_rfl) (Or.inl ⟨by rfl, ?_⟩) ?_
        · intro w9 hS
          go_simp
          exact ⟨rfl, hS⟩
        simp only [Act.put, List.setIfInBounds_toArray, List.set_cons_zero, List.set_cons_succ]
        refine det_take (i := 23) (d := some 72) (l' := #[true, true, true, true, true, true, true, true, true, true, true, true, true, true, true, true, true, true, true, true, true, true, true, true, false, false, false, false, false, false, false, false, false, false, false, false, false, false, false, false, false, false, false, false, false, false, false]) (v := .agg (callCells (cleanF (allK k)))) rfl rfl rfl (by kernel_rfl) (by kernel_rfl) (by kernel_rfl) (Or.inl ⟨by rfl, ?_⟩) ?_
        · intro w9 hS
          have l0 := hS.by_.cell 0
          have l1 := hS.by_.cell 1
          have l2 := hS.by_.cell 2
          have l3 := hS.by_.cell 3
          have l4 := hS.by_.cell 4
          have l5 := hS.by_.cell 5
          have l6 := hS.by_.cell 6
          simp only [callCells, List.getElem?_toArray, List.getElem?_cons_zero, List.getElem?_cons_succ] at l0 l1 l2 l3 l4 l5 l6
          go_simp
          exact ⟨rfl, hS⟩
        simp only [Act.put, List.setIfInBounds_toArray, List.set_cons_zero, List.set_cons_succ]
        refine det_take (i := 24) (d := some 73) (l' := #[true, true, true, true, true, true, true, true, true, true, true, true, true, true, true, true, true, true, true, true, true, true, true, true, true, false, false, false, false, false, false, false, false, false, false, false, false, false, false, false, false, false, false, false, false, false, false]) (v := .agg (callCells (allK k))) rfl rfl rfl (by kernel_rfl) (by kernel_rfl) (by kernel_rfl) (Or.inl ⟨by rfl, ?_⟩) ?_
        · intro w9 hS
          have l0 := hS.ba.cell 0
          have l1 := hS.ba.cell 1
          have l2 := hS.ba.cell 2
          have l3 := hS.ba.cell 3
          have l4 := hS.ba.cell 4
          have l5 := hS.ba.cell 5
          have l6 := hS.ba.cell 6
          simp only [callCells, List.getElem?_toArray, List.getElem?_cons_zero, List.getElem?_cons_succ] at l0 l1 l2 l3 l4 l5 l6
          go_simp
          exact ⟨rfl, hS⟩
        simp only [Act.put, List.setIfInBounds_toArray, List.set_cons_zero, List.set_cons_succ]
        refine det_take (i := 25) (d := some 74) (l' := #[true, true, true, true, true, true, true, true, true, true, true, true, true, true, true, true, true, true, true, true, true, true, true, true, true, true, false, false, false, false, false, false, false, false, false, false, false, false, false, false, false, false, false, false, false, false, false]) (v := .agg (callCells (cleanF (allK k)))) rfl rfl rfl (by kernel_rfl) (by kernel_rfl) (by kernel_rfl) (Or.inl ⟨by rfl, ?_⟩) ?_
        · intro w9 hS
          go_simp
          refine Calls.mono (clean_val (allK k) _) ?_
          rintro e w8 ⟨rfl, hb⟩
          exact ⟨rfl, hS.step hb⟩
        simp only [Act.put, List.setIfInBounds_toArray, List.set_cons_zero, List.set_cons_succ]
        refine det_take (i := 26) (d := some 75) (l' := #[true, true, true, true, true, true, true, true, true, true, true, true, true, true, true, true, true, true, true, true, true, true, true, true, true, true, true, false, false, false, false, false, false, false, false, false, false, false, false, false, false, false, false, false, false, false, false]) (v := .bool false) rfl rfl rfl (by kernel_rfl) (by kernel_rfl) (by kernel_rfl) (Or.inl ⟨by rfl, ?_⟩) ?_
        · intro w9 hS
          simp only [callCells]
          go_simp
          first | exact ⟨rfl, hS⟩ | exact ⟨by simp, hS⟩
        simp only [Act.put, List.setIfInBounds_toArray, List.set_cons_zero, List.set_cons_succ]
        refine det_take (i := 27) (d := some 76) (l' := #[true, true, true, true, true, true, true, true, true, true, true, true, true, true, true, true, true, true, true, true, true, true, true, true, true, true, true, true, false, false, false, false, false, false, false, false, false, false, false, false, false, false, false, false, false, false, false]) (v := .bool false) rfl rfl rfl (by kernel_rfl) (by kernel_rfl) (by kernel_rfl) (Or.inl ⟨by rfl, ?_⟩) ?_
        · intro w9 hS
          go_simp
          exact ⟨rfl, hS⟩
        simp only [Act.put, List.setIfInBounds_toArray, List.set_cons_zero, List.set_cons_succ]
        refine det_take (i := 28) (d := some 77) (l' := #[true, true, true, true, true, true, true, true, true, true, true, true, true, true, true, true, true, true, true, true, true, true, true, true, true, true, true, true, true, false, false, false, false, false, false, false, false, false, false, false, false, false, false, false, false, false, false]) (v := .bool false) rfl rfl rfl (by kernel_rfl) (by kernel_rfl) (by kernel_rfl) (Or.inl ⟨by rfl, ?_⟩) ?_
        · intro w9 hS
          go_simp
          exact ⟨rfl, hS⟩
        simp only [Act.put, List.setIfInBounds_toArray, List.set_cons_zero, List.set_cons_succ]
        refine det_take (i := 29) (d := some 78) (l' := #[true, true, true, true, true, true, true, true, true, true, true, true, true, true, true, true, true, true, true, true, true, true, true, true, true, true, true, true, true, true, false, false, false, false, false, false, false, false, false, false, false, false, false, false, false, false, false]) (v := .bool false) rfl rfl rfl (by kernel_rfl) (by kernel_rfl) (by kernel_rfl) (Or.inl ⟨by rfl, ?_⟩) ?_
        · intro w9 hS
          go_simp
          exact ⟨rfl, hS⟩
        simp only [Act.put, List.setIfInBounds_toArray, List.set_cons_zero, List.set_cons_succ]
        refine det_take (i := 30) (d := some 79) (l' := #[true, true, true, true, true, true, true, true, true, true, true, true, true, true, true, true, true, true, true, true, true, true, true, true, true, true, true, true, true, true, true, false, false, false, false, false, false, false, false, false, false, false, false, false, false, false, false]) (v := .int .u8 k) rfl rfl rfl (by kernel_rfl) (by kernel_rfl) (by kernel_rfl) (Or.inl ⟨by rfl, ?_⟩) ?_
        · intro w9 hS
          go_simp
          exact ⟨rfl, hS⟩
        simp only [Act.put, List.setIfInBounds_toArray, List.set_cons_zero, List.set_cons_succ]
        refine det_take (i := 31) (d := some 80) (l' := #[true, true, true, true, true, true, true, true, true, true, true, true, true, true, true, true, true, true, true, true, true, true, true, true, true, true, true, true, true, true, true, true, false, false, false, false, false, false, false, false, false, false, false, false, false, false, false]) (v := .bool false) rfl rfl rfl (by kernel_rfl) (by kernel_rfl) (by kernel_rfl) (Or.inl ⟨by rfl, ?_⟩) ?_
        · intro w9 hS
          go_simp
          refine Calls.mono (needs_is k false _ HNd.out) ?_
          rintro e w8 ⟨rfl, hb⟩
          exact ⟨rfl, hS.step hb⟩
        simp only [Act.put, List.setIfInBounds_toArray, List.set_cons_zero, List.set_cons_succ]
        refine det_take (i := 32) (d := some 81) (l' := #[true, true, true, true, true, true, true, true, true, true, true, true, true, true, true, true, true, true, true, true, true, true, true, true, true, true, true, true, true, true, true, true, true, false, false, false, false, false, false, false, false, false, false, false, false, false, false]) (v := .int .u8 k) rfl rfl rfl (by kernel_rfl) (by kernel_rfl) (by kernel_rfl) (Or.inl ⟨by rfl, ?_⟩) ?_
        · intro w9 hS
          go_simp
          exact ⟨rfl, hS⟩
        simp only [Act.put, List.setIfInBounds_toArray, List.set_cons_zero, List.set_cons_succ]
        refine det_take (i := 33) (d := some 82) (l' := #[true, true, true, true, true, true, true, true, true, true, true, true, true, true, true, true, true, true, true, true, true, true, true, true, true, true, true, true, true, true, true, true, true, true, false, false, false, false, false, false, false, false, false, false, false, false, false]) (v := .bool false) rfl rfl rfl (by kernel_rfl) (by kernel_rfl) (by kernel_rfl) (Or.inl ⟨by rfl, ?_⟩) ?_
        · intro w9 hS
          go_simp
          first | exact ⟨rfl, hS⟩ | exact ⟨by simp; omega, hS⟩ | exact ⟨by simp [*], hS⟩
        simp only [Act.put, List.setIfInBounds_toArray, List.set_cons_zero, List.set_cons_succ]
        refine det_take (i := 34) (d := some 83) (l' := #[true, true, true, true, true, true, true, true, true, true, true, true, true, true, true, true, true, true, true, true, true, true, true, true, true, true, true, true, true, true, true, true, true, true, true, false, false, false, false, false, false, false, false, false, false, false, false]) (v := .bool false) rfl rfl rfl (by kernel_rfl) (by kernel_rfl) (by kernel_rfl) (Or.inl ⟨by rfl, ?_⟩) ?_
        · intro w9 hS
          go_simp
          exact ⟨rfl, hS⟩
        simp only [Act.put, List.setIfInBounds_toArray, List.set_cons_zero, List.set_cons_succ]
        refine det_take (i := 35) (d := some 84) (l' := #[true, true, true, true, true, true, true, true, true, true, true, true, true, true, true, true, true, true, true, true, true, true, true, true, true, true, true, true, true, true, true, true, true, true, true, true, false, false, false, false, false, false, false, false, false, false, false]) (v := undef) rfl rfl rfl (by kernel_rfl) (by kernel_rfl) (by kernel_rfl) (Or.inr ⟨by rfl, rfl⟩) ?_
        simp only [Act.put, List.setIfInBounds_toArray, List.set_cons_zero, List.set_cons_succ]
        refine det_take (i := 36) (d := some 85) (l' := #[true, true, true, true, true, true, true, true, true, true, true, true, true, true, true, true, true, true, true, true, true, true, true, true, true, true, true, true, true, true, true, true, true, true, true, true, true, false, false, false, false, false, false, false, false, false, false]) (v := undef) rfl rfl rfl (by kernel_rfl) (by kernel_rfl) (by kernel_rfl) (Or.inr ⟨by rfl, rfl⟩) ?_
        simp only [Act.put, List.setIfInBounds_toArray, List.set_cons_zero, List.set_cons_succ]
        refine det_take (i := 37) (d := some 86) (l' := #[true, true, true, true, true, true, true, true, true, true, true, true, true, true, true, true, true, true, true, true, true, true, true, true, true, true, true, true, true, true, true, true, true, true, true, true, true, true, false, false, false, false, false, false, false, false, false]) (v := .bool false) rfl rfl rfl (by kernel_rfl) (by kernel_rfl) (by kernel_rfl) (Or.inl ⟨by rfl, ?_⟩) ?_
        · intro w9 hS
          go_simp
          exact ⟨rfl, hS⟩
        simp only [Act.put, List.setIfInBounds_toArray, List.set_cons_zero, List.set_cons_succ]
        refine det_take (i := 38) (d := some 87) (l' := #[true, true, true, true, true, true, true, true, true, true, true, true, true, true, true, true, true, true, true, true, true, true, true, true, true, true, true, true, true, true, true, true, true, true, true, true, true, true, true, false, false, false, false, false, false, false, false]) (v := .bool false) rfl rfl rfl (by kernel_rfl) (by kernel_rfl) (by kernel_rfl) (Or.inl ⟨by rfl, ?_⟩) ?_
        · intro w9 hS
          go_simp
          first | exact ⟨rfl, hS⟩ | exact ⟨by simp, hS⟩
        simp only [Act.put, List.setIfInBounds_toArray, List.set_cons_zero, List.set_cons_succ]
        refine det_take (i := 39) (d := some 88) (l' := #[true, true, true, true, true, true, true, true, true, true, true, true, true, true, true, true, true, true, true, true, true, true, true, true, true, true, true, true, true, true, true, true, true, true, true, true, true, true, true, true, false, false, false, false, false, false, false]) (v := .bool false) rfl rfl rfl (by kernel_rfl) (by kernel_rfl) (by kernel_rfl) (Or.inl ⟨by rfl, ?_⟩) ?_
        · intro w9 hS
          go_simp
          exact ⟨rfl, hS⟩
        simp only [Act.put, List.setIfInBounds_toArray, List.set_cons_zero, List.set_cons_succ]
        refine det_take (i := 40) (d := some 89) (l' := #[true, true, true, true, true, true, true, true, true, true, true, true, true, true, true, true, true, true, true, true, true, true, true, true, true, true, true, true, true, true, true, true, true, true, true, true, true, true, true, true, true, false, false, false, false, false, false]) (v := .bool false) rfl rfl rfl (by kernel_rfl) (by kernel_rfl) (by kernel_rfl) (Or.inl ⟨by rfl, ?_⟩) ?_
        · intro w9 hS
          go_simp
          exact ⟨rfl, hS⟩
        simp only [Act.put, List.setIfInBounds_toArray, List.set_cons_zero, List.set_cons_succ]
        refine det_take (i := 41) (d := some 90) (l' := #[true, true, true, true, true, true, true, true, true, true, true, true, true, true, true, true, true, true, true, true, true, true, true, true, true, true, true, true, true, true, true, true, true, true, true, true, true, true, true, true, true, true, false, false, false, false, false]) (v := .agg (callCells (allK k))) rfl rfl rfl (by kernel_rfl) (by kernel_rfl) (by kernel_rfl) (Or.inl ⟨by rfl, ?_⟩) ?_
        · intro w9 hS
          have l0 := hS.ba.cell 0
          have l1 := hS.ba.cell 1
          have l2 := hS.ba.cell 2
          have l3 := hS.ba.cell 3
          have l4 := hS.ba.cell 4
          have l5 := hS.ba.cell 5
          have l6 := hS.ba.cell 6
          simp only [callCells, List.getElem?_toArray, List.getElem?_cons_zero, List.getElem?_cons_succ] at l0 l1 l2 l3 l4 l5 l6
          go_simp
          exact ⟨rfl, hS⟩
        simp only [Act.put, List.setIfInBounds_toArray, List.set_cons_zero, List.set_cons_succ]
        refine det_take (i := 42) (d := some 91) (l' := #[true, true, true, true, true, true, true, true, true, true, true, true, true, true, true, true, true, true, true, true, true, true, true, true, true, true, true, true, true, true, true, true, true, true, true, true, true, true, true, true, true, true, true, false, false, false, false]) (v := .agg (callCells (allK k))) rfl rfl rfl (by kernel_rfl) (by kernel_rfl) (by kernel_rfl) (Or.inl ⟨by rfl, ?_⟩) ?_
        · intro w9 hS
          have l0 := hS.ba.cell 0
          have l1 := hS.ba.cell 1
          have l2 := hS.ba.cell 2
          have l3 := hS.ba.cell 3
          have l4 := hS.ba.cell 4
          have l5 := hS.ba.cell 5
          have l6 := hS.ba.cell 6
          simp only [callCells, List.getElem?_toArray, List.getElem?_cons_zero, List.getElem?_cons_succ] at l0 l1 l2 l3 l4 l5 l6
          go_simp
          exact ⟨rfl, hS⟩
        simp only [Act.put, List.setIfInBounds_toArray, List.set_cons_zero, List.set_cons_succ]
        refine det_take (i := 43) (d := some 92) (l' := #[true, true, true, true, true, true, true, true, true, true, true, true, true, true, true, true, true, true, true, true, true, true, true, true, true, true, true, true, true, true, true, true, true, true, true, true, true, true, true, true, true, true, true, true, false, false, false]) (v := .agg (callCells (cleanF (allK k)))) rfl rfl rfl (by kernel_rfl) (by kernel_rfl) (by kernel_rfl) (Or.inl ⟨by rfl, ?_⟩) ?_
        · intro w9 hS
          go_simp
          refine Calls.mono (clean_val (allK k) _) ?_
          rintro e w8 ⟨rfl, hb⟩
          exact ⟨rfl, hS.step hb⟩
        simp only [Act.put, List.setIfInBounds_toArray, List.set_cons_zero, List.set_cons_succ]
        refine det_take (i := 44) (d := some 93) (l' := #[true, true, true, true, true, true, true, true, true, true, true, true, true, true, true, true, true, true, true, true, true, true, true, true, true, true, true, true, true, true, true, true, true, true, true, true, true, true, true, true, true, true, true, true, true, false, false]) (v := .bool true) rfl rfl rfl (by kernel_rfl) (by kernel_rfl) (by kernel_rfl) (Or.inl ⟨by rfl, ?_⟩) ?_
        · intro w9 hS
          go_simp
          refine Calls.mono (same_is (allK k) (cleanF (allK k)) true _ HSm.out) ?_
          rintro e w8 ⟨rfl, hb⟩
          exact ⟨rfl, hS.step hb⟩
        simp only [Act.put, List.setIfInBounds_toArray, List.set_cons_zero, List.set_cons_succ]
        refine det_take (i := 45) (d := some 94) (l' := #[true, true, true, true, true, true, true, true, true, true, true, true, true, true, true, true, true, true, true, true, true, true, true, true, true, true, true, true, true, true, true, true, true, true, true, true, true, true, true, true, true, true, true, true, true, true, false]) (v := .bool false) rfl rfl rfl (by kernel_rfl) (by kernel_rfl) (by kernel_rfl) (Or.inl ⟨by rfl, ?_⟩) ?_
        · intro w9 hS
          go_simp
          first | exact ⟨rfl, hS⟩ | exact ⟨by simp, hS⟩
        simp only [Act.put, List.setIfInBounds_toArray, List.set_cons_zero, List.set_cons_succ]
        refine det_take (i := 46) (d := some 95) (l' := #[true, true, true, true, true, true, true, true, true, true, true, true, true, true, true, true, true, true, true, true, true, true, true, true, true, true, true, true, true, true, true, true, true, true, true, true, true, true, true, true, true, true, true, true, true, true, true]) (v := .bool false) rfl rfl rfl (by kernel_rfl) (by kernel_rfl) (by kernel_rfl) (Or.inl ⟨by rfl, ?_⟩) ?_
        · intro w9 hS
          go_simp
          exact ⟨rfl, hS⟩
        simp only [Act.put, List.setIfInBounds_toArray, List.set_cons_zero, List.set_cons_succ]
        refine det_done (by kernel_rfl) ?_ _
        intro w5 hS
        have HS5 := Lib.hid hS.nm
        clear hS HB
        go_wp2
        go_roundw
        case rel => exact ⟨k + 1, k, by omega, by go_num, HS5⟩
        case measure => simp [intOf]; omega
      · have hmk : mayK k = true := by simp [mayK]; omega
        have hn7 : (decide (2 ≤ k) && decide (k ≤ 7)) = true := by simp; omega
        simp only [hmk, hn7, if_true, Bool.false_eq_true, if_false] at hpz hpe hmy hnd
        have HPz := Lib.hid hpz
        have HPe := Lib.hid hpe
        have HMy := Lib.hid hmy
        have HNd := Lib.hid hnd
        have t0 : decide ((0 : Int) < (k : Int)) = true := by simp; omega
        have t0' : decide (0 < k) = true := by simp; omega
        have t10 : decide ((k : Int) < 10) = true := by simp; omega
        clear hpz hpe hmy hnd hmk hn7
        go_wp2_with fail
        refine (parse_at T (cleanF (allK k)) 0 _ HS.out.env (by omega) HPz.out HPe.out).mono ?_
        rintro e w4 ⟨rfl, hb4⟩
        have HB : Hid (NmB w w1.heap.size (w1.heap.size + 1) (allK k) k T w4.heap.size (cleanF (allK k)) (w4.alloc (.cells (callCells (cleanF (allK k))) 38))) := Lib.hid ⟨(HS.out.step hb4).step (below_new _ _), Blk.new _ _ _, HRow.out⟩
        clear hb4 HS a0 f0 kT
        unfold callV callCells
        go_wp2_with fail
        refine det_start (n := 47) (l := #[false, false, false, false, false, false, false, false, false, false, false, false, false, false, false, false, false, false, false, false, false, false, false, false, false, false, false, false, false, false, false, false, false, false, false, false, false, false, false, false, false, false, false, false, false, false, false]) (S := NmB w w1.heap.size (w1.heap.size + 1) (allK k) k T w4.heap.size (cleanF (allK k))) (by kernel_rfl) (by rfl) (by rfl) HB.out.drew ?_
        refine det_take (i := 0) (d := some 49) (l' := #[true, false, false, false, false, false, false, false, false, false, false, false, false, false, false, false, false, false, false, false, false, false, false, false, false, false, false, false, false, false, false, false, false, false, false, false, false, false, false, false, false, false, false, false, false, false, false]) (v := .agg (callCells (allK k))) rfl rfl rfl (by kernel_rfl) (by kernel_rfl) (by kernel_rfl) (Or.inl ⟨by rfl, ?_⟩) ?_
        · intro w9 hS
          have l0 := hS.ba.cell 0
          have l1 := hS.ba.cell 1
          have l2 := hS.ba.cell 2
          have l3 := hS.ba.cell 3
          have l4 := hS.ba.cell 4
          have l5 := hS.ba.cell 5
          have l6 := hS.ba.cell 6
          simp only [callCells, List.getElem?_toArray, List.getElem?_cons_zero, List.getElem?_cons_succ] at l0 l1 l2 l3 l4 l5 l6
          go_simp
          exact ⟨rfl, hS⟩
        simp only [Act.put, List.setIfInBounds_toArray, List.set_cons_zero, List.set_cons_succ]
        refine det_take (i := 1) (d := some 50) (l' := #[true, true, false, false, false, false, false, false, false, false, false, false, false, false, false, false, false, false, false, false, false, false, false, false, false, false, false, false, false, false, false, false, false, false, false, false, false, false, false, false, false, false, false, false, false, false, false]) (v := .string (bs T)) rfl rfl rfl (by kernel_rfl) (by kernel_rfl) (by kernel_rfl) (Or.inl ⟨by rfl, ?_⟩) ?_
        · intro w9 hS
          go_simp
          refine Calls.mono (show_is (allK k) T _ hS.env HCk.out HSh.out) ?_
          rintro e w8 ⟨rfl, hb⟩
          exact ⟨rfl, hS.step hb⟩
        simp only [Act.put, List.setIfInBounds_toArray, List.set_cons_zero, List.set_cons_succ]
        refine det_take (i := 2) (d := some 51) (l' := #[true, true, true, false, false, false, false, false, false, false, false, false, false, false, false, false, false, false, false, false, false, false, false, false, false, false, false, false, false, false, false, false, false, false, false, false, false, false, false, false, false, false, false, false, false, false, false]) (v := .slice (some ⟨w1.heap.size + 1, 0, none⟩) 11 11) rfl rfl rfl (by kernel_rfl) (by kernel_rfl) (by kernel_rfl) (Or.inl ⟨by rfl, ?_⟩) ?_
        · intro w9 hS
          go_simp
          exact ⟨rfl, hS⟩
        simp only [Act.put, List.setIfInBounds_toArray, List.set_cons_zero, List.set_cons_succ]
        refine det_take (i := 3) (d := some 52) (l' := #[true, true, true, true, false, false, false, false, false, false, false, false, false, false, false, false, false, false, false, false, false, false, false, false, false, false, false, false, false, false, false, false, false, false, false, false, false, false, false, false, false, false, false, false, false, false, false]) (v := .int .u8 k) rfl rfl rfl (by kernel_rfl) (by kernel_rfl) (by kernel_rfl) (Or.inl ⟨by rfl, ?_⟩) ?_
        · intro w9 hS
          go_simp
          exact ⟨rfl, hS⟩
        simp only [Act.put, List.setIfInBounds_toArray, List.set_cons_zero, List.set_cons_succ]
        refine det_take (i := 4) (d := some 53) (l' := #[true, true, true, true, true, false, false, false, false, false, false, false, false, false, false, false, false, false, false, false, false, false, false, false, false, false, false, false, false, false, false, false, false, false, false, false, false, false, false, false, false, false, false, false, false, false, false]) (v := .pointer (some ⟨w1.heap.size + 1, k, none⟩)) rfl rfl rfl (by kernel_rfl) (by kernel_rfl) (by kernel_rfl) (Or.inl ⟨by rfl, ?_⟩) ?_
        · intro w9 hS
          have hk11 : (k : Int) < 11 := by omega
          go_simp
          first | exact ⟨rfl, hS⟩ | exact ⟨by simp; omega, hS⟩ | exact ⟨by simp [*], hS⟩
        simp only [Act.put, List.setIfInBounds_toArray, List.set_cons_zero, List.set_cons_succ]
        refine det_take (i := 5) (d := some 54) (l' := #[true, true, true, true, true, true, false, false, false, false, false, false, false, false, false, false, false, false, false, false, false, false, false, false, false, false, false, false, false, false, false, false, false, false, false, false, false, false, false, false, false, false, false, false, false, false, false]) (v := .string (bs T)) rfl rfl rfl (by kernel_rfl) (by kernel_rfl) (by kernel_rfl) (Or.inl ⟨by rfl, ?_⟩) ?_
        · intro w9 hS
          have l0 := hS.bt
          go_simp
          exact ⟨rfl, hS⟩
        simp only [Act.put, List.setIfInBounds_toArray, List.set_cons_zero, List.set_cons_succ]
        refine det_take (i := 6) (d := some 55) (l' := #[true, true, true, true, true, true, true, false, false, false, false, false, false, false, false, false, false, false, false, false, false, false, false, false, false, false, false, false, false, false, false, false, false, false, false, false, false, false, false, false, false, false, false, false, false, false, false]) (v := .bool false) rfl rfl rfl (by kernel_rfl) (by kernel_rfl) (by kernel_rfl) (Or.inl ⟨by rfl, ?_⟩) ?_
        · intro w9 hS
          go_simp
          first | exact ⟨rfl, hS⟩ | exact ⟨by simp, hS⟩
        simp only [Act.put, List.setIfInBounds_toArray, List.set_cons_zero, List.set_cons_succ]
        refine det_take (i := 7) (d := some 56) (l' := #[true, true, true, true, true, true, true, true, false, false, false, false, false, false, false, false, false, false, false, false, false, false, false, false, false, false, false, false, false, false, false, false, false, false, false, false, false, false, false, false, false, false, false, false, false, false, false]) (v := .bool false) rfl rfl rfl (by kernel_rfl) (by kernel_rfl) (by kernel_rfl) (Or.inl ⟨by rfl, ?_⟩) ?_
        · intro w9 hS
          go_simp
          exact ⟨rfl, hS⟩
        simp only [Act.put, List.setIfInBounds_toArray, List.set_cons_zero, List.set_cons_succ]
        refine det_take (i := 8) (d := some 57) (l' := #[true, true, true, true, true, true, true, true, true, false, false, false, false, false, false, false, false, false, false, false, false, false, false, false, false, false, false, false, false, false, false, false, false, false, false, false, false, false, false, false, false, false, false, false, false, false, false]) (v := .agg (callCells (allK k))) rfl rfl rfl (by kernel_rfl) (by kernel_rfl) (by kernel_rfl) (Or.inl ⟨by rfl, ?_⟩) ?_
        · intro w9 hS
          have l0 := hS.ba.cell 0
          have l1 := hS.ba.cell 1
          have l2 := hS.ba.cell 2
          have l3 := hS.ba.cell 3
          have l4 := hS.ba.cell 4
          have l5 := hS.ba.cell 5
          have l6 := hS.ba.cell 6
          simp only [callCells, List.getElem?_toArray, List.getElem?_cons_zero, List.getElem?_cons_succ] at l0 l1 l2 l3 l4 l5 l6
          go_simp
          exact ⟨rfl, hS⟩
        simp only [Act.put, List.setIfInBounds_toArray, List.set_cons_zero, List.set_cons_succ]
        refine det_take (i := 9) (d := some 58) (l' := #[true, true, true, true, true, true, true, true, true, true, false, false, false, false, false, false, false, false, false, false, false, false, false, false, false, false, false, false, false, false, false, false, false, false, false, false, false, false, false, false, false, false, false, false, false, false, false]) (v := .int .i64 0) rfl rfl rfl (by kernel_rfl) (by kernel_rfl) (by kernel_rfl) (Or.inl ⟨by rfl, ?_⟩) ?_
        · intro w9 hS
          go_simp
          refine Calls.mono (may_is (allK k) 0 _ HMy.out) ?_
          rintro e w8 ⟨rfl, hb⟩
          exact ⟨rfl, hS.step hb⟩
        simp only [Act.put, List.setIfInBounds_toArray, List.set_cons_zero, List.set_cons_succ]
        refine det_take (i := 10) (d := some 59) (l' := #[true, true, true, true, true, true, true, true, true, true, true, false, false, false, false, false, false, false, false, false, false, false, false, false, false, false, false, false, false, false, false, false, false, false, false, false, false, false, false, false, false, false, false, false, false, false, false]) (v := .bool true) rfl rfl rfl (by kernel_rfl) (by kernel_rfl) (by kernel_rfl) (Or.inl ⟨by rfl, ?_⟩) ?_
        · intro w9 hS
          go_simp
          first | exact ⟨rfl, hS⟩ | exact ⟨by simp, hS⟩
        simp only [Act.put, List.setIfInBounds_toArray, List.set_cons_zero, List.set_cons_succ]
        refine det_take (i := 11) (d := some 60) (l' := #[true, true, true, true, true, true, true, true, true, true, true, true, false, false, false, false, false, false, false, false, false, false, false, false, false, false, false, false, false, false, false, false, false, false, false, false, false, false, false, false, false, false, false, false, false, false, false]) (v := .bool true) rfl rfl rfl (by kernel_rfl) (by kernel_rfl) (by kernel_rfl) (Or.inl ⟨by rfl, ?_⟩) ?_
        · intro w9 hS
          go_simp
          exact ⟨rfl, hS⟩
        simp only [Act.put, List.setIfInBounds_toArray, List.set_cons_zero, List.set_cons_succ]
        refine det_take (i := 12) (d := some 61) (l' := #[true, true, true, true, true, true, true, true, true, true, true, true, true, false, false, false, false, false, false, false, false, false, false, false, false, false, false, false, false, false, false, false, false, false, false, false, false, false, false, false, false, false, false, false, false, false, false]) (v := .bool false) rfl rfl rfl (by kernel_rfl) (by kernel_rfl) (by kernel_rfl) (Or.inl ⟨by rfl, ?_⟩) ?_
        · intro w9 hS
          go_simp
          first | exact ⟨rfl, hS⟩ | exact ⟨by simp, hS⟩
        simp only [Act.put, List.setIfInBounds_toArray, List.set_cons_zero, List.set_cons_succ]
        refine det_take (i := 13) (d := some 62) (l' := #[true, true, true, true, true, true, true, true, true, true, true, true, true, true, false, false, false, false, false, false, false, false, false, false, false, false, false, false, false, false, false, false, false, false, false, false, false, false, false, false, false, false, false, false, false, false, false]) (v := .bool false) rfl rfl rfl (by kernel_rfl) (by kernel_rfl) (by kernel_rfl) (Or.inl ⟨by rfl, ?_⟩) ?_
        · intro w9 hS
          go_simp
          exact ⟨rfl, hS⟩
        simp only [Act.put, List.setIfInBounds_toArray, List.set_cons_zero, List.set_cons_succ]
        refine det_take (i := 14) (d := some 63) (l' := #[true, true, true, true, true, true, true, true, true, true, true, true, true, true, true, false, false, false, false, false, false, false, false, false, false, false, false, false, false, false, false, false, false, false, false, false, false, false, false, false, false, false, false, false, false, false, false]) (v := .bool false) rfl rfl rfl (by kernel_rfl) (by kernel_rfl) (by kernel_rfl) (Or.inl ⟨by rfl, ?_⟩) ?_
        · intro w9 hS
          go_simp
          exact ⟨rfl, hS⟩
        simp only [Act.put, List.setIfInBounds_toArray, List.set_cons_zero, List.set_cons_succ]
        refine det_take (i := 15) (d := some 64) (l' := #[true, true, true, true, true, true, true, true, true, true, true, true, true, true, true, true, false, false, false, false, false, false, false, false, false, false, false, false, false, false, false, false, false, false, false, false, false, false, false, false, false, false, false, false, false, false, false]) (v := .int .i64 0) rfl rfl rfl (by kernel_rfl) (by kernel_rfl) (by kernel_rfl) (Or.inl ⟨by rfl, ?_⟩) ?_
        · intro w9 hS
          go_simp
          exact ⟨rfl, hS⟩
        simp only [Act.put, List.setIfInBounds_toArray, List.set_cons_zero, List.set_cons_succ]
        refine det_take (i := 16) (d := some 65) (l' := #[true, true, true, true, true, true, true, true, true, true, true, true, true, true, true, true, true, false, false, false, false, false, false, false, false, false, false, false, false, false, false, false, false, false, false, false, false, false, false, false, false, false, false, false, false, false, false]) (v := .bool true) rfl rfl rfl (by kernel_rfl) (by kernel_rfl) (by kernel_rfl) (Or.inl ⟨by rfl, ?_⟩) ?_
        · intro w9 hS
          go_simp
          first | exact ⟨rfl, hS⟩ | exact ⟨by simp, hS⟩
        simp only [Act.put, List.setIfInBounds_toArray, List.set_cons_zero, List.set_cons_succ]
        refine det_take (i := 17) (d := some 66) (l' := #[true, true, true, true, true, true, true, true, true, true, true, true, true, true, true, true, true, true, false, false, false, false, false, false, false, false, false, false, false, false, false, false, false, false, false, false, false, false, false, false, false, false, false, false, false, false, false]) (v := .bool true) rfl rfl rfl (by kernel_rfl) (by kernel_rfl) (by kernel_rfl) (Or.inl ⟨by rfl, ?_⟩) ?_
        · intro w9 hS
          go_simp
          exact ⟨rfl, hS⟩
        simp only [Act.put, List.setIfInBounds_toArray, List.set_cons_zero, List.set_cons_succ]
        refine det_take (i := 18) (d := some 67) (l' := #[true, true, true, true, true, true, true, true, true, true, true, true, true, true, true, true, true, true, true, false, false, false, false, false, false, false, false, false, false, false, false, false, false, false, false, false, false, false, false, false, false, false, false, false, false, false, false]) (v := .bool false) rfl rfl rfl (by kernel_rfl) (by kernel_rfl) (by kernel_rfl) (Or.inl ⟨by rfl, ?_⟩) ?_
        · intro w9 hS
          go_simp
          first | exact ⟨rfl, hS⟩ | exact ⟨by simp, hS⟩
        simp only [Act.put, List.setIfInBounds_toArray, List.set_cons_zero, List.set_cons_succ]
        refine det_take (i := 19) (d := some 68) (l' := #[true, true, true, true, true, true, true, true, true, true, true, true, true, true, true, true, true, true, true, true, false, false, false, false, false, false, false, false, false, false, false, false, false, false, false, false, false, false, false, false, false, false, false, false, false, false, false]) (v := .bool false) rfl rfl rfl (by kernel_rfl) (by kernel_rfl) (by kernel_rfl) (Or.inl ⟨by rfl, ?_⟩) ?_
        · intro w9 hS
          go_simp
          exact ⟨rfl, hS⟩
        simp only [Act.put, List.setIfInBounds_toArray, List.set_cons_zero, List.set_cons_succ]
        refine det_take (i := 20) (d := some 69) (l' := #[true, true, true, true, true, true, true, true, true, true, true, true, true, true, true, true, true, true, true, true, true, false, false, false, false, false, false, false, false, false, false, false, false, false, false, false, false, false, false, false, false, false, false, false, false, false, false]) (v := .bool false) rfl rfl rfl (by kernel_rfl) (by kernel_rfl) (by kernel_rfl) (Or.inl ⟨by rfl, ?_⟩) ?_
        · intro w9 hS
          go_simp
          exact ⟨rfl, hS⟩
        simp only [Act.put, List.setIfInBounds_toArray, List.set_cons_zero, List.set_cons_succ]
        refine det_take (i := 21) (d := some 70) (l' := #[true, true, true, true, true, true, true, true, true, true, true, true, true, true, true, true, true, true, true, true, true, true, false, false, false, false, false, false, false, false, false, false, false, false, false, false, false, false, false, false, false, false, false, false, false, false, false]) (v := .bool true) rfl rfl rfl (by kernel_rfl) (by kernel_rfl) (by kernel_rfl) (Or.inl ⟨by rfl, ?_⟩) ?_
        · intro w9 hS
          go_simp
          exact ⟨rfl, hS⟩
        simp only [Act.put, List.setIfInBounds_toArray, List.set_cons_zero, List.set_cons_succ]
        refine det_take (i := 22) (d := some 71) (l' := #[true, true, true, true, true, true, true, true, true, true, true, true, true, true, true, true, true, true, true, true, true, true, true, false, false, false, false, false, false, false, false, false, false, false, false, false, false, false, false, false, false, false, false, false, false, false, false]) (v := .bool true) rfl rfl rfl (by kernel_rfl) (by kernel_rfl) (by kernel_rfl) (Or.inl ⟨by rfl, ?_⟩) ?_
        · intro w9 hS
          go_simp
          exact ⟨rfl, hS⟩
        simp only [Act.put, List.setIfInBounds_toArray, List.set_cons_zero, List.set_cons_succ]
        refine det_take (i := 23) (d := some 72) (l' := #[true, true, true, true, true, true, true, true, true, true, true, true, true, true, true, true, true, true, true, true, true, true, true, true, false, false, false, false, false, false, false, false, false, false, false, false, false, false, false, false, false, false, false, false, false, false, false]) (v := .agg (callCells (cleanF (allK k)))) rfl rfl rfl (by kernel_rfl) (by kernel_rfl) (by kernel_rfl) (Or.inl ⟨by rfl, ?_⟩) ?_
        · intro w9 hS
          have l0 := hS.by_.cell 0
          have l1 := hS.by_.cell 1
          have l2 := hS.by_.cell 2
          have l3 := hS.by_.cell 3
          have l4 := hS.by_.cell 4
          have l5 := hS.by_.cell 5
          have l6 := hS.by_.cell 6
          simp only [callCells, List.getElem?_toArray, List.getElem?_cons_zero, List.getElem?_cons_succ] at l0 l1 l2 l3 l4 l5 l6
          go_simp
          exact ⟨rfl, hS⟩
        simp only [Act.put, List.setIfInBounds_toArray, List.set_cons_zero, List.set_cons_succ]
        refine det_take (i := 24) (d := some 73) (l' := #[true, true, true, true, true, true, true, true, true, true, true, true, true, true, true, true, true, true, true, true, true, true, true, true, true, false, false, false, false, false, false, false, false, false, false, false, false, false, false, false, false, false, false, false, false, false, false]) (v := .agg (callCells (allK k))) rfl rfl rfl (by kernel_rfl) (by kernel_rfl) (by kernel_rfl) (Or.inl ⟨by rfl, ?_⟩) ?_
        · intro w9 hS
          have l0 := hS.ba.cell 0
          have l1 := hS.ba.cell 1
          have l2 := hS.ba.cell 2
          have l3 := hS.ba.cell 3
          have l4 := hS.ba.cell 4
          have l5 := hS.ba.cell 5
          have l6 := hS.ba.cell 6
          simp only [callCells, List.getElem?_toArray, List.getElem?_cons_zero, List.getElem?_cons_succ] at l0 l1 l2 l3 l4 l5 l6
          go_simp
          exact ⟨rfl, hS⟩
        simp only [Act.put, List.setIfInBounds_toArray, List.set_cons_zero, List.set_cons_succ]
        refine det_take (i := 25) (d := some 74) (l' := #[true, true, true, true, true, true, true, true, true, true, true, true, true, true, true, true, true, true, true, true, true, true, true, true, true, true, false, false, false, false, false, false, false, false, false, false, false, false, false, false, false, false, false, false, false, false, false]) (v := .agg (callCells (cleanF (allK k)))) rfl rfl rfl (by kernel_rfl) (by kernel_rfl) (by kernel_rfl) (Or.inl ⟨by rfl, ?_⟩) ?_
        · intro w9 hS
          go_simp
          refine Calls.mono (clean_val (allK k) _) ?_
          rintro e w8 ⟨rfl, hb⟩
          exact ⟨rfl, hS.step hb⟩
        simp only [Act.put, List.setIfInBounds_toArray, List.set_cons_zero, List.set_cons_succ]
        refine det_take (i := 26) (d := some 75) (l' := #[true, true, true, true, true, true, true, true, true, true, true, true, true, true, true, true, true, true, true, true, true, true, true, true, true, true, true, false, false, false, false, false, false, false, false, false, false, false, false, false, false, false, false, false, false, false, false]) (v := .bool false) rfl rfl rfl (by kernel_rfl) (by kernel_rfl) (by kernel_rfl) (Or.inl ⟨by rfl, ?_⟩) ?_
        · intro w9 hS
          simp only [callCells]
          go_simp
          first | exact ⟨rfl, hS⟩ | exact ⟨by simp, hS⟩
        simp only [Act.put, List.setIfInBounds_toArray, List.set_cons_zero, List.set_cons_succ]
        refine det_take (i := 27) (d := some 76) (l' := #[true, true, true, true, true, true, true, true, true, true, true, true, true, true, true, true, true, true, true, true, true, true, true, true, true, true, true, true, false, false, false, false, false, false, false, false, false, false, false, false, false, false, false, false, false, false, false]) (v := .bool false) rfl rfl rfl (by kernel_rfl) (by kernel_rfl) (by kernel_rfl) (Or.inl ⟨by rfl, ?_⟩) ?_
        · intro w9 hS
          go_simp
          exact ⟨rfl, hS⟩
        simp only [Act.put, List.setIfInBounds_toArray, List.set_cons_zero, List.set_cons_succ]
        refine det_take (i := 28) (d := some 77) (l' := #[true, true, true, true, true, true, true, true, true, true, true, true, true, true, true, true, true, true, true, true, true, true, true, true, true, true, true, true, true, false, false, false, false, false, false, false, false, false, false, false, false, false, false, false, false, false, false]) (v := .bool false) rfl rfl rfl (by kernel_rfl) (by kernel_rfl) (by kernel_rfl) (Or.inl ⟨by rfl, ?_⟩) ?_
        · intro w9 hS
          go_simp
          exact ⟨rfl, hS⟩
        simp only [Act.put, List.setIfInBounds_toArray, List.set_cons_zero, List.set_cons_succ]
        refine det_take (i := 29) (d := some 78) (l' := #[true, true, true, true, true, true, true, true, true, true, true, true, true, true, true, true, true, true, true, true, true, true, true, true, true, true, true, true, true, true, false, false, false, false, false, false, false, false, false, false, false, false, false, false, false, false, false]) (v := .bool false) rfl rfl rfl (by kernel_rfl) (by kernel_rfl) (by kernel_rfl) (Or.inl ⟨by rfl, ?_⟩) ?_
        · intro w9 hS
          go_simp
          exact ⟨rfl, hS⟩
        simp only [Act.put, List.setIfInBounds_toArray, List.set_cons_zero, List.set_cons_succ]
        refine det_take (i := 30) (d := some 79) (l' := #[true, true, true, true, true, true, true, true, true, true, true, true, true, true, true, true, true, true, true, true, true, true, true, true, true, true, true, true, true, true, true, false, false, false, false, false, false, false, false, false, false, false, false, false, false, false, false]) (v := .int .u8 k) rfl rfl rfl (by kernel_rfl) (by kernel_rfl) (by kernel_rfl) (Or.inl ⟨by rfl, ?_⟩) ?_
        · intro w9 hS
          go_simp
          exact ⟨rfl, hS⟩
        simp only [Act.put, List.setIfInBounds_toArray, List.set_cons_zero, List.set_cons_succ]
        refine det_take (i := 31) (d := some 80) (l' := #[true, true, true, true, true, true, true, true, true, true, true, true, true, true, true, true, true, true, true, true, true, true, true, true, true, true, true, true, true, true, true, true, false, false, false, false, false, false, false, false, false, false, false, false, false, false, false]) (v := .bool true) rfl rfl rfl (by kernel_rfl) (by kernel_rfl) (by kernel_rfl) (Or.inl ⟨by rfl, ?_⟩) ?_
        · intro w9 hS
          go_simp
          refine Calls.mono (needs_is k true _ HNd.out) ?_
          rintro e w8 ⟨rfl, hb⟩
          exact ⟨rfl, hS.step hb⟩
        simp only [Act.put, List.setIfInBounds_toArray, List.set_cons_zero, List.set_cons_succ]
        refine det_take (i := 32) (d := some 81) (l' := #[true, true, true, true, true, true, true, true, true, true, true, true, true, true, true, true, true, true, true, true, true, true, true, true, true, true, true, true, true, true, true, true, true, false, false, false, false, false, false, false, false, false, false, false, false, false, false]) (v := .int .u8 k) rfl rfl rfl (by kernel_rfl) (by kernel_rfl) (by kernel_rfl) (Or.inl ⟨by rfl, ?_⟩) ?_
        · intro w9 hS
          go_simp
          exact ⟨rfl, hS⟩
        simp only [Act.put, List.setIfInBounds_toArray, List.set_cons_zero, List.set_cons_succ]
        refine det_take (i := 33) (d := some 82) (l' := #[true, true, true, true, true, true, true, true, true, true, true, true, true, true, true, true, true, true, true, true, true, true, true, true, true, true, true, true, true, true, true, true, true, true, false, false, false, false, false, false, false, false, false, false, false, false, false]) (v := .bool true) rfl rfl rfl (by kernel_rfl) (by kernel_rfl) (by kernel_rfl) (Or.inl ⟨by rfl, ?_⟩) ?_
        · intro w9 hS
          go_simp
          first | exact ⟨rfl, hS⟩ | exact ⟨by simp; omega, hS⟩ | exact ⟨by simp [*], hS⟩
        simp only [Act.put, List.setIfInBounds_toArray, List.set_cons_zero, List.set_cons_succ]
        refine det_take (i := 34) (d := some 83) (l' := #[true, true, true, true, true, true, true, true, true, true, true, true, true, true, true, true, true, true, true, true, true, true, true, true, true, true, true, true, true, true, true, true, true, true, true, false, false, false, false, false, false, false, false, false, false, false, false]) (v := .bool true) rfl rfl rfl (by kernel_rfl) (by kernel_rfl) (by kernel_rfl) (Or.inl ⟨by rfl, ?_⟩) ?_
        · intro w9 hS
          go_simp
          exact ⟨rfl, hS⟩
        simp only [Act.put, List.setIfInBounds_toArray, List.set_cons_zero, List.set_cons_succ]
        refine det_take (i := 35) (d := some 84) (l' := #[true, true, true, true, true, true, true, true, true, true, true, true, true, true, true, true, true, true, true, true, true, true, true, true, true, true, true, true, true, true, true, true, true, true, true, true, false, false, false, false, false, false, false, false, false, false, false]) (v := .int .u8 k) rfl rfl rfl (by kernel_rfl) (by kernel_rfl) (by kernel_rfl) (Or.inl ⟨by rfl, ?_⟩) ?_
        · intro w9 hS
          go_simp
          exact ⟨rfl, hS⟩
        simp only [Act.put, List.setIfInBounds_toArray, List.set_cons_zero, List.set_cons_succ]
        refine det_take (i := 36) (d := some 85) (l' := #[true, true, true, true, true, true, true, true, true, true, true, true, true, true, true, true, true, true, true, true, true, true, true, true, true, true, true, true, true, true, true, true, true, true, true, true, true, false, false, false, false, false, false, false, false, false, false]) (v := .bool true) rfl rfl rfl (by kernel_rfl) (by kernel_rfl) (by kernel_rfl) (Or.inl ⟨by rfl, ?_⟩) ?_
        · intro w9 hS
          go_simp
          first | exact ⟨rfl, hS⟩ | exact ⟨by simp; omega, hS⟩ | exact ⟨by simp [*], hS⟩
        simp only [Act.put, List.setIfInBounds_toArray, List.set_cons_zero, List.set_cons_succ]
        refine det_take (i := 37) (d := some 86) (l' := #[true, true, true, true, true, true, true, true, true, true, true, true, true, true, true, true, true, true, true, true, true, true, true, true, true, true, true, true, true, true, true, true, true, true, true, true, true, true, false, false, false, false, false, false, false, false, false]) (v := .bool true) rfl rfl rfl (by kernel_rfl) (by kernel_rfl) (by kernel_rfl) (Or.inl ⟨by rfl, ?_⟩) ?_
        · intro w9 hS
          go_simp
          exact ⟨rfl, hS⟩
        simp only [Act.put, List.setIfInBounds_toArray, List.set_cons_zero, List.set_cons_succ]
        refine det_take (i := 38) (d := some 87) (l' := #[true, true, true, true, true, true, true, true, true, true, true, true, true, true, true, true, true, true, true, true, true, true, true, true, true, true, true, true, true, true, true, true, true, true, true, true, true, true, true, false, false, false, false, false, false, false, false]) (v := .bool false) rfl rfl rfl (by kernel_rfl) (by kernel_rfl) (by kernel_rfl) (Or.inl ⟨by rfl, ?_⟩) ?_
        · intro w9 hS
          go_simp
          first | exact ⟨rfl, hS⟩ | exact ⟨by simp, hS⟩
        simp only [Act.put, List.setIfInBounds_toArray, List.set_cons_zero, List.set_cons_succ]
        refine det_take (i := 39) (d := some 88) (l' := #[true, true, true, true, true, true, true, true, true, true, true, true, true, true, true, true, true, true, true, true, true, true, true, true, true, true, true, true, true, true, true, true, true, true, true, true, true, true, true, true, false, false, false, false, false, false, false]) (v := .bool false) rfl rfl rfl (by kernel_rfl) (by kernel_rfl) (by kernel_rfl) (Or.inl ⟨by rfl, ?_⟩) ?_
        · intro w9 hS
          go_simp
          exact ⟨rfl, hS⟩
        simp only [Act.put, List.setIfInBounds_toArray, List.set_cons_zero, List.set_cons_succ]
        refine det_take (i := 40) (d := some 89) (l' := #[true, true, true, true, true, true, true, true, true, true, true, true, true, true, true, true, true, true, true, true, true, true, true, true, true, true, true, true, true, true, true, true, true, true, true, true, true, true, true, true, true, false, false, false, false, false, false]) (v := .bool false) rfl rfl rfl (by kernel_rfl) (by kernel_rfl) (by kernel_rfl) (Or.inl ⟨by rfl, ?_⟩) ?_
        · intro w9 hS
          go_simp
          exact ⟨rfl, hS⟩
        simp only [Act.put, List.setIfInBounds_toArray, List.set_cons_zero, List.set_cons_succ]
        refine det_take (i := 41) (d := some 90) (l' := #[true, true, true, true, true, true, true, true, true, true, true, true, true, true, true, true, true, true, true, true, true, true, true, true, true, true, true, true, true, true, true, true, true, true, true, true, true, true, true, true, true, true, false, false, false, false, false]) (v := .agg (callCells (allK k))) rfl rfl rfl (by kernel_rfl) (by kernel_rfl) (by kernel_rfl) (Or.inl ⟨by rfl, ?_⟩) ?_
        · intro w9 hS
          have l0 := hS.ba.cell 0
          have l1 := hS.ba.cell 1
          have l2 := hS.ba.cell 2
          have l3 := hS.ba.cell 3
          have l4 := hS.ba.cell 4
          have l5 := hS.ba.cell 5
          have l6 := hS.ba.cell 6
          simp only [callCells, List.getElem?_toArray, List.getElem?_cons_zero, List.getElem?_cons_succ] at l0 l1 l2 l3 l4 l5 l6
          go_simp
          exact ⟨rfl, hS⟩
        simp only [Act.put, List.setIfInBounds_toArray, List.set_cons_zero, List.set_cons_succ]
        refine det_take (i := 42) (d := some 91) (l' := #[true, true, true, true, true, true, true, true, true, true, true, true, true, true, true, true, true, true, true, true, true, true, true, true, true, true, true, true, true, true, true, true, true, true, true, true, true, true, true, true, true, true, true, false, false, false, false]) (v := .agg (callCells (allK k))) rfl rfl rfl (by kernel_rfl) (by kernel_rfl) (by kernel_rfl) (Or.inl ⟨by rfl, ?_⟩) ?_
        · intro w9 hS
          have l0 := hS.ba.cell 0
          have l1 := hS.ba.cell 1
          have l2 := hS.ba.cell 2
          have l3 := hS.ba.cell 3
          have l4 := hS.ba.cell 4
          have l5 := hS.ba.cell 5
          have l6 := hS.ba.cell 6
          simp only [callCells, List.getElem?_toArray, List.getElem?_cons_zero, List.getElem?_cons_succ] at l0 l1 l2 l3 l4 l5 l6
          go_simp
          exact ⟨rfl, hS⟩
        simp only [Act.put, List.setIfInBounds_toArray, List.set_cons_zero, List.set_cons_succ]
        refine det_take (i := 43) (d := some 92) (l' := #[true, true, true, true, true, true, true, true, true, true, true, true, true, true, true, true, true, true, true, true, true, true, true, true, true, true, true, true, true, true, true, true, true, true, true, true, true, true, true, true, true, true, true, true, false, false, false]) (v := .agg (callCells (cleanF (allK k)))) rfl rfl rfl (by kernel_rfl) (by kernel_rfl) (by kernel_rfl) (Or.inl ⟨by rfl, ?_⟩) ?_
        · intro w9 hS
          go_simp
          refine Calls.mono (clean_val (allK k) _) ?_
          rintro e w8 ⟨rfl, hb⟩
          exact ⟨rfl, hS.step hb⟩
        simp only [Act.put, List.setIfInBounds_toArray, List.set_cons_zero, List.set_cons_succ]
        refine det_take (i := 44) (d := some 93) (l' := #[true, true, true, true, true, true, true, true, true, true, true, true, true, true, true, true, true, true, true, true, true, true, true, true, true, true, true, true, true, true, true, true, true, true, true, true, true, true, true, true, true, true, true, true, true, false, false]) (v := .bool true) rfl rfl rfl (by kernel_rfl) (by kernel_rfl) (by kernel_rfl) (Or.inl ⟨by rfl, ?_⟩) ?_
        · intro w9 hS
          go_simp
          refine Calls.mono (same_is (allK k) (cleanF (allK k)) true _ HSm.out) ?_
          rintro e w8 ⟨rfl, hb⟩
          exact ⟨rfl, hS.step hb⟩
        simp only [Act.put, List.setIfInBounds_toArray, List.set_cons_zero, List.set_cons_succ]
        refine det_take (i := 45) (d := some 94) (l' := #[true, true, true, true, true, true, true, true, true, true, true, true, true, true, true, true, true, true, true, true, true, true, true, true, true, true, true, true, true, true, true, true, true, true, true, true, true, true, true, true, true, true, true, true, true, true, false]) (v := .bool false) rfl rfl rfl (by kernel_rfl) (by kernel_rfl) (by kernel_rfl) (Or.inl ⟨by rfl, ?_⟩) ?_
        · intro w9 hS
          go_simp
          first | exact ⟨rfl, hS⟩ | exact ⟨by simp, hS⟩
        simp only [Act.put, List.setIfInBounds_toArray, List.set_cons_zero, List.set_cons_succ]
        refine det_take (i := 46) (d := some 95) (l' := #[true, true, true, true, true, true, true, true, true, true, true, true, true, true, true, true, true, true, true, true, true, true, true, true, true, true, true, true, true, true, true, true, true, true, true, true, true, true, true, true, true, true, true, true, true, true, true]) (v := .bool false) rfl rfl rfl (by kernel_rfl) (by kernel_rfl) (by kernel_rfl) (Or.inl ⟨by rfl, ?_⟩) ?_
        · intro w9 hS
          go_simp
          exact ⟨rfl, hS⟩
        simp only [Act.put, List.setIfInBounds_toArray, List.set_cons_zero, List.set_cons_succ]
        refine det_done (by kernel_rfl) ?_ _
        intro w5 hS
        have HS5 := Lib.hid hS.nm
        clear hS HB
        go_wp2
        go_roundw
        case rel => exact ⟨k + 1, k, by omega, by go_num, HS5⟩
        case measure => simp [intOf]; omega
      · have hmk : mayK k = true := by simp [mayK]; omega
        have hn7 : (decide (2 ≤ k) && decide (k ≤ 7)) = false := by simp; omega
        simp only [hmk, hn7, if_true, Bool.false_eq_true, if_false] at hpz hpe hmy hnd
        have HPz := Lib.hid hpz
        have HPe := Lib.hid hpe
        have HMy := Lib.hid hmy
        have HNd := Lib.hid hnd
        have t0 : decide ((0 : Int) < (k : Int)) = true := by simp; omega
        have t0' : decide (0 < k) = true := by simp; omega
        have t10 : decide ((k : Int) < 10) = true := by simp; omega
        clear hpz hpe hmy hnd hmk hn7
        go_wp2_with fail
        refine (parse_at T (cleanF (allK k)) 0 _ HS.out.env (by omega) HPz.out HPe.out).mono ?_
        rintro e w4 ⟨rfl, hb4⟩
        have HB : Hid (NmB w w1.heap.size (w1.heap.size + 1) (allK k) k T w4.heap.size (cleanF (allK k)) (w4.alloc (.cells (callCells (cleanF (allK k))) 38))) := Lib.hid ⟨(HS.out.step hb4).step (below_new _ _), Blk.new _ _ _, HRow.out⟩
        clear hb4 HS a0 f0 kT
        unfold callV callCells
        go_wp2_with fail
        refine det_start (n := 47) (l := #[false, false, false, false, false, false, false, false, false, false, false, false, false, false, false, false, false, false, false, false, false, false, false, false, false, false, false, false, false, false, false, false, false, false, false, false, false, false, false, false, false, false, false, false, false, false, false]) (S := NmB w w1.heap.size (w1.heap.size + 1) (allK k) k T w4.heap.size (cleanF (allK k))) (by kernel_rfl) (by rfl) (by rfl) HB.out.drew ?_
        refine det_take (i := 0) (d := some 49) (l' := #[true, false, false, false, false, false, false, false, false, false, false, false, false, false, false, false, false, false, false, false, false, false, false, false, false, false, false, false, false, false, false, false, false, false, false, false, false, false, false, false, false, false, false, false, false, false, false]) (v := .agg (callCells (allK k))) rfl rfl rfl (by kernel_rfl) (by kernel_rfl) (by kernel_rfl) (Or.inl ⟨by rfl, ?_⟩) ?_
        · intro w9 hS
          have l0 := hS.ba.cell 0
          have l1 := hS.ba.cell 1
          have l2 := hS.ba.cell 2
          have l3 := hS.ba.cell 3
          have l4 := hS.ba.cell 4
          have l5 := hS.ba.cell 5
          have l6 := hS.ba.cell 6
          simp only [callCells, List.getElem?_toArray, List.getElem?_cons_zero, List.getElem?_cons_succ] at l0 l1 l2 l3 l4 l5 l6
          go_simp
          exact ⟨rfl, hS⟩
        simp only [Act.put, List.setIfInBounds_toArray, List.set_cons_zero, List.set_cons_succ]
        refine det_take (i := 1) (d := some 50) (l' := #[true, true, false, false, false, false, false, false, false, false, false, false, false, false, false, false, false, false, false, false, false, false, false, false, false, false, false, false, false, false, false, false, false, false, false, false, false, false, false, false, false, false, false, false, false, false, false]) (v := .string (bs T)) rfl rfl rfl (by kernel_rfl) (by kernel_rfl) (by kernel_rfl) (Or.inl ⟨by rfl, ?_⟩) ?_
        · intro w9 hS
          go_simp
          refine Calls.mono (show_is (allK k) T _ hS.env HCk.out HSh.out) ?_
          rintro e w8 ⟨rfl, hb⟩
          exact ⟨rfl, hS.step hb⟩
        simp only [Act.put, List.setIfInBounds_toArray, List.set_cons_zero, List.set_cons_succ]
        refine det_take (i := 2) (d := some 51) (l' := #[true, true, true, false, false, false, false, false, false, false, false, false, false, false, false, false, false, false, false, false, false, false, false, false, false, false, false, false, false, false, false, false, false, false, false, false, false, false, false, false, false, false, false, false, false, false, false]) (v := .slice (some ⟨w1.heap.size + 1, 0, none⟩) 11 11) rfl rfl rfl (by kernel_rfl) (by kernel_rfl) (by kernel_rfl) (Or.inl ⟨by rfl, ?_⟩) ?_
        · intro w9 hS
          go_simp
          exact ⟨rfl, hS⟩
        simp only [Act.put, List.setIfInBounds_toArray, List.set_cons_zero, List.set_cons_succ]
        refine det_take (i := 3) (d := some 52) (l' := #[true, true, true, true, false, false, false, false, false, false, false, false, false, false, false, false, false, false, false, false, false, false, false, false, false, false, false, false, false, false, false, false, false, false, false, false, false, false, false, false, false, false, false, false, false, false, false]) (v := .int .u8 k) rfl rfl rfl (by kernel_rfl) (by kernel_rfl) (by kernel_rfl) (Or.inl ⟨by rfl, ?_⟩) ?_
        · intro w9 hS
          go_simp
          exact ⟨rfl, hS⟩
        simp only [Act.put, List.setIfInBounds_toArray, List.set_cons_zero, List.set_cons_succ]
        refine det_take (i := 4) (d := some 53) (l' := #[true, true, true, true, true, false, false, false, false, false, false, false, false, false, false, false, false, false, false, false, false, false, false, false, false, false, false, false, false, false, false, false, false, false, false, false, false, false, false, false, false, false, false, false, false, false, false]) (v := .pointer (some ⟨w1.heap.size + 1, k, none⟩)) rfl rfl rfl (by kernel_rfl) (by kernel_rfl) (by kernel_rfl) (Or.inl ⟨by rfl, ?_⟩) ?_
        · intro w9 hS
          have hk11 : (k : Int) < 11 := by omega
          go_simp
          first | exact ⟨rfl, hS⟩ | exact ⟨by simp; omega, hS⟩ | exact ⟨by simp [*], hS⟩
        simp only [Act.put, List.setIfInBounds_toArray, List.set_cons_zero, List.set_cons_succ]
        refine det_take (i := 5) (d := some 54) (l' := #[true, true, true, true, true, true, false, false, false, false, false, false, false, false, false, false, false, false, false, false, false, false, false, false, false, false, false, false, false, false, false, false, false, false, false, false, false, false, false, false, false, false, false, false, false, false, false]) (v := .string (bs T)) rfl rfl rfl (by kernel_rfl) (by kernel_rfl) (by kernel_rfl) (Or.inl ⟨by rfl, ?_⟩) ?_
        · intro w9 hS
          have l0 := hS.bt
          go_simp
          exact ⟨rfl, hS⟩
        simp only [Act.put, List.setIfInBounds_toArray, List.set_cons_zero, List.set_cons_succ]
        refine det_take (i := 6) (d := some 55) (l' := #[true, true, true, true, true, true, true, false, false, false, false, false, false, false, false, false, false, false, false, false, false, false, false, false, false, false, false, false, false, false, false, false, false, false, false, false, false, false, false, false, false, false, false, false, false, false, false]) (v := .bool false) rfl rfl rfl (by kernel_rfl) (by kernel_rfl) (by kernel_rfl) (Or.inl ⟨by rfl, ?_⟩) ?_
        · intro w9 hS
          go_simp
          first | exact ⟨rfl, hS⟩ | exact ⟨by simp, hS⟩
        simp only [Act.put, List.setIfInBounds_toArray, List.set_cons_zero, List.set_cons_succ]
        refine det_take (i := 7) (d := some 56) (l' := #[true, true, true, true, true, true, true, true, false, false, false, false, false, false, false, false, false, false, false, false, false, false, false, false, false, false, false, false, false, false, false, false, false, false, false, false, false, false, false, false, false, false, false, false, false, false, false]) (v := .bool false) rfl rfl rfl (by kernel_rfl) (by kernel_rfl) (by kernel_rfl) (Or.inl ⟨by rfl, ?_⟩) ?_
        · intro w9 hS
          go_simp
          exact ⟨rfl, hS⟩
        simp only [Act.put, List.setIfInBounds_toArray, List.set_cons_zero, List.set_cons_succ]
        refine det_take (i := 8) (d := some 57) (l' := #[true, true, true, true, true, true, true, true, true, false, false, false, false, false, false, false, false, false, false, false, false, false, false, false, false, false, false, false, false, false, false, false, false, false, false, false, false, false, false, false, false, false, false, false, false, false, false]) (v := .agg (callCells (allK k))) rfl rfl rfl (by kernel_rfl) (by kernel_rfl) (by kernel_rfl) (Or.inl ⟨by rfl, ?_⟩) ?_
        · intro w9 hS
          have l0 := hS.ba.cell 0
          have l1 := hS.ba.cell 1
          have l2 := hS.ba.cell 2
          have l3 := hS.ba.cell 3
          have l4 := hS.ba.cell 4
          have l5 := hS.ba.cell 5
          have l6 := hS.ba.cell 6
          simp only [callCells, List.getElem?_toArray, List.getElem?_cons_zero, List.getElem?_cons_succ] at l0 l1 l2 l3 l4 l5 l6
          go_simp
          exact ⟨rfl, hS⟩
        simp only [Act.put, List.setIfInBounds_toArray, List.set_cons_zero, List.set_cons_succ]
        refine det_take (i := 9) (d := some 58) (l' := #[true, true, true, true, true, true, true, true, true, true, false, false, false, false, false, false, false, false, false, false, false, false, false, false, false, false, false, false, false, false, false, false, false, false, false, false, false, false, false, false, false, false, false, false, false, false, false]) (v := .int .i64 0) rfl rfl rfl (by kernel_rfl) (by kernel_rfl) (by kernel_rfl) (Or.inl ⟨by rfl, ?_⟩) ?_
        · intro w9 hS
          go_simp
          refine Calls.mono (may_is (allK k) 0 _ HMy.out) ?_
          rintro e w8 ⟨rfl, hb⟩
          exact ⟨rfl, hS.step hb⟩
        simp only [Act.put, List.setIfInBounds_toArray, List.set_cons_zero, List.set_cons_succ]
        refine det_take (i := 10) (d := some 59) (l' := #[true, true, true, true, true, true, true, true, true, true, true, false, false, false, false, false, false, false, false, false, false, false, false, false, false, false, false, false, false, false, false, false, false, false, false, false, false, false, false, false, false, false, false, false, false, false, false]) (v := .bool true) rfl rfl rfl (by kernel_rfl) (by kernel_rfl) (by kernel_rfl) (Or.inl ⟨by rfl, ?_⟩) ?_
        · intro w9 hS
          go_simp
          first | exact ⟨rfl, hS⟩ | exact ⟨by simp, hS⟩
        simp only [Act.put, List.setIfInBounds_toArray, List.set_cons_zero, List.set_cons_succ]
        refine det_take (i := 11) (d := some 60) (l' := #[true, true, true, true, true, true, true, true, true, true, true, true, false, false, false, false, false, false, false, false, false, false, false, false, false, false, false, false, false, false, false, false, false, false, false, false, false, false, false, false, false, false, false, false, false, false, false]) (v := .bool true) rfl rfl rfl (by kernel_rfl) (by kernel_rfl) (by kernel_rfl) (Or.inl ⟨by rfl, ?_⟩) ?_
        · intro w9 hS
          go_simp
          exact ⟨rfl, hS⟩
        simp only [Act.put, List.setIfInBounds_toArray, List.set_cons_zero, List.set_cons_succ]
        refine det_take (i := 12) (d := some 61) (l' := #[true, true, true, true, true, true, true, true, true, true, true, true, true, false, false, false, false, false, false, false, false, false, false, false, false, false, false, false, false, false, false, false, false, false, false, false, false, false, false, false, false, false, false, false, false, false, false]) (v := .bool false) rfl rfl rfl (by kernel_rfl) (by kernel_rfl) (by kernel_rfl) (Or.inl ⟨by rfl, ?_⟩) ?_
        · intro w9 hS
          go_simp
          first | exact ⟨rfl, hS⟩ | exact ⟨by simp, hS⟩
        simp only [Act.put, List.setIfInBounds_toArray, List.set_cons_zero, List.set_cons_succ]
        refine det_take (i := 13) (d := some 62) (l' := #[true, true, true, true, true, true, true, true, true, true, true, true, true, true, false, false, false, false, false, false, false, false, false, false, false, false, false, false, false, false, false, false, false, false, false, false, false, false, false, false, false, false, false, false, false, false, false]) (v := .bool false) rfl rfl rfl (by kernel_rfl) (by kernel_rfl) (by kernel_rfl) (Or.inl ⟨by rfl, ?_⟩) ?_
        · intro w9 hS
          go_simp
          exact ⟨rfl, hS⟩
        simp only [Act.put, List.setIfInBounds_toArray, List.set_cons_zero, List.set_cons_succ]
        refine det_take (i := 14) (d := some 63) (l' := #[true, true, true, true, true, true, true, true, true, true, true, true, true, true, true, false, false, false, false, false, false, false, false, false, false, false, false, false, false, false, false, false, false, false, false, false, false, false, false, false, false, false, false, false, false, false, false]) (v := .bool false) rfl rfl rfl (by kernel_rfl) (by kernel_rfl) (by kernel_rfl) (Or.inl ⟨by rfl, ?_⟩) ?_
        · intro w9 hS
          go_simp
          exact ⟨rfl, hS⟩
        simp only [Act.put, List.setIfInBounds_toArray, List.set_cons_zero, List.set_cons_succ]
        refine det_take (i := 15) (d := some 64) (l' := #[true, true, true, true, true, true, true, true, true, true, true, true, true, true, true, true, false, false, false, false, false, false, false, false, false, false, false, false, false, false, false, false, false, false, false, false, false, false, false, false, false, false, false, false, false, false, false]) (v := .int .i64 0) rfl rfl rfl (by kernel_rfl) (by kernel_rfl) (by kernel_rfl) (Or.inl ⟨by rfl, ?_⟩) ?_
        · intro w9 hS
          go_simp
          exact ⟨rfl, hS⟩
        simp only [Act.put, List.setIfInBounds_toArray, List.set_cons_zero, List.set_cons_succ]
        refine det_take (i := 16) (d := some 65) (l' := #[true, true, true, true, true, true, true, true, true, true, true, true, true, true, true, true, true, false, false, false, false, false, false, false, false, false, false, false, false, false, false, false, false, false, false, false, false, false, false, false, false, false, false, false, false, false, false]) (v := .bool true) rfl rfl rfl (by kernel_rfl) (by kernel_rfl) (by kernel_rfl) (Or.inl ⟨by rfl, ?_⟩) ?_
        · intro w9 hS
          go_simp
          first | exact ⟨rfl, hS⟩ | exact ⟨by simp, hS⟩
        simp only [Act.put, List.setIfInBounds_toArray, List.set_cons_zero, List.set_cons_succ]
        refine det_take (i := 17) (d := some 66) (l' := #[true, true, true, true, true, true, true, true, true, true, true, true, true, true, true, true, true, true, false, false, false, false, false, false, false, false, false, false, false, false, false, false, false, false, false, false, false, false, false, false, false, false, false, false, false, false, false]) (v := .bool true) rfl rfl rfl (by kernel_rfl) (by kernel_rfl) (by kernel_rfl) (Or.inl ⟨by rfl, ?_⟩) ?_
        · intro w9 hS
          go_simp
          exact ⟨rfl, hS⟩
        simp only [Act.put, List.setIfInBounds_toArray, List.set_cons_zero, List.set_cons_succ]
        refine det_take (i := 18) (d := some 67) (l' := #[true, true, true, true, true, true, true, true, true, true, true, true, true, true, true, true, true, true, true, false, false, false, false, false, false, false, false, false, false, false, false, false, false, false, false, false, false, false, false, false, false, false, false, false, false, false, false]) (v := .bool false) rfl rfl rfl (by kernel_rfl) (by kernel_rfl) (by kernel_rfl) (Or.inl ⟨by rfl, ?_⟩) ?_
        · intro w9 hS
          go_simp
          first | exact ⟨rfl, hS⟩ | exact ⟨by simp, hS⟩
        simp only [Act.put, List.setIfInBounds_toArray, List.set_cons_zero, List.set_cons_succ]
        refine det_take (i := 19) (d := some 68) (l' := #[true, true, true, true, true, true, true, true, true, true, true, true, true, true, true, true, true, true, true, true, false, false, false, false, false, false, false, false, false, false, false, false, false, false, false, false, false, false, false, false, false, false, false, false, false, false, false]) (v := .bool false) rfl rfl rfl (by kernel_rfl) (by kernel_rfl) (by kernel_rfl) (Or.inl ⟨by rfl, ?_⟩) ?_
        · intro w9 hS
          go_simp
          exact ⟨rfl, hS⟩
        simp only [Act.put, List.setIfInBounds_toArray, List.set_cons_zero, List.set_cons_succ]
        refine det_take (i := 20) (d := some 69) (l' := #[true, true, true, true, true, true, true, true, true, true, true, true, true, true, true, true, true, true, true, true, true, false, false, false, false, false, false, false, false, false, false, false, false, false, false, false, false, false, false, false, false, false, false, false, false, false, false]) (v := .bool false) rfl rfl rfl (by kernel_rfl) (by kernel_rfl) (by kernel_rfl) (Or.inl ⟨by rfl, ?_⟩) ?_
        · intro w9 hS
          go_simp
          exact ⟨rfl, hS⟩
        simp only [Act.put, List.setIfInBounds_toArray, List.set_cons_zero, List.set_cons_succ]
        refine det_take (i := 21) (d := some 70) (l' := #[true, true, true, true, true, true, true, true, true, true, true, true, true, true, true, true, true, true, true, true, true, true, false, false, false, false, false, false, false, false, false, false, false, false, false, false, false, false, false, false, false, false, false, false, false, false, false]) (v := .bool true) rfl rfl rfl (by kernel_rfl) (by kernel_rfl) (by kernel_rfl) (Or.inl ⟨by rfl, ?_⟩) ?_
        · intro w9 hS
          go_simp
          exact ⟨rfl, hS⟩
        simp only [Act.put, List.setIfInBounds_toArray, List.set_cons_zero, List.set_cons_succ]
        refine det_take (i := 22) (d := some 71) (l' := #[true, true, true, true, true, true, true, true, true, true, true, true, true, true, true, true, true, true, true, true, true, true, true, false, false, false, false, false, false, false, false, false, false, false, false, false, false, false, false, false, false, false, false, false, false, false, false]) (v := .bool true) rfl rfl rfl (by kernel_rfl) (by kernel_rfl) (by kernel_rfl) (Or.inl ⟨by rfl, ?_⟩) ?_
        · intro w9 hS
          go_simp
          exact ⟨rfl, hS⟩
        simp only [Act.put, List.setIfInBounds_toArray, List.set_cons_zero, List.set_cons_succ]
        refine det_take (i := 23) (d := some 72) (l' := #[true, true, true, true, true, true, true, true, true, true, true, true, true, true, true, true, true, true, true, true, true, true, true, true, false, false, false, false, false, false, false, false, false, false, false, false, false, false, false, false, false, false, false, false, false, false, false]) (v := .agg (callCells (cleanF (allK k)))) rfl rfl rfl (by kernel_rfl) (by kernel_rfl) (by kernel_rfl) (Or.inl ⟨by rfl, ?_⟩) ?_
        · intro w9 hS
          have l0 := hS.by_.cell 0
          have l1 := hS.by_.cell 1
          have l2 := hS.by_.cell 2
          have l3 := hS.by_.cell 3
          have l4 := hS.by_.cell 4
          have l5 := hS.by_.cell 5
          have l6 := hS.by_.cell 6
          simp only [callCells, List.getElem?_toArray, List.getElem?_cons_zero, List.getElem?_cons_succ] at l0 l1 l2 l3 l4 l5 l6
          go_simp
          exact ⟨rfl, hS⟩
        simp only [Act.put, List.setIfInBounds_toArray, List.set_cons_zero, List.set_cons_succ]
        refine det_take (i := 24) (d := some 73) (l' := #[true, true, true, true, true, true, true, true, true, true, true, true, true, true, true, true, true, true, true, true, true, true, true, true, true, false, false, false, false, false, false, false, false, false, false, false, false, false, false, false, false, false, false, false, false, false, false]) (v := .agg (callCells (allK k))) rfl rfl rfl (by kernel_rfl) (by kernel_rfl) (by kernel_rfl) (Or.inl ⟨by rfl, ?_⟩) ?_
        · intro w9 hS
          have l0 := hS.ba.cell 0
          have l1 := hS.ba.cell 1
          have l2 := hS.ba.cell 2
          have l3 := hS.ba.cell 3
          have l4 := hS.ba.cell 4
          have l5 := hS.ba.cell 5
          have l6 := hS.ba.cell 6
          simp only [callCells, List.getElem?_toArray, List.getElem?_cons_zero, List.getElem?_cons_succ] at l0 l1 l2 l3 l4 l5 l6
          go_simp
          exact ⟨rfl, hS⟩
        simp only [Act.put, List.setIfInBounds_toArray, List.set_cons_zero, List.set_cons_succ]
        refine det_take (i := 25) (d := some 74) (l' := #[true, true, true, true, true, true, true, true, true, true, true, true, true, true, true, true, true, true, true, true, true, true, true, true, true, true, false, false, false, false, false, false, false, false, false, false, false, false, false, false, false, false, false, false, false, false, false]) (v := .agg (callCells (cleanF (allK k)))) rfl rfl rfl (by kernel_rfl) (by kernel_rfl) (by kernel_rfl) (Or.inl ⟨by rfl, ?_⟩) ?_
        · intro w9 hS
          go_simp
          refine Calls.mono (clean_val (allK k) _) ?_
          rintro e w8 ⟨rfl, hb⟩
          exact ⟨rfl, hS.step hb⟩
        simp only [Act.put, List.setIfInBounds_toArray, List.set_cons_zero, List.set_cons_succ]
        refine det_take (i := 26) (d := some 75) (l' := #[true, true, true, true, true, true, true, true, true, true, true, true, true, true, true, true, true, true, true, true, true, true, true, true, true, true, true, false, false, false, false, false, false, false, false, false, false, false, false, false, false, false, false, false, false, false, false]) (v := .bool false) rfl rfl rfl (by kernel_rfl) (by kernel_rfl) (by kernel_rfl) (Or.inl ⟨by rfl, ?_⟩) ?_
        · intro w9 hS
          simp only [callCells]
          go_simp
          first | exact ⟨rfl, hS⟩ | exact ⟨by simp, hS⟩
        simp only [Act.put, List.setIfInBounds_toArray, List.set_cons_zero, List.set_cons_succ]
        refine det_take (i := 27) (d := some 76) (l' := #[true, true, true, true, true, true, true, true, true, true, true, true, true, true, true, true, true, true, true, true, true, true, true, true, true, true, true, true, false, false, false, false, false, false, false, false, false, false, false, false, false, false, false, false, false, false, false]) (v := .bool false) rfl rfl rfl (by kernel_rfl) (by kernel_rfl) (by kernel_rfl) (Or.inl ⟨by rfl, ?_⟩) ?_
        · intro w9 hS
          go_simp
          exact ⟨rfl, hS⟩
        simp only [Act.put, List.setIfInBounds_toArray, List.set_cons_zero, List.set_cons_succ]
        refine det_take (i := 28) (d := some 77) (l' := #[true, true, true, true, true, true, true, true, true, true, true, true, true, true, true, true, true, true, true, true, true, true, true, true, true, true, true, true, true, false, false, false, false, false, false, false, false, false, false, false, false, false, false, false, false, false, false]) (v := .bool false) rfl rfl rfl (by kernel_rfl) (by kernel_rfl) (by kernel_rfl) (Or.inl ⟨by rfl, ?_⟩) ?_
        · intro w9 hS
          go_simp
          exact ⟨rfl, hS⟩
        simp only [Act.put, List.setIfInBounds_toArray, List.set_cons_zero, List.set_cons_succ]
        refine det_take (i := 29) (d := some 78) (l' := #[true, true, true, true, true, true, true, true, true, true, true, true, true, true, true, true, true, true, true, true, true, true, true, true, true, true, true, true, true, true, false, false, false, false, false, false, false, false, false, false, false, false, false, false, false, false, false]) (v := .bool false) rfl rfl rfl (by kernel_rfl) (by kernel_rfl) (by kernel_rfl) (Or.inl ⟨by rfl, ?_⟩) ?_
        · intro w9 hS
          go_simp
          exact ⟨rfl, hS⟩
        simp only [Act.put, List.setIfInBounds_toArray, List.set_cons_zero, List.set_cons_succ]
        refine det_take (i := 30) (d := some 79) (l' := #[true, true, true, true, true, true, true, true, true, true, true, true, true, true, true, true, true, true, true, true, true, true, true, true, true, true, true, true, true, true, true, false, false, false, false, false, false, false, false, false, false, false, false, false, false, false, false]) (v := .int .u8 k) rfl rfl rfl (by kernel_rfl) (by kernel_rfl) (by kernel_rfl) (Or.inl ⟨by rfl, ?_⟩) ?_
        · intro w9 hS
          go_simp
          exact ⟨rfl, hS⟩
        simp only [Act.put, List.setIfInBounds_toArray, List.set_cons_zero, List.set_cons_succ]
        refine det_take (i := 31) (d := some 80) (l' := #[true, true, true, true, true, true, true, true, true, true, true, true, true, true, true, true, true, true, true, true, true, true, true, true, true, true, true, true, true, true, true, true, false, false, false, false, false, false, false, false, false, false, false, false, false, false, false]) (v := .bool false) rfl rfl rfl (by kernel_rfl) (by kernel_rfl) (by kernel_rfl) (Or.inl ⟨by rfl, ?_⟩) ?_
        · intro w9 hS
          go_simp
          refine Calls.mono (needs_is k false _ HNd.out) ?_
          rintro e w8 ⟨rfl, hb⟩
          exact ⟨rfl, hS.step hb⟩
        simp only [Act.put, List.setIfInBounds_toArray, List.set_cons_zero, List.set_cons_succ]
        refine det_take (i := 32) (d := some 81) (l' := #[true, true, true, true, true, true, true, true, true, true, true, true, true, true, true, true, true, true, true, true, true, true, true, true, true, true, true, true, true, true, true, true, true, false, false, false, false, false, false, false, false, false, false, false, false, false, false]) (v := .int .u8 k) rfl rfl rfl (by kernel_rfl) (by kernel_rfl) (by kernel_rfl) (Or.inl ⟨by rfl, ?_⟩) ?_
        · intro w9 hS
          go_simp
          exact ⟨rfl, hS⟩
        simp only [Act.put, List.setIfInBounds_toArray, List.set_cons_zero, List.set_cons_succ]
        refine det_take (i := 33) (d := some 82) (l' := #[true, true, true, true, true, true, true, true, true, true, true, true, true, true, true, true, true, true, true, true, true, true, true, true, true, true, true, true, true, true, true, true, true, true, false, false, false, false, false, false, false, false, false, false, false, false, false]) (v := .bool true) rfl rfl rfl (by kernel_rfl) (by kernel_rfl) (by kernel_rfl) (Or.inl ⟨by rfl, ?_⟩) ?_
        · intro w9 hS
          go_simp
          first | exact ⟨rfl, hS⟩ | exact ⟨by simp; omega, hS⟩ | exact ⟨by simp [*], hS⟩
        simp only [Act.put, List.setIfInBounds_toArray, List.set_cons_zero, List.set_cons_succ]
        refine det_take (i := 34) (d := some 83) (l' := #[true, true, true, true, true, true, true, true, true, true, true, true, true, true, true, true, true, true, true, true, true, true, true, true, true, true, true, true, true, true, true, true, true, true, true, false, false, false, false, false, false, false, false, false, false, false, false]) (v := .bool true) rfl rfl rfl (by kernel_rfl) (by kernel_rfl) (by kernel_rfl) (Or.inl ⟨by rfl, ?_⟩) ?_
        · intro w9 hS
          go_simp
          exact ⟨rfl, hS⟩
        simp only [Act.put, List.setIfInBounds_toArray, List.set_cons_zero, List.set_cons_succ]
        refine det_take (i := 35) (d := some 84) (l' := #[true, true, true, true, true, true, true, true, true, true, true, true, true, true, true, true, true, true, true, true, true, true, true, true, true, true, true, true, true, true, true, true, true, true, true, true, false, false, false, false, false, false, false, false, false, false, false]) (v := .int .u8 k) rfl rfl rfl (by kernel_rfl) (by kernel_rfl) (by kernel_rfl) (Or.inl ⟨by rfl, ?_⟩) ?_
        · intro w9 hS
          go_simp
          exact ⟨rfl, hS⟩
        simp only [Act.put, List.setIfInBounds_toArray, List.set_cons_zero, List.set_cons_succ]
        refine det_take (i := 36) (d := some 85) (l' := #[true, true, true, true, true, true, true, true, true, true, true, true, true, true, true, true, true, true, true, true, true, true, true, true, true, true, true, true, true, true, true, true, true, true, true, true, true, false, false, false, false, false, false, false, false, false, false]) (v := .bool false) rfl rfl rfl (by kernel_rfl) (by kernel_rfl) (by kernel_rfl) (Or.inl ⟨by rfl, ?_⟩) ?_
        · intro w9 hS
          go_simp
          first | exact ⟨rfl, hS⟩ | exact ⟨by simp; omega, hS⟩ | exact ⟨by simp [*], hS⟩
        simp only [Act.put, List.setIfInBounds_toArray, List.set_cons_zero, List.set_cons_succ]
        refine det_take (i := 37) (d := some 86) (l' := #[true, true, true, true, true, true, true, true, true, true, true, true, true, true, true, true, true, true, true, true, true, true, true, true, true, true, true, true, true, true, true, true, true, true, true, true, true, true, false, false, false, false, false, false, false, false, false]) (v := .bool false) rfl rfl rfl (by kernel_rfl) (by kernel_rfl) (by kernel_rfl) (Or.inl ⟨by rfl, ?_⟩) ?_
        · intro w9 hS
          go_simp
          exact ⟨rfl, hS⟩
        simp only [Act.put, List.setIfInBounds_toArray, List.set_cons_zero, List.set_cons_succ]
        refine det_take (i := 38) (d := some 87) (l' := #[true, true, true, true, true, true, true, true, true, true, true, true, true, true, true, true, true, true, true, true, true, true, true, true, true, true, true, true, true, true, true, true, true, true, true, true, true, true, true, false, false, false, false, false, false, false, false]) (v := .bool false) rfl rfl rfl (by kernel_rfl) (by kernel_rfl) (by kernel_rfl) (Or.inl ⟨by rfl, ?_⟩) ?_
        · intro w9 hS
          go_simp
          first | exact ⟨rfl, hS⟩ | exact ⟨by simp, hS⟩
        simp only [Act.put, List.setIfInBounds_toArray, List.set_cons_zero, List.set_cons_succ]
        refine det_take (i := 39) (d := some 88) (l' := #[true, true, true, true, true, true, true, true, true, true, true, true, true, true, true, true, true, true, true, true, true, true, true, true, true, true, true, true, true, true, true, true, true, true, true, true, true, true, true, true, false, false, false, false, false, false, false]) (v := .bool false) rfl rfl rfl (by kernel_rfl) (by kernel_rfl) (by kernel_rfl) (Or.inl ⟨by rfl, ?_⟩) ?_
        · intro w9 hS
          go_simp
          exact ⟨rfl, hS⟩
        simp only [Act.put, List.setIfInBounds_toArray, List.set_cons_zero, List.set_cons_succ]
        refine det_take (i := 40) (d := some 89) (l' := #[true, true, true, true, true, true, true, true, true, true, true, true, true, true, true, true, true, true, true, true, true, true, true, true, true, true, true, true, true, true, true, true, true, true, true, true, true, true, true, true, true, false, false, false, false, false, false]) (v := .bool false) rfl rfl rfl (by kernel_rfl) (by kernel_rfl) (by kernel_rfl) (Or.inl ⟨by rfl, ?_⟩) ?_
        · intro w9 hS
          go_simp
          exact ⟨rfl, hS⟩
        simp only [Act.put, List.setIfInBounds_toArray, List.set_cons_zero, List.set_cons_succ]
        refine det_take (i := 41) (d := some 90) (l' := #[true, true, true, true, true, true, true, true, true, true, true, true, true, true, true, true, true, true, true, true, true, true, true, true, true, true, true, true, true, true, true, true, true, true, true, true, true, true, true, true, true, true, false, false, false, false, false]) (v := .agg (callCells (allK k))) rfl rfl rfl (by kernel_rfl) (by kernel_rfl) (by kernel_rfl) (Or.inl ⟨by rfl, ?_⟩) ?_
        · intro w9 hS
          have l0 := hS.ba.cell 0
          have l1 := hS.ba.cell 1
          have l2 := hS.ba.cell 2
          have l3 := hS.ba.cell 3
          have l4 := hS.ba.cell 4
          have l5 := hS.ba.cell 5
          have l6 := hS.ba.cell 6
          simp only [callCells, List.getElem?_toArray, List.getElem?_cons_zero, List.getElem?_cons_succ] at l0 l1 l2 l3 l4 l5 l6
          go_simp
          exact ⟨rfl, hS⟩
        simp only [Act.put, List.setIfInBounds_toArray, List.set_cons_zero, List.set_cons_succ]
        refine det_take (i := 42) (d := some 91) (l' := #[true, true, true, true, true, true, true, true, true, true, true, true, true, true, true, true, true, true, true, true, true, true, true, true, true, true, true, true, true, true, true, true, true, true, true, true, true, true, true, true, true, true, true, false, false, false, false]) (v := .agg (callCells (allK k))) rfl rfl rfl (by kernel_rfl) (by kernel_rfl) (by kernel_rfl) (Or.inl ⟨by rfl, ?_⟩) ?_
        · intro w9 hS
          have l0 := hS.ba.cell 0
          have l1 := hS.ba.cell 1
          have l2 := hS.ba.cell 2
          have l3 := hS.ba.cell 3
          have l4 := hS.ba.cell 4
          have l5 := hS.ba.cell 5
          have l6 := hS.ba.cell 6
          simp only [callCells, List.getElem?_toArray, List.getElem?_cons_zero, List.getElem?_cons_succ] at l0 l1 l2 l3 l4 l5 l6
          go_simp
          exact ⟨rfl, hS⟩
        simp only [Act.put, List.setIfInBounds_toArray, List.set_cons_zero, List.set_cons_succ]
        refine det_take (i := 43) (d := some 92) (l' := #[true, true, true, true, true, true, true, true, true, true, true, true, true, true, true, true, true, true, true, true, true, true, true, true, true, true, true, true, true, true, true, true, true, true, true, true, true, true, true, true, true, true, true, true, false, false, false]) (v := .agg (callCells (cleanF (allK k)))) rfl rfl rfl (by kernel_rfl) (by kernel_rfl) (by kernel_rfl) (Or.inl ⟨by rfl, ?_⟩) ?_
        · intro w9 hS
          go_simp
          refine Calls.mono (clean_val (allK k) _) ?_
          rintro e w8 ⟨rfl, hb⟩
          exact ⟨rfl, hS.step hb⟩
        simp only [Act.put, List.setIfInBounds_toArray, List.set_cons_zero, List.set_cons_succ]
        refine det_take (i := 44) (d := some 93) (l' := #[true, true, true, true, true, true, true, true, true, true, true, true, true, true, true, true, true, true, true, true, true, true, true, true, true, true, true, true, true, true, true, true, true, true, true, true, true, true, true, true, true, true, true, true, true, false, false]) (v := .bool true) rfl rfl rfl (by kernel_rfl) (by kernel_rfl) (by kernel_rfl) (Or.inl ⟨by rfl, ?_⟩) ?_
        · intro w9 hS
          go_simp
          refine Calls.mono (same_is (allK k) (cleanF (allK k)) true _ HSm.out) ?_
          rintro e w8 ⟨rfl, hb⟩
          exact ⟨rfl, hS.step hb⟩
        simp only [Act.put, List.setIfInBounds_toArray, List.set_cons_zero, List.set_cons_succ]
        refine det_take (i := 45) (d := some 94) (l' := #[true, true, true, true, true, true, true, true, true, true, true, true, true, true, true, true, true, true, true, true, true, true, true, true, true, true, true, true, true, true, true, true, true, true, true, true, true, true, true, true, true, true, true, true, true, true, false]) (v := .bool false) rfl rfl rfl (by kernel_rfl) (by kernel_rfl) (by kernel_rfl) (Or.inl ⟨by rfl, ?_⟩) ?_
        · intro w9 hS
          go_simp
          first | exact ⟨rfl, hS⟩ | exact ⟨by simp, hS⟩
        simp only [Act.put, List.setIfInBounds_toArray, List.set_cons_zero, List.set_cons_succ]
        refine det_take (i := 46) (d := some 95) (l' := #[true, true, true, true, true, true, true, true, true, true, true, true, true, true, true, true, true, true, true, true, true, true, true, true, true, true, true, true, true, true, true, true, true, true, true, true, true, true, true, true, true, true, true, true, true, true, true]) (v := .bool false) rfl rfl rfl (by kernel_rfl) (by kernel_rfl) (by kernel_rfl) (Or.inl ⟨by rfl, ?_⟩) ?_
        · intro w9 hS
          go_simp
          exact ⟨rfl, hS⟩
        simp only [Act.put, List.setIfInBounds_toArray, List.set_cons_zero, List.set_cons_succ]
        refine det_done (by kernel_rfl) ?_ _
        intro w5 hS
        have HS5 := Lib.hid hS.nm
        clear hS HB
        go_wp2
        go_roundw
        case rel => exact ⟨k + 1, k, by omega, by go_num, HS5⟩
        case measure => simp [intOf]; omega
      · have hmk : mayK k = false := by simp [mayK]; omega
        have hn7 : (decide (2 ≤ k) && decide (k ≤ 7)) = false := by simp; omega
        simp only [hmk, hn7, if_true, Bool.false_eq_true, if_false] at hpz hpe hmy hnd
        have HPz := Lib.hid hpz
        have HPe := Lib.hid hpe
        have HMy := Lib.hid hmy
        have HNd := Lib.hid hnd
        have t0 : decide ((0 : Int) < (k : Int)) = true := by simp; omega
        have t0' : decide (0 < k) = true := by simp; omega
        have t10 : decide ((k : Int) < 10) = false := by simp; omega
        clear hpz hpe hmy hnd hmk hn7
        go_wp2_with fail
        refine (parse_at T noCall 4 _ HS.out.env (by omega) HPz.out HPe.out).mono ?_
        rintro e w4 ⟨rfl, hb4⟩
        have HB : Hid (NmB w w1.heap.size (w1.heap.size + 1) (allK k) k T w4.heap.size noCall (w4.alloc (.cells (callCells noCall) 38))) := Lib.hid ⟨(HS.out.step hb4).step (below_new _ _), Blk.new _ _ _, HRow.out⟩
        clear hb4 HS a0 f0 kT
        unfold callV callCells
        go_wp2_with fail
        refine det_start (n := 47) (l := #[false, false, false, false, false, false, false, false, false, false, false, false, false, false, false, false, false, false, false, false, false, false, false, false, false, false, false, false, false, false, false, false, false, false, false, false, false, false, false, false, false, false, false, false, false, false, false]) (S := NmB w w1.heap.size (w1.heap.size + 1) (allK k) k T w4.heap.size noCall) (by kernel_rfl) (by rfl) (by rfl) HB.out.drew ?_
        refine det_take (i := 0) (d := some 49) (l' := #[true, false, false, false, false, false, false, false, false, false, false, false, false, false, false, false, false, false, false, false, false, false, false, false, false, false, false, false, false, false, false, false, false, false, false, false, false, false, false, false, false, false, false, false, false, false, false]) (v := .agg (callCells (allK k))) rfl rfl rfl (by kernel_rfl) (by kernel_rfl) (by kernel_rfl) (Or.inl ⟨by rfl, ?_⟩) ?_
        · intro w9 hS
          have l0 := hS.ba.cell 0
          have l1 := hS.ba.cell 1
          have l2 := hS.ba.cell 2
          have l3 := hS.ba.cell 3
          have l4 := hS.ba.cell 4
          have l5 := hS.ba.cell 5
          have l6 := hS.ba.cell 6
          simp only [callCells, List.getElem?_toArray, List.getElem?_cons_zero, List.getElem?_cons_succ] at l0 l1 l2 l3 l4 l5 l6
          go_simp
          exact ⟨rfl, hS⟩
        simp only [Act.put, List.setIfInBounds_toArray, List.set_cons_zero, List.set_cons_succ]
        refine det_take (i := 1) (d := some 50) (l' := #[true, true, false, false, false, false, false, false, false, false, false, false, false, false, false, false, false, false, false, false, false, false, false, false, false, false, false, false, false, false, false, false, false, false, false, false, false, false, false, false, false, false, false, false, false, false, false]) (v := .string (bs T)) rfl rfl rfl (by kernel_rfl) (by kernel_rfl) (by kernel_rfl) (Or.inl ⟨by rfl, ?_⟩) ?_
        · intro w9 hS
          go_simp
          refine Calls.mono (show_is (allK k) T _ hS.env HCk.out HSh.out) ?_
          rintro e w8 ⟨rfl, hb⟩
          exact ⟨rfl, hS.step hb⟩
        simp only [Act.put, List.setIfInBounds_toArray, List.set_cons_zero, List.set_cons_succ]
        refine det_take (i := 2) (d := some 51) (l' := #[true, true, true, false, false, false, false, false, false, false, false, false, false, false, false, false, false, false, false, false, false, false, false, false, false, false, false, false, false, false, false, false, false, false, false, false, false, false, false, false, false, false, false, false, false, false, false]) (v := .slice (some ⟨w1.heap.size + 1, 0, none⟩) 11 11) rfl rfl rfl (by kernel_rfl) (by kernel_rfl) (by kernel_rfl) (Or.inl ⟨by rfl, ?_⟩) ?_
        · intro w9 hS
          go_simp
          exact ⟨rfl, hS⟩
        simp only [Act.put, List.setIfInBounds_toArray, List.set_cons_zero, List.set_cons_succ]
        refine det_take (i := 3) (d := some 52) (l' := #[true, true, true, true, false, false, false, false, false, false, false, false, false, false, false, false, false, false, false, false, false, false, false, false, false, false, false, false, false, false, false, false, false, false, false, false, false, false, false, false, false, false, false, false, false, false, false]) (v := .int .u8 k) rfl rfl rfl (by kernel_rfl) (by kernel_rfl) (by kernel_rfl) (Or.inl ⟨by rfl, ?_⟩) ?_
        · intro w9 hS
          go_simp
          exact ⟨rfl, hS⟩
        simp only [Act.put, List.setIfInBounds_toArray, List.set_cons_zero, List.set_cons_succ]
        refine det_take (i := 4) (d := some 53) (l' := #[true, true, true, true, true, false, false, false, false, false, false, false, false, false, false, false, false, false, false, false, false, false, false, false, false, false, false, false, false, false, false, false, false, false, false, false, false, false, false, false, false, false, false, false, false, false, false]) (v := .pointer (some ⟨w1.heap.size + 1, k, none⟩)) rfl rfl rfl (by kernel_rfl) (by kernel_rfl) (by kernel_rfl) (Or.inl ⟨by rfl, ?_⟩) ?_
        · intro w9 hS
          have hk11 : (k : Int) < 11 := by omega
          go_simp
          first | exact ⟨rfl, hS⟩ | exact ⟨by simp; omega, hS⟩ | exact ⟨by simp [*], hS⟩
        simp only [Act.put, List.setIfInBounds_toArray, List.set_cons_zero, List.set_cons_succ]
        refine det_take (i := 5) (d := some 54) (l' := #[true, true, true, true, true, true, false, false, false, false, false, false, false, false, false, false, false, false, false, false, false, false, false, false, false, false, false, false, false, false, false, false, false, false, false, false, false, false, false, false, false, false, false, false, false, false, false]) (v := .string (bs T)) rfl rfl rfl (by kernel_rfl) (by kernel_rfl) (by kernel_rfl) (Or.inl ⟨by rfl, ?_⟩) ?_
        · intro w9 hS
          have l0 := hS.bt
          go_simp
          exact ⟨rfl, hS⟩
        simp only [Act.put, List.setIfInBounds_toArray, List.set_cons_zero, List.set_cons_succ]
        refine det_take (i := 6) (d := some 55) (l' := #[true, true, true, true, true, true, true, false, false, false, false, false, false, false, false, false, false, false, false, false, false, false, false, false, false, false, false, false, false, false, false, false, false, false, false, false, false, false, false, false, false, false, false, false, false, false, false]) (v := .bool false) rfl rfl rfl (by kernel_rfl) (by kernel_rfl) (by kernel_rfl) (Or.inl ⟨by rfl, ?_⟩) ?_
        · intro w9 hS
          go_simp
          first | exact ⟨rfl, hS⟩ | exact ⟨by simp, hS⟩
        simp only [Act.put, List.setIfInBounds_toArray, List.set_cons_zero, List.set_cons_succ]
        refine det_take (i := 7) (d := some 56) (l' := #[true, true, true, true, true, true, true, true, false, false, false, false, false, false, false, false, false, false, false, false, false, false, false, false, false, false, false, false, false, false, false, false, false, false, false, false, false, false, false, false, false, false, false, false, false, false, false]) (v := .bool false) rfl rfl rfl (by kernel_rfl) (by kernel_rfl) (by kernel_rfl) (Or.inl ⟨by rfl, ?_⟩) ?_
        · intro w9 hS
          go_simp
          exact ⟨rfl, hS⟩
        simp only [Act.put, List.setIfInBounds_toArray, List.set_cons_zero, List.set_cons_succ]
        refine det_take (i := 8) (d := some 57) (l' := #[true, true, true, true, true, true, true, true, true, false, false, false, false, false, false, false, false, false, false, false, false, false, false, false, false, false, false, false, false, false, false, false, false, false, false, false, false, false, false, false, false, false, false, false, false, false, false]) (v := .agg (callCells (allK k))) rfl rfl rfl (by kernel_rfl) (by kernel_rfl) (by kernel_rfl) (Or.inl ⟨by rfl, ?_⟩) ?_
        · intro w9 hS
          have l0 := hS.ba.cell 0
          have l1 := hS.ba.cell 1
          have l2 := hS.ba.cell 2
          have l3 := hS.ba.cell 3
          have l4 := hS.ba.cell 4
          have l5 := hS.ba.cell 5
          have l6 := hS.ba.cell 6
          simp only [callCells, List.getElem?_toArray, List.getElem?_cons_zero, List.getElem?_cons_succ] at l0 l1 l2 l3 l4 l5 l6
          go_simp
          exact ⟨rfl, hS⟩
        simp only [Act.put, List.setIfInBounds_toArray, List.set_cons_zero, List.set_cons_succ]
        refine det_take (i := 9) (d := some 58) (l' := #[true, true, true, true, true, true, true, true, true, true, false, false, false, false, false, false, false, false, false, false, false, false, false, false, false, false, false, false, false, false, false, false, false, false, false, false, false, false, false, false, false, false, false, false, false, false, false]) (v := .int .i64 1) rfl rfl rfl (by kernel_rfl) (by kernel_rfl) (by kernel_rfl) (Or.inl ⟨by rfl, ?_⟩) ?_
        · intro w9 hS
          go_simp
          refine Calls.mono (may_is (allK k) 1 _ HMy.out) ?_
          rintro e w8 ⟨rfl, hb⟩
          exact ⟨rfl, hS.step hb⟩
        simp only [Act.put, List.setIfInBounds_toArray, List.set_cons_zero, List.set_cons_succ]
        refine det_take (i := 10) (d := some 59) (l' := #[true, true, true, true, true, true, true, true, true, true, true, false, false, false, false, false, false, false, false, false, false, false, false, false, false, false, false, false, false, false, false, false, false, false, false, false, false, false, false, false, false, false, false, false, false, false, false]) (v := .bool false) rfl rfl rfl (by kernel_rfl) (by kernel_rfl) (by kernel_rfl) (Or.inl ⟨by rfl, ?_⟩) ?_
        · intro w9 hS
          go_simp
          first | exact ⟨rfl, hS⟩ | exact ⟨by simp, hS⟩
        simp only [Act.put, List.setIfInBounds_toArray, List.set_cons_zero, List.set_cons_succ]
        refine det_take (i := 11) (d := some 60) (l' := #[true, true, true, true, true, true, true, true, true, true, true, true, false, false, false, false, false, false, false, false, false, false, false, false, false, false, false, false, false, false, false, false, false, false, false, false, false, false, false, false, false, false, false, false, false, false, false]) (v := .bool false) rfl rfl rfl (by kernel_rfl) (by kernel_rfl) (by kernel_rfl) (Or.inl ⟨by rfl, ?_⟩) ?_
        · intro w9 hS
          go_simp
          exact ⟨rfl, hS⟩
        simp only [Act.put, List.setIfInBounds_toArray, List.set_cons_zero, List.set_cons_succ]
        refine det_take (i := 12) (d := some 61) (l' := #[true, true, true, true, true, true, true, true, true, true, true, true, true, false, false, false, false, false, false, false, false, false, false, false, false, false, false, false, false, false, false, false, false, false, false, false, false, false, false, false, false, false, false, false, false, false, false]) (v := .bool false) rfl rfl rfl (by kernel_rfl) (by kernel_rfl) (by kernel_rfl) (Or.inl ⟨by rfl, ?_⟩) ?_
        · intro w9 hS
          go_simp
          first | exact ⟨rfl, hS⟩ | exact ⟨by simp, hS⟩
        simp only [Act.put, List.setIfInBounds_toArray, List.set_cons_zero, List.set_cons_succ]
        refine det_take (i := 13) (d := some 62) (l' := #[true, true, true, true, true, true, true, true, true, true, true, true, true, true, false, false, false, false, false, false, false, false, false, false, false, false, false, false, false, false, false, false, false, false, false, false, false, false, false, false, false, false, false, false, false, false, false]) (v := .bool false) rfl rfl rfl (by kernel_rfl) (by kernel_rfl) (by kernel_rfl) (Or.inl ⟨by rfl, ?_⟩) ?_
        · intro w9 hS
          go_simp
          exact ⟨rfl, hS⟩
        simp only [Act.put, List.setIfInBounds_toArray, List.set_cons_zero, List.set_cons_succ]
        refine det_take (i := 14) (d := some 63) (l' := #[true, true, true, true, true, true, true, true, true, true, true, true, true, true, true, false, false, false, false, false, false, false, false, false, false, false, false, false, false, false, false, false, false, false, false, false, false, false, false, false, false, false, false, false, false, false, false]) (v := .bool false) rfl rfl rfl (by kernel_rfl) (by kernel_rfl) (by kernel_rfl) (Or.inl ⟨by rfl, ?_⟩) ?_
        · intro w9 hS
          go_simp
          exact ⟨rfl, hS⟩
        simp only [Act.put, List.setIfInBounds_toArray, List.set_cons_zero, List.set_cons_succ]
        refine det_take (i := 15) (d := some 64) (l' := #[true, true, true, true, true, true, true, true, true, true, true, true, true, true, true, true, false, false, false, false, false, false, false, false, false, false, false, false, false, false, false, false, false, false, false, false, false, false, false, false, false, false, false, false, false, false, false]) (v := .int .i64 4) rfl rfl rfl (by kernel_rfl) (by kernel_rfl) (by kernel_rfl) (Or.inl ⟨by rfl, ?_⟩) ?_
        · intro w9 hS
          go_simp
          exact ⟨rfl, hS⟩
        simp only [Act.put, List.setIfInBounds_toArray, List.set_cons_zero, List.set_cons_succ]
        refine det_take (i := 16) (d := some 65) (l' := #[true, true, true, true, true, true, true, true, true, true, true, true, true, true, true, true, true, false, false, false, false, false, false, false, false, false, false, false, false, false, false, false, false, false, false, false, false, false, false, false, false, false, false, false, false, false, false]) (v := .bool false) rfl rfl rfl (by kernel_rfl) (by kernel_rfl) (by kernel_rfl) (Or.inl ⟨by rfl, ?_⟩) ?_
        · intro w9 hS
          go_simp
          first | exact ⟨rfl, hS⟩ | exact ⟨by simp, hS⟩
        simp only [Act.put, List.setIfInBounds_toArray, List.set_cons_zero, List.set_cons_succ]
        refine det_take (i := 17) (d := some 66) (l' := #[true, true, true, true, true, true, true, true, true, true, true, true, true, true, true, true, true, true, false, false, false, false, false, false, false, false, false, false, false, false, false, false, false, false, false, false, false, false, false, false, false, false, false, false, false, false, false]) (v := .bool false) rfl rfl rfl (by kernel_rfl) (by kernel_rfl) (by kernel_rfl) (Or.inl ⟨by rfl, ?_⟩) ?_
        · intro w9 hS
          go_simp
          exact ⟨rfl, hS⟩
        simp only [Act.put, List.setIfInBounds_toArray, List.set_cons_zero, List.set_cons_succ]
        refine det_take (i := 18) (d := some 67) (l' := #[true, true, true, true, true, true, true, true, true, true, true, true, true, true, true, true, true, true, true, false, false, false, false, false, false, false, false, false, false, false, false, false, false, false, false, false, false, false, false, false, false, false, false, false, false, false, false]) (v := .bool false) rfl rfl rfl (by kernel_rfl) (by kernel_rfl) (by kernel_rfl) (Or.inl ⟨by rfl, ?_⟩) ?_
        · intro w9 hS
          go_simp
          first | exact ⟨rfl, hS⟩ | exact ⟨by simp, hS⟩
        simp only [Act.put, List.setIfInBounds_toArray, List.set_cons_zero, List.set_cons_succ]
        refine det_take (i := 19) (d := some 68) (l' := #[true, true, true, true, true, true, true, true, true, true, true, true, true, true, true, true, true, true, true, true, false, false, false, false, false, false, false, false, false, false, false, false, false, false, false, false, false, false, false, false, false, false, false, false, false, false, false]) (v := .bool false) rfl rfl rfl (by kernel_rfl) (by kernel_rfl) (by kernel_rfl) (Or.inl ⟨by rfl, ?_⟩) ?_
        · intro w9 hS
          go_simp
          exact ⟨rfl, hS⟩
        simp only [Act.put, List.setIfInBounds_toArray, List.set_cons_zero, List.set_cons_succ]
        refine det_take (i := 20) (d := some 69) (l' := #[true, true, true, true, true, true, true, true, true, true, true, true, true, true, true, true, true, true, true, true, true, false, false, false, false, false, false, false, false, false, false, false, false, false, false, false, false, false, false, false, false, false, false, false, false, false, false]) (v := .bool false) rfl rfl rfl (by kernel_rfl) (by kernel_rfl) (by kernel_rfl) (Or.inl ⟨by rfl, ?_⟩) ?_
        · intro w9 hS
          go_simp
          exact ⟨rfl, hS⟩
        simp only [Act.put, List.setIfInBounds_toArray, List.set_cons_zero, List.set_cons_succ]
        refine det_take (i := 21) (d := some 70) (l' := #[true, true, true, true, true, true, true, true, true, true, true, true, true, true, true, true, true, true, true, true, true, true, false, false, false, false, false, false, false, false, false, false, false, false, false, false, false, false, false, false, false, false, false, false, false, false, false]) (v := .bool false) rfl rfl rfl (by kernel_rfl) (by kernel_rfl) (by kernel_rfl) (Or.inl ⟨by rfl, ?_⟩) ?_
        · intro w9 hS
          go_simp
          exact ⟨rfl, hS⟩
        simp only [Act.put, List.setIfInBounds_toArray, List.set_cons_zero, List.set_cons_succ]
        refine det_take (i := 22) (d := some 71) (l' := #[true, true, true, true, true, true, true, true, true, true, true, true, true, true, true, true, true, true, true, true, true, true, true, false, false, false, false, false, false, false, false, false, false, false, false, false, false, false, false, false, false, false, false, false, false, false, false]) (v := .bool false) rfl rfl rfl (by kernel_rfl) (by kernel_rfl) (by kernel_rfl) (Or.inl ⟨by rfl, ?_⟩) ?_
        · intro w9 hS
          go_simp
          exact ⟨rfl, hS⟩
        simp only [Act.put, List.setIfInBounds_toArray, List.set_cons_zero, List.set_cons_succ]
        refine det_take (i := 23) (d := some 72) (l' := #[true, true, true, true, true, true, true, true, true, true, true, true, true, true, true, true, true, true, true, true, true, true, true, true, false, false, false, false, false, false, false, false, false, false, false, false, false, false, false, false, false, false, false, false, false, false, false]) (v := undef) rfl rfl rfl (by kernel_rfl) (by kernel_rfl) (by kernel_rfl) (Or.inr ⟨by rfl, rfl⟩) ?_
        simp only [Act.put, List.setIfInBounds_toArray, List.set_cons_zero, List.set_cons_succ]
        refine det_take (i := 24) (d := some 73) (l' := #[true, true, true, true, true, true, true, true, true, true, true, true, true, true, true, true, true, true, true, true, true, true, true, true, true, false, false, false, false, false, false, false, false, false, false, false, false, false, false, false, false, false, false, false, false, false, false]) (v := undef) rfl rfl rfl (by kernel_rfl) (by kernel_rfl) (by kernel_rfl) (Or.inr ⟨by rfl, rfl⟩) ?_
        simp only [Act.put, List.setIfInBounds_toArray, List.set_cons_zero, List.set_cons_succ]
        refine det_take (i := 25) (d := some 74) (l' := #[true, true, true, true, true, true, true, true, true, true, true, true, true, true, true, true, true, true, true, true, true, true, true, true, true, true, false, false, false, false, false, false, false, false, false, false, false, false, false, false, false, false, false, false, false, false, false]) (v := undef) rfl rfl rfl (by kernel_rfl) (by kernel_rfl) (by kernel_rfl) (Or.inr ⟨by rfl, rfl⟩) ?_
        simp only [Act.put, List.setIfInBounds_toArray, List.set_cons_zero, List.set_cons_succ]
        refine det_take (i := 26) (d := some 75) (l' := #[true, true, true, true, true, true, true, true, true, true, true, true, true, true, true, true, true, true, true, true, true, true, true, true, true, true, true, false, false, false, false, false, false, false, false, false, false, false, false, false, false, false, false, false, false, false, false]) (v := undef) rfl rfl rfl (by kernel_rfl) (by kernel_rfl) (by kernel_rfl) (Or.inr ⟨by rfl, rfl⟩) ?_
        simp only [Act.put, List.setIfInBounds_toArray, List.set_cons_zero, List.set_cons_succ]
        refine det_take (i := 27) (d := some 76) (l' := #[true, true, true, true, true, true, true, true, true, true, true, true, true, true, true, true, true, true, true, true, true, true, true, true, true, true, true, true, false, false, false, false, false, false, false, false, false, false, false, false, false, false, false, false, false, false, false]) (v := .bool false) rfl rfl rfl (by kernel_rfl) (by kernel_rfl) (by kernel_rfl) (Or.inl ⟨by rfl, ?_⟩) ?_
        · intro w9 hS
          go_simp
          exact ⟨rfl, hS⟩
        simp only [Act.put, List.setIfInBounds_toArray, List.set_cons_zero, List.set_cons_succ]
        refine det_take (i := 28) (d := some 77) (l' := #[true, true, true, true, true, true, true, true, true, true, true, true, true, true, true, true, true, true, true, true, true, true, true, true, true, true, true, true, true, false, false, false, false, false, false, false, false, false, false, false, false, false, false, false, false, false, false]) (v := .bool false) rfl rfl rfl (by kernel_rfl) (by kernel_rfl) (by kernel_rfl) (Or.inl ⟨by rfl, ?_⟩) ?_
        · intro w9 hS
          go_simp
          exact ⟨rfl, hS⟩
        simp only [Act.put, List.setIfInBounds_toArray, List.set_cons_zero, List.set_cons_succ]
        refine det_take (i := 29) (d := some 78) (l' := #[true, true, true, true, true, true, true, true, true, true, true, true, true, true, true, true, true, true, true, true, true, true, true, true, true, true, true, true, true, true, false, false, false, false, false, false, false, false, false, false, false, false, false, false, false, false, false]) (v := .bool false) rfl rfl rfl (by kernel_rfl) (by kernel_rfl) (by kernel_rfl) (Or.inl ⟨by rfl, ?_⟩) ?_
        · intro w9 hS
          go_simp
          exact ⟨rfl, hS⟩
        simp only [Act.put, List.setIfInBounds_toArray, List.set_cons_zero, List.set_cons_succ]
        refine det_take (i := 30) (d := some 79) (l' := #[true, true, true, true, true, true, true, true, true, true, true, true, true, true, true, true, true, true, true, true, true, true, true, true, true, true, true, true, true, true, true, false, false, false, false, false, false, false, false, false, false, false, false, false, false, false, false]) (v := .int .u8 k) rfl rfl rfl (by kernel_rfl) (by kernel_rfl) (by kernel_rfl) (Or.inl ⟨by rfl, ?_⟩) ?_
        · intro w9 hS
          go_simp
          exact ⟨rfl, hS⟩
        simp only [Act.put, List.setIfInBounds_toArray, List.set_cons_zero, List.set_cons_succ]
        refine det_take (i := 31) (d := some 80) (l' := #[true, true, true, true, true, true, true, true, true, true, true, true, true, true, true, true, true, true, true, true, true, true, true, true, true, true, true, true, true, true, true, true, false, false, false, false, false, false, false, false, false, false, false, false, false, false, false]) (v := .bool false) rfl rfl rfl (by kernel_rfl) (by kernel_rfl) (by kernel_rfl) (Or.inl ⟨by rfl, ?_⟩) ?_
        · intro w9 hS
          go_simp
          refine Calls.mono (needs_is k false _ HNd.out) ?_
          rintro e w8 ⟨rfl, hb⟩
          exact ⟨rfl, hS.step hb⟩
        simp only [Act.put, List.setIfInBounds_toArray, List.set_cons_zero, List.set_cons_succ]
        refine det_take (i := 32) (d := some 81) (l' := #[true, true, true, true, true, true, true, true, true, true, true, true, true, true, true, true, true, true, true, true, true, true, true, true, true, true, true, true, true, true, true, true, true, false, false, false, false, false, false, false, false, false, false, false, false, false, false]) (v := .int .u8 k) rfl rfl rfl (by kernel_rfl) (by kernel_rfl) (by kernel_rfl) (Or.inl ⟨by rfl, ?_⟩) ?_
        · intro w9 hS
          go_simp
          exact ⟨rfl, hS⟩
        simp only [Act.put, List.setIfInBounds_toArray, List.set_cons_zero, List.set_cons_succ]
        refine det_take (i := 33) (d := some 82) (l' := #[true, true, true, true, true, true, true, true, true, true, true, true, true, true, true, true, true, true, true, true, true, true, true, true, true, true, true, true, true, true, true, true, true, true, false, false, false, false, false, false, false, false, false, false, false, false, false]) (v := .bool true) rfl rfl rfl (by kernel_rfl) (by kernel_rfl) (by kernel_rfl) (Or.inl ⟨by rfl, ?_⟩) ?_
        · intro w9 hS
          go_simp
          first | exact ⟨rfl, hS⟩ | exact ⟨by simp; omega, hS⟩ | exact ⟨by simp [*], hS⟩
        simp only [Act.put, List.setIfInBounds_toArray, List.set_cons_zero, List.set_cons_succ]
        refine det_take (i := 34) (d := some 83) (l' := #[true, true, true, true, true, true, true, true, true, true, true, true, true, true, true, true, true, true, true, true, true, true, true, true, true, true, true, true, true, true, true, true, true, true, true, false, false, false, false, false, false, false, false, false, false, false, false]) (v := .bool true) rfl rfl rfl (by kernel_rfl) (by kernel_rfl) (by kernel_rfl) (Or.inl ⟨by rfl, ?_⟩) ?_
        · intro w9 hS
          go_simp
          exact ⟨rfl, hS⟩
        simp only [Act.put, List.setIfInBounds_toArray, List.set_cons_zero, List.set_cons_succ]
        refine det_take (i := 35) (d := some 84) (l' := #[true, true, true, true, true, true, true, true, true, true, true, true, true, true, true, true, true, true, true, true, true, true, true, true, true, true, true, true, true, true, true, true, true, true, true, true, false, false, false, false, false, false, false, false, false, false, false]) (v := .int .u8 k) rfl rfl rfl (by kernel_rfl) (by kernel_rfl) (by kernel_rfl) (Or.inl ⟨by rfl, ?_⟩) ?_
        · intro w9 hS
          go_simp
          exact ⟨rfl, hS⟩
        simp only [Act.put, List.setIfInBounds_toArray, List.set_cons_zero, List.set_cons_succ]
        refine det_take (i := 36) (d := some 85) (l' := #[true, true, true, true, true, true, true, true, true, true, true, true, true, true, true, true, true, true, true, true, true, true, true, true, true, true, true, true, true, true, true, true, true, true, true, true, true, false, false, false, false, false, false, false, false, false, false]) (v := .bool false) rfl rfl rfl (by kernel_rfl) (by kernel_rfl) (by kernel_rfl) (Or.inl ⟨by rfl, ?_⟩) ?_
        · intro w9 hS
          go_simp
          first | exact ⟨rfl, hS⟩ | exact ⟨by simp; omega, hS⟩ | exact ⟨by simp [*], hS⟩
        simp only [Act.put, List.setIfInBounds_toArray, List.set_cons_zero, List.set_cons_succ]
        refine det_take (i := 37) (d := some 86) (l' := #[true, true, true, true, true, true, true, true, true, true, true, true, true, true, true, true, true, true, true, true, true, true, true, true, true, true, true, true, true, true, true, true, true, true, true, true, true, true, false, false, false, false, false, false, false, false, false]) (v := .bool false) rfl rfl rfl (by kernel_rfl) (by kernel_rfl) (by kernel_rfl) (Or.inl ⟨by rfl, ?_⟩) ?_
        · intro w9 hS
          go_simp
          exact ⟨rfl, hS⟩
        simp only [Act.put, List.setIfInBounds_toArray, List.set_cons_zero, List.set_cons_succ]
        refine det_take (i := 38) (d := some 87) (l' := #[true, true, true, true, true, true, true, true, true, true, true, true, true, true, true, true, true, true, true, true, true, true, true, true, true, true, true, true, true, true, true, true, true, true, true, true, true, true, true, false, false, false, false, false, false, false, false]) (v := .bool false) rfl rfl rfl (by kernel_rfl) (by kernel_rfl) (by kernel_rfl) (Or.inl ⟨by rfl, ?_⟩) ?_
        · intro w9 hS
          go_simp
          first | exact ⟨rfl, hS⟩ | exact ⟨by simp, hS⟩
        simp only [Act.put, List.setIfInBounds_toArray, List.set_cons_zero, List.set_cons_succ]
        refine det_take (i := 39) (d := some 88) (l' := #[true, true, true, true, true, true, true, true, true, true, true, true, true, true, true, true, true, true, true, true, true, true, true, true, true, true, true, true, true, true, true, true, true, true, true, true, true, true, true, true, false, false, false, false, false, false, false]) (v := .bool false) rfl rfl rfl (by kernel_rfl) (by kernel_rfl) (by kernel_rfl) (Or.inl ⟨by rfl, ?_⟩) ?_
        · intro w9 hS
          go_simp
          exact ⟨rfl, hS⟩
        simp only [Act.put, List.setIfInBounds_toArray, List.set_cons_zero, List.set_cons_succ]
        refine det_take (i := 40) (d := some 89) (l' := #[true, true, true, true, true, true, true, true, true, true, true, true, true, true, true, true, true, true, true, true, true, true, true, true, true, true, true, true, true, true, true, true, true, true, true, true, true, true, true, true, true, false, false, false, false, false, false]) (v := .bool false) rfl rfl rfl (by kernel_rfl) (by kernel_rfl) (by kernel_rfl) (Or.inl ⟨by rfl, ?_⟩) ?_
        · intro w9 hS
          go_simp
          exact ⟨rfl, hS⟩
        simp only [Act.put, List.setIfInBounds_toArray, List.set_cons_zero, List.set_cons_succ]
        refine det_take (i := 41) (d := some 90) (l' := #[true, true, true, true, true, true, true, true, true, true, true, true, true, true, true, true, true, true, true, true, true, true, true, true, true, true, true, true, true, true, true, true, true, true, true, true, true, true, true, true, true, true, false, false, false, false, false]) (v := .agg (callCells (allK k))) rfl rfl rfl (by kernel_rfl) (by kernel_rfl) (by kernel_rfl) (Or.inl ⟨by rfl, ?_⟩) ?_
        · intro w9 hS
          have l0 := hS.ba.cell 0
          have l1 := hS.ba.cell 1
          have l2 := hS.ba.cell 2
          have l3 := hS.ba.cell 3
          have l4 := hS.ba.cell 4
          have l5 := hS.ba.cell 5
          have l6 := hS.ba.cell 6
          simp only [callCells, List.getElem?_toArray, List.getElem?_cons_zero, List.getElem?_cons_succ] at l0 l1 l2 l3 l4 l5 l6
          go_simp
          exact ⟨rfl, hS⟩
        simp only [Act.put, List.setIfInBounds_toArray, List.set_cons_zero, List.set_cons_succ]
        refine det_take (i := 42) (d := some 91) (l' := #[true, true, true, true, true, true, true, true, true, true, true, true, true, true, true, true, true, true, true, true, true, true, true, true, true, true, true, true, true, true, true, true, true, true, true, true, true, true, true, true, true, true, true, false, false, false, false]) (v := .agg (callCells (allK k))) rfl rfl rfl (by kernel_rfl) (by kernel_rfl) (by kernel_rfl) (Or.inl ⟨by rfl, ?_⟩) ?_
        · intro w9 hS
          have l0 := hS.ba.cell 0
          have l1 := hS.ba.cell 1
          have l2 := hS.ba.cell 2
          have l3 := hS.ba.cell 3
          have l4 := hS.ba.cell 4
          have l5 := hS.ba.cell 5
          have l6 := hS.ba.cell 6
          simp only [callCells, List.getElem?_toArray, List.getElem?_cons_zero, List.getElem?_cons_succ] at l0 l1 l2 l3 l4 l5 l6
          go_simp
          exact ⟨rfl, hS⟩
        simp only [Act.put, List.setIfInBounds_toArray, List.set_cons_zero, List.set_cons_succ]
        refine det_take (i := 43) (d := some 92) (l' := #[true, true, true, true, true, true, true, true, true, true, true, true, true, true, true, true, true, true, true, true, true, true, true, true, true, true, true, true, true, true, true, true, true, true, true, true, true, true, true, true, true, true, true, true, false, false, false]) (v := .agg (callCells (cleanF (allK k)))) rfl rfl rfl (by kernel_rfl) (by kernel_rfl) (by kernel_rfl) (Or.inl ⟨by rfl, ?_⟩) ?_
        · intro w9 hS
          go_simp
          refine Calls.mono (clean_val (allK k) _) ?_
          rintro e w8 ⟨rfl, hb⟩
          exact ⟨rfl, hS.step hb⟩
        simp only [Act.put, List.setIfInBounds_toArray, List.set_cons_zero, List.set_cons_succ]
        refine det_take (i := 44) (d := some 93) (l' := #[true, true, true, true, true, true, true, true, true, true, true, true, true, true, true, true, true, true, true, true, true, true, true, true, true, true, true, true, true, true, true, true, true, true, true, true, true, true, true, true, true, true, true, true, true, false, false]) (v := .bool true) rfl rfl rfl (by kernel_rfl) (by kernel_rfl) (by kernel_rfl) (Or.inl ⟨by rfl, ?_⟩) ?_
        · intro w9 hS
          go_simp
          refine Calls.mono (same_is (allK k) (cleanF (allK k)) true _ HSm.out) ?_
          rintro e w8 ⟨rfl, hb⟩
          exact ⟨rfl, hS.step hb⟩
        simp only [Act.put, List.setIfInBounds_toArray, List.set_cons_zero, List.set_cons_succ]
        refine det_take (i := 45) (d := some 94) (l' := #[true, true, true, true, true, true, true, true, true, true, true, true, true, true, true, true, true, true, true, true, true, true, true, true, true, true, true, true, true, true, true, true, true, true, true, true, true, true, true, true, true, true, true, true, true, true, false]) (v := .bool false) rfl rfl rfl (by kernel_rfl) (by kernel_rfl) (by kernel_rfl) (Or.inl ⟨by rfl, ?_⟩) ?_
        · intro w9 hS
          go_simp
          first | exact ⟨rfl, hS⟩ | exact ⟨by simp, hS⟩
        simp only [Act.put, List.setIfInBounds_toArray, List.set_cons_zero, List.set_cons_succ]
        refine det_take (i := 46) (d := some 95) (l' := #[true, true, true, true, true, true, true, true, true, true, true, true, true, true, true, true, true, true, true, true, true, true, true, true, true, true, true, true, true, true, true, true, true, true, true, true, true, true, true, true, true, true, true, true, true, true, true]) (v := .bool false) rfl rfl rfl (by kernel_rfl) (by kernel_rfl) (by kernel_rfl) (Or.inl ⟨by rfl, ?_⟩) ?_
        · intro w9 hS
          go_simp
          exact ⟨rfl, hS⟩
        simp only [Act.put, List.setIfInBounds_toArray, List.set_cons_zero, List.set_cons_succ]
        refine det_done (by kernel_rfl) ?_ _
        intro w5 hS
        have HS5 := Lib.hid hS.nm
        clear hS HB
        go_wp2
        go_roundw
        case rel => exact ⟨k + 1, k, by omega, by go_num, HS5⟩
        case measure => simp [intOf]; omega
    · obtain rfl : k = 11 := by omega
      clear hk hlt
      rw [show ((11 : Nat) : Int) = 11 from rfl]
      have a0 := HS.out.ba.cell 0
      have f0 := HS.out.ba.free 0
      simp only [callCells, List.getElem?_toArray, List.getElem?_cons_zero] at a0
      have HS := Lib.hid (HS.out.put (j := 0) (v := .int .u8 9) (c' := ⟨9, -3, [107], [255, 0], [118], 7, 2⟩) rfl)
      have HS2 : Hid (NmT w w1.heap.size (w1.heap.size + 1) (migE 2) wo.heap.size engCells 5 ((wo.setCell ⟨w1.heap.size, 0, none⟩ (.int .u8 9)).alloc (.cells engCells 5))) := Lib.hid
        ⟨HS.out.step (below_new _ _), by have := HS0x.out; omega, by
          have := Blk.new (wo.setCell ⟨w1.heap.size, 0, none⟩ (.int .u8 9)) engCells 5
          rwa [show (wo.setCell ⟨w1.heap.size, 0, none⟩ (.int .u8 9)).heap.size = wo.heap.size by simp [World.setCell]] at this⟩
      clear HS
      go_wp2_with fail
      clear a0 f0
      go_loopw [99] (fun i wr => ∃ k e : Nat, k ≤ 3 ∧ i = .int .i64 k ∧ Hid (NmT w w1.heap.size (w1.heap.size + 1) (migE e) wo.heap.size engCells 5 wr)) (fun i _ => 3 - (intOf i).toNat)
      case atStart => exact ⟨0, 2, Nat.zero_le _, rfl, HS2⟩
      case round =>
        obtain ⟨k, e0, hk, rfl, HT⟩ := hrel
        clear HS2
        obtain ⟨wq, rfl⟩ : ∃ wq : World, wq = wr := ⟨_, rfl⟩
        by_cases hlt : k < 3
        · obtain ⟨e1, hrow, hmy, hsh, he⟩ := eng_row k hlt
          have hc : wq.cell? ⟨wo.heap.size, k, none⟩ = some (.int .u8 e1) := (HT.out.bl.cell k).trans hrow
          have a0 := HT.out.nm.ba.cell 0
          have a1 := HT.out.nm.ba.cell 1
          have a2 := HT.out.nm.ba.cell 2
          have a3 := HT.out.nm.ba.cell 3
          have a4 := HT.out.nm.ba.cell 4
          have a5 := HT.out.nm.ba.cell 5
          have a6 := HT.out.nm.ba.cell 6
          simp only [callCells, migE, List.getElem?_toArray, List.getElem?_cons_zero, List.getElem?_cons_succ] at a0 a1 a2 a3 a4 a5 a6
          have f6 := HT.out.nm.ba.free 6
          have HT := Lib.hid (HT.out.put (j := 6) (v := .int .u8 e1) (c' := migE e1) rfl)
          have HMy := Lib.hid hmy
          have HSh := Lib.hid hsh
          clear hrow hmy hsh
          go_wp2_with fail
          refine (may_is (migE e1) 1 _ HMy.out).mono ?_
          rintro e w4 ⟨rfl, hb4⟩
          have HT := Lib.hid (HT.out.step hb4)
          clear hb4 hc f6 a0 a1 a2 a3 a4 a5 a6
          have a0 := HT.out.nm.ba.cell 0
          have a1 := HT.out.nm.ba.cell 1
          have a2 := HT.out.nm.ba.cell 2
          have a3 := HT.out.nm.ba.cell 3
          have a4 := HT.out.nm.ba.cell 4
          have a5 := HT.out.nm.ba.cell 5
          have a6 := HT.out.nm.ba.cell 6
          simp only [callCells, migE, List.getElem?_toArray, List.getElem?_cons_zero, List.getElem?_cons_succ] at a0 a1 a2 a3 a4 a5 a6
          go_wp2_with fail
          refine (show_is (migE e1) [] _ HT.out.nm.env (migE_ok e1) HSh.out).mono ?_
          rintro e w5 ⟨rfl, hb5⟩
          have HT := Lib.hid (HT.out.step hb5)
          clear hb5 a0 a1 a2 a3 a4 a5 a6
          go_wp2
          go_roundw
          case rel => exact ⟨k + 1, e1, by omega, by go_num, HT⟩
          case measure => simp [intOf]; omega
        · obtain rfl : k = 3 := by omega
          clear hk hlt
          rw [show ((3 : Nat) : Int) = 3 from rfl]
          have HS3 : Hid (Tab w wq.heap.size noneCells 9 (wq.alloc (.cells noneCells 9))) := Lib.hid ⟨HT.out.nm.below.alloc HT.out.nm.below.size _, HE.out, Blk.new _ _ _⟩
          clear HT
          go_wp2_with fail
          go_loopw [116] (fun i wr => ∃ k : Nat, k ≤ 26 ∧ i = .int .i64 k ∧ Hid (Tab w wq.heap.size noneCells 9 wr)) (fun i _ => 26 - (intOf i).toNat)
          case atStart => exact ⟨0, Nat.zero_le _, rfl, HS3⟩
          case round =>
            obtain ⟨k, hk, rfl, HT⟩ := hrel
            clear HS3
            obtain ⟨wu, rfl⟩ : ∃ wu : World, wu = wr := ⟨_, rfl⟩
            by_cases hlt : k < 26
            · obtain ⟨T, hrow, hpz, hpe, hTl⟩ := none_row k hlt
              have hc : wu.cell? ⟨wq.heap.size, k, none⟩ = some (.string (bs T)) := (HT.out.bl.cell k).trans hrow
              have HPz := Lib.hid hpz
              have HPe := Lib.hid hpe
              clear hrow hpz hpe
              go_wp2_with fail
              refine (parse_at T noCall 4 _ HT.out.env (by omega) HPz.out HPe.out).mono ?_
              rintro e w4 ⟨rfl, hb4⟩
              have HT := Lib.hid ((HT.out.step hb4).step (below_new w4 (.cells (callCells noCall) 38)))
              clear hb4 hc
              unfold callV callCells noCall
              unfold callCells noCall at HT
              go_wp2_with fail
              go_roundw
              case rel => exact ⟨k + 1, by omega, by go_num, HT⟩
              case measure => simp [intOf]; omega
            · obtain rfl : k = 26 := by omega
              clear hk hlt
              rw [show ((26 : Nat) : Int) = 26 from rfl]
              have HS4 : Hid (Tab w wu.heap.size answCells 9 (wu.alloc (.cells answCells 9))) := Lib.hid ⟨HT.out.below.alloc HT.out.below.size _, HE.out, Blk.new _ _ _⟩
              clear HT
              go_wp2_with fail
              go_loopw [135] (fun i wr => ∃ k : Nat, k ≤ 11 ∧ i = .int .i64 k ∧ Hid (Tab w wu.heap.size answCells 9 wr)) (fun i _ => 11 - (intOf i).toNat)
              case atStart => exact ⟨0, Nat.zero_le _, rfl, HS4⟩
              case round =>
                obtain ⟨k, hk, rfl, HT⟩ := hrel
                clear HS4
                obtain ⟨wv, rfl⟩ : ∃ wv : World, wv = wr := ⟨_, rfl⟩
                by_cases hlt : k < 11
                · obtain ⟨T, hrow, hpz, hpe, hTl⟩ := answ_row k hlt
                  have hc : wv.cell? ⟨wu.heap.size, k, none⟩ = some (.string (bs T)) := (HT.out.bl.cell k).trans hrow
                  have HPz := Lib.hid hpz
                  have HPe := Lib.hid hpe
                  clear hrow hpz hpe
                  go_wp2_with fail
                  refine (read_at T noAns 4 _ HT.out.env (by omega) HPz.out HPe.out).mono ?_
                  rintro e w4 ⟨A, n, c, rfl, hp4, hb4⟩
                  have HT := Lib.hid ((HT.out.step hb4).step (below_new w4 (.cells (ansCells noAns (.slice A n c)) 25)))
                  have HP4 := Lib.hid (hp4.below (below_new w4 (.cells (ansCells noAns (.slice A n c)) 25)))
                  clear hb4 hc hp4
                  unfold ansVV ansCells noAns
                  go_wp2_with fail
                  refine (answers_same noAns (.slice A n c) (.slice none 0 0) _ noAns_ok HP4.out ⟨none, 0, rfl, Nat.le_refl _, Nat.zero_le _, fun j p hj => by simp [noAns] at hj⟩).mono ?_
                  rintro e w5 ⟨rfl, hb5⟩
                  have HT := Lib.hid (HT.out.step hb5)
                  clear hb5 HP4
                  go_wp2_with fail
                  go_roundw
                  case rel => exact ⟨k + 1, by omega, by go_num, HT⟩
                  case measure => simp [intOf]; omega
                · obtain rfl : k = 11 := by omega
                  clear hk hlt
                  rw [show ((11 : Nat) : Int) = 11 from rfl]
                  go_wp2_with fail
                  refine (read_at litA ansA 0 _ HT.out.env (by decide) lit_ra lit_re).mono ?_
                  rintro e w4 ⟨A, n, c, rfl, hp4, hb4⟩
                  have HF := Lib.hid (HT.out.step hb4).below
                  obtain ⟨A', c', ev, hc1, hc2, hcell⟩ := hp4
                  injection ev with ev1 ev2 ev3
                  subst ev1 ev3
                  obtain rfl : n = 2 := ev2
                  obtain ⟨b, off, rfl, k00, _⟩ := hcell 0 ([97], []) rfl
                  obtain ⟨b', off', eA, _, k11⟩ := hcell 1 ([], [98]) rfl
                  simp only [Option.some.injEq, Addr.mk.injEq, and_true] at eA
                  obtain ⟨rfl, rfl⟩ := eA
                  have k0 := kcell k00 (below_new w4 (.cells (ansCells ansA (.slice (some ⟨b, off, none⟩) 2 c)) 25))
                  have k1 := kcell k11 (below_new w4 (.cells (ansCells ansA (.slice (some ⟨b, off, none⟩) 2 c)) 25))
                  simp only [strV, Nat.zero_mul, Nat.add_zero, Nat.one_mul] at k0 k1
                  have HF2 := Lib.hid (HF.out.trans ((below_new w4 (.cells (ansCells ansA (.slice (some ⟨b, off, none⟩) 2 c)) 25)).mono HF.out.size))
                  clear hcell k00 k11 hb4 HT HF
                  unfold ansVV ansCells ansA
                  unfold ansCells ansA at k0 k1 HF2
                  go_wp2_with fail
                  refine (fits_law _).mono ?_
                  rintro e w5 ⟨rfl, hb5⟩
                  have HF3 := Lib.hid (HF2.out.trans (hb5.mono HF2.out.size))
                  clear hb5 k0 k1
                  go_wp2_with fail
                  go_ret
                  exact Ret.of rfl HF3.out
end Go.Proofs.YthhhdddojmkgnaaGreatDoor
