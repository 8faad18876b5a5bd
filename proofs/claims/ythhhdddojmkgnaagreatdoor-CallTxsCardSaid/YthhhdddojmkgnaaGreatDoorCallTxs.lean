/-
  The law CallTxs: its states, and what each call makes of them.
-/
import Derived.Test.YthhhdddojmkgnaaGreatDoorCallTx
import Derived.Test.YthhhdddojmkgnaaGreatDoorCallIa
import Derived.Deep.Upon
namespace Go.Proofs.YthhhdddojmkgnaaGreatDoor
open Go.RowKit

theorem IntsAt.get {w : World} {A : Option Addr} {n c : Nat} {zs : List Int} (h : IntsAt w A n c zs) {k : Nat} (hk : k < n) : ∃ ad, A = some ad ∧ w.cell? (ad.add k) = some (.int .i64 (zs.getD k 0)) := by
  obtain ⟨_, _, h3, h4⟩ := h
  cases A with
  | none => have := (h3 rfl).1; omega
  | some ad => exact ⟨ad, rfl, h4 ad rfl k hk⟩

/-- One Txs, of new memory. -/
def St1 (w : World) (bt : Nat) (zs : List Int) (wr : World) : Prop := (∃ ot, TxAt wr bt ot zs ∧ ∀ g, ot = some g → w.heap.size ≤ g) ∧ Below w.heap.size w wr
/-- Two Txs, of new memory, that share nothing. -/
def St2 (w : World) (bt bc : Nat) (ts cs : List Int) (wr : World) : Prop :=
  ∃ ot oc, TxAt wr bt ot ts ∧ TxAt wr bc oc cs ∧ (∀ g, ot = some g → w.heap.size ≤ g ∧ g ≠ bc ∧ oc ≠ some g) ∧ (∀ g, oc = some g → w.heap.size ≤ g ∧ g ≠ bt) ∧ Below w.heap.size w wr

theorem St1.add {w : World} {bt : Nat} {zs : List Int} {wr : World} (h : St1 w bt zs wr) (hbt : w.heap.size ≤ bt) (hz : zs.length ≤ 100000) (x : Int) :
    Calls Tryz.prog 31 #[.pointer (some ⟨bt, 0, none⟩), .int .i64 x] wr fun e w' => e = .returned (.tuple #[]) ∧ St1 w bt (zs ++ [x]) w' := by
  obtain ⟨⟨ot, ht, ho⟩, hB⟩ := h
  refine (add_any bt ot zs x wr ht hz).mono ?_
  rintro e w' ⟨rfl, g, h1, h2, h3⟩
  have hs := hB.size
  refine ⟨rfl, ⟨some g, h1, fun k hk => ?_⟩, h3.below hB hs fun k hk => ?_⟩
  · cases hk
    rcases h2 with h2 | h2
    · exact ho _ h2
    · omega
  · rcases hk with rfl | hk
    · exact hbt
    · exact ho k hk.symm

theorem St1.copy {w : World} {bt : Nat} {zs : List Int} {wr : World} (h : St1 w bt zs wr) (hz : zs.length ≤ 100000) :
    Calls Tryz.prog 34 #[.pointer (some ⟨bt, 0, none⟩)] wr fun e w' => ∃ bc, e = .returned (.pointer (some ⟨bc, 0, none⟩)) ∧ w.heap.size ≤ bc ∧ bc ≠ bt ∧ St2 w bt bc zs zs w' := by
  obtain ⟨⟨ot, ht, ho⟩, hB⟩ := h
  refine (copy_any bt ot zs wr ht hz).mono ?_
  rintro e w' ⟨bc, oc, rfl, h1, h2, h3, h4⟩
  have hs := hB.size
  have hlt := ht.lt
  refine ⟨bc, rfl, by omega, by omega, ot, oc, ht.below h4, h1, fun g hg => ?_, fun g hg => ?_, hB.trans (h4.mono hs)⟩
  · have := (ht.own g hg).1
    refine ⟨ho g hg, by omega, fun e => ?_⟩
    have := h3 g e
    omega
  · have := h3 g hg
    exact ⟨by omega, by omega⟩

theorem St2.addC {w : World} {bt bc : Nat} {ts cs : List Int} {wr : World} (h : St2 w bt bc ts cs wr) (hbc : w.heap.size ≤ bc) (hne : bc ≠ bt) (hz : cs.length ≤ 100000) (x : Int) :
    Calls Tryz.prog 31 #[.pointer (some ⟨bc, 0, none⟩), .int .i64 x] wr fun e w' => e = .returned (.tuple #[]) ∧ St2 w bt bc ts (cs ++ [x]) w' := by
  obtain ⟨ot, oc, ht, hc, ho, ho', hB⟩ := h
  refine (add_any bc oc cs x wr hc hz).mono ?_
  rintro e w' ⟨rfl, g, h1, h2, h3⟩
  have hs := hB.size
  have hbt := ht.lt
  refine ⟨rfl, ot, some g, ht.kep h3 (fun hS => ?_) (fun k hk hS => ?_), h1, fun k hk => ⟨(ho k hk).1, (ho k hk).2.1, fun e => ?_⟩, fun k hk => ?_, h3.below hB hs fun k hk => ?_⟩
  · rcases hS with hS | hS
    · exact hne hS.symm
    · exact (ho' _ hS.symm).2 rfl
  · rcases hS with hS | hS
    · exact (ho k hk).2.1 hS
    · exact (ho k hk).2.2 hS.symm
  · have e' : g = k := Option.some.inj e
    have := (ht.own k hk).1
    rcases h2 with h2 | h2
    · exact (ho k hk).2.2 (e' ▸ h2)
    · omega
  · cases hk
    rcases h2 with h2 | h2
    · exact ho' _ h2
    · exact ⟨by omega, by omega⟩
  · rcases hk with rfl | hk
    · exact hbc
    · exact (ho' k hk.symm).1

theorem St2.addT {w : World} {bt bc : Nat} {ts cs : List Int} {wr : World} (h : St2 w bt bc ts cs wr) (hbt : w.heap.size ≤ bt) (hne : bc ≠ bt) (hz : ts.length ≤ 100000) (x : Int) :
    Calls Tryz.prog 31 #[.pointer (some ⟨bt, 0, none⟩), .int .i64 x] wr fun e w' => e = .returned (.tuple #[]) ∧ St2 w bt bc (ts ++ [x]) cs w' := by
  obtain ⟨ot, oc, ht, hc, ho, ho', hB⟩ := h
  refine (add_any bt ot ts x wr ht hz).mono ?_
  rintro e w' ⟨rfl, g, h1, h2, h3⟩
  have hs := hB.size
  have hbc := hc.lt
  refine ⟨rfl, some g, oc, h1, hc.kep h3 (fun hS => ?_) (fun k hk hS => ?_), fun k hk => ?_, fun k hk => ho' k hk, h3.below hB hs fun k hk => ?_⟩
  · rcases hS with hS | hS
    · exact hne hS
    · exact (ho _ hS.symm).2.1 rfl
  · rcases hS with hS | hS
    · exact (ho' k hk).2 hS
    · exact (ho k hS.symm).2.2 hk
  · cases hk
    rcases h2 with h2 | h2
    · exact ho _ h2
    · refine ⟨by omega, by omega, fun e => ?_⟩
      have := (hc.own _ e).1
      omega
  · rcases hk with rfl | hk
    · exact hbt
    · exact (ho k hk.symm).1

theorem St2.below {w : World} {bt bc : Nat} {ts cs : List Int} {wr w' : World} (h : St2 w bt bc ts cs wr) (hb : Below wr.heap.size wr w') : St2 w bt bc ts cs w' := by
  obtain ⟨ot, oc, ht, hc, ho, ho', hB⟩ := h
  exact ⟨ot, oc, ht.below hb, hc.below hb, ho, ho', hB.trans (hb.mono hB.size)⟩
theorem St2.len1 {w : World} {bt bc : Nat} {ts cs : List Int} {wr : World} (h : St2 w bt bc ts cs wr) : Calls Tryz.prog 33 #[.pointer (some ⟨bt, 0, none⟩)] wr fun e w' => e = .returned (.int .i64 ts.length) ∧ w' = wr := by
  obtain ⟨ot, oc, ht, hc, ho, ho', hB⟩ := h
  exact len_any bt ot ts wr ht
theorem St2.len2 {w : World} {bt bc : Nat} {ts cs : List Int} {wr : World} (h : St2 w bt bc ts cs wr) : Calls Tryz.prog 33 #[.pointer (some ⟨bc, 0, none⟩)] wr fun e w' => e = .returned (.int .i64 cs.length) ∧ w' = wr := by
  obtain ⟨ot, oc, ht, hc, ho, ho', hB⟩ := h
  exact len_any bc oc cs wr hc
theorem St2.of1 {w : World} {bt bc : Nat} {ts cs : List Int} {wr : World} (h : St2 w bt bc ts cs wr) (i : Nat) (hi : i < ts.length) (hz : ts.length ≤ 100000) : Calls Tryz.prog 32 #[.pointer (some ⟨bt, 0, none⟩), .int .i64 ((i : Int) + 1)] wr fun e w' => e = .returned (.tuple #[.int .i64 (ts.getD i 0), .bool true]) ∧ w' = wr := by
  obtain ⟨ot, oc, ht, hc, ho, ho', hB⟩ := h
  exact of_in bt ot ts i wr ht hi hz
theorem St2.of2 {w : World} {bt bc : Nat} {ts cs : List Int} {wr : World} (h : St2 w bt bc ts cs wr) (i : Nat) (hi : i < cs.length) (hz : cs.length ≤ 100000) : Calls Tryz.prog 32 #[.pointer (some ⟨bc, 0, none⟩), .int .i64 ((i : Int) + 1)] wr fun e w' => e = .returned (.tuple #[.int .i64 (cs.getD i 0), .bool true]) ∧ w' = wr := by
  obtain ⟨ot, oc, ht, hc, ho, ho', hB⟩ := h
  exact of_in bc oc cs i wr hc hi hz
theorem St2.high1 {w : World} {bt bc : Nat} {ts cs : List Int} {wr : World} (h : St2 w bt bc ts cs wr) (n : Int) (h1 : 1 ≤ n) (h2 : (ts.length : Int) < n) : Calls Tryz.prog 32 #[.pointer (some ⟨bt, 0, none⟩), .int .i64 n] wr fun e w' => e = .returned (.tuple #[.int .i64 0, .bool false]) ∧ w' = wr := by
  obtain ⟨ot, oc, ht, hc, ho, ho', hB⟩ := h
  exact of_high bt ot ts n wr ht h1 h2
theorem St2.far {w : World} {bt bc : Nat} {ts cs : List Int} {wr : World} (h : St2 w bt bc ts cs wr) : Below w.heap.size w wr := by
  obtain ⟨ot, oc, ht, hc, ho, ho', hB⟩ := h
  exact hB
theorem IntsAt.at {w : World} {ad : Addr} {n c : Nat} {zs : List Int} (h : IntsAt w (some ad) n c zs) {k : Nat} (hk : k < n) : w.cell? (ad.add k) = some (.int .i64 (zs.getD k 0)) := h.2.2.2 ad rfl k hk
end Go.Proofs.YthhhdddojmkgnaaGreatDoor
