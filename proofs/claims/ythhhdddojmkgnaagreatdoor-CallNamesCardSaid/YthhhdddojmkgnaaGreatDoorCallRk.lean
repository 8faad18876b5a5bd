/-
  What call.Clean and call.Same compute (as printed) is the plain thing; their contracts; Parse's in one form.
-/
import Derived.Test.YthhhdddojmkgnaaGreatDoorCallRa
import Derived.Test.YthhhdddojmkgnaaGreatDoorCallX
import Derived.Test.YthhhdddojmkgnaaGreatDoorCallG
import Derived.Test.YthhhdddojmkgnaaGreatDoorBunD
namespace Go.Proofs.YthhhdddojmkgnaaGreatDoor
open Go.RowKit Go.Proofs.YthhhdddojmkgnaaGreatDoorW.PrintWords Go.Proofs.YthhhdddojmkgnaaGreatDoorW.PrintLast Go.Proofs.YthhhdddojmkgnaaGreatDoorW.PrintMore
open Go

def tupC (x : CallR) : Int × Int × ByteArray × ByteArray × ByteArray × Int × Int := ((x.kind : Int), x.tx, bs x.key, bs x.en, bs x.va, x.lim, (x.eng : Int))

theorem callNeeds (k : Nat) : PRef.call_Needs.f (k : Int) = some (needsF k) := by
  unfold PRef.call_Needs.f needsF
  by_cases h : 2 ≤ k
  · rw [if_pos (by omega)]
    simp [h]
    by_cases h2 : k ≤ 7
    · simp [h2]; omega
    · simp [h2]; omega
  · rw [if_neg (by omega)]
    simp [h]
theorem callKeyed (k : Nat) : PRef.call_keyed.f (k : Int) = some (keyedF k) := by
  unfold PRef.call_keyed.f keyedF
  by_cases h : 2 ≤ k
  · rw [if_pos (by omega)]
    simp [h]
    by_cases h2 : k ≤ 5
    · simp [h2]; omega
    · simp [h2]; omega
  · rw [if_neg (by omega)]
    simp [h]

theorem callClean (x : CallR) (k : Nat) : PRef.call_Clean.f (k + 2) (x.kind : Int) x.tx (bs x.key) (bs x.en) (bs x.va) x.lim (x.eng : Int) = some (tupC (cleanF x)) := by
  obtain ⟨kd, tx, key, en, va, lim, eng⟩ := x
  simp only [PRef.call_Clean.f]
  rw [callNeeds]
  simp only [Option.bind_some, PRef.call_Clean.j0]
  rw [callKeyed]
  simp only [Option.bind_some, PRef.call_Clean.j1]
  by_cases h3 : kd = 3
  · subst h3; rfl
  by_cases h5 : kd = 5
  · subst h5; rfl
  by_cases h9 : kd = 9
  · subst h9; rfl
  have n3 : ¬ ((kd : Int) = 3) := by omega
  have n5 : ¬ ((kd : Int) = 5) := by omega
  have n9 : ¬ ((kd : Int) = 9) := by omega
  simp only [cleanF, tupC, if_neg h3, if_neg h5, if_neg h9, if_neg n3, if_neg n5, if_neg n9]
  cases needsF kd <;> cases keyedF kd <;> rfl

/-! ### Same -/
/-- The same, as one Bool. -/
def sameB (a b : CallR) : Bool := a.kind == b.kind && (a.tx == b.tx && (a.key == b.key && (a.en == b.en && (a.va == b.va && (a.lim == b.lim && a.eng == b.eng)))))
theorem sameB_iff (a b : CallR) : sameB a b = true ↔ a = b := by
  obtain ⟨a1, a2, a3, a4, a5, a6, a7⟩ := a
  obtain ⟨b1, b2, b3, b4, b5, b6, b7⟩ := b
  simp [sameB]
def sameF (a b : CallR) : Bool := sameB (cleanF a) (cleanF b)
theorem tup_same (a b : CallR) : ((tupC a).1 == (tupC b).1 && ((tupC a).2.1 == (tupC b).2.1 && ((tupC a).2.2.1.toList == (tupC b).2.2.1.toList && ((tupC a).2.2.2.1.toList == (tupC b).2.2.2.1.toList && ((tupC a).2.2.2.2.1.toList == (tupC b).2.2.2.2.1.toList && ((tupC a).2.2.2.2.2.1 == (tupC b).2.2.2.2.2.1 && ((tupC a).2.2.2.2.2.2 == (tupC b).2.2.2.2.2.2))))))) = sameB a b := by
  have e : ∀ m n : Nat, ((m : Int) == (n : Int)) = (m == n) := by
    intro m n
    by_cases h : m = n
    · subst h; simp
    · have h1 : ((m : Int) == (n : Int)) = false := by simp; omega
      have h2 : (m == n) = false := by simp; omega
      rw [h1, h2]
  simp only [tupC, sameB, bs_toList, e]
theorem callSame (x y : CallR) : ∃ k, PRef.call_Same.f k (x.kind : Int) x.tx (bs x.key) (bs x.en) (bs x.va) x.lim (x.eng : Int) (y.kind : Int) y.tx (bs y.key) (bs y.en) (bs y.va) y.lim (y.eng : Int) = some (sameF x y) := by
  refine ⟨2, ?_⟩
  simp only [PRef.call_Same.f]
  rw [callClean x 0, callClean y 0]
  simp only [Option.bind_some]
  rw [tup_same]; rfl
/-! ### Fits -/
/-- What Parse answers: the call, the number. -/
def pz (l : Bs) : CallR := (parseF l).getD noCall
def pe (l : Bs) : Int := if (parseF l).isSome then 0 else 4

theorem parse_val (l : Bs) (w : World) (hE : Env w) (hl : l.length ≤ 1000000000) : Calls Tryz.prog 17 #[.string (bs l)] w (Ret w (.tuple #[callV (pz l), .int .i64 (pe l)])) := by
  refine (parse_any l w hE hl).mono ?_
  rintro e w' ⟨hb, he⟩
  unfold pz pe
  cases h : parseF l with
  | none => rw [h] at he; exact ⟨he, hb⟩
  | some z => rw [h] at he; exact ⟨he, hb⟩
theorem clean_val (x : CallR) (w : World) : Calls Tryz.prog 25 #[callV x] w (Ret w (callV (cleanF x))) :=
  PRef.call_Clean.calls 2 x.kind x.tx (bs x.key) (bs x.en) (bs x.va) x.lim x.eng _ _ _ _ _ _ _ w (callClean x 0)
theorem same_val (x y : CallR) (w : World) : Calls Tryz.prog 27 #[callV x, callV y] w (Ret w (.bool (sameF x y))) := by
  obtain ⟨k, hk⟩ := callSame x y
  exact PRef.call_Same.calls k x.kind x.tx (bs x.key) (bs x.en) (bs x.va) x.lim x.eng y.kind y.tx (bs y.key) (bs y.en) (bs y.va) y.lim y.eng _ w hk
end Go.Proofs.YthhhdddojmkgnaaGreatDoor
