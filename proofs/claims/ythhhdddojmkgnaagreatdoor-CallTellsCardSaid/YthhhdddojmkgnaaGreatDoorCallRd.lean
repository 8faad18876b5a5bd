/-
  What Clean, Same, Fits compute (as printed, of the program and of the reference) is what the plain functions do.
-/
import Derived.Test.YthhhdddojmkgnaaGreatDoorCallRc
import Derived.Test.YthhhdddojmkgnaaGreatDoorCallF
import Derived.Test.YthhhdddojmkgnaaGreatDoorBunC
namespace Go.Proofs.YthhhdddojmkgnaaGreatDoor
open Go.RowKit Go.Proofs.YthhhdddojmkgnaaGreatDoorW.PrintWords Go.Proofs.YthhhdddojmkgnaaGreatDoorW.PrintLast Go.Proofs.YthhhdddojmkgnaaGreatDoorW.PrintMore
open Go

def tupC (x : CallR) : Int × Int × ByteArray × ByteArray × ByteArray × Int × Int := ((x.kind : Int), x.tx, bs x.key, bs x.en, bs x.va, x.lim, (x.eng : Int))

theorem callNeeds (k : Nat) : PRef.call_Needs.f (k : Int) = some (needsF k) := by
  unfold PRef.call_Needs.f needsF
  by_cases h : 2 ≤ k
  · rw [if_pos (by omega)]
    simp [h]
    by_cases h2 : k ≤ 7
    · simp [h2]; omega
    · simp [h2]; omega
  · rw [if_neg (by omega)]
    simp [h]
theorem callKeyed (k : Nat) : PRef.call_keyed.f (k : Int) = some (keyedF k) := by
  unfold PRef.call_keyed.f keyedF
  by_cases h : 2 ≤ k
  · rw [if_pos (by omega)]
    simp [h]
    by_cases h2 : k ≤ 5
    · simp [h2]; omega
    · simp [h2]; omega
  · rw [if_neg (by omega)]
    simp [h]

theorem callClean (x : CallR) (k : Nat) : PRef.call_Clean.f (k + 2) (x.kind : Int) x.tx (bs x.key) (bs x.en) (bs x.va) x.lim (x.eng : Int) = some (tupC (cleanF x)) := by
  obtain ⟨kd, tx, key, en, va, lim, eng⟩ := x
  simp only [PRef.call_Clean.f]
  rw [callNeeds]
  simp only [Option.bind_some, PRef.call_Clean.j0]
  rw [callKeyed]
  simp only [Option.bind_some, PRef.call_Clean.j1]
  by_cases h3 : kd = 3
  · subst h3; rfl
  by_cases h5 : kd = 5
  · subst h5; rfl
  by_cases h9 : kd = 9
  · subst h9; rfl
  have n3 : ¬ ((kd : Int) = 3) := by omega
  have n5 : ¬ ((kd : Int) = 5) := by omega
  have n9 : ¬ ((kd : Int) = 9) := by omega
  simp only [cleanF, tupC, if_neg h3, if_neg h5, if_neg h9, if_neg n3, if_neg n5, if_neg n9]
  cases needsF kd <;> cases keyedF kd <;> rfl

theorem refClean (x : CallR) (k : Nat) : PRef.ferrymanref20_Clean.f (k + 4) (x.kind : Int) x.tx (bs x.key) (bs x.en) (bs x.va) x.lim (x.eng : Int) = some (tupC (cleanF x)) := by
  obtain ⟨kd, tx, key, en, va, lim, eng⟩ := x
  simp only [PRef.ferrymanref20_Clean.f]
  rw [refNeeds]
  simp only [Option.bind_some]
  by_cases h2 : kd = 2
  · subst h2; rfl
  by_cases h3 : kd = 3
  · subst h3; rfl
  by_cases h4 : kd = 4
  · subst h4; rfl
  by_cases h5 : kd = 5
  · subst h5; rfl
  by_cases h9 : kd = 9
  · subst h9; rfl
  have e5 : ((kd : Int) == 5) = false := by simp; omega
  have hk : keyedF kd = false := by simp [keyedF]; omega
  simp only [PRef.ferrymanref20_Clean.j0, PRef.ferrymanref20_Clean.j1, PRef.ferrymanref20_Clean.j2, PRef.ferrymanref20_Clean.j3, e5]
  have n2 : ¬ ((kd : Int) = 2) := by omega
  have n3 : ¬ ((kd : Int) = 3) := by omega
  have n4 : ¬ ((kd : Int) = 4) := by omega
  have n5 : ¬ ((kd : Int) = 5) := by omega
  have n9 : ¬ ((kd : Int) = 9) := by omega
  simp only [cleanF, tupC, if_neg h3, if_neg h5, if_neg h9, hk, if_neg n2, if_neg n3, if_neg n4, if_neg n5, if_neg n9, Bool.false_eq_true, if_false]
  cases needsF kd <;> rfl

theorem clean_ev (x : CallR) : Ev (fun k => PRef.ferrymanref20_Clean.f k (x.kind : Int) x.tx (bs x.key) (bs x.en) (bs x.va) x.lim (x.eng : Int)) (tupC (cleanF x)) :=
  ⟨4, fun k hk => by obtain ⟨k, rfl⟩ : ∃ m, k = m + 4 := ⟨k - 4, by omega⟩
                     exact refClean x k⟩

/-! ### Same -/
/-- The same, as one Bool. -/
def sameB (a b : CallR) : Bool := a.kind == b.kind && (a.tx == b.tx && (a.key == b.key && (a.en == b.en && (a.va == b.va && (a.lim == b.lim && a.eng == b.eng)))))
theorem sameB_iff (a b : CallR) : sameB a b = true ↔ a = b := by
  obtain ⟨a1, a2, a3, a4, a5, a6, a7⟩ := a
  obtain ⟨b1, b2, b3, b4, b5, b6, b7⟩ := b
  simp [sameB]
def sameF (a b : CallR) : Bool := sameB (cleanF a) (cleanF b)
theorem tup_same (a b : CallR) : ((tupC a).1 == (tupC b).1 && ((tupC a).2.1 == (tupC b).2.1 && ((tupC a).2.2.1.toList == (tupC b).2.2.1.toList && ((tupC a).2.2.2.1.toList == (tupC b).2.2.2.1.toList && ((tupC a).2.2.2.2.1.toList == (tupC b).2.2.2.2.1.toList && ((tupC a).2.2.2.2.2.1 == (tupC b).2.2.2.2.2.1 && ((tupC a).2.2.2.2.2.2 == (tupC b).2.2.2.2.2.2))))))) = sameB a b := by
  have e : ∀ m n : Nat, ((m : Int) == (n : Int)) = (m == n) := by
    intro m n
    by_cases h : m = n
    · subst h; simp
    · have h1 : ((m : Int) == (n : Int)) = false := by simp; omega
      have h2 : (m == n) = false := by simp; omega
      rw [h1, h2]
  simp only [tupC, sameB, bs_toList, e]
theorem callSame (x y : CallR) : ∃ k, PRef.call_Same.f k (x.kind : Int) x.tx (bs x.key) (bs x.en) (bs x.va) x.lim (x.eng : Int) (y.kind : Int) y.tx (bs y.key) (bs y.en) (bs y.va) y.lim (y.eng : Int) = some (sameF x y) := by
  refine ⟨2, ?_⟩
  simp only [PRef.call_Same.f]
  rw [callClean x 0, callClean y 0]
  simp only [Option.bind_some]
  rw [tup_same]; rfl
theorem refSame (x y : CallR) : ∃ k, PRef.ferrymanref20_Same.f k (x.kind : Int) x.tx (bs x.key) (bs x.en) (bs x.va) x.lim (x.eng : Int) (y.kind : Int) y.tx (bs y.key) (bs y.en) (bs y.va) y.lim (y.eng : Int) = some (sameF x y) := by
  refine ⟨4, ?_⟩
  simp only [PRef.ferrymanref20_Same.f]
  rw [refClean x 0, refClean y 0]
  simp only [Option.bind_some]
  rw [tup_same]; rfl

/-! ### Fits -/
theorem is_is (a b c : Int) : PRef.ferrymanref02_is.f a b c = some (decide (b ≤ a) && decide (a ≤ c)) := by
  unfold PRef.ferrymanref02_is.f
  by_cases h : a ≥ b
  · rw [if_pos h]; simp [show b ≤ a from h]
  · rw [if_neg h]; simp [show ¬ b ≤ a from h]
theorem may02 (c : CfgR) : PRef.ferrymanref02_May.f c.tasks c.active c.keys c.depth c.ts c.keylen c.vallen c.fan = some (cfgOk c) := by
  unfold PRef.ferrymanref02_May.f
  simp only [is_is, Option.bind_some]
  have e : cfgOk c = (decide (1 ≤ c.tasks) && decide (c.tasks ≤ 6) && (decide (1 ≤ c.active) && decide (c.active ≤ 8)) && (decide (1 ≤ c.keys) && decide (c.keys ≤ 64)) && (decide (2 ≤ c.depth) && decide (c.depth ≤ 8)) && (decide (1 ≤ c.ts) && decide (c.ts ≤ 1048576)) && (decide (1 ≤ c.keylen) && decide (c.keylen ≤ 64)) && (decide (0 ≤ c.vallen) && decide (c.vallen ≤ 256)) && (decide (3 ≤ c.fan) && decide (c.fan ≤ 8))) := by
    rw [Bool.eq_iff_iff]
    simp only [cfgOk, Bool.and_eq_true, decide_eq_true_eq]
    omega
  rw [e]
  generalize (decide (1 ≤ c.tasks) && decide (c.tasks ≤ 6)) = b1
  generalize (decide (1 ≤ c.active) && decide (c.active ≤ 8)) = b2
  generalize (decide (1 ≤ c.keys) && decide (c.keys ≤ 64)) = b3
  generalize (decide (2 ≤ c.depth) && decide (c.depth ≤ 8)) = b4
  generalize (decide (1 ≤ c.ts) && decide (c.ts ≤ 1048576)) = b5
  generalize (decide (1 ≤ c.keylen) && decide (c.keylen ≤ 64)) = b6
  generalize (decide (0 ≤ c.vallen) && decide (c.vallen ≤ 256)) = b7
  generalize (decide (3 ≤ c.fan) && decide (c.fan ≤ 8)) = b8
  cases b1 <;> cases b2 <;> cases b3 <;> cases b4 <;> cases b5 <;> cases b6 <;> cases b7 <;> cases b8 <;> rfl
theorem key02 (c : CfgR) (s : ByteArray) : PRef.ferrymanref02_Key.f c.tasks c.active c.keys c.depth c.ts c.keylen c.vallen c.fan s = some (lenOk c s 1 c.keylen) := by
  unfold PRef.ferrymanref02_Key.f
  rw [may02]
  simp only [Option.bind_some, is_is, lenOk]
  cases cfgOk c <;> simp [Bool.and_assoc]
theorem value02 (c : CfgR) (s : ByteArray) : PRef.ferrymanref02_Value.f c.tasks c.active c.keys c.depth c.ts c.keylen c.vallen c.fan s = some (lenOk c s 0 c.vallen) := by
  unfold PRef.ferrymanref02_Value.f
  rw [may02]
  simp only [Option.bind_some, is_is, lenOk]
  cases cfgOk c <;> simp [Bool.and_assoc]
theorem bound02 (c : CfgR) (s : ByteArray) : PRef.ferrymanref02_Bound.f c.tasks c.active c.keys c.depth c.ts c.keylen c.vallen c.fan s = some (lenOk c s 0 c.keylen) := by
  unfold PRef.ferrymanref02_Bound.f
  rw [may02]
  simp only [Option.bind_some, is_is, lenOk]
  cases cfgOk c <;> simp [Bool.and_assoc]
theorem refFits (c : CfgR) (x : CallR) : ∃ k, PRef.ferrymanref20_Fits.f k c.tasks c.active c.keys c.depth c.ts c.keylen c.vallen c.fan (x.kind : Int) x.tx (bs x.key) (bs x.en) (bs x.va) x.lim (x.eng : Int) = some (fitsN c x) := by
  refine ⟨1, ?_⟩
  obtain ⟨kd, tx, key, en, va, lim, eng⟩ := x
  simp only [PRef.ferrymanref20_Fits.f, PRef.ferrymanref20_Fits.j0]
  rw [key02, value02, bound02, bound02]
  simp only [Option.bind_some, fitsN, fitsB]
  by_cases h2 : kd = 2
  · subst h2
    simp [keyedF]
    cases lenOk c (bs key) 1 c.keylen <;> rfl
  by_cases h4 : kd = 4
  · subst h4
    simp [keyedF]
    cases lenOk c (bs key) 1 c.keylen <;> rfl
  have e2 : ((kd : Int) == 2) = false := by simp; omega
  have e4 : ((kd : Int) == 4) = false := by simp; omega
  rw [if_neg (show ¬ ((kd : Int) = 2) by omega), e4]
  simp only [Bool.false_eq_true, if_false]
  by_cases h3 : kd = 3
  · subst h3
    simp [keyedF]
    cases lenOk c (bs key) 1 c.keylen <;> cases lenOk c (bs va) 0 c.vallen <;> rfl
  rw [if_neg (show ¬ ((kd : Int) = 3) by omega)]
  by_cases h5 : kd = 5
  · subst h5
    simp only [show ((5 : Nat) : Int) = 5 from rfl, if_true]
    cases lenOk c (bs key) 0 c.keylen <;> cases lenOk c (bs en) 0 c.keylen <;> simp
    by_cases hl : 0 ≤ lim
    · simp [hl]
      by_cases hm : lim ≤ 128
      · simp [hm]
      · simp [hm]
    · simp [hl]
  rw [if_neg (show ¬ ((kd : Int) = 5) by omega), if_neg h5]
  have hk : keyedF kd = false := by simp [keyedF]; omega
  rw [hk]
  rfl
end Go.Proofs.YthhhdddojmkgnaaGreatDoor
