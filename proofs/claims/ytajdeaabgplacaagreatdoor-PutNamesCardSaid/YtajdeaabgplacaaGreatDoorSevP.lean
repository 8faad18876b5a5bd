/-
  Sev: the laws of its trees and of its ways of handing on.
  Sev: the laws of memory by digits.
  Sev: what an abstract value stands for, by an interpretation of the names.
  Sev: when a world is as an abstract memory tells it; how that is kept when memory is made, written, forgotten.
  Sev: the machine's moves, in the frame of a call or of a round.
  Sev: memory is read, made, written: the evaluator's ways and the world's.
-/
import Derived.Test.YtajdeaabgplacaaGreatDoorSevC
import Derived.Below
import Derived.Deep.MidRow
import Derived.Orders
namespace Go.Proofs.YtajdeaabgplacaaGreatDoor.Sev
open Go
set_option linter.unusedVariables false

/-- The answer is outcomes, and each of them is one of L. -/
def Le (L : List (AV × St)) (a : Ans) : Prop := ∃ l, a = .outs l ∧ ∀ x ∈ l, x ∈ L
theorem Le.no {L : List (AV × St)} {w : String} {n : Nat} (h : Le L (.no w n)) : False := by obtain ⟨_, h, _⟩ := h; cases h

def HasP {α : Type} : Ps → Tr α → α → Prop
  | .h, .nd _ x _, v => x = v
  | .l p, .nd l _ _, v => HasP p l v
  | .r p, .nd _ _ r, v => HasP p r v
  | _, .lf, _ => False

theorem HasP.uniq {α : Type} {p : Ps} : ∀ {t : Tr α} {u v : α}, HasP p t u → HasP p t v → u = v := by
  induction p with
  | h => intro t u v hu hv; cases t with | lf => exact hu.elim | nd l x r => exact hu.symm.trans hv
  | l p ih => intro t u v hu hv; cases t with | lf => exact hu.elim | nd l x r => exact ih (t := l) hu hv
  | r p ih => intro t u v hu hv; cases t with | lf => exact hu.elim | nd l x r => exact ih (t := r) hu hv
/-- What has things by number. -/
class TreeC (τ : Type) (α : outParam Type) where
  has : τ → Nat → α → Prop
  uniq : ∀ (t : τ) (n : Nat) (u v : α), has t n u → has t n v → u = v
instance {α : Type} : TreeC (Tr α) α := ⟨fun t n v => HasP (path n) t v, fun _ _ _ _ hu hv => HasP.uniq hu hv⟩
def Has {τ α : Type} [TreeC τ α] (t : τ) (n : Nat) (v : α) : Prop := TreeC.has t n v
theorem Has.uniq {τ α : Type} [TreeC τ α] {t : τ} {n : Nat} {u v : α} (hu : Has t n u) (hv : Has t n v) : u = v := TreeC.uniq t n u v hu hv

/-! ### the way tells the number -/
def toN : Ps → Nat
  | .h => 0
  | .l p => 2 * toN p + 1
  | .r p => 2 * toN p + 2
noncomputable def pathF (fuel n : Nat) : Ps :=
  Nat.rec (fun _ => .h) (fun _ ih n => Nat.rec .h (fun m _ => Bool.rec (.l (ih (Nat.div m 2))) (.r (ih (Nat.div m 2))) (Nat.beq (Nat.mod m 2) 1)) n) fuel n
theorem toN_pathF : ∀ (fuel n : Nat), n ≤ fuel → toN (pathF fuel n) = n := by
  intro fuel
  induction fuel with
  | zero => intro n h; cases n with | zero => rfl | succ n => omega
  | succ fuel ih =>
    intro n h
    cases n with
    | zero => rfl
    | succ m =>
      have e : pathF (fuel + 1) (m + 1) = Bool.rec (.l (pathF fuel (Nat.div m 2))) (.r (pathF fuel (Nat.div m 2))) (Nat.beq (Nat.mod m 2) 1) := rfl
      have hd : Nat.div m 2 = m / 2 := rfl
      have hm : Nat.mod m 2 = m % 2 := rfl
      have hi := ih (m / 2) (by omega)
      rw [e, hd, hm]
      cases hb : Nat.beq (m % 2) 1 with
      | true =>
        have := Nat.eq_of_beq_eq_true hb
        show 2 * toN (pathF fuel (m / 2)) + 2 = m + 1
        rw [hi]; omega
      | false =>
        have := Nat.ne_of_beq_eq_false hb
        show 2 * toN (pathF fuel (m / 2)) + 1 = m + 1
        rw [hi]; omega
theorem toN_path (n : Nat) : toN (path n) = n := toN_pathF n n (Nat.le_refl n)
theorem path_inj {m n : Nat} (h : path m = path n) : m = n := by rw [← toN_path m, h, toN_path]
theorem path_ne {m n : Nat} (h : m ≠ n) : path m ≠ path n := fun e => h (path_inj e)
theorem pathF_fuel : ∀ (f g n : Nat), n ≤ f → n ≤ g → pathF f n = pathF g n := by
  intro f
  induction f with
  | zero => intro g n h _; cases n with | zero => (cases g <;> rfl) | succ n => omega
  | succ f ih =>
    intro g n h h'
    cases n with
    | zero => cases g <;> rfl
    | succ m =>
      cases g with
      | zero => omega
      | succ g =>
        have e : ∀ f, pathF (f + 1) (m + 1) = Bool.rec (.l (pathF f (Nat.div m 2))) (.r (pathF f (Nat.div m 2))) (Nat.beq (Nat.mod m 2) 1) := fun _ => rfl
        have hd : Nat.div m 2 = m / 2 := rfl
        rw [e, e, hd, ih g (m / 2) (by omega) (by omega)]
theorem path_succ (m : Nat) : path (m + 1) = if m % 2 = 1 then .r (path (m / 2)) else .l (path (m / 2)) := by
  have e : path (m + 1) = Bool.rec (.l (pathF m (Nat.div m 2))) (.r (pathF m (Nat.div m 2))) (Nat.beq (Nat.mod m 2) 1) := rfl
  have hd : Nat.div m 2 = m / 2 := rfl
  have hm : Nat.mod m 2 = m % 2 := rfl
  rw [e, hd, hm, pathF_fuel m (m / 2) (m / 2) (by omega) (Nat.le_refl _)]
  cases hb : Nat.beq (m % 2) 1 with
  | true => rw [if_pos (Nat.eq_of_beq_eq_true hb)]; rfl
  | false => rw [if_neg (Nat.ne_of_beq_eq_false hb)]; rfl

/-! ### reading and writing trees -/
variable {L : List (AV × St)}
theorem le_getP {α : Type} {p : Ps} : ∀ {t : Tr α} {k : α → Ans}, Le L (getP p t k) → ∃ v, HasP p t v ∧ Le L (k v) := by
  induction p with
  | h => intro t k h; cases t with | lf => exact h.no.elim | nd l x r => exact ⟨x, rfl, h⟩
  | l p ih => intro t k h; cases t with | lf => exact h.no.elim | nd l x r => exact ih (t := l) h
  | r p ih => intro t k h; cases t with | lf => exact h.no.elim | nd l x r => exact ih (t := r) h
theorem le_getK {α : Type} {t : Tr α} {n : Nat} {k : α → Ans} (h : Le L (getK t n k)) : ∃ v, Has t n v ∧ Le L (k v) := le_getP h
/-- t' is t but for v at p. -/
def UpdP {α : Type} (p : Ps) (v : α) (t t' : Tr α) : Prop := HasP p t' v ∧ ∀ q u, q ≠ p → (HasP q t' u ↔ HasP q t u)
theorem le_updP {α : Type} {p : Ps} : ∀ {t : Tr α} {v : α} {k : Tr α → Ans}, Le L (updP p t v k) → ∃ t' o, HasP p t o ∧ UpdP p v t t' ∧ Le L (k t') := by
  induction p with
  | h =>
    intro t v k h
    cases t with
    | lf => exact h.no.elim
    | nd l x r =>
      refine ⟨.nd l v r, x, rfl, ⟨rfl, fun q u hq => ?_⟩, h⟩
      cases q with | h => exact (hq rfl).elim | l q => exact Iff.rfl | r q => exact Iff.rfl
  | l p ih =>
    intro t v k h
    cases t with
    | lf => exact h.no.elim
    | nd l x r =>
      obtain ⟨l', o, ho, ⟨hv, hu⟩, hk⟩ := ih (t := l) (k := fun l => k (.nd l x r)) h
      refine ⟨.nd l' x r, o, ho, ⟨hv, fun q u hq => ?_⟩, hk⟩
      cases q with | h => exact Iff.rfl | l q => exact hu q u (fun e => hq (by rw [e])) | r q => exact Iff.rfl
  | r p ih =>
    intro t v k h
    cases t with
    | lf => exact h.no.elim
    | nd l x r =>
      obtain ⟨l', o, ho, ⟨hv, hu⟩, hk⟩ := ih (t := r) (k := fun r => k (.nd l x r)) h
      refine ⟨.nd l x l', o, ho, ⟨hv, fun q u hq => ?_⟩, hk⟩
      cases q with | h => exact Iff.rfl | l q => exact Iff.rfl | r q => exact hu q u (fun e => hq (by rw [e]))
theorem le_setP {α : Type} {p : Ps} : ∀ {t : Tr α} {v : α} {k : Tr α → Ans}, Le L (setP p t v k) → ∃ t', UpdP p v t t' ∧ Le L (k t') := by
  induction p with
  | h =>
    intro t v k h
    cases t with
    | lf =>
      refine ⟨.nd .lf v .lf, ⟨rfl, fun q u hq => ?_⟩, h⟩
      cases q with | h => exact (hq rfl).elim | l q => cases q <;> exact Iff.rfl | r q => cases q <;> exact Iff.rfl
    | nd l x r =>
      refine ⟨.nd l v r, ⟨rfl, fun q u hq => ?_⟩, h⟩
      cases q with | h => exact (hq rfl).elim | l q => exact Iff.rfl | r q => exact Iff.rfl
  | l p ih =>
    intro t v k h
    cases t with
    | lf => exact h.no.elim
    | nd l x r =>
      obtain ⟨l', ⟨hv, hu⟩, hk⟩ := ih (t := l) (k := fun l => k (.nd l x r)) h
      refine ⟨.nd l' x r, ⟨hv, fun q u hq => ?_⟩, hk⟩
      cases q with | h => exact Iff.rfl | l q => exact hu q u (fun e => hq (by rw [e])) | r q => exact Iff.rfl
  | r p ih =>
    intro t v k h
    cases t with
    | lf => exact h.no.elim
    | nd l x r =>
      obtain ⟨l', ⟨hv, hu⟩, hk⟩ := ih (t := r) (k := fun r => k (.nd l x r)) h
      refine ⟨.nd l x l', ⟨hv, fun q u hq => ?_⟩, hk⟩
      cases q with | h => exact Iff.rfl | l q => exact Iff.rfl | r q => exact hu q u (fun e => hq (by rw [e]))
/-- t' is t but for v at n. -/
def Upd {τ α : Type} [TreeC τ α] (n : Nat) (v : α) (t t' : τ) : Prop := Has t' n v ∧ ∀ m u, m ≠ n → (Has t' m u ↔ Has t m u)
theorem le_updK {α : Type} {t : Tr α} {n : Nat} {v : α} {k : Tr α → Ans} (h : Le L (updK t n v k)) : ∃ t' o, Has t n o ∧ Upd n v t t' ∧ Le L (k t') := by
  obtain ⟨t', o, ho, ⟨hv, hu⟩, hk⟩ := le_updP h
  exact ⟨t', o, ho, ⟨hv, fun m u hm => hu _ u (path_ne hm)⟩, hk⟩
theorem le_setK {α : Type} {t : Tr α} {n : Nat} {v : α} {k : Tr α → Ans} (h : Le L (setK t n v k)) : ∃ t', Upd n v t t' ∧ Le L (k t') := by
  obtain ⟨t', ⟨hv, hu⟩, hk⟩ := le_setP h
  exact ⟨t', ⟨hv, fun m u hm => hu _ u (path_ne hm)⟩, hk⟩
theorem has_lf {α : Type} {n : Nat} {v : α} (h : Has (.lf : Tr α) n v) : False := by
  have h : HasP (path n) (.lf : Tr α) v := h
  cases hp : path n <;> rw [hp] at h <;> exact h
theorem has_mkA {z : Nat → AV} : ∀ {fuel n a b i : Nat} {v : AV}, Has (Nat.rec (motive := fun _ => Nat → Nat → Nat → Tr AV) (fun _ _ _ => .lf)
    (fun _ ih n a b => Nat.rec .lf (fun m _ => .nd (ih (Nat.div (Nat.succ m) 2) (Nat.mul 2 a) (Nat.add a b)) (z b) (ih (Nat.div m 2) (Nat.mul 2 a) (Nat.add (Nat.mul 2 a) b))) n) fuel n a b) i v →
    i < n ∧ v = z (a * i + b) := by
  intro fuel
  induction fuel with
  | zero => intro n a b i v h; exact (has_lf h).elim
  | succ fuel ih =>
    intro n a b i v h
    cases n with
    | zero => exact (has_lf h).elim
    | succ m =>
      cases i with
      | zero => exact ⟨by omega, by have : z b = v := h; rw [← this]; simp⟩
      | succ i =>
        have h : HasP (path (i + 1)) _ v := h
        rw [path_succ] at h
        have hd : ∀ x, Nat.div x 2 = x / 2 := fun _ => rfl
        have e1 : Nat.mul 2 a = 2 * a := rfl
        have e2 : Nat.add a b = a + b := rfl
        have e3 : Nat.add (2 * a) b = 2 * a + b := rfl
        split at h
        · rename_i ho
          obtain ⟨h1, h2⟩ := ih (i := i / 2) h
          rw [hd] at h1
          rw [e1, e3] at h2
          refine ⟨by omega, h2.trans (congrArg z ?_)⟩
          have : i = 2 * (i / 2) + 1 := by omega
          rw [show a * (i + 1) = a * (2 * (i / 2) + 2) from by rw [show i + 1 = 2 * (i / 2) + 2 from by omega], Nat.mul_add, ← Nat.mul_assoc, Nat.mul_comm a 2]
          omega
        · rename_i ho
          obtain ⟨h1, h2⟩ := ih (i := i / 2) h
          rw [hd] at h1
          rw [e1, e2] at h2
          refine ⟨by omega, h2.trans (congrArg z ?_)⟩
          have : i = 2 * (i / 2) := by omega
          rw [show a * (i + 1) = a * (2 * (i / 2) + 1) from by rw [show i + 1 = 2 * (i / 2) + 1 from by omega], Nat.mul_add, ← Nat.mul_assoc, Nat.mul_comm a 2]
          omega
theorem has_mkA' {z : Nat → AV} {n a b i : Nat} {v : AV} (h : Has (mkA z n a b) i v) : i < n ∧ v = z (a * i + b) := has_mkA (fuel := 30) h
theorem has_mkF {n i : Nat} {v : AV} (h : Has (mkF n) i v) : i < n ∧ v = undefA := has_mkA' h

/-! ### handing on -/
theorem le_natK {n : Nat} {k : Nat → Ans} (h : Le L (natK n k)) : Le L (k n) := by cases n <;> exact h
theorem le_intK {n : Int} {k : Int → Ans} (h : Le L (intK n k)) : Le L (k n) := by cases n <;> exact le_natK (k := fun m => k _) h
theorem le_boolK {b : Bool} {k : Bool → Ans} (h : Le L (boolK b k)) : Le L (k b) := by cases b <;> exact h
theorem le_ifK {b : Bool} {x y : Ans} (h : Le L (ifK b x y)) : (b = true ∧ Le L x) ∨ (b = false ∧ Le L y) := by cases b; exact .inr ⟨rfl, h⟩; exact .inl ⟨rfl, h⟩
theorem le_ifN {b : Bool} {x : Ans} {w : String} {n : Nat} (h : Le L (ifK b x (.no w n))) : b = true ∧ Le L x := by
  rcases le_ifK h with h | ⟨_, h⟩; exact h; exact h.no.elim
theorem le_optK {α : Type} {o : Option α} {w : String} {k : α → Ans} (h : Le L (optK o w k)) : ∃ a, o = some a ∧ Le L (k a) := by
  cases o with | none => exact h.no.elim | some a => exact ⟨a, rfl, h⟩
theorem wrap_i64_nat (m : Nat) (h : m < 9223372036854775808) : IntKind.wrap .i64 (Int.ofNat m) = Int.ofNat m := by
  simp only [IntKind.wrap, IntKind.bits, IntKind.signed]
  have : (2 : Int) ^ 64 = 18446744073709551616 := by decide
  have : (2 : Int) ^ (64 - 1) = 9223372036854775808 := by decide
  simp only [*]
  have h1 : Int.ofNat m % 18446744073709551616 = Int.ofNat m := Int.emod_eq_of_lt (by simp) (by simp; omega)
  rw [h1]
  rw [if_neg (by simp; omega)]
theorem wrap_i64_neg (m : Nat) (h : m < 9223372036854775808) : IntKind.wrap .i64 (Int.negSucc m) = Int.negSucc m := by
  simp only [IntKind.wrap, IntKind.bits, IntKind.signed]
  have : (2 : Int) ^ 64 = 18446744073709551616 := by decide
  have : (2 : Int) ^ (64 - 1) = 9223372036854775808 := by decide
  simp only [*]
  have h1 : Int.negSucc m % 18446744073709551616 = Int.negSucc m + 18446744073709551616 := by omega
  rw [h1]
  rw [if_pos (by simp; omega)]
  omega
theorem le_wrapK {kd : IntKind} {n : Int} {k : Int → Ans} (h : Le L (wrapK kd n k)) : Le L (k (kd.wrap n)) := by
  cases kd <;> try exact le_intK h
  unfold wrapK at h
  cases n with
  | ofNat m =>
    simp only at h
    cases hb : Nat.blt m 9223372036854775808 with
    | false => rw [hb] at h; exact le_intK h
    | true => rw [hb] at h; rw [wrap_i64_nat m (Nat.le_of_ble_eq_true hb)]; exact le_natK (k := fun m => k (.ofNat m)) h
  | negSucc m =>
    simp only at h
    cases hb : Nat.blt m 9223372036854775808 with
    | false => rw [hb] at h; exact le_intK h
    | true => rw [hb] at h; rw [wrap_i64_neg m (Nat.le_of_ble_eq_true hb)]; exact le_natK (k := fun m => k (.negSucc m)) h
end Go.Proofs.YtajdeaabgplacaaGreatDoor.Sev

namespace Go.Proofs.YtajdeaabgplacaaGreatDoor.Sev
open Go
set_option linter.unusedVariables false
variable {L : List (AV × St)}
def sel {α : Type} (e : D4) (t : Q α) : α := match e with | .a => t.a | .b => t.b | .c => t.c | .d => t.d
theorem dg_inj : ∀ {m n : Nat}, m < 4 → n < 4 → dg m = dg n → m = n := by
  have : ∀ m : Fin 4, ∀ n : Fin 4, dg m.1 = dg n.1 → m.1 = n.1 := by
    intro ⟨m, hm⟩ ⟨n, hn⟩ h
    match m, n, hm, hn, h with
    | 0, 0, _, _, _ => rfl
    | 0, 1, _, _, h => exact nomatch (show D4.a = D4.b from h)
    | 0, 2, _, _, h => exact nomatch (show D4.a = D4.c from h)
    | 0, 3, _, _, h => exact nomatch (show D4.a = D4.d from h)
    | 1, 0, _, _, h => exact nomatch (show D4.b = D4.a from h)
    | 1, 1, _, _, _ => rfl
    | 1, 2, _, _, h => exact nomatch (show D4.b = D4.c from h)
    | 1, 3, _, _, h => exact nomatch (show D4.b = D4.d from h)
    | 2, 0, _, _, h => exact nomatch (show D4.c = D4.a from h)
    | 2, 1, _, _, h => exact nomatch (show D4.c = D4.b from h)
    | 2, 2, _, _, _ => rfl
    | 2, 3, _, _, h => exact nomatch (show D4.c = D4.d from h)
    | 3, 0, _, _, h => exact nomatch (show D4.d = D4.a from h)
    | 3, 1, _, _, h => exact nomatch (show D4.d = D4.b from h)
    | 3, 2, _, _, h => exact nomatch (show D4.d = D4.c from h)
    | 3, 3, _, _, _ => rfl
  exact @fun m n hm hn h => this ⟨m, hm⟩ ⟨n, hn⟩ h
theorem digit_split (N m n : Nat) : m % (4 * N) = n % (4 * N) ↔ m % 4 = n % 4 ∧ (m / 4) % N = (n / 4) % N := by
  rw [Nat.mod_mul, Nat.mod_mul]
  constructor
  · intro h
    have h1 := Nat.mod_lt m (by decide : 4 > 0)
    have h2 := Nat.mod_lt n (by decide : 4 > 0)
    constructor <;> omega
  · rintro ⟨h1, h2⟩; rw [h1, h2]
def look0 (_ : Nat) (t : H0) : Option AO := t
def look1 (n : Nat) (t : H1) : Option AO := look0 (n / 4) (sel (dg (n % 4)) t)
def look2 (n : Nat) (t : H2) : Option AO := look1 (n / 4) (sel (dg (n % 4)) t)
def look3 (n : Nat) (t : H3) : Option AO := look2 (n / 4) (sel (dg (n % 4)) t)
def look4 (n : Nat) (t : H4) : Option AO := look3 (n / 4) (sel (dg (n % 4)) t)
def look5 (n : Nat) (t : H5) : Option AO := look4 (n / 4) (sel (dg (n % 4)) t)
def look6 (n : Nat) (t : H6) : Option AO := look5 (n / 4) (sel (dg (n % 4)) t)
def look7 (n : Nat) (t : H7) : Option AO := look6 (n / 4) (sel (dg (n % 4)) t)
theorem le_get0 {n : Nat} {t : H0} {k : AO → Ans} (h : Le L (get0 n t k)) : ∃ o, look0 n t = some o ∧ Le L (k o) := by
  cases t with
  | none => exact h.no.elim
  | some o => exact ⟨o, rfl, h⟩
theorem le_set0 {n : Nat} {o : AO} {t : H0} {k : H0 → Ans} (h : Le L (set0 n o t k)) : ∃ t', (∀ m, look0 m t' = if m % 1 = n % 1 then some o else look0 m t) ∧ Le L (k t') :=
  ⟨some o, fun m => by rw [Nat.mod_one, Nat.mod_one, if_pos rfl]; rfl, h⟩
theorem le_get1 {n : Nat} {t : H1} {k : AO → Ans} (h : Le L (get1 n t k)) : ∃ o, look1 n t = some o ∧ Le L (k o) := by
  unfold get1 at h
  unfold look1
  have hd : Nat.mod n 4 = n % 4 := rfl
  rw [hd] at h
  cases hx : dg (n % 4) <;> rw [hx] at h <;> exact le_get0 h
theorem le_set1 {n : Nat} {o : AO} {t : H1} {k : H1 → Ans} (h : Le L (set1 n o t k)) : ∃ t', (∀ m, look1 m t' = if m % 4 = n % 4 then some o else look1 m t) ∧ Le L (k t') := by
  unfold set1 at h
  have hd : Nat.mod n 4 = n % 4 := rfl
  have hq : Nat.div n 4 = n / 4 := rfl
  rw [hd, hq] at h
  obtain ⟨a, b, c, d⟩ := t
  have split : ∀ m, m % 4 = n % 4 ↔ m % 4 = n % 4 ∧ (m / 4) % 1 = (n / 4) % 1 := fun m => digit_split 1 m n
  have other : ∀ m, dg (m % 4) ≠ dg (n % 4) → ¬ m % 4 = n % 4 := fun m hm e => hm (by rw [((split m).1 e).1])
  have same : ∀ m, dg (m % 4) = dg (n % 4) → (m % 4 = n % 4 ↔ (m / 4) % 1 = (n / 4) % 1) := fun m hm =>
    (split m).trans ⟨fun x => x.2, fun x => ⟨dg_inj (Nat.mod_lt _ (by decide)) (Nat.mod_lt _ (by decide)) hm, x⟩⟩
  cases hx : dg (n % 4) <;> rw [hx] at h other same <;> obtain ⟨t', h1, h2⟩ := le_set0 h <;> refine ⟨_, fun m => ?_, h2⟩ <;> unfold look1 <;> cases hy : dg (m % 4) <;> first
    | (rw [if_neg (other m (by rw [hy]; exact fun e => nomatch e))]; rfl)
    | (simp only [same m hy]; exact h1 (m / 4))
theorem le_get2 {n : Nat} {t : H2} {k : AO → Ans} (h : Le L (get2 n t k)) : ∃ o, look2 n t = some o ∧ Le L (k o) := by
  unfold get2 at h
  unfold look2
  have hd : Nat.mod n 4 = n % 4 := rfl
  rw [hd] at h
  cases hx : dg (n % 4) <;> rw [hx] at h <;> exact le_get1 h
theorem le_set2 {n : Nat} {o : AO} {t : H2} {k : H2 → Ans} (h : Le L (set2 n o t k)) : ∃ t', (∀ m, look2 m t' = if m % 16 = n % 16 then some o else look2 m t) ∧ Le L (k t') := by
  unfold set2 at h
  have hd : Nat.mod n 4 = n % 4 := rfl
  have hq : Nat.div n 4 = n / 4 := rfl
  rw [hd, hq] at h
  obtain ⟨a, b, c, d⟩ := t
  have split : ∀ m, m % 16 = n % 16 ↔ m % 4 = n % 4 ∧ (m / 4) % 4 = (n / 4) % 4 := fun m => digit_split 4 m n
  have other : ∀ m, dg (m % 4) ≠ dg (n % 4) → ¬ m % 16 = n % 16 := fun m hm e => hm (by rw [((split m).1 e).1])
  have same : ∀ m, dg (m % 4) = dg (n % 4) → (m % 16 = n % 16 ↔ (m / 4) % 4 = (n / 4) % 4) := fun m hm =>
    (split m).trans ⟨fun x => x.2, fun x => ⟨dg_inj (Nat.mod_lt _ (by decide)) (Nat.mod_lt _ (by decide)) hm, x⟩⟩
  cases hx : dg (n % 4) <;> rw [hx] at h other same <;> obtain ⟨t', h1, h2⟩ := le_set1 h <;> refine ⟨_, fun m => ?_, h2⟩ <;> unfold look2 <;> cases hy : dg (m % 4) <;> first
    | (rw [if_neg (other m (by rw [hy]; exact fun e => nomatch e))]; rfl)
    | (simp only [same m hy]; exact h1 (m / 4))
theorem le_get3 {n : Nat} {t : H3} {k : AO → Ans} (h : Le L (get3 n t k)) : ∃ o, look3 n t = some o ∧ Le L (k o) := by
  unfold get3 at h
  unfold look3
  have hd : Nat.mod n 4 = n % 4 := rfl
  rw [hd] at h
  cases hx : dg (n % 4) <;> rw [hx] at h <;> exact le_get2 h
theorem le_set3 {n : Nat} {o : AO} {t : H3} {k : H3 → Ans} (h : Le L (set3 n o t k)) : ∃ t', (∀ m, look3 m t' = if m % 64 = n % 64 then some o else look3 m t) ∧ Le L (k t') := by
  unfold set3 at h
  have hd : Nat.mod n 4 = n % 4 := rfl
  have hq : Nat.div n 4 = n / 4 := rfl
  rw [hd, hq] at h
  obtain ⟨a, b, c, d⟩ := t
  have split : ∀ m, m % 64 = n % 64 ↔ m % 4 = n % 4 ∧ (m / 4) % 16 = (n / 4) % 16 := fun m => digit_split 16 m n
  have other : ∀ m, dg (m % 4) ≠ dg (n % 4) → ¬ m % 64 = n % 64 := fun m hm e => hm (by rw [((split m).1 e).1])
  have same : ∀ m, dg (m % 4) = dg (n % 4) → (m % 64 = n % 64 ↔ (m / 4) % 16 = (n / 4) % 16) := fun m hm =>
    (split m).trans ⟨fun x => x.2, fun x => ⟨dg_inj (Nat.mod_lt _ (by decide)) (Nat.mod_lt _ (by decide)) hm, x⟩⟩
  cases hx : dg (n % 4) <;> rw [hx] at h other same <;> obtain ⟨t', h1, h2⟩ := le_set2 h <;> refine ⟨_, fun m => ?_, h2⟩ <;> unfold look3 <;> cases hy : dg (m % 4) <;> first
    | (rw [if_neg (other m (by rw [hy]; exact fun e => nomatch e))]; rfl)
    | (simp only [same m hy]; exact h1 (m / 4))
theorem le_get4 {n : Nat} {t : H4} {k : AO → Ans} (h : Le L (get4 n t k)) : ∃ o, look4 n t = some o ∧ Le L (k o) := by
  unfold get4 at h
  unfold look4
  have hd : Nat.mod n 4 = n % 4 := rfl
  rw [hd] at h
  cases hx : dg (n % 4) <;> rw [hx] at h <;> exact le_get3 h
theorem le_set4 {n : Nat} {o : AO} {t : H4} {k : H4 → Ans} (h : Le L (set4 n o t k)) : ∃ t', (∀ m, look4 m t' = if m % 256 = n % 256 then some o else look4 m t) ∧ Le L (k t') := by
  unfold set4 at h
  have hd : Nat.mod n 4 = n % 4 := rfl
  have hq : Nat.div n 4 = n / 4 := rfl
  rw [hd, hq] at h
  obtain ⟨a, b, c, d⟩ := t
  have split : ∀ m, m % 256 = n % 256 ↔ m % 4 = n % 4 ∧ (m / 4) % 64 = (n / 4) % 64 := fun m => digit_split 64 m n
  have other : ∀ m, dg (m % 4) ≠ dg (n % 4) → ¬ m % 256 = n % 256 := fun m hm e => hm (by rw [((split m).1 e).1])
  have same : ∀ m, dg (m % 4) = dg (n % 4) → (m % 256 = n % 256 ↔ (m / 4) % 64 = (n / 4) % 64) := fun m hm =>
    (split m).trans ⟨fun x => x.2, fun x => ⟨dg_inj (Nat.mod_lt _ (by decide)) (Nat.mod_lt _ (by decide)) hm, x⟩⟩
  cases hx : dg (n % 4) <;> rw [hx] at h other same <;> obtain ⟨t', h1, h2⟩ := le_set3 h <;> refine ⟨_, fun m => ?_, h2⟩ <;> unfold look4 <;> cases hy : dg (m % 4) <;> first
    | (rw [if_neg (other m (by rw [hy]; exact fun e => nomatch e))]; rfl)
    | (simp only [same m hy]; exact h1 (m / 4))
theorem le_get5 {n : Nat} {t : H5} {k : AO → Ans} (h : Le L (get5 n t k)) : ∃ o, look5 n t = some o ∧ Le L (k o) := by
  unfold get5 at h
  unfold look5
  have hd : Nat.mod n 4 = n % 4 := rfl
  rw [hd] at h
  cases hx : dg (n % 4) <;> rw [hx] at h <;> exact le_get4 h
theorem le_set5 {n : Nat} {o : AO} {t : H5} {k : H5 → Ans} (h : Le L (set5 n o t k)) : ∃ t', (∀ m, look5 m t' = if m % 1024 = n % 1024 then some o else look5 m t) ∧ Le L (k t') := by
  unfold set5 at h
  have hd : Nat.mod n 4 = n % 4 := rfl
  have hq : Nat.div n 4 = n / 4 := rfl
  rw [hd, hq] at h
  obtain ⟨a, b, c, d⟩ := t
  have split : ∀ m, m % 1024 = n % 1024 ↔ m % 4 = n % 4 ∧ (m / 4) % 256 = (n / 4) % 256 := fun m => digit_split 256 m n
  have other : ∀ m, dg (m % 4) ≠ dg (n % 4) → ¬ m % 1024 = n % 1024 := fun m hm e => hm (by rw [((split m).1 e).1])
  have same : ∀ m, dg (m % 4) = dg (n % 4) → (m % 1024 = n % 1024 ↔ (m / 4) % 256 = (n / 4) % 256) := fun m hm =>
    (split m).trans ⟨fun x => x.2, fun x => ⟨dg_inj (Nat.mod_lt _ (by decide)) (Nat.mod_lt _ (by decide)) hm, x⟩⟩
  cases hx : dg (n % 4) <;> rw [hx] at h other same <;> obtain ⟨t', h1, h2⟩ := le_set4 h <;> refine ⟨_, fun m => ?_, h2⟩ <;> unfold look5 <;> cases hy : dg (m % 4) <;> first
    | (rw [if_neg (other m (by rw [hy]; exact fun e => nomatch e))]; rfl)
    | (simp only [same m hy]; exact h1 (m / 4))
theorem le_get6 {n : Nat} {t : H6} {k : AO → Ans} (h : Le L (get6 n t k)) : ∃ o, look6 n t = some o ∧ Le L (k o) := by
  unfold get6 at h
  unfold look6
  have hd : Nat.mod n 4 = n % 4 := rfl
  rw [hd] at h
  cases hx : dg (n % 4) <;> rw [hx] at h <;> exact le_get5 h
theorem le_set6 {n : Nat} {o : AO} {t : H6} {k : H6 → Ans} (h : Le L (set6 n o t k)) : ∃ t', (∀ m, look6 m t' = if m % 4096 = n % 4096 then some o else look6 m t) ∧ Le L (k t') := by
  unfold set6 at h
  have hd : Nat.mod n 4 = n % 4 := rfl
  have hq : Nat.div n 4 = n / 4 := rfl
  rw [hd, hq] at h
  obtain ⟨a, b, c, d⟩ := t
  have split : ∀ m, m % 4096 = n % 4096 ↔ m % 4 = n % 4 ∧ (m / 4) % 1024 = (n / 4) % 1024 := fun m => digit_split 1024 m n
  have other : ∀ m, dg (m % 4) ≠ dg (n % 4) → ¬ m % 4096 = n % 4096 := fun m hm e => hm (by rw [((split m).1 e).1])
  have same : ∀ m, dg (m % 4) = dg (n % 4) → (m % 4096 = n % 4096 ↔ (m / 4) % 1024 = (n / 4) % 1024) := fun m hm =>
    (split m).trans ⟨fun x => x.2, fun x => ⟨dg_inj (Nat.mod_lt _ (by decide)) (Nat.mod_lt _ (by decide)) hm, x⟩⟩
  cases hx : dg (n % 4) <;> rw [hx] at h other same <;> obtain ⟨t', h1, h2⟩ := le_set5 h <;> refine ⟨_, fun m => ?_, h2⟩ <;> unfold look6 <;> cases hy : dg (m % 4) <;> first
    | (rw [if_neg (other m (by rw [hy]; exact fun e => nomatch e))]; rfl)
    | (simp only [same m hy]; exact h1 (m / 4))
theorem le_get7 {n : Nat} {t : H7} {k : AO → Ans} (h : Le L (get7 n t k)) : ∃ o, look7 n t = some o ∧ Le L (k o) := by
  unfold get7 at h
  unfold look7
  have hd : Nat.mod n 4 = n % 4 := rfl
  rw [hd] at h
  cases hx : dg (n % 4) <;> rw [hx] at h <;> exact le_get6 h
theorem le_set7 {n : Nat} {o : AO} {t : H7} {k : H7 → Ans} (h : Le L (set7 n o t k)) : ∃ t', (∀ m, look7 m t' = if m % 16384 = n % 16384 then some o else look7 m t) ∧ Le L (k t') := by
  unfold set7 at h
  have hd : Nat.mod n 4 = n % 4 := rfl
  have hq : Nat.div n 4 = n / 4 := rfl
  rw [hd, hq] at h
  obtain ⟨a, b, c, d⟩ := t
  have split : ∀ m, m % 16384 = n % 16384 ↔ m % 4 = n % 4 ∧ (m / 4) % 4096 = (n / 4) % 4096 := fun m => digit_split 4096 m n
  have other : ∀ m, dg (m % 4) ≠ dg (n % 4) → ¬ m % 16384 = n % 16384 := fun m hm e => hm (by rw [((split m).1 e).1])
  have same : ∀ m, dg (m % 4) = dg (n % 4) → (m % 16384 = n % 16384 ↔ (m / 4) % 4096 = (n / 4) % 4096) := fun m hm =>
    (split m).trans ⟨fun x => x.2, fun x => ⟨dg_inj (Nat.mod_lt _ (by decide)) (Nat.mod_lt _ (by decide)) hm, x⟩⟩
  cases hx : dg (n % 4) <;> rw [hx] at h other same <;> obtain ⟨t', h1, h2⟩ := le_set6 h <;> refine ⟨_, fun m => ?_, h2⟩ <;> unfold look7 <;> cases hy : dg (m % 4) <;> first
    | (rw [if_neg (other m (by rw [hy]; exact fun e => nomatch e))]; rfl)
    | (simp only [same m hy]; exact h1 (m / 4))
instance : TreeC HT AO := ⟨fun t n o => n < hlim ∧ look7 n t = some o, fun _ _ _ _ hu hv => Option.some.inj (hu.2.symm.trans hv.2)⟩
theorem le_getH {t : HT} {n : Nat} {k : AO → Ans} (h : Le L (getH t n k)) : ∃ v, Has t n v ∧ Le L (k v) := by
  obtain ⟨h1, h2⟩ := le_ifN h
  obtain ⟨o, h3, h4⟩ := le_get7 h2
  exact ⟨o, ⟨Nat.lt_of_succ_le (Nat.le_of_ble_eq_true h1), h3⟩, h4⟩
theorem le_setH {t : HT} {n : Nat} {v : AO} {k : HT → Ans} (h : Le L (setH t n v k)) : ∃ t', Upd n v t t' ∧ Le L (k t') := by
  obtain ⟨h1, h2⟩ := le_ifN h
  obtain ⟨t', h3, h4⟩ := le_set7 h2
  have hn : n < hlim := Nat.lt_of_succ_le (Nat.le_of_ble_eq_true h1)
  refine ⟨t', ⟨⟨hn, by rw [h3 n, if_pos rfl]⟩, fun m u hm => ?_⟩, h4⟩
  have : m < hlim → look7 m t' = look7 m t := fun hl => by
    rw [h3 m, if_neg]
    intro e
    have hl' : m < 16384 := hl
    have hn' : n < 16384 := hn
    rw [Nat.mod_eq_of_lt hl', Nat.mod_eq_of_lt hn'] at e
    exact hm e
  exact ⟨fun ⟨h5, h6⟩ => ⟨h5, (this h5) ▸ h6⟩, fun ⟨h5, h6⟩ => ⟨h5, (this h5).trans h6⟩⟩

/-! ### the first memory -/
theorem look_nil0 (m : Nat) : look0 m nil0 = none := rfl
theorem look_pin0 {m : Nat} {a o : AO} (h : look0 m (pin0 a) = some o) : m % 1 = 0 ∧ o = a := ⟨Nat.mod_one m, (Option.some.inj h).symm⟩
theorem look_nil1 (m : Nat) : look1 m nil1 = none := by
  unfold look1
  cases dg (m % 4) <;> exact look_nil0 _
theorem look_pin1 {m : Nat} {a o : AO} (h : look1 m (pin1 a) = some o) : m % 4 = 0 ∧ o = a := by
  unfold look1 at h
  cases hx : dg (m % 4) <;> rw [hx] at h
  · obtain ⟨h1, h2⟩ := look_pin0 h
    have h0 : m % 4 = 0 := dg_inj (Nat.mod_lt _ (by decide)) (by decide) (hx.trans rfl)
    exact ⟨(digit_split 1 m 0).2 ⟨h0, by rw [h1]⟩, h2⟩
  · exact nomatch (look_nil0 _).symm.trans h
  · exact nomatch (look_nil0 _).symm.trans h
  · exact nomatch (look_nil0 _).symm.trans h
theorem look_nil2 (m : Nat) : look2 m nil2 = none := by
  unfold look2
  cases dg (m % 4) <;> exact look_nil1 _
theorem look_pin2 {m : Nat} {a o : AO} (h : look2 m (pin2 a) = some o) : m % 16 = 0 ∧ o = a := by
  unfold look2 at h
  cases hx : dg (m % 4) <;> rw [hx] at h
  · obtain ⟨h1, h2⟩ := look_pin1 h
    have h0 : m % 4 = 0 := dg_inj (Nat.mod_lt _ (by decide)) (by decide) (hx.trans rfl)
    exact ⟨(digit_split 4 m 0).2 ⟨h0, by rw [h1]⟩, h2⟩
  · exact nomatch (look_nil1 _).symm.trans h
  · exact nomatch (look_nil1 _).symm.trans h
  · exact nomatch (look_nil1 _).symm.trans h
theorem look_nil3 (m : Nat) : look3 m nil3 = none := by
  unfold look3
  cases dg (m % 4) <;> exact look_nil2 _
theorem look_pin3 {m : Nat} {a o : AO} (h : look3 m (pin3 a) = some o) : m % 64 = 0 ∧ o = a := by
  unfold look3 at h
  cases hx : dg (m % 4) <;> rw [hx] at h
  · obtain ⟨h1, h2⟩ := look_pin2 h
    have h0 : m % 4 = 0 := dg_inj (Nat.mod_lt _ (by decide)) (by decide) (hx.trans rfl)
    exact ⟨(digit_split 16 m 0).2 ⟨h0, by rw [h1]⟩, h2⟩
  · exact nomatch (look_nil2 _).symm.trans h
  · exact nomatch (look_nil2 _).symm.trans h
  · exact nomatch (look_nil2 _).symm.trans h
theorem look_nil4 (m : Nat) : look4 m nil4 = none := by
  unfold look4
  cases dg (m % 4) <;> exact look_nil3 _
theorem look_pin4 {m : Nat} {a o : AO} (h : look4 m (pin4 a) = some o) : m % 256 = 0 ∧ o = a := by
  unfold look4 at h
  cases hx : dg (m % 4) <;> rw [hx] at h
  · obtain ⟨h1, h2⟩ := look_pin3 h
    have h0 : m % 4 = 0 := dg_inj (Nat.mod_lt _ (by decide)) (by decide) (hx.trans rfl)
    exact ⟨(digit_split 64 m 0).2 ⟨h0, by rw [h1]⟩, h2⟩
  · exact nomatch (look_nil3 _).symm.trans h
  · exact nomatch (look_nil3 _).symm.trans h
  · exact nomatch (look_nil3 _).symm.trans h
theorem look_nil5 (m : Nat) : look5 m nil5 = none := by
  unfold look5
  cases dg (m % 4) <;> exact look_nil4 _
theorem look_pin5 {m : Nat} {a o : AO} (h : look5 m (pin5 a) = some o) : m % 1024 = 0 ∧ o = a := by
  unfold look5 at h
  cases hx : dg (m % 4) <;> rw [hx] at h
  · obtain ⟨h1, h2⟩ := look_pin4 h
    have h0 : m % 4 = 0 := dg_inj (Nat.mod_lt _ (by decide)) (by decide) (hx.trans rfl)
    exact ⟨(digit_split 256 m 0).2 ⟨h0, by rw [h1]⟩, h2⟩
  · exact nomatch (look_nil4 _).symm.trans h
  · exact nomatch (look_nil4 _).symm.trans h
  · exact nomatch (look_nil4 _).symm.trans h
theorem look_nil6 (m : Nat) : look6 m nil6 = none := by
  unfold look6
  cases dg (m % 4) <;> exact look_nil5 _
theorem look_pin6 {m : Nat} {a o : AO} (h : look6 m (pin6 a) = some o) : m % 4096 = 0 ∧ o = a := by
  unfold look6 at h
  cases hx : dg (m % 4) <;> rw [hx] at h
  · obtain ⟨h1, h2⟩ := look_pin5 h
    have h0 : m % 4 = 0 := dg_inj (Nat.mod_lt _ (by decide)) (by decide) (hx.trans rfl)
    exact ⟨(digit_split 1024 m 0).2 ⟨h0, by rw [h1]⟩, h2⟩
  · exact nomatch (look_nil5 _).symm.trans h
  · exact nomatch (look_nil5 _).symm.trans h
  · exact nomatch (look_nil5 _).symm.trans h
theorem look_nil7 (m : Nat) : look7 m nil7 = none := by
  unfold look7
  cases dg (m % 4) <;> exact look_nil6 _
theorem look_pin7 {m : Nat} {a o : AO} (h : look7 m (pin7 a) = some o) : m % 16384 = 0 ∧ o = a := by
  unfold look7 at h
  cases hx : dg (m % 4) <;> rw [hx] at h
  · obtain ⟨h1, h2⟩ := look_pin6 h
    have h0 : m % 4 = 0 := dg_inj (Nat.mod_lt _ (by decide)) (by decide) (hx.trans rfl)
    exact ⟨(digit_split 4096 m 0).2 ⟨h0, by rw [h1]⟩, h2⟩
  · exact nomatch (look_nil6 _).symm.trans h
  · exact nomatch (look_nil6 _).symm.trans h
  · exact nomatch (look_nil6 _).symm.trans h
end Go.Proofs.YtajdeaabgplacaaGreatDoor.Sev

namespace Go.Proofs.YtajdeaabgplacaaGreatDoor.Sev
open Go
set_option linter.unusedVariables false

/-- Of each name: its block, where in it its cells begin, its capacity (or number), the cells that it keeps. -/
structure Itp where
  blk : Nat → Nat
  base : Nat → Nat
  cap : Nat → Nat
  snap : Nat → Array Value

mutual
def conc (I : Itp) : AV → Value
  | .bool b => .bool b
  | .int k n => .int k n
  | .str s => .string ⟨(s.map UInt8.ofNat).toArray⟩
  | .ptr b off => .pointer (some ⟨I.blk b, I.base b + off, none⟩)
  | .nilptr => .pointer none
  | .sl b off len cap => .slice (some ⟨I.blk b, I.base b + off, none⟩) len cap
  | .slo b off len o => .slice (some ⟨I.blk b, I.base b + off, none⟩) len (I.cap b - o)
  | .sle b off off1 o => .slice (some (if I.cap b - o = 0 then ⟨I.blk b, I.base b + off, none⟩ else ⟨I.blk b, I.base b + off1, none⟩)) 0 (I.cap b - o)
  | .nilsl => .slice none 0 0
  | .map b => .map (some (I.blk b))
  | .nilmap => .map none
  | .fn f a b => .func f (concL I a).toArray (concL I b).toArray
  | .yld b => .func (.yield (I.blk b)) #[] #[]
  | .stp b => .int .i64 (I.cap b)
  | .nilfn => .nilFunc
  | .ifc t v => .iface t (conc I v)
  | .nilifc => .nilIface
  | .agg l => .agg (concL I l).toArray
  | .agt b => .agg (I.snap b)
  | .tup l => .tuple (concL I l).toArray
def concL (I : Itp) : List AV → List Value
  | [] => []
  | v :: l => conc I v :: concL I l
end
theorem concL_map (I : Itp) : ∀ l, concL I l = l.map (conc I)
  | [] => rfl
  | v :: l => by rw [concL, List.map_cons, concL_map I l]
theorem concL_length (I : Itp) (l : List AV) : (concL I l).length = l.length := by rw [concL_map, List.length_map]
theorem concL_append (I : Itp) (l m : List AV) : concL I (l ++ m) = concL I l ++ concL I m := by simp [concL_map]

mutual
/-- Its names are less than n; a slice is not longer than its capacity; function values are plain. -/
def ok (n : Nat) (I : Itp) : AV → Prop
  | .ptr b _ | .map b | .yld b | .stp b | .agt b | .sl b .. | .sle b .. => b < n
  | .slo b off len o => b < n ∧ len + o ≤ I.cap b
  | .fn f a b => (∀ l, f ≠ .yield l) ∧ okL n I a ∧ okL n I b
  | .ifc _ v => ok n I v
  | .agg l | .tup l => okL n I l
  | _ => True
def okL (n : Nat) (I : Itp) : List AV → Prop
  | [] => True
  | v :: l => ok n I v ∧ okL n I l
end
theorem okL_iff {n : Nat} {I : Itp} : ∀ {l : List AV}, okL n I l ↔ ∀ v ∈ l, ok n I v
  | [] => by simp [okL]
  | v :: l => by rw [okL, okL_iff (l := l)]; simp
theorem okL_append {n : Nat} {I : Itp} {l m : List AV} (h : okL n I l) (h' : okL n I m) : okL n I (l ++ m) := by
  rw [okL_iff] at *
  intro v hv
  rcases List.mem_append.1 hv with hv | hv
  · exact h v hv
  · exact h' v hv

/-- Two interpretations tell the same of the names below n. -/
def Agree (n : Nat) (I J : Itp) : Prop := ∀ b, b < n → J.blk b = I.blk b ∧ J.base b = I.base b ∧ J.cap b = I.cap b ∧ J.snap b = I.snap b
theorem Agree.refl (n : Nat) (I : Itp) : Agree n I I := fun _ _ => ⟨rfl, rfl, rfl, rfl⟩
theorem Agree.trans {m n : Nat} {I J K : Itp} (h : Agree m I J) (h' : Agree n J K) (hmn : m ≤ n) : Agree m I K := fun b hb => by
  obtain ⟨a1, a2, a3, a4⟩ := h b hb
  obtain ⟨b1, b2, b3, b4⟩ := h' b (by omega)
  exact ⟨b1.trans a1, b2.trans a2, b3.trans a3, b4.trans a4⟩
theorem Agree.mono {m n : Nat} {I J : Itp} (h : Agree n I J) (hmn : m ≤ n) : Agree m I J := fun b hb => h b (by omega)

mutual
theorem conc_agree {n : Nat} {I J : Itp} (h : Agree n I J) : ∀ {a : AV}, ok n I a → conc J a = conc I a
  | .bool _, _ => rfl
  | .int _ _, _ => rfl
  | .str _, _ => rfl
  | .ptr b _, hb => by obtain ⟨h1, h2, _⟩ := h b hb; simp [conc, h1, h2]
  | .nilptr, _ => rfl
  | .sl b .., hb => by obtain ⟨h1, h2, _⟩ := h b hb; simp [conc, h1, h2]
  | .slo b .., hb => by obtain ⟨h1, h2, h3, _⟩ := h b hb.1; simp [conc, h1, h2, h3]
  | .sle b .., hb => by obtain ⟨h1, h2, h3, _⟩ := h b hb; simp [conc, h1, h2, h3]
  | .nilsl, _ => rfl
  | .map b, hb => by obtain ⟨h1, _⟩ := h b hb; simp [conc, h1]
  | .nilmap, _ => rfl
  | .fn f a b, hb => by simp only [conc]; rw [concL_agree h hb.2.1, concL_agree h hb.2.2]
  | .yld b, hb => by obtain ⟨h1, _⟩ := h b hb; simp [conc, h1]
  | .stp b, hb => by obtain ⟨_, _, h3, _⟩ := h b hb; simp [conc, h3]
  | .nilfn, _ => rfl
  | .ifc t v, hb => by simp only [conc]; rw [conc_agree (a := v) h hb]
  | .nilifc, _ => rfl
  | .agg l, hb => by simp only [conc]; rw [concL_agree (l := l) h hb]
  | .agt b, hb => by obtain ⟨_, _, _, h4⟩ := h b hb; simp [conc, h4]
  | .tup l, hb => by simp only [conc]; rw [concL_agree (l := l) h hb]
theorem concL_agree {n : Nat} {I J : Itp} (h : Agree n I J) : ∀ {l : List AV}, okL n I l → concL J l = concL I l
  | [], _ => rfl
  | v :: l, hl => by simp only [concL]; rw [conc_agree h hl.1, concL_agree h hl.2]
end
mutual
theorem ok_agree {m n : Nat} {I J : Itp} (h : Agree n I J) (hmn : n ≤ m) : ∀ {a : AV}, ok n I a → ok m J a
  | .bool _, _ => trivial
  | .int _ _, _ => trivial
  | .str _, _ => trivial
  | .ptr b _, (hb : b < n) => show b < m by omega
  | .nilptr, _ => trivial
  | .sl b .., (hb : b < n) => show b < m by omega
  | .slo b .., hb => by obtain ⟨h1, h2, h3, _⟩ := h b hb.1; obtain ⟨hb1, hb2⟩ := hb; exact ⟨by omega, by rw [h3]; exact hb2⟩
  | .sle b .., (hb : b < n) => show b < m by omega
  | .nilsl, _ => trivial
  | .map b, (hb : b < n) => show b < m by omega
  | .nilmap, _ => trivial
  | .fn f a b, hb => ⟨hb.1, okL_agree h hmn hb.2.1, okL_agree h hmn hb.2.2⟩
  | .yld b, (hb : b < n) => show b < m by omega
  | .stp b, (hb : b < n) => show b < m by omega
  | .nilfn, _ => trivial
  | .ifc t v, hb => ok_agree (a := v) h hmn hb
  | .nilifc, _ => trivial
  | .agg l, hb => okL_agree (l := l) h hmn hb
  | .agt b, (hb : b < n) => show b < m by omega
  | .tup l, hb => okL_agree (l := l) h hmn hb
theorem okL_agree {m n : Nat} {I J : Itp} (h : Agree n I J) (hmn : n ≤ m) : ∀ {l : List AV}, okL n I l → okL m J l
  | [], _ => trivial
  | v :: l, hl => ⟨ok_agree h hmn hl.1, okL_agree h hmn hl.2⟩
end
theorem ok_mono {m n : Nat} {I : Itp} {a : AV} (h : ok n I a) (hmn : n ≤ m) : ok m I a := ok_agree (Agree.refl n I) hmn h
theorem okL_mono {m n : Nat} {I : Itp} {l : List AV} (h : okL n I l) (hmn : n ≤ m) : okL m I l := okL_agree (Agree.refl n I) hmn h

/-! ### literals, values without names -/
theorem bytes_back (l : List UInt8) : (l.map UInt8.toNat).map UInt8.ofNat = l := by
  induction l with
  | nil => rfl
  | cons x l ih => simp only [List.map_cons, ih]; rw [UInt8.ofNat_toNat]
theorem abs0_spec {v : Value} {a : AV} (h : abs0 v = some a) (n : Nat) (I : Itp) : conc I a = v ∧ ok n I a := by
  unfold abs0 at h
  split at h <;> first
    | (obtain rfl := Option.some.inj h; exact ⟨rfl, trivial⟩)
    | (obtain rfl := Option.some.inj h; refine ⟨?_, trivial⟩; simp only [conc]; rw [bytes_back])
    | cases h
theorem absL_spec : ∀ {l : List Value} {m : List AV}, absL l = some m → ∀ (n : Nat) (I : Itp), concL I m = l ∧ okL n I m
  | [], m, h, n, I => by obtain rfl := Option.some.inj h; exact ⟨rfl, trivial⟩
  | v :: l, m, h, n, I => by
    simp only [absL] at h
    cases ha : abs0 v with
    | none => simp [ha] at h
    | some a =>
      cases hl : absL l with
      | none => simp [ha, hl] at h
      | some m' =>
        simp [ha, hl] at h
        subst h
        obtain ⟨h1, h2⟩ := abs0_spec ha n I
        obtain ⟨h3, h4⟩ := absL_spec hl n I
        exact ⟨by simp [concL, h1, h3], h2, h4⟩
theorem abs_spec {v : Value} {a : AV} (h : abs v = some a) (n : Nat) (I : Itp) : conc I a = v ∧ ok n I a := by
  unfold abs at h
  split at h
  · rename_i cs
    cases hl : absL cs.toList with
    | none => simp [hl] at h
    | some m =>
      simp [hl] at h; subst h
      obtain ⟨h1, h2⟩ := absL_spec hl n I
      exact ⟨by simp [conc, h1], h2⟩
  · rename_i cs
    cases hl : absL cs.toList with
    | none => simp [hl] at h
    | some m =>
      simp [hl] at h; subst h
      obtain ⟨h1, h2⟩ := absL_spec hl n I
      exact ⟨by simp [conc, h1], h2⟩
  · rename_i f x y
    cases hl : absL x.toList with
    | none => simp [hl] at h
    | some m =>
      cases hr : absL y.toList with
      | none => simp [hl, hr] at h
      | some q =>
        obtain ⟨h1, h2⟩ := absL_spec hl n I
        obtain ⟨h3, h4⟩ := absL_spec hr n I
        simp [hl, hr] at h
        split at h
        · cases h
        · rename_i hf
          obtain rfl := Option.some.inj h
          exact ⟨by simp [conc, h1, h3], fun l e => hf l e, h2, h4⟩
  · rename_i t w
    cases hl : abs0 w with
    | none => simp [hl] at h
    | some m =>
      simp [hl] at h; subst h
      obtain ⟨h1, h2⟩ := abs0_spec hl n I
      exact ⟨by simp [conc, h1], h2⟩
  · exact abs0_spec h n I
theorem ground0_spec {a : AV} {v : Value} (h : ground0 a = some v) (n : Nat) (I : Itp) : conc I a = v ∧ ok n I a := by
  unfold ground0 at h
  split at h <;> first
    | (obtain rfl := Option.some.inj h; exact ⟨rfl, trivial⟩)
    | cases h
theorem groundL_spec : ∀ {l : List AV} {m : List Value}, groundL l = some m → ∀ (n : Nat) (I : Itp), concL I l = m ∧ okL n I l
  | [], m, h, n, I => by obtain rfl := Option.some.inj h; exact ⟨rfl, trivial⟩
  | v :: l, m, h, n, I => by
    simp only [groundL] at h
    cases ha : ground0 v with
    | none => simp [ha] at h
    | some a =>
      cases hl : groundL l with
      | none => simp [ha, hl] at h
      | some m' =>
        simp [ha, hl] at h
        subst h
        obtain ⟨h1, h2⟩ := ground0_spec ha n I
        obtain ⟨h3, h4⟩ := groundL_spec hl n I
        exact ⟨by simp [concL, h1, h3], h2, h4⟩
theorem ground_spec {a : AV} {v : Value} (h : ground a = some v) (n : Nat) (I : Itp) : conc I a = v ∧ ok n I a := by
  unfold ground at h
  split at h
  · rename_i cs
    cases hl : groundL cs with
    | none => simp [hl] at h
    | some m =>
      simp [hl] at h; subst h
      obtain ⟨h1, h2⟩ := groundL_spec hl n I
      exact ⟨by simp [conc, h1], h2⟩
  · rename_i t w
    cases hl : ground0 w with
    | none => simp [hl] at h
    | some m =>
      simp [hl] at h; subst h
      obtain ⟨h1, h2⟩ := ground0_spec hl n I
      exact ⟨by simp [conc, h1], h2⟩
  · exact ground0_spec h n I

/-! ### what asks the program alone -/
theorem static_run {α : Type} {P : Program} : ∀ {s : Sem α} {a : α}, static P s = some a → ∀ w, s.run P w = .ok a w := by
  intro s
  induction s with
  | pure a => intro b h w; obtain rfl := Option.some.inj h; rfl
  | program k ih => intro b h w; exact ih P h w
  | _ => intro b h; cases h
variable {L : List (AV × St)}
theorem le_absK {v : Value} {k : AV → Ans} (h : Le L (absK v k)) : ∃ a, (∀ n I, conc I a = v ∧ ok n I a) ∧ Le L (k a) := by
  obtain ⟨a, ha, hk⟩ := le_optK h
  exact ⟨a, fun n I => abs_spec ha n I, hk⟩
theorem le_staticK {P : Program} {s : Sem Value} {k : AV → Ans} (h : Le L (staticK P s k)) :
    ∃ a, (∀ n I, ok n I a) ∧ (∀ I w, s.run P w = .ok (conc I a) w) ∧ Le L (k a) := by
  obtain ⟨a, ha, hk⟩ := le_optK h
  cases hs : static P s with
  | none => simp [hs] at ha
  | some v =>
    rw [hs] at ha
    have ha : abs v = some a := ha
    refine ⟨a, fun n I => (abs_spec ha n I).2, fun I w => ?_, hk⟩
    rw [static_run hs, (abs_spec ha 0 I).1]
end Go.Proofs.YtajdeaabgplacaaGreatDoor.Sev

namespace Go.Proofs.YtajdeaabgplacaaGreatDoor.Sev
open Go
set_option linter.unusedVariables false

theorem isCell_one {I : Itp} {a : AV} (h : isCell a = true) : (∀ l, conc I a ≠ .agg l) ∧ (∀ l, conc I a ≠ .tuple l) := by
  cases a <;> simp [isCell] at h <;> exact ⟨fun l e => by simp [conc] at e, fun l e => by simp [conc] at e⟩
/-- A block of its own stands behind it. -/
def holds : AO → Bool
  | .dead | .ent .. | .snap .. => false
  | _ => true
def elders : AO → List Nat
  | .cells _ _ _ _ _ el _ => el
  | _ => []
def isStale : AO → Bool
  | .cells _ _ _ _ st _ _ => st
  | _ => false

/-- A frame's temporaries. -/
def FrRel (n : Nat) (I : Itp) (tm : Tr AV) (tmps : Array Value) : Prop := ∀ t a, Has tm t a → tmps[t]? = some (conc I a) ∧ ok n I a
/-- The cells that a row knows. -/
def CellsRel (n : Nat) (I : Itp) (base : Nat) (c : Tr AV) (k : Nat) (cs : Array Value) : Prop :=
  ∀ i a, Has c i a → i < k ∧ cs[base + i]? = some (conc I a) ∧ ok n I a ∧ isCell a = true
/-- The entries of a map. -/
def EntsRel (n : Nat) (I : Itp) (es : List (AV × AV)) (ces : List MapEntry) : Prop :=
  ces.map (fun e => (e.key, e.val)) = es.map (fun e => (conc I e.1, conc I e.2)) ∧ (∀ e ∈ es, ok n I e.1 ∧ ok n I e.2 ∧ keyEq e.1 e.1 = some true)
def MapRel (n : Nat) (I : Itp) (es : List (AV × AV)) (ces : Array MapEntry) (clock : Nat) : Prop :=
  EntsRel n I es ces.toList ∧ (ces.toList.map (·.key)).Nodup ∧ (ces.toList.map (·.born)).Nodup ∧ ∀ e ∈ ces.toList, e.born < clock

/-- How many cells are known. -/
def kO : AO → Nat
  | .cells _ k _ _ _ _ _ => k
  | _ => 0
/-- c, a stale elder of b, does not reach beyond it. -/
def Under (I : Itp) (b : Nat) (o : AO) (c : Nat) (q : AO) : Prop := c ∈ elders o ∧ isStale q = true ∧ I.base c + kO q ≤ I.base b + kO o

section
variable (P : Program)
def ObjRel (I : Itp) (H : Nat → AO → Prop) (n : Nat) (w : World) (b : Nat) : AO → Prop
  | .dead => True
  | .cells c k t op st el fz => ∃ cs lo hi, w.heap[I.blk b]? = some (.cells cs t (lo, hi)) ∧ CellsRel n I (I.base b) c k cs ∧
      (∀ i, i < cs.size → lo ≤ i → hi ≤ i) ∧ (fz = false → lo = 0 ∧ hi = 0) ∧ (op = true → ∃ sz, sizeB P t = some sz ∧ cs.size = I.base b + I.cap b * sz) ∧ I.base b + k ≤ cs.size ∧ (∀ v ∈ cs.toList, v.oneCell' = true)
  | .map es ver => ver < n ∧ ∃ ces clock, w.heap[I.blk b]? = some (.map ces clock) ∧ MapRel n I es ces clock
  | .iter m ver rem last => I.base b = 0 ∧ m < n ∧ ver < n ∧ (okL n I rem ∧ (rem.map (conc I)).Nodup) ∧ (∀ a ∈ rem, keyEq a a = some true) ∧ (∀ a, last = some a → ok n I a ∧ keyEq a a = some true) ∧
      ∃ since seen stepped, w.heap[I.blk b]? = some (.mapIter (some (I.blk m)) since seen stepped) ∧
        ∀ es, H m (.map es ver) → ∃ ces clock, w.heap[I.blk m]? = some (.map ces clock) ∧ since = clock ∧ stepped = clock ∧
          ∀ e ∈ ces.toList, ((seen.contains e.born = false ↔ ∃ a ∈ rem, conc I a = e.key) ∧ (∀ a, last = some a → conc I a = e.key → seen.back? = some e.born))
  | .iter0 => I.base b = 0 ∧ ∃ since seen stepped, w.heap[I.blk b]? = some (.mapIter none since seen stepped)
  | .ent m ver key => m < n ∧ ver < n ∧ ok n I key ∧ keyEq key key = some true ∧
      ∀ es, H m (.map es ver) → ∃ ces clock, w.heap[I.blk m]? = some (.map ces clock) ∧ ∀ e ∈ ces.toList, e.key = conc I key → e.born = I.cap b
  | .sit s pos => I.base b = 0 ∧ w.heap[I.blk b]? = some (.stringIter ⟨(s.map UInt8.ofNat).toArray⟩ pos)
  | .loop st fn tm ps asg body pend d => d < n ∧ ∃ tmps, w.heap[I.blk b]? = some (.loop { state := st, pending := pend, fn, tmps, params := ps.toArray, assign := asg, body, defers := I.blk d }) ∧ FrRel n I tm tmps
  | .dfr => w.heap[I.blk b]? = some (.deferred (some []))
  | .snap c k => (I.snap b).size = k ∧ CellsRel n I 0 c k (I.snap b) ∧ (∀ v ∈ (I.snap b).toList, v.oneCell' = true)

/-- The world is as the memory H, by the interpretation I, tells; what X names is as it was in W. -/
structure Sim (X : Nat → Prop) (W : World) (I : Itp) (H : Nat → AO → Prop) (n fl : Nat) (w : World) : Prop where
  os : w.os = W.os
  tape : w.tape = W.tape
  out : w.output = W.output
  size : W.heap.size ≤ w.heap.size
  glob : glim ≤ n ∧ ∀ g, g < glim → I.blk g = g ∧ I.base g = 0
  keep : ∀ b, X b → b < w.heap.size ∧ w.heap[b]? = W.heap[b]?
  uniq : ∀ b o q, H b o → H b q → o = q
  low : ∀ b o, H b o → b < n
  obj : ∀ b o, H b o → ObjRel P I H n w b o
  apart : ∀ b o c q, H b o → H c q → b ≠ c → holds o = true → holds q = true → I.blk b = I.blk c → Under I b o c q ∨ Under I c q b o
  away : ∀ b o, H b o → holds o = true → fl ≤ b → ¬ X (I.blk b)
end

theorem FrRel.mono {m n : Nat} {I J : Itp} {tm : Tr AV} {tmps : Array Value} (h : FrRel n I tm tmps) (ha : Agree n I J) (hmn : n ≤ m) : FrRel m J tm tmps := fun t a ht => by
  obtain ⟨h1, h2⟩ := h t a ht
  exact ⟨by rw [conc_agree ha h2]; exact h1, ok_agree ha hmn h2⟩
theorem CellsRel.mono {m n : Nat} {I J : Itp} {base k : Nat} {c : Tr AV} {cs : Array Value} (h : CellsRel n I base c k cs) (ha : Agree n I J) (hmn : n ≤ m) : CellsRel m J base c k cs := fun i a hi => by
  obtain ⟨h0, h1, h2, h3⟩ := h i a hi
  exact ⟨h0, by rw [conc_agree ha h2]; exact h1, ok_agree ha hmn h2, h3⟩
theorem EntsRel.mono {m n : Nat} {I J : Itp} {es : List (AV × AV)} {ces : List MapEntry} (h : EntsRel n I es ces) (ha : Agree n I J) (hmn : n ≤ m) : EntsRel m J es ces := by
  obtain ⟨h1, h2⟩ := h
  refine ⟨?_, fun e he => ?_⟩
  · rw [h1]
    refine List.map_congr_left fun e he => ?_
    obtain ⟨k1, k2, _⟩ := h2 e he
    rw [conc_agree ha k1, conc_agree ha k2]
  · obtain ⟨k1, k2, k3⟩ := h2 e he
    exact ⟨ok_agree ha hmn k1, ok_agree ha hmn k2, k3⟩
theorem MapRel.mono {m n : Nat} {I J : Itp} {es : List (AV × AV)} {ces : Array MapEntry} {clock : Nat} (h : MapRel n I es ces clock) (ha : Agree n I J) (hmn : n ≤ m) : MapRel m J es ces clock :=
  ⟨h.1.mono ha hmn, h.2⟩

section
variable {P : Program} {X : Nat → Prop} {W : World}
/-- An object's rows stand on: the names mean what they meant, its block and the maps' blocks are as they were. -/
theorem objRel_keep {I J : Itp} {H H' : Nat → AO → Prop} {m n : Nat} {w w' : World} {b : Nat} {o : AO} (h : ObjRel P I H n w b o) (ha : Agree n I J) (hmn : n ≤ m) (hb : b < n)
    (hw : holds o = true → w'.heap[I.blk b]? = w.heap[I.blk b]?)
    (hm : ∀ c es v, c < n → v < n → H' c (.map es v) → ∃ es', H c (.map es' v) ∧ ∀ ces clock, w.heap[I.blk c]? = some (.map ces clock) →
      ∃ ces', w'.heap[I.blk c]? = some (.map ces' clock) ∧ ∀ e ∈ ces'.toList, ∃ e' ∈ ces.toList, e'.key = e.key ∧ e'.born = e.born) :
    ObjRel P J H' m w' b o := by
  obtain ⟨j1, j2, j3, j4⟩ := ha b hb
  cases o with
  | dead => trivial
  | cells c k t op st el fz =>
    obtain ⟨cs, lo, hi, h1, h2, h3, h4, h5, h6, h7⟩ := h
    exact ⟨cs, lo, hi, by rw [j1, hw rfl]; exact h1, by rw [j2]; exact h2.mono ha hmn, h3, h4, by rw [j2, j3]; exact h5, by rw [j2]; exact h6, h7⟩
  | map es ver =>
    obtain ⟨h0, ces, clock, h1, h2⟩ := h
    exact ⟨by omega, ces, clock, by rw [j1, hw rfl]; exact h1, h2.mono ha hmn⟩
  | iter q ver rem last =>
    obtain ⟨h0, h1, h2, ⟨h3, h3n⟩, h4, h5, since, seen, stepped, h6, h7⟩ := h
    obtain ⟨q1, _⟩ := ha q h1
    refine ⟨j2.trans h0, by omega, by omega, ⟨okL_agree ha hmn h3, by rw [List.map_congr_left (fun a ha' => conc_agree ha (okL_iff.1 h3 a ha'))]; exact h3n⟩, h4, fun a e => ⟨ok_agree ha hmn (h5 a e).1, (h5 a e).2⟩, since, seen, stepped, by rw [j1, q1, hw rfl]; exact h6, fun es he => ?_⟩
    obtain ⟨es', hes, hmv⟩ := hm q es ver h1 h2 he
    obtain ⟨ces, clock, k1, k2, k3, k4⟩ := h7 es' hes
    obtain ⟨ces', l1, l2⟩ := hmv ces clock k1
    refine ⟨ces', clock, by rw [q1]; exact l1, k2, k3, fun e he' => ?_⟩
    obtain ⟨e', l3, l4, l5⟩ := l2 e he'
    obtain ⟨k5, k6⟩ := k4 e' l3
    rw [l4, l5] at k5 k6
    refine ⟨k5.trans ⟨?_, ?_⟩, fun a e => ?_⟩
    · rintro ⟨a, ha1, ha2⟩; exact ⟨a, ha1, by rw [conc_agree ha (okL_iff.1 h3 a ha1)]; exact ha2⟩
    · rintro ⟨a, ha1, ha2⟩; exact ⟨a, ha1, by rw [conc_agree ha (okL_iff.1 h3 a ha1)] at ha2; exact ha2⟩
    · rw [conc_agree ha (h5 a e).1]; exact k6 a e
  | iter0 =>
    obtain ⟨h0, since, seen, stepped, h1⟩ := h
    exact ⟨j2.trans h0, since, seen, stepped, by rw [j1, hw rfl]; exact h1⟩
  | ent q ver key =>
    obtain ⟨h1, h2, h3, h4, h5⟩ := h
    obtain ⟨q1, _⟩ := ha q h1
    refine ⟨by omega, by omega, ok_agree ha hmn h3, h4, fun es he => ?_⟩
    obtain ⟨es', hes, hmv⟩ := hm q es ver h1 h2 he
    obtain ⟨ces, clock, k1, k2⟩ := h5 es' hes
    obtain ⟨ces', l1, l2⟩ := hmv ces clock k1
    refine ⟨ces', clock, by rw [q1]; exact l1, fun e he' hk => ?_⟩
    obtain ⟨e', l3, l4, l5⟩ := l2 e he'
    rw [j3, ← l5]
    rw [conc_agree ha h3] at hk
    exact k2 e' l3 (l4.trans hk)
  | sit s pos =>
    obtain ⟨h0, h⟩ := h
    exact ⟨j2.trans h0, by rw [j1, hw rfl]; exact h⟩
  | loop st fn tm ps asg body pend d =>
    obtain ⟨h0, tmps, h1, h2⟩ := h
    obtain ⟨d1, _⟩ := ha d h0
    exact ⟨by omega, tmps, by rw [j1, d1, hw rfl]; exact h1, h2.mono ha hmn⟩
  | dfr => have h : w.heap[I.blk b]? = _ := h; show w'.heap[J.blk b]? = _; rw [j1, hw rfl]; exact h
  | snap c k => exact ⟨by rw [j4]; exact h.1, by rw [j4]; exact h.2.1.mono ha hmn, by rw [j4]; exact h.2.2⟩

theorem holds_block {I : Itp} {H : Nat → AO → Prop} {n : Nat} {w : World} {b : Nat} {o : AO} (h : ObjRel P I H n w b o) (ho : holds o = true) : I.blk b < w.heap.size := by
  have key : ∀ q : Obj, w.heap[I.blk b]? = some q → I.blk b < w.heap.size := fun q hq => by
    rcases Nat.lt_or_ge (I.blk b) w.heap.size with h' | h'
    · exact h'
    · rw [Array.getElem?_eq_none h'] at hq; cases hq
  cases o <;> simp [holds] at ho
  case cells c k t op st el fz => obtain ⟨cs, lo, hi, h1, _⟩ := h; exact key _ h1
  case map es ver => obtain ⟨_, ces, clock, h1, _⟩ := h; exact key _ h1
  case iter m ver rem last => obtain ⟨_, _, _, _, _, _, since, seen, stepped, h1, _⟩ := h; exact key _ h1
  case iter0 => obtain ⟨_, _, _, _, h1⟩ := h; exact key _ h1
  case sit s pos => exact key _ h.2
  case loop st fn tm ps asg body pend d => obtain ⟨_, tmps, h1, _⟩ := h; exact key _ h1
  case dfr => exact key _ h

/-- H' is H but for o at b. -/
def HUpd (H : Nat → AO → Prop) (b : Nat) (o : AO) (H' : Nat → AO → Prop) : Prop := (∀ q, H' b q ↔ q = o) ∧ ∀ c q, c ≠ b → (H' c q ↔ H c q)
theorem hupd_of {h h' : HT} {b : Nat} {o : AO} (hu : Upd b o h h') : HUpd (Has h) b o (Has h') :=
  ⟨fun q => ⟨fun hq => hq.uniq hu.1, fun e => e ▸ hu.1⟩, fun c q hc => hu.2 c q hc⟩
/-- One name's meaning is set. -/
def Itp.set (I : Itp) (b blk base cap : Nat) (sn : Array Value) : Itp :=
  ⟨fun c => if c = b then blk else I.blk c, fun c => if c = b then base else I.base c, fun c => if c = b then cap else I.cap c, fun c => if c = b then sn else I.snap c⟩
theorem Itp.set_agree (I : Itp) (n blk base cap : Nat) (sn : Array Value) : Agree n I (I.set n blk base cap sn) := fun b hb => by
  have : b ≠ n := by omega
  simp [Itp.set, this]
@[simp] theorem Itp.set_blk (I : Itp) (n blk base cap : Nat) (sn : Array Value) : (I.set n blk base cap sn).blk n = blk := by simp [Itp.set]
@[simp] theorem Itp.set_base (I : Itp) (n blk base cap : Nat) (sn : Array Value) : (I.set n blk base cap sn).base n = base := by simp [Itp.set]
@[simp] theorem Itp.set_cap (I : Itp) (n blk base cap : Nat) (sn : Array Value) : (I.set n blk base cap sn).cap n = cap := by simp [Itp.set]
@[simp] theorem Itp.set_snap (I : Itp) (n blk base cap : Nat) (sn : Array Value) : (I.set n blk base cap sn).snap n = sn := by simp [Itp.set]

/-- Memory is forgotten. -/
theorem Sim.sub {I : Itp} {H H' : Nat → AO → Prop} {n fl : Nat} {w : World} (h : Sim P X W I H n fl w) (hs : ∀ b o, H' b o → o = .dead ∨ H b o) (hu : ∀ b o q, H' b o → H' b q → o = q) (hl : ∀ b o, H' b o → b < n) : Sim P X W I H' n fl w := by
  refine ⟨h.os, h.tape, h.out, h.size, h.glob, h.keep, hu, hl, fun b o ho => ?_, fun b o c q ho hq hne h1 h2 hb => ?_, fun b o ho h1 hf => ?_⟩
  · rcases hs b o ho with rfl | ho'
    · trivial
    · refine objRel_keep (h.obj b o ho') (Agree.refl n I) (Nat.le_refl n) (h.low b o ho') (fun _ => rfl) fun c es v _ _ hc => ?_
      rcases hs c _ hc with e | hc'
      · cases e
      · exact ⟨es, hc', fun ces clock hh => ⟨ces, hh, fun e he => ⟨e, he, rfl, rfl⟩⟩⟩
  · rcases hs b o ho with rfl | ho'
    · cases h1
    · rcases hs c q hq with rfl | hq'
      · cases h2
      · exact h.apart b o c q ho' hq' hne h1 h2 hb
  · rcases hs b o ho with rfl | ho'
    · cases h1
    · exact h.away b o ho' h1 hf

/-- A name more; its block, if it has one, is new (or none's but that of what it is an elder's younger). -/
theorem Sim.new {I J : Itp} {H H' : Nat → AO → Prop} {n fl : Nat} {w w' : World} {o : AO} (h : Sim P X W I H n fl w) (hu : HUpd H n o H')
    (ha : Agree n I J) (hos : w'.os = w.os) (htape : w'.tape = w.tape) (hout : w'.output = w.output) (hsize : w.heap.size ≤ w'.heap.size)
    (hheap : ∀ b, b < w.heap.size → w'.heap[b]? = w.heap[b]?) (ho : ObjRel P J H' (n + 1) w' n o) (hnew : holds o = true → w.heap.size ≤ J.blk n) :
    Sim P X W J H' (n + 1) fl w' := by
  have hcase : ∀ b q, H' b q → (b = n ∧ q = o) ∨ (b ≠ n ∧ H b q) := fun b q hb => by
    by_cases e : b = n
    · subst e; exact .inl ⟨rfl, (hu.1 q).1 hb⟩
    · exact .inr ⟨e, (hu.2 b q e).1 hb⟩
  have hblk : ∀ b q, H b q → holds q = true → I.blk b < w.heap.size := fun b q hb hq => holds_block (h.obj b q hb) hq
  refine ⟨hos.trans h.os, htape.trans h.tape, hout.trans h.out, Nat.le_trans h.size hsize, ⟨by have := h.glob.1; omega, fun g hg => by obtain ⟨h1, h2, _⟩ := ha g (by have := h.glob.1; omega); obtain ⟨h3, h4⟩ := h.glob.2 g hg; exact ⟨h1.trans h3, h2.trans h4⟩⟩, fun b hb => ?_, fun b p q hp hq => ?_, fun b q hb => ?_, fun b q hb => ?_, fun b p c q hp hq hne h1 h2 e => ?_, fun b q hb hq hf => ?_⟩
  · obtain ⟨k1, k2⟩ := h.keep b hb
    exact ⟨by omega, by rw [hheap b k1]; exact k2⟩
  · rcases hcase b p hp with ⟨rfl, rfl⟩ | ⟨e, hp'⟩
    · exact ((hu.1 q).1 hq).symm
    · rcases hcase b q hq with ⟨e', _⟩ | ⟨_, hq'⟩
      · exact (e e').elim
      · exact h.uniq b p q hp' hq'
  · rcases hcase b q hb with ⟨rfl, _⟩ | ⟨_, hb'⟩
    · omega
    · have := h.low b q hb'; omega
  · rcases hcase b q hb with ⟨rfl, rfl⟩ | ⟨e, hb'⟩
    · exact ho
    · refine objRel_keep (h.obj b q hb') ha (by omega) (h.low b q hb') (fun hh => hheap _ (hblk b q hb' hh)) fun c es v hc _ hm => ?_
      rcases hcase c _ hm with ⟨rfl, _⟩ | ⟨_, hm'⟩
      · omega
      · exact ⟨es, hm', fun ces clock hh => ⟨ces, by rw [hheap _ (hblk c _ hm' rfl)]; exact hh, fun e he => ⟨e, he, rfl, rfl⟩⟩⟩
  · rcases hcase b p hp with ⟨rfl, rfl⟩ | ⟨e1, hp'⟩
    · rcases hcase c q hq with ⟨rfl, _⟩ | ⟨e2, hq'⟩
      · exact (hne rfl).elim
      · have := hblk c q hq' h2
        have hn := hnew h1
        rw [(ha c (h.low c q hq')).1] at e
        omega
    · rcases hcase c q hq with ⟨rfl, rfl⟩ | ⟨e2, hq'⟩
      · have := hblk b p hp' h1
        have hn := hnew h2
        rw [(ha b (h.low b p hp')).1] at e
        omega
      · rw [(ha b (h.low b p hp')).1, (ha c (h.low c q hq')).1] at e
        have hb := (ha b (h.low b p hp')).2.1
        have hc := (ha c (h.low c q hq')).2.1
        rcases h.apart b p c q hp' hq' hne h1 h2 e with ⟨a1, a2, a3⟩ | ⟨a1, a2, a3⟩
        · exact .inl ⟨a1, a2, by rw [hb, hc]; exact a3⟩
        · exact .inr ⟨a1, a2, by rw [hb, hc]; exact a3⟩
  · rcases hcase b q hb with ⟨rfl, rfl⟩ | ⟨e, hb'⟩
    · intro hx
      have := (h.keep _ hx).1
      have := hnew hq
      omega
    · rw [(ha b (h.low b q hb')).1]
      exact h.away b q hb' hq hf

/-- A name's object, and its block, are others. -/
theorem Sim.put {I : Itp} {H H' : Nat → AO → Prop} {n fl : Nat} {w w' : World} {b : Nat} {o o' : AO} (h : Sim P X W I H n fl w) (hb : H b o) (hf : fl ≤ b) (hold : holds o = true)
    (hst : isStale o = false) (hu : HUpd H b o' H') (hel : elders o = [] ∨ ∀ c q, c ≠ b → H' c q → c ∈ elders o → holds q = false)
    (hst' : isStale o' = false) (hel' : elders o' = [])
    (hos : w'.os = w.os) (htape : w'.tape = w.tape) (hout : w'.output = w.output) (hsize : w'.heap.size = w.heap.size) (hheap : ∀ x, x ≠ I.blk b → w'.heap[x]? = w.heap[x]?)
    (ho : ObjRel P I H' n w' b o')
    (hm : ∀ es v, v < n → o' = .map es v → ∃ es', o = .map es' v ∧ ∀ ces clock, w.heap[I.blk b]? = some (.map ces clock) →
      ∃ ces', w'.heap[I.blk b]? = some (.map ces' clock) ∧ ∀ e ∈ ces'.toList, ∃ e' ∈ ces.toList, e'.key = e.key ∧ e'.born = e.born) :
    Sim P X W I H' n fl w' := by
  have hcase : ∀ c q, H' c q → (c = b ∧ q = o') ∨ (c ≠ b ∧ H c q) := fun c q hc => by
    by_cases e : c = b
    · subst e; exact .inl ⟨rfl, (hu.1 q).1 hc⟩
    · exact .inr ⟨e, (hu.2 c q e).1 hc⟩
  have hblk : ∀ c q, H' c q → c ≠ b → holds q = true → I.blk c ≠ I.blk b := fun c q hc e hq heq => by
    have hc' := (hu.2 c q e).1 hc
    rcases h.apart b o c q hb hc' (Ne.symm e) hold hq heq.symm with ⟨h1, h2, _⟩ | ⟨h1, h2, _⟩
    · rcases hel with h0 | h0
      · rw [h0] at h1; cases h1
      · rw [h0 c q e hc h1] at hq; cases hq
    · rw [hst] at h2; cases h2
  refine ⟨hos.trans h.os, htape.trans h.tape, hout.trans h.out, by rw [hsize]; exact h.size, h.glob, fun x hx => ?_, fun c p q hp hq => ?_, fun c q hc => ?_, fun c q hc => ?_, fun c p d q hp hq hne h1 h2 e => ?_, fun c q hc hq hfc => ?_⟩
  · obtain ⟨k1, k2⟩ := h.keep x hx
    refine ⟨by omega, ?_⟩
    rw [hheap x (fun e => h.away b o hb hold hf (e ▸ hx))]
    exact k2
  · rcases hcase c p hp with ⟨rfl, rfl⟩ | ⟨e, hp'⟩
    · exact ((hu.1 q).1 hq).symm
    · exact h.uniq c p q hp' ((hu.2 c q e).1 hq)
  · rcases hcase c q hc with ⟨rfl, _⟩ | ⟨_, hc'⟩
    · exact h.low c o hb
    · exact h.low c q hc'
  · rcases hcase c q hc with ⟨rfl, rfl⟩ | ⟨e, hc'⟩
    · exact ho
    · refine objRel_keep (h.obj c q hc') (Agree.refl n I) (Nat.le_refl n) (h.low c q hc') (fun hh => hheap _ (hblk c q hc e hh)) fun d es v hd hv hmm => ?_
      rcases hcase d _ hmm with ⟨rfl, e'⟩ | ⟨e', hm'⟩
      · obtain ⟨es', k1, k2⟩ := hm es v hv e'.symm
        exact ⟨es', k1 ▸ hb, k2⟩
      · exact ⟨es, hm', fun ces clock hh => ⟨ces, by rw [hheap _ (hblk d _ hmm e' rfl)]; exact hh, fun e he => ⟨e, he, rfl, rfl⟩⟩⟩
  · rcases hcase c p hp with ⟨rfl, rfl⟩ | ⟨e1, hp'⟩
    · rcases hcase d q hq with ⟨rfl, _⟩ | ⟨e2, hq'⟩
      · exact (hne rfl).elim
      · exact (hblk d q hq e2 h2 e.symm).elim
    · rcases hcase d q hq with ⟨rfl, rfl⟩ | ⟨e2, hq'⟩
      · exact (hblk c p hp e1 h1 e).elim
      · exact h.apart c p d q hp' hq' hne h1 h2 e
  · rcases hcase c q hc with ⟨rfl, rfl⟩ | ⟨e, hc'⟩
    · exact h.away c o hb hold hf
    · exact h.away c q hc' hq hfc
end
end Go.Proofs.YtajdeaabgplacaaGreatDoor.Sev

namespace Go.Proofs.YtajdeaabgplacaaGreatDoor.Sev
open Go
set_option linter.unusedVariables false

/-- The frame b, running, with these temporaries and this left to do. -/
def Fm (b : Frame) (a : Act) (todo : List Item) : Frame := { b with tmps := a.tmps, defers := a.defers, todo := todo, mode := .run }
theorem Fm.eval (b : Frame) (a : Act) (todo : List Item) (x : Operand) : (Fm b a todo).eval x = a.eval x := by cases x <;> rfl
theorem Fm.eval' (b : Frame) (a : Act) (todo : List Item) : (Fm b a todo).eval = a.eval := funext (Fm.eval b a todo)

section
variable {P : Program} {b : Frame} {a : Act} {k : List Item} {cs : List Frame} {w : World} {ops : Array Oper}
theorem mv_skip : step P (lone (Fm b a (.code .skip :: k)) cs w) = .next (lone (Fm b a k) cs w) := step_lone_go (by simp [stepG, stepG.exec, Fm])
theorem mv_label {l : Nat} : step P (lone (Fm b a (.code (.label l) :: k)) cs w) = .next (lone (Fm b a k) cs w) := step_lone_go (by simp [stepG, stepG.exec, Fm])
theorem mv_inBlock {id : Nat} : step P (lone (Fm b a (.inBlock id :: k)) cs w) = .next (lone (Fm b a k) cs w) := step_lone_go (by simp [stepG, stepG.exec, Fm])
theorem mv_inScope {c : Code} : step P (lone (Fm b a (.inScope c :: k)) cs w) = .next (lone (Fm b a k) cs w) := step_lone_go (by simp [stepG, stepG.exec, Fm])
theorem mv_seq {x y : Code} : step P (lone (Fm b a (.code (.seq x y) :: k)) cs w) = .next (lone (Fm b a (.code x :: .code y :: k)) cs w) := step_lone_go (by simp [stepG, stepG.exec, Fm])
theorem mv_cond {c : Operand} {x y : Code} {t : Bool} (h : a.eval c = .bool t) : step P (lone (Fm b a (.code (.cond c x y) :: k)) cs w) = .next (lone (Fm b a (.code (if t then x else y) :: k)) cs w) :=
  step_lone_go (by
    have := Fm.eval b a (.code (.cond c x y) :: k) c
    simp only [Fm] at this
    simp [stepG, stepG.exec, Fm, this, h])
theorem mv_block {id : Nat} {c : Code} : step P (lone (Fm b a (.code (.block id c) :: k)) cs w) = .next (lone (Fm b a (.code c :: .inBlock id :: k)) cs w) := step_lone_go (by simp [stepG, stepG.exec, Fm])
theorem mv_loop {c : Code} : step P (lone (Fm b a (.code (.loop c) :: k)) cs w) = .next (lone (Fm b a (.code c :: .inLoop c :: k)) cs w) := step_lone_go (by simp [stepG, stepG.exec, Fm])
theorem mv_inLoop {c : Code} : step P (lone (Fm b a (.inLoop c :: k)) cs w) = .next (lone (Fm b a (.code c :: .inLoop c :: k)) cs w) := step_lone_go (by simp [stepG, stepG.exec, Fm])
theorem mv_scope {c : Code} : step P (lone (Fm b a (.code (.scope c) :: k)) cs w) = .next (lone (Fm b a (.code c :: .inScope c :: k)) cs w) := step_lone_go (by simp [stepG, stepG.exec, Fm])
theorem mv_exit {id : Nat} {k' : List Item} (h : exitTo id k = some k') : step P (lone (Fm b a (.code (.exit id) :: k)) cs w) = .next (lone (Fm b a k') cs w) := step_lone_go (by simp [stepG, stepG.exec, Fm, h])
theorem mv_goto {l : Nat} {k' : List Item} (h : gotoIn l k = some k') : step P (lone (Fm b a (.code (.goto l) :: k)) cs w) = .next (lone (Fm b a k') cs w) := step_lone_go (by simp [stepG, stepG.exec, Fm, h])
theorem mv_ret (hr : b.roundOf = none) : step P (lone (Fm b a (.code .ret :: k)) cs w) = .next (lone { Fm b a (.code .ret :: k) with mode := .returning } cs w) :=
  step_lone_go (by simp [stepG, stepG.exec, Fm, hr])
theorem mv_end (hr : b.roundOf = none) : step P (lone (Fm b a []) cs w) = .next (lone { Fm b a [] with mode := .returning } cs w) :=
  step_lone_go (by simp [stepG, stepG.exec, Fm, hr])
/-- A round is over: its loop is told, the iterator goes on. -/
theorem mv_round_exit {l id : Nat} {w' : World} {v : Value} {c : Frame} (hr : b.roundOf = some l) (hk : b.kind = .normal) (he : exitTo id k = none) (hx : (Instr.endRound l (some (.exit id))).run P w = .ok v w') :
    step P (lone (Fm b a (.code (.exit id) :: k)) (c :: cs) w) = .next (lone (c.finish v) cs w') :=
  step_lone_go (by simp [stepG, stepG.exec, Fm, hr, he, hx, doReturn, hk])
theorem mv_round_ret {l : Nat} {w' : World} {v : Value} {c : Frame} (hr : b.roundOf = some l) (hk : b.kind = .normal) (hx : (Instr.endRound l (some .ret)).run P w = .ok v w') :
    step P (lone (Fm b a (.code .ret :: k)) (c :: cs) w) = .next (lone (c.finish v) cs w') :=
  step_lone_go (by simp [stepG, stepG.exec, Fm, hr, hx, doReturn, hk])
theorem mv_round_end {l : Nat} {w' : World} {v : Value} {c : Frame} (hr : b.roundOf = some l) (hk : b.kind = .normal) (hx : (Instr.endRound l none).run P w = .ok v w') :
    step P (lone (Fm b a []) (c :: cs) w) = .next (lone (c.finish v) cs w') :=
  step_lone_go (by simp [stepG, stepG.exec, Fm, hr, hx, doReturn, hk])
theorem mv_region {id : Nat} : step P (lone (Fm b a (.code (.region id ops false) :: k)) cs w) = .next (lone (Fm b a (.inRegion ops (List.range ops.size) :: k)) cs w) :=
  step_lone_go (by simp [stepG, stepG.exec, Fm])
theorem mv_region_draw {id : Nat} : step P (lone (Fm b a (.code (.region id ops true) :: k)) cs w) =
      .next (lone (Fm b a (.inRegion ops (Region.schedule (P.follows .mixedOrders) ops (w.tape w.drawn (.order b.fn id))) :: k)) cs { w with drawn := w.drawn + 1 }) :=
  step_lone_go (by simp [stepG, stepG.exec, Fm, choose, Sem.run, Question.forced, Question.cut])
theorem mv_region_end : step P (lone (Fm b a (.inRegion ops [] :: k)) cs w) = .next (lone (Fm b a k) cs w) := step_lone_go (by simp [stepG, stepG.exec, Fm])
theorem Fm.finish (i : Nat) (rest : List Nat) (v : Value) : (Fm b a (.inRegion ops (i :: rest) :: k)).finish v = Fm b (a.put ((ops[i]?).bind (·.dst)) v) (.inRegion ops rest :: k) := by
  cases h : (ops[i]?).bind (·.dst) <;> simp [Frame.finish, Fm, Act.put, h]
theorem mv_op_skip {i : Nat} {rest : List Nat} (h : ((ops[i]?).map (Region.wanted · (yielded ops a.tmps))).getD false = false) :
    step P (lone (Fm b a (.inRegion ops (i :: rest) :: k)) cs w) = .next (lone (Fm b (a.put ((ops[i]?).bind (·.dst)) undef) (.inRegion ops rest :: k)) cs w) := by
  rw [← Fm.finish]
  exact step_lone_go (by
    have h' := h
    simp only [Fm] at *
    simp [stepG, stepG.exec, h'])
theorem stepG_Fm {i : Nat} {rest : List Nat} {o : Oper} (ho : ops[i]? = some o) (hw : Region.wanted o (yielded ops a.tmps) = true) (hd : b.roundOf = none ∨ ∀ c, o.op ≠ .defer c) :
    stepG P true { frame := Fm b a (.inRegion ops (i :: rest) :: k), callers := cs, status := .running, dying := none } w =
      stepG.apply P true (Fm b a (.inRegion ops (i :: rest) :: k)) cs none (execOp a.eval o) w := by
  have he := Fm.eval' b a (.inRegion ops (i :: rest) :: k)
  simp only [Fm] at he
  have h1 : stepG P true { frame := Fm b a (.inRegion ops (i :: rest) :: k), callers := cs, status := .running, dying := none } w = stepG.oper P true (Fm b a (.inRegion ops (i :: rest) :: k)) cs none w := by
    simp [stepG, stepG.exec, Fm, ho, hw]
  rw [h1]
  simp only [stepG.oper, Frame.oper?, Fm, ho, he]
  rcases hd with hd | hd
  · simp [hd]
  · split
    · rename_i c hc; exact (hd _ hc).elim
    · rfl
section op
variable {i : Nat} {rest : List Nat} {o : Oper} {w' : World}
theorem mv_value (ho : ops[i]? = some o) (hw : Region.wanted o (yielded ops a.tmps) = true) (hd : b.roundOf = none ∨ ∀ c, o.op ≠ .defer c) {v : Value} (hr : (execOp a.eval o).run P w = .ok (.value v) w') :
    step P (lone (Fm b a (.inRegion ops (i :: rest) :: k)) cs w) = .next (lone (Fm b (a.put o.dst v) (.inRegion ops rest :: k)) cs w') := by
  refine step_lone_go ?_
  have hf : (Fm b a (.inRegion ops (i :: rest) :: k)).finish v = Fm b (a.put o.dst v) (.inRegion ops rest :: k) := by rw [Fm.finish, ho]; rfl
  rw [stepG_Fm ho hw hd, ← hf]; simp [stepG.apply, hr]
theorem mv_skip_op (ho : ops[i]? = some o) (hw : Region.wanted o (yielded ops a.tmps) = true) (hd : b.roundOf = none ∨ ∀ c, o.op ≠ .defer c) (hr : (execOp a.eval o).run P w = .ok .skip w') :
    step P (lone (Fm b a (.inRegion ops (i :: rest) :: k)) cs w) = .next (lone (Fm b (a.put o.dst undef) (.inRegion ops rest :: k)) cs w') := by
  refine step_lone_go ?_
  have hf : (Fm b a (.inRegion ops (i :: rest) :: k)).finish undef = Fm b (a.put o.dst undef) (.inRegion ops rest :: k) := by rw [Fm.finish, ho]; rfl
  rw [stepG_Fm ho hw hd, ← hf]; simp [stepG.apply, hr]
theorem mv_defer (ho : ops[i]? = some o) (hw : Region.wanted o (yielded ops a.tmps) = true) (hd : b.roundOf = none ∨ ∀ c, o.op ≠ .defer c) {d : Deferred} (hr : (execOp a.eval o).run P w = .ok (.defer d) w') :
    step P (lone (Fm b a (.inRegion ops (i :: rest) :: k)) cs w) = .next (lone (Fm b ({ a with defers := d :: a.defers }.put o.dst undef) (.inRegion ops rest :: k)) cs w') := by
  refine step_lone_go ?_
  have hf : (Fm b { a with defers := d :: a.defers } (.inRegion ops (i :: rest) :: k)).finish undef = Fm b ({ a with defers := d :: a.defers }.put o.dst undef) (.inRegion ops rest :: k) := by rw [Fm.finish, ho]; rfl
  rw [stepG_Fm ho hw hd]; simp only [stepG.apply, Sem.runT_eq, hr, GStep.bare_after]
  rw [← hf]; rfl
theorem mv_enter (ho : ops[i]? = some o) (hw : Region.wanted o (yielded ops a.tmps) = true) (hd : b.roundOf = none ∨ ∀ c, o.op ≠ .defer c) {f : FuncId} {args : Array Value} (hr : (execOp a.eval o).run P w = .ok (.enter f args) w') :
    step P (lone (Fm b a (.inRegion ops (i :: rest) :: k)) cs w) = .next (lone (Frame.enter P f args .normal) (Fm b a (.inRegion ops (i :: rest) :: k) :: cs) w') := by
  refine step_lone_go ?_
  rw [stepG_Fm ho hw hd]; simp [stepG.apply, hr, Fm]
theorem mv_round (ho : ops[i]? = some o) (hw : Region.wanted o (yielded ops a.tmps) = true) (hd : b.roundOf = none ∨ ∀ c, o.op ≠ .defer c) {l : Nat} {f : FuncId} {tmps : Array Value} {asg body : Code} (hr : (execOp a.eval o).run P w = .ok (.round l f tmps asg body) w') :
    step P (lone (Fm b a (.inRegion ops (i :: rest) :: k)) cs w) = .next (lone (Frame.round l f tmps asg body .normal) (Fm b a (.inRegion ops (i :: rest) :: k) :: cs) w') := by
  refine step_lone_go ?_
  rw [stepG_Fm ho hw hd]; simp [stepG.apply, hr, Fm]
theorem mv_asks (ho : ops[i]? = some o) (hw : Region.wanted o (yielded ops a.tmps) = true) (hd : b.roundOf = none ∨ ∀ c, o.op ≠ .defer c) (hb : b.kind ≠ .early) (h : o.asks P a w) : Outgrown P (lone (Fm b a (.inRegion ops (i :: rest) :: k)) cs w) := by
  obtain ⟨hm, hkept⟩ := h
  have hg := stepG_Fm (P := P) (b := b) (k := k) (cs := cs) (w := w) (rest := rest) ho hw hd
  have hes : noRoomEvent ∈ (stepG P true { frame := Fm b a (.inRegion ops (i :: rest) :: k), callers := cs, status := .running, dying := none } w).es := by
    rw [hg]
    have hk : ((Fm b a (.inRegion ops (i :: rest) :: k)).kind == CallKind.early) = false := by simpa [Fm] using hb
    have hm' : noRoomEvent ∈ Sem.events P (execOp a.eval o) w #[] := hm
    simp only [stepG.apply, Sem.runT_eq, if_true, hk, Bool.false_eq_true, if_false]
    rw [GStep.es_after]
    refine Array.mem_append.2 (.inl (seen_keeps P _ _ ?_))
    cases hrun : (execOp a.eval o).run P w with
    | ok x w' => exact hm'
    | halt x w' =>
      rw [hrun] at hkept
      cases x with
      | unsupported u => cases u <;> first | exact hkept.elim | exact hm'
      | blocked => exact hkept.elim
      | waiting => exact hkept.elim
      | _ => exact hm'
  refine Outgrown.now (o := { g := 0, fn := (Fm b a (.inRegion ops (i :: rest) :: k)).fn, pos := (Fm b a (.inRegion ops (i :: rest) :: k)).place, act := .mark .noRoom }) ?_ rfl rfl
  rw [stepT, move_lone]
  refine runT_lists P _ 0 { frame := Fm b a (.inRegion ops (i :: rest) :: k), callers := cs, status := .running, dying := none } (by simp [lone]) _ ?_
  exact mem_ofEvents (e := noRoomEvent) (by simpa [lone] using hes)
end op
/-- A range over a function begins. -/
theorem mv_range {fo : Operand} {ps : Array Tmp} {asg body : Code} {l : Nat} {mark : List Deferred} {w₁ w' : World} {f : FuncId} {args : Array Value} {d : Deferred}
    (h1 : (Instr.enterLoop b.fn a.tmps ps asg body b.roundOf).run P w = .ok (l, mark) w₁)
    (h2 : Deferred.ofValue (a.eval fo) #[.func (.yield l) #[] #[]] = .pure d) (h3 : (invoke d.target d.args).run P w₁ = .ok (.enter f args) w') :
    step P (lone (Fm b a (.code (.rangeFunc fo ps asg body) :: k)) cs w) = .next (lone (Frame.enter P f args .normal) (Fm b ⟨a.tmps, mark ++ a.defers⟩ (.inRangeFunc l :: k) :: cs) w') := by
  refine step_lone_go ?_
  have he : ∀ todo, (Fm b ⟨a.tmps, mark ++ a.defers⟩ todo).eval = a.eval := fun todo => by funext x; cases x <;> rfl
  have he' : ({ fn := b.fn, tmps := a.tmps, todo := .inRangeFunc l :: k, defers := mark ++ a.defers, mode := .run, kind := b.kind, roundOf := b.roundOf } : Frame).eval = a.eval := he (.inRangeFunc l :: k)
  have h4 : ((do let d ← resolve a.eval { callee := .value fo, args := #[.const (.func (.yield l) #[] #[])], argTypes := #[] } 0; invoke d.target d.args : Sem Next)).run P w₁ = .ok (.enter f args) w' := by
    have : resolve a.eval { callee := .value fo, args := #[.const (.func (.yield l) #[] #[])], argTypes := #[] } 0 = Deferred.ofValue (a.eval fo) #[.func (.yield l) #[] #[]] := by simp [resolve, Act.eval]
    rw [this, h2]; exact h3
  simp only [stepG, stepG.exec, Fm, Sem.runT_eq, h1, GStep.bare_after, stepG.apply, he', if_true, h4]
  rfl
theorem mv_range_round {fo : Operand} {ps : Array Tmp} {asg body : Code} {l : Nat} {mark : List Deferred} {w₁ w' : World} {l' : Nat} {f : FuncId} {tmps : Array Value} {asg' body' : Code} {d : Deferred}
    (h1 : (Instr.enterLoop b.fn a.tmps ps asg body b.roundOf).run P w = .ok (l, mark) w₁)
    (h2 : Deferred.ofValue (a.eval fo) #[.func (.yield l) #[] #[]] = .pure d) (h3 : (invoke d.target d.args).run P w₁ = .ok (.round l' f tmps asg' body') w') :
    step P (lone (Fm b a (.code (.rangeFunc fo ps asg body) :: k)) cs w) = .next (lone (Frame.round l' f tmps asg' body' .normal) (Fm b ⟨a.tmps, mark ++ a.defers⟩ (.inRangeFunc l :: k) :: cs) w') := by
  refine step_lone_go ?_
  have he : ∀ todo, (Fm b ⟨a.tmps, mark ++ a.defers⟩ todo).eval = a.eval := fun todo => by funext x; cases x <;> rfl
  have he' : ({ fn := b.fn, tmps := a.tmps, todo := .inRangeFunc l :: k, defers := mark ++ a.defers, mode := .run, kind := b.kind, roundOf := b.roundOf } : Frame).eval = a.eval := he (.inRangeFunc l :: k)
  have h4 : ((do let d ← resolve a.eval { callee := .value fo, args := #[.const (.func (.yield l) #[] #[])], argTypes := #[] } 0; invoke d.target d.args : Sem Next)).run P w₁ = .ok (.round l' f tmps asg' body') w' := by
    have : resolve a.eval { callee := .value fo, args := #[.const (.func (.yield l) #[] #[])], argTypes := #[] } 0 = Deferred.ofValue (a.eval fo) #[.func (.yield l) #[] #[]] := by simp [resolve, Act.eval]
    rw [this, h2]; exact h3
  simp only [stepG, stepG.exec, Fm, Sem.runT_eq, h1, GStep.bare_after, stepG.apply, he', if_true, h4]
  rfl
theorem mv_beginRound {l : Nat} {w' : World} (hr : b.roundOf = some l) (h : (Instr.beginRound l).run P w = .ok () w') :
    step P (lone (Fm b a (.beginRound :: k)) cs w) = .next (lone (Fm b a k) cs w') := by
  refine step_lone_go ?_
  simp [stepG, stepG.exec, Fm, hr, stepG.apply, h, Frame.finish]
theorem mv_endRange {l : Nat} {w' : World} {j : Option Code} (h : (Instr.endLoop l).run P w = .ok j w') :
    step P (lone (Fm b a (.endRangeFunc l :: k)) cs w) = .next (lone (Fm b a ((j.map Item.code).toList ++ k)) cs w') :=
  step_lone_go (by simp [stepG, stepG.exec, Fm, h])
end
end Go.Proofs.YtajdeaabgplacaaGreatDoor.Sev

namespace Go.Proofs.YtajdeaabgplacaaGreatDoor.Sev
open Go Go.RowKit
set_option linter.unusedVariables false
variable {L : List (AV × St)}

/-! ### the ways -/
theorem le_newK {s : St} {o : AO} {k : Nat → St → Ans} (h : Le L (newK s o k)) : ∃ h', Upd s.nx o s.h h' ∧ Le L (k s.nx ⟨h', s.nx + 1, s.fl⟩) := by
  obtain ⟨hh, nx, fl⟩ := s
  exact le_setH (le_natK (k := fun n => setH hh n o fun h' => k n ⟨h', Nat.succ n, fl⟩) h)
theorem le_putK {s : St} {b : Nat} {o : AO} {k : St → Ans} (h : Le L (putK s b o k)) : s.fl ≤ b ∧ ∃ h' o0, Has s.h b o0 ∧ Upd b o s.h h' ∧ Le L (k ⟨h', s.nx, s.fl⟩) := by
  obtain ⟨hh, nx, fl⟩ := s
  obtain ⟨h1, h2⟩ := le_ifN h
  obtain ⟨o0, k1, h3⟩ := le_getH h2
  obtain ⟨h', k2, k3⟩ := le_setH h3
  exact ⟨Nat.le_of_ble_eq_true h1, h', o0, k1, k2, k3⟩
theorem le_objK {s : St} {b : Nat} {k : AO → Ans} (h : Le L (objK s b k)) : ∃ o, Has s.h b o ∧ Le L (k o) := by
  obtain ⟨hh, nx, fl⟩ := s
  exact le_getH h
theorem le_asCells {o : AO} {k : Tr AV → Nat → TypeId → Bool → Bool → List Nat → Bool → Ans} (h : Le L (asCells o k)) : ∃ c n t op st el fz, o = .cells c n t op st el fz ∧ Le L (k c n t op st el fz) := by
  cases o <;> first | exact h.no.elim | exact ⟨_, _, _, _, _, _, _, rfl, h⟩
theorem le_asMap {o : AO} {k : List (AV × AV) → Nat → Ans} (h : Le L (asMap o k)) : ∃ es v, o = .map es v ∧ Le L (k es v) := by
  cases o <;> first | exact h.no.elim | exact ⟨_, _, rfl, h⟩
theorem le_readN {c : Tr AV} : ∀ {n off : Nat} {k : List AV → Ans}, Le L (readN c n off k) → ∃ l, l.length = n ∧ (∀ j v, l[j]? = some v → Has c (off + j) v) ∧ Le L (k l) := by
  intro n
  induction n with
  | zero => intro off k h; exact ⟨[], rfl, fun j v hj => by simp at hj, h⟩
  | succ n ih =>
    intro off k h
    obtain ⟨v, hv, h1⟩ := le_getK (t := c) (n := off) (k := fun v => readN c n (Nat.succ off) fun l => k (v :: l)) h
    obtain ⟨l, hl, hj, hk⟩ := ih h1
    refine ⟨v :: l, by simp [hl], fun j u hu => ?_, hk⟩
    cases j with
    | zero => simp at hu; subst hu; exact hv
    | succ j => simp at hu; have := hj j u hu; rwa [show Nat.succ off + j = off + (j + 1) from by omega] at this
/-- Cells l stand from off on; all else is as it was. -/
def Over (c : Tr AV) (off : Nat) (l : List AV) (c' : Tr AV) : Prop :=
  ∀ i v, Has c' i v → (off ≤ i ∧ i < off + l.length ∧ l[i - off]? = some v) ∨ (¬ (off ≤ i ∧ i < off + l.length) ∧ Has c i v)
theorem le_writeN : ∀ {l : List AV} {c : Tr AV} {off : Nat} {k : Tr AV → Ans}, Le L (writeN l c off k) → ∃ c', Over c off l c' ∧ (∀ j, j < l.length → ∃ v, Has c (off + j) v) ∧ Le L (k c') := by
  intro l
  induction l with
  | nil => intro c off k h; exact ⟨c, fun i v hi => .inr ⟨fun hh => by simp at hh; omega, hi⟩, fun j hj => by simp at hj, h⟩
  | cons v l ih =>
    intro c off k h
    obtain ⟨c1, o, ho, hu, h1⟩ := le_updK (t := c) (n := off) (v := v) (k := fun c' => writeN l c' (Nat.succ off) k) h
    obtain ⟨c', hov, hth, hk⟩ := ih h1
    refine ⟨c', fun i u hi => ?_, fun j hj => ?_, hk⟩
    · rcases hov i u hi with ⟨h2, h3, h4⟩ | ⟨h2, h3⟩
      · refine .inl ⟨by omega, by simp; omega, ?_⟩
        rw [show i - off = (i - Nat.succ off) + 1 from by omega]
        simpa using h4
      · by_cases e : i = off
        · subst e
          obtain rfl := hu.1.uniq h3
          exact .inl ⟨Nat.le_refl _, by simp, by simp⟩
        · exact .inr ⟨by simp at h2 ⊢; omega, (hu.2 i u e).1 h3⟩
    · cases j with
      | zero => exact ⟨o, ho⟩
      | succ j =>
        obtain ⟨u, hu'⟩ := hth j (by simpa using hj)
        rw [show Nat.succ off + j = off + (j + 1) from by omega] at hu'
        exact ⟨u, (hu.2 _ u (by omega)).1 hu'⟩
theorem le_pushN : ∀ {l : List AV} {c : Tr AV} {off : Nat} {k : Tr AV → Nat → Ans}, Le L (pushN l c off k) → ∃ c', Over c off l c' ∧ Le L (k c' (off + l.length)) := by
  intro l
  induction l with
  | nil => intro c off k h; exact ⟨c, fun i v hi => .inr ⟨fun hh => by simp at hh; omega, hi⟩, h⟩
  | cons v l ih =>
    intro c off k h
    obtain ⟨c1, hu, h1⟩ := le_setK (t := c) (n := off) (v := v) (k := fun c' => pushN l c' (Nat.succ off) k) h
    obtain ⟨c', hov, hk⟩ := ih h1
    refine ⟨c', fun i u hi => ?_, by rw [show off + (v :: l).length = Nat.succ off + l.length from by simp; omega]; exact hk⟩
    rcases hov i u hi with ⟨h2, h3, h4⟩ | ⟨h2, h3⟩
    · refine .inl ⟨by omega, by simp; omega, ?_⟩
      rw [show i - off = (i - Nat.succ off) + 1 from by omega]
      simpa using h4
    · by_cases e : i = off
      · subst e
        obtain rfl := hu.1.uniq h3
        exact .inl ⟨Nat.le_refl _, by simp, by simp⟩
      · exact .inr ⟨by simp at h2 ⊢; omega, (hu.2 i u e).1 h3⟩
/-- Elders go: what is behind them. -/
theorem le_dropAll : ∀ {l : List Nat} {s : St} {k : St → Ans}, Le L (dropAll l s k) →
    ∃ s', s'.nx = s.nx ∧ s'.fl = s.fl ∧ (∀ b o, Has s'.h b o → (b ∈ l ∧ o = .dead ∧ ∃ q, Has s.h b q) ∨ (b ∉ l ∧ Has s.h b o)) ∧ (∀ b o, b ∉ l → Has s.h b o → Has s'.h b o) ∧ Le L (k s') := by
  intro l
  induction l with
  | nil => intro s k h; exact ⟨s, rfl, rfl, fun b o hb => .inr ⟨by simp, hb⟩, fun b o _ hb => hb, h⟩
  | cons c l ih =>
    intro s k h
    obtain ⟨hfl, h', o0, ho, hu, h1⟩ := le_putK (s := s) (b := c) (o := .dead) (k := fun s' => dropAll l s' k) h
    obtain ⟨s', e1, e2, hs, hs2, hk⟩ := ih h1
    refine ⟨s', e1, e2, fun b o hb => ?_, fun b o hb hh => hs2 b o (fun hm => hb (List.mem_cons_of_mem _ hm)) ((hu.2 b o (fun e => hb (e ▸ List.mem_cons_self))).2 hh), hk⟩
    rcases hs b o hb with ⟨h2, h3, q, hq⟩ | ⟨h2, h3⟩
    · refine .inl ⟨List.mem_cons_of_mem _ h2, h3, ?_⟩
      by_cases e : b = c
      · exact ⟨o0, e ▸ ho⟩
      · exact ⟨q, (hu.2 b q e).1 hq⟩
    · by_cases e : b = c
      · subst e
        exact .inl ⟨List.mem_cons_self, (hu.1.uniq h3).symm, o0, ho⟩
      · exact .inr ⟨by simp [e, h2], (hu.2 b o e).1 h3⟩

/-! ### cells of a world -/
def wr (cs : Array Value) : Nat → List Value → Array Value
  | _, [] => cs
  | o, v :: r => wr (cs.setIfInBounds o v) (o + 1) r
theorem wr_size : ∀ (l : List Value) (cs : Array Value) (o : Nat), (wr cs o l).size = cs.size
  | [], _, _ => rfl
  | v :: l, cs, o => by rw [wr, wr_size l]; simp
theorem wr_get : ∀ (l : List Value) (cs : Array Value) (o i : Nat), o + l.length ≤ cs.size → (wr cs o l)[i]? = if o ≤ i ∧ i < o + l.length then l[i - o]? else cs[i]?
  | [], cs, o, i, _ => by rw [wr, if_neg (fun hh => by simp at hh; omega)]
  | v :: l, cs, o, i, h => by
    rw [wr, wr_get l _ _ _ (by simp at h ⊢; omega)]
    by_cases h1 : o + 1 ≤ i ∧ i < o + 1 + l.length
    · rw [if_pos h1, if_pos (by simp; omega), show i - o = (i - (o + 1)) + 1 from by omega]; simp
    · rw [if_neg h1]
      by_cases h2 : i = o
      · subst h2
        rw [if_pos (by simp)]
        simp at h
        simp [show i < cs.size from by omega]
      · rw [if_neg (by simp; omega)]
        simp [Ne.symm h2]
theorem setCells_at {t : TypeId} {fr : Nat × Nat} {b : Nat} : ∀ (l : List Value) (w : World) (o : Nat) (cs : Array Value), w.heap[b]? = some (.cells cs t fr) → (w.setCells b o l).heap[b]? = some (.cells (wr cs o l) t fr)
  | [], w, o, cs, h => h
  | v :: l, w, o, cs, h => by
    rw [World.setCells, wr]
    refine setCells_at l _ _ _ ?_
    simp [World.setCell, Array.getElem?_modify, h]
theorem setCells_other {b c : Nat} (hc : c ≠ b) : ∀ (l : List Value) (w : World) (o : Nat), (w.setCells b o l).heap[c]? = w.heap[c]?
  | [], w, o => rfl
  | v :: l, w, o => by rw [World.setCells, setCells_other hc l]; exact Below.heap_setCell _ _ _ _ hc
theorem setCells_rest {b : Nat} : ∀ (l : List Value) (w : World) (o : Nat), (w.setCells b o l).os = w.os ∧ (w.setCells b o l).tape = w.tape ∧ (w.setCells b o l).output = w.output ∧ (w.setCells b o l).heap.size = w.heap.size
  | [], w, o => ⟨rfl, rfl, rfl, rfl⟩
  | v :: l, w, o => by
    obtain ⟨h1, h2, h3, h4⟩ := setCells_rest (b := b) l (w.setCell ⟨b, o, none⟩ v) (o + 1)
    rw [World.setCells]
    exact ⟨h1.trans rfl, h2.trans rfl, h3.trans rfl, h4.trans (by simp [World.setCell])⟩

section
variable {P : Program} {X : Nat → Prop} {W : World} {I : Itp} {w : World}
/-- What a state tells. -/
abbrev SimS (P : Program) (X : Nat → Prop) (W : World) (I : Itp) (s : St) (w : World) : Prop := Sim P X W I (Has s.h) s.nx s.fl w
/-- A later state: names have not turned, the floor stands. -/
def Ext (s : St) (I : Itp) (s' : St) (I' : Itp) : Prop := Agree s.nx I I' ∧ s.nx ≤ s'.nx ∧ s'.fl = s.fl
theorem Ext.refl (s : St) (I : Itp) : Ext s I s I := ⟨Agree.refl _ _, Nat.le_refl _, rfl⟩
theorem Ext.trans {s s' s'' : St} {I I' I'' : Itp} (h : Ext s I s' I') (h' : Ext s' I' s'' I'') : Ext s I s'' I'' :=
  ⟨h.1.trans h'.1 h.2.1, Nat.le_trans h.2.1 h'.2.1, h'.2.2.trans h.2.2⟩

theorem cell_of_block {b : Nat} {cs : Array Value} {t : TypeId} {fr : Nat × Nat} (h : w.heap[b]? = some (.cells cs t fr)) (i : Nat) : w.cell? ⟨b, i, none⟩ = cs[i]? := by
  simp [World.cell?, h]
theorem getElem?_lt {cs : Array Value} {i : Nat} {v : Value} (h : cs[i]? = some v) : i < cs.size := by
  rcases Nat.lt_or_ge i cs.size with h' | h'
  · exact h'
  · rw [Array.getElem?_eq_none h'] at h; cases h

/-- Cells are loaded. -/
theorem le_loadK {s : St} {b off n : Nat} {k : List AV → Ans} (h : Le L (loadK s b off n k)) (hS : SimS P X W I s w) :
    ∃ l, l.length = n ∧ okL s.nx I l ∧ (∀ v ∈ l, isCell v = true) ∧ w.rangeAt (I.blk b) (I.base b + off) (concL I l) ∧ Le L (k l) := by
  obtain ⟨o, ho, h1⟩ := le_objK h
  obtain ⟨c, m, t, op, st, el, fz, rfl, h2⟩ := le_asCells h1
  obtain ⟨l, hl, hj, hk⟩ := le_readN (le_natK (k := fun off => readN c n off k) h2)
  obtain ⟨cs, lo, hi, hb, hc, _⟩ := hS.obj b _ ho
  have hall : ∀ v ∈ l, ok s.nx I v ∧ isCell v = true := fun v hv => by
    obtain ⟨j, hj'⟩ := List.getElem?_of_mem hv
    obtain ⟨_, _, h5, h6⟩ := hc _ v (hj j v hj')
    exact ⟨h5, h6⟩
  refine ⟨l, hl, okL_iff.2 fun v hv => (hall v hv).1, fun v hv => (hall v hv).2, fun j v hv => ?_, hk⟩
  rw [concL_map, List.getElem?_map] at hv
  cases hu : l[j]? with
  | none => simp [hu] at hv
  | some u =>
    simp [hu] at hv
    subst hv
    obtain ⟨_, h4, _⟩ := hc _ u (hj j u hu)
    rw [cell_of_block hb, Nat.add_assoc]
    exact h4

/-- A new block with a new name. -/
theorem sim_new {s : St} {o : AO} {h' : HT} {q : Obj} (hS : SimS P X W I s w) (hu : Upd s.nx o s.h h') (cap : Nat)
    (ho : ObjRel P (I.set s.nx w.heap.size 0 cap #[]) (Has h') (s.nx + 1) (w.alloc q) s.nx o) :
    SimS P X W (I.set s.nx w.heap.size 0 cap #[]) ⟨h', s.nx + 1, s.fl⟩ (w.alloc q) ∧ Ext s I ⟨h', s.nx + 1, s.fl⟩ (I.set s.nx w.heap.size 0 cap #[]) := by
  refine ⟨?_, I.set_agree _ _ _ _ _, by simp, rfl⟩
  exact Sim.new hS (hupd_of hu) (I.set_agree _ _ _ _ _) rfl rfl rfl (by simp) (fun b hb => Below.heap_alloc w q b hb) ho (fun _ => by simp)
/-- A new name without a block. -/
theorem sim_name {s : St} {o : AO} {h' : HT} (hS : SimS P X W I s w) (hu : Upd s.nx o s.h h') (hh : holds o = false) (blk base cap : Nat) (sn : Array Value)
    (ho : ObjRel P (I.set s.nx blk base cap sn) (Has h') (s.nx + 1) w s.nx o) :
    SimS P X W (I.set s.nx blk base cap sn) ⟨h', s.nx + 1, s.fl⟩ w ∧ Ext s I ⟨h', s.nx + 1, s.fl⟩ (I.set s.nx blk base cap sn) := by
  refine ⟨?_, I.set_agree _ _ _ _ _, by simp, rfl⟩
  exact Sim.new hS (hupd_of hu) (I.set_agree _ _ _ _ _) rfl rfl rfl (Nat.le_refl _) (fun b hb => rfl) ho (fun h => by rw [hh] at h; cases h)

theorem oneCell_of {I : Itp} {u : AV} (h : isCell u = true) : (conc I u).oneCell' = true := by
  cases u <;> first | rfl | (simp [isCell] at h)
theorem oneCells_of {I : Itp} {l : List AV} (h : ∀ u ∈ l, isCell u = true) : ∀ v ∈ concL I l, v.oneCell' = true := fun v hv => by
  rw [concL_map] at hv
  obtain ⟨u, hu, rfl⟩ := List.mem_map.1 hv
  exact oneCell_of (h u hu)
theorem wr_mem {p : Value → Prop} : ∀ (l : List Value) (cs : Array Value) (o : Nat), (∀ v ∈ cs.toList, p v) → (∀ v ∈ l, p v) → ∀ v ∈ (wr cs o l).toList, p v
  | [], cs, o, h, _, v, hv => h v hv
  | u :: l, cs, o, h, hl, v, hv => wr_mem l (cs.setIfInBounds o u) (o + 1) (fun x hx => by
      have hx : x ∈ (cs.setIfInBounds o u).toList := hx
      rw [Array.toList_setIfInBounds] at hx
      rcases List.mem_or_eq_of_mem_set hx with hx | rfl
      · exact h x hx
      · exact hl _ List.mem_cons_self) (fun x hx => hl x (List.mem_cons_of_mem _ hx)) v hv
theorem cellsRel_new {n : Nat} {c : Tr AV} {l : List AV} (hov : Over .lf 0 l c) (hok : okL n I l) (hcell : ∀ v ∈ l, isCell v = true) (extra : List Value) :
    CellsRel n I 0 c l.length (concL I l ++ extra).toArray := fun i a hi => by
  rcases hov i a hi with ⟨_, h2, h3⟩ | ⟨_, h⟩
  · have hm : a ∈ l := List.mem_of_getElem? h3
    refine ⟨by omega, ?_, okL_iff.1 hok a hm, hcell a hm⟩
    simp only [Nat.sub_zero] at h3
    simp only [Nat.zero_add, List.getElem?_toArray]
    rw [List.getElem?_append_left (by rw [concL_length]; omega), concL_map, List.getElem?_map, h3]; rfl
  · exact (has_lf h).elim
/-- A row of its own. -/
theorem le_rowK {s : St} {t : TypeId} {l : List AV} {k : Nat → St → Ans} (h : Le L (rowK s t false false l k)) (hS : SimS P X W I s w) (hok : okL s.nx I l) (hcell : ∀ v ∈ l, isCell v = true) :
    ∃ s' I', Ext s I s' I' ∧ SimS P X W I' s' (w.alloc (.cells (concL I l).toArray t)) ∧ s.nx < s'.nx ∧ I'.blk s.nx = w.heap.size ∧ I'.base s.nx = 0 ∧ Le L (k s.nx s') := by
  obtain ⟨c, hov, h1⟩ := le_pushN h
  obtain ⟨h', hu, hk⟩ := le_newK h1
  have hc := cellsRel_new hov hok hcell []
  obtain ⟨h2, h3⟩ := sim_new (q := .cells (concL I l).toArray t) hS hu 0 (by
    refine ⟨(concL I l).toArray, 0, 0, ?_, ?_, fun i _ h => h, fun _ => ⟨rfl, rfl⟩, (fun h => by cases h), by simp [concL_length], fun v hv => oneCells_of hcell v (by simpa using hv)⟩
    · rw [Itp.set_blk]; exact heap_alloc_new w _
    · rw [Itp.set_base, Nat.zero_add]
      have := hc.mono (I.set_agree s.nx w.heap.size 0 0 #[]) (Nat.le_succ _)
      simpa using this)
  exact ⟨_, _, h3, h2, by simp, by simp, by simp, hk⟩

/-- A row's cells are others; its elders are forgotten. -/
theorem sim_write {s s1 : St} {b : Nat} {c c' : Tr AV} {n : Nat} {t : TypeId} {op : Bool} {el : List Nat} {fz : Bool} {h' : HT} {cs : Array Value} {lo hi off : Nat} {vs : List Value} (hS : SimS P X W I s w)
    (ho : Has s.h b (.cells c n t op false el fz)) (hfl : s.fl ≤ b) (hs : ∀ b o, Has s1.h b o → (b ∈ el ∧ o = .dead ∧ ∃ q, Has s.h b q) ∨ (b ∉ el ∧ Has s.h b o))
    (hu : Upd b (.cells c' n t op false [] fz) s1.h h') (hb : w.heap[I.blk b]? = some (.cells cs t (lo, hi))) (hfz : ∀ i, i < cs.size → lo ≤ i → hi ≤ i) (hfz0 : fz = false → lo = 0 ∧ hi = 0)
    (hop : op = true → ∃ sz, sizeB P t = some sz ∧ cs.size = I.base b + I.cap b * sz) (hks : I.base b + n ≤ cs.size) (h1c : ∀ v ∈ cs.toList, v.oneCell' = true) (h1v : ∀ v ∈ vs, v.oneCell' = true) (hc : CellsRel s.nx I (I.base b) c' n (wr cs off vs)) :
    Sim P X W I (Has h') s.nx s.fl (w.setCells (I.blk b) off vs) := by
  have hput := setCells_at vs w off cs hb
  obtain ⟨r1, r2, r3, r4⟩ := setCells_rest (b := I.blk b) vs w off
  -- the elders are forgotten first
  have hmid : Sim P X W I (fun x q => (x = b ∧ q = .cells c n t op false el fz) ∨ (x ≠ b ∧ Has s1.h x q)) s.nx s.fl w := by
    refine hS.sub (fun x q hq => ?_) (fun x p q hp hq => ?_) (fun x q hq => ?_)
    · rcases hq with ⟨rfl, rfl⟩ | ⟨_, hq⟩
      · exact .inr ho
      · rcases hs x q hq with ⟨_, h6⟩ | ⟨_, h6⟩
        · exact .inl h6.1
        · exact .inr h6
    · rcases hp with ⟨e, rfl⟩ | ⟨e, hp⟩
      · rcases hq with ⟨_, rfl⟩ | ⟨e', _⟩
        · rfl
        · exact (e' e).elim
      · rcases hq with ⟨e', _⟩ | ⟨_, hq⟩
        · exact (e e').elim
        · exact hp.uniq hq
    · rcases hq with ⟨rfl, _⟩ | ⟨_, hq⟩
      · exact hS.low x _ ho
      · rcases hs x q hq with ⟨_, _, q', h6⟩ | ⟨_, h6⟩ <;> exact hS.low x _ h6
  refine Sim.put hmid (b := b) (o := .cells c n t op false el fz) (o' := .cells c' n t op false [] fz) (Or.inl ⟨rfl, rfl⟩) hfl rfl rfl
    ⟨fun q => ⟨fun hq => hq.uniq hu.1, fun e => e ▸ hu.1⟩, fun x q hx => ?_⟩ (.inr fun x q e hq hx => ?_) rfl rfl r1 r2 r3 r4 (fun x hx => setCells_other hx _ _ _)
    ⟨wr cs off vs, lo, hi, hput, hc, fun i hi' => hfz i (by rwa [wr_size] at hi'), hfz0, fun ho' => ?_, by rw [wr_size]; exact hks, wr_mem _ _ _ h1c h1v⟩ (fun _ _ _ e => by cases e)
  · rw [hu.2 x q hx]
    exact ⟨fun hq => .inr ⟨hx, hq⟩, fun hq => by rcases hq with ⟨e, _⟩ | ⟨_, hq⟩; exact (hx e).elim; exact hq⟩
  · rcases hs x q ((hu.2 x q e).1 hq) with ⟨_, rfl, _⟩ | ⟨h6, _⟩
    · rfl
    · exact (h6 hx).elim
  · obtain ⟨sz, k1, k2⟩ := hop ho'
    exact ⟨sz, k1, by rw [wr_size]; exact k2⟩
theorem there_of {b : Nat} {cs : Array Value} {t : TypeId} {lo hi off n : Nat} (hb : w.heap[b]? = some (.cells cs t (lo, hi))) (hfz : ∀ i, i < cs.size → lo ≤ i → hi ≤ i) (hin : ∀ j, j < n → off + j < cs.size) : w.there b off n := fun j hj => by
  have hlt := hin j hj
  refine ⟨by rw [cell_of_block hb]; simp [hlt], ?_⟩
  simp only [World.frozen?, hb]
  by_cases hlo : lo ≤ off + j
  · have := hfz _ hlt hlo
    simp [hlo]; omega
  · simp [hlo]
/-- Cells are stored. -/
theorem le_storeK {s : St} {b off : Nat} {l : List AV} {k : St → Ans} (h : Le L (storeK s b off l k)) (hS : SimS P X W I s w) (hok : okL s.nx I l) (hcell : ∀ v ∈ l, isCell v = true) :
    ∃ s', s'.nx = s.nx ∧ s'.fl = s.fl ∧ w.there (I.blk b) (I.base b + off) l.length ∧ SimS P X W I s' (w.setCells (I.blk b) (I.base b + off) (concL I l)) ∧ Le L (k s') := by
  obtain ⟨o, ho, h1⟩ := le_objK h
  obtain ⟨c, n, t, op, st, el, fz, rfl, h2⟩ := le_asCells h1
  rcases le_ifK h2 with ⟨_, h3⟩ | ⟨hst, h3⟩
  · exact h3.no.elim
  subst hst
  obtain ⟨c', hov, hth, h4⟩ := le_writeN (le_natK (k := fun off => writeN l c off fun c' => dropAll el s fun s => putK s b (.cells c' n t op false [] fz) k) h3)
  obtain ⟨s1, e1, e2, hs, hs2, h5⟩ := le_dropAll h4
  obtain ⟨hfl, h', o0, ho0, hu, hk⟩ := le_putK h5
  obtain ⟨cs, lo, hi, hb, hc, hfz, hfz0, hop, hks, h1c⟩ := hS.obj b _ ho
  have hin : ∀ j, j < l.length → I.base b + off + j < cs.size := fun j hj => by
    obtain ⟨v, hv⟩ := hth j hj
    have := getElem?_lt (hc _ v hv).2.1
    omega
  refine ⟨⟨h', s1.nx, s1.fl⟩, e1, e2, there_of hb hfz hin, ?_, hk⟩
  have hsize : I.base b + off + l.length ≤ cs.size ∨ l = [] := by
    cases l with
    | nil => exact .inr rfl
    | cons v r => left; have := hin r.length (by simp); simp; omega
  have hwr : ∀ i, (wr cs (I.base b + off) (concL I l))[i]? = if I.base b + off ≤ i ∧ i < I.base b + off + l.length then (concL I l)[i - (I.base b + off)]? else cs[i]? := fun i => by
    rcases hsize with hsz | rfl
    · rw [wr_get _ _ _ _ (by rw [concL_length]; exact hsz), concL_length]
    · rw [if_neg (fun hh => by simp at hh; omega)]; rfl
  show Sim P X W I (Has h') s1.nx s1.fl _
  rw [e1, e2]
  refine sim_write hS ho (by rw [← e2]; exact hfl) hs hu hb hfz hfz0 hop hks h1c (oneCells_of hcell) fun i a hi' => ?_
  rcases hov i a hi' with ⟨g1, g2, g3⟩ | ⟨g1, g2⟩
  · have hm : a ∈ l := List.mem_of_getElem? g3
    obtain ⟨v, hv⟩ := hth (i - off) (by omega)
    rw [show off + (i - off) = i from by omega] at hv
    refine ⟨(hc i v hv).1, ?_, okL_iff.1 hok a hm, hcell a hm⟩
    rw [hwr, if_pos (by omega), show I.base b + i - (I.base b + off) = i - off from by omega, concL_map, List.getElem?_map, g3]; rfl
  · obtain ⟨k1, k2, k3, k4⟩ := hc i a g2
    refine ⟨k1, ?_, k3, k4⟩
    rw [hwr, if_neg (by omega)]
    exact k2
end
end Go.Proofs.YtajdeaabgplacaaGreatDoor.Sev
