/-
  A region that draws its order and in which each operation, in every world that meets S, comes to one value and leaves a world that meets S: it is walked in one order, calls and all.
-/
import Derived.OrdersHeld
import Derived.RegionCalls
namespace Go.Proofs.YthhhdddojmkgnaaGreatDoor
open Go

section
variable {P : Program} {ops : Array Oper} {Q : Exit → Act → World → Prop} {md : Region.Mode} {S : World → Prop}

/-- Carried out, it comes to v, and S holds behind it. -/
def RunsTo (P : Program) (S : World → Prop) (v : Value) : Result Next → Prop
  | .ok (.value u) w' => u = v ∧ S w'
  | .ok (.enter f args) w' => Calls P f args w' fun e w'' => e = .returned v ∧ S w''
  | _ => False

/-- In state 'a', in every world that meets S, operation o comes to v and leaves S. -/
def DetIf (P : Program) (ops : Array Oper) (S : World → Prop) (o : Oper) (v : Value) (a : Act) : Prop :=
  (Region.wanted o (yielded ops a.tmps) = true ∧ ∀ w, S w → RunsTo P S v ((execOp a.eval o).run P w)) ∨
  (Region.wanted o (yielded ops a.tmps) = false ∧ v = undef)

theorem DetIf.of_same {o : Oper} {v : Value} {a a' : Act} (hy : DetIf P ops S o v a) (he : execOp a'.eval o = execOp a.eval o)
    (hw : Region.wanted o (yielded ops a'.tmps) = Region.wanted o (yielded ops a.tmps)) : DetIf P ops S o v a' := by
  unfold DetIf at *
  rw [he, hw]
  exact hy

theorem DetIf.wpOp {i : Nat} {o : Oper} {v : Value} {a : Act} (hi : ops[i]? = some o) (hy : DetIf P ops S o v a)
    {K : Act → World → Prop} {w : World} (hS : S w) (h : ∀ w', S w' → K (a.put o.dst v) w') : wpOp P ops Q i K a w := by
  unfold Go.wpOp
  simp only [hi]
  rcases hy with ⟨hw, hv⟩ | ⟨hw, rfl⟩
  · simp only [hw, if_true, Oper.wp]
    have h1 := hv w hS
    refine .inl ?_
    generalize (execOp a.eval o).run P w = r at h1
    cases r with
    | ok n w' =>
      cases n <;> simp only [RunsTo] at h1 <;> simp only [Oper.upon]
      case value u => obtain ⟨rfl, hS'⟩ := h1; exact h _ hS'
      case enter f args =>
        refine Calls.mono h1 fun e w'' he => ?_
        obtain ⟨rfl, hS'⟩ := he
        exact h _ hS'
    | halt x w' => simp only [RunsTo] at h1
  · simp only [hw, Bool.false_eq_true, if_false]; exact h w hS

/-- Whatever comes up next, in whatever world that meets S. -/
def wpDet (P : Program) (md : Region.Mode) (ops : Array Oper) (Q : Exit → Act → World → Prop) (S : World → Prop) : Nat → Array Bool → Act → Prop
  | 0, listed, a => Region.ready md ops listed = [] ∧ ∀ w, S w → Q .normal a w
  | fuel + 1, listed, a => (Region.ready md ops listed = [] → ∀ w, S w → Q .normal a w) ∧
    ∀ i ∈ Region.ready md ops listed, ∃ o v, ops[i]? = some o ∧ DetIf P ops S o v a ∧ wpDet P md ops Q S fuel (listed.setIfInBounds i true) (a.put o.dst v)

theorem wpAny_of_det : ∀ (fuel : Nat) (listed : Array Bool) (a : Act) (w : World), wpDet P md ops Q S fuel listed a → S w → wpAny P md ops Q fuel listed a w
  | 0, _, _, w, h, hS => ⟨h.1, h.2 w hS⟩
  | fuel + 1, _, _, w, h, hS => ⟨fun h0 => h.1 h0 w hS, fun i hi => by
      obtain ⟨o, v, ho, hd, hr⟩ := h.2 i hi
      exact hd.wpOp ho hS (fun w' hS' => wpAny_of_det fuel _ _ w' hr hS')⟩

theorem wpDet_first {i : Nat} {oi : Oper} {v : Value} (hi : ops[i]? = some oi) (hsel : ∀ (j : Nat) (o : Oper) cs b, ops[j]? = some o → o.op ≠ .select cs b) :
    ∀ (fuel : Nat) (listed : Array Bool) (a : Act),
      (∀ j oj, ops[j]? = some oj → j ≠ i → listed.getD j true = false → (∀ e ∈ oj.after, Region.binds md e = true → e.on ≠ i) → oi.apart ops oj = true) →
      i ∈ Region.ready md ops listed → DetIf P ops S oi v a →
      wpDet P md ops Q S fuel (listed.setIfInBounds i true) (a.put oi.dst v) → wpDet P md ops Q S (fuel + 1) listed a := by
  intro fuel
  induction fuel with
  | zero =>
    intro listed a _ hr hy H
    refine ⟨fun h => (by rw [h] at hr; cases hr), fun j hj => ?_⟩
    by_cases hji : j = i
    · subst hji; exact ⟨oi, v, hi, hy, H⟩
    · have := ready_mono hj hji
      rw [H.1] at this
      cases this
  | succ fuel ih =>
    intro listed a hfree hr hy H
    refine ⟨fun h => (by rw [h] at hr; cases hr), fun j hj => ?_⟩
    by_cases hji : j = i
    · subst hji; exact ⟨oi, v, hi, hy, H⟩
    · obtain ⟨oj', vj, hoj', hdj, Hj⟩ := H.2 j (ready_mono hj hji)
      obtain ⟨hjun, oj, hoj, hall⟩ := mem_ready.1 hj
      obtain rfl := Option.some.inj (hoj.symm.trans hoj')
      have hnot : ∀ e ∈ oj.after, Region.binds md e = true → e.on ≠ i := fun e he hb heq => by
        have h1 := hall e he hb
        have h0 := (mem_ready.1 hr).1
        rw [heq] at h1
        rcases Nat.lt_or_ge i listed.size with h' | h'
        · simp [h'] at h0 h1; rw [h0] at h1; cases h1
        · simp [Array.getElem?_eq_none h'] at h1
      have hap := hfree j oj hoj hji hjun hnot
      obtain ⟨h1, h2, h3⟩ := Oper.apart_spec hap
      have hsi : ∀ cs b, oi.op ≠ .select cs b := fun cs b => hsel i oi cs b hi
      have hsj : ∀ cs b, oj.op ≠ .select cs b := fun cs b => hsel j oj cs b hoj
      have dj : DetIf P ops S oj vj a := hdj.of_same (execOp_put oj hsj a oi.dst v h1).symm (wanted_put oj a oi.dst v h1).symm
      have di : DetIf P ops S oi v (a.put oj.dst vj) := hy.of_same (execOp_put oi hsi a oj.dst vj h3) (wanted_put oi a oj.dst vj h3)
      have hfree' : ∀ k ok, ops[k]? = some ok → k ≠ i → (listed.setIfInBounds j true).getD k true = false →
          (∀ e ∈ ok.after, Region.binds md e = true → e.on ≠ i) → oi.apart ops ok = true := fun k ok hk hki hun hno => by
        refine hfree k ok hk hki ?_ hno
        by_cases hjk : j = k
        · subst hjk; exact hjun
        · rw [getD_set_ne true hjk] at hun; exact hun
      refine ⟨oj, vj, hoj, dj, ih (listed.setIfInBounds j true) (a.put oj.dst vj) hfree' (ready_mono hr (Ne.symm hji)) di ?_⟩
      rw [Array.setIfInBounds_comm _ _ hji, ← Act.put_comm a v vj h2]
      exact Hj

/-- An operation is taken. -/
theorem det_take {i : Nat} {oi : Oper} {v : Value} {d : Option Tmp} {fuel : Nat} {l l' : Array Bool} {a : Act} (hi : ops[i]? = some oi) (hd : oi.dst = d) (hl : l.setIfInBounds i true = l')
    (hs : Region.noSelect ops = true) (hf : Region.free md ops l i = true) (hr : (Region.ready md ops l).contains i = true)
    (hy : DetIf P ops S oi v a) (h : wpDet P md ops Q S fuel l' (a.put d v)) : wpDet P md ops Q S (fuel + 1) l a := by
  subst hd; subst hl
  exact wpDet_first hi (Region.noSelect_spec hs) fuel l a (Region.free_spec hi hf) (by simpa using hr) hy h
/-- All have come up. -/
theorem det_done {l : Array Bool} {a : Act} (hr : Region.ready md ops l = []) (h : ∀ w, S w → Q .normal a w) : ∀ fuel, wpDet P md ops Q S fuel l a
  | 0 => ⟨hr, h⟩
  | _ + 1 => ⟨fun _ => h, by rw [hr]; simp⟩
/-- The beginning. -/
theorem det_start {id n : Nat} {l : Array Bool} {a : Act} {w : World} (hm : P.follows .mixedOrders = true) (hn : ops.size = n) (hl : Array.replicate n false = l) (hS : S w.drew)
    (h : wpDet P .any ops Q S n l a) : (Code.region id ops true).wp P Q a w := by
  subst hn; subst hl
  exact wp_region_any hm (wpAny_of_det _ _ _ _ h hS)
end
end Go.Proofs.YthhhdddojmkgnaaGreatDoor
