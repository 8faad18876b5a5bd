/-
  Sev: the operations that ask nothing of memory.
  Sev: the operations that ask nothing of memory, continued: slices, assertions, operators, conversions, aggregates, builtins.
  Sev: the operations that ask nothing of memory, the last: assertions, operators, conversions, aggregates, builtins.
  Sev: operators on any operands, conversions, aggregates, builtins that only compute.
  Sev: conversions, aggregates, builtins that only compute; what is light.
-/
import Derived.Test.YtajdeaabgplacaaGreatDoorSevP
import Derived.ChangeKeysEq
import Derived.Laws.Strings
namespace Go.Proofs.YtajdeaabgplacaaGreatDoor.Sev
open Go Go.RowKit
set_option linter.unusedVariables false
variable {L : List (AV × St)}

/-! ### what is asked of types -/
section
variable {P : Program}
theorem run_info {t : TypeId} {i : TypeInfo} (h : P.info? t = some i) (w : World) : (typeInfo t).run P w = .ok i w := by simp [typeInfo, h]
theorem run_size {t : TypeId} {n : Nat} (h : sizeB P t = some n) (w : World) : (sizeOf t).run P w = .ok n w := by
  unfold sizeB at h
  cases hi : P.info? t with
  | none => simp [hi] at h
  | some i => simp [hi] at h; simp [sizeOf, run_info hi, h]
theorem run_zero {t : TypeId} {z : AV} (h : zeroB P t = some z) (w : World) : ∃ v, (zeroValue t).run P w = .ok v w ∧ abs v = some z := by
  unfold zeroB at h
  cases hi : P.info? t with
  | none => simp [hi] at h
  | some i =>
    cases hz : i.zero with
    | none => simp [hi, hz] at h
    | some v => simp [hi, hz] at h; exact ⟨v, by simp [zeroValue, run_info hi, hz], h⟩
theorem run_agg {t : TypeId} {d : TypeDesc} (h : P.underlying t = some d) (w : World) : (isAgg t).run P w = .ok (isAggB P t) w := by
  unfold isAgg isAggB
  rw [Sem.run_bind, run_underlying h, h]
  cases d <;> simp
theorem aggO_some {t : TypeId} {g : Bool} (h : aggO P t = some g) (w : World) : (isAgg t).run P w = .ok g w := by
  unfold aggO at h
  split at h
  · rename_i fs hd; obtain rfl := Option.some.inj h; simp [isAgg, run_underlying hd]
  · rename_i n e hd; obtain rfl := Option.some.inj h; simp [isAgg, run_underlying hd]
  · rename_i d h1 h2 hd
    obtain rfl := Option.some.inj h
    simp only [isAgg, Sem.run_bind, run_underlying hd, Result.andThen_ok]
    cases d <;> first | exact (h1 _ hd).elim | exact (h2 _ _ hd).elim | rfl
  · cases h
theorem arrB_some {t : TypeId} {a : Nat × TypeId} (h : arrB P t = some a) : P.underlying t = some (.array a.1 a.2) := by
  unfold arrB at h
  split at h
  · rename_i n e he; obtain rfl := Option.some.inj h; exact he
  · cases h
theorem kindB_is {t : TypeId} {m : Nat} (h : Nat.beq (kindB P t) m = true) : kindB P t = m := Nat.eq_of_beq_eq_true h
theorem sliceB_some {t e : TypeId} (h : sliceB P t = some e) : P.underlying t = some (.slice e) := by
  unfold sliceB at h
  split at h
  · rename_i e' he; obtain rfl := Option.some.inj h; exact he
  · cases h
theorem mapB_some {t : TypeId} {ke : TypeId × TypeId} (h : mapB P t = some ke) : P.underlying t = some (.map ke.1 ke.2) := by
  unfold mapB at h
  split at h
  · rename_i k e he; obtain rfl := Option.some.inj h; exact he
  · cases h
end

/-! ### operands -/
/-- The operand's value in the frame. -/
def OpdV (f : Fr) : Operand → AV → Prop
  | .tmp t, v => Has f.tm t v
  | .const c, v => abs c = some v
  | .global g, v => g < glim ∧ v = .ptr g 0
  | .func n, v => v = .fn (.func n) [] []
/-- What the operand stands for is what the frame's temporaries hold. -/
def OpdRel (n : Nat) (I : Itp) (f : Fr) (a : Act) (x : Operand) : Prop := ∀ v, OpdV f x v → a.eval x = conc I v ∧ ok n I v
/-- All that an operation asks for. -/
def Rel (n : Nat) (I : Itp) (f : Fr) (a : Act) (o : Op) : Prop := ∀ x ∈ o.operands, OpdRel n I f a x
theorem le_opd {x : Operand} {f : Fr} {k : AV → Ans} (h : Le L (opd x f k)) : ∃ v, OpdV f x v ∧ Le L (k v) := by
  cases x with
  | tmp t => exact le_getK h
  | const c => obtain ⟨a, ha, hk⟩ := le_optK (o := abs c) h; exact ⟨a, ha, hk⟩
  | global g => obtain ⟨h1, h2⟩ := le_ifN h; exact ⟨_, ⟨Nat.le_of_ble_eq_true h1, rfl⟩, h2⟩
  | func n => exact ⟨_, rfl, h⟩
theorem opdRel_of {n : Nat} {I : Itp} {f : Fr} {a : Act} (hF : FrRel n I f.tm a.tmps) (hg : glim ≤ n ∧ ∀ g, g < glim → I.blk g = g ∧ I.base g = 0) (x : Operand) : OpdRel n I f a x := by
  intro v hv
  cases x with
  | tmp t =>
    obtain ⟨h1, h2⟩ := hF t v hv
    exact ⟨by simp [Act.eval, Array.getD_eq_getD_getElem?, h1], h2⟩
  | const c => obtain ⟨h1, h2⟩ := abs_spec hv n I; exact ⟨h1.symm, h2⟩
  | global g =>
    obtain ⟨h1, rfl⟩ := hv
    obtain ⟨h2, h3⟩ := hg.2 g h1
    exact ⟨by simp [Act.eval, conc, h2, h3], show g < n by omega⟩
  | func m => obtain rfl := hv; exact ⟨rfl, ⟨fun l e => (by cases e), trivial, trivial⟩⟩
theorem rel_of {n : Nat} {I : Itp} {f : Fr} {a : Act} (hF : FrRel n I f.tm a.tmps) (hg : glim ≤ n ∧ ∀ g, g < glim → I.blk g = g ∧ I.base g = 0) (o : Op) : Rel n I f a o := fun x _ => opdRel_of hF hg x
/-- The values of a list of operands. -/
inductive OpdsV (f : Fr) : List Operand → List AV → Prop
  | nil : OpdsV f [] []
  | cons {x : Operand} {v : AV} {xs : List Operand} {vs : List AV} : OpdV f x v → OpdsV f xs vs → OpdsV f (x :: xs) (v :: vs)
theorem le_opds : ∀ {l : List Operand} {f : Fr} {k : List AV → Ans}, Le L (opds l f k) → ∃ vs, OpdsV f l vs ∧ Le L (k vs)
  | [], f, k, h => ⟨[], .nil, h⟩
  | x :: l, f, k, h => by
    obtain ⟨v, hv, h1⟩ := le_opd (k := fun v => opds l f fun l => k (v :: l)) h
    obtain ⟨vs, hvs, hk⟩ := le_opds h1
    exact ⟨v :: vs, .cons hv hvs, hk⟩
theorem opdsV_conc {n : Nat} {I : Itp} {f : Fr} {a : Act} {l : List Operand} {vs : List AV} (h : OpdsV f l vs) (hr : ∀ x ∈ l, OpdRel n I f a x) : l.map a.eval = concL I vs ∧ okL n I vs := by
  induction h with
  | nil => exact ⟨rfl, trivial⟩
  | cons hv _ ih =>
    obtain ⟨h1, h2⟩ := hr _ List.mem_cons_self _ hv
    obtain ⟨h3, h4⟩ := ih fun x hx => hr x (List.mem_cons_of_mem _ hx)
    exact ⟨by simp [concL, h1, h3], h2, h4⟩
def OptV (f : Fr) : Option Operand → Option AV → Prop
  | none, none => True
  | some x, some v => OpdV f x v
  | _, _ => False
theorem le_opdO {x : Option Operand} {f : Fr} {k : Option AV → Ans} (h : Le L (opdO x f k)) : ∃ v, OptV f x v ∧ Le L (k v) := by
  cases x with
  | none => exact ⟨none, trivial, h⟩
  | some x => obtain ⟨v, hv, hk⟩ := le_opd (k := fun v => k (some v)) h; exact ⟨some v, hv, hk⟩
theorem optV_conc {n : Nat} {I : Itp} {f : Fr} {a : Act} {x : Option Operand} {v : Option AV} (h : OptV f x v) (hr : ∀ y, x = some y → OpdRel n I f a y) :
    x.map a.eval = v.map (conc I) ∧ ∀ u, v = some u → ok n I u := by
  cases x <;> cases v <;> first | exact h.elim | skip
  · exact ⟨rfl, fun u e => by cases e⟩
  · obtain ⟨h1, h2⟩ := hr _ rfl _ h
    exact ⟨by simp [h1], fun u e => by cases e; exact h2⟩

/-- Whatever memory holds, it comes to v. -/
def Spec0 (P : Program) (o : Oper) (f : Fr) (v : AV) : Prop :=
  ∀ n I a w, Rel n I f a o.op → ok n I v ∧ (execOp a.eval o).run P w = .ok (.value (conc I v)) w

section
variable {C : Cf} {o : Oper} {f : Fr} {s : St} {k : AV → St → Ans}
theorem spec_move {x : Operand} (ho : o.op = .move x ∨ o.op = .assign x) (h : Le L (oMove x f s k)) : ∃ v, Spec0 C.P o f v ∧ Le L (k v s) := by
  obtain ⟨v, hv, hk⟩ := le_opd h
  refine ⟨v, fun n I a w hr => ?_, hk⟩
  have hx : OpdRel n I f a x := by rcases ho with ho | ho <;> exact hr x (by rw [ho]; simp [Op.operands])
  obtain ⟨h1, h2⟩ := hx v hv
  refine ⟨h2, ?_⟩
  rcases ho with ho | ho <;> simp [execOp, ho, h1]
theorem spec_pick {c x y : Operand} (ho : o.op = .pick c x y) (h : Le L (oPick c x y f s k)) : ∃ v, Spec0 C.P o f v ∧ Le L (k v s) := by
  obtain ⟨u, hu, h1⟩ := le_opd h
  cases u <;> first | exact h1.no.elim | skip
  rename_i t
  have h1 := le_boolK h1
  cases t
  · obtain ⟨v, hv, hk⟩ := le_opd h1
    refine ⟨v, fun n I a w hr => ?_, hk⟩
    obtain ⟨h2, _⟩ := hr c (by rw [ho]; simp [Op.operands]) _ hu
    obtain ⟨h4, h5⟩ := hr y (by rw [ho]; simp [Op.operands]) _ hv
    exact ⟨h5, by simp [execOp, ho, h2, h4, conc, Go.asBool]⟩
  · obtain ⟨v, hv, hk⟩ := le_opd h1
    refine ⟨v, fun n I a w hr => ?_, hk⟩
    obtain ⟨h2, _⟩ := hr c (by rw [ho]; simp [Op.operands]) _ hu
    obtain ⟨h4, h5⟩ := hr x (by rw [ho]; simp [Op.operands]) _ hv
    exact ⟨h5, by simp [execOp, ho, h2, h4, conc, Go.asBool]⟩
theorem spec_nil {x : Operand} (ho : o.op = .nilCheck x) (h : Le L (oNil x f s k)) : ∃ v, Spec0 C.P o f v ∧ Le L (k v s) := by
  obtain ⟨v, hv, h1⟩ := le_opd h
  have hx : ∀ n I a, Rel n I f a o.op → OpdRel n I f a x := fun n I a hr => hr x (by rw [ho]; simp [Op.operands])
  unfold nilOk at h1
  split at h1
  · refine ⟨_, fun n I a w hr => ?_, h1⟩
    obtain ⟨h2, h3⟩ := hx n I a hr _ hv
    exact ⟨h3, by simp [execOp, ho, h2, conc]⟩
  · refine ⟨_, fun n I a w hr => ?_, h1⟩
    obtain ⟨h2, h3⟩ := hx n I a hr _ hv
    exact ⟨h3, by simp [execOp, ho, h2, conc]⟩
  · refine ⟨_, fun n I a w hr => ?_, h1⟩
    obtain ⟨h2, h3⟩ := hx n I a hr _ hv
    exact ⟨h3, by simp [execOp, ho, h2, conc]⟩
  · refine ⟨_, fun n I a w hr => ?_, h1⟩
    obtain ⟨h2, h3⟩ := hx n I a hr _ hv
    exact ⟨h3, by simp [execOp, ho, h2, conc]⟩
  · exact h1.no.elim
theorem spec_un {op : UnOp} {t : TypeId} {x : Operand} (ho : o.op = .unOp op t x) (h : Le L (oUn C op x f s k)) : ∃ v, Spec0 C.P o f v ∧ Le L (k v s) := by
  obtain ⟨v, hv, h1⟩ := le_opd h
  have hx : ∀ n I a, Rel n I f a o.op → OpdRel n I f a x := fun n I a hr => hr x (by rw [ho]; simp [Op.operands])
  unfold unK at h1
  split at h1
  · have h1 := le_boolK h1
    refine ⟨_, fun n I a w hr => ?_, h1⟩
    obtain ⟨h2, _⟩ := hx n I a hr _ hv
    exact ⟨trivial, by simp [execOp, ho, h2, conc, Op.unary]⟩
  · obtain ⟨g, hg, h2⟩ := le_optK h1
    obtain ⟨u, hu1, hu2, hk⟩ := le_staticK h2
    refine ⟨u, fun n I a w hr => ?_, hk⟩
    obtain ⟨h3, _⟩ := hx n I a hr _ hv
    rw [(ground_spec hg n I).1] at h3
    exact ⟨hu1 n I, by simp [execOp, ho, h3, hu2 I w]⟩
theorem spec_iface {t : TypeId} {x : Operand} (ho : o.op = .makeInterface t x) (h : Le L (oIface C t x f s k)) : ∃ v, Spec0 C.P o f v ∧ Le L (k v s) := by
  obtain ⟨v, hv, h1⟩ := le_opd h
  rcases le_ifK h1 with ⟨_, h2⟩ | ⟨hi, h2⟩
  · exact h2.no.elim
  refine ⟨_, fun n I a w hr => ?_, h2⟩
  obtain ⟨h3, h4⟩ := hr x (by rw [ho]; simp [Op.operands]) _ hv
  refine ⟨h4, ?_⟩
  unfold isIfaceT at hi
  split at hi <;> first | cases hi | skip
  rename_i d hne hd
  simp only [execOp, ho, h3, Instr.makeInterface, Sem.run_bind, run_underlying hd, Result.andThen_ok]
  cases d <;> first | exact (hne _ hd).elim | rfl
theorem spec_func {fn : Fn} {x y : Array Operand} (ho : o.op = .makeFunc fn x y) (h : Le L (oFunc fn x y f s k)) : ∃ v, Spec0 C.P o f v ∧ Le L (k v s) := by
  obtain ⟨u, hu, h1⟩ := le_opds h
  obtain ⟨v, hv, h2⟩ := le_opds h1
  split at h2
  · refine ⟨_, fun n I a w hr => ?_, h2⟩
    obtain ⟨h3, h4⟩ := opdsV_conc hu (fun z hz => hr z (by rw [ho]; simp [Op.operands]; left; simpa using hz))
    obtain ⟨h5, h6⟩ := opdsV_conc hv (fun z hz => hr z (by rw [ho]; simp [Op.operands]; right; simpa using hz))
    refine ⟨⟨fun l e => (by cases e), h4, h6⟩, ?_⟩
    have e1 : x.map a.eval = (concL I u).toArray := by rw [← h3, ← Array.toList_map]
    have e2 : y.map a.eval = (concL I v).toArray := by rw [← h5, ← Array.toList_map]
    simp [execOp, ho, Instr.makeFunc, e1, e2, conc]
  · exact h2.no.elim
theorem le_nthK {α : Type} : ∀ {n : Nat} {l : List α} {k : α → Ans}, Le L (nthK n l k) → ∃ v, l[n]? = some v ∧ Le L (k v)
  | 0, [], k, h => h.no.elim
  | 0, v :: l, k, h => ⟨v, rfl, h⟩
  | n + 1, [], k, h => h.no.elim
  | n + 1, v :: l, k, h => by obtain ⟨u, hu, hk⟩ := le_nthK (n := n) (l := l) h; exact ⟨u, by simpa using hu, hk⟩
theorem le_lenK {α : Type} : ∀ {l : List α} {k : Nat → Ans}, Le L (lenK l k) → Le L (k l.length)
  | [], k, h => h
  | v :: l, k, h => le_lenK (l := l) (k := fun n => k (Nat.succ n)) h
theorem le_dropK {α : Type} : ∀ {n : Nat} {l : List α} {k : List α → Ans}, Le L (dropK n l k) → n ≤ l.length ∧ Le L (k (l.drop n))
  | 0, l, k, h => ⟨Nat.zero_le _, h⟩
  | n + 1, [], k, h => h.no.elim
  | n + 1, v :: l, k, h => by obtain ⟨h1, h2⟩ := le_dropK (n := n) (l := l) h; exact ⟨by simp; omega, by simpa using h2⟩
theorem le_takeK {α : Type} : ∀ {n : Nat} {l : List α} {k : List α → Ans}, Le L (takeK n l k) → n ≤ l.length ∧ Le L (k (l.take n))
  | 0, l, k, h => ⟨Nat.zero_le _, h⟩
  | n + 1, [], k, h => h.no.elim
  | n + 1, v :: l, k, h => by
    obtain ⟨h1, h2⟩ := le_takeK (n := n) (l := l) (k := fun r => k (v :: r)) h
    exact ⟨by simp; omega, by simpa using h2⟩
theorem spec_extract {x : Operand} {i : Nat} (ho : o.op = .extract x i) (h : Le L (oExtract x i f s k)) : ∃ v, Spec0 C.P o f v ∧ Le L (k v s) := by
  obtain ⟨v, hv, h1⟩ := le_opd h
  cases v <;> first | exact h1.no.elim | skip
  rename_i l
  obtain ⟨u, hu, hk⟩ := le_nthK h1
  refine ⟨u, fun n I a w hr => ?_, hk⟩
  obtain ⟨h3, h4⟩ := hr x (by rw [ho]; simp [Op.operands]) _ hv
  refine ⟨okL_iff.1 h4 u (List.mem_of_getElem? hu), ?_⟩
  have : (concL I l)[i]? = some (conc I u) := by rw [concL_map, List.getElem?_map, hu]; rfl
  simp [execOp, ho, h3, conc, Instr.extract, this]
theorem spec_fieldAddr {t : TypeId} {x : Operand} {i : Nat} (ho : o.op = .fieldAddr t x i) (h : Le L (oFieldAddr C t x i f s k)) : ∃ v, Spec0 C.P o f v ∧ Le L (k v s) := by
  obtain ⟨v, hv, h1⟩ := le_opd h
  cases v <;> first | exact h1.no.elim | skip
  rename_i b off
  obtain ⟨q, hq, h2⟩ := le_optK h1
  have h2 := le_natK h2
  refine ⟨_, fun n I a w hr => ?_, h2⟩
  obtain ⟨h3, h4⟩ := hr x (by rw [ho]; simp [Op.operands]) _ hv
  refine ⟨h4, ?_⟩
  unfold fieldOff fieldB at hq
  split at hq
  · rename_i fs hfs
    cases hf : fs[i]? with
    | none => simp [hf] at hq
    | some fd =>
      simp only [hf, Option.bind_some] at hq
      split at hq
      · rename_i m hz
        obtain rfl := Option.some.inj hq
        simp [execOp, ho, h3, conc, Instr.fieldAt, run_underlying hfs, hf, Instr.sureAddr, fieldPlace, run_size hz, Addr.add_mid, Nat.add_assoc]
      · cases hq
  · cases hq
theorem le_partK {P : Program} {t : TypeId} {l : List AV} {off : Nat} {k : AV → Ans} (h : Le L (partK P t l off k)) :
    ∃ v, (∀ n I, okL n I l → ok n I v ∧ ∀ w, (part t (concL I l).toArray off).run P w = .ok (conc I v) w) ∧ Le L (k v) := by
  obtain ⟨hoff, h1⟩ := le_dropK h
  obtain ⟨g, hg, h2⟩ := le_optK h1
  rcases le_ifK h2 with ⟨rfl, h3⟩ | ⟨rfl, h3⟩
  · obtain ⟨n, hn, h4⟩ := le_optK h3
    obtain ⟨hlen, h5⟩ := le_takeK h4
    refine ⟨_, fun m I hok => ⟨?_, fun w => ?_⟩, h5⟩
    · refine okL_iff.2 fun v hv => okL_iff.1 hok v (List.mem_of_mem_drop (List.mem_of_mem_take hv))
    · simp [part, aggO_some hg w, run_size hn, conc, concL_map, List.map_take, List.map_drop]
  · obtain ⟨v, hv, h4⟩ := le_nthK h3
    rw [List.getElem?_drop, Nat.add_zero] at hv
    refine ⟨v, fun m I hok => ⟨okL_iff.1 hok v (List.mem_of_getElem? hv), fun w => ?_⟩, h4⟩
    have : (concL I l)[off]? = some (conc I v) := by rw [concL_map, List.getElem?_map, hv]; rfl
    simp [part, aggO_some hg w, this]
theorem spec_field {t : TypeId} {x : Operand} {i : Nat} (ho : o.op = .field t x i) (h : Le L (oField C t x i f s k)) : ∃ v, Spec0 C.P o f v ∧ Le L (k v s) := by
  obtain ⟨v, hv, h1⟩ := le_opd h
  cases v <;> first | exact h1.no.elim | skip
  rename_i l
  obtain ⟨q, hq, h2⟩ := le_optK h1
  obtain ⟨u, hu, hk⟩ := le_partK h2
  refine ⟨u, fun n I a w hr => ?_, hk⟩
  obtain ⟨h3, h4⟩ := hr x (by rw [ho]; simp [Op.operands]) _ hv
  obtain ⟨h5, h6⟩ := hu n I h4
  refine ⟨h5, ?_⟩
  unfold fieldB at hq
  split at hq
  · rename_i fs hfs
    simp [execOp, ho, h3, conc, Instr.field, run_underlying hfs, hq, Go.asAgg, h6]
  · cases hq
theorem spec_indexAddr {t : TypeId} {x y : Operand} (ho : o.op = .indexAddr t x y) (h : Le L (oIndexAddr C t x y f s k)) : ∃ v, Spec0 C.P o f v ∧ Le L (k v s) := by
  obtain ⟨v, hv, h1⟩ := le_opd h
  obtain ⟨u, hu, h2⟩ := le_opd h1
  have hx : ∀ n I a, Rel n I f a o.op → OpdRel n I f a x ∧ OpdRel n I f a y := fun n I a hr => ⟨hr x (by rw [ho]; simp [Op.operands]), hr y (by rw [ho]; simp [Op.operands])⟩
  unfold indexAddrK at h2
  split at h2
  · rename_i b off len cap
    cases u <;> first | exact h2.no.elim | skip
    rename_i kd i
    cases i <;> first | exact h2.no.elim | skip
    rename_i i
    obtain ⟨hi, h3⟩ := le_ifN h2
    obtain ⟨e, he, h4⟩ := le_optK h3
    obtain ⟨n, hn, h5⟩ := le_optK h4
    obtain ⟨_, h6⟩ := le_ifN h5
    refine ⟨_, fun m I a w hr => ?_, le_natK h6⟩
    obtain ⟨k1, k2⟩ := (hx m I a hr).1 _ hv
    obtain ⟨k3, _⟩ := (hx m I a hr).2 _ hu
    have hi := Nat.le_of_ble_eq_true hi
    have hlt : i < len := hi
    refine ⟨k2, ?_⟩
    simp [execOp, ho, k1, k3, conc, Instr.indexAt, asIntOf, run_underlying (sliceB_some he), run_size hn, hlt, Addr.add_mid, Nat.add_assoc]
  · rename_i b off len cap
    cases u <;> first | exact h2.no.elim | skip
    rename_i kd i
    cases i <;> first | exact h2.no.elim | skip
    rename_i i
    obtain ⟨hi, h3⟩ := le_ifN h2
    obtain ⟨e, he, h4⟩ := le_optK h3
    obtain ⟨n, hn, h5⟩ := le_optK h4
    obtain ⟨_, h6⟩ := le_ifN h5
    refine ⟨_, fun m I a w hr => ?_, le_natK h6⟩
    obtain ⟨k1, k2⟩ := (hx m I a hr).1 _ hv
    obtain ⟨k3, _⟩ := (hx m I a hr).2 _ hu
    have hi := Nat.le_of_ble_eq_true hi
    have hlt : i < len := hi
    refine ⟨k2.1, ?_⟩
    simp [execOp, ho, k1, k3, conc, Instr.indexAt, asIntOf, run_underlying (sliceB_some he), run_size hn, hlt, Addr.add_mid, Nat.add_assoc]
  · rename_i b off
    cases u <;> first | exact h2.no.elim | skip
    rename_i kd i
    cases i <;> first | exact h2.no.elim | skip
    rename_i i
    obtain ⟨q, hq, h3⟩ := le_optK h2
    obtain ⟨hi, h4⟩ := le_ifN h3
    obtain ⟨n, hn, h5⟩ := le_optK h4
    obtain ⟨_, h6⟩ := le_ifN h5
    refine ⟨_, fun m I a w hr => ?_, le_natK h6⟩
    obtain ⟨k1, k2⟩ := (hx m I a hr).1 _ hv
    obtain ⟨k3, _⟩ := (hx m I a hr).2 _ hu
    have hi := Nat.le_of_ble_eq_true hi
    have hlt : i < q.1 := hi
    refine ⟨k2, ?_⟩
    simp [execOp, ho, k1, k3, conc, Instr.indexAt, asIntOf, run_underlying (arrB_some hq), run_size hn, hlt, Instr.sureAddr, Addr.add_mid, Nat.add_assoc]
  · exact h2.no.elim
theorem toNat_ofNat_mod (c : Nat) : (UInt8.ofNat c).toNat = c % 256 := by simp
theorem spec_index {t : TypeId} {x y : Operand} (ho : o.op = .index t x y) (h : Le L (oIndex C t x y f s k)) : ∃ v, Spec0 C.P o f v ∧ Le L (k v s) := by
  obtain ⟨v, hv, h1⟩ := le_opd h
  obtain ⟨u, hu, h2⟩ := le_opd h1
  have hx : ∀ n I a, Rel n I f a o.op → OpdRel n I f a x ∧ OpdRel n I f a y := fun n I a hr => ⟨hr x (by rw [ho]; simp [Op.operands]), hr y (by rw [ho]; simp [Op.operands])⟩
  unfold indexK at h2
  split at h2
  · rename_i l
    cases u <;> first | exact h2.no.elim | skip
    rename_i kd i
    cases i <;> first | exact h2.no.elim | skip
    rename_i i
    simp only [Sev.asInt] at h2
    split at h2
    · rename_i hus
      obtain ⟨c, hc, h3⟩ := le_nthK h2
      refine ⟨_, fun m I a w hr => ?_, le_natK h3⟩
      obtain ⟨k1, k2⟩ := (hx m I a hr).1 _ hv
      obtain ⟨k3, _⟩ := (hx m I a hr).2 _ hu
      refine ⟨trivial, ?_⟩
      have hget : (ByteArray.mk (l.map UInt8.ofNat).toArray)[i]? = some (UInt8.ofNat c) := by
        have hlt : i < l.length := (List.getElem?_eq_some_iff.1 hc).1
        have : i < (ByteArray.mk (l.map UInt8.ofNat).toArray).size := by simp [ByteArray.size, hlt]
        rw [getElem?_pos (ByteArray.mk (l.map UInt8.ofNat).toArray) i this]
        have e : l[i] = c := (List.getElem?_eq_some_iff.1 hc).2
        simp [ByteArray.getElem_eq_getElem_data, e]
      simp [execOp, ho, k1, k3, conc, Instr.index, asIntOf, run_underlying hus, hget]
      show (c : Int) % 256 = ((c % 256 : Nat) : Int)
      omega
    · exact h2.no.elim
  · rename_i l
    cases u <;> first | exact h2.no.elim | skip
    rename_i kd i
    cases i <;> first | exact h2.no.elim | skip
    rename_i i
    obtain ⟨q, hq, h3⟩ := le_optK h2
    obtain ⟨hi, h4⟩ := le_ifN h3
    obtain ⟨n, hn, h5⟩ := le_optK h4
    obtain ⟨u', hu', hk⟩ := le_partK h5
    refine ⟨u', fun m I a w hr => ?_, hk⟩
    obtain ⟨k1, k2⟩ := (hx m I a hr).1 _ hv
    obtain ⟨k3, _⟩ := (hx m I a hr).2 _ hu
    have hlt : i < q.1 := Nat.le_of_ble_eq_true hi
    obtain ⟨k5, k6⟩ := hu' m I k2
    refine ⟨k5, ?_⟩
    simp [execOp, ho, k1, k3, conc, Instr.index, asIntOf, run_underlying (arrB_some hq), run_size hn, hlt, k6]
  · exact h2.no.elim
end
end Go.Proofs.YtajdeaabgplacaaGreatDoor.Sev

namespace Go.Proofs.YtajdeaabgplacaaGreatDoor.Sev
open Go Go.RowKit
set_option linter.unusedVariables false
variable {L : List (AV × St)}
section
variable {C : Cf} {o : Oper} {f : Fr} {s : St} {k : AV → St → Ans}

/-! ### slices -/
theorem le_boundK {x : AV} {y : Nat} {k : Nat → Ans} (h : Le L (boundK x y k)) : ∃ kd i, x = .int kd (Int.ofNat i) ∧ i ≤ y ∧ Le L (k i) := by
  unfold boundK at h
  split at h
  · rename_i kd i
    obtain ⟨h1, h2⟩ := le_ifN h
    exact ⟨kd, i, rfl, Nat.le_of_ble_eq_true h1, le_natK h2⟩
  · exact h.no.elim
theorem run_bound {P : Program} {kd : IntKind} {i y : Nat} (h : i ≤ y) (code : BoundsCode) (w : World) : (Instr.sliceBound (.int kd (Int.ofNat i)) y code).run P w = .ok i w := by
  simp [Instr.sliceBound, asIntOf, h]
/-- Bounds of a slice expression; the capacity may be greater than is known. -/
theorem le_boundsK {len cap : Nat} {lo hi mx : Option AV} {k : Nat → Nat → Nat → Ans} (h : Le L (boundsK len cap lo hi mx k)) :
    ∃ l b m, Le L (k l b m) ∧ l ≤ b ∧ (mx = none → m = cap) ∧ (mx.isSome = true → m ≤ cap ∧ b ≤ m) ∧ (b = len ∨ b ≤ m) ∧
      ∀ (P : Program) (I : Itp) (isSlice : Bool) (w : World) (c : Nat), cap ≤ c →
        (Instr.sliceBounds isSlice len c (lo.map (conc I)) (hi.map (conc I)) (mx.map (conc I))).run P w = .ok (l, b, if mx.isSome then m else c) w := by
  unfold boundsK at h
  cases mx with
  | none =>
    have h := le_natK (k := fun m => Option.rec (fun k => Option.rec (natK len k) (fun _ => .no "max without high" 0) (none : Option AV)) (fun v k => boundK v m k) hi fun h => Option.rec (fun k => k 0) (fun v k => boundK v h k) lo fun l => k l h m) h
    cases hi with
    | none =>
      have h := le_natK (k := fun b => Option.rec (fun k => k 0) (fun v k => boundK v b k) lo fun l => k l b cap) h
      cases lo with
      | none => exact ⟨0, len, cap, h, Nat.zero_le _, fun _ => rfl, (fun e => by cases e), .inl rfl, fun P I isSlice w c hc => by simp [Instr.sliceBounds]⟩
      | some v =>
        obtain ⟨kd, i, rfl, hi, h⟩ := le_boundK h
        exact ⟨i, len, cap, h, hi, fun _ => rfl, (fun e => by cases e), .inl rfl, fun P I isSlice w c hc => by
          have := fun code => run_bound (P := P) (kd := kd) hi code w
          simp [Instr.sliceBounds, conc, -Int.ofNat_eq_natCast, this]⟩
    | some v =>
      obtain ⟨kd, b, rfl, hb, h⟩ := le_boundK h
      cases lo with
      | none => exact ⟨0, b, cap, h, Nat.zero_le _, fun _ => rfl, (fun e => by cases e), .inr hb, fun P I isSlice w c hc => by
          have := fun code => run_bound (P := P) (kd := kd) (Nat.le_trans hb hc) code w
          simp [Instr.sliceBounds, conc, -Int.ofNat_eq_natCast, this]⟩
      | some v =>
        obtain ⟨kd', i, rfl, hi, h⟩ := le_boundK h
        exact ⟨i, b, cap, h, hi, fun _ => rfl, (fun e => by cases e), .inr hb, fun P I isSlice w c hc => by
          have h1 := fun code => run_bound (P := P) (kd := kd) (Nat.le_trans hb hc) code w
          have h2 := fun code => run_bound (P := P) (kd := kd') hi code w
          simp [Instr.sliceBounds, conc, -Int.ofNat_eq_natCast, h1, h2]⟩
  | some v =>
    obtain ⟨kd, m, rfl, hm, h⟩ := le_boundK h
    cases hi with
    | none => exact h.no.elim
    | some v =>
      obtain ⟨kd', b, rfl, hb, h⟩ := le_boundK h
      cases lo with
      | none => exact ⟨0, b, m, h, Nat.zero_le _, (fun e => by cases e), fun _ => ⟨hm, hb⟩, .inr hb, fun P I isSlice w c hc => by
          have h0 := fun code => run_bound (P := P) (kd := kd) (Nat.le_trans hm hc) code w
          have h1 := fun code => run_bound (P := P) (kd := kd') hb code w
          simp [Instr.sliceBounds, conc, -Int.ofNat_eq_natCast, h0, h1]⟩
      | some v =>
        obtain ⟨kd'', i, rfl, hi, h⟩ := le_boundK h
        exact ⟨i, b, m, h, hi, (fun e => by cases e), fun _ => ⟨hm, hb⟩, .inr hb, fun P I isSlice w c hc => by
          have h0 := fun code => run_bound (P := P) (kd := kd) (Nat.le_trans hm hc) code w
          have h1 := fun code => run_bound (P := P) (kd := kd') hb code w
          have h2 := fun code => run_bound (P := P) (kd := kd'') hi code w
          simp [Instr.sliceBounds, conc, -Int.ofNat_eq_natCast, h0, h1, h2]⟩
theorem extract_bytes (l : List Nat) (i j : Nat) : (ByteArray.mk (l.map UInt8.ofNat).toArray).extract i j = ⟨(((l.drop i).take (j - i)).map UInt8.ofNat).toArray⟩ := by
  apply ByteArray.ext
  simp [ByteArray.data_extract, List.map_take, List.map_drop, List.take_drop]
theorem spec_slice {t : TypeId} {x : Operand} {lo hi mx : Option Operand} (ho : o.op = .slice t x lo hi mx) (h : Le L (oSlice C t x lo hi mx f s k)) : ∃ v, Spec0 C.P o f v ∧ Le L (k v s) := by
  obtain ⟨v, hv, h1⟩ := le_opd h
  obtain ⟨vl, hvl, h2⟩ := le_opdO h1
  obtain ⟨vh, hvh, h3⟩ := le_opdO h2
  obtain ⟨vm, hvm, h4⟩ := le_opdO h3
  have hx : ∀ n I a, Rel n I f a o.op → a.eval x = conc I v ∧ ok n I v ∧ lo.map a.eval = vl.map (conc I) ∧ hi.map a.eval = vh.map (conc I) ∧ mx.map a.eval = vm.map (conc I) := fun n I a hr => by
    obtain ⟨k1, k2⟩ := hr x (by rw [ho]; simp [Op.operands]) _ hv
    obtain ⟨k3, _⟩ := optV_conc hvl (n := n) (I := I) (a := a) (fun y e => hr y (by rw [ho]; simp [Op.operands, e]))
    obtain ⟨k4, _⟩ := optV_conc hvh (n := n) (I := I) (a := a) (fun y e => hr y (by rw [ho]; simp [Op.operands, e]))
    obtain ⟨k5, _⟩ := optV_conc hvm (n := n) (I := I) (a := a) (fun y e => hr y (by rw [ho]; simp [Op.operands, e]))
    exact ⟨k1, k2, k3, k4, k5⟩
  clear h h1 h2 h3
  unfold sliceK at h4
  split at h4
  · -- a string
    rename_i l
    obtain ⟨hn, h5⟩ := le_ifN h4
    split at h5
    · rename_i hus
      obtain ⟨i, b, m, h6, hib, _, _, _, hrun⟩ := le_boundsK (le_lenK h5)
      obtain ⟨hd, h7⟩ := le_dropK h6
      obtain ⟨ht, h8⟩ := le_takeK h7
      refine ⟨_, fun n I a w hr => ?_, h8⟩
      obtain ⟨k1, k2, k3, k4, k5⟩ := hx n I a hr
      refine ⟨trivial, ?_⟩
      obtain rfl : vm = none := by cases vm <;> simp at hn ⊢
      have hsz : (ByteArray.mk (l.map UInt8.ofNat).toArray).size = l.length := by simp [ByteArray.size]
      have hr0 := hrun C.P I false w l.length (Nat.le_refl _)
      simp only [Option.map_none, Option.isSome_none] at hr0
      simp [execOp, ho, k1, k3, k4, k5, conc, Instr.sliceAt, Instr.slice, run_underlying hus, hsz, hr0, extract_bytes]
    · exact h5.no.elim
  · -- a slice of known capacity
    rename_i b off len cap
    obtain ⟨e, he, h5⟩ := le_optK h4
    obtain ⟨sz, hsz, h6⟩ := le_optK h5
    obtain ⟨i, q, m, h7, hib, hm1, hm2, _, hrun⟩ := le_boundsK h6
    refine ⟨_, fun n I a w hr => ?_, le_natK (le_natK (k := fun q => natK (m - i) fun c => k (.sl b _ q c) s) (le_natK (k := fun o => natK (q - i) fun q => natK (m - i) fun c => k (.sl b o q c) s) h7))⟩
    obtain ⟨k1, k2, k3, k4, k5⟩ := hx n I a hr
    refine ⟨k2, ?_⟩
    have hr0 := hrun C.P I true w cap (Nat.le_refl _)
    have hmm : (if vm.isSome = true then m else cap) = m := by
      cases vm with
      | none => simp [hm1 rfl]
      | some _ => rfl
    rw [hmm] at hr0
    simp only [execOp, ho, k1, k3, k4, k5, conc, Instr.sliceAt, Instr.slice, Sem.run_bind, run_underlying (sliceB_some he), Result.andThen_ok, hr0, run_size hsz, Sem.run_pure]
    by_cases hmi : m = i
    · simp [hmi]
    · simp [hmi, Addr.add_mid, Nat.add_assoc]
  · -- a slice whose capacity is its block's
    rename_i b off len oo
    obtain ⟨e, he, h5⟩ := le_optK h4
    obtain ⟨sz, hsz, h6⟩ := le_optK h5
    obtain ⟨i, q, m, h7, hib, hm1, hm2, hbm, hrun⟩ := le_boundsK h6
    have hq : q ≤ len := by
      rcases hbm with rfl | h
      · exact Nat.le_refl _
      · cases vm with
        | none => rw [hm1 rfl] at h; exact h
        | some _ => exact Nat.le_trans h (hm2 rfl).1
    cases vm with
    | none =>
      simp only at h7
      rcases le_ifK h7 with ⟨hlt, h8⟩ | ⟨hlt, h8⟩
      · have hlt : i < len := Nat.le_of_ble_eq_true hlt
        refine ⟨_, fun n I a w hr => ?_, le_natK (k := fun o' => k (.slo b _ _ o') s) (le_natK (k := fun q => natK (oo + i) fun o' => k (.slo b _ q o') s) (le_natK (k := fun f => natK (q - i) fun q => natK (oo + i) fun o' => k (.slo b f q o') s) h8))⟩
        obtain ⟨k1, k2, k3, k4, k5⟩ := hx n I a hr
        obtain ⟨k6, k7⟩ := k2
        refine ⟨⟨k6, by omega⟩, ?_⟩
        have hr0 := hrun C.P I true w (I.cap b - oo) (by omega)
        simp only [Option.isSome_none, Bool.false_eq_true, if_false] at hr0
        have hne : ¬ (I.cap b - oo = i) := by omega
        simp only [execOp, ho, k1, k3, k4, k5, conc, Instr.sliceAt, Instr.slice, Sem.run_bind, run_underlying (sliceB_some he), Result.andThen_ok, hr0, run_size hsz, Sem.run_pure]
        simp [hne, Addr.add_mid, Nat.add_assoc, Nat.sub_sub]
      · have hge : len ≤ i := by
          rcases Nat.lt_or_ge i len with h | h
          · have : Nat.blt i len = true := Nat.ble_eq_true_of_le h
            rw [this] at hlt; cases hlt
          · exact h
        have hqi : q = i := by omega
        refine ⟨_, fun n I a w hr => ?_, le_natK (k := fun o' => k (.sle b off _ o') s) (le_natK (k := fun f => natK (oo + i) fun o' => k (.sle b off f o') s) h8)⟩
        obtain ⟨k1, k2, k3, k4, k5⟩ := hx n I a hr
        obtain ⟨k6, k7⟩ := k2
        refine ⟨k6, ?_⟩
        have hr0 := hrun C.P I true w (I.cap b - oo) (by omega)
        simp only [Option.isSome_none, Bool.false_eq_true, if_false] at hr0
        simp only [execOp, ho, k1, k3, k4, k5, conc, Instr.sliceAt, Instr.slice, Sem.run_bind, run_underlying (sliceB_some he), Result.andThen_ok, hr0, run_size hsz, Sem.run_pure]
        subst hqi
        by_cases hz : I.cap b - oo = q
        · have : I.cap b - (oo + q) = 0 := by omega
          simp [hz, this]
        · have : ¬ (I.cap b - (oo + q) = 0) := by omega
          simp [hz, this, Addr.add_mid, Nat.add_assoc, Nat.sub_sub]
    | some vmx =>
      simp only at h7
      refine ⟨_, fun n I a w hr => ?_, le_natK (k := fun c => k (.sl b _ _ c) s) (le_natK (k := fun q => natK (m - i) fun c => k (.sl b _ q c) s) (le_natK (k := fun f => natK (q - i) fun q => natK (m - i) fun c => k (.sl b f q c) s) h7))⟩
      obtain ⟨k1, k2, k3, k4, k5⟩ := hx n I a hr
      obtain ⟨k6, k7⟩ := k2
      refine ⟨k6, ?_⟩
      have hr0 := hrun C.P I true w (I.cap b - oo) (by omega)
      simp only [Option.isSome_some, if_true] at hr0
      simp only [execOp, ho, k1, k3, k4, k5, conc, Instr.sliceAt, Instr.slice, Sem.run_bind, run_underlying (sliceB_some he), Result.andThen_ok, hr0, run_size hsz, Sem.run_pure]
      by_cases hmi : m = i
      · simp [hmi]
      · simp [hmi, Addr.add_mid, Nat.add_assoc]
  · -- an empty slice at an end
    rename_i b off off1 oo
    obtain ⟨e, he, h5⟩ := le_optK h4
    obtain ⟨sz, hsz, h6⟩ := le_optK h5
    obtain ⟨i, q, m, h7, hib, hm1, hm2, hbm, hrun⟩ := le_boundsK h6
    cases vm with
    | some _ => exact h7.no.elim
    | none =>
      have hm := hm1 rfl
      have hq0 : q = 0 := by omega
      subst hq0
      have hi0 : i = 0 := by omega
      subst hi0
      refine ⟨_, fun n I a w hr => ?_, h7⟩
      obtain ⟨k1, k2, k3, k4, k5⟩ := hx n I a hr
      refine ⟨k2, ?_⟩
      have hr0 := hrun C.P I true w (I.cap b - oo) (by omega)
      simp only [Option.isSome_none, Bool.false_eq_true, if_false] at hr0
      simp only [execOp, ho, k1, k3, k4, k5, conc, Instr.sliceAt, Instr.slice, Sem.run_bind, run_underlying (sliceB_some he), Result.andThen_ok, hr0, run_size hsz, Sem.run_pure]
      simp [Addr.add]
  · -- nil
    obtain ⟨e, he, h5⟩ := le_optK h4
    obtain ⟨sz, hsz, h6⟩ := le_optK h5
    obtain ⟨i, q, m, h7, hib, hm1, hm2, hbm, hrun⟩ := le_boundsK h6
    have hm : m = 0 := by
      cases vm with
      | none => exact hm1 rfl
      | some _ => have := (hm2 rfl).1; omega
    have hq0 : q = 0 := by omega
    have hi0 : i = 0 := by omega
    subst hm hq0 hi0
    refine ⟨_, fun n I a w hr => ?_, h7⟩
    obtain ⟨k1, k2, k3, k4, k5⟩ := hx n I a hr
    refine ⟨trivial, ?_⟩
    have hr0 := hrun C.P I true w 0 (Nat.le_refl _)
    simp only [ite_self] at hr0
    simp only [execOp, ho, k1, k3, k4, k5, conc, Instr.sliceAt, Instr.slice, Sem.run_bind, run_underlying (sliceB_some he), Result.andThen_ok, hr0, run_size hsz, Sem.run_pure]
    simp
  · -- an array
    rename_i b off
    split at h4
    · rename_i nn e hus
      obtain ⟨sz, hsz, h6⟩ := le_optK h4
      obtain ⟨i, q, m, h7, hib, hm1, hm2, _, hrun⟩ := le_boundsK h6
      refine ⟨_, fun n I a w hr => ?_, le_natK (le_natK (k := fun q => natK (m - i) fun c => k (.sl b _ q c) s) (le_natK (k := fun o => natK (q - i) fun q => natK (m - i) fun c => k (.sl b o q c) s) h7))⟩
      obtain ⟨k1, k2, k3, k4, k5⟩ := hx n I a hr
      refine ⟨k2, ?_⟩
      have hr0 := hrun C.P I false w nn (Nat.le_refl _)
      have hmm : (if vm.isSome = true then m else nn) = m := by
        cases vm with
        | none => simp [hm1 rfl]
        | some _ => rfl
      rw [hmm] at hr0
      simp only [execOp, ho, k1, k3, k4, k5, conc, Instr.sliceAt, Instr.sureAddr, Sem.run_bind, run_underlying hus, Result.andThen_ok, hr0, run_size hsz, Sem.run_pure]
      by_cases hmi : m = i
      · simp [hmi]
      · simp [hmi, Addr.add_mid, Nat.add_assoc]
    · rename_i ar hus
      split at h4
      · rename_i nn e hua
        obtain ⟨sz, hsz, h6⟩ := le_optK h4
        obtain ⟨i, q, m, h7, hib, hm1, hm2, _, hrun⟩ := le_boundsK h6
        refine ⟨_, fun n I a w hr => ?_, le_natK (le_natK (k := fun q => natK (m - i) fun c => k (.sl b _ q c) s) (le_natK (k := fun o => natK (q - i) fun q => natK (m - i) fun c => k (.sl b o q c) s) h7))⟩
        obtain ⟨k1, k2, k3, k4, k5⟩ := hx n I a hr
        refine ⟨k2, ?_⟩
        have hr0 := hrun C.P I false w nn (Nat.le_refl _)
        have hmm : (if vm.isSome = true then m else nn) = m := by
          cases vm with
          | none => simp [hm1 rfl]
          | some _ => rfl
        rw [hmm] at hr0
        simp only [execOp, ho, k1, k3, k4, k5, conc, Instr.sliceAt, Instr.slice, asAddr, Sem.run_bind, run_underlying hus, run_underlying hua, Result.andThen_ok, hr0, run_size hsz, Sem.run_pure]
        by_cases hmi : m = i
        · simp [hmi]
        · simp [hmi, Addr.add_mid, Nat.add_assoc]
      · exact h4.no.elim
    · exact h4.no.elim
  · exact h4.no.elim
end
end Go.Proofs.YtajdeaabgplacaaGreatDoor.Sev

namespace Go.Proofs.YtajdeaabgplacaaGreatDoor.Sev
open Go Go.RowKit
set_option linter.unusedVariables false
variable {L : List (AV × St)}
section
variable {C : Cf} {o : Oper} {f : Fr} {s : St} {k : AV → St → Ans}

theorem kindB_4 {P : Program} {t : TypeId} (h : Nat.beq (kindB P t) 4 = false) (d : TypeDesc) (hd : P.underlying t = some d) : ∀ ms, d ≠ .interface ms := fun ms e => by
  subst e; simp [kindB, hd] at h
theorem spec_assert {x : Operand} {xt t : TypeId} {b : Bool} (ho : o.op = .typeAssert x xt t b) (h : Le L (oAssert C x t b f s k)) : ∃ v, Spec0 C.P o f v ∧ Le L (k v s) := by
  obtain ⟨v, hv, h1⟩ := le_opd h
  have hx : ∀ n I a, Rel n I f a o.op → OpdRel n I f a x := fun n I a hr => hr x (by rw [ho]; simp [Op.operands])
  unfold assertK at h1
  obtain ⟨d, hd, h1a⟩ := le_optK h1
  rcases le_ifK h1a with ⟨_, h2⟩ | ⟨hk4, h2⟩
  · exact h2.no.elim
  have hni := kindB_4 hk4 d hd
  clear h1 h1a h
  split at h2
  · rename_i t' u
    rcases le_ifK h2 with ⟨he, h3⟩ | ⟨he, h3⟩
    · obtain rfl := Nat.eq_of_beq_eq_true he
      cases b
      · refine ⟨_, fun n I a w hr => ?_, h3⟩
        obtain ⟨k1, k2⟩ := hx n I a hr _ hv
        refine ⟨k2, ?_⟩
        simp only [execOp, ho, k1, conc, Instr.typeAssert, Sem.run_bind, run_underlying hd, Result.andThen_ok]
        cases d <;> first | exact (hni _ rfl).elim | simp
      · refine ⟨_, fun n I a w hr => ?_, h3⟩
        obtain ⟨k1, k2⟩ := hx n I a hr _ hv
        refine ⟨⟨k2, trivial, trivial⟩, ?_⟩
        simp only [execOp, ho, k1, conc, Instr.typeAssert, Sem.run_bind, run_underlying hd, Result.andThen_ok]
        cases d <;> first | exact (hni _ rfl).elim | simp [concL, conc]
    · have hne : t' ≠ t := Nat.ne_of_beq_eq_false he
      cases b
      · exact h3.no.elim
      · obtain ⟨z, hz, h4⟩ := le_optK h3
        refine ⟨_, fun n I a w hr => ?_, h4⟩
        obtain ⟨k1, k2⟩ := hx n I a hr _ hv
        obtain ⟨zv, hz1, hz2⟩ := run_zero hz w
        obtain ⟨hz3, hz4⟩ := abs_spec hz2 n I
        refine ⟨⟨hz4, trivial, trivial⟩, ?_⟩
        simp only [execOp, ho, k1, conc, Instr.typeAssert, Sem.run_bind, run_underlying hd, Result.andThen_ok]
        cases d <;> first | exact (hni _ rfl).elim | simp [concL, conc, hne, hz1, hz3]
  · cases b
    · exact h2.no.elim
    · obtain ⟨z, hz, h4⟩ := le_optK h2
      refine ⟨_, fun n I a w hr => ?_, h4⟩
      obtain ⟨k1, k2⟩ := hx n I a hr _ hv
      obtain ⟨zv, hz1, hz2⟩ := run_zero hz w
      obtain ⟨hz3, hz4⟩ := abs_spec hz2 n I
      refine ⟨⟨hz4, trivial, trivial⟩, ?_⟩
      simp only [execOp, ho, k1, conc, Instr.typeAssert, Sem.run_bind, run_underlying hd, Result.andThen_ok]
      cases d <;> first | exact (hni _ rfl).elim | simp [concL, conc, hz1, hz3]
  · exact h2.no.elim

/-! ### operators -/
theorem kindEq_spec {a b : IntKind} (h : kindEq a b = true) : a = b := by cases a <;> cases b <;> first | rfl | cases h
theorem intEq_spec (a b : Int) : intEq a b = (a == b) := by
  cases a <;> cases b <;> simp only [intEq]
  · rename_i m n
    rw [Bool.eq_iff_iff]; simp [Nat.beq_eq]; omega
  · rename_i m n
    rw [Bool.eq_iff_iff]; simp
  · rename_i m n
    rw [Bool.eq_iff_iff]; simp
  · rename_i m n
    rw [Bool.eq_iff_iff]; simp [Nat.beq_eq]
theorem ltInt_spec (a b : Int) : ltInt a b = decide (a < b) := by
  have hb : ∀ m n : Nat, Nat.blt m n = decide (m < n) := fun m n => by
    rw [Bool.eq_iff_iff]; simp [Nat.blt, Nat.ble_eq, Nat.lt_iff_add_one_le]
  cases a <;> cases b <;> simp only [ltInt]
  · rename_i m n; rw [hb, Bool.eq_iff_iff]; simp
  · rename_i m n; symm; simp; omega
  · rename_i m n; symm; simp; omega
  · rename_i m n; rw [hb, Bool.eq_iff_iff]; simp; omega
theorem eqGuard_ints {P : Program} (op : BinOp) (t : TypeId) (x y : Operand) (j i : IntKind) (a b : Int) (w : World) : (eqGuard op t x y (.int j a) (.int i b)).run P w = .ok () w := by
  cases op <;> simp [eqGuard]
theorem eqGuard_strs {P : Program} (op : BinOp) (t : TypeId) (x y : Operand) (a b : ByteArray) (w : World) : (eqGuard op t x y (.string a) (.string b)).run P w = .ok () w := by
  cases op <;> simp [eqGuard]
theorem le_intBin {P : Program} {op : BinOp} {t : TypeId} {kd : IntKind} {a b : Int} {k : AV → Ans} (h : Le L (intBin P op t kd a b k)) (hsh : op ≠ .shl ∧ op ≠ .shr ∨ True) :
    ∃ v, (∀ n I, ok n I v) ∧ (∀ I w, (binOp op t (.int kd a) (.int kd b)).run P w = .ok (conc I v) w) ∧ Le L (k v) := by
  rw [intBin_eq] at h
  unfold intBinM at h
  cases op <;> simp only at h
  case add => have hk := le_wrapK h; exact ⟨_, fun _ _ => (by trivial), fun I w => (by simp [binOp, Op.intArith, conc]), hk⟩
  case sub => have hk := le_wrapK h; exact ⟨_, fun _ _ => (by trivial), fun I w => (by simp [binOp, Op.intArith, conc]), hk⟩
  case eql => have hk := le_boolK h; exact ⟨_, fun _ _ => (by trivial), fun I w => (by simp [binOp, Op.intCmp, conc, intEq_spec]), hk⟩
  case neq => have hk := le_boolK h; exact ⟨_, fun _ _ => (by trivial), fun I w => (by simp [binOp, Op.intCmp, conc, intEq_spec, bne]), hk⟩
  case lss => have hk := le_boolK h; exact ⟨_, fun _ _ => (by trivial), fun I w => (by simp [binOp, Op.intCmp, conc, ltInt_spec]), hk⟩
  case leq => have hk := le_boolK h; exact ⟨_, fun _ _ => (by trivial), fun I w => (by simp [binOp, Op.intCmp, conc, ltInt_spec, ← Int.not_lt]), hk⟩
  case gtr => have hk := le_boolK h; exact ⟨_, fun _ _ => (by trivial), fun I w => (by simp [binOp, Op.intCmp, conc, ltInt_spec]), hk⟩
  case geq => have hk := le_boolK h; exact ⟨_, fun _ _ => (by trivial), fun I w => (by simp [binOp, Op.intCmp, conc, ltInt_spec, ← Int.not_lt]), hk⟩
  all_goals (obtain ⟨v, h1, h2, h3⟩ := le_staticK h; exact ⟨v, h1, h2, h3⟩)
theorem ofNat_eq {x y : Nat} : UInt8.ofNat x = UInt8.ofNat y ↔ x % 256 = y % 256 := by
  rw [← UInt8.toNat_inj]; simp
theorem strEq_spec : ∀ (a b : List Nat), strEq a b = (a.map UInt8.ofNat == b.map UInt8.ofNat)
  | [], [] => rfl
  | [], _ :: _ => rfl
  | _ :: _, [] => rfl
  | x :: a, y :: b => by
    have ih := strEq_spec a b
    show (Bool.rec false (strEq a b) (Nat.beq (Nat.mod x 256) (Nat.mod y 256)) : Bool) = _
    have e : Nat.beq (Nat.mod x 256) (Nat.mod y 256) = decide (x % 256 = y % 256) := by
      rw [Bool.eq_iff_iff]; simp [Nat.beq_eq]; exact Iff.rfl
    rw [e, ih]
    by_cases h : x % 256 = y % 256
    · simp [h, ofNat_eq.2 h]
    · have : UInt8.ofNat x ≠ UInt8.ofNat y := fun e => h (ofNat_eq.1 e)
      simp [h, this]
theorem strLess_spec : ∀ (a b : List Nat), strLess a b = Op.bytesLess (a.map UInt8.ofNat) (b.map UInt8.ofNat)
  | [], [] => rfl
  | [], _ :: _ => rfl
  | _ :: _, [] => rfl
  | x :: a, y :: b => by
    have ih := strLess_spec a b
    show (Bool.rec (Bool.rec false (strLess a b) (Nat.beq (Nat.mod x 256) (Nat.mod y 256))) true (Nat.blt (Nat.mod x 256) (Nat.mod y 256)) : Bool) = _
    have e : Nat.beq (Nat.mod x 256) (Nat.mod y 256) = decide (x % 256 = y % 256) := by
      rw [Bool.eq_iff_iff]; simp [Nat.beq_eq]; exact Iff.rfl
    have e2 : Nat.blt (Nat.mod x 256) (Nat.mod y 256) = decide (x % 256 < y % 256) := by
      rw [Bool.eq_iff_iff]; simp [Nat.blt, Nat.ble_eq]; exact Iff.rfl
    rw [e, e2, ih]
    have hlt : (UInt8.ofNat x < UInt8.ofNat y) ↔ x % 256 < y % 256 := by rw [UInt8.lt_iff_toNat_lt]; simp
    simp only [List.map_cons, Op.bytesLess]
    by_cases h : x % 256 < y % 256
    · simp [h, hlt]
    · by_cases h2 : x % 256 = y % 256
      · simp [h2, ofNat_eq.2 h2]
      · have h3 : UInt8.ofNat x ≠ UInt8.ofNat y := fun e => h2 (ofNat_eq.1 e)
        simp [h, h2, hlt, h3]
theorem bytes_toList (l : List Nat) : (ByteArray.mk (l.map UInt8.ofNat).toArray).toList = l.map UInt8.ofNat := ByteArray.toList_mk _
theorem le_strBin {P : Program} {op : BinOp} {t : TypeId} {a b : List Nat} {k : AV → Ans} (h : Le L (strBin op a b k)) :
    ∃ v, (∀ n I, ok n I v) ∧ (∀ I w, (binOp op t (conc I (.str a)) (conc I (.str b))).run P w = .ok (conc I v) w) ∧ Le L (k v) := by
  have hb : ∀ op v, (Op.stringOp op ⟨(a.map UInt8.ofNat).toArray⟩ ⟨(b.map UInt8.ofNat).toArray⟩ : Sem Value) = v → op ≠ .shl → op ≠ .shr → (binOp op t (.string ⟨(a.map UInt8.ofNat).toArray⟩) (.string ⟨(b.map UInt8.ofNat).toArray⟩) : Sem Value) = v := fun op v h h1 h2 => by
    cases op <;> first | exact h | exact (h1 rfl).elim | exact (h2 rfl).elim
  unfold strBin at h
  have hle : ∀ x y : List UInt8, (Op.bytesLess x y || x == y) = !Op.bytesLess y x := by
    intro x
    induction x with
    | nil => intro y; cases y <;> simp [Op.bytesLess]
    | cons c x ih =>
      intro y
      cases y with
      | nil => simp [Op.bytesLess]
      | cons d y =>
        have := ih y
        simp only [Op.bytesLess]
        rcases Nat.lt_trichotomy c.toNat d.toNat with h | h | h
        · have h1 : c < d := UInt8.lt_iff_toNat_lt.2 h
          have h2 : ¬ d < c := fun h => by have := UInt8.lt_iff_toNat_lt.1 h; omega
          have h3 : d ≠ c := fun e => by subst e; omega
          simp [h1, h2, h3]
        · obtain rfl := UInt8.toNat_inj.1 h
          have h1 : ¬ c < c := fun h => by have := UInt8.lt_iff_toNat_lt.1 h; omega
          simp [h1]
          rw [← this]
        · have h1 : d < c := UInt8.lt_iff_toNat_lt.2 h
          have h2 : ¬ c < d := fun h => by have := UInt8.lt_iff_toNat_lt.1 h; omega
          have h3 : c ≠ d := fun e => by subst e; omega
          simp [h1, h2, h3]
  cases op <;> simp only at h <;> first | exact h.no.elim | skip
  case add =>
    obtain ⟨h1, h2⟩ := le_ifN (le_lenK (le_lenK h))
    have h1 : a.length + b.length < 1000000 := Nat.le_of_ble_eq_true h1
    refine ⟨_, fun _ _ => (by trivial), fun I w => ?_, h2⟩
    simp only [conc]
    rw [hb .add _ rfl (by simp) (by simp)]
    have hs1 : (ByteArray.mk (a.map UInt8.ofNat).toArray).size = a.length := by simp [ByteArray.size]
    have hs2 : (ByteArray.mk (b.map UInt8.ofNat).toArray).size = b.length := by simp [ByteArray.size]
    have hcat : ByteArray.mk (a.map UInt8.ofNat).toArray ++ ByteArray.mk (b.map UInt8.ofNat).toArray = ⟨((a ++ b).map UInt8.ofNat).toArray⟩ := by
      apply ByteArray.ext; simp
    simp only [Op.stringOp, hs1, hs2, IntKind.max_i64, hcat]
    rw [if_neg (by omega)]; rfl
  all_goals
    have hk := le_boolK h
    refine ⟨_, fun _ _ => (by trivial), fun I w => ?_, hk⟩
    simp only [conc]
    rw [hb _ _ rfl (by simp) (by simp)]
    simp [Op.stringOp, strEq_spec, strLess_spec]
  all_goals
    have := hle (a.map UInt8.ofNat) (b.map UInt8.ofNat)
    generalize Op.bytesLess (a.map UInt8.ofNat) (b.map UInt8.ofNat) = p at this ⊢
    generalize Op.bytesLess (b.map UInt8.ofNat) (a.map UInt8.ofNat) = q at this ⊢
    generalize (a.map UInt8.ofNat == b.map UInt8.ofNat) = r at this ⊢
    cases p <;> cases q <;> cases r <;> simp_all
end
end Go.Proofs.YtajdeaabgplacaaGreatDoor.Sev

namespace Go.Proofs.YtajdeaabgplacaaGreatDoor.Sev
open Go Go.RowKit
set_option linter.unusedVariables false
variable {L : List (AV × St)}
section
variable {C : Cf} {o : Oper} {f : Fr} {s : St} {k : AV → St → Ans}

theorem kindB_1 {P : Program} {t : TypeId} (h : Nat.beq (kindB P t) 1 = true) : ∃ e, P.underlying t = some (.slice e) := by
  have h := Nat.eq_of_beq_eq_true h
  unfold kindB at h
  split at h <;> first | (rename_i e he; exact ⟨_, he⟩) | omega
theorem kindB_2 {P : Program} {t : TypeId} (h : Nat.beq (kindB P t) 2 = true) : ∃ a b, P.underlying t = some (.map a b) := by
  have h := Nat.eq_of_beq_eq_true h
  unfold kindB at h
  split at h <;> first | (rename_i a b he; exact ⟨_, _, he⟩) | omega
theorem kindB_3 {P : Program} {t : TypeId} (h : Nat.beq (kindB P t) 3 = true) : ∃ a b c, P.underlying t = some (.func a b c) := by
  have h := Nat.eq_of_beq_eq_true h
  unfold kindB at h
  split at h <;> first | (rename_i a b c he; exact ⟨_, _, _, he⟩) | omega
theorem kindB_4' {P : Program} {t : TypeId} (h : Nat.beq (kindB P t) 4 = true) : ∃ a, P.underlying t = some (.interface a) := by
  have h := Nat.eq_of_beq_eq_true h
  unfold kindB at h
  split at h <;> first | (rename_i e he; exact ⟨_, he⟩) | omega
theorem kindB_5 {P : Program} {t : TypeId} (h : Nat.beq (kindB P t) 5 = true) : ∃ e, P.underlying t = some (.pointer e) := by
  have h := Nat.eq_of_beq_eq_true h
  unfold kindB at h
  split at h <;> first | (rename_i e he; exact ⟨_, he⟩) | omega
/-- == or != whose sides are told apart. -/
theorem le_eqOp {P : Program} {op : BinOp} {t : TypeId} {u v : AV} {xo yo : Operand} {c : Bool} {k : AV → Ans} (hu : OpdV f xo u) (hv : OpdV f yo v) (h : Le L (eqOp op c k))
    (hg : ∀ I w, (eqGuard op t xo yo (conc I u) (conc I v)).run P w = .ok () w)
    (he : ∀ I w, (Op.equal t (conc I u) (conc I v)).run P w = .ok c w)
    (hb1 : ∀ I, binOp .eql t (conc I u) (conc I v) = (do let b ← Op.equal t (conc I u) (conc I v); pure (.bool b))) (hb2 : ∀ I, binOp .neq t (conc I u) (conc I v) = (do let b ← Op.equal t (conc I u) (conc I v); pure (.bool (!b)))) :
    ∃ r, (∀ n I, ok n I r) ∧ (∀ I w, (do eqGuard op t xo yo (conc I u) (conc I v); binOp op t (conc I u) (conc I v) : Sem Value).run P w = .ok (conc I r) w) ∧ Le L (k r) := by
  unfold eqOp at h
  cases op <;> first | exact h.no.elim | skip
  · have hk := le_boolK h
    refine ⟨_, fun _ _ => (by trivial), fun I w => ?_, hk⟩
    rw [Sem.run_bind, hg I w, Result.andThen_ok, hb1]
    simp [he I w, conc]
  · have hk := le_boolK h
    refine ⟨_, fun _ _ => (by trivial), fun I w => ?_, hk⟩
    rw [Sem.run_bind, hg I w, Result.andThen_ok, hb2]
    simp [he I w, conc]
/-- Guards of two values of which neither is an aggregate, nor both nil interfaces. -/
theorem eqGuard_free {P : Program} {op : BinOp} {t : TypeId} {x y : Operand} {a b : Value} (h1 : ¬ (a = .nilIface ∧ b = .nilIface)) (h2 : ∀ l m, ¬ (a = .agg l ∧ b = .agg m)) (w : World) : (eqGuard op t x y a b).run P w = .ok () w := by
  unfold eqGuard
  split <;> simp <;> split <;> first
    | exact (h1 ⟨rfl, rfl⟩).elim
    | exact (h2 _ _ ⟨rfl, rfl⟩).elim
    | rfl
section
variable {P : Program} {t : TypeId} (d : Nat) (w : World)
theorem eqn_sl {e : TypeId} (he : P.underlying t = some (.slice e)) (a : Addr) (n c : Nat) : (Op.equalIn (d + 1) t (.slice (some a) n c) (.slice none 0 0)).run P w = .ok false w := by simp [Op.equalIn, run_underlying he]
theorem eqn_sl' {e : TypeId} (he : P.underlying t = some (.slice e)) (a : Option Addr) (n c : Nat) : (Op.equalIn (d + 1) t (.slice none 0 0) (.slice a n c)).run P w = .ok a.isNone w := by simp [Op.equalIn, run_underlying he]
theorem eqn_map {a b : TypeId} (he : P.underlying t = some (.map a b)) (r : Nat) : (Op.equalIn (d + 1) t (.map (some r)) (.map none)).run P w = .ok false w := by simp [Op.equalIn, run_underlying he]
theorem eqn_map' {a b : TypeId} (he : P.underlying t = some (.map a b)) (r : Option Nat) : (Op.equalIn (d + 1) t (.map none) (.map r)).run P w = .ok r.isNone w := by simp [Op.equalIn, run_underlying he]
theorem eqn_fn {a b : Array TypeId} {c : Bool} (he : P.underlying t = some (.func a b c)) (f : Fn) (x y : Array Value) : (Op.equalIn (d + 1) t (.func f x y) .nilFunc).run P w = .ok false w := by simp [Op.equalIn, run_underlying he]
theorem eqn_fn' {a b : Array TypeId} {c : Bool} (he : P.underlying t = some (.func a b c)) (f : Fn) (x y : Array Value) : (Op.equalIn (d + 1) t .nilFunc (.func f x y)).run P w = .ok false w := by simp [Op.equalIn, run_underlying he]
theorem eqn_fn'' {a b : Array TypeId} {c : Bool} (he : P.underlying t = some (.func a b c)) : (Op.equalIn (d + 1) t .nilFunc .nilFunc).run P w = .ok true w := by simp [Op.equalIn, run_underlying he]
theorem eqn_ifc {a : Array (String × TypeId)} (he : P.underlying t = some (.interface a)) (u : TypeId) (x : Value) : (Op.equalIn (d + 1) t (.iface u x) .nilIface).run P w = .ok false w := by simp [Op.equalIn, run_underlying he]
theorem eqn_ifc' {a : Array (String × TypeId)} (he : P.underlying t = some (.interface a)) (u : TypeId) (x : Value) : (Op.equalIn (d + 1) t .nilIface (.iface u x)).run P w = .ok false w := by simp [Op.equalIn, run_underlying he]
theorem eqn_ptr {e : TypeId} (he : P.underlying t = some (.pointer e)) (a : Addr) : (Op.equalIn (d + 1) t (.pointer (some a)) (.pointer none)).run P w = .ok false w := by simp [Op.equalIn, run_underlying he]
theorem eqn_ptr' {e : TypeId} (he : P.underlying t = some (.pointer e)) (a : Option Addr) : (Op.equalIn (d + 1) t (.pointer none) (.pointer a)).run P w = .ok a.isNone w := by simp [Op.equalIn, run_underlying he]
end
theorem spec_bin {op : BinOp} {t yt : TypeId} {x y : Operand} (ho : o.op = .binOp op t x y yt) (hcls : Nat.beq (kindB C.P t) 5 = false) (h : Le L (oBin C op t x y f s k)) : ∃ v, Spec0 C.P o f v ∧ Le L (k v s) := by
  obtain ⟨u, hu, h1⟩ := le_opd h
  obtain ⟨v, hv, h2⟩ := le_opd h1
  have hx : ∀ n I a, Rel n I f a o.op → OpdRel n I f a x ∧ OpdRel n I f a y := fun n I a hr => ⟨hr x (by rw [ho]; simp [Op.operands]), hr y (by rw [ho]; simp [Op.operands])⟩
  have fin : ∀ r, (∀ n I, ok n I r) → (∀ I w, (do eqGuard op t x y (conc I u) (conc I v); binOp op t (conc I u) (conc I v) : Sem Value).run C.P w = .ok (conc I r) w) → Le L (k r s) → ∃ v, Spec0 C.P o f v ∧ Le L (k v s) := fun r hr1 hr2 hk => by
    refine ⟨r, fun n I a w hr => ⟨hr1 n I, ?_⟩, hk⟩
    obtain ⟨k1, _⟩ := (hx n I a hr).1 _ hu
    obtain ⟨k2, _⟩ := (hx n I a hr).2 _ hv
    have := hr2 I w
    simp only [execOp, ho, k1, k2]
    rw [Sem.run_bind, this]; rfl
  clear h h1
  rw [binK_eq] at h2
  unfold binM at h2
  split at h2
  case h_1 =>
    rename_i j a j' b
    rcases le_ifK h2 with ⟨hj, h3⟩ | ⟨hj, h3⟩
    · obtain rfl := kindEq_spec hj
      obtain ⟨r, hr1, hr2, hk⟩ := le_intBin h3 (.inr trivial)
      exact fin r hr1 (fun I w => by rw [Sem.run_bind]; simp only [conc]; rw [eqGuard_ints, Result.andThen_ok]; exact hr2 I w) hk
    · cases op <;> first | exact h3.no.elim | skip
      · obtain ⟨r, hr1, hr2, hk⟩ := le_staticK h3
        exact fin r hr1 (fun I w => by rw [Sem.run_bind]; simp only [conc]; rw [eqGuard_ints, Result.andThen_ok]; exact hr2 I w) hk
      · obtain ⟨r, hr1, hr2, hk⟩ := le_staticK h3
        exact fin r hr1 (fun I w => by rw [Sem.run_bind]; simp only [conc]; rw [eqGuard_ints, Result.andThen_ok]; exact hr2 I w) hk
  case h_2 =>
    obtain ⟨r, hr1, hr2, hk⟩ := le_strBin (P := C.P) (t := t) h2
    exact fin r hr1 (fun I w => by rw [Sem.run_bind]; simp only [conc]; rw [eqGuard_strs, Result.andThen_ok]; exact hr2 I w) hk
  case h_3 =>
    obtain ⟨h3, _⟩ := le_ifN h2
    unfold ptrElemB at h3
    split at h3
    · rename_i e he; simp [kindB, he] at hcls
    · cases h3
  case h_4 => obtain ⟨h3, _⟩ := le_ifN h2; rw [hcls] at h3; cases h3
  case h_5 => obtain ⟨h3, _⟩ := le_ifN h2; rw [hcls] at h3; cases h3
  case h_6 => obtain ⟨h3, _⟩ := le_ifN h2; rw [hcls] at h3; cases h3
  case h_7 =>
    obtain ⟨h3, h4⟩ := le_ifN h2
    obtain ⟨e, he⟩ := kindB_1 h3
    obtain ⟨r, hr1, hr2, hk⟩ := le_eqOp (P := C.P) (t := t) hu hv h4 (fun I w => eqGuard_free (by simp [conc]) (by simp [conc]) w)
      (fun I w => eqn_sl 9999 w he _ _ _) (fun I => rfl) (fun I => rfl)
    exact fin r hr1 hr2 hk
  case h_8 =>
    obtain ⟨h3, h4⟩ := le_ifN h2
    obtain ⟨e, he⟩ := kindB_1 h3
    obtain ⟨r, hr1, hr2, hk⟩ := le_eqOp (P := C.P) (t := t) hu hv h4 (fun I w => eqGuard_free (by simp [conc]) (by simp [conc]) w)
      (fun I w => eqn_sl 9999 w he _ _ _) (fun I => rfl) (fun I => rfl)
    exact fin r hr1 hr2 hk
  case h_9 =>
    obtain ⟨h3, h4⟩ := le_ifN h2
    obtain ⟨e, he⟩ := kindB_1 h3
    obtain ⟨r, hr1, hr2, hk⟩ := le_eqOp (P := C.P) (t := t) hu hv h4 (fun I w => eqGuard_free (by simp [conc]) (by simp [conc]) w)
      (fun I w => eqn_sl' 9999 w he _ _ _) (fun I => rfl) (fun I => rfl)
    exact fin r hr1 hr2 hk
  case h_10 =>
    obtain ⟨h3, h4⟩ := le_ifN h2
    obtain ⟨e, he⟩ := kindB_1 h3
    obtain ⟨r, hr1, hr2, hk⟩ := le_eqOp (P := C.P) (t := t) hu hv h4 (fun I w => eqGuard_free (by simp [conc]) (by simp [conc]) w)
      (fun I w => eqn_sl' 9999 w he _ _ _) (fun I => rfl) (fun I => rfl)
    exact fin r hr1 hr2 hk
  case h_11 =>
    obtain ⟨h3, h4⟩ := le_ifN h2
    obtain ⟨e, he⟩ := kindB_1 h3
    obtain ⟨r, hr1, hr2, hk⟩ := le_eqOp (P := C.P) (t := t) hu hv h4 (fun I w => eqGuard_free (by simp [conc]) (by simp [conc]) w)
      (fun I w => eqn_sl 9999 w he _ _ _) (fun I => rfl) (fun I => rfl)
    exact fin r hr1 hr2 hk
  case h_12 =>
    obtain ⟨h3, h4⟩ := le_ifN h2
    obtain ⟨e, he⟩ := kindB_1 h3
    obtain ⟨r, hr1, hr2, hk⟩ := le_eqOp (P := C.P) (t := t) hu hv h4 (fun I w => eqGuard_free (by simp [conc]) (by simp [conc]) w)
      (fun I w => eqn_sl' 9999 w he _ _ _) (fun I => rfl) (fun I => rfl)
    exact fin r hr1 hr2 hk
  case h_13 =>
    obtain ⟨h3, h4⟩ := le_ifN h2
    obtain ⟨e, he⟩ := kindB_1 h3
    obtain ⟨r, hr1, hr2, hk⟩ := le_eqOp (P := C.P) (t := t) hu hv h4 (fun I w => eqGuard_free (by simp [conc]) (by simp [conc]) w)
      (fun I w => eqn_sl' 9999 w he _ _ _) (fun I => rfl) (fun I => rfl)
    exact fin r hr1 hr2 hk
  case h_14 =>
    obtain ⟨h3, h4⟩ := le_ifN h2
    obtain ⟨e, e2, he⟩ := kindB_2 h3
    obtain ⟨r, hr1, hr2, hk⟩ := le_eqOp (P := C.P) (t := t) hu hv h4 (fun I w => eqGuard_free (by simp [conc]) (by simp [conc]) w)
      (fun I w => eqn_map 9999 w he _) (fun I => rfl) (fun I => rfl)
    exact fin r hr1 hr2 hk
  case h_15 =>
    obtain ⟨h3, h4⟩ := le_ifN h2
    obtain ⟨e, e2, he⟩ := kindB_2 h3
    obtain ⟨r, hr1, hr2, hk⟩ := le_eqOp (P := C.P) (t := t) hu hv h4 (fun I w => eqGuard_free (by simp [conc]) (by simp [conc]) w)
      (fun I w => eqn_map' 9999 w he _) (fun I => rfl) (fun I => rfl)
    exact fin r hr1 hr2 hk
  case h_16 =>
    obtain ⟨h3, h4⟩ := le_ifN h2
    obtain ⟨e, e2, he⟩ := kindB_2 h3
    obtain ⟨r, hr1, hr2, hk⟩ := le_eqOp (P := C.P) (t := t) hu hv h4 (fun I w => eqGuard_free (by simp [conc]) (by simp [conc]) w)
      (fun I w => eqn_map' 9999 w he _) (fun I => rfl) (fun I => rfl)
    exact fin r hr1 hr2 hk
  case h_17 =>
    obtain ⟨h3, h4⟩ := le_ifN h2
    obtain ⟨e, e2, e3, he⟩ := kindB_3 h3
    obtain ⟨r, hr1, hr2, hk⟩ := le_eqOp (P := C.P) (t := t) hu hv h4 (fun I w => eqGuard_free (by simp [conc]) (by simp [conc]) w)
      (fun I w => eqn_fn 9999 w he _ _ _) (fun I => rfl) (fun I => rfl)
    exact fin r hr1 hr2 hk
  case h_18 =>
    obtain ⟨h3, h4⟩ := le_ifN h2
    obtain ⟨e, e2, e3, he⟩ := kindB_3 h3
    obtain ⟨r, hr1, hr2, hk⟩ := le_eqOp (P := C.P) (t := t) hu hv h4 (fun I w => eqGuard_free (by simp [conc]) (by simp [conc]) w)
      (fun I w => eqn_fn' 9999 w he _ _ _) (fun I => rfl) (fun I => rfl)
    exact fin r hr1 hr2 hk
  case h_19 =>
    obtain ⟨h3, h4⟩ := le_ifN h2
    obtain ⟨e, e2, e3, he⟩ := kindB_3 h3
    obtain ⟨r, hr1, hr2, hk⟩ := le_eqOp (P := C.P) (t := t) hu hv h4 (fun I w => eqGuard_free (by simp [conc]) (by simp [conc]) w)
      (fun I w => eqn_fn'' 9999 w he) (fun I => rfl) (fun I => rfl)
    exact fin r hr1 hr2 hk
  case h_20 =>
    obtain ⟨h3, h4⟩ := le_ifN h2
    obtain ⟨e, he⟩ := kindB_4' h3
    obtain ⟨r, hr1, hr2, hk⟩ := le_eqOp (P := C.P) (t := t) hu hv h4 (fun I w => eqGuard_free (by simp [conc]) (by simp [conc]) w)
      (fun I w => eqn_ifc 9999 w he _ _) (fun I => rfl) (fun I => rfl)
    exact fin r hr1 hr2 hk
  case h_21 =>
    obtain ⟨h3, h4⟩ := le_ifN h2
    obtain ⟨e, he⟩ := kindB_4' h3
    obtain ⟨r, hr1, hr2, hk⟩ := le_eqOp (P := C.P) (t := t) hu hv h4 (fun I w => eqGuard_free (by simp [conc]) (by simp [conc]) w)
      (fun I w => eqn_ifc' 9999 w he _ _) (fun I => rfl) (fun I => rfl)
    exact fin r hr1 hr2 hk
  case h_22 =>
    obtain ⟨gx, hgx, h3⟩ := le_optK h2
    obtain ⟨gy, hgy, h4⟩ := le_optK h3
    obtain ⟨r, hr1, hr2, hk⟩ := le_staticK h4
    exact fin r hr1 (fun I w => by rw [(ground_spec hgx 0 I).1, (ground_spec hgy 0 I).1]; exact hr2 I w) hk
end
end Go.Proofs.YtajdeaabgplacaaGreatDoor.Sev

namespace Go.Proofs.YtajdeaabgplacaaGreatDoor.Sev
open Go Go.RowKit
set_option linter.unusedVariables false
variable {L : List (AV × St)}
section
variable {C : Cf} {o : Oper} {f : Fr} {s : St} {k : AV → St → Ans}

theorem isIntT_some {P : Program} {t : TypeId} (h : isIntT P t = true) : ∃ kd, P.underlying t = some (.int kd) := by
  unfold isIntT at h; split at h
  · rename_i kd he; exact ⟨kd, he⟩
  · cases h
theorem isStringT_some {P : Program} {t : TypeId} (h : isStringT P t = true) : P.underlying t = some .string := by
  unfold isStringT at h; split at h
  · rename_i he; exact he
  · cases h
theorem isByteSlice_some {P : Program} {t : TypeId} (h : isByteSlice P t = true) : ∃ e, P.underlying t = some (.slice e) ∧ P.underlying e = some (.int .u8) := by
  unfold isByteSlice at h; split at h
  · rename_i e he
    split at h
    · rename_i he'; exact ⟨e, he, he'⟩
    · cases h
  · cases h
theorem spec_conv {x y : TypeId} {z : Operand} (ho : o.op = .convert x y z) (hcls : cls C.P o.op = 0) (h : Le L (oConv C x y z f s k)) : ∃ v, Spec0 C.P o f v ∧ Le L (k v s) := by
  obtain ⟨v, hv, h1⟩ := le_opd h
  have hx : ∀ n I a, Rel n I f a o.op → OpdRel n I f a z := fun n I a hr => hr z (by rw [ho]; simp [Op.operands])
  have hc : (isIntT C.P x = true ∧ isIntT C.P y = true) ∨ (isStringT C.P x = true ∧ isStringT C.P y = true) := by
    rw [ho] at hcls
    simp only [cls] at hcls
    split at hcls
    · rename_i h; exact .inl (by simpa using h)
    · split at hcls
      · rename_i h; exact .inr (by simpa using h)
      · split at hcls <;> omega
  clear h
  unfold convK at h1
  split at h1
  · obtain ⟨h2, h3⟩ := le_ifN h1
    obtain ⟨r, hr1, hr2, hk⟩ := le_staticK h3
    refine ⟨r, fun n I a w hr => ⟨hr1 n I, ?_⟩, hk⟩
    obtain ⟨k1, _⟩ := hx n I a hr _ hv
    have := hr2 I w
    simp only [execOp, ho, k1, conc, Sem.run_bind, this]; rfl
  · rcases le_ifK h1 with ⟨h2, h3⟩ | ⟨h2, h3⟩
    · refine ⟨_, fun n I a w hr => ⟨(by trivial), ?_⟩, h3⟩
      obtain ⟨k1, _⟩ := hx n I a hr _ hv
      simp at h2
      have e1 := isStringT_some h2.1
      have e2 := isStringT_some h2.2
      simp [execOp, ho, k1, conc, convert, run_underlying e1, run_underlying e2]
    · exfalso
      obtain ⟨h4, _⟩ := le_ifN h3
      simp at h4 h2
      rcases hc with hc | hc
      · obtain ⟨kd, e1⟩ := isIntT_some hc.1
        have e2 := isStringT_some h4.2
        rw [e1] at e2; cases e2
      · rw [h2 hc.2] at hc; cases hc.1
  · exfalso
    obtain ⟨h4, _⟩ := le_ifN h1
    simp at h4
    obtain ⟨e, e1, _⟩ := isByteSlice_some h4.2
    rcases hc with hc | hc
    · obtain ⟨kd, e2⟩ := isIntT_some hc.1; rw [e1] at e2; cases e2
    · have e2 := isStringT_some hc.1; rw [e1] at e2; cases e2
  · exfalso
    obtain ⟨h4, _⟩ := le_ifN h1
    simp at h4
    obtain ⟨e, e1, _⟩ := isByteSlice_some h4.2
    rcases hc with hc | hc
    · obtain ⟨kd, e2⟩ := isIntT_some hc.1; rw [e1] at e2; cases e2
    · have e2 := isStringT_some hc.1; rw [e1] at e2; cases e2
  · exfalso
    obtain ⟨h4, _⟩ := le_ifN h1
    simp at h4
    obtain ⟨e, e1, _⟩ := isByteSlice_some h4.2
    rcases hc with hc | hc
    · obtain ⟨kd, e2⟩ := isIntT_some hc.1; rw [e1] at e2; cases e2
    · have e2 := isStringT_some hc.1; rw [e1] at e2; cases e2
  · exact h1.no.elim

/-! ### aggregates -/
/-- The parts' values. -/
inductive PartsV (f : Fr) : List (Nat × Operand) → List (Nat × AV) → Prop
  | nil : PartsV f [] []
  | cons {i : Nat} {x : Operand} {v : AV} {xs : List (Nat × Operand)} {vs : List (Nat × AV)} : OpdV f x v → PartsV f xs vs → PartsV f ((i, x) :: xs) ((i, v) :: vs)
theorem le_parts : ∀ {l : List (Nat × Operand)} {f : Fr} {k : List (Nat × AV) → Ans}, Le L (parts l f k) → ∃ vs, PartsV f l vs ∧ Le L (k vs)
  | [], f, k, h => ⟨[], .nil, h⟩
  | (i, x) :: l, f, k, h => by
    obtain ⟨v, hv, h1⟩ := le_opd (k := fun v => parts l f fun l => k ((i, v) :: l)) h
    obtain ⟨vs, hvs, hk⟩ := le_parts h1
    exact ⟨(i, v) :: vs, .cons hv hvs, hk⟩
theorem partsV_conc {n : Nat} {I : Itp} {f : Fr} {a : Act} {l : List (Nat × Operand)} {vs : List (Nat × AV)} (h : PartsV f l vs) (hr : ∀ p ∈ l, OpdRel n I f a p.2) :
    l.map (fun p => (p.1, a.eval p.2)) = vs.map (fun p => (p.1, conc I p.2)) ∧ ∀ p ∈ vs, ok n I p.2 := by
  induction h with
  | nil => exact ⟨rfl, by simp⟩
  | @cons i x v xs vs hv _ ih =>
    obtain ⟨h1, h2⟩ := hr (i, x) List.mem_cons_self _ hv
    obtain ⟨h3, h4⟩ := ih fun p hp => hr p (List.mem_cons_of_mem _ hp)
    refine ⟨by simp [h1, h3], fun p hp => ?_⟩
    rcases List.mem_cons.1 hp with rfl | hp
    · exact h2
    · exact h4 p hp
theorem allCell_spec : ∀ {l : List AV}, allCell l = true → ∀ v ∈ l, isCell v = true
  | [], _, v, hv => by simp at hv
  | u :: l, h, v, hv => by
    have h : (Bool.rec false (allCell l) (isCell u) : Bool) = true := h
    cases hu : isCell u with
    | false => rw [hu] at h; cases h
    | true =>
      rw [hu] at h
      rcases List.mem_cons.1 hv with rfl | hv
      · exact hu
      · exact allCell_spec h v hv
theorem le_cellsK {v : AV} {k : List AV → Ans} (h : Le L (cellsK v k)) : ∃ l, (∀ n I, ok n I v → okL n I l) ∧ (∀ I, (conc I v).cells.toList = concL I l) ∧ (∀ u ∈ l, isCell u = true) ∧ Le L (k l) := by
  rw [cellsK_eq] at h
  split at h
  · obtain ⟨h1, h2⟩ := le_ifN h
    exact ⟨_, fun n I h => h, fun I => by simp [conc, Value.cells], allCell_spec h1, h2⟩
  · exact h.no.elim
  · exact h.no.elim
  · rename_i h1 h2 h3
    refine ⟨[v], fun n I h => ⟨h, trivial⟩, fun I => ?_, fun u hu => ?_, h⟩
    · cases v <;> first | exact (h1 _ rfl).elim | exact (h2 _ rfl).elim | exact (h3 _ rfl).elim | rfl
    · obtain rfl := List.mem_singleton.1 hu
      cases u <;> first | exact (h1 _ rfl).elim | exact (h2 _ rfl).elim | exact (h3 _ rfl).elim | rfl
theorem le_overK : ∀ {v l : List AV} {k : List AV → Ans}, Le L (overK v l k) → v.length ≤ l.length ∧ Le L (k (v ++ l.drop v.length))
  | [], l, k, h => ⟨Nat.zero_le _, h⟩
  | x :: v, [], k, h => h.no.elim
  | x :: v, y :: l, k, h => by
    obtain ⟨h1, h2⟩ := le_overK (v := v) (l := l) (k := fun r => k (x :: r)) h
    exact ⟨by simpa using h1, by simpa using h2⟩
theorem le_patchK : ∀ {off : Nat} {v l : List AV} {k : List AV → Ans}, Le L (patchK off v l k) → off + v.length ≤ l.length ∧ Le L (k (l.take off ++ v ++ l.drop (off + v.length)))
  | 0, v, l, k, h => by obtain ⟨h1, h2⟩ := le_overK (v := v) (l := l) h; exact ⟨by omega, by simpa using h2⟩
  | n + 1, v, [], k, h => h.no.elim
  | n + 1, v, y :: l, k, h => by
    obtain ⟨h1, h2⟩ := le_patchK (off := n) (v := v) (l := l) (k := fun r => k (y :: r)) h
    refine ⟨by simp; omega, ?_⟩
    rw [show n + 1 + v.length = (n + v.length) + 1 from by omega]
    simpa using h2
/-- Cells written one after another. -/
theorem foldl_wr : ∀ (v : List Value) (cs : Array Value) (off : Nat), v.zipIdx.foldl (fun cs (x : Value × Nat) => cs.setIfInBounds (off + x.2) x.1) cs = wr cs off v := by
  have key : ∀ (v : List Value) (cs : Array Value) (off i : Nat), (v.zipIdx i).foldl (fun cs (x : Value × Nat) => cs.setIfInBounds (off + x.2) x.1) cs = wr cs (off + i) v := by
    intro v
    induction v with
    | nil => intro cs off i; rfl
    | cons x v ih => intro cs off i; rw [List.zipIdx_cons, List.foldl_cons, ih, wr, Nat.add_assoc]
  intro v cs off
  exact key v cs off 0
theorem wr_list (l : List Value) (v : List Value) (off : Nat) (h : off + v.length ≤ l.length) : wr l.toArray off v = (l.take off ++ v ++ l.drop (off + v.length)).toArray := by
  apply Array.ext_getElem?
  intro i
  rw [wr_get _ _ _ _ (by simpa using h)]
  simp only [List.getElem?_toArray, List.append_assoc]
  by_cases h1 : i < off
  · rw [if_neg (by omega), List.getElem?_append_left (by simp; omega), List.getElem?_take_of_lt h1]
  · by_cases h2 : i < off + v.length
    · rw [if_pos (by omega), List.getElem?_append_right (by simp; omega), List.length_take, Nat.min_eq_left (by omega), List.getElem?_append_left (by omega)]
    · rw [if_neg (by omega), List.getElem?_append_right (by simp; omega), List.length_take, Nat.min_eq_left (by omega), List.getElem?_append_right (by omega), List.getElem?_drop]
      congr 1; omega
theorem le_fillK {place : Nat → Option (Nat × Nat)} : ∀ {ps : List (Nat × AV)} {l : List AV} {k : List AV → Ans}, Le L (fillK place ps l k) →
    ∃ r, r.length = l.length ∧ (∀ n I, okL n I l → (∀ p ∈ ps, ok n I p.2) → okL n I r) ∧
      ((∀ v ∈ l, isCell v = true) → ∀ v ∈ r, isCell v = true) ∧ (∀ I (pl : Nat → Option (Nat × Nat)), (∀ p ∈ ps, pl p.1 = place p.1) → Instr.fill pl (concL I l).toArray (ps.map fun p => (p.1, conc I p.2)) = some (concL I r).toArray) ∧ Le L (k r)
  | [], l, k, h => ⟨l, rfl, fun n I h _ => h, fun h => h, fun I pl _ => rfl, h⟩
  | (i, v) :: ps, l, k, h => by
    obtain ⟨q, hq, h1⟩ := le_optK (k := fun (q : Nat × Nat) => cellsK v fun c => lenK c fun n => ifK (Nat.beq n q.2) (patchK q.1 c l fun l' => fillK place ps l' k) (.no "fill" 0)) h
    obtain ⟨c, hc1, hc2, hc3, h2⟩ := le_cellsK h1
    obtain ⟨hn, h3⟩ := le_ifN (le_lenK h2)
    have hn := Nat.eq_of_beq_eq_true hn
    obtain ⟨hl, h4⟩ := le_patchK h3
    obtain ⟨r, hr0, hr1, hrc, hr2, hk⟩ := le_fillK h4
    refine ⟨r, by rw [hr0]; simp; omega, fun n I hok hps => hr1 n I ?_ (fun p hp => hps p (List.mem_cons_of_mem _ hp)), fun hl => hrc fun v hv => ?_, fun I pl hpl => ?_, hk⟩
    · have hcv := hc1 n I (hps (i, v) List.mem_cons_self)
      rw [okL_iff] at *
      intro x hx
      simp only [List.mem_append] at hx
      rcases hx with (hx | hx) | hx
      · exact hok x (List.mem_of_mem_take hx)
      · exact hcv x hx
      · exact hok x (List.mem_of_mem_drop hx)
    · simp only [List.mem_append] at hv
      rcases hv with (hv | hv) | hv
      · exact hl v (List.mem_of_mem_take hv)
      · exact hc3 v hv
      · exact hl v (List.mem_of_mem_drop hv)
    · have hcl : (conc I v).cells.toList.length = c.length := by rw [hc2, concL_length]
      have hsz : (conc I v).cells.size = c.length := by rw [← hcl]; simp
      have hpi : pl i = some q := (hpl (i, v) List.mem_cons_self).trans hq
      simp only [List.map_cons, Instr.fill, hpi]
      have hfalse : ((conc I v).cells.size ≠ q.2 || decide (q.1 + (conc I v).cells.size > (concL I l).toArray.size)) = false := by
        simp [hsz, concL_length]; omega
      have := hr2 I pl (fun p hp => hpl p (List.mem_cons_of_mem _ hp))
      have hfold : (conc I v).cells.zipIdx.foldl (fun cs (x : Value × Nat) => cs.setIfInBounds (q.1 + x.2) x.1) (concL I l).toArray = (concL I (l.take q.1 ++ c ++ l.drop (q.1 + c.length))).toArray := by
        rw [← Array.foldl_toList, Array.toList_zipIdx, foldl_wr, hc2, wr_list _ _ _ (by simp [concL_length]; omega)]
        simp [concL_map, List.map_take, List.map_drop]
      rw [if_neg (by rw [hfalse]; simp), hfold]
      exact this
theorem run_mapM {α β : Type} {P : Program} {w : World} {g : α → Sem β} {v : α → β} : ∀ {l : List α}, (∀ x ∈ l, (g x).run P w = .ok (v x) w) → (l.mapM g).run P w = .ok (l.map v) w
  | [], _ => by simp
  | x :: l, h => by
    have h1 := h x List.mem_cons_self
    have h2 := run_mapM (l := l) (fun y hy => h y (List.mem_cons_of_mem _ hy))
    simp [List.mapM_cons, h1, h2]
theorem abs_not_agt {v : Value} {b : Nat} (h : abs v = some (.agt b)) : False := by
  obtain ⟨h1, _⟩ := abs_spec h 0 ⟨fun _ => 0, fun _ => 0, fun _ => 0, fun _ => #[.nilFunc]⟩
  obtain ⟨h2, _⟩ := abs_spec h 0 ⟨fun _ => 0, fun _ => 0, fun _ => 0, fun _ => #[]⟩
  simp only [conc] at h1 h2
  rw [← h1] at h2
  cases h2
theorem zeroCells_some {P : Program} {t : TypeId} {z : List AV} (h : zeroCells P t = some z) (w : World) :
    ∃ v, (zeroValue t).run P w = .ok v w ∧ (∀ n I, v.cells.toList = concL I z ∧ okL n I z) ∧ ∀ u ∈ z, isCell u = true := by
  unfold zeroCells at h
  cases hz : zeroB P t with
  | none => simp [hz] at h
  | some a =>
    simp only [hz, Option.bind_some] at h
    split at h
    · rename_i hall
      obtain ⟨v, h1, h2⟩ := run_zero hz w
      obtain rfl := Option.some.inj h
      refine ⟨v, h1, fun n I => ?_, fun u hu => List.all_eq_true.1 hall u hu⟩
      obtain ⟨h3, h4⟩ := abs_spec h2 n I
      rw [← h3]
      cases a <;> first | exact ⟨rfl, h4, trivial⟩ | exact (abs_not_agt h2).elim | skip
      exact ⟨by simp [conc, Value.cells, zcells], h4⟩
    · cases h
theorem spec_build {t : TypeId} {ps : Array (Nat × Operand)} (ho : o.op = .build t ps) (hb : bigB C.P t = false) (h : Le L (oBuild C t ps f s k)) : ∃ v, Spec0 C.P o f v ∧ Le L (k v s) := by
  obtain ⟨vs, hvs, h1⟩ := le_parts h
  obtain ⟨hst, h2⟩ := le_ifN h1
  rw [hb] at h2
  obtain ⟨z, hz, h3⟩ := le_optK h2
  obtain ⟨r, hr0, hr1, _, hr2, hk⟩ := le_fillK h3
  refine ⟨_, fun n I a w hr => ?_, hk⟩
  obtain ⟨k1, k2⟩ := partsV_conc hvs (n := n) (I := I) (a := a) (fun p hp => hr p.2 (by rw [ho]; simp [Op.operands]; exact ⟨p.1, by simpa using hp⟩))
  obtain ⟨zv, hz1, hz2, _⟩ := zeroCells_some hz w
  obtain ⟨hz3, hz4⟩ := hz2 n I
  refine ⟨hr1 n I hz4 k2, ?_⟩
  have hzc : zv.cells = (concL I z).toArray := by rw [← hz3]
  have hps : (ps.map fun (x : Nat × Operand) => (x.1, a.eval x.2)).toList = vs.map fun p => (p.1, conc I p.2) := by rw [Array.toList_map, k1]
  unfold structB at hst
  split at hst
  · rename_i fs hfs
    have hm : (fs.mapM fun (fd : Field) => (do pure (fd.offset, ← sizeOf fd.type) : Sem (Nat × Nat))).run C.P w = .ok (fs.toList.map fun fd => (fd.offset, ((C.P.info? fd.type).map (·.size)).getD 0)).toArray w := by
      rw [Array.mapM_eq_mapM_toList]
      have := run_mapM (P := C.P) (w := w) (l := fs.toList) (g := fun (fd : Field) => (do pure (fd.offset, ← sizeOf fd.type) : Sem (Nat × Nat))) (v := fun fd => (fd.offset, ((C.P.info? fd.type).map (·.size)).getD 0)) (fun fd hfd => by
        have := List.all_eq_true.1 hst fd hfd
        cases hi : C.P.info? fd.type with
        | none => simp [hi] at this
        | some i => simp [sizeOf, run_info hi])
      simp only [Sem.run_map, this, Result.andThen_ok]
    have hf := hr2 I (fun i => ((fs.toList.map fun fd => (fd.offset, ((C.P.info? fd.type).map (·.size)).getD 0)).toArray)[i]?) (fun p hp => by
      simp only [placeB, hfs, List.getElem?_toArray, List.getElem?_map, Array.getElem?_toList]
      cases hg : fs[p.1]? with
      | none => rfl
      | some fd =>
        have := List.all_eq_true.1 hst fd (by have := Array.mem_of_getElem? hg; simpa using this)
        cases hi : C.P.info? fd.type with
        | none => simp [hi] at this
        | some i => simp [sizeB, hi])
    simp only [execOp, ho, Instr.build, Sem.run_bind, hz1, Result.andThen_ok, run_underlying hfs, hm, hzc, hps, hf, conc]
    rfl
  · rename_i m e hfs
    cases hi : C.P.info? e with
    | none => simp [hi] at hst
    | some ei =>
      have hsz : sizeB C.P e = some ei.size := by simp [sizeB, hi]
      have hf := hr2 I (fun i => some (i * ei.size, ei.size)) (fun p hp => by simp [placeB, hfs, hsz])
      simp only [execOp, ho, Instr.build, Sem.run_bind, hz1, Result.andThen_ok, run_underlying hfs, run_size hsz, hzc, hps, hf, conc]
      rfl
  · cases hst

/-! ### builtins -/
theorem call_args {c : Call} {vs : List AV} {n : Nat} {I : Itp} {a : Act} (ho : o.op = .call c) (hv : OpdsV f c.args.toList vs) (hr : Rel n I f a o.op) : c.args.map a.eval = (concL I vs).toArray ∧ okL n I vs := by
  obtain ⟨h1, h2⟩ := opdsV_conc hv (n := n) (I := I) (a := a) (fun x hx => hr x (by rw [ho]; simp [Op.operands, Call.operands]; right; simpa using hx))
  exact ⟨by rw [← h1, ← Array.toList_map], h2⟩
theorem run_builtin {c : Call} {b : Builtin} (ho : o.op = .call c) (hc : c.callee = .builtin b) (P : Program) (a : Act) (w : World) :
    (execOp a.eval o).run P w = (builtin b c.argTypes o.type (c.args.map fun | .const _ => true | _ => false) (c.args.map a.eval)).run P w := by
  simp only [execOp, ho, resolve, hc, invoke, Sem.run_bind, Sem.run_pure, Result.andThen_ok]
  rfl
theorem argT {l : Array TypeId} {i : Nat} {t : TypeId} (h : l.toList[i]? = some t) : l[i]? = some t := by simpa using h
theorem argV {I : Itp} {l : List AV} {i : Nat} {v : AV} (h : l[i]? = some v) : (concL I l).toArray[i]? = some (conc I v) := by
  simp [concL_map, h]
/-- Lengths but of maps. -/
theorem spec_len {c : Call} (ho : o.op = .call c) (hc : c.callee = .builtin .len) {vs : List AV} (hv : OpdsV f c.args.toList vs) (hcls : ∀ t, c.argTypes[0]? = some t → Nat.beq (kindB C.P t) 2 = false)
    (h : Le L (lenB C.P c.argTypes.toList vs s fun v => k v s)) : ∃ v, Spec0 C.P o f v ∧ Le L (k v s) := by
  obtain ⟨t, ht, h1⟩ := le_nthK h
  obtain ⟨x, hx, h2⟩ := le_nthK h1
  have ht := argT ht
  have fin : ∀ m : Nat, (∀ I w, (Builtin.len_ c.argTypes o.type (concL I vs).toArray).run C.P w = .ok (goInt m) w) → Le L (k (.int .i64 (.ofNat m)) s) → ∃ v, Spec0 C.P o f v ∧ Le L (k v s) := fun m hm hk => by
    refine ⟨_, fun n I a w hr => ⟨(by trivial), ?_⟩, hk⟩
    obtain ⟨k1, _⟩ := call_args ho hv hr
    rw [run_builtin ho hc, k1]
    simp only [builtin, Sem.run_bind, hm I w, Result.andThen_ok]
    rfl
  split at h2
  · rename_i l
    split at h2
    · rename_i hus
      refine fin _ (fun I w => ?_) (le_lenK h2)
      have := argV (I := I) hx
      have hs : (ByteArray.mk (l.map UInt8.ofNat).toArray).size = l.length := by simp [ByteArray.size]
      simp [Builtin.len_, ht, this, run_underlying hus, conc, hs]
    · exact h2.no.elim
  · rename_i b off n cap
    obtain ⟨h3, h4⟩ := le_ifN h2
    obtain ⟨e, he⟩ := kindB_1 h3
    refine fin _ (fun I w => ?_) h4
    have := argV (I := I) hx
    simp [Builtin.len_, ht, this, run_underlying he, conc]
  · rename_i b off n cap
    obtain ⟨h3, h4⟩ := le_ifN h2
    obtain ⟨e, he⟩ := kindB_1 h3
    refine fin _ (fun I w => ?_) h4
    have := argV (I := I) hx
    simp [Builtin.len_, ht, this, run_underlying he, conc]
  · obtain ⟨h3, h4⟩ := le_ifN h2
    obtain ⟨e, he⟩ := kindB_1 h3
    refine fin 0 (fun I w => ?_) h4
    have := argV (I := I) hx
    simp [Builtin.len_, ht, this, run_underlying he, conc]
  · obtain ⟨h3, h4⟩ := le_ifN h2
    obtain ⟨e, he⟩ := kindB_1 h3
    refine fin 0 (fun I w => ?_) h4
    have := argV (I := I) hx
    simp [Builtin.len_, ht, this, run_underlying he, conc]
  · obtain ⟨h3, _⟩ := le_ifN h2; rw [hcls t ht] at h3; cases h3
  · obtain ⟨h3, _⟩ := le_ifN h2; rw [hcls t ht] at h3; cases h3
  · exact h2.no.elim
theorem spec_cap {c : Call} (ho : o.op = .call c) (hc : c.callee = .builtin .cap) {vs : List AV} (hv : OpdsV f c.args.toList vs)
    (h : Le L (capB C.P c.argTypes.toList vs fun v => k v s)) : ∃ v, Spec0 C.P o f v ∧ Le L (k v s) := by
  obtain ⟨t, ht, h1⟩ := le_nthK h
  obtain ⟨x, hx, h2⟩ := le_nthK h1
  have ht := argT ht
  obtain ⟨h3, h4⟩ := le_ifN h2
  obtain ⟨e, he⟩ := kindB_1 h3
  split at h4
  · rename_i b off n cap
    refine ⟨_, fun n I a w hr => ⟨(by trivial), ?_⟩, h4⟩
    obtain ⟨k1, _⟩ := call_args ho hv hr
    rw [run_builtin ho hc, k1]
    have := argV (I := I) hx
    simp [builtin, Builtin.cap_, ht, this, run_underlying he, conc, goInt]
  · refine ⟨_, fun n I a w hr => ⟨(by trivial), ?_⟩, h4⟩
    obtain ⟨k1, _⟩ := call_args ho hv hr
    rw [run_builtin ho hc, k1]
    have := argV (I := I) hx
    simp [builtin, Builtin.cap_, ht, this, run_underlying he, conc, goInt]
  · exact h4.no.elim
theorem minmaxK_cons (isMax : Bool) (a b : AV) (l : List AV) (k : AV → Ans) : minmaxK isMax (b :: l) a k = (match a, b with
    | .int j x, .int _ y => boolK (match isMax with | true => ltInt x y | false => ltInt y x) fun c => Bool.rec (minmaxK isMax l (.int j x) k) (minmaxK isMax l (.int j y) k) c
    | _, _ => .no "min, max" 0) := rfl
theorem le_minmaxK {P : Program} {isMax : Bool} : ∀ {l : List AV} {a : AV} {k : AV → Ans}, Le L (minmaxK isMax l a k) →
    ∃ v, (∀ n I, ok n I a → ok n I v) ∧ (∀ I w, ((concL I l).foldlM (if isMax then Builtin.max2 else Builtin.min2) (conc I a)).run P w = .ok (conc I v) w) ∧ Le L (k v)
  | [], a, k, h => ⟨a, fun _ _ h => h, fun I w => rfl, h⟩
  | b :: l, a, k, h => by
    rw [minmaxK_cons] at h
    split at h
    · rename_i j x j' y
      have h := le_boolK h
      have hm : ∀ I w, ((if isMax then Builtin.max2 else Builtin.min2) (conc I (.int j x)) (conc I (.int j' y))).run P w = .ok (.int j (if (match isMax with | true => ltInt x y | false => ltInt y x) then y else x)) w := fun I w => by
        cases isMax <;> simp [Builtin.max2, Builtin.min2, conc, ltInt_spec]
      generalize (match isMax with | true => ltInt x y | false => ltInt y x) = t at h hm
      cases t
      · obtain ⟨v, h1, h2, h3⟩ := le_minmaxK (l := l) (a := .int j x) h
        exact ⟨v, fun n I _ => h1 n I trivial, fun I w => by simp only [concL, List.foldlM_cons, Sem.run_bind, hm I w, Result.andThen_ok]; exact h2 I w, h3⟩
      · obtain ⟨v, h1, h2, h3⟩ := le_minmaxK (l := l) (a := .int j y) h
        exact ⟨v, fun n I _ => h1 n I trivial, fun I w => by simp only [concL, List.foldlM_cons, Sem.run_bind, hm I w, Result.andThen_ok]; exact h2 I w, h3⟩
    · exact h.no.elim
theorem spec_minmax {c : Call} {b : Bool} (ho : o.op = .call c) (hc : c.callee = .builtin (if b then .max else .min)) {x : AV} {vs : List AV} (hv : OpdsV f c.args.toList (x :: vs))
    (h : Le L (minmaxK b vs x fun v => k v s)) : ∃ v, Spec0 C.P o f v ∧ Le L (k v s) := by
  obtain ⟨v, h1, h2, hk⟩ := le_minmaxK (P := C.P) h
  refine ⟨v, fun n I a w hr => ?_, hk⟩
  obtain ⟨k1, k2⟩ := call_args ho hv hr
  refine ⟨h1 n I k2.1, ?_⟩
  rw [run_builtin ho hc, k1]
  have := h2 I w
  cases b <;> simp only [Bool.false_eq_true, if_true, if_false] at this ⊢ <;> simp [builtin, Builtin.max_, Builtin.min_, concL, this]
end
end Go.Proofs.YtajdeaabgplacaaGreatDoor.Sev
