/-
  AxiomsNames comes to true, in every world whose listed variables are as the row says.
-/
import Derived.Test.YtlmjmkjgefjmbaaGreatDoorSevOq
import Derived.Test.YtlmjmkjgefjmbaaGreatDoorSevE1
import Derived.Test.YtlmjmkjgefjmbaaGreatDoorSevE2
import Derived.Test.YtlmjmkjgefjmbaaGreatDoorTie
import Derived.Test.YtlmjmkjgefjmbaaGreatDoorCards
import Derived.ProofKit
import Derived.OpenShut
import Derived.LaidMore
import Derived.LaidLaws
import Derived.HandedShaped
import Derived.Shelf.Vars
import Derived.Stop.Joined
import Derived.SevenTiedAt
namespace Go.Proofs.YtlmjmkjgefjmbaaGreatDoor
open Go.ChangeShapes Go.WideShapes Go.ChangeAt Go.RowKit Go.Proofs.YtlmjmkjgefjmbaaGreatDoor.Sev
set_option linter.unusedVariables false

/-- What the rows of this seat list. -/
def laidL : List (String × DataW Unit) := [("ferryman/model.does", Rows.laid_ferryman_model_does), ("ferryman/replay.steps", Rows.laid_ferryman_replay_steps)]
theorem gSteps : Tryz.prog.globalNamed "ferryman/replay.steps" = some 0 := by kernel_rfl
theorem tSteps : (Tryz.prog.globals[0]?).map (·.type) = some 134 := by kernel_rfl
theorem gDoes : Tryz.prog.globalNamed "ferryman/model.does" = some 1 := by kernel_rfl
theorem tDoes : (Tryz.prog.globals[1]?).map (·.type) = some 172 := by kernel_rfl
theorem cells134 : Tryz.prog.cellsOf 134 = 4 := by kernel_rfl
theorem cells172 : Tryz.prog.cellsOf 172 = 10 := by kernel_rfl
theorem cells133 : Tryz.prog.cellsOf 133 = 1 := by kernel_rfl
theorem cells171 : Tryz.prog.cellsOf 171 = 1 := by kernel_rfl

theorem nil_of_trod {P : Program} {w : World} {base : Nat} {sp : Nat → Bool} {fuel : Nat} {t : TypeId} {ps rs : Array TypeId} {va : Bool} {v : Value} {q : List MemPlace} {H : Type} {enc : TypeId × Value → H}
    (ht : P.underlying t = some (.func ps rs va)) (h : DataW.trod enc P w base sp true fuel t [v] = some (.nil, q)) : v = .nilFunc := by
  cases fuel with
  | zero => simp [DataW.trod] at h
  | succ n => cases v <;> simp [DataW.trod, ht] at h <;> rfl

/-- A table of functions, as a row of the evaluator's values. -/
def tableB (P : Program) : List (DataW (List UInt8)) → List AV → Bool
  | [], [] => true
  | .nil :: ds, .nilfn :: l => tableB P ds l
  | .held (b :: r) :: ds, .fn (.func f) [] [] :: l => (((List.range P.funcs.size).filter fun f => (P.funcs[f]?).any (·.name.toUTF8.data.toList == b :: r)) == [f]) && tableB P ds l
  | _, _ => false
theorem tableB_spec {P : Program} : ∀ {ds : List (DataW (List UInt8))} {l : List AV}, tableB P ds l = true → ∀ (i : Nat) (x : DataW (List UInt8)), ds[i]? = some x → (x = .nil ∧ l[i]? = some .nilfn) ∨
    ∃ (b : UInt8) (r : List UInt8) (f : Nat), x = .held (b :: r) ∧ l[i]? = some (fnA f) ∧ ((List.range P.funcs.size).filter fun f => (P.funcs[f]?).any (·.name.toUTF8.data.toList == b :: r)) = [f] := by
  intro ds
  induction ds with
  | nil => intro l h i x hx; simp at hx
  | cons d ds ih =>
    intro l h i x hx
    unfold tableB at h
    split at h
    · rename_i e; cases e
    · rename_i e
      cases e
      cases i with
      | zero => simp at hx; subst hx; exact .inl ⟨rfl, rfl⟩
      | succ i => exact ih h i x (by simpa using hx)
    · rename_i b r ds' f l' e
      cases e
      rw [Bool.and_eq_true] at h
      cases i with
      | zero =>
        simp at hx
        subst hx
        exact .inr ⟨b, r, f, rfl, rfl, eq_of_beq h.1⟩
      | succ i => exact ih h.2 i x (by simpa using hx)
    · cases h
/-- Of a table of functions each cell. -/
theorem table_of {n g t e : Nat} {nm : String} {d : DataW Unit} {l : List AV} {ps rs : Array TypeId} {va : Bool} {ds : List (DataW (List UInt8))} (hg : Tryz.prog.globalNamed nm = some g) (ht : (Tryz.prog.globals[g]?).map (·.type) = some t) (hu : Tryz.prog.underlying t = some (.array n e))
    (he : Tryz.prog.underlying e = some (.func ps rs va)) (hc : Tryz.prog.cellsOf e = 1) (hct : Tryz.prog.cellsOf t = n) (hl : l.length = n) (hds : d.funcsOut = .agg ds) (hB : tableB Tryz.prog ds l = true)
    {w : World} (h : funcsAt Tryz.prog w nm d) {t' : TypeId} {cs : Array Value} (hb : w.heap[g]? = some (.cells cs t')) : cs.size = n ∧ ∀ (i : Nat) (a : AV), l[i]? = some a → cs[i]? = some (conc I0 a) ∧ ok glim I0 a ∧ isCell a = true := by
  obtain ⟨g', t2, cs', fuel, p, hg', ht', hv, hd'⟩ := h
  obtain rfl := Option.some.inj (hg.symm.trans hg')
  obtain rfl := Option.some.inj (ht.symm.trans ht')
  have hcs : cs' = cs := by
    simp only [World.var?, hg, Option.bind_some, hb] at hv
    exact (Option.some.inj hv).symm
  subst hcs
  obtain ⟨xs, m, _, hx, hcl, hxl, hel⟩ := DataW.trod_array hu hd'
  rw [hds] at hx
  simp only [Prod.mk.injEq, DataW.agg.injEq] at hx
  have hsz : cs'.size = n := by rw [← hct, ← hcl]; simp
  refine ⟨hsz, fun i a hi => ?_⟩
  have hin : i < n := by rw [← hl]; exact (List.getElem?_eq_some_iff.1 hi).1
  have hlt : i < cs'.size := by omega
  have hcell := hel i hin
  rw [hc, Nat.mul_one] at hcell
  have hone : (cs'.toList.drop i).take 1 = [cs'[i]] := by
    rw [List.drop_eq_getElem_cons (by simpa using hlt)]; simp
  rw [hone] at hcell
  have hxi : xs[i]? = some (xs[i]'(by omega)) := List.getElem?_eq_getElem (by omega)
  rw [hxi] at hcell
  generalize xs[i]'(by omega) = y at hcell hxi
  obtain ⟨y1, y2⟩ := y
  have hdi : ds[i]? = some y1 := by rw [hx.1, List.getElem?_map, hxi]; rfl
  have hget : cs'[i]? = some cs'[i] := by simp [hlt]
  rcases tableB_spec hB i y1 hdi with ⟨rfl, h1⟩ | ⟨b, r, f, rfl, h1, h2⟩
  · obtain rfl := Option.some.inj (h1.symm.trans hi)
    have := nil_of_trod he hcell
    exact ⟨by rw [hget, this]; rfl, trivial, rfl⟩
  · obtain rfl := Option.some.inj (h1.symm.trans hi)
    have := func_of_trod he h2 hcell
    exact ⟨by rw [hget, this]; rfl, ⟨fun l e => (by cases e), trivial, trivial⟩, rfl⟩
theorem one_of {n : Nat} {l : List AV} {cs : Array Value} (hl : l.length = n) (h : cs.size = n ∧ ∀ (i : Nat) (a : AV), l[i]? = some a → cs[i]? = some (conc I0 a) ∧ ok glim I0 a ∧ isCell a = true) : ∀ v ∈ cs.toList, v.oneCell' = true := fun v hv => by
  obtain ⟨i, hi⟩ := List.getElem?_of_mem hv
  have hi' : cs[i]? = some v := by simpa using hi
  have hin : i < l.length := by have := (Array.getElem?_eq_some_iff.1 hi').1; omega
  obtain ⟨h1, _, h3⟩ := h.2 i _ (List.getElem?_eq_getElem hin)
  rw [hi'] at h1
  rw [Option.some.inj h1]
  exact oneCell_of h3
def innerD : DataW Unit → DataW Unit
  | .iface _ d => d
  | d => d
def outs {H : Type} : DataW H → List (DataW H)
  | .agg l => l
  | _ => []
theorem start_of {w : World} (h : laidMetH Tryz.prog laidL w) (hs : w.ShapedOpen Tryz.prog) : StartOk s0 w ∧ glim ≤ w.heap.size := by
  have hf0 : funcsAt Tryz.prog w "ferryman/replay.steps" (innerD Rows.laid_ferryman_replay_steps) := h.funcs (List.mem_cons_of_mem _ (List.mem_singleton.2 rfl))
  have hf1 : funcsAt Tryz.prog w "ferryman/model.does" (innerD Rows.laid_ferryman_model_does) := h.funcs (List.mem_cons.2 (.inl rfl))
  obtain ⟨⟨z0, t0⟩, h0⟩ := Option.isSome_iff_exists.1 (show (((begin Tryz.prog (fun _ _ => 0) default).world.heap[0]?).bind Obj.row?).isSome = true by kernel_rfl)
  have e0 : t0 = 134 := by
    have := (show (((begin Tryz.prog (fun _ _ => 0) default).world.heap[0]?).bind Obj.row?).map (·.2) = some 134 by kernel_rfl)
    rw [h0] at this
    exact Option.some.inj this
  subst e0
  obtain ⟨⟨z1, t1⟩, h1⟩ := Option.isSome_iff_exists.1 (show (((begin Tryz.prog (fun _ _ => 0) default).world.heap[1]?).bind Obj.row?).isSome = true by kernel_rfl)
  have e1 : t1 = 172 := by
    have := (show (((begin Tryz.prog (fun _ _ => 0) default).world.heap[1]?).bind Obj.row?).map (·.2) = some 172 by kernel_rfl)
    rw [h1] at this
    exact Option.some.inj this
  subst e1
  obtain ⟨⟨z2, t2⟩, h2⟩ := Option.isSome_iff_exists.1 (show (((begin Tryz.prog (fun _ _ => 0) default).world.heap[2]?).bind Obj.row?).isSome = true by kernel_rfl)
  have e2 : t2 = 3 ∧ z2.size = 1 := by
    have := (show (((begin Tryz.prog (fun _ _ => 0) default).world.heap[2]?).bind Obj.row?).map (fun x => (x.2, x.1.size)) = some (3, 1) by kernel_rfl)
    rw [h2] at this
    simpa using this
  obtain ⟨rfl, hz2⟩ := e2
  obtain ⟨c0, b0, _, _⟩ := hs.1 0 z0 134 (of_decide_eq_true (by kernel_rfl)) h0
  obtain ⟨c1, b1, _, _⟩ := hs.1 1 z1 172 (of_decide_eq_true (by kernel_rfl)) h1
  obtain ⟨c2, b2, s2, _⟩ := hs.1 2 z2 3 (of_decide_eq_true (by kernel_rfl)) h2
  obtain ⟨m, hm⟩ := cell_of_shapedOpen_int (g := 2) hs (of_decide_eq_true (by kernel_rfl)) h2 hz2 (by kernel_rfl) (by kernel_rfl) Tryz.underlying3
  have k0 := table_of (l := stepsL) (ds := outs (innerD Rows.laid_ferryman_replay_steps).funcsOut) gSteps tSteps Tryz.underlying134 Tryz.underlying133 cells133 cells134 rfl (by kernel_rfl) (by kernel_rfl) hf0 b0
  have k1 := table_of (l := doesL) (ds := outs (innerD Rows.laid_ferryman_model_does).funcsOut) gDoes tDoes Tryz.underlying172 Tryz.underlying171 cells171 cells172 rfl (by kernel_rfl) (by kernel_rfl) hf1 b1
  have hlt : 2 < w.heap.size := (Array.getElem?_eq_some_iff.1 b2).1
  refine ⟨⟨rfl, rfl, fun g o ho => ?_⟩, hlt⟩
  rcases has_three ho with ⟨rfl, rfl⟩ | ⟨rfl, rfl⟩ | ⟨rfl, rfl⟩
  · exact ⟨by decide, _, _, _, c0, rfl, b0, cellsRel_rowL k0.2, Nat.le_of_eq k0.1.symm, one_of (l := stepsL) rfl k0⟩
  · exact ⟨by decide, _, _, _, c1, rfl, b1, cellsRel_rowL k1.2, Nat.le_of_eq k1.1.symm, one_of (l := doesL) rfl k1⟩
  · refine ⟨by decide, _, _, _, c2, rfl, b2, fun i a hi => (has_lf hi).elim, Nat.zero_le _, fun v hv => ?_⟩
    obtain ⟨i, hi⟩ := List.getElem?_of_mem hv
    have hi' : c2[i]? = some v := by simpa using hi
    have hin : i = 0 := by have := (Array.getElem?_eq_some_iff.1 hi').1; omega
    subst hin
    have hc : w.cell? ⟨2, 0, none⟩ = c2[0]? := by simp [World.cell?, b2]
    rw [hc, hi'] at hm
    rw [Option.some.inj hm]
    rfl

/-! ### the rows of the model's own -/
theorem ext_only : ((List.range Tryz.prog.funcs.size).all fun fi => !(Nat.beq (extB Tryz.prog fi) 1) || Nat.beq fi 104) = true := by kernel_rfl
theorem ext_ok (mg : FuncId → Nat) : ExtOk ⟨Tryz.prog, mg⟩ := by
  intro fi fn hfn hx
  have hlt := (Array.getElem?_eq_some_iff.1 hfn).1
  have h1 := List.all_eq_true.1 ext_only fi (List.mem_range.2 hlt)
  have hx : extB Tryz.prog fi = 1 := hx
  rw [hx] at h1
  have h2 : fi = 104 := Nat.eq_of_beq_eq_true (by simpa using h1)
  subst h2
  obtain rfl : fn = Tryz.f104 := (Option.some.inj (Tryz.func104.symm.trans hfn)).symm
  exact ⟨by kernel_rfl, by kernel_rfl, by kernel_rfl, by kernel_rfl⟩
theorem mixed : Tryz.prog.follows .mixedOrders = true := by kernel_rfl
theorem ext8 : extB Tryz.prog 8 = 0 := by kernel_rfl
theorem ext3 : extB Tryz.prog 3 = 0 := by kernel_rfl

/-- awake comes to true. -/
theorem awake_calls {w : World} (hs : StartOk s0 w) (hsize : glim ≤ w.heap.size) : Calls Tryz.prog 8 #[] w (TrueRet w) :=
  run_calls (C := cfA) mixed (ext_ok _) (W0 := w) (fun fi h => by
    have : cfA.mg fi = 0 ∨ cfA.mg fi = 1 := by
      show Bool.rec 0 1 _ = 0 ∨ Bool.rec 0 1 _ = 1
      cases Nat.beq fi 62
      · exact .inl rfl
      · exact .inr rfl
    omega) ext8 rfl awake_true hs (fun b hb => rfl) hsize
/-- AxiomsNames comes to true. -/
theorem names_calls {w : World} (hs : StartOk s0 w) (hsize : glim ≤ w.heap.size) : Calls Tryz.prog 3 #[] w (TrueRet w) :=
  run_calls (C := cfN) mixed (ext_ok _) (W0 := w) (fun fi h w' hw' => by
    have hfi : fi = 8 := by
      cases h1 : Nat.beq fi 62 with
      | true =>
        have : cfN.mg fi = 1 := by show Bool.rec _ 1 (Nat.beq fi _) = 1; rw [h1]
        omega
      | false =>
        cases h2 : Nat.beq fi 8 with
        | true => exact Nat.eq_of_beq_eq_true h2
        | false =>
          have : cfN.mg fi = 0 := by show Bool.rec (Bool.rec 0 2 (Nat.beq fi _)) 1 (Nat.beq fi _) = 0; rw [h1, h2]
          omega
    subst hfi
    refine awake_calls (hs.of_blocks hw') ?_
    have h2 := hw' 2 (by decide)
    have hlt : 2 < w.heap.size := hsize
    rw [Array.getElem?_eq_getElem hlt] at h2
    exact (Array.getElem?_eq_some_iff.1 h2).1) ext3 rfl names_true hs (fun b hb => rfl) hsize
end Go.Proofs.YtlmjmkjgefjmbaaGreatDoor
