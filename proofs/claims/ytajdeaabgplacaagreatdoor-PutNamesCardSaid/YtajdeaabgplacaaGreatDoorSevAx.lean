/-
  PutNames comes to true, in every world whose listed variable is as the row says.
-/
import Derived.Test.YtajdeaabgplacaaGreatDoorSevOq
import Derived.Test.YtajdeaabgplacaaGreatDoorSevE1
import Derived.Test.YtajdeaabgplacaaGreatDoorSevJn
import Derived.Test.YtajdeaabgplacaaGreatDoorTie
import Derived.Test.YtajdeaabgplacaaGreatDoorCards
import Derived.ProofKit
import Derived.OpenShut
import Derived.Lay
import Derived.Lib.LaidU8
import Derived.LaidMore
import Derived.LaidLaws
import Derived.HandedShaped
import Derived.Shelf.Vars
import Derived.Stop.Joined
import Derived.SevenTiedAt
namespace Go.Proofs.YtajdeaabgplacaaGreatDoor
open Go.ChangeShapes Go.WideShapes Go.ChangeAt Go.RowKit Go.Proofs.YtajdeaabgplacaaGreatDoor.Sev
set_option linter.unusedVariables false

/-- What the rows of this seat list. -/
def laidL : List (String × DataW Unit) := [("ferryman/status.before", Rows.laid_ferryman_status_before)]
theorem gBefore : Tryz.prog.globalNamed "ferryman/status.before" = some 1 := by kernel_rfl
theorem tBefore : (Tryz.prog.globals[1]?).map (·.type) = some 398 := by kernel_rfl
theorem cBefore : Tryz.prog.cellsOf 398 = 5 := by kernel_rfl
theorem cU8 : Tryz.prog.cellsOf 5 = 1 := by kernel_rfl

theorem int_of_trod {P : Program} {w : World} {base : Nat} {sp : Nat → Bool} {held : Bool} {fuel : Nat} {t : TypeId} {k k' : IntKind} {n : Int} {v : Value} {q : List MemPlace} {H : Type} {enc : TypeId × Value → H}
    (ht : P.underlying t = some (.int k)) (h : DataW.trod enc P w base sp held fuel t [v] = some (.lit (.int k' n), q)) : v = .int k' n := by
  cases fuel with
  | zero => simp [DataW.trod] at h
  | succ m =>
    cases v <;> simp [DataW.trod, ht] at h
    obtain ⟨⟨rfl, _⟩, ⟨rfl, rfl⟩, _⟩ := h
    rfl
/-- A table of integers, as a row of the evaluator's values. -/
def intsB {H : Type} : List (DataW H) → List AV → Bool
  | [], [] => true
  | .lit (.int k n) :: ds, .int j m :: l => (k == j && n == m) && intsB ds l
  | _, _ => false
theorem intsB_spec {H : Type} : ∀ {ds : List (DataW H)} {l : List AV}, intsB ds l = true → ∀ (i : Nat) (x : DataW H), ds[i]? = some x → ∃ k n, x = .lit (.int k n) ∧ l[i]? = some (.int k n) := by
  intro ds
  induction ds with
  | nil => intro l h i x hx; simp at hx
  | cons d ds ih =>
    intro l h i x hx
    unfold intsB at h
    split at h
    · rename_i e; cases e
    · rename_i k n ds' j m l' e
      cases e
      rw [Bool.and_eq_true, Bool.and_eq_true] at h
      obtain ⟨⟨h1, h2⟩, h3⟩ := h
      obtain rfl := eq_of_beq h1
      obtain rfl := eq_of_beq h2
      cases i with
      | zero =>
        simp at hx
        subst hx
        exact ⟨k, n, rfl, rfl⟩
      | succ i => exact ih h3 i x (by simpa using hx)
    · cases h
/-- Of an array of integers each cell. -/
theorem ints_of {n g t e : Nat} {nm : String} {H : Type} {enc : TypeId × Value → H} {l : List AV} {k : IntKind} {ds : List (DataW H)} {w : World} {base : Nat} {sp : Nat → Bool} {held : Bool} {fuel : Nat} {p : List MemPlace} {cs : Array Value} (hu : Tryz.prog.underlying t = some (.array n e))
    (he : Tryz.prog.underlying e = some (.int k)) (hc : Tryz.prog.cellsOf e = 1) (hct : Tryz.prog.cellsOf t = n) (hl : l.length = n) (hB : intsB ds l = true)
    (hd : DataW.trod enc Tryz.prog w base sp held fuel t cs.toList = some (.agg ds, p)) : cs.size = n ∧ ∀ (i : Nat) (a : AV), l[i]? = some a → cs[i]? = some (conc I0 a) ∧ ok glim I0 a ∧ isCell a = true := by
  obtain ⟨xs, m, _, hx, hcl, hxl, hel⟩ := DataW.trod_array hu hd
  simp only [Prod.mk.injEq, DataW.agg.injEq] at hx
  have hsz : cs.size = n := by rw [← hct, ← hcl]; simp
  refine ⟨hsz, fun i a hi => ?_⟩
  have hin : i < n := by rw [← hl]; exact (List.getElem?_eq_some_iff.1 hi).1
  have hlt : i < cs.size := by omega
  have hcell := hel i hin
  rw [hc, Nat.mul_one] at hcell
  have hone : (cs.toList.drop i).take 1 = [cs[i]] := by
    rw [List.drop_eq_getElem_cons (by simpa using hlt)]; simp
  rw [hone] at hcell
  have hxi : xs[i]? = some (xs[i]'(by omega)) := List.getElem?_eq_getElem (by omega)
  rw [hxi] at hcell
  generalize xs[i]'(by omega) = y at hcell hxi
  obtain ⟨y1, y2⟩ := y
  have hdi : ds[i]? = some y1 := by rw [hx.1, List.getElem?_map, hxi]; rfl
  have hget : cs[i]? = some cs[i] := by simp [hlt]
  obtain ⟨j, m, rfl, h1⟩ := intsB_spec hB i y1 hdi
  obtain rfl := Option.some.inj (h1.symm.trans hi)
  have := int_of_trod he hcell
  exact ⟨by rw [hget, this]; rfl, trivial, rfl⟩
theorem one_of {n : Nat} {l : List AV} {cs : Array Value} (hl : l.length = n) (h : cs.size = n ∧ ∀ (i : Nat) (a : AV), l[i]? = some a → cs[i]? = some (conc I0 a) ∧ ok glim I0 a ∧ isCell a = true) : ∀ v ∈ cs.toList, v.oneCell' = true := fun v hv => by
  obtain ⟨i, hi⟩ := List.getElem?_of_mem hv
  have hi' : cs[i]? = some v := by simpa using hi
  have hin : i < l.length := by have := (Array.getElem?_eq_some_iff.1 hi').1; omega
  obtain ⟨h1, _, h3⟩ := h.2 i _ (List.getElem?_eq_getElem hin)
  rw [hi'] at h1
  rw [Option.some.inj h1]
  exact oneCell_of h3
def outs {H : Type} : DataW H → List (DataW H)
  | .agg l => l
  | _ => []
theorem start_of {w : World} (h : laidMetH Tryz.prog laidL w) (hs : w.ShapedOpen Tryz.prog) : StartOk s0 w ∧ glim ≤ w.heap.size := by
  rw [MakeChecks.laidMetH_plain _ _ _ (by kernel_rfl)] at h
  have hr : Lib.VarReads Tryz.prog w "ferryman/status.before" Rows.laid_ferryman_status_before := Lib.laidMet.reads h (by simp [laidL])
  obtain ⟨g, t, cs, fuel, p, hg, ht, hv, hd⟩ := hr
  obtain rfl := Option.some.inj (gBefore.symm.trans hg)
  obtain rfl := Option.some.inj (tBefore.symm.trans ht)
  obtain ⟨⟨z1, t1⟩, h1⟩ := Option.isSome_iff_exists.1 (show (((begin Tryz.prog (fun _ _ => 0) default).world.heap[1]?).bind Obj.row?).isSome = true by kernel_rfl)
  have e1 : t1 = 398 := by
    have := (show (((begin Tryz.prog (fun _ _ => 0) default).world.heap[1]?).bind Obj.row?).map (·.2) = some 398 by kernel_rfl)
    rw [h1] at this
    exact Option.some.inj this
  subst e1
  obtain ⟨⟨z2, t2⟩, h2⟩ := Option.isSome_iff_exists.1 (show (((begin Tryz.prog (fun _ _ => 0) default).world.heap[0]?).bind Obj.row?).isSome = true by kernel_rfl)
  have e2 : t2 = 3 ∧ z2.size = 1 := by
    have := (show (((begin Tryz.prog (fun _ _ => 0) default).world.heap[0]?).bind Obj.row?).map (fun x => (x.2, x.1.size)) = some (3, 1) by kernel_rfl)
    rw [h2] at this
    simpa using this
  obtain ⟨rfl, hz2⟩ := e2
  obtain ⟨c1, b1, _, _⟩ := hs.1 1 z1 398 (of_decide_eq_true (by kernel_rfl)) h1
  obtain ⟨c2, b2, s2, _⟩ := hs.1 0 z2 3 (of_decide_eq_true (by kernel_rfl)) h2
  obtain ⟨m, hm⟩ := cell_of_shapedOpen_int (g := 0) hs (of_decide_eq_true (by kernel_rfl)) h2 hz2 (by kernel_rfl) (by kernel_rfl) Tryz.underlying3
  have hcs : cs = c1 := by
    simp only [World.var?, gBefore, Option.bind_some, b1] at hv
    exact (Option.some.inj hv).symm
  subst hcs
  have k1 := ints_of (l := beforeL) (g := 1) (nm := "") Tryz.underlying398 Tryz.underlying5 cU8 cBefore rfl (by kernel_rfl) hd
  have hlt : 1 < w.heap.size := (Array.getElem?_eq_some_iff.1 b1).1
  refine ⟨⟨rfl, rfl, fun g o ho => ?_⟩, hlt⟩
  rcases has_two ho with ⟨rfl, rfl⟩ | ⟨rfl, rfl⟩
  · refine ⟨by decide, _, _, _, c2, rfl, b2, fun i a hi => (has_lf hi).elim, Nat.zero_le _, fun v hv => ?_⟩
    obtain ⟨i, hi⟩ := List.getElem?_of_mem hv
    have hi' : c2[i]? = some v := by simpa using hi
    have hin : i = 0 := by have := (Array.getElem?_eq_some_iff.1 hi').1; omega
    subst hin
    have hc : w.cell? ⟨0, 0, none⟩ = c2[0]? := by simp [World.cell?, b2]
    rw [hc, hi'] at hm
    rw [Option.some.inj hm]
    rfl
  · exact ⟨by decide, _, _, _, cs, rfl, b1, cellsRel_rowL k1.2, Nat.le_of_eq k1.1.symm, one_of (l := beforeL) rfl k1⟩

/-! ### the rows of the model's own -/
theorem ext_only : ((List.range Tryz.prog.funcs.size).all fun fi => !(Nat.beq (extB Tryz.prog fi) 1) || Nat.beq fi 202) = true := by kernel_rfl
theorem ext_ok (mg : FuncId → Nat) : ExtOk ⟨Tryz.prog, mg⟩ := by
  intro fi fn hfn hx
  have hlt := (Array.getElem?_eq_some_iff.1 hfn).1
  have h1 := List.all_eq_true.1 ext_only fi (List.mem_range.2 hlt)
  have hx : extB Tryz.prog fi = 1 := hx
  rw [hx] at h1
  have h2 : fi = 202 := Nat.eq_of_beq_eq_true (by simpa using h1)
  subst h2
  obtain rfl : fn = Tryz.f202 := (Option.some.inj (Tryz.func202.symm.trans hfn)).symm
  exact ⟨by kernel_rfl, by kernel_rfl, by kernel_rfl, by kernel_rfl⟩
theorem mixed : Tryz.prog.follows .mixedOrders = true := by kernel_rfl
theorem ext8 : extB Tryz.prog 6 = 0 := by kernel_rfl
theorem ext3 : extB Tryz.prog 3 = 0 := by kernel_rfl

/-- awake comes to true. -/
theorem awake_calls {w : World} (hs : StartOk s0 w) (hsize : glim ≤ w.heap.size) : Calls Tryz.prog 6 #[] w (TrueRet w) :=
  run_calls (C := cfA) mixed (ext_ok _) (W0 := w) (fun fi h => by
    have : cfA.mg fi = 0 ∨ cfA.mg fi = 1 := by
      show Bool.rec 0 1 _ = 0 ∨ Bool.rec 0 1 _ = 1
      cases Nat.beq fi 198
      · exact .inl rfl
      · exact .inr rfl
    omega) ext8 rfl awake_true hs (fun b hb => rfl) hsize
/-- PutNames comes to true. -/
theorem names_calls {w : World} (hs : StartOk s0 w) (hsize : glim ≤ w.heap.size) : Calls Tryz.prog 3 #[] w (TrueRet w) := by
  obtain ⟨l, hl, hall⟩ := chkT_spec part_z
  refine cut_callsS (C := cfN) mixed (ext_ok _) (W0 := w) (fun fi h w' hw' => ?_) (fn := Tryz.f3) (body := B0) Tryz.func3 cut_body (cut_parts hl) hall hs (fun b hb => rfl) hsize
  ·
    have hfi : fi = 6 := by
      cases h1 : Nat.beq fi 198 with
      | true =>
        have : cfN.mg fi = 1 := by show Bool.rec _ 1 (Nat.beq fi _) = 1; rw [h1]
        omega
      | false =>
        cases h2 : Nat.beq fi 6 with
        | true => exact Nat.eq_of_beq_eq_true h2
        | false =>
          have : cfN.mg fi = 0 := by show Bool.rec (Bool.rec 0 2 (Nat.beq fi _)) 1 (Nat.beq fi _) = 0; rw [h1, h2]
          omega
    subst hfi
    refine awake_calls (hs.of_blocks hw') ?_
    have h2 := hw' 1 (by decide)
    have hlt : 1 < w.heap.size := hsize
    rw [Array.getElem?_eq_getElem hlt] at h2
    exact (Array.getElem?_eq_some_iff.1 h2).1
end Go.Proofs.YtajdeaabgplacaaGreatDoor
