/-
  Sev: calls, whose ways are merged or not; rows of the model's own.
  Sev: rounds of a range over a function.
  Sev: what waits, and ranges over functions.
  Sev: what the evaluator says of a call is what the machine does.
  Sev: a run is cut: a state that knows less stands for one that knows more.
  Sev: a call whose run is cut into several.
  Sev: parts of a run, from a stack to a stack.
-/
import Derived.Test.YtajdeaabgplacaaGreatDoorSevOm
import Derived.Below
import Derived.Lib.Bytealg
import Derived.Laws.Externs
namespace Go.Proofs.YtajdeaabgplacaaGreatDoor.Sev
open Go Go.RowKit
set_option linter.unusedVariables false
variable {L : List (AV × St)}
section
variable {P : Program} {X : Nat → Prop} {W : World}
/-- What was there is there, as it was. -/
theorem sim_frame {I : Itp} {s : St} {w w' : World} (h : SimS P X W I s w) (hos : w'.os = w.os) (htape : w'.tape = w.tape) (hout : w'.output = w.output) (hsize : w.heap.size ≤ w'.heap.size)
    (hheap : ∀ b, b < w.heap.size → w'.heap[b]? = w.heap[b]?) : SimS P X W I s w' := by
  have hblk : ∀ b q, Has s.h b q → holds q = true → I.blk b < w.heap.size := fun b q hb hq => holds_block (h.obj b q hb) hq
  exact { os := hos.trans h.os, tape := htape.trans h.tape, out := hout.trans h.out, size := Nat.le_trans h.size hsize, glob := h.glob,
          keep := fun b hb => ⟨Nat.lt_of_lt_of_le (h.keep b hb).1 hsize, (hheap b (h.keep b hb).1).trans (h.keep b hb).2⟩, uniq := h.uniq, low := h.low,
          obj := fun b o hb => objRel_keep (h.obj b o hb) (Agree.refl _ _) (Nat.le_refl _) (h.low b o hb) (fun hh => hheap _ (hblk b o hb hh))
            (fun c es v hc _ hm => ⟨es, hm, fun ces clock hh => ⟨ces, by rw [hheap _ (hblk c _ hm rfl)]; exact hh, fun e he => ⟨e, he, rfl, rfl⟩⟩⟩),
          apart := h.apart, away := h.away }
/-- Below, nothing may be written. -/
theorem sim_floor {I : Itp} {h : HT} {nx fl : Nat} {w : World} (hS : SimS P X W I ⟨h, nx, fl⟩ w) : SimS P (fun b => b < w.heap.size) w I ⟨h, nx, nx⟩ w :=
  { os := rfl, tape := rfl, out := rfl, size := Nat.le_refl _, glob := hS.glob, keep := fun b hb => ⟨hb, rfl⟩, uniq := hS.uniq, low := hS.low, obj := hS.obj, apart := hS.apart,
    away := fun b o hb ho hf => by have := hS.low b o hb; exact fun _ => absurd this (Nat.not_lt.2 hf) }
end

/-! ### outcomes, alike -/
/-- An outcome: a row of plain values, of its own. -/
def RowAt (n : Nat) (e : AV × St) (t : TypeId) (l : List AV) : Prop :=
  ∃ b c k el, e.1 = .slo b 0 l.length 0 ∧ n ≤ b ∧ Has e.2.h b (.cells c k t true false el false) ∧ (∀ j v, l[j]? = some v → Has c j v) ∧ plainCells l = true
theorem le_rowOf {n : Nat} {e : AV × St} {K : TypeId → List AV → Ans} (h : Le L (rowOf n e K)) : ∃ t l, RowAt n e t l ∧ Le L (K t l) := by
  unfold rowOf at h
  split at h
  · rename_i b m hv
    obtain ⟨hb, h1⟩ := le_ifN h
    obtain ⟨o, ho, h2⟩ := le_objK h1
    split at h2
    · rename_i c k t el
      obtain ⟨o', ho', h3⟩ := le_objK (k := fun o => asCells o fun c _ _ _ _ _ _ => natK 0 fun off => readN c m off fun l => ifK (plainCells l) (K t l) (.no "merge: not plain" b)) h2
      obtain rfl := ho.uniq ho'
      obtain ⟨c', m', t', op', st', el', fz', heq, h4⟩ := le_asCells h3
      cases heq
      obtain ⟨l, hl, hj, h5⟩ := le_readN (le_natK (k := fun off => readN c m off fun l => ifK (plainCells l) (K t l) (.no "merge: not plain" b)) h4)
      obtain ⟨hp, h6⟩ := le_ifN h5
      exact ⟨t, l, ⟨b, c, k, el, by rw [hl]; exact hv, Nat.le_of_ble_eq_true hb, ho, fun j v hv => by have := hj j v hv; rwa [Nat.zero_add] at this, hp⟩, h6⟩
    · exact h2.no.elim
  · exact h.no.elim
theorem le_allRows {n : Nat} {t : TypeId} {l0 : List AV} {K : Ans} : ∀ {es : List (AV × St)}, Le L (allRows n t l0 es K) → (∀ e ∈ es, RowAt n e t l0) ∧ Le L K
  | [], h => ⟨fun e he => (by cases he), h⟩
  | e :: es, h => by
    obtain ⟨u, l, hr, h1⟩ := le_rowOf (K := fun u l => ifK (Nat.beq t u && cellsSame l0 l) (allRows n t l0 es K) (.no "merge: unlike" 0)) h
    obtain ⟨hb, h2⟩ := le_ifN h1
    rw [Bool.and_eq_true] at hb
    obtain rfl := Nat.eq_of_beq_eq_true hb.1
    obtain rfl := cellsSame_eq hb.2
    obtain ⟨h3, h4⟩ := le_allRows h2
    refine ⟨fun x hx => ?_, h4⟩
    rcases List.mem_cons.1 hx with rfl | hx
    · exact hr
    · exact h3 x hx
theorem isNil_eq {v : AV} (h : isNil v = true) : v = .nilsl := by cases v <;> simp_all [isNil]
theorem le_allNil {K : Ans} : ∀ {es : List (AV × St)}, Le L (allNil es K) → (∀ e ∈ es, e.1 = .nilsl) ∧ Le L K
  | [], h => ⟨fun e he => (by cases he), h⟩
  | e :: es, h => by
    obtain ⟨hb, h2⟩ := le_ifN (x := allNil es K) h
    obtain ⟨h3, h4⟩ := le_allNil h2
    refine ⟨fun x hx => ?_, h4⟩
    rcases List.mem_cons.1 hx with rfl | hx
    · exact isNil_eq hb
    · exact h3 x hx
theorem plain_cells : ∀ {l : List AV}, plainCells l = true → ∀ v ∈ l, (∃ k n, v = .int k n) ∨ ∃ s, v = .str s
  | [], _, v, hv => by cases hv
  | x :: l, h, v, hv => by
    have h2 : ((∃ k n, x = .int k n) ∨ ∃ s, x = .str s) ∧ plainCells l = true := by
      cases x <;> first | exact ⟨.inl ⟨_, _, rfl⟩, h⟩ | exact ⟨.inr ⟨_, rfl⟩, h⟩ | cases h
    rcases List.mem_cons.1 hv with rfl | hv
    · exact h2.1
    · exact plain_cells h2.2 v hv

section
variable {W0 : World} {D : Nat → Itp → List DI → List Deferred → Prop} {C : Cf} {rec : Rec} {Gd : Machine → Prop} {X : Nat → Prop} {W : World}
variable (C Gd W0) in
/-- What is told elsewhere: these functions, of no arguments, come to true, and leave what was there. -/
def SumOk : Prop := ∀ fi, 2 ≤ C.mg fi → ∀ (c : Frame) (cs : List Frame) (w : World), (∀ b, b < glim → w.heap[b]? = W0.heap[b]?) → (∀ w', Below w.heap.size w w' → Gd (lone (c.finish (.bool true)) cs w')) →
  Gd (lone (Frame.enter C.P fi #[] .normal) (c :: cs) w)
/-- A function of the program, called. -/
theorem call_ok (hG : ∀ m m', step C.P m = .next m' → Gd m' → Gd m) (hD : Mono D) (hD0 : ∀ n I, D n I [] []) (hsum : SumOk W0 C Gd) (hg : GX W0 X W) (hdfr : ∀ L X W, GX W0 X W → DfrOk L D C rec Gd X W) (hrec : ∀ L X W b cs, GX W0 X W → b.kind = .normal → ∀ c, CodeOk D C Gd L X W b cs (rec c) c)
    {fi : FuncId} {args : List AV} {s : St} {I : Itp} {w : World} {k : AV → St → Ans} {c : Frame} {cs : List Frame} (hx : extB C.P fi = 0) (h : Le L (callK C rec fi args s k)) (hS : SimS C.P X W I s w) (hok : okL s.nx I args)
    (hk : ∀ v s' I' w', Ext s I s' I' → SimS C.P X W I' s' w' → ok s'.nx I' v → Le L (k v s') → Gd (lone (c.finish (conc I' v)) cs w')) :
    Gd (lone (Frame.enter C.P fi (concL I args).toArray .normal) (c :: cs) w) := by
  unfold callK at h
  rw [hx] at h
  obtain ⟨fn, hfn, h1⟩ := le_optK h
  unfold callB at h1
  cases hm : C.mg fi with
  | zero =>
    rw [hm] at h1
    exact body_ok hG hD hD0 (hdfr L X W hg) (fun b cs => hrec L X W b cs hg) hfn h1 hS hok hk
  | succ m =>
    rw [hm] at h1
    cases m with
    | succ m =>
      cases args with
      | cons x y => exact (Le.no h1).elim
      | nil =>
        have hbelow : ∀ w', Below w.heap.size w w' → Gd (lone (c.finish (.bool true)) cs w') := fun w' hb =>
          hk (.bool true) s I w' (Ext.refl _ _) (sim_frame hS hb.os hb.tape hb.output hb.size hb.block) trivial h1
        exact hsum fi (by omega) c cs w (hg.now hS) hbelow
    | zero =>
      obtain ⟨hh, nx, fl⟩ := s
      have h1 := le_natK (k := fun n => Ans.rec (fun w m => .no w m) (fun outs => match outs with
              | [] => .no "merge: none" fi
              | e :: es => ifK (isNil e.1) (allNil es (k .nilsl ⟨hh, n, fl⟩))
                  (rowOf n e fun t l => allRows n t l es (rowK ⟨hh, n, fl⟩ t true false l fun b s' => lenK l fun q => k (.slo b 0 q 0) s')))
              (bodyK C.P rec fi fn args ⟨hh, n, n⟩ fun v s => .outs [(v, s)])) h1
      have hg' : GX W0 (fun b => b < w.heap.size) w := ⟨fun b hb => (hS.keep b (hg.x b hb)).1, hg.now hS⟩
      cases hA : bodyK C.P rec fi fn args ⟨hh, nx, nx⟩ fun v s => .outs [(v, s)] with
      | no why n => rw [hA] at h1; exact (Le.no h1).elim
      | outs outs =>
        rw [hA] at h1
        have hle : Le outs (bodyK C.P rec fi fn args ⟨hh, nx, nx⟩ fun v s => .outs [(v, s)]) := ⟨outs, hA, fun x hx => hx⟩
        -- what each outcome is good for
        have fin : (∀ v s' I' w', (v, s') ∈ outs → s'.fl = nx → SimS C.P (fun b => b < w.heap.size) w I' s' w' → ok s'.nx I' v → Gd (lone (c.finish (conc I' v)) cs w')) → Gd (lone (Frame.enter C.P fi (concL I args).toArray .normal) (c :: cs) w) := fun hfin =>
          body_ok hG hD hD0 (hdfr outs _ w hg') (fun b cs => hrec outs _ w b cs hg') hfn hle (sim_floor hS) hok fun v s' I' w' he hS' hv hl => by
            obtain ⟨l, hl1, hl2⟩ := hl
            cases hl1
            exact hfin v s' I' w' (hl2 _ (List.mem_cons_self ..)) he.2.2 hS' hv
        cases outs with
        | nil => exact (Le.no h1).elim
        | cons e es =>
          rcases le_ifK h1 with ⟨hn, h2⟩ | ⟨_, h2⟩
          · obtain ⟨h3, h4⟩ := le_allNil h2
            refine fin fun v s' I' w' hmem hflo hS' hv => ?_
            obtain rfl : v = .nilsl := by
              rcases List.mem_cons.1 hmem with e' | hm
              · have := isNil_eq hn; rw [← e'] at this; exact this
              · exact h3 _ hm
            have := hk .nilsl ⟨hh, nx, fl⟩ I w' (Ext.refl _ _) (sim_frame hS hS'.os hS'.tape hS'.out hS'.size (fun b hb => (hS'.keep b hb).2)) trivial h4
            exact this
          · obtain ⟨t, l, h3, h4⟩ := le_rowOf h2
            obtain ⟨h5, h6⟩ := le_allRows h4
            obtain ⟨c0, hov, h7⟩ := le_rowK' h6
            obtain ⟨h', hu, h8⟩ := le_newK h7
            have h9 := le_lenK h8
            refine fin fun v s' I' w' hmem hflo hS' hv => ?_
            have hrow : RowAt nx (v, s') t l := by
              rcases List.mem_cons.1 hmem with e' | hm
              · rw [e']; exact h3
              · exact h5 _ hm
            obtain ⟨b, cc, kk, el, hve, hb, hob, hcells, hplain⟩ := hrow
            have hve : v = .slo b 0 l.length 0 := hve
            subst hve
            obtain ⟨ces, lo, hi, o1, o2, o3, o4, o5, o6, o7⟩ := hS'.obj b _ hob
            have hnew : w.heap.size ≤ I'.blk b := Nat.le_of_not_lt (hS'.away b _ hob rfl (by rw [hflo]; exact hb))
            have hlk : l.length ≤ kk := by
              cases hl : l.length with
              | zero => exact Nat.zero_le _
              | succ n =>
                have hlt : n < l.length := by omega
                exact (o2 n _ (hcells n l[n] (List.getElem?_eq_getElem hlt))).1
            have hkeep : ∀ a ∈ l, ∀ (n : Nat) (J : Itp), conc J a = conc I' a ∧ ok n J a := fun a ha n J => by
              rcases plain_cells hplain a ha with ⟨_, _, rfl⟩ | ⟨_, rfl⟩
              · exact ⟨rfl, trivial⟩
              · exact ⟨rfl, trivial⟩
            have hsim : SimS C.P X W (I.set nx (I'.blk b) (I'.base b) (I'.cap b) #[]) ⟨h', nx + 1, fl⟩ w' := by
              refine Sim.new hS (hupd_of hu) (I.set_agree _ _ _ _ _) hS'.os hS'.tape hS'.out hS'.size (fun b hb => (hS'.keep b hb).2) ?_ (fun _ => by rw [Itp.set_blk]; exact hnew)
              refine ⟨ces, lo, hi, by rw [Itp.set_blk]; exact o1, fun i a hi => ?_, o3, o4, fun _ => ?_, ?_, o7⟩
              · rcases hov i a hi with ⟨_, h2, h3⟩ | ⟨_, h3⟩
                · rw [Nat.sub_zero] at h3
                  obtain ⟨j1, j2, j3, j4⟩ := o2 i a (hcells i a h3)
                  obtain ⟨m1, m2⟩ := hkeep a (List.mem_of_getElem? h3) (nx + 1) (I.set nx (I'.blk b) (I'.base b) (I'.cap b) #[])
                  have h2' : i < l.length := by omega
                  exact ⟨h2', by rw [Itp.set_base, m1]; exact j2, m2, j4⟩
                · exact (has_lf h3).elim
              · rw [Itp.set_base, Itp.set_cap]; exact o5 rfl
              · rw [Itp.set_base]; show I'.base b + l.length ≤ _; omega
            have := hk (.slo nx 0 l.length 0) ⟨h', nx + 1, fl⟩ (I.set nx (I'.blk b) (I'.base b) (I'.cap b) #[]) w' ⟨I.set_agree _ _ _ _ _, Nat.le_succ _, rfl⟩ hsim ⟨Nat.lt_succ_self nx, by rw [Itp.set_cap]; exact hv.2⟩ h9
            have hconc : conc (I.set nx (I'.blk b) (I'.base b) (I'.cap b) #[]) (.slo nx 0 l.length 0) = conc I' (.slo b 0 l.length 0) := by simp [conc]
            rw [hconc] at this
            exact this
end
/-! ### rows of the model's own -/
/-- What stands for the rows of the model's own. -/
def ExtOk (C : Cf) : Prop := ∀ fi fn, C.P.funcs[fi]? = some fn → extB C.P fi = 1 → fn.body.isNone = true ∧ (fn.name == "runtime.NumGoroutine") = false ∧ Extern.findNext fn = none ∧ Extern.find fn = some Extern.BytealgCompare.compare
theorem extB_one {P : Program} {fi : FuncId} (h : extB P fi ≠ 0) : extB P fi = 1 ∨ extB P fi = 9 := by
  unfold extB at *
  split <;> rename_i hf
  · rw [hf] at h
    simp only at h
    split
    · exact .inr rfl
    · rename_i h1
      rw [if_neg h1] at h
      split
      · rename_i h2; rw [if_pos h2] at h; exact (h rfl).elim
      · rename_i h2
        split
        · exact .inl rfl
        · exact .inr rfl
  · exact .inr rfl
theorem cmpStr_spec (a b : List Nat) : Lib.compareBytes (a.map UInt8.ofNat) (b.map UInt8.ofNat) = cmpStr a b := by
  unfold cmpStr
  rw [strLess_spec, strLess_spec]
  have : ∀ x y : List UInt8, Lib.compareBytes x y = Bool.rec (Bool.rec (.ofNat 0) (.ofNat 1) (Op.bytesLess y x)) (.negSucc 0) (Op.bytesLess x y) := by
    intro x
    induction x with
    | nil => intro y; cases y <;> rfl
    | cons u x ih =>
      intro y
      cases y with
      | nil => rfl
      | cons v y =>
        unfold Lib.compareBytes Op.bytesLess
        by_cases h1 : u < v
        · simp [h1]
        · by_cases h2 : v < u
          · have : (u == v) = false := by
              cases he : u == v with
              | false => rfl
              | true => rw [eq_of_beq he] at h2; exact (UInt8.lt_irrefl _ h2).elim
            have h3 : (v == u) = false := by rw [Bool.beq_comm]; exact this
            simp [h1, h2, this]
          · have : u = v := UInt8.le_antisymm (UInt8.not_lt.1 h2) (UInt8.not_lt.1 h1)
            subst this
            simp [h1, ih y]
  exact this _ _
theorem run_cmp {C : Cf} (hE : ExtOk C) {fi : FuncId} {fn : Func} (hfn : C.P.funcs[fi]? = some fn) (hx : extB C.P fi = 1) (a b : List Nat) (I : Itp) (w : World) :
    (callFunc fi (concL I [.str a, .str b]).toArray).run C.P w = .ok (.value (conc I (.int .i64 (cmpStr a b)))) w := by
  obtain ⟨h1, h2, h3, h4⟩ := hE fi fn hfn hx
  rw [run_callFunc_extern hfn h2 h1 h3 h4]
  have := Lib.run_compareString (P := C.P) ⟨(a.map UInt8.ofNat).toArray⟩ ⟨(b.map UInt8.ofNat).toArray⟩ w
  simp only [concL, conc]
  rw [this, cmpStr_spec]
  rfl
end Go.Proofs.YtajdeaabgplacaaGreatDoor.Sev

namespace Go.Proofs.YtajdeaabgplacaaGreatDoor.Sev
open Go Go.RowKit
set_option linter.unusedVariables false
variable {L : List (AV × St)}
section
variable {P : Program} {X : Nat → Prop} {W : World}
theorem le_loopK {s : St} {b : Nat} {k : LoopState → FuncId → Tr AV → List Tmp → Code → Code → Option Code → Nat → Ans} (h : Le L (loopK s b k)) :
    ∃ st fn tm ps asg body pend d, Has s.h b (.loop st fn tm ps asg body pend d) ∧ Le L (k st fn tm ps asg body pend d) := by
  obtain ⟨o, ho, h1⟩ := le_objK h
  split at h1
  · exact ⟨_, _, _, _, _, _, _, _, ho, h1⟩
  · exact h1.no.elim
/-- A loop's object, and what it is behind a change. -/
theorem loop_put {I : Itp} {s : St} {w : World} {b : Nat} {st : LoopState} {fn : FuncId} {tm : Tr AV} {ps : List Tmp} {asg body : Code} {pend : Option Code} {d : Nat} (hS : SimS P X W I s w)
    (hb : Has s.h b (.loop st fn tm ps asg body pend d)) :
    ∃ tmps, w.heap[I.blk b]? = some (.loop { state := st, pending := pend, fn, tmps, params := ps.toArray, assign := asg, body, defers := I.blk d }) ∧ FrRel s.nx I tm tmps ∧ d < s.nx ∧
      (∀ st' pend' h', s.fl ≤ b → Upd b (.loop st' fn tm ps asg body pend' d) s.h h' → SimS P X W I ⟨h', s.nx, s.fl⟩ { w with heap := w.heap.setIfInBounds (I.blk b) (.loop { state := st', pending := pend', fn, tmps, params := ps.toArray, assign := asg, body, defers := I.blk d }) }) ∧
      (∀ r h', s.fl ≤ b → Upd b .dead s.h h' → SimS P X W I ⟨h', s.nx, s.fl⟩ { w with heap := w.heap.setIfInBounds (I.blk b) r }) := by
  obtain ⟨hd, tmps, h1, h2⟩ := hS.obj b _ hb
  have hlt := (Array.getElem?_eq_some_iff.1 h1).1
  refine ⟨tmps, h1, h2, hd, fun st' pend' h' hf hu => ?_, fun r h' hf hu => ?_⟩
  · exact Sim.put hS hb hf rfl rfl (hupd_of hu) (.inl rfl) rfl rfl rfl rfl rfl (by simp) (fun z hz => by simp [Ne.symm hz]) ⟨hd, tmps, by simp [hlt], h2⟩ (fun _ _ _ e => by cases e)
  · exact Sim.put hS hb hf rfl rfl (hupd_of hu) (.inl rfl) rfl rfl rfl rfl rfl (by simp) (fun z hz => by simp [Ne.symm hz]) trivial (fun _ _ _ e => by cases e)
theorem run_getLoop {w : World} {l : Nat} {r : Loop} (h : w.heap[l]? = some (.loop r)) : (Instr.getLoop l).run P w = .ok r w := by
  simp [Instr.getLoop, getObj, Sem.run, h, Bind.bind, Sem.bind, Pure.pure]
theorem run_setObj {w : World} {l : Nat} {r : Loop} {q : Obj} (h : w.heap[l]? = some (.loop r)) : (setObj l q).run P w = .ok () { w with heap := w.heap.setIfInBounds l q } := by
  simp [setObj, Sem.run, h]
theorem run_beginRound {w : World} {l : Nat} {r : Loop} (h : w.heap[l]? = some (.loop r)) (hr : r.state = .ready) : (Instr.beginRound l).run P w = .ok () { w with heap := w.heap.setIfInBounds l (.loop { r with state := .busy }) } := by
  simp [Instr.beginRound, run_getLoop h, run_setObj (P := P) h, hr]
theorem run_endRound {w : World} {l : Nat} {r : Loop} (h : w.heap[l]? = some (.loop r)) (j : Option Code) :
    (Instr.endRound l j).run P w = .ok (.bool j.isNone) { w with heap := w.heap.setIfInBounds l (.loop { r with state := if j.isNone then .ready else .done, pending := j }) } := by
  simp [Instr.endRound, run_getLoop h, run_setObj (P := P) h]
theorem run_yield {w : World} {l : Nat} {r : Loop} (h : w.heap[l]? = some (.loop r)) {args : Array Value} (hn : args.size = r.params.size) :
    (Instr.yield l args).run P w = .ok (.round l r.fn ((r.params.zip args).foldl (fun tmps (t, a) => tmps.setIfInBounds t a) r.tmps) r.assign r.body) w := by
  simp [Instr.yield, run_getLoop h, hn]
theorem frRel_put {n : Nat} {I : Itp} {tm tm' : Tr AV} {tmps : Array Value} {p : Tmp} {v o : AV} (h : FrRel n I tm tmps) (ho : Has tm p o) (hu : Upd p v tm tm') (hv : ok n I v) : FrRel n I tm' (tmps.setIfInBounds p (conc I v)) := fun t u ht => by
  have hin : p < tmps.size := getElem?_lt (h p o ho).1
  by_cases e : t = p
  · subst e
    obtain rfl := hu.1.uniq ht
    exact ⟨by simp [hin], hv⟩
  · obtain ⟨h1, h2⟩ := h t u ((hu.2 t u e).1 ht)
    exact ⟨by simp [Ne.symm e]; exact h1, h2⟩
theorem le_bindPs {n : Nat} {I : Itp} : ∀ {ps : List Tmp} {args : List AV} {tm : Tr AV} {tmps : Array Value} {k : Tr AV → Ans}, Le L (bindPs ps args tm k) → FrRel n I tm tmps → okL n I args →
    args.length = ps.length ∧ ∃ tm', FrRel n I tm' ((ps.zip (concL I args)).foldl (fun tmps (x : Tmp × Value) => tmps.setIfInBounds x.1 x.2) tmps) ∧ Le L (k tm')
  | [], [], tm, tmps, k, h, hF, hok => ⟨rfl, tm, hF, h⟩
  | [], _ :: _, tm, tmps, k, h, hF, hok => (Le.no h).elim
  | _ :: _, [], tm, tmps, k, h, hF, hok => (Le.no h).elim
  | p :: ps, v :: args, tm, tmps, k, h, hF, hok => by
    obtain ⟨tm1, o, ho, hu, h1⟩ := le_updK (k := fun tm' => bindPs ps args tm' k) h
    obtain ⟨h2, tm', h3, h4⟩ := le_bindPs h1 (frRel_put hF ho hu hok.1) hok.2
    exact ⟨by simp [h2], tm', h3, h4⟩
end
section
variable {W0 : World} {D : Nat → Itp → List DI → List Deferred → Prop} {C : Cf} {rec : Rec} {Gd : Machine → Prop} {X : Nat → Prop} {W : World}
theorem code_gd (hG : ∀ m m', step C.P m = .next m' → Gd m' → Gd m) {b : Frame} {cs : List Frame} {r : Fr → St → (Fr → St → Ans) → (Nat → Fr → St → Ans) → (Fr → St → Ans) → Ans} {c : Code} (hc : CodeOk D C Gd L X W b cs r c) {f : Fr} {s : St} {kn : Fr → St → Ans} {kx : Nat → Fr → St → Ans} {kr : Fr → St → Ans} {I : Itp} {w : World} {a : Act} {k0 : List Item}
    (h : Le L (r f s kn kx kr)) (hS : SimS C.P X W I s w) (hF : FR D b a f s.nx I) (h1 : Ends D C Gd L X W b cs kn k0 s I) (h2 : Exits D C Gd L X W b cs kx k0 s I) (h3 : Rets D C Gd L X W b cs kr s I) : Gd (lone (Fm b a (.code c :: k0)) cs w) := by
  obtain ⟨m', h4, h5⟩ := hc f s kn kx kr I w a k0 h hS hF h1 h2 h3
  exact hG _ _ h4 h5
/-- A round's end: what is told. -/
theorem le_endK {b : Nat} {j : Option Code} {s : St} {k : AV → St → Ans} {I : Itp} {w : World} (h : Le L (endK b j s k)) (hS : SimS C.P X W I s w) :
    ∃ s' w', Ext s I s' I ∧ SimS C.P X W I s' w' ∧ (Instr.endRound (I.blk b) j).run C.P w = .ok (.bool j.isNone) w' ∧ Le L (k (.bool j.isNone) s') := by
  obtain ⟨st, fn, tm, ps, asg, body, pend, d, hb, h1⟩ := le_loopK h
  obtain ⟨hf, h', o0, _, hu, h2⟩ := le_putK h1
  obtain ⟨tmps, k1, k2, k3, k4, _⟩ := loop_put hS hb
  refine ⟨_, _, ?_, k4 _ _ h' hf hu, ?_, h2⟩
  · exact ⟨Agree.refl _ _, Nat.le_refl _, rfl⟩
  · rw [run_endRound k1]
    cases j <;> rfl
theorem Fm_round {l : Nat} {f : FuncId} {tmps : Array Value} {asg body : Code} {kind : CallKind} : Frame.round l f tmps asg body kind = Fm (Frame.round l f tmps asg body kind) ⟨tmps, []⟩ [.code asg, .beginRound, .code body] := rfl
/-- A round. -/
theorem round_ok (hG : ∀ m m', step C.P m = .next m' → Gd m' → Gd m) (hD : Mono D) (hD0 : ∀ n I, D n I [] []) (hg : GX W0 X W) (hrec : ∀ L X W b cs, GX W0 X W → b.kind = .normal → ∀ c, CodeOk D C Gd L X W b cs (rec c) c)
    {b : Nat} {args : List AV} {s : St} {I : Itp} {w : World} {k : AV → St → Ans} {c : Frame} {cs : List Frame} (h : Le L (roundK C rec b args s k)) (hS : SimS C.P X W I s w) (hok : okL s.nx I args)
    (hk : ∀ v s' I' w', Ext s I s' I' → SimS C.P X W I' s' w' → ok s'.nx I' v → Le L (k v s') → Gd (lone (c.finish (conc I' v)) cs w')) :
    ∃ fn tmps asg body, (Instr.yield (I.blk b) (concL I args).toArray).run C.P w = .ok (.round (I.blk b) fn tmps asg body) w ∧ Gd (lone (Frame.round (I.blk b) fn tmps asg body .normal) (c :: cs) w) := by
  obtain ⟨st, fn, tm, ps, asg, body, pend, d, hb, h1⟩ := le_loopK h
  obtain ⟨tmps, k1, k2, k3, _, _⟩ := loop_put hS hb
  obtain ⟨h2, tm', h3, h4⟩ := le_bindPs h1 k2 hok
  have hbn := hS.low b _ hb
  have hzip : ((ps.toArray.zip (concL I args).toArray).foldl (fun tmps (t, a) => tmps.setIfInBounds t a) tmps) = ((ps.zip (concL I args)).foldl (fun tmps (x : Tmp × Value) => tmps.setIfInBounds x.1 x.2) tmps) := by
    rw [List.zip_toArray, List.foldl_toArray]
  refine ⟨fn, _, asg, body, run_yield k1 (by simp [concL_length, h2]), ?_⟩
  show Gd (lone (Frame.round (I.blk b) fn ((ps.toArray.zip (concL I args).toArray).foldl (fun tmps (t, a) => tmps.setIfInBounds t a) tmps) asg body .normal) (c :: cs) w)
  rw [hzip]
  generalize (ps.zip (concL I args)).foldl (fun tmps (x : Tmp × Value) => tmps.setIfInBounds x.1 x.2) tmps = tmps' at h3 ⊢
  rw [Fm_round]
  have hro : (Frame.round (I.blk b) fn tmps' asg body .normal).roundOf = some (I.blk b) := rfl
  have hki : (Frame.round (I.blk b) fn tmps' asg body .normal).kind = .normal := rfl
  have hF : FR D (Frame.round (I.blk b) fn tmps' asg body .normal) ⟨tmps', []⟩ ⟨fn, tm', [], some b⟩ s.nx I := ⟨rfl, h3, hD0 _ _, hbn, rfl⟩
  generalize Frame.round (I.blk b) fn tmps' asg body .normal = fb at hro hki hF ⊢
  refine code_gd hG (hrec L X W fb (c :: cs) hg hki asg) h4 hS hF
    (fun f1 s1 I1 w1 a1 he1 hS1 hF1 hl1 => ?_) (fun id f' s' I' w' a' he hS' hF' hl => hl.no.elim) (fun f' s' I' w' a' he hS' hF' hl => hl.no.elim)
  · obtain ⟨st1, fn1, tm1, ps1, asg1, body1, pend1, d1, hb1, h7⟩ := le_loopK hl1
    split at h7
    · obtain ⟨hf, h', o0, _, hu, h8⟩ := le_putK h7
      obtain ⟨tmps1, j1, j2, j3, j4, _⟩ := loop_put hS1 hb1
      have hblk : I1.blk b = I.blk b := (he1.1 b hbn).1
      have hS2 := j4 .busy pend1 h' hf hu
      refine hG _ _ (mv_beginRound hro (by rw [← hblk]; exact run_beginRound j1 rfl)) ?_
      have hF2 : FR D fb a1 f1 s1.nx I1 := hF1
      have he2 : Ext s I ⟨h', s1.nx, s1.fl⟩ I1 := he1
      refine code_gd hG (hrec L X W fb (c :: cs) hg hki body) h8 hS2 hF2
        (fun f' s' I' w' a' he hS' hF' hl => ?_) (fun id f' s' I' w' a' he hS' hF' hl => ?_) (fun f' s' I' w' a' he hS' hF' hl => ?_)
      · obtain ⟨s3, w3, m1, m2, m3, m4⟩ := le_endK hl hS'
        have hb3 : I'.blk b = I.blk b := ((he.1 b (Nat.lt_of_lt_of_le hbn he2.2.1)).1).trans hblk
        rw [hb3] at m3
        exact hG _ _ (mv_round_end hro hki m3) (hk (.bool true) s3 I' w3 (he2.trans (he.trans m1)) m2 trivial m4)
      · obtain ⟨hid, hl⟩ := le_ifN hl
        obtain ⟨s3, w3, m1, m2, m3, m4⟩ := le_endK hl hS'
        have hb3 : I'.blk b = I.blk b := ((he.1 b (Nat.lt_of_lt_of_le hbn he2.2.1)).1).trans hblk
        rw [hb3] at m3
        refine ⟨_, hk (.bool false) s3 I' w3 (he2.trans (he.trans m1)) m2 trivial m4, fun k hk' => ?_⟩
        rw [jumpTo_exit hid, jumpTo_exit hid] at hk'
        rw [jumpC_exit hid]
        exact mv_round_exit hro hki (by rw [hk']; rfl) m3
      · obtain ⟨s3, w3, m1, m2, m3, m4⟩ := le_endK hl hS'
        have hb3 : I'.blk b = I.blk b := ((he.1 b (Nat.lt_of_lt_of_le hbn he2.2.1)).1).trans hblk
        rw [hb3] at m3
        exact fun k => ⟨_, hk (.bool false) s3 I' w3 (he2.trans (he.trans m1)) m2 trivial m4, mv_round_ret hro hki m3⟩
    · exact h7.no.elim
theorem le_cmpK {args : List AV} {s : St} {k : AV → St → Ans} (h : Le L (cmpK args s k)) : ∃ a b, args = [.str a, .str b] ∧ Le L (k (.int .i64 (cmpStr a b)) s) := by
  unfold cmpK at h
  split at h
  · exact ⟨_, _, rfl, h⟩
  · exact h.no.elim
/-- Calls, in a region, are as the evaluator says. -/
theorem calls_ok (hG : ∀ m m', step C.P m = .next m' → Gd m' → Gd m) (hD : Mono D) (hD0 : ∀ n I, D n I [] []) (hE : ExtOk C) (hsum : SumOk W0 C Gd) (hdfr : ∀ L X W, GX W0 X W → DfrOk L D C rec Gd X W) (hg : GX W0 X W) (hrec : ∀ L X W b cs, GX W0 X W → b.kind = .normal → ∀ c, CodeOk D C Gd L X W b cs (rec c) c)
    {b : Frame} {cs : List Frame} {ops : Array Oper} : CallsOk L C rec Gd X W b cs ops := by
  intro o i rest f s k I w a k0 ho hc hw h hS hR hk
  have hd : ∀ c, o.op ≠ .defer c := no_defer h
  -- a function of the program, or a row
  have fin : ∀ fi args, (execOp a.eval o).run C.P w = (callFunc fi (concL I args).toArray).run C.P w → Le L (callK C rec fi args s k) → okL s.nx I args → Gd (lone (Fm b a (.inRegion ops (i :: rest) :: k0)) cs w) := by
    intro fi args hrun hl hok
    have hk' : ∀ v s' I' w', Ext s I s' I' → SimS C.P X W I' s' w' → ok s'.nx I' v → Le L (k v s') → Gd (lone ((Fm b a (.inRegion ops (i :: rest) :: k0)).finish (conc I' v)) cs w') := fun v s' I' w' he hS' hv hl' => by
      rw [Fm.finish, ho]; exact hk v s' I' w' he hS' hv hl'
    by_cases hx : extB C.P fi = 0
    · rw [run_callFunc_zero hx] at hrun
      exact hG _ _ (mv_enter ho hw (.inr hd) hrun) (call_ok hG hD hD0 hsum hg hdfr hrec hx hl hS hok hk')
    · unfold callK at hl
      rcases extB_one hx with hx1 | hx1
      · rw [hx1] at hl
        have hl : Le L (cmpK args s k) := hl
        obtain ⟨u, v, rfl, hl⟩ := le_cmpK hl
        cases hfn : C.P.funcs[fi]? with
        | none => simp [extB, hfn] at hx1
        | some fn =>
          rw [run_cmp hE hfn hx1] at hrun
          exact hG _ _ (mv_value ho hw (.inr hd) hrun) (hk _ s I w (Ext.refl _ _) hS trivial hl)
      · rw [hx1] at hl
        exact (Le.no hl).elim
  cases hop : o.op <;> rw [hop] at hc <;> (try cases hc)
  rename_i c
  rw [hop] at h
  obtain ⟨vs, hvs, h1⟩ := le_opds h
  obtain ⟨k1, k2⟩ := call_args hop hvs hR
  cases hce : c.callee with
  | builtin bb => simp [isCall, hce] at hc
  | value g =>
    rw [hce] at h1
    obtain ⟨v, hv, h2⟩ := le_opd h1
    obtain ⟨e1, e2⟩ := hR g (by rw [hop]; simp [Op.operands, Call.operands, hce]) _ hv
    unfold valueK at h2
    split at h2
    · rename_i fi first captured
      refine fin fi (first ++ vs ++ captured) ?_ h2 ?_
      · simp only [execOp, hop, resolve, hce, e1, conc, Deferred.ofValue, Sem.run_bind, Sem.run_pure, Result.andThen_ok, invoke, k1]
        simp [concL_append]
      · obtain ⟨_, e3, e4⟩ := e2
        exact okL_append (okL_append e3 k2) e4
    · rename_i lb
      obtain ⟨fn, tmps, asg, body, m1, m2⟩ := round_ok hG hD hD0 hg hrec (c := Fm b a (.inRegion ops (i :: rest) :: k0)) (cs := cs) h2 hS k2 fun v s' I' w' he hS' hv hl' => by
        rw [Fm.finish, ho]; exact hk v s' I' w' he hS' hv hl'
      refine hG _ _ (mv_round ho hw (.inr hd) ?_) m2
      simp only [execOp, hop, resolve, hce, e1, conc, Deferred.ofValue, Sem.run_bind, Sem.run_pure, Result.andThen_ok, invoke, k1]
      simpa using m1
    · exact h2.no.elim
  | invoke r name =>
    rw [hce] at h1
    obtain ⟨v, hv, h2⟩ := le_opd h1
    obtain ⟨e1, e2⟩ := hR r (by rw [hop]; simp [Op.operands, Call.operands, hce]) _ hv
    unfold invokeK at h2
    split at h2
    · rename_i t u
      obtain ⟨fi, hmeth, h3⟩ := le_optK h2
      refine fin fi (u :: vs) ?_ h3 ⟨e2, k2⟩
      obtain ⟨n, hn⟩ : ∃ n, C.P.types.size + Made.depth = n + 1 := ⟨C.P.types.size + (Made.depth - 1), by simp [Made.depth]⟩
      have hext : ((#[conc I (.ifc t u)] ++ (concL I vs).toArray).extract 1 (#[conc I (.ifc t u)] ++ (concL I vs).toArray).size) = (concL I vs).toArray := by
        apply Array.toList_inj.1
        simp [List.extract_eq_take_drop]
      have hmr := run_method (P := C.P) hmeth n (conc I u) w
      have hget : (#[conc I (.ifc t u)] ++ (concL I vs).toArray)[0]? = some (.iface t (conc I u)) := by simp [conc]
      simp only [execOp, hop, resolve, hce, e1, k1, Sem.run_bind, Sem.run_pure, Result.andThen_ok, invoke, hget, hext, callMethod, run_program, hn, hmr]
      simp [concL]
    · exact h2.no.elim
end
end Go.Proofs.YtajdeaabgplacaaGreatDoor.Sev

namespace Go.Proofs.YtajdeaabgplacaaGreatDoor.Sev
open Go Go.RowKit
set_option linter.unusedVariables false
variable {L : List (AV × St)}
section
variable {W0 : World} {C : Cf} {rec : Rec} {Gd : Machine → Prop} {X : Nat → Prop} {W : World} {b : Frame} {cs : List Frame} {P : Program}

/-! ### regions that make calls wait -/
theorem defer_ok (hG : ∀ m m', step C.P m = .next m' → Gd m' → Gd m) {ops : Array Oper} {o : Oper} {i : Nat} {rest : List Nat} {c : Call} {f : Fr} {s : St} {K : Fr → Ans} {I : Itp} {w : World} {a : Act} {k0 : List Item}
    (ho : ops[i]? = some o) (hoc : o.op = .defer c) (hguard : o.guard = none) (h : Le L (deferK c f fun f => putF o.dst undefA f K)) (hS : SimS C.P X W I s w) (hF : FR DRel b a f s.nx I)
    (hk : ∀ f' a', FR DRel b a' f' s.nx I → Le L (K f') → Gd (lone (Fm b a' (.inRegion ops rest :: k0)) cs w)) : Gd (lone (Fm b a (.inRegion ops (i :: rest) :: k0)) cs w) := by
  obtain ⟨vs, hvs, h1⟩ := le_opds h
  cases hce : c.callee with
  | builtin bb => rw [hce] at h1; exact (Le.no h1).elim
  | invoke r name => rw [hce] at h1; exact (Le.no h1).elim
  | value g =>
    rw [hce] at h1
    obtain ⟨v, hv, h2⟩ := le_opd h1
    split at h2
    · rename_i fi first captured
      obtain ⟨fn, tm, dl, rd⟩ := f
      cases rd with
      | some l => exact (Le.no h2).elim
      | none =>
        have h2 : Le L (putF o.dst undefA ⟨fn, tm, .fn fi (first ++ vs ++ captured) :: dl, none⟩ K) := h2
        have hR := rel_of hF.tm hS.glob o.op
        obtain ⟨e1, e2⟩ := hR g (by rw [hoc]; simp [Op.operands, Call.operands, hce]) _ hv
        have hargs : (c.args.map a.eval) = (concL I vs).toArray ∧ okL s.nx I vs := by
          obtain ⟨h1, h2⟩ := opdsV_conc hvs (n := s.nx) (I := I) (a := a) (fun x hx => hR x (by rw [hoc]; simp [Op.operands, Call.operands]; right; simpa using hx))
          exact ⟨by rw [← h1, ← Array.toList_map], h2⟩
        obtain ⟨k1, k2⟩ := hargs
        have hrun : (execOp a.eval o).run C.P w = .ok (.defer { target := .fn (.func fi) (concL I captured).toArray, args := (concL I first).toArray ++ (concL I vs).toArray }) w := by
          simp only [execOp, hoc, resolve, hce, e1, conc, Deferred.ofValue, Sem.run_bind, Sem.run_pure, Result.andThen_ok, k1]
        refine hG _ _ (mv_defer ho (by simp [Region.wanted, hguard]) (.inl hF.rd) hrun) ?_
        have hF1 : FR DRel b { a with defers := { target := .fn (.func fi) (concL I captured).toArray, args := (concL I first).toArray ++ (concL I vs).toArray } :: a.defers } ⟨fn, tm, .fn fi (first ++ vs ++ captured) :: dl, none⟩ s.nx I := by
          refine ⟨hF.fn, hF.tm, ⟨⟨?_, _, rfl, ?_⟩, hF.dl⟩, hF.rd⟩
          · obtain ⟨_, e3, e4⟩ := e2
            exact okL_append (okL_append e3 k2) e4
          · simp [concL_append]
        obtain ⟨f', hF2, hl⟩ := hF1.put (f' := ⟨fn, tm, [], none⟩) (v := undefA) trivial h2
        have := hk f' _ hF2 hl
        rw [undef_conc] at this
        exact this
    · exact h2.no.elim
theorem opsD_ok (hG : ∀ m m', step C.P m = .next m' → Gd m' → Gd m) {ops : Array Oper} (hcalls : CallsOk L C rec Gd X W b cs ops) {K : Fr → St → Ans} {k0 : List Item} : ∀ (l : List Oper) (i : Nat), ops.toList.drop i = l → ∀ {f s I w a},
    Le L (opsD C rec ops.toList l f s K) → SimS C.P X W I s w → FR DRel b a f s.nx I → Ends DRel C Gd L X W b cs K k0 s I → Gd (lone (Fm b a (.inRegion ops (List.range' i l.length) :: k0)) cs w)
  | [], i, hl, f, s, I, w, a, h, hS, hF, hn => hG _ _ mv_region_end (hn f s I w a (Ext.refl _ _) hS hF h)
  | o :: l, i, hl, f, s, I, w, a, h, hS, hF, hn => by
    have ho : ops[i]? = some o := by
      have := congrArg (fun x => x[0]?) hl
      simpa using this
    have hl' : ops.toList.drop (i + 1) = l := by
      have := congrArg (List.drop 1) hl
      simpa [List.drop_drop] using this
    have h : Le L (match o.op with
      | .defer c => Option.rec (deferK c f fun f => putF o.dst undefA f fun f => opsD C rec ops.toList l f s K) (fun _ => .no "defer under a guard" 0) o.guard
      | _ => oneK C rec ops.toList o f s fun f s => opsD C rec ops.toList l f s K) := h
    split at h
    · rename_i c hoc
      cases hg : o.guard with
      | some g => rw [hg] at h; exact (Le.no h).elim
      | none =>
        rw [hg] at h
        exact defer_ok hG ho hoc hg h hS hF fun f' a' hF' hk => opsD_ok hG hcalls l (i + 1) hl' hk hS hF' hn
    · exact one_ok dRel_mono hG hcalls (K := fun f s => opsD C rec ops.toList l f s K) ho h hS hF fun f' s' I' w' a' he hS' hF' hk => opsD_ok hG hcalls l (i + 1) hl' hk hS' hF' (hn.later he)
theorem region_all (hG : ∀ m m', step C.P m = .next m' → Gd m' → Gd m) (hmix : C.P.follows .mixedOrders = true) {id : Nat} {ops : Array Oper} {draw : Bool} (hg : GX W0 X W) (hcalls : ∀ X W, GX W0 X W → CallsOk L C rec Gd X W b cs ops) :
    CodeOk DRel C Gd L X W b cs (fun f s kn kx kr => regionK C rec ops draw f s kn) (.region id ops draw) := by
  cases draw with
  | true => exact draw_ok dRel_mono hG hmix hg hcalls
  | false =>
    cases hd : defers ops.toList with
    | false => exact region_ok dRel_mono hG (hcalls X W hg) hd
    | true =>
      intro f s kn kx kr I w a k0 h hS hF hn hx hr
      have h : Le L (ifK (defers ops.toList) (opsD C rec ops.toList ops.toList f s kn) (opsK C rec ops.toList ops.toList f s kn)) := h
      rw [hd] at h
      refine ⟨_, mv_region, ?_⟩
      have := opsD_ok hG (hcalls X W hg) ops.toList 0 (by simp) h hS hF hn
      rw [List.range_eq_range']
      simpa using this

/-! ### a call that waited -/
theorem enter_frame' {D : Nat → Itp → List DI → List Deferred → Prop} {I : Itp} (hD0 : ∀ n I, D n I [] []) {f : FuncId} {fn : Func} {body : Code} {args : List AV} {c : Tr AV} {n : Nat} {kind : CallKind} (hfn : P.funcs[f]? = some fn) (hb : fn.body = some body) (hov : Over (mkF fn.ntmps) 0 args c) (hok : okL n I args) :
    ∃ a, Frame.enter P f (concL I args).toArray kind = Fm (Frame.enter P f (concL I args).toArray kind) a [.code body] ∧ a.defers = [] ∧ FR D (Frame.enter P f (concL I args).toArray kind) a ⟨f, c, [], none⟩ n I := by
  refine ⟨⟨(concL I args).toArray ++ Array.replicate (fn.ntmps - (concL I args).toArray.size) undef, []⟩, ?_, rfl, ⟨rfl, enter_tmps hov hok, hD0 _ _, rfl⟩⟩
  simp [Frame.enter, Fm, hfn, hb]
theorem mv_late {fr : Frame} {w w' : World} {d : Deferred} {ds : List Deferred} {fi : FuncId} {args captured : Array Value} (hm : fr.mode = .returning) (hd : fr.defers = d :: ds) (ht : d.target = .fn (.func fi) captured)
    (hrun : (callFunc fi (d.args ++ captured)).run P w = .ok (.enter fi args) w') : step P (lone fr cs w) = .next (lone (Frame.enter P fi args .deferred) ({ fr with defers := ds } :: cs) w') := by
  obtain ⟨target, dargs⟩ := d
  subst ht
  refine step_lone_go ?_
  simp only [stepG, hm, unwind, hd, callDeferred]
  simp [Sem.runT_eq, invoke, hrun]
theorem mv_late_end {fr : Frame} {a : Act} {todo : List Item} {w : World} {v : Value} {fn : Func} (hk : b.kind = .deferred) (hd : a.defers = []) (hfn : P.funcs[b.fn]? = some fn) (hres : (results fn a.tmps).run P w = .ok v w) (hm : fr.mode = .returning) :
    step P (lone { Fm b a todo with mode := .returning } (fr :: cs) w) = .next (lone fr cs w) := by
  refine step_lone_go ?_
  simp [stepG, unwind, Fm, hd, hfn, hres, doReturn, hk, hm]
theorem late_ok (hG : ∀ m m', step C.P m = .next m' → Gd m' → Gd m) (hg : GX W0 X W) (hrec : RecOk C Gd W0 rec) : LateOk L C rec Gd X W := by
  intro fr cs f args d ds dl s I w K hm hkind hds hdr hS h hn
  obtain ⟨⟨hok, captured, ht, hargs⟩, hrest⟩ := hdr
  have h : Le L (ifK (Nat.beq (extB C.P f) 0) (optK (funcB C.P f) "func" fun fn => optK fn.body "body" fun c => argsK args (mkF fn.ntmps) 0 fun tm =>
      rec c ⟨f, tm, [], none⟩ s (fun f' s => List.rec (resK C.P fn.results.toList f' s fun _ => dfrK C.P rec dl s K) (fun _ _ _ => .no "deferred: waits itself" f) f'.dl) (fun _ _ _ => .no "exit out of a function" f)
        (fun f' s => List.rec (resK C.P fn.results.toList f' s fun _ => dfrK C.P rec dl s K) (fun _ _ _ => .no "deferred: waits itself" f) f'.dl)) (.no "deferred" f)) := h
  obtain ⟨hx, h1⟩ := le_ifN h
  have hx := Nat.eq_of_beq_eq_true hx
  obtain ⟨fn, hfn, h2⟩ := le_optK h1
  obtain ⟨body, hbody, h3⟩ := le_optK h2
  obtain ⟨tm, hov, _, h4⟩ := le_argsK (k := fun tm => rec body ⟨f, tm, [], none⟩ s (fun f' s => List.rec (resK C.P fn.results.toList f' s fun _ => dfrK C.P rec dl s K) (fun _ _ _ => .no "deferred: waits itself" f) f'.dl) (fun _ _ _ => .no "exit out of a function" f)
        (fun f' s => List.rec (resK C.P fn.results.toList f' s fun _ => dfrK C.P rec dl s K) (fun _ _ _ => .no "deferred: waits itself" f) f'.dl)) h3
  have hfn : C.P.funcs[f]? = some fn := hfn
  obtain ⟨a, e1, e2, hF⟩ := enter_frame' (D := DRel) (P := C.P) (kind := .deferred) dRel_zero hfn hbody hov hok
  have hrun : (callFunc f (d.args ++ captured)).run C.P w = .ok (.enter f (concL I args).toArray) w := by rw [hargs]; exact run_callFunc_zero hx _ w
  refine hG _ _ (mv_late hm hds ht hrun) ?_
  have hbf : (Frame.enter C.P f (concL I args).toArray .deferred).fn = f := rfl
  have hbk : (Frame.enter C.P f (concL I args).toArray .deferred).kind = .deferred := rfl
  have hbr : (Frame.enter C.P f (concL I args).toArray .deferred).roundOf = none := rfl
  rw [e1]
  generalize Frame.enter C.P f (concL I args).toArray .deferred = fb at *
  have leave : ∀ f' s' I' w' a' todo, Ext s I s' I' → SimS C.P X W I' s' w' → FR DRel fb a' f' s'.nx I' → Le L (List.rec (resK C.P fn.results.toList f' s' fun _ => dfrK C.P rec dl s' K) (fun _ _ _ => .no "deferred: waits itself" f) f'.dl : Ans) →
      Gd (lone { Fm fb a' todo with mode := .returning } ({ fr with defers := ds } :: cs) w') := by
    intro f' s' I' w' a' todo he hS' hF' hl
    obtain ⟨fn', tm', dl', rd'⟩ := f'
    cases dl' with
    | cons x y => exact (Le.no hl).elim
    | nil =>
      have hdl : a'.defers = [] := by
        have := hF'.dl
        cases hda : a'.defers with
        | nil => rfl
        | cons x y => rw [hda] at this; exact this.elim
      obtain ⟨vs, h5, h6, h7⟩ := run_results (tmps := a'.tmps) hS' hF'.tm hl
      exact hG _ _ (mv_late_end hbk hdl (by rw [hbf]; exact hfn) h7 hm) (hn s' I' w' he hS' h6)
  refine code_gd hG (hrec L X W fb _ hg (.inr hbk) body) h4 hS hF (fun f' s' I' w' a' he hS' hF' hl => ?_) (fun id f' s' I' w' a' he hS' hF' hl => hl.no.elim) (fun f' s' I' w' a' he hS' hF' hl k0 => ⟨_, leave f' s' I' w' a' _ he hS' hF' hl, mv_ret hbr⟩)
  exact hG _ _ (mv_end hbr) (leave f' s' I' w' a' _ he hS' hF' hl)

/-! ### ranges over functions -/
theorem run_endLoop {w : World} {l : Nat} {r : Loop} (h : w.heap[l]? = some (.loop r)) (hr : r.state ≠ .busy) : (Instr.endLoop l).run P w = .ok r.pending { w with heap := w.heap.setIfInBounds l (.loop { r with state := .exhausted }) } := by
  simp [Instr.endLoop, run_getLoop h, run_setObj (P := P) h, hr]
theorem rangeGo_ok (hG : ∀ m m', step C.P m = .next m' → Gd m' → Gd m) (hsum : SumOk W0 C Gd) (hg : GX W0 X W) (hdfr : ∀ L X W, GX W0 X W → DfrOk L DRel C rec Gd X W) (hrec : ∀ L X W b cs, GX W0 X W → b.kind = .normal → ∀ c, CodeOk DRel C Gd L X W b cs (rec c) c)
    {fi : FuncId} {first captured : List AV} {ps : Array Tmp} {asg body : Code} {fn : FuncId} {tm : Tr AV} {rd : Option Nat} {kn : Fr → St → Ans} {kx : Nat → Fr → St → Ans} {kr : Fr → St → Ans} {dl : List DI} {d : Nat} {s : St} {I : Itp} {w : World} {a : Act} {ds : List Deferred} {k0 : List Item}
    (h : Le L (rangeGo C rec fi first captured ps asg body fn tm rd kn kx kr dl d s)) (hS : SimS C.P X W I s w) (hd : d < s.nx) (hx : extB C.P fi = 0) (hF : FR DRel b ⟨a.tmps, ds⟩ ⟨fn, tm, dl, rd⟩ s.nx I) (hok1 : okL s.nx I first) (hok2 : okL s.nx I captured)
    (hn : Ends DRel C Gd L X W b cs kn k0 s I) (hxt : Exits DRel C Gd L X W b cs kx k0 s I) (hr : Rets DRel C Gd L X W b cs kr s I) :
    Gd (lone (Frame.enter C.P fi ((concL I first).toArray ++ #[.func (.yield w.heap.size) #[] #[]] ++ (concL I captured).toArray) .normal) (Fm b ⟨a.tmps, ds⟩ (.inRangeFunc w.heap.size :: k0) :: cs)
      (w.alloc (.loop { state := .ready, pending := none, fn := b.fn, tmps := a.tmps, params := ps, assign := asg, body, defers := I.blk d }))) := by
  obtain ⟨h', hu, h1⟩ := le_newK h
  have hbfn : b.fn = fn := hF.fn
  have hag := I.set_agree s.nx w.heap.size 0 0 #[]
  obtain ⟨hS1, he1⟩ := sim_new (q := .loop { state := .ready, pending := none, fn := b.fn, tmps := a.tmps, params := ps, assign := asg, body, defers := I.blk d }) hS hu 0
    ⟨by omega, a.tmps, by rw [Itp.set_blk, (hag d hd).1, hbfn, Array.toArray_toList]; exact heap_alloc_new w _, hF.tm.mono hag (Nat.le_succ _)⟩
  have hargs : (concL (I.set s.nx w.heap.size 0 0 #[]) (first ++ [.yld s.nx] ++ captured)).toArray = (concL I first).toArray ++ #[.func (.yield w.heap.size) #[] #[]] ++ (concL I captured).toArray := by
    rw [concL_append, concL_append, concL_agree hag hok1, concL_agree hag hok2]
    simp [concL, conc]
  rw [← hargs]
  refine call_ok hG dRel_mono dRel_zero hsum hg hdfr hrec hx h1 hS1 (okL_append (okL_append (okL_agree hag (Nat.le_succ _) hok1) ⟨Nat.lt_succ_self s.nx, trivial⟩) (okL_agree hag (Nat.le_succ _) hok2)) fun v s' I' w' he hS' hv hl => ?_
  have hfin : (Fm b ⟨a.tmps, ds⟩ (.inRangeFunc w.heap.size :: k0)).finish (conc I' v) = Fm b ⟨a.tmps, ds⟩ (.endRangeFunc w.heap.size :: k0) := rfl
  rw [hfin]
  obtain ⟨st, fn1, tm1, ps1, asg1, body1, pend, d1, hb, h2⟩ := le_loopK hl
  obtain ⟨tmps1, k1, _, _, _, k5⟩ := loop_put hS' hb
  have hblk : I'.blk s.nx = w.heap.size := by rw [(he.1 s.nx (Nat.lt_succ_self _)).1, Itp.set_blk]
  have go : st ≠ .busy → Le L (putK s' s.nx .dead fun s => jumpK pend ⟨fn, tm, dl, rd⟩ s kn kx kr) → Gd (lone (Fm b ⟨a.tmps, ds⟩ (.endRangeFunc w.heap.size :: k0)) cs w') := fun hst h3 => by
    obtain ⟨hf, h4, o0, _, hu4, h5⟩ := le_putK h3
    rw [hblk] at k1 k5
    refine hG _ _ (mv_endRange (run_endLoop k1 hst)) ?_
    have hS2 := k5 (.loop { state := .exhausted, pending := pend, fn := fn1, tmps := tmps1, params := ps1.toArray, assign := asg1, body := body1, defers := I'.blk d1 }) h4 hf hu4
    have het : Ext s I ⟨h4, s'.nx, s'.fl⟩ I' := he1.trans he
    have hF' : FR DRel b ⟨a.tmps, ds⟩ ⟨fn, tm, dl, rd⟩ (St.mk h4 s'.nx s'.fl).nx I' := FR.later dRel_mono hF het
    unfold jumpK at h5
    split at h5
    · exact hn _ _ _ _ _ het hS2 hF' h5
    · obtain ⟨m', m1, m2⟩ := hr _ _ _ _ _ het hS2 hF' h5 k0
      exact hG _ _ m2 m1
    · obtain ⟨hid, h5⟩ := le_ifN h5
      obtain ⟨m', m1, m2⟩ := hxt _ _ _ _ _ _ het hS2 hF' h5
      have m3 := m2 k0 rfl
      rw [jumpC_exit hid] at m3
      exact hG _ _ m3 m1
    · exact h5.no.elim
  split at h2
  · exact h2.no.elim
  · rename_i hne
    exact go (fun e => hne e) h2
theorem range_ok (hG : ∀ m m', step C.P m = .next m' → Gd m' → Gd m) (hsum : SumOk W0 C Gd) (hg : GX W0 X W) (hdfr : ∀ L X W, GX W0 X W → DfrOk L DRel C rec Gd X W) (hrec : ∀ L X W b cs, GX W0 X W → b.kind = .normal → ∀ c, CodeOk DRel C Gd L X W b cs (rec c) c) {fo : Operand} {ps : Array Tmp} {asg body : Code} :
    CodeOk DRel C Gd L X W b cs (fun f s kn kx kr => rangeK C rec fo ps asg body f s kn kx kr) (.rangeFunc fo ps asg body) := by
  intro f s kn kx kr I w a k0 h hS hF hn hx hr
  obtain ⟨v, hv, h1⟩ := le_opd h
  obtain ⟨e1, e2⟩ := opdRel_of hF.tm hS.glob fo _ hv
  split at h1
  · rename_i fi first captured
    obtain ⟨hx0, h2⟩ := le_ifN h1
    have hx0 := Nat.eq_of_beq_eq_true hx0
    obtain ⟨_, ok1, ok2⟩ := e2
    have hof : ∀ l : Nat, Deferred.ofValue (a.eval fo) #[.func (.yield l) #[] #[]] = .pure { target := .fn (.func fi) (concL I captured).toArray, args := (concL I first).toArray ++ #[.func (.yield l) #[] #[]] } := fun l => by
      rw [e1]; rfl
    have hinv : ∀ (l : Nat) (w : World), (invoke (.fn (.func fi) (concL I captured).toArray) ((concL I first).toArray ++ #[.func (.yield l) #[] #[]])).run C.P w = .ok (.enter fi ((concL I first).toArray ++ #[.func (.yield l) #[] #[]] ++ (concL I captured).toArray)) w := fun l w => by
      simp only [invoke]; exact run_callFunc_zero hx0 _ w
    obtain ⟨fn, tm, dl, rd⟩ := f
    cases rd with
    | none =>
      have h2 : Le L (newK s .dfr fun d s => rangeGo C rec fi first captured ps asg body fn tm none kn kx kr (.mark d :: dl) d s) := h2
      obtain ⟨h', hu, h3⟩ := le_newK h2
      have hag := I.set_agree s.nx w.heap.size 0 0 #[]
      obtain ⟨hS1, he1⟩ := sim_new (q := .deferred (some [])) (o := .dfr) hS hu 0 (by show (w.alloc _).heap[_]? = _; rw [Itp.set_blk]; exact heap_alloc_new w _)
      have hro : b.roundOf = none := hF.rd
      have hF1 := hF.later dRel_mono he1
      refine ⟨_, mv_range (mark := [{ target := .collected w.heap.size, args := #[] }]) (l := (w.alloc (.deferred (some []))).heap.size) (w₁ := (w.alloc (.deferred (some []))).alloc (.loop { state := .ready, pending := none, fn := b.fn, tmps := a.tmps, params := ps, assign := asg, body, defers := w.heap.size })) ?_ (hof _) (hinv _ _), ?_⟩
      · simp [Instr.enterLoop, hro]
      · have := rangeGo_ok (ds := { target := .collected w.heap.size, args := #[] } :: a.defers) hG hsum hg hdfr hrec h3 hS1 (Nat.lt_succ_self _) hx0 ⟨hF1.fn, hF1.tm, ⟨⟨Nat.lt_succ_self _, by rw [Itp.set_blk]⟩, hF1.dl⟩, hF1.rd⟩ (okL_agree hag (Nat.le_succ _) ok1) (okL_agree hag (Nat.le_succ _) ok2) (hn.later he1) (hx.later he1) (hr.later he1)
        rw [concL_agree hag ok1, concL_agree hag ok2, Itp.set_blk] at this
        exact this
    | some lb =>
      have h2 : Le L (loopK s lb fun _ _ _ _ _ _ _ d => rangeGo C rec fi first captured ps asg body fn tm (some lb) kn kx kr dl d s) := h2
      obtain ⟨st, fn1, tm1, ps1, asg1, body1, pend, d1, hb, h3⟩ := le_loopK h2
      obtain ⟨tmps1, k1, _, k3, _, _⟩ := loop_put hS hb
      have hro : b.roundOf = some (I.blk lb) := hF.rd.2
      refine ⟨_, mv_range (mark := []) (l := w.heap.size) (w₁ := w.alloc (.loop { state := .ready, pending := none, fn := b.fn, tmps := a.tmps, params := ps, assign := asg, body, defers := I.blk d1 })) ?_ (hof _) (hinv _ _), ?_⟩
      · simp [Instr.enterLoop, hro, run_getLoop k1]
      · exact rangeGo_ok (ds := a.defers) hG hsum hg hdfr hrec h3 hS k3 hx0 hF ok1 ok2 hn hx hr
  · exact h1.no.elim
end
/-- All parts are well. -/
theorem parts_ok {W0 : World} {C : Cf} {Gd : Machine → Prop} (hG : ∀ m m', step C.P m = .next m' → Gd m' → Gd m) (hmix : C.P.follows .mixedOrders = true) (hE : ExtOk C) (hsum : SumOk W0 C Gd) : PartsOk C Gd W0 := by
  intro rec hrec L X W b cs hg hb
  have hdfr : ∀ L X W, GX W0 X W → DfrOk L DRel C rec Gd X W := fun L X W hg => dfr_ok hG (late_ok hG hg hrec)
  have hrec' : ∀ L X W b cs, GX W0 X W → b.kind = .normal → ∀ c, CodeOk DRel C Gd L X W b cs (rec c) c := fun L X W b cs hg hk => hrec L X W b cs hg (.inl hk)
  exact ⟨fun id ops draw => region_all hG hmix hg fun X W hg => calls_ok hG dRel_mono dRel_zero hE hsum hdfr hg hrec', fun fo ps asg body => range_ok hG hsum hg hdfr hrec'⟩
end Go.Proofs.YtajdeaabgplacaaGreatDoor.Sev

namespace Go.Proofs.YtajdeaabgplacaaGreatDoor.Sev
open Go Go.RowKit
set_option linter.unusedVariables false
variable {L : List (AV × St)}
section
variable {C : Cf} {rec : Rec} {Gd : Machine → Prop} {X : Nat → Prop} {W : World}
/-- The body of a function that is called from outside. -/
theorem body_top {D : Nat → Itp → List DI → List Deferred → Prop} (hG : ∀ m m', step C.P m = .next m' → Gd m' → Gd m) (hD : Mono D) (hD0 : ∀ n I, D n I [] []) (hdfr : DfrOk L D C rec Gd X W) (hrec : ∀ b cs, b.kind = .normal → ∀ c, CodeOk D C Gd L X W b cs (rec c) c)
    {fi : FuncId} {fn : Func} {args : List AV} {s : St} {I : Itp} {w : World} {k : AV → St → Ans} {cs : List Frame} (hfn : C.P.funcs[fi]? = some fn) (h : Le L (bodyK C.P rec fi fn args s k)) (hS : SimS C.P X W I s w) (hok : okL s.nx I args)
    (hk : ∀ v s' I' w' fr, Ext s I s' I' → SimS C.P X W I' s' w' → ok s'.nx I' v → Le L (k v s') → fr.leaving C.P w' (.returned (conc I' v)) → fr.fn = fi → Gd (lone fr cs w')) :
    Gd (lone (Frame.enter C.P fi (concL I args).toArray .normal) cs w) := by
  obtain ⟨body, hbody, h1⟩ := le_optK h
  obtain ⟨tm, hov, _, h2⟩ := le_argsK (k := fun tm => rec body ⟨fi, tm, [], none⟩ s (fun f s => leaveK C.P rec fn f s k) (fun _ _ _ => .no "exit out of a function" fi) (fun f s => leaveK C.P rec fn f s k)) h1
  obtain ⟨a, e1, e2, hF⟩ := enter_frame (D := D) (P := C.P) hD0 hfn hbody hov hok
  have hbf : (Frame.enter C.P fi (concL I args).toArray .normal).fn = fi := rfl
  have hbk : (Frame.enter C.P fi (concL I args).toArray .normal).kind = .normal := rfl
  have hbr : (Frame.enter C.P fi (concL I args).toArray .normal).roundOf = none := rfl
  rw [e1]
  generalize Frame.enter C.P fi (concL I args).toArray .normal = b at *
  have leave : ∀ f' s' I' w' a' todo, Ext s I s' I' → SimS C.P X W I' s' w' → FR D b a' f' s'.nx I' → Le L (leaveK C.P rec fn f' s' k) → Gd (lone { Fm b a' todo with mode := .returning } cs w') := by
    intro f' s' I' w' a' todo he hS' hF' hl
    refine hdfr { Fm b a' todo with mode := .returning } cs f'.dl s' I' w' _ rfl hbk hF'.dl hS' hl fun s2 I2 w2 he2 hS2 hl2 => ?_
    obtain ⟨vs, h3, h4, h5⟩ := run_results (tmps := a'.tmps) hS2 (hF'.later hD he2).tm hl2
    exact hk _ s2 I2 w2 _ (he.trans he2) hS2 h3 h4 ⟨rfl, rfl, hbk, fn, by show C.P.funcs[b.fn]? = some fn; rw [hbf]; exact hfn, h5⟩ hbf
  exact code_gd hG (hrec b cs hbk body) h2 hS hF (fun f' s' I' w' a' he hS' hF' hl => hG _ _ (mv_end hbr) (leave f' s' I' w' a' _ he hS' hF' hl))
    (fun id f' s' I' w' a' he hS' hF' hl => hl.no.elim) (fun f' s' I' w' a' he hS' hF' hl k0 => ⟨_, leave f' s' I' w' a' _ he hS' hF' hl, mv_ret hbr⟩)
end

/-! ### the first state -/
/-- Names below glim are the globals' blocks. -/
def I0 : Itp := ⟨fun g => g, fun _ => 0, fun _ => 0, fun _ => #[]⟩
/-- The first state is as these blocks tell. -/
def StartOk (s : St) (w : World) : Prop :=
  s.nx = glim ∧ s.fl = glim ∧ ∀ g o, Has s.h g o → g < glim ∧ ∃ c k t cs, o = .cells c k t false false [] false ∧ w.heap[g]? = some (.cells cs t) ∧ CellsRel glim I0 0 c k cs ∧ k ≤ cs.size ∧ ∀ v ∈ cs.toList, v.oneCell' = true
theorem StartOk.sim {P : Program} {s : St} {w : World} (h : StartOk s w) : SimS P (fun b => b < w.heap.size) w I0 s w := by
  obtain ⟨h1, h2, h3⟩ := h
  refine { os := rfl, tape := rfl, out := rfl, size := Nat.le_refl _, glob := ⟨(by rw [h1]; exact Nat.le_refl _), fun g _ => ⟨rfl, rfl⟩⟩, keep := fun b hb => ⟨hb, rfl⟩, uniq := fun b o q ho hq => ho.uniq hq, low := fun b o hb => (by rw [h1]; exact (h3 b o hb).1),
             obj := fun b o hb => ?_, apart := fun b o c q hb hc hne _ _ e => (hne e).elim, away := fun b o hb _ hf => (by rw [h2] at hf; have := (h3 b o hb).1; omega) }
  obtain ⟨_, c, k, t, cs, rfl, k1, k2, k3, k4⟩ := h3 b o hb
  rw [h1]
  exact ⟨cs, 0, 0, k1, k2, fun i _ h => h, fun _ => ⟨rfl, rfl⟩, fun h => (by cases h), by show 0 + k ≤ _; omega, k4⟩
theorem StartOk.of_blocks {s : St} {w w' : World} (h : StartOk s w) (hb : ∀ b, b < glim → w'.heap[b]? = w.heap[b]?) : StartOk s w' := by
  obtain ⟨h1, h2, h3⟩ := h
  refine ⟨h1, h2, fun g o ho => ?_⟩
  obtain ⟨k0, c, k, t, cs, e, k1, k2⟩ := h3 g o ho
  exact ⟨k0, c, k, t, cs, e, by rw [hb g k0]; exact k1, k2⟩

theorem has_rowL {l : List AV} {i : Nat} {a : AV} (h : Has (rowL l) i a) : l[i]? = some a := by
  obtain ⟨h1, h2⟩ := has_mkA' h
  have h2 : a = l.getD (1 * i + 0) undefA := h2
  rw [h2, Nat.one_mul, Nat.add_zero, List.getD_eq_getElem?_getD, List.getElem?_eq_getElem h1]
  rfl
theorem cellsRel_rowL {l : List AV} {cs : Array Value} (h : ∀ (i : Nat) (a : AV), l[i]? = some a → cs[i]? = some (conc I0 a) ∧ ok glim I0 a ∧ isCell a = true) : CellsRel glim I0 0 (rowL l) l.length cs := fun i a hi => by
  have h1 := has_rowL hi
  obtain ⟨h2, h3, h4⟩ := h i a h1
  exact ⟨(List.getElem?_eq_some_iff.1 h1).1, by rw [Nat.zero_add]; exact h2, h3, h4⟩
theorem pin_at {g : Nat} {a o : AO} (hg : g < hlim) (h : look6 (g / 4) (pin6 a) = some o) : g = g % 4 ∧ o = a := by
  obtain ⟨h1, h2⟩ := look_pin6 h
  have hg : g < 16384 := hg
  refine ⟨?_, h2⟩
  omega
/-- A first memory of four things at the most. -/
theorem has_pins {t : H7} {g : Nat} {o : AO} (h : Has (mk7 t) g o) : g < hlim ∧ look6 (g / 4) (sel (dg (g % 4)) t) = some o := h
theorem sel_a {α : Type} {x y z u : α} : sel (dg 0) ⟨x, y, z, u⟩ = x := rfl
theorem sel_b {α : Type} {x y z u : α} : sel (dg 1) ⟨x, y, z, u⟩ = y := rfl
theorem sel_c {α : Type} {x y z u : α} : sel (dg 2) ⟨x, y, z, u⟩ = z := rfl
theorem sel_d {α : Type} {x y z u : α} : sel (dg 3) ⟨x, y, z, u⟩ = u := rfl
theorem no_nil6 {m : Nat} {o : AO} (h : look6 m nil6 = some o) : False := by rw [look_nil6] at h; cases h
theorem has_three {a b c : AO} {g : Nat} {o : AO} (h : Has (mk7 ⟨pin6 a, pin6 b, pin6 c, nil6⟩) g o) : (g = 0 ∧ o = a) ∨ (g = 1 ∧ o = b) ∨ (g = 2 ∧ o = c) := by
  obtain ⟨hg, h⟩ := has_pins h
  have h4 : g % 4 = 0 ∨ g % 4 = 1 ∨ g % 4 = 2 ∨ g % 4 = 3 := by omega
  rcases h4 with e | e | e | e
  · rw [e, sel_a] at h; obtain ⟨h1, h2⟩ := pin_at hg h; exact .inl ⟨h1.trans e, h2⟩
  · rw [e, sel_b] at h; obtain ⟨h1, h2⟩ := pin_at hg h; exact .inr (.inl ⟨h1.trans e, h2⟩)
  · rw [e, sel_c] at h; obtain ⟨h1, h2⟩ := pin_at hg h; exact .inr (.inr ⟨h1.trans e, h2⟩)
  · rw [e, sel_d] at h; exact (no_nil6 h).elim
theorem has_two {a b : AO} {g : Nat} {o : AO} (h : Has (mk7 ⟨pin6 a, pin6 b, nil6, nil6⟩) g o) : (g = 0 ∧ o = a) ∨ (g = 1 ∧ o = b) := by
  obtain ⟨hg, h⟩ := has_pins h
  have h4 : g % 4 = 0 ∨ g % 4 = 1 ∨ g % 4 = 2 ∨ g % 4 = 3 := by omega
  rcases h4 with e | e | e | e
  · rw [e, sel_a] at h; obtain ⟨h1, h2⟩ := pin_at hg h; exact .inl ⟨h1.trans e, h2⟩
  · rw [e, sel_b] at h; obtain ⟨h1, h2⟩ := pin_at hg h; exact .inr ⟨h1.trans e, h2⟩
  · rw [e, sel_c] at h; exact (no_nil6 h).elim
  · rw [e, sel_d] at h; exact (no_nil6 h).elim

/-! ### all outcomes true -/
theorem isTrueA_eq {v : AV} (h : isTrueA v = true) : v = .bool true := by
  unfold isTrueA at h
  split at h
  · rfl
  · cases h
theorem allTrue_spec : ∀ {l : List (AV × St)}, allTrue l = true → ∀ x ∈ l, x.1 = .bool true
  | [], _, x, hx => by cases hx
  | y :: l, h, x, hx => by
    have h : Bool.rec false (allTrue l) (isTrueA y.1) = true := h
    cases hy : isTrueA y.1 with
    | false => rw [hy] at h; cases h
    | true =>
      rw [hy] at h
      rcases List.mem_cons.1 hx with rfl | hx
      · exact isTrueA_eq hy
      · exact allTrue_spec h x hx
theorem chkT_spec {a : Ans} (h : chkT a = true) : ∃ l, Le l a ∧ ∀ x ∈ l, x.1 = .bool true := by
  cases a with
  | no w n => cases h
  | outs l => exact ⟨l, ⟨l, rfl, fun x hx => hx⟩, allTrue_spec h⟩

/-- It comes to true, and leaves what was there. -/
def TrueRet (w : World) (e : Ending) (w' : World) : Prop := e = .returned (.bool true) ∧ Below w.heap.size w w'
/-- What may be told of functions elsewhere. -/
def Told (C : Cf) (W0 : World) : Prop := ∀ fi, 2 ≤ C.mg fi → ∀ w : World, (∀ b, b < glim → w.heap[b]? = W0.heap[b]?) → Calls C.P fi #[] w (TrueRet w)
theorem Told.sum {C : Cf} {W0 : World} {Gd : Machine → Prop} (h : Told C W0) (hGs : ∀ m m', Steps C.P m m' → Gd m' → Gd m) : SumOk W0 C Gd := by
  intro fi hfi c cs w hw hk
  obtain ⟨e, w', fr, ⟨rfl, hb⟩, h1, h2, h3⟩ := h fi hfi w hw (c :: cs)
  exact hGs _ _ h1 (hGs _ _ (Steps.one (step_leave_returned h3)) (hk w' hb))
/-- THE EVALUATOR IS RIGHT: where all its outcomes are true, the call comes to true. -/
theorem run_calls {C : Cf} (hmix : C.P.follows .mixedOrders = true) (hE : ExtOk C) {W0 : World} (htold : Told C W0) {fuel : Nat} {fi : FuncId} {s : St} (hx : extB C.P fi = 0) (hm : C.mg fi = 0) (hrun : chkT (run C fuel fi [] s) = true)
    {w : World} (hs : StartOk s w) (hw : ∀ b, b < glim → w.heap[b]? = W0.heap[b]?) (hsize : glim ≤ w.heap.size) : Calls C.P fi #[] w (TrueRet w) := by
  intro cs
  obtain ⟨l, hle, hall⟩ := chkT_spec hrun
  let Gd : Machine → Prop := fun m => ∃ e w' fr, TrueRet w e w' ∧ Comes C.P m (lone fr cs w') e ∧ fr.fn = fi ∧ fr.leaving C.P w' e
  have hGs : ∀ m m', Steps C.P m m' → Gd m' → Gd m := fun m m' h ⟨e, w', fr, h1, h2, h3, h4⟩ => ⟨e, w', fr, h1, Comes.of_steps h h2, h3, h4⟩
  have hG : ∀ m m', step C.P m = .next m' → Gd m' → Gd m := fun m m' h => hGs m m' (Steps.one h)
  have hgx : GX W0 (fun b => b < w.heap.size) w := ⟨fun b hb => Nat.lt_of_lt_of_le hb hsize, hw⟩
  have hrec : RecOk C Gd W0 (ev C fuel) := ev_ok hG (parts_ok hG hmix hE (htold.sum hGs)) fuel
  have hrun' : Le l (callK C (ev C fuel) fi [] s fun v s => .outs [(v, s)]) := hle
  unfold callK at hrun'
  rw [hx] at hrun'
  obtain ⟨fn, hfn, h1⟩ := le_optK hrun'
  unfold callB at h1
  rw [hm] at h1
  have h1 : Le l (bodyK C.P (ev C fuel) fi fn [] s fun v s => .outs [(v, s)]) := h1
  have := body_top (D := DRel) (Gd := Gd) (cs := cs) hG dRel_mono dRel_zero (dfr_ok hG (late_ok hG hgx hrec)) (fun b cs hb => hrec l _ w b cs hgx (.inl hb)) hfn h1 hs.sim trivial fun v s' I' w' fr he hS' hv hl hleave hfr => by
    obtain ⟨l', hl1, hl2⟩ := hl
    cases hl1
    have hv' := hall _ (hl2 _ (List.mem_cons_self ..))
    have hv' : v = .bool true := hv'
    subst hv'
    exact ⟨_, w', fr, ⟨rfl, hS'.os, hS'.tape, hS'.out, hS'.size, fun k hk => (hS'.keep k hk).2⟩, Steps.refl _ _, hfr, hleave⟩
  exact this
end Go.Proofs.YtajdeaabgplacaaGreatDoor.Sev

namespace Go.Proofs.YtajdeaabgplacaaGreatDoor.Sev
open Go Go.RowKit
set_option linter.unusedVariables false
variable {L : List (AV × St)}
/-- It stands by itself: no other object is asked. -/
def plainO : AO → Bool
  | .cells .. | .map .. | .snap .. => true
  | _ => false
/-- It knows less, or the same. -/
def Less (o q : AO) : Prop := o = q ∨ (∃ c c' n t op st el fz, o = .cells c n t op st el fz ∧ q = .cells c' n t op st el fz ∧ ∀ i a, Has c i a → Has c' i a) ∨ ∃ es ver ver', o = .map es ver ∧ q = .map es ver' ∧ ver ≤ ver'
theorem Less.like {o q : AO} (h : Less o q) : holds o = holds q ∧ elders o = elders q ∧ isStale o = isStale q ∧ kO o = kO q := by
  rcases h with rfl | ⟨_, _, _, _, _, _, _, _, rfl, rfl, _⟩ | ⟨_, _, _, rfl, rfl, _⟩ <;> exact ⟨rfl, rfl, rfl, rfl⟩
section
variable {P : Program} {X : Nat → Prop} {W : World}
theorem Sim.less {I : Itp} {H H' : Nat → AO → Prop} {n fl : Nat} {w : World} (h : Sim P X W I H n fl w) (hs : ∀ b o, H' b o → plainO o = true ∧ ∃ q, H b q ∧ Less o q) (hu : ∀ b o q, H' b o → H' b q → o = q) : Sim P X W I H' n fl w := by
  refine { os := h.os, tape := h.tape, out := h.out, size := h.size, glob := h.glob, keep := h.keep, uniq := hu, low := fun b o hb => ?_, obj := fun b o hb => ?_, apart := fun b o c q hb hc hne h1 h2 e => ?_, away := fun b o hb ho hf => ?_ }
  · obtain ⟨_, q, hq, _⟩ := hs b o hb; exact h.low b q hq
  · obtain ⟨hp, q, hq, hl⟩ := hs b o hb
    have hob := h.obj b q hq
    rcases hl with rfl | ⟨c, c', k, t, op, st, el, fz, rfl, rfl, hc⟩ | ⟨es, ver, ver', rfl, rfl, hv⟩
    · cases o <;> first | exact hob | cases hp
    · obtain ⟨cs, lo, hi, k1, k2, k3, k4, k5, k6, k7⟩ := hob
      exact ⟨cs, lo, hi, k1, fun i a hi => k2 i a (hc i a hi), k3, k4, k5, k6, k7⟩
    · obtain ⟨h1, h2⟩ := hob
      exact ⟨Nat.lt_of_le_of_lt hv h1, h2⟩
  · obtain ⟨_, o', ho', l1⟩ := hs b o hb
    obtain ⟨_, q', hq', l2⟩ := hs c q hc
    obtain ⟨e1, e2, e3, e4⟩ := l1.like
    obtain ⟨f1, f2, f3, f4⟩ := l2.like
    rw [e1] at h1
    rw [f1] at h2
    unfold Under
    rw [e2, e3, e4, f2, f3, f4]
    exact h.apart b o' c q' ho' hq' hne h1 h2 e
  · obtain ⟨_, o', ho', l1⟩ := hs b o hb
    rw [l1.like.1] at ho
    exact h.away b o' ho' ho hf
end

/-! ### a literal of a state -/
/-- An object of a literal: a row of cells, a map, a great aggregate. -/
inductive LO where
  | cells (l : List AV) (t : TypeId) (op st : Bool) (el : List Nat) (fz : Bool)
  | map (es : List (AV × AV)) (ver : Nat)
  | snap (l : List AV)
  | tree (c : Tr AV) (n : Nat) (t : TypeId) (op st : Bool) (el : List Nat) (fz : Bool)
  | bare (n : Nat) (t : TypeId) (op st : Bool) (el : List Nat) (fz : Bool)
noncomputable section
def LO.ao : LO → AO
  | .cells l t op st el fz => .cells (rowL l) l.length t op st el fz
  | .map es ver => .map es ver
  | .snap l => .snap (rowL l) l.length
  | .tree c n t op st el fz => .cells c n t op st el fz
  | .bare n t op st el fz => .cells .lf n t op st el fz
def boolEq (a b : Bool) : Bool := Bool.rec (Bool.rec true false b) (Bool.rec false true b) a
/-- From i on the cells are these. -/
def cellsAtK (c : Tr AV) (l : List AV) : Nat → Ans → Ans :=
  List.rec (fun _ k => k) (fun v _ ih i k => getK c i fun u => ifK (avSame u v) (ih (Nat.succ i) k) (.no "cut: a cell" i)) l
def entsSame (a : List (AV × AV)) : List (AV × AV) → Bool :=
  List.rec (fun b => List.rec true (fun _ _ _ => false) b) (fun x _ ih b => List.rec false (fun y l _ => Bool.rec false (Bool.rec false (ih l) (avSame x.2 y.2)) (avSame x.1 y.1)) b) a
/-- The same tree. -/
def treeSame (a : Tr AV) : Tr AV → Bool :=
  Tr.rec (fun b => Tr.rec true (fun _ _ _ _ _ => false) b) (fun _ x _ hl hr b => Tr.rec false (fun l y r _ _ => Bool.rec false (Bool.rec false (hr r) (hl l)) (avSame x y)) b) a
/-- The object is as the literal tells. -/
def likeK (b : Nat) (o : AO) (x : LO) (k : Ans) : Ans :=
  match x with
  | .cells l t op st el fz => (match o with
    | .cells c n t' op' st' el' fz' => lenK l fun m => ifK (Nat.beq m n && Nat.beq t t' && boolEq op op' && boolEq st st' && natLEq el el' && boolEq fz fz') (cellsAtK c l 0 k) (.no "cut: a row" b)
    | _ => .no "cut: no row" b)
  | .map es ver => (match o with
    | .map es' ver' => ifK (Nat.ble ver ver' && entsSame es es') k (.no "cut: a map" b)
    | _ => .no "cut: no map" b)
  | .snap _ => .no "cut: snap" b
  | .tree c n t op st el fz => (match o with
    | .cells c' n' t' op' st' el' fz' => ifK (Nat.beq n n' && Nat.beq t t' && boolEq op op' && boolEq st st' && natLEq el el' && boolEq fz fz' && treeSame c c') k (.no "cut: a tree" b)
    | _ => .no "cut: no tree" b)
  | .bare n t op st el fz => (match o with
    | .cells c' n' t' op' st' el' fz' => ifK (Nat.beq n n' && Nat.beq t t' && boolEq op op' && boolEq st st' && natLEq el el' && boolEq fz fz') k (.no "cut: a bare row" b)
    | _ => .no "cut: no bare row" b)
/-- All of the literal's objects are there. -/
def likeAllK (s : St) (l : List (Nat × LO)) : Ans → Ans :=
  List.rec (fun k => k) (fun x _ ih k => objK s x.1 fun o => likeK x.1 o x.2 (ih k)) l
/-- A memory that has just these. -/
def memK (l : List (Nat × LO)) : HT → (HT → Ans) → Ans :=
  List.rec (fun h k => k h) (fun x _ ih h k => setH h x.1 x.2.ao fun h' => ih h' k) l
/-- The temporaries are these. -/
def likeFK (f : Fr) (vals : List AV) (k : Ans) : Ans := cellsAtK f.tm vals 0 k
end
theorem boolEq_eq {a b : Bool} (h : boolEq a b = true) : a = b := by cases a <;> cases b <;> first | rfl | cases h
theorem le_cellsAtK {c : Tr AV} {k : Ans} : ∀ {l : List AV} {i : Nat}, Le L (cellsAtK c l i k) → (∀ j v, l[j]? = some v → Has c (i + j) v) ∧ Le L k
  | [], i, h => ⟨fun j v hj => (by simp at hj), h⟩
  | x :: l, i, h => by
    obtain ⟨u, hu, h1⟩ := le_getK (k := fun u => ifK (avSame u x) (cellsAtK c l (Nat.succ i) k) (.no "cut: a cell" i)) h
    obtain ⟨h2, h3⟩ := le_ifN h1
    obtain rfl := avSame_eq h2
    obtain ⟨h4, h5⟩ := le_cellsAtK h3
    refine ⟨fun j v hj => ?_, h5⟩
    cases j with
    | zero => simp at hj; subst hj; exact hu
    | succ j =>
      have := h4 j v (by simpa using hj)
      rwa [show Nat.succ i + j = i + (j + 1) from by omega] at this
theorem entsSame_eq : ∀ {a b : List (AV × AV)}, entsSame a b = true → a = b
  | [], [], _ => rfl
  | [], _ :: _, h => (Bool.false_ne_true h).elim
  | _ :: _, [], h => (Bool.false_ne_true h).elim
  | (x1, x2) :: a, (y1, y2) :: b, h => by
    have h : (Bool.rec false (Bool.rec false (entsSame a b) (avSame x2 y2) : Bool) (avSame x1 y1) : Bool) = true := h
    obtain ⟨h1, h2⟩ := band h
    obtain ⟨h3, h4⟩ := band h2
    rw [avSame_eq h1, avSame_eq h3, entsSame_eq h4]
theorem treeSame_eq : ∀ {a b : Tr AV}, treeSame a b = true → a = b
  | .lf, .lf, _ => rfl
  | .lf, .nd .., h => (Bool.false_ne_true h).elim
  | .nd .., .lf, h => (Bool.false_ne_true h).elim
  | .nd l x r, .nd l' y r', h => by
    have h : (Bool.rec false (Bool.rec false (treeSame r r') (treeSame l l') : Bool) (avSame x y) : Bool) = true := h
    obtain ⟨h1, h2⟩ := band h
    obtain ⟨h3, h4⟩ := band h2
    rw [avSame_eq h1, treeSame_eq h3, treeSame_eq h4]
theorem le_likeK {b : Nat} {o : AO} {x : LO} {k : Ans} (h : Le L (likeK b o x k)) : plainO x.ao = true ∧ Less x.ao o ∧ Le L k := by
  cases x with
  | cells l t op st el fz =>
    unfold likeK at h
    simp only at h
    split at h
    · rename_i c n t' op' st' el' fz'
      obtain ⟨h1, h2⟩ := le_ifN (le_lenK h)
      simp only [Bool.and_eq_true] at h1
      obtain ⟨⟨⟨⟨⟨e1, e2⟩, e3⟩, e4⟩, e5⟩, e6⟩ := h1
      obtain rfl := Nat.eq_of_beq_eq_true e1
      obtain rfl := Nat.eq_of_beq_eq_true e2
      obtain rfl := boolEq_eq e3
      obtain rfl := boolEq_eq e4
      obtain rfl := natLEq_eq e5
      obtain rfl := boolEq_eq e6
      obtain ⟨h3, h4⟩ := le_cellsAtK h2
      refine ⟨rfl, .inr (.inl ⟨_, _, _, _, _, _, _, _, rfl, rfl, fun i a hi => ?_⟩), h4⟩
      have := h3 i a (has_rowL hi)
      rwa [Nat.zero_add] at this
    · exact h.no.elim
  | map es ver =>
    unfold likeK at h
    simp only at h
    split at h
    · obtain ⟨h1, h2⟩ := le_ifN h
      rw [Bool.and_eq_true] at h1
      obtain rfl := entsSame_eq h1.2
      exact ⟨rfl, .inr (.inr ⟨_, _, _, rfl, rfl, Nat.le_of_ble_eq_true h1.1⟩), h2⟩
    · exact h.no.elim
  | snap l => exact (Le.no h).elim
  | tree c n t op st el fz =>
    unfold likeK at h
    simp only at h
    split at h
    · rename_i c' n' t' op' st' el' fz'
      obtain ⟨h1, h2⟩ := le_ifN h
      simp only [Bool.and_eq_true] at h1
      obtain ⟨⟨⟨⟨⟨⟨e1, e2⟩, e3⟩, e4⟩, e5⟩, e6⟩, e7⟩ := h1
      obtain rfl := Nat.eq_of_beq_eq_true e1
      obtain rfl := Nat.eq_of_beq_eq_true e2
      obtain rfl := boolEq_eq e3
      obtain rfl := boolEq_eq e4
      obtain rfl := natLEq_eq e5
      obtain rfl := boolEq_eq e6
      obtain rfl := treeSame_eq e7
      exact ⟨rfl, .inl rfl, h2⟩
    · exact h.no.elim
  | bare n t op st el fz =>
    unfold likeK at h
    simp only at h
    split at h
    · rename_i c' n' t' op' st' el' fz'
      obtain ⟨h1, h2⟩ := le_ifN h
      simp only [Bool.and_eq_true] at h1
      obtain ⟨⟨⟨⟨⟨e1, e2⟩, e3⟩, e4⟩, e5⟩, e6⟩ := h1
      obtain rfl := Nat.eq_of_beq_eq_true e1
      obtain rfl := Nat.eq_of_beq_eq_true e2
      obtain rfl := boolEq_eq e3
      obtain rfl := boolEq_eq e4
      obtain rfl := natLEq_eq e5
      obtain rfl := boolEq_eq e6
      exact ⟨rfl, .inr (.inl ⟨_, _, _, _, _, _, _, _, rfl, rfl, fun i a hi => (has_lf hi).elim⟩), h2⟩
    · exact h.no.elim
theorem le_likeAllK {s : St} {k : Ans} : ∀ {l : List (Nat × LO)}, Le L (likeAllK s l k) → (∀ x ∈ l, plainO x.2.ao = true ∧ ∃ q, Has s.h x.1 q ∧ Less x.2.ao q) ∧ Le L k
  | [], h => ⟨fun x hx => (by cases hx), h⟩
  | x :: l, h => by
    obtain ⟨o, ho, h1⟩ := le_objK h
    obtain ⟨h2, h3, h4⟩ := le_likeK h1
    obtain ⟨h5, h6⟩ := le_likeAllK h4
    refine ⟨fun y hy => ?_, h6⟩
    rcases List.mem_cons.1 hy with rfl | hy
    · exact ⟨h2, o, ho, h3⟩
    · exact h5 y hy
theorem le_memK {K : HT → Ans} : ∀ {l : List (Nat × LO)} {h : HT}, Le L (memK l h K) → ∃ h', (∀ b o, Has h' b o → (∃ x ∈ l, x.1 = b ∧ x.2.ao = o) ∨ Has h b o) ∧ Le L (K h')
  | [], h, hl => ⟨h, fun b o hb => .inr hb, hl⟩
  | x :: l, h, hl => by
    obtain ⟨h1, hu, h2⟩ := le_setH (k := fun h' => memK l h' K) hl
    obtain ⟨h', h3, h4⟩ := le_memK h2
    refine ⟨h', fun b o hb => ?_, h4⟩
    rcases h3 b o hb with ⟨y, hy, e1, e2⟩ | hb
    · exact .inl ⟨y, List.mem_cons_of_mem _ hy, e1, e2⟩
    · by_cases e : b = x.1
      · subst e
        exact .inl ⟨x, List.mem_cons_self .., rfl, hu.1.uniq hb⟩
      · exact .inr ((hu.2 b o e).1 hb)
theorem has_nil7 {b : Nat} {o : AO} (h : Has (mk7 nil7) b o) : False := by
  have h : look7 b nil7 = some o := h.2
  rw [look_nil7] at h
  cases h
/-- A literal of a state and a frame. -/
structure Lit where
  vals : List AV
  objs : List (Nat × LO)
  nx : Nat
  fl : Nat
noncomputable section
/-- The first half ends here: is all as the literal tells? -/
def cutK (x : Lit) (f : Fr) (s : St) : Ans :=
  St.rec (fun h nx fl => Fr.rec (fun fn tm dl rd => List.rec (Option.rec (ifK (Nat.beq nx x.nx && Nat.beq fl x.fl) (cellsAtK tm x.vals 0 (likeAllK s x.objs (.outs []))) (.no "cut: names" nx)) (fun _ => .no "cut: a round" 0) rd) (fun _ _ _ => .no "cut: it waits" 0) dl) f) s
/-- The second half begins here. -/
def goOnK (x : Lit) (fi : FuncId) (k : Fr → St → Ans) : Ans := memK x.objs (mk7 nil7) fun h => natK x.nx fun n => k ⟨fi, rowL x.vals, [], none⟩ ⟨h, n, x.fl⟩
end
theorem le_cutK {x : Lit} {f : Fr} {s : St} (h : Le L (cutK x f s)) : f.dl = [] ∧ f.rd = none ∧ s.nx = x.nx ∧ s.fl = x.fl ∧ (∀ j v, x.vals[j]? = some v → Has f.tm j v) ∧ ∀ y ∈ x.objs, plainO y.2.ao = true ∧ ∃ q, Has s.h y.1 q ∧ Less y.2.ao q := by
  obtain ⟨hh, nx, fl⟩ := s
  obtain ⟨fn, tm, dl, rd⟩ := f
  cases dl with
  | cons a b => exact (Le.no h).elim
  | nil =>
    cases rd with
    | some b => exact (Le.no h).elim
    | none =>
      obtain ⟨h1, h2⟩ := le_ifN h
      rw [Bool.and_eq_true] at h1
      obtain ⟨h3, h4⟩ := le_cellsAtK h2
      obtain ⟨h5, _⟩ := le_likeAllK h4
      exact ⟨rfl, rfl, Nat.eq_of_beq_eq_true h1.1, Nat.eq_of_beq_eq_true h1.2, fun j v hj => by have := h3 j v hj; rwa [Nat.zero_add] at this, h5⟩
/-- Where the first half ends as the literal tells, the second one may begin from the literal. -/
theorem cut_on {P : Program} {X : Nat → Prop} {W : World} {D : Nat → Itp → List DI → List Deferred → Prop} (hD0 : ∀ n I, D n I [] []) {x : Lit} {f : Fr} {s : St} {I : Itp} {w : World} {b : Frame} {a : Act} {k : Fr → St → Ans} {L' : List (AV × St)}
    (h : Le L (cutK x f s)) (hS : SimS P X W I s w) (hF : FR D b a f s.nx I) (hd : a.defers = []) (h2 : Le L' (goOnK x f.fn k)) :
    ∃ f' s', SimS P X W I s' w ∧ FR D b a f' s'.nx I ∧ f'.fn = f.fn ∧ s'.nx = s.nx ∧ s'.fl = s.fl ∧ Le L' (k f' s') := by
  obtain ⟨e1, e2, e3, e4, e5, e6⟩ := le_cutK h
  obtain ⟨h', h3, h4⟩ := le_memK h2
  have h4 := le_natK (k := fun n => k ⟨f.fn, rowL x.vals, [], none⟩ ⟨h', n, x.fl⟩) h4
  refine ⟨⟨f.fn, rowL x.vals, [], none⟩, ⟨h', x.nx, x.fl⟩, ?_, ⟨hF.fn, fun t u ht => ?_, ?_, ?_⟩, rfl, e3.symm, e4.symm, h4⟩
  · show Sim P X W I (Has h') x.nx x.fl w
    rw [← e3, ← e4]
    refine Sim.less hS (fun b o hb => ?_) (fun b o q ho hq => ho.uniq hq)
    rcases h3 b o hb with ⟨y, hy, rfl, rfl⟩ | hb
    · exact e6 y hy
    · exact (has_nil7 hb).elim
  · have := hF.tm t u (e5 t u (has_rowL ht))
    show a.tmps[t]? = some (conc I u) ∧ ok x.nx I u
    rw [← e3]
    exact this
  · rw [hd]; exact hD0 _ _
  · have hr := hF.rd
    rw [e2] at hr
    exact hr
end Go.Proofs.YtajdeaabgplacaaGreatDoor.Sev

namespace Go.Proofs.YtajdeaabgplacaaGreatDoor.Sev
open Go Go.RowKit
set_option linter.unusedVariables false
noncomputable section
/-- No way. -/
def noX : Nat → Fr → St → Ans := fun _ _ _ => .no "exit out of a part" 0
def noR : Fr → St → Ans := fun _ _ => .no "return out of a part" 0
/-- The last part: the function's end. -/
def lastK (C : Cf) (rec : Rec) (fn : Func) (y : Code) (f : Fr) (s : St) : Ans :=
  rec y f s (fun f s => leaveK C.P rec fn f s fun v s => .outs [(v, s)]) noX (fun f s => leaveK C.P rec fn f s fun v s => .outs [(v, s)])
/-- The first frame. -/
def firstK (fi : FuncId) (fn : Func) (s : St) (k : Fr → St → Ans) : Ans := argsK [] (mkF fn.ntmps) 0 fun tm => k ⟨fi, tm, [], none⟩ s
end
/-- Each part of the code, from its literal to the next one. -/
def Parts (C : Cf) (rec : Rec) (fi : FuncId) (fn : Func) (l : List (AV × St)) : Code → List Lit → ((Fr → St → Ans) → Ans) → Prop
  | y, [], start => Le l (start (lastK C rec fn y))
  | .seq x y, lit :: ls, start => Le [] (start fun f s => rec x f s (cutK lit) noX noR) ∧ Parts C rec fi fn l y ls (goOnK lit fi)
  | _, _ :: _, _ => False
theorem parts_top {C : Cf} {rec : Rec} {Gd : Machine → Prop} {X : Nat → Prop} {W : World} (hG : ∀ m m', step C.P m = .next m' → Gd m' → Gd m) (hdfr : ∀ L, DfrOk L DRel C rec Gd X W) (hrec : ∀ L b cs, b.kind = .normal → ∀ c, CodeOk DRel C Gd L X W b cs (rec c) c)
    {fi : FuncId} {fn : Func} (hfn : C.P.funcs[fi]? = some fn) {cs : List Frame} {b : Frame} (hbf : b.fn = fi) (hbk : b.kind = .normal) (hbr : b.roundOf = none) {l : List (AV × St)}
    (hk : ∀ v s' I' w' fr, SimS C.P X W I' s' w' → ok s'.nx I' v → (v, s') ∈ l → fr.leaving C.P w' (.returned (conc I' v)) → fr.fn = fi → Gd (lone fr cs w')) :
    ∀ (ls : List Lit) (y : Code) (start : (Fr → St → Ans) → Ans) (I : Itp) (w : World) (a : Act), a.defers = [] → Parts C rec fi fn l y ls start →
      (∀ (L' : List (AV × St)) (k : Fr → St → Ans), Le L' (start k) → ∃ f s, SimS C.P X W I s w ∧ FR DRel b a f s.nx I ∧ Le L' (k f s)) → Gd (lone (Fm b a [.code y]) cs w) := by
  have leave : ∀ f' s' I' w' a' todo, SimS C.P X W I' s' w' → FR DRel b a' f' s'.nx I' → Le l (leaveK C.P rec fn f' s' fun v s => .outs [(v, s)]) → Gd (lone { Fm b a' todo with mode := .returning } cs w') := by
    intro f' s' I' w' a' todo hS' hF' hl
    refine hdfr l { Fm b a' todo with mode := .returning } cs f'.dl s' I' w' _ rfl hbk hF'.dl hS' hl fun s2 I2 w2 he2 hS2 hl2 => ?_
    obtain ⟨vs, h3, h4, h5⟩ := run_results (tmps := a'.tmps) hS2 (hF'.later dRel_mono he2).tm hl2
    obtain ⟨l', hl1, hl2⟩ := h4
    cases hl1
    exact hk _ s2 I2 w2 _ hS2 h3 (hl2 _ (List.mem_cons_self ..)) ⟨rfl, rfl, hbk, fn, by show C.P.funcs[b.fn]? = some fn; rw [hbf]; exact hfn, h5⟩ hbf
  intro ls
  induction ls with
  | nil =>
    intro y start I w a hd hp hst
    have hp : Le l (start (lastK C rec fn y)) := by
      cases y <;> exact hp
    obtain ⟨f, s, hS, hF, hl⟩ := hst l _ hp
    exact code_gd hG (hrec l b cs hbk y) hl hS hF (fun f' s' I' w' a' he hS' hF' hl => hG _ _ (mv_end hbr) (leave f' s' I' w' a' _ hS' hF' hl))
      (fun id f' s' I' w' a' he hS' hF' hl => hl.no.elim) (fun f' s' I' w' a' he hS' hF' hl k0 => ⟨_, leave f' s' I' w' a' _ hS' hF' hl, mv_ret hbr⟩)
  | cons lit ls ih =>
    intro y start I w a hd hp hst
    cases y <;> first | exact hp.elim | skip
    rename_i x y
    obtain ⟨hp1, hp2⟩ := hp
    obtain ⟨f, s, hS, hF, hl⟩ := hst [] _ hp1
    refine hG _ _ mv_seq (code_gd hG (hrec [] b cs hbk x) hl hS hF (fun f' s' I' w' a' he hS' hF' hl' => ?_) (fun id f' s' I' w' a' he hS' hF' hl => hl.no.elim) (fun f' s' I' w' a' he hS' hF' hl k0 => hl.no.elim))
    have hd' : a'.defers = [] := by
      have hdl := hF'.dl
      rw [(le_cutK hl').1] at hdl
      cases hda : a'.defers with
      | nil => rfl
      | cons u v => rw [hda] at hdl; exact hdl.elim
    refine ih y _ I' w' a' hd' hp2 fun L' k hgo => ?_
    rw [show fi = f'.fn from by rw [← hF'.fn, hbf]] at hgo
    obtain ⟨f2, s2, h1, h2, _, _, _, h6⟩ := cut_on (P := C.P) dRel_zero hl' hS' hF' hd' hgo
    exact ⟨f2, s2, h1, h2, h6⟩
/-- THE EVALUATOR IS RIGHT, part by part. -/
theorem cut_calls {C : Cf} (hmix : C.P.follows .mixedOrders = true) (hE : ExtOk C) {W0 : World} (htold : Told C W0) {fuel : Nat} {fi : FuncId} {fn : Func} {body : Code} {s : St} (hfn : C.P.funcs[fi]? = some fn) (hb : fn.body = some body) {ls : List Lit} {l : List (AV × St)}
    (hp : Parts C (ev C fuel) fi fn l body ls (firstK fi fn s)) (hall : ∀ x ∈ l, x.1 = .bool true)
    {w : World} (hs : StartOk s w) (hw : ∀ b, b < glim → w.heap[b]? = W0.heap[b]?) (hsize : glim ≤ w.heap.size) : Calls C.P fi #[] w (TrueRet w) := by
  intro cs
  let Gd : Machine → Prop := fun m => ∃ e w' fr, TrueRet w e w' ∧ Comes C.P m (lone fr cs w') e ∧ fr.fn = fi ∧ fr.leaving C.P w' e
  have hGs : ∀ m m', Steps C.P m m' → Gd m' → Gd m := fun m m' h ⟨e, w', fr, h1, h2, h3, h4⟩ => ⟨e, w', fr, h1, Comes.of_steps h h2, h3, h4⟩
  have hG : ∀ m m', step C.P m = .next m' → Gd m' → Gd m := fun m m' h => hGs m m' (Steps.one h)
  have hgx : GX W0 (fun b => b < w.heap.size) w := ⟨fun b hb => Nat.lt_of_lt_of_le hb hsize, hw⟩
  have hrec : RecOk C Gd W0 (ev C fuel) := ev_ok hG (parts_ok hG hmix hE (htold.sum hGs)) fuel
  have hov0 : ∀ (L' : List (AV × St)) (k : Fr → St → Ans), Le L' (firstK fi fn s k) → Le L' (k ⟨fi, mkF fn.ntmps, [], none⟩ s) := fun L' k h => h
  obtain ⟨a, e1, e2, hF⟩ := enter_frame (D := DRel) (P := C.P) (I := I0) (n := s.nx) (args := []) (c := mkF fn.ntmps) dRel_zero hfn hb (fun j u hj => .inr ⟨fun hh => by simp at hh, hj⟩) trivial
  have hbf : (Frame.enter C.P fi (concL I0 []).toArray .normal).fn = fi := rfl
  have hbk : (Frame.enter C.P fi (concL I0 []).toArray .normal).kind = .normal := rfl
  have hbr : (Frame.enter C.P fi (concL I0 []).toArray .normal).roundOf = none := rfl
  show Gd (lone (Frame.enter C.P fi (concL I0 []).toArray .normal) cs w)
  rw [e1]
  generalize Frame.enter C.P fi (concL I0 []).toArray .normal = b at *
  refine parts_top hG (fun L => dfr_ok hG (late_ok hG hgx hrec)) (fun L b cs hb => hrec L _ w b cs hgx (.inl hb)) hfn hbf hbk hbr (fun v s' I' w' fr hS' hv hm hleave hfr => ?_) ls body _ I0 w a e2 hp fun L' k hl => ⟨_, s, hs.sim, hF, hov0 L' k hl⟩
  have hv' : v = .bool true := hall _ hm
  subst hv'
  exact ⟨_, w', fr, ⟨rfl, hS'.os, hS'.tape, hS'.out, hS'.size, fun k hk => (hS'.keep k hk).2⟩, Steps.refl _ _, hfr, hleave⟩
end Go.Proofs.YtajdeaabgplacaaGreatDoor.Sev

namespace Go.Proofs.YtajdeaabgplacaaGreatDoor.Sev
open Go Go.RowKit
set_option linter.unusedVariables false
noncomputable section
/-- All that is left to do. -/
def stackK (rec : Rec) (fin : Fr → St → Ans) (fuel : Nat) : List Item → Fr → St → Ans :=
  Nat.rec (fun _ _ _ => .no "stack" 0) (fun _ ih k f s => match k with
    | [] => fin f s
    | .code c :: k => rec c f s (ih k) (fun id f s => ifK (Nat.blt id gotoBase) (optK (exitTo id k) "exit" fun k' => ih k' f s) (.no "goto" id)) fin
    | .inBlock _ :: k => ih k f s
    | .inScope _ :: k => ih k f s
    | .inLoop c :: k => ih (.code c :: .inLoop c :: k) f s
    | _ => .no "stack" 1) fuel
/-- So many rounds, and a cut. -/
def roundsK (rec : Rec) (c : Code) (lit : Lit) (r : Nat) : Fr → St → Ans := Nat.rec (cutK lit) (fun _ ih f s => rec c f s ih noX noR) r
/-- A stack's first items, and a cut. -/
def aheadK (rec : Rec) (lit : Lit) (fuel : Nat) : List Item → Fr → St → Ans :=
  Nat.rec (fun _ _ _ => .no "stack" 0) (fun _ ih k f s => match k with
    | [] => cutK lit f s
    | .code c :: k => rec c f s (ih k) (fun id f s => ifK (Nat.blt id gotoBase) (optK (exitTo id k) "exit" fun k' => ih k' f s) (.no "goto" id)) noR
    | .inBlock _ :: k => ih k f s
    | .inScope _ :: k => ih k f s
    | .inLoop c :: k => ih (.code c :: .inLoop c :: k) f s
    | _ => .no "stack" 1) fuel
/-- No outcome, and no failure: a part has come to its cut. -/
def isCut (a : Ans) : Bool := Ans.rec (fun _ _ => false) (fun l => List.rec true (fun _ _ _ => false) l) a
def endF (C : Cf) (rec : Rec) (fn : Func) (f : Fr) (s : St) : Ans := leaveK C.P rec fn f s fun v s => .outs [(v, s)]
end
theorem isCut_le {a : Ans} (h : isCut a = true) : Le [] a := by
  cases a with
  | no w n => cases h
  | outs l => cases l with
    | nil => exact ⟨[], rfl, fun x hx => hx⟩
    | cons x l => cases h
/-- What is carried out ahead of a cut, out of a stack whose sequences are opened as they come up; what is left behind. -/
inductive Spine : List Item → List Item → List Item → Prop
  | nil {k : List Item} : Spine [] k k
  | cons {it : Item} {ks k k2 : List Item} : Spine ks k k2 → Spine (it :: ks) (it :: k) k2
  | seq {x y : Code} {ks k k2 : List Item} : Spine ks (.code x :: .code y :: k) k2 → Spine ks (.code (.seq x y) :: k) k2
/-- Parts of a run. -/
inductive PartsS (C : Cf) (rec : Rec) (fi : FuncId) (fn : Func) (l : List (AV × St)) : List Item → ((Fr → St → Ans) → Ans) → Prop
  | last {k : List Item} {start : (Fr → St → Ans) → Ans} (fuel : Nat) : Le l (start (stackK rec (endF C rec fn) fuel k)) → PartsS C rec fi fn l k start
  | seq {x y : Code} {k : List Item} {start : (Fr → St → Ans) → Ans} : PartsS C rec fi fn l (.code x :: .code y :: k) start → PartsS C rec fi fn l (.code (.seq x y) :: k) start
  | block {id : Nat} {c : Code} {k : List Item} {start : (Fr → St → Ans) → Ans} : PartsS C rec fi fn l (.code c :: .inBlock id :: k) start → PartsS C rec fi fn l (.code (.block id c) :: k) start
  | scope {c : Code} {k : List Item} {start : (Fr → St → Ans) → Ans} : PartsS C rec fi fn l (.code c :: .inScope c :: k) start → PartsS C rec fi fn l (.code (.scope c) :: k) start
  | loop {c : Code} {k : List Item} {start : (Fr → St → Ans) → Ans} : PartsS C rec fi fn l (.code c :: .inLoop c :: k) start → PartsS C rec fi fn l (.code (.loop c) :: k) start
  | inLoop {c : Code} {k : List Item} {start : (Fr → St → Ans) → Ans} : PartsS C rec fi fn l (.code c :: .inLoop c :: k) start → PartsS C rec fi fn l (.inLoop c :: k) start
  | inBlock {id : Nat} {k : List Item} {start : (Fr → St → Ans) → Ans} : PartsS C rec fi fn l k start → PartsS C rec fi fn l (.inBlock id :: k) start
  | inScope {c : Code} {k : List Item} {start : (Fr → St → Ans) → Ans} : PartsS C rec fi fn l k start → PartsS C rec fi fn l (.inScope c :: k) start
  | code {x : Code} {k : List Item} {start : (Fr → St → Ans) → Ans} (lit : Lit) : Le [] (start fun f s => rec x f s (cutK lit) noX noR) → PartsS C rec fi fn l k (goOnK lit fi) → PartsS C rec fi fn l (.code x :: k) start
  | ahead {k k2 : List Item} {start : (Fr → St → Ans) → Ans} (ks : List Item) (fuel : Nat) (lit : Lit) : Spine ks k k2 → Le [] (start (aheadK rec lit fuel ks)) → PartsS C rec fi fn l k2 (goOnK lit fi) → PartsS C rec fi fn l k start
  | rounds {c : Code} {k : List Item} {start : (Fr → St → Ans) → Ans} (r : Nat) (lit : Lit) : Le [] (start (roundsK rec c lit r)) → PartsS C rec fi fn l (.inLoop c :: k) (goOnK lit fi) → PartsS C rec fi fn l (.inLoop c :: k) start
theorem PartsS.is {C : Cf} {rec : Rec} {fi : FuncId} {fn : Func} {l : List (AV × St)} {c c' : Code} {k : List Item} {start : (Fr → St → Ans) → Ans} (h : c = c') (hp : PartsS C rec fi fn l (.code c' :: k) start) : PartsS C rec fi fn l (.code c :: k) start := by
  subst h
  exact hp
section
variable {C : Cf} {rec : Rec} {Gd : Machine → Prop} {X : Nat → Prop} {W : World} {b : Frame} {cs : List Frame} {fi : FuncId} {fn : Func} {l : List (AV × St)}
theorem stack_gd (hG : ∀ m m', step C.P m = .next m' → Gd m' → Gd m) (hrec : ∀ L b cs, b.kind = .normal → ∀ c, CodeOk DRel C Gd L X W b cs (rec c) c) (hbk : b.kind = .normal) (hbr : b.roundOf = none) {fin : Fr → St → Ans}
    (leave : ∀ f' s' I' w' a' todo, SimS C.P X W I' s' w' → FR DRel b a' f' s'.nx I' → Le l (fin f' s') → Gd (lone { Fm b a' todo with mode := .returning } cs w')) :
    ∀ (fuel : Nat) (k : List Item) (f : Fr) (s : St) (I : Itp) (w : World) (a : Act), Le l (stackK rec fin fuel k f s) → SimS C.P X W I s w → FR DRel b a f s.nx I → Gd (lone (Fm b a k) cs w) := by
  intro fuel
  induction fuel with
  | zero => intro k f s I w a h; exact (Le.no h).elim
  | succ fuel ih =>
    intro k f s I w a h hS hF
    cases k with
    | nil => exact hG _ _ (mv_end hbr) (leave f s I w a _ hS hF h)
    | cons it k =>
      cases it <;> first | exact (Le.no h).elim | skip
      case code c =>
        refine code_gd hG (hrec l b cs hbk c) (kn := stackK rec fin fuel k) (kx := fun id f s => ifK (Nat.blt id gotoBase) (optK (exitTo id k) "exit" fun k' => stackK rec fin fuel k' f s) (.no "goto" id)) (kr := fin) h hS hF
          (fun f' s' I' w' a' he hS' hF' hl => ih k f' s' I' w' a' hl hS' hF') (fun id f' s' I' w' a' he hS' hF' hl => ?_) (fun f' s' I' w' a' he hS' hF' hl k0 => ⟨_, leave f' s' I' w' a' _ hS' hF' hl, mv_ret hbr⟩)
        obtain ⟨hid, hl⟩ := le_ifN hl
        obtain ⟨k', hk', hl'⟩ := le_optK hl
        refine ⟨_, ih k' f' s' I' w' a' hl' hS' hF', fun k0 hk0 => ?_⟩
        rw [jumpTo_exit hid, jumpTo_exit hid] at hk0
        rw [jumpC_exit hid]
        exact mv_exit (hk0.trans hk')
      case inBlock id => exact hG _ _ mv_inBlock (ih k f s I w a h hS hF)
      case inScope c => exact hG _ _ mv_inScope (ih k f s I w a h hS hF)
      case inLoop c => exact hG _ _ mv_inLoop (ih _ f s I w a h hS hF)
theorem rounds_gd (hG : ∀ m m', step C.P m = .next m' → Gd m' → Gd m) (hrec : ∀ L b cs, b.kind = .normal → ∀ c, CodeOk DRel C Gd L X W b cs (rec c) c) (hbk : b.kind = .normal) {c : Code} {k : List Item} {lit : Lit}
    (hcut : ∀ f' s' I' w' a', Le [] (cutK lit f' s') → SimS C.P X W I' s' w' → FR DRel b a' f' s'.nx I' → Gd (lone (Fm b a' (.inLoop c :: k)) cs w')) :
    ∀ (r : Nat) (f : Fr) (s : St) (I : Itp) (w : World) (a : Act), Le [] (roundsK rec c lit r f s) → SimS C.P X W I s w → FR DRel b a f s.nx I → Gd (lone (Fm b a (.inLoop c :: k)) cs w) := by
  intro r
  induction r with
  | zero => intro f s I w a h hS hF; exact hcut f s I w a h hS hF
  | succ r ih =>
    intro f s I w a h hS hF
    exact hG _ _ mv_inLoop (code_gd hG (hrec [] b cs hbk c) (kn := roundsK rec c lit r) (kx := noX) (kr := noR) h hS hF (fun f' s' I' w' a' he hS' hF' hl => ih f' s' I' w' a' hl hS' hF') (fun id f' s' I' w' a' he hS' hF' hl => hl.no.elim) (fun f' s' I' w' a' he hS' hF' hl k0 => hl.no.elim))
theorem spine_exit {id : Nat} {ks k k2 : List Item} (hp : Spine ks k k2) : ∀ {ks' : List Item}, exitTo id ks = some ks' → ∃ k', exitTo id k = some k' ∧ Spine ks' k' k2 := by
  induction hp with
  | nil => intro ks' h; simp [exitTo] at h
  | @cons it ks k k2 hp ih =>
    intro ks' h
    cases it <;> first | exact ih h | skip
    rename_i j
    simp only [exitTo] at h ⊢
    split at h
    · rename_i hj; rw [if_pos hj]; cases h; exact ⟨_, rfl, hp⟩
    · rename_i hj; rw [if_neg hj]; exact ih h
  | seq hp ih => intro ks' h; exact ih h
theorem spine_nil (hG : ∀ m m', step C.P m = .next m' → Gd m' → Gd m) {a : Act} {w : World} {ks k k2 : List Item} (hp : Spine ks k k2) (hn : ks = []) (hd : Gd (lone (Fm b a k2) cs w)) : Gd (lone (Fm b a k) cs w) := by
  induction hp with
  | nil => exact hd
  | cons _ _ => cases hn
  | seq _ ih => exact hG _ _ mv_seq (ih hn hd)
theorem spine_cons (hG : ∀ m m', step C.P m = .next m' → Gd m' → Gd m) {a : Act} {w : World} {ks k k2 : List Item} (hp : Spine ks k k2) : ∀ {it : Item} {ks' : List Item}, ks = it :: ks' → ∃ k', Spine ks' k' k2 ∧ (Gd (lone (Fm b a (it :: k')) cs w) → Gd (lone (Fm b a k) cs w)) := by
  induction hp with
  | nil => intro it ks' h; cases h
  | cons hp _ => intro it ks' h; cases h; exact ⟨_, hp, fun h => h⟩
  | seq _ ih =>
    intro it ks' h
    obtain ⟨k', h1, h2⟩ := ih h
    exact ⟨k', h1, fun h => hG _ _ mv_seq (h2 h)⟩
theorem ahead_gd (hG : ∀ m m', step C.P m = .next m' → Gd m' → Gd m) (hrec : ∀ L b cs, b.kind = .normal → ∀ c, CodeOk DRel C Gd L X W b cs (rec c) c) (hbk : b.kind = .normal) {lit : Lit} {k2 : List Item}
    (hcut : ∀ f' s' I' w' a', Le [] (cutK lit f' s') → SimS C.P X W I' s' w' → FR DRel b a' f' s'.nx I' → Gd (lone (Fm b a' k2) cs w')) :
    ∀ (fuel : Nat) (ks k : List Item) (f : Fr) (s : St) (I : Itp) (w : World) (a : Act), Spine ks k k2 → Le [] (aheadK rec lit fuel ks f s) → SimS C.P X W I s w → FR DRel b a f s.nx I → Gd (lone (Fm b a k) cs w) := by
  intro fuel
  induction fuel with
  | zero => intro ks k f s I w a hp h; exact (Le.no h).elim
  | succ fuel ih =>
    intro ks k f s I w a hp h hS hF
    cases ks with
    | nil => exact spine_nil hG hp rfl (hcut f s I w a h hS hF)
    | cons it ks =>
      obtain ⟨k1, hp1, hto⟩ := spine_cons (Gd := Gd) (b := b) (cs := cs) (C := C) hG (a := a) (w := w) hp rfl
      refine hto ?_
      cases it <;> first | exact (Le.no h).elim | skip
      case code c =>
        refine code_gd hG (hrec [] b cs hbk c) (kn := aheadK rec lit fuel ks) (kx := fun id f s => ifK (Nat.blt id gotoBase) (optK (exitTo id ks) "exit" fun k' => aheadK rec lit fuel k' f s) (.no "goto" id)) (kr := noR) h hS hF
          (fun f' s' I' w' a' he hS' hF' hl => ih ks k1 f' s' I' w' a' hp1 hl hS' hF') (fun id f' s' I' w' a' he hS' hF' hl => ?_) (fun f' s' I' w' a' he hS' hF' hl k0 => hl.no.elim)
        obtain ⟨hid, hl⟩ := le_ifN hl
        obtain ⟨ks', hk', hl'⟩ := le_optK hl
        obtain ⟨k', hk2, hp'⟩ := spine_exit hp1 hk'
        refine ⟨_, ih ks' k' f' s' I' w' a' hp' hl' hS' hF', fun k0 hk0 => ?_⟩
        rw [jumpTo_exit hid, jumpTo_exit hid] at hk0
        rw [jumpC_exit hid]
        exact mv_exit (hk0.trans hk2)
      case inBlock id => exact hG _ _ mv_inBlock (ih ks k1 f s I w a hp1 h hS hF)
      case inScope c => exact hG _ _ mv_inScope (ih ks k1 f s I w a hp1 h hS hF)
      case inLoop c => exact hG _ _ mv_inLoop (ih _ _ f s I w a (.cons (.cons hp1)) h hS hF)
theorem partsS_top (hG : ∀ m m', step C.P m = .next m' → Gd m' → Gd m) (hrec : ∀ L b cs, b.kind = .normal → ∀ c, CodeOk DRel C Gd L X W b cs (rec c) c) (hbf : b.fn = fi) (hbk : b.kind = .normal) (hbr : b.roundOf = none)
    (leave : ∀ f' s' I' w' a' todo, SimS C.P X W I' s' w' → FR DRel b a' f' s'.nx I' → Le l (endF C rec fn f' s') → Gd (lone { Fm b a' todo with mode := .returning } cs w'))
    {k : List Item} {start : (Fr → St → Ans) → Ans} (hp : PartsS C rec fi fn l k start) :
    ∀ (I : Itp) (w : World) (a : Act), (∀ (L' : List (AV × St)) (kk : Fr → St → Ans), Le L' (start kk) → ∃ f s, SimS C.P X W I s w ∧ FR DRel b a f s.nx I ∧ Le L' (kk f s)) → Gd (lone (Fm b a k) cs w) := by
  have goOn : ∀ {lit : Lit} {f' : Fr} {s' : St} {I' : Itp} {w' : World} {a' : Act}, Le [] (cutK lit f' s') → SimS C.P X W I' s' w' → FR DRel b a' f' s'.nx I' →
      ∀ (L' : List (AV × St)) (kk : Fr → St → Ans), Le L' (goOnK lit fi kk) → ∃ f s, SimS C.P X W I' s w' ∧ FR DRel b a' f s.nx I' ∧ Le L' (kk f s) := by
    intro lit f' s' I' w' a' hl' hS' hF' L' kk hgo
    have hd' : a'.defers = [] := by
      have hdl := hF'.dl
      rw [(le_cutK hl').1] at hdl
      cases hda : a'.defers with
      | nil => rfl
      | cons u v => rw [hda] at hdl; exact hdl.elim
    rw [show fi = f'.fn from by rw [← hF'.fn, hbf]] at hgo
    obtain ⟨f2, s2, h1, h2, _, _, _, h6⟩ := cut_on (P := C.P) dRel_zero hl' hS' hF' hd' hgo
    exact ⟨f2, s2, h1, h2, h6⟩
  induction hp with
  | last fuel h =>
    intro I w a hst
    obtain ⟨f, s, hS, hF, hl⟩ := hst l _ h
    exact stack_gd hG hrec hbk hbr leave fuel _ f s I w a hl hS hF
  | seq _ ih => intro I w a hst; exact hG _ _ mv_seq (ih I w a hst)
  | block _ ih => intro I w a hst; exact hG _ _ mv_block (ih I w a hst)
  | scope _ ih => intro I w a hst; exact hG _ _ mv_scope (ih I w a hst)
  | loop _ ih => intro I w a hst; exact hG _ _ mv_loop (ih I w a hst)
  | inLoop _ ih => intro I w a hst; exact hG _ _ mv_inLoop (ih I w a hst)
  | inBlock _ ih => intro I w a hst; exact hG _ _ mv_inBlock (ih I w a hst)
  | inScope _ ih => intro I w a hst; exact hG _ _ mv_inScope (ih I w a hst)
  | code lit h _ ih =>
    intro I w a hst
    obtain ⟨f, s, hS, hF, hl⟩ := hst [] _ h
    exact code_gd hG (hrec [] b cs hbk _) hl hS hF (fun f' s' I' w' a' he hS' hF' hl' => ih I' w' a' (goOn hl' hS' hF')) (fun id f' s' I' w' a' he hS' hF' hl => hl.no.elim) (fun f' s' I' w' a' he hS' hF' hl k0 => hl.no.elim)
  | ahead ks fuel lit hp h _ ih =>
    intro I w a hst
    obtain ⟨f, s, hS, hF, hl⟩ := hst [] _ h
    exact ahead_gd hG hrec hbk (fun f' s' I' w' a' hl' hS' hF' => ih I' w' a' (goOn hl' hS' hF')) fuel ks _ f s I w a hp hl hS hF
  | rounds r lit h _ ih =>
    intro I w a hst
    obtain ⟨f, s, hS, hF, hl⟩ := hst [] _ h
    exact rounds_gd hG hrec hbk (fun f' s' I' w' a' hl' hS' hF' => ih I' w' a' (goOn hl' hS' hF')) r f s I w a hl hS hF
end
/-- THE EVALUATOR IS RIGHT, part by part. -/
theorem cut_callsS {C : Cf} (hmix : C.P.follows .mixedOrders = true) (hE : ExtOk C) {W0 : World} (htold : Told C W0) {fuel : Nat} {fi : FuncId} {fn : Func} {body : Code} {s : St} (hfn : C.P.funcs[fi]? = some fn) (hb : fn.body = some body) {l : List (AV × St)}
    (hp : PartsS C (ev C fuel) fi fn l [.code body] (firstK fi fn s)) (hall : ∀ x ∈ l, x.1 = .bool true)
    {w : World} (hs : StartOk s w) (hw : ∀ b, b < glim → w.heap[b]? = W0.heap[b]?) (hsize : glim ≤ w.heap.size) : Calls C.P fi #[] w (TrueRet w) := by
  intro cs
  let Gd : Machine → Prop := fun m => ∃ e w' fr, TrueRet w e w' ∧ Comes C.P m (lone fr cs w') e ∧ fr.fn = fi ∧ fr.leaving C.P w' e
  have hGs : ∀ m m', Steps C.P m m' → Gd m' → Gd m := fun m m' h ⟨e, w', fr, h1, h2, h3, h4⟩ => ⟨e, w', fr, h1, Comes.of_steps h h2, h3, h4⟩
  have hG : ∀ m m', step C.P m = .next m' → Gd m' → Gd m := fun m m' h => hGs m m' (Steps.one h)
  have hgx : GX W0 (fun b => b < w.heap.size) w := ⟨fun b hb => Nat.lt_of_lt_of_le hb hsize, hw⟩
  have hrec : RecOk C Gd W0 (ev C fuel) := ev_ok hG (parts_ok hG hmix hE (htold.sum hGs)) fuel
  have hov0 : ∀ (L' : List (AV × St)) (k : Fr → St → Ans), Le L' (firstK fi fn s k) → Le L' (k ⟨fi, mkF fn.ntmps, [], none⟩ s) := fun L' k h => h
  obtain ⟨a, e1, e2, hF⟩ := enter_frame (D := DRel) (P := C.P) (I := I0) (n := s.nx) (args := []) (c := mkF fn.ntmps) dRel_zero hfn hb (fun j u hj => .inr ⟨fun hh => by simp at hh, hj⟩) trivial
  have hbf : (Frame.enter C.P fi (concL I0 []).toArray .normal).fn = fi := rfl
  have hbk : (Frame.enter C.P fi (concL I0 []).toArray .normal).kind = .normal := rfl
  have hbr : (Frame.enter C.P fi (concL I0 []).toArray .normal).roundOf = none := rfl
  show Gd (lone (Frame.enter C.P fi (concL I0 []).toArray .normal) cs w)
  rw [e1]
  generalize Frame.enter C.P fi (concL I0 []).toArray .normal = b at *
  have leave : ∀ f' s' I' w' a' todo, SimS C.P (fun b => b < w.heap.size) w I' s' w' → FR DRel b a' f' s'.nx I' → Le l (endF C (ev C fuel) fn f' s') → Gd (lone { Fm b a' todo with mode := .returning } cs w') := by
    intro f' s' I' w' a' todo hS' hF' hl
    refine (dfr_ok hG (late_ok hG hgx hrec) : DfrOk l DRel C (ev C fuel) Gd _ w) { Fm b a' todo with mode := .returning } cs f'.dl s' I' w' _ rfl hbk hF'.dl hS' hl fun s2 I2 w2 he2 hS2 hl2 => ?_
    obtain ⟨vs, h3, h4, h5⟩ := run_results (tmps := a'.tmps) hS2 (hF'.later dRel_mono he2).tm hl2
    obtain ⟨l', hl1, hl2⟩ := h4
    cases hl1
    have hv' := hall _ (hl2 _ (List.mem_cons_self ..))
    have hv' : oneOf vs = .bool true := hv'
    rw [hv'] at h5
    exact ⟨_, w2, _, ⟨rfl, hS2.os, hS2.tape, hS2.out, hS2.size, fun k hk => (hS2.keep k hk).2⟩, Steps.refl _ _, hbf, rfl, rfl, hbk, fn, by show C.P.funcs[b.fn]? = some fn; rw [hbf]; exact hfn, h5⟩
  exact partsS_top hG (fun L b cs hb => hrec L _ w b cs hgx (.inl hb)) hbf hbk hbr leave hp I0 w a fun L' k hl => ⟨_, s, hs.sim, hF, hov0 L' k hl⟩
end Go.Proofs.YtajdeaabgplacaaGreatDoor.Sev
