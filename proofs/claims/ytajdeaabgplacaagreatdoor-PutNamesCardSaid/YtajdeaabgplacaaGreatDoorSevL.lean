/-
  Sev: what writes memory.
  Sev: great aggregates; maps are written.
  Sev: maps are written.
  Sev: entries of maps, delete, clear.
-/
import Derived.Test.YtajdeaabgplacaaGreatDoorSevH
namespace Go.Proofs.YtajdeaabgplacaaGreatDoor.Sev
open Go Go.RowKit
set_option linter.unusedVariables false
variable {L : List (AV × St)}
section
variable {C : Cf} {rec : Rec} {o : Oper} {f : Fr} {s : St} {k : AV → St → Ans} {X : Nat → Prop} {W : World} {I : Itp} {w : World} {a : Act}

theorem Spec1.out {v : AV} (h : Spec1 C.P o f s v) (hS : SimS C.P X W I s w) (hr : Rel s.nx I f a o.op) (hk : Le L (k v s)) : Out C.P X W L k s I w o a := by
  obtain ⟨h1, h2⟩ := h X W I a w hS hr
  exact ⟨v, s, I, w, Ext.refl _ _, hS, h1, .inl h2, hk⟩
theorem Spec2.out {ob : Nat → AO} {vl : Nat → AV} (h : Spec2 C.P o f ob vl) (hS : SimS C.P X W I s w) (hr : Rel s.nx I f a o.op) (hk : Le L (newK s (ob s.nx) fun b s' => k (vl b) s')) : Out C.P X W L k s I w o a := by
  obtain ⟨h', hu, hk⟩ := le_newK hk
  obtain ⟨q, V, h1, h2⟩ := h.2 s.nx I a w hr
  have hq : (w.alloc q).heap[w.heap.size]? = some q := heap_alloc_new w q
  obtain ⟨h3, h4, h5⟩ := h2 s.nx (I.set s.nx w.heap.size 0 0 #[]) (Has h') (w.alloc q) (Nat.le_refl _) (I.set_agree _ _ _ _ _) (by simp) (by simp) hq
  obtain ⟨h6, h7⟩ := sim_new hS hu 0 h3
  exact ⟨_, _, _, _, h7, h6, h4, .inl (by rw [h5]; exact h1), hk⟩
theorem SimS.ext_ok {s' : St} {I' : Itp} (he : Ext s I s' I') {v : AV} (h : ok s.nx I v) : ok s'.nx I' v := ok_agree he.1 he.2.1 h

/-- A great aggregate's cells. -/
theorem snap_cells {n : Nat} {I : Itp} {b : Nat} {c : Tr AV} {m : Nat} {H : Nat → AO → Prop} (h : ObjRel C.P I H n w b (.snap c m)) : (I.snap b).size = m ∧ CellsRel n I 0 c m (I.snap b) ∧ (∀ v ∈ (I.snap b).toList, v.oneCell' = true) := h
/-- A box of a great aggregate. -/
theorem out_boxBig {t : TypeId} {x : Operand} (ho : o.op = .box t x) {b' : Nat} {c : Tr AV} {n : Nat} (hx : OpdV f x (.agt b')) (hb : Has s.h b' (.snap c n)) (hS : SimS C.P X W I s w) (hr : Rel s.nx I f a o.op)
    (hk : Le L (newK s (.cells c n t false false [] false) fun b s' => k (.ptr b 0) s')) : Out C.P X W L k s I w o a := by
  obtain ⟨h', hu, hk⟩ := le_newK hk
  obtain ⟨k1, _⟩ := hr x (by rw [ho]; simp [Op.operands]) _ hx
  obtain ⟨h1, h2, h3⟩ := snap_cells (hS.obj b' _ hb)
  obtain ⟨h6, h7⟩ := sim_new (q := .cells (I.snap b') t) hS hu 0 (h2.toRow (by omega) h3 (Nat.le_refl _) (I.set_agree _ _ _ _ _) (by simp) (by simp) (heap_alloc_new w _))
  refine ⟨.ptr s.nx 0, _, _, _, h7, h6, Nat.lt_succ_self s.nx, .inl ?_, hk⟩
  simp [execOp, ho, k1, conc, Instr.box, newVar, newRow, Value.cells]
theorem out_box {t : TypeId} {x : Operand} (ho : o.op = .box t x) (h : Le L (oBox t x f s k)) (hS : SimS C.P X W I s w) (hr : Rel s.nx I f a o.op) : Out C.P X W L k s I w o a := by
  rcases spec_box (C := C) ho h with ⟨ob, vl, h1, h2⟩ | ⟨b', c, n, h1, h2, h3⟩
  · exact h1.out hS hr h2
  · exact out_boxBig ho h1 h2 hS hr h3
theorem run_storeCells_there {P : Program} {w : World} {b off : Nat} {l : List Value} (h : w.there b off l.length) (h1 : ∀ v ∈ l, v.oneCell' = true) : (storeCells ⟨b, off, none⟩ l).run P w = .ok () (w.setCells b off l) := by
  have := run_storeCells_cells (P := P) b off l 0 w (fun j hj => by simpa using (h j hj).1) (fun j hj => by simpa using (h j hj).2) h1
  simpa using this
/-- A variable is stored. -/
theorem le_storeT {t : TypeId} {b off : Nat} {v : AV} {k : St → Ans} (h : Le L (storeT C.P t s b off v k)) (hS : SimS C.P X W I s w) (hv : ok s.nx I v) :
    ∃ s' w', s'.nx = s.nx ∧ s'.fl = s.fl ∧ SimS C.P X W I s' w' ∧ (storeVar t ⟨I.blk b, I.base b + off, none⟩ (conc I v)).run C.P w = .ok () w' ∧ Le L (k s') := by
  obtain ⟨n, hn, h1⟩ := le_optK h
  split at h1
  · -- a great aggregate
    rename_i b'
    obtain ⟨q, hq, h2⟩ := le_objK h1
    cases q <;> first | exact h2.no.elim | skip
    rename_i c m
    obtain ⟨ob, hob, h3⟩ := le_objK h2
    obtain ⟨c0, m', ty, op, st, el, fz, rfl, h4⟩ := le_asCells h3
    obtain ⟨hcond, h5⟩ := le_ifN h4
    simp only [Bool.and_eq_true] at hcond
    obtain ⟨⟨⟨⟨e1, e2⟩, e3⟩, e4⟩, e5⟩ := hcond
    have e1 := Nat.eq_of_beq_eq_true e1
    have e2 := Nat.eq_of_beq_eq_true e2
    have e3 := Nat.eq_of_beq_eq_true e3
    subst e1 e2 e3
    simp only [Bool.not_eq_true'] at e4 e5
    subst e4 e5
    obtain ⟨s1, e1, e2, hs, hs2, h6⟩ := le_dropAll h5
    obtain ⟨hfl, h', o0, ho0, hu, hk⟩ := le_putK h6
    obtain ⟨g1, g2, g3⟩ := snap_cells (hS.obj b' _ hq)
    obtain ⟨cs, lo, hi, hb, hc, hfz, hfz0, _, hks, h1c⟩ := hS.obj b _ hob
    have hin : ∀ j, j < m' → I.base b + 0 + j < cs.size := fun j hj => by omega
    have hlen : (I.snap b').toList.length = m' := by simpa using g1
    refine ⟨⟨h', s1.nx, s1.fl⟩, w.setCells (I.blk b) (I.base b + 0) (I.snap b').toList, e1, e2, ?_, ?_, hk⟩
    · show Sim C.P X W I (Has h') s1.nx s1.fl _
      rw [e1, e2]
      refine sim_write hS hob (by rw [← e2]; exact hfl) hs hu hb hfz hfz0 (fun h => by cases h) hks h1c g3 fun i a hi' => ?_
      obtain ⟨k1, k2, k3, k4⟩ := g2 i a hi'
      refine ⟨k1, ?_, k3, k4⟩
      rw [wr_get _ _ _ _ (by rw [hlen]; omega), hlen, if_pos (by omega)]
      simp only [Nat.zero_add] at k2
      rw [show I.base b + i - (I.base b + 0) = i from by omega]
      simpa using k2
    · have := run_storeVar_mid (P := C.P) w (I.blk b) (I.base b + 0) t (I.snap b') (there_of hb hfz (by rw [g1]; exact hin)) (by rw [g1]; exact hn) (by
        rw [Array.all_eq_true_iff_forall_mem]
        intro v hv
        exact g3 v (by simpa using hv))
      simpa [conc] using this
  · obtain ⟨l, hl1, hl2, hl3, h2⟩ := le_cellsK h1
    obtain ⟨hm, h3⟩ := le_ifN (le_lenK h2)
    have hm := Nat.eq_of_beq_eq_true hm
    have hcl : (conc I v).cells = (concL I l).toArray := by rw [← hl2]
    have hsz : (conc I v).cells.size = n := by rw [hcl]; simp [concL_length, hm]
    rcases le_ifK h3 with ⟨h0, h4⟩ | ⟨_, h4⟩
    · obtain rfl := Nat.eq_of_beq_eq_true h0
      have hl0 : l = [] := List.length_eq_zero_iff.1 hm
      subst hl0
      refine ⟨s, w, rfl, rfl, hS, ?_, h4⟩
      simp [storeVar, run_size hn, hcl, concL, storeCells]
    · obtain ⟨s', e1, e2, hth, hS', hk⟩ := le_storeK h4 hS (hl1 _ _ hv) hl3
      refine ⟨s', _, e1, e2, hS', ?_, hk⟩
      have := run_storeCells_there (P := C.P) (l := concL I l) (by rw [concL_length]; exact hth) (oneCells_of hl3)
      have hll : (concL I l).length = n := by rw [concL_length, hm]
      simp [storeVar, run_size hn, hcl, this, hll]
theorem out_store {t : TypeId} {x y : Operand} (ho : o.op = .store t x y) (h : Le L (oStore C t x y f s k)) (hS : SimS C.P X W I s w) (hr : Rel s.nx I f a o.op) : Out C.P X W L k s I w o a := by
  obtain ⟨u, hu, h1⟩ := le_opd h
  obtain ⟨v, hv, h2⟩ := le_opd h1
  cases u <;> first | exact h2.no.elim | skip
  rename_i b off
  obtain ⟨k1, _⟩ := hr x (by rw [ho]; simp [Op.operands]) _ hu
  obtain ⟨k2, k3⟩ := hr y (by rw [ho]; simp [Op.operands]) _ hv
  obtain ⟨s', w', e1, e2, hS', hrun, hk⟩ := le_storeT (k := fun s' => k undefA s') h2 hS k3
  refine ⟨undefA, s', I, w', ⟨Agree.refl _ _, by omega, e2⟩, hS', trivial, .inr ⟨?_, rfl⟩, hk⟩
  simp [execOp, ho, k1, k2, conc, Instr.storeAt, Instr.sureAddr, hrun]
end
end Go.Proofs.YtajdeaabgplacaaGreatDoor.Sev

namespace Go.Proofs.YtajdeaabgplacaaGreatDoor.Sev
open Go Go.RowKit
set_option linter.unusedVariables false
variable {L : List (AV × St)}
section
variable {C : Cf} {rec : Rec} {o : Oper} {f : Fr} {s : St} {k : AV → St → Ans} {X : Nat → Prop} {W : World} {I : Itp} {w : World} {a : Act}

theorem isAggB_some {P : Program} {t : TypeId} (h : isAggB P t = true) : ∃ d, P.underlying t = some d ∧ d.isRow = true := by
  unfold isAggB at h
  split at h
  · rename_i fs he; exact ⟨_, he, rfl⟩
  · rename_i n e he; exact ⟨_, he, rfl⟩
  · cases h
theorem out_loadBig {t : TypeId} {x : Operand} (ho : o.op = .load t x) (hb : bigB C.P t = true) (h : Le L (oLoad C t x f s k)) (hS : SimS C.P X W I s w) (hr : Rel s.nx I f a o.op) : Out C.P X W L k s I w o a := by
  obtain ⟨u, hu, h1⟩ := le_opd h
  cases u <;> first | exact h1.no.elim | skip
  rename_i b off
  simp only [Sev.asPtr, hb] at h1
  obtain ⟨hc, h2⟩ := le_ifN (b := isAggB C.P t && Nat.beq off 0) h1
  simp only [Bool.and_eq_true] at hc
  obtain ⟨hag, hoff⟩ := hc
  obtain rfl := Nat.eq_of_beq_eq_true hoff
  obtain ⟨n, hn, h3⟩ := le_optK h2
  obtain ⟨ob, hob, h4⟩ := le_objK h3
  obtain ⟨c, m, ty, op, st, el, fz, rfl, h5⟩ := le_asCells h4
  obtain ⟨hm, h6⟩ := le_ifN h5
  obtain rfl := Nat.eq_of_beq_eq_true hm
  obtain ⟨h', hup, hk⟩ := le_newK h6
  obtain ⟨cs, lo, hi, hbk, hc, hfz, hfz0, hop, hks, h1c⟩ := hS.obj b _ hob
  obtain ⟨d, hd, hrow⟩ := isAggB_some hag
  obtain ⟨k1, _⟩ := hr x (by rw [ho]; simp [Op.operands]) _ hu
  have hsz : (cs.extract (I.base b) (I.base b + m)).size = m := by simp; omega
  have hget : ∀ i, i < m → (cs.extract (I.base b) (I.base b + m))[i]? = cs[I.base b + i]? := fun i hi => by
    rw [Array.getElem?_extract]; simp; omega
  obtain ⟨h7, h8⟩ := sim_name hS hup rfl 0 0 0 (cs.extract (I.base b) (I.base b + m)) (by
    refine ⟨by simp [Itp.set_snap]; omega, ?_, ?_⟩
    · rw [Itp.set_snap]
      intro i v hi
      obtain ⟨g1, g2, g3, g4⟩ := hc i v hi
      refine ⟨g1, ?_, ok_agree (I.set_agree s.nx 0 0 0 _) (by omega) g3, g4⟩
      rw [Nat.zero_add, hget i g1, conc_agree (I.set_agree s.nx 0 0 0 _) g3]; exact g2
    · rw [Itp.set_snap]
      intro v hv
      have hv := Array.mem_toList_iff.1 hv
      exact h1c v (Array.mem_toList_iff.2 (by
        rw [Array.mem_iff_getElem?] at hv ⊢
        obtain ⟨i, hi⟩ := hv
        have hlt := getElem?_lt hi
        rw [hsz] at hlt
        exact ⟨I.base b + i, by rw [← hget i hlt]; exact hi⟩)))
  refine ⟨.agt s.nx, _, _, _, h8, h7, Nat.lt_succ_self s.nx, .inl ?_, hk⟩
  have := run_loadVar_mid (P := C.P) w (I.blk b) (I.base b + 0) t (cs.extract (I.base b) (I.base b + m)).toList d (fun j v hj => by
    have hj' : (cs.extract (I.base b) (I.base b + m))[j]? = some v := by rw [← Array.getElem?_toList]; exact hj
    have hlt := getElem?_lt hj'
    rw [hsz] at hlt
    rw [cell_of_block hbk, Nat.add_zero, ← hget j hlt]; exact hj') hd hrow (by
      have hn : (C.P.info? t).map (·.size) = some m := hn
      rw [hn, Array.length_toList, hsz])
  simp only [execOp, ho, k1, conc, Instr.loadAt, Instr.sureAddr, Sem.run_bind, Sem.run_pure, Result.andThen_ok, this, Itp.set_snap]
theorem le_fillT {place : Nat → Option (Nat × Nat)} {n : Nat} {I : Itp} : ∀ {ps : List (Nat × AV)} {l : Tr AV} {m : Nat} {cs : Array Value} {k : Tr AV → Ans}, Le L (fillT place ps l k) → CellsRel n I 0 l m cs → (∀ v ∈ cs.toList, v.oneCell' = true) → (∀ p ∈ ps, ok n I p.2) →
    ∃ r cs', CellsRel n I 0 r m cs' ∧ cs'.size = cs.size ∧ (∀ v ∈ cs'.toList, v.oneCell' = true) ∧
      (∀ (pl : Nat → Option (Nat × Nat)), (∀ p ∈ ps, pl p.1 = place p.1) → Instr.fill pl cs (ps.map fun p => (p.1, conc I p.2)) = some cs') ∧ Le L (k r)
  | [], l, m, cs, k, h, hc, h1, _ => ⟨l, cs, hc, rfl, h1, fun pl _ => rfl, h⟩
  | (i, v) :: ps, l, m, cs, k, h, hc, h1c, hps => by
    obtain ⟨q, hq, h1⟩ := le_optK (k := fun (q : Nat × Nat) => cellsK v fun c => lenK c fun n => ifK (Nat.beq n q.2 && Nat.ble 1 n) (writeN c l q.1 fun l' => fillT place ps l' k) (.no "fill" 0)) h
    obtain ⟨c, hc1, hc2, hc3, h2⟩ := le_cellsK h1
    obtain ⟨hn, h3⟩ := le_ifN (le_lenK h2)
    simp only [Bool.and_eq_true] at hn
    obtain ⟨hn, hpos⟩ := hn
    have hn := Nat.eq_of_beq_eq_true hn
    have hpos := Nat.le_of_ble_eq_true hpos
    obtain ⟨l', hov, hth, h4⟩ := le_writeN h3
    have hcv := hc1 n I (hps (i, v) List.mem_cons_self)
    have hin : q.1 + c.length ≤ cs.size := by
      obtain ⟨u, hu⟩ := hth (c.length - 1) (by omega)
      have := getElem?_lt (hc _ u hu).2.1
      omega
    have hwr : ∀ j, (wr cs q.1 (concL I c))[j]? = if q.1 ≤ j ∧ j < q.1 + c.length then (concL I c)[j - q.1]? else cs[j]? := fun j => by
      rw [wr_get _ _ _ _ (by rw [concL_length]; exact hin), concL_length]
    have hrel : CellsRel n I 0 l' m (wr cs q.1 (concL I c)) := fun j u hj => by
      rcases hov j u hj with ⟨g1, g2, g3⟩ | ⟨g1, g2⟩
      · have hm : u ∈ c := List.mem_of_getElem? g3
        obtain ⟨z, hz⟩ := hth (j - q.1) (by omega)
        rw [show q.1 + (j - q.1) = j from by omega] at hz
        refine ⟨(hc j z hz).1, ?_, okL_iff.1 hcv u hm, hc3 u hm⟩
        rw [Nat.zero_add, hwr, if_pos (by omega), concL_map, List.getElem?_map, g3]; rfl
      · obtain ⟨k1, k2, k3, k4⟩ := hc j u g2
        refine ⟨k1, ?_, k3, k4⟩
        rw [Nat.zero_add] at k2 ⊢
        rw [hwr, if_neg (by omega)]
        exact k2
    obtain ⟨r, cs', e1, e2, e3, e4, hk⟩ := le_fillT h4 hrel (wr_mem _ _ _ h1c (oneCells_of hc3)) (fun p hp => hps p (List.mem_cons_of_mem _ hp))
    refine ⟨r, cs', e1, by rw [e2, wr_size], e3, fun pl hpl => ?_, hk⟩
    have hcl : (conc I v).cells.toList.length = c.length := by rw [hc2, concL_length]
    have hsz : (conc I v).cells.size = c.length := by rw [← hcl]; simp
    have hpi : pl i = some q := (hpl (i, v) List.mem_cons_self).trans hq
    simp only [List.map_cons, Instr.fill, hpi]
    have hfalse : ((conc I v).cells.size ≠ q.2 || decide (q.1 + (conc I v).cells.size > cs.size)) = false := by
      simp [hsz]; omega
    have hfold : (conc I v).cells.zipIdx.foldl (fun cs (x : Value × Nat) => cs.setIfInBounds (q.1 + x.2) x.1) cs = wr cs q.1 (concL I c) := by
      rw [← Array.foldl_toList, Array.toList_zipIdx, foldl_wr, hc2]
    rw [if_neg (by rw [hfalse]; simp), hfold]
    exact e4 pl (fun p hp => hpl p (List.mem_cons_of_mem _ hp))
/-- The parts' places, as the model reckons them. -/
theorem run_build_places {P : Program} {t : TypeId} (hst : structB P t = true) (w : World) (zv : Value) (hz : (zeroValue t).run P w = .ok zv w) (ps : Array (Nat × Value)) (cs' : Array Value)
    (hf : ∀ (pl : Nat → Option (Nat × Nat)), (∀ p ∈ ps.toList, pl p.1 = placeB P t p.1) → Instr.fill pl zv.cells ps.toList = some cs') : (Instr.build t ps).run P w = .ok (.agg cs') w := by
  unfold structB at hst
  split at hst
  · rename_i fs hfs
    have hm : (fs.mapM fun (fd : Field) => (do pure (fd.offset, ← sizeOf fd.type) : Sem (Nat × Nat))).run P w = .ok (fs.toList.map fun fd => (fd.offset, ((P.info? fd.type).map (·.size)).getD 0)).toArray w := by
      rw [Array.mapM_eq_mapM_toList]
      have := run_mapM (P := P) (w := w) (l := fs.toList) (g := fun (fd : Field) => (do pure (fd.offset, ← sizeOf fd.type) : Sem (Nat × Nat))) (v := fun fd => (fd.offset, ((P.info? fd.type).map (·.size)).getD 0)) (fun fd hfd => by
        have := List.all_eq_true.1 hst fd hfd
        cases hi : P.info? fd.type with
        | none => simp [hi] at this
        | some i => simp [sizeOf, run_info hi])
      simp only [Sem.run_map, this, Result.andThen_ok]
    have hf' := hf (fun i => ((fs.toList.map fun fd => (fd.offset, ((P.info? fd.type).map (·.size)).getD 0)).toArray)[i]?) (fun p hp => by
      simp only [placeB, hfs, List.getElem?_toArray, List.getElem?_map, Array.getElem?_toList]
      cases hg : fs[p.1]? with
      | none => rfl
      | some fd =>
        have := List.all_eq_true.1 hst fd (by have := Array.mem_of_getElem? hg; simpa using this)
        cases hi : P.info? fd.type with
        | none => simp [hi] at this
        | some i => simp [sizeB, hi])
    simp only [Instr.build, Sem.run_bind, hz, Result.andThen_ok, run_underlying hfs, hm, hf']
    rfl
  · rename_i m e hfs
    cases hi : P.info? e with
    | none => simp [hi] at hst
    | some ei =>
      have hsz : sizeB P e = some ei.size := by simp [sizeB, hi]
      have hf' := hf (fun i => some (i * ei.size, ei.size)) (fun p hp => by simp [placeB, hfs, hsz])
      simp only [Instr.build, Sem.run_bind, hz, Result.andThen_ok, run_underlying hfs, run_size hsz, hf']
      rfl
  · cases hst
theorem out_buildBig {t : TypeId} {ps : Array (Nat × Operand)} (ho : o.op = .build t ps) (hb : bigB C.P t = true) (h : Le L (oBuild C t ps f s k)) (hS : SimS C.P X W I s w) (hr : Rel s.nx I f a o.op) : Out C.P X W L k s I w o a := by
  obtain ⟨vs, hvs, h1⟩ := le_parts h
  obtain ⟨hst, h2⟩ := le_ifN h1
  rw [hb] at h2
  obtain ⟨hz, h3⟩ := le_ifN (x := fillT (placeB C.P t) vs (zeroT C.P t) fun c => natK (zeroN C.P t) fun n => newK s (.snap c n) fun b s' => k (.agt b) s') h2
  obtain ⟨k1, k2⟩ := partsV_conc hvs (n := s.nx) (I := I) (a := a) (fun p hp => hr p.2 (by rw [ho]; simp [Op.operands]; exact ⟨p.1, by simpa using hp⟩))
  obtain ⟨zv, hzv, hcz, hzs, hz1⟩ := zeroT_spec hz s.nx I
  obtain ⟨r, cs', e1, e2, e3, e4, h5⟩ := le_fillT h3 hcz hz1 k2
  have h5 := le_natK (k := fun n => newK s (.snap r n) fun b s' => k (.agt b) s') h5
  obtain ⟨h', hup, hk⟩ := le_newK h5
  obtain ⟨h7, h8⟩ := sim_name hS hup rfl 0 0 0 cs' (by
    refine ⟨by rw [Itp.set_snap, e2, hzs], ?_, by rw [Itp.set_snap]; exact e3⟩
    rw [Itp.set_snap]
    exact e1.mono (I.set_agree s.nx 0 0 0 _) (by omega))
  refine ⟨.agt s.nx, _, _, _, h8, h7, Nat.lt_succ_self s.nx, .inl ?_, hk⟩
  have hps : (ps.map fun (x : Nat × Operand) => (x.1, a.eval x.2)).toList = vs.map fun p => (p.1, conc I p.2) := by rw [Array.toList_map, k1]
  have hb := run_build_places hst w zv (hzv w) (ps.map fun (x : Nat × Operand) => (x.1, a.eval x.2)) cs' (fun pl hpl => by
    rw [hps] at hpl ⊢
    exact e4 pl (fun p hp => hpl (p.1, conc I p.2) (List.mem_map.2 ⟨p, hp, rfl⟩)))
  simp only [execOp, ho, Sem.run_bind, conc, Itp.set_snap]
  rw [show (ps.map fun (x : Nat × Operand) => match x with | (i, x) => (i, a.eval x)) = (ps.map fun (x : Nat × Operand) => (x.1, a.eval x.2)) from rfl, hb]
  rfl
end
end Go.Proofs.YtajdeaabgplacaaGreatDoor.Sev

namespace Go.Proofs.YtajdeaabgplacaaGreatDoor.Sev
open Go Go.RowKit
set_option linter.unusedVariables false
variable {L : List (AV × St)}
section
variable {C : Cf} {P : Program} {o : Oper} {f : Fr} {s : St} {k : AV → St → Ans} {X : Nat → Prop} {W : World} {I : Itp} {w : World} {a : Act}

/-- As `Sim.put`; names may be added. -/
theorem Sim.putN {H H' : Nat → AO → Prop} {n m fl : Nat} {w w' : World} {b : Nat} {o o' : AO} (h : Sim P X W I H n fl w) (hnm : n ≤ m) (hb : H b o) (hf : fl ≤ b) (hold : holds o = true)
    (hst : isStale o = false) (hu : HUpd H b o' H') (hel : elders o = [])
    (hst' : isStale o' = false) (hel' : elders o' = [])
    (hos : w'.os = w.os) (htape : w'.tape = w.tape) (hout : w'.output = w.output) (hsize : w'.heap.size = w.heap.size) (hheap : ∀ x, x ≠ I.blk b → w'.heap[x]? = w.heap[x]?)
    (ho : ObjRel P I H' m w' b o')
    (hm : ∀ es v, v < n → o' = .map es v → ∃ es', o = .map es' v ∧ ∀ ces clock, w.heap[I.blk b]? = some (.map ces clock) →
      ∃ ces', w'.heap[I.blk b]? = some (.map ces' clock) ∧ ∀ e ∈ ces'.toList, ∃ e' ∈ ces.toList, e'.key = e.key ∧ e'.born = e.born) :
    Sim P X W I H' m fl w' := by
  have hcase : ∀ c q, H' c q → (c = b ∧ q = o') ∨ (c ≠ b ∧ H c q) := fun c q hc => by
    by_cases e : c = b
    · subst e; exact .inl ⟨rfl, (hu.1 q).1 hc⟩
    · exact .inr ⟨e, (hu.2 c q e).1 hc⟩
  have hblk : ∀ c q, H' c q → c ≠ b → holds q = true → I.blk c ≠ I.blk b := fun c q hc e hq heq => by
    have hc' := (hu.2 c q e).1 hc
    rcases h.apart b o c q hb hc' (Ne.symm e) hold hq heq.symm with ⟨h1, h2, _⟩ | ⟨h1, h2, _⟩
    · rw [hel] at h1; cases h1
    · rw [hst] at h2; cases h2
  refine ⟨hos.trans h.os, htape.trans h.tape, hout.trans h.out, by rw [hsize]; exact h.size, ⟨Nat.le_trans h.glob.1 hnm, h.glob.2⟩, fun x hx => ?_, fun c p q hp hq => ?_, fun c q hc => ?_, fun c q hc => ?_, fun c p d q hp hq hne h1 h2 e => ?_, fun c q hc hq hfc => ?_⟩
  · obtain ⟨k1, k2⟩ := h.keep x hx
    refine ⟨by omega, ?_⟩
    rw [hheap x (fun e => h.away b o hb hold hf (e ▸ hx))]
    exact k2
  · rcases hcase c p hp with ⟨rfl, rfl⟩ | ⟨e, hp'⟩
    · exact ((hu.1 q).1 hq).symm
    · exact h.uniq c p q hp' ((hu.2 c q e).1 hq)
  · rcases hcase c q hc with ⟨rfl, _⟩ | ⟨_, hc'⟩
    · exact Nat.lt_of_lt_of_le (h.low c o hb) hnm
    · exact Nat.lt_of_lt_of_le (h.low c q hc') hnm
  · rcases hcase c q hc with ⟨rfl, rfl⟩ | ⟨e, hc'⟩
    · exact ho
    · refine objRel_keep (h.obj c q hc') (Agree.refl n I) hnm (h.low c q hc') (fun hh => hheap _ (hblk c q hc e hh)) fun d es v hd hv hmm => ?_
      rcases hcase d _ hmm with ⟨rfl, e'⟩ | ⟨e', hm'⟩
      · obtain ⟨es', k1, k2⟩ := hm es v hv e'.symm
        exact ⟨es', k1 ▸ hb, k2⟩
      · exact ⟨es, hm', fun ces clock hh => ⟨ces, by rw [hheap _ (hblk d _ hmm e' rfl)]; exact hh, fun e he => ⟨e, he, rfl, rfl⟩⟩⟩
  · rcases hcase c p hp with ⟨rfl, rfl⟩ | ⟨e1, hp'⟩
    · rcases hcase d q hq with ⟨rfl, _⟩ | ⟨e2, hq'⟩
      · exact (hne rfl).elim
      · exact (hblk d q hq e2 h2 e.symm).elim
    · rcases hcase d q hq with ⟨rfl, rfl⟩ | ⟨e2, hq'⟩
      · exact (hblk c p hp e1 h1 e).elim
      · exact h.apart c p d q hp' hq' hne h1 h2 e
  · rcases hcase c q hc with ⟨rfl, rfl⟩ | ⟨e, hc'⟩
    · exact h.away c o hb hold hf
    · exact h.away c q hc' hq hfc

/-- A map's block is another. -/
abbrev mapW (w : World) (b : Nat) (es : Array MapEntry) (clock : Nat) : World := { w with heap := w.heap.setIfInBounds b (.map es clock) }
theorem mapW_at {b : Nat} {es ces : Array MapEntry} {clock c : Nat} (h : w.heap[b]? = some (.map ces c)) : (mapW w b es clock).heap[b]? = some (.map es clock) := by
  have : b < w.heap.size := by
    rcases Nat.lt_or_ge b w.heap.size with h' | h'
    · exact h'
    · rw [Array.getElem?_eq_none h'] at h; cases h
  simp [this]
/-- Each new entry was there. -/
def Older (ces' ces : Array MapEntry) : Prop := ∀ e ∈ ces'.toList, ∃ e' ∈ ces.toList, e'.key = e.key ∧ e'.born = e.born
theorem sim_map {H H' : Nat → AO → Prop} {n m fl b ver ver' : Nat} {es es' : List (AV × AV)} {ces ces' : Array MapEntry} {clock clock' : Nat} (hS : Sim P X W I H n fl w) (hnm : n ≤ m) (ho : H b (.map es ver)) (hfl : fl ≤ b)
    (hu : HUpd H b (.map es' ver') H') (hb : w.heap[I.blk b]? = some (.map ces clock)) (hr : MapRel m I es' ces' clock') (hv' : ver' < m) (hver : ver' < n → ver' = ver ∧ clock' = clock ∧ Older ces' ces) :
    Sim P X W I H' m fl (mapW w (I.blk b) ces' clock') := by
  refine Sim.putN hS hnm ho hfl rfl rfl hu rfl rfl rfl rfl rfl rfl (by simp) (fun x hx => by simp [Ne.symm hx]) ⟨hv', ces', clock', mapW_at hb, hr⟩ fun es0 v hv e => ?_
  cases e
  obtain ⟨rfl, rfl, h3⟩ := hver hv
  refine ⟨es, rfl, fun c0 k0 h0 => ?_⟩
  rw [hb] at h0
  cases h0
  exact ⟨ces', mapW_at hb, h3⟩

/-! ### entries -/
theorem modify_set {α : Type} : ∀ (l : List α) (i : Nat) (g : α → α) (x : α), l[i]? = some x → l.modify i g = l.set i (g x)
  | [], i, g, x, h => by simp at h
  | y :: l, 0, g, x, h => by simp at h; subst h; rfl
  | y :: l, i + 1, g, x, h => by simp at h; simp [modify_set l i g x h]
theorem set_same {α : Type} : ∀ (l : List α) (i : Nat) (x : α), l[i]? = some x → l.set i x = l
  | [], i, x, h => by simp at h
  | y :: l, 0, x, h => by simp at h; subst h; rfl
  | y :: l, i + 1, x, h => by simp at h; simp [set_same l i x h]
theorem entry_at {n : Nat} {es : List (AV × AV)} {ces : Array MapEntry} {i : Nat} {e : AV × AV} (h : EntsRel n I es ces.toList) (he : es[i]? = some e) : ∃ ce, ces.toList[i]? = some ce ∧ ce.key = conc I e.1 ∧ ce.val = conc I e.2 := by
  have hc := congrArg (fun l => l[i]?) h.1
  simp only [List.getElem?_map, he, Option.map_some] at hc
  cases hce : ces.toList[i]? with
  | none => rw [hce] at hc; cases hc
  | some ce =>
    rw [hce] at hc
    exact ⟨ce, rfl, by simpa using hc⟩
/-- One entry's value is another. -/
theorem mapRel_set {n clock : Nat} {es : List (AV × AV)} {ces : Array MapEntry} {key v : AV} {i : Nat} (h : MapRel n I es ces clock) (hp : FindRel key es (some i)) (hk : keyEq key key = some true) (hok : ok n I key) (hv : ok n I v) :
    MapRel n I (es.set i (key, v)) (ces.modify i fun e => { e with key := conc I key, val := conc I v }) clock ∧ Older (ces.modify i fun e => { e with key := conc I key, val := conc I v }) ces := by
  obtain ⟨e, he, hke, _⟩ := hp
  obtain ⟨h1, h2, h3, h4⟩ := h
  obtain ⟨ce, hce, hck, hcv⟩ := entry_at h1 he
  have hkk : conc I key = ce.key := by rw [hck]; exact (keyEq_spec hke I).2 rfl
  have hl : (ces.modify i fun e => { e with key := conc I key, val := conc I v }).toList = ces.toList.set i { ce with key := conc I key, val := conc I v } := by
    rw [Array.toList_modify, modify_set _ _ _ _ hce]
  have hmap : ∀ {α : Type} (g : MapEntry → α), g { ce with key := conc I key, val := conc I v } = g ce → (ces.toList.set i { ce with key := conc I key, val := conc I v }).map g = ces.toList.map g := fun g hg => by
    rw [List.map_set, hg]
    exact set_same _ _ _ (by simp [hce])
  have hkeys : ({ ce with key := conc I key, val := conc I v } : MapEntry).key = ce.key := hkk
  have hold : Older (ces.modify i fun e => { e with key := conc I key, val := conc I v }) ces := fun x hx => by
    rw [hl] at hx
    rcases List.mem_or_eq_of_mem_set hx with hx | rfl
    · exact ⟨x, hx, rfl, rfl⟩
    · exact ⟨ce, List.mem_of_getElem? hce, hkk.symm, rfl⟩
  refine ⟨⟨⟨?_, fun x hx => ?_⟩, ?_, ?_, fun x hx => ?_⟩, hold⟩
  · rw [hl, List.map_set, List.map_set, h1.1]
  · rcases List.mem_or_eq_of_mem_set hx with hx | rfl
    · exact h1.2 x hx
    · exact ⟨hok, hv, hk⟩
  · rw [hl, hmap (·.key) hkeys]; exact h2
  · rw [hl, hmap (·.born) rfl]; exact h3
  · obtain ⟨x', hx', _, hb⟩ := hold x hx
    rw [← hb]; exact h4 x' hx'
/-- An entry more. -/
theorem mapRel_push {n clock : Nat} {es : List (AV × AV)} {ces : Array MapEntry} {key v : AV} (h : MapRel n I es ces clock) (hp : FindRel key es none) (hk : keyEq key key = some true) (hok : ok n I key) (hv : ok n I v) :
    MapRel n I (es ++ [(key, v)]) (ces.push { key := conc I key, val := conc I v, born := clock }) (clock + 1) := by
  obtain ⟨h1, h2, h3, h4⟩ := h
  have hne : ∀ x ∈ ces.toList, x.key ≠ conc I key := fun x hx e => by
    obtain ⟨i, hi⟩ := List.getElem?_of_mem hx
    have hc := congrArg (fun l => l[i]?) h1.1
    simp only [List.getElem?_map, hi, Option.map_some] at hc
    cases he : es[i]? with
    | none => rw [he] at hc; cases hc
    | some en =>
      rw [he] at hc
      have hc' : x.key = conc I en.1 ∧ x.val = conc I en.2 := by simpa using hc
      have := hp en (List.mem_of_getElem? he)
      have := (keyEq_spec this I).1 (by rw [← hc'.1, e])
      cases this
  refine ⟨⟨by simp [h1.1], fun x hx => ?_⟩, ?_, ?_, fun x hx => ?_⟩
  · rcases List.mem_append.1 hx with hx | hx
    · exact h1.2 x hx
    · rw [List.mem_singleton.1 hx]; exact ⟨hok, hv, hk⟩
  · simp only [Array.toList_push, List.map_append, List.map_singleton]
    rw [List.nodup_append]
    refine ⟨h2, by simp, fun x hx y hy => ?_⟩
    obtain ⟨z, hz, rfl⟩ := List.mem_map.1 hx
    rw [List.mem_singleton.1 hy]
    exact hne z hz
  · simp only [Array.toList_push, List.map_append, List.map_singleton]
    rw [List.nodup_append]
    refine ⟨h3, by simp, fun x hx y hy => ?_⟩
    obtain ⟨z, hz, rfl⟩ := List.mem_map.1 hx
    rw [List.mem_singleton.1 hy]
    have := h4 z hz
    omega
  · simp only [Array.toList_push, List.mem_append, List.mem_singleton] at hx
    rcases hx with hx | rfl
    · have := h4 x hx; omega
    · simp
theorem map_erase {α β : Type} (g : α → β) : ∀ (l : List α) (i : Nat), (l.eraseIdx i).map g = (l.map g).eraseIdx i
  | [], _ => by simp
  | _ :: _, 0 => rfl
  | x :: l, i + 1 => by simp [map_erase g l i]
/-- An entry less. -/
theorem mapRel_erase {n clock : Nat} {es : List (AV × AV)} {ces : Array MapEntry} {i : Nat} (h : MapRel n I es ces clock) : MapRel n I (es.eraseIdx i) (ces.eraseIdxIfInBounds i) clock ∧ Older (ces.eraseIdxIfInBounds i) ces := by
  obtain ⟨h1, h2, h3, h4⟩ := h
  have hl : (ces.eraseIdxIfInBounds i).toList = ces.toList.eraseIdx i := by simp
  have hm : ∀ {α β : Type} (g : α → β) (l : List α), (l.eraseIdx i).map g = (l.map g).eraseIdx i := fun g l => map_erase g l i
  have hold : Older (ces.eraseIdxIfInBounds i) ces := fun x hx => by
    rw [hl] at hx
    exact ⟨x, List.mem_of_mem_eraseIdx hx, rfl, rfl⟩
  refine ⟨⟨⟨?_, fun x hx => h1.2 x (List.mem_of_mem_eraseIdx hx)⟩, ?_, ?_, fun x hx => ?_⟩, hold⟩
  · rw [hl, hm, hm, h1.1]
  · rw [hl, hm]; exact h2.eraseIdx i
  · rw [hl, hm]; exact h3.eraseIdx i
  · rw [hl] at hx; exact h4 x (List.mem_of_mem_eraseIdx hx)

/-! ### the operations -/
theorem sameBits_cell {b : Bool} {v : AV} (h : fitCell b v = true) (n : Nat) : Instr.sameBits n (conc I v) (conc I v) = true := by
  have h1 := fitCell_self h
  cases v <;> simp [fitCell] at h <;> simp [conc, Instr.sameBits]
  simp [cellEq] at h1
  rw [beq_bytes, h1]
theorem sameBits_zip (n : Nat) : ∀ {q : List Bool} {l : List AV}, fitCells q l = true → ((concL I l).zip (concL I l)).all (fun x => Instr.sameBits n x.1 x.2) = true
  | [], [], _ => rfl
  | [], _ :: _, h => by simp [fitCells] at h
  | _ :: _, [], h => by simp [fitCells] at h
  | b :: q, v :: l, h => by
    simp [fitCells] at h
    simp only [concL, List.zip_cons_cons, List.all_cons, sameBits_cell h.1, sameBits_zip n h.2, Bool.and_self]
theorem run_stays {q : Bool × List Bool} {key : AV} (hx : fitKey q key = true) : (Instr.keyThatStays (conc I key) (conc I key)).run P w = .ok (conc I key) w := by
  have : Instr.sameBits (9999 + 1) (conc I key) (conc I key) = true := by
    unfold fitKey at hx
    split at hx
    · rename_i l
      simp at hx
      have := sameBits_zip (I := I) 9999 hx.2
      simp only [conc, Instr.sameBits]
      simpa using this
    · simp at hx
      obtain ⟨_, hx⟩ := hx
      cases hq : q.2 with
      | nil => rw [hq] at hx; simp [fitCells] at hx
      | cons b r => rw [hq] at hx; simp [fitCells] at hx; exact sameBits_cell hx.1 _
  have h2 : Instr.sameBits 10000 (conc I key) (conc I key) = true := this
  simp [Instr.keyThatStays, h2]
/-- A key's entry is set. -/
theorem le_setEK {b ver : Nat} {key v : AV} {es : List (AV × AV)} {k : Nat → St → Ans} (h : Le L (setEK b key v es ver s k)) : s.fl ≤ b ∧ ∃ p, FindRel key es p ∧
    ((∃ i h', p = some i ∧ Upd b (.map (es.set i (key, v)) ver) s.h h' ∧ Le L (k ver ⟨h', s.nx, s.fl⟩)) ∨
     (∃ h1 h', p = none ∧ Upd b (.map (es ++ [(key, v)]) s.nx) s.h h1 ∧ Upd s.nx .dead h1 h' ∧ Le L (k s.nx ⟨h', s.nx + 1, s.fl⟩))) := by
  obtain ⟨p, hp, h1⟩ := le_updE h
  cases p with
  | none =>
    obtain ⟨hfl, h1, o0, _, hu, h2⟩ := le_putK (s := s) (b := b) (o := .map (es ++ [(key, v)]) s.nx) (k := fun s' => newK s' .dead fun n s'' => k n s'') h1
    obtain ⟨h', hu2, h3⟩ := le_newK h2
    exact ⟨hfl, none, hp, .inr ⟨h1, h', rfl, hu, hu2, h3⟩⟩
  | some i =>
    obtain ⟨hfl, h1, o0, _, hu, h2⟩ := le_putK (s := s) (b := b) (o := .map (es.set i (key, v)) ver) (k := fun s' => k ver s') h1
    exact ⟨hfl, some i, hp, .inl ⟨i, h1, rfl, hu, h2⟩⟩
/-- A key's entry is set, in the world too. -/
theorem sim_setE {b ver : Nat} {key v : AV} {es : List (AV × AV)} {k : Nat → St → Ans} (h : Le L (setEK b key v es ver s k)) (hS : SimS P X W I s w) (ho : Has s.h b (.map es ver))
    (hk : keyEq key key = some true) (hok : ok s.nx I key) (hv : ok s.nx I v) :
    ∃ p s' ver' es' ces clock ces' clock', FindRel key es p ∧ w.heap[I.blk b]? = some (.map ces clock) ∧ MapRel s.nx I es ces clock ∧ Ext s I s' I ∧ SimS P X W I s' (mapW w (I.blk b) ces' clock') ∧ ver' < s'.nx ∧ b < s'.nx ∧ Has s'.h b (.map es' ver') ∧
      MapRel s'.nx I es' ces' clock' ∧ Le L (k ver' s') ∧
      ((∃ i, p = some i ∧ ces' = ces.modify i (fun e => { e with key := conc I key, val := conc I v }) ∧ clock' = clock) ∨
       (p = none ∧ ces' = ces.push { key := conc I key, val := conc I v, born := clock } ∧ clock' = clock + 1)) := by
  obtain ⟨hfl, p, hp, h1⟩ := le_setEK h
  obtain ⟨hver, ces, clock, hb, hm⟩ := hS.obj b _ ho
  have hbn := hS.low b _ ho
  rcases h1 with ⟨i, h', rfl, hu, hk'⟩ | ⟨h1, h', rfl, hu1, hu2, hk'⟩
  · obtain ⟨m1, m2⟩ := mapRel_set hm hp hk hok hv
    exact ⟨some i, ⟨h', s.nx, s.fl⟩, ver, _, ces, clock, _, clock, hp, hb, hm, ⟨Agree.refl _ _, Nat.le_refl _, rfl⟩, sim_map hS (Nat.le_refl _) ho hfl (hupd_of hu) hb m1 hver (fun _ => ⟨rfl, rfl, m2⟩), hver, hbn, hu.1, m1, hk',
      .inl ⟨i, rfl, rfl, rfl⟩⟩
  · have m1 := mapRel_push hm hp hk hok hv
    have m2 := m1.mono (Agree.refl s.nx I) (Nat.le_succ s.nx)
    have hne : b ≠ s.nx := by omega
    have s1 : Sim P X W I (Has h1) (s.nx + 1) s.fl (mapW w (I.blk b) (ces.push { key := conc I key, val := conc I v, born := clock }) (clock + 1)) :=
      sim_map hS (Nat.le_succ _) ho hfl (hupd_of hu1) hb m2 (Nat.lt_succ_self _) (fun hh => by omega)
    have s2 : Sim P X W I (Has h') (s.nx + 1) s.fl (mapW w (I.blk b) (ces.push { key := conc I key, val := conc I v, born := clock }) (clock + 1)) := by
      refine s1.sub (fun c q hq => ?_) (fun c p q hp hq => hp.uniq hq) (fun c q hq => ?_)
      · by_cases e : c = s.nx
        · subst e; exact .inl (hq.uniq hu2.1)
        · exact .inr ((hu2.2 c q e).1 hq)
      · by_cases e : c = s.nx
        · omega
        · exact s1.low c q ((hu2.2 c q e).1 hq)
    exact ⟨none, ⟨h', s.nx + 1, s.fl⟩, s.nx, _, ces, clock, _, clock + 1, hp, hb, hm, ⟨Agree.refl _ _, Nat.le_succ _, rfl⟩, s2, Nat.lt_succ_self _, by show b < s.nx + 1; omega, (hu2.2 b _ hne).2 hu1.1, m2, hk',
      .inr ⟨rfl, rfl, rfl⟩⟩
theorem old_key {n clock : Nat} {es : List (AV × AV)} {ces : Array MapEntry} {key : AV} {i : Nat} (h : MapRel n I es ces clock) (hp : FindRel key es (some i)) :
    ∃ e ce, es[i]? = some e ∧ ces[i]? = some ce ∧ ce.key = conc I key ∧ ce.val = conc I e.2 := by
  obtain ⟨e, he, hke, _⟩ := hp
  obtain ⟨ce, hce, hck, hcv⟩ := entry_at h.1 he
  exact ⟨e, ce, he, by simpa using hce, by rw [hck]; exact ((keyEq_spec hke I).2 rfl).symm, hcv⟩
theorem out_mapUpd {t : TypeId} {x y z : Operand} (ho : o.op = .mapUpdate t x y z ∨ o.op = .insert t x y z) (h : Le L (oMapUpd C t x y z f s k)) (hS : SimS C.P X W I s w) (hr : Rel s.nx I f a o.op) : Out C.P X W L k s I w o a := by
  obtain ⟨u, hu, h1⟩ := le_opd h
  obtain ⟨key, hkey, h2⟩ := le_opd h1
  obtain ⟨v, hv, h3⟩ := le_opd h2
  obtain ⟨ke, hke, h4⟩ := le_optK h3
  obtain ⟨q, hq, hfit, h5⟩ := le_keyOkK h4
  have hm := mapB_some hke
  have hx : ∀ p ∈ [x, y, z], OpdRel s.nx I f a p := fun p hp => by
    rcases ho with ho | ho <;> exact hr p (by rw [ho]; simpa [Op.operands] using hp)
  obtain ⟨k1, k0⟩ := hx x (by simp) _ hu
  obtain ⟨k2, k3⟩ := hx y (by simp) _ hkey
  obtain ⟨k4, k5⟩ := hx z (by simp) _ hv
  split at h5
  · rename_i b
    obtain ⟨ob, hob, h6⟩ := le_objK h5
    obtain ⟨es, ver, rfl, h7⟩ := le_asMap h6
    obtain ⟨p, s', ver', es', ces, clock, ces', clock', hp, hb, hmr, hext, hS', hv', _, hhas, _, hk, hcase⟩ := sim_setE h7 hS hob (fitKey_self hfit) k3 k5
    refine ⟨undefA, s', I, _, hext, hS', trivial, .inr ⟨?_, rfl⟩, hk⟩
    have hf := run_findKey (P := C.P) (w := w) hq hfit hmr.1.1 hp
    have hc := run_check_key (P := C.P) (w := w) (I := I) hq hfit false
    have hrun : (Instr.mapUpdate t (a.eval x) (a.eval y) (a.eval z)).run C.P w = .ok () (mapW w (I.blk b) ces' clock') := by
      rw [k1, k2, k4]
      rcases hcase with ⟨i, rfl, rfl, rfl⟩ | ⟨rfl, rfl, rfl⟩
      · obtain ⟨e, ce, he, hce, hck, _⟩ := old_key hmr hp
        rw [show found I es (some i) = some (i, conc I e.2) from by simp [found, he]] at hf
        simp [Instr.mapUpdate, conc, run_underlying hm, run_getMap hb, hc, hf, hce, hck, run_stays hfit, run_setMap hb]
      · rw [show found I es none = none from rfl] at hf
        simp [Instr.mapUpdate, conc, run_underlying hm, run_getMap hb, hc, hf, run_setMap hb]
    rcases ho with ho | ho <;> simp [execOp, ho, hrun]
  · exact h5.no.elim
end
end Go.Proofs.YtajdeaabgplacaaGreatDoor.Sev

namespace Go.Proofs.YtajdeaabgplacaaGreatDoor.Sev
open Go Go.RowKit
set_option linter.unusedVariables false
variable {L : List (AV × St)}
section
variable {C : Cf} {P : Program} {o : Oper} {f : Fr} {s : St} {k : AV → St → Ans} {X : Nat → Prop} {W : World} {I : Itp} {w : World} {a : Act}

theorem run_asInt_i64 {P : Program} {w : World} (n : Int) : (Go.asInt (.int .i64 n)).run P w = .ok n w := rfl
/-- The entries with a key: one. -/
theorem key_one {ces : Array MapEntry} {i : Nat} {ce : MapEntry} (hn : (ces.toList.map (·.key)).Nodup) (hi : ces[i]? = some ce) : ∀ e ∈ ces.toList, e.key = ce.key → e = ce := by
  have huniq : ∀ l : List MapEntry, (l.map (·.key)).Nodup → ce ∈ l → ∀ e ∈ l, e.key = ce.key → e = ce := by
    intro l
    induction l with
    | nil => intro _ h; cases h
    | cons x l ih =>
      intro hn hm e he hk
      simp only [List.map_cons, List.nodup_cons] at hn
      rcases List.mem_cons.1 hm with rfl | hm2
      · rcases List.mem_cons.1 he with rfl | he
        · rfl
        · exact (hn.1 (hk ▸ List.mem_map_of_mem (f := MapEntry.key) he)).elim
      · rcases List.mem_cons.1 he with rfl | he
        · exact (hn.1 (hk ▸ List.mem_map_of_mem (f := MapEntry.key) hm2)).elim
        · exact ih hn.2 hm2 e he hk
  exact huniq _ hn (List.mem_of_getElem? (by simpa using hi))
theorem born_idx {ces : Array MapEntry} {i : Nat} {ce : MapEntry} (hn : (ces.toList.map (·.born)).Nodup) (hi : ces[i]? = some ce) : ces.findIdx? (fun e => (e.born : Int) == (ce.born : Int)) = some i := by
  obtain ⟨l⟩ := ces
  rw [List.findIdx?_toArray]
  have hi2 : l[i]? = some ce := by simpa using hi
  have hn2 : (l.map (·.born)).Nodup := hn
  clear hi hn
  revert hi2 hn2
  intro hi hn
  induction l generalizing i with
  | nil => simp at hi
  | cons x l ih =>
    simp only [List.map_cons, List.nodup_cons] at hn
    cases i with
    | zero => simp at hi; subst hi; simp [List.findIdx?_cons]
    | succ i =>
      simp at hi
      have hm : ce ∈ l := List.mem_of_getElem? hi
      have hne : x.born ≠ ce.born := fun e => hn.1 (e ▸ List.mem_map_of_mem (f := MapEntry.born) hm)
      have := ih hi hn.2
      rw [List.findIdx?_cons, if_neg (by simp; omega), this]; rfl
theorem modify_eq {ces : Array MapEntry} {i : Nat} {ce : MapEntry} (hi : ces[i]? = some ce) (g g' : MapEntry → MapEntry) (h : g ce = g' ce) : ces.modify i g = ces.modify i g' := by
  apply Array.toList_inj.1
  have hi' : ces.toList[i]? = some ce := by simpa using hi
  rw [Array.toList_modify, Array.toList_modify, modify_set _ _ _ _ hi', modify_set _ _ _ _ hi', h]
theorem out_mapEnt {t : TypeId} {x y : Operand} (ho : o.op = .mapEntry t x y) (h : Le L (oMapEnt C t x y f s k)) (hS : SimS C.P X W I s w) (hr : Rel s.nx I f a o.op) : Out C.P X W L k s I w o a := by
  obtain ⟨u, hu, h1⟩ := le_opd h
  obtain ⟨key, hkey, h2⟩ := le_opd h1
  obtain ⟨ke, hke, h3⟩ := le_optK h2
  obtain ⟨q, hq, hfit, h4⟩ := le_keyOkK h3
  have hm := mapB_some hke
  obtain ⟨k1, k0⟩ := hr x (by rw [ho]; simp [Op.operands]) _ hu
  obtain ⟨k2, k3⟩ := hr y (by rw [ho]; simp [Op.operands]) _ hkey
  split at h4
  · rename_i b
    obtain ⟨ob, hob, h5⟩ := le_objK h4
    obtain ⟨es, ver, rfl, h6⟩ := le_asMap h5
    obtain ⟨p0, hp0, h7⟩ := le_findK h6
    obtain ⟨_, ces0, clock0, hb0, hm0⟩ := hS.obj b _ hob
    -- the value that stands there, or the zero
    have hval : ∃ v, ok s.nx I v ∧ Le L (setEK b key v es ver s fun ver s' => newK s' (.ent b ver key) fun c s'' => k (.tup [v, .stp c]) s'') ∧
        ((∃ i e, p0 = some i ∧ es[i]? = some e ∧ v = e.2) ∨ (p0 = none ∧ (zeroValue ke.2).run C.P w = .ok (conc I v) w)) := by
      rcases found_val (I := I) hp0 with ⟨rfl, _, h8⟩ | ⟨i, e, rfl, he, _, h8⟩
      · rw [h8] at h7
        obtain ⟨z, hz, h9⟩ := le_optK h7
        obtain ⟨zv, hz1, hz2⟩ := run_zero hz w
        obtain ⟨hz3, hz4⟩ := abs_spec hz2 s.nx I
        exact ⟨z, hz4, h9, .inr ⟨rfl, by rw [hz3]; exact hz1⟩⟩
      · rw [h8] at h7
        exact ⟨e.2, (hm0.1.2 e (List.mem_of_getElem? he)).2.1, h7, .inl ⟨i, e, rfl, he, rfl⟩⟩
    obtain ⟨v, hv, h8, hvc⟩ := hval
    obtain ⟨p, s', ver', es', ces, clock, ces', clock', hp, hb, hmr, hext, hS', hv', hbn, hhas, hmr', hk, hcase⟩ := sim_setE h8 hS hob (fitKey_self hfit) k3 hv
    obtain ⟨h', hu', hk⟩ := le_newK hk
    have hpp : p0 = p := by
      cases p0 with
      | none =>
        cases p with
        | none => rfl
        | some i => obtain ⟨e, he, hke, _⟩ := hp; have := hp0 e (List.mem_of_getElem? he); rw [this] at hke; cases hke
      | some i =>
        obtain ⟨e, he, hke, hlt⟩ := hp0
        cases p with
        | none => have := hp e (List.mem_of_getElem? he); rw [this] at hke; cases hke
        | some j =>
          obtain ⟨e', he', hke', hlt'⟩ := hp
          rcases Nat.lt_trichotomy i j with h | h | h
          · have := hlt' i h e he; rw [this] at hke; cases hke
          · rw [h]
          · have := hlt j h e' he'; rw [this] at hke'; cases hke'
    subst hpp
    have hf := run_findKey (P := C.P) (w := w) hq hfit hmr.1.1 hp
    have hc := run_check_key (P := C.P) (w := w) (I := I) hq hfit false
    -- the number, and the run
    have hrun : ∃ born : Nat, (∃ (i : Nat) (ce : MapEntry), ces'[i]? = some ce ∧ ce.key = conc I key ∧ ce.born = born) ∧
        (Instr.mapEntry t (a.eval x) (a.eval y)).run C.P w = .ok (.tuple #[conc I v, goInt born]) (mapW w (I.blk b) ces' clock') := by
      rw [k1, k2]
      rcases hcase with ⟨i, rfl, rfl, rfl⟩ | ⟨rfl, rfl, rfl⟩
      · obtain ⟨e, ce, he, hce, hck, hcv⟩ := old_key hmr hp
        rcases hvc with ⟨_, e', hi, he', rfl⟩ | ⟨hn, _⟩
        · cases hi
          rw [he] at he'
          cases he'
          refine ⟨ce.born, ⟨i, { ce with key := conc I key, val := conc I e.2 }, by simp [Array.getElem?_modify, hce], rfl, rfl⟩, ?_⟩
          rw [show found I es (some i) = some (i, conc I e.2) from by simp [found, he]] at hf
          have hmod : (ces.modify i fun e => { e with key := conc I key }) = ces.modify i fun en => { en with key := conc I key, val := conc I e.2 } := modify_eq hce _ _ (by simp [hcv])
          simp [Instr.mapEntry, conc, run_underlying hm, run_getMap hb, hc, hf, hce, hck, run_stays hfit, run_setMap hb, hmod]
        · cases hn
      · rcases hvc with ⟨_, _, hi, _⟩ | ⟨_, hz⟩
        · cases hi
        · refine ⟨clock, ⟨ces.size, ⟨conc I key, conc I v, clock⟩, by simp, rfl, rfl⟩, ?_⟩
          rw [show found I es none = none from rfl] at hf
          simp [Instr.mapEntry, conc, run_underlying hm, run_getMap hb, hc, hf, hz, run_setMap hb]
    obtain ⟨born, ⟨i, ce, hi, hck, hcb⟩, hrun⟩ := hrun
    have hag : Agree s'.nx I (I.set s'.nx 0 0 born #[]) := I.set_agree _ _ _ _ _
    have hok' : ok s'.nx I key := ok_agree (Agree.refl _ _) hext.2.1 k3
    obtain ⟨h9, h10⟩ := sim_name (s := s') hS' hu' rfl 0 0 born #[] (by
      refine ⟨by omega, by omega, ok_agree hag (Nat.le_succ _) hok', fitKey_self hfit, fun es1 hes1 => ?_⟩
      have hne : b ≠ s'.nx := by omega
      have := hhas.uniq ((hu'.2 b _ hne).1 hes1)
      cases this
      have hblk : (I.set s'.nx 0 0 born #[]).blk b = I.blk b := (hag b hbn).1
      refine ⟨ces', clock', by rw [hblk]; exact mapW_at hb, fun e he hek => ?_⟩
      rw [conc_agree hag hok'] at hek
      rw [Itp.set_cap, ← hcb]
      rw [key_one hmr'.2.1 hi e he (by rw [hek, hck])])
    refine ⟨.tup [v, .stp s'.nx], _, _, _, hext.trans h10, h9, ⟨ok_agree hag (Nat.le_succ _) (ok_agree (Agree.refl _ _) hext.2.1 hv), (Nat.lt_succ_self _ : s'.nx < s'.nx + 1), trivial⟩, .inl ?_, hk⟩
    rw [show conc (I.set s'.nx 0 0 born #[]) (.tup [v, .stp s'.nx]) = .tuple #[conc I v, goInt born] from by
      simp [conc, concL, conc_agree hag (ok_agree (Agree.refl _ _) hext.2.1 hv), goInt]]
    simp [execOp, ho, hrun]
  · exact h4.no.elim
theorem out_entStore {t : TypeId} {x y z : Operand} (ho : o.op = .entryStore t x y z) (h : Le L (oEntStore x y z f s k)) (hS : SimS C.P X W I s w) (hr : Rel s.nx I f a o.op) : Out C.P X W L k s I w o a := by
  obtain ⟨u, hu, h1⟩ := le_opd h
  obtain ⟨st, hst, h2⟩ := le_opd h1
  obtain ⟨v, hv, h3⟩ := le_opd h2
  obtain ⟨k1, k0⟩ := hr x (by rw [ho]; simp [Op.operands]) _ hu
  obtain ⟨k2, k3⟩ := hr y (by rw [ho]; simp [Op.operands]) _ hst
  obtain ⟨k4, k5⟩ := hr z (by rw [ho]; simp [Op.operands]) _ hv
  unfold entStoreK at h3
  split at h3
  · rename_i b c
    obtain ⟨oc, hoc, h4⟩ := le_objK h3
    split at h4
    · rename_i b' ver key
      obtain ⟨hbb, h5⟩ := le_ifN h4
      obtain rfl := Nat.eq_of_beq_eq_true hbb
      obtain ⟨ob, hob, h6⟩ := le_objK h5
      obtain ⟨es, ver', rfl, h7⟩ := le_asMap h6
      obtain ⟨hvv, h8⟩ := le_ifN h7
      obtain rfl := Nat.eq_of_beq_eq_true hvv
      obtain ⟨p, hp, h9⟩ := le_updE h8
      cases p with
      | none => exact (le_ifN h9).1 |> fun h => by cases h
      | some i =>
        obtain ⟨_, h10⟩ := le_ifN h9
        obtain ⟨hfl, h', o0, _, hu', hk⟩ := le_putK (s := s) (k := fun s' => k undefA s') h10
        obtain ⟨_, _, hokk, hkk, hent⟩ := hS.obj c _ hoc
        obtain ⟨ces, clock, hb, hborn⟩ := hent es hob
        obtain ⟨hver, ces0, clock0, hb0, hmr⟩ := hS.obj b _ hob
        rw [hb] at hb0
        cases hb0
        obtain ⟨m1, m2⟩ := mapRel_set hmr hp hkk hokk k5
        obtain ⟨e, ce, he, hce, hck, hcv⟩ := old_key hmr hp
        have hS' := sim_map hS (Nat.le_refl _) hob hfl (hupd_of hu') hb m1 hver (fun _ => ⟨rfl, rfl, m2⟩)
        refine ⟨undefA, ⟨h', s.nx, s.fl⟩, I, _, ⟨Agree.refl _ _, Nat.le_refl _, rfl⟩, hS', trivial, .inr ⟨?_, rfl⟩, hk⟩
        have hcap : ce.born = I.cap c := hborn ce (List.mem_of_getElem? (by simpa using hce : ces.toList[i]? = some ce)) hck
        have hidx := born_idx hmr.2.2.1 hce
        rw [hcap] at hidx
        have hmod : (ces.modify i fun e => { e with val := conc I v }) = ces.modify i fun e => { e with key := conc I key, val := conc I v } := modify_eq hce _ _ (by simp [hck])
        simp [execOp, ho, k1, k2, k4, conc, Instr.entryStore, run_getMap hb, run_asInt_i64, hidx, hmod, run_setMap hb]
    · exact h4.no.elim
  · exact h3.no.elim
/-! ### delete, clear -/
theorem sim_mapTo {b ver : Nat} {es es' : List (AV × AV)} {ces ces' : Array MapEntry} {clock : Nat} {h' : HT} (hS : SimS P X W I s w) (ho : Has s.h b (.map es ver)) (hfl : s.fl ≤ b) (hu : Upd b (.map es' ver) s.h h')
    (hb : w.heap[I.blk b]? = some (.map ces clock)) (hr : MapRel s.nx I es' ces' clock ∧ Older ces' ces) : SimS P X W I ⟨h', s.nx, s.fl⟩ (mapW w (I.blk b) ces' clock) :=
  sim_map hS (Nat.le_refl _) ho hfl (hupd_of hu) hb hr.1 (hS.obj b _ ho).1 (fun _ => ⟨rfl, rfl, hr.2⟩)
theorem out_delete {c : Call} (ho : o.op = .call c) (hc : c.callee = .builtin .delete) {vs : List AV} (hv : OpdsV f c.args.toList vs)
    (h : Le L (builtinK C.P .delete c.argTypes.toList vs s k)) (hS : SimS C.P X W I s w) (hr : Rel s.nx I f a o.op) : Out C.P X W L k s I w o a := by
  simp only [builtinK] at h
  obtain ⟨t, ht, h1⟩ := le_nthK h
  obtain ⟨x, hx, h2⟩ := le_nthK h1
  obtain ⟨key, hy, h3⟩ := le_nthK h2
  obtain ⟨ke, hke, h4⟩ := le_optK h3
  obtain ⟨q, hq, hfit, h5⟩ := le_keyOkK h4
  have hm := mapB_some hke
  have ht := argT ht
  obtain ⟨k1, k2⟩ := call_args ho hv hr
  have ex := argV (I := I) hx
  have ey := argV (I := I) hy
  split at h5
  · refine ⟨undefA, s, I, w, Ext.refl _ _, hS, trivial, .inl ?_, h5⟩
    have hck := run_check_key (P := C.P) (w := w) (I := I) hq hfit true
    rw [run_builtin ho hc, k1]
    simp [builtin, Builtin.delete_, ht, ex, ey, run_underlying hm, conc, hck, concL]
  · rename_i b
    obtain ⟨ob, hob, h6⟩ := le_objK h5
    obtain ⟨es, ver, rfl, h7⟩ := le_asMap h6
    obtain ⟨p, hp, h8⟩ := le_delE h7
    obtain ⟨hver, ces, clock, hb, hmr⟩ := hS.obj b _ hob
    have hf := run_findKey (P := C.P) (w := w) hq hfit hmr.1.1 hp
    have hck := fun e => run_check_key (P := C.P) (w := w) (I := I) hq hfit e
    cases p with
    | none =>
      obtain ⟨hfl, h', o0, _, hu', hk⟩ := le_putK (s := s) (k := fun s' => k undefA s') h8
      have hS' := sim_mapTo hS hob hfl hu' hb ⟨hmr, fun e he => ⟨e, he, rfl, rfl⟩⟩
      refine ⟨undefA, ⟨h', s.nx, s.fl⟩, I, _, ⟨Agree.refl _ _, Nat.le_refl _, rfl⟩, hS', trivial, .inl ?_, hk⟩
      rw [run_builtin ho hc, k1]
      rw [show found I es none = none from rfl] at hf
      simp [builtin, Builtin.delete_, ht, ex, ey, run_underlying hm, conc, hck, run_getMap hb, hf, run_setMap hb, concL]
    | some i =>
      obtain ⟨hfl, h', o0, _, hu', hk⟩ := le_putK (s := s) (k := fun s' => k undefA s') h8
      have hS' := sim_mapTo hS hob hfl hu' hb (mapRel_erase (i := i) hmr)
      refine ⟨undefA, ⟨h', s.nx, s.fl⟩, I, _, ⟨Agree.refl _ _, Nat.le_refl _, rfl⟩, hS', trivial, .inl ?_, hk⟩
      rw [run_builtin ho hc, k1]
      obtain ⟨e, ce, he, hce, _⟩ := old_key hmr hp
      rw [show found I es (some i) = some (i, conc I e.2) from by simp [found, he]] at hf
      simp [builtin, Builtin.delete_, ht, ex, ey, run_underlying hm, conc, hck, run_getMap hb, hf, run_setMap hb, concL]
  · exact h5.no.elim
theorem kindB_2' {P : Program} {t : TypeId} (h : Nat.beq (kindB P t) 2 = true) : ∃ a b, P.underlying t = some (.map a b) := kindB_2 h
theorem out_clear {c : Call} (ho : o.op = .call c) (hc : c.callee = .builtin .clear) {vs : List AV} (hv : OpdsV f c.args.toList vs)
    (h : Le L (builtinK C.P .clear c.argTypes.toList vs s k)) (hS : SimS C.P X W I s w) (hr : Rel s.nx I f a o.op) : Out C.P X W L k s I w o a := by
  simp only [builtinK] at h
  obtain ⟨t, ht, h1⟩ := le_nthK h
  obtain ⟨x, hx, h2⟩ := le_nthK h1
  have ht := argT ht
  obtain ⟨k1, k2⟩ := call_args ho hv hr
  have ex := argV (I := I) hx
  have hokx : ok s.nx I x := okL_iff.1 k2 x (List.mem_of_getElem? hx)
  have done : ∀ w', (Builtin.clear_ c.argTypes o.type (concL I vs).toArray).run C.P w = .ok (.tuple #[]) w' → OpRun C.P o a w (conc I undefA) w' := fun w' hw => by
    left
    rw [run_builtin ho hc, k1]
    simp [builtin, hw, conc, concL]
  have slcase : ∀ b off n cp, conc I x = .slice (some ⟨I.blk b, I.base b + off, none⟩) n cp → Le L (optK (sliceB C.P t) "clear" fun e => optK (zeroCells C.P e) "zero" fun z => ifK (Nat.beq n 0) (k undefA s) (storeK s b off (zerosN z n) fun s' => k undefA s')) → Out C.P X W L k s I w o a := fun b off n cp hcx hk => by
    obtain ⟨e, he, h3⟩ := le_optK hk
    obtain ⟨z, hz, h4⟩ := le_optK h3
    have he := sliceB_some he
    obtain ⟨zv, hz1, hz2⟩ := zeroCells_some hz w
    rw [hcx] at ex
    rcases le_ifK h4 with ⟨h0, h5⟩ | ⟨h0, h5⟩
    · obtain rfl := Nat.eq_of_beq_eq_true h0
      refine ⟨undefA, s, I, w, Ext.refl _ _, hS, trivial, done _ ?_, h5⟩
      simp [Builtin.clear_, ht, ex, run_underlying he]
    · obtain ⟨hz2, hz3⟩ := hz2
      have hok : okL s.nx I (zerosN z n) := okL_iff.2 fun v hv => okL_iff.1 (hz2 s.nx I).2 v (zerosN_mem hv)
      obtain ⟨s', e1, e2, hth, hS', hk⟩ := le_storeK (k := fun s' => k undefA s') h5 hS hok (fun v hv => hz3 v (zerosN_mem hv))
      refine ⟨undefA, s', I, _, ⟨Agree.refl _ _, by omega, e2⟩, hS', trivial, done _ ?_, hk⟩
      have hrun := run_storeCells_there (P := C.P) (l := concL I (zerosN z n)) (by rw [concL_length]; exact hth) (oneCells_of fun v hv => hz3 v (zerosN_mem hv))
      have hzl : z.length = zv.cells.size := by have := congrArg List.length (hz2 s.nx I).1; rw [concL_length] at this; simpa using this.symm
      have hrow : Builtin.zeroCells zv.cells n = (concL I (zerosN z n)).toArray := zeros_row (hz2 s.nx I).1 n _ hzl
      cases n with
      | zero => simp at h0
      | succ n => simp [Builtin.clear_, ht, ex, run_underlying he, hz1, hrow, hrun]
  have nilcase : ∀ d, C.P.underlying t = some d → (conc I x = .map none ∨ (∃ y z, conc I x = .slice none y z) ∨ (∃ y z, conc I x = .slice y 0 z)) → Le L (k undefA s) → Out C.P X W L k s I w o a := fun d hd hcx hk => by
    refine ⟨undefA, s, I, w, Ext.refl _ _, hS, trivial, done _ ?_, hk⟩
    rcases hcx with e | ⟨y, z, e⟩ | ⟨y, z, e⟩ <;> rw [e] at ex
    · simp [Builtin.clear_, ht, ex, run_underlying hd]
    · simp [Builtin.clear_, ht, ex, run_underlying hd]
    · cases y <;> simp [Builtin.clear_, ht, ex, run_underlying hd]
  split at h2
  · obtain ⟨h3, h4⟩ := le_ifN h2
    obtain ⟨e, he⟩ := kindB_1 h3
    exact nilcase _ he (.inr (.inl ⟨_, _, rfl⟩)) h4
  · obtain ⟨h3, h4⟩ := le_ifN h2
    obtain ⟨e, he⟩ := kindB_1 h3
    exact nilcase _ he (.inr (.inr ⟨_, _, rfl⟩)) h4
  · obtain ⟨h3, h4⟩ := le_ifN h2
    obtain ⟨_, _, he⟩ := kindB_2 h3
    exact nilcase _ he (.inl rfl) h4
  · rename_i b
    obtain ⟨h3, h4⟩ := le_ifN h2
    obtain ⟨_, _, he⟩ := kindB_2 h3
    obtain ⟨ob, hob, h6⟩ := le_objK h4
    obtain ⟨es, ver, rfl, h7⟩ := le_asMap h6
    obtain ⟨hfl, h', o0, _, hu', hk⟩ := le_putK (s := s) (k := fun s' => k undefA s') h7
    obtain ⟨hver, ces, clock, hb, hmr⟩ := hS.obj b _ hob
    have hS' := sim_mapTo (es' := []) (ces' := #[]) hS hob hfl hu' hb ⟨⟨⟨rfl, fun e he => by cases he⟩, by simp, by simp, fun e he => by simp at he⟩, fun e he => by simp at he⟩
    refine ⟨undefA, ⟨h', s.nx, s.fl⟩, I, _, ⟨Agree.refl _ _, Nat.le_refl _, rfl⟩, hS', trivial, done _ ?_, hk⟩
    simp [Builtin.clear_, ht, ex, run_underlying he, conc, run_getMap hb, run_setMap hb]
  · rename_i b off n cap
    exact slcase b off n _ rfl h2
  · rename_i b off n cap
    exact slcase b off n _ rfl h2
  · exact h2.no.elim
end
end Go.Proofs.YtajdeaabgplacaaGreatDoor.Sev
