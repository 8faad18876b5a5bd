/-
  Sev: what is appended; rows that grow.
  Sev: append.
  Sev: an append in place, under a new name.
  Sev: append, in whole; copy.
  Sev: append and copy, the operations; bytes of a string.
  Sev: bytes of a string; maps are ranged over.
  Sev: the next entry of a map that is ranged over.
  Sev: every operation but a call of a function.
-/
import Derived.Test.YtajdeaabgplacaaGreatDoorSevL
import Derived.Deep.AppendSrc
import Derived.Deep.DeepAppendWide
import Derived.Deep.Upon
import Derived.Laws.IdiomStrings
import Derived.Maps.RangeRun
namespace Go.Proofs.YtajdeaabgplacaaGreatDoor.Sev
open Go Go.RowKit
set_option linter.unusedVariables false
variable {L : List (AV × St)}
section
variable {C : Cf} {P : Program} {o : Oper} {f : Fr} {s : St} {k : AV → St → Ans} {X : Nat → Prop} {W : World} {I : Itp} {w : World} {a : Act}

/-- What stands behind an append: n elements, cells news. -/
structure Adds (P : Program) (t tx e : TypeId) (i : TypeInfo) (z : Value) (x : Value) (n : Nat) (news : List Value) (w : World) : Prop where
  newsLen : news.length = n * i.size
  one : ∀ u ∈ news, u.oneCell' = true
  none : n = 0 → ∀ ty base sLen sCap, sLen ≤ sCap → (Builtin.append_ #[t, tx] ty #[.slice base sLen sCap, x]).run P w = .ok (.slice base sLen sCap) w
  room : ∀ ty b off sLen sCap, sLen + n ≤ sCap → w.there b (off + sLen * i.size) news.length →
    (Builtin.append_ #[t, tx] ty #[.slice (some ⟨b, off, Option.none⟩) sLen sCap, x]).run P w = .ok (.slice (some ⟨b, off, Option.none⟩) (sLen + n) sCap) (w.setCells b (off + sLen * i.size) news)
  grow : ∀ ty base sLen sCap olds, (Builtin.firstCells i.size sLen (.slice base sLen sCap)).run P w.drew = .ok (List.toArray olds) w.drew → sCap < sLen + n → ((sLen + n : Nat) : Int) ≤ 9223372036854775807 →
    Builtin.nextslicecap (sLen + n) sCap * i.bytes ≤ 281474976710656 →
    (Builtin.append_ #[t, tx] ty #[.slice base sLen sCap, x]).run P w =
      .ok (.slice (some ⟨w.heap.size, 0, Option.none⟩) (sLen + n) (grownCap w (sLen + n) sCap e))
        (w.drew.alloc (.cells ((olds ++ news).toArray ++ Builtin.zeroCells z.cells (grownCap w (sLen + n) sCap e - (sLen + n))) e))
theorem adds_src {t tx e : TypeId} {i : TypeInfo} {z x : Value} {n : Nat} {news : List Value} (ht : P.underlying t = some (.slice e)) (hi : P.info? e = some i) (hz : i.zero = some z) (h : Src P i.size tx x n news w) : Adds P t tx e i z x n news w := by
  refine ⟨h.newsLen, h.one, fun h0 ty base sLen sCap hle => ?_, fun ty b off sLen sCap hroom hth => ?_, fun ty base sLen sCap olds ho hg h63 hfit => ?_⟩
  · subst h0
    have : news = [] := List.length_eq_zero_iff.1 (by rw [h.newsLen]; simp)
    subst this
    exact run_append_nothing w t tx ty e i ht hi base sLen sCap hle x h
  · exact run_append_room_src w t tx ty e i ht hi b off sLen sCap x n news h hroom (fun j hj => (hth j hj).1) (fun j hj => (hth j hj).2)
  · exact run_append_grow_src w t tx ty e i z ht hi hz base sLen sCap olds ho x n news h hg h63 hfit
theorem adds_zeros {t tx e : TypeId} {i : TypeInfo} {z : Value} {n : Nat} {kd : IntKind} (ht : P.underlying t = some (.slice e)) (hx : P.underlying tx = some (.int kd)) (hi : P.info? e = some i) (hz : i.zero = some z)
    (hzs : z.cells.size = i.size) (hpos : 1 ≤ i.size) (h1 : ∀ u ∈ z.cells.toList, u.oneCell' = true) (hn : n < 1000000) (hb : n * i.bytes ≤ 281474976710656) :
    Adds P t tx e i z (.int .i64 n) n (Builtin.zeroCells z.cells n).toList w := by
  have hw : IntKind.i64.wrap (n : Int) = n := by simp [IntKind.wrap, IntKind.signed, IntKind.bits]; omega
  have hb' : ¬ (281474976710656 < (n : Int) * (i.bytes : Int)) := by omega
  have hlen : (Builtin.zeroCells z.cells n).toList.length = n * i.size := by simp [Builtin.zeroCells, hzs]
  have hone : ∀ u ∈ (Builtin.zeroCells z.cells n).toList, u.oneCell' = true := fun u hu => by
    simp only [Builtin.zeroCells, Array.toList_map, List.mem_map, Array.toList_range] at hu
    obtain ⟨j, _, rfl⟩ := hu
    have hlt : j % z.cells.size < z.cells.size := Nat.mod_lt _ (by omega)
    rw [getElem!_pos z.cells _ hlt]
    exact h1 _ (by simp)
  have hzero : n * i.size = 0 → (Builtin.zeroCells z.cells n).toList = [] := fun h => List.length_eq_zero_iff.1 (by rw [hlen, h])
  have happ : ∀ w' : World, ((if n * i.size = 0 then (pure #[] : Sem (Array Value)) else do pure (Builtin.zeroCells (← zeroValue e).cells n)) : Sem (Array Value)).run P w' = .ok (Builtin.zeroCells z.cells n) w' := fun w' => by
    by_cases h0 : n * i.size = 0
    · have := hzero h0
      have e : Builtin.zeroCells z.cells n = #[] := by apply Array.toList_inj.1; rw [this]
      rw [if_pos h0, e]; rfl
    · rw [if_neg h0]; simp [zeroValue, typeInfo, hi, hz]
  have hneg : ¬ ((n : Int) < 0) := by omega
  refine ⟨hlen, hone, fun h0 ty base sLen sCap hle => ?_, fun ty b off sLen sCap hroom hth => ?_, fun ty base sLen sCap olds ho hg h63 hfit => ?_⟩
  · subst h0
    have hw0 : IntKind.i64.wrap (0 : Int) = 0 := hw
    cases base <;> simp [Builtin.append_, run_underlying ht, run_underlying hx, sizeOf, typeInfo, hi, run_asInt_i64, hw0, hle, storeCells]
  · have hst := run_storeCells_cells (P := P) b (off + sLen * i.size) (Builtin.zeroCells z.cells n).toList 0 w (fun j hj => (hth j hj).1) (fun j hj => (hth j hj).2) hone
    simp only [Nat.add_zero] at hst
    by_cases h0 : n * i.size = 0
    · have e := hzero h0
      rw [e] at hst ⊢
      simp [Builtin.append_, run_underlying ht, run_underlying hx, sizeOf, typeInfo, hi, run_asInt_i64, hw, hb', hneg, hroom, h0, Addr.add_lit, storeCells, World.setCells]
    · simp [Builtin.append_, run_underlying ht, run_underlying hx, sizeOf, typeInfo, hi, run_asInt_i64, hw, hb', hneg, hroom, h0, Addr.add_lit, zeroValue, hz, hst]
  · have hnn : ¬ (sLen + n ≤ sCap) := by omega
    have h63' : ¬ (9223372036854775807 < ((sLen : Int) + (n : Int))) := by omega
    have h48' : ¬ (281474976710656 < Builtin.nextslicecap (sLen + n) sCap * i.bytes) := by omega
    by_cases h0 : n * i.size = 0
    · have e := hzero h0
      rw [e]
      simp [Builtin.append_, run_underlying ht, run_underlying hx, sizeOf, typeInfo, hi, run_asInt_i64, hw, hb', hneg, hnn, h63', h48', h0, zeroValue, hz, Question.forced, ho, newRow, grownCap]
    · simp [Builtin.append_, run_underlying ht, run_underlying hx, sizeOf, typeInfo, hi, run_asInt_i64, hw, hb', hneg, hnn, h63', h48', h0, zeroValue, hz, Question.forced, ho, newRow, grownCap]
      try (congr 2; apply Array.ext'; simp [List.append_assoc])
end
end Go.Proofs.YtajdeaabgplacaaGreatDoor.Sev

namespace Go.Proofs.YtajdeaabgplacaaGreatDoor.Sev
open Go Go.RowKit
set_option linter.unusedVariables false
variable {L : List (AV × St)}
section
variable {C : Cf} {P : Program} {o : Oper} {f : Fr} {s : St} {k : AV → St → Ans} {X : Nat → Prop} {W : World} {I : Itp} {w : World} {a : Act}

/-- A draw changes nothing else. -/
theorem sim_drew {H : Nat → AO → Prop} {n fl : Nat} (h : Sim P X W I H n fl w) : Sim P X W I H n fl w.drew :=
  ⟨h.os, h.tape, h.out, h.size, h.glob, h.keep, h.uniq, h.low, fun b o ho => by have := h.obj b o ho; cases o <;> exact this, h.apart, h.away⟩
theorem firstCells_nil (size n c m : Nat) (w : World) : (Builtin.firstCells size n (.slice none c m)).run P w = .ok #[] w := by simp [Builtin.firstCells]
/-- The first cells of what is appended or copied. -/
theorem le_srcK {size n : Nat} {y : AV} {K : List AV → Ans} (h : Le L (srcK size n y s K)) (hn : ∀ l, y = .str l → n ≤ l.length) (hS : SimS P X W I s w) (hok : ok s.nx I y) :
    ∃ new, (n = 0 → new = []) ∧ (y ≠ .nilsl → new.length = n * size) ∧ (y = .nilsl → new = []) ∧ okL s.nx I new ∧ (∀ v ∈ new, isCell v = true) ∧
      (∀ w' : World, w'.heap = w.heap → (Builtin.firstCells size n (conc I y)).run P w' = .ok (concL I new).toArray w') ∧ Le L (K new) := by
  have row : ∀ b off len cp, conc I y = .slice (some ⟨I.blk b, I.base b + off, none⟩) len cp → y ≠ .nilsl → Le L (ifK (Nat.beq n 0) (K []) (loadK s b off (n * size) K)) →
      ∃ new, (n = 0 → new = []) ∧ (y ≠ .nilsl → new.length = n * size) ∧ (y = .nilsl → new = []) ∧ okL s.nx I new ∧ (∀ v ∈ new, isCell v = true) ∧
      (∀ w' : World, w'.heap = w.heap → (Builtin.firstCells size n (conc I y)).run P w' = .ok (concL I new).toArray w') ∧ Le L (K new) := fun b off len cp hc hy hk => by
    rcases le_ifK hk with ⟨h0, h1⟩ | ⟨h0, h1⟩
    · obtain rfl := Nat.eq_of_beq_eq_true h0
      refine ⟨[], fun _ => rfl, fun _ => by simp, fun _ => rfl, trivial, fun v hv => (by cases hv), fun w' hw => ?_, h1⟩
      rw [hc]
      exact run_firstCells_some w' size 0 _ len cp [] (by simp) (fun j v hv => by simp at hv)
    · obtain ⟨l, h2, h3, h4, h5, h6⟩ := le_loadK h1 hS
      refine ⟨l, fun h => by subst h; simp at h0, fun _ => h2, fun e => (hy e).elim, h3, h4, fun w' hw => ?_, h6⟩
      rw [hc]
      refine run_firstCells_some w' size n _ len cp _ (by rw [concL_length, h2]) (fun j v hv => ?_)
      rw [Addr.add_mid]
      have := h5 j v hv
      simpa [World.cell?, hw] using this
  unfold srcK at h
  split at h
  · exact row _ _ _ _ rfl (fun e => by cases e) h
  · exact row _ _ _ _ rfl (fun e => by cases e) h
  · exact ⟨[], fun _ => rfl, fun h => (h rfl).elim, fun _ => rfl, trivial, fun v hv => (by cases hv), fun w' hw => firstCells_nil _ _ _ _ _, h⟩
  · obtain ⟨h0, h1⟩ := le_ifN h
    obtain rfl := Nat.eq_of_beq_eq_true h0
    refine ⟨[], fun _ => rfl, fun _ => by simp, fun _ => rfl, trivial, fun v hv => (by cases hv), fun w' hw => ?_, h1⟩
    exact run_firstCells_some w' size 0 _ 0 _ [] (by simp) (fun j v hv => by simp at hv)
  · rename_i l
    obtain ⟨h0, h1⟩ := le_ifN h
    obtain rfl := Nat.eq_of_beq_eq_true h0
    obtain ⟨h2, h3⟩ := le_takeK h1
    refine ⟨_, fun h => (by subst h; rfl), fun _ => (by simp; omega), fun e => (by cases e), okL_iff.2 fun v hv => ?_, fun v hv => ?_, fun w' hw => ?_, h3⟩
    · obtain ⟨c, _, rfl⟩ := List.mem_map.1 hv; trivial
    · obtain ⟨c, _, rfl⟩ := List.mem_map.1 hv; rfl
    · simp only [conc, Builtin.firstCells, Sem.run_pure, concL_map, List.map_map]
      congr 1
      apply Array.toList_inj.1
      rw [Array.toList_map, ByteArray.data_extract, Array.toList_extract]
      simp only [List.extract_eq_take_drop, List.drop_zero, Nat.sub_zero, ← List.map_take, List.map_map]
      refine List.map_congr_left fun c _ => ?_
      simp [conc, UInt8.toNat_ofNat']
      rfl
  · exact h.no.elim

/-! ### a row that grows -/
theorem sim_grown {c : Tr AV} {m sz cap : Nat} {e : TypeId} {el : List Nat} {fz : Bool} {cs : Array Value} {h' : HT} (hS : SimS P X W I s w) (hu : Upd s.nx (.cells c m e true false el fz) s.h h') (hc : CellsRel s.nx I 0 c m cs) (hm : m ≤ cs.size)
    (hz : sizeB P e = some sz) (hsz : cs.size = cap * sz) (h1 : ∀ v ∈ cs.toList, v.oneCell' = true) :
    SimS P X W (I.set s.nx w.heap.size 0 cap #[]) ⟨h', s.nx + 1, s.fl⟩ (w.alloc (.cells cs e)) ∧ Ext s I ⟨h', s.nx + 1, s.fl⟩ (I.set s.nx w.heap.size 0 cap #[]) := by
  refine sim_new hS hu cap ⟨cs, 0, 0, ?_, ?_, fun i _ h => h, fun _ => ⟨rfl, rfl⟩, fun _ => ⟨sz, hz, ?_⟩, ?_, h1⟩
  · rw [Itp.set_blk]; exact heap_alloc_new w _
  · rw [Itp.set_base]; exact hc.mono (I.set_agree _ _ _ _ _) (Nat.le_succ _)
  · rw [Itp.set_base, Itp.set_cap, Nat.zero_add]; exact hsz
  · rw [Itp.set_base, Nat.zero_add]; exact hm
/-- What an append comes to. -/
def AOut (P : Program) (X : Nat → Prop) (W : World) (L : List (AV × St)) (k : AV → St → Ans) (s : St) (I : Itp) (w : World) (run : Sem Value) : Prop :=
  ∃ v s' I' w', Ext s I s' I' ∧ SimS P X W I' s' w' ∧ ok s'.nx I' v ∧ run.run P w = .ok (conc I' v) w' ∧ Le L (k v s')
/-- The element's type, as it is. -/
structure El (P : Program) (e : TypeId) (i : TypeInfo) (zv : Value) (size bytes : Nat) : Prop where
  info : P.info? e = some i
  zero : i.zero = some zv
  isz : i.size = size
  iby : i.bytes = bytes
  pos : 1 ≤ size
  bpos : 1 ≤ bytes
  zsize : zv.cells.size = size
  zone : ∀ u ∈ zv.cells.toList, u.oneCell' = true
theorem El.zeros {e : TypeId} {i : TypeInfo} {zv : Value} {size bytes : Nat} (h : El P e i zv size bytes) (n : Nat) : (Builtin.zeroCells zv.cells n).size = n * size ∧ ∀ u ∈ (Builtin.zeroCells zv.cells n).toList, u.oneCell' = true := by
  refine ⟨by simp [Builtin.zeroCells, h.zsize], fun u hu => ?_⟩
  simp only [Builtin.zeroCells, Array.toList_map, List.mem_map, Array.toList_range] at hu
  obtain ⟨j, _, rfl⟩ := hu
  have hlt : j % zv.cells.size < zv.cells.size := Nat.mod_lt _ (by have := h.zsize; have := h.pos; omega)
  rw [getElem!_pos zv.cells _ hlt]
  exact h.zone _ (by simp)
theorem fits {need cap bytes : Nat} (h : (2 * need + 768) * bytes ≤ 281474976710656) (hb : 1 ≤ bytes) (hg : cap < need) : ((need : Nat) : Int) ≤ 9223372036854775807 ∧ Builtin.nextslicecap need cap * bytes ≤ 281474976710656 := by
  have h1 : 2 * need + 768 ≤ (2 * need + 768) * bytes := Nat.le_mul_of_pos_right _ hb
  refine ⟨by omega, Nat.le_trans (Nat.mul_le_mul_right _ ?_) h⟩
  have := nextslicecap_le hg
  omega
/-- The grown row: what was there, what is appended, zeros. -/
theorem grown_row {e : TypeId} {i : TypeInfo} {zv : Value} {size bytes len n cap : Nat} {new : List AV} {olds : List Value} {c c1 : Tr AV} (hE : El P e i zv size bytes) (hol : olds.length = len * size) (hnl : new.length = n * size)
    (hc1 : CellsRel s.nx I 0 c1 (len * size) olds.toArray) (hov : Over c1 (len * size) new c) (hok : okL s.nx I new) (hcell : ∀ v ∈ new, isCell v = true) (h1 : ∀ v ∈ olds, v.oneCell' = true) (hG : len + n ≤ cap) :
    CellsRel s.nx I 0 c (len * size + new.length) ((olds ++ concL I new).toArray ++ Builtin.zeroCells zv.cells (cap - (len + n))) ∧
    ((olds ++ concL I new).toArray ++ Builtin.zeroCells zv.cells (cap - (len + n))).size = cap * size ∧ len * size + new.length ≤ cap * size ∧
    ∀ v ∈ ((olds ++ concL I new).toArray ++ Builtin.zeroCells zv.cells (cap - (len + n))).toList, v.oneCell' = true := by
  obtain ⟨z1, z2⟩ := hE.zeros (cap - (len + n))
  have hsum : len * size + n * size + (cap - (len + n)) * size = cap * size := by rw [← Nat.add_mul, ← Nat.add_mul]; congr 1; omega
  refine ⟨fun j u hj => ?_, by simp [z1, hol, concL_length, hnl]; omega, by rw [hnl]; omega, fun v hv => ?_⟩
  · have hget : ∀ j, j < len * size + new.length → ((olds ++ concL I new).toArray ++ Builtin.zeroCells zv.cells (cap - (len + n)))[0 + j]? = (olds ++ concL I new)[j]? := fun j hj => by
      rw [Nat.zero_add, Array.getElem?_append_left (by simp [hol, concL_length]; exact hj), List.getElem?_toArray]
    rcases hov j u hj with ⟨g1, g2, g3⟩ | ⟨g1, g2⟩
    · have hm : u ∈ new := List.mem_of_getElem? g3
      refine ⟨by omega, ?_, okL_iff.1 hok u hm, hcell u hm⟩
      rw [hget j (by omega), List.getElem?_append_right (by omega), hol, concL_map, List.getElem?_map, g3]; rfl
    · obtain ⟨q1, q2, q3, q4⟩ := hc1 j u g2
      refine ⟨by omega, ?_, q3, q4⟩
      rw [hget j (by omega), List.getElem?_append_left (by omega)]
      simpa using q2
  · simp only [Array.toList_append, List.mem_append] at hv
    rcases hv with (hv | hv) | hv
    · exact h1 v hv
    · exact oneCells_of hcell v hv
    · exact z2 v hv
theorem out_growK {t tx e : TypeId} {i : TypeInfo} {zv xv : Value} {size bytes len n cap : Nat} {base : Option Addr} {old new : List AV} (hE : El P e i zv size bytes) (hA : Adds P t tx e i zv xv n (concL I new) w)
    (h : Le L (growK e size bytes len n old new s k)) (hS : SimS P X W I s w) (ho : (Builtin.firstCells size len (.slice base len cap)).run P w.drew = .ok (concL I old).toArray w.drew) (hol : old.length = len * size)
    (hok : okL s.nx I old) (hcell : ∀ v ∈ old, isCell v = true) (hok' : okL s.nx I new) (hcell' : ∀ v ∈ new, isCell v = true) (hg : cap < len + n) (ty : TypeId) :
    AOut P X W L k s I w (Builtin.append_ #[t, tx] ty #[.slice base len cap, xv]) := by
  obtain ⟨hcond, h1⟩ := le_ifN h
  have hcond := Nat.le_of_ble_eq_true hcond
  obtain ⟨c1, ov1, h2⟩ := le_pushN h1
  obtain ⟨c2, ov2, h3⟩ := le_pushN h2
  obtain ⟨h', hu, h4⟩ := le_newK h3
  have hk := le_natK (k := fun q => k (.slo s.nx 0 q 0) ⟨h', s.nx + 1, s.fl⟩) h4
  obtain ⟨f1, f2⟩ := fits hcond hE.bpos hg
  have hrun := hA.grow ty base len cap (concL I old) (by rw [hE.isz]; exact ho) hg f1 (by rw [hE.iby]; exact f2)
  have hnl : new.length = n * size := by have := hA.newsLen; rw [concL_length, hE.isz] at this; exact this
  have hG := grownCap_ge w (len + n) cap e
  have hc1 : CellsRel s.nx I 0 c1 (len * size) (concL I old).toArray := by
    have := cellsRel_new ov1 hok hcell (I := I) []
    rw [hol] at this
    simpa using this
  rw [Nat.zero_add, hol] at ov2 hu
  obtain ⟨g1, g2, g3, g4⟩ := grown_row (cap := grownCap w (len + n) cap e) hE (by rw [concL_length]; exact hol) hnl hc1 ov2 hok' hcell' (oneCells_of hcell) hG
  have hsB : sizeB P e = some size := by simp [sizeB, hE.info, hE.isz]
  obtain ⟨k1, k2⟩ := sim_grown (w := w.drew) (sim_drew hS) hu g1 (by omega) hsB g2 g4
  refine ⟨.slo s.nx 0 (len + n) 0, _, _, _, k2, k1, ?_, ?_, hk⟩
  · refine ⟨Nat.lt_succ_self s.nx, ?_⟩
    rw [Itp.set_cap]; omega
  · rw [hrun]
    simp [conc]
end
end Go.Proofs.YtajdeaabgplacaaGreatDoor.Sev

namespace Go.Proofs.YtajdeaabgplacaaGreatDoor.Sev
open Go Go.RowKit
set_option linter.unusedVariables false
variable {L : List (AV × St)}
section
variable {C : Cf} {P : Program} {o : Oper} {f : Fr} {s : St} {k : AV → St → Ans} {X : Nat → Prop} {W : World} {I : Itp} {w : World} {a : Act}

theorem stale_cells {q : AO} (h : isStale q = true) : ∃ c k t op el fz, q = .cells c k t op true el fz := by
  cases q <;> simp [isStale] at h
  subst h
  exact ⟨_, _, _, _, _, _, rfl⟩
/-- A row that is not reached by what is written. -/
theorem objRel_beyond {H H' : Nat → AO → Prop} {n m x p : Nat} {c : Tr AV} {k : Nat} {t ty : TypeId} {op st : Bool} {el : List Nat} {fz : Bool} {J : Itp} {cs : Array Value} {fr : Nat × Nat} {vs : List Value} (h : ObjRel P I H n w x (.cells c k t op st el fz)) (ha : Agree n I J) (hnm : n ≤ m) (hx : x < n)
    {b : Nat} (hb : w.heap[b]? = some (.cells cs ty fr)) (hxb : I.blk x = b) (hk : I.base x + k ≤ p) (hin : p + vs.length ≤ cs.size) (h1 : ∀ v ∈ vs, v.oneCell' = true) (st' : Bool) :
    ObjRel P J H' m (w.setCells b p vs) x (.cells c k t op st' el fz) := by
  obtain ⟨j1, j2, j3, _⟩ := ha x hx
  obtain ⟨cs', lo, hi, q1, q2, q3, q4, q5, q6, q7⟩ := h
  rw [hxb, hb] at q1
  cases q1
  refine ⟨wr cs p vs, lo, hi, ?_, fun i a hi => ?_, fun i hi' => q3 i (by rwa [wr_size] at hi'), q4, fun ho => ?_, by rw [wr_size, j2]; exact q6, wr_mem _ _ _ q7 h1⟩
  · rw [j1, hxb]; exact setCells_at vs w p cs hb
  · obtain ⟨r1, r2, r3, r4⟩ := q2 i a hi
    refine ⟨r1, ?_, ok_agree ha hnm r3, r4⟩
    rw [j2, wr_get _ _ _ _ hin, if_neg (by omega), conc_agree ha r3]
    exact r2
  · obtain ⟨sz, z1, z2⟩ := q5 ho
    exact ⟨sz, z1, by rw [wr_size, j2, j3]; exact z2⟩
theorem sim_younger {b off o' m kn : Nat} {c c' : Tr AV} {ty : TypeId} {op : Bool} {el : List Nat} {fz : Bool} {h1 h' : HT} {cs : Array Value} {lo hi sz : Nat} {vs : List Value} (hS : SimS P X W I s w)
    (ho : Has s.h b (.cells c kn ty op false el fz)) (hfl : s.fl ≤ b) (hu1 : Upd b (.cells c kn ty op true el fz) s.h h1) (hu2 : Upd s.nx (.cells c' m ty true false (b :: el) fz) h1 h')
    (hb : w.heap[I.blk b]? = some (.cells cs ty (lo, hi))) (hfz : ∀ i, i < cs.size → lo ≤ i → hi ≤ i) (hfz0 : fz = false → lo = 0 ∧ hi = 0) (h1c : ∀ v ∈ cs.toList, v.oneCell' = true)
    (hz : sizeB P ty = some sz) (hsz : cs.size = I.base b + I.cap b * sz) (hoff : off = o' * sz) (ho' : o' ≤ I.cap b)
    (hm : off + m = kn + vs.length) (hin : I.base b + kn + vs.length ≤ cs.size) (h1v : ∀ v ∈ vs, v.oneCell' = true)
    (hc : CellsRel s.nx I (I.base b + off) c' m (wr cs (I.base b + kn) vs)) :
    SimS P X W (I.set s.nx (I.blk b) (I.base b + off) (I.cap b - o') #[]) ⟨h', s.nx + 1, s.fl⟩ (w.setCells (I.blk b) (I.base b + kn) vs) ∧
    Ext s I ⟨h', s.nx + 1, s.fl⟩ (I.set s.nx (I.blk b) (I.base b + off) (I.cap b - o') #[]) := by
  have hag : Agree s.nx I (I.set s.nx (I.blk b) (I.base b + off) (I.cap b - o') #[]) := I.set_agree _ _ _ _ _
  refine ⟨?_, hag, Nat.le_succ _, rfl⟩
  obtain ⟨r1, r2, r3, r4⟩ := setCells_rest (b := I.blk b) vs w (I.base b + kn)
  have hbn : b < s.nx := hS.low b _ ho
  have hput := setCells_at vs w (I.base b + kn) cs hb
  have hcase : ∀ x q, Has h' x q → (x = s.nx ∧ q = .cells c' m ty true false (b :: el) fz) ∨ (x = b ∧ q = .cells c kn ty op true el fz) ∨ (x ≠ s.nx ∧ x ≠ b ∧ Has s.h x q) := fun x q hq => by
    by_cases e : x = s.nx
    · subst e; exact .inl ⟨rfl, hq.uniq hu2.1⟩
    · have hq1 := (hu2.2 x q e).1 hq
      by_cases e' : x = b
      · subst e'; exact .inr (.inl ⟨rfl, hq1.uniq hu1.1⟩)
      · exact .inr (.inr ⟨e, e', (hu1.2 x q e').1 hq1⟩)
  -- who shares the block
  have hshare : ∀ x q, x ≠ b → Has s.h x q → holds q = true → I.blk x = I.blk b → x ∈ el ∧ isStale q = true ∧ I.base x + kO q ≤ I.base b + kn := fun x q hx hq hh e => by
    rcases hS.apart b _ x q ho hq (Ne.symm hx) rfl hh e.symm with ⟨a1, a2, a3⟩ | ⟨_, a2, _⟩
    · exact ⟨a1, a2, a3⟩
    · cases a2
  have hblk : ∀ x q, Has s.h x q → holds q = true → I.blk x < w.heap.size := fun x q hx hq => holds_block (hS.obj x q hx) hq
  generalize hJ : I.set s.nx (I.blk b) (I.base b + off) (I.cap b - o') #[] = J at *
  have jn1 : J.blk s.nx = I.blk b := by rw [← hJ]; simp
  have jn2 : J.base s.nx = I.base b + off := by rw [← hJ]; simp
  have jn3 : J.cap s.nx = I.cap b - o' := by rw [← hJ]; simp
  have jb := hag b hbn
  have hkeepOld : ∀ x q, x ≠ b → Has s.h x q → ObjRel P J (Has h') (s.nx + 1) (w.setCells (I.blk b) (I.base b + kn) vs) x q := fun x q hx hq => by
    by_cases hs : holds q = true ∧ I.blk x = I.blk b
    · obtain ⟨_, a2, a3⟩ := hshare x q hx hq hs.1 hs.2
      obtain ⟨c0, k0, t0, op0, el0, fz0, rfl⟩ := stale_cells a2
      exact objRel_beyond (hS.obj x _ hq) hag (Nat.le_succ _) (hS.low x _ hq) hb hs.2 a3 hin h1v true
    · refine objRel_keep (hS.obj x q hq) hag (Nat.le_succ _) (hS.low x q hq) (fun hh => setCells_other (fun e => hs ⟨hh, e⟩) _ _ _) fun d es v hd hv hmm => ?_
      rcases hcase d _ hmm with ⟨_, e⟩ | ⟨_, e⟩ | ⟨_, hdb, hm'⟩
      · cases e
      · cases e
      · refine ⟨es, hm', fun ces clock hh => ⟨ces, ?_, fun e he => ⟨e, he, rfl, rfl⟩⟩⟩
        rw [setCells_other (fun e => ?_)]
        · exact hh
        · have := (hshare d _ hdb hm' rfl e).2.1
          cases this
  refine ⟨r1.trans hS.os, r2.trans hS.tape, r3.trans hS.out, by rw [r4]; exact hS.size, ⟨by have := hS.glob.1; show glim ≤ s.nx + 1; omega, fun g hg => ?_⟩, fun x hx => ?_, fun x p q hp hq => hp.uniq hq, fun x q hq => ?_, fun x q hq => ?_, fun x p d q hp hq hne h1 h2 e => ?_, fun x q hq hh hf => ?_⟩
  · obtain ⟨g1, g2⟩ := hS.glob.2 g hg
    obtain ⟨g3, g4, _⟩ := hag g (by have := hS.glob.1; omega)
    exact ⟨g3.trans g1, g4.trans g2⟩
  · obtain ⟨k1, k2⟩ := hS.keep x hx
    refine ⟨by omega, ?_⟩
    have hne : x ≠ I.blk b := fun e => hS.away b _ ho rfl hfl (e ▸ hx)
    rw [setCells_other hne]
    exact k2
  · show x < s.nx + 1
    rcases hcase x q hq with ⟨rfl, _⟩ | ⟨rfl, _⟩ | ⟨_, _, hq'⟩
    · omega
    · omega
    · have := hS.low x q hq'; omega
  · rcases hcase x q hq with ⟨rfl, rfl⟩ | ⟨rfl, rfl⟩ | ⟨_, hxb, hq'⟩
    · refine ⟨_, lo, hi, by rw [jn1]; exact hput, by rw [jn2]; exact hc.mono hag (Nat.le_succ _), fun i hi' => hfz i (by rwa [wr_size] at hi'), hfz0, fun _ => ⟨sz, hz, ?_⟩, ?_, wr_mem _ _ _ h1c h1v⟩
      · rw [wr_size, jn2, jn3, hsz, hoff, Nat.add_assoc, ← Nat.add_mul]; congr 2; omega
      · rw [wr_size, jn2]; omega
    · exact objRel_beyond (hS.obj x _ ho) hag (Nat.le_succ _) hbn hb rfl (Nat.le_refl _) hin h1v true
    · exact hkeepOld x q hxb hq'
  · have under_nx : ∀ x q, Has h' x q → x ≠ s.nx → holds q = true → J.blk s.nx = J.blk x → Under J s.nx (.cells c' m ty true false (b :: el) fz) x q := fun x q hq hx hh e => by
      rcases hcase x q hq with ⟨e1, _⟩ | ⟨rfl, rfl⟩ | ⟨_, hxb, hq'⟩
      · exact (hx e1).elim
      · refine ⟨List.mem_cons_self, rfl, ?_⟩
        rw [jn2, jb.2.1]
        show I.base x + kn ≤ I.base x + off + m
        omega
      · have hax := hag x (hS.low x q hq')
        rw [jn1, hax.1] at e
        obtain ⟨a1, a2, a3⟩ := hshare x q hxb hq' hh e.symm
        refine ⟨List.mem_cons_of_mem _ a1, a2, ?_⟩
        rw [jn2, hax.2.1]
        show I.base x + kO q ≤ I.base b + off + m
        omega
    have under_b : ∀ x q, x ≠ b → Has s.h x q → holds q = true → J.blk b = J.blk x → Under J b (.cells c kn ty op true el fz) x q := fun x q hx hq hh e => by
      have hax := hag x (hS.low x q hq)
      rw [jb.1, hax.1] at e
      obtain ⟨a1, a2, a3⟩ := hshare x q hx hq hh e.symm
      exact ⟨a1, a2, by rw [jb.2.1, hax.2.1]; exact a3⟩
    by_cases ex : x = s.nx
    · subst ex
      rcases hcase _ p hp with ⟨_, rfl⟩ | ⟨e1, _⟩ | ⟨e1, _⟩
      · exact .inl (under_nx d q hq (Ne.symm hne) h2 e)
      · omega
      · exact (e1 rfl).elim
    · by_cases ed : d = s.nx
      · subst ed
        rcases hcase _ q hq with ⟨_, rfl⟩ | ⟨e1, _⟩ | ⟨e1, _⟩
        · exact .inr (under_nx x p hp ex h1 e.symm)
        · omega
        · exact (e1 rfl).elim
      · rcases hcase x p hp with ⟨e1, _⟩ | ⟨rfl, rfl⟩ | ⟨_, hxb, hp'⟩
        · exact (ex e1).elim
        · rcases hcase d q hq with ⟨e1, _⟩ | ⟨e1, _⟩ | ⟨_, hdb, hq'⟩
          · exact (ed e1).elim
          · exact (hne e1.symm).elim
          · exact .inl (under_b d q hdb hq' h2 e)
        · rcases hcase d q hq with ⟨e1, _⟩ | ⟨rfl, rfl⟩ | ⟨_, hdb, hq'⟩
          · exact (ed e1).elim
          · exact .inr (under_b x p hxb hp' h1 e.symm)
          · have hax := hag x (hS.low x p hp')
            have had := hag d (hS.low d q hq')
            rw [hax.1, had.1] at e
            rcases hS.apart x p d q hp' hq' hne h1 h2 e with ⟨a1, a2, a3⟩ | ⟨a1, a2, a3⟩
            · exact .inl ⟨a1, a2, by rw [hax.2.1, had.2.1]; exact a3⟩
            · exact .inr ⟨a1, a2, by rw [hax.2.1, had.2.1]; exact a3⟩
  · rcases hcase x q hq with ⟨rfl, rfl⟩ | ⟨rfl, rfl⟩ | ⟨_, hxb, hq'⟩
    · rw [jn1]; exact hS.away b _ ho rfl hfl
    · rw [jb.1]; exact hS.away _ _ ho rfl hfl
    · rw [(hag x (hS.low x q hq')).1]; exact hS.away x q hq' hh hf
/-- A row becomes stale. -/
theorem sim_stale {b kn : Nat} {c : Tr AV} {ty : TypeId} {op : Bool} {el : List Nat} {fz : Bool} {h1 : HT} (hS : SimS P X W I s w) (ho : Has s.h b (.cells c kn ty op false el fz)) (hu1 : Upd b (.cells c kn ty op true el fz) s.h h1) :
    SimS P X W I ⟨h1, s.nx, s.fl⟩ w := by
  have hcase : ∀ x q, Has h1 x q → (x = b ∧ q = .cells c kn ty op true el fz) ∨ (x ≠ b ∧ Has s.h x q) := fun x q hq => by
    by_cases e' : x = b
    · subst e'; exact .inl ⟨rfl, hq.uniq hu1.1⟩
    · exact .inr ⟨e', (hu1.2 x q e').1 hq⟩
  refine ⟨hS.os, hS.tape, hS.out, hS.size, hS.glob, hS.keep, fun x p q hp hq => hp.uniq hq, fun x q hq => ?_, fun x q hq => ?_, fun x p d q hp hq hne h1 h2 e => ?_, fun x q hq hh hf => ?_⟩
  · rcases hcase x q hq with ⟨rfl, _⟩ | ⟨_, hq'⟩
    · exact hS.low _ _ ho
    · exact hS.low x q hq'
  · rcases hcase x q hq with ⟨rfl, rfl⟩ | ⟨_, hq'⟩
    · exact hS.obj _ _ ho
    · refine objRel_keep (hS.obj x q hq') (Agree.refl _ _) (Nat.le_refl _) (hS.low x q hq') (fun _ => rfl) fun d es v _ _ hm => ?_
      rcases hcase d _ hm with ⟨_, e⟩ | ⟨_, hm'⟩
      · cases e
      · exact ⟨es, hm', fun ces clock hh => ⟨ces, hh, fun e he => ⟨e, he, rfl, rfl⟩⟩⟩
  · rcases hcase x p hp with ⟨rfl, rfl⟩ | ⟨ex, hp'⟩
    · rcases hcase d q hq with ⟨rfl, _⟩ | ⟨ed, hq'⟩
      · exact (hne rfl).elim
      · rcases hS.apart _ _ d q ho hq' hne rfl h2 e with ⟨a1, a2, a3⟩ | ⟨_, a2, _⟩
        · exact .inl ⟨a1, a2, a3⟩
        · cases a2
    · rcases hcase d q hq with ⟨rfl, rfl⟩ | ⟨ed, hq'⟩
      · rcases hS.apart x p _ _ hp' ho hne h1 rfl e with ⟨_, a2, _⟩ | ⟨a1, a2, a3⟩
        · cases a2
        · exact .inr ⟨a1, a2, a3⟩
      · exact hS.apart x p d q hp' hq' hne h1 h2 e
  · rcases hcase x q hq with ⟨rfl, rfl⟩ | ⟨_, hq'⟩
    · exact hS.away _ _ ho rfl hf
    · exact hS.away x q hq' hh hf
/-- An append to an open row's end: in place, or in a new block. -/
theorem out_younger {t tx e : TypeId} {i : TypeInfo} {zv xv : Value} {size bytes len n b off o' kn m : Nat} {c c' : Tr AV} {el : List Nat} {fz : Bool} {new : List AV} {h1 h' : HT} (hE : El P e i zv size bytes) (hA : Adds P t tx e i zv xv n (concL I new) w)
    (hS : SimS P X W I s w) (ho : Has s.h b (.cells c kn e true false el fz)) (hfl : s.fl ≤ b) (hu1 : Upd b (.cells c kn e true true el fz) s.h h1) (hu2 : Upd s.nx (.cells c' m e true false (b :: el) fz) h1 h')
    (hoff : off = o' * size) (hend : off + len * size = kn) (hx : len + o' ≤ I.cap b) (hok' : okL s.nx I new) (hcell' : ∀ v ∈ new, isCell v = true) (hcond : (2 * (len + n) + 768) * bytes ≤ 281474976710656)
    (hm : m = len * size + new.length) (hc' : ∃ c1, Over c1 (len * size) new c' ∧ ∀ j u, Has c1 j u → j < len * size ∧ Has c (off + j) u) (hfz1 : fz = true → True)
    (hk : Le L (k (.slo s.nx 0 (len + n) 0) ⟨h', s.nx + 1, s.fl⟩)) (ty : TypeId) :
    AOut P X W L k s I w (Builtin.append_ #[t, tx] ty #[.slice (some ⟨I.blk b, I.base b + off, none⟩) len (I.cap b - o'), xv]) := by
  obtain ⟨cs, lo, hi, hb, hc, hfz, hfz0, hop, hks, h1c⟩ := hS.obj b _ ho
  obtain ⟨sz, hz, hsz⟩ := hop rfl
  have hsB : sizeB P e = some size := by simp [sizeB, hE.info, hE.isz]
  obtain rfl : size = sz := Option.some.inj (hsB.symm.trans hz)
  have hnl : new.length = n * size := by have := hA.newsLen; rw [concL_length, hE.isz] at this; exact this
  obtain ⟨c1, ov, hc1⟩ := hc'
  have hpos := hE.pos
  have hkn : kn = (o' + len) * size := by rw [← hend, hoff, Nat.add_mul]
  rcases Nat.lt_or_ge (I.cap b - o') (len + n) with hg | hroom
  · -- a new block
    obtain ⟨f1, f2⟩ := fits hcond hE.bpos hg
    have holds : (cs.toList.drop (I.base b + off)).take (len * size) = (cs.toList.drop (I.base b + off)).take (len * size) := rfl
    generalize hol : (cs.toList.drop (I.base b + off)).take (len * size) = olds at holds
    have hlen : olds.length = len * size := by rw [← hol]; simp; omega
    have hget : ∀ j, j < len * size → olds[j]? = cs[I.base b + off + j]? := fun j hj => by
      rw [← hol, List.getElem?_take_of_lt hj, List.getElem?_drop]; simp
    have hfirst : (Builtin.firstCells size len (.slice (some ⟨I.blk b, I.base b + off, none⟩) len (I.cap b - o'))).run P w.drew = .ok olds.toArray w.drew := by
      refine run_firstCells_some w.drew size len _ len _ olds hlen (fun j v hj => ?_)
      have hlt : j < len * size := by
        rcases Nat.lt_or_ge j olds.length with h | h
        · omega
        · rw [List.getElem?_eq_none h] at hj; cases hj
      rw [Addr.add_mid, cell_of_block (w := w.drew) hb, ← hget j hlt]; exact hj
    have hrun := hA.grow ty _ len (I.cap b - o') olds (by rw [hE.isz]; exact hfirst) hg f1 (by rw [hE.iby]; exact f2)
    have hG := grownCap_ge w (len + n) (I.cap b - o') e
    have hone : ∀ v ∈ olds, v.oneCell' = true := fun v hv => by
      rw [← hol] at hv
      exact h1c v (List.mem_of_mem_drop (List.mem_of_mem_take hv))
    have hc1r : CellsRel s.nx I 0 c1 (len * size) olds.toArray := fun j u hj => by
      obtain ⟨g1, g2⟩ := hc1 j u hj
      obtain ⟨_, q2, q3, q4⟩ := hc _ u g2
      refine ⟨g1, ?_, q3, q4⟩
      rw [Nat.zero_add, List.getElem?_toArray, hget j g1, ← q2]; congr 1; omega
    obtain ⟨g1, g2, g3, g4⟩ := grown_row (cap := grownCap w (len + n) (I.cap b - o') e) hE hlen hnl hc1r ov hok' hcell' hone hG
    obtain ⟨k1, k2⟩ := sim_grown (s := ⟨h1, s.nx, s.fl⟩) (w := w.drew) (sim_drew (sim_stale hS ho hu1)) hu2 (by rw [hm]; exact g1) (by rw [hm]; omega) hsB g2 g4
    refine ⟨.slo s.nx 0 (len + n) 0, _, _, _, k2, k1, ?_, ?_, hk⟩
    · refine ⟨Nat.lt_succ_self s.nx, ?_⟩
      rw [Itp.set_cap]; omega
    · rw [hrun]
      simp [conc]
  · -- in place
    have hcapsz : (o' + len + n) * size ≤ I.cap b * size := Nat.mul_le_mul_right _ (by omega)
    have hin : I.base b + kn + new.length ≤ cs.size := by
      rw [hsz, hkn, hnl, Nat.add_assoc, ← Nat.add_mul]; omega
    have hth : w.there (I.blk b) (I.base b + off + len * size) (concL I new).length := by
      rw [concL_length]
      exact there_of hb hfz (fun j hj => by omega)
    have hrun := hA.room ty (I.blk b) (I.base b + off) len (I.cap b - o') hroom (by rw [hE.isz]; exact hth)
    have hpl : I.base b + off + len * size = I.base b + kn := by omega
    rw [hE.isz, hpl] at hrun
    obtain ⟨k1, k2⟩ := sim_younger (vs := concL I new) hS ho hfl hu1 hu2 hb hfz hfz0 h1c hz hsz hoff (by omega) (by rw [concL_length]; omega) (by rw [concL_length]; exact hin) (oneCells_of hcell') (by
      intro j u hj
      have hwr := fun j => wr_get (concL I new) cs (I.base b + kn) j (by rw [concL_length]; exact hin)
      rcases ov j u hj with ⟨g1, g2, g3⟩ | ⟨g1, g2⟩
      · have hmem : u ∈ new := List.mem_of_getElem? g3
        refine ⟨by omega, ?_, okL_iff.1 hok' u hmem, hcell' u hmem⟩
        rw [hwr, concL_length, if_pos (by omega), show I.base b + off + j - (I.base b + kn) = j - len * size from by omega, concL_map, List.getElem?_map, g3]; rfl
      · obtain ⟨l1, l2⟩ := hc1 j u g2
        obtain ⟨_, q2, q3, q4⟩ := hc _ u l2
        refine ⟨by omega, ?_, q3, q4⟩
        rw [hwr, concL_length, if_neg (by omega), ← q2]; congr 1; omega)
    refine ⟨.slo s.nx 0 (len + n) 0, _, _, _, k2, k1, ?_, ?_, hk⟩
    · refine ⟨Nat.lt_succ_self s.nx, ?_⟩
      rw [Itp.set_cap]; omega
    · rw [hrun]
      simp [conc]
end
end Go.Proofs.YtajdeaabgplacaaGreatDoor.Sev

namespace Go.Proofs.YtajdeaabgplacaaGreatDoor.Sev
open Go Go.RowKit
set_option linter.unusedVariables false
variable {L : List (AV × St)}
section
variable {C : Cf} {P : Program} {o : Oper} {f : Fr} {s : St} {k : AV → St → Ans} {X : Nat → Prop} {W : World} {I : Itp} {w : World} {a : Act}

theorem out_appendCells {t tx e : TypeId} {i : TypeInfo} {zv xv : Value} {size bytes n : Nat} {x : AV} {new : List AV} (hE : El P e i zv size bytes) (hA : Adds P t tx e i zv xv n (concL I new) w)
    (h : Le L (appendCells e size bytes x n new s k)) (hS : SimS P X W I s w) (hok : ok s.nx I x) (hok' : okL s.nx I new) (hcell' : ∀ v ∈ new, isCell v = true) (ty : TypeId) :
    AOut P X W L k s I w (Builtin.append_ #[t, tx] ty #[conc I x, xv]) := by
  have hnl : new.length = n * size := by have := hA.newsLen; rw [concL_length, hE.isz] at this; exact this
  have hpos := hE.pos
  unfold appendCells at h
  split at h
  · rcases le_ifK h with ⟨h0, h1⟩ | ⟨h0, h1⟩
    · exact ⟨.nilsl, s, I, w, Ext.refl _ _, hS, trivial, hA.none (Nat.eq_of_beq_eq_true h0) ty none 0 0 (Nat.le_refl _), h1⟩
    · have hn0 : n ≠ 0 := Nat.ne_of_beq_eq_false h0
      exact out_growK (old := []) hE hA h1 hS (firstCells_nil _ _ _ _ _) (by simp) trivial (fun v hv => by cases hv) hok' hcell' (by omega) ty
  · rename_i b off len cap
    rcases le_ifK h with ⟨hle, h1⟩ | ⟨hle, h1⟩
    · have hle := Nat.le_of_ble_eq_true hle
      rcases le_ifK h1 with ⟨h0, h2⟩ | ⟨h0, h2⟩
      · have h0 := Nat.eq_of_beq_eq_true h0
        exact ⟨.sl b off len cap, s, I, w, Ext.refl _ _, hS, hok, hA.none h0 ty _ len cap (by omega), h2⟩
      · obtain ⟨s', e1, e2, hth, hS', h3⟩ := le_storeK (k := fun s' => natK (len + n) fun q => k (.sl b off q cap) s') h2 hS hok' hcell'
        have hk := le_natK (k := fun q => k (.sl b off q cap) s') h3
        have hpl : I.base b + off + len * size = I.base b + (off + len * size) := by omega
        have hrun := hA.room ty (I.blk b) (I.base b + off) len cap hle (by rw [hE.isz, hpl, concL_length]; exact hth)
        rw [hE.isz, hpl] at hrun
        exact ⟨.sl b off (len + n) cap, s', I, _, ⟨Agree.refl _ _, by omega, e2⟩, hS', (by show b < s'.nx; rw [e1]; exact hok), hrun, hk⟩
    · have hg : cap < len + n := by
        rcases Nat.lt_or_ge cap (len + n) with h | h
        · exact h
        · rw [Nat.ble_eq_true_of_le h] at hle; cases hle
      obtain ⟨old, o1, o2, o3, o4, o5, o6, h2⟩ := le_srcK h1 (fun l e => by cases e) hS hok
      exact out_growK hE hA h2 hS (o6 w.drew rfl) (o2 (fun e => by cases e)) o4 o5 hok' hcell' hg ty
  · rename_i b off len o'
    obtain ⟨ob, hob, h1⟩ := le_objK h
    obtain ⟨c, kn, ty', op, st, el, fz, rfl, h2⟩ := le_asCells h1
    obtain ⟨hcd, h3⟩ := le_ifN h2
    simp only [Bool.and_eq_true] at hcd
    obtain ⟨⟨hop, hty⟩, hoff⟩ := hcd
    obtain rfl := Nat.eq_of_beq_eq_true hty
    have hoff := Nat.eq_of_beq_eq_true hoff
    subst hop
    have hokx : b < s.nx ∧ len + o' ≤ I.cap b := hok
    have hsB : sizeB P ty' = some size := by simp [sizeB, hE.info, hE.isz]
    rcases le_ifK h3 with ⟨hle, h4⟩ | ⟨hle, h4⟩
    · have hle := Nat.le_of_ble_eq_true hle
      obtain ⟨cs, lo, hi, hb, hc, hfz, hfz0, hop, hks, h1c⟩ := hS.obj b _ hob
      obtain ⟨sz, hz, hsz⟩ := hop rfl
      obtain rfl : size = sz := Option.some.inj (hsB.symm.trans hz)
      have hroom : len + n ≤ I.cap b - o' := by
        have h5 : (o' + (len + n)) * size ≤ I.cap b * size := by rw [Nat.add_mul, ← hoff]; omega
        have := Nat.le_of_mul_le_mul_right h5 (by omega)
        omega
      rcases le_ifK h4 with ⟨h0, h5⟩ | ⟨h0, h5⟩
      · have h0 := Nat.eq_of_beq_eq_true h0
        exact ⟨.slo b off len o', s, I, w, Ext.refl _ _, hS, hok, hA.none h0 ty _ len (I.cap b - o') (by omega), h5⟩
      · obtain ⟨s', e1, e2, hth, hS', h6⟩ := le_storeK (k := fun s' => natK (len + n) fun q => k (.slo b off q o') s') h5 hS hok' hcell'
        have hk := le_natK (k := fun q => k (.slo b off q o') s') h6
        have hpl : I.base b + off + len * size = I.base b + (off + len * size) := by omega
        have hrun := hA.room ty (I.blk b) (I.base b + off) len (I.cap b - o') hroom (by rw [hE.isz, hpl, concL_length]; exact hth)
        rw [hE.isz, hpl] at hrun
        exact ⟨.slo b off (len + n) o', s', I, _, ⟨Agree.refl _ _, by omega, e2⟩, hS', ⟨by rw [e1]; exact hokx.1, by omega⟩, hrun, hk⟩
    · obtain ⟨hcd, h5⟩ := le_ifN h4
      simp only [Bool.and_eq_true, Bool.not_eq_true'] at hcd
      obtain ⟨hend, hst⟩ := hcd
      have hend := Nat.eq_of_beq_eq_true hend
      subst hst
      obtain ⟨hcond, h6⟩ := le_ifN h5
      have hcond := Nat.le_of_ble_eq_true hcond
      cases off with
      | zero =>
        obtain ⟨c', ov, h7⟩ := le_pushN (k := fun c' m => putK s b (.cells c kn ty' true true el fz) fun s' => newK s' (.cells c' m ty' true false (b :: el) fz) fun b' s'' => natK (len + n) fun q => k (.slo b' 0 q 0) s'') h6
        obtain ⟨hfl, h1', o0, ho0, hu1, h8⟩ := le_putK h7
        obtain ⟨h', hu2, h9⟩ := le_newK h8
        have hk := le_natK (k := fun q => k (.slo s.nx 0 q 0) ⟨h', s.nx + 1, s.fl⟩) h9
        rw [show kn = len * size from by omega] at ov
        refine out_younger hE hA hS hob hfl hu1 hu2 hoff hend hokx.2 hok' hcell' hcond (by omega) ⟨c, ov, fun j u hj => ?_⟩ (fun _ => trivial) hk ty
        obtain ⟨cs, lo, hi, hb, hc, _⟩ := hS.obj b _ hob
        have := (hc j u hj).1
        exact ⟨by omega, by rw [Nat.zero_add]; exact hj⟩
      | succ off =>
        obtain ⟨old, hl, hj, h7⟩ := le_readN (k := fun old => pushN old .lf 0 fun c0 m0 => pushN new c0 m0 fun c' m => putK s b (.cells c kn ty' true true el fz) fun s' => newK s' (.cells c' m ty' true false (b :: el) fz) fun b' s'' => natK (len + n) fun q => k (.slo b' 0 q 0) s'') h6
        obtain ⟨c1, ov1, h8⟩ := le_pushN h7
        obtain ⟨c', ov2, h9⟩ := le_pushN h8
        obtain ⟨hfl, h1', o0, ho0, hu1, h10⟩ := le_putK h9
        obtain ⟨h', hu2, h11⟩ := le_newK h10
        have hk := le_natK (k := fun q => k (.slo s.nx 0 q 0) ⟨h', s.nx + 1, s.fl⟩) h11
        rw [Nat.zero_add, hl] at ov2 hu2
        refine out_younger hE hA hS hob hfl hu1 hu2 hoff hend hokx.2 hok' hcell' hcond rfl ⟨c1, ov2, fun j u hju => ?_⟩ (fun _ => trivial) hk ty
        rcases ov1 j u hju with ⟨_, g2, g3⟩ | ⟨_, g⟩
        · exact ⟨by omega, hj j u (by simpa using g3)⟩
        · exact (has_lf g).elim
  · exact h.no.elim
end
end Go.Proofs.YtajdeaabgplacaaGreatDoor.Sev

namespace Go.Proofs.YtajdeaabgplacaaGreatDoor.Sev
open Go Go.RowKit
set_option linter.unusedVariables false
variable {L : List (AV × St)}
section
variable {C : Cf} {P : Program} {o : Oper} {f : Fr} {s : St} {k : AV → St → Ans} {X : Nat → Prop} {W : World} {I : Itp} {w : World} {a : Act}

theorem append_two {tys : Array TypeId} {args : Array Value} {ty t u : TypeId} {sv xv : Value} (h0 : tys[0]? = some t) (h1 : tys[1]? = some u) (a0 : args[0]? = some sv) (a1 : args[1]? = some xv) :
    Builtin.append_ tys ty args = Builtin.append_ #[t, u] ty #[sv, xv] := by
  unfold Builtin.append_
  simp [h0, h1, a0, a1]
theorem el_of {e : TypeId} {size bytes : Nat} {z : List AV} (h1 : sizeB P e = some size) (h2 : bytesB P e = some bytes) (h3 : zeroCells P e = some z) (h4 : z.length = size) (h5 : 1 ≤ size) (h6 : 1 ≤ bytes) :
    ∃ i zv, El P e i zv size bytes ∧ (∀ n I, zv.cells.toList = concL I z ∧ okL n I z) ∧ ∀ u ∈ z, isCell u = true := by
  cases hi : P.info? e with
  | none => simp [sizeB, hi] at h1
  | some i =>
    simp only [sizeB, hi, Option.map_some, Option.some.injEq] at h1
    simp only [bytesB, hi, Option.map_some, Option.some.injEq] at h2
    cases hz : i.zero with
    | none => simp [zeroCells, zeroB, hi, hz] at h3
    | some zv =>
      obtain ⟨v, k1, k2, k3⟩ := zeroCells_some h3 default
      have hv : v = zv := by
        simp [zeroValue, typeInfo, hi, hz] at k1
        exact k1.symm
      subst hv
      refine ⟨i, v, ⟨hi, hz, h1, h2, h5, h6, ?_, ?_⟩, k2, k3⟩
      · have := congrArg List.length (k2 0 ⟨fun _ => 0, fun _ => 0, fun _ => 0, fun _ => #[]⟩).1
        rw [concL_length, h4] at this
        simpa using this
      · intro u hu
        rw [(k2 0 ⟨fun _ => 0, fun _ => 0, fun _ => 0, fun _ => #[]⟩).1] at hu
        exact oneCells_of k3 u hu
theorem firstCells_zero {P : Program} {a : Addr} {size l c : Nat} (w' : World) : (Builtin.firstCells size 0 (.slice (some a) l c)).run P w' = .ok #[] w' :=
  run_firstCells_some w' size 0 a l c [] (by simp) (fun j v hv => by simp at hv)
theorem le_lenOfK {y : AV} {K : Nat → Ans} (h : Le L (lenOfK y K)) : ∃ n, Le L (K n) ∧ (∀ l, y = .str l → n = l.length) ∧ (y = .nilsl → n = 0) ∧ (∀ (P : Program) (I : Itp) (w' : World), (Builtin.lenOf (conc I y)).run P w' = .ok n w') ∧
    ∀ (P : Program) (I : Itp) (size : Nat) (w' : World), (Builtin.firstCells size 0 (conc I y)).run P w' = .ok #[] w' := by
  unfold lenOfK at h
  split at h
  · exact ⟨_, h, fun l e => (by cases e), fun e => (by cases e), fun _ _ _ => rfl, fun _ _ _ w' => firstCells_zero w'⟩
  · exact ⟨_, h, fun l e => (by cases e), fun e => (by cases e), fun _ _ _ => rfl, fun _ _ _ w' => firstCells_zero w'⟩
  · exact ⟨0, h, fun l e => (by cases e), fun _ => rfl, fun _ _ _ => rfl, fun _ _ _ w' => firstCells_nil _ _ _ _ _⟩
  · exact ⟨0, h, fun l e => (by cases e), fun e => (by cases e), fun _ _ _ => rfl, fun _ _ _ w' => firstCells_zero w'⟩
  · rename_i l
    refine ⟨_, le_lenK h, fun l' e => (by cases e; rfl), fun e => (by cases e), fun P I w' => ?_, fun P I size w' => ?_⟩
    · simp [conc, Builtin.lenOf, ByteArray.size]
    · simp only [conc, Builtin.firstCells, Sem.run_pure]
      congr 1
      apply Array.toList_inj.1
      rw [Array.toList_map, ByteArray.data_extract, Array.toList_extract]
      simp
  · exact h.no.elim
theorem AOut.out {run : Sem Value} (h : AOut P X W L k s I w run) (hr : ∀ v w', run.run P w = .ok v w' → (execOp a.eval o).run P w = .ok (.value v) w') : Out P X W L k s I w o a := by
  obtain ⟨v, s', I', w', h1, h2, h3, h4, h5⟩ := h
  exact ⟨v, s', I', w', h1, h2, h3, .inl (hr _ _ h4), h5⟩
theorem out_append {c : Call} (ho : o.op = .call c) (hc : c.callee = .builtin .append) {vs : List AV} (hv : OpdsV f c.args.toList vs)
    (h : Le L (builtinK C.P .append c.argTypes.toList vs s k)) (hS : SimS C.P X W I s w) (hr : Rel s.nx I f a o.op) : Out C.P X W L k s I w o a := by
  simp only [builtinK] at h
  obtain ⟨t, ht, h1⟩ := le_nthK h
  obtain ⟨x, hx, h2⟩ := le_nthK h1
  obtain ⟨y, hy, h3⟩ := le_nthK h2
  obtain ⟨e, he, h4⟩ := le_optK h3
  obtain ⟨size, hsz, h5⟩ := le_optK h4
  obtain ⟨bytes, hby, h6⟩ := le_optK h5
  obtain ⟨z, hz, h7⟩ := le_optK h6
  obtain ⟨hcd, h8⟩ := le_ifN (le_lenK h7)
  obtain ⟨u, hu, h9⟩ := le_nthK h8
  simp only [Bool.and_eq_true] at hcd
  obtain ⟨⟨p1, p2⟩, p3⟩ := hcd
  have p1 := Nat.le_of_ble_eq_true p1
  have p2 := Nat.le_of_ble_eq_true p2
  have p3 := Nat.eq_of_beq_eq_true p3
  have he := sliceB_some he
  obtain ⟨i, zv, hE, hzc, hzcell⟩ := el_of hsz hby hz p3 p1 p2
  obtain ⟨k1, k2⟩ := call_args ho hv hr
  have hokx : ok s.nx I x := okL_iff.1 k2 x (List.mem_of_getElem? hx)
  have hoky : ok s.nx I y := okL_iff.1 k2 y (List.mem_of_getElem? hy)
  have fin : ∀ n new, Adds C.P t u e i zv (conc I y) n (concL I new) w → okL s.nx I new → (∀ v ∈ new, isCell v = true) → Le L (appendCells e size bytes x n new s k) → Out C.P X W L k s I w o a := fun n new hA q1 q2 q3 => by
    refine (out_appendCells hE hA q3 hS hokx q1 q2 o.type).out fun v w' hrun => ?_
    rw [run_builtin ho hc, k1]
    simp only [builtin, append_two (argT ht) (argT hu) (argV (I := I) hx) (argV (I := I) hy), Sem.run_bind, hrun, Result.andThen_ok]
    rfl
  have src : ((∃ e', C.P.underlying u = some (.slice e')) ∨ C.P.underlying u = some .string) → Le L (lenOfK y fun n => srcK size n y s fun new => appendCells e size bytes x n new s k) → Out C.P X W L k s I w o a := fun hk h => by
    obtain ⟨n, h10, n1, n2, n3, _⟩ := le_lenOfK h
    obtain ⟨new, m1, m2, m3, m4, m5, m6, h11⟩ := le_srcK h10 (fun l e => Nat.le_of_eq (n1 l e)) hS hoky
    refine fin n new (adds_src he hE.info hE.zero ⟨hk, fun w' => n3 _ _ _, ?_, ?_, ?_, oneCells_of m5⟩) m4 m5 h11
    · rw [hE.isz]; exact m6 w rfl
    · rw [hE.isz]; exact m6 w.drew rfl
    · rw [concL_length, hE.isz]
      by_cases hn : y = .nilsl
      · rw [m3 hn, n2 hn]; simp
      · exact m2 hn
  split at h9
  · rename_i kd hkd
    split at h9
    · rename_i n
      obtain ⟨hcd, h10⟩ := le_ifN h9
      simp only [Bool.and_eq_true] at hcd
      obtain ⟨c1, c2⟩ := hcd
      have c1 : n < 1000000 := by
        have : n ≤ 999999 := by simpa [Nat.blt] using c1
        omega
      have c2 := Nat.le_of_ble_eq_true c2
      have h11 := le_natK (k := fun n => appendCells e size bytes x n (zerosN z n) s k) h10
      have hA := adds_zeros (P := C.P) (w := w) (t := t) (tx := u) (n := n) he hkd hE.info hE.zero (by rw [hE.zsize, hE.isz]) (by rw [hE.isz]; exact p1) hE.zone c1 (by rw [hE.iby]; exact c2)
      have hrow : Builtin.zeroCells zv.cells n = (concL I (zerosN z n)).toArray := zeros_row (hzc s.nx I).1 n _ (by rw [hE.zsize, p3])
      rw [hrow] at hA
      exact fin n (zerosN z n) hA (okL_iff.2 fun v hv => okL_iff.1 (hzc s.nx I).2 v (zerosN_mem hv)) (fun v hv => hzcell v (zerosN_mem hv)) h11
    · exact h9.no.elim
  · rename_i e' he'; exact src (.inl ⟨e', he'⟩) h9
  · rename_i he'; exact src (.inr he') h9
  · exact h9.no.elim
theorem out_copy {c : Call} (ho : o.op = .call c) (hc : c.callee = .builtin .copy) {vs : List AV} (hv : OpdsV f c.args.toList vs)
    (h : Le L (builtinK C.P .copy c.argTypes.toList vs s k)) (hS : SimS C.P X W I s w) (hr : Rel s.nx I f a o.op) : Out C.P X W L k s I w o a := by
  simp only [builtinK] at h
  obtain ⟨t, ht, h1⟩ := le_nthK h
  obtain ⟨x, hx, h2⟩ := le_nthK h1
  obtain ⟨y, hy, h3⟩ := le_nthK h2
  obtain ⟨e, he, h4⟩ := le_optK h3
  obtain ⟨size, hsz, h5⟩ := le_optK h4
  obtain ⟨m, h6, n1, n2, n3, n4⟩ := le_lenOfK h5
  have he := sliceB_some he
  obtain ⟨k1, k2⟩ := call_args ho hv hr
  have hokx : ok s.nx I x := okL_iff.1 k2 x (List.mem_of_getElem? hx)
  have hoky : ok s.nx I y := okL_iff.1 k2 y (List.mem_of_getElem? hy)
  have ht := argT ht
  have ex := argV (I := I) hx
  have ey := argV (I := I) hy
  have done : ∀ v w', (Builtin.copy_ c.argTypes o.type (concL I vs).toArray).run C.P w = .ok v w' → OpRun C.P o a w v w' := fun v w' hw => by
    left
    rw [run_builtin ho hc, k1]
    simp [builtin, hw]
  have row : ∀ b off n cp, conc I x = .slice (some ⟨I.blk b, I.base b + off, none⟩) n cp → Le L (natK (Nat.min m n) fun q => srcK size q y s fun l => ifK (Nat.beq (q * size) 0) (k (.int .i64 (.ofNat q)) s) (storeK s b off l fun s' => k (.int .i64 (.ofNat q)) s')) → Out C.P X W L k s I w o a := fun b off n cp hcx hk => by
    have h7 := le_natK (k := fun q => srcK size q y s fun l => ifK (Nat.beq (q * size) 0) (k (.int .i64 (.ofNat q)) s) (storeK s b off l fun s' => k (.int .i64 (.ofNat q)) s')) hk
    obtain ⟨new, m1, m2, m3, m4, m5, m6, h8⟩ := le_srcK h7 (fun l e => by rw [n1 l e]; exact Nat.min_le_left _ _) hS hoky
    rw [hcx] at ex
    have hlen : new.length = Nat.min m n * size := by
      by_cases hn : y = .nilsl
      · rw [m3 hn, n2 hn]; simp
      · exact m2 hn
    rcases le_ifK h8 with ⟨h0, h9⟩ | ⟨h0, h9⟩
    · have h0 := Nat.eq_of_beq_eq_true h0
      have : new = [] := List.length_eq_zero_iff.1 (by rw [hlen, h0])
      subst this
      refine ⟨.int .i64 (.ofNat (Nat.min m n)), s, I, w, Ext.refl _ _, hS, trivial, done _ _ ?_, h9⟩
      have := m6 w rfl
      simp [Builtin.copy_, ht, ex, ey, run_underlying he, n3, run_size hsz, this, conc, concL, storeCells, goInt]
    · obtain ⟨s', e1, e2, hth, hS', h10⟩ := le_storeK (k := fun s' => k (.int .i64 (.ofNat (Nat.min m n))) s') h9 hS m4 m5
      refine ⟨.int .i64 (.ofNat (Nat.min m n)), s', I, _, ⟨Agree.refl _ _, by omega, e2⟩, hS', trivial, done _ _ ?_, h10⟩
      have hrun := run_storeCells_there (P := C.P) (l := concL I new) (by rw [concL_length]; exact hth) (oneCells_of m5)
      have := m6 w rfl
      simp [Builtin.copy_, ht, ex, ey, run_underlying he, n3, run_size hsz, this, conc, hrun, goInt]
  split at h6
  · exact row _ _ _ _ rfl h6
  · exact row _ _ _ _ rfl h6
  · refine ⟨.int .i64 (.ofNat 0), s, I, w, Ext.refl _ _, hS, trivial, done _ _ ?_, h6⟩
    simp [Builtin.copy_, ht, ex, ey, run_underlying he, n3, run_size hsz, n4, conc, goInt]
  · refine ⟨.int .i64 (.ofNat 0), s, I, w, Ext.refl _ _, hS, trivial, done _ _ ?_, h6⟩
    simp [Builtin.copy_, ht, ex, ey, run_underlying he, n3, run_size hsz, n4, conc, storeCells, goInt]
  · exact h6.no.elim
end
end Go.Proofs.YtajdeaabgplacaaGreatDoor.Sev

namespace Go.Proofs.YtajdeaabgplacaaGreatDoor.Sev
open Go Go.RowKit
set_option linter.unusedVariables false
variable {L : List (AV × St)}
section
variable {C : Cf} {P : Program} {o : Oper} {f : Fr} {s : St} {k : AV → St → Ans} {X : Nat → Prop} {W : World} {I : Itp} {w : World} {a : Act}

theorem strBytes_conc (l : List Nat) : (ByteArray.mk (l.map UInt8.ofNat).toArray).data.map (fun b => Value.int .u8 b.toNat) = (concL I (l.map fun c => AV.int .u8 (.ofNat (Nat.mod c 256)))).toArray := by
  apply Array.toList_inj.1
  rw [Array.toList_map]
  simp only [concL_map, List.map_map]
  refine List.map_congr_left fun c _ => ?_
  simp [conc, UInt8.toNat_ofNat']
  rfl
theorem out_convStr {x y : TypeId} {z : Operand} (ho : o.op = .convert x y z) (hcls : cls C.P o.op = 3) (h : Le L (oConv C x y z f s k)) (hS : SimS C.P X W I s w) (hr : Rel s.nx I f a o.op) : Out C.P X W L k s I w o a := by
  obtain ⟨v, hv, h1⟩ := le_opd h
  obtain ⟨k1, k2⟩ := hr z (by rw [ho]; simp [Op.operands]) _ hv
  rw [ho] at hcls
  simp only [cls] at hcls
  have c1 : (isIntT C.P x && isIntT C.P y) = false := by
    cases hh : (isIntT C.P x && isIntT C.P y)
    · rfl
    · rw [hh] at hcls; simp at hcls
  rw [c1] at hcls
  have c2 : (isStringT C.P x && isStringT C.P y) = false := by
    cases hh : (isStringT C.P x && isStringT C.P y)
    · rfl
    · rw [hh] at hcls; simp at hcls
  rw [c2] at hcls
  have c3 : isByteSlice C.P x = false := by
    cases hh : isByteSlice C.P x
    · rfl
    · rw [hh] at hcls; simp at hcls
  have nobs : ∀ {A : Ans} {wh n}, Le L (ifK (isStringT C.P y && isByteSlice C.P x) A (.no wh n)) → False := fun h => by
    obtain ⟨h2, _⟩ := le_ifN h
    rw [c3] at h2; simp at h2
  unfold convK at h1
  split at h1
  · obtain ⟨h2, _⟩ := le_ifN h1
    rw [Bool.and_comm, c1] at h2; cases h2
  · rename_i l
    rcases le_ifK h1 with ⟨h2, _⟩ | ⟨_, h2⟩
    · rw [Bool.and_comm, c2] at h2; cases h2
    · obtain ⟨h3, h4⟩ := le_ifN h2
      simp only [Bool.and_eq_true] at h3
      obtain ⟨b1, b2⟩ := h3
      obtain ⟨e, he1, he2⟩ := isByteSlice_some b1
      have hs := isStringT_some b2
      obtain ⟨e', he', h5⟩ := le_optK h4
      have he' := sliceB_some he'
      rw [he1] at he'
      cases he'
      obtain ⟨sz, hsz, h6⟩ := le_optK h5
      obtain ⟨h7, h8⟩ := le_ifN h6
      obtain rfl := Nat.eq_of_beq_eq_true h7
      obtain ⟨c, hov, h9⟩ := le_pushN (le_lenK (k := fun n => pushN (l.map fun c => AV.int .u8 (.ofNat (Nat.mod c 256))) .lf 0 fun c m => newK s (.cells c m e true false [] true) fun b s' => natK n fun n => k (.slo b 0 n 0) s') h8)
      obtain ⟨h', hu, h10⟩ := le_newK h9
      have hk := le_natK (k := fun n => k (.slo s.nx 0 n 0) ⟨h', s.nx + 1, s.fl⟩) h10
      have hlen : (ByteArray.mk (l.map UInt8.ofNat).toArray).size = l.length := by simp [ByteArray.size]
      have hrun := run_bytes_of_string (P := C.P) w x y e ⟨(l.map UInt8.ofNat).toArray⟩ hs he1 he2
      rw [hlen] at hrun
      have hG := grownCap_ge w l.length 0 e
      generalize hcap : grownCap w l.length 0 e = cap at hrun hG
      have hrow : bytesRow ⟨(l.map UInt8.ofNat).toArray⟩ cap = (concL I (l.map fun c => AV.int .u8 (.ofNat (Nat.mod c 256))) ++ List.replicate (cap - l.length) (Value.int .u8 0)).toArray := by
        unfold bytesRow
        rw [strBytes_conc (I := I), hlen]
        apply Array.toList_inj.1
        simp
      rw [hrow] at hrun
      have hcell : ∀ v ∈ (l.map fun c => (AV.int .u8 (.ofNat (Nat.mod c 256)))), isCell v = true := fun v hv => by
        obtain ⟨c, _, rfl⟩ := List.mem_map.1 hv; rfl
      have hok : okL s.nx I (l.map fun c => (AV.int .u8 (.ofNat (Nat.mod c 256)))) := okL_iff.2 fun v hv => by
        obtain ⟨c, _, rfl⟩ := List.mem_map.1 hv; trivial
      have hcr := cellsRel_new hov hok hcell (List.replicate (cap - l.length) (Value.int .u8 0))
      generalize hcs : (concL I (l.map fun c => (AV.int .u8 (.ofNat (Nat.mod c 256)))) ++ List.replicate (cap - l.length) (Value.int .u8 0)).toArray = cs at hrun hcr
      have hsize : cs.size = cap := by rw [← hcs]; simp [concL_length]; omega
      rw [List.length_map] at hcr
      rw [Nat.zero_add, List.length_map] at hu
      obtain ⟨q1, q2⟩ := sim_new (q := .cells cs e (cs.size, cs.size + 1)) (sim_drew hS) hu cap (by
        refine ⟨cs, cs.size, cs.size + 1, ?_, ?_, fun i hi hl => by omega, fun hh => (by cases hh), fun _ => ⟨1, hsz, ?_⟩, ?_, ?_⟩
        · rw [Itp.set_blk]; exact heap_alloc_new w.drew _
        · rw [Itp.set_base]; exact hcr.mono (I.set_agree _ _ _ _ _) (Nat.le_succ _)
        · rw [Itp.set_base, Itp.set_cap, hsize]; omega
        · rw [Itp.set_base, hsize]; omega
        · intro v hv
          rw [← hcs] at hv
          simp only [List.mem_append] at hv
          rcases hv with hv | hv
          · exact oneCells_of hcell v hv
          · rw [List.eq_of_mem_replicate hv]; rfl)
      refine ⟨.slo s.nx 0 l.length 0, _, _, _, q2, q1, ?_, .inl ?_, hk⟩
      · refine ⟨Nat.lt_succ_self s.nx, ?_⟩
        rw [Itp.set_cap]; omega
      · simp only [execOp, ho, k1, conc, Sem.run_bind, hrun, Result.andThen_ok]
        simp
  · exact (nobs h1).elim
  · exact (nobs h1).elim
  · exact (nobs h1).elim
  · exact h1.no.elim
/-! ### range -/
theorem out_range {t : TypeId} {x : Operand} (ho : o.op = .range t x) (h : Le L (oRange C t x f s k)) (hS : SimS C.P X W I s w) (hr : Rel s.nx I f a o.op) : Out C.P X W L k s I w o a := by
  obtain ⟨u, hu, h1⟩ := le_opd h
  obtain ⟨k1, k2⟩ := hr x (by rw [ho]; simp [Op.operands]) _ hu
  split at h1
  · obtain ⟨hk2, h2⟩ := le_ifN h1
    obtain ⟨_, _, he⟩ := kindB_2 hk2
    obtain ⟨h', hup, hk⟩ := le_newK h2
    obtain ⟨q1, q2⟩ := sim_new (q := .mapIter none 0 #[] 0) hS hup 0 (by
      refine ⟨by simp, 0, #[], 0, ?_⟩
      rw [Itp.set_blk]; exact heap_alloc_new w _)
    refine ⟨.ptr s.nx 0, _, _, _, q2, q1, Nat.lt_succ_self s.nx, .inl ?_, hk⟩
    simp [execOp, ho, k1, conc, Instr.range, run_underlying he]
  · rename_i m
    obtain ⟨hk2, h2⟩ := le_ifN h1
    obtain ⟨_, _, he⟩ := kindB_2 hk2
    obtain ⟨ob, hob, h3⟩ := le_objK h2
    obtain ⟨es, ver, rfl, h4⟩ := le_asMap h3
    obtain ⟨h', hup, hk⟩ := le_newK h4
    obtain ⟨hver, ces, clock, hb, hents, hkeys, hborn, hclock⟩ := hS.obj m _ hob
    have hmn := hS.low m _ hob
    have hag : Agree s.nx I (I.set s.nx w.heap.size 0 0 #[]) := I.set_agree _ _ _ _ _
    have hlt : I.blk m < w.heap.size := holds_block (hS.obj m _ hob) rfl
    have hkm : (es.map Prod.fst).map (conc I) = ces.toList.map (·.key) := by
      have := congrArg (List.map Prod.fst) hents.1
      simp only [List.map_map] at this ⊢
      exact this.symm
    have hokr : okL s.nx I (es.map Prod.fst) := okL_iff.2 fun v hv => by
      obtain ⟨e, he, rfl⟩ := List.mem_map.1 hv; exact (hents.2 e he).1
    obtain ⟨q1, q2⟩ := sim_new (q := .mapIter (some (I.blk m)) clock #[] clock) hS hup 0 (by
      refine ⟨by simp, by omega, by omega, ⟨okL_agree hag (Nat.le_succ _) hokr, ?_⟩, fun v hv => ?_, fun v hv => (by cases hv), clock, #[], clock, ?_, fun es' hes => ?_⟩
      · rw [List.map_congr_left (fun v hv => conc_agree hag (okL_iff.1 hokr v hv)), hkm]; exact hkeys
      · obtain ⟨e, he, rfl⟩ := List.mem_map.1 hv; exact (hents.2 e he).2.2
      · rw [Itp.set_blk, (hag m hmn).1]; exact heap_alloc_new w _
      · have hne : m ≠ s.nx := by omega
        have := ((hup.2 m _ hne).1 hes).uniq hob
        cases this
        refine ⟨ces, clock, by rw [(hag m hmn).1, Below.heap_alloc w _ _ hlt]; exact hb, rfl, rfl, fun e he => ⟨⟨fun _ => ?_, fun _ => by simp⟩, fun v hv => (by cases hv)⟩⟩
        have hmem : e.key ∈ (es.map Prod.fst).map (conc I) := by rw [hkm]; exact List.mem_map_of_mem he
        obtain ⟨v, hv, hve⟩ := List.mem_map.1 hmem
        exact ⟨v, hv, by rw [conc_agree hag (okL_iff.1 hokr v hv)]; exact hve⟩)
    refine ⟨.ptr s.nx 0, _, _, _, q2, q1, Nat.lt_succ_self s.nx, .inl ?_, hk⟩
    simp [execOp, ho, k1, conc, Instr.range, run_underlying he, run_getMap hb]
  · rename_i l
    obtain ⟨hs, h2⟩ := le_ifN h1
    have hs := isStringT_some hs
    obtain ⟨h', hup, hk⟩ := le_newK h2
    obtain ⟨q1, q2⟩ := sim_new (q := .stringIter ⟨(l.map UInt8.ofNat).toArray⟩ 0) hS hup 0 (by
      refine ⟨by simp, ?_⟩
      rw [Itp.set_blk]; exact heap_alloc_new w _)
    refine ⟨.ptr s.nx 0, _, _, _, q2, q1, Nat.lt_succ_self s.nx, .inl ?_, hk⟩
    simp [execOp, ho, k1, conc, Instr.range, run_underlying hs]
  · exact h1.no.elim
end
end Go.Proofs.YtajdeaabgplacaaGreatDoor.Sev

namespace Go.Proofs.YtajdeaabgplacaaGreatDoor.Sev
open Go Go.RowKit
open Go.ChangeMaps (setBlock)
set_option linter.unusedVariables false
variable {L : List (AV × St)}
section
variable {C : Cf} {P : Program} {o : Oper} {f : Fr} {s : St} {k : AV → St → Ans} {X : Nat → Prop} {W : World} {I : Itp} {w : World} {a : Act}

noncomputable def nextGo (B : AV → List AV → List AV → Ans) (Z : Ans) (l : List AV) : List AV → Ans :=
  List.rec (fun _ => Z) (fun e l ih pre => Ans.rec (fun w n => .no w n) (fun outs => List.rec (.outs outs)
    (fun _ _ _ => Ans.rec (fun w n => .no w n) (fun outs' => .outs (outs ++ outs')) (ih (e :: pre))) l) (B e pre l)) l
theorem le_nextGo {B : AV → List AV → List AV → Ans} {Z : Ans} : ∀ {l pre : List AV}, Le L (nextGo B Z l pre) → (l = [] → Le L Z) ∧ ∀ j a, l[j]? = some a → Le L (B a ((l.take j).reverse ++ pre) (l.drop (j + 1)))
  | [], pre, h => ⟨fun _ => h, fun j a hj => by simp at hj⟩
  | [e], pre, h => by
    have h : Le L (Ans.rec (motive := fun _ => Ans) (fun w n => .no w n) (fun outs => .outs outs) (B e pre [])) := h
    have h1 : Le L (B e pre []) := by
      cases hB : B e pre [] with
      | no w n => rw [hB] at h; exact h.no.elim
      | outs l => rw [hB] at h; exact h
    refine ⟨fun hh => (by cases hh), fun j a hj => ?_⟩
    cases j with
    | zero => simp at hj; subst hj; exact h1
    | succ j => simp at hj
  | e :: e' :: l, pre, h => by
    have h : Le L (Ans.rec (motive := fun _ => Ans) (fun w n => .no w n) (fun outs => Ans.rec (motive := fun _ => Ans) (fun w n => .no w n) (fun outs' => .outs (outs ++ outs')) (nextGo B Z (e' :: l) (e :: pre))) (B e pre (e' :: l))) := h
    have h2 : Le L (B e pre (e' :: l)) ∧ Le L (nextGo B Z (e' :: l) (e :: pre)) := by
      cases hB : B e pre (e' :: l) with
      | no w n => rw [hB] at h; exact h.no.elim
      | outs l1 =>
        rw [hB] at h
        cases hB2 : nextGo B Z (e' :: l) (e :: pre) with
        | no w n => rw [hB2] at h; exact h.no.elim
        | outs l2 =>
          rw [hB2] at h
          obtain ⟨r, hr, hall⟩ := h
          cases hr
          exact ⟨⟨l1, rfl, fun x hx => hall x (List.mem_append_left _ hx)⟩, ⟨l2, rfl, fun x hx => hall x (List.mem_append_right _ hx)⟩⟩
    refine ⟨fun hh => (by cases hh), fun j a hj => ?_⟩
    cases j with
    | zero => simp at hj; subst hj; exact h2.1
    | succ j =>
      have := (le_nextGo h2.2).2 j a (by simpa using hj)
      simpa [List.append_assoc] using this
theorem le_stillK {es : List (AV × AV)} : ∀ {l : List AV} {K : List AV → Ans}, Le L (stillK es l K) → ∃ r, r.Sublist l ∧ (∀ x ∈ l, FindRel x es none ∨ x ∈ r) ∧ (∀ x ∈ r, ∃ i, FindRel x es (some i)) ∧ Le L (K r)
  | [], K, h => ⟨[], List.Sublist.refl _, fun x hx => (by cases hx), fun x hx => (by cases hx), h⟩
  | e :: l, K, h => by
    obtain ⟨p, hp, h1⟩ := le_findK (k := fun v => Option.rec (stillK es l K) (fun _ => stillK es l fun l => K (e :: l)) v) h
    cases p with
    | none =>
      obtain ⟨r, r1, r2, r3, r4⟩ := le_stillK (K := K) h1
      refine ⟨r, r1.cons _, fun x hx => ?_, r3, r4⟩
      rcases List.mem_cons.1 hx with rfl | hx
      · exact .inl hp
      · exact r2 x hx
    | some i =>
      obtain ⟨en, hen, _⟩ := id hp
      simp only [Option.bind_some, hen, Option.map_some] at h1
      obtain ⟨r, r1, r2, r3, r4⟩ := le_stillK (K := fun l => K (e :: l)) h1
      refine ⟨e :: r, r1.cons_cons _, fun x hx => ?_, fun x hx => ?_, r4⟩
      · rcases List.mem_cons.1 hx with rfl | hx
        · exact .inr List.mem_cons_self
        · rcases r2 x hx with h | h
          · exact .inl h
          · exact .inr (List.mem_cons_of_mem _ h)
      · rcases List.mem_cons.1 hx with rfl | hx
        · exact ⟨i, hp⟩
        · exact r3 x hx
theorem entry_of {n : Nat} {es : List (AV × AV)} {ces : Array MapEntry} (h : EntsRel n I es ces.toList) {e : MapEntry} (he : e ∈ ces.toList) : ∃ en ∈ es, e.key = conc I en.1 ∧ e.val = conc I en.2 := by
  obtain ⟨i, hi⟩ := List.getElem?_of_mem he
  have hc := congrArg (fun l => l[i]?) h.1
  simp only [List.getElem?_map, hi, Option.map_some] at hc
  cases hen : es[i]? with
  | none => rw [hen] at hc; cases hc
  | some en =>
    rw [hen] at hc
    exact ⟨en, List.mem_of_getElem? hen, by simpa using hc⟩
theorem not_none {n : Nat} {es : List (AV × AV)} {ces : Array MapEntry} (h : EntsRel n I es ces.toList) {e : MapEntry} (he : e ∈ ces.toList) {x : AV} (hx : conc I x = e.key) : ¬ FindRel x es none := fun hf => by
  obtain ⟨en, hen, hk, _⟩ := entry_of h he
  have := (keyEq_spec (hf en hen) I).1 (hx.trans hk)
  cases this
theorem out_next {x : Operand} {ty : TypeId} (ho : o.op = .next x false) (h : Le L (oNext C x false f s k)) (hS : SimS C.P X W I s w) (hr : Rel s.nx I f a o.op) : Out C.P X W L k s I w o a := by
  obtain ⟨u, hu, h1⟩ := le_opd h
  obtain ⟨k1, k2⟩ := hr x (by rw [ho]; simp [Op.operands]) _ hu
  unfold iterK at h1
  split at h1
  · rename_i b
    obtain ⟨ob, hob, h2⟩ := le_objK h1
    split at h2
    · -- a nil map
      rcases le_ifK h2 with ⟨hh, _⟩ | ⟨_, h3⟩
      · cases hh
      · obtain ⟨hb0, since, seen, stepped, hh⟩ := hS.obj b _ hob
        refine ⟨.tup [.bool false], s, I, w, Ext.refl _ _, hS, ⟨trivial, trivial⟩, .inl ?_, h3⟩
        have hg : (getObj (I.blk b)).run C.P w = .ok (.mapIter none since seen stepped) w := by simp [getObj, Sem.run, hh]
        simp [execOp, ho, k1, conc, concL, hb0, Instr.next, hg]
    · rename_i m ver rem last
      rcases le_ifK h2 with ⟨hh, _⟩ | ⟨_, h3⟩
      · cases hh
      · obtain ⟨mo, hmo, h4⟩ := le_objK h3
        obtain ⟨es, ver', rfl, h5⟩ := le_asMap h4
        obtain ⟨hv, h6⟩ := le_ifN h5
        obtain rfl := Nat.eq_of_beq_eq_true hv
        obtain ⟨r, r1, r2, r3, h7⟩ := le_stillK h6
        obtain ⟨hb0, hm1, hm2, ⟨hokr, hnd⟩, hself, hlast, since, seen, stepped, hh, hcr⟩ := hS.obj b _ hob
        obtain ⟨hver, ces, clock, hmb, hents, hkeys, hborn, hclock⟩ := hS.obj m _ hmo
        obtain ⟨ces', clock', hmb', rfl, rfl, hall⟩ := hcr es hmo
        rw [hmb] at hmb'
        obtain ⟨rfl, rfl⟩ : ces = ces' ∧ clock = stepped := by simpa using hmb'
        have hinr : ∀ e ∈ ces.toList, ∀ y ∈ rem, conc I y = e.key → y ∈ r := fun e he y hy hk => by
          rcases r2 y hy with h | h
          · exact (not_none hents he hk h).elim
          · exact h
        have h8 := le_nextGo (B := fun e pre l => putK s b (.iter m ver (List.reverseAux pre l) (some e)) fun s => findK e es fun v => optK v "next" fun v => k (.tup [.bool true, e, v]) s) (Z := k (.tup [.bool false]) s) (l := r) (pre := []) h7
        have hrnd : (r.map (conc I)).Nodup := (r1.map _).nodup hnd
        rcases run_next_at (P := C.P) w o.type (I.blk b) (I.blk m) clock clock seen ces clock hh hmb hclock (Nat.le_refl _) with ⟨h0, hrun⟩ | ⟨e, he, w1, hw1, hrun⟩
        · -- nothing is left
          have hr0 : r = [] := by
            cases hrr : r with
            | nil => rfl
            | cons y r' =>
              exfalso
              have hy : y ∈ r := by rw [hrr]; exact List.mem_cons_self
              obtain ⟨i, hi⟩ := r3 y hy
              obtain ⟨en, hen, hke, _⟩ := hi
              obtain ⟨ce, hce, hck, _⟩ := entry_at hents hen
              have hmem : ce ∈ ces.toList := List.mem_of_getElem? hce
              have hun := ((hall ce hmem).1).2 ⟨y, r1.subset hy, by rw [hck]; exact (keyEq_spec hke I).2 rfl⟩
              have hin : ce ∈ (leftOf ces seen) := by
                unfold leftOf
                rw [Array.mem_filter]
                exact ⟨by simpa using hmem, by rw [hun]; rfl⟩
              have := Array.size_pos_of_mem hin
              omega
          refine ⟨.tup [.bool false], s, I, w, Ext.refl _ _, hS, ⟨trivial, trivial⟩, .inl ?_, h8.1 hr0⟩
          simp only [execOp, ho, k1, conc, concL, hb0, Sem.run_bind, Nat.add_zero, hrun, Result.andThen_ok]
          rfl
        · -- e comes out
          have he2 : e ∈ ces.toList ∧ seen.contains e.born = false := by
            simp only [leftOf, Array.toList_filter, List.mem_filter, Bool.not_eq_true'] at he
            exact he
          obtain ⟨hec, hun⟩ := he2
          obtain ⟨y, hy, hyk⟩ := ((hall e hec).1).1 hun
          have hyr := hinr e hec y hy hyk
          obtain ⟨j, hj⟩ := List.getElem?_of_mem hyr
          have hB := h8.2 j y hj
          simp only [List.append_nil] at hB
          obtain ⟨hfl, h', o0, _, hup, h9⟩ := le_putK hB
          obtain ⟨p, hp, h10⟩ := le_findK h9
          obtain ⟨v, hv', hk⟩ := le_optK h10
          obtain ⟨i, rfl⟩ : ∃ i, p = some i := by
            cases p with
            | none => cases hv'
            | some i => exact ⟨i, rfl⟩
          obtain ⟨en, hen, hke, _⟩ := id hp
          obtain rfl : en.2 = v := by simpa [hen] using hv'
          obtain ⟨ce, hce, hck, hcv⟩ := entry_at hents hen
          have hyc : conc I y = ce.key := by rw [hck]; exact (keyEq_spec hke I).2 rfl
          obtain rfl : e = ce := key_one hkeys (by simpa using hce) e hec (by rw [← hyk, hyc])
          have hoky : ok s.nx I y := okL_iff.1 hokr y hy
          have hokv : ok s.nx I en.2 := (hents.2 en (List.mem_of_getElem? hen)).2.1
          have hmb' : m ≠ b := fun hmb0 => by subst hmb0; have := hmo.uniq hob; cases this
          have hblk : I.blk m ≠ I.blk b := fun hbb => by
            rcases hS.apart m _ b _ hmo hob hmb' rfl rfl hbb with ⟨_, h2, _⟩ | ⟨_, h2, _⟩ <;> cases h2
          have hS1 : Sim C.P X W I (Has s.h) s.nx s.fl w1 := by rcases hw1 with rfl | rfl; exact hS; exact sim_drew hS
          have hheap : w1.heap = w.heap := by rcases hw1 with rfl | rfl <;> rfl
          have hrem2 : List.reverseAux (r.take j).reverse (r.drop (j + 1)) = r.eraseIdx j := by
            rw [List.reverseAux_eq, List.reverse_reverse, List.eraseIdx_eq_take_drop_succ]
          rw [hrem2] at hup
          have hsubr : ∀ z ∈ r.eraseIdx j, z ∈ r := fun z hz => List.mem_of_mem_eraseIdx hz
          have hnd2 : ((r.eraseIdx j).map (conc I)).Nodup := by rw [map_erase]; exact hrnd.eraseIdx j
          have hnot : ∀ z ∈ r.eraseIdx j, conc I z ≠ conc I y := fun z hz hzy => by
            have hlt : j < r.length := (List.getElem?_eq_some_iff.1 hj).1
            have hrj : r[j] = y := (List.getElem?_eq_some_iff.1 hj).2
            rw [List.mem_eraseIdx_iff_getElem] at hz
            obtain ⟨q, hq, hqj, hqz⟩ := hz
            have h1 : (r.map (conc I))[q]'(by simpa using hq) = (r.map (conc I))[j]'(by simpa using hlt) := by simp [hqz, hrj, hzy]
            exact hqj ((List.getElem_inj hrnd).1 h1)
          have hkeep : ∀ z ∈ r, conc I z ≠ conc I y → z ∈ r.eraseIdx j := fun z hz hne => by
            obtain ⟨q, hq, hqz⟩ := List.getElem_of_mem hz
            refine List.mem_eraseIdx_iff_getElem.2 ⟨q, hq, fun hqj => hne ?_, hqz⟩
            subst hqj
            rw [← hqz, (List.getElem?_eq_some_iff.1 hj).2]
          have hlb : I.blk b < w.heap.size := holds_block (hS.obj b _ hob) rfl
          have hS' : Sim C.P X W I (Has h') s.nx s.fl (setBlock w1 (I.blk b) (.mapIter (some (I.blk m)) clock (seen.push e.born) clock)) := by
            refine Sim.put hS1 hob hfl rfl rfl (hupd_of hup) (.inl rfl) rfl rfl rfl rfl rfl (by simp [setBlock]) (fun z hz => by simp [setBlock, Ne.symm hz]) ?_ (fun _ _ _ hh => by cases hh)
            refine ⟨hb0, hm1, hm2, ⟨okL_iff.2 fun z hz => okL_iff.1 hokr z (r1.subset (hsubr z hz)), hnd2⟩, fun z hz => hself z (r1.subset (hsubr z hz)), fun z hz => ?_, clock, seen.push e.born, clock, ?_, fun es' hes => ?_⟩
            · cases hz; exact ⟨hoky, hself y hy⟩
            · simp [setBlock, hheap, hlb]
            · have := ((hup.2 m _ hmb').1 hes).uniq hmo
              cases this
              refine ⟨ces, clock, ?_, rfl, rfl, fun e' he' => ⟨?_, fun z hz hzk => ?_⟩⟩
              · simp [setBlock, hheap, Ne.symm hblk]; simpa using hmb
              · have hpush : (seen.push e.born).contains e'.born = (seen.contains e'.born || (e'.born == e.born)) := by
                  rw [Bool.eq_iff_iff]; simp
                by_cases hee : e' = e
                · subst hee
                  refine ⟨fun hc => by rw [hpush] at hc; simp at hc, fun ⟨z, hz, hzk⟩ => ?_⟩
                  exact (hnot z hz (by rw [hzk, hyk])).elim
                · have hbne : e'.born ≠ e.born := fun hbb => hee (by
                    have hi' : ces[i]? = some e := by simpa using hce
                    have := born_idx hborn hi'
                    obtain ⟨q, hq⟩ := List.getElem?_of_mem he'
                    have h2 := born_idx hborn (i := q) (ce := e') (by simpa using hq)
                    rw [hbb] at h2
                    rw [this] at h2
                    cases h2
                    rw [hce] at hq
                    exact (Option.some.inj hq).symm)
                  have hkne : e'.key ≠ e.key := fun hkk => hee (key_one hkeys (i := i) (by simpa using hce) e' he' hkk)
                  rw [hpush]
                  have hbf : (e'.born == e.born) = false := by simpa using hbne
                  rw [hbf, Bool.or_false]
                  refine ((hall e' he').1).trans ⟨fun ⟨z, hz, hzk⟩ => ⟨z, hkeep z (hinr e' he' z hz hzk) (fun hh => hkne (by rw [← hzk, hh, hyk])), hzk⟩, fun ⟨z, hz, hzk⟩ => ⟨z, r1.subset (hsubr z hz), hzk⟩⟩
              · cases hz
                have : e' = e := key_one hkeys (i := i) (by simpa using hce) e' he' (by rw [← hzk, hyk])
                rw [this]; simp
          refine ⟨.tup [.bool true, y, en.2], ⟨h', s.nx, s.fl⟩, I, _, ⟨Agree.refl _ _, Nat.le_refl _, rfl⟩, hS', ⟨trivial, hoky, hokv, trivial⟩, .inl ?_, hk⟩
          simp only [execOp, ho, k1, conc, concL, hb0, Sem.run_bind, Nat.add_zero, hrun, Result.andThen_ok, hyk, hcv]
          rfl
    · split at h2
      · exact h2.no.elim
      · exact h2.no.elim
    · exact h2.no.elim
  · exact h1.no.elim
end
end Go.Proofs.YtajdeaabgplacaaGreatDoor.Sev

namespace Go.Proofs.YtajdeaabgplacaaGreatDoor.Sev
open Go Go.RowKit
set_option linter.unusedVariables false
variable {L : List (AV × St)}
section
variable {C : Cf} {rec : Rec} {o : Oper} {f : Fr} {s : St} {k : AV → St → Ans} {X : Nat → Prop} {W : World} {I : Itp} {w : World} {a : Act}

/-- A call of a function, or of a method. -/
def isCall : Op → Bool
  | .call c => match c.callee with | .builtin _ => false | _ => true
  | _ => false
/-- What is no call is carried out in one step. -/
theorem plain_out (hno : isCall o.op = false) (h : Le L (execA C rec o.op f s k)) (hS : SimS C.P X W I s w) (hr : Rel s.nx I f a o.op) : Out C.P X W L k s I w o a := by
  have two : ∀ {A : Prop}, (∃ ob vl, Spec2 C.P o f ob vl ∧ Le L (newK s (ob s.nx) fun b s' => k (vl b) s')) → Out C.P X W L k s I w o a := fun h => by
    obtain ⟨ob, vl, h1, h2⟩ := h
    exact h1.out hS hr h2
  rcases Nat.lt_or_ge (cls C.P o.op) 1 with hc | hc
  · obtain ⟨v, h1, h2⟩ := light0 (by omega) h
    exact h1.one.out hS hr h2
  rcases Nat.lt_or_ge (cls C.P o.op) 2 with hc1 | hc1
  · obtain ⟨v, h1, h2⟩ := light1 (by omega) h
    exact h1.out hS hr h2
  have hne0 : cls C.P o.op ≠ 0 := by omega
  have hne1 : cls C.P o.op ≠ 1 := by omega
  cases ho : o.op with
  | alloc t => rw [ho] at h; exact two (A := True) (spec_alloc ho h)
  | box t x => rw [ho] at h; exact out_box ho h hS hr
  | buildSlice t m ps => rw [ho] at h; exact two (A := True) (spec_buildSlice ho h)
  | makeMap t r => rw [ho] at h; exact two (A := True) (spec_makeMap ho h)
  | makeSlice t x y => rw [ho] at h; exact two (A := True) (spec_makeSlice ho h)
  | range t x => rw [ho] at h; exact out_range ho h hS hr
  | assign x =>
    rw [ho] at h
    obtain ⟨v, h1, h2⟩ := spec_move (.inr ho) h
    exact h1.one.out hS hr h2
  | build t ps =>
    rw [ho] at h
    refine out_buildBig ho ?_ h hS hr
    cases hb : bigB C.P t
    · exact (hne0 (by rw [ho]; simp [cls, hb])).elim
    · rfl
  | load t x =>
    rw [ho] at h
    refine out_loadBig ho ?_ h hS hr
    cases hb : bigB C.P t
    · exact (hne1 (by rw [ho]; simp [cls, hb])).elim
    · rfl
  | store t x y => rw [ho] at h; exact out_store ho h hS hr
  | mapUpdate t x y z => rw [ho] at h; exact out_mapUpd (.inl ho) h hS hr
  | insert t x y z => rw [ho] at h; exact out_mapUpd (.inr ho) h hS hr
  | mapEntry t x y => rw [ho] at h; exact out_mapEnt ho h hS hr
  | entryStore t x y z => rw [ho] at h; exact out_entStore ho h hS hr
  | next x str =>
    rw [ho] at h
    cases str with
    | false => exact out_next (ty := 0) ho h hS hr
    | true =>
      obtain ⟨u, _, h1⟩ := le_opd h
      unfold iterK at h1
      split at h1
      · obtain ⟨ob, _, h2⟩ := le_objK h1
        split at h2
        · rcases le_ifK h2 with ⟨_, h3⟩ | ⟨hh, _⟩
          · exact h3.no.elim
          · cases hh
        · rcases le_ifK h2 with ⟨_, h3⟩ | ⟨hh, _⟩
          · exact h3.no.elim
          · cases hh
        · split at h2
          · exact h2.no.elim
          · exact h2.no.elim
        · exact h2.no.elim
      · exact h1.no.elim
  | convert x y z =>
    rw [ho] at h
    refine out_convStr ho ?_ h hS hr
    rw [ho] at hne0 hne1 ⊢
    simp only [cls] at hne0 hne1 ⊢
    split
    · rename_i h1; simp [h1] at hne0
    · rename_i h1
      split
      · rename_i h2; simp [h1, h2] at hne0
      · rename_i h2
        split
        · rename_i h3; simp [h1, h2, h3] at hne1
        · rfl
  | call c =>
    rw [ho] at h hno
    obtain ⟨vs, hvs, h1⟩ := le_opds h
    cases hce : c.callee with
    | value g => simp [isCall, hce] at hno
    | invoke r name => simp [isCall, hce] at hno
    | builtin b =>
      rw [hce] at h1
      have h1 : Le L (builtinK C.P b c.argTypes.toList vs s k) := h1
      cases b with
      | append => exact out_append ho hce hvs h1 hS hr
      | copy => exact out_copy ho hce hvs h1 hS hr
      | delete => exact out_delete ho hce hvs h1 hS hr
      | clear => exact out_clear ho hce hvs h1 hS hr
      | max => exact (hne0 (by rw [ho]; simp [cls, hce])).elim
      | min => exact (hne0 (by rw [ho]; simp [cls, hce])).elim
      | len =>
        exfalso
        rw [ho] at hne0 hne1
        simp only [cls, hce] at hne0 hne1
        split at hne0 <;> simp_all
      | cap =>
        exfalso
        rw [ho] at hne0 hne1
        simp only [cls, hce] at hne0 hne1
        split at hne0 <;> simp_all
      | _ => exact h1.no.elim
  | binOp op t x y yt =>
    exfalso
    rw [ho] at hne0 hne1
    simp only [cls] at hne0 hne1
    split at hne0 <;> simp_all
  | _ => first
    | (exact (hne0 (by rw [ho]; rfl)).elim)
    | (exact (hne1 (by rw [ho]; rfl)).elim)
    | (rw [ho] at h; exact (Le.no h).elim)
end
end Go.Proofs.YtajdeaabgplacaaGreatDoor.Sev
