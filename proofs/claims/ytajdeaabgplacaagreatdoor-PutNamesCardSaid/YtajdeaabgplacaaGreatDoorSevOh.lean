/-
  Sev: code. What an evaluator of regions and of ranges is good for, one of code is good for.
  Sev: regions that do not draw their order.
  Sev: a call's frame; its results.
  Sev: a call of a function of the program.
  Sev: a call of a function value, in a region.
  Sev: a call of a method, in a region.
  Sev: what waits for a function's end.
  Sev: by fuel.
-/
import Derived.Test.YtajdeaabgplacaaGreatDoorSevN
namespace Go.Proofs.YtajdeaabgplacaaGreatDoor.Sev
open Go Go.RowKit
set_option linter.unusedVariables false
variable {L : List (AV × St)}

/-- A frame of the machine and a frame of the evaluator. -/
structure FR (D : Nat → Itp → List DI → List Deferred → Prop) (b : Frame) (a : Act) (f : Fr) (n : Nat) (I : Itp) : Prop where
  fn : b.fn = f.fn
  tm : FrRel n I f.tm a.tmps
  dl : D n I f.dl a.defers
  rd : match f.rd with | none => b.roundOf = none | some l => l < n ∧ b.roundOf = some (I.blk l)

/-- The code of a jump; what is left to do behind it. -/
noncomputable def jumpC (j : Nat) : Code := Bool.rec (.goto (Nat.sub j gotoBase)) (.exit j) (Nat.blt j gotoBase)
noncomputable def jumpTo (j : Nat) (k : List Item) : Option (List Item) := Bool.rec (gotoIn (Nat.sub j gotoBase) k) (exitTo j k) (Nat.blt j gotoBase)
theorem jumpC_exit {j : Nat} (h : Nat.blt j gotoBase = true) : jumpC j = .exit j := by unfold jumpC; rw [h]
theorem jumpTo_exit {j : Nat} (h : Nat.blt j gotoBase = true) (k : List Item) : jumpTo j k = exitTo j k := by unfold jumpTo; rw [h]
theorem jumpC_away {j : Nat} (h : Nat.blt j gotoBase = false) : jumpC j = .goto (Nat.sub j gotoBase) := by unfold jumpC; rw [h]
theorem jumpTo_away {j : Nat} (h : Nat.blt j gotoBase = false) (k : List Item) : jumpTo j k = gotoIn (Nat.sub j gotoBase) k := by unfold jumpTo; rw [h]
theorem jumpC_goto (l : Nat) : jumpC (Nat.add gotoBase l) = .goto l := by
  have h : Nat.blt (Nat.add gotoBase l) gotoBase = false := by
    rw [Bool.eq_false_iff]
    intro e
    have h1 : Nat.add gotoBase l < gotoBase := Nat.ble_eq.mp e
    have h2 : Nat.add gotoBase l = gotoBase + l := rfl
    omega
  rw [jumpC_away h]
  have h2 : Nat.sub (Nat.add gotoBase l) gotoBase = gotoBase + l - gotoBase := rfl
  rw [h2, Nat.add_sub_cancel_left]
theorem jumpTo_over {it : Item} {k : List Item} (h1 : ∀ j, exitTo j (it :: k) = exitTo j k) (h2 : ∀ l, gotoIn l (it :: k) = gotoIn l k) (j : Nat) : jumpTo j (it :: k) = jumpTo j k := by
  unfold jumpTo
  rw [h1, h2]
section
variable (D : Nat → Itp → List DI → List Deferred → Prop) (C : Cf) (Gd : Machine → Prop) (L : List (AV × St)) (X : Nat → Prop) (W : World) (b : Frame) (cs : List Frame)
/-- Behind the code all is well. -/
def Ends (kn : Fr → St → Ans) (k0 : List Item) (s : St) (I : Itp) : Prop :=
  ∀ f' s' I' w' a', Ext s I s' I' → SimS C.P X W I' s' w' → FR D b a' f' s'.nx I' → Le L (kn f' s') → Gd (lone (Fm b a' k0) cs w')
/-- Behind a jump out of it all is well. -/
def Exits (kx : Nat → Fr → St → Ans) (k0 : List Item) (s : St) (I : Itp) : Prop :=
  ∀ id f' s' I' w' a', Ext s I s' I' → SimS C.P X W I' s' w' → FR D b a' f' s'.nx I' → Le L (kx id f' s') →
    ∃ m', Gd m' ∧ ∀ k, jumpTo id k = jumpTo id k0 → step C.P (lone (Fm b a' (.code (jumpC id) :: k)) cs w') = .next m'
/-- Behind a return all is well. -/
def Rets (kr : Fr → St → Ans) (s : St) (I : Itp) : Prop :=
  ∀ f' s' I' w' a', Ext s I s' I' → SimS C.P X W I' s' w' → FR D b a' f' s'.nx I' → Le L (kr f' s') →
    ∀ k, ∃ m', Gd m' ∧ step C.P (lone (Fm b a' (.code .ret :: k)) cs w') = .next m'
/-- The evaluator's way through this code is the machine's. -/
def CodeOk (r : Fr → St → (Fr → St → Ans) → (Nat → Fr → St → Ans) → (Fr → St → Ans) → Ans) (c : Code) : Prop :=
  ∀ f s kn kx kr I w a k0, Le L (r f s kn kx kr) → SimS C.P X W I s w → FR D b a f s.nx I → Ends D C Gd L X W b cs kn k0 s I → Exits D C Gd L X W b cs kx k0 s I → Rets D C Gd L X W b cs kr s I →
    ∃ m', step C.P (lone (Fm b a (.code c :: k0)) cs w) = .next m' ∧ Gd m'
end
section
variable {D : Nat → Itp → List DI → List Deferred → Prop} {C : Cf} {Gd : Machine → Prop} {X : Nat → Prop} {W : World} {b : Frame} {cs : List Frame}
theorem Ends.later {kn : Fr → St → Ans} {k0 : List Item} {s s' : St} {I I' : Itp} (h : Ends D C Gd L X W b cs kn k0 s I) (he : Ext s I s' I') : Ends D C Gd L X W b cs kn k0 s' I' :=
  fun f s2 I2 w a h2 => h f s2 I2 w a (he.trans h2)
theorem Exits.later {kx : Nat → Fr → St → Ans} {k0 : List Item} {s s' : St} {I I' : Itp} (h : Exits D C Gd L X W b cs kx k0 s I) (he : Ext s I s' I') : Exits D C Gd L X W b cs kx k0 s' I' :=
  fun id f s2 I2 w a h2 => h id f s2 I2 w a (he.trans h2)
theorem Rets.later {kr : Fr → St → Ans} {s s' : St} {I I' : Itp} (h : Rets D C Gd L X W b cs kr s I) (he : Ext s I s' I') : Rets D C Gd L X W b cs kr s' I' :=
  fun f s2 I2 w a h2 => h f s2 I2 w a (he.trans h2)
/-- What else is left to do, over which a jump goes, is the same to it. -/
theorem Exits.over {kx : Nat → Fr → St → Ans} {k0 k1 : List Item} {s : St} {I : Itp} (h : Exits D C Gd L X W b cs kx k0 s I) (he : ∀ id, jumpTo id k1 = jumpTo id k0) : Exits D C Gd L X W b cs kx k1 s I :=
  fun id f s2 I2 w a h2 h3 h4 h5 => by
    obtain ⟨m', h6, h7⟩ := h id f s2 I2 w a h2 h3 h4 h5
    exact ⟨m', h6, fun k hk => h7 k (hk.trans (he id))⟩
/-- Code, by its parts. -/
theorem code_ok (hG : ∀ m m', step C.P m = .next m' → Gd m' → Gd m) {rec : Rec}
    (hrec : ∀ c, CodeOk D C Gd L X W b cs (rec c) c)
    (hregion : ∀ id ops draw, CodeOk D C Gd L X W b cs (fun f s kn kx kr => regionK C rec ops draw f s kn) (.region id ops draw))
    (hrange : ∀ fo ps asg body, CodeOk D C Gd L X W b cs (fun f s kn kx kr => rangeK C rec fo ps asg body f s kn kx kr) (.rangeFunc fo ps asg body)) :
    ∀ c, CodeOk D C Gd L X W b cs (stepC C rec c) c := by
  intro c
  have from_ok : ∀ {r c}, CodeOk D C Gd L X W b cs r c → ∀ {f s kn kx kr I w a k0}, Le L (r f s kn kx kr) → SimS C.P X W I s w → FR D b a f s.nx I → Ends D C Gd L X W b cs kn k0 s I → Exits D C Gd L X W b cs kx k0 s I → Rets D C Gd L X W b cs kr s I →
      Gd (lone (Fm b a (.code c :: k0)) cs w) := fun h f s kn kx kr I w a k0 h1 h2 h3 h4 h5 h6 => by
    obtain ⟨m', h7, h8⟩ := h f s kn kx kr I w a k0 h1 h2 h3 h4 h5 h6
    exact hG _ _ h7 h8
  induction c with
  | skip => intro f s kn kx kr I w a k0 h hS hF hn hx hr; exact ⟨_, mv_skip, hn f s I w a (Ext.refl _ _) hS hF h⟩
  | region id ops draw => exact hregion id ops draw
  | seq x y ihx ihy =>
    intro f s kn kx kr I w a k0 h hS hF hn hx hr
    refine ⟨_, mv_seq, from_ok ihx (kn := fun f s => stepC C rec y f s kn kx kr) h hS hF (fun f' s' I' w' a' he hS' hF' hk => ?_) (hx.over (jumpTo_over (fun _ => rfl) (fun _ => rfl))) hr⟩
    exact from_ok ihy hk hS' hF' (hn.later he) (hx.later he) (hr.later he)
  | cond x y z ihy ihz =>
    intro f s kn kx kr I w a k0 h hS hF hn hx hr
    obtain ⟨v, hv, h1⟩ := le_opd h
    cases v <;> first | exact h1.no.elim | skip
    rename_i t
    obtain ⟨e1, _⟩ := opdRel_of hF.tm hS.glob x _ hv
    cases t with
    | true => exact ⟨_, mv_cond e1, from_ok ihy h1 hS hF hn hx hr⟩
    | false => exact ⟨_, mv_cond e1, from_ok ihz h1 hS hF hn hx hr⟩
  | block id c ih =>
    intro f s kn kx kr I w a k0 h hS hF hn hx hr
    obtain ⟨hid, h⟩ := le_ifN h
    refine ⟨_, mv_block, from_ok ih h hS hF (fun f' s' I' w' a' he hS' hF' hk => hG _ _ mv_inBlock (hn f' s' I' w' a' he hS' hF' hk)) (fun j f' s' I' w' a' he hS' hF' hk => ?_) hr⟩
    cases hj : Nat.beq j id
    · simp only [hj] at hk
      obtain ⟨m', h6, h7⟩ := hx j f' s' I' w' a' he hS' hF' hk
      refine ⟨m', h6, fun k hk' => h7 k (hk'.trans ?_)⟩
      have : (id == j) = false := by
        have := Nat.ne_of_beq_eq_false hj
        simpa using fun e => this e.symm
      unfold jumpTo
      cases Nat.blt j gotoBase
      · rfl
      · simp [exitTo, this]
    · simp only [hj] at hk
      obtain rfl := Nat.eq_of_beq_eq_true hj
      refine ⟨_, hn f' s' I' w' a' he hS' hF' hk, fun k hk' => ?_⟩
      rw [jumpTo_exit hid, jumpTo_exit hid] at hk'
      rw [jumpC_exit hid]
      refine mv_exit ?_
      rw [hk']; simp [exitTo]
  | loop c ih =>
    intro f s kn kx kr I w a k0 h hS hF hn hx hr
    refine ⟨_, mv_loop, from_ok ih (kn := fun f s => rec (.loop c) f s kn kx kr) h hS hF (fun f' s' I' w' a' he hS' hF' hk => ?_) (hx.over (jumpTo_over (fun _ => rfl) (fun _ => rfl))) hr⟩
    obtain ⟨m', h1, h2⟩ := hrec (.loop c) f' s' kn kx kr I' w' a' k0 hk hS' hF' (hn.later he) (hx.later he) (hr.later he)
    rw [mv_loop] at h1
    cases h1
    exact hG _ _ mv_inLoop h2
  | rangeFunc fo ps asg body _ _ => exact hrange fo ps asg body
  | exit id =>
    intro f s kn kx kr I w a k0 h hS hF hn hx hr
    obtain ⟨hid, h⟩ := le_ifN h
    obtain ⟨m', h6, h7⟩ := hx id f s I w a (Ext.refl _ _) hS hF h
    have h8 := h7 k0 rfl
    rw [jumpC_exit hid] at h8
    exact ⟨m', h8, h6⟩
  | goto l =>
    intro f s kn kx kr I w a k0 h hS hF hn hx hr
    obtain ⟨m', h6, h7⟩ := hx (Nat.add gotoBase l) f s I w a (Ext.refl _ _) hS hF h
    have h8 := h7 k0 rfl
    rw [jumpC_goto] at h8
    exact ⟨m', h8, h6⟩
  | scope c ih =>
    intro f s kn kx kr I w a k0 h hS hF hn hx hr
    have scope : ∀ (fuel : Nat) (s1 : St) (I1 : Itp), Ext s I s1 I1 → Exits D C Gd L X W b cs (scopeX rec c kn kx kr fuel) (.inScope c :: k0) s1 I1 := by
      intro fuel
      induction fuel with
      | zero => intro s1 I1 he1 j f' s' I' w' a' he hS' hF' hl; exact hl.no.elim
      | succ fuel ihf =>
        intro s1 I1 he1 j f' s' I' w' a' he hS' hF' hl
        have het := he1.trans he
        have hl : Le L (Bool.rec (Option.rec (kx j f' s') (fun rest => rec rest f' s' kn (scopeX rec c kn kx kr fuel) kr) (findLabel c (Nat.sub j gotoBase))) (kx j f' s') (Nat.blt j gotoBase) : Ans) := hl
        cases hj : Nat.blt j gotoBase with
        | true =>
          rw [hj] at hl
          obtain ⟨m', h6, h7⟩ := hx j f' s' I' w' a' het hS' hF' hl
          refine ⟨m', h6, fun k hk' => h7 k (hk'.trans ?_)⟩
          rw [jumpTo_exit hj, jumpTo_exit hj]; rfl
        | false =>
          rw [hj] at hl
          cases hfl : findLabel c (Nat.sub j gotoBase) with
          | none =>
            rw [hfl] at hl
            obtain ⟨m', h6, h7⟩ := hx j f' s' I' w' a' het hS' hF' hl
            refine ⟨m', h6, fun k hk' => h7 k (hk'.trans ?_)⟩
            rw [jumpTo_away hj, jumpTo_away hj]
            have hg : gotoIn (Nat.sub j gotoBase) (.inScope c :: k0) = (match findLabel c (Nat.sub j gotoBase) with | some rest => some (.code rest :: .inScope c :: k0) | none => gotoIn (Nat.sub j gotoBase) k0) := rfl
            rw [hg, hfl]
          | some rest =>
            rw [hfl] at hl
            refine ⟨_, from_ok (hrec rest) hl hS' hF' (k0 := .inScope c :: k0) (fun f2 s2 I2 w2 a2 he2 hS2 hF2 hk => hG _ _ mv_inScope (hn f2 s2 I2 w2 a2 (het.trans he2) hS2 hF2 hk)) (ihf s' I' het) (hr.later het), fun k hk' => ?_⟩
            rw [jumpTo_away hj, jumpTo_away hj] at hk'
            rw [jumpC_away hj]
            refine mv_goto (hk'.trans ?_)
            have hg : gotoIn (Nat.sub j gotoBase) (.inScope c :: k0) = (match findLabel c (Nat.sub j gotoBase) with | some rest => some (.code rest :: .inScope c :: k0) | none => gotoIn (Nat.sub j gotoBase) k0) := rfl
            rw [hg, hfl]
    exact ⟨_, mv_scope, from_ok ih h hS hF (fun f' s' I' w' a' he hS' hF' hk => hG _ _ mv_inScope (hn f' s' I' w' a' he hS' hF' hk)) (scope 10000 s I (Ext.refl _ _)) hr⟩
  | label l => intro f s kn kx kr I w a k0 h hS hF hn hx hr; exact ⟨_, mv_label, hn f s I w a (Ext.refl _ _) hS hF h⟩
  | ret =>
    intro f s kn kx kr I w a k0 h hS hF hn hx hr
    obtain ⟨m', h6, h7⟩ := hr f s I w a (Ext.refl _ _) hS hF h k0
    exact ⟨m', h7, h6⟩
  | _ => intro f s kn kx kr I w a k0 h; exact h.no.elim
end
end Go.Proofs.YtajdeaabgplacaaGreatDoor.Sev

namespace Go.Proofs.YtajdeaabgplacaaGreatDoor.Sev
open Go Go.RowKit
set_option linter.unusedVariables false
variable {L : List (AV × St)}
/-- Deferred calls mean later what they meant. -/
def Mono (D : Nat → Itp → List DI → List Deferred → Prop) : Prop := ∀ n m I J dl ds, Agree n I J → n ≤ m → D n I dl ds → D m J dl ds
section
variable {D : Nat → Itp → List DI → List Deferred → Prop} {C : Cf} {rec : Rec} {Gd : Machine → Prop} {X : Nat → Prop} {W : World} {b : Frame} {cs : List Frame}

theorem FR.later (hD : Mono D) {a : Act} {f : Fr} {s s' : St} {I I' : Itp} (h : FR D b a f s.nx I) (he : Ext s I s' I') : FR D b a f s'.nx I' := by
  refine ⟨h.fn, h.tm.mono he.1 he.2.1, hD _ _ _ _ _ _ he.1 he.2.1 h.dl, ?_⟩
  have hr := h.rd
  revert hr
  cases f.rd with
  | none => exact fun hr => hr
  | some l => exact fun hr => ⟨Nat.lt_of_lt_of_le hr.1 he.2.1, by rw [(he.1 l hr.1).1]; exact hr.2⟩
/-- A temporary is set. -/
theorem FR.put {a : Act} {f f' : Fr} {n : Nat} {I : Itp} (h : FR D b a f n I) {dst : Option Tmp} {v : AV} {K : Fr → Ans} (hv : ok n I v) (hk : Le L (putF dst v f K)) :
    ∃ f', FR D b (a.put dst (conc I v)) f' n I ∧ Le L (K f') := by
  cases dst with
  | none => exact ⟨f, h, hk⟩
  | some d =>
    obtain ⟨fn, tm, dl, rd⟩ := f
    obtain ⟨tm', o, ho, hu, hk⟩ := le_updK (k := fun tm' => K ⟨fn, tm', dl, rd⟩) hk
    refine ⟨⟨fn, tm', dl, rd⟩, ⟨h.fn, fun t u ht => ?_, h.dl, h.rd⟩, hk⟩
    have hin : d < a.tmps.size := getElem?_lt (h.tm d o ho).1
    by_cases e : t = d
    · subst e
      obtain rfl := hu.1.uniq ht
      exact ⟨by simp [Act.put, hin], hv⟩
    · obtain ⟨h1, h2⟩ := h.tm t u ((hu.2 t u e).1 ht)
      exact ⟨by simp [Act.put, Ne.symm e]; exact h1, h2⟩
section ops
variable (L C rec Gd X W b cs) in
/-- Calls, in a region, are as the evaluator says. -/
def CallsOk (ops : Array Oper) : Prop :=
  ∀ (o : Oper) (i : Nat) (rest : List Nat) f s k I w a k0, ops[i]? = some o → isCall o.op = true → Region.wanted o (yielded ops a.tmps) = true → Le L (execA C rec o.op f s k) → SimS C.P X W I s w → Rel s.nx I f a o.op →
    (∀ v s' I' w', Ext s I s' I' → SimS C.P X W I' s' w' → ok s'.nx I' v → Le L (k v s') → Gd (lone (Fm b (a.put o.dst (conc I' v)) (.inRegion ops rest :: k0)) cs w')) →
    Gd (lone (Fm b a (.inRegion ops (i :: rest) :: k0)) cs w)
theorem no_defer {o : Oper} {f : Fr} {s : St} {k : AV → St → Ans} (h : Le L (execA C rec o.op f s k)) : ∀ c, o.op ≠ .defer c := fun c e => by
  rw [e] at h; exact (Le.no h).elim
/-- An operation that is wanted. -/
theorem exec_ok (hG : ∀ m m', step C.P m = .next m' → Gd m' → Gd m) {ops : Array Oper} (hcalls : CallsOk L C rec Gd X W b cs ops) {o : Oper} {i : Nat} {rest : List Nat} {f : Fr} {s : St} {k : AV → St → Ans} {I : Itp} {w : World} {a : Act} {k0 : List Item}
    (ho : ops[i]? = some o) (hw : Region.wanted o (yielded ops a.tmps) = true) (h : Le L (execA C rec o.op f s k)) (hS : SimS C.P X W I s w) (hr : Rel s.nx I f a o.op)
    (hk : ∀ v s' I' w', Ext s I s' I' → SimS C.P X W I' s' w' → ok s'.nx I' v → Le L (k v s') → Gd (lone (Fm b (a.put o.dst (conc I' v)) (.inRegion ops rest :: k0)) cs w')) :
    Gd (lone (Fm b a (.inRegion ops (i :: rest) :: k0)) cs w) := by
  cases hc : isCall o.op with
  | true => exact hcalls o i rest f s k I w a k0 ho hc hw h hS hr hk
  | false =>
    obtain ⟨v, s', I', w', he, hS', hok, hrun, hk'⟩ := plain_out hc h hS hr
    have hgd := hk v s' I' w' he hS' hok hk'
    rcases hrun with hrun | ⟨hrun, hu⟩
    · exact hG _ _ (mv_value ho hw (.inr (no_defer h)) hrun) hgd
    · rw [hu] at hgd
      exact hG _ _ (mv_skip_op ho hw (.inr (no_defer h)) hrun) hgd
theorem undef_conc (I : Itp) : conc I undefA = undef := rfl
/-- An operation, and its guard. -/
theorem one_ok (hD : Mono D) (hG : ∀ m m', step C.P m = .next m' → Gd m' → Gd m) {ops : Array Oper} (hcalls : CallsOk L C rec Gd X W b cs ops) {o : Oper} {i : Nat} {rest : List Nat} {f : Fr} {s : St} {K : Fr → St → Ans} {I : Itp} {w : World} {a : Act} {k0 : List Item}
    (ho : ops[i]? = some o) (h : Le L (oneK C rec ops.toList o f s K)) (hS : SimS C.P X W I s w) (hF : FR D b a f s.nx I)
    (hk : ∀ f' s' I' w' a', Ext s I s' I' → SimS C.P X W I' s' w' → FR D b a' f' s'.nx I' → Le L (K f' s') → Gd (lone (Fm b a' (.inRegion ops rest :: k0)) cs w')) :
    Gd (lone (Fm b a (.inRegion ops (i :: rest) :: k0)) cs w) := by
  have run : Region.wanted o (yielded ops a.tmps) = true → Le L (execA C rec o.op f s fun v s' => putF o.dst v f fun f' => K f' s') → Gd (lone (Fm b a (.inRegion ops (i :: rest) :: k0)) cs w) := fun hw hx =>
    exec_ok hG hcalls ho hw hx hS (rel_of hF.tm hS.glob o.op) fun v s' I' w' he hS' hok hl => by
      obtain ⟨f', hF', hl'⟩ := (hF.later hD he).put (f' := f) hok hl
      exact hk f' s' I' w' _ he hS' hF' hl'
  have skip : Region.wanted o (yielded ops a.tmps) = false → Le L (putF o.dst undefA f fun f' => K f' s) → Gd (lone (Fm b a (.inRegion ops (i :: rest) :: k0)) cs w) := fun hw hl => by
    obtain ⟨f', hF', hl'⟩ := hF.put (f' := f) (v := undefA) trivial hl
    refine hG _ _ (mv_op_skip (by simp [ho, hw])) ?_
    have := hk f' s I w _ (Ext.refl _ _) hS hF' hl'
    rw [undef_conc] at this
    simpa [ho] using this
  unfold oneK at h
  cases hg : o.guard with
  | none =>
    rw [hg] at h
    exact run (by simp [Region.wanted, hg]) h
  | some g =>
    rw [hg] at h
    obtain ⟨g1, g2⟩ := g
    obtain ⟨t, ht, h1⟩ := le_optK h
    obtain ⟨v, hv, h2⟩ := le_getK h1
    obtain ⟨e1, _⟩ := hF.tm t v hv
    have hy : yielded ops a.tmps g1 = match conc I v with | .bool b => some b | _ => none := by
      have ht' : (ops[g1]?).bind (·.dst) = some t := by simpa [gtmp] using ht
      unfold yielded
      rw [ht', Option.bind_some, e1]
      cases conc I v <;> rfl
    split at h2
    · rename_i t'
      rcases le_ifK h2 with ⟨hb, h3⟩ | ⟨hb, h3⟩
      · refine run ?_ h3
        simp only [Region.wanted, hg, hy, conc]
        simpa using hb
      · refine skip ?_ h3
        simp only [Region.wanted, hg, hy, conc]
        simpa using hb
    · refine skip ?_ h2
      simp [Region.wanted, hg, hy, conc]
    · exact h2.no.elim
theorem ops_ok (hD : Mono D) (hG : ∀ m m', step C.P m = .next m' → Gd m' → Gd m) {ops : Array Oper} (hcalls : CallsOk L C rec Gd X W b cs ops) {K : Fr → St → Ans} {k0 : List Item} : ∀ (l : List Oper) (i : Nat), ops.toList.drop i = l → ∀ {f s I w a},
    Le L (opsK C rec ops.toList l f s K) → SimS C.P X W I s w → FR D b a f s.nx I → Ends D C Gd L X W b cs K k0 s I → Gd (lone (Fm b a (.inRegion ops (List.range' i l.length) :: k0)) cs w)
  | [], i, hl, f, s, I, w, a, h, hS, hF, hn => hG _ _ mv_region_end (hn f s I w a (Ext.refl _ _) hS hF h)
  | o :: l, i, hl, f, s, I, w, a, h, hS, hF, hn => by
    have ho : ops[i]? = some o := by
      have := congrArg (fun x => x[0]?) hl
      simpa using this
    have hl' : ops.toList.drop (i + 1) = l := by
      have := congrArg (List.drop 1) hl
      simpa [List.drop_drop] using this
    refine one_ok hD hG hcalls (K := fun f s => opsK C rec ops.toList l f s K) ho h hS hF fun f' s' I' w' a' he hS' hF' hk => ?_
    exact ops_ok hD hG hcalls l (i + 1) hl' hk hS' hF' (hn.later he)
/-- A region that does not draw. -/
theorem region_ok (hD : Mono D) (hG : ∀ m m', step C.P m = .next m' → Gd m' → Gd m) {id : Nat} {ops : Array Oper} (hcalls : CallsOk L C rec Gd X W b cs ops) (hnd : defers ops.toList = false) :
    CodeOk D C Gd L X W b cs (fun f s kn kx kr => regionK C rec ops false f s kn) (.region id ops false) := by
  intro f s kn kx kr I w a k0 h hS hF hn hx hr
  have h : Le L (ifK (defers ops.toList) (opsD C rec ops.toList ops.toList f s kn) (opsK C rec ops.toList ops.toList f s kn)) := h
  rw [hnd] at h
  refine ⟨_, mv_region, ?_⟩
  have := ops_ok hD hG hcalls ops.toList 0 (by simp) h hS hF hn
  rw [List.range_eq_range']
  simpa using this
end ops
end
end Go.Proofs.YtajdeaabgplacaaGreatDoor.Sev

namespace Go.Proofs.YtajdeaabgplacaaGreatDoor.Sev
open Go Go.RowKit
set_option linter.unusedVariables false
variable {L : List (AV × St)}
section
variable {D : Nat → Itp → List DI → List Deferred → Prop} {C : Cf} {rec : Rec} {X : Nat → Prop} {W : World} {I : Itp} {w : World} {P : Program}

theorem le_argsK : ∀ {l : List AV} {c : Tr AV} {i : Nat} {k : Tr AV → Ans}, Le L (argsK l c i k) → ∃ c', Over c i l c' ∧ (∀ j, j < l.length → ∃ v, Has c (i + j) v) ∧ Le L (k c') := by
  intro l
  induction l with
  | nil => intro c i k h; exact ⟨c, fun j v hj => .inr ⟨fun hh => by simp at hh; omega, hj⟩, fun j hj => by simp at hj, h⟩
  | cons v l ih =>
    intro c i k h
    obtain ⟨c1, o, ho, hu, h1⟩ := le_updK (t := c) (n := i) (v := v) (k := fun c' => argsK l c' (Nat.succ i) k) h
    obtain ⟨c', hov, hth, hk⟩ := ih h1
    refine ⟨c', fun j u hj => ?_, fun j hj => ?_, hk⟩
    · rcases hov j u hj with ⟨h2, h3, h4⟩ | ⟨h2, h3⟩
      · refine .inl ⟨by omega, by simp; omega, ?_⟩
        rw [show j - i = (j - Nat.succ i) + 1 from by omega]
        simpa using h4
      · by_cases e : j = i
        · subst e
          obtain rfl := hu.1.uniq h3
          exact .inl ⟨Nat.le_refl _, by simp, by simp⟩
        · exact .inr ⟨by simp at h2 ⊢; omega, (hu.2 j u e).1 h3⟩
    · cases j with
      | zero => exact ⟨o, ho⟩
      | succ j =>
        obtain ⟨u, hu'⟩ := hth j (by simpa using hj)
        rw [show Nat.succ i + j = i + (j + 1) from by omega] at hu'
        exact ⟨u, (hu.2 _ u (by omega)).1 hu'⟩
/-- The temporaries of a function that is entered. -/
theorem enter_tmps {n m : Nat} {args : List AV} {c : Tr AV} (hov : Over (mkF m) 0 args c) (hok : okL n I args) : FrRel n I c ((concL I args).toArray ++ Array.replicate (m - (concL I args).toArray.size) undef) := fun t u ht => by
  rcases hov t u ht with ⟨_, h2, h3⟩ | ⟨h2, h3⟩
  · have hm : u ∈ args := List.mem_of_getElem? h3
    refine ⟨?_, okL_iff.1 hok u hm⟩
    rw [Array.getElem?_append_left (by simp [concL_length]; omega), List.getElem?_toArray, concL_map, List.getElem?_map]
    simp only [Nat.sub_zero] at h3
    rw [h3]; rfl
  · obtain ⟨h4, rfl⟩ := has_mkF h3
    refine ⟨?_, trivial⟩
    have hle : args.length ≤ t := by omega
    rw [Array.getElem?_append_right (by simp [concL_length]; exact hle), Array.getElem?_replicate, if_pos (by simp [concL_length]; omega), undef_conc]
/-- The frame of a call. -/
theorem enter_frame (hD0 : ∀ n I, D n I [] []) {f : FuncId} {fn : Func} {body : Code} {args : List AV} {c : Tr AV} {n : Nat} (hfn : P.funcs[f]? = some fn) (hb : fn.body = some body) (hov : Over (mkF fn.ntmps) 0 args c) (hok : okL n I args) :
    ∃ a, Frame.enter P f (concL I args).toArray .normal = Fm (Frame.enter P f (concL I args).toArray .normal) a [.code body] ∧ a.defers = [] ∧ FR D (Frame.enter P f (concL I args).toArray .normal) a ⟨f, c, [], none⟩ n I := by
  refine ⟨⟨(concL I args).toArray ++ Array.replicate (fn.ntmps - (concL I args).toArray.size) undef, []⟩, ?_, rfl, ⟨rfl, enter_tmps hov hok, hD0 _ _, rfl⟩⟩
  simp [Frame.enter, Fm, hfn, hb]
/-- The results, as they stand. -/
theorem le_resK {f : Fr} {s : St} {tmps : Array Value} (hS : SimS P X W I s w) (hF : FrRel s.nx I f.tm tmps) : ∀ {l : List ResultVar} {k : List AV → Ans}, Le L (resK P l f s k) → ∃ vs, okL s.nx I vs ∧ Le L (k vs) ∧
    (l.mapM fun (r : ResultVar) => (match r with | .tmp t => pure (tmps.getD t undef) | .cell a t => do loadVar t (← Go.asAddr (tmps.getD a undef)) : Sem Value)).run P w = .ok (concL I vs) w
  | [], k, h => ⟨[], trivial, h, rfl⟩
  | .tmp t :: l, k, h => by
    obtain ⟨v, hv, h1⟩ := le_getK (k := fun v => resK P l f s fun l => k (v :: l)) h
    obtain ⟨vs, h2, h3, h4⟩ := le_resK hS hF h1
    obtain ⟨e1, e2⟩ := hF t v hv
    refine ⟨v :: vs, ⟨e2, h2⟩, h3, ?_⟩
    have : tmps.getD t undef = conc I v := by simp [Array.getD_eq_getD_getElem?, e1]
    rw [List.mapM_cons]
    simp only [this, Sem.run_bind, Sem.run_pure, Result.andThen_ok, h4, concL]
  | .cell a t :: l, k, h => by
    obtain ⟨x, hx, h1⟩ := le_getK (k := fun x => asPtr x fun b o => loadT P t s b o fun v => resK P l f s fun l => k (v :: l)) h
    cases x <;> first | exact h1.no.elim | skip
    rename_i b off
    obtain ⟨v, hv, h2⟩ := le_loadT (P := P) h1
    obtain ⟨vs, h3, h4, h5⟩ := le_resK hS hF h2
    obtain ⟨e1, _⟩ := hF a _ hx
    obtain ⟨e2, e3⟩ := hv X W I w hS
    refine ⟨v :: vs, ⟨e2, h3⟩, h4, ?_⟩
    have : tmps.getD a undef = .pointer (some ⟨I.blk b, I.base b + off, none⟩) := by simp [Array.getD_eq_getD_getElem?, e1, conc]
    rw [List.mapM_cons]
    have ha : (Go.asAddr (.pointer (some ⟨I.blk b, I.base b + off, none⟩))).run P w = .ok ⟨I.blk b, I.base b + off, none⟩ w := rfl
    simp only [this, Sem.run_bind, ha, Result.andThen_ok, e3, Sem.run_pure, h5, concL]
theorem run_results {f : Fr} {s : St} {tmps : Array Value} {fn : Func} {k : List AV → Ans} (hS : SimS P X W I s w) (hF : FrRel s.nx I f.tm tmps) (h : Le L (resK P fn.results.toList f s k)) :
    ∃ vs, ok s.nx I (oneOf vs) ∧ Le L (k vs) ∧ (results fn tmps).run P w = .ok (conc I (oneOf vs)) w := by
  obtain ⟨vs, h1, h2, h3⟩ := le_resK hS hF h
  refine ⟨vs, ?_, h2, ?_⟩
  · unfold oneOf
    split
    · exact h1.1
    · exact h1
  · unfold results
    rw [Array.mapM_eq_mapM_toList]
    have h3' := h3
    simp only [Sem.run_bind, Sem.run_map]
    generalize hR : Sem.run P (List.mapM _ fn.results.toList) w = R
    have hR' : R = .ok (concL I vs) w := hR.symm.trans h3'
    rw [hR']
    simp only [Result.andThen_ok, Sem.run_pure]
    congr 1
    match vs with
    | [] => rfl
    | [v] => rfl
    | v :: u :: r => simp [oneOf, conc, concL]
end
end Go.Proofs.YtajdeaabgplacaaGreatDoor.Sev

namespace Go.Proofs.YtajdeaabgplacaaGreatDoor.Sev
open Go Go.RowKit
set_option linter.unusedVariables false
variable {L : List (AV × St)}
section
variable {D : Nat → Itp → List DI → List Deferred → Prop} {C : Cf} {rec : Rec} {Gd : Machine → Prop} {X : Nat → Prop} {W : World}

variable (L D C rec Gd X W) in
/-- What waits for a function's end is done as the evaluator says. -/
def DfrOk : Prop :=
  ∀ (fr : Frame) (cs : List Frame) (dl : List DI) s I w (K : St → Ans), fr.mode = .returning → fr.kind = .normal → D s.nx I dl fr.defers → SimS C.P X W I s w → Le L (dfrK C.P rec dl s K) →
    (∀ s' I' w', Ext s I s' I' → SimS C.P X W I' s' w' → Le L (K s') → Gd (lone { fr with defers := [] } cs w')) → Gd (lone fr cs w)
/-- A function is left. -/
theorem leave_ok (hG : ∀ m m', step C.P m = .next m' → Gd m' → Gd m) (hD : Mono D) (hdfr : DfrOk L D C rec Gd X W) {fi : FuncId} {fn : Func} {b c : Frame} {cs : List Frame} {a : Act} {todo : List Item} {f : Fr} {s : St} {I : Itp} {w : World} {k : AV → St → Ans}
    (hfn : C.P.funcs[fi]? = some fn) (hb : b.fn = fi) (hkind : b.kind = .normal) (hF : FR D b a f s.nx I) (hS : SimS C.P X W I s w) (h : Le L (leaveK C.P rec fn f s k))
    (hk : ∀ v s' I' w', Ext s I s' I' → SimS C.P X W I' s' w' → ok s'.nx I' v → Le L (k v s') → Gd (lone (c.finish (conc I' v)) cs w')) :
    Gd (lone { Fm b a todo with mode := .returning } (c :: cs) w) := by
  refine hdfr { Fm b a todo with mode := .returning } (c :: cs) f.dl s I w _ rfl hkind hF.dl hS h fun s' I' w' he hS' hl => ?_
  have hF' := hF.later hD he
  obtain ⟨vs, h1, h2, h3⟩ := run_results (tmps := a.tmps) hS' hF'.tm hl
  refine hG _ _ (step_leave_returned (v := conc I' (oneOf vs)) ⟨rfl, rfl, hkind, fn, ?_, h3⟩) (hk _ s' I' w' he hS' h1 h2)
  show C.P.funcs[b.fn]? = some fn
  rw [hb]; exact hfn
/-- A function's body. -/
theorem body_ok (hG : ∀ m m', step C.P m = .next m' → Gd m' → Gd m) (hD : Mono D) (hD0 : ∀ n I, D n I [] []) (hdfr : DfrOk L D C rec Gd X W) (hrec : ∀ b cs, b.kind = .normal → ∀ c, CodeOk D C Gd L X W b cs (rec c) c)
    {fi : FuncId} {fn : Func} {args : List AV} {s : St} {I : Itp} {w : World} {k : AV → St → Ans} {c : Frame} {cs : List Frame} (hfn : C.P.funcs[fi]? = some fn) (h : Le L (bodyK C.P rec fi fn args s k)) (hS : SimS C.P X W I s w) (hok : okL s.nx I args)
    (hk : ∀ v s' I' w', Ext s I s' I' → SimS C.P X W I' s' w' → ok s'.nx I' v → Le L (k v s') → Gd (lone (c.finish (conc I' v)) cs w')) :
    Gd (lone (Frame.enter C.P fi (concL I args).toArray .normal) (c :: cs) w) := by
  obtain ⟨body, hbody, h1⟩ := le_optK h
  obtain ⟨tm, hov, _, h2⟩ := le_argsK (k := fun tm => rec body ⟨fi, tm, [], none⟩ s (fun f s => leaveK C.P rec fn f s k) (fun _ _ _ => .no "exit out of a function" fi) (fun f s => leaveK C.P rec fn f s k)) h1
  obtain ⟨a, e1, e2, hF⟩ := enter_frame (D := D) (P := C.P) hD0 hfn hbody hov hok
  have hbf : (Frame.enter C.P fi (concL I args).toArray .normal).fn = fi := rfl
  have hbk : (Frame.enter C.P fi (concL I args).toArray .normal).kind = .normal := rfl
  have hbr : (Frame.enter C.P fi (concL I args).toArray .normal).roundOf = none := rfl
  rw [e1]
  generalize Frame.enter C.P fi (concL I args).toArray .normal = b at *
  obtain ⟨m', h3, h4⟩ := hrec b (c :: cs) hbk body _ _ _ _ _ I w a [] h2 hS hF
    (fun f' s' I' w' a' he hS' hF' hl => hG _ _ (mv_end hbr) (leave_ok hG hD hdfr hfn hbf hbk hF' hS' hl fun v s2 I2 w2 he2 => hk v s2 I2 w2 (he.trans he2)))
    (fun id f' s' I' w' a' he hS' hF' hl => hl.no.elim)
    (fun f' s' I' w' a' he hS' hF' hl k0 => ⟨_, leave_ok hG hD hdfr hfn hbf hbk hF' hS' hl fun v s2 I2 w2 he2 => hk v s2 I2 w2 (he.trans he2), mv_ret hbr⟩)
  exact hG _ _ h3 h4
end
end Go.Proofs.YtajdeaabgplacaaGreatDoor.Sev

namespace Go.Proofs.YtajdeaabgplacaaGreatDoor.Sev
open Go Go.RowKit
set_option linter.unusedVariables false
variable {L : List (AV × St)}
section
variable {D : Nat → Itp → List DI → List Deferred → Prop} {C : Cf} {rec : Rec} {Gd : Machine → Prop} {X : Nat → Prop} {W : World} {P : Program}

theorem extB_zero {fi : FuncId} (h : extB P fi = 0) : ∃ fn body, P.funcs[fi]? = some fn ∧ (fn.name == "runtime.NumGoroutine") = false ∧ fn.body = some body := by
  unfold extB at h
  cases hf : P.funcs[fi]? with
  | none => rw [hf] at h; cases h
  | some fn =>
    rw [hf] at h
    simp only at h
    split at h
    · cases h
    · rename_i hn
      split at h
      · rename_i hb
        obtain ⟨body, hb⟩ := Option.isSome_iff_exists.1 hb
        exact ⟨fn, body, rfl, by simpa using hn, hb⟩
      · split at h <;> cases h
theorem run_callFunc_zero {fi : FuncId} (h : extB P fi = 0) (args : Array Value) (w : World) : (callFunc fi args).run P w = .ok (.enter fi args) w := by
  obtain ⟨fn, body, h1, h2, h3⟩ := extB_zero h
  have h4 : fn.name ≠ "runtime.NumGoroutine" := by simpa using h2
  simp [callFunc, h1, h4, h3]
/-- A call, of a function of the program whose ways are not merged. -/
theorem callK_zero {fi : FuncId} {args : List AV} {s : St} {k : AV → St → Ans} (hx : extB C.P fi = 0) (hm : C.mg fi = 0) (h : Le L (callK C rec fi args s k)) : ∃ fn, C.P.funcs[fi]? = some fn ∧ Le L (bodyK C.P rec fi fn args s k) := by
  unfold callK at h
  rw [hx] at h
  obtain ⟨fn, hfn, h1⟩ := le_optK h
  unfold callB at h1
  rw [hm] at h1
  exact ⟨fn, hfn, h1⟩
end
end Go.Proofs.YtajdeaabgplacaaGreatDoor.Sev

namespace Go.Proofs.YtajdeaabgplacaaGreatDoor.Sev
open Go Go.RowKit
set_option linter.unusedVariables false
variable {L : List (AV × St)}
section
variable {D : Nat → Itp → List DI → List Deferred → Prop} {C : Cf} {rec : Rec} {Gd : Machine → Prop} {X : Nat → Prop} {W : World} {P : Program}

theorem run_method {t : TypeId} {name : String} {fi : FuncId} (h : methB P t name = some fi) (n : Nat) (v : Value) (w : World) : (method (n + 1) t v name).run P w = .ok (fi, v) w := by
  unfold methB at h
  cases hi : P.info? t with
  | none => rw [hi] at h; simp at h
  | some i =>
    rw [hi] at h
    simp only [Option.bind_some] at h
    cases hm : i.methods.find? (·.name == name) with
    | none => rw [hm] at h; simp at h
    | some m =>
      rw [hm] at h
      cases hu : P.underlying t with
      | none => rw [hu] at h; simp at h
      | some d =>
        rw [hu] at h
        have fin : ∀ p, m.path.isEmpty = true → m.func = some (fi, p) → (receiverAt t (.val v) p (some ((name.splitOn ".").getLastD name))).run P w = .ok v w → (method (n + 1) t v name).run P w = .ok (fi, v) w := fun p hp hf hr => by
          have hp' : m.path = #[] := by simpa using hp
          have hpl : m.path.toList = [] := by rw [hp']
          simp only [method, Sem.run_bind, run_info hi, Result.andThen_ok, hm, hpl, follow, Sem.run_pure, hf, hp, if_true, hr]
        split at h
        · rename_i m' e hm' hd
          cases hm'
          cases hd
          split at h
          · rename_i hp
            split at h
            · rename_i f hf
              cases h
              exact fin true hp hf (by simp [receiverAt, run_underlying hu, Place.get])
            · cases h
          · cases h
        · rename_i m' d' hnp hm' hd
          cases hm'
          cases hd
          split at h
          · rename_i hp
            split at h
            · rename_i f hf
              cases h
              refine fin false hp hf ?_
              simp only [receiverAt, Sem.run_bind, run_underlying hu, Result.andThen_ok]
              cases d with
              | pointer e => first | exact (hnp _ e rfl rfl).elim | exact (hnp e rfl).elim | simp_all
              | _ => rfl
            · cases h
          · cases h
        · cases h
end
end Go.Proofs.YtajdeaabgplacaaGreatDoor.Sev

namespace Go.Proofs.YtajdeaabgplacaaGreatDoor.Sev
open Go Go.RowKit
set_option linter.unusedVariables false
variable {L : List (AV × St)}

def DOne (n : Nat) (I : Itp) : DI → Deferred → Prop
  | .mark b, d => b < n ∧ d.target = .collected (I.blk b)
  | .fn f args, d => okL n I args ∧ ∃ captured, d.target = .fn (.func f) captured ∧ d.args ++ captured = (concL I args).toArray
/-- Deferred calls, as the evaluator keeps them. -/
def DRel (n : Nat) (I : Itp) : List DI → List Deferred → Prop
  | [], [] => True
  | d :: l, e :: m => DOne n I d e ∧ DRel n I l m
  | _, _ => False
theorem dRel_zero (n : Nat) (I : Itp) : DRel n I [] [] := trivial
theorem dOne_mono {n m : Nat} {I J : Itp} (ha : Agree n I J) (hnm : n ≤ m) : ∀ {d : DI} {e : Deferred}, DOne n I d e → DOne m J d e
  | .mark b, e, h => ⟨Nat.lt_of_lt_of_le h.1 hnm, by rw [(ha b h.1).1]; exact h.2⟩
  | .fn f args, e, h => ⟨okL_agree ha hnm h.1, by
    obtain ⟨c, h1, h2⟩ := h.2
    refine ⟨c, h1, ?_⟩
    rw [h2, concL_map, concL_map]
    congr 1
    exact (List.map_congr_left (fun v hv => conc_agree ha (okL_iff.1 h.1 v hv))).symm⟩
theorem dRel_mono : Mono DRel := by
  intro n m I J dl ds ha hnm
  induction dl generalizing ds with
  | nil => intro h; cases ds with
    | nil => trivial
    | cons e ds => exact h.elim
  | cons d dl ih => intro h; cases ds with
    | nil => exact h.elim
    | cons e ds => exact ⟨dOne_mono ha hnm h.1, ih ds h.2⟩
section
variable {P : Program} {fr : Frame} {cs : List Frame} {w w' : World}
/-- A mark is taken away, whose loop has deferred nothing. -/
theorem mv_mark {b : Nat} {d : Deferred} {ds : List Deferred} (hm : fr.mode = .returning) (hd : fr.defers = d :: ds) (ht : d.target = .collected b) (hb : w.heap[b]? = some (.deferred (some []))) :
    step P (lone fr cs w) = .next (lone { fr with defers := ds } cs { w with heap := w.heap.setIfInBounds b (.deferred none) }) := by
  have hrun : (Instr.takeDeferred b).run P w = .ok [] { w with heap := w.heap.setIfInBounds b (.deferred none) } := by
    simp [Instr.takeDeferred, getObj, setObj, Sem.run, hb, Bind.bind, Sem.bind]
  obtain ⟨target, args⟩ := d
  subst ht
  exact step_lone_go (by simp [stepG, unwind, hm, hd, hrun])
end
section
variable {C : Cf} {rec : Rec} {Gd : Machine → Prop} {X : Nat → Prop} {W : World}
variable (L C rec Gd X W) in
/-- A function that waits is called as the evaluator says. -/
def LateOk : Prop :=
  ∀ (fr : Frame) (cs : List Frame) f args (d : Deferred) (ds : List Deferred) dl s I w (K : St → Ans), fr.mode = .returning → fr.kind = .normal → fr.defers = d :: ds → DRel s.nx I (.fn f args :: dl) (d :: ds) → SimS C.P X W I s w →
    Le L (dfrK C.P rec (.fn f args :: dl) s K) →
    (∀ s' I' w', Ext s I s' I' → SimS C.P X W I' s' w' → Le L (dfrK C.P rec dl s' K) → Gd (lone { fr with defers := ds } cs w')) → Gd (lone fr cs w)
theorem dfr_ok (hG : ∀ m m', step C.P m = .next m' → Gd m' → Gd m) (hlate : LateOk L C rec Gd X W) : DfrOk L DRel C rec Gd X W := by
  intro fr cs dl
  induction dl generalizing fr with
  | nil =>
    intro s I w K hm hk hd hS h hn
    have hnil : fr.defers = [] := by
      cases hfd : fr.defers with
      | nil => rfl
      | cons e ds => rw [hfd] at hd; exact hd.elim
    have := hn s I w (Ext.refl _ _) hS h
    rw [← hnil] at this
    exact this
  | cons x dl ih =>
    intro s I w K hm hk hd hS h hn
    cases hfd : fr.defers with
    | nil => rw [hfd] at hd; exact hd.elim
    | cons e ds =>
      rw [hfd] at hd
      cases x with
      | fn f args =>
        refine hlate fr cs f args e ds dl s I w K hm hk hfd hd hS h fun s' I' w' he hS' hl => ?_
        exact ih { fr with defers := ds } s' I' w' K hm hk (dRel_mono _ _ _ _ _ _ he.1 he.2.1 hd.2) hS' hl fun s2 I2 w2 he2 => hn s2 I2 w2 (he.trans he2)
      | mark b =>
        obtain ⟨⟨hbn, ht⟩, hds⟩ := hd
        obtain ⟨ob, hob, h1⟩ := le_objK (k := fun o => match o with | .dfr => putK s b .dead fun s' => dfrK C.P rec dl s' K | _ => .no "deferred" b) h
        cases ob <;> first | exact h1.no.elim | skip
        obtain ⟨hfl, h', o0, _, hu, h2⟩ := le_putK (s := s) (b := b) (o := .dead) (k := fun s' => dfrK C.P rec dl s' K) h1
        have hb : w.heap[I.blk b]? = some (.deferred (some [])) := hS.obj b _ hob
        have hS' : SimS C.P X W I ⟨h', s.nx, s.fl⟩ { w with heap := w.heap.setIfInBounds (I.blk b) (.deferred none) } := by
          refine Sim.put hS hob hfl rfl rfl (hupd_of hu) (.inl rfl) rfl rfl rfl rfl rfl (by simp) (fun z hz => by simp [Ne.symm hz]) trivial (fun _ _ _ e => by cases e)
        refine hG _ _ (mv_mark hm hfd ht hb) ?_
        exact ih { fr with defers := ds } ⟨h', s.nx, s.fl⟩ I _ K hm hk hds hS' h2 fun s2 I2 w2 he2 => hn s2 I2 w2 (Ext.trans (s' := ⟨h', s.nx, s.fl⟩) (I' := I) ⟨Agree.refl _ _, Nat.le_refl _, rfl⟩ he2)
end
end Go.Proofs.YtajdeaabgplacaaGreatDoor.Sev

namespace Go.Proofs.YtajdeaabgplacaaGreatDoor.Sev
open Go Go.RowKit
set_option linter.unusedVariables false
/-- What stands below all is kept, and is as it was. -/
structure GX (W0 : World) (X : Nat → Prop) (W : World) : Prop where
  x : ∀ b, b < glim → X b
  w : ∀ b, b < glim → W.heap[b]? = W0.heap[b]?
theorem GX.now {P : Program} {W0 : World} {X : Nat → Prop} {W : World} {I : Itp} {s : St} {w : World} (h : GX W0 X W) (hS : SimS P X W I s w) : ∀ b, b < glim → w.heap[b]? = W0.heap[b]? :=
  fun b hb => ((hS.keep b (h.x b hb)).2).trans (h.w b hb)
section
variable (C : Cf) (Gd : Machine → Prop) (W0 : World)
/-- The evaluator's way through every code, in every frame, is the machine's. -/
def RecOk (rec : Rec) : Prop := ∀ L X W b cs, GX W0 X W → (b.kind = .normal ∨ b.kind = .deferred) → ∀ c, CodeOk DRel C Gd L X W b cs (rec c) c
/-- So it is for regions and for ranges over functions, where it is for code. -/
def PartsOk : Prop := ∀ rec, RecOk C Gd W0 rec → ∀ L X W b cs, GX W0 X W → (b.kind = .normal ∨ b.kind = .deferred) →
  (∀ id ops draw, CodeOk DRel C Gd L X W b cs (fun f s kn kx kr => regionK C rec ops draw f s kn) (.region id ops draw)) ∧
  (∀ fo ps asg body, CodeOk DRel C Gd L X W b cs (fun f s kn kx kr => rangeK C rec fo ps asg body f s kn kx kr) (.rangeFunc fo ps asg body))
variable {C Gd W0}
theorem ev_ok (hG : ∀ m m', step C.P m = .next m' → Gd m' → Gd m) (hp : PartsOk C Gd W0) : ∀ fuel, RecOk C Gd W0 (ev C fuel)
  | 0 => fun L X W b cs hg hk c f s kn kx kr I w a k0 h => (Le.no h).elim
  | fuel + 1 => fun L X W b cs hg hk c => by
    have ih := ev_ok hG hp fuel
    obtain ⟨h1, h2⟩ := hp _ ih L X W b cs hg hk
    exact code_ok (rec := ev C fuel) hG (ih L X W b cs hg hk) h1 h2 c
end
end Go.Proofs.YtajdeaabgplacaaGreatDoor.Sev
