/-
  The contracts of the reference's functions, and of Needs, Clean, Same, in one form.
-/
import Derived.Test.YthhhdddojmkgnaaGreatDoorCallRe
import Derived.Test.YthhhdddojmkgnaaGreatDoorCallX
import Derived.Test.YthhhdddojmkgnaaGreatDoorCallG
import Derived.Test.YthhhdddojmkgnaaGreatDoorCallC
namespace Go.Proofs.YthhhdddojmkgnaaGreatDoor
open Go.RowKit Go.Proofs.YthhhdddojmkgnaaGreatDoorW.PrintWords Go.Proofs.YthhhdddojmkgnaaGreatDoorW.PrintLast Go.Proofs.YthhhdddojmkgnaaGreatDoorW.PrintMore
open Go

/-- What Parse answers: the call, the number. -/
def pz (l : Bs) : CallR := (parseF l).getD noCall
def pe (l : Bs) : Int := if (parseF l).isSome then 0 else 4

theorem parse_val (l : Bs) (w : World) (hE : Env w) (hl : l.length ≤ 1000000000) : Calls Tryz.prog 17 #[.string (bs l)] w (Ret w (.tuple #[callV (pz l), .int .i64 (pe l)])) := by
  refine (parse_any l w hE hl).mono ?_
  rintro e w' ⟨hb, he⟩
  unfold pz pe
  cases h : parseF l with
  | none => rw [h] at he; exact ⟨he, hb⟩
  | some z => rw [h] at he; exact ⟨he, hb⟩
theorem refParse_val (l : Bs) (w : World) (hl : l.length ≤ 1000000) : Calls Tryz.prog 18 #[.string (bs l)] w (Ret w (.tuple #[callV (pz l), .int .i64 (pe l)])) := by
  obtain ⟨k, hk⟩ := refParse l hl
  unfold pz pe
  cases h : parseF l with
  | none =>
    rw [h] at hk
    exact PRef.ferrymanref20_Parse.calls k (bs l) 0 0 ⟨#[]⟩ ⟨#[]⟩ ⟨#[]⟩ 0 0 4 w hk
  | some z =>
    rw [h] at hk
    exact PRef.ferrymanref20_Parse.calls k (bs l) z.kind z.tx (bs z.key) (bs z.en) (bs z.va) z.lim z.eng 0 w hk
theorem needs_val (k : Nat) (w : World) : Calls Tryz.prog 19 #[.int .u8 k] w (Ret w (.bool (needsF k))) :=
  (PRef.call_Needs.calls k _ w (callNeeds k)).mono fun _ _ ⟨he, hd⟩ => ⟨he, hd.below⟩
theorem refNeeds_val (k : Nat) (w : World) : Calls Tryz.prog 20 #[.int .u8 k] w (Ret w (.bool (needsF k))) :=
  (PRef.ferrymanref20_Needs.calls k _ w (refNeeds k)).mono fun _ _ ⟨he, hd⟩ => ⟨he, hd.below⟩
theorem refMay_val (x : CallR) (w : World) : Calls Tryz.prog 22 #[callV x] w (Ret w (.int .i64 (mayN x))) :=
  PRef.ferrymanref20_May.calls x.kind x.tx (bs x.key) (bs x.en) (bs x.va) x.lim x.eng _ w (refMay x)
theorem refFits_val (c : CfgR) (x : CallR) (w : World) : Calls Tryz.prog 24 #[cfgV c, callV x] w (Ret w (.int .i64 (fitsN c x))) := by
  obtain ⟨k, hk⟩ := refFits c x
  exact PRef.ferrymanref20_Fits.calls k c.tasks c.active c.keys c.depth c.ts c.keylen c.vallen c.fan x.kind x.tx (bs x.key) (bs x.en) (bs x.va) x.lim x.eng _ w hk
theorem clean_val (x : CallR) (w : World) : Calls Tryz.prog 25 #[callV x] w (Ret w (callV (cleanF x))) :=
  PRef.call_Clean.calls 2 x.kind x.tx (bs x.key) (bs x.en) (bs x.va) x.lim x.eng _ _ _ _ _ _ _ w (callClean x 0)
theorem refClean_val (x : CallR) (w : World) : Calls Tryz.prog 26 #[callV x] w (Ret w (callV (cleanF x))) :=
  PRef.ferrymanref20_Clean.calls 4 x.kind x.tx (bs x.key) (bs x.en) (bs x.va) x.lim x.eng _ _ _ _ _ _ _ w (refClean x 0)
theorem same_val (x y : CallR) (w : World) : Calls Tryz.prog 27 #[callV x, callV y] w (Ret w (.bool (sameF x y))) := by
  obtain ⟨k, hk⟩ := callSame x y
  exact PRef.call_Same.calls k x.kind x.tx (bs x.key) (bs x.en) (bs x.va) x.lim x.eng y.kind y.tx (bs y.key) (bs y.en) (bs y.va) y.lim y.eng _ w hk
theorem refSame_val (x y : CallR) (w : World) : Calls Tryz.prog 28 #[callV x, callV y] w (Ret w (.bool (sameF x y))) := by
  obtain ⟨k, hk⟩ := refSame x y
  exact PRef.ferrymanref20_Same.calls k x.kind x.tx (bs x.key) (bs x.en) (bs x.va) x.lim x.eng y.kind y.tx (bs y.key) (bs y.en) (bs y.va) y.lim y.eng _ w hk
theorem refShow_val (x : CallR) (h : RefOk x) (w : World) : Calls Tryz.prog 30 #[callV x] w (Ret w (.string (bs (showF x)))) := by
  obtain ⟨k, hk⟩ := refShow x h
  exact PRef.ferrymanref20_Show.calls k x.kind x.tx (bs x.key) (bs x.en) (bs x.va) x.lim x.eng _ w hk
end Go.Proofs.YthhhdddojmkgnaaGreatDoor
