/-
  What the reference's Parse computes (as printed) is parseF.
-/
import Derived.Test.YthhhdddojmkgnaaGreatDoorCallRd
import Derived.Test.YthhhdddojmkgnaaGreatDoorBunE
namespace Go.Proofs.YthhhdddojmkgnaaGreatDoor
open Go.RowKit Go.Proofs.YthhhdddojmkgnaaGreatDoorW.PrintWords Go.Proofs.YthhhdddojmkgnaaGreatDoorW.PrintLast Go.Proofs.YthhhdddojmkgnaaGreatDoorW.PrintMore
open Go

def refX (ws : List Bs) (kd : Nat) : CallR := ⟨kd, numF (ws.getD 1 []), toldF (ws.getD 2 []), toldF (ws.getD 3 []), toldF (ws.getD 3 []), numF (ws.getD 4 []), (numF (ws.getD 1 []) % 256).toNat⟩

theorem refX_words {s : Bs} {z : CallR} (h : parseF s = some z) : showF (refX (splitF s) z.kind) = s := by
  have hp := parse_is s z h
  obtain ⟨h1, h9, he⟩ := mayF_kind hp.may
  have hs := show_parse h
  have hw := hp.words
  have ht := hp.tx
  have hl := hp.lim
  have hm := hp.may
  rw [showF, if_pos hm] at hs
  rw [hw]
  obtain ⟨k, tx, key, en, va, lim, eng⟩ := z
  simp only at h1 h9 he ht hl
  have n1 := numF_itoa tx ht
  have n2 := numF_itoa lim hl
  rcases cases9 h1 h9 with rfl | rfl | rfl | rfl | rfl | rfl | rfl | rfl | rfl
  · exact hs
  · rw [showF, if_pos (show mayF _ = true from rfl)]
    show Lib.join [wordF 2, Lib.itoa (numF (Lib.itoa tx)), hexF (toldF (hexF key))] [32] = s
    rw [n1, toldF_hexF]; exact hs
  · rw [showF, if_pos (show mayF _ = true from rfl)]
    show Lib.join [wordF 3, Lib.itoa (numF (Lib.itoa tx)), hexF (toldF (hexF key)), hexF (toldF (hexF va))] [32] = s
    rw [n1, toldF_hexF, toldF_hexF]; exact hs
  · rw [showF, if_pos (show mayF _ = true from rfl)]
    show Lib.join [wordF 4, Lib.itoa (numF (Lib.itoa tx)), hexF (toldF (hexF key))] [32] = s
    rw [n1, toldF_hexF]; exact hs
  · rw [showF, if_pos (show mayF _ = true from rfl)]
    show Lib.join [wordF 5, Lib.itoa (numF (Lib.itoa tx)), hexF (toldF (hexF key)), hexF (toldF (hexF en)), Lib.itoa (numF (Lib.itoa lim))] [32] = s
    rw [n1, n2, toldF_hexF, toldF_hexF]; exact hs
  · rw [showF, if_pos (show mayF _ = true from rfl)]
    show Lib.join [wordF 6, Lib.itoa (numF (Lib.itoa tx))] [32] = s
    rw [n1]; exact hs
  · rw [showF, if_pos (show mayF _ = true from rfl)]
    show Lib.join [wordF 7, Lib.itoa (numF (Lib.itoa tx))] [32] = s
    rw [n1]; exact hs
  · exact hs
  · have he := he rfl
    have n3 := numF_itoa (eng : Int) (by unfold Ok64; omega)
    have hx : refX (callWords ⟨9, tx, key, en, va, lim, eng⟩) 9 = ⟨9, (eng : Int), [], [], [], 0, eng⟩ := by
      show (⟨9, numF (Lib.itoa (eng : Int)), [], [], [], 0, (numF (Lib.itoa (eng : Int)) % 256).toNat⟩ : CallR) = _
      rw [n3]
      congr 1
      omega
    rw [hx, showF, if_pos (by rcases he with rfl | rfl <;> rfl)]
    exact hs

theorem getD_len (s : Bs) (i : Nat) : ((splitF s).getD i []).length ≤ s.length := by
  rw [List.getD_eq_getElem?_getD]
  cases h : (splitF s)[i]? with
  | none => simp
  | some w => exact splitF_mem_length s w (List.mem_of_getElem? h)

theorem refX_ok (s : Bs) (hs : s.length ≤ 1000000) (kd : Nat) : RefOk (refX (splitF s) kd) := by
  have e : ∀ i, (toldF ((splitF s).getD i [])).length ≤ 1000000 := fun i => Nat.le_trans (toldF_length _ _ (Nat.le_refl _)) (Nat.le_trans (getD_len s i) hs)
  refine ⟨numF_ok _, numF_ok _, ?_, e 2, e 3, e 3⟩
  show (numF ((splitF s).getD 1 []) % 256).toNat < 256
  omega

/-- Parse's answer, as printed. -/
def encP : Option CallR → Int × Int × ByteArray × ByteArray × ByteArray × Int × Int × Int
  | none => (0, 0, ⟨#[]⟩, ⟨#[]⟩, ⟨#[]⟩, 0, 0, 4)
  | some z => ((z.kind : Int), z.tx, bs z.key, bs z.en, bs z.va, z.lim, (z.eng : Int), 0)

theorem bs_list_inj {a b : Bs} : ((bs a).toList = (bs b).toList) = (a = b) := by rw [bs_toList, bs_toList]

theorem refParse_loop (s : Bs) (hs : s.length ≤ 1000000) : ∀ (d kd : Nat), kd + d = 10 → 1 ≤ kd → (∀ z, parseF s = some z → kd ≤ z.kind) →
    Ev (fun k => PRef.ferrymanref20_Parse.l0 k (bs s) ((splitF s).map bs) (kd : Int)) (encP (parseF s)) := by
  intro d
  induction d with
  | zero =>
    intro kd hd _ hz
    have hn : parseF s = none := by
      cases h : parseF s with
      | none => rfl
      | some z =>
        have h1 := hz z h
        have h2 := (mayF_kind (parse_is s z h).may).2.1
        omega
    rw [hn]
    refine ⟨1, fun k hk => ?_⟩
    obtain ⟨k, rfl⟩ : ∃ m, k = m + 1 := ⟨k - 1, by omega⟩
    simp only [PRef.ferrymanref20_Parse.l0]
    rw [if_neg (by omega)]
    rfl
  | succ d ih =>
    intro kd hd h1 hz
    have hne := splitF_ne s
    obtain ⟨w0, wr, hws⟩ : ∃ w0 wr, splitF s = w0 :: wr := by
      cases h : splitF s with
      | nil => exact absurd h hne
      | cons a b => exact ⟨a, b, rfl⟩
    have hlen : 0 < (((splitF s).map bs).length : Int) := by rw [hws]; simp
    have hrd : rdOf ByteArray.empty ((splitF s).map bs) 0 = bs w0 := by rw [hws]; rfl
    have hnx : ((kd : Int) + 1) % 256 = ((kd + 1 : Nat) : Int) := by omega
    have hk9 : kd ≤ 9 := by omega
    have hword := word_is kd (by omega)
    have next : (∀ z, parseF s = some z → z.kind ≠ kd) → Ev (fun k => PRef.ferrymanref20_Parse.l0 k (bs s) ((splitF s).map bs) ((kd + 1 : Nat) : Int)) (encP (parseF s)) := fun h =>
      ih (kd + 1) (by omega) (by omega) (fun z e => by have := hz z e; have := h z e; omega)
    by_cases hw : wordF kd = w0
    · have ho := refX_ok s hs kd
      obtain ⟨K1, k1⟩ := number_ev ((splitF s).getD 1 []) (Nat.le_trans (getD_len s 1) hs)
      obtain ⟨K2, k2⟩ := told_ev ((splitF s).getD 2 []) (Nat.le_trans (getD_len s 2) hs)
      obtain ⟨K3, k3⟩ := told_ev ((splitF s).getD 3 []) (Nat.le_trans (getD_len s 3) hs)
      obtain ⟨K4, k4⟩ := number_ev ((splitF s).getD 4 []) (Nat.le_trans (getD_len s 4) hs)
      obtain ⟨K5, k5⟩ := show_ev (refX (splitF s) kd) ho
      have heng : numF ((splitF s).getD 1 []) % 256 = ((refX (splitF s) kd).eng : Int) := by
        show _ = (((numF ((splitF s).getD 1 []) % 256).toNat : Nat) : Int)
        omega
      have step : ∀ k, K1 + K2 + K3 + K4 + K5 ≤ k → PRef.ferrymanref20_Parse.l0 (k + 1) (bs s) ((splitF s).map bs) (kd : Int) =
          if showF (refX (splitF s) kd) = s then ((PRef.ferrymanref20_Clean.f k (kd : Int) (refX (splitF s) kd).tx (bs (refX (splitF s) kd).key) (bs (refX (splitF s) kd).en) (bs (refX (splitF s) kd).va) (refX (splitF s) kd).lim ((refX (splitF s) kd).eng : Int)).bind fun bt => some (bt.1, bt.2.1, bt.2.2.1, bt.2.2.2.1, bt.2.2.2.2.1, bt.2.2.2.2.2.1, bt.2.2.2.2.2.2, 0))
          else PRef.ferrymanref20_Parse.l0 k (bs s) ((splitF s).map bs) ((kd + 1 : Nat) : Int) := by
        intro k hk
        simp only [PRef.ferrymanref20_Parse.l0]
        rw [if_pos (by omega), hword]
        simp only [Option.bind_some]
        rw [if_pos hlen, hrd, if_pos (by rw [bs_list_inj]; exact hw)]
        have a1 : PRef.ferrymanref20_at.f ((splitF s).map bs) 1 = some (bs ((splitF s).getD 1 [])) := at_is (splitF s) 1
        have a2 : PRef.ferrymanref20_at.f ((splitF s).map bs) 2 = some (bs ((splitF s).getD 2 [])) := at_is (splitF s) 2
        have a3 : PRef.ferrymanref20_at.f ((splitF s).map bs) 3 = some (bs ((splitF s).getD 3 [])) := at_is (splitF s) 3
        have a4 : PRef.ferrymanref20_at.f ((splitF s).map bs) 4 = some (bs ((splitF s).getD 4 [])) := at_is (splitF s) 4
        rw [a1, a2, a3, a4]
        simp only [Option.bind_some]
        have q1 : PRef.ferrymanref20_number.f k (bs ((splitF s).getD 1 [])) = some _ := k1 k (by omega)
        have q2 : PRef.ferrymanref20_told.f k (bs ((splitF s).getD 2 [])) = some _ := k2 k (by omega)
        have q3 : PRef.ferrymanref20_told.f k (bs ((splitF s).getD 3 [])) = some _ := k3 k (by omega)
        have q4 : PRef.ferrymanref20_number.f k (bs ((splitF s).getD 4 [])) = some _ := k4 k (by omega)
        rw [q1, q2, q3, q4]
        simp only [Option.bind_some]
        rw [heng]
        have h5 := k5 k (by omega)
        have h6 : PRef.ferrymanref20_Show.f k (kd : Int) (numF ((splitF s).getD 1 [])) (bs (toldF ((splitF s).getD 2 []))) (bs (toldF ((splitF s).getD 3 []))) (bs (toldF ((splitF s).getD 3 []))) (numF ((splitF s).getD 4 [])) ((refX (splitF s) kd).eng : Int) = some (bs (showF (refX (splitF s) kd))) := h5
        rw [h6]
        simp only [Option.bind_some, bs_list_inj, hnx]
        rfl
      by_cases hsh : showF (refX (splitF s) kd) = s
      · have hm : mayF (refX (splitF s) kd) = true := by
          cases hm : mayF (refX (splitF s) kd) with
          | true => rfl
          | false =>
            rw [showF, hm] at hsh
            have hsn : s = [] := hsh.symm
            rw [hsn] at hws
            have : w0 = [] := by
              have := (List.cons.inj (show [[]] = w0 :: wr from hws)).1
              exact this.symm
            rw [this] at hw
            exact absurd hw (wordF_ne kd h1 hk9)
        have hpar : parseF s = some (cleanF (refX (splitF s) kd)) := by
          have := parse_show _ hm ho.tx ho.lim
          rwa [hsh] at this
        obtain ⟨K6, k6⟩ := clean_ev (refX (splitF s) kd)
        rw [hpar]
        refine ⟨K1 + K2 + K3 + K4 + K5 + K6 + 1, fun k hk => ?_⟩
        obtain ⟨k, rfl⟩ : ∃ m, k = m + 1 := ⟨k - 1, by omega⟩
        show PRef.ferrymanref20_Parse.l0 (k + 1) (bs s) ((splitF s).map bs) (kd : Int) = _
        rw [step k (by omega), if_pos hsh]
        have h7 := k6 k (by omega)
        have h8 : PRef.ferrymanref20_Clean.f k (kd : Int) (refX (splitF s) kd).tx (bs (refX (splitF s) kd).key) (bs (refX (splitF s) kd).en) (bs (refX (splitF s) kd).va) (refX (splitF s) kd).lim ((refX (splitF s) kd).eng : Int) = some (tupC (cleanF (refX (splitF s) kd))) := h7
        rw [h8]
        rfl
      · obtain ⟨K6, k6⟩ := next (fun z hz' e => by
          apply hsh
          have := refX_words hz'
          rw [e] at this
          exact this)
        refine ⟨K1 + K2 + K3 + K4 + K5 + K6 + 1, fun k hk => ?_⟩
        obtain ⟨k, rfl⟩ : ∃ m, k = m + 1 := ⟨k - 1, by omega⟩
        show PRef.ferrymanref20_Parse.l0 (k + 1) (bs s) ((splitF s).map bs) (kd : Int) = _
        rw [step k (by omega), if_neg hsh]
        exact k6 k (by omega)
    · refine Ev.step (fun k => ?_) (next (fun z hz' e => by
          apply hw
          have := (parse_is s z hz').words
          rw [hws] at this
          have h2 := callWords_head z
          rw [← this, e] at h2
          exact h2.symm))
      simp only [PRef.ferrymanref20_Parse.l0]
      rw [if_pos (by omega), hword]
      simp only [Option.bind_some]
      rw [if_pos hlen, hrd, if_neg (by rw [bs_list_inj]; exact hw), hnx]

theorem refParse (s : Bs) (hs : s.length ≤ 1000000) : ∃ k, PRef.ferrymanref20_Parse.f k (bs s) = some (encP (parseF s)) := by
  have := Ev.bind (split_ev s hs) (f := fun k t => PRef.ferrymanref20_Parse.l0 k (bs s) t 1) (refParse_loop s hs 9 1 rfl (Nat.le_refl _) (fun z h => (mayF_kind (parse_is s z h).may).1))
  exact this.rounds
theorem refShow (x : CallR) (h : RefOk x) : ∃ k, PRef.ferrymanref20_Show.f k (x.kind : Int) x.tx (bs x.key) (bs x.en) (bs x.va) x.lim (x.eng : Int) = some (bs (showF x)) := (show_ev x h).rounds
end Go.Proofs.YthhhdddojmkgnaaGreatDoor
