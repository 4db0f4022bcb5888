/- record.Check: the program's. -/
import Derived.Test.YtlpplnmmcgdooaaDoorRecA
namespace Go.Proofs.YtlpplnmmcgdooaaDoor
open Go.RowKit Go.Sort Nb

set_option maxRecDepth 100000 in
set_option maxHeartbeats 2000000 in
theorem rcChk_any (r : PR) (w : World) (hg : Glob w) (hd : r.dt.size ≤ 1000000) :
    Calls Tryd.prog 17 #[recV r] w fun e w' => ErP recordW (recC r) e w' ∧ Below w.heap.size w w' := by
  have HEV := Lib.hid (fun (W : World) (hb : Below w.heap.size w W) => evt_any r.k r.dt W (hg.below hb) hd)
  have HN2 : Hid (∀ W : World, Calls Tryd.prog 28 #[.string ⟨#[114, 101, 99, 111, 114, 100]⟩, .int .i64 2] W fun e w' => ∃ v, e = .returned v ∧ Chain w' [recordW] 2 v ∧ Below W.heap.size W w') := fun W => New_any recordW 2 W (by omega)
  have HC : Hid (recC r = if headR r && bodyR r then 0 else 2) := rfl
  have HH : Hid (headR r = (decide (1 ≤ r.ep) && decide (r.ep ≤ 1000000) && decide (0 ≤ r.sq) && decide (r.sq ≤ 1000000) && (r.sn == (r.sq == 0)))) := rfl
  have HBO : Hid (bodyR r = if r.sn then decide (r.k = 0) && decide (r.dt.size = 0) && decide (r.st.size ≤ 18000) else decide (evC r.k r.dt = 0) && decide (r.st.size = 0)) := rfl
  have heg := evGuard
  unfold recV
  generalize recC r = rc at HC ⊢
  generalize headR r = hd at HC HH
  generalize bodyR r = bd at HC HBO
  obtain ⟨ep, sq, sn, k, dt, st⟩ := r
  dsimp only at HEV HH HBO ⊢
  clear hg hd
  go_enter Tryd.func17, Tryd.ntmps17
  go_upto_region 1 with (fail)
  go_cut [3] from 5 to 69 (fun v wx => v = .bool hd ∧ wx = w.alloc (.cells #[.int .i64 ep, .int .i64 sq, .bool sn, .int .i64 k, .string dt, .string st] 42))
  case first =>
    clear HC HBO HEV HN2
    by_cases h1 : 1 ≤ ep
    · by_cases h2 : ep ≤ 1000000
      · by_cases h3 : 0 ≤ sq
        · by_cases h4 : sq ≤ 1000000
          · by_cases h5 : sq = 0
            · have hz : (sq == 0) = true := by simpa using h5
              have HHx : Hid (hd = (sn == true)) := by show _ = _; rw [HH.out, hz]; simp [h1, h2, h3, h4]
              clear HH h5
              cases sn
              all_goals
                go_wp2
                go_meet
                exact ⟨by rw [HHx.out]; rfl, rfl⟩
            · have hz : (sq == 0) = false := by simpa using h5
              have HHx : Hid (hd = (sn == false)) := by show _ = _; rw [HH.out, hz]; simp [h1, h2, h3, h4]
              clear HH h5
              cases sn
              all_goals
                go_wp2
                go_meet
                exact ⟨by rw [HHx.out]; rfl, rfl⟩
          · go_wp2
            go_meet
            exact ⟨by rw [HH.out]; simp; intros; omega, rfl⟩
        · go_wp2
          go_meet
          exact ⟨by rw [HH.out]; simp; intros; omega, rfl⟩
      · go_wp2
        go_meet
        exact ⟨by rw [HH.out]; simp; intros; omega, rfl⟩
    · go_wp2
      go_meet
      exact ⟨by rw [HH.out]; simp; intros; omega, rfl⟩
  obtain ⟨hu, hwc⟩ := hcut
  subst hu hwc
  clear HH
  cases hd
  · simp only [Bool.false_and, Bool.false_eq_true, if_false] at HC
    clear HBO
    cases sn
    · go_wp2_with fail
      refine (HEV.out _ (bel1 w _)).mono ?_
      rintro e w1 ⟨⟨v, rfl, hv⟩, hb1⟩
      have HB1 := Lib.hid (belStep (bel1 w _) hb1)
      clear hv hb1 HEV
      go_wp2_with (go_at_call 28; refine (HN2.out _).mono ?_; rintro e w2 ⟨v2, rfl, hch, hb2⟩; have HCH := Lib.hid hch; have HB2 := Lib.hid (belStep HB1.out hb2); clear hch hb2)
      go_ret
      rw [HC.out]
      exact ⟨erp_bad rfl (by omega) HCH.out, HB2.out⟩
    · clear HEV
      go_wp2_with (go_at_call 28; refine (HN2.out _).mono ?_; rintro e w2 ⟨v2, rfl, hch, hb2⟩; have HCH := Lib.hid hch; have HB2 := Lib.hid (belStep (bel1 w _) hb2); clear hch hb2)
      go_ret
      rw [HC.out]
      exact ⟨erp_bad rfl (by omega) HCH.out, HB2.out⟩
  · simp only [Bool.true_and] at HC
    cases sn
    · simp only [Bool.false_eq_true, if_false] at HBO
      have hs0 := @sz0 st
      generalize decide (st.size = 0) = se at hs0 HBO
      rcases evC_3 k dt with h | h | h
      all_goals
        rw [h] at HEV HBO
        clear h
      · have HIS := Lib.hid (fun (W : World) (d : Int) (hd : d ≠ 0) => Is_any [] 0 d .nilIface W (Or.inl ⟨rfl, rfl, rfl⟩) hd)
        have HBX : Hid (bd = se) := by show _ = _; rw [HBO.out]; rfl
        clear HBO
        go_wp2_with fail
        refine (HEV.out _ (bel1 w _)).mono ?_
        rintro e w1 ⟨⟨v, rfl, hv⟩, hb1⟩
        have hv1 := errNilR hv
        subst hv1
        have HB1 := Lib.hid (belStep (bel1 w _) hb1)
        have c5 : w1.cell? ⟨w.heap.size, 5, none⟩ = some (.string st) := by rw [heap_cell (heap_box hb1)]; rfl
        have hlt : w.heap.size < w1.heap.size := lt_of_heap (heap_box hb1)
        have HI30 := Lib.hid (HIS.out w1 30 (by omega))
        have HI2 := Lib.hid (HIS.out w1 2 (by omega))
        clear hv hb1 HEV HIS
        cases se
        · have HCX : Hid (rc = 2) := by show _ = _; rw [HC.out, HBX.out]; rfl
          clear HC HBX
          go_wp2_with (first | (go_at_call 22; first | ((with_reducible refine HI30.out.mono ?_); rintro e w' ⟨rfl, rfl⟩) | ((with_reducible refine HI2.out.mono ?_); rintro e w' ⟨rfl, rfl⟩)) | (go_at_call 28; refine (HN2.out _).mono ?_; rintro e w2 ⟨v2, rfl, hch, hb2⟩; have HCH := Lib.hid hch; have HB2 := Lib.hid (belStep HB1.out hb2); clear hch hb2))
          go_ret
          rw [HCX.out]
          exact ⟨erp_bad rfl (by omega) HCH.out, HB2.out⟩
        · have HCX : Hid (rc = 0) := by show _ = _; rw [HC.out, HBX.out]; rfl
          clear HC HBX
          go_wp2_with (first | (go_at_call 22; first | ((with_reducible refine HI30.out.mono ?_); rintro e w' ⟨rfl, rfl⟩) | ((with_reducible refine HI2.out.mono ?_); rintro e w' ⟨rfl, rfl⟩)))
          go_ret
          rw [HCX.out]
          exact ⟨erp_ok _ _, HB1.out⟩
      all_goals
        have HCX : Hid (rc = 2) := by show _ = _; rw [HC.out, HBO.out]; rfl
        clear HC HBO
        go_wp2_with fail
        refine (HEV.out _ (bel1 w _)).mono ?_
        rintro e w1 ⟨⟨v, rfl, hv⟩, hb1⟩
        have HI30 := Lib.hid (Is_any _ _ 30 v w1 hv (by decide))
        have HI2 := Lib.hid (Is_any _ _ 2 v w1 hv (by decide))
        have HB1 := Lib.hid (belStep (bel1 w _) hb1)
        have hlt : w.heap.size < w1.heap.size := lt_of_heap (heap_box hb1)
        clear hv hb1 HEV
        go_wp2_with (first | (go_at_call 22; first | ((with_reducible refine HI30.out.mono ?_); rintro e w' ⟨rfl, rfl⟩) | ((with_reducible refine HI2.out.mono ?_); rintro e w' ⟨rfl, rfl⟩)) | (go_at_call 28; refine (HN2.out _).mono ?_; rintro e w2 ⟨v2, rfl, hch, hb2⟩; have HCH := Lib.hid hch; have HB2 := Lib.hid (belStep HB1.out hb2); clear hch hb2))
        go_ret
        rw [HCX.out]
        exact ⟨erp_bad rfl (by omega) HCH.out, HB2.out⟩
    · simp only [if_true] at HBO
      have hev : ∀ W, (binOp .eql 40 (.agg #[.int .i64 k, .string dt]) (.agg #[.int .i64 0, .string ⟨#[]⟩])).run Tryd.prog W = .ok (.bool (decide (k = 0) && decide (dt.size = 0))) W := fun W => by
        have h1 := eqEv_run k 0 dt ⟨#[]⟩ W
        have h2 : decide (dt = (⟨#[]⟩ : ByteArray)) = decide (dt.size = 0) := by
          rw [Bool.eq_iff_iff]
          simp only [decide_eq_true_eq]
          exact ⟨fun h => by rw [h]; rfl, ba_nil⟩
        rw [h2] at h1
        exact h1
      generalize (decide (k = 0) && decide (dt.size = 0)) = ze at hev HBO
      clear HEV
      cases ze
      · have HCX : Hid (rc = 2) := by show _ = _; rw [HC.out, HBO.out]; rfl
        clear HC HBO
        go_wp2_with (go_at_call 28; refine (HN2.out _).mono ?_; rintro e w2 ⟨v2, rfl, hch, hb2⟩; have HCH := Lib.hid hch; have HB2 := Lib.hid (belStep (bel1 w _) hb2); clear hch hb2)
        go_ret
        rw [HCX.out]
        exact ⟨erp_bad rfl (by omega) HCH.out, HB2.out⟩
      · by_cases h8 : st.size ≤ 18000
        · have h8' : decide ((st.size : Int) ≤ 18000) = true := by simp; omega
          have HCX : Hid (rc = 0) := by show _ = _; rw [HC.out, HBO.out]; simp [h8]
          clear HC HBO h8
          go_wp2
          go_ret
          rw [HCX.out]
          exact ⟨erp_ok _ _, bel1 w _⟩
        · have h8' : decide ((st.size : Int) ≤ 18000) = false := by simp; omega
          have HCX : Hid (rc = 2) := by show _ = _; rw [HC.out, HBO.out]; simp [h8]
          clear HC HBO h8
          go_wp2_with (go_at_call 28; refine (HN2.out _).mono ?_; rintro e w2 ⟨v2, rfl, hch, hb2⟩; have HCH := Lib.hid hch; have HB2 := Lib.hid (belStep (bel1 w _) hb2); clear hch hb2)
          go_ret
          rw [HCX.out]
          exact ⟨erp_bad rfl (by omega) HCH.out, HB2.out⟩
end Go.Proofs.YtlpplnmmcgdooaaDoor
