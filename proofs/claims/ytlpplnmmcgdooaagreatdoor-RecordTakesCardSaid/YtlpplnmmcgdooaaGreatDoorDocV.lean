/- The document's Event and Check of records (rubatoref11). -/
import Derived.Test.YtlpplnmmcgdooaaGreatDoorRecD
import Derived.Test.YtlpplnmmcgdooaaGreatDoorDocX
namespace Go.Proofs.YtlpplnmmcgdooaaGreatDoor
open Go.RowKit Go.Sort Nb

set_option maxRecDepth 100000 in
set_option maxHeartbeats 1000000 in
theorem rEvt_any (k : Int) (d : ByteArray) (w : World) (hd : d.size ≤ 1000000) :
    Calls Tryz.prog 30 #[.agg #[.int .i64 k, .string d]] w fun e w' => e = .returned (.int .i64 (evC k d : Int)) ∧ Below w.heap.size w w' := by
  have HE : Hid (evC k d = if k = 1 then (if d.size ≤ 300 then 0 else 2) else if k = 2 then (if takeC d.data.toList = 0 then 0 else 2) else if k = 3 then (if d.size = 0 then 0 else 2) else 30) := rfl
  generalize evC k d = c at HE ⊢
  by_cases h1 : k = 1
  · subst h1
    rw [if_pos rfl] at HE
    by_cases h3 : d.size ≤ 300
    · rw [if_pos h3] at HE
      have h3' : decide ((300 : Int) < (d.size : Int)) = false := by simp; omega
      clear h3
      go_enter Tryz.func30, Tryz.ntmps30
      go_wp2
      go_ret
      rw [HE.out]
      exact ⟨rfl, bel1 w _⟩
    · rw [if_neg h3] at HE
      have h3' : decide ((300 : Int) < (d.size : Int)) = true := by simp; omega
      clear h3
      go_enter Tryz.func30, Tryz.ntmps30
      go_wp2
      go_ret
      rw [HE.out]
      exact ⟨rfl, bel1 w _⟩
  · rw [if_neg h1] at HE
    have h1' : (k == 1) = false := by simpa using h1
    clear h1
    by_cases h2 : k = 2
    · subst h2
      rw [if_pos rfl] at HE
      have HTK := Lib.hid (fun (W : World) => dTake_any d W hd)
      clear h1'
      go_enter Tryz.func30, Tryz.ntmps30
      go_wp2_with fail
      refine (HTK.out _).mono ?_
      rintro e w1 ⟨⟨m, rfl, -, -, -⟩, hb1⟩
      have HB1 := Lib.hid (belStep (bel1 w _) hb1)
      clear hb1
      obtain ⟨t, ht⟩ : ∃ t, takeC d.data.toList = t := ⟨_, rfl⟩
      rw [ht] at HE ⊢
      clear ht
      unfold msgV
      by_cases h0 : t = 0
      · rw [if_pos h0] at HE
        have h0' : ((t : Int) != 0) = false := by simp [h0]
        clear h0
        go_wp2
        go_ret
        rw [HE.out]
        exact ⟨rfl, belAlloc HB1.out _⟩
      · rw [if_neg h0] at HE
        have h0' : ((t : Int) != 0) = true := by simpa using h0
        clear h0
        go_wp2
        go_ret
        rw [HE.out]
        exact ⟨rfl, belAlloc HB1.out _⟩
    · rw [if_neg h2] at HE
      have h2' : (k == 2) = false := by simpa using h2
      clear h2
      by_cases h3 : k = 3
      · subst h3
        rw [if_pos rfl] at HE
        clear h1' h2'
        by_cases h4 : d.size = 0
        · rw [if_pos h4] at HE
          have h4' : d.toList.isEmpty = true := by rw [sz0]; simpa using h4
          clear h4
          go_enter Tryz.func30, Tryz.ntmps30
          go_wp2
          go_ret
          rw [HE.out]
          exact ⟨rfl, bel1 w _⟩
        · rw [if_neg h4] at HE
          have h4' : d.toList.isEmpty = false := by rw [sz0]; simpa using h4
          clear h4
          go_enter Tryz.func30, Tryz.ntmps30
          go_wp2
          go_ret
          rw [HE.out]
          exact ⟨rfl, bel1 w _⟩
      · rw [if_neg h3] at HE
        have h3' : (k == 3) = false := by simpa using h3
        clear h3
        go_enter Tryz.func30, Tryz.ntmps30
        go_wp2
        go_ret
        rw [HE.out]
        exact ⟨rfl, bel1 w _⟩
theorem recC_out {r : PR} (h : ¬ (1 ≤ r.ep ∧ r.ep ≤ 1000000 ∧ 0 ≤ r.sq ∧ r.sq ≤ 1000000)) : recC r = 2 := by
  rcases recC_2 r with h0 | h0
  · obtain ⟨h1, h2, h3, h4, -⟩ := recC_ok h0
    exact absurd ⟨h1, h2, h3, h4⟩ h
  · exact h0
theorem recC_T {r : PR} (h : 1 ≤ r.ep ∧ r.ep ≤ 1000000 ∧ 0 ≤ r.sq ∧ r.sq ≤ 1000000) (hs : r.sn = true) : recC r = if r.sq = 0 ∧ r.st.size ≤ 18000 ∧ r.k = 0 ∧ r.dt.size = 0 then 0 else 2 := by
  obtain ⟨h1, h2, h3, h4⟩ := h
  unfold recC headR bodyR
  rw [hs]
  by_cases a : r.sq = 0 <;> by_cases b : r.st.size ≤ 18000 <;> by_cases c : r.k = 0 <;> by_cases d : r.dt.size = 0 <;> simp [h1, h2, h3, h4, a, b, c, d]
theorem recC_F {r : PR} (h : 1 ≤ r.ep ∧ r.ep ≤ 1000000 ∧ 0 ≤ r.sq ∧ r.sq ≤ 1000000) (hs : r.sn = false) : recC r = if 0 < r.sq ∧ r.st.size = 0 ∧ evC r.k r.dt = 0 then 0 else 2 := by
  obtain ⟨h1, h2, h3, h4⟩ := h
  unfold recC headR bodyR
  rw [hs]
  by_cases a : r.sq = 0
  · simp [h1, h2, a]
  · have a' : 0 < r.sq := by omega
    by_cases b : r.st.size = 0 <;> by_cases c : evC r.k r.dt = 0 <;> simp [h1, h2, h3, h4, a, a', b, c]
set_option maxRecDepth 100000 in
set_option maxHeartbeats 4000000 in
theorem rRecChk_any (r : PR) (w : World) (hd : r.dt.size ≤ 1000000) :
    Calls Tryz.prog 28 #[recV r] w fun e w' => e = .returned (.int .i64 (recC r : Int)) ∧ Below w.heap.size w w' := by
  have HEV := Lib.hid (fun (W : World) => rEvt_any r.k r.dt W hd)
  have HOUT := Lib.hid (@recC_out r)
  have HT := Lib.hid (@recC_T r)
  have HF := Lib.hid (@recC_F r)
  unfold recV
  generalize recC r = rc at HOUT HT HF ⊢
  obtain ⟨ep, sq, sn, k, dt, st⟩ := r
  dsimp only at HEV HOUT HT HF ⊢
  clear hd
  by_cases h1 : ep < 1
  · have HV : Hid (rc = 2) := HOUT.out (by omega)
    clear HOUT HT HF HEV
    go_enter Tryz.func28, Tryz.ntmps28
    go_wp2
    go_ret
    rw [HV.out]
    exact ⟨rfl, bel1 w _⟩
  by_cases h2 : 1000000 < ep
  · have HV : Hid (rc = 2) := HOUT.out (by omega)
    clear HOUT HT HF HEV
    go_enter Tryz.func28, Tryz.ntmps28
    go_wp2
    go_ret
    rw [HV.out]
    exact ⟨rfl, bel1 w _⟩
  by_cases h3 : sq < 0
  · have HV : Hid (rc = 2) := HOUT.out (by omega)
    clear HOUT HT HF HEV
    go_enter Tryz.func28, Tryz.ntmps28
    go_wp2
    go_ret
    rw [HV.out]
    exact ⟨rfl, bel1 w _⟩
  by_cases h4 : 1000000 < sq
  · have HV : Hid (rc = 2) := HOUT.out (by omega)
    clear HOUT HT HF HEV
    go_enter Tryz.func28, Tryz.ntmps28
    go_wp2
    go_ret
    rw [HV.out]
    exact ⟨rfl, bel1 w _⟩
  have hb : 1 ≤ ep ∧ ep ≤ 1000000 ∧ 0 ≤ sq ∧ sq ≤ 1000000 := by omega
  clear HOUT
  cases sn
  · have HF1 := Lib.hid (HF.out hb rfl)
    have hse := @sz0 st
    clear HT HF hb
    by_cases h5 : 0 < sq
    · by_cases h6 : st.size = 0
      · have h6' : decide (st.size = 0) = true := by simpa using h6
        rw [h6'] at hse
        obtain ⟨t, ht⟩ : ∃ t, evC k dt = t := ⟨_, rfl⟩
        rw [ht] at HEV HF1
        clear ht h6'
        by_cases h7 : t = 0
        · have h7' : ((t : Int) == 0) = true := by simp [h7]
          rw [if_pos ⟨h5, h6, h7⟩] at HF1
          clear h6 h7
          go_enter Tryz.func28, Tryz.ntmps28
          go_wp2_with (go_at_call 30; refine (HEV.out _).mono ?_; rintro e w1 ⟨rfl, hb1⟩; have HB1 := Lib.hid (belStep (bel1 w _) hb1); clear hb1)
          go_ret
          rw [HF1.out]
          exact ⟨rfl, HB1.out⟩
        · have h7' : ((t : Int) == 0) = false := by simpa using h7
          rw [if_neg (by intro h; exact h7 h.2.2)] at HF1
          clear h6 h7
          go_enter Tryz.func28, Tryz.ntmps28
          go_wp2_with (go_at_call 30; refine (HEV.out _).mono ?_; rintro e w1 ⟨rfl, hb1⟩; have HB1 := Lib.hid (belStep (bel1 w _) hb1); clear hb1)
          go_ret
          rw [HF1.out]
          exact ⟨rfl, HB1.out⟩
      · have h6' : decide (st.size = 0) = false := by simpa using h6
        rw [h6'] at hse
        rw [if_neg (by intro h; exact h6 h.2.1)] at HF1
        clear h6 h6' HEV
        go_enter Tryz.func28, Tryz.ntmps28
        go_wp2
        go_ret
        rw [HF1.out]
        exact ⟨rfl, bel1 w _⟩
    · rw [if_neg (by intro h; exact h5 h.1)] at HF1
      clear hse HEV
      go_enter Tryz.func28, Tryz.ntmps28
      go_wp2
      go_ret
      rw [HF1.out]
      exact ⟨rfl, bel1 w _⟩
  · have HT1 := Lib.hid (HT.out hb rfl)
    have hde := @sz0 dt
    clear HT HF hb HEV
    by_cases h5 : sq = 0
    · have h5' : (sq == 0) = true := by simpa using h5
      by_cases h6 : st.size ≤ 18000
      · have h6' : decide ((st.size : Int) ≤ 18000) = true := by simp; omega
        by_cases h7 : k = 0
        · have h7' : (k == 0) = true := by simpa using h7
          by_cases h8 : dt.size = 0
          · have h8' : decide (dt.size = 0) = true := by simpa using h8
            rw [h8'] at hde
            rw [if_pos ⟨h5, h6, h7, h8⟩] at HT1
            clear h5 h6 h7 h8 h8'
            go_enter Tryz.func28, Tryz.ntmps28
            go_wp2
            go_ret
            rw [HT1.out]
            exact ⟨rfl, bel1 w _⟩
          · have h8' : decide (dt.size = 0) = false := by simpa using h8
            rw [h8'] at hde
            rw [if_neg (by intro h; exact h8 h.2.2.2)] at HT1
            clear h5 h6 h7 h8 h8'
            go_enter Tryz.func28, Tryz.ntmps28
            go_wp2
            go_ret
            rw [HT1.out]
            exact ⟨rfl, bel1 w _⟩
        · have h7' : (k == 0) = false := by simpa using h7
          rw [if_neg (by intro h; exact h7 h.2.2.1)] at HT1
          clear h5 h6 h7 hde
          go_enter Tryz.func28, Tryz.ntmps28
          go_wp2
          go_ret
          rw [HT1.out]
          exact ⟨rfl, bel1 w _⟩
      · have h6' : decide ((st.size : Int) ≤ 18000) = false := by simp; omega
        rw [if_neg (by intro h; exact h6 h.2.1)] at HT1
        clear h5 h6 hde
        go_enter Tryz.func28, Tryz.ntmps28
        go_wp2
        go_ret
        rw [HT1.out]
        exact ⟨rfl, bel1 w _⟩
    · have h5' : (sq == 0) = false := by simpa using h5
      rw [if_neg (by intro h; exact h5 h.1)] at HT1
      clear h5 hde
      go_enter Tryz.func28, Tryz.ntmps28
      go_wp2
      go_ret
      rw [HT1.out]
      exact ⟨rfl, bel1 w _⟩
end Go.Proofs.YtlpplnmmcgdooaaGreatDoor
