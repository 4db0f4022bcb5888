/- msg.Name, and what a kind may have (msg.may). -/
import Derived.Test.YtlpplnmmcgdooaaGreatDoorMsgB
namespace Go.Proofs.YtlpplnmmcgdooaaGreatDoor
open Go.RowKit Go.Sort Go.Lib

/-- Has a kind a name? -/
def NameR (k : Int) (e : Ending) : Prop := ∃ s : ByteArray, e = .returned (.string s) ∧ s.toList.isEmpty = decide (k < 1 ∨ 10 < k)
set_option maxRecDepth 100000 in
set_option maxHeartbeats 2000000 in
theorem Name_any (k : Int) (w : World) :
    Calls Tryz.prog 17 #[.int .i64 k] w fun e w' => NameR k e ∧ Below w.heap.size w w' := by
  by_cases h0 : k < 0
  · go_enter Tryz.func17, Tryz.ntmps17
    go_wp2
    go_ret
    exact ⟨⟨_, rfl, by rw [Lib.toList_data]; symm; simp; omega⟩, bel1 w _⟩
  · by_cases h1 : 10 < k
    · have h0' : decide (k < 0) = false := by simp; omega
      have h2 : (11 : Int) ≤ k := by omega
      clear h0
      go_enter Tryz.func17, Tryz.ntmps17
      go_wp2
      go_ret
      exact ⟨⟨_, rfl, by rw [Lib.toList_data]; symm; simp; omega⟩, bel1 w _⟩
    · have : k = 0 ∨ k = 1 ∨ k = 2 ∨ k = 3 ∨ k = 4 ∨ k = 5 ∨ k = 6 ∨ k = 7 ∨ k = 8 ∨ k = 9 ∨ k = 10 := by omega
      rcases this with rfl | rfl | rfl | rfl | rfl | rfl | rfl | rfl | rfl | rfl | rfl
      all_goals
        go_enter Tryz.func17, Tryz.ntmps17
        go_wp2
        go_ret
        exact ⟨⟨_, rfl, by rw [Lib.toList_data]; rfl⟩, bel1 w _⟩
/-- What a kind has may be. -/
def mayB (m : PM) : Bool := if m.k = 10 then proB m else okId m.id && (if m.k = 1 ∨ m.k = 5 then okTime m.t && carB m else if m.k = 3 then okTime m.t && okTime m.bal && carB m else if m.k = 6 then okTime m.bal && carB m else if m.k = 9 then carB m else if m.k = 2 then okTime m.t else if m.k = 7 then okTime m.bal && tolB m else okTime m.bal)
set_option maxRecDepth 100000 in
set_option maxHeartbeats 2000000 in
theorem may1_any (m : PM) (w : World) (hm : RdM w m) (hk : m.k = 1) :
    Calls Tryz.prog 48 #[msgV m] w fun e w' => e = .returned (.bool (mayB m)) ∧ Below w.heap.size w w' := by
  have HI := Lib.hid (fun W => idCheck_any m.id W)
  have HT := Lib.hid (fun W => time_any m.t W)
  have HL := Lib.hid (fun W => ballot_any m.bal W)
  have HC := Lib.hid (fun W => carried_any m W hm.sp)
  have HD := Lib.hid (fun W => told_any m W)
  have hne := idE_ne m.id
  have HM : Hid (mayB m = (okId m.id && (okTime m.t && carB m))) := by show _ = _; unfold mayB; simp [hk]
  unfold msgV at HC HD ⊢
  rw [hk] at HC HD ⊢
  generalize okId m.id = fI at hne HM
  generalize okTime m.t = fT at HT HM
  generalize carB m = fC at HC HM
  clear hk hm
  cases fI <;> cases fT <;> cases fC
  all_goals
    go_enter Tryz.func48, Tryz.ntmps48
    go_wp2_with (first | (go_at_call 88; refine (HI.out _).mono ?_; rintro e w' ⟨rfl, rfl⟩) | (go_at_call 89; refine (HT.out _).mono ?_; rintro e w' ⟨rfl, rfl⟩) | (go_at_call 91; refine (HL.out _).mono ?_; rintro e w' ⟨rfl, rfl⟩) | (go_at_call 90; refine (HC.out _).mono ?_; rintro e w1 ⟨rfl, hb1⟩; have HB1 := Lib.hid (belStep (bel1 w _) hb1); clear hb1) | (go_at_call 92; refine (HD.out _).mono ?_; rintro e w1 ⟨rfl, hb1⟩; have HB1 := Lib.hid (belStep (bel1 w _) hb1); clear hb1))
    go_ret
    first
    | exact ⟨ret_bool (by rw [HM.out]; rfl), HB1.out⟩
    | exact ⟨ret_bool (by rw [HM.out]; rfl), bel1 w _⟩
set_option maxRecDepth 100000 in
set_option maxHeartbeats 2000000 in
theorem may2_any (m : PM) (w : World) (hm : RdM w m) (hk : m.k = 2) :
    Calls Tryz.prog 48 #[msgV m] w fun e w' => e = .returned (.bool (mayB m)) ∧ Below w.heap.size w w' := by
  have HI := Lib.hid (fun W => idCheck_any m.id W)
  have HT := Lib.hid (fun W => time_any m.t W)
  have HL := Lib.hid (fun W => ballot_any m.bal W)
  have HC := Lib.hid (fun W => carried_any m W hm.sp)
  have HD := Lib.hid (fun W => told_any m W)
  have hne := idE_ne m.id
  have HM : Hid (mayB m = (okId m.id && (okTime m.t))) := by show _ = _; unfold mayB; simp [hk]
  unfold msgV at HC HD ⊢
  rw [hk] at HC HD ⊢
  generalize okId m.id = fI at hne HM
  generalize okTime m.t = fT at HT HM
  clear hk hm
  cases fI <;> cases fT
  all_goals
    go_enter Tryz.func48, Tryz.ntmps48
    go_wp2_with (first | (go_at_call 88; refine (HI.out _).mono ?_; rintro e w' ⟨rfl, rfl⟩) | (go_at_call 89; refine (HT.out _).mono ?_; rintro e w' ⟨rfl, rfl⟩) | (go_at_call 91; refine (HL.out _).mono ?_; rintro e w' ⟨rfl, rfl⟩) | (go_at_call 90; refine (HC.out _).mono ?_; rintro e w1 ⟨rfl, hb1⟩; have HB1 := Lib.hid (belStep (bel1 w _) hb1); clear hb1) | (go_at_call 92; refine (HD.out _).mono ?_; rintro e w1 ⟨rfl, hb1⟩; have HB1 := Lib.hid (belStep (bel1 w _) hb1); clear hb1))
    go_ret
    first
    | exact ⟨ret_bool (by rw [HM.out]; rfl), HB1.out⟩
    | exact ⟨ret_bool (by rw [HM.out]; rfl), bel1 w _⟩
set_option maxRecDepth 100000 in
set_option maxHeartbeats 2000000 in
theorem may3_any (m : PM) (w : World) (hm : RdM w m) (hk : m.k = 3) :
    Calls Tryz.prog 48 #[msgV m] w fun e w' => e = .returned (.bool (mayB m)) ∧ Below w.heap.size w w' := by
  have HI := Lib.hid (fun W => idCheck_any m.id W)
  have HT := Lib.hid (fun W => time_any m.t W)
  have HL := Lib.hid (fun W => ballot_any m.bal W)
  have HC := Lib.hid (fun W => carried_any m W hm.sp)
  have HD := Lib.hid (fun W => told_any m W)
  have hne := idE_ne m.id
  have HM : Hid (mayB m = (okId m.id && (okTime m.t && okTime m.bal && carB m))) := by show _ = _; unfold mayB; simp [hk]
  unfold msgV at HC HD ⊢
  rw [hk] at HC HD ⊢
  generalize okId m.id = fI at hne HM
  generalize okTime m.t = fT at HT HM
  generalize okTime m.bal = fL at HL HM
  generalize carB m = fC at HC HM
  clear hk hm
  cases fI <;> cases fT <;> cases fL <;> cases fC
  all_goals
    go_enter Tryz.func48, Tryz.ntmps48
    go_wp2_with (first | (go_at_call 88; refine (HI.out _).mono ?_; rintro e w' ⟨rfl, rfl⟩) | (go_at_call 89; refine (HT.out _).mono ?_; rintro e w' ⟨rfl, rfl⟩) | (go_at_call 91; refine (HL.out _).mono ?_; rintro e w' ⟨rfl, rfl⟩) | (go_at_call 90; refine (HC.out _).mono ?_; rintro e w1 ⟨rfl, hb1⟩; have HB1 := Lib.hid (belStep (bel1 w _) hb1); clear hb1) | (go_at_call 92; refine (HD.out _).mono ?_; rintro e w1 ⟨rfl, hb1⟩; have HB1 := Lib.hid (belStep (bel1 w _) hb1); clear hb1))
    go_ret
    first
    | exact ⟨ret_bool (by rw [HM.out]; rfl), HB1.out⟩
    | exact ⟨ret_bool (by rw [HM.out]; rfl), bel1 w _⟩
set_option maxRecDepth 100000 in
set_option maxHeartbeats 2000000 in
theorem may4_any (m : PM) (w : World) (hm : RdM w m) (hk : m.k = 4) :
    Calls Tryz.prog 48 #[msgV m] w fun e w' => e = .returned (.bool (mayB m)) ∧ Below w.heap.size w w' := by
  have HI := Lib.hid (fun W => idCheck_any m.id W)
  have HT := Lib.hid (fun W => time_any m.t W)
  have HL := Lib.hid (fun W => ballot_any m.bal W)
  have HC := Lib.hid (fun W => carried_any m W hm.sp)
  have HD := Lib.hid (fun W => told_any m W)
  have hne := idE_ne m.id
  have HM : Hid (mayB m = (okId m.id && (okTime m.bal))) := by show _ = _; unfold mayB; simp [hk]
  unfold msgV at HC HD ⊢
  rw [hk] at HC HD ⊢
  generalize okId m.id = fI at hne HM
  generalize okTime m.bal = fL at HL HM
  clear hk hm
  cases fI <;> cases fL
  all_goals
    go_enter Tryz.func48, Tryz.ntmps48
    go_wp2_with (first | (go_at_call 88; refine (HI.out _).mono ?_; rintro e w' ⟨rfl, rfl⟩) | (go_at_call 89; refine (HT.out _).mono ?_; rintro e w' ⟨rfl, rfl⟩) | (go_at_call 91; refine (HL.out _).mono ?_; rintro e w' ⟨rfl, rfl⟩) | (go_at_call 90; refine (HC.out _).mono ?_; rintro e w1 ⟨rfl, hb1⟩; have HB1 := Lib.hid (belStep (bel1 w _) hb1); clear hb1) | (go_at_call 92; refine (HD.out _).mono ?_; rintro e w1 ⟨rfl, hb1⟩; have HB1 := Lib.hid (belStep (bel1 w _) hb1); clear hb1))
    go_ret
    first
    | exact ⟨ret_bool (by rw [HM.out]; rfl), HB1.out⟩
    | exact ⟨ret_bool (by rw [HM.out]; rfl), bel1 w _⟩
set_option maxRecDepth 100000 in
set_option maxHeartbeats 2000000 in
theorem may5_any (m : PM) (w : World) (hm : RdM w m) (hk : m.k = 5) :
    Calls Tryz.prog 48 #[msgV m] w fun e w' => e = .returned (.bool (mayB m)) ∧ Below w.heap.size w w' := by
  have HI := Lib.hid (fun W => idCheck_any m.id W)
  have HT := Lib.hid (fun W => time_any m.t W)
  have HL := Lib.hid (fun W => ballot_any m.bal W)
  have HC := Lib.hid (fun W => carried_any m W hm.sp)
  have HD := Lib.hid (fun W => told_any m W)
  have hne := idE_ne m.id
  have HM : Hid (mayB m = (okId m.id && (okTime m.t && carB m))) := by show _ = _; unfold mayB; simp [hk]
  unfold msgV at HC HD ⊢
  rw [hk] at HC HD ⊢
  generalize okId m.id = fI at hne HM
  generalize okTime m.t = fT at HT HM
  generalize carB m = fC at HC HM
  clear hk hm
  cases fI <;> cases fT <;> cases fC
  all_goals
    go_enter Tryz.func48, Tryz.ntmps48
    go_wp2_with (first | (go_at_call 88; refine (HI.out _).mono ?_; rintro e w' ⟨rfl, rfl⟩) | (go_at_call 89; refine (HT.out _).mono ?_; rintro e w' ⟨rfl, rfl⟩) | (go_at_call 91; refine (HL.out _).mono ?_; rintro e w' ⟨rfl, rfl⟩) | (go_at_call 90; refine (HC.out _).mono ?_; rintro e w1 ⟨rfl, hb1⟩; have HB1 := Lib.hid (belStep (bel1 w _) hb1); clear hb1) | (go_at_call 92; refine (HD.out _).mono ?_; rintro e w1 ⟨rfl, hb1⟩; have HB1 := Lib.hid (belStep (bel1 w _) hb1); clear hb1))
    go_ret
    first
    | exact ⟨ret_bool (by rw [HM.out]; rfl), HB1.out⟩
    | exact ⟨ret_bool (by rw [HM.out]; rfl), bel1 w _⟩
set_option maxRecDepth 100000 in
set_option maxHeartbeats 2000000 in
theorem may6_any (m : PM) (w : World) (hm : RdM w m) (hk : m.k = 6) :
    Calls Tryz.prog 48 #[msgV m] w fun e w' => e = .returned (.bool (mayB m)) ∧ Below w.heap.size w w' := by
  have HI := Lib.hid (fun W => idCheck_any m.id W)
  have HT := Lib.hid (fun W => time_any m.t W)
  have HL := Lib.hid (fun W => ballot_any m.bal W)
  have HC := Lib.hid (fun W => carried_any m W hm.sp)
  have HD := Lib.hid (fun W => told_any m W)
  have hne := idE_ne m.id
  have HM : Hid (mayB m = (okId m.id && (okTime m.bal && carB m))) := by show _ = _; unfold mayB; simp [hk]
  unfold msgV at HC HD ⊢
  rw [hk] at HC HD ⊢
  generalize okId m.id = fI at hne HM
  generalize okTime m.bal = fL at HL HM
  generalize carB m = fC at HC HM
  clear hk hm
  cases fI <;> cases fL <;> cases fC
  all_goals
    go_enter Tryz.func48, Tryz.ntmps48
    go_wp2_with (first | (go_at_call 88; refine (HI.out _).mono ?_; rintro e w' ⟨rfl, rfl⟩) | (go_at_call 89; refine (HT.out _).mono ?_; rintro e w' ⟨rfl, rfl⟩) | (go_at_call 91; refine (HL.out _).mono ?_; rintro e w' ⟨rfl, rfl⟩) | (go_at_call 90; refine (HC.out _).mono ?_; rintro e w1 ⟨rfl, hb1⟩; have HB1 := Lib.hid (belStep (bel1 w _) hb1); clear hb1) | (go_at_call 92; refine (HD.out _).mono ?_; rintro e w1 ⟨rfl, hb1⟩; have HB1 := Lib.hid (belStep (bel1 w _) hb1); clear hb1))
    go_ret
    first
    | exact ⟨ret_bool (by rw [HM.out]; rfl), HB1.out⟩
    | exact ⟨ret_bool (by rw [HM.out]; rfl), bel1 w _⟩
set_option maxRecDepth 100000 in
set_option maxHeartbeats 2000000 in
theorem may7_any (m : PM) (w : World) (hm : RdM w m) (hk : m.k = 7) :
    Calls Tryz.prog 48 #[msgV m] w fun e w' => e = .returned (.bool (mayB m)) ∧ Below w.heap.size w w' := by
  have HI := Lib.hid (fun W => idCheck_any m.id W)
  have HT := Lib.hid (fun W => time_any m.t W)
  have HL := Lib.hid (fun W => ballot_any m.bal W)
  have HC := Lib.hid (fun W => carried_any m W hm.sp)
  have HD := Lib.hid (fun W => told_any m W)
  have hne := idE_ne m.id
  have HM : Hid (mayB m = (okId m.id && (okTime m.bal && tolB m))) := by show _ = _; unfold mayB; simp [hk]
  unfold msgV at HC HD ⊢
  rw [hk] at HC HD ⊢
  generalize okId m.id = fI at hne HM
  generalize okTime m.bal = fL at HL HM
  generalize tolB m = fD at HD HM
  clear hk hm
  cases fI <;> cases fL <;> cases fD
  all_goals
    go_enter Tryz.func48, Tryz.ntmps48
    go_wp2_with (first | (go_at_call 88; refine (HI.out _).mono ?_; rintro e w' ⟨rfl, rfl⟩) | (go_at_call 89; refine (HT.out _).mono ?_; rintro e w' ⟨rfl, rfl⟩) | (go_at_call 91; refine (HL.out _).mono ?_; rintro e w' ⟨rfl, rfl⟩) | (go_at_call 90; refine (HC.out _).mono ?_; rintro e w1 ⟨rfl, hb1⟩; have HB1 := Lib.hid (belStep (bel1 w _) hb1); clear hb1) | (go_at_call 92; refine (HD.out _).mono ?_; rintro e w1 ⟨rfl, hb1⟩; have HB1 := Lib.hid (belStep (bel1 w _) hb1); clear hb1))
    go_ret
    first
    | exact ⟨ret_bool (by rw [HM.out]; rfl), HB1.out⟩
    | exact ⟨ret_bool (by rw [HM.out]; rfl), bel1 w _⟩
set_option maxRecDepth 100000 in
set_option maxHeartbeats 2000000 in
theorem may8_any (m : PM) (w : World) (hm : RdM w m) (hk : m.k = 8) :
    Calls Tryz.prog 48 #[msgV m] w fun e w' => e = .returned (.bool (mayB m)) ∧ Below w.heap.size w w' := by
  have HI := Lib.hid (fun W => idCheck_any m.id W)
  have HT := Lib.hid (fun W => time_any m.t W)
  have HL := Lib.hid (fun W => ballot_any m.bal W)
  have HC := Lib.hid (fun W => carried_any m W hm.sp)
  have HD := Lib.hid (fun W => told_any m W)
  have hne := idE_ne m.id
  have HM : Hid (mayB m = (okId m.id && (okTime m.bal))) := by show _ = _; unfold mayB; simp [hk]
  unfold msgV at HC HD ⊢
  rw [hk] at HC HD ⊢
  generalize okId m.id = fI at hne HM
  generalize okTime m.bal = fL at HL HM
  clear hk hm
  cases fI <;> cases fL
  all_goals
    go_enter Tryz.func48, Tryz.ntmps48
    go_wp2_with (first | (go_at_call 88; refine (HI.out _).mono ?_; rintro e w' ⟨rfl, rfl⟩) | (go_at_call 89; refine (HT.out _).mono ?_; rintro e w' ⟨rfl, rfl⟩) | (go_at_call 91; refine (HL.out _).mono ?_; rintro e w' ⟨rfl, rfl⟩) | (go_at_call 90; refine (HC.out _).mono ?_; rintro e w1 ⟨rfl, hb1⟩; have HB1 := Lib.hid (belStep (bel1 w _) hb1); clear hb1) | (go_at_call 92; refine (HD.out _).mono ?_; rintro e w1 ⟨rfl, hb1⟩; have HB1 := Lib.hid (belStep (bel1 w _) hb1); clear hb1))
    go_ret
    first
    | exact ⟨ret_bool (by rw [HM.out]; rfl), HB1.out⟩
    | exact ⟨ret_bool (by rw [HM.out]; rfl), bel1 w _⟩
set_option maxRecDepth 100000 in
set_option maxHeartbeats 2000000 in
theorem may9_any (m : PM) (w : World) (hm : RdM w m) (hk : m.k = 9) :
    Calls Tryz.prog 48 #[msgV m] w fun e w' => e = .returned (.bool (mayB m)) ∧ Below w.heap.size w w' := by
  have HI := Lib.hid (fun W => idCheck_any m.id W)
  have HT := Lib.hid (fun W => time_any m.t W)
  have HL := Lib.hid (fun W => ballot_any m.bal W)
  have HC := Lib.hid (fun W => carried_any m W hm.sp)
  have HD := Lib.hid (fun W => told_any m W)
  have hne := idE_ne m.id
  have HM : Hid (mayB m = (okId m.id && (carB m))) := by show _ = _; unfold mayB; simp [hk]
  unfold msgV at HC HD ⊢
  rw [hk] at HC HD ⊢
  generalize okId m.id = fI at hne HM
  generalize carB m = fC at HC HM
  clear hk hm
  cases fI <;> cases fC
  all_goals
    go_enter Tryz.func48, Tryz.ntmps48
    go_wp2_with (first | (go_at_call 88; refine (HI.out _).mono ?_; rintro e w' ⟨rfl, rfl⟩) | (go_at_call 89; refine (HT.out _).mono ?_; rintro e w' ⟨rfl, rfl⟩) | (go_at_call 91; refine (HL.out _).mono ?_; rintro e w' ⟨rfl, rfl⟩) | (go_at_call 90; refine (HC.out _).mono ?_; rintro e w1 ⟨rfl, hb1⟩; have HB1 := Lib.hid (belStep (bel1 w _) hb1); clear hb1) | (go_at_call 92; refine (HD.out _).mono ?_; rintro e w1 ⟨rfl, hb1⟩; have HB1 := Lib.hid (belStep (bel1 w _) hb1); clear hb1))
    go_ret
    first
    | exact ⟨ret_bool (by rw [HM.out]; rfl), HB1.out⟩
    | exact ⟨ret_bool (by rw [HM.out]; rfl), bel1 w _⟩
set_option maxRecDepth 100000 in
set_option maxHeartbeats 2000000 in
theorem may10_any (m : PM) (w : World) (hm : RdM w m) (hk : m.k = 10) :
    Calls Tryz.prog 48 #[msgV m] w fun e w' => e = .returned (.bool (mayB m)) ∧ Below w.heap.size w w' := by
  have HP := Lib.hid (fun W (h : Below w.heap.size w W) => promises_any m W (hm.next h))
  have HM : Hid (mayB m = proB m) := by show _ = _; unfold mayB; simp [hk]
  unfold msgV at HP ⊢
  rw [hk] at HP ⊢
  clear hk hm
  go_enter Tryz.func48, Tryz.ntmps48
  go_wp2_with (go_at_call 87; refine (HP.out _ (bel1 w _)).mono ?_; rintro e w1 ⟨rfl, hb1⟩; have HB1 := Lib.hid (belStep (bel1 w _) hb1); clear hb1)
  go_ret
  exact ⟨ret_bool HM.out.symm, HB1.out⟩
theorem mayM_any (m : PM) (w : World) (hm : RdM w m) (h1 : 1 ≤ m.k) (h2 : m.k ≤ 10) :
    Calls Tryz.prog 48 #[msgV m] w fun e w' => e = .returned (.bool (mayB m)) ∧ Below w.heap.size w w' := by
  have : m.k = 1 ∨ m.k = 2 ∨ m.k = 3 ∨ m.k = 4 ∨ m.k = 5 ∨ m.k = 6 ∨ m.k = 7 ∨ m.k = 8 ∨ m.k = 9 ∨ m.k = 10 := by omega
  rcases this with h | h | h | h | h | h | h | h | h | h
  · exact may1_any m w hm h
  · exact may2_any m w hm h
  · exact may3_any m w hm h
  · exact may4_any m w hm h
  · exact may5_any m w hm h
  · exact may6_any m w hm h
  · exact may7_any m w hm h
  · exact may8_any m w hm h
  · exact may9_any m w hm h
  · exact may10_any m w hm h
end Go.Proofs.YtlpplnmmcgdooaaGreatDoor
