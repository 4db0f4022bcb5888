/- When two messages are the same: msg.Same, and the document's. -/
import Derived.Test.YtlpplnmmcgdooaaGreatDoorMsgS
namespace Go.Proofs.YtlpplnmmcgdooaaGreatDoor
open Go.RowKit Go.Sort Go.Lib

set_option maxRecDepth 100000 in
set_option maxHeartbeats 4000000 in
theorem Same_1 (a b : PM) (w : World) (ha : RdM w a) (hb : RdM w b) (hpay : a.pay = b.pay) (hats : a.ats = b.ats) (hmks : a.mks = b.mks) :
    Calls Tryz.prog 15 #[msgV a, msgV b] w fun e w' => e = .returned (.bool (sameM a b)) ∧ Below w.heap.size w w' := by
  have HA := Lib.hid (fun W (h : Below w.heap.size w W) => EqAtts_any a.aA b.aA a.aC b.aC a.ats b.ats _ _ W (ha.next h).ra (hb.next h).ra (by have := ha.sa; omega) (by have := hb.sa; omega))
  have HM := Lib.hid (fun W (h : Below w.heap.size w W) => EqInts_any a.mA b.mA a.mC b.mC a.mks b.mks _ _ W (ha.next h).rm (hb.next h).rm (by have := ha.sm; omega) (by have := hb.sm; omega))
  unfold msgV
  have hsn := @str_eq a.pay b.pay
  have hdpay : decide (a.pay = b.pay) = true := by simp [hpay]
  have hdats : decide (a.ats = b.ats) = true := by simp [hats]
  have hdmks : decide (a.mks = b.mks) = true := by simp [hmks]
  rw [hdpay] at hsn
  rw [hdats] at HA
  rw [hdmks] at HM
  have HS : Hid (sameM a b = decide (a.k = b.k ∧ a.fr = b.fr ∧ a.id = b.id ∧ a.t = b.t ∧ a.bal = b.bal ∧ a.abal = b.abal ∧ a.ph = b.ph ∧ a.q = b.q ∧ a.lo = b.lo ∧ a.hi = b.hi ∧ a.dn = b.dn)) := by show _ = _; unfold sameM; simp [hpay, hats, hmks]
  clear hpay hdpay hats hdats hmks hdmks ha hb
  go_enter Tryz.func15, Tryz.ntmps15
  go_wp2_with (first | (go_at_call 53; refine (HA.out _ (belAlloc (bel1 w _) _)).mono ?_; rintro e w1 ⟨rfl, hb1⟩; have k1 : w1.cell? ⟨w.heap.size, 12, none⟩ = some (.slice a.mA a.mks.size a.mC) := (hb1.cell (p := ⟨w.heap.size, 12, none⟩) (by simp; omega)).trans (by simp); have k2 : w1.cell? ⟨w.heap.size + 1, 12, none⟩ = some (.slice b.mA b.mks.size b.mC) := (hb1.cell (p := ⟨w.heap.size + 1, 12, none⟩) (by simp)).trans (by simp); have HB1 := Lib.hid (belStep (belAlloc (bel1 w _) _) hb1); clear hb1) | (go_at_call 54; refine (HM.out _ HB1.out).mono ?_; rintro e w2 ⟨rfl, hb2⟩; have HB2 := Lib.hid (belStep HB1.out hb2); clear hb2))
  all_goals go_ret
  all_goals first
    | exact ⟨ret_bool (by rw [HS.out]; symm; rw [decide_eq_true_iff]; exact ⟨by assumption, by assumption, by assumption, by assumption, by assumption, by assumption, by assumption, by assumption, by assumption, by assumption, by assumption⟩), HB2.out⟩
    | exact ⟨ret_bool (by rw [HS.out]; symm; rw [decide_eq_false_iff_not]; rintro ⟨h1, h2, h3, h4, h5, h6, h7, h8, h9, h10, h11⟩; first | exact absurd h1 (by assumption) | exact absurd h2 (by assumption) | exact absurd h3 (by assumption) | exact absurd h4 (by assumption) | exact absurd h5 (by assumption) | exact absurd h6 (by assumption) | exact absurd h7 (by assumption) | exact absurd h8 (by assumption) | exact absurd h9 (by assumption) | exact absurd h10 (by assumption) | exact absurd h11 (by assumption)), belAlloc (bel1 w _) _⟩
set_option maxRecDepth 100000 in
set_option maxHeartbeats 4000000 in
theorem Same_2 (a b : PM) (w : World) (ha : RdM w a) (hb : RdM w b) (hpay : a.pay = b.pay) (hats : a.ats = b.ats) (hmks : ¬ a.mks = b.mks) :
    Calls Tryz.prog 15 #[msgV a, msgV b] w fun e w' => e = .returned (.bool (sameM a b)) ∧ Below w.heap.size w w' := by
  have HA := Lib.hid (fun W (h : Below w.heap.size w W) => EqAtts_any a.aA b.aA a.aC b.aC a.ats b.ats _ _ W (ha.next h).ra (hb.next h).ra (by have := ha.sa; omega) (by have := hb.sa; omega))
  have HM := Lib.hid (fun W (h : Below w.heap.size w W) => EqInts_any a.mA b.mA a.mC b.mC a.mks b.mks _ _ W (ha.next h).rm (hb.next h).rm (by have := ha.sm; omega) (by have := hb.sm; omega))
  unfold msgV
  have hsn := @str_eq a.pay b.pay
  have hdpay : decide (a.pay = b.pay) = true := by simp [hpay]
  have hdats : decide (a.ats = b.ats) = true := by simp [hats]
  have hdmks : decide (a.mks = b.mks) = false := by simp [hmks]
  rw [hdpay] at hsn
  rw [hdats] at HA
  rw [hdmks] at HM
  have HS : Hid (sameM a b = false) := by show _ = _; unfold sameM; simp [hmks]
  rw [HS.out]
  clear hpay hdpay hats hdats hmks hdmks ha hb
  go_enter Tryz.func15, Tryz.ntmps15
  go_wp2_with (first | (go_at_call 53; refine (HA.out _ (belAlloc (bel1 w _) _)).mono ?_; rintro e w1 ⟨rfl, hb1⟩; have k1 : w1.cell? ⟨w.heap.size, 12, none⟩ = some (.slice a.mA a.mks.size a.mC) := (hb1.cell (p := ⟨w.heap.size, 12, none⟩) (by simp; omega)).trans (by simp); have k2 : w1.cell? ⟨w.heap.size + 1, 12, none⟩ = some (.slice b.mA b.mks.size b.mC) := (hb1.cell (p := ⟨w.heap.size + 1, 12, none⟩) (by simp)).trans (by simp); have HB1 := Lib.hid (belStep (belAlloc (bel1 w _) _) hb1); clear hb1) | (go_at_call 54; refine (HM.out _ HB1.out).mono ?_; rintro e w2 ⟨rfl, hb2⟩; have HB2 := Lib.hid (belStep HB1.out hb2); clear hb2))
  all_goals go_ret
  all_goals first
    | exact ⟨rfl, HB2.out⟩
    | exact ⟨rfl, belAlloc (bel1 w _) _⟩
set_option maxRecDepth 100000 in
set_option maxHeartbeats 4000000 in
theorem Same_3 (a b : PM) (w : World) (ha : RdM w a) (hb : RdM w b) (hpay : a.pay = b.pay) (hats : ¬ a.ats = b.ats) :
    Calls Tryz.prog 15 #[msgV a, msgV b] w fun e w' => e = .returned (.bool (sameM a b)) ∧ Below w.heap.size w w' := by
  have HA := Lib.hid (fun W (h : Below w.heap.size w W) => EqAtts_any a.aA b.aA a.aC b.aC a.ats b.ats _ _ W (ha.next h).ra (hb.next h).ra (by have := ha.sa; omega) (by have := hb.sa; omega))
  have HM := Lib.hid (fun W (h : Below w.heap.size w W) => EqInts_any a.mA b.mA a.mC b.mC a.mks b.mks _ _ W (ha.next h).rm (hb.next h).rm (by have := ha.sm; omega) (by have := hb.sm; omega))
  unfold msgV
  have hsn := @str_eq a.pay b.pay
  have hdpay : decide (a.pay = b.pay) = true := by simp [hpay]
  have hdats : decide (a.ats = b.ats) = false := by simp [hats]
  rw [hdpay] at hsn
  rw [hdats] at HA
  have HS : Hid (sameM a b = false) := by show _ = _; unfold sameM; simp [hats]
  rw [HS.out]
  clear hpay hdpay hats hdats ha hb HM
  go_enter Tryz.func15, Tryz.ntmps15
  go_wp2_with (go_at_call 53; refine (HA.out _ (belAlloc (bel1 w _) _)).mono ?_; rintro e w1 ⟨rfl, hb1⟩; have k1 : w1.cell? ⟨w.heap.size, 12, none⟩ = some (.slice a.mA a.mks.size a.mC) := (hb1.cell (p := ⟨w.heap.size, 12, none⟩) (by simp; omega)).trans (by simp); have k2 : w1.cell? ⟨w.heap.size + 1, 12, none⟩ = some (.slice b.mA b.mks.size b.mC) := (hb1.cell (p := ⟨w.heap.size + 1, 12, none⟩) (by simp)).trans (by simp); have HB1 := Lib.hid (belStep (belAlloc (bel1 w _) _) hb1); clear hb1)
  all_goals go_ret
  all_goals first
    | exact ⟨rfl, HB1.out⟩
    | exact ⟨rfl, belAlloc (bel1 w _) _⟩
set_option maxRecDepth 100000 in
set_option maxHeartbeats 4000000 in
theorem Same_4 (a b : PM) (w : World) (hpay : ¬ a.pay = b.pay) :
    Calls Tryz.prog 15 #[msgV a, msgV b] w fun e w' => e = .returned (.bool (sameM a b)) ∧ Below w.heap.size w w' := by
  unfold msgV
  have hsn := @str_eq a.pay b.pay
  have hdpay : decide (a.pay = b.pay) = false := by simp [hpay]
  rw [hdpay] at hsn
  have HS : Hid (sameM a b = false) := by show _ = _; unfold sameM; simp [hpay]
  rw [HS.out]
  clear hpay hdpay
  go_enter Tryz.func15, Tryz.ntmps15
  go_wp2
  all_goals go_ret
  all_goals exact ⟨rfl, belAlloc (bel1 w _) _⟩
theorem Same_any (a b : PM) (w : World) (ha : RdM w a) (hb : RdM w b) :
    Calls Tryz.prog 15 #[msgV a, msgV b] w fun e w' => e = .returned (.bool (sameM a b)) ∧ Below w.heap.size w w' := by
  by_cases hp : a.pay = b.pay
  · by_cases hat : a.ats = b.ats
    · by_cases hmk : a.mks = b.mks
      · exact Same_1 a b w ha hb hp hat hmk
      · exact Same_2 a b w ha hb hp hat hmk
    · exact Same_3 a b w ha hb hp hat
  · exact Same_4 a b w hp
set_option maxRecDepth 100000 in
set_option maxHeartbeats 4000000 in
theorem rSame_1 (a b : PM) (w : World) (ha : RdM w a) (hb : RdM w b) (hpay : a.pay = b.pay) (hats : a.ats = b.ats) (hmks : a.mks = b.mks) :
    Calls Tryz.prog 16 #[msgV a, msgV b] w fun e w' => e = .returned (.bool (sameM a b)) ∧ Below w.heap.size w w' := by
  have HA := Lib.hid (fun W (h : Below w.heap.size w W) => SameAtts_any a.aA b.aA a.aC b.aC a.ats b.ats _ _ W (ha.next h).ra (hb.next h).ra (by have := ha.sa; omega) (by have := hb.sa; omega))
  have HM := Lib.hid (fun W (h : Below w.heap.size w W) => SameInts_any a.mA b.mA a.mC b.mC a.mks b.mks _ _ W (ha.next h).rm (hb.next h).rm (by have := ha.sm; omega) (by have := hb.sm; omega))
  unfold msgV
  have hsn := @str_eq a.pay b.pay
  have hdpay : decide (a.pay = b.pay) = true := by simp [hpay]
  have hdats : decide (a.ats = b.ats) = true := by simp [hats]
  have hdmks : decide (a.mks = b.mks) = true := by simp [hmks]
  rw [hdpay] at hsn
  rw [hdats] at HA
  rw [hdmks] at HM
  have HS : Hid (sameM a b = decide (a.k = b.k ∧ a.fr = b.fr ∧ a.id = b.id ∧ a.t = b.t ∧ a.bal = b.bal ∧ a.abal = b.abal ∧ a.ph = b.ph ∧ a.q = b.q ∧ a.lo = b.lo ∧ a.hi = b.hi ∧ a.dn = b.dn)) := by show _ = _; unfold sameM; simp [hpay, hats, hmks]
  clear hpay hdpay hats hdats hmks hdmks ha hb
  go_enter Tryz.func16, Tryz.ntmps16
  simp only [List.append_eq, List.cons_append, List.nil_append]
  go_wp2_with (first | (go_at_call 55; refine (HA.out _ (belAlloc (bel1 w _) _)).mono ?_; rintro e w1 ⟨rfl, hb1⟩; have k1 : w1.cell? ⟨w.heap.size, 12, none⟩ = some (.slice a.mA a.mks.size a.mC) := (hb1.cell (p := ⟨w.heap.size, 12, none⟩) (by simp; omega)).trans (by simp); have k2 : w1.cell? ⟨w.heap.size + 1, 12, none⟩ = some (.slice b.mA b.mks.size b.mC) := (hb1.cell (p := ⟨w.heap.size + 1, 12, none⟩) (by simp)).trans (by simp); have HB1 := Lib.hid (belStep (belAlloc (bel1 w _) _) hb1); clear hb1) | (go_at_call 56; refine (HM.out _ HB1.out).mono ?_; rintro e w2 ⟨rfl, hb2⟩; have HB2 := Lib.hid (belStep HB1.out hb2); clear hb2))
  all_goals go_ret
  all_goals first
    | exact ⟨ret_bool (by rw [HS.out]; symm; rw [decide_eq_true_iff]; exact ⟨by assumption, by assumption, by assumption, by assumption, by assumption, by assumption, by assumption, by assumption, by assumption, by assumption, by assumption⟩), HB2.out⟩
    | exact ⟨ret_bool (by rw [HS.out]; symm; rw [decide_eq_false_iff_not]; rintro ⟨h1, h2, h3, h4, h5, h6, h7, h8, h9, h10, h11⟩; first | exact absurd h1 (by assumption) | exact absurd h2 (by assumption) | exact absurd h3 (by assumption) | exact absurd h4 (by assumption) | exact absurd h5 (by assumption) | exact absurd h6 (by assumption) | exact absurd h7 (by assumption) | exact absurd h8 (by assumption) | exact absurd h9 (by assumption) | exact absurd h10 (by assumption) | exact absurd h11 (by assumption)), belAlloc (bel1 w _) _⟩
set_option maxRecDepth 100000 in
set_option maxHeartbeats 4000000 in
theorem rSame_2 (a b : PM) (w : World) (ha : RdM w a) (hb : RdM w b) (hpay : a.pay = b.pay) (hats : a.ats = b.ats) (hmks : ¬ a.mks = b.mks) :
    Calls Tryz.prog 16 #[msgV a, msgV b] w fun e w' => e = .returned (.bool (sameM a b)) ∧ Below w.heap.size w w' := by
  have HA := Lib.hid (fun W (h : Below w.heap.size w W) => SameAtts_any a.aA b.aA a.aC b.aC a.ats b.ats _ _ W (ha.next h).ra (hb.next h).ra (by have := ha.sa; omega) (by have := hb.sa; omega))
  have HM := Lib.hid (fun W (h : Below w.heap.size w W) => SameInts_any a.mA b.mA a.mC b.mC a.mks b.mks _ _ W (ha.next h).rm (hb.next h).rm (by have := ha.sm; omega) (by have := hb.sm; omega))
  unfold msgV
  have hsn := @str_eq a.pay b.pay
  have hdpay : decide (a.pay = b.pay) = true := by simp [hpay]
  have hdats : decide (a.ats = b.ats) = true := by simp [hats]
  have hdmks : decide (a.mks = b.mks) = false := by simp [hmks]
  rw [hdpay] at hsn
  rw [hdats] at HA
  rw [hdmks] at HM
  have HS : Hid (sameM a b = false) := by show _ = _; unfold sameM; simp [hmks]
  rw [HS.out]
  clear hpay hdpay hats hdats hmks hdmks ha hb
  go_enter Tryz.func16, Tryz.ntmps16
  simp only [List.append_eq, List.cons_append, List.nil_append]
  go_wp2_with (first | (go_at_call 55; refine (HA.out _ (belAlloc (bel1 w _) _)).mono ?_; rintro e w1 ⟨rfl, hb1⟩; have k1 : w1.cell? ⟨w.heap.size, 12, none⟩ = some (.slice a.mA a.mks.size a.mC) := (hb1.cell (p := ⟨w.heap.size, 12, none⟩) (by simp; omega)).trans (by simp); have k2 : w1.cell? ⟨w.heap.size + 1, 12, none⟩ = some (.slice b.mA b.mks.size b.mC) := (hb1.cell (p := ⟨w.heap.size + 1, 12, none⟩) (by simp)).trans (by simp); have HB1 := Lib.hid (belStep (belAlloc (bel1 w _) _) hb1); clear hb1) | (go_at_call 56; refine (HM.out _ HB1.out).mono ?_; rintro e w2 ⟨rfl, hb2⟩; have HB2 := Lib.hid (belStep HB1.out hb2); clear hb2))
  all_goals go_ret
  all_goals first
    | exact ⟨rfl, HB2.out⟩
    | exact ⟨rfl, belAlloc (bel1 w _) _⟩
set_option maxRecDepth 100000 in
set_option maxHeartbeats 4000000 in
theorem rSame_3 (a b : PM) (w : World) (ha : RdM w a) (hb : RdM w b) (hpay : a.pay = b.pay) (hats : ¬ a.ats = b.ats) :
    Calls Tryz.prog 16 #[msgV a, msgV b] w fun e w' => e = .returned (.bool (sameM a b)) ∧ Below w.heap.size w w' := by
  have HA := Lib.hid (fun W (h : Below w.heap.size w W) => SameAtts_any a.aA b.aA a.aC b.aC a.ats b.ats _ _ W (ha.next h).ra (hb.next h).ra (by have := ha.sa; omega) (by have := hb.sa; omega))
  have HM := Lib.hid (fun W (h : Below w.heap.size w W) => SameInts_any a.mA b.mA a.mC b.mC a.mks b.mks _ _ W (ha.next h).rm (hb.next h).rm (by have := ha.sm; omega) (by have := hb.sm; omega))
  unfold msgV
  have hsn := @str_eq a.pay b.pay
  have hdpay : decide (a.pay = b.pay) = true := by simp [hpay]
  have hdats : decide (a.ats = b.ats) = false := by simp [hats]
  rw [hdpay] at hsn
  rw [hdats] at HA
  have HS : Hid (sameM a b = false) := by show _ = _; unfold sameM; simp [hats]
  rw [HS.out]
  clear hpay hdpay hats hdats ha hb HM
  go_enter Tryz.func16, Tryz.ntmps16
  simp only [List.append_eq, List.cons_append, List.nil_append]
  go_wp2_with (go_at_call 55; refine (HA.out _ (belAlloc (bel1 w _) _)).mono ?_; rintro e w1 ⟨rfl, hb1⟩; have k1 : w1.cell? ⟨w.heap.size, 12, none⟩ = some (.slice a.mA a.mks.size a.mC) := (hb1.cell (p := ⟨w.heap.size, 12, none⟩) (by simp; omega)).trans (by simp); have k2 : w1.cell? ⟨w.heap.size + 1, 12, none⟩ = some (.slice b.mA b.mks.size b.mC) := (hb1.cell (p := ⟨w.heap.size + 1, 12, none⟩) (by simp)).trans (by simp); have HB1 := Lib.hid (belStep (belAlloc (bel1 w _) _) hb1); clear hb1)
  all_goals go_ret
  all_goals first
    | exact ⟨rfl, HB1.out⟩
    | exact ⟨rfl, belAlloc (bel1 w _) _⟩
set_option maxRecDepth 100000 in
set_option maxHeartbeats 4000000 in
theorem rSame_4 (a b : PM) (w : World) (hpay : ¬ a.pay = b.pay) :
    Calls Tryz.prog 16 #[msgV a, msgV b] w fun e w' => e = .returned (.bool (sameM a b)) ∧ Below w.heap.size w w' := by
  unfold msgV
  have hsn := @str_eq a.pay b.pay
  have hdpay : decide (a.pay = b.pay) = false := by simp [hpay]
  rw [hdpay] at hsn
  have HS : Hid (sameM a b = false) := by show _ = _; unfold sameM; simp [hpay]
  rw [HS.out]
  clear hpay hdpay
  go_enter Tryz.func16, Tryz.ntmps16
  simp only [List.append_eq, List.cons_append, List.nil_append]
  go_wp2
  all_goals go_ret
  all_goals exact ⟨rfl, belAlloc (bel1 w _) _⟩
theorem rSame_any (a b : PM) (w : World) (ha : RdM w a) (hb : RdM w b) :
    Calls Tryz.prog 16 #[msgV a, msgV b] w fun e w' => e = .returned (.bool (sameM a b)) ∧ Below w.heap.size w w' := by
  by_cases hp : a.pay = b.pay
  · by_cases hat : a.ats = b.ats
    · by_cases hmk : a.mks = b.mks
      · exact rSame_1 a b w ha hb hp hat hmk
      · exact rSame_2 a b w ha hb hp hat hmk
    · exact rSame_3 a b w ha hb hp hat
  · exact rSame_4 a b w hp
end Go.Proofs.YtlpplnmmcgdooaaGreatDoor
