/- What may be in a message: numbers, times, ballots, sets, what a rescue tells, times that are attached. -/
import Derived.Test.YtlpplnmmcgdooaaGreatDoorMsgS
namespace Go.Proofs.YtlpplnmmcgdooaaGreatDoor
open Go.RowKit Go.Sort Go.Lib

/-- How many of the first k bits are set? -/
def pcN (x : Nat) : Nat → Nat
  | 0 => 0
  | k + 1 => pcN x k + if x.testBit k then 1 else 0
def F1 (x : Int) : Int := IntKind.u64.wrap (bits .and .u64 (x / 2) 6148914691236517205 + bits .and .u64 x 6148914691236517205)
def F2 (y : Int) : Int := IntKind.u64.wrap (bits .and .u64 (y / 4) 3689348814741910323 + bits .and .u64 y 3689348814741910323)
def F3 (y : Int) : Int := bits .and .u64 (y / 16 + y) 1085102592571150095
def F4 (y : Int) : Int := bits .and .i64 (y + y / 256 + (y + y / 256) / 65536 + (y + y / 256 + (y + y / 256) / 65536) / 4294967296) 127
theorem pc_all : ∀ x : Fin 512, 0 ≤ F1 (x.1 : Int) ∧ F1 (x.1 : Int) ≤ 5000 ∧ 0 ≤ F2 (F1 (x.1 : Int)) ∧ F2 (F1 (x.1 : Int)) ≤ 5000 ∧ 0 ≤ F3 (F2 (F1 (x.1 : Int))) ∧ F3 (F2 (F1 (x.1 : Int))) ≤ 5000 ∧ F4 (F3 (F2 (F1 (x.1 : Int)))) = (pcN x.1 9 : Int) := by decide +kernel
set_option maxHeartbeats 1000000 in
theorem Ones64_any (x : Nat) (w : World) (h1 : x ≤ 511) :
    Calls Tryz.prog 124 #[.int .u64 x] w fun e w' => e = .returned (.int .i64 (pcN x 9)) ∧ w = w' := by
  obtain ⟨a1, b1, a2, b2, a3, b3, hp⟩ := pc_all ⟨x, by omega⟩
  have HP : Hid (F4 (F3 (F2 (F1 (x : Int)))) = (pcN x 9 : Int)) := hp
  simp only [] at a1 b1 a2 b2 a3 b3
  have e1 : IntKind.u64.wrap (bits .and .u64 ((x : Int) / 2) 6148914691236517205 + bits .and .u64 (x : Int) 6148914691236517205) = F1 (x : Int) := rfl
  generalize F1 (x : Int) = y1 at *
  have e2 : IntKind.u64.wrap (bits .and .u64 (y1 / 4) 3689348814741910323 + bits .and .u64 y1 3689348814741910323) = F2 y1 := rfl
  generalize F2 y1 = y2 at *
  have e3 : bits .and .u64 (y2 / 16 + y2) 1085102592571150095 = F3 y2 := rfl
  generalize F3 y2 = y3 at *
  have x0 : (0 : Int) ≤ x := by omega
  clear hp
  go_enter Tryz.func124, Tryz.ntmps124
  go_wp2
  go_ret
  exact ⟨ret_int (by rw [← HP.out]; rfl), rfl⟩
theorem Ones_any (x : Nat) (w : World) (h1 : x ≤ 511) :
    Calls Tryz.prog 119 #[.int .u64 x] w fun e w' => e = .returned (.int .i64 (pcN x 9)) ∧ w = w' := by
  go_enter Tryz.func119, Tryz.ntmps119
  go_wp2_with (go_at_call 124; refine (Ones64_any _ _ h1).mono ?_; rintro e w' ⟨rfl, rfl⟩)
  go_ret
  exact ⟨rfl, rfl⟩
theorem may_any (s : Int) (w : World) :
    Calls Tryz.prog 118 #[.int .i64 s] w fun e w' => e = .returned (.bool (decide (0 ≤ s ∧ s ≤ 511))) ∧ w = w' := by
  go_enter Tryz.func118, Tryz.ntmps118
  go_wp2
  all_goals
    go_ret
    exact ⟨ret_bool (by simp <;> omega), rfl⟩
theorem Count_any (x : Nat) (w : World) (h1 : x ≤ 511) :
    Calls Tryz.prog 112 #[.int .i64 x] w fun e w' => e = .returned (.int .i64 (pcN x 9)) ∧ w = w' := by
  have hm := may_any (x : Int)
  rw [show decide (0 ≤ (x : Int) ∧ (x : Int) ≤ 511) = true by simp; omega] at hm
  have HM := Lib.hid hm; clear hm
  go_enter Tryz.func112, Tryz.ntmps112
  go_wp2_with (first | (go_at_call 118; refine (HM.out _).mono ?_; rintro e w' ⟨rfl, rfl⟩) | (go_at_call 119; refine (Ones_any _ _ h1).mono ?_; rintro e w' ⟨rfl, rfl⟩))
  go_ret
  exact ⟨rfl, rfl⟩
theorem pc_pos : ∀ x : Fin 512, 0 < x.1 → 0 < pcN x.1 9 := by decide +kernel
def okTime (t : Int) : Bool := decide (1 ≤ t ∧ t ≤ 1000000)
def okMark (t : Int) : Bool := decide (0 ≤ t ∧ t ≤ 1000000)
def okId (id : Int) : Bool := decide (10 ≤ id ∧ id ≤ 999999 ∧ id % 10 ≠ 0)
theorem time_any (t : Int) (w : World) :
    Calls Tryz.prog 89 #[.int .i64 t] w fun e w' => e = .returned (.bool (okTime t)) ∧ w = w' := by
  go_enter Tryz.func89, Tryz.ntmps89
  go_wp2
  all_goals
    go_ret
    exact ⟨ret_bool (by unfold okTime; simp <;> omega), rfl⟩
theorem mark_any (t : Int) (w : World) :
    Calls Tryz.prog 108 #[.int .i64 t] w fun e w' => e = .returned (.bool (okMark t)) ∧ w = w' := by
  go_enter Tryz.func108, Tryz.ntmps108
  go_wp2
  all_goals
    go_ret
    exact ⟨ret_bool (by unfold okMark; simp <;> omega), rfl⟩
theorem ballot_any (t : Int) (w : World) :
    Calls Tryz.prog 91 #[.int .i64 t] w fun e w' => e = .returned (.bool (okTime t)) ∧ w = w' := by
  go_enter Tryz.func91, Tryz.ntmps91
  go_wp2
  all_goals
    go_ret
    exact ⟨ret_bool (by unfold okTime; simp <;> omega), rfl⟩
def idE (id : Int) : Int := if okId id then 0 else 31
set_option maxHeartbeats 400000 in
theorem idCheck_any (id : Int) (w : World) :
    Calls Tryz.prog 88 #[.int .i64 id] w fun e w' => e = .returned (.int .i64 (idE id)) ∧ w = w' := by
  go_enter Tryz.func88, Tryz.ntmps88
  go_wp2
  all_goals
    go_ret
    exact ⟨ret_int (by unfold idE okId; split <;> simp_all <;> omega), rfl⟩
theorem idE_ne (id : Int) : (idE id != 0) = !okId id := by unfold idE; cases okId id <;> rfl
def carB (m : PM) : Bool := decide (1 ≤ m.q ∧ m.q ≤ 511 ∧ m.pay.size ≤ 300)
set_option maxRecDepth 100000 in
set_option maxHeartbeats 1000000 in
theorem carried_any (m : PM) (w : World) (hp : m.pay.size ≤ 1000000) :
    Calls Tryz.prog 90 #[msgV m] w fun e w' => e = .returned (.bool (carB m)) ∧ Below w.heap.size w w' := by
  unfold msgV
  by_cases h0 : 0 < m.q
  · by_cases h1 : m.q ≤ 511
    · obtain ⟨x, hx⟩ : ∃ x : Nat, m.q = (x : Int) := ⟨m.q.toNat, by omega⟩
      have hc := pc_pos ⟨x, by omega⟩ (by simp; omega)
      simp only at hc
      have HC := Lib.hid (fun W => Count_any x W (by omega))
      generalize pcN x 9 = c at hc HC
      have hcz : (0 : Int) < (c : Int) := by omega
      have HB : Hid (carB m = decide (m.pay.size ≤ 300)) := decide_eq_decide.2 ⟨fun h => h.2.2, fun h => ⟨by omega, by omega, h⟩⟩
      have hx0 : (0 : Int) < (x : Int) := by omega
      rw [hx]
      clear hx h0 h1 hc
      go_enter Tryz.func90, Tryz.ntmps90
      go_wp2_with (go_at_call 112; refine (HC.out _).mono ?_; rintro e w' ⟨rfl, rfl⟩)
      all_goals
        go_ret
        exact ⟨ret_bool (by rw [HB.out]; simp <;> omega), bel1 w _⟩
    · have HM : Hid (∀ W, Calls Tryz.prog 112 #[.int .i64 m.q] W fun e w' => e = .returned (.int .i64 0) ∧ W = w') := by
        intro W
        have hm := may_any m.q W
        rw [show decide (0 ≤ m.q ∧ m.q ≤ 511) = false by simp; omega] at hm
        have HM := Lib.hid hm; clear hm
        go_enter Tryz.func112, Tryz.ntmps112
        go_wp2_with (go_at_call 118; refine HM.out.mono ?_; rintro e w' ⟨rfl, rfl⟩)
        go_ret
        exact ⟨rfl, rfl⟩
      have HB : Hid (carB m = false) := by show _ = _; unfold carB; simp; omega
      rw [HB.out]
      go_enter Tryz.func90, Tryz.ntmps90
      go_wp2_with (go_at_call 112; refine (HM.out _).mono ?_; rintro e w' ⟨rfl, rfl⟩)
      go_ret
      exact ⟨rfl, bel1 w _⟩
  · have HB : Hid (carB m = false) := by show _ = _; unfold carB; simp; omega
    rw [HB.out]
    have h0' : decide ((0 : Int) < m.q) = false := by simp; omega
    go_enter Tryz.func90, Tryz.ntmps90
    go_wp2
    go_ret
    exact ⟨rfl, bel1 w _⟩
theorem beqI (a b : Int) : (a == b) = decide (a = b) := by by_cases h : a = b <;> simp [h]
def tolB (m : PM) : Bool := decide (0 ≤ m.abal ∧ m.abal < m.bal ∧ 1 ≤ m.t ∧ m.t ≤ 1000000 ∧ 1 ≤ m.ph ∧ m.ph ≤ 4 ∧ (0 < m.abal ∨ 3 ≤ m.ph))
set_option maxRecDepth 100000 in
set_option maxHeartbeats 1000000 in
theorem told_any (m : PM) (w : World) :
    Calls Tryz.prog 92 #[msgV m] w fun e w' => e = .returned (.bool (tolB m)) ∧ Below w.heap.size w w' := by
  unfold msgV
  have HT := Lib.hid (fun W => time_any m.t W)
  cases ht : okTime m.t
  · rw [ht] at HT
    have HB : Hid (tolB m = false) := by show _ = _; unfold tolB; unfold okTime at ht; simp at ht ⊢; omega
    rw [HB.out]
    clear ht
    go_enter Tryz.func92, Tryz.ntmps92
    go_wp2_with (go_at_call 89; refine (HT.out _).mono ?_; rintro e w' ⟨rfl, rfl⟩)
    all_goals
      go_ret
      exact ⟨rfl, bel1 w _⟩
  · rw [ht] at HT
    have hk : 1 ≤ m.t ∧ m.t ≤ 1000000 := by unfold okTime at ht; simpa using ht
    have HK := Lib.hid hk
    clear ht hk
    have e0 : ∃ f, Hid (f = decide (m.abal = 0)) ∧ (m.abal == 0) = f := ⟨_, Lib.hid rfl, beqI _ _⟩
    have e3 : ∃ f, Hid (f = decide (m.ph = 3)) ∧ (m.ph == 3) = f := ⟨_, Lib.hid rfl, beqI _ _⟩
    have e4 : ∃ f, Hid (f = decide (m.ph = 4)) ∧ (m.ph == 4) = f := ⟨_, Lib.hid rfl, beqI _ _⟩
    obtain ⟨f0, H0, b0⟩ := e0
    obtain ⟨f3, H3, b3⟩ := e3
    obtain ⟨f4, H4, b4⟩ := e4
    cases f0 <;> cases f3 <;> cases f4
    all_goals
      go_enter Tryz.func92, Tryz.ntmps92
      go_wp2_with (go_at_call 89; refine (HT.out _).mono ?_; rintro e w' ⟨rfl, rfl⟩)
    all_goals
      go_ret
      exact ⟨ret_bool (by
        have h1 := HK.out
        have h2 := H0.out
        have h3 := H3.out
        have h4 := H4.out
        simp at h2 h3 h4
        unfold tolB
        first
        | (symm; rw [decide_eq_true_iff]; omega)
        | (symm; rw [decide_eq_false_iff_not]; omega)
        | (rw [decide_eq_decide]; omega)), bel1 w _⟩
end Go.Proofs.YtlpplnmmcgdooaaGreatDoor
