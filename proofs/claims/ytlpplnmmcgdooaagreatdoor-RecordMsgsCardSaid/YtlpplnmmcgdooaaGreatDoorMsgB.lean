/- What may be in a message: numbers, times, ballots, sets, what a rescue tells, times that are attached. What may be in a message: promises. -/
import Derived.Test.YtlpplnmmcgdooaaGreatDoorMsgS
import Derived.Test.YtlpplnmmcgdooaaGreatDoorRowA
namespace Go.Proofs.YtlpplnmmcgdooaaGreatDoor
open Go.RowKit Go.Sort Go.Lib

/-- How many of the first k bits are set? -/
def pcN (x : Nat) : Nat → Nat
  | 0 => 0
  | k + 1 => pcN x k + if x.testBit k then 1 else 0
def F1 (x : Int) : Int := IntKind.u64.wrap (bits .and .u64 (x / 2) 6148914691236517205 + bits .and .u64 x 6148914691236517205)
def F2 (y : Int) : Int := IntKind.u64.wrap (bits .and .u64 (y / 4) 3689348814741910323 + bits .and .u64 y 3689348814741910323)
def F3 (y : Int) : Int := bits .and .u64 (y / 16 + y) 1085102592571150095
def F4 (y : Int) : Int := bits .and .i64 (y + y / 256 + (y + y / 256) / 65536 + (y + y / 256 + (y + y / 256) / 65536) / 4294967296) 127
theorem pc_all : ∀ x : Fin 512, 0 ≤ F1 (x.1 : Int) ∧ F1 (x.1 : Int) ≤ 5000 ∧ 0 ≤ F2 (F1 (x.1 : Int)) ∧ F2 (F1 (x.1 : Int)) ≤ 5000 ∧ 0 ≤ F3 (F2 (F1 (x.1 : Int))) ∧ F3 (F2 (F1 (x.1 : Int))) ≤ 5000 ∧ F4 (F3 (F2 (F1 (x.1 : Int)))) = (pcN x.1 9 : Int) := by decide +kernel
set_option maxHeartbeats 1000000 in
theorem Ones64_any (x : Nat) (w : World) (h1 : x ≤ 511) :
    Calls Tryz.prog 124 #[.int .u64 x] w fun e w' => e = .returned (.int .i64 (pcN x 9)) ∧ w = w' := by
  obtain ⟨a1, b1, a2, b2, a3, b3, hp⟩ := pc_all ⟨x, by omega⟩
  have HP : Hid (F4 (F3 (F2 (F1 (x : Int)))) = (pcN x 9 : Int)) := hp
  simp only [] at a1 b1 a2 b2 a3 b3
  have e1 : IntKind.u64.wrap (bits .and .u64 ((x : Int) / 2) 6148914691236517205 + bits .and .u64 (x : Int) 6148914691236517205) = F1 (x : Int) := rfl
  generalize F1 (x : Int) = y1 at *
  have e2 : IntKind.u64.wrap (bits .and .u64 (y1 / 4) 3689348814741910323 + bits .and .u64 y1 3689348814741910323) = F2 y1 := rfl
  generalize F2 y1 = y2 at *
  have e3 : bits .and .u64 (y2 / 16 + y2) 1085102592571150095 = F3 y2 := rfl
  generalize F3 y2 = y3 at *
  have x0 : (0 : Int) ≤ x := by omega
  clear hp
  go_enter Tryz.func124, Tryz.ntmps124
  go_wp2
  go_ret
  exact ⟨ret_int (by rw [← HP.out]; rfl), rfl⟩
theorem Ones_any (x : Nat) (w : World) (h1 : x ≤ 511) :
    Calls Tryz.prog 119 #[.int .u64 x] w fun e w' => e = .returned (.int .i64 (pcN x 9)) ∧ w = w' := by
  go_enter Tryz.func119, Tryz.ntmps119
  go_wp2_with (go_at_call 124; refine (Ones64_any _ _ h1).mono ?_; rintro e w' ⟨rfl, rfl⟩)
  go_ret
  exact ⟨rfl, rfl⟩
theorem may_any (s : Int) (w : World) :
    Calls Tryz.prog 118 #[.int .i64 s] w fun e w' => e = .returned (.bool (decide (0 ≤ s ∧ s ≤ 511))) ∧ w = w' := by
  go_enter Tryz.func118, Tryz.ntmps118
  go_wp2
  all_goals
    go_ret
    exact ⟨ret_bool (by simp <;> omega), rfl⟩
theorem Count_any (x : Nat) (w : World) (h1 : x ≤ 511) :
    Calls Tryz.prog 112 #[.int .i64 x] w fun e w' => e = .returned (.int .i64 (pcN x 9)) ∧ w = w' := by
  have hm := may_any (x : Int)
  rw [show decide (0 ≤ (x : Int) ∧ (x : Int) ≤ 511) = true by simp; omega] at hm
  have HM := Lib.hid hm; clear hm
  go_enter Tryz.func112, Tryz.ntmps112
  go_wp2_with (first | (go_at_call 118; refine (HM.out _).mono ?_; rintro e w' ⟨rfl, rfl⟩) | (go_at_call 119; refine (Ones_any _ _ h1).mono ?_; rintro e w' ⟨rfl, rfl⟩))
  go_ret
  exact ⟨rfl, rfl⟩
theorem pc_pos : ∀ x : Fin 512, 0 < x.1 → 0 < pcN x.1 9 := by decide +kernel
def okTime (t : Int) : Bool := decide (1 ≤ t ∧ t ≤ 1000000)
def okMark (t : Int) : Bool := decide (0 ≤ t ∧ t ≤ 1000000)
def okId (id : Int) : Bool := decide (10 ≤ id ∧ id ≤ 999999 ∧ id % 10 ≠ 0)
theorem time_any (t : Int) (w : World) :
    Calls Tryz.prog 89 #[.int .i64 t] w fun e w' => e = .returned (.bool (okTime t)) ∧ w = w' := by
  go_enter Tryz.func89, Tryz.ntmps89
  go_wp2
  all_goals
    go_ret
    exact ⟨ret_bool (by unfold okTime; simp <;> omega), rfl⟩
theorem mark_any (t : Int) (w : World) :
    Calls Tryz.prog 108 #[.int .i64 t] w fun e w' => e = .returned (.bool (okMark t)) ∧ w = w' := by
  go_enter Tryz.func108, Tryz.ntmps108
  go_wp2
  all_goals
    go_ret
    exact ⟨ret_bool (by unfold okMark; simp <;> omega), rfl⟩
theorem ballot_any (t : Int) (w : World) :
    Calls Tryz.prog 91 #[.int .i64 t] w fun e w' => e = .returned (.bool (okTime t)) ∧ w = w' := by
  go_enter Tryz.func91, Tryz.ntmps91
  go_wp2
  all_goals
    go_ret
    exact ⟨ret_bool (by unfold okTime; simp <;> omega), rfl⟩
def idE (id : Int) : Int := if okId id then 0 else 31
set_option maxHeartbeats 400000 in
theorem idCheck_any (id : Int) (w : World) :
    Calls Tryz.prog 88 #[.int .i64 id] w fun e w' => e = .returned (.int .i64 (idE id)) ∧ w = w' := by
  go_enter Tryz.func88, Tryz.ntmps88
  go_wp2
  all_goals
    go_ret
    exact ⟨ret_int (by unfold idE okId; split <;> simp_all <;> omega), rfl⟩
theorem idE_ne (id : Int) : (idE id != 0) = !okId id := by unfold idE; cases okId id <;> rfl
def carB (m : PM) : Bool := decide (1 ≤ m.q ∧ m.q ≤ 511 ∧ m.pay.size ≤ 300)
set_option maxRecDepth 100000 in
set_option maxHeartbeats 1000000 in
theorem carried_any (m : PM) (w : World) (hp : m.pay.size ≤ 1000000) :
    Calls Tryz.prog 90 #[msgV m] w fun e w' => e = .returned (.bool (carB m)) ∧ Below w.heap.size w w' := by
  unfold msgV
  by_cases h0 : 0 < m.q
  · by_cases h1 : m.q ≤ 511
    · obtain ⟨x, hx⟩ : ∃ x : Nat, m.q = (x : Int) := ⟨m.q.toNat, by omega⟩
      have hc := pc_pos ⟨x, by omega⟩ (by simp; omega)
      simp only at hc
      have HC := Lib.hid (fun W => Count_any x W (by omega))
      generalize pcN x 9 = c at hc HC
      have hcz : (0 : Int) < (c : Int) := by omega
      have HB : Hid (carB m = decide (m.pay.size ≤ 300)) := decide_eq_decide.2 ⟨fun h => h.2.2, fun h => ⟨by omega, by omega, h⟩⟩
      have hx0 : (0 : Int) < (x : Int) := by omega
      rw [hx]
      clear hx h0 h1 hc
      go_enter Tryz.func90, Tryz.ntmps90
      go_wp2_with (go_at_call 112; refine (HC.out _).mono ?_; rintro e w' ⟨rfl, rfl⟩)
      all_goals
        go_ret
        exact ⟨ret_bool (by rw [HB.out]; simp <;> omega), bel1 w _⟩
    · have HM : Hid (∀ W, Calls Tryz.prog 112 #[.int .i64 m.q] W fun e w' => e = .returned (.int .i64 0) ∧ W = w') := by
        intro W
        have hm := may_any m.q W
        rw [show decide (0 ≤ m.q ∧ m.q ≤ 511) = false by simp; omega] at hm
        have HM := Lib.hid hm; clear hm
        go_enter Tryz.func112, Tryz.ntmps112
        go_wp2_with (go_at_call 118; refine HM.out.mono ?_; rintro e w' ⟨rfl, rfl⟩)
        go_ret
        exact ⟨rfl, rfl⟩
      have HB : Hid (carB m = false) := by show _ = _; unfold carB; simp; omega
      rw [HB.out]
      go_enter Tryz.func90, Tryz.ntmps90
      go_wp2_with (go_at_call 112; refine (HM.out _).mono ?_; rintro e w' ⟨rfl, rfl⟩)
      go_ret
      exact ⟨rfl, bel1 w _⟩
  · have HB : Hid (carB m = false) := by show _ = _; unfold carB; simp; omega
    rw [HB.out]
    have h0' : decide ((0 : Int) < m.q) = false := by simp; omega
    go_enter Tryz.func90, Tryz.ntmps90
    go_wp2
    go_ret
    exact ⟨rfl, bel1 w _⟩
theorem beqI (a b : Int) : (a == b) = decide (a = b) := by by_cases h : a = b <;> simp [h]
def tolB (m : PM) : Bool := decide (0 ≤ m.abal ∧ m.abal < m.bal ∧ 1 ≤ m.t ∧ m.t ≤ 1000000 ∧ 1 ≤ m.ph ∧ m.ph ≤ 4 ∧ (0 < m.abal ∨ 3 ≤ m.ph))
set_option maxRecDepth 100000 in
set_option maxHeartbeats 1000000 in
theorem told_any (m : PM) (w : World) :
    Calls Tryz.prog 92 #[msgV m] w fun e w' => e = .returned (.bool (tolB m)) ∧ Below w.heap.size w w' := by
  unfold msgV
  have HT := Lib.hid (fun W => time_any m.t W)
  cases ht : okTime m.t
  · rw [ht] at HT
    have HB : Hid (tolB m = false) := by show _ = _; unfold tolB; unfold okTime at ht; simp at ht ⊢; omega
    rw [HB.out]
    clear ht
    go_enter Tryz.func92, Tryz.ntmps92
    go_wp2_with (go_at_call 89; refine (HT.out _).mono ?_; rintro e w' ⟨rfl, rfl⟩)
    all_goals
      go_ret
      exact ⟨rfl, bel1 w _⟩
  · rw [ht] at HT
    have hk : 1 ≤ m.t ∧ m.t ≤ 1000000 := by unfold okTime at ht; simpa using ht
    have HK := Lib.hid hk
    clear ht hk
    have e0 : ∃ f, Hid (f = decide (m.abal = 0)) ∧ (m.abal == 0) = f := ⟨_, Lib.hid rfl, beqI _ _⟩
    have e3 : ∃ f, Hid (f = decide (m.ph = 3)) ∧ (m.ph == 3) = f := ⟨_, Lib.hid rfl, beqI _ _⟩
    have e4 : ∃ f, Hid (f = decide (m.ph = 4)) ∧ (m.ph == 4) = f := ⟨_, Lib.hid rfl, beqI _ _⟩
    obtain ⟨f0, H0, b0⟩ := e0
    obtain ⟨f3, H3, b3⟩ := e3
    obtain ⟨f4, H4, b4⟩ := e4
    cases f0 <;> cases f3 <;> cases f4
    all_goals
      go_enter Tryz.func92, Tryz.ntmps92
      go_wp2_with (go_at_call 89; refine (HT.out _).mono ?_; rintro e w' ⟨rfl, rfl⟩)
    all_goals
      go_ret
      exact ⟨ret_bool (by
        have h1 := HK.out
        have h2 := H0.out
        have h3 := H3.out
        have h4 := H4.out
        simp at h2 h3 h4
        unfold tolB
        first
        | (symm; rw [decide_eq_true_iff]; omega)
        | (symm; rw [decide_eq_false_iff_not]; omega)
        | (rw [decide_eq_decide]; omega)), bel1 w _⟩
end Go.Proofs.YtlpplnmmcgdooaaGreatDoor
namespace Go.Proofs.YtlpplnmmcgdooaaGreatDoor
open Go.RowKit Go.Sort Go.Lib

/-- Times that are attached rise, and are commands'. -/
def attL (hi : Int) : Int → List (Int × Int) → Bool
  | _, [] => true
  | lo, a :: l => decide (lo < a.1 ∧ a.1 ≤ hi) && okId a.2 && attL hi a.1 l
theorem drop_arr {α : Type} [Inhabited α] (d : Array α) (k : Nat) (h : k < d.size) : d.toList.drop k = d[k]! :: d.toList.drop (k + 1) := by
  rw [List.drop_eq_getElem_cons (by simpa using h), getElem!_pos d k h]; rfl
/-- msg.attached, at a round's head. -/
def AttR (lo hi : Int) (d : Array (Int × Int)) (w : World) (lv iv : Value) (wr : World) : Prop := ∃ (k : Nat) (last : Int), iv = .int .i64 (k : Int) ∧ lv = .int .i64 last ∧ k ≤ d.size ∧ attL hi lo d.toList = attL hi last (d.toList.drop k) ∧ Below w.heap.size w wr
set_option maxRecDepth 100000 in
set_option maxHeartbeats 1000000 in
theorem attached_any (A : Option Addr) (c : Nat) (d : Array (Int × Int)) (lo hi : Int) (w : World) (h : RdK encA 2 w.heap.size w A d) (hs : d.size ≤ 1000000) :
    Calls Tryz.prog 110 #[.slice A d.size c, .int .i64 lo, .int .i64 hi] w fun e w' => e = .returned (.bool (attL hi lo d.toList && decide (d.size ≤ 200))) ∧ Below w.heap.size w w' := by
  have HR := Lib.hid h
  clear h
  go_enter Tryz.func110, Tryz.ntmps110
  go_wp2
  go_loopw [7, 13] (fun lv iv wr => AttR lo hi d w lv iv wr) (fun _ i _ => d.size - (intOf i).toNat)
  case atStart => exact ⟨0, lo, rfl, rfl, Nat.zero_le _, rfl, Below.refl _ _⟩
  case round =>
    obtain ⟨k, last, rfl, rfl, hk, hat, hB⟩ := hrel
    have HAT := Lib.hid hat
    have HB := Lib.hid hB
    clear hat hB
    by_cases hlt : k < d.size
    · have kz : (k : Int) < (d.size : Int) := by omega
      obtain ⟨b, off, rfl, hbl, f⟩ := (HR.out.below HB.out).at_ hlt
      have e0 := f 0 (by omega)
      have e1 := f 1 (by omega)
      have HD := Lib.hid (drop_arr d k hlt)
      generalize d[k]! = x at e0 e1 HD
      simp only [Nat.add_zero, encA, List.getElem!_cons_zero, List.getElem!_cons_succ] at e0 e1
      clear f
      have HI := Lib.hid (fun W => idCheck_any x.2 W)
      have hne := idE_ne x.2
      cases hid : okId x.2
      · rw [hid] at hne
        have HF : Hid (attL hi lo d.toList = false) := by show _ = _; rw [HAT.out, HD.out]; simp [attL, hid]
        clear hid
        go_wp2_with (go_at_call 88; refine (HI.out _).mono ?_; rintro e w' ⟨rfl, rfl⟩)
        all_goals
          go_ret
          exact ⟨ret_bool (by rw [HF.out]; rfl), belAlloc HB.out _⟩
      · rw [hid] at hne
        by_cases hr : last < x.1 ∧ x.1 ≤ hi
        · have h1 : decide (x.1 ≤ last) = false := by simp; omega
          have h2 : decide (hi < x.1) = false := by simp; omega
          have HN : Hid (attL hi lo d.toList = attL hi x.1 (d.toList.drop (k + 1))) := by show _ = _; rw [HAT.out, HD.out]; simp [attL, hid, hr]
          clear hid hr
          go_wp2_with (go_at_call 88; refine (HI.out _).mono ?_; rintro e w' ⟨rfl, rfl⟩)
          go_roundw
          case rel => exact ⟨k + 1, x.1, by go_num, rfl, by omega, HN.out, belAlloc HB.out _⟩
          case measure => simp [intOf]; omega
        · have HF : Hid (attL hi lo d.toList = false) := by show _ = _; rw [HAT.out, HD.out]; simp [attL]; intro h1 h2; omega
          clear hid
          by_cases h1 : x.1 ≤ last
          · clear hr
            go_wp2
            go_ret
            exact ⟨ret_bool (by rw [HF.out]; rfl), belAlloc HB.out _⟩
          · have h2 : hi < x.1 := by omega
            have h1' : decide (x.1 ≤ last) = false := by simp; omega
            clear hr h1
            go_wp2
            go_ret
            exact ⟨ret_bool (by rw [HF.out]; rfl), belAlloc HB.out _⟩
    · have hlt' : decide ((k : Int) < (d.size : Int)) = false := by simp; omega
      have HE : Hid (attL hi lo d.toList = true) := by
        show _ = _
        rw [HAT.out, List.drop_of_length_le (by simp; omega)]; rfl
      go_wp2
      go_ret
      exact ⟨ret_bool (by rw [HE.out, Bool.true_and]; simp <;> omega), HB.out⟩
/-- promises' closure: is a number no mark? -/
theorem none_any (t : Int) (w : World) :
    Calls Tryz.prog 109 #[.int .i64 t] w fun e w' => e = .returned (.bool (!okMark t)) ∧ w = w' := by
  have HM := Lib.hid (fun W => mark_any t W)
  go_enter Tryz.func109, Tryz.ntmps109
  go_wp2_with (go_at_call 108; refine (HM.out _).mono ?_; rintro e w' ⟨rfl, rfl⟩)
  go_ret
  exact ⟨rfl, rfl⟩
/-- Are all marks times, or 0? -/
def mksB (d : Array Int) : Bool := decide (∀ j, j < d.size → okMark d[j]! = true)
def IdxR (d : Array Int) (e : Ending) : Prop := ∃ r : Int, e = .returned (.int .i64 r) ∧ ((0 ≤ r ∧ mksB d = false) ∨ (r = -1 ∧ mksB d = true))
set_option maxRecDepth 100000 in
set_option maxHeartbeats 1000000 in
theorem IndexFunc_any (A : Option Addr) (c : Nat) (d : Array Int) (w : World) (h : RdI w.heap.size w A d) (hs : d.size ≤ 1000000) :
    Calls Tryz.prog 117 #[.slice A d.size c, .func (.func 109) #[] #[]] w fun e w' => IdxR d e ∧ w = w' := by
  have HR := Lib.hid h
  clear h
  go_enter Tryz.func117, Tryz.ntmps117
  go_wp2
  go_loop [8] (fun i => ∃ k : Nat, i = .int .i64 k ∧ k ≤ d.size ∧ Hid (∀ j, j < k → okMark d[j]! = true)) (fun i => d.size - (intOf i).toNat)
  case atStart => exact ⟨0, rfl, Nat.zero_le _, Lib.hid (fun j hj => absurd hj (by omega))⟩
  case round =>
    obtain ⟨k, rfl, hk, hall⟩ := hrel
    by_cases hlt : k < d.size
    · have kz : (k : Int) < (d.size : Int) := by omega
      obtain ⟨b, off, rfl, hbl, hc⟩ := HR.out.at_ hlt
      obtain ⟨x, hx⟩ : ∃ x, d[k]! = x := ⟨_, rfl⟩
      rw [hx] at hc
      have HX := Lib.hid hx
      have HN := Lib.hid (fun W => none_any x W)
      clear hx
      cases hm : okMark x
      · rw [hm] at HN
        have HF : Hid (mksB d = false) := by
          show _ = _
          unfold mksB
          rw [decide_eq_false_iff_not]
          intro hh
          have := hh k hlt
          rw [HX.out, hm] at this
          cases this
        clear hm
        go_wp2_with (go_at_call 109; refine (HN.out _).mono ?_; rintro e w' ⟨rfl, rfl⟩)
        go_ret
        exact ⟨⟨k, rfl, Or.inl ⟨by omega, HF.out⟩⟩, rfl⟩
      · rw [hm] at HN
        have HM := Lib.hid hm
        clear hm
        go_wp2_with (go_at_call 109; refine (HN.out _).mono ?_; rintro e w' ⟨rfl, rfl⟩)
        go_round
        case rel =>
          refine ⟨k + 1, by go_num, by omega, Lib.hid (fun j hj => ?_)⟩
          rcases Nat.lt_or_ge j k with h | h
          · exact hall.out j h
          · obtain rfl : j = k := by omega
            rw [HX.out]; exact HM.out
        case measure => simp [intOf]; omega
    · have hlt' : decide ((k : Int) < (d.size : Int)) = false := by simp; omega
      go_wp2
      go_ret
      exact ⟨⟨-1, rfl, Or.inr ⟨rfl, by unfold mksB; rw [decide_eq_true_iff]; exact fun j hj => hall.out j (by omega)⟩⟩, rfl⟩
theorem ContainsFunc_any (A : Option Addr) (c : Nat) (d : Array Int) (w : World) (h : RdI w.heap.size w A d) (hs : d.size ≤ 1000000) :
    Calls Tryz.prog 111 #[.slice A d.size c, .func (.func 109) #[] #[]] w fun e w' => e = .returned (.bool (!mksB d)) ∧ w = w' := by
  have HI := Lib.hid (IndexFunc_any A c d w h hs)
  clear h
  go_enter Tryz.func111, Tryz.ntmps111
  go_wp2_with fail
  refine HI.out.mono ?_
  rintro e w' ⟨⟨r, rfl, hr⟩, rfl⟩
  have HRR := Lib.hid hr
  clear hr
  go_wp2
  go_ret
  refine ⟨ret_bool ?_, rfl⟩
  rcases HRR.out with ⟨h1, h2⟩ | ⟨h1, h2⟩
  · rw [h2]; simp; omega
  · rw [h2]; simp; omega
/-- May promises be? -/
def proB (m : PM) : Bool := decide (0 ≤ m.lo ∧ m.lo ≤ 1000000 ∧ 0 ≤ m.hi ∧ m.hi ≤ 1000000 ∧ m.lo ≤ m.hi ∧ 0 ≤ m.dn ∧ m.dn ≤ 1000000 ∧ m.mks.size ≤ 9) && (attL m.hi m.lo m.ats.toList && decide (m.ats.size ≤ 200)) && mksB m.mks
set_option maxRecDepth 100000 in
set_option maxHeartbeats 2000000 in
theorem promises_any (m : PM) (w : World) (hm : RdM w m) :
    Calls Tryz.prog 87 #[msgV m] w fun e w' => e = .returned (.bool (proB m)) ∧ Below w.heap.size w w' := by
  have HK := Lib.hid (fun t W => mark_any t W)
  have HA := Lib.hid (fun W (h : Below w.heap.size w W) => attached_any m.aA m.aC m.ats m.lo m.hi W (hm.next h).ra hm.sa)
  have HC := Lib.hid (fun W (h : Below w.heap.size w W) => ContainsFunc_any m.mA m.mC m.mks W (hm.next h).rm hm.sm)
  unfold msgV
  by_cases hb : 0 ≤ m.lo ∧ m.lo ≤ 1000000 ∧ 0 ≤ m.hi ∧ m.hi ≤ 1000000 ∧ m.lo ≤ m.hi ∧ 0 ≤ m.dn ∧ m.dn ≤ 1000000 ∧ m.mks.size ≤ 9
  · have HP : Hid (proB m = ((attL m.hi m.lo m.ats.toList && decide (m.ats.size ≤ 200)) && mksB m.mks)) := by show _ = _; unfold proB; rw [decide_eq_true_iff.2 hb]; simp
    obtain ⟨b1, b2, b3, b4, b5, b6, b7, b8⟩ := hb
    have k1 : okMark m.lo = true := by unfold okMark; simp; omega
    have k2 : okMark m.hi = true := by unfold okMark; simp; omega
    have k3 : okMark m.dn = true := by unfold okMark; simp; omega
    have h8 : (m.mks.size : Int) ≤ 9 := by omega
    have h5 : decide (m.hi < m.lo) = false := by simp; omega
    generalize (attL m.hi m.lo m.ats.toList && decide (m.ats.size ≤ 200)) = fa at HA HP
    generalize mksB m.mks = fc at HC HP
    cases fa
    · go_enter Tryz.func87, Tryz.ntmps87
      go_wp2_with (first | (go_at_call 108; refine (HK.out _ _).mono ?_; rintro e w' ⟨rfl, rfl⟩) | (go_at_call 110; refine (HA.out _ (bel1 w _)).mono ?_; rintro e w1 ⟨rfl, hb1⟩; have HB1 := Lib.hid (belStep (bel1 w _) hb1); clear hb1))
      go_ret
      exact ⟨ret_bool (by rw [HP.out]; rfl), HB1.out⟩
    · go_enter Tryz.func87, Tryz.ntmps87
      go_wp2_with (first | (go_at_call 108; refine (HK.out _ _).mono ?_; rintro e w' ⟨rfl, rfl⟩) | (go_at_call 110; refine (HA.out _ (bel1 w _)).mono ?_; rintro e w1 ⟨rfl, hb1⟩; have q1 : w1.cell? ⟨w.heap.size, 12, none⟩ = some (.slice m.mA m.mks.size m.mC) := (hb1.cell (p := ⟨w.heap.size, 12, none⟩) (by simp)).trans (by simp); have HB1 := Lib.hid (belStep (bel1 w _) hb1); clear hb1) | (go_at_call 111; refine (HC.out _ HB1.out).mono ?_; rintro e w2 ⟨rfl, rfl⟩))
      go_ret
      exact ⟨ret_bool (by rw [HP.out]; simp), HB1.out⟩
  · have HP : Hid (proB m = false) := by show _ = _; unfold proB; rw [decide_eq_false_iff_not.2 hb]; simp
    clear HA HC
    cases k1 : okMark m.lo
    · clear hb
      go_enter Tryz.func87, Tryz.ntmps87
      go_wp2_with (go_at_call 108; refine (HK.out _ _).mono ?_; rintro e w' ⟨rfl, rfl⟩)
      go_ret
      exact ⟨ret_bool HP.out.symm, bel1 w _⟩
    · cases k2 : okMark m.hi
      · clear hb
        go_enter Tryz.func87, Tryz.ntmps87
        go_wp2_with (go_at_call 108; refine (HK.out _ _).mono ?_; rintro e w' ⟨rfl, rfl⟩)
        go_ret
        exact ⟨ret_bool HP.out.symm, bel1 w _⟩
      · by_cases h5 : m.hi < m.lo
        · clear hb
          go_enter Tryz.func87, Tryz.ntmps87
          go_wp2_with (go_at_call 108; refine (HK.out _ _).mono ?_; rintro e w' ⟨rfl, rfl⟩)
          go_ret
          exact ⟨ret_bool HP.out.symm, bel1 w _⟩
        · have h5' : decide (m.hi < m.lo) = false := by simp; omega
          cases k3 : okMark m.dn
          · clear hb h5
            go_enter Tryz.func87, Tryz.ntmps87
            go_wp2_with (go_at_call 108; refine (HK.out _ _).mono ?_; rintro e w' ⟨rfl, rfl⟩)
            go_ret
            exact ⟨ret_bool HP.out.symm, bel1 w _⟩
          · have h9 : 9 < m.mks.size := by
              have g1 := k1
              have g2 := k2
              have g3 := k3
              unfold okMark at g1 g2 g3
              simp at g1 g2 g3
              omega
            have h9' : (9 : Int) < (m.mks.size : Int) := by omega
            clear hb h5 h9
            go_enter Tryz.func87, Tryz.ntmps87
            go_wp2_with (go_at_call 108; refine (HK.out _ _).mono ?_; rintro e w' ⟨rfl, rfl⟩)
            go_ret
            exact ⟨ret_bool HP.out.symm, bel1 w _⟩
end Go.Proofs.YtlpplnmmcgdooaaGreatDoor
