/- What may be in a message: promises. -/
import Derived.Test.YtlpplnmmcgdooaaGreatDoorMsgB
import Derived.Test.YtlpplnmmcgdooaaGreatDoorRowB
namespace Go.Proofs.YtlpplnmmcgdooaaGreatDoor
open Go.RowKit Go.Sort Go.Lib

/-- Times that are attached rise, and are commands'. -/
def attL (hi : Int) : Int → List (Int × Int) → Bool
  | _, [] => true
  | lo, a :: l => decide (lo < a.1 ∧ a.1 ≤ hi) && okId a.2 && attL hi a.1 l
theorem drop_arr {α : Type} [Inhabited α] (d : Array α) (k : Nat) (h : k < d.size) : d.toList.drop k = d[k]! :: d.toList.drop (k + 1) := by
  rw [List.drop_eq_getElem_cons (by simpa using h), getElem!_pos d k h]; rfl
/-- msg.attached, at a round's head. -/
def AttR (lo hi : Int) (d : Array (Int × Int)) (w : World) (lv iv : Value) (wr : World) : Prop := ∃ (k : Nat) (last : Int), iv = .int .i64 (k : Int) ∧ lv = .int .i64 last ∧ k ≤ d.size ∧ attL hi lo d.toList = attL hi last (d.toList.drop k) ∧ Below w.heap.size w wr
set_option maxRecDepth 100000 in
set_option maxHeartbeats 1000000 in
theorem attached_any (A : Option Addr) (c : Nat) (d : Array (Int × Int)) (lo hi : Int) (w : World) (h : RdK encA 2 w.heap.size w A d) (hs : d.size ≤ 1000000) :
    Calls Tryz.prog 110 #[.slice A d.size c, .int .i64 lo, .int .i64 hi] w fun e w' => e = .returned (.bool (attL hi lo d.toList && decide (d.size ≤ 200))) ∧ Below w.heap.size w w' := by
  have HR := Lib.hid h
  clear h
  go_enter Tryz.func110, Tryz.ntmps110
  go_wp2
  go_loopw [7, 13] (fun lv iv wr => AttR lo hi d w lv iv wr) (fun _ i _ => d.size - (intOf i).toNat)
  case atStart => exact ⟨0, lo, rfl, rfl, Nat.zero_le _, rfl, Below.refl _ _⟩
  case round =>
    obtain ⟨k, last, rfl, rfl, hk, hat, hB⟩ := hrel
    have HAT := Lib.hid hat
    have HB := Lib.hid hB
    clear hat hB
    by_cases hlt : k < d.size
    · have kz : (k : Int) < (d.size : Int) := by omega
      obtain ⟨b, off, rfl, hbl, f⟩ := (HR.out.below HB.out).at_ hlt
      have e0 := f 0 (by omega)
      have e1 := f 1 (by omega)
      have HD := Lib.hid (drop_arr d k hlt)
      generalize d[k]! = x at e0 e1 HD
      simp only [Nat.add_zero, encA, List.getElem!_cons_zero, List.getElem!_cons_succ] at e0 e1
      clear f
      have HI := Lib.hid (fun W => idCheck_any x.2 W)
      have hne := idE_ne x.2
      cases hid : okId x.2
      · rw [hid] at hne
        have HF : Hid (attL hi lo d.toList = false) := by show _ = _; rw [HAT.out, HD.out]; simp [attL, hid]
        clear hid
        go_wp2_with (go_at_call 88; refine (HI.out _).mono ?_; rintro e w' ⟨rfl, rfl⟩)
        all_goals
          go_ret
          exact ⟨ret_bool (by rw [HF.out]; rfl), belAlloc HB.out _⟩
      · rw [hid] at hne
        by_cases hr : last < x.1 ∧ x.1 ≤ hi
        · have h1 : decide (x.1 ≤ last) = false := by simp; omega
          have h2 : decide (hi < x.1) = false := by simp; omega
          have HN : Hid (attL hi lo d.toList = attL hi x.1 (d.toList.drop (k + 1))) := by show _ = _; rw [HAT.out, HD.out]; simp [attL, hid, hr]
          clear hid hr
          go_wp2_with (go_at_call 88; refine (HI.out _).mono ?_; rintro e w' ⟨rfl, rfl⟩)
          go_roundw
          case rel => exact ⟨k + 1, x.1, by go_num, rfl, by omega, HN.out, belAlloc HB.out _⟩
          case measure => simp [intOf]; omega
        · have HF : Hid (attL hi lo d.toList = false) := by show _ = _; rw [HAT.out, HD.out]; simp [attL]; intro h1 h2; omega
          clear hid
          by_cases h1 : x.1 ≤ last
          · clear hr
            go_wp2
            go_ret
            exact ⟨ret_bool (by rw [HF.out]; rfl), belAlloc HB.out _⟩
          · have h2 : hi < x.1 := by omega
            have h1' : decide (x.1 ≤ last) = false := by simp; omega
            clear hr h1
            go_wp2
            go_ret
            exact ⟨ret_bool (by rw [HF.out]; rfl), belAlloc HB.out _⟩
    · have hlt' : decide ((k : Int) < (d.size : Int)) = false := by simp; omega
      have HE : Hid (attL hi lo d.toList = true) := by
        show _ = _
        rw [HAT.out, List.drop_of_length_le (by simp; omega)]; rfl
      go_wp2
      go_ret
      exact ⟨ret_bool (by rw [HE.out, Bool.true_and]; simp <;> omega), HB.out⟩
/-- promises' closure: is a number no mark? -/
theorem none_any (t : Int) (w : World) :
    Calls Tryz.prog 109 #[.int .i64 t] w fun e w' => e = .returned (.bool (!okMark t)) ∧ w = w' := by
  have HM := Lib.hid (fun W => mark_any t W)
  go_enter Tryz.func109, Tryz.ntmps109
  go_wp2_with (go_at_call 108; refine (HM.out _).mono ?_; rintro e w' ⟨rfl, rfl⟩)
  go_ret
  exact ⟨rfl, rfl⟩
/-- Are all marks times, or 0? -/
def mksB (d : Array Int) : Bool := decide (∀ j, j < d.size → okMark d[j]! = true)
def IdxR (d : Array Int) (e : Ending) : Prop := ∃ r : Int, e = .returned (.int .i64 r) ∧ ((0 ≤ r ∧ mksB d = false) ∨ (r = -1 ∧ mksB d = true))
set_option maxRecDepth 100000 in
set_option maxHeartbeats 1000000 in
theorem IndexFunc_any (A : Option Addr) (c : Nat) (d : Array Int) (w : World) (h : RdI w.heap.size w A d) (hs : d.size ≤ 1000000) :
    Calls Tryz.prog 117 #[.slice A d.size c, .func (.func 109) #[] #[]] w fun e w' => IdxR d e ∧ w = w' := by
  have HR := Lib.hid h
  clear h
  go_enter Tryz.func117, Tryz.ntmps117
  go_wp2
  go_loop [8] (fun i => ∃ k : Nat, i = .int .i64 k ∧ k ≤ d.size ∧ Hid (∀ j, j < k → okMark d[j]! = true)) (fun i => d.size - (intOf i).toNat)
  case atStart => exact ⟨0, rfl, Nat.zero_le _, Lib.hid (fun j hj => absurd hj (by omega))⟩
  case round =>
    obtain ⟨k, rfl, hk, hall⟩ := hrel
    by_cases hlt : k < d.size
    · have kz : (k : Int) < (d.size : Int) := by omega
      obtain ⟨b, off, rfl, hbl, hc⟩ := HR.out.at_ hlt
      obtain ⟨x, hx⟩ : ∃ x, d[k]! = x := ⟨_, rfl⟩
      rw [hx] at hc
      have HX := Lib.hid hx
      have HN := Lib.hid (fun W => none_any x W)
      clear hx
      cases hm : okMark x
      · rw [hm] at HN
        have HF : Hid (mksB d = false) := by
          show _ = _
          unfold mksB
          rw [decide_eq_false_iff_not]
          intro hh
          have := hh k hlt
          rw [HX.out, hm] at this
          cases this
        clear hm
        go_wp2_with (go_at_call 109; refine (HN.out _).mono ?_; rintro e w' ⟨rfl, rfl⟩)
        go_ret
        exact ⟨⟨k, rfl, Or.inl ⟨by omega, HF.out⟩⟩, rfl⟩
      · rw [hm] at HN
        have HM := Lib.hid hm
        clear hm
        go_wp2_with (go_at_call 109; refine (HN.out _).mono ?_; rintro e w' ⟨rfl, rfl⟩)
        go_round
        case rel =>
          refine ⟨k + 1, by go_num, by omega, Lib.hid (fun j hj => ?_)⟩
          rcases Nat.lt_or_ge j k with h | h
          · exact hall.out j h
          · obtain rfl : j = k := by omega
            rw [HX.out]; exact HM.out
        case measure => simp [intOf]; omega
    · have hlt' : decide ((k : Int) < (d.size : Int)) = false := by simp; omega
      go_wp2
      go_ret
      exact ⟨⟨-1, rfl, Or.inr ⟨rfl, by unfold mksB; rw [decide_eq_true_iff]; exact fun j hj => hall.out j (by omega)⟩⟩, rfl⟩
theorem ContainsFunc_any (A : Option Addr) (c : Nat) (d : Array Int) (w : World) (h : RdI w.heap.size w A d) (hs : d.size ≤ 1000000) :
    Calls Tryz.prog 111 #[.slice A d.size c, .func (.func 109) #[] #[]] w fun e w' => e = .returned (.bool (!mksB d)) ∧ w = w' := by
  have HI := Lib.hid (IndexFunc_any A c d w h hs)
  clear h
  go_enter Tryz.func111, Tryz.ntmps111
  go_wp2_with fail
  refine HI.out.mono ?_
  rintro e w' ⟨⟨r, rfl, hr⟩, rfl⟩
  have HRR := Lib.hid hr
  clear hr
  go_wp2
  go_ret
  refine ⟨ret_bool ?_, rfl⟩
  rcases HRR.out with ⟨h1, h2⟩ | ⟨h1, h2⟩
  · rw [h2]; simp; omega
  · rw [h2]; simp; omega
/-- May promises be? -/
def proB (m : PM) : Bool := decide (0 ≤ m.lo ∧ m.lo ≤ 1000000 ∧ 0 ≤ m.hi ∧ m.hi ≤ 1000000 ∧ m.lo ≤ m.hi ∧ 0 ≤ m.dn ∧ m.dn ≤ 1000000 ∧ m.mks.size ≤ 9) && (attL m.hi m.lo m.ats.toList && decide (m.ats.size ≤ 200)) && mksB m.mks
set_option maxRecDepth 100000 in
set_option maxHeartbeats 2000000 in
theorem promises_any (m : PM) (w : World) (hm : RdM w m) :
    Calls Tryz.prog 87 #[msgV m] w fun e w' => e = .returned (.bool (proB m)) ∧ Below w.heap.size w w' := by
  have HK := Lib.hid (fun t W => mark_any t W)
  have HA := Lib.hid (fun W (h : Below w.heap.size w W) => attached_any m.aA m.aC m.ats m.lo m.hi W (hm.next h).ra hm.sa)
  have HC := Lib.hid (fun W (h : Below w.heap.size w W) => ContainsFunc_any m.mA m.mC m.mks W (hm.next h).rm hm.sm)
  unfold msgV
  by_cases hb : 0 ≤ m.lo ∧ m.lo ≤ 1000000 ∧ 0 ≤ m.hi ∧ m.hi ≤ 1000000 ∧ m.lo ≤ m.hi ∧ 0 ≤ m.dn ∧ m.dn ≤ 1000000 ∧ m.mks.size ≤ 9
  · have HP : Hid (proB m = ((attL m.hi m.lo m.ats.toList && decide (m.ats.size ≤ 200)) && mksB m.mks)) := by show _ = _; unfold proB; rw [decide_eq_true_iff.2 hb]; simp
    obtain ⟨b1, b2, b3, b4, b5, b6, b7, b8⟩ := hb
    have k1 : okMark m.lo = true := by unfold okMark; simp; omega
    have k2 : okMark m.hi = true := by unfold okMark; simp; omega
    have k3 : okMark m.dn = true := by unfold okMark; simp; omega
    have h8 : (m.mks.size : Int) ≤ 9 := by omega
    have h5 : decide (m.hi < m.lo) = false := by simp; omega
    generalize (attL m.hi m.lo m.ats.toList && decide (m.ats.size ≤ 200)) = fa at HA HP
    generalize mksB m.mks = fc at HC HP
    cases fa
    · go_enter Tryz.func87, Tryz.ntmps87
      go_wp2_with (first | (go_at_call 108; refine (HK.out _ _).mono ?_; rintro e w' ⟨rfl, rfl⟩) | (go_at_call 110; refine (HA.out _ (bel1 w _)).mono ?_; rintro e w1 ⟨rfl, hb1⟩; have HB1 := Lib.hid (belStep (bel1 w _) hb1); clear hb1))
      go_ret
      exact ⟨ret_bool (by rw [HP.out]; rfl), HB1.out⟩
    · go_enter Tryz.func87, Tryz.ntmps87
      go_wp2_with (first | (go_at_call 108; refine (HK.out _ _).mono ?_; rintro e w' ⟨rfl, rfl⟩) | (go_at_call 110; refine (HA.out _ (bel1 w _)).mono ?_; rintro e w1 ⟨rfl, hb1⟩; have q1 : w1.cell? ⟨w.heap.size, 12, none⟩ = some (.slice m.mA m.mks.size m.mC) := (hb1.cell (p := ⟨w.heap.size, 12, none⟩) (by simp)).trans (by simp); have HB1 := Lib.hid (belStep (bel1 w _) hb1); clear hb1) | (go_at_call 111; refine (HC.out _ HB1.out).mono ?_; rintro e w2 ⟨rfl, rfl⟩))
      go_ret
      exact ⟨ret_bool (by rw [HP.out]; simp), HB1.out⟩
  · have HP : Hid (proB m = false) := by show _ = _; unfold proB; rw [decide_eq_false_iff_not.2 hb]; simp
    clear HA HC
    cases k1 : okMark m.lo
    · clear hb
      go_enter Tryz.func87, Tryz.ntmps87
      go_wp2_with (go_at_call 108; refine (HK.out _ _).mono ?_; rintro e w' ⟨rfl, rfl⟩)
      go_ret
      exact ⟨ret_bool HP.out.symm, bel1 w _⟩
    · cases k2 : okMark m.hi
      · clear hb
        go_enter Tryz.func87, Tryz.ntmps87
        go_wp2_with (go_at_call 108; refine (HK.out _ _).mono ?_; rintro e w' ⟨rfl, rfl⟩)
        go_ret
        exact ⟨ret_bool HP.out.symm, bel1 w _⟩
      · by_cases h5 : m.hi < m.lo
        · clear hb
          go_enter Tryz.func87, Tryz.ntmps87
          go_wp2_with (go_at_call 108; refine (HK.out _ _).mono ?_; rintro e w' ⟨rfl, rfl⟩)
          go_ret
          exact ⟨ret_bool HP.out.symm, bel1 w _⟩
        · have h5' : decide (m.hi < m.lo) = false := by simp; omega
          cases k3 : okMark m.dn
          · clear hb h5
            go_enter Tryz.func87, Tryz.ntmps87
            go_wp2_with (go_at_call 108; refine (HK.out _ _).mono ?_; rintro e w' ⟨rfl, rfl⟩)
            go_ret
            exact ⟨ret_bool HP.out.symm, bel1 w _⟩
          · have h9 : 9 < m.mks.size := by
              have g1 := k1
              have g2 := k2
              have g3 := k3
              unfold okMark at g1 g2 g3
              simp at g1 g2 g3
              omega
            have h9' : (9 : Int) < (m.mks.size : Int) := by omega
            clear hb h5 h9
            go_enter Tryz.func87, Tryz.ntmps87
            go_wp2_with (go_at_call 108; refine (HK.out _ _).mono ?_; rintro e w' ⟨rfl, rfl⟩)
            go_ret
            exact ⟨ret_bool HP.out.symm, bel1 w _⟩
end Go.Proofs.YtlpplnmmcgdooaaGreatDoor
