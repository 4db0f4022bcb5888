/- Contracts of the document's side of the layer 'stable': Check, many, Of, Least. -/
import Derived.Test.YtpnjodefnpphkaaStableA
namespace Go.Proofs.Ytpnjodefnpphkaa
open Go.RowKit Go.Sort Go.Lib

theorem any_bad_no {d : Array Int} (h : ∀ j, j < d.size → badMark d[j]! = false) : d.toList.any badMark = false := by
  rw [List.any_eq_false]
  intro x hx
  obtain ⟨j, hj, rfl⟩ := List.mem_iff_getElem.1 hx
  have := h j (by simpa using hj)
  rw [getElem!_pos d j (by simpa using hj)] at this
  simpa using this
theorem any_bad_yes {d : Array Int} {j : Nat} (hj : j < d.size) (h : badMark d[j]! = true) : d.toList.any badMark = true := by
  rw [List.any_eq_true]
  refine ⟨d[j]!, ?_, h⟩
  rw [getElem!_pos d j hj]
  simp
set_option maxHeartbeats 1000000 in
theorem rCheck_any (A : Option Addr) (c : Nat) (d : Array Int) (n : Int) (B : Nat) (w : World) (h : RdI B w A d) (hd : d.size ≤ 100000000) :
    Calls Try.prog 13 #[.slice A d.size c, .int .i64 n] w fun e w' => e = .returned (.int .i64 (marksE d n)) ∧ w = w' := by
  by_cases h1 : mostN n = 0
  · have HM : Hid (marksE d n = 2) := by show _ = _; unfold marksE; rw [if_pos (Or.inl h1)]
    go_enter Try.func13, Try.ntmps13
    go_wp2_with (go_at_call 46; refine (rMost_any _ _).mono ?_; rintro e w' ⟨rfl, rfl⟩)
    go_ret
    exact ⟨ret_int HM.out.symm, rfl⟩
  by_cases h2 : (d.size : Int) ≠ n
  · have HM : Hid (marksE d n = 2) := by show _ = _; unfold marksE; rw [if_pos (Or.inr (Or.inl h2))]
    have b1 : (mostN n == 0) = false := by simpa using h1
    have b2 : ((d.size : Int) != n) = true := by simpa using h2
    clear h1 h2
    go_enter Try.func13, Try.ntmps13
    go_wp2_with (go_at_call 46; refine (rMost_any _ _).mono ?_; rintro e w' ⟨rfl, rfl⟩)
    go_ret
    exact ⟨ret_int HM.out.symm, rfl⟩
  obtain rfl : (d.size : Int) = n := by omega
  have b1 : (mostN (d.size : Int) == 0) = false := by simpa using h1
  have HM1 : Hid ((∀ j, j < d.size → badMark d[j]! = false) → marksE d d.size = 0) := fun hj => by
    unfold marksE; rw [if_neg]; simp [h1, any_bad_no hj]
  have HM2 : Hid (∀ j, j < d.size → badMark d[j]! = true → marksE d d.size = 2) := fun j hj hb => by
    unfold marksE; rw [if_pos]; exact Or.inr (Or.inr (any_bad_yes hj hb))
  clear h1 h2
  go_enter Try.func13, Try.ntmps13
  go_wp2_with (go_at_call 46; refine (rMost_any _ _).mono ?_; rintro e w' ⟨rfl, rfl⟩)
  go_loop [5] (fun i => ∃ k : Nat, k ≤ d.size ∧ i = .int .i64 k ∧ ∀ j, j < k → badMark d[j]! = false) (fun i => d.size - (intOf i).toNat)
  case atStart => exact ⟨0, Nat.zero_le _, rfl, fun j hj => absurd hj (by omega)⟩
  case round =>
    obtain ⟨k, hk, rfl, hj⟩ := hrel
    have HJ := Lib.hid hj; clear hj
    by_cases hlt : k < d.size
    · obtain ⟨b, off, rfl, _, hc⟩ := h.at_ hlt
      generalize hx : d[k]! = x at hc
      have HX := Lib.hid hx; clear hx
      by_cases hb : x < 0 ∨ 1000000 < x
      · have HB : Hid (badMark x = true) := by show _ = _; unfold badMark; simpa using hb
        by_cases hx0 : x < 0
        · go_wp2
          go_ret
          exact ⟨ret_int (HM2.out k hlt (by rw [HX.out]; exact HB.out)).symm, rfl⟩
        · have hx1 : 1000000 < x := by omega
          have hx2 : 0 ≤ x := by omega
          clear hb hx0
          go_wp2
          go_ret
          exact ⟨ret_int (HM2.out k hlt (by rw [HX.out]; exact HB.out)).symm, rfl⟩
      · have HB : Hid (badMark x = false) := by show _ = _; unfold badMark; simpa using hb
        have hx1 : decide (1000000 < x) = false := by simp; omega
        have hx2 : decide (x < 0) = false := by simp; omega
        clear hb
        go_wp2
        go_round
        case rel => exact ⟨k + 1, by omega, by go_num, fun j hj => by
          rcases Nat.lt_or_ge j k with h | h
          · exact HJ.out j h
          · obtain rfl : j = k := by omega
            rw [HX.out]; exact HB.out⟩
        case measure => simp [intOf]; omega
    · go_wp2
      go_ret
      exact ⟨ret_int (HM1.out fun j hj => HJ.out j (by omega)).symm, rfl⟩

/-- How many of the first k marks are at least t? -/
def manyN (d : Array Int) (t : Int) : Nat → Nat
  | 0 => 0
  | k + 1 => manyN d t k + if t ≤ d[k]! then 1 else 0
theorem manyN_le (d : Array Int) (t : Int) (k : Nat) : manyN d t k ≤ k := by
  induction k with
  | zero => simp [manyN]
  | succ k ih => unfold manyN; split <;> omega
set_option maxHeartbeats 1000000 in
theorem rmany_any (A : Option Addr) (c : Nat) (d : Array Int) (t : Int) (B : Nat) (w : World) (h : RdI B w A d) (hd : d.size ≤ 100000000) :
    Calls Try.prog 51 #[.slice A d.size c, .int .i64 t] w fun e w' => e = .returned (.int .i64 (manyN d t d.size)) ∧ w = w' := by
  go_enter Try.func51, Try.ntmps51
  go_wp2
  go_loop [5, 6] (fun n i => ∃ k : Nat, k ≤ d.size ∧ i = .int .i64 k ∧ n = .int .i64 (manyN d t k)) (fun _ i => d.size - (intOf i).toNat)
  case atStart => exact ⟨0, Nat.zero_le _, rfl, rfl⟩
  case round =>
    obtain ⟨k, hk, rfl, rfl⟩ := hrel
    by_cases hlt : k < d.size
    · obtain ⟨b, off, rfl, _, hc⟩ := h.at_ hlt
      have hm := manyN_le d t k
      have HS : Hid (manyN d t (k + 1) = manyN d t k + if t ≤ d[k]! then 1 else 0) := rfl
      generalize d[k]! = x at hc HS
      generalize manyN d t k = m at hm HS
      by_cases hx : t ≤ x
      · go_wp2
        go_round
        case rel => exact ⟨k + 1, by omega, by go_num, by rw [HS.out, if_pos hx]; go_num⟩
        case measure => simp [intOf]; omega
      · have hx' : x < t := by omega
        go_wp2
        go_round
        case rel => exact ⟨k + 1, by omega, by go_num, by rw [HS.out, if_neg hx]; go_num⟩
        case measure => simp [intOf]; omega
    · obtain rfl : k = d.size := by omega
      go_wp2
      go_ret
      exact ⟨rfl, rfl⟩

/-- The greatest of the first k marks that at least m marks reach. -/
def bestN (d : Array Int) (m : Int) : Nat → Int
  | 0 => 0
  | k + 1 => if bestN d m k < d[k]! ∧ m ≤ manyN d d[k]! d.size then d[k]! else bestN d m k
def ofR (d : Array Int) (n : Int) : Int := if marksE d n = 0 then bestN d (mostN n) d.size else 0
set_option maxHeartbeats 2000000 in
theorem rOf_any (A : Option Addr) (c : Nat) (d : Array Int) (n : Int) (B : Nat) (w : World) (h : RdI B w A d) (hd : d.size ≤ 100000000) :
    Calls Try.prog 15 #[.slice A d.size c, .int .i64 n] w fun e w' => e = .returned (.int .i64 (ofR d n)) ∧ w = w' := by
  by_cases hm : marksE d n = 0
  · have HO : Hid (ofR d n = bestN d (mostN n) d.size) := by show _ = _; unfold ofR; rw [if_pos hm]
    go_enter Try.func15, Try.ntmps15
    go_wp2
    go_loop [5, 6] (fun v i => ∃ k : Nat, k ≤ d.size ∧ i = .int .i64 k ∧ v = .int .i64 (bestN d (mostN n) k)) (fun _ i => d.size - (intOf i).toNat)
    case atStart => exact ⟨0, Nat.zero_le _, rfl, rfl⟩
    case round =>
      obtain ⟨k, hk, rfl, rfl⟩ := hrel
      by_cases hlt : k < d.size
      · have hr := h
        obtain ⟨b, off, rfl, _, hc⟩ := h.at_ hlt
        have HS : Hid (bestN d (mostN n) (k + 1) = if bestN d (mostN n) k < d[k]! ∧ mostN n ≤ manyN d d[k]! d.size then d[k]! else bestN d (mostN n) k) := rfl
        have HR := Lib.hid hr; clear hr
        generalize d[k]! = x at hc HS
        generalize bestN d (mostN n) k = y at HS
        by_cases hx : y < x
        · by_cases hy : mostN n ≤ manyN d x d.size
          · go_wp2_with (first | (go_at_call 13; refine (rCheck_any _ _ d _ B _ HR.out hd).mono ?_; rintro e w' ⟨rfl, rfl⟩) | (go_at_call 51; refine (rmany_any _ _ d _ B _ HR.out hd).mono ?_; rintro e w' ⟨rfl, rfl⟩) | (go_at_call 46; refine (rMost_any _ _).mono ?_; rintro e w' ⟨rfl, rfl⟩))
            go_round
            case rel => exact ⟨k + 1, by omega, by go_num, by rw [HS.out, if_pos ⟨hx, hy⟩]⟩
            case measure => simp [intOf]; omega
          · have hy' : decide (mostN n ≤ (manyN d x d.size : Int)) = false := by simpa using hy
            go_wp2_with (first | (go_at_call 13; refine (rCheck_any _ _ d _ B _ HR.out hd).mono ?_; rintro e w' ⟨rfl, rfl⟩) | (go_at_call 51; refine (rmany_any _ _ d _ B _ HR.out hd).mono ?_; rintro e w' ⟨rfl, rfl⟩) | (go_at_call 46; refine (rMost_any _ _).mono ?_; rintro e w' ⟨rfl, rfl⟩))
            go_round
            case rel => exact ⟨k + 1, by omega, by go_num, by rw [HS.out, if_neg (by omega)]⟩
            case measure => simp [intOf]; omega
        · have hx' : x ≤ y := by omega
          go_wp2_with (first | (go_at_call 13; refine (rCheck_any _ _ d _ B _ HR.out hd).mono ?_; rintro e w' ⟨rfl, rfl⟩) | (go_at_call 51; refine (rmany_any _ _ d _ B _ HR.out hd).mono ?_; rintro e w' ⟨rfl, rfl⟩) | (go_at_call 46; refine (rMost_any _ _).mono ?_; rintro e w' ⟨rfl, rfl⟩))
          go_round
          case rel => exact ⟨k + 1, by omega, by go_num, by rw [HS.out, if_neg (by omega)]⟩
          case measure => simp [intOf]; omega
      · obtain rfl : k = d.size := by omega
        go_wp2
        go_ret
        exact ⟨ret_int HO.out.symm, rfl⟩
  · have HO : Hid (ofR d n = 0) := by show _ = _; unfold ofR; rw [if_neg hm]
    have hb : (marksE d n == 0) = false := by simpa using hm
    clear hm
    rcases Nat.eq_zero_or_pos d.size with h0 | h0
    · have hz : decide ((0 : Int) < (d.size : Int)) = false := by simp [h0]
      have hz2 : d.size ≤ 0 := by omega
      clear h0
      go_enter Try.func15, Try.ntmps15
      go_wp2
      refine wp_loop_rounds 1 ?_; rw [rounds_succ]
      go_wp2
      go_ret
      exact ⟨ret_int HO.out.symm, rfl⟩
    · have hz : (0 : Int) < (d.size : Int) := by omega
      go_enter Try.func15, Try.ntmps15
      go_wp2
      refine wp_loop_rounds 1 ?_; rw [rounds_succ]
      go_wp2_with (go_at_call 13; refine (rCheck_any _ _ d _ B _ h hd).mono ?_; rintro e w' ⟨rfl, rfl⟩)
      go_ret
      exact ⟨ret_int HO.out.symm, rfl⟩
end Go.Proofs.Ytpnjodefnpphkaa
