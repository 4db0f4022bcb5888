/- Lists of numbers held against each other; the least mark; whose marks are at least a time. -/
import Derived.Test.YtpnjodefnpphkaaStableA
namespace Go.Proofs.Ytpnjodefnpphkaa
open Go.RowKit Go.Sort Go.Lib

theorem arr_ext {α : Type} [Inhabited α] {d1 d2 : Array α} (hs : d1.size = d2.size) (h : ∀ j, j < d1.size → d1[j]! = d2[j]!) : d1 = d2 :=
  Array.ext hs fun t h1 h2 => by have := h t h1; rwa [getElem!_pos d1 t h1, getElem!_pos d2 t h2] at this
set_option maxHeartbeats 1000000 in
theorem SameInts_any (A1 A2 : Option Addr) (c1 c2 : Nat) (d1 d2 : Array Int) (B1 B2 : Nat) (w : World) (h1 : RdI B1 w A1 d1) (h2 : RdI B2 w A2 d2) (hm : d2.size ≤ 100000000) :
    Calls Try.prog 20 #[.slice A1 d1.size c1, .slice A2 d2.size c2] w fun e w' => e = .returned (.bool (decide (d1 = d2))) ∧ ∃ n, w' = w.drewN n := by
  by_cases hs : d1.size = d2.size
  · have hb : ((d1.size : Int) != (d2.size : Int)) = false := by simp [hs]
    have HS := Lib.hid hs
    have hge : d1.size ≤ d2.size := by omega
    clear hs
    go_enter Try.func20, Try.ntmps20
    go_wp2
    go_loopw [5] (fun i wr => ∃ k n : Nat, k ≤ d1.size ∧ i = .int .i64 k ∧ wr = w.drewN n ∧ ∀ j, j < k → d1[j]! = d2[j]!) (fun i _ => d1.size - (intOf i).toNat)
    case atStart => exact ⟨0, 0, Nat.zero_le _, rfl, rfl, fun j hj => absurd hj (by omega)⟩
    case round =>
      obtain ⟨k, n, hk, rfl, rfl, hj⟩ := hrel
      have HJ := Lib.hid hj; clear hj
      by_cases hlt : k < d1.size
      · obtain ⟨b1, o1, rfl, _, f1⟩ := h1.at_ hlt
        obtain ⟨b2, o2, rfl, _, f2⟩ := h2.at_ (i := k) (by omega)
        have HX : Hid (k < d1.size) := hlt
        generalize hx : d1[k]! = x at f1
        generalize hy : d2[k]! = y at f2
        have HXX := Lib.hid hx; clear hx
        have HYY := Lib.hid hy; clear hy
        have kz : (k : Int) < (d1.size : Int) := by omega
        have kz2 : (k : Int) < (d2.size : Int) := by omega
        by_cases hxy : x = y
        · subst hxy
          go_wp2
          go_quiet (fail)
          go_wp2
          go_roundw
          case rel => exact ⟨k + 1, _, by omega, by go_num, rfl, fun j hj => by
            rcases Nat.lt_or_ge j k with h | h
            · exact HJ.out j h
            · obtain rfl : j = k := by omega
              rw [HXX.out, HYY.out]⟩
          case measure => simp [intOf]; omega
        · have hd : (x != y) = true := by simp [hxy]
          have HXY := Lib.hid hxy; clear hxy
          go_wp2
          go_quiet (fail)
          go_wp2
          go_ret
          exact ⟨ret_bool (by symm; rw [decide_eq_false_iff_not]; rintro rfl; exact HXY.out (by rw [← HXX.out, ← HYY.out])), _, World.drewN_drewN _ _ _⟩
      · go_wp2
        go_ret
        exact ⟨ret_bool (by symm; rw [decide_eq_true_iff]; exact arr_ext HS.out fun j hj => HJ.out j (by omega)), n, rfl⟩
  · have hb : ((d1.size : Int) != (d2.size : Int)) = true := by simp; omega
    have HS := Lib.hid hs; clear hs
    go_enter Try.func20, Try.ntmps20
    go_wp2
    go_ret
    exact ⟨ret_bool (by symm; rw [decide_eq_false_iff_not]; rintro rfl; exact HS.out rfl), 0, rfl⟩

def leastN (d : Array Int) : Int := Lib.minOf d.toList
theorem Least_any (A : Option Addr) (c : Nat) (d : Array Int) (B : Nat) (w : World) (h : RdI B w A d) (hd : d.size ≤ 100000000) :
    Calls Try.prog 18 #[.slice A d.size c] w fun e w' => e = .returned (.int .i64 (leastN d)) ∧ w = w' := by
  rcases Nat.eq_zero_or_pos d.size with h0 | h0
  · have e0 : d = #[] := Array.eq_empty_of_size_eq_zero h0
    subst e0
    go_enter Try.func18, Try.ntmps18
    go_wp2
    go_ret
    exact ⟨rfl, rfl⟩
  · obtain ⟨b, off, rfl, _, hc⟩ := h h0
    have hM := Try.slices_Min_int b off d.size c d.toList w h0 (by simp) (by omega) (fun j hj => by rw [hc j (by simpa using hj), toList_getD])
    rw [show d.toList.take d.size = d.toList from List.take_of_length_le (by simp)] at hM
    have HM := Lib.hid hM; clear hM hc
    have hb : ((d.size : Int) == 0) = false := beq_eq_false_iff_ne.2 (by omega)
    have HL : Hid (Lib.minOf d.toList = leastN d) := rfl
    generalize Lib.minOf d.toList = v at HM HL
    go_enter Try.func18, Try.ntmps18
    go_wp2_with (go_at_call 54; refine HM.out.mono ?_; rintro e w' ⟨rfl, rfl⟩)
    go_ret
    exact ⟨ret_int HL.out, rfl⟩
set_option maxHeartbeats 1000000 in
theorem rLeast_any (A : Option Addr) (c : Nat) (d : Array Int) (B : Nat) (w : World) (h : RdI B w A d) (hd : d.size ≤ 100000000) :
    Calls Try.prog 19 #[.slice A d.size c] w fun e w' => e = .returned (.int .i64 (leastN d)) ∧ w = w' := by
  rcases Nat.eq_zero_or_pos d.size with h0 | h0
  · have e0 : d = #[] := Array.eq_empty_of_size_eq_zero h0
    subst e0
    go_enter Try.func19, Try.ntmps19
    go_wp2
    go_ret
    exact ⟨rfl, rfl⟩
  · have hb : ((d.size : Int) == 0) = false := beq_eq_false_iff_ne.2 (by omega)
    have hz : (0 : Int) < (d.size : Int) := by omega
    obtain ⟨b, off, rfl, _, hc⟩ := h h0
    have c0 := hc 0 h0
    rw [Nat.add_zero] at c0
    have HC := Lib.hid hc; clear hc
    have H1 : Hid (d[0]! = Lib.minOf (d.toList.take 1)) := by show _ = _; rw [minOf_one, toList_getD]
    generalize d[0]! = x0 at c0 H1
    go_enter Try.func19, Try.ntmps19
    go_wp2
    go_loop [3, 4] (fun v i => ∃ k : Nat, 1 ≤ k ∧ k ≤ d.size ∧ i = .int .i64 k ∧ v = .int .i64 (Lib.minOf (d.toList.take k))) (fun _ i => d.size - (intOf i).toNat)
    case atStart => exact ⟨1, Nat.le_refl _, h0, rfl, by rw [H1.out]⟩
    case round =>
      obtain ⟨k, hk1, hk, rfl, rfl⟩ := hrel
      by_cases hlt : k < d.size
      · have ck := HC.out k hlt
        have HS : Hid (Lib.minOf (d.toList.take (k + 1)) = min (Lib.minOf (d.toList.take k)) d[k]!) := by
          show _ = _; rw [minOf_step _ _ hk1 (by simpa using hlt), toList_getD]
        generalize d[k]! = x at ck HS
        generalize Lib.minOf (d.toList.take k) = m at HS
        by_cases hx : x < m
        · go_wp2
          go_round
          case rel => exact ⟨k + 1, by omega, by omega, by go_num, by rw [HS.out, Int.min_eq_right (by omega)]⟩
          case measure => simp [intOf]; omega
        · have hx' : m ≤ x := by omega
          go_wp2
          go_round
          case rel => exact ⟨k + 1, by omega, by omega, by go_num, by rw [HS.out, Int.min_eq_left (by omega)]⟩
          case measure => simp [intOf]; omega
      · obtain rfl : k = d.size := by omega
        go_wp2
        go_ret
        exact ⟨ret_int (by unfold leastN; rw [List.take_of_length_le (by simp)]), rfl⟩

/-- The set of those of the first k whose marks are at least t. -/
def whoN (d : Array Int) (t : Int) : Nat → Nat
  | 0 => 0
  | k + 1 => whoN d t k + if k < 9 ∧ t ≤ d[k]! then 2 ^ k else 0
theorem whoN_lt (d : Array Int) (t : Int) (k : Nat) : whoN d t k < 2 ^ k ∧ whoN d t k < 512 := by
  induction k with
  | zero => simp [whoN]
  | succ k ih =>
    unfold whoN
    have h2 : 2 ^ (k + 1) = 2 ^ k + 2 ^ k := by rw [Nat.pow_succ]; omega
    split
    · rename_i h
      have : 2 ^ k ≤ 2 ^ 8 := Nat.pow_le_pow_right (by decide) (by omega)
      have : (2 : Nat) ^ 8 = 256 := by decide
      refine ⟨by omega, ?_⟩
      have h3 : 2 ^ (k + 1) ≤ 2 ^ 9 := Nat.pow_le_pow_right (by decide) (by omega)
      have : (2 : Nat) ^ 9 = 512 := by decide
      omega
    · omega
theorem nat_of_bv (a : Nat) (ha : a < 9223372036854775808) : (BitVec.ofInt 64 (a : Int)).toNat = a := by
  rw [BitVec.ofInt_natCast, BitVec.toNat_ofNat]; exact Nat.mod_eq_of_lt (by omega)
theorem or_nat (a b : Nat) (ha : a < 9223372036854775808) (hb : b < 9223372036854775808) : bits .or .i64 (a : Int) (b : Int) = ((a ||| b : Nat) : Int) := by
  have hx : a ||| b < 2 ^ 63 := Nat.or_lt_two_pow (by omega) (by omega)
  show IntKind.i64.wrap ((BitVec.ofInt 64 (a : Int) ||| BitVec.ofInt 64 (b : Int)).toNat : Int) = _
  rw [BitVec.toNat_or, nat_of_bv a ha, nat_of_bv b hb, IntKind.wrap_i64]
  omega
theorem setB_nat (k : Nat) : setB ((k : Int) + 1) = ((if k < 9 then 2 ^ k else 0 : Nat) : Int) := by
  unfold setB
  by_cases h : k < 9
  · rw [if_neg (by omega), if_pos h, show ((k : Int) + 1).toNat - 1 = k by omega]; push_cast; rfl
  · rw [if_pos (by omega), if_neg h]; rfl
theorem or_bit (m k : Nat) (h1 : m < 2 ^ k) (h2 : m < 512) : bits .or .i64 (m : Int) (setB ((k : Int) + 1)) = ((m + if k < 9 then 2 ^ k else 0 : Nat) : Int) := by
  rw [setB_nat]
  by_cases h : k < 9
  · rw [if_pos h]
    have hk : 2 ^ k ≤ 2 ^ 8 := Nat.pow_le_pow_right (by decide) (by omega)
    have h8 : (2 : Nat) ^ 8 = 256 := by decide
    rw [or_nat _ _ (by omega) (by omega)]
    have := Nat.two_pow_add_eq_or_of_lt h1 1
    rw [Nat.mul_one] at this
    rw [Nat.or_comm, ← this, Nat.add_comm]
  · rw [if_neg h, or_nat _ _ (by omega) (by omega)]; simp
set_option maxHeartbeats 1000000 in
theorem Who_any (A : Option Addr) (c : Nat) (d : Array Int) (t : Int) (w : World) (h : RdI w.heap.size w A d) (hd : d.size ≤ 100000000) :
    Calls Try.prog 16 #[.slice A d.size c, .int .i64 t] w fun e w' => e = .returned (.int .i64 (whoN d t d.size)) ∧ Below w.heap.size w w' := by
  go_enter Try.func16, Try.ntmps16
  go_wp2
  go_loopw [5, 10] (fun v i wr => ∃ k : Nat, k ≤ d.size ∧ i = .int .i64 k ∧ v = .int .i64 (whoN d t k) ∧ Below w.heap.size w wr) (fun _ i _ => d.size - (intOf i).toNat)
  case atStart => exact ⟨0, Nat.zero_le _, rfl, rfl, Below.refl _ _⟩
  case round =>
    obtain ⟨k, hk, rfl, rfl, hb⟩ := hrel
    by_cases hlt : k < d.size
    · obtain ⟨b, off, rfl, _, hc⟩ := (h.below hb).at_ hlt
      have HS : Hid (whoN d t (k + 1) = whoN d t k + if k < 9 ∧ t ≤ d[k]! then 2 ^ k else 0) := rfl
      have hw := whoN_lt d t k
      generalize d[k]! = x at hc HS
      generalize whoN d t k = m at HS hw
      by_cases hx : t ≤ x
      · go_wp2_with (go_at_call 52; refine (Set1_any _ _ _ _ (by simp [go_sem]; rfl)).mono ?_; rintro e w' ⟨rfl, rfl⟩)
        go_roundw
        case rel => exact ⟨k + 1, by omega, by go_num, by rw [or_bit m k hw.1 hw.2, HS.out]; by_cases h9 : k < 9 <;> simp [h9, hx], belAlloc hb _⟩
        case measure => simp [intOf]; omega
      · have hx' : x < t := by omega
        go_wp2
        go_roundw
        case rel => exact ⟨k + 1, by omega, by go_num, by rw [HS.out, if_neg (by omega)]; rfl, hb⟩
        case measure => simp [intOf]; omega
    · obtain rfl : k = d.size := by omega
      go_wp2
      go_ret
      exact ⟨rfl, hb⟩
end Go.Proofs.Ytpnjodefnpphkaa
