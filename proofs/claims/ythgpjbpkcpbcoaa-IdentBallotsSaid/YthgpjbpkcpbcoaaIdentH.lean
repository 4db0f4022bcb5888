/- The document's next ballot, each ballot tried: it is the next one. -/
import Derived.Test.YthgpjbpkcpbcoaaIdentA
namespace Go.Proofs.Ythgpjbpkcpbcoaa
open Go.RowKit

theorem cand_spec (m self n : Int) (h1 : 3 ≤ n) (h2 : n ≤ 9) (h3 : 1 ≤ self) (h4 : self ≤ n) :
    ownS (cand m self n) n = self ∧ m + 1 ≤ cand m self n ∧ cand m self n ≤ m + n := by
  have : n = 3 ∨ n = 4 ∨ n = 5 ∨ n = 6 ∨ n = 7 ∨ n = 8 ∨ n = 9 := by omega
  unfold cand ownS
  rcases this with rfl | rfl | rfl | rfl | rfl | rfl | rfl <;> omega
theorem cand_least (m self n x : Int) (h1 : 3 ≤ n) (h2 : n ≤ 9) (h5 : m + 1 ≤ x) (h6 : x < cand m self n) : ownS x n ≠ self := by
  have : n = 3 ∨ n = 4 ∨ n = 5 ∨ n = 6 ∨ n = 7 ∨ n = 8 ∨ n = 9 := by omega
  unfold cand ownS at *
  rcases this with rfl | rfl | rfl | rfl | rfl | rfl | rfl <;> omega
theorem owner_in {x n : Int} (h1 : 3 ≤ n) (h2 : n ≤ 9) (h3 : 1 ≤ x) (h4 : x ≤ 1000000) : owner x n = ownS x n := by
  unfold owner; rw [if_neg (by omega)]
set_option maxHeartbeats 1000000 in
theorem rNext_from (b self n m : Int) (w : World) (h1 : 3 ≤ n) (h2 : n ≤ 9) (h3 : 1 ≤ self) (h4 : self ≤ n) (h5 : 0 ≤ b) (h6 : b ≤ 1000000) (hm : big b n = m) :
    Calls Try.prog 21 #[.int .i64 b, .int .i64 self, .int .i64 n] w fun e w' => e = .returned (.tuple #[.int .i64 (nextN b self n), .int .i64 (nextE b self n)]) ∧ w = w' := by
  have HN : Hid (nextN b self n = if 1000000 < cand m self n then 0 else cand m self n) := by
    show _ = _; unfold nextN; rw [if_neg (by omega), hm]
  have HE : Hid (nextE b self n = if 1000000 < cand m self n then 8 else 0) := by
    show _ = _; unfold nextE; rw [if_neg (by omega), hm]
  obtain ⟨c1, c2, c3⟩ := cand_spec m self n h1 h2 h3 h4
  have HL : Hid (∀ x, m + 1 ≤ x → x < cand m self n → ownS x n ≠ self) := fun x => cand_least m self n x h1 h2
  have mb : m = if b < n then n else b := hm.symm
  have m1 : 3 ≤ m := by split at mb <;> omega
  have m2 : m ≤ 1000000 := by split at mb <;> omega
  have HC := Lib.hid c1
  have HB := Lib.hid mb
  clear c1 hm mb
  generalize cand m self n = c at *
  by_cases hbn : b < n
  · have hmn : Hid (m = n) := by have := HB.out; rw [if_pos hbn] at this; exact this
    go_enter Try.func21, Try.ntmps21
    go_wp2
    all_goals try (exfalso; omega)
    go_loop [8] (fun v => ∃ x : Int, v = .int .i64 x ∧ m + 1 ≤ x ∧ x ≤ c ∧ x ≤ 1000001) (fun v => (1000001 - intOf v).toNat)
    case atStart => exact ⟨n + 1, rfl, by have := hmn.out; omega, by have := hmn.out; omega, by have := hmn.out; omega⟩
    case round =>
      obtain ⟨x, rfl, x1, x2, x3⟩ := hrel
      by_cases hx : x ≤ 1000000
      · by_cases ho : ownS x n = self
        · have hb : (owner x n == self) = true := by rw [owner_in h1 h2 (by omega) hx]; simpa using ho
          have hxc : Hid (x = c) := by
            rcases Int.lt_or_eq_of_le x2 with h | h
            · exact absurd ho (HL.out x x1 h)
            · exact h
          clear ho
          go_wp2_with (go_at_call 23; refine (rOwner_any _ _ _).mono ?_; rintro e w' ⟨rfl, rfl⟩)
          go_ret2
          exact ⟨ret_int2 (by rw [HN.out, ← hxc.out, if_neg (by omega)]) (by rw [HE.out, ← hxc.out, if_neg (by omega)]), rfl⟩
        · have hb : (owner x n == self) = false := by rw [owner_in h1 h2 (by omega) hx]; simpa using ho
          have hxc : x + 1 ≤ c := by
            rcases Int.lt_or_eq_of_le x2 with h | h
            · omega
            · rw [h] at ho; exact absurd HC.out ho
          clear ho
          go_wp2_with (go_at_call 23; refine (rOwner_any _ _ _).mono ?_; rintro e w' ⟨rfl, rfl⟩)
          go_round
          case rel => exact ⟨x + 1, rfl, by omega, by omega, by omega⟩
          case measure => simp [intOf]; omega
      · go_wp2
        go_ret2
        exact ⟨ret_int2 (by rw [HN.out, if_pos (by omega)]) (by rw [HE.out, if_pos (by omega)]), rfl⟩
  · have hmn : Hid (m = b) := by have := HB.out; rw [if_neg hbn] at this; exact this
    have hnb : n ≤ b := by omega
    have hd : decide (b + 1 ≤ n) = false := by simp; omega
    clear hbn
    go_enter Try.func21, Try.ntmps21
    go_wp2
    all_goals try (exfalso; omega)
    go_loop [8] (fun v => ∃ x : Int, v = .int .i64 x ∧ m + 1 ≤ x ∧ x ≤ c ∧ x ≤ 1000001) (fun v => (1000001 - intOf v).toNat)
    case atStart => exact ⟨b + 1, rfl, by have := hmn.out; omega, by have := hmn.out; omega, by have := hmn.out; omega⟩
    case round =>
      obtain ⟨x, rfl, x1, x2, x3⟩ := hrel
      by_cases hx : x ≤ 1000000
      · by_cases ho : ownS x n = self
        · have hb : (owner x n == self) = true := by rw [owner_in h1 h2 (by omega) hx]; simpa using ho
          have hxc : Hid (x = c) := by
            rcases Int.lt_or_eq_of_le x2 with h | h
            · exact absurd ho (HL.out x x1 h)
            · exact h
          clear ho
          go_wp2_with (go_at_call 23; refine (rOwner_any _ _ _).mono ?_; rintro e w' ⟨rfl, rfl⟩)
          go_ret2
          exact ⟨ret_int2 (by rw [HN.out, ← hxc.out, if_neg (by omega)]) (by rw [HE.out, ← hxc.out, if_neg (by omega)]), rfl⟩
        · have hb : (owner x n == self) = false := by rw [owner_in h1 h2 (by omega) hx]; simpa using ho
          have hxc : x + 1 ≤ c := by
            rcases Int.lt_or_eq_of_le x2 with h | h
            · omega
            · rw [h] at ho; exact absurd HC.out ho
          clear ho
          go_wp2_with (go_at_call 23; refine (rOwner_any _ _ _).mono ?_; rintro e w' ⟨rfl, rfl⟩)
          go_round
          case rel => exact ⟨x + 1, rfl, by omega, by omega, by omega⟩
          case measure => simp [intOf]; omega
      · go_wp2
        go_ret2
        exact ⟨ret_int2 (by rw [HN.out, if_pos (by omega)]) (by rw [HE.out, if_pos (by omega)]), rfl⟩
set_option maxHeartbeats 1000000 in
theorem rNext_no (b self n : Int) (w : World) (h : n < 3 ∨ 9 < n ∨ self < 1 ∨ n < self ∨ b < 0 ∨ 1000000 < b) :
    Calls Try.prog 21 #[.int .i64 b, .int .i64 self, .int .i64 n] w fun e w' => e = .returned (.tuple #[.int .i64 (nextN b self n), .int .i64 (nextE b self n)]) ∧ w = w' := by
  have HN : Hid (nextN b self n = 0) := by show _ = _; unfold nextN; rw [if_pos h]
  have HE : Hid (nextE b self n = 2) := by show _ = _; unfold nextE; rw [if_pos h]
  have HH := Lib.hid h; clear h
  go_enter Try.func21, Try.ntmps21
  go_wp2
  all_goals first
    | (exfalso; have := HH.out; omega)
    | (go_ret2; exact ⟨ret_int2 HN.out.symm HE.out.symm, rfl⟩)
theorem rNext_any (b self n : Int) (w : World) :
    Calls Try.prog 21 #[.int .i64 b, .int .i64 self, .int .i64 n] w fun e w' => e = .returned (.tuple #[.int .i64 (nextN b self n), .int .i64 (nextE b self n)]) ∧ w = w' := by
  by_cases h : n < 3 ∨ 9 < n ∨ self < 1 ∨ n < self ∨ b < 0 ∨ 1000000 < b
  · exact rNext_no b self n w h
  · exact rNext_from b self n _ w (by omega) (by omega) (by omega) (by omega) (by omega) (by omega) rfl
end Go.Proofs.Ythgpjbpkcpbcoaa
