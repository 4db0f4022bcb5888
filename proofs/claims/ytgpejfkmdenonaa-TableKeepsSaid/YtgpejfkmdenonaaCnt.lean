/- Sets of replicas counted; bits. -/
import Derived.Test.YtgpejfkmdenonaaRead
namespace Go.Proofs.Ytgpejfkmdenonaa
open Go.RowKit Go.Sort Go.Lib

/-- How many of the first k bits are set? -/
def pcN_C (x : Nat) : Nat → Nat
  | 0 => 0
  | k + 1 => pcN_C x k + if x.testBit k then 1 else 0
def F1_C (x : Int) : Int := IntKind.u64.wrap (bits .and .u64 (x / 2) 6148914691236517205 + bits .and .u64 x 6148914691236517205)
def F2_C (y : Int) : Int := IntKind.u64.wrap (bits .and .u64 (y / 4) 3689348814741910323 + bits .and .u64 y 3689348814741910323)
def F3_C (y : Int) : Int := bits .and .u64 (y / 16 + y) 1085102592571150095
def F4_C (y : Int) : Int := bits .and .i64 (y + y / 256 + (y + y / 256) / 65536 + (y + y / 256 + (y + y / 256) / 65536) / 4294967296) 127
theorem pc_all_C : ∀ x : Fin 512, 0 ≤ F1_C (x.1 : Int) ∧ F1_C (x.1 : Int) ≤ 5000 ∧ 0 ≤ F2_C (F1_C (x.1 : Int)) ∧ F2_C (F1_C (x.1 : Int)) ≤ 5000 ∧ 0 ≤ F3_C (F2_C (F1_C (x.1 : Int))) ∧ F3_C (F2_C (F1_C (x.1 : Int))) ≤ 5000 ∧ F4_C (F3_C (F2_C (F1_C (x.1 : Int)))) = (pcN_C x.1 9 : Int) := by decide +kernel
set_option maxHeartbeats 1000000 in
theorem Ones64_any_C (x : Nat) (w : World) (h1 : x ≤ 511) :
    Calls Try.prog 78 #[.int .u64 x] w fun e w' => e = .returned (.int .i64 (pcN_C x 9)) ∧ w = w' := by
  obtain ⟨a1, b1, a2, b2, a3, b3, hp⟩ := pc_all_C ⟨x, by omega⟩
  have HP : Hid (F4_C (F3_C (F2_C (F1_C (x : Int)))) = (pcN_C x 9 : Int)) := hp
  simp only [] at a1 b1 a2 b2 a3 b3
  have e1 : IntKind.u64.wrap (bits .and .u64 ((x : Int) / 2) 6148914691236517205 + bits .and .u64 (x : Int) 6148914691236517205) = F1_C (x : Int) := rfl
  generalize F1_C (x : Int) = y1 at *
  have e2 : IntKind.u64.wrap (bits .and .u64 (y1 / 4) 3689348814741910323 + bits .and .u64 y1 3689348814741910323) = F2_C y1 := rfl
  generalize F2_C y1 = y2 at *
  have e3 : bits .and .u64 (y2 / 16 + y2) 1085102592571150095 = F3_C y2 := rfl
  generalize F3_C y2 = y3 at *
  have x0 : (0 : Int) ≤ x := by omega
  clear hp
  go_enter Try.func78, Try.ntmps78
  go_wp2
  go_ret
  exact ⟨ret_int (by rw [← HP.out]; rfl), rfl⟩
theorem Ones_any_C (x : Nat) (w : World) (h1 : x ≤ 511) :
    Calls Try.prog 66 #[.int .u64 x] w fun e w' => e = .returned (.int .i64 (pcN_C x 9)) ∧ w = w' := by
  go_enter Try.func66, Try.ntmps66
  go_wp2_with (go_at_call 78; refine (Ones64_any_C _ _ h1).mono ?_; rintro e w' ⟨rfl, rfl⟩)
  go_ret
  exact ⟨rfl, rfl⟩
theorem may_any_C (s : Int) (w : World) :
    Calls Try.prog 65 #[.int .i64 s] w fun e w' => e = .returned (.bool (decide (0 ≤ s ∧ s ≤ 511))) ∧ w = w' := by
  go_enter Try.func65, Try.ntmps65
  go_wp2
  all_goals
    go_ret
    exact ⟨ret_bool (by simp <;> omega), rfl⟩
theorem Count_any_C (x : Nat) (w : World) (h1 : x ≤ 511) :
    Calls Try.prog 51 #[.int .i64 x] w fun e w' => e = .returned (.int .i64 (pcN_C x 9)) ∧ w = w' := by
  have hm := may_any_C (x : Int)
  rw [show decide (0 ≤ (x : Int) ∧ (x : Int) ≤ 511) = true by simp; omega] at hm
  have HM := Lib.hid hm; clear hm
  go_enter Try.func51, Try.ntmps51
  go_wp2_with (first | (go_at_call 65; refine (HM.out _).mono ?_; rintro e w' ⟨rfl, rfl⟩) | (go_at_call 66; refine (Ones_any_C _ _ h1).mono ?_; rintro e w' ⟨rfl, rfl⟩))
  go_ret
  exact ⟨rfl, rfl⟩
theorem pc_pos_C : ∀ x : Fin 512, 0 < x.1 → 0 < pcN_C x.1 9 := by decide +kernel
def cntN (q : Int) : Int := if 0 ≤ q ∧ q ≤ 511 then (pcN_C q.toNat 9 : Int) else 0
theorem cntN_zero (q : Int) : (cntN q == 0) = decide (q < 1 ∨ 511 < q) := by
  unfold cntN
  by_cases h : 0 ≤ q ∧ q ≤ 511
  · rw [if_pos h]
    rcases Nat.eq_zero_or_pos q.toNat with h0 | h0
    · have hq : q = 0 := by omega
      subst hq
      rfl
    · have := pc_pos_C ⟨q.toNat, by omega⟩ h0
      simp only [] at this
      rw [decide_eq_false (by omega)]
      exact beq_eq_false_iff_ne.2 (by omega)
  · rw [if_neg h, decide_eq_true (by omega)]; rfl
theorem CountI_any (q : Int) (w : World) : Calls Try.prog 51 #[.int .i64 q] w fun e w' => e = .returned (.int .i64 (cntN q)) ∧ w = w' := by
  by_cases h : 0 ≤ q ∧ q ≤ 511
  · have := Count_any_C q.toNat w (by omega)
    rw [show ((q.toNat : Nat) : Int) = q by omega] at this
    unfold cntN
    rw [if_pos h]
    exact this
  · have HM := Lib.hid (fun W => may_any_C q W)
    rw [show decide (0 ≤ q ∧ q ≤ 511) = false by simp; omega] at HM
    unfold cntN
    rw [if_neg h]
    clear h
    go_enter Try.func51, Try.ntmps51
    go_wp2_with (go_at_call 65; refine (HM.out _).mono ?_; rintro e w' ⟨rfl, rfl⟩)
    go_ret
    exact ⟨rfl, rfl⟩
end Go.Proofs.Ytgpejfkmdenonaa
