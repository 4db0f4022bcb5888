/- Sets of replicas counted; bits. -/
import Derived.Test.YtpnjodefnpphkaaStableK
namespace Go.Proofs.Ytpnjodefnpphkaa
open Go.RowKit Go.Sort Go.Lib

/-- How many of the first k bits are set? -/
def pcN (x : Nat) : Nat → Nat
  | 0 => 0
  | k + 1 => pcN x k + if x.testBit k then 1 else 0
def F1 (x : Int) : Int := IntKind.u64.wrap (bits .and .u64 (x / 2) 6148914691236517205 + bits .and .u64 x 6148914691236517205)
def F2 (y : Int) : Int := IntKind.u64.wrap (bits .and .u64 (y / 4) 3689348814741910323 + bits .and .u64 y 3689348814741910323)
def F3 (y : Int) : Int := bits .and .u64 (y / 16 + y) 1085102592571150095
def F4 (y : Int) : Int := bits .and .i64 (y + y / 256 + (y + y / 256) / 65536 + (y + y / 256 + (y + y / 256) / 65536) / 4294967296) 127
theorem pc_all : ∀ x : Fin 512, 0 ≤ F1 (x.1 : Int) ∧ F1 (x.1 : Int) ≤ 5000 ∧ 0 ≤ F2 (F1 (x.1 : Int)) ∧ F2 (F1 (x.1 : Int)) ≤ 5000 ∧ 0 ≤ F3 (F2 (F1 (x.1 : Int))) ∧ F3 (F2 (F1 (x.1 : Int))) ≤ 5000 ∧ F4 (F3 (F2 (F1 (x.1 : Int)))) = (pcN x.1 9 : Int) := by decide +kernel
set_option maxHeartbeats 1000000 in
theorem Ones64_any (x : Nat) (w : World) (h1 : x ≤ 511) :
    Calls Try.prog 76 #[.int .u64 x] w fun e w' => e = .returned (.int .i64 (pcN x 9)) ∧ w = w' := by
  obtain ⟨a1, b1, a2, b2, a3, b3, hp⟩ := pc_all ⟨x, by omega⟩
  have HP : Hid (F4 (F3 (F2 (F1 (x : Int)))) = (pcN x 9 : Int)) := hp
  simp only [] at a1 b1 a2 b2 a3 b3
  have e1 : IntKind.u64.wrap (bits .and .u64 ((x : Int) / 2) 6148914691236517205 + bits .and .u64 (x : Int) 6148914691236517205) = F1 (x : Int) := rfl
  generalize F1 (x : Int) = y1 at *
  have e2 : IntKind.u64.wrap (bits .and .u64 (y1 / 4) 3689348814741910323 + bits .and .u64 y1 3689348814741910323) = F2 y1 := rfl
  generalize F2 y1 = y2 at *
  have e3 : bits .and .u64 (y2 / 16 + y2) 1085102592571150095 = F3 y2 := rfl
  generalize F3 y2 = y3 at *
  have x0 : (0 : Int) ≤ x := by omega
  clear hp
  go_enter Try.func76, Try.ntmps76
  go_wp2
  go_ret
  exact ⟨ret_int (by rw [← HP.out]; rfl), rfl⟩
theorem Ones_any (x : Nat) (w : World) (h1 : x ≤ 511) :
    Calls Try.prog 66 #[.int .u64 x] w fun e w' => e = .returned (.int .i64 (pcN x 9)) ∧ w = w' := by
  go_enter Try.func66, Try.ntmps66
  go_wp2_with (go_at_call 76; refine (Ones64_any _ _ h1).mono ?_; rintro e w' ⟨rfl, rfl⟩)
  go_ret
  exact ⟨rfl, rfl⟩
theorem may_any (s : Int) (w : World) :
    Calls Try.prog 65 #[.int .i64 s] w fun e w' => e = .returned (.bool (decide (0 ≤ s ∧ s ≤ 511))) ∧ w = w' := by
  go_enter Try.func65, Try.ntmps65
  go_wp2
  all_goals
    go_ret
    exact ⟨ret_bool (by simp <;> omega), rfl⟩
theorem Count_any (x : Nat) (w : World) (h1 : x ≤ 511) :
    Calls Try.prog 42 #[.int .i64 x] w fun e w' => e = .returned (.int .i64 (pcN x 9)) ∧ w = w' := by
  have hm := may_any (x : Int)
  rw [show decide (0 ≤ (x : Int) ∧ (x : Int) ≤ 511) = true by simp; omega] at hm
  have HM := Lib.hid hm; clear hm
  go_enter Try.func42, Try.ntmps42
  go_wp2_with (first | (go_at_call 65; refine (HM.out _).mono ?_; rintro e w' ⟨rfl, rfl⟩) | (go_at_call 66; refine (Ones_any _ _ h1).mono ?_; rintro e w' ⟨rfl, rfl⟩))
  go_ret
  exact ⟨rfl, rfl⟩
theorem bit_all : ∀ (x : Fin 512) (r : Fin 9), (bits .and .i64 ((x.1 : Int) / (2 ^ r.1 : Nat)) 1 == 1) = x.1.testBit r.1 := by decide +kernel
set_option maxHeartbeats 1000000 in
theorem Has_any (x r : Nat) (w : World) (h1 : x ≤ 511) (h3 : r < 9) :
    Calls Try.prog 43 #[.int .i64 x, .int .i64 ((r : Int) + 1)] w fun e w' => e = .returned (.bool (x.testBit r)) ∧ w = w' := by
  have hm := may_any (x : Int)
  rw [show decide (0 ≤ (x : Int) ∧ (x : Int) ≤ 511) = true by simp; omega] at hm
  have HM := Lib.hid hm; clear hm
  have hr := replica_any ((r : Int) + 1)
  rw [show repB ((r : Int) + 1) = true by unfold repB; simp; omega] at hr
  have HR := Lib.hid hr; clear hr
  have HB := Lib.hid (bit_all ⟨x, by omega⟩ ⟨r, h3⟩)
  have : r = 0 ∨ r = 1 ∨ r = 2 ∨ r = 3 ∨ r = 4 ∨ r = 5 ∨ r = 6 ∨ r = 7 ∨ r = 8 := by omega
  rcases this with rfl | rfl | rfl | rfl | rfl | rfl | rfl | rfl | rfl
  all_goals
    go_enter Try.func43, Try.ntmps43
    go_wp2_with (first | (go_at_call 65; refine (HM.out _).mono ?_; rintro e w' ⟨rfl, rfl⟩) | (go_at_call 67; refine (HR.out _).mono ?_; rintro e w' ⟨rfl, rfl⟩))
    go_ret
    refine ⟨ret_bool ?_, rfl⟩
    first | exact HB.out | (have := HB.out; simpa using this)
end Go.Proofs.Ytpnjodefnpphkaa
