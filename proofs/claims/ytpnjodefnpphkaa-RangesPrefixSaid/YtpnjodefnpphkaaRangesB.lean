/- Contracts of the layer 'ranges' and of the document's: Check, in, within, Has, Count, Prefix. -/
import Derived.Test.YtpnjodefnpphkaaRangesA
namespace Go.Proofs.Ytpnjodefnpphkaa
open Go.RowKit Go.Sort Go.Lib

set_option maxHeartbeats 4000000 in
theorem r4Check_any (A : Option Addr) (c : Nat) (d : Array (Int × Int)) (B : Nat) (w : World) (h : RdK encR 2 B w A d) :
    Calls Try.prog 25 #[.slice A d.size c] w fun e w' => e = .returned (.int .i64 (setE d)) ∧ ∃ q, w' = w.drewN q := by
  by_cases hd : 1000 < d.size
  · have HE := Lib.hid (setE_big hd)
    have hz : (1000 : Int) < (d.size : Int) := by omega
    go_enter Try.func25, Try.ntmps25
    go_wp2
    go_ret
    exact ⟨ret_int HE.out.symm, 0, rfl⟩
  · have hd' : d.size ≤ 1000 := by omega
    have hz : decide ((1000 : Int) < (d.size : Int)) = false := by simp; omega
    clear hd
    have HOK := Lib.hid (setE_ok hd')
    go_enter Try.func25, Try.ntmps25
    go_wp2
    go_loopw [3] (fun i wr => ∃ k q : Nat, k ≤ d.size ∧ i = .int .i64 k ∧ wr = w.drewN q ∧ (∀ j, j < k → badAt d j = false)) (fun i _ => d.size - (intOf i).toNat)
    case atStart => exact ⟨0, 0, Nat.zero_le _, rfl, rfl, fun j hj => absurd hj (by omega)⟩
    case round =>
      obtain ⟨k, q, hk, rfl, rfl, hj⟩ := hrel
      have HJ := Lib.hid hj; clear hj
      by_cases hlt : k < d.size
      · have hR := h
        obtain ⟨b, off, rfl, _, f⟩ := h.at_ hlt
        have f0 := f 0 (by omega)
        have f1 := f 1 (by omega)
        have HBB := Lib.hid (fun h => @setE_bad d k hlt h)
        clear f
        have kz : (k : Int) < (d.size : Int) := by omega
        cases k with
        | zero =>
          have HB : Hid (badAt d 0 = decide (d[0]!.1 < 1 ∨ 1000000 < d[0]!.2 ∨ d[0]!.2 < d[0]!.1)) := by
            show _ = _; unfold badAt; rw [decide_eq_decide]; simp
          generalize d[0]! = x at f0 f1 HB
          simp only [Nat.add_zero, Nat.zero_mul, encR, List.getElem!_cons_zero, List.getElem!_cons_succ] at f0 f1
          clear hR
          by_cases t1 : x.1 < 1
          · go_wp2_with fail
            go_quiet (fail)
            go_wp2
            go_ret
            exact ⟨ret_int (HBB.out (by rw [HB.out]; simp; omega)).symm, _, World.drewN_drewN _ _ _⟩
          have t1b : decide (x.1 < 1) = false := by simp; omega
          by_cases t2 : 1000000 < x.2
          · go_wp2_with fail
            go_quiet (fail)
            go_wp2
            go_ret
            exact ⟨ret_int (HBB.out (by rw [HB.out]; simp; omega)).symm, _, World.drewN_drewN _ _ _⟩
          have t2b : decide (1000000 < x.2) = false := by simp; omega
          by_cases t3 : x.2 < x.1
          · go_wp2_with fail
            go_quiet (fail)
            go_wp2
            go_ret
            exact ⟨ret_int (HBB.out (by rw [HB.out]; simp; omega)).symm, _, World.drewN_drewN _ _ _⟩
          have t3b : decide (x.2 < x.1) = false := by simp; omega
          go_wp2_with fail
          go_quiet (fail)
          go_wp2
          go_roundw
          case rel => exact ⟨1, _, by omega, rfl, rfl, fun j hj => by
            obtain rfl : j = 0 := by omega
            rw [HB.out]; simp; omega⟩
          case measure => simp [intOf]; omega
        | succ m =>
          have HB : Hid (badAt d (m + 1) = decide (d[m + 1]!.1 < 1 ∨ 1000000 < d[m + 1]!.2 ∨ d[m + 1]!.2 < d[m + 1]!.1 ∨ d[m + 1]!.1 - 1 ≤ d[m]!.2)) := by
            show _ = _; unfold badAt; rw [decide_eq_decide]; simp
          obtain ⟨b', off', e', _, f'⟩ := hR.at_ (i := m) (by omega)
          injection e' with e'
          injection e' with e1 e2
          subst e1 e2
          have f2 := f' 1 (by omega)
          clear f' hR
          generalize d[m + 1]! = x at f0 f1 HB
          generalize d[m]! = y at f2 HB
          simp only [Nat.add_zero, encR, List.getElem!_cons_zero, List.getElem!_cons_succ] at f0 f1 f2
          have p0 : (0 : Int) ≤ (m : Int) + 1 := by omega
          have p1 : (0 : Int) < (m : Int) + 1 := by omega
          have e0 : ((m : Int) + 1).toNat = m + 1 := by omega
          have hwp : IntKind.i64.wrap (m : Int) = (m : Int) := by rw [IntKind.wrap_i64]; omega
          have mz : (m : Int) < (d.size : Int) := by omega
          by_cases t1 : x.1 < 1
          · go_wp2_with fail
            go_quiet (fail)
            go_wp2
            go_ret
            exact ⟨ret_int (HBB.out (by rw [HB.out]; simp; omega)).symm, _, World.drewN_drewN _ _ _⟩
          have t1b : decide (x.1 < 1) = false := by simp; omega
          by_cases t2 : 1000000 < x.2
          · go_wp2_with fail
            go_quiet (fail)
            go_wp2
            go_ret
            exact ⟨ret_int (HBB.out (by rw [HB.out]; simp; omega)).symm, _, World.drewN_drewN _ _ _⟩
          have t2b : decide (1000000 < x.2) = false := by simp; omega
          by_cases t3 : x.2 < x.1
          · go_wp2_with fail
            go_quiet (fail)
            go_wp2
            go_ret
            exact ⟨ret_int (HBB.out (by rw [HB.out]; simp; omega)).symm, _, World.drewN_drewN _ _ _⟩
          have t3b : decide (x.2 < x.1) = false := by simp; omega
          have hws : IntKind.i64.wrap (x.1 - 1) = x.1 - 1 := by rw [IntKind.wrap_i64]; omega
          by_cases t4 : x.1 - 1 ≤ y.2
          · go_wp2_with fail
            go_quiet (fail)
            go_wp2
            go_ret
            exact ⟨ret_int (HBB.out (by rw [HB.out]; simp; omega)).symm, _, World.drewN_drewN _ _ _⟩
          have t4b : decide (x.1 - 1 ≤ y.2) = false := by simp; omega
          go_wp2_with fail
          go_quiet (fail)
          go_wp2
          go_roundw
          case rel => exact ⟨m + 1 + 1, _, by omega, by go_num, rfl, fun j hj => by
            rcases Nat.lt_or_ge j (m + 1) with h' | h'
            · exact HJ.out j h'
            · obtain rfl : j = m + 1 := by omega
              rw [HB.out]; simp; omega⟩
          case measure => simp [intOf]; omega
      · go_wp2
        go_ret
        exact ⟨ret_int (HOK.out fun j hj => HJ.out j (by omega)).symm, q, rfl⟩
end Go.Proofs.Ytpnjodefnpphkaa
