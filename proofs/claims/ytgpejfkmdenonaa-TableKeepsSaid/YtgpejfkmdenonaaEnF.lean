/- Two commands held against each other: slices.Equal and rubatoref20.SameAcks at answers, entry.Same, rubatoref20.Same. -/
import Derived.Test.YtgpejfkmdenonaaEnE
import Derived.Lib.Strings
namespace Go.Proofs.Ytgpejfkmdenonaa
open Go.RowKit Go.Sort Go.Lib
set_option maxRecDepth 100000
theorem ak_ext {x y : AK} (h1 : x.kind = y.kind) (h2 : x.frm = y.frm) (h3 : x.bal = y.bal) (h4 : x.t = y.t) (h5 : x.abal = y.abal) (h6 : x.ph = y.ph) : x = y := by
  obtain ⟨a, b, c, d, e, f⟩ := x
  obtain ⟨a', b', c', d', e', f'⟩ := y
  simp only at h1 h2 h3 h4 h5 h6
  subst h1 h2 h3 h4 h5 h6
  rfl
instance : DecidableEq AK := fun x y => decidable_of_iff (x.kind = y.kind ∧ x.frm = y.frm ∧ x.bal = y.bal ∧ x.t = y.t ∧ x.abal = y.abal ∧ x.ph = y.ph) ⟨fun h => ak_ext h.1 h.2.1 h.2.2.1 h.2.2.2.1 h.2.2.2.2.1 h.2.2.2.2.2, fun h => by subst h; exact ⟨rfl, rfl, rfl, rfl, rfl, rfl⟩⟩
theorem ackGuard_E : Try.prog.eqGuardType Try.prog.depth 78 = false := by kernel_rfl
theorem arr_ext_E {α : Type} [Inhabited α] {d1 d2 : Array α} (hs : d1.size = d2.size) (h : ∀ j, j < d1.size → d1[j]! = d2[j]!) : d1 = d2 :=
  Array.ext hs fun t h1 h2 => by have := h t h1; rwa [getElem!_pos d1 t h1, getElem!_pos d2 t h2] at this
theorem neK_run (x y : AK) (w : World) : (binOp .neq 78 (.agg #[.int .i64 x.kind, .int .i64 x.frm, .int .i64 x.bal, .int .i64 x.t, .int .i64 x.abal, .int .i64 x.ph]) (.agg #[.int .i64 y.kind, .int .i64 y.frm, .int .i64 y.bal, .int .i64 y.t, .int .i64 y.abal, .int .i64 y.ph])).run Try.prog w = .ok (.bool (!decide (x = y))) w := by
  have hS : Try.prog.underlying 78 = some (.struct (Try.prog.fieldsOf 78)) := by kernel_rfl
  have hp : Try.prog.stoodInHeld 78 = false := by kernel_rfl
  have u3 := Try.underlying3
  rw [run_neq_struct, show (10000 : Nat) = 9999 + 1 from rfl, run_equalIn_agg w 9999 78 _ _ hS hp]
  simp only [Program.fieldsOf, Try.underlying78]
  go_simp
  obtain ⟨a, b, c, d, e, f⟩ := x
  obtain ⟨a', b', c', d', e', f'⟩ := y
  simp only [AK.mk.injEq]
  grind
set_option maxHeartbeats 2000000 in
theorem EqAcks0 (A1 A2 : Option Addr) (c1 c2 : Nat) (d1 d2 : Array AK) (B1 B2 : Nat) (w : World) (h1 : RdK encK 6 B1 w A1 d1) (h2 : RdK encK 6 B2 w A2 d2) (_hn : d1.size ≤ 100000000) (hm : d2.size ≤ 100000000) :
    Calls Try.prog 64 #[.slice A1 d1.size c1, .slice A2 d2.size c2] w fun e w' => e = .returned (.bool (decide (d1 = d2))) ∧ ∃ n, w' = w.drewN n := by
  by_cases hs : d1.size = d2.size
  · have hb : ((d1.size : Int) != (d2.size : Int)) = false := by simp [hs]
    have HS := Lib.hid hs
    have hge : d1.size ≤ d2.size := by omega
    clear hs
    go_enter Try.func64, Try.ntmps64
    go_wp2
    go_loopw [13] (fun i wr => ∃ k n : Nat, k ≤ d1.size ∧ i = .int .i64 k ∧ wr = w.drewN n ∧ ∀ j, j < k → d1[j]! = d2[j]!) (fun i _ => d1.size - (intOf i).toNat)
    case atStart => exact ⟨0, 0, Nat.zero_le _, rfl, rfl, fun j hj => absurd hj (by omega)⟩
    case round =>
      obtain ⟨k, n, hk, rfl, rfl, hj⟩ := hrel
      have HJ := Lib.hid hj; clear hj
      by_cases hlt : k < d1.size
      · obtain ⟨b1, o1, rfl, _, f1⟩ := h1.at_ hlt
        obtain ⟨b2, o2, rfl, _, f2⟩ := h2.at_ (i := k) (by omega)
        have e10 := f1 0 (by omega)
        have e11 := f1 1 (by omega)
        have e12 := f1 2 (by omega)
        have e13 := f1 3 (by omega)
        have e14 := f1 4 (by omega)
        have e15 := f1 5 (by omega)
        have e20 := f2 0 (by omega)
        have e21 := f2 1 (by omega)
        have e22 := f2 2 (by omega)
        have e23 := f2 3 (by omega)
        have e24 := f2 4 (by omega)
        have e25 := f2 5 (by omega)
        have hnx := neK_run d1[k]! d2[k]!
        generalize hx : d1[k]! = x at e10 e11 e12 e13 e14 e15 hnx
        generalize hy : d2[k]! = y at e20 e21 e22 e23 e24 e25 hnx
        have HXX := Lib.hid hx; clear hx
        have HYY := Lib.hid hy; clear hy
        simp only [Nat.add_zero, encK, List.getElem!_cons_zero, List.getElem!_cons_succ] at e10 e11 e12 e13 e14 e15 e20 e21 e22 e23 e24 e25
        clear f1 f2
        have kz : (k : Int) < (d1.size : Int) := by omega
        have kz2 : (k : Int) < (d2.size : Int) := by omega
        by_cases hxy : x = y
        · have hd : decide (x = y) = true := by simp [hxy]
          have HXY := Lib.hid hxy; clear hxy
          rw [hd] at hnx
          clear hd
          go_wp2
          go_quiet (fail)
          go_wp2
          go_roundw
          case rel => exact ⟨k + 1, _, by omega, by go_num, rfl, fun j hj => by
            rcases Nat.lt_or_ge j k with h | h
            · exact HJ.out j h
            · obtain rfl : j = k := by omega
              rw [HXX.out, HYY.out]; exact HXY.out⟩
          case measure => simp [intOf]; omega
        · have hd : decide (x = y) = false := by simp [hxy]
          have HXY := Lib.hid hxy; clear hxy
          rw [hd] at hnx
          clear hd
          go_wp2
          go_quiet (fail)
          go_wp2
          go_ret
          exact ⟨ret_bool (by symm; rw [decide_eq_false_iff_not]; rintro rfl; exact HXY.out (by rw [← HXX.out, ← HYY.out])), _, World.drewN_drewN _ _ _⟩
      · have hlt' : decide ((k : Int) < (d1.size : Int)) = false := by simp; omega
        go_wp2
        go_ret
        exact ⟨ret_bool (by symm; rw [decide_eq_true_iff]; exact arr_ext_E HS.out fun j hj => HJ.out j (by omega)), n, rfl⟩
  · have hb : ((d1.size : Int) != (d2.size : Int)) = true := by simp; omega
    have HS := Lib.hid hs
    clear hs
    go_enter Try.func64, Try.ntmps64
    go_wp2
    go_ret
    exact ⟨ret_bool (by symm; rw [decide_eq_false_iff_not]; rintro rfl; exact HS.out rfl), 0, rfl⟩
theorem EqAcks_any (A1 A2 : Option Addr) (c1 c2 : Nat) (d1 d2 : Array AK) (B1 B2 : Nat) (w : World) (h1 : RdK encK 6 B1 w A1 d1) (h2 : RdK encK 6 B2 w A2 d2) (hn : d1.size ≤ 100000000) (hm : d2.size ≤ 100000000) :
    Calls Try.prog 64 #[.slice A1 d1.size c1, .slice A2 d2.size c2] w fun e w' => e = .returned (.bool (decide (d1 = d2))) ∧ Below w.heap.size w w' :=
  (EqAcks0 A1 A2 c1 c2 d1 d2 B1 B2 w h1 h2 hn hm).mono fun _ _ ⟨he, n, hw⟩ => ⟨he, by rw [hw]; exact belDrewN (Below.refl _ _) n⟩
set_option maxHeartbeats 2000000 in
theorem SameAcks0 (A1 A2 : Option Addr) (c1 c2 : Nat) (d1 d2 : Array AK) (B1 B2 : Nat) (w : World) (h1 : RdK encK 6 B1 w A1 d1) (h2 : RdK encK 6 B2 w A2 d2) (_hn : d1.size ≤ 100000000) (hm : d2.size ≤ 100000000) :
    Calls Try.prog 35 #[.slice A1 d1.size c1, .slice A2 d2.size c2] w fun e w' => e = .returned (.bool (decide (d1 = d2))) ∧ ∃ n, w' = w.drewN n := by
  by_cases hs : d1.size = d2.size
  · have hb : ((d1.size : Int) != (d2.size : Int)) = false := by simp [hs]
    have HS := Lib.hid hs
    have hge : d1.size ≤ d2.size := by omega
    clear hs
    go_enter Try.func35, Try.ntmps35
    go_wp2
    go_loopw [5] (fun i wr => ∃ k n : Nat, k ≤ d1.size ∧ i = .int .i64 k ∧ wr = w.drewN n ∧ ∀ j, j < k → d1[j]! = d2[j]!) (fun i _ => d1.size - (intOf i).toNat)
    case atStart => exact ⟨0, 0, Nat.zero_le _, rfl, rfl, fun j hj => absurd hj (by omega)⟩
    case round =>
      obtain ⟨k, n, hk, rfl, rfl, hj⟩ := hrel
      have HJ := Lib.hid hj; clear hj
      by_cases hlt : k < d1.size
      · obtain ⟨b1, o1, rfl, _, f1⟩ := h1.at_ hlt
        obtain ⟨b2, o2, rfl, _, f2⟩ := h2.at_ (i := k) (by omega)
        have e10 := f1 0 (by omega)
        have e11 := f1 1 (by omega)
        have e12 := f1 2 (by omega)
        have e13 := f1 3 (by omega)
        have e14 := f1 4 (by omega)
        have e15 := f1 5 (by omega)
        have e20 := f2 0 (by omega)
        have e21 := f2 1 (by omega)
        have e22 := f2 2 (by omega)
        have e23 := f2 3 (by omega)
        have e24 := f2 4 (by omega)
        have e25 := f2 5 (by omega)
        have hnx := neK_run d1[k]! d2[k]!
        generalize hx : d1[k]! = x at e10 e11 e12 e13 e14 e15 hnx
        generalize hy : d2[k]! = y at e20 e21 e22 e23 e24 e25 hnx
        have HXX := Lib.hid hx; clear hx
        have HYY := Lib.hid hy; clear hy
        simp only [Nat.add_zero, encK, List.getElem!_cons_zero, List.getElem!_cons_succ] at e10 e11 e12 e13 e14 e15 e20 e21 e22 e23 e24 e25
        clear f1 f2
        have kz : (k : Int) < (d1.size : Int) := by omega
        have kz2 : (k : Int) < (d2.size : Int) := by omega
        by_cases hxy : x = y
        · have hd : decide (x = y) = true := by simp [hxy]
          have HXY := Lib.hid hxy; clear hxy
          rw [hd] at hnx
          clear hd
          go_wp2
          go_quiet (fail)
          go_wp2
          go_roundw
          case rel => exact ⟨k + 1, _, by omega, by go_num, rfl, fun j hj => by
            rcases Nat.lt_or_ge j k with h | h
            · exact HJ.out j h
            · obtain rfl : j = k := by omega
              rw [HXX.out, HYY.out]; exact HXY.out⟩
          case measure => simp [intOf]; omega
        · have hd : decide (x = y) = false := by simp [hxy]
          have HXY := Lib.hid hxy; clear hxy
          rw [hd] at hnx
          clear hd
          go_wp2
          go_quiet (fail)
          go_wp2
          go_ret
          exact ⟨ret_bool (by symm; rw [decide_eq_false_iff_not]; rintro rfl; exact HXY.out (by rw [← HXX.out, ← HYY.out])), _, World.drewN_drewN _ _ _⟩
      · have hlt' : decide ((k : Int) < (d1.size : Int)) = false := by simp; omega
        go_wp2
        go_ret
        exact ⟨ret_bool (by symm; rw [decide_eq_true_iff]; exact arr_ext_E HS.out fun j hj => HJ.out j (by omega)), n, rfl⟩
  · have hb : ((d1.size : Int) != (d2.size : Int)) = true := by simp; omega
    have HS := Lib.hid hs
    clear hs
    go_enter Try.func35, Try.ntmps35
    go_wp2
    go_ret
    exact ⟨ret_bool (by symm; rw [decide_eq_false_iff_not]; rintro rfl; exact HS.out rfl), 0, rfl⟩
theorem SameAcks_any (A1 A2 : Option Addr) (c1 c2 : Nat) (d1 d2 : Array AK) (B1 B2 : Nat) (w : World) (h1 : RdK encK 6 B1 w A1 d1) (h2 : RdK encK 6 B2 w A2 d2) (hn : d1.size ≤ 100000000) (hm : d2.size ≤ 100000000) :
    Calls Try.prog 35 #[.slice A1 d1.size c1, .slice A2 d2.size c2] w fun e w' => e = .returned (.bool (decide (d1 = d2))) ∧ Below w.heap.size w w' :=
  (SameAcks0 A1 A2 c1 c2 d1 d2 B1 B2 w h1 h2 hn hm).mono fun _ _ ⟨he, n, hw⟩ => ⟨he, by rw [hw]; exact belDrewN (Below.refl _ _) n⟩
end Go.Proofs.Ytgpejfkmdenonaa
