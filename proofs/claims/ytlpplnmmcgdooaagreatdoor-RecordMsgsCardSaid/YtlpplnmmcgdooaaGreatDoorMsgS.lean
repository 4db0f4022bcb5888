/- Two lists held against each other: slices.Equal, and the document's own. Messages: their value, and when two are the same. -/
import Derived.Test.YtlpplnmmcgdooaaGreatDoorIntR
import Derived.Laws.StructEq
import Derived.Lib.Strings
namespace Go.Proofs.YtlpplnmmcgdooaaGreatDoor
open Go.RowKit Go.Sort Go.Lib
def encA (x : Int × Int) : List Value := [.int .i64 x.1, .int .i64 x.2]
theorem encA_len (x : Int × Int) : (encA x).length = 2 := rfl
theorem encA_1 (x : Int × Int) : ∀ u ∈ encA x, u.oneCell' = true := by intro u hu; simp [encA] at hu; rcases hu with rfl | rfl <;> rfl
theorem attGuard : Tryz.prog.eqGuardType Tryz.prog.depth 80 = false := by kernel_rfl
theorem neA_run (x y : Int × Int) (w : World) : (binOp .neq 80 (.agg #[.int .i64 x.1, .int .i64 x.2]) (.agg #[.int .i64 y.1, .int .i64 y.2])).run Tryz.prog w = .ok (.bool (!decide (x = y))) w := by
  have hS : Tryz.prog.underlying 80 = some (.struct (Tryz.prog.fieldsOf 80)) := by kernel_rfl
  have hp : Tryz.prog.stoodInHeld 80 = false := by kernel_rfl
  have u3 := Tryz.underlying3
  rw [run_neq_struct, show (10000 : Nat) = 9999 + 1 from rfl, run_equalIn_agg w 9999 80 _ _ hS hp]
  simp only [Program.fieldsOf, Tryz.underlying80]
  go_simp
  obtain ⟨x1, x2⟩ := x
  obtain ⟨y1, y2⟩ := y
  by_cases h1 : x1 = y1 <;> by_cases h2 : x2 = y2 <;> simp [h1, h2]
theorem arr_ext {α : Type} [Inhabited α] {d1 d2 : Array α} (hs : d1.size = d2.size) (h : ∀ j, j < d1.size → d1[j]! = d2[j]!) : d1 = d2 :=
  Array.ext hs fun t h1 h2 => by have := h t h1; rwa [getElem!_pos d1 t h1, getElem!_pos d2 t h2] at this
theorem RdK.next {α : Type} [Inhabited α] {enc : α → List Value} {k : Nat} {w w' : World} {A : Option Addr} {d : Array α} (h : RdK enc k w.heap.size w A d) (hb : Below w.heap.size w w') : RdK enc k w'.heap.size w' A d := (h.below hb).mono hb.size
set_option maxHeartbeats 1000000 in
theorem EqAtts0 (A1 A2 : Option Addr) (c1 c2 : Nat) (d1 d2 : Array (Int × Int)) (B1 B2 : Nat) (w : World) (h1 : RdK encA 2 B1 w A1 d1) (h2 : RdK encA 2 B2 w A2 d2) (_hn : d1.size ≤ 100000000) (hm : d2.size ≤ 100000000) :
    Calls Tryz.prog 53 #[.slice A1 d1.size c1, .slice A2 d2.size c2] w fun e w' => e = .returned (.bool (decide (d1 = d2))) ∧ ∃ n, w' = w.drewN n := by
  by_cases hs : d1.size = d2.size
  · have hb : ((d1.size : Int) != (d2.size : Int)) = false := by simp [hs]
    have HS := Lib.hid hs
    have hge : d1.size ≤ d2.size := by omega
    clear hs
    go_enter Tryz.func53, Tryz.ntmps53
    go_wp2
    go_loopw [13] (fun i wr => ∃ k n : Nat, k ≤ d1.size ∧ i = .int .i64 k ∧ wr = w.drewN n ∧ ∀ j, j < k → d1[j]! = d2[j]!) (fun i _ => d1.size - (intOf i).toNat)
    case atStart => exact ⟨0, 0, Nat.zero_le _, rfl, rfl, fun j hj => absurd hj (by omega)⟩
    case round =>
      obtain ⟨k, n, hk, rfl, rfl, hj⟩ := hrel
      have HJ := Lib.hid hj; clear hj
      by_cases hlt : k < d1.size
      · obtain ⟨b1, o1, rfl, _, f1⟩ := h1.at_ hlt
        obtain ⟨b2, o2, rfl, _, f2⟩ := h2.at_ (i := k) (by omega)
        have e10 := f1 0 (by omega)
        have e11 := f1 1 (by omega)
        have e20 := f2 0 (by omega)
        have e21 := f2 1 (by omega)
        have hnx := neA_run d1[k]! d2[k]!
        have hgd := attGuard
        generalize hx : d1[k]! = x at e10 e11 hnx
        generalize hy : d2[k]! = y at e20 e21 hnx
        have HXX := Lib.hid hx; clear hx
        have HYY := Lib.hid hy; clear hy
        simp only [Nat.add_zero, encA, List.getElem!_cons_zero, List.getElem!_cons_succ] at e10 e11 e20 e21
        clear f1 f2
        have kz : (k : Int) < (d1.size : Int) := by omega
        have kz2 : (k : Int) < (d2.size : Int) := by omega
        by_cases hxy : x = y
        · skip
          have hd : decide (x = y) = true := by simp [hxy]
          have HXY := Lib.hid hxy; clear hxy
          rw [hd] at hnx
          clear hd
          go_wp2
          go_quiet (fail)
          go_wp2
          go_roundw
          case rel => exact ⟨k + 1, _, by omega, by go_num, rfl, fun j hj => by
            rcases Nat.lt_or_ge j k with h | h
            · exact HJ.out j h
            · obtain rfl : j = k := by omega
              rw [HXX.out, HYY.out]; exact HXY.out⟩
          case measure => simp [intOf]; omega
        · skip
          have hd : decide (x = y) = false := by simp [hxy]
          have HXY := Lib.hid hxy; clear hxy
          rw [hd] at hnx
          clear hd
          go_wp2
          go_quiet (fail)
          go_wp2
          go_ret
          exact ⟨ret_bool (by symm; rw [decide_eq_false_iff_not]; rintro rfl; exact HXY.out (by rw [← HXX.out, ← HYY.out])), _, World.drewN_drewN _ _ _⟩
      · go_wp2
        go_ret
        exact ⟨ret_bool (by symm; rw [decide_eq_true_iff]; exact arr_ext HS.out fun j hj => HJ.out j (by omega)), n, rfl⟩
  · have hb : ((d1.size : Int) != (d2.size : Int)) = true := by simp; omega
    have HS := Lib.hid hs
    clear hs
    go_enter Tryz.func53, Tryz.ntmps53
    go_wp2
    go_ret
    exact ⟨ret_bool (by symm; rw [decide_eq_false_iff_not]; rintro rfl; exact HS.out rfl), 0, rfl⟩
theorem EqAtts_any (A1 A2 : Option Addr) (c1 c2 : Nat) (d1 d2 : Array (Int × Int)) (B1 B2 : Nat) (w : World) (h1 : RdK encA 2 B1 w A1 d1) (h2 : RdK encA 2 B2 w A2 d2) (hn : d1.size ≤ 100000000) (hm : d2.size ≤ 100000000) :
    Calls Tryz.prog 53 #[.slice A1 d1.size c1, .slice A2 d2.size c2] w fun e w' => e = .returned (.bool (decide (d1 = d2))) ∧ Below w.heap.size w w' :=
  (EqAtts0 A1 A2 c1 c2 d1 d2 B1 B2 w h1 h2 hn hm).mono fun _ _ ⟨he, n, hw⟩ => ⟨he, by rw [hw]; exact belDrewN (Below.refl _ _) n⟩
set_option maxHeartbeats 1000000 in
theorem EqInts0 (A1 A2 : Option Addr) (c1 c2 : Nat) (d1 d2 : Array Int) (B1 B2 : Nat) (w : World) (h1 : RdI B1 w A1 d1) (h2 : RdI B2 w A2 d2) (_hn : d1.size ≤ 100000000) (hm : d2.size ≤ 100000000) :
    Calls Tryz.prog 54 #[.slice A1 d1.size c1, .slice A2 d2.size c2] w fun e w' => e = .returned (.bool (decide (d1 = d2))) ∧ ∃ n, w' = w.drewN n := by
  by_cases hs : d1.size = d2.size
  · have hb : ((d1.size : Int) != (d2.size : Int)) = false := by simp [hs]
    have HS := Lib.hid hs
    have hge : d1.size ≤ d2.size := by omega
    clear hs
    go_enter Tryz.func54, Tryz.ntmps54
    go_wp2
    go_loopw [13] (fun i wr => ∃ k n : Nat, k ≤ d1.size ∧ i = .int .i64 k ∧ wr = w.drewN n ∧ ∀ j, j < k → d1[j]! = d2[j]!) (fun i _ => d1.size - (intOf i).toNat)
    case atStart => exact ⟨0, 0, Nat.zero_le _, rfl, rfl, fun j hj => absurd hj (by omega)⟩
    case round =>
      obtain ⟨k, n, hk, rfl, rfl, hj⟩ := hrel
      have HJ := Lib.hid hj; clear hj
      by_cases hlt : k < d1.size
      · obtain ⟨b1, o1, rfl, _, e10⟩ := h1.at_ hlt
        obtain ⟨b2, o2, rfl, _, e20⟩ := h2.at_ (i := k) (by omega)
        generalize hx : d1[k]! = x at e10
        generalize hy : d2[k]! = y at e20
        have HXX := Lib.hid hx; clear hx
        have HYY := Lib.hid hy; clear hy
        have kz : (k : Int) < (d1.size : Int) := by omega
        have kz2 : (k : Int) < (d2.size : Int) := by omega
        by_cases hxy : x = y
        · skip
          have hd : (x != y) = false := by simp [hxy]
          have HXY := Lib.hid hxy; clear hxy
          go_wp2
          go_quiet (fail)
          go_wp2
          go_roundw
          case rel => exact ⟨k + 1, _, by omega, by go_num, rfl, fun j hj => by
            rcases Nat.lt_or_ge j k with h | h
            · exact HJ.out j h
            · obtain rfl : j = k := by omega
              rw [HXX.out, HYY.out]; exact HXY.out⟩
          case measure => simp [intOf]; omega
        · skip
          have hd : (x != y) = true := by simp [hxy]
          have HXY := Lib.hid hxy; clear hxy
          go_wp2
          go_quiet (fail)
          go_wp2
          go_ret
          exact ⟨ret_bool (by symm; rw [decide_eq_false_iff_not]; rintro rfl; exact HXY.out (by rw [← HXX.out, ← HYY.out])), _, World.drewN_drewN _ _ _⟩
      · go_wp2
        go_ret
        exact ⟨ret_bool (by symm; rw [decide_eq_true_iff]; exact arr_ext HS.out fun j hj => HJ.out j (by omega)), n, rfl⟩
  · have hb : ((d1.size : Int) != (d2.size : Int)) = true := by simp; omega
    have HS := Lib.hid hs
    clear hs
    go_enter Tryz.func54, Tryz.ntmps54
    go_wp2
    go_ret
    exact ⟨ret_bool (by symm; rw [decide_eq_false_iff_not]; rintro rfl; exact HS.out rfl), 0, rfl⟩
theorem EqInts_any (A1 A2 : Option Addr) (c1 c2 : Nat) (d1 d2 : Array Int) (B1 B2 : Nat) (w : World) (h1 : RdI B1 w A1 d1) (h2 : RdI B2 w A2 d2) (hn : d1.size ≤ 100000000) (hm : d2.size ≤ 100000000) :
    Calls Tryz.prog 54 #[.slice A1 d1.size c1, .slice A2 d2.size c2] w fun e w' => e = .returned (.bool (decide (d1 = d2))) ∧ Below w.heap.size w w' :=
  (EqInts0 A1 A2 c1 c2 d1 d2 B1 B2 w h1 h2 hn hm).mono fun _ _ ⟨he, n, hw⟩ => ⟨he, by rw [hw]; exact belDrewN (Below.refl _ _) n⟩
set_option maxHeartbeats 1000000 in
theorem SameAtts0 (A1 A2 : Option Addr) (c1 c2 : Nat) (d1 d2 : Array (Int × Int)) (B1 B2 : Nat) (w : World) (h1 : RdK encA 2 B1 w A1 d1) (h2 : RdK encA 2 B2 w A2 d2) (_hn : d1.size ≤ 100000000) (hm : d2.size ≤ 100000000) :
    Calls Tryz.prog 55 #[.slice A1 d1.size c1, .slice A2 d2.size c2] w fun e w' => e = .returned (.bool (decide (d1 = d2))) ∧ ∃ n, w' = w.drewN n := by
  by_cases hs : d1.size = d2.size
  · have hb : ((d1.size : Int) != (d2.size : Int)) = false := by simp [hs]
    have HS := Lib.hid hs
    have hge : d1.size ≤ d2.size := by omega
    clear hs
    go_enter Tryz.func55, Tryz.ntmps55
    go_wp2
    go_loopw [5] (fun i wr => ∃ k n : Nat, k ≤ d1.size ∧ i = .int .i64 k ∧ wr = w.drewN n ∧ ∀ j, j < k → d1[j]! = d2[j]!) (fun i _ => d1.size - (intOf i).toNat)
    case atStart => exact ⟨0, 0, Nat.zero_le _, rfl, rfl, fun j hj => absurd hj (by omega)⟩
    case round =>
      obtain ⟨k, n, hk, rfl, rfl, hj⟩ := hrel
      have HJ := Lib.hid hj; clear hj
      by_cases hlt : k < d1.size
      · obtain ⟨b1, o1, rfl, _, f1⟩ := h1.at_ hlt
        obtain ⟨b2, o2, rfl, _, f2⟩ := h2.at_ (i := k) (by omega)
        have e10 := f1 0 (by omega)
        have e11 := f1 1 (by omega)
        have e20 := f2 0 (by omega)
        have e21 := f2 1 (by omega)
        have hnx := neA_run d1[k]! d2[k]!
        have hgd := attGuard
        generalize hx : d1[k]! = x at e10 e11 hnx
        generalize hy : d2[k]! = y at e20 e21 hnx
        have HXX := Lib.hid hx; clear hx
        have HYY := Lib.hid hy; clear hy
        simp only [Nat.add_zero, encA, List.getElem!_cons_zero, List.getElem!_cons_succ] at e10 e11 e20 e21
        clear f1 f2
        have kz : (k : Int) < (d1.size : Int) := by omega
        have kz2 : (k : Int) < (d2.size : Int) := by omega
        by_cases hxy : x = y
        · skip
          have hd : decide (x = y) = true := by simp [hxy]
          have HXY := Lib.hid hxy; clear hxy
          rw [hd] at hnx
          clear hd
          go_wp2
          go_quiet (fail)
          go_wp2
          go_roundw
          case rel => exact ⟨k + 1, _, by omega, by go_num, rfl, fun j hj => by
            rcases Nat.lt_or_ge j k with h | h
            · exact HJ.out j h
            · obtain rfl : j = k := by omega
              rw [HXX.out, HYY.out]; exact HXY.out⟩
          case measure => simp [intOf]; omega
        · skip
          have hd : decide (x = y) = false := by simp [hxy]
          have HXY := Lib.hid hxy; clear hxy
          rw [hd] at hnx
          clear hd
          go_wp2
          go_quiet (fail)
          go_wp2
          go_ret
          exact ⟨ret_bool (by symm; rw [decide_eq_false_iff_not]; rintro rfl; exact HXY.out (by rw [← HXX.out, ← HYY.out])), _, World.drewN_drewN _ _ _⟩
      · go_wp2
        go_ret
        exact ⟨ret_bool (by symm; rw [decide_eq_true_iff]; exact arr_ext HS.out fun j hj => HJ.out j (by omega)), n, rfl⟩
  · have hb : ((d1.size : Int) != (d2.size : Int)) = true := by simp; omega
    have HS := Lib.hid hs
    clear hs
    go_enter Tryz.func55, Tryz.ntmps55
    go_wp2
    go_ret
    exact ⟨ret_bool (by symm; rw [decide_eq_false_iff_not]; rintro rfl; exact HS.out rfl), 0, rfl⟩
theorem SameAtts_any (A1 A2 : Option Addr) (c1 c2 : Nat) (d1 d2 : Array (Int × Int)) (B1 B2 : Nat) (w : World) (h1 : RdK encA 2 B1 w A1 d1) (h2 : RdK encA 2 B2 w A2 d2) (hn : d1.size ≤ 100000000) (hm : d2.size ≤ 100000000) :
    Calls Tryz.prog 55 #[.slice A1 d1.size c1, .slice A2 d2.size c2] w fun e w' => e = .returned (.bool (decide (d1 = d2))) ∧ Below w.heap.size w w' :=
  (SameAtts0 A1 A2 c1 c2 d1 d2 B1 B2 w h1 h2 hn hm).mono fun _ _ ⟨he, n, hw⟩ => ⟨he, by rw [hw]; exact belDrewN (Below.refl _ _) n⟩
set_option maxHeartbeats 1000000 in
theorem SameInts0 (A1 A2 : Option Addr) (c1 c2 : Nat) (d1 d2 : Array Int) (B1 B2 : Nat) (w : World) (h1 : RdI B1 w A1 d1) (h2 : RdI B2 w A2 d2) (_hn : d1.size ≤ 100000000) (hm : d2.size ≤ 100000000) :
    Calls Tryz.prog 56 #[.slice A1 d1.size c1, .slice A2 d2.size c2] w fun e w' => e = .returned (.bool (decide (d1 = d2))) ∧ ∃ n, w' = w.drewN n := by
  by_cases hs : d1.size = d2.size
  · have hb : ((d1.size : Int) != (d2.size : Int)) = false := by simp [hs]
    have HS := Lib.hid hs
    have hge : d1.size ≤ d2.size := by omega
    clear hs
    go_enter Tryz.func56, Tryz.ntmps56
    go_wp2
    go_loopw [5] (fun i wr => ∃ k n : Nat, k ≤ d1.size ∧ i = .int .i64 k ∧ wr = w.drewN n ∧ ∀ j, j < k → d1[j]! = d2[j]!) (fun i _ => d1.size - (intOf i).toNat)
    case atStart => exact ⟨0, 0, Nat.zero_le _, rfl, rfl, fun j hj => absurd hj (by omega)⟩
    case round =>
      obtain ⟨k, n, hk, rfl, rfl, hj⟩ := hrel
      have HJ := Lib.hid hj; clear hj
      by_cases hlt : k < d1.size
      · obtain ⟨b1, o1, rfl, _, e10⟩ := h1.at_ hlt
        obtain ⟨b2, o2, rfl, _, e20⟩ := h2.at_ (i := k) (by omega)
        generalize hx : d1[k]! = x at e10
        generalize hy : d2[k]! = y at e20
        have HXX := Lib.hid hx; clear hx
        have HYY := Lib.hid hy; clear hy
        have kz : (k : Int) < (d1.size : Int) := by omega
        have kz2 : (k : Int) < (d2.size : Int) := by omega
        by_cases hxy : x = y
        · skip
          have hd : (x != y) = false := by simp [hxy]
          have HXY := Lib.hid hxy; clear hxy
          go_wp2
          go_quiet (fail)
          go_wp2
          go_roundw
          case rel => exact ⟨k + 1, _, by omega, by go_num, rfl, fun j hj => by
            rcases Nat.lt_or_ge j k with h | h
            · exact HJ.out j h
            · obtain rfl : j = k := by omega
              rw [HXX.out, HYY.out]; exact HXY.out⟩
          case measure => simp [intOf]; omega
        · skip
          have hd : (x != y) = true := by simp [hxy]
          have HXY := Lib.hid hxy; clear hxy
          go_wp2
          go_quiet (fail)
          go_wp2
          go_ret
          exact ⟨ret_bool (by symm; rw [decide_eq_false_iff_not]; rintro rfl; exact HXY.out (by rw [← HXX.out, ← HYY.out])), _, World.drewN_drewN _ _ _⟩
      · go_wp2
        go_ret
        exact ⟨ret_bool (by symm; rw [decide_eq_true_iff]; exact arr_ext HS.out fun j hj => HJ.out j (by omega)), n, rfl⟩
  · have hb : ((d1.size : Int) != (d2.size : Int)) = true := by simp; omega
    have HS := Lib.hid hs
    clear hs
    go_enter Tryz.func56, Tryz.ntmps56
    go_wp2
    go_ret
    exact ⟨ret_bool (by symm; rw [decide_eq_false_iff_not]; rintro rfl; exact HS.out rfl), 0, rfl⟩
theorem SameInts_any (A1 A2 : Option Addr) (c1 c2 : Nat) (d1 d2 : Array Int) (B1 B2 : Nat) (w : World) (h1 : RdI B1 w A1 d1) (h2 : RdI B2 w A2 d2) (hn : d1.size ≤ 100000000) (hm : d2.size ≤ 100000000) :
    Calls Tryz.prog 56 #[.slice A1 d1.size c1, .slice A2 d2.size c2] w fun e w' => e = .returned (.bool (decide (d1 = d2))) ∧ Below w.heap.size w w' :=
  (SameInts0 A1 A2 c1 c2 d1 d2 B1 B2 w h1 h2 hn hm).mono fun _ _ ⟨he, n, hw⟩ => ⟨he, by rw [hw]; exact belDrewN (Below.refl _ _) n⟩
end Go.Proofs.YtlpplnmmcgdooaaGreatDoor
namespace Go.Proofs.YtlpplnmmcgdooaaGreatDoor
open Go.RowKit Go.Sort Go.Lib

/-- A message: its fields, and where its rows lie. -/
structure PM where
  k : Int
  fr : Int
  id : Int
  t : Int
  bal : Int
  abal : Int
  ph : Int
  q : Int
  pay : ByteArray
  lo : Int
  hi : Int
  aA : Option Addr
  aC : Nat
  ats : Array (Int × Int)
  mA : Option Addr
  mC : Nat
  mks : Array Int
  dn : Int
def msgV (m : PM) : Value := .agg #[.int .i64 m.k, .int .i64 m.fr, .int .i64 m.id, .int .i64 m.t, .int .i64 m.bal, .int .i64 m.abal, .int .i64 m.ph, .int .i64 m.q, .string m.pay, .int .i64 m.lo, .int .i64 m.hi, .slice m.aA m.ats.size m.aC, .slice m.mA m.mks.size m.mC, .int .i64 m.dn]
def msgC (m : PM) : Array Value := #[.int .i64 m.k, .int .i64 m.fr, .int .i64 m.id, .int .i64 m.t, .int .i64 m.bal, .int .i64 m.abal, .int .i64 m.ph, .int .i64 m.q, .string m.pay, .int .i64 m.lo, .int .i64 m.hi, .slice m.aA m.ats.size m.aC, .slice m.mA m.mks.size m.mC, .int .i64 m.dn]
/-- Its rows read as they should, and are not too long. -/
structure RdM (w : World) (m : PM) : Prop where
  ra : RdK encA 2 w.heap.size w m.aA m.ats
  rm : RdI w.heap.size w m.mA m.mks
  sa : m.ats.size ≤ 1000000
  sm : m.mks.size ≤ 1000000
  sp : m.pay.size ≤ 1000000
theorem RdM.next {w w' : World} {m : PM} (h : RdM w m) (hb : Below w.heap.size w w') : RdM w' m := ⟨h.ra.next hb, h.rm.next hb, h.sa, h.sm, h.sp⟩
/-- Are two the same? -/
def sameM (a b : PM) : Bool := decide (a.k = b.k ∧ a.fr = b.fr ∧ a.id = b.id ∧ a.t = b.t ∧ a.bal = b.bal ∧ a.abal = b.abal ∧ a.ph = b.ph ∧ a.q = b.q ∧ a.pay = b.pay ∧ a.lo = b.lo ∧ a.hi = b.hi ∧ a.dn = b.dn ∧ a.ats = b.ats ∧ a.mks = b.mks)
theorem str_eq {a b : ByteArray} : (a.toList == b.toList) = decide (a = b) := by
  by_cases h : a = b
  · subst h; simp
  · have : a.toList ≠ b.toList := fun e => h (by
      rw [Lib.toList_data, Lib.toList_data] at e
      exact ByteArray.ext (Array.ext' e))
    simp [h, this]
end Go.Proofs.YtlpplnmmcgdooaaGreatDoor
