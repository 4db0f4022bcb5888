/- Contracts of the layer 'ranges' and of the document's: Count, Prefix. -/
import Derived.Test.YtpnjodefnpphkaaRangesC
namespace Go.Proofs.Ytpnjodefnpphkaa
open Go.RowKit Go.Sort Go.Lib

/-- How many numbers the first k ranges have. -/
def cntN (d : Array (Int × Int)) : Nat → Int
  | 0 => 0
  | k + 1 => cntN d k + (d[k]!.2 - d[k]!.1 + 1)
def cntE (d : Array (Int × Int)) : Int := if setE d = 0 then cntN d d.size else 0
theorem cntN_bd {d : Array (Int × Int)} (h : setE d = 0) : ∀ k, k ≤ d.size → 0 ≤ cntN d k ∧ cntN d k ≤ 1000000 * k
  | 0, _ => by simp [cntN]
  | k + 1, hk => by
    have := cntN_bd h k (by omega)
    have o := ok_at h (k := k) (by omega)
    simp only [cntN]
    omega
set_option maxHeartbeats 2000000 in
theorem gCount_any (A : Option Addr) (c : Nat) (d : Array (Int × Int)) (w : World) (h : RdK encR 2 w.heap.size w A d) (hd : d.size ≤ 100000000) :
    Calls Try.prog 28 #[.slice A d.size c] w fun e w' => e = .returned (.int .i64 (cntE d)) ∧ Below w.heap.size w w' := by
  by_cases hs : setE d = 0
  · have hq : (setE d == 0) = true := by simp [hs]
    have HH : Hid (cntE d = cntN d d.size) := by show _ = _; unfold cntE; rw [if_pos hs]
    have HO := Lib.hid (fun k hk => @ok_at d hs k hk)
    have HK := Lib.hid (cntN_bd hs)
    have hd' := (setE_all hs).1
    clear hs
    go_enter Try.func28, Try.ntmps28
    go_wp2
    go_loopw [3, 8] (fun n i wr => ∃ k : Nat, k ≤ d.size ∧ i = .int .i64 k ∧ n = .int .i64 (cntN d k) ∧ Below w.heap.size w wr) (fun _ i _ => d.size - (intOf i).toNat)
    case atStart => exact ⟨0, Nat.zero_le _, rfl, rfl, Below.refl _ _⟩
    case round =>
      obtain ⟨k, hk, rfl, rfl, hb⟩ := hrel
      by_cases hlt : k < d.size
      · have HR := Lib.hid (h.below hb)
        have ho := HO.out k hlt
        have h2 := HK.out k hk
        obtain ⟨b, off, rfl, _, f⟩ := (h.below hb).at_ hlt
        have f0 := f 0 (by omega)
        have f1 := f 1 (by omega)
        have HL : Hid (cntN d (k + 1) = cntN d k + (d[k]!.2 - d[k]!.1 + 1)) := rfl
        generalize d[k]! = x at f0 f1 HL ho
        simp only [Nat.add_zero, encR, List.getElem!_cons_zero, List.getElem!_cons_succ] at f0 f1
        generalize cntN d k = l at *
        clear f
        have kz : (k : Int) < (d.size : Int) := by omega
        go_wp2_with fail
        refine (gmay_any _ _ d _ ((HR.out.alloc (Nat.le_trans hb.size (Nat.le_refl _)) _).mono (by have := hb.size; simp; omega))).mono ?_
        rintro e w1 ⟨rfl, hb1⟩
        have c0 : w1.cell? ⟨wr.heap.size, 0, none⟩ = some (.int .i64 x.1) := (hb1.cell (p := ⟨wr.heap.size, 0, none⟩) (by simp)).trans (cell_new wr _ _ 0)
        have c1 : w1.cell? ⟨wr.heap.size, 1, none⟩ = some (.int .i64 x.2) := (hb1.cell (p := ⟨wr.heap.size, 1, none⟩) (by simp)).trans (cell_new wr _ _ 1)
        go_wp2
        exact ⟨⟨k + 1, by omega, by go_num, by rw [HL.out], belStep (belAlloc hb _) hb1⟩, by simp [intOf]; omega⟩
      · obtain rfl : k = d.size := by omega
        go_wp2
        go_ret
        exact ⟨ret_int HH.out.symm, hb⟩
  · have hq : (setE d == 0) = false := by simpa using hs
    have HH : Hid (cntE d = 0) := by show _ = _; unfold cntE; rw [if_neg hs]
    clear hs
    go_enter Try.func28, Try.ntmps28
    go_wp2
    go_loopw [3, 8] (fun n i wr => ∃ k : Nat, k ≤ d.size ∧ i = .int .i64 k ∧ n = .int .i64 0 ∧ Below w.heap.size w wr) (fun _ i _ => d.size - (intOf i).toNat)
    case atStart => exact ⟨0, Nat.zero_le _, rfl, rfl, Below.refl _ _⟩
    case round =>
      obtain ⟨k, hk, rfl, rfl, hb⟩ := hrel
      by_cases hlt : k < d.size
      · have HR := Lib.hid (h.below hb)
        obtain ⟨b, off, rfl, _, f⟩ := (h.below hb).at_ hlt
        have f0 := f 0 (by omega)
        have f1 := f 1 (by omega)
        generalize d[k]! = x at f0 f1
        simp only [Nat.add_zero, encR, List.getElem!_cons_zero, List.getElem!_cons_succ] at f0 f1
        clear f
        have kz : (k : Int) < (d.size : Int) := by omega
        go_wp2_with fail
        refine (gmay_any _ _ d _ ((HR.out.alloc (Nat.le_trans hb.size (Nat.le_refl _)) _).mono (by have := hb.size; simp; omega))).mono ?_
        rintro e w1 ⟨rfl, hb1⟩
        go_wp2
        exact ⟨⟨k + 1, by omega, by go_num, rfl, belStep (belAlloc hb _) hb1⟩, by simp [intOf]; omega⟩
      · go_wp2
        go_ret
        exact ⟨ret_int HH.out.symm, hb⟩
set_option maxHeartbeats 2000000 in
theorem r4Count_any (A : Option Addr) (c : Nat) (d : Array (Int × Int)) (B : Nat) (w : World) (h : RdK encR 2 B w A d) :
    Calls Try.prog 29 #[.slice A d.size c] w fun e w' => e = .returned (.int .i64 (cntE d)) ∧ ∃ q, w' = w.drewN q := by
  by_cases hs : setE d = 0
  · have HH : Hid (cntE d = cntN d d.size) := by show _ = _; unfold cntE; rw [if_pos hs]
    have HO := Lib.hid (fun k hk => @ok_at d hs k hk)
    have HK := Lib.hid (cntN_bd hs)
    have hd' := (setE_all hs).1
    go_enter Try.func29, Try.ntmps29
    go_wp2
    go_loopw [3, 4] (fun n i wr => ∃ k q : Nat, k ≤ d.size ∧ i = .int .i64 k ∧ n = .int .i64 (cntN d k) ∧ wr = w.drewN q) (fun _ i _ => d.size - (intOf i).toNat)
    case atStart => exact ⟨0, 0, Nat.zero_le _, rfl, rfl, rfl⟩
    case round =>
      obtain ⟨k, q, hk, rfl, rfl, rfl⟩ := hrel
      by_cases hlt : k < d.size
      · have HR := Lib.hid h
        have ho := HO.out k hlt
        have h2 := HK.out k hk
        obtain ⟨b, off, rfl, _, f⟩ := h.at_ hlt
        have f0 := f 0 (by omega)
        have f1 := f 1 (by omega)
        have HL : Hid (cntN d (k + 1) = cntN d k + (d[k]!.2 - d[k]!.1 + 1)) := rfl
        generalize d[k]! = x at f0 f1 HL ho
        simp only [Nat.add_zero, encR, List.getElem!_cons_zero, List.getElem!_cons_succ] at f0 f1
        generalize cntN d k = l at *
        clear f
        have kz : (k : Int) < (d.size : Int) := by omega
        have e1 : IntKind.i64.wrap (l + x.2) = l + x.2 := by rw [IntKind.wrap_i64]; omega
        have e2 : IntKind.i64.wrap (l + x.2 + 1) = l + x.2 + 1 := by rw [IntKind.wrap_i64]; omega
        have e3 : IntKind.i64.wrap (l + x.2 + 1 - x.1) = l + x.2 + 1 - x.1 := by rw [IntKind.wrap_i64]; omega
        go_wp2_with fail
        refine (r4Check_any _ _ d B _ (by exact HR.out)).mono ?_
        rintro e w1 ⟨rfl, q1, rfl⟩
        go_wp2_with fail
        go_quiet (fail)
        go_wp2
        go_roundw
        case rel => exact ⟨k + 1, _, by omega, by go_num, by rw [HL.out]; congr 1; omega, rfl⟩
        case measure => simp [intOf]; omega
      · obtain rfl : k = d.size := by omega
        go_wp2
        go_ret
        exact ⟨ret_int HH.out.symm, q, rfl⟩
  · have HH : Hid (cntE d = 0) := by show _ = _; unfold cntE; rw [if_neg hs]
    have hs2 : setE d ≠ 0 := hs
    go_enter Try.func29, Try.ntmps29
    go_wp2
    refine wp_loop_rounds 1 ?_; rw [rounds_succ]
    by_cases h0 : 0 < d.size
    · have kz : (0 : Int) < (d.size : Int) := by omega
      go_wp2_with fail
      refine (r4Check_any _ _ d B _ h).mono ?_
      rintro e w1 ⟨rfl, q1, rfl⟩
      go_wp2
      go_ret
      exact ⟨ret_int HH.out.symm, _, rfl⟩
    · go_wp2
      go_ret
      exact ⟨ret_int HH.out.symm, 0, rfl⟩
/-- The first range that goes on where `b` ends. -/
def preB (b : Int) (x : Int × Int) : Bool := decide (x.1 - 1 ≤ b ∧ b < x.2)
def preE (d : Array (Int × Int)) (b : Int) : Int := if setE d = 0 then ((d.toList.find? (preB b)).map (·.2)).getD b else b
theorem preE_at {d : Array (Int × Int)} {b : Int} {k : Nat} (hs : setE d = 0) (hk : k < d.size) (hj : ∀ j, j < k → preB b d[j]! = false) (h : preB b d[k]! = true) : preE d b = d[k]!.2 := by
  unfold preE
  rw [if_pos hs]
  have : d.toList.find? (preB b) = some d[k]! := by
    rw [List.find?_eq_some_iff_getElem]
    refine ⟨h, k, by simpa using hk, by rw [getElem!_pos d k hk]; simp, fun j hj' => ?_⟩
    have := hj j hj'
    rw [getElem!_pos d j (by omega)] at this
    simpa using this
  rw [this]; rfl
theorem preE_no {d : Array (Int × Int)} {b : Int} (hj : ∀ j, j < d.size → preB b d[j]! = false) : preE d b = b := by
  unfold preE
  split
  · have : d.toList.find? (preB b) = none := by
      rw [List.find?_eq_none]
      intro x hx
      obtain ⟨j, hj', rfl⟩ := List.mem_iff_getElem.1 hx
      have := hj j (by simpa using hj')
      rw [getElem!_pos d j (by simpa using hj')] at this
      simpa using this
    rw [this]; rfl
  · rfl
theorem preE_bad {d : Array (Int × Int)} {b : Int} (hs : setE d ≠ 0) : preE d b = b := by unfold preE; rw [if_neg hs]
set_option maxHeartbeats 2000000 in
theorem gPrefix_any (A : Option Addr) (c : Nat) (d : Array (Int × Int)) (n : Int) (w : World) (h : RdK encR 2 w.heap.size w A d) :
    Calls Try.prog 30 #[.slice A d.size c, .int .i64 n] w fun e w' => e = .returned (.int .i64 (preE d n)) ∧ Below w.heap.size w w' := by
  by_cases hs : setE d = 0
  · have hq : (setE d == 0) = true := by simp [hs]
    have HY := Lib.hid (fun k hk => @preE_at d n k hs hk)
    have HN := Lib.hid (@preE_no d n)
    have HO := Lib.hid (fun k hk => @ok_at d hs k hk)
    have hd' := (setE_all hs).1
    clear hs
    go_enter Try.func30, Try.ntmps30
    go_wp2_with fail
    refine (gmay_any _ _ d _ h).mono ?_
    rintro e w1 ⟨rfl, hb1⟩
    go_wp2
    go_loopw [13] (fun i wr => ∃ k : Nat, k ≤ d.size ∧ i = .int .i64 k ∧ (∀ j, j < k → preB n d[j]! = false) ∧ Below w.heap.size w wr) (fun i _ => d.size - (intOf i).toNat)
    case atStart => exact ⟨0, Nat.zero_le _, rfl, fun j hj => absurd hj (by omega), hb1⟩
    case round =>
      obtain ⟨k, hk, rfl, hj, hb⟩ := hrel
      have HJ := Lib.hid hj; clear hj
      by_cases hlt : k < d.size
      · obtain ⟨b, off, rfl, _, f⟩ := (h.below hb).at_ hlt
        have f0 := f 0 (by omega)
        have f1 := f 1 (by omega)
        have ho := HO.out k hlt
        have HB : Hid (preB n d[k]! = decide (d[k]!.1 - 1 ≤ n ∧ n < d[k]!.2)) := rfl
        have HYk := Lib.hid (HY.out k hlt HJ.out)
        have HNk : Hid (preB n d[k]! = false → ∀ j, j < k + 1 → preB n d[j]! = false) := fun hf j hj => by
          rcases Nat.lt_or_ge j k with h' | h'
          · exact HJ.out j h'
          · obtain rfl : j = k := by omega
            exact hf
        generalize d[k]! = x at f0 f1 HB HYk HNk ho
        simp only [Nat.add_zero, encR, List.getElem!_cons_zero, List.getElem!_cons_succ] at f0 f1
        clear f
        have kz : (k : Int) < (d.size : Int) := by omega
        go_wp2
        all_goals first
          | (go_ret; exact ⟨ret_int (HYk.out (by rw [HB.out]; simp; omega)).symm, belAlloc hb _⟩)
          | exact ⟨⟨k + 1, by omega, by go_num, HNk.out (by rw [HB.out]; simp; omega), belAlloc hb _⟩, by simp [intOf]; omega⟩
      · go_wp2
        go_ret
        exact ⟨ret_int (HN.out fun j hj => HJ.out j (by omega)).symm, hb⟩
  · have hq : (setE d == 0) = false := by simpa using hs
    have HH := Lib.hid (preE_bad (b := n) hs)
    clear hs
    go_enter Try.func30, Try.ntmps30
    go_wp2_with fail
    refine (gmay_any _ _ d _ h).mono ?_
    rintro e w1 ⟨rfl, hb1⟩
    go_wp2
    go_ret
    exact ⟨ret_int HH.out.symm, hb1⟩
set_option maxHeartbeats 2000000 in
theorem r4Prefix_any (A : Option Addr) (c : Nat) (d : Array (Int × Int)) (n : Int) (B : Nat) (w : World) (h : RdK encR 2 B w A d) :
    Calls Try.prog 31 #[.slice A d.size c, .int .i64 n] w fun e w' => e = .returned (.int .i64 (preE d n)) ∧ ∃ q, w' = w.drewN q := by
  by_cases hs : setE d = 0
  · have HY := Lib.hid (fun k hk => @preE_at d n k hs hk)
    have HN := Lib.hid (@preE_no d n)
    have HO := Lib.hid (fun k hk => @ok_at d hs k hk)
    have hd' := (setE_all hs).1
    go_enter Try.func31, Try.ntmps31
    go_wp2_with fail
    refine (r4Check_any _ _ d B _ h).mono ?_
    rintro e w1 ⟨rfl, q, rfl⟩
    go_wp2
    go_loop [5] (fun i => ∃ k : Nat, k ≤ d.size ∧ i = .int .i64 k ∧ (∀ j, j < k → preB n d[j]! = false)) (fun i => d.size - (intOf i).toNat)
    case atStart => exact ⟨0, Nat.zero_le _, rfl, fun j hj => absurd hj (by omega)⟩
    case round =>
      obtain ⟨k, hk, rfl, hj⟩ := hrel
      have HJ := Lib.hid hj; clear hj
      by_cases hlt : k < d.size
      · obtain ⟨b, off, rfl, _, f⟩ := h.at_ hlt
        have f0 := f 0 (by omega)
        have f1 := f 1 (by omega)
        have ho := HO.out k hlt
        have HB : Hid (preB n d[k]! = decide (d[k]!.1 - 1 ≤ n ∧ n < d[k]!.2)) := rfl
        have HYk := Lib.hid (HY.out k hlt HJ.out)
        have HNk : Hid (preB n d[k]! = false → ∀ j, j < k + 1 → preB n d[j]! = false) := fun hf j hj => by
          rcases Nat.lt_or_ge j k with h' | h'
          · exact HJ.out j h'
          · obtain rfl : j = k := by omega
            exact hf
        generalize d[k]! = x at f0 f1 HB HYk HNk ho
        simp only [Nat.add_zero, encR, List.getElem!_cons_zero, List.getElem!_cons_succ] at f0 f1
        have f0' : (w.drewN q).cell? { block := b, off := off + k * 2 } = some (Value.int IntKind.i64 x.1) := f0
        have f1' : (w.drewN q).cell? { block := b, off := off + k * 2 + 1 } = some (Value.int IntKind.i64 x.2) := f1
        clear f
        have kz : (k : Int) < (d.size : Int) := by omega
        go_wp2
        all_goals first
          | (go_ret; exact ⟨ret_int (HYk.out (by rw [HB.out]; simp; omega)).symm, q, rfl⟩)
          | exact ⟨⟨k + 1, by omega, by go_num, HNk.out (by rw [HB.out]; simp; omega)⟩, by simp [intOf]; omega⟩
      · go_wp2
        go_ret
        exact ⟨ret_int (HN.out fun j hj => HJ.out j (by omega)).symm, q, rfl⟩
  · have hs2 : setE d ≠ 0 := hs
    have HH := Lib.hid (preE_bad (b := n) hs)
    go_enter Try.func31, Try.ntmps31
    go_wp2_with fail
    refine (r4Check_any _ _ d B _ h).mono ?_
    rintro e w1 ⟨rfl, q, rfl⟩
    go_wp2
    go_ret
    exact ⟨ret_int HH.out.symm, _, rfl⟩
end Go.Proofs.Ytpnjodefnpphkaa
