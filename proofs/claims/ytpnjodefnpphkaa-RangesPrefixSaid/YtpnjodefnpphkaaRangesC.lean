/- Contracts of the layer 'ranges' and of the document's: in, within, Has, Count, Prefix. -/
import Derived.Test.YtpnjodefnpphkaaRangesB
namespace Go.Proofs.Ytpnjodefnpphkaa
open Go.RowKit Go.Sort Go.Lib

def inB (n : Int) (x : Int × Int) : Bool := decide (x.1 ≤ n ∧ n ≤ x.2)
def inR (d : Array (Int × Int)) (n : Int) : Bool := d.toList.any (inB n)
theorem inR_yes {d : Array (Int × Int)} {n : Int} {j : Nat} (hj : j < d.size) (h : inB n d[j]! = true) : inR d n = true := by
  unfold inR; rw [List.any_eq_true]; exact ⟨d[j]!, by rw [getElem!_pos d j hj]; simp, h⟩
theorem inR_no {d : Array (Int × Int)} {n : Int} (h : ∀ j, j < d.size → inB n d[j]! = false) : inR d n = false := by
  unfold inR; rw [List.any_eq_false]
  intro x hx
  obtain ⟨j, hj, rfl⟩ := List.mem_iff_getElem.1 hx
  have := h j (by simpa using hj)
  rw [getElem!_pos d j (by simpa using hj)] at this
  simpa using this
theorem ok_at {d : Array (Int × Int)} (h : setE d = 0) {k : Nat} (hk : k < d.size) : 1 ≤ d[k]!.1 ∧ d[k]!.1 ≤ d[k]!.2 ∧ d[k]!.2 ≤ 1000000 ∧ (0 < k → d[k - 1]!.2 + 1 < d[k]!.1) := by
  have := (setE_all h).2 k hk
  unfold badAt at this
  rw [decide_eq_false_iff_not] at this
  refine ⟨by omega, by omega, by omega, fun h0 => by omega⟩
theorem gmay_any (A : Option Addr) (c : Nat) (d : Array (Int × Int)) (w : World) (h : RdK encR 2 w.heap.size w A d) :
    Calls Try.prog 55 #[.slice A d.size c] w fun e w' => e = .returned (.bool (setE d == 0)) ∧ Below w.heap.size w w' := by
  go_enter Try.func55, Try.ntmps55
  go_wp2_with (go_at_call 24; refine (gCheck_any _ _ d _ h).mono ?_; rintro e w' ⟨rfl, hb⟩)
  go_ret
  exact ⟨rfl, hb⟩
theorem has1_any (n : Int) (x : Int × Int) (a : Addr) (w : World) (ha : a.block < w.heap.size) (hc : w.cell? a = some (.int .i64 n)) :
    Calls Try.prog 57 #[.agg #[.int .i64 x.1, .int .i64 x.2], .pointer (some a)] w fun e w' => e = .returned (.bool (inB n x)) ∧ Below w.heap.size w w' := by
  have hc' : ∀ o, (w.alloc o).cell? a = some (.int .i64 n) := fun o => (World.cell?_alloc_lt w o a ha).trans hc
  go_enter Try.func57, Try.ntmps57
  go_wp2
  all_goals
    go_ret
    refine ⟨ret_bool ?_, bel1 _ _⟩
    unfold inB
    first | (rw [Bool.eq_iff_iff, decide_eq_true_iff, decide_eq_true_iff]; omega) | (symm; rw [decide_eq_true_iff]; omega) | (symm; rw [decide_eq_false_iff_not]; omega)
set_option maxHeartbeats 1000000 in
theorem ContR_empty (A : Option Addr) (c : Nat) (fv : Value) (w : World) :
    Calls Try.prog 56 #[.slice A 0 c, fv] w fun e w' => e = .returned (.bool false) ∧ w = w' := by
  go_enter Try.func56, Try.ntmps56
  go_wp2
  refine wp_loop_rounds 1 ?_; rw [rounds_succ]
  go_wp2
  go_ret
  exact ⟨rfl, rfl⟩
theorem ContR (p : Int × Int → Bool) (g : Nat) (lb : Array Value) (A : Option Addr) (c : Nat) (d : Array (Int × Int)) (w : World) (h : RdK encR 2 w.heap.size w A d) (hd : d.size ≤ 100000000) (eg : ∀ args w, (callFunc g args).run Try.prog w = .ok (.enter g args) w) (hp : PredBelow Try.prog g lb (fun x : Int × Int => .agg (encR x).toArray) p w) :
    Calls Try.prog 56 #[.slice A d.size c, .func (.func g) #[] lb] w fun e w' => e = .returned (.bool (d.toList.any p)) ∧ Below w.heap.size w w' := by
  rcases Nat.eq_zero_or_pos d.size with h0 | h0
  · have e0 : d = #[] := Array.eq_empty_of_size_eq_zero h0
    subst e0
    exact (ContR_empty A c _ w).mono fun e w' ⟨he, hw⟩ => ⟨by rw [he]; rfl, by rw [← hw]; exact Below.refl _ _⟩
  · obtain ⟨b, off, rfl, hb, hc⟩ := h h0
    have := AnyQ.slices_ContainsFunc Try.laysContR 2 Try.isAgg42 Try.sizeOf42 encR (fun _ => rfl) p g lb eg b off d.size c d.toList w hp (by simp) (by omega) hb (fun j hj i v hv => by
      have hj' : j < d.size := by simpa using hj
      have hi : i < 2 := by
        rcases Nat.lt_or_ge i 2 with h' | h'
        · exact h'
        · rw [List.getElem?_eq_none (by show 2 ≤ i; exact h')] at hv; cases hv
      have e1 : d.toList[j]! = d[j]! := by simp [hj']
      rw [e1] at hv
      rw [Nat.add_assoc, hc _ (lt_flat hj' hi), flat_at _ _ _ _ _ hj' hi]
      rw [List.getElem!_eq_getElem?_getD, hv]; rfl)
    rwa [show d.toList.take d.size = d.toList from List.take_of_length_le (by simp)] at this
def hasB (d : Array (Int × Int)) (n : Int) : Bool := (setE d == 0) && inR d n
set_option maxHeartbeats 1000000 in
theorem gHas_any (A : Option Addr) (c : Nat) (d : Array (Int × Int)) (n : Int) (w : World) (h : RdK encR 2 w.heap.size w A d) :
    Calls Try.prog 26 #[.slice A d.size c, .int .i64 n] w fun e w' => e = .returned (.bool (hasB d n)) ∧ Below w.heap.size w w' := by
  have r0 := Lib.hid ((h.alloc (Nat.le_refl _) (.cells #[.int .i64 n] 3)).mono (show w.heap.size ≤ (w.alloc (.cells #[.int .i64 n] 3)).heap.size by simp))
  by_cases hs : setE d = 0
  · have hq : (setE d == 0) = true := by simp [hs]
    have hd := (setE_all hs).1
    have HH : Hid (hasB d n = inR d n) := by show _ = _; unfold hasB; rw [hq]; rfl
    clear hs
    go_enter Try.func26, Try.ntmps26
    go_wp2_with fail
    refine (gmay_any _ _ d _ r0.out).mono ?_
    rintro e w1 ⟨rfl, hb1⟩
    have hz1 : w.heap.size < w1.heap.size := by have := hb1.size; simp at this; omega
    have hc1 : w1.cell? ⟨w.heap.size, 0, none⟩ = some (.int .i64 n) := (hb1.cell (p := ⟨w.heap.size, 0, none⟩) (by simp)).trans (cell_new w _ _ 0)
    have hC : Calls Try.prog 56 #[.slice A d.size c, .func (.func 57) #[] #[.pointer (some ⟨w.heap.size, 0, none⟩)]] w1 fun e w' => e = .returned (.bool (inR d n)) ∧ Below w1.heap.size w1 w' := ContR (inB n) 57 #[.pointer (some ⟨w.heap.size, 0, none⟩)] A c d w1 ((r0.out.below hb1).mono hb1.size) (by omega) (enters_of Try.func57 (by kernel_rfl) rfl)
      (fun W x hbW => (has1_any n x ⟨w.heap.size, 0, none⟩ W (Nat.lt_of_lt_of_le hz1 hbW.size) ((hbW.cell (p := ⟨w.heap.size, 0, none⟩) hz1).trans hc1)).mono fun _ _ ⟨he, hb'⟩ => ⟨he, hbW.trans (hb'.mono hbW.size)⟩)
    have HC := Lib.hid hC
    clear hC hc1
    generalize inR d n = v at HC HH
    go_wp2_with fail
    refine HC.out.mono ?_
    rintro e w2 ⟨rfl, hb2⟩
    go_wp2
    go_ret
    exact ⟨ret_bool HH.out.symm, belStep (belStep (bel1 _ _) hb1) hb2⟩
  · have hq : (setE d == 0) = false := by simpa using hs
    have HH : Hid (hasB d n = false) := by show _ = _; unfold hasB; rw [hq]; rfl
    clear hs
    go_enter Try.func26, Try.ntmps26
    go_wp2_with fail
    refine (gmay_any _ _ d _ r0.out).mono ?_
    rintro e w1 ⟨rfl, hb1⟩
    go_wp2
    go_ret
    exact ⟨ret_bool HH.out.symm, belStep (bel1 _ _) hb1⟩
set_option maxHeartbeats 1000000 in
theorem rin_any (A : Option Addr) (c : Nat) (d : Array (Int × Int)) (n : Int) (B : Nat) (w : World) (h : RdK encR 2 B w A d) (hd : d.size ≤ 100000000) :
    Calls Try.prog 58 #[.slice A d.size c, .int .i64 n] w fun e w' => e = .returned (.bool (inR d n)) ∧ w = w' := by
  have HY := Lib.hid (fun j hj hb => @inR_yes d n j hj hb)
  have HN := Lib.hid (@inR_no d n)
  go_enter Try.func58, Try.ntmps58
  go_wp2
  go_loop [5] (fun i => ∃ k : Nat, k ≤ d.size ∧ i = .int .i64 k ∧ ∀ j, j < k → inB n d[j]! = false) (fun i => d.size - (intOf i).toNat)
  case atStart => exact ⟨0, Nat.zero_le _, rfl, fun j hj => absurd hj (by omega)⟩
  case round =>
    obtain ⟨k, hk, rfl, hj⟩ := hrel
    have HJ := Lib.hid hj; clear hj
    by_cases hlt : k < d.size
    · obtain ⟨b, off, rfl, _, f⟩ := h.at_ hlt
      have f0 := f 0 (by omega)
      have f1 := f 1 (by omega)
      have HB : Hid (inB n d[k]! = decide (d[k]!.1 ≤ n ∧ n ≤ d[k]!.2)) := rfl
      have HYk := Lib.hid (HY.out k hlt)
      have HNk : Hid (inB n d[k]! = false → ∀ j, j < k + 1 → inB n d[j]! = false) := fun hf j hj => by
        rcases Nat.lt_or_ge j k with h' | h'
        · exact HJ.out j h'
        · obtain rfl : j = k := by omega
          exact hf
      generalize d[k]! = x at f0 f1 HB HYk HNk
      simp only [Nat.add_zero, encR, List.getElem!_cons_zero, List.getElem!_cons_succ] at f0 f1
      clear f
      have kz : (k : Int) < (d.size : Int) := by omega
      go_wp2
      all_goals first
        | (go_ret; exact ⟨ret_bool (HYk.out (by rw [HB.out]; simp; omega)).symm, rfl⟩)
        | exact ⟨⟨k + 1, by omega, by go_num, HNk.out (by rw [HB.out]; simp; omega)⟩, by simp [intOf]; omega⟩
    · go_wp2
      go_ret
      exact ⟨ret_bool (HN.out fun j hj => HJ.out j (by omega)).symm, rfl⟩
set_option maxHeartbeats 1000000 in
theorem within_any (A : Option Addr) (c : Nat) (d : Array (Int × Int)) (n : Int) (B : Nat) (w : World) (h : RdK encR 2 B w A d) (hd : d.size ≤ 100000000) :
    Calls Try.prog 40 #[.slice A d.size c, .int .i64 n] w fun e w' => e = .returned (.bool (inR d n)) ∧ w = w' := by
  have HY := Lib.hid (fun j hj hb => @inR_yes d n j hj hb)
  have HN := Lib.hid (@inR_no d n)
  go_enter Try.func40, Try.ntmps40
  go_wp2
  go_loop [5] (fun i => ∃ k : Nat, k ≤ d.size ∧ i = .int .i64 k ∧ ∀ j, j < k → inB n d[j]! = false) (fun i => d.size - (intOf i).toNat)
  case atStart => exact ⟨0, Nat.zero_le _, rfl, fun j hj => absurd hj (by omega)⟩
  case round =>
    obtain ⟨k, hk, rfl, hj⟩ := hrel
    have HJ := Lib.hid hj; clear hj
    by_cases hlt : k < d.size
    · obtain ⟨b, off, rfl, _, f⟩ := h.at_ hlt
      have f0 := f 0 (by omega)
      have f1 := f 1 (by omega)
      have HB : Hid (inB n d[k]! = decide (d[k]!.1 ≤ n ∧ n ≤ d[k]!.2)) := rfl
      have HYk := Lib.hid (HY.out k hlt)
      have HNk : Hid (inB n d[k]! = false → ∀ j, j < k + 1 → inB n d[j]! = false) := fun hf j hj => by
        rcases Nat.lt_or_ge j k with h' | h'
        · exact HJ.out j h'
        · obtain rfl : j = k := by omega
          exact hf
      generalize d[k]! = x at f0 f1 HB HYk HNk
      simp only [Nat.add_zero, encR, List.getElem!_cons_zero, List.getElem!_cons_succ] at f0 f1
      clear f
      have kz : (k : Int) < (d.size : Int) := by omega
      go_wp2
      all_goals first
        | (go_ret; exact ⟨ret_bool (HYk.out (by rw [HB.out]; simp; omega)).symm, rfl⟩)
        | exact ⟨⟨k + 1, by omega, by go_num, HNk.out (by rw [HB.out]; simp; omega)⟩, by simp [intOf]; omega⟩
    · go_wp2
      go_ret
      exact ⟨ret_bool (HN.out fun j hj => HJ.out j (by omega)).symm, rfl⟩
theorem r4Has_any (A : Option Addr) (c : Nat) (d : Array (Int × Int)) (n : Int) (B : Nat) (w : World) (h : RdK encR 2 B w A d) :
    Calls Try.prog 27 #[.slice A d.size c, .int .i64 n] w fun e w' => e = .returned (.bool (hasB d n)) ∧ Below w.heap.size w w' := by
  by_cases hs : setE d = 0
  · have hq : (setE d == 0) = true := by simp [hs]
    have hd := (setE_all hs).1
    have HH : Hid (hasB d n = inR d n) := by show _ = _; unfold hasB; rw [hq]; rfl
    clear hs
    go_enter Try.func27, Try.ntmps27
    go_wp2_with fail
    refine (r4Check_any _ _ d _ _ h).mono ?_
    rintro e w1 ⟨rfl, q, rfl⟩
    go_wp2_with fail
    refine (rin_any _ _ d _ B _ (by exact h) (by omega)).mono ?_
    rintro e w2 ⟨rfl, rfl⟩
    go_wp2
    go_ret
    exact ⟨ret_bool HH.out.symm, belDrewN (Below.refl _ _) _⟩
  · have hq : (setE d == 0) = false := by simpa using hs
    have HH : Hid (hasB d n = false) := by show _ = _; unfold hasB; rw [hq]; rfl
    clear hs
    go_enter Try.func27, Try.ntmps27
    go_wp2_with fail
    refine (r4Check_any _ _ d _ _ h).mono ?_
    rintro e w1 ⟨rfl, q, rfl⟩
    go_wp2
    go_ret
    exact ⟨ret_bool HH.out.symm, belDrewN (Below.refl _ _) _⟩
end Go.Proofs.Ytpnjodefnpphkaa
