/- Contracts of the layer 'ranges': Check. Contracts of the layer 'ranges' and of the document's: Check, in, within, Has, Count, Prefix. Contracts of the layer 'ranges' and of the document's: in, within, Has, Count, Prefix. Contracts of the layer 'ranges' and of the document's: Count, Prefix. Contracts of the layer 'ranges': a clone; the ranges sorted; held; fits; Same. -/
import Derived.Test.YtgpejfkmdenonaaGreatRead
import Derived.Test.YtgpejfkmdenonaaGreatShelf
import Derived.Shelf.SlSortCmp.NoneTotal
import Derived.Test.YtgpejfkmdenonaaGreatOwnK
namespace Go.Proofs.YtgpejfkmdenonaaGreat
open Go.RowKit Go.Sort Go.Lib

def encR (x : Int × Int) : List Value := [.int .i64 x.1, .int .i64 x.2]
/-- Is the k-th range bad, or not above the one ahead of it? -/
def badAt (d : Array (Int × Int)) (k : Nat) : Bool := decide (d[k]!.1 < 1 ∨ 1000000 < d[k]!.2 ∨ d[k]!.2 < d[k]!.1 ∨ (0 < k ∧ d[k]!.1 - 1 ≤ d[k - 1]!.2))
def setE_R (d : Array (Int × Int)) : Int := if 1000 < d.size ∨ (List.range d.size).any (badAt d) = true then 2 else 0
theorem setE_bad {d : Array (Int × Int)} {k : Nat} (hk : k < d.size) (h : badAt d k = true) : setE_R d = 2 := by
  unfold setE_R; rw [if_pos]; right; rw [List.any_eq_true]; exact ⟨k, by simpa using hk, h⟩
theorem setE_big {d : Array (Int × Int)} (h : 1000 < d.size) : setE_R d = 2 := by unfold setE_R; rw [if_pos (Or.inl h)]
theorem setE_ok {d : Array (Int × Int)} (h1 : d.size ≤ 1000) (h : ∀ k, k < d.size → badAt d k = false) : setE_R d = 0 := by
  unfold setE_R; rw [if_neg]
  rintro (h' | h')
  · omega
  · rw [List.any_eq_true] at h'
    obtain ⟨k, hk, hb⟩ := h'
    rw [h k (by simpa using hk)] at hb; cases hb
theorem setE_all {d : Array (Int × Int)} (h : setE_R d = 0) : d.size ≤ 1000 ∧ ∀ k, k < d.size → badAt d k = false := by
  unfold setE_R at h
  split at h
  · cases h
  · rename_i hh
    refine ⟨by omega, fun k hk => ?_⟩
    cases hb : badAt d k
    · rfl
    · exact absurd (Or.inr (by rw [List.any_eq_true]; exact ⟨k, by simpa using hk, hb⟩)) hh
/-- The end of the range ahead of the k-th. -/
def lastN (d : Array (Int × Int)) (k : Nat) : Int := if k = 0 then -1 else d[k - 1]!.2
set_option maxHeartbeats 2000000 in
theorem gCheck_any (A : Option Addr) (c : Nat) (d : Array (Int × Int)) (w : World) (h : RdK encR 2 w.heap.size w A d) :
    Calls Tryz.prog 40 #[.slice A d.size c] w fun e w' => e = .returned (.int .i64 (setE_R d)) ∧ Below w.heap.size w w' := by
  by_cases hd : 1000 < d.size
  · have HE := Lib.hid (setE_big hd)
    have hz : (1000 : Int) < (d.size : Int) := by omega
    go_enter Tryz.func40, Tryz.ntmps40
    go_wp2
    go_ret
    exact ⟨ret_int HE.out.symm, Below.refl _ _⟩
  · have hd' : d.size ≤ 1000 := by omega
    have hz : decide ((1000 : Int) < (d.size : Int)) = false := by simp; omega
    clear hd
    have HOK := Lib.hid (setE_ok hd')
    go_enter Tryz.func40, Tryz.ntmps40
    go_wp2
    go_loopw [3, 11] (fun l i wr => ∃ k : Nat, k ≤ d.size ∧ i = .int .i64 k ∧ l = .int .i64 (lastN d k) ∧ -1 ≤ lastN d k ∧ lastN d k ≤ 1000000 ∧ (∀ j, j < k → badAt d j = false) ∧ Below w.heap.size w wr) (fun _ i _ => d.size - (intOf i).toNat)
    case atStart => exact ⟨0, Nat.zero_le _, rfl, rfl, by simp [lastN], by simp [lastN], fun j hj => absurd hj (by omega), Below.refl _ _⟩
    case round =>
      obtain ⟨k, hk, rfl, rfl, l1, l2, hj, hb⟩ := hrel
      have HJ := Lib.hid hj; clear hj
      by_cases hlt : k < d.size
      · obtain ⟨b, off, rfl, _, f⟩ := (h.below hb).at_ hlt
        have f0 := f 0 (by omega)
        have f1 := f 1 (by omega)
        have HB : Hid (badAt d k = decide (d[k]!.1 < 1 ∨ 1000000 < d[k]!.2 ∨ d[k]!.2 < d[k]!.1 ∨ d[k]!.1 ≤ lastN d k + 1)) := by
          show _ = _
          unfold badAt lastN
          rw [decide_eq_decide]
          by_cases h0 : k = 0
          · subst h0; simp; omega
          · rw [if_neg h0]; constructor <;> intro hh <;> omega
        have HL : Hid (lastN d (k + 1) = d[k]!.2) := by show _ = _; unfold lastN; rw [if_neg (by omega)]; rfl
        have HBB := Lib.hid (fun h => @setE_bad d k hlt h)
        generalize d[k]! = x at f0 f1 HB HL
        simp only [Nat.add_zero, encR, List.getElem!_cons_zero, List.getElem!_cons_succ] at f0 f1
        generalize lastN d k = l at *
        clear f
        have kz : (k : Int) < (d.size : Int) := by omega
        go_wp2
        all_goals first
          | (go_ret; exact ⟨ret_int (HBB.out (by rw [HB.out]; simp; omega)).symm, belAlloc hb _⟩)
          | exact ⟨⟨k + 1, by omega, by go_num, by rw [HL.out], by rw [HL.out]; omega, by rw [HL.out]; omega, fun j hj => by
              rcases Nat.lt_or_ge j k with h' | h'
              · exact HJ.out j h'
              · obtain rfl : j = k := by omega
                rw [HB.out]; simp; omega, belAlloc hb _⟩, by simp [intOf]; omega⟩
      · go_wp2
        go_ret
        exact ⟨ret_int (HOK.out fun j hj => HJ.out j (by omega)).symm, hb⟩
end Go.Proofs.YtgpejfkmdenonaaGreat
namespace Go.Proofs.YtgpejfkmdenonaaGreat
open Go.RowKit Go.Sort Go.Lib

set_option maxHeartbeats 4000000 in
theorem r4Check_any (A : Option Addr) (c : Nat) (d : Array (Int × Int)) (B : Nat) (w : World) (h : RdK encR 2 B w A d) :
    Calls Tryz.prog 43 #[.slice A d.size c] w fun e w' => e = .returned (.int .i64 (setE_R d)) ∧ ∃ q, w' = w.drewN q := by
  by_cases hd : 1000 < d.size
  · have HE := Lib.hid (setE_big hd)
    have hz : (1000 : Int) < (d.size : Int) := by omega
    go_enter Tryz.func43, Tryz.ntmps43
    go_wp2
    go_ret
    exact ⟨ret_int HE.out.symm, 0, rfl⟩
  · have hd' : d.size ≤ 1000 := by omega
    have hz : decide ((1000 : Int) < (d.size : Int)) = false := by simp; omega
    clear hd
    have HOK := Lib.hid (setE_ok hd')
    go_enter Tryz.func43, Tryz.ntmps43
    go_wp2
    go_loopw [3] (fun i wr => ∃ k q : Nat, k ≤ d.size ∧ i = .int .i64 k ∧ wr = w.drewN q ∧ (∀ j, j < k → badAt d j = false)) (fun i _ => d.size - (intOf i).toNat)
    case atStart => exact ⟨0, 0, Nat.zero_le _, rfl, rfl, fun j hj => absurd hj (by omega)⟩
    case round =>
      obtain ⟨k, q, hk, rfl, rfl, hj⟩ := hrel
      have HJ := Lib.hid hj; clear hj
      by_cases hlt : k < d.size
      · have hR := h
        obtain ⟨b, off, rfl, _, f⟩ := h.at_ hlt
        have f0 := f 0 (by omega)
        have f1 := f 1 (by omega)
        have HBB := Lib.hid (fun h => @setE_bad d k hlt h)
        clear f
        have kz : (k : Int) < (d.size : Int) := by omega
        cases k with
        | zero =>
          have HB : Hid (badAt d 0 = decide (d[0]!.1 < 1 ∨ 1000000 < d[0]!.2 ∨ d[0]!.2 < d[0]!.1)) := by
            show _ = _; unfold badAt; rw [decide_eq_decide]; simp
          generalize d[0]! = x at f0 f1 HB
          simp only [Nat.add_zero, Nat.zero_mul, encR, List.getElem!_cons_zero, List.getElem!_cons_succ] at f0 f1
          clear hR
          by_cases t1 : x.1 < 1
          · go_wp2_with fail
            go_quiet (fail)
            go_wp2
            go_ret
            exact ⟨ret_int (HBB.out (by rw [HB.out]; simp; omega)).symm, _, World.drewN_drewN _ _ _⟩
          have t1b : decide (x.1 < 1) = false := by simp; omega
          by_cases t2 : 1000000 < x.2
          · go_wp2_with fail
            go_quiet (fail)
            go_wp2
            go_ret
            exact ⟨ret_int (HBB.out (by rw [HB.out]; simp; omega)).symm, _, World.drewN_drewN _ _ _⟩
          have t2b : decide (1000000 < x.2) = false := by simp; omega
          by_cases t3 : x.2 < x.1
          · go_wp2_with fail
            go_quiet (fail)
            go_wp2
            go_ret
            exact ⟨ret_int (HBB.out (by rw [HB.out]; simp; omega)).symm, _, World.drewN_drewN _ _ _⟩
          have t3b : decide (x.2 < x.1) = false := by simp; omega
          go_wp2_with fail
          go_quiet (fail)
          go_wp2
          go_roundw
          case rel => exact ⟨1, _, by omega, rfl, rfl, fun j hj => by
            obtain rfl : j = 0 := by omega
            rw [HB.out]; simp; omega⟩
          case measure => simp [intOf]; omega
        | succ m =>
          have HB : Hid (badAt d (m + 1) = decide (d[m + 1]!.1 < 1 ∨ 1000000 < d[m + 1]!.2 ∨ d[m + 1]!.2 < d[m + 1]!.1 ∨ d[m + 1]!.1 - 1 ≤ d[m]!.2)) := by
            show _ = _; unfold badAt; rw [decide_eq_decide]; simp
          obtain ⟨b', off', e', _, f'⟩ := hR.at_ (i := m) (by omega)
          injection e' with e'
          injection e' with e1 e2
          subst e1 e2
          have f2 := f' 1 (by omega)
          clear f' hR
          generalize d[m + 1]! = x at f0 f1 HB
          generalize d[m]! = y at f2 HB
          simp only [Nat.add_zero, encR, List.getElem!_cons_zero, List.getElem!_cons_succ] at f0 f1 f2
          have p0 : (0 : Int) ≤ (m : Int) + 1 := by omega
          have p1 : (0 : Int) < (m : Int) + 1 := by omega
          have e0 : ((m : Int) + 1).toNat = m + 1 := by omega
          have hwp : IntKind.i64.wrap (m : Int) = (m : Int) := by rw [IntKind.wrap_i64]; omega
          have mz : (m : Int) < (d.size : Int) := by omega
          by_cases t1 : x.1 < 1
          · go_wp2_with fail
            go_quiet (fail)
            go_wp2
            go_ret
            exact ⟨ret_int (HBB.out (by rw [HB.out]; simp; omega)).symm, _, World.drewN_drewN _ _ _⟩
          have t1b : decide (x.1 < 1) = false := by simp; omega
          by_cases t2 : 1000000 < x.2
          · go_wp2_with fail
            go_quiet (fail)
            go_wp2
            go_ret
            exact ⟨ret_int (HBB.out (by rw [HB.out]; simp; omega)).symm, _, World.drewN_drewN _ _ _⟩
          have t2b : decide (1000000 < x.2) = false := by simp; omega
          by_cases t3 : x.2 < x.1
          · go_wp2_with fail
            go_quiet (fail)
            go_wp2
            go_ret
            exact ⟨ret_int (HBB.out (by rw [HB.out]; simp; omega)).symm, _, World.drewN_drewN _ _ _⟩
          have t3b : decide (x.2 < x.1) = false := by simp; omega
          have hws : IntKind.i64.wrap (x.1 - 1) = x.1 - 1 := by rw [IntKind.wrap_i64]; omega
          by_cases t4 : x.1 - 1 ≤ y.2
          · go_wp2_with fail
            go_quiet (fail)
            go_wp2
            go_ret
            exact ⟨ret_int (HBB.out (by rw [HB.out]; simp; omega)).symm, _, World.drewN_drewN _ _ _⟩
          have t4b : decide (x.1 - 1 ≤ y.2) = false := by simp; omega
          go_wp2_with fail
          go_quiet (fail)
          go_wp2
          go_roundw
          case rel => exact ⟨m + 1 + 1, _, by omega, by go_num, rfl, fun j hj => by
            rcases Nat.lt_or_ge j (m + 1) with h' | h'
            · exact HJ.out j h'
            · obtain rfl : j = m + 1 := by omega
              rw [HB.out]; simp; omega⟩
          case measure => simp [intOf]; omega
      · go_wp2
        go_ret
        exact ⟨ret_int (HOK.out fun j hj => HJ.out j (by omega)).symm, q, rfl⟩
end Go.Proofs.YtgpejfkmdenonaaGreat
namespace Go.Proofs.YtgpejfkmdenonaaGreat
open Go.RowKit Go.Sort Go.Lib

def inB_R (n : Int) (x : Int × Int) : Bool := decide (x.1 ≤ n ∧ n ≤ x.2)
def inR (d : Array (Int × Int)) (n : Int) : Bool := d.toList.any (inB_R n)
theorem inR_yes {d : Array (Int × Int)} {n : Int} {j : Nat} (hj : j < d.size) (h : inB_R n d[j]! = true) : inR d n = true := by
  unfold inR; rw [List.any_eq_true]; exact ⟨d[j]!, by rw [getElem!_pos d j hj]; simp, h⟩
theorem inR_no {d : Array (Int × Int)} {n : Int} (h : ∀ j, j < d.size → inB_R n d[j]! = false) : inR d n = false := by
  unfold inR; rw [List.any_eq_false]
  intro x hx
  obtain ⟨j, hj, rfl⟩ := List.mem_iff_getElem.1 hx
  have := h j (by simpa using hj)
  rw [getElem!_pos d j (by simpa using hj)] at this
  simpa using this
theorem ok_at {d : Array (Int × Int)} (h : setE_R d = 0) {k : Nat} (hk : k < d.size) : 1 ≤ d[k]!.1 ∧ d[k]!.1 ≤ d[k]!.2 ∧ d[k]!.2 ≤ 1000000 ∧ (0 < k → d[k - 1]!.2 + 1 < d[k]!.1) := by
  have := (setE_all h).2 k hk
  unfold badAt at this
  rw [decide_eq_false_iff_not] at this
  refine ⟨by omega, by omega, by omega, fun h0 => by omega⟩
theorem gmay_any (A : Option Addr) (c : Nat) (d : Array (Int × Int)) (w : World) (h : RdK encR 2 w.heap.size w A d) :
    Calls Tryz.prog 53 #[.slice A d.size c] w fun e w' => e = .returned (.bool (setE_R d == 0)) ∧ Below w.heap.size w w' := by
  go_enter Tryz.func53, Tryz.ntmps53
  go_wp2_with (go_at_call 40; refine (gCheck_any _ _ d _ h).mono ?_; rintro e w' ⟨rfl, hb⟩)
  go_ret
  exact ⟨rfl, hb⟩
theorem has1_any (n : Int) (x : Int × Int) (a : Addr) (w : World) (ha : a.block < w.heap.size) (hc : w.cell? a = some (.int .i64 n)) :
    Calls Tryz.prog 55 #[.agg #[.int .i64 x.1, .int .i64 x.2], .pointer (some a)] w fun e w' => e = .returned (.bool (inB_R n x)) ∧ Below w.heap.size w w' := by
  have hc' : ∀ o, (w.alloc o).cell? a = some (.int .i64 n) := fun o => (World.cell?_alloc_lt w o a ha).trans hc
  go_enter Tryz.func55, Tryz.ntmps55
  go_wp2
  all_goals
    go_ret
    refine ⟨ret_bool ?_, bel1 _ _⟩
    unfold inB_R
    first | (rw [Bool.eq_iff_iff, decide_eq_true_iff, decide_eq_true_iff]; omega) | (symm; rw [decide_eq_true_iff]; omega) | (symm; rw [decide_eq_false_iff_not]; omega)
set_option maxHeartbeats 1000000 in
theorem ContR_empty (A : Option Addr) (c : Nat) (fv : Value) (w : World) :
    Calls Tryz.prog 54 #[.slice A 0 c, fv] w fun e w' => e = .returned (.bool false) ∧ w = w' := by
  go_enter Tryz.func54, Tryz.ntmps54
  go_wp2
  refine wp_loop_rounds 1 ?_; rw [rounds_succ]
  go_wp2
  go_ret
  exact ⟨rfl, rfl⟩
theorem ContR (p : Int × Int → Bool) (g : Nat) (lb : Array Value) (A : Option Addr) (c : Nat) (d : Array (Int × Int)) (w : World) (h : RdK encR 2 w.heap.size w A d) (hd : d.size ≤ 100000000) (eg : ∀ args w, (callFunc g args).run Tryz.prog w = .ok (.enter g args) w) (hp : PredBelow Tryz.prog g lb (fun x : Int × Int => .agg (encR x).toArray) p w) :
    Calls Tryz.prog 54 #[.slice A d.size c, .func (.func g) #[] lb] w fun e w' => e = .returned (.bool (d.toList.any p)) ∧ Below w.heap.size w w' := by
  rcases Nat.eq_zero_or_pos d.size with h0 | h0
  · have e0 : d = #[] := Array.eq_empty_of_size_eq_zero h0
    subst e0
    exact (ContR_empty A c _ w).mono fun e w' ⟨he, hw⟩ => ⟨by rw [he]; rfl, by rw [← hw]; exact Below.refl _ _⟩
  · obtain ⟨b, off, rfl, hb, hc⟩ := h h0
    have := AnyQ.slices_ContainsFunc Tryz.laysContR 2 Tryz.isAgg47 Tryz.sizeOf47 encR (fun _ => rfl) p g lb eg b off d.size c d.toList w hp (by simp) (by omega) hb (fun j hj i v hv => by
      have hj' : j < d.size := by simpa using hj
      have hi : i < 2 := by
        rcases Nat.lt_or_ge i 2 with h' | h'
        · exact h'
        · rw [List.getElem?_eq_none (by show 2 ≤ i; exact h')] at hv; cases hv
      have e1 : d.toList[j]! = d[j]! := by simp [hj']
      rw [e1] at hv
      rw [Nat.add_assoc, hc _ (lt_flat hj' hi), flat_at _ _ _ _ _ hj' hi]
      rw [List.getElem!_eq_getElem?_getD, hv]; rfl)
    rwa [show d.toList.take d.size = d.toList from List.take_of_length_le (by simp)] at this
def hasB_R (d : Array (Int × Int)) (n : Int) : Bool := (setE_R d == 0) && inR d n
set_option maxHeartbeats 1000000 in
theorem gHas_any (A : Option Addr) (c : Nat) (d : Array (Int × Int)) (n : Int) (w : World) (h : RdK encR 2 w.heap.size w A d) :
    Calls Tryz.prog 26 #[.slice A d.size c, .int .i64 n] w fun e w' => e = .returned (.bool (hasB_R d n)) ∧ Below w.heap.size w w' := by
  have r0 := Lib.hid ((h.alloc (Nat.le_refl _) (.cells #[.int .i64 n] 3)).mono (show w.heap.size ≤ (w.alloc (.cells #[.int .i64 n] 3)).heap.size by simp))
  by_cases hs : setE_R d = 0
  · have hq : (setE_R d == 0) = true := by simp [hs]
    have hd := (setE_all hs).1
    have HH : Hid (hasB_R d n = inR d n) := by show _ = _; unfold hasB_R; rw [hq]; rfl
    clear hs
    go_enter Tryz.func26, Tryz.ntmps26
    go_wp2_with fail
    refine (gmay_any _ _ d _ r0.out).mono ?_
    rintro e w1 ⟨rfl, hb1⟩
    have hz1 : w.heap.size < w1.heap.size := by have := hb1.size; simp at this; omega
    have hc1 : w1.cell? ⟨w.heap.size, 0, none⟩ = some (.int .i64 n) := (hb1.cell (p := ⟨w.heap.size, 0, none⟩) (by simp)).trans (cell_new w _ _ 0)
    have hC : Calls Tryz.prog 54 #[.slice A d.size c, .func (.func 55) #[] #[.pointer (some ⟨w.heap.size, 0, none⟩)]] w1 fun e w' => e = .returned (.bool (inR d n)) ∧ Below w1.heap.size w1 w' := ContR (inB_R n) 55 #[.pointer (some ⟨w.heap.size, 0, none⟩)] A c d w1 ((r0.out.below hb1).mono hb1.size) (by omega) (enters_of Tryz.func55 (by kernel_rfl) rfl)
      (fun W x hbW => (has1_any n x ⟨w.heap.size, 0, none⟩ W (Nat.lt_of_lt_of_le hz1 hbW.size) ((hbW.cell (p := ⟨w.heap.size, 0, none⟩) hz1).trans hc1)).mono fun _ _ ⟨he, hb'⟩ => ⟨he, hbW.trans (hb'.mono hbW.size)⟩)
    have HC := Lib.hid hC
    clear hC hc1
    generalize inR d n = v at HC HH
    go_wp2_with fail
    refine HC.out.mono ?_
    rintro e w2 ⟨rfl, hb2⟩
    go_wp2
    go_ret
    exact ⟨ret_bool HH.out.symm, belStep (belStep (bel1 _ _) hb1) hb2⟩
  · have hq : (setE_R d == 0) = false := by simpa using hs
    have HH : Hid (hasB_R d n = false) := by show _ = _; unfold hasB_R; rw [hq]; rfl
    clear hs
    go_enter Tryz.func26, Tryz.ntmps26
    go_wp2_with fail
    refine (gmay_any _ _ d _ r0.out).mono ?_
    rintro e w1 ⟨rfl, hb1⟩
    go_wp2
    go_ret
    exact ⟨ret_bool HH.out.symm, belStep (bel1 _ _) hb1⟩
set_option maxHeartbeats 1000000 in
theorem rin_any (A : Option Addr) (c : Nat) (d : Array (Int × Int)) (n : Int) (B : Nat) (w : World) (h : RdK encR 2 B w A d) (hd : d.size ≤ 100000000) :
    Calls Tryz.prog 67 #[.slice A d.size c, .int .i64 n] w fun e w' => e = .returned (.bool (inR d n)) ∧ w = w' := by
  have HY := Lib.hid (fun j hj hb => @inR_yes d n j hj hb)
  have HN := Lib.hid (@inR_no d n)
  go_enter Tryz.func67, Tryz.ntmps67
  go_wp2
  go_loop [5] (fun i => ∃ k : Nat, k ≤ d.size ∧ i = .int .i64 k ∧ ∀ j, j < k → inB_R n d[j]! = false) (fun i => d.size - (intOf i).toNat)
  case atStart => exact ⟨0, Nat.zero_le _, rfl, fun j hj => absurd hj (by omega)⟩
  case round =>
    obtain ⟨k, hk, rfl, hj⟩ := hrel
    have HJ := Lib.hid hj; clear hj
    by_cases hlt : k < d.size
    · obtain ⟨b, off, rfl, _, f⟩ := h.at_ hlt
      have f0 := f 0 (by omega)
      have f1 := f 1 (by omega)
      have HB : Hid (inB_R n d[k]! = decide (d[k]!.1 ≤ n ∧ n ≤ d[k]!.2)) := rfl
      have HYk := Lib.hid (HY.out k hlt)
      have HNk : Hid (inB_R n d[k]! = false → ∀ j, j < k + 1 → inB_R n d[j]! = false) := fun hf j hj => by
        rcases Nat.lt_or_ge j k with h' | h'
        · exact HJ.out j h'
        · obtain rfl : j = k := by omega
          exact hf
      generalize d[k]! = x at f0 f1 HB HYk HNk
      simp only [Nat.add_zero, encR, List.getElem!_cons_zero, List.getElem!_cons_succ] at f0 f1
      clear f
      have kz : (k : Int) < (d.size : Int) := by omega
      go_wp2
      all_goals first
        | (go_ret; exact ⟨ret_bool (HYk.out (by rw [HB.out]; simp; omega)).symm, rfl⟩)
        | exact ⟨⟨k + 1, by omega, by go_num, HNk.out (by rw [HB.out]; simp; omega)⟩, by simp [intOf]; omega⟩
    · go_wp2
      go_ret
      exact ⟨ret_bool (HN.out fun j hj => HJ.out j (by omega)).symm, rfl⟩
theorem r4Has_any (A : Option Addr) (c : Nat) (d : Array (Int × Int)) (n : Int) (B : Nat) (w : World) (h : RdK encR 2 B w A d) :
    Calls Tryz.prog 44 #[.slice A d.size c, .int .i64 n] w fun e w' => e = .returned (.bool (hasB_R d n)) ∧ Below w.heap.size w w' := by
  by_cases hs : setE_R d = 0
  · have hq : (setE_R d == 0) = true := by simp [hs]
    have hd := (setE_all hs).1
    have HH : Hid (hasB_R d n = inR d n) := by show _ = _; unfold hasB_R; rw [hq]; rfl
    clear hs
    go_enter Tryz.func44, Tryz.ntmps44
    go_wp2_with fail
    refine (r4Check_any _ _ d _ _ h).mono ?_
    rintro e w1 ⟨rfl, q, rfl⟩
    go_wp2_with fail
    refine (rin_any _ _ d _ B _ (by exact h) (by omega)).mono ?_
    rintro e w2 ⟨rfl, rfl⟩
    go_wp2
    go_ret
    exact ⟨ret_bool HH.out.symm, belDrewN (Below.refl _ _) _⟩
  · have hq : (setE_R d == 0) = false := by simpa using hs
    have HH : Hid (hasB_R d n = false) := by show _ = _; unfold hasB_R; rw [hq]; rfl
    clear hs
    go_enter Tryz.func44, Tryz.ntmps44
    go_wp2_with fail
    refine (r4Check_any _ _ d _ _ h).mono ?_
    rintro e w1 ⟨rfl, q, rfl⟩
    go_wp2
    go_ret
    exact ⟨ret_bool HH.out.symm, belDrewN (Below.refl _ _) _⟩
end Go.Proofs.YtgpejfkmdenonaaGreat
namespace Go.Proofs.YtgpejfkmdenonaaGreat
open Go.RowKit Go.Sort Go.Lib

/-- How many numbers the first k ranges have. -/
def cntN (d : Array (Int × Int)) : Nat → Int
  | 0 => 0
  | k + 1 => cntN d k + (d[k]!.2 - d[k]!.1 + 1)
def cntE (d : Array (Int × Int)) : Int := if setE_R d = 0 then cntN d d.size else 0
theorem cntN_bd {d : Array (Int × Int)} (h : setE_R d = 0) : ∀ k, k ≤ d.size → 0 ≤ cntN d k ∧ cntN d k ≤ 1000000 * k
  | 0, _ => by simp [cntN]
  | k + 1, hk => by
    have := cntN_bd h k (by omega)
    have o := ok_at h (k := k) (by omega)
    simp only [cntN]
    omega
/-- The first range that goes on where `b` ends. -/
def preB (b : Int) (x : Int × Int) : Bool := decide (x.1 - 1 ≤ b ∧ b < x.2)
def preE (d : Array (Int × Int)) (b : Int) : Int := if setE_R d = 0 then ((d.toList.find? (preB b)).map (·.2)).getD b else b
theorem preE_at {d : Array (Int × Int)} {b : Int} {k : Nat} (hs : setE_R d = 0) (hk : k < d.size) (hj : ∀ j, j < k → preB b d[j]! = false) (h : preB b d[k]! = true) : preE d b = d[k]!.2 := by
  unfold preE
  rw [if_pos hs]
  have : d.toList.find? (preB b) = some d[k]! := by
    rw [List.find?_eq_some_iff_getElem]
    refine ⟨h, k, by simpa using hk, by rw [getElem!_pos d k hk]; simp, fun j hj' => ?_⟩
    have := hj j hj'
    rw [getElem!_pos d j (by omega)] at this
    simpa using this
  rw [this]; rfl
theorem preE_no {d : Array (Int × Int)} {b : Int} (hj : ∀ j, j < d.size → preB b d[j]! = false) : preE d b = b := by
  unfold preE
  split
  · have : d.toList.find? (preB b) = none := by
      rw [List.find?_eq_none]
      intro x hx
      obtain ⟨j, hj', rfl⟩ := List.mem_iff_getElem.1 hx
      have := hj j (by simpa using hj')
      rw [getElem!_pos d j (by simpa using hj')] at this
      simpa using this
    rw [this]; rfl
  · rfl
theorem preE_bad {d : Array (Int × Int)} {b : Int} (hs : setE_R d ≠ 0) : preE d b = b := by unfold preE; rw [if_neg hs]
set_option maxHeartbeats 2000000 in
theorem gPrefix_any (A : Option Addr) (c : Nat) (d : Array (Int × Int)) (n : Int) (w : World) (h : RdK encR 2 w.heap.size w A d) :
    Calls Tryz.prog 61 #[.slice A d.size c, .int .i64 n] w fun e w' => e = .returned (.int .i64 (preE d n)) ∧ Below w.heap.size w w' := by
  by_cases hs : setE_R d = 0
  · have hq : (setE_R d == 0) = true := by simp [hs]
    have HY := Lib.hid (fun k hk => @preE_at d n k hs hk)
    have HN := Lib.hid (@preE_no d n)
    have HO := Lib.hid (fun k hk => @ok_at d hs k hk)
    have hd' := (setE_all hs).1
    clear hs
    go_enter Tryz.func61, Tryz.ntmps61
    go_wp2_with fail
    refine (gmay_any _ _ d _ h).mono ?_
    rintro e w1 ⟨rfl, hb1⟩
    go_wp2
    go_loopw [13] (fun i wr => ∃ k : Nat, k ≤ d.size ∧ i = .int .i64 k ∧ (∀ j, j < k → preB n d[j]! = false) ∧ Below w.heap.size w wr) (fun i _ => d.size - (intOf i).toNat)
    case atStart => exact ⟨0, Nat.zero_le _, rfl, fun j hj => absurd hj (by omega), hb1⟩
    case round =>
      obtain ⟨k, hk, rfl, hj, hb⟩ := hrel
      have HJ := Lib.hid hj; clear hj
      by_cases hlt : k < d.size
      · obtain ⟨b, off, rfl, _, f⟩ := (h.below hb).at_ hlt
        have f0 := f 0 (by omega)
        have f1 := f 1 (by omega)
        have ho := HO.out k hlt
        have HB : Hid (preB n d[k]! = decide (d[k]!.1 - 1 ≤ n ∧ n < d[k]!.2)) := rfl
        have HYk := Lib.hid (HY.out k hlt HJ.out)
        have HNk : Hid (preB n d[k]! = false → ∀ j, j < k + 1 → preB n d[j]! = false) := fun hf j hj => by
          rcases Nat.lt_or_ge j k with h' | h'
          · exact HJ.out j h'
          · obtain rfl : j = k := by omega
            exact hf
        generalize d[k]! = x at f0 f1 HB HYk HNk ho
        simp only [Nat.add_zero, encR, List.getElem!_cons_zero, List.getElem!_cons_succ] at f0 f1
        clear f
        have kz : (k : Int) < (d.size : Int) := by omega
        go_wp2
        all_goals first
          | (go_ret; exact ⟨ret_int (HYk.out (by rw [HB.out]; simp; omega)).symm, belAlloc hb _⟩)
          | exact ⟨⟨k + 1, by omega, by go_num, HNk.out (by rw [HB.out]; simp; omega), belAlloc hb _⟩, by simp [intOf]; omega⟩
      · go_wp2
        go_ret
        exact ⟨ret_int (HN.out fun j hj => HJ.out j (by omega)).symm, hb⟩
  · have hq : (setE_R d == 0) = false := by simpa using hs
    have HH := Lib.hid (preE_bad (b := n) hs)
    clear hs
    go_enter Tryz.func61, Tryz.ntmps61
    go_wp2_with fail
    refine (gmay_any _ _ d _ h).mono ?_
    rintro e w1 ⟨rfl, hb1⟩
    go_wp2
    go_ret
    exact ⟨ret_int HH.out.symm, hb1⟩
set_option maxHeartbeats 2000000 in
theorem r4Prefix_any (A : Option Addr) (c : Nat) (d : Array (Int × Int)) (n : Int) (B : Nat) (w : World) (h : RdK encR 2 B w A d) :
    Calls Tryz.prog 64 #[.slice A d.size c, .int .i64 n] w fun e w' => e = .returned (.int .i64 (preE d n)) ∧ ∃ q, w' = w.drewN q := by
  by_cases hs : setE_R d = 0
  · have HY := Lib.hid (fun k hk => @preE_at d n k hs hk)
    have HN := Lib.hid (@preE_no d n)
    have HO := Lib.hid (fun k hk => @ok_at d hs k hk)
    have hd' := (setE_all hs).1
    go_enter Tryz.func64, Tryz.ntmps64
    go_wp2_with fail
    refine (r4Check_any _ _ d B _ h).mono ?_
    rintro e w1 ⟨rfl, q, rfl⟩
    go_wp2
    go_loop [5] (fun i => ∃ k : Nat, k ≤ d.size ∧ i = .int .i64 k ∧ (∀ j, j < k → preB n d[j]! = false)) (fun i => d.size - (intOf i).toNat)
    case atStart => exact ⟨0, Nat.zero_le _, rfl, fun j hj => absurd hj (by omega)⟩
    case round =>
      obtain ⟨k, hk, rfl, hj⟩ := hrel
      have HJ := Lib.hid hj; clear hj
      by_cases hlt : k < d.size
      · obtain ⟨b, off, rfl, _, f⟩ := h.at_ hlt
        have f0 := f 0 (by omega)
        have f1 := f 1 (by omega)
        have ho := HO.out k hlt
        have HB : Hid (preB n d[k]! = decide (d[k]!.1 - 1 ≤ n ∧ n < d[k]!.2)) := rfl
        have HYk := Lib.hid (HY.out k hlt HJ.out)
        have HNk : Hid (preB n d[k]! = false → ∀ j, j < k + 1 → preB n d[j]! = false) := fun hf j hj => by
          rcases Nat.lt_or_ge j k with h' | h'
          · exact HJ.out j h'
          · obtain rfl : j = k := by omega
            exact hf
        generalize d[k]! = x at f0 f1 HB HYk HNk ho
        simp only [Nat.add_zero, encR, List.getElem!_cons_zero, List.getElem!_cons_succ] at f0 f1
        have f0' : (w.drewN q).cell? { block := b, off := off + k * 2 } = some (Value.int IntKind.i64 x.1) := f0
        have f1' : (w.drewN q).cell? { block := b, off := off + k * 2 + 1 } = some (Value.int IntKind.i64 x.2) := f1
        clear f
        have kz : (k : Int) < (d.size : Int) := by omega
        go_wp2
        all_goals first
          | (go_ret; exact ⟨ret_int (HYk.out (by rw [HB.out]; simp; omega)).symm, q, rfl⟩)
          | exact ⟨⟨k + 1, by omega, by go_num, HNk.out (by rw [HB.out]; simp; omega)⟩, by simp [intOf]; omega⟩
      · go_wp2
        go_ret
        exact ⟨ret_int (HN.out fun j hj => HJ.out j (by omega)).symm, q, rfl⟩
  · have hs2 : setE_R d ≠ 0 := hs
    have HH := Lib.hid (preE_bad (b := n) hs)
    go_enter Tryz.func64, Tryz.ntmps64
    go_wp2_with fail
    refine (r4Check_any _ _ d B _ h).mono ?_
    rintro e w1 ⟨rfl, q, rfl⟩
    go_wp2
    go_ret
    exact ⟨ret_int HH.out.symm, _, rfl⟩
end Go.Proofs.YtgpejfkmdenonaaGreat
namespace Go.Proofs.YtgpejfkmdenonaaGreat
open Go.RowKit Go.Sort Go.Lib

theorem encR_len (x : Int × Int) : (encR x).length = 2 := rfl
theorem encR_one (x : Int × Int) : ∀ u ∈ encR x, u.oneCell' = true := by
  intro u hu
  simp only [encR, List.mem_cons, List.not_mem_nil, or_false] at hu
  rcases hu with rfl | rfl <;> rfl
theorem range_info : (Tryz.prog.info? 47).map (fun i => (i.zero, i.size, i.bytes)) = some (some (.agg #[.int .i64 0, .int .i64 0]), 2, 16) := by kernel_rfl
set_option maxRecDepth 100000 in
set_option maxHeartbeats 1000000 in
/-- A clone: nothing, or a row of its own that holds the same. -/
theorem CloneR (A : Option Addr) (c : Nat) (d : Array (Int × Int)) (w : World) (h : RdK encR 2 w.heap.size w A d) (hd : d.size ≤ 1000000) :
    Calls Tryz.prog 58 #[.slice A d.size c] w fun e w' => ∃ v, e = .returned v ∧ w'.ownsRow w.heap.size 47 2 v d.size (flatK encR 2 d).toList ∧ Below w.heap.size w w' := by
  obtain ⟨i0, hi0, hz0, hz1, hz2⟩ := info_parts range_info
  cases A with
  | none =>
    have h0 : d.size = 0 := by
      rcases Nat.eq_zero_or_pos d.size with h0 | h0
      · exact h0
      · obtain ⟨b, off, e, _⟩ := h h0; cases e
    obtain rfl : d = #[] := Array.eq_empty_of_size_eq_zero h0
    exact (AnyE.slices_Clone_nil Tryz.laysCloneR 0 c w).mono fun e w' ⟨he, hw⟩ => ⟨_, he, nil_ownsK _ _ _ _ _, by rw [hw]; exact Below.refl _ _⟩
  | some ad =>
    have HR := Lib.hid h
    clear h
    have q33 : ∀ (w : World) (a : Option Addr) (n c n' c' : Nat), (binOp .eql 22 (.slice a n c) (.slice none n' c')).run Tryz.prog w = .ok (.bool a.isNone) w := fun w a n c n' c' => Lib.run_eql_slice_nil w _ _ a n c n' c' Tryz.underlying22
    go_enter Tryz.func58, Tryz.ntmps58
    go_wp2_with (at_builtin; refine append_rdK encR_one encR_len (by decide) rfl (.tmp 5) (.tmp 6) 22 rfl w.heap.size 47 i0 (.agg #[.int .i64 0, .int .i64 0]) 16 Tryz.underlying22 hi0 hz0 hz1 hz2 rfl _ #[] rfl (empty_ownsK w 47 encR 2) w.heap.size (some ad) c d rfl (HR.out.alloc (Nat.le_refl _) _) (fun h => by cases h) (by simp; omega) (by decide) (by simp) ?_; intro v1 w1 hown1 hg1 _)
    go_ret
    have hb1 : Below w.heap.size w w1 := (bel1 w _).grown hg1 (by simp) (fun k hk => ((empty_ownsK w 47 encR 2).lt k hk).1)
    exact ⟨v1, rfl, by simpa using hown1, hb1⟩
/-- The order of ranges by their first number. -/
def cmpR (x y : Int × Int) : Int := Lib.compareInt x.1 y.1
theorem cmpR_lt (x y : Int × Int) : ltOf cmpR x y = decide (x.1 < y.1) := by
  unfold ltOf cmpR Lib.compareInt
  by_cases h1 : x.1 < y.1
  · simp [h1]
  · by_cases h2 : y.1 < x.1 <;> simp [h1, h2]
theorem swoR : SWO (ltOf cmpR) where
  irrefl x := by rw [cmpR_lt]; simp
  trans x y z h1 h2 := by rw [cmpR_lt] at *; simp at *; omega
  ntrans x y z h1 h2 := by rw [cmpR_lt] at *; simp at *; omega
theorem all1_any (x y : Int × Int) (w : World) :
    Calls Tryz.prog 95 #[.agg #[.int .i64 x.1, .int .i64 x.2], .agg #[.int .i64 y.1, .int .i64 y.2]] w fun e w' => e = .returned (.int .i64 (cmpR x y)) ∧ ∃ q os', w' = grow (w.drewN q) os' := by
  have hcon := fun W => Tryz.cmp_Compare_int x.1 y.1 W
  have HC := Lib.hid hcon; clear hcon
  have HF : Hid (Lib.compareInt x.1 y.1 = cmpR x y) := rfl
  generalize Lib.compareInt x.1 y.1 = c at HC HF
  go_enter Tryz.func95, Tryz.ntmps95
  go_wp2_with (go_at_call 92; refine (HC.out _).mono ?_; rintro e w' ⟨rfl, rfl⟩)
  go_ret
  exact ⟨ret_int HF.out, 0, _, by rw [alloc_eq_grow, alloc_eq_grow, grow_grow]; rfl⟩
theorem cmpLaysR (blk : Nat) (size : Nat) (w : World) : CmpLays Tryz.prog 95 #[] encR 2 cmpR blk 0 size w := by
  intro m os dk _ x y
  exact all1_any x y _
theorem below_sortWorldR {w1 : World} {g : Nat} (w : World) (hb : Below w.heap.size w w1) (hg : w.heap.size ≤ g) (n : Nat) (d : Array (Int × Int)) (os : Array Obj) : Below w.heap.size w (sortWorldK encR 2 w1 g 0 n d os) := by
  refine hb.trans ⟨rfl, rfl, rfl, size_sortWorldK_c encR 2 w1 g 0 n d os, fun i hi => ?_⟩
  have hi1 : i < w1.heap.size := Nat.lt_of_lt_of_le hi hb.size
  show ((putRowK encR 2 (Sort.ahead w1 n) g 0 d).heap ++ os)[i]? = _
  rw [Array.getElem?_append_left (by rw [size_putRowK]; exact hi1)]
  show ((Sort.ahead w1 n).heap.modify g _)[i]? = _
  rw [Array.getElem?_modify, if_neg (by omega)]
  rfl
/-- The same ranges, by their first number. -/
def SortR (d d' : Array (Int × Int)) : Prop := d'.size = d.size ∧ (∀ x, x ∈ d' ↔ x ∈ d) ∧ ∀ i j, i < j → j < d'.size → d'[i]!.1 ≤ d'[j]!.1
set_option maxHeartbeats 2000000 in
set_option maxRecDepth 100000 in
theorem all_any (A : Option Addr) (c : Nat) (d : Array (Int × Int)) (w : World) (h : RdK encR 2 w.heap.size w A d) (hd : d.size ≤ 1000000) :
    Calls Tryz.prog 76 #[.slice A d.size c] w fun e w' => ∃ d' A' c' b, e = .returned (.func (.func 96) #[] #[.pointer (some ⟨b, 0, none⟩)]) ∧ SortR d d' ∧ w.heap.size ≤ b ∧ b < w'.heap.size ∧ w'.cell? ⟨b, 0, none⟩ = some (.slice A' d'.size c') ∧ RdK encR 2 w'.heap.size w' A' d' ∧ (∀ g off, A' = some ⟨g, off, none⟩ → w.heap.size ≤ g ∧ g < w'.heap.size) ∧ Below w.heap.size w w' := by
  have hC := CloneR A c d w h hd
  have HC := Lib.hid hC
  clear hC h
  go_enter Tryz.func76, Tryz.ntmps76
  go_wp2_with fail
  refine HC.out.mono ?_
  rintro e w1 ⟨v, rfl, hown, hb1⟩
  by_cases hn : v = .slice none 0 0
  · subst hn
    have h0 : d.size = 0 := by
      obtain ⟨_, ⟨_, h0⟩ | ⟨g, cap, cur, hv, _⟩⟩ := hown
      · exact h0
      · cases hv
    clear hown
    have hS := fun W => AnyF.slices_SortFunc_none Tryz.laysSortR none 0 (.func (.func 95) #[] #[]) W
    have HS := Lib.hid hS
    clear hS
    go_wp2_with fail
    refine (HS.out _).mono ?_
    rintro e w2 ⟨rfl, rfl⟩
    go_wp2
    go_ret
    have hz := hb1.size
    refine ⟨#[], none, 0, w1.heap.size, rfl, ⟨h0.symm, ?_, ?_⟩, by omega, by simp, cell_new w1 _ _ 0, fun h => absurd h (by decide), (fun _ _ e => by cases e), belAlloc hb1 _⟩
    · have e0 : d = #[] := Array.eq_empty_of_size_eq_zero h0
      intro x; rw [e0]
    · intro i j _ hj
      exact absurd hj (by simp)
  · obtain ⟨g, cap, rfl, hg1, hg2, hH⟩ := holds_of_owns hown hn
    clear hown hn
    have hH2 : HoldsK encR 2 (w1.alloc (.cells #[.slice (some ⟨g, 0, none⟩) d.size cap] 22)) g 0 d := fun t ht => by
      have := hH t ht
      exact ⟨(World.cell?_alloc_lt w1 _ ⟨g, 0 + t, none⟩ hg2).trans this.1, (World.frozen?_alloc_old w1 _ ⟨g, 0 + t, none⟩ (by show g ≠ w1.heap.size; omega)).trans this.2⟩
    have hS := AnyQ.slices_SortFunc Tryz.laysSortR 2 Tryz.isAgg47 Tryz.sizeOf47 encR encR_len encR_one cmpR swoR 95 #[] g 0 cap d _ (enters_of Tryz.func95 (by kernel_rfl) rfl) (cmpLaysR g d.size _) hH2 (by simp; omega) (by omega)
    have HS := Lib.hid hS
    have HH := Lib.hid hH2
    clear hS hH hH2
    go_wp2_with fail
    refine HS.out.mono ?_
    rintro e w2 ⟨rfl, d', n, os, hp, hs, hw2⟩
    have hz := hb1.size
    have hz2 : g < (w1.alloc (.cells #[.slice (some ⟨g, 0, none⟩) d.size cap] 22)).heap.size := by simp; omega
    have hH3 : HoldsK encR 2 w2 g 0 d' := by rw [hw2]; exact holdsK_sortWorldK_c encR 2 _ g 0 d d' n os HH.out hz2 hp.1
    have hB3 : Below w.heap.size w w2 := by rw [hw2]; exact below_sortWorldR w (belAlloc hb1 _) hg1 n d' os
    have hZ3 : w1.heap.size + 1 ≤ w2.heap.size := by rw [hw2]; have := size_sortWorldK_c encR 2 (w1.alloc (.cells #[.slice (some ⟨g, 0, none⟩) d.size cap] 22)) g 0 n d' os; simpa using this
    have hC3 : w2.cell? ⟨w1.heap.size, 0, none⟩ = some (.slice (some ⟨g, 0, none⟩) d.size cap) := by
      rw [hw2]
      unfold sortWorldK
      rw [cell?_grow _ _ _ (by rw [size_putRowK]; simp [Sort.ahead]), cell?_putRowK_other _ _ _ _ _ _ _ (by show w1.heap.size ≠ g; omega)]
      exact cell_new w1 _ _ 0
    clear hw2
    go_wp2
    go_ret
    refine ⟨d', some ⟨g, 0, none⟩, cap, w1.heap.size, rfl, ⟨hp.1, ?_, ?_⟩, by omega, by omega, by rw [hp.1]; exact hC3, RdK.of_holds hH3 (by omega), (fun g' off' e => by injection e with e; injection e with e1 _; omega), hB3⟩
    · intro x
      have e1 : d'.extract 0 d.size = d' := by rw [← hp.1]; simp
      have e2 : d.extract 0 d.size = d := by simp
      have := hp.2.2
      rw [e1, e2] at this
      have := this.mem_iff (a := x)
      simpa using this
    · intro i j hi hj
      have := hs i j (Nat.zero_le _) hi (by rw [← hp.1]; exact hj)
      rw [cmpR_lt] at this
      simpa using this
end Go.Proofs.YtgpejfkmdenonaaGreat
