/- The sort of at most twelve commands at times; two lists held against each other; 'awake' of the laws of layer 2. -/
import Derived.Test.YtgpejfkmdenonaaIdentA
import Derived.Test.YtgpejfkmdenonaaIdentC
namespace Go.Proofs.Ytgpejfkmdenonaa
open Go.RowKit Go.Sort Go.Lib
set_option maxRecDepth 100000

set_option maxHeartbeats 1000000 in
set_option maxRecDepth 100000 in
theorem pdq_small (blk off cap : Nat) (d : Array (Int × Int)) (l : Int) (w : World) (hH : HoldsK encA_I 2 w blk off d) (hblk : blk < w.heap.size) (h12 : d.size ≤ 12) :
    Calls Try.prog 75 #[.slice (some ⟨blk, off, none⟩) d.size cap, .int .i64 0, .int .i64 d.size, .int .i64 l, .func (.func 62) #[.agg #[]] #[]] w fun e w' =>
      e = .returned (.tuple #[]) ∧ ∃ n os, w' = sortWorldK encA_I 2 w blk off n (Sort.insertionSort (ltOf cmpA) d 0 d.size) os := by
  have hI := ins_any blk off cap 0 d.size d w hH hblk (by omega) (by omega) (by omega)
  have HI := Lib.hid hI; clear hI hH
  generalize Sort.insertionSort (ltOf cmpA) d 0 d.size = r at HI ⊢
  have hz : (d.size : Int) ≤ 12 := by omega
  go_enter Try.func75, Try.ntmps75
  go_wp2
  refine wp_loop_rounds 1 ?_
  rw [rounds_succ]
  go_wp2_with (go_at_call 82; refine HI.out.mono ?_; rintro e w' ⟨rfl, n, os, rfl⟩)
  refine bodyPost_ret (results_none0 rfl _ _ _) rfl ?_
  exact ⟨rfl, n, os, rfl⟩
set_option maxRecDepth 100000 in
set_option maxHeartbeats 1000000 in
theorem SortFunc_small (blk off cap : Nat) (d : Array (Int × Int)) (w : World) (hH : HoldsK encA_I 2 w blk off d) (hblk : blk < w.heap.size) (h12 : d.size ≤ 12) :
    Calls Try.prog 63 #[.slice (some ⟨blk, off, none⟩) d.size cap, .func (.func 62) #[.agg #[]] #[]] w fun e w' =>
      e = .returned (.tuple #[]) ∧ ∃ n os, w' = sortWorldK encA_I 2 w blk off n (Sort.insertionSort (ltOf cmpA) d 0 d.size) os := by
  have hP := fun l => pdq_small blk off cap d l w hH hblk h12
  have HP := Lib.hid hP; clear hP hH
  generalize Sort.insertionSort (ltOf cmpA) d 0 d.size = r at HP ⊢
  go_enter Try.func63, Try.ntmps63
  go_wp2_with (first | (go_at_call 76; refine (Try.bits_Len _ _ (by omega) (by omega)).mono ?_; rintro e w' ⟨rfl, rfl⟩) | (go_at_call 75; refine (HP.out _).mono ?_; rintro e w' ⟨rfl, n, os, rfl⟩))
  go_end0
  exact ⟨rfl, n, os, rfl⟩
theorem swoA : SWO (ltOf cmpA) where
  irrefl x := by rw [ltOf_cmpA]; unfold lessA; simp
  trans x y z h1 h2 := by rw [ltOf_cmpA] at *; unfold lessA at *; simp at *; omega
  ntrans x y z h1 h2 := by rw [ltOf_cmpA] at *; unfold lessA at *; simp at *; omega
theorem insA_size (d : Array (Int × Int)) : (Sort.insertionSort (ltOf cmpA) d 0 d.size).size = d.size :=
  (insertionSort_holds (lt := ltOf cmpA) swoA d 0 d.size (Nat.zero_le _) (Nat.le_refl _)).1.1
theorem att_info_I : (Try.prog.info? 48).map (fun i => (i.zero, i.size, i.bytes)) = some (some (.agg #[.int .i64 0, .int .i64 0]), 2, 16) := by kernel_rfl
theorem encA_one {d : Array (Int × Int)} : ∀ u ∈ (flatK encA_I 2 d).toList, u.oneCell' = true := by
  intro u hu
  simp only [flatK, Array.toList_map, List.mem_map] at hu
  obtain ⟨t, _, rfl⟩ := hu
  have : t % 2 = 0 ∨ t % 2 = 1 := by omega
  rcases this with h | h <;> rw [h] <;> rfl
theorem CloneA (b off cap : Nat) (d : Array (Int × Int)) (w : World) (hd : d.size ≤ 1000000) (hc : ∀ t, t < d.size * 2 → w.cell? ⟨b, off + t, none⟩ = some (flatK encA_I 2 d)[t]!) :
    Calls Try.prog 61 #[.slice (some ⟨b, off, none⟩) d.size cap] w fun e w' => ∃ g cap', e = .returned (.slice (some ⟨g, 0, none⟩) d.size cap') ∧ w.heap.size ≤ g ∧ g < w'.heap.size ∧ HoldsK encA_I 2 w' g 0 d ∧ Below w.heap.size w w' := by
  obtain ⟨i0, hi0, hz0, hz1, hz2⟩ := info_parts att_info_I
  refine (AnyE.slices_Clone Try.laysClone i0 _ 2 16 hi0 hz0 hz1 hz2 rfl (by omega) Try.sizeOf48 b off d.size cap (flatK encA_I 2 d).toList w (by simp) (by unfold maxLen; omega) (by omega) (fun j u hj => ?_) encA_one).mono ?_
  · have hlt : j < (flatK encA_I 2 d).size := by
      rcases Nat.lt_or_ge j (flatK encA_I 2 d).size with h | h
      · exact h
      · rw [Array.getElem?_toList, Array.getElem?_eq_none h] at hj; cases hj
    rw [Array.getElem?_toList, Array.getElem?_eq_getElem hlt] at hj
    injection hj with hj
    rw [hc j (by rw [size_flatK] at hlt; exact hlt), getElem!_pos _ j hlt, hj]
  · rintro e w' ⟨v, rfl, hown, hnil, hb⟩
    obtain ⟨g, cap', rfl, h1, h2, h3⟩ := holds_of_owns hown hnil
    exact ⟨g, cap', rfl, h1, h2, h3, hb⟩
theorem Below.of_sortWorldK {w1 : World} {g : Nat} (w : World) (hb : Below w.heap.size w w1) (hg : w.heap.size ≤ g) (n : Nat) (d : Array (Int × Int)) (os : Array Obj) : Below w.heap.size w (sortWorldK encA_I 2 w1 g 0 n d os) := by
  refine hb.trans ⟨rfl, rfl, rfl, size_sortWorldK_c encA_I 2 w1 g 0 n d os, fun i hi => ?_⟩
  have hi1 : i < w1.heap.size := Nat.lt_of_lt_of_le hi hb.size
  show ((putRowK encA_I 2 (Sort.ahead w1 n) g 0 d).heap ++ os)[i]? = _
  rw [Array.getElem?_append_left (by rw [size_putRowK]; exact hi1)]
  show ((Sort.ahead w1 n).heap.modify g _)[i]? = _
  rw [Array.getElem?_modify, if_neg (by omega)]
  rfl
set_option maxRecDepth 100000 in
set_option maxHeartbeats 1000000 in
theorem Sort_small (b off cap : Nat) (d : Array (Int × Int)) (w : World) (h12 : d.size ≤ 12) (hc : ∀ t, t < d.size * 2 → w.cell? ⟨b, off + t, none⟩ = some (flatK encA_I 2 d)[t]!) :
    Calls Try.prog 39 #[.slice (some ⟨b, off, none⟩) d.size cap] w fun e w' => ∃ g cap', e = .returned (.slice (some ⟨g, 0, none⟩) d.size cap') ∧ g < w'.heap.size ∧ HoldsK encA_I 2 w' g 0 (Sort.insertionSort (ltOf cmpA) d 0 d.size) ∧ Below w.heap.size w w' := by
  have hC := CloneA b off cap d w (by omega) hc
  have HC := Lib.hid hC; clear hC hc
  go_enter Try.func39, Try.ntmps39
  go_wp2_with fail
  refine HC.out.mono ?_
  rintro e w1 ⟨g, cap', rfl, hg1, hg2, hH, hb⟩
  have hS := SortFunc_small g 0 cap' d w1 hH hg2 h12
  have HS := Lib.hid hS; clear hS
  have HH := Lib.hid hH; clear hH
  go_wp2_with fail
  refine HS.out.mono ?_
  rintro e w2 ⟨rfl, n, os, rfl⟩
  go_wp2
  go_ret
  refine ⟨g, cap', rfl, ?_, ?_, ?_⟩
  · exact Nat.lt_of_lt_of_le hg2 (size_sortWorldK_c encA_I 2 w1 g 0 n _ os)
  · exact holdsK_sortWorldK_c encA_I 2 w1 g 0 d _ n os HH.out hg2 (insA_size d)
  · exact Below.of_sortWorldK w hb hg1 n _ os
end Go.Proofs.Ytgpejfkmdenonaa
