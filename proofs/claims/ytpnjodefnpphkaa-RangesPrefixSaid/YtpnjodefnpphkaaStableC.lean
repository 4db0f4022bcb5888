/- The stable time, as the program tells it: the marks sorted, the greatest first. -/
import Derived.Test.YtpnjodefnpphkaaStableB
import Derived.Laws.EntriesVeiled
namespace Go.Proofs.Ytpnjodefnpphkaa
open Go.RowKit Go.Sort Go.Lib

def fallC (x y : Int) : Int := Lib.compareInt y x
theorem fallC_lt (x y : Int) : ltOf fallC x y = decide (y < x) := by
  unfold ltOf fallC Lib.compareInt
  by_cases h1 : y < x
  · simp [h1]
  · by_cases h2 : x < y <;> simp [h1, h2]
theorem swoF : SWO (ltOf fallC) where
  irrefl x := by rw [fallC_lt]; simp
  trans x y z h1 h2 := by rw [fallC_lt] at *; simp at *; omega
  ntrans x y z h1 h2 := by rw [fallC_lt] at *; simp at *; omega
theorem fall_any (x y : Int) (w : World) :
    Calls Try.prog 47 #[.agg #[], .int .i64 x, .int .i64 y] w fun e w' => e = .returned (.int .i64 (fallC x y)) ∧ w' = w.alloc (.cells #[] 58) := by
  have hcon := fun W => Try.cmp_Compare_int y x W
  have HC := Lib.hid hcon; clear hcon
  have HF : Hid (Lib.compareInt y x = fallC x y) := rfl
  generalize Lib.compareInt y x = c at HC HF
  go_enter Try.func47, Try.ntmps47
  go_wp2_with (go_at_call 69; refine (HC.out _).mono ?_; rintro e w' ⟨rfl, rfl⟩)
  go_ret
  exact ⟨ret_int HF.out, rfl⟩
theorem cl50_any (x y : Int) (a : Addr) (w : World) (hc : w.cell? a = some (.func (.func 47) #[] #[])) :
    Calls Try.prog 50 #[.int .i64 x, .int .i64 y, .pointer (some a)] w fun e w' => e = .returned (.int .i64 (fallC x y)) ∧ ∃ q os', w' = grow (w.drewN q) os' := by
  go_enter Try.func50, Try.ntmps50
  go_wp2_with (go_at_call 47; refine (fall_any _ _ _).mono ?_; rintro e w' ⟨rfl, rfl⟩)
  go_ret
  exact ⟨rfl, 0, _, alloc_eq_grow _ _⟩
/-- The marks, the greatest first. -/
def sortD (d : Array Int) : Array Int := (d.toList.mergeSort fun x y => !(ltOf fallC) y x).toArray
theorem size_sortD (d : Array Int) : (sortD d).size = d.size := by simp [sortD]
def ofS (d : Array Int) (n : Int) : Int := if marksE d n = 0 then (sortD d)[(mostN n).toNat - 1]! else 0
theorem marks_size {d : Array Int} {n : Int} (h : marksE d n = 0) : 3 ≤ n ∧ n ≤ 9 ∧ (d.size : Int) = n ∧ mostN n = n / 2 + 1 ∧ d.toList.any badMark = false := by
  unfold marksE at h
  split at h
  · cases h
  · rename_i hh
    have h1 : mostN n ≠ 0 := fun e => hh (Or.inl e)
    have h2 : (d.size : Int) = n := Classical.byContradiction fun e => hh (Or.inr (Or.inl e))
    have h3 : d.toList.any badMark = false := by
      cases hb : d.toList.any badMark
      · rfl
      · exact absurd (Or.inr (Or.inr hb)) hh
    unfold mostN at h1 ⊢
    split at h1
    · exact absurd rfl h1
    · rw [if_neg (by assumption)]
      exact ⟨by omega, by omega, h2, rfl, h3⟩
theorem cmpLays50 (blk : Nat) (a : Addr) (size : Nat) (w : World) (ha : a.block < w.heap.size) (hne : a.block ≠ blk) (hc : w.cell? a = some (.func (.func 47) #[] #[])) : CmpLays1 Try.prog 50 #[.pointer (some a)] encI fallC blk 0 size w := by
  intro m os dk _ x y
  refine cl50_any x y a _ ?_
  unfold sortWorld
  rw [cell?_grow _ _ _ (by show _ < (putRow encI (Sort.ahead w m) blk 0 dk).heap.size; rw [size_putRow]; exact ha), cell?_putRow_other _ _ _ _ _ _ (Or.inl hne)]
  exact hc
theorem below_sortWorld {w1 : World} {g : Nat} (w : World) (hb : Below w.heap.size w w1) (hg : w.heap.size ≤ g) (n : Nat) (d : Array Int) (os : Array Obj) : Below w.heap.size w (sortWorld encI w1 g 0 n d os) := by
  have hs : w1.heap.size ≤ (sortWorld encI w1 g 0 n d os).heap.size := by
    unfold sortWorld; rw [size_grow]; show _ ≤ (putRow encI (Sort.ahead w1 n) g 0 d).heap.size + _; rw [size_putRow]; exact Nat.le_add_right _ _
  refine hb.trans ⟨rfl, rfl, rfl, hs, fun i hi => ?_⟩
  have hi1 : i < w1.heap.size := Nat.lt_of_lt_of_le hi hb.size
  show ((putRow encI (Sort.ahead w1 n) g 0 d).heap ++ os)[i]? = _
  rw [Array.getElem?_append_left (by show _ < (putRow encI (Sort.ahead w1 n) g 0 d).heap.size; rw [size_putRow]; exact hi1)]
  show ((Sort.ahead w1 n).heap.modify g _)[i]? = _
  rw [Array.getElem?_modify, if_neg (by omega)]
  rfl
set_option maxHeartbeats 2000000 in
theorem Of_any (A : Option Addr) (c : Nat) (d : Array Int) (n : Int) (w : World) (h : RdI w.heap.size w A d) (hd : d.size ≤ 100000000) :
    Calls Try.prog 14 #[.slice A d.size c, .int .i64 n] w fun e w' => e = .returned (.int .i64 (ofS d n)) ∧ Below w.heap.size w w' := by
  by_cases hm : marksE d n = 0
  · have HO : Hid (ofS d n = (sortD d)[(mostN n).toNat - 1]!) := by show _ = _; unfold ofS; rw [if_pos hm]
    obtain ⟨n1, n2, n3, n4, _⟩ := marks_size hm
    have HN4 := Lib.hid n4
    have hd0 : 0 < d.size := by omega
    go_enter Try.func14, Try.ntmps14
    go_wp2_with fail
    refine (sCheck_any _ _ d _ _ _ h hd).mono ?_
    rintro e w1 ⟨rfl, hb1⟩
    clear n4
    go_wp2_with fail
    refine (CloneI _ _ d w.heap.size _ ((h.below hb1).alloc hb1.size _) (by omega)).mono ?_
    rintro e w2 ⟨A', c', rfl, hrow, hb2⟩
    obtain ⟨g, rfl, hg1, hg2, hH⟩ := hrow hd0
    clear hrow
    have hg1' : w1.heap.size + 1 ≤ g := by simpa using hg1
    have hcell : w2.cell? ⟨w1.heap.size, 0, none⟩ = some (.func (.func 47) #[] #[]) := (hb2.cell (p := ⟨w1.heap.size, 0, none⟩) (by simp)).trans (cell_new w1 _ _ 0)
    have hz2 : w1.heap.size < w2.heap.size := by have := hb2.size; simp at this; omega
    have hS := Try.slices_SortFunc_total encI (fun _ => rfl) fallC swoF 50 #[.pointer (some ⟨w1.heap.size, 0, none⟩)] g 0 c' d w2 (enters_of Try.func50 (by kernel_rfl) rfl) (cmpLays50 g _ d.size w2 hz2 (by show w1.heap.size ≠ g; omega) hcell) hH hg2 (by omega)
      (fun x y h1 h2 => by rw [fallC_lt] at h1 h2; simp at h1 h2; omega)
    have HS := Lib.hid hS
    have hb1' := hb1.size
    have HHs := fun m os => Lib.hid (holds_sortWorld encI w2 g 0 m d (sortD d) os hg2 hH (size_sortD d))
    have HB3 := fun m os => Lib.hid (below_sortWorld w (belStep (belAlloc hb1 _) hb2) (show w.heap.size ≤ g by omega) m (sortD d) os)
    have HN3 := Lib.hid n3
    clear hS hH hcell hm n3
    go_wp2_with fail
    refine HS.out.mono ?_
    rintro e w3 ⟨rfl, m, os, hw3⟩
    have hHs : Holds encI w3 g 0 (sortD d) := by rw [hw3]; exact (HHs m os).out
    have hB3 : Below w.heap.size w w3 := by rw [hw3]; exact (HB3 m os).out
    have hM := HN4.out
    have l1 : 1 ≤ mostN n := by omega
    have l2 : mostN n ≤ d.size := by have := HN3.out; omega
    have hx := (hHs ((mostN n).toNat - 1) (by rw [size_sortD]; omega)).1
    rw [Nat.zero_add] at hx
    have hix : (mostN n - 1).toNat = (mostN n).toNat - 1 := by omega
    have HW3 := Lib.hid hw3
    clear hw3 HHs HB3 hHs hM
    generalize hv : (sortD d)[(mostN n).toNat - 1]! = v at hx HO
    have l3 : mostN n - 1 < d.size := by omega
    have l4 : 0 ≤ mostN n - 1 := by omega
    go_wp2_with (go_at_call 41; refine (Most_any _ _).mono ?_; rintro e w' ⟨rfl, rfl⟩)
    go_ret
    exact ⟨ret_int HO.out.symm, hB3⟩
  · have HO : Hid (ofS d n = 0) := by show _ = _; unfold ofS; rw [if_neg hm]
    have hb : (marksE d n != 0) = true := by simpa using hm
    clear hm
    go_enter Try.func14, Try.ntmps14
    go_wp2_with (go_at_call 12; refine (sCheck_any _ _ d _ _ _ h hd).mono ?_; rintro e w' ⟨rfl, hb1⟩)
    go_ret
    exact ⟨ret_int HO.out.symm, hb1⟩
end Go.Proofs.Ytpnjodefnpphkaa
