/- The document's sets; merged marks. Merged marks. -/
import Derived.OwnWalk
import Derived.BigRegion
import Derived.Test.YtnmojicfmcbgmaaGreatQRead
namespace Go.Proofs.YtnmojicfmcbgmaaGreat
open Go.RowKit Go.Sort Go.Lib

theorem int_info_R : (Tryz.prog.info? 3).map (fun i => (i.zero, i.size, i.bytes)) = some (some (.int .i64 0), 1, 8) := by kernel_rfl
/-- A row of the call's own, of ints: it reads as its list. -/
theorem rdI_of_owns {w : World} {base : Nat} {e : TypeId} {v : Value} {l : List Int} (h : w.ownsRow base e 1 v l.length (l.map (Value.int .i64))) :
    ∃ A c, v = .slice A l.length c ∧ RdI_R w.heap.size w A l.toArray := by
  rcases Nat.eq_zero_or_pos l.length with h0 | h0
  · have : l = [] := List.eq_nil_of_length_eq_zero h0
    subst this
    obtain ⟨_, ⟨rfl, _⟩ | ⟨g, cap, cur, hv, _⟩⟩ := h
    · exact ⟨none, 0, rfl, RdI_R.none_⟩
    · exact ⟨_, cap, hv, RdI_R.none_⟩
  · have hn : v ≠ .slice none 0 0 := by
      rintro rfl
      obtain ⟨_, ⟨_, h1⟩ | ⟨g, cap, cur, hv, _⟩⟩ := h
      · omega
      · cases hv
    have h' : w.ownsRow base e 1 v l.toArray.size (l.toArray.toList.map (Value.int .i64)) := h
    obtain ⟨g, cap, hv, _, hlt, hH⟩ := holds_of_ownsI h' hn
    exact ⟨_, cap, hv, fun _ => ⟨g, 0, rfl, hlt, fun i hi => (hH i hi).1⟩⟩

theorem own_snoc {w : World} {base : Nat} {e : TypeId} {v : Value} {l : List Int} {x : Int} (h : w.ownsRow base e 1 v (l.length + 1) (l.map (Value.int .i64) ++ [.int .i64 x])) : w.ownsRow base e 1 v (l ++ [x]).length ((l ++ [x]).map (Value.int .i64)) := by
  simpa using h
theorem own_block {w : World} {base : Nat} {e : TypeId} {s n : Nat} {v : Value} {xs : List Value} (h : w.ownsRow base e s v n xs) (k : Nat) (hk : v.ownBlock = some k) : base ≤ k := by
  obtain ⟨_, ⟨rfl, _⟩ | ⟨g, cap, cur, rfl, hb, _⟩⟩ := h
  · cases hk
  · have : g = k := by simpa [Value.ownBlock] using hk
    omega
theorem app_cell (w : World) (x : Value) (e : TypeId) (j : Nat) (u : Value) (h : [x][j]? = some u) : (w.alloc (.cells #[x] e)).cell? (Addr.add ⟨w.heap.size, 0, none⟩ j) = some u := by
  have hj : j = 0 := by
    rcases Nat.eq_zero_or_pos j with h0 | h0
    · exact h0
    · obtain ⟨i, rfl⟩ : ∃ i, j = i + 1 := ⟨j - 1, by omega⟩
      simp at h
  subst hj
  have : x = u := by simpa using h
  subst this
  exact cell_new w _ _ 0
theorem app_below {w wr w1 : World} {o : Obj} {e : TypeId} {s n : Nat} {v : Value} {xs : List Value} (hb : Below w.heap.size w wr) (hown : wr.ownsRow w.heap.size e s v n xs) (hg : (wr.alloc o).grownBy w1 v.ownBlock) : Below w.heap.size w w1 :=
  (belAlloc hb o).grown hg (belAlloc hb o).size (own_block hown)

end Go.Proofs.YtnmojicfmcbgmaaGreat
namespace Go.Proofs.YtnmojicfmcbgmaaGreat
open Go.RowKit Go.Sort Go.Lib

def mrgAt (d1 d2 : Array Int) (i : Nat) : Int := if i < d1.size then (if i < d2.size then max d1[i]! d2[i]! else d1[i]!) else d2[i]!
def mergeN (d1 d2 : Array Int) : Array Int := ((List.range (max d1.size d2.size)).map (mrgAt d1 d2)).toArray
theorem mergeN_size (d1 d2 : Array Int) : (mergeN d1 d2).size = max d1.size d2.size := by simp [mergeN]
theorem mergeN_at (d1 d2 : Array Int) (i : Nat) (h : i < max d1.size d2.size) : (mergeN d1 d2)[i]! = mrgAt d1 d2 i := by
  rw [getElem!_pos _ i (by rw [mergeN_size]; exact h)]; simp [mergeN]
theorem rd_merge {w : World} {g : Nat} {d1 d2 : Array Int} (hg : g < w.heap.size) (h : ∀ j, j < max d1.size d2.size → w.cell? ⟨g, j, none⟩ = some (.int .i64 (mrgAt d1 d2 j))) : RdI_R w.heap.size w (some ⟨g, 0, none⟩) (mergeN d1 d2) := fun _ =>
  ⟨g, 0, rfl, hg, fun i hi => by rw [mergeN_size] at hi; rw [Nat.zero_add, h i hi, mergeN_at _ _ _ hi]⟩
theorem frozen?_setCell_any (w : World) (p q : Addr) (v : Value) : (w.setCell p v).frozen? q = w.frozen? q := by
  unfold World.frozen? World.setCell
  simp only [Array.getElem?_modify]
  by_cases h : p.block = q.block
  · rw [if_pos h, ← h]
    cases hh : w.heap[p.block]? with
    | none => rfl
    | some o => cases o <;> rfl
  · rw [if_neg h]
theorem cell?_setCell_here (w : World) (g k : Nat) (u v : Value) (h : w.cell? ⟨g, k, none⟩ = some u) : (w.setCell ⟨g, k, none⟩ v).cell? ⟨g, k, none⟩ = some v := by
  simp [go_sem, h]
set_option maxHeartbeats 2000000 in
set_option maxRecDepth 100000 in
theorem Merge_any (A1 A2 : Option Addr) (c1 c2 : Nat) (d1 d2 : Array Int) (w : World) (h1 : RdI_R w.heap.size w A1 d1) (h2 : RdI_R w.heap.size w A2 d2) (hd1 : d1.size ≤ 100000000) (hd2 : d2.size ≤ 100000000) :
    Calls Tryz.prog 117 #[.slice A1 d1.size c1, .slice A2 d2.size c2] w fun e w' => ∃ A c, e = .returned (.slice A (mergeN d1 d2).size c) ∧ RdI_R w'.heap.size w' A (mergeN d1 d2) ∧ Below w.heap.size w w' := by
  by_cases hl : d1.size < d2.size
  · have hlz : (d1.size : Int) < (d2.size : Int) := by omega
    have hd0 : 0 < d2.size := by omega
    go_enter Tryz.func117, Tryz.ntmps117
    go_wp2_with fail
    refine (CloneI _ _ d2 w.heap.size _ h2 (by omega)).mono ?_
    rintro e w1 ⟨A', c', rfl, hrow, hb1⟩
    obtain ⟨g, rfl, hg1, hg2, hH⟩ := hrow hd0
    have HH := Lib.hid hH
    clear hrow hH
    go_wp2
    go_loopw [19] (fun i wr => ∃ k : Nat, k ≤ d1.size ∧ i = .int .i64 k ∧ Below w.heap.size w wr ∧ g < wr.heap.size ∧ ∀ j, j < d2.size → wr.cell? ⟨g, j, none⟩ = some (.int .i64 (if j < k then mrgAt d1 d2 j else d2[j]!)) ∧ wr.frozen? ⟨g, j, none⟩ = false) (fun i _ => d1.size - (intOf i).toNat)
    case atStart => exact ⟨0, Nat.zero_le _, rfl, hb1, hg2, fun j hj => by
      have := HH.out j hj
      rw [Nat.zero_add] at this
      exact ⟨by rw [this.1, if_neg (by omega)]; rfl, this.2⟩⟩
    case round =>
      obtain ⟨k, hk, rfl, hb, hgr, hcells⟩ := hrel
      by_cases hlt : k < d1.size
      · obtain ⟨b, off, rfl, _, hc⟩ := (h1.below hb).at_ hlt
        obtain ⟨hck, hfk⟩ := hcells k (by omega)
        rw [if_neg (by omega)] at hck
        have HV : Hid (mrgAt d1 d2 k = max d1[k]! d2[k]!) := by show _ = _; unfold mrgAt; rw [if_pos (by omega), if_pos (by omega)]
        have HCL := Lib.hid hcells; clear hcells
        generalize d1[k]! = x at hc hck HV
        generalize d2[k]! = y at hc hck HV
        have kz : (k : Int) < (d1.size : Int) := by omega
        have kz2 : (k : Int) < (d2.size : Int) := by omega
        go_wp2
        go_roundw
        case rel => exact ⟨k + 1, by omega, by go_num, hb.setCell (show w.heap.size ≤ g by omega) _, by simpa [World.setCell] using hgr, fun j hj => by
          obtain ⟨h1, h2⟩ := HCL.out j hj
          by_cases hjk : j = k
          · subst hjk
            exact ⟨by rw [if_pos (by omega), HV.out]; rw [Int.max_comm]; exact cell?_setCell_here _ _ _ _ _ hck, by rw [frozen?_setCell_any]; exact h2⟩
          · exact ⟨by rw [World.cell?_setCell_other _ _ _ _ (fun e => hjk (by simpa using (congrArg Addr.off e).symm)), h1]; congr 2; by_cases h3 : j < k <;> simp [h3] <;> (try omega), by rw [frozen?_setCell_any]; exact h2⟩⟩
        case measure => simp [intOf]; omega
      · obtain rfl : k = d1.size := by omega
        have HCL := Lib.hid hcells; clear hcells
        go_wp2
        go_ret
        refine ⟨some ⟨g, 0, none⟩, c', by rw [mergeN_size, show max d1.size d2.size = d2.size by omega]; rfl, rd_merge hgr fun j hj => ?_, hb⟩
        rw [(HCL.out j (by omega)).1]
        congr 2
        by_cases h3 : j < d1.size
        · rw [if_pos h3]
        · rw [if_neg h3]; unfold mrgAt; rw [if_neg h3]
  · have hlz : (d2.size : Int) ≤ (d1.size : Int) := by omega
    have hld : decide ((d1.size : Int) < (d2.size : Int)) = false := by simp; omega
    rcases Nat.eq_zero_or_pos d1.size with h0 | h0
    · obtain rfl : d1 = #[] := Array.eq_empty_of_size_eq_zero h0
      obtain rfl : d2 = #[] := Array.eq_empty_of_size_eq_zero (by simp at hl; omega)
      clear hl h0 hlz hld
      go_enter Tryz.func117, Tryz.ntmps117
      go_wp2_with fail
      refine (CloneI _ _ #[] w.heap.size _ h1 (by simp)).mono ?_
      rintro e w1 ⟨A', c', rfl, _, hb1⟩
      go_wp2
      refine wp_loop_rounds 1 ?_; rw [rounds_succ]
      go_wp2
      go_ret
      exact ⟨_, _, rfl, RdI_R.none_, hb1⟩
    have hd0 : 0 < d1.size := by omega
    go_enter Tryz.func117, Tryz.ntmps117
    go_wp2_with fail
    refine (CloneI _ _ d1 w.heap.size _ h1 (by omega)).mono ?_
    rintro e w1 ⟨A', c', rfl, hrow, hb1⟩
    obtain ⟨g, rfl, hg1, hg2, hH⟩ := hrow hd0
    have HH := Lib.hid hH
    clear hrow hH
    go_wp2
    go_loopw [19] (fun i wr => ∃ k : Nat, k ≤ d2.size ∧ i = .int .i64 k ∧ Below w.heap.size w wr ∧ g < wr.heap.size ∧ ∀ j, j < d1.size → wr.cell? ⟨g, j, none⟩ = some (.int .i64 (if j < k then mrgAt d1 d2 j else d1[j]!)) ∧ wr.frozen? ⟨g, j, none⟩ = false) (fun i _ => d2.size - (intOf i).toNat)
    case atStart => exact ⟨0, Nat.zero_le _, rfl, hb1, hg2, fun j hj => by
      have := HH.out j hj
      rw [Nat.zero_add] at this
      exact ⟨by rw [this.1, if_neg (by omega)]; rfl, this.2⟩⟩
    case round =>
      obtain ⟨k, hk, rfl, hb, hgr, hcells⟩ := hrel
      by_cases hlt : k < d2.size
      · obtain ⟨b, off, rfl, _, hc⟩ := (h2.below hb).at_ hlt
        obtain ⟨hck, hfk⟩ := hcells k (by omega)
        rw [if_neg (by omega)] at hck
        have HV : Hid (mrgAt d1 d2 k = max d1[k]! d2[k]!) := by show _ = _; unfold mrgAt; rw [if_pos (by omega), if_pos (by omega)]
        have HCL := Lib.hid hcells; clear hcells
        generalize d1[k]! = x at hc hck HV
        generalize d2[k]! = y at hc hck HV
        have kz : (k : Int) < (d2.size : Int) := by omega
        have kz2 : (k : Int) < (d1.size : Int) := by omega
        go_wp2
        go_roundw
        case rel => exact ⟨k + 1, by omega, by go_num, hb.setCell (show w.heap.size ≤ g by omega) _, by simpa [World.setCell] using hgr, fun j hj => by
          obtain ⟨h1, h2⟩ := HCL.out j hj
          by_cases hjk : j = k
          · subst hjk
            exact ⟨by rw [if_pos (by omega), HV.out]; exact cell?_setCell_here _ _ _ _ _ hck, by rw [frozen?_setCell_any]; exact h2⟩
          · exact ⟨by rw [World.cell?_setCell_other _ _ _ _ (fun e => hjk (by simpa using (congrArg Addr.off e).symm)), h1]; congr 2; by_cases h3 : j < k <;> simp [h3] <;> (try omega), by rw [frozen?_setCell_any]; exact h2⟩⟩
        case measure => simp [intOf]; omega
      · obtain rfl : k = d2.size := by omega
        have HCL := Lib.hid hcells; clear hcells
        go_wp2
        go_ret
        refine ⟨some ⟨g, 0, none⟩, c', by rw [mergeN_size, show max d1.size d2.size = d1.size by omega]; rfl, rd_merge hgr fun j hj => ?_, hb⟩
        rw [(HCL.out j (by omega)).1]
        congr 2
        by_cases h3 : j < d2.size
        · rw [if_pos h3]
        · rw [if_neg h3]; unfold mrgAt; rw [if_pos (by omega), if_neg h3]
end Go.Proofs.YtnmojicfmcbgmaaGreat
