/- known.times, known.merged: the times of what is attached; what is attached of both. known.merged: what is attached of both. known.Check. slices.Equal at api.Att and at api.Range. -/
import Derived.Laws.NewBlocks
import Derived.Test.YtnmojicfmcbgmaaGreatQKnP
import Derived.Laws.StructEq
namespace Go.Proofs.YtnmojicfmcbgmaaGreat
open Go.RowKit Go.Sort Go.Lib
def timesA (d : Array (Int × Int)) : Array Int := (timesL d.toList).toArray
theorem timesA_size (d : Array (Int × Int)) : (timesA d).size = d.size := by simp [timesA, timesL]
/-- The cells of the times' row after k rounds. -/
def tcs (d : Array (Int × Int)) (k : Nat) : Array Value := ((List.range d.size).map fun t => if t < k then Value.int .i64 d[t]!.1 else .int .i64 0).toArray
theorem tcs_at (d : Array (Int × Int)) (k t : Nat) : (tcs d k)[t]? = if t < d.size then some (if t < k then Value.int .i64 d[t]!.1 else .int .i64 0) else none := by
  unfold tcs
  by_cases h : t < d.size
  · simp [h]
  · simp [h]
theorem tcs_set (d : Array (Int × Int)) (k : Nat) : (tcs d k).setIfInBounds k (.int .i64 d[k]!.1) = tcs d (k + 1) := by
  apply Array.ext_getElem?
  intro t
  rw [Array.getElem?_setIfInBounds, tcs_at, tcs_at]
  have hs : (tcs d k).size = d.size := by simp [tcs]
  by_cases h : k = t
  · subst h
    rw [if_pos rfl, hs, if_pos (Nat.lt_succ_self k)]
  · rw [if_neg h]
    by_cases ht : t < d.size
    · rw [if_pos ht, if_pos ht]
      by_cases h1 : t < k
      · rw [if_pos h1, if_pos (by omega)]
      · rw [if_neg h1, if_neg (by omega)]
    · rw [if_neg ht, if_neg ht]
theorem tcs_all (d : Array (Int × Int)) : tcs d d.size = (timesA d).map encI_R := by
  apply Array.ext_getElem?
  intro t
  rw [tcs_at]
  by_cases h : t < d.size
  · rw [if_pos h, if_pos h]
    simp [timesA, timesL, encI_R, h]
  · rw [if_neg h]
    simp [timesA, timesL, h]
theorem make_ints (S : Nat) (hS : S ≤ 1000000) (W : World) : (Instr.makeSlice 26 (.int .i64 (S : Int)) (.int .i64 (S : Int))).run Tryz.prog W = .ok (.slice (some ⟨W.heap.size, 0, none⟩) S S) (W.alloc (.cells ((List.range S).map fun _ => Value.int .i64 0).toArray 3)) := by
  obtain ⟨i0, hi0, hz0, hz1, hz2⟩ := info_parts int_info_R
  have h := run_make (P := Tryz.prog) W 26 3 i0 (.int .i64 0) Tryz.underlying26 hi0 hz0 .i64 .i64 (S : Int) (S : Int) (by omega) (by omega) (by rw [hz2]; omega) (by omega)
  rw [h]
  have : madeCells (Value.int .i64 0).cells ((S : Int).toNat * i0.size) = ((List.range S).map fun _ => Value.int .i64 0).toArray := by
    rw [hz1, Int.toNat_natCast, Nat.mul_one]
    unfold madeCells
    apply Array.ext_getElem?
    intro t
    by_cases ht : t < S
    · simp [ht, Value.cells, Nat.mod_one]
    · simp [ht]
  rw [this, Int.toNat_natCast]
theorem blk_put {W : World} {g : Nat} {cs : Array Value} {t : TypeId} (h : W.heap[g]? = some (.cells cs t (0, 0))) (o : Obj) (k : Nat) (u : Value) : ((W.setCell ⟨g, k, none⟩ u).alloc o).heap[g]? = some (.cells (cs.setIfInBounds k u) t (0, 0)) := by
  refine blk_alloc ?_
  simp [World.setCell, Array.getElem?_modify, h]
/-- times, at a round's head: block g holds the first k times. -/
def TmR (d : Array (Int × Int)) (w : World) (iv : Value) (wr : World) : Prop := ∃ k : Nat, iv = .int .i64 (k : Int) ∧ k ≤ d.size ∧ wr.heap[w.heap.size]? = some (.cells (tcs d k) 3 (0, 0)) ∧ Below w.heap.size w wr
set_option maxRecDepth 100000
set_option maxHeartbeats 1000000 in
theorem times_any (A : Option Addr) (c : Nat) (d : Array (Int × Int)) (w : World) (h : RdK encA_I 2 w.heap.size w A d) (hd : d.size ≤ 1000000) :
    Calls Tryz.prog 106 #[.slice A d.size c] w fun e w' => e = .returned (.slice (some ⟨w.heap.size, 0, none⟩) (timesA d).size d.size) ∧ w'.heap[w.heap.size]? = some (.cells ((timesA d).map encI_R) 3 (0, 0)) ∧ Below w.heap.size w w' := by
  have HR := Lib.hid h
  clear h
  have hmk := make_ints d.size hd w
  go_enter Tryz.func106, Tryz.ntmps106
  go_wp2
  clear hmk
  go_loopw [11] (fun i wr => TmR d w i wr) (fun i _ => d.size - (intOf i).toNat)
  case atStart =>
    refine ⟨0, rfl, Nat.zero_le _, ?_, bel1 w _⟩
    have e : ((List.range d.size).map fun _ => Value.int .i64 0).toArray = tcs d 0 := by
      unfold tcs
      simp
    rw [e]
    exact heap_alloc_new w _
  case round =>
    obtain ⟨k, rfl, hk, hblk, hB⟩ := hrel
    have HB := Lib.hid hB
    have HK := Lib.hid hblk
    have hgs : w.heap.size < wr.heap.size := by
      rcases Nat.lt_or_ge w.heap.size wr.heap.size with h | h
      · exact h
      · rw [Array.getElem?_eq_none h] at hblk; cases hblk
    clear hB hblk
    by_cases hlt : k < d.size
    · have kz : (k : Int) < (d.size : Int) := by omega
      obtain ⟨b, off, rfl, hbl, f⟩ := (HR.out.below HB.out).at_ hlt
      have e0 := f 0 (by omega)
      have e1 := f 1 (by omega)
      have HN := Lib.hid (tcs_set d k)
      have cg : wr.cell? ⟨w.heap.size, k, none⟩ = some (.int .i64 0) := by
        rw [cell_of_row wr _ k _ _ (0, 0) HK.out, tcs_at, if_pos hlt, if_neg (by omega)]
      have fg : wr.frozen? ⟨w.heap.size, k, none⟩ = false := by
        have := HK.out
        simp [World.frozen?, this]
      generalize d[k]! = x at e0 e1 HN
      simp only [Nat.add_zero, encA_I, List.getElem!_cons_zero, List.getElem!_cons_succ] at e0 e1
      clear f
      generalize hG : w.heap.size = G at cg fg hgs HK HB
      have HG := Lib.hid hG
      clear hG
      go_wp2
      go_roundw
      case rel =>
        refine ⟨k + 1, by go_num, by omega, ?_, ?_⟩
        · rw [← HN.out, HG.out]; exact blk_put HK.out _ k _
        · rw [HG.out]; exact (HB.out.setCell (p := ⟨G, k, none⟩) (Nat.le_refl G) _).alloc (by simp; omega) _
      case measure => simp [intOf]; omega
    · have hlt' : decide ((k : Int) < (d.size : Int)) = false := by simp; omega
      have HE : Hid (wr.heap[w.heap.size]? = some (.cells ((timesA d).map encI_R) 3 (0, 0))) := by
        show _ = _
        rw [HK.out, ← tcs_all]
        have : k = d.size := by omega
        rw [this]
      have HT := Lib.hid (timesA_size d)
      go_wp2
      go_ret
      refine ⟨?_, HE.out, HB.out⟩
      rw [HT.out]; rfl
end Go.Proofs.YtnmojicfmcbgmaaGreat
namespace Go.Proofs.YtnmojicfmcbgmaaGreat
open Go.RowKit Go.Sort Go.Lib
theorem bsT (g c : Nat) (a : Array (Int × Int)) (x : Int) (w : World) (hup : (timesL a.toList).Pairwise (· < ·)) (hs : a.size ≤ 1000000) (hblk : w.heap[g]? = some (.cells ((timesA a).map encI_R) 3 (0, 0))) :
    Calls Tryz.prog 144 #[.slice (some ⟨g, 0, none⟩) (timesA a).size c, .int .i64 x] w fun e w' => ∃ i, e = .returned (.tuple #[.int .i64 i, .bool (atK a x)]) ∧ Below w.heap.size w w' := by
  have hl : (timesL a.toList).length = (timesA a).size := by simp [timesA]
  have ht : (timesL a.toList).take (timesA a).size = timesL a.toList := List.take_of_length_le (by omega)
  refine (Tryz.slices_BinarySearch_int g 0 (timesA a).size c (timesL a.toList) x w (by omega) (by rw [timesA_size]; omega) ?_ ?_).mono ?_
  · intro j hj
    rw [Nat.zero_add, cell_of_row w g j _ _ (0, 0) hblk]
    rw [hl] at hj
    simp [encI_R, timesA, List.getD_eq_getElem?_getD, (show j < (timesL a.toList).length by omega)]
  · rw [ht]
    exact hup.imp (fun h => Int.le_of_lt h)
  · rintro e w' ⟨rfl, q, rfl⟩
    rw [ht]
    exact ⟨_, rfl, belDrewN (Below.refl _ _) q⟩
/-- merged, at a round's head. -/
def MgR (B : Nat) (a b : Array (Int × Int)) (w : World) (ov iv : Value) (wr : World) : Prop := ∃ (k : Nat) (out : Array (Int × Int)), iv = .int .i64 (k : Int) ∧ k ≤ b.size ∧ out.size ≤ a.size + k ∧ (a.toList ++ b.toList.filter fun x => !(atK a x.1)) = out.toList ++ (b.toList.drop k).filter (fun x => !(atK a x.1)) ∧ wr.ownsRow B 29 2 ov out.size (flatK encA_I 2 out).toList ∧ wr.heap[w.heap.size]? = some (.cells ((timesA a).map encI_R) 3 (0, 0)) ∧ B ≤ wr.heap.size ∧ Below w.heap.size w wr
theorem own_app_A {w wr w1 : World} {B : Nat} {o : Obj} {e : TypeId} {s n : Nat} {v : Value} {xs : List Value} (hb : Below B w wr) (hB : B ≤ wr.heap.size) (hown : wr.ownsRow B e s v n xs) (hg : (wr.alloc o).grownBy w1 v.ownBlock) : Below B w w1 :=
  (hb.alloc hB _).grown hg (by simp; omega) (fun k hk => (hown.lt k hk).1)
set_option maxRecDepth 100000
set_option maxHeartbeats 4000000 in
theorem merged_any (A1 : Option Addr) (c1 : Nat) (a : Array (Int × Int)) (A2 : Option Addr) (c2 : Nat) (b : Array (Int × Int)) (w : World) (h1 : RdK encA_I 2 w.heap.size w A1 a) (h2 : RdK encA_I 2 w.heap.size w A2 b) (hup : (timesL a.toList).Pairwise (· < ·)) (hs1 : a.size ≤ 100000) (hs2 : b.size ≤ 100000) :
    Calls Tryz.prog 105 #[.slice A1 a.size c1, .slice A2 b.size c2] w fun e w' => ∃ A' c', e = .returned (.slice A' (mrgK a b).size c') ∧ RdK encA_I 2 w'.heap.size w' A' (mrgK a b) ∧ (A' = none → c' = 0) ∧ (∀ g off, A' = some ⟨g, off, none⟩ → w.heap.size ≤ g) ∧ Below w.heap.size w w' := by
  obtain ⟨i0, hi0, hz0, hz1, hz2⟩ := info_parts att_info_I
  have H1 := Lib.hid h1
  have H2 := Lib.hid h2
  have HU := Lib.hid hup
  clear h1 h2 hup
  have HMS : Hid ((mrgK a b).size = (a.toList ++ b.toList.filter fun x => !(atK a x.1)).toArray.size) := by show _ = _; unfold mrgK; rw [srtA_size]; rfl
  go_enter Tryz.func105, Tryz.ntmps105
  go_wp2_with fail
  refine (times_any A1 c1 a w H1.out (by omega)).mono ?_
  rintro e w1 ⟨rfl, hblk1, hb1⟩
  have HB1 := Lib.hid hb1
  have HK1 := Lib.hid hblk1
  clear hb1 hblk1
  have HC := Lib.hid (CloneAny A1 c1 a w1 ((H1.out.below HB1.out).mono HB1.out.size) (by omega))
  go_wp2_with fail
  refine HC.out.mono ?_
  rintro e w2 ⟨v, rfl, hown2, hb2⟩
  have hlt1 : w.heap.size < w1.heap.size := by
    rcases Nat.lt_or_ge w.heap.size w1.heap.size with h | h
    · exact h
    · have := HK1.out; rw [Array.getElem?_eq_none h] at this; cases this
  have HO2 := Lib.hid hown2
  have HK2 := Lib.hid ((hb2.block _ hlt1).trans HK1.out)
  have HB2 := Lib.hid (belStep HB1.out hb2)
  obtain ⟨B, hBe⟩ : ∃ B, B = w1.heap.size := ⟨_, rfl⟩
  rw [← hBe] at HO2 hlt1
  have hB2z : B ≤ w2.heap.size := by rw [hBe]; exact hb2.size
  clear HC hown2 hb2 HK1 hBe
  generalize hG : w.heap.size = G
  have HG := Lib.hid hG
  clear hG
  go_wp2
  go_loopw [6, 17] (fun ov iv wr => MgR B a b w ov iv wr) (fun _ i _ => b.size - (intOf i).toNat)
  case atStart => exact ⟨0, a, rfl, Nat.zero_le _, by omega, rfl, HO2.out, HK2.out, hB2z, HB2.out⟩
  case round =>
    obtain ⟨k, out, rfl, hk, hos, he, hown, hblk, hBz, hB⟩ := hrel
    have HE := Lib.hid he
    have HO := Lib.hid hown
    have HK := Lib.hid hblk
    have HB := Lib.hid hB
    clear he hown hblk hB
    by_cases hlt : k < b.size
    · have kz : (k : Int) < (b.size : Int) := by omega
      obtain ⟨bb, off, rfl, hbl, f⟩ := (H2.out.below HB.out).at_ hlt
      have e0 := f 0 (by omega)
      have e1 := f 1 (by omega)
      have HD := Lib.hid (drop_arr_K b k hlt)
      generalize b[k]! = x at e0 e1 HD
      simp only [Nat.add_zero, encA_I, List.getElem!_cons_zero, List.getElem!_cons_succ] at e0 e1
      clear f
      have HBS : Hid (∀ c W, Below wr.heap.size wr W → Calls Tryz.prog 144 #[.slice (some ⟨G, 0, none⟩) (timesA a).size c, .int .i64 x.1] W fun e w' => ∃ i, e = .returned (.tuple #[.int .i64 i, .bool (atK a x.1)]) ∧ Below W.heap.size W w') := fun c W hbW => by
        refine bsT G c a x.1 W HU.out (by omega) ?_
        have hlt2 : w.heap.size < wr.heap.size := by
          rcases Nat.lt_or_ge w.heap.size wr.heap.size with h | h
          · exact h
          · have := HK.out; rw [Array.getElem?_eq_none h] at this; cases this
        rw [← HG.out]
        exact (hbW.block _ hlt2).trans HK.out
      go_wp2_with fail
      refine (HBS.out _ _ (bel1 wr _)).mono ?_
      rintro e w4 ⟨i, rfl, hb4⟩
      have u0 : w4.cell? ⟨wr.heap.size, 0, none⟩ = some (.int .i64 x.1) := (hb4.cell (p := ⟨wr.heap.size, 0, none⟩) (by simp)).trans (by rw [cell_new]; rfl)
      have u1 : w4.cell? ⟨wr.heap.size, 1, none⟩ = some (.int .i64 x.2) := (hb4.cell (p := ⟨wr.heap.size, 1, none⟩) (by simp)).trans (by rw [cell_new]; rfl)
      have hB4 := belStep (bel1 wr _) hb4
      have HB4 := Lib.hid (HB.out.trans (hB4.mono HB.out.size))
      have hO4 := own_below HO.out hB4
      have HK4 := Lib.hid (show w4.heap[w.heap.size]? = _ from (hB4.block _ (by
        rcases Nat.lt_or_ge w.heap.size wr.heap.size with h | h
        · exact h
        · have := HK.out; rw [Array.getElem?_eq_none h] at this; cases this)).trans HK.out)
      have hz4 : B ≤ w4.heap.size := Nat.le_trans hBz hB4.size
      clear hb4 hB4 HBS
      cases hat : atK a x.1
      · have HN : Hid ((a.toList ++ b.toList.filter fun x => !(atK a x.1)) = (out.push x).toList ++ (b.toList.drop (k + 1)).filter (fun x => !(atK a x.1))) := by
          show _ = _
          rw [HE.out, HD.out, List.filter_cons, hat, Array.toList_push, List.append_assoc]; rfl
        clear hat
        go_wp2_with (at_builtin; refine wpList_append_own _ rfl _ _ 23 rfl B 29 i0 (.agg #[.int .i64 0, .int .i64 0]) 2 16 Tryz.underlying23 hi0 hz0 hz1 hz2 rfl (by decide) _ _ _ rfl (hO4.alloc _) ⟨w4.heap.size, 0, none⟩ 1 1 [.int .i64 x.1, .int .i64 x.2] rfl rfl (two_new_R w4 _ _ _) (by simp [Value.oneCell']) (by unfold maxLen; omega) (by omega) (by simp; omega) ?_; intro v' w5 hown' hgrow _)
        go_roundw
        case rel =>
          refine ⟨k + 1, out.push x, by go_num, by omega, by simp; omega, HN.out, (by rw [Array.size_push, flatK_push encA_len_I]; exact hown'), ?_, Nat.le_trans hz4 (Nat.le_trans (by simp) hgrow.size), own_app_A HB4.out HB4.out.size (own_mono_R hO4 (by omega)) hgrow⟩
          have hz := HB4.out.size
          refine (hgrow.block _ (by simp; omega) (fun e => ?_)).trans (blk_alloc HK4.out)
          have := (hO4.lt _ e.symm).1
          omega
        case measure => simp [intOf]; omega
      · have HN : Hid ((a.toList ++ b.toList.filter fun x => !(atK a x.1)) = out.toList ++ (b.toList.drop (k + 1)).filter (fun x => !(atK a x.1))) := by
          show _ = _
          rw [HE.out, HD.out, List.filter_cons, hat]; rfl
        clear hat
        go_wp2
        go_roundw
        case rel => exact ⟨k + 1, out, by go_num, by omega, by omega, HN.out, hO4, HK4.out, hz4, HB4.out⟩
        case measure => simp [intOf]; omega
    · have hlt' : decide ((k : Int) < (b.size : Int)) = false := by simp; omega
      have HN : Hid ((a.toList ++ b.toList.filter fun x => !(atK a x.1)).toArray = out) := by
        show _ = _
        rw [HE.out, List.drop_of_length_le (by simp; omega)]; simp
      obtain ⟨Am, cm, rfl, hrd, _⟩ := rdK_of_owns HO.out
      have HS := Lib.hid (Sort_any Am cm out wr hrd (by omega))
      clear hrd
      go_wp2_with fail
      refine HS.out.mono ?_
      rintro e w4 ⟨A', c', rfl, hrd4, hn4, hg4, hb4⟩
      have HR4 := Lib.hid hrd4
      have HN4 := Lib.hid hn4
      have HG4 := Lib.hid hg4
      have HB4 := Lib.hid hb4
      clear hrd4 hn4 hg4 hb4
      go_wp2
      go_ret
      refine ⟨A', c', by rw [HMS.out, HN.out]; rfl, ?_, HN4.out, fun g off e => Nat.le_trans HB.out.size (HG4.out g off e), belStep HB.out HB4.out⟩
      have e : mrgK a b = srtA out := by rw [← HN.out]; rfl
      rw [e]
      exact HR4.out
end Go.Proofs.YtnmojicfmcbgmaaGreat
namespace Go.Proofs.YtnmojicfmcbgmaaGreat
open Go.RowKit Go.Sort Go.Lib
theorem box3 {w w1 : World} {a b c : Value} {T : TypeId} (hb : Below (w.alloc (.cells #[a, b, c] T)).heap.size (w.alloc (.cells #[a, b, c] T)) w1) : w1.cell? ⟨w.heap.size, 0, none⟩ = some a ∧ w1.cell? ⟨w.heap.size, 1, none⟩ = some b ∧ w1.cell? ⟨w.heap.size, 2, none⟩ = some c := by
  refine ⟨?_, ?_, ?_⟩
  · exact (hb.cell (p := ⟨w.heap.size, 0, none⟩) (by simp)).trans (cell_new w _ _ 0)
  · exact (hb.cell (p := ⟨w.heap.size, 1, none⟩) (by simp)).trans (cell_new w _ _ 1)
  · exact (hb.cell (p := ⟨w.heap.size, 2, none⟩) (by simp)).trans (cell_new w _ _ 2)
theorem has_in {rs : Array (Int × Int)} (h : setE_R rs = 0) (n : Int) : hasB_R rs n = inR rs n := by unfold hasB_R; rw [h]; rfl
set_option maxRecDepth 100000
set_option maxHeartbeats 1000000 in
theorem kChk1_any (rs : Array (Int × Int)) (A1 : Option Addr) (c1 : Nat) (x : Int × Int) (g : Nat) (w : World) (hg : g < w.heap.size) (hc : w.cell? ⟨g, 1, none⟩ = some (.slice A1 rs.size c1)) (h : RdK encR 2 w.heap.size w A1 rs) :
    Calls Tryz.prog 132 #[.agg #[.int .i64 x.1, .int .i64 x.2], .pointer (some ⟨g, 0, none⟩)] w fun e w' => e = .returned (.bool (hasB_R rs x.1)) ∧ Below w.heap.size w w' := by
  have HR := Lib.hid h
  clear h
  have hc1 : (w.alloc (.cells #[.int .i64 x.1, .int .i64 x.2] 29)).cell? ⟨g, 1, none⟩ = some (.slice A1 rs.size c1) := (World.cell?_alloc_lt w _ _ hg).trans hc
  have HH := Lib.hid (gHas_any A1 c1 rs x.1 (w.alloc (.cells #[.int .i64 x.1, .int .i64 x.2] 29)) ((HR.out.alloc (Nat.le_refl _) _).mono (bel1 w _).size))
  generalize hasB_R rs x.1 = hv at HH
  go_enter Tryz.func132, Tryz.ntmps132
  go_wp2_with fail
  refine HH.out.mono ?_
  rintro e w1 ⟨rfl, hb1⟩
  go_wp2
  go_ret
  exact ⟨rfl, belStep (bel1 w _) hb1⟩
set_option maxHeartbeats 4000000 in
theorem kCheck_let (base : Int) (rs ats : Array (Int × Int)) (A1 : Option Addr) (c1 : Nat) (A2 : Option Addr) (c2 : Nat) (w : World) (h1 : RdK encR 2 w.heap.size w A1 rs) (h2 : RdK encA_I 2 w.heap.size w A2 ats) :
    Calls Tryz.prog 79 #[.agg #[.int .i64 base, .slice A1 rs.size c1, .slice A2 ats.size c2]] w fun e w' => e = .returned (.int .i64 (chkE ⟨base, rs, ats⟩)) ∧ Below w.heap.size w w' := by
  have HC : Hid (∀ W, Below w.heap.size w W → Calls Tryz.prog 84 #[.slice A1 rs.size c1] W fun e w' => e = .returned (.int .i64 (setE_R rs)) ∧ Below W.heap.size W w') := fun W hb => gCheck_any A1 c1 rs W ((h1.below hb).mono hb.size)
  have HRi : Hid (ats.size ≤ 400 → ∀ W, Below w.heap.size w W → Calls Tryz.prog 101 #[.slice A2 ats.size c2, .int .i64 base, .int .i64 1000000] W fun e w' => e = .returned (.bool (riseL 1000000 base ats.toList)) ∧ Below W.heap.size W w') := fun hs W hb => rise_any A2 c2 ats base 1000000 W ((h2.below hb).mono hb.size) (by omega)
  have HR1 := Lib.hid h1
  have HR2 := Lib.hid h2
  have hrw : ∀ b : Bool, chkB ⟨base, rs, ats⟩ = b → chkE ⟨base, rs, ats⟩ = if b = true then 0 else 2 := fun b hb => by unfold chkE; rw [hb]
  clear h1 h2
  by_cases g1 : base < 0 ∨ 1000000 < base ∨ setE_R rs ≠ 0 ∨ 400 < ats.size ∨ riseL 1000000 base ats.toList = false
  · have HE : Hid (chkE ⟨base, rs, ats⟩ = 2) := by
      show _ = _
      rw [hrw false]
      · rfl
      · rw [Bool.eq_false_iff]
        intro h
        have h' := chk_iff.1 h
        have a1 := h'.b0
        have a2 := h'.b1
        have a3 := h'.rs
        have a4 := h'.sz
        have a5 := h'.up
        simp only at a1 a2 a3 a4 a5
        rcases g1 with g | g | g | g | g
        · omega
        · omega
        · exact g a3
        · omega
        · rw [a5] at g; cases g
    clear hrw
    by_cases q1 : base < 0
    · have q1' : decide (base < 0) = true := by simpa using q1
      clear g1 q1
      go_enter Tryz.func79, Tryz.ntmps79
      go_wp2
      go_ret
      exact ⟨ret_int HE.out.symm, bel1 w _⟩
    · have q1' : decide (base < 0) = false := by simpa using q1
      by_cases q2 : 1000000 < base
      · have q2' : decide (1000000 < base) = true := by simpa using q2
        clear g1 q1 q2
        go_enter Tryz.func79, Tryz.ntmps79
        go_wp2
        go_ret
        exact ⟨ret_int HE.out.symm, bel1 w _⟩
      · have q2' : decide (1000000 < base) = false := by simpa using q2
        have HQ : Hid (setE_R rs ≠ 0 ∨ 400 < ats.size ∨ riseL 1000000 base ats.toList = false) := by
          rcases g1 with g | g | g
          · exact absurd g q1
          · exact absurd g q2
          · exact g
        clear g1 q1 q2
        go_enter Tryz.func79, Tryz.ntmps79
        go_wp2_with fail
        refine (HC.out _ (bel1 w _)).mono ?_
        rintro e w1 ⟨rfl, hb1⟩
        obtain ⟨u0, u1, u2⟩ := box3 hb1
        have HB1 := Lib.hid (belStep (bel1 w _) hb1)
        have hrest := fun p : ats.size ≤ 400 => HRi.out p w1 HB1.out
        have HR := Lib.hid hrest
        clear hb1 hrest HC
        by_cases q3 : setE_R rs = 0
        · have q3' : (setE_R rs != 0) = false := by simpa using q3
          by_cases q4 : 400 < ats.size
          · have q4' : decide ((400 : Int) < (ats.size : Int)) = true := by simp; omega
            clear q3 q4
            go_wp2
            go_ret
            exact ⟨ret_int HE.out.symm, HB1.out⟩
          · have q4' : decide ((400 : Int) < (ats.size : Int)) = false := by simp; omega
            have q5 : riseL 1000000 base ats.toList = false := by
              rcases HQ.out with g | g | g
              · exact absurd q3 g
              · exact absurd g q4
              · exact g
            have HRR := Lib.hid (HR.out (by omega))
            rw [q5] at HRR
            clear q3 q5 HQ HR
            go_wp2_with fail
            refine HRR.out.mono ?_
            rintro e w2 ⟨rfl, hb2⟩
            go_wp2
            go_ret
            exact ⟨ret_int HE.out.symm, belStep HB1.out hb2⟩
        · have q3' : (setE_R rs != 0) = true := by simpa using q3
          clear q3 HQ
          go_wp2
          go_ret
          exact ⟨ret_int HE.out.symm, HB1.out⟩
  · obtain ⟨p1, p2, p3, p4, p5⟩ : 0 ≤ base ∧ base ≤ 1000000 ∧ setE_R rs = 0 ∧ ats.size ≤ 400 ∧ riseL 1000000 base ats.toList = true := by
      refine ⟨by omega, by omega, Classical.byContradiction fun h => g1 (by simp [h]), by omega, ?_⟩
      cases hr : riseL 1000000 base ats.toList
      · exact absurd (by simp [hr]) g1
      · rfl
    have hall : chkB ⟨base, rs, ats⟩ = (decide (0 < rs.size → base + 1 < rs[0]!.1) && !(ats.toList.any fun a => hasB_R rs a.1)) := by
      have e : (fun a : Int × Int => hasB_R rs a.1) = fun a => inR rs a.1 := funext fun a => has_in p3 a.1
      rw [e]
      unfold chkB
      simp only [p3, p5, p4]
      simp [p1, p2]
    have HA := Lib.hid hall
    have q1 : decide (base < 0) = false := by simpa using p1
    have q2 : decide (1000000 < base) = false := by simpa using p2
    have q3 : (setE_R rs != 0) = false := by simpa using p3
    have q4 : decide ((400 : Int) < (ats.size : Int)) = false := by simp; omega
    have HRi' := Lib.hid (HRi.out p4)
    rw [p5] at HRi'
    have HW := Lib.hid hrw
    have HP4 := Lib.hid p4
    have hrs := (setE_all p3).1
    have hatN : ∀ W, Below w.heap.size w W → 0 < rs.size → ∃ b off, A1 = some ⟨b, off, none⟩ ∧ W.cell? ⟨b, off, none⟩ = some (.int .i64 rs[0]!.1) := fun W hb h0 => by
      obtain ⟨b, off, e, _, f⟩ := (HR1.out.below hb).at_ (i := 0) h0
      refine ⟨b, off, e, ?_⟩
      have := f 0 (by omega)
      simpa [encR] using this
    have HN := Lib.hid hatN
    have hclo : ∀ g W, g < W.heap.size → W.cell? ⟨g, 1, none⟩ = some (.slice A1 rs.size c1) → Below w.heap.size w W → Calls Tryz.prog 133 #[.slice A2 ats.size c2, .func (.func 132) #[] #[.pointer (some ⟨g, 0, none⟩)]] W fun e w' => e = .returned (.bool (ats.toList.any fun a => hasB_R rs a.1)) ∧ Below W.heap.size W w' := fun g W hg hc hb =>
      ContA (fun a => hasB_R rs a.1) 132 #[.pointer (some ⟨g, 0, none⟩)] A2 c2 ats W ((HR2.out.below hb).mono hb.size) (by omega) (enters_of Tryz.func132 (by kernel_rfl) rfl)
        (fun W' x hbW => (kChk1_any rs A1 c1 x g W' (Nat.lt_of_lt_of_le hg hbW.size) ((hbW.cell (p := ⟨g, 1, none⟩) hg).trans hc) (((HR1.out.below hb).mono hb.size).below hbW |>.mono hbW.size)).mono fun _ _ ⟨he, hb'⟩ => ⟨he, hbW.trans (hb'.mono hbW.size)⟩)
    have HCl := Lib.hid hclo
    clear g1 p3 p5 hall hrw hatN hclo HRi
    go_enter Tryz.func79, Tryz.ntmps79
    go_wp2_with fail
    refine (HC.out _ (bel1 w _)).mono ?_
    rintro e w1 ⟨rfl, hb1⟩
    obtain ⟨u0, u1, u2⟩ := box3 hb1
    have HB1 := Lib.hid (belStep (bel1 w _) hb1)
    have HRR := Lib.hid (HRi'.out w1 HB1.out)
    have hlt1 : w.heap.size < w1.heap.size := by have := hb1.size; simp at this; omega
    clear hb1 HC HRi'
    go_wp2_with fail
    refine HRR.out.mono ?_
    rintro e w2 ⟨rfl, hb2⟩
    have v0 := (hb2.cell (p := ⟨w.heap.size, 0, none⟩) hlt1).trans u0
    have v1 := (hb2.cell (p := ⟨w.heap.size, 1, none⟩) hlt1).trans u1
    have v2 := (hb2.cell (p := ⟨w.heap.size, 2, none⟩) hlt1).trans u2
    have hlt2 : w.heap.size < w2.heap.size := Nat.lt_of_lt_of_le hlt1 hb2.size
    have HB2 := Lib.hid (belStep HB1.out hb2)
    clear hb2 u0 u1 u2 HRR hlt1
    by_cases q5 : 0 < rs.size
    · obtain ⟨b, off, rfl, hcell⟩ := HN.out w2 HB2.out q5
      have q5' : decide ((0 : Int) < (rs.size : Int)) = true := by simp; omega
      obtain ⟨lo, hlo⟩ : ∃ lo, rs[0]!.1 = lo := ⟨_, rfl⟩
      rw [hlo] at hcell
      have HLo := Lib.hid hlo
      clear hlo HN
      by_cases q6 : lo ≤ base + 1
      · have q6' : decide (lo ≤ base + 1) = true := by simpa using q6
        have HE : Hid (chkE ⟨base, rs, ats⟩ = 2) := by
          show _ = _
          rw [HW.out false]
          · rfl
          · rw [HA.out, Bool.and_eq_false_iff]
            left
            rw [decide_eq_false_iff_not]
            intro h
            have := h q5
            rw [HLo.out] at this
            omega
        clear q6
        go_wp2
        go_quiet (fail)
        go_wp2
        go_ret
        exact ⟨ret_int HE.out.symm, belDrewN HB2.out _⟩
      · have q6' : decide (lo ≤ base + 1) = false := by simpa using q6
        have hone : decide (0 < rs.size → base + 1 < rs[0]!.1) = true := by
          rw [decide_eq_true_iff]
          intro _
          rw [HLo.out]
          omega
        rw [hone, Bool.true_and] at HA
        clear q6 hone
        go_wp2
        go_quiet (fail)
        have HCC := Lib.hid (HCl.out w.heap.size (w2.drewN nq) hlt2 v1 (belDrewN HB2.out _))
        cases hany : (ats.toList.any fun a => hasB_R rs a.1)
        · rw [hany] at HCC HA
          have HE : Hid (chkE ⟨base, rs, ats⟩ = 0) := by show _ = _; rw [HW.out true HA.out]; rfl
          clear hany
          go_wp2_with fail
          refine HCC.out.mono ?_
          rintro e w3 ⟨rfl, hb3⟩
          go_wp2
          go_ret
          exact ⟨ret_int HE.out.symm, belStep (belDrewN HB2.out _) hb3⟩
        · rw [hany] at HCC HA
          have HE : Hid (chkE ⟨base, rs, ats⟩ = 2) := by show _ = _; rw [HW.out false HA.out]; rfl
          clear hany
          go_wp2_with fail
          refine HCC.out.mono ?_
          rintro e w3 ⟨rfl, hb3⟩
          go_wp2
          go_ret
          exact ⟨ret_int HE.out.symm, belStep (belDrewN HB2.out _) hb3⟩
    · have q5' : decide ((0 : Int) < (rs.size : Int)) = false := decide_eq_false (by omega)
      have q5n : decide (0 < rs.size) = false := decide_eq_false q5
      have hone : decide (0 < rs.size → base + 1 < rs[0]!.1) = true := by
        rw [decide_eq_true_iff]
        intro h
        exact absurd h q5
      rw [hone, Bool.true_and] at HA
      clear q5 hone HN
      go_wp2
      go_quiet (fail)
      have HCC := Lib.hid (HCl.out w.heap.size (w2.drewN nq) hlt2 v1 (belDrewN HB2.out _))
      cases hany : (ats.toList.any fun a => hasB_R rs a.1)
      · rw [hany] at HCC HA
        have HE : Hid (chkE ⟨base, rs, ats⟩ = 0) := by show _ = _; rw [HW.out true HA.out]; rfl
        clear hany
        go_wp2_with fail
        refine HCC.out.mono ?_
        rintro e w3 ⟨rfl, hb3⟩
        go_wp2
        go_ret
        exact ⟨ret_int HE.out.symm, belStep (belDrewN HB2.out _) hb3⟩
      · rw [hany] at HCC HA
        have HE : Hid (chkE ⟨base, rs, ats⟩ = 2) := by show _ = _; rw [HW.out false HA.out]; rfl
        clear hany
        go_wp2_with fail
        refine HCC.out.mono ?_
        rintro e w3 ⟨rfl, hb3⟩
        go_wp2
        go_ret
        exact ⟨ret_int HE.out.symm, belStep (belDrewN HB2.out _) hb3⟩
theorem kCheck_any (v : Value) (k : KN) (w : World) (h : KnV w v k) : Calls Tryz.prog 79 #[v] w fun e w' => e = .returned (.int .i64 (chkE k)) ∧ Below w.heap.size w w' := by
  obtain ⟨A1, c1, A2, c2, rfl, h1, h2, _, _⟩ := h
  exact kCheck_let k.base k.rs k.ats A1 c1 A2 c2 w h1 h2
end Go.Proofs.YtnmojicfmcbgmaaGreat
namespace Go.Proofs.YtnmojicfmcbgmaaGreat
open Go.RowKit Go.Sort Go.Lib
set_option maxRecDepth 100000
theorem arr_ext_K {α : Type} [Inhabited α] {d1 d2 : Array α} (hs : d1.size = d2.size) (h : ∀ j, j < d1.size → d1[j]! = d2[j]!) : d1 = d2 :=
  Array.ext hs fun t h1 h2 => by have := h t h1; rwa [getElem!_pos d1 t h1, getElem!_pos d2 t h2] at this
theorem attGuard_K : Tryz.prog.eqGuardType Tryz.prog.depth 29 = false := by kernel_rfl
theorem neA_K (x y : Int × Int) (w : World) : (binOp .neq 29 (.agg #[.int .i64 x.1, .int .i64 x.2]) (.agg #[.int .i64 y.1, .int .i64 y.2])).run Tryz.prog w = .ok (.bool (!decide (x = y))) w := by
  have hS : Tryz.prog.underlying 29 = some (.struct (Tryz.prog.fieldsOf 29)) := by kernel_rfl
  have hp : Tryz.prog.stoodInHeld 29 = false := by kernel_rfl
  have u3 := Tryz.underlying3
  rw [run_neq_struct, show (10000 : Nat) = 9999 + 1 from rfl, run_equalIn_agg w 9999 29 _ _ hS hp]
  simp only [Program.fieldsOf, Tryz.underlying29]
  go_simp
  obtain ⟨x1, x2⟩ := x
  obtain ⟨y1, y2⟩ := y
  by_cases h1 : x1 = y1 <;> by_cases h2 : x2 = y2 <;> simp [h1, h2]
set_option maxHeartbeats 1000000 in
theorem EqAttsK0 (A1 A2 : Option Addr) (c1 c2 : Nat) (d1 d2 : Array (Int × Int)) (B1 B2 : Nat) (w : World) (h1 : RdK encA_I 2 B1 w A1 d1) (h2 : RdK encA_I 2 B2 w A2 d2) (_hn : d1.size ≤ 100000000) (hm : d2.size ≤ 100000000) :
    Calls Tryz.prog 43 #[.slice A1 d1.size c1, .slice A2 d2.size c2] w fun e w' => e = .returned (.bool (decide (d1 = d2))) ∧ ∃ n, w' = w.drewN n := by
  by_cases hs : d1.size = d2.size
  · have hb : ((d1.size : Int) != (d2.size : Int)) = false := by simp [hs]
    have HS := Lib.hid hs
    have hge : d1.size ≤ d2.size := by omega
    clear hs
    go_enter Tryz.func43, Tryz.ntmps43
    go_wp2
    go_loopw [13] (fun i wr => ∃ k n : Nat, k ≤ d1.size ∧ i = .int .i64 k ∧ wr = w.drewN n ∧ ∀ j, j < k → d1[j]! = d2[j]!) (fun i _ => d1.size - (intOf i).toNat)
    case atStart => exact ⟨0, 0, Nat.zero_le _, rfl, rfl, fun j hj => absurd hj (by omega)⟩
    case round =>
      obtain ⟨k, n, hk, rfl, rfl, hj⟩ := hrel
      have HJ := Lib.hid hj; clear hj
      by_cases hlt : k < d1.size
      · obtain ⟨b1, o1, rfl, _, f1⟩ := h1.at_ hlt
        obtain ⟨b2, o2, rfl, _, f2⟩ := h2.at_ (i := k) (by omega)
        have e10 := f1 0 (by omega)
        have e11 := f1 1 (by omega)
        have e20 := f2 0 (by omega)
        have e21 := f2 1 (by omega)
        have hnx := neA_K d1[k]! d2[k]!
        have hgd := attGuard_K
        generalize hx : d1[k]! = x at e10 e11 hnx
        generalize hy : d2[k]! = y at e20 e21 hnx
        have HXX := Lib.hid hx; clear hx
        have HYY := Lib.hid hy; clear hy
        simp only [Nat.add_zero, encA_I, List.getElem!_cons_zero, List.getElem!_cons_succ] at e10 e11 e20 e21
        clear f1 f2
        have kz : (k : Int) < (d1.size : Int) := by omega
        have kz2 : (k : Int) < (d2.size : Int) := by omega
        by_cases hxy : x = y
        · skip
          have hd : decide (x = y) = true := by simp [hxy]
          have HXY := Lib.hid hxy; clear hxy
          rw [hd] at hnx
          clear hd
          go_wp2
          go_quiet (fail)
          go_wp2
          go_roundw
          case rel => exact ⟨k + 1, _, by omega, by go_num, rfl, fun j hj => by
            rcases Nat.lt_or_ge j k with h | h
            · exact HJ.out j h
            · obtain rfl : j = k := by omega
              rw [HXX.out, HYY.out]; exact HXY.out⟩
          case measure => simp [intOf]; omega
        · skip
          have hd : decide (x = y) = false := by simp [hxy]
          have HXY := Lib.hid hxy; clear hxy
          rw [hd] at hnx
          clear hd
          go_wp2
          go_quiet (fail)
          go_wp2
          go_ret
          exact ⟨ret_bool (by symm; rw [decide_eq_false_iff_not]; rintro rfl; exact HXY.out (by rw [← HXX.out, ← HYY.out])), _, World.drewN_drewN _ _ _⟩
      · go_wp2
        go_ret
        exact ⟨ret_bool (by symm; rw [decide_eq_true_iff]; exact arr_ext_K HS.out fun j hj => HJ.out j (by omega)), n, rfl⟩
  · have hb : ((d1.size : Int) != (d2.size : Int)) = true := by simp; omega
    have HS := Lib.hid hs
    clear hs
    go_enter Tryz.func43, Tryz.ntmps43
    go_wp2
    go_ret
    exact ⟨ret_bool (by symm; rw [decide_eq_false_iff_not]; rintro rfl; exact HS.out rfl), 0, rfl⟩
theorem EqAttsK_any (A1 A2 : Option Addr) (c1 c2 : Nat) (d1 d2 : Array (Int × Int)) (B1 B2 : Nat) (w : World) (h1 : RdK encA_I 2 B1 w A1 d1) (h2 : RdK encA_I 2 B2 w A2 d2) (hn : d1.size ≤ 100000000) (hm : d2.size ≤ 100000000) :
    Calls Tryz.prog 43 #[.slice A1 d1.size c1, .slice A2 d2.size c2] w fun e w' => e = .returned (.bool (decide (d1 = d2))) ∧ Below w.heap.size w w' :=
  (EqAttsK0 A1 A2 c1 c2 d1 d2 B1 B2 w h1 h2 hn hm).mono fun _ _ ⟨he, n, hw⟩ => ⟨he, by rw [hw]; exact belDrewN (Below.refl _ _) n⟩
theorem rngGuard_K : Tryz.prog.eqGuardType Tryz.prog.depth 81 = false := by kernel_rfl
theorem neR_K (x y : Int × Int) (w : World) : (binOp .neq 81 (.agg #[.int .i64 x.1, .int .i64 x.2]) (.agg #[.int .i64 y.1, .int .i64 y.2])).run Tryz.prog w = .ok (.bool (!decide (x = y))) w := by
  have hS : Tryz.prog.underlying 81 = some (.struct (Tryz.prog.fieldsOf 81)) := by kernel_rfl
  have hp : Tryz.prog.stoodInHeld 81 = false := by kernel_rfl
  have u3 := Tryz.underlying3
  rw [run_neq_struct, show (10000 : Nat) = 9999 + 1 from rfl, run_equalIn_agg w 9999 81 _ _ hS hp]
  simp only [Program.fieldsOf, Tryz.underlying81]
  go_simp
  obtain ⟨x1, x2⟩ := x
  obtain ⟨y1, y2⟩ := y
  by_cases h1 : x1 = y1 <;> by_cases h2 : x2 = y2 <;> simp [h1, h2]
set_option maxHeartbeats 1000000 in
theorem EqRngsK0 (A1 A2 : Option Addr) (c1 c2 : Nat) (d1 d2 : Array (Int × Int)) (B1 B2 : Nat) (w : World) (h1 : RdK encR 2 B1 w A1 d1) (h2 : RdK encR 2 B2 w A2 d2) (_hn : d1.size ≤ 100000000) (hm : d2.size ≤ 100000000) :
    Calls Tryz.prog 50 #[.slice A1 d1.size c1, .slice A2 d2.size c2] w fun e w' => e = .returned (.bool (decide (d1 = d2))) ∧ ∃ n, w' = w.drewN n := by
  by_cases hs : d1.size = d2.size
  · have hb : ((d1.size : Int) != (d2.size : Int)) = false := by simp [hs]
    have HS := Lib.hid hs
    have hge : d1.size ≤ d2.size := by omega
    clear hs
    go_enter Tryz.func50, Tryz.ntmps50
    go_wp2
    go_loopw [13] (fun i wr => ∃ k n : Nat, k ≤ d1.size ∧ i = .int .i64 k ∧ wr = w.drewN n ∧ ∀ j, j < k → d1[j]! = d2[j]!) (fun i _ => d1.size - (intOf i).toNat)
    case atStart => exact ⟨0, 0, Nat.zero_le _, rfl, rfl, fun j hj => absurd hj (by omega)⟩
    case round =>
      obtain ⟨k, n, hk, rfl, rfl, hj⟩ := hrel
      have HJ := Lib.hid hj; clear hj
      by_cases hlt : k < d1.size
      · obtain ⟨b1, o1, rfl, _, f1⟩ := h1.at_ hlt
        obtain ⟨b2, o2, rfl, _, f2⟩ := h2.at_ (i := k) (by omega)
        have e10 := f1 0 (by omega)
        have e11 := f1 1 (by omega)
        have e20 := f2 0 (by omega)
        have e21 := f2 1 (by omega)
        have hnx := neR_K d1[k]! d2[k]!
        have hgd := rngGuard_K
        generalize hx : d1[k]! = x at e10 e11 hnx
        generalize hy : d2[k]! = y at e20 e21 hnx
        have HXX := Lib.hid hx; clear hx
        have HYY := Lib.hid hy; clear hy
        simp only [Nat.add_zero, encR, List.getElem!_cons_zero, List.getElem!_cons_succ] at e10 e11 e20 e21
        clear f1 f2
        have kz : (k : Int) < (d1.size : Int) := by omega
        have kz2 : (k : Int) < (d2.size : Int) := by omega
        by_cases hxy : x = y
        · skip
          have hd : decide (x = y) = true := by simp [hxy]
          have HXY := Lib.hid hxy; clear hxy
          rw [hd] at hnx
          clear hd
          go_wp2
          go_quiet (fail)
          go_wp2
          go_roundw
          case rel => exact ⟨k + 1, _, by omega, by go_num, rfl, fun j hj => by
            rcases Nat.lt_or_ge j k with h | h
            · exact HJ.out j h
            · obtain rfl : j = k := by omega
              rw [HXX.out, HYY.out]; exact HXY.out⟩
          case measure => simp [intOf]; omega
        · skip
          have hd : decide (x = y) = false := by simp [hxy]
          have HXY := Lib.hid hxy; clear hxy
          rw [hd] at hnx
          clear hd
          go_wp2
          go_quiet (fail)
          go_wp2
          go_ret
          exact ⟨ret_bool (by symm; rw [decide_eq_false_iff_not]; rintro rfl; exact HXY.out (by rw [← HXX.out, ← HYY.out])), _, World.drewN_drewN _ _ _⟩
      · go_wp2
        go_ret
        exact ⟨ret_bool (by symm; rw [decide_eq_true_iff]; exact arr_ext_K HS.out fun j hj => HJ.out j (by omega)), n, rfl⟩
  · have hb : ((d1.size : Int) != (d2.size : Int)) = true := by simp; omega
    have HS := Lib.hid hs
    clear hs
    go_enter Tryz.func50, Tryz.ntmps50
    go_wp2
    go_ret
    exact ⟨ret_bool (by symm; rw [decide_eq_false_iff_not]; rintro rfl; exact HS.out rfl), 0, rfl⟩
theorem EqRngsK_any (A1 A2 : Option Addr) (c1 c2 : Nat) (d1 d2 : Array (Int × Int)) (B1 B2 : Nat) (w : World) (h1 : RdK encR 2 B1 w A1 d1) (h2 : RdK encR 2 B2 w A2 d2) (hn : d1.size ≤ 100000000) (hm : d2.size ≤ 100000000) :
    Calls Tryz.prog 50 #[.slice A1 d1.size c1, .slice A2 d2.size c2] w fun e w' => e = .returned (.bool (decide (d1 = d2))) ∧ Below w.heap.size w w' :=
  (EqRngsK0 A1 A2 c1 c2 d1 d2 B1 B2 w h1 h2 hn hm).mono fun _ _ ⟨he, n, hw⟩ => ⟨he, by rw [hw]; exact belDrewN (Below.refl _ _) n⟩
end Go.Proofs.YtnmojicfmcbgmaaGreat
