/- Contracts of the layer 'ranges': a clone; the ranges sorted; held; fits; Same. -/
import Derived.Shelf.SlSortCmp.NoneTotal
import Derived.Test.YtnmojicfmcbgmaaGreatQRead
import Derived.Test.YtnmojicfmcbgmaaGreatQOwnK
namespace Go.Proofs.YtnmojicfmcbgmaaGreat
open Go.RowKit Go.Sort Go.Lib

theorem encR_len (x : Int × Int) : (encR x).length = 2 := rfl
theorem encR_one (x : Int × Int) : ∀ u ∈ encR x, u.oneCell' = true := by
  intro u hu
  simp only [encR, List.mem_cons, List.not_mem_nil, or_false] at hu
  rcases hu with rfl | rfl <;> rfl
theorem range_info : (Tryz.prog.info? 81).map (fun i => (i.zero, i.size, i.bytes)) = some (some (.agg #[.int .i64 0, .int .i64 0]), 2, 16) := by kernel_rfl
set_option maxRecDepth 100000 in
set_option maxHeartbeats 1000000 in
/-- A clone: nothing, or a row of its own that holds the same. -/
theorem CloneR (A : Option Addr) (c : Nat) (d : Array (Int × Int)) (w : World) (h : RdK encR 2 w.heap.size w A d) (hd : d.size ≤ 1000000) :
    Calls Tryz.prog 128 #[.slice A d.size c] w fun e w' => ∃ v, e = .returned v ∧ w'.ownsRow w.heap.size 81 2 v d.size (flatK encR 2 d).toList ∧ Below w.heap.size w w' := by
  obtain ⟨i0, hi0, hz0, hz1, hz2⟩ := info_parts range_info
  cases A with
  | none =>
    have h0 : d.size = 0 := by
      rcases Nat.eq_zero_or_pos d.size with h0 | h0
      · exact h0
      · obtain ⟨b, off, e, _⟩ := h h0; cases e
    obtain rfl : d = #[] := Array.eq_empty_of_size_eq_zero h0
    exact (AnyE.slices_Clone_nil Tryz.laysCloneR 0 c w).mono fun e w' ⟨he, hw⟩ => ⟨_, he, nil_ownsK _ _ _ _ _, by rw [hw]; exact Below.refl _ _⟩
  | some ad =>
    have HR := Lib.hid h
    clear h
    have q33 : ∀ (w : World) (a : Option Addr) (n c n' c' : Nat), (binOp .eql 51 (.slice a n c) (.slice none n' c')).run Tryz.prog w = .ok (.bool a.isNone) w := fun w a n c n' c' => Lib.run_eql_slice_nil w _ _ a n c n' c' Tryz.underlying51
    go_enter Tryz.func128, Tryz.ntmps128
    go_wp2_with (at_builtin; refine append_rdK encR_one encR_len (by decide) rfl (.tmp 5) (.tmp 6) 51 rfl w.heap.size 81 i0 (.agg #[.int .i64 0, .int .i64 0]) 16 Tryz.underlying51 hi0 hz0 hz1 hz2 rfl _ #[] rfl (empty_ownsK w 81 encR 2) w.heap.size (some ad) c d rfl (HR.out.alloc (Nat.le_refl _) _) (fun h => by cases h) (by simp; omega) (by decide) (by simp) ?_; intro v1 w1 hown1 hg1 _)
    go_ret
    have hb1 : Below w.heap.size w w1 := (bel1 w _).grown hg1 (by simp) (fun k hk => ((empty_ownsK w 81 encR 2).lt k hk).1)
    exact ⟨v1, rfl, by simpa using hown1, hb1⟩
/-- The order of ranges by their first number. -/
def cmpR (x y : Int × Int) : Int := Lib.compareInt x.1 y.1
theorem cmpR_lt (x y : Int × Int) : ltOf cmpR x y = decide (x.1 < y.1) := by
  unfold ltOf cmpR Lib.compareInt
  by_cases h1 : x.1 < y.1
  · simp [h1]
  · by_cases h2 : y.1 < x.1 <;> simp [h1, h2]
theorem swoR : SWO (ltOf cmpR) where
  irrefl x := by rw [cmpR_lt]; simp
  trans x y z h1 h2 := by rw [cmpR_lt] at *; simp at *; omega
  ntrans x y z h1 h2 := by rw [cmpR_lt] at *; simp at *; omega
theorem all1_any (x y : Int × Int) (w : World) :
    Calls Tryz.prog 188 #[.agg #[.int .i64 x.1, .int .i64 x.2], .agg #[.int .i64 y.1, .int .i64 y.2]] w fun e w' => e = .returned (.int .i64 (cmpR x y)) ∧ ∃ q os', w' = grow (w.drewN q) os' := by
  have hcon := fun W => Tryz.cmp_Compare_int x.1 y.1 W
  have HC := Lib.hid hcon; clear hcon
  have HF : Hid (Lib.compareInt x.1 y.1 = cmpR x y) := rfl
  generalize Lib.compareInt x.1 y.1 = c at HC HF
  go_enter Tryz.func188, Tryz.ntmps188
  go_wp2_with (go_at_call 124; refine (HC.out _).mono ?_; rintro e w' ⟨rfl, rfl⟩)
  go_ret
  exact ⟨ret_int HF.out, 0, _, by rw [alloc_eq_grow, alloc_eq_grow, grow_grow]; rfl⟩
theorem cmpLaysR (blk : Nat) (size : Nat) (w : World) : CmpLays Tryz.prog 188 #[] encR 2 cmpR blk 0 size w := by
  intro m os dk _ x y
  exact all1_any x y _
theorem below_sortWorldR {w1 : World} {g : Nat} (w : World) (hb : Below w.heap.size w w1) (hg : w.heap.size ≤ g) (n : Nat) (d : Array (Int × Int)) (os : Array Obj) : Below w.heap.size w (sortWorldK encR 2 w1 g 0 n d os) := by
  refine hb.trans ⟨rfl, rfl, rfl, size_sortWorldK_c encR 2 w1 g 0 n d os, fun i hi => ?_⟩
  have hi1 : i < w1.heap.size := Nat.lt_of_lt_of_le hi hb.size
  show ((putRowK encR 2 (Sort.ahead w1 n) g 0 d).heap ++ os)[i]? = _
  rw [Array.getElem?_append_left (by rw [size_putRowK]; exact hi1)]
  show ((Sort.ahead w1 n).heap.modify g _)[i]? = _
  rw [Array.getElem?_modify, if_neg (by omega)]
  rfl
/-- The same ranges, by their first number. -/
def SortR (d d' : Array (Int × Int)) : Prop := d'.size = d.size ∧ (∀ x, x ∈ d' ↔ x ∈ d) ∧ ∀ i j, i < j → j < d'.size → d'[i]!.1 ≤ d'[j]!.1
set_option maxHeartbeats 2000000 in
set_option maxRecDepth 100000 in
theorem all_any (A : Option Addr) (c : Nat) (d : Array (Int × Int)) (w : World) (h : RdK encR 2 w.heap.size w A d) (hd : d.size ≤ 1000000) :
    Calls Tryz.prog 168 #[.slice A d.size c] w fun e w' => ∃ d' A' c' b, e = .returned (.func (.func 189) #[] #[.pointer (some ⟨b, 0, none⟩)]) ∧ SortR d d' ∧ w.heap.size ≤ b ∧ b < w'.heap.size ∧ w'.cell? ⟨b, 0, none⟩ = some (.slice A' d'.size c') ∧ RdK encR 2 w'.heap.size w' A' d' ∧ (∀ g off, A' = some ⟨g, off, none⟩ → w.heap.size ≤ g ∧ g < w'.heap.size) ∧ Below w.heap.size w w' := by
  have hC := CloneR A c d w h hd
  have HC := Lib.hid hC
  clear hC h
  go_enter Tryz.func168, Tryz.ntmps168
  go_wp2_with fail
  refine HC.out.mono ?_
  rintro e w1 ⟨v, rfl, hown, hb1⟩
  by_cases hn : v = .slice none 0 0
  · subst hn
    have h0 : d.size = 0 := by
      obtain ⟨_, ⟨_, h0⟩ | ⟨g, cap, cur, hv, _⟩⟩ := hown
      · exact h0
      · cases hv
    clear hown
    have hS := fun W => AnyF.slices_SortFunc_none Tryz.laysSortR none 0 (.func (.func 188) #[] #[]) W
    have HS := Lib.hid hS
    clear hS
    go_wp2_with fail
    refine (HS.out _).mono ?_
    rintro e w2 ⟨rfl, rfl⟩
    go_wp2
    go_ret
    have hz := hb1.size
    refine ⟨#[], none, 0, w1.heap.size, rfl, ⟨h0.symm, ?_, ?_⟩, by omega, by simp, cell_new w1 _ _ 0, fun h => absurd h (by decide), (fun _ _ e => by cases e), belAlloc hb1 _⟩
    · have e0 : d = #[] := Array.eq_empty_of_size_eq_zero h0
      intro x; rw [e0]
    · intro i j _ hj
      exact absurd hj (by simp)
  · obtain ⟨g, cap, rfl, hg1, hg2, hH⟩ := holds_of_owns hown hn
    clear hown hn
    have hH2 : HoldsK encR 2 (w1.alloc (.cells #[.slice (some ⟨g, 0, none⟩) d.size cap] 51)) g 0 d := fun t ht => by
      have := hH t ht
      exact ⟨(World.cell?_alloc_lt w1 _ ⟨g, 0 + t, none⟩ hg2).trans this.1, (World.frozen?_alloc_old w1 _ ⟨g, 0 + t, none⟩ (by show g ≠ w1.heap.size; omega)).trans this.2⟩
    have hS := AnyQ.slices_SortFunc Tryz.laysSortR 2 Tryz.isAgg81 Tryz.sizeOf81 encR encR_len encR_one cmpR swoR 188 #[] g 0 cap d _ (enters_of Tryz.func188 (by kernel_rfl) rfl) (cmpLaysR g d.size _) hH2 (by simp; omega) (by omega)
    have HS := Lib.hid hS
    have HH := Lib.hid hH2
    clear hS hH hH2
    go_wp2_with fail
    refine HS.out.mono ?_
    rintro e w2 ⟨rfl, d', n, os, hp, hs, hw2⟩
    have hz := hb1.size
    have hz2 : g < (w1.alloc (.cells #[.slice (some ⟨g, 0, none⟩) d.size cap] 51)).heap.size := by simp; omega
    have hH3 : HoldsK encR 2 w2 g 0 d' := by rw [hw2]; exact holdsK_sortWorldK_c encR 2 _ g 0 d d' n os HH.out hz2 hp.1
    have hB3 : Below w.heap.size w w2 := by rw [hw2]; exact below_sortWorldR w (belAlloc hb1 _) hg1 n d' os
    have hZ3 : w1.heap.size + 1 ≤ w2.heap.size := by rw [hw2]; have := size_sortWorldK_c encR 2 (w1.alloc (.cells #[.slice (some ⟨g, 0, none⟩) d.size cap] 51)) g 0 n d' os; simpa using this
    have hC3 : w2.cell? ⟨w1.heap.size, 0, none⟩ = some (.slice (some ⟨g, 0, none⟩) d.size cap) := by
      rw [hw2]
      unfold sortWorldK
      rw [cell?_grow _ _ _ (by rw [size_putRowK]; simp [Sort.ahead]), cell?_putRowK_other _ _ _ _ _ _ _ (by show w1.heap.size ≠ g; omega)]
      exact cell_new w1 _ _ 0
    clear hw2
    go_wp2
    go_ret
    refine ⟨d', some ⟨g, 0, none⟩, cap, w1.heap.size, rfl, ⟨hp.1, ?_, ?_⟩, by omega, by omega, by rw [hp.1]; exact hC3, RdK.of_holds hH3 (by omega), (fun g' off' e => by injection e with e; injection e with e1 _; omega), hB3⟩
    · intro x
      have e1 : d'.extract 0 d.size = d' := by rw [← hp.1]; simp
      have e2 : d.extract 0 d.size = d := by simp
      have := hp.2.2
      rw [e1, e2] at this
      have := this.mem_iff (a := x)
      simpa using this
    · intro i j hi hj
      have := hs i j (Nat.zero_le _) hi (by rw [← hp.1]; exact hj)
      rw [cmpR_lt] at this
      simpa using this
end Go.Proofs.YtnmojicfmcbgmaaGreat
