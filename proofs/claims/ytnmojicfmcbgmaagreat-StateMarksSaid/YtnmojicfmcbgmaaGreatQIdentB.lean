/- Contracts of the order of commands. -/
import Derived.Shelf.SlSortCmp.InsertionK
import Derived.Test.YtnmojicfmcbgmaaGreatQRead
import Derived.Test.YtnmojicfmcbgmaaGreatShelf
namespace Go.Proofs.YtnmojicfmcbgmaaGreat
open Go.RowKit Go.Sort

def orI (x y : Int) : Int := if x = 0 then y else x
set_option maxHeartbeats 400000 in
theorem Or2_any (x y : Int) (b cap : Nat) (w : World) (h0 : w.cell? ⟨b, 0, none⟩ = some (.int .i64 x)) (h1 : w.cell? ⟨b, 1, none⟩ = some (.int .i64 y)) :
    Calls Tryz.prog 190 #[.slice (some ⟨b, 0, none⟩) 2 cap] w fun e w' => e = .returned (.int .i64 (orI x y)) ∧ w = w' := by
  by_cases hx : x = 0
  · subst hx
    by_cases hy : y = 0
    · subst hy
      go_enter Tryz.func190, Tryz.ntmps190
      go_wp2
      refine wp_loop_rounds 3 ?_; rw [rounds_succ]
      go_wp2
      rw [rounds_succ]
      go_wp2
      rw [rounds_succ]
      go_wp2
      go_ret
      exact ⟨ret_int rfl, rfl⟩
    · have hb : (y != 0) = true := by simp [hy]
      have HY := Lib.hid hy; clear hy
      go_enter Tryz.func190, Tryz.ntmps190
      go_wp2
      refine wp_loop_rounds 2 ?_; rw [rounds_succ]
      go_wp2
      rw [rounds_succ]
      go_wp2
      go_ret
      exact ⟨ret_int rfl, rfl⟩
  · have hb : (x != 0) = true := by simp [hx]
    have HX := Lib.hid hx; clear hx
    go_enter Tryz.func190, Tryz.ntmps190
    go_wp2
    refine wp_loop_rounds 1 ?_; rw [rounds_succ]
    go_wp2
    go_ret
    exact ⟨ret_int (by unfold orI; rw [if_neg HX.out]), rfl⟩

/-- How two commands at times stand to each other. -/
def cmpA (x y : Int × Int) : Int := orI (Lib.compareInt x.1 y.1) (Lib.compareInt x.2 y.2)
def encA_I (x : Int × Int) : List Value := [.int .i64 x.1, .int .i64 x.2]
theorem grown4 (w : World) (a b c d : Obj) : ((((w.alloc a).alloc b).alloc c).alloc d).drew = grow (w.drewN 1) #[a, b, c, d] := by
  rw [alloc_eq_grow, alloc_eq_grow, alloc_eq_grow, alloc_eq_grow, grow_grow, grow_grow, grow_grow]; rfl
theorem Below.of_grow (W : World) (q : Nat) (os : Array Obj) : Below W.heap.size W (grow (W.drewN q) os) :=
  ⟨rfl, rfl, rfl, by simp [grow, World.drewN], fun k hk => by simp [grow, World.drewN, Array.getElem?_append_left hk]⟩
set_option maxRecDepth 100000 in
set_option maxHeartbeats 400000 in
theorem of_grown (x y : Int × Int) (w : World) :
    Calls Tryz.prog 172 #[.agg #[], .agg #[.int .i64 x.1, .int .i64 x.2], .agg #[.int .i64 y.1, .int .i64 y.2]] w fun e w' => e = .returned (.int .i64 (cmpA x y)) ∧ ∃ q os', w' = grow (w.drewN q) os' := by
  go_enter Tryz.func172, Tryz.ntmps172
  go_wp2
  refine wp_region_tail 10 (by kernel_rfl) (by kernel_rfl) ?_
  simp only [List.take_succ_cons, List.take_zero, List.drop_succ_cons, List.drop_zero]
  repeat (first | still_step | still_call (Tryz.cmp_Compare_int _ _ _))
  refine wpStill_nil ?_
  generalize hc1 : Lib.compareInt x.1 y.1 = c1
  generalize hc2 : Lib.compareInt x.2 y.2 = c2
  have HC : Hid (orI c1 c2 = cmpA x y) := by subst hc1 hc2; rfl
  clear hc1 hc2
  go_wp2_with (go_at_call 190; refine (Or2_any c1 c2 _ _ _ (by simp [go_sem]) (by simp [go_sem])).mono ?_; rintro e w' ⟨rfl, rfl⟩)
  go_ret
  exact ⟨ret_int HC.out, 1, _, grown4 _ _ _ _ _⟩
theorem of_any_I (x y : Int × Int) (w : World) :
    Calls Tryz.prog 172 #[.agg #[], .agg #[.int .i64 x.1, .int .i64 x.2], .agg #[.int .i64 y.1, .int .i64 y.2]] w fun e w' => e = .returned (.int .i64 (cmpA x y)) ∧ Below w.heap.size w w' :=
  (of_grown x y w).mono fun _ _ ⟨he, q, os, hw⟩ => ⟨he, by rw [hw]; exact Below.of_grow _ _ _⟩
def lessA (x y : Int × Int) : Bool := decide (x.1 < y.1 ∨ x.1 = y.1 ∧ x.2 < y.2)
theorem cmpA_lt (x y : Int × Int) : decide (cmpA x y < 0) = lessA x y := by
  unfold cmpA orI lessA Lib.compareInt
  by_cases h1 : x.1 < y.1
  · simp [h1]
  · by_cases h2 : y.1 < x.1
    · have : x.1 ≠ y.1 := by omega
      simp [h1, h2, this]
    · have : x.1 = y.1 := by omega
      by_cases h3 : x.2 < y.2
      · simp [this, h3]
      · by_cases h4 : y.2 < x.2 <;> simp [this, h3, h4]
end Go.Proofs.YtnmojicfmcbgmaaGreat
