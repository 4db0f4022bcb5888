/- 'awake' of the laws of layer 2 returns true. -/
import Derived.Test.YthgpjbpkcpbcoaaIdentD
import Derived.Test.YthgpjbpkcpbcoaaIdentE
import Derived.Deep.RegionHeld3
namespace Go.Proofs.Ythgpjbpkcpbcoaa
open Go.RowKit Go.Sort Go.Lib

theorem aw_sort : Sort.insertionSort (ltOf cmpA) #[(2, 11), (1, 12), (1, 11)] 0 3 = #[(1, 11), (1, 12), (2, 11)] := by decide +kernel
set_option maxHeartbeats 2000000 in
set_option maxRecDepth 100000 in
theorem awake_any (w : World) :
    Calls Try.prog 14 #[] w fun e w' => e = .returned (.bool true) ∧ Below w.heap.size w w' := by
  have m1 : makeN 3 12 = 123 := by decide
  have m2 : makeE 3 12 = 0 := by decide
  have n1 : nextN 0 2 3 = 5 := by decide
  have n2 : nextE 0 2 3 = 0 := by decide
  have n3 : nextN 5 2 3 = 8 := by decide
  have n4 : nextE 5 2 3 = 0 := by decide
  have n5 : nextE 1000000 1 3 = 8 := by decide
  have s1 : selfN 123 = 3 := by decide
  have s2 : seqN 123 = 12 := by decide
  have s3 : checkE 120 = 31 := by decide
  have o1 : owner 5 3 = 2 := by decide
  have f1 : firstS 3 3 = true := by decide
  have f2 : firstS 4 3 = false := by decide
  go_enter Try.func14, Try.ntmps14
  go_wp2_with fail
  refine (Make_any _ _ _).mono ?_
  rintro e w' ⟨rfl, rfl⟩
  go_wp2_with fail
  refine (Next_any _ _ _ _).mono ?_
  rintro e w1 ⟨rfl, hb1⟩
  go_wp2_with fail
  refine (Next_any _ _ _ _).mono ?_
  rintro e w2 ⟨rfl, hb2⟩
  go_wp2_with fail
  refine (Next_any _ _ _ _).mono ?_
  rintro e w3 ⟨rfl, hb3⟩
  go_wp2_with fail
  have hS : Calls Try.prog 16 #[.slice (some ⟨w3.heap.size, 0, none⟩) 3 3] _ _ := Sort_small w3.heap.size 0 3 #[(2, 11), (1, 12), (1, 11)] _ (by decide) (new_cells w3 encA 2 _ 34 #[.int .i64 2, .int .i64 11, .int .i64 1, .int .i64 12, .int .i64 1, .int .i64 11] (by kernel_rfl))
  refine hS.mono ?_
  clear hS
  rintro e w4 ⟨g, cap, rfl, hg, hH, hb4⟩
  have hH' : HoldsK encA 2 w4 g 0 #[(1, 11), (1, 12), (2, 11)] := by rw [← aw_sort]; exact hH
  clear hH
  have r4 := RdK.of_holds hH' hg
  have c0 := (hH'.cell (i := 0) (c := 0) (by decide) (by decide)).1
  have c1 := (hH'.cell (i := 0) (c := 1) (by decide) (by decide)).1
  have c2 := (hH'.cell (i := 1) (c := 0) (by decide) (by decide)).1
  have c3 := (hH'.cell (i := 1) (c := 1) (by decide) (by decide)).1
  simp only [encA, Nat.zero_add, Nat.zero_mul, Nat.one_mul, Nat.add_zero] at c0 c1 c2 c3
  have a0 : w4.cell? ⟨g, 0, none⟩ = some (.int .i64 1) := c0
  have a1 : w4.cell? ⟨g, 1, none⟩ = some (.int .i64 11) := c1
  have a2 : w4.cell? ⟨g, 2, none⟩ = some (.int .i64 1) := c2
  have a3 : w4.cell? ⟨g, 3, none⟩ = some (.int .i64 12) := c3
  have R4 := Lib.hid r4; clear r4
  have HH := Lib.hid hH'; clear hH' c0 c1 c2 c3
  go_wp2_with fail
  simp only [List.append_eq, List.cons_append, List.nil_append]
  go_region_held3 (fun w' => w'.cell? ⟨g, 0, none⟩ = some (.int .i64 1) ∧ w'.cell? ⟨g, 1, none⟩ = some (.int .i64 11) ∧ w'.cell? ⟨g, 2, none⟩ = some (.int .i64 1) ∧ w'.cell? ⟨g, 3, none⟩ = some (.int .i64 12))
   (first | exact ⟨a0, a1, a2, a3⟩ | exact ⟨z0, z1, z2, z3⟩ | exact ⟨y0, y1, y2, y3⟩ | exact ⟨(World.cell?_alloc_lt _ _ _ hg5).trans z0, (World.cell?_alloc_lt _ _ _ hg5).trans z1, (World.cell?_alloc_lt _ _ _ hg5).trans z2, (World.cell?_alloc_lt _ _ _ hg5).trans z3⟩) (first
    | (go_at_call 11; refine (Self_any _ _).mono ?_; rintro e w' ⟨rfl, rfl⟩)
    | (go_at_call 12; refine (Seq_any _ _).mono ?_; rintro e w' ⟨rfl, rfl⟩)
    | (go_at_call 13; refine (Check_any _ _).mono ?_; rintro e w' ⟨rfl, rfl⟩)
    | (go_at_call 24; refine (First_any _ _ _).mono ?_; rintro e w' ⟨rfl, rfl⟩)
    | (go_at_call 22; refine (Owner_any _ _ _).mono ?_; rintro e w5 ⟨rfl, hb5'⟩; have hb5 : Below w4.heap.size w4 w5 := (Below.refl _ _).drew.trans hb5'; have hg5 : g < w5.heap.size := Nat.lt_of_lt_of_le hg hb5.size; have z0 := (hb5.cell (p := ⟨g, 0, none⟩) hg).trans a0; have z1 := (hb5.cell (p := ⟨g, 1, none⟩) hg).trans a1; have z2 := (hb5.cell (p := ⟨g, 2, none⟩) hg).trans a2; have z3 := (hb5.cell (p := ⟨g, 3, none⟩) hg).trans a3; clear hb5')
    | (go_at_call 15; refine (SameAtts_any _ _ _ _ #[(1, 11), (1, 12), (2, 11)] #[(1, 11), (1, 12), (2, 11)] (w5.heap.size + 1) _ (by exact ((R4.out.below hb5).alloc hb5.size _).mono (Nat.le_trans hb5.size (Nat.le_succ _))) (by exact RdK.new w5 encA 2 _ 34 _ (by kernel_rfl)) (by decide) (by decide)).mono ?_; rintro e w6 ⟨rfl, n6, rfl⟩)
    | (go_at_call 18; refine (Less_any (1, 11) (1, 12) _).mono ?_; rintro e w7 ⟨rfl, hb7⟩; have y0 : w7.cell? ⟨g, 0, none⟩ = _ := (hb7.cell (p := ⟨g, 0, none⟩) (by simp; omega)).trans ((World.cell?_alloc_lt w5 _ ⟨g, 0, none⟩ hg5).trans z0); have y1 : w7.cell? ⟨g, 1, none⟩ = _ := (hb7.cell (p := ⟨g, 1, none⟩) (by simp; omega)).trans ((World.cell?_alloc_lt w5 _ ⟨g, 1, none⟩ hg5).trans z1); have y2 : w7.cell? ⟨g, 2, none⟩ = _ := (hb7.cell (p := ⟨g, 2, none⟩) (by simp; omega)).trans ((World.cell?_alloc_lt w5 _ ⟨g, 2, none⟩ hg5).trans z2); have y3 : w7.cell? ⟨g, 3, none⟩ = _ := (hb7.cell (p := ⟨g, 3, none⟩) (by simp; omega)).trans ((World.cell?_alloc_lt w5 _ ⟨g, 3, none⟩ hg5).trans z3)))
  go_wp2
  go_ret
  exact ⟨ret_bool (by decide), belStep (belDrewN (belAlloc (belStep (belStep (belAlloc (belStep (belStep hb1 hb2) hb3) _) hb4) hb5) _) n6) hb7⟩
end Go.Proofs.Ythgpjbpkcpbcoaa
