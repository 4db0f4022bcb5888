/- The law IdentSorts returns true for every input, and changes nothing that lay there. No condition. -/
import Derived.Test.YthgpjbpkcpbcoaaOpenA
import Derived.Deep.RegionHeld3
import Derived.Deep.DrawnRows
namespace Go.Proofs.Ythgpjbpkcpbcoaa.identSorts
open Go.ChangeShapes Go.WideShapes Go.ChangeAt Go.RowKit Go.Deep

attribute [local go_sem ↓] Go.wp_at_zero Go.wp_at_succ
set_option maxRecDepth 100000 in
set_option maxHeartbeats 8000000 in
theorem walk (A : Option Addr) (c : Nat) (d : Array (Int × Int)) (a b : Int × Int) (w : World) (h : RdK encA 2 w.heap.size w A d) (_n : A = none → c = 0) :
    Calls Try.prog 4 #[.slice A d.size c, .agg #[.int .i64 a.1, .int .i64 a.2], .agg #[.int .i64 b.1, .int .i64 b.2]] w fun e w' => e = .returned (.bool true) ∧ Below w.heap.size w w' := by
  by_cases hd : 300 < d.size
  · have hz : (300 : Int) < (d.size : Int) := by omega
    go_enter Try.func4, Try.ntmps4
    go_wp2_with fail
    refine (awake_any _).mono ?_
    rintro e w3 ⟨rfl, hb3⟩
    go_wp2
    go_ret
    exact ⟨rfl, belStep (belAlloc (bel1 _ _) _) hb3⟩
  have hz : decide ((300 : Int) < (d.size : Int)) = false := by simp; omega
  have hd' : d.size ≤ 300 := by omega
  have hsz := srtA_size d
  have HLN := Lib.hid hsz
  clear hd hsz
  have e1 : (w.alloc (.cells #[.int .i64 a.1, .int .i64 a.2] 34)).heap.size = w.heap.size + 1 := by simp
  have y0 : ((w.alloc (.cells #[.int .i64 a.1, .int .i64 a.2] 34)).alloc (.cells #[.int .i64 b.1, .int .i64 b.2] 34)).cell? ⟨w.heap.size, 0, none⟩ = some (.int .i64 a.1) := (World.cell?_alloc_lt (w.alloc (.cells #[.int .i64 a.1, .int .i64 a.2] 34)) _ ⟨w.heap.size, 0, none⟩ (by simp)).trans (cell_new w #[.int .i64 a.1, .int .i64 a.2] _ 0)
  have y1 : ((w.alloc (.cells #[.int .i64 a.1, .int .i64 a.2] 34)).alloc (.cells #[.int .i64 b.1, .int .i64 b.2] 34)).cell? ⟨w.heap.size, 1, none⟩ = some (.int .i64 a.2) := (World.cell?_alloc_lt (w.alloc (.cells #[.int .i64 a.1, .int .i64 a.2] 34)) _ ⟨w.heap.size, 1, none⟩ (by simp)).trans (cell_new w #[.int .i64 a.1, .int .i64 a.2] _ 1)
  have y2 : ((w.alloc (.cells #[.int .i64 a.1, .int .i64 a.2] 34)).alloc (.cells #[.int .i64 b.1, .int .i64 b.2] 34)).cell? ⟨w.heap.size + 1, 0, none⟩ = some (.int .i64 b.1) := by rw [← e1]; exact cell_new (w.alloc (.cells #[.int .i64 a.1, .int .i64 a.2] 34)) #[.int .i64 b.1, .int .i64 b.2] _ 0
  have y3 : ((w.alloc (.cells #[.int .i64 a.1, .int .i64 a.2] 34)).alloc (.cells #[.int .i64 b.1, .int .i64 b.2] 34)).cell? ⟨w.heap.size + 1, 1, none⟩ = some (.int .i64 b.2) := by rw [← e1]; exact cell_new (w.alloc (.cells #[.int .i64 a.1, .int .i64 a.2] 34)) #[.int .i64 b.1, .int .i64 b.2] _ 1
  have hg : w.heap.size < ((w.alloc (.cells #[.int .i64 a.1, .int .i64 a.2] 34)).alloc (.cells #[.int .i64 b.1, .int .i64 b.2] 34)).heap.size := by simp; omega
  have hg2 : w.heap.size + 1 < ((w.alloc (.cells #[.int .i64 a.1, .int .i64 a.2] 34)).alloc (.cells #[.int .i64 b.1, .int .i64 b.2] 34)).heap.size := by simp
  have HB0 := Lib.hid (belAlloc (bel1 w (.cells #[.int .i64 a.1, .int .i64 a.2] 34)) (.cells #[.int .i64 b.1, .int .i64 b.2] 34))
  have p1 := Lib.hid ((h.below HB0.out).mono HB0.out.size)
  clear h e1
  go_enter Try.func4, Try.ntmps4
  go_wp2_with fail
  generalize ((w.alloc (.cells #[.int .i64 a.1, .int .i64 a.2] 34)).alloc (.cells #[.int .i64 b.1, .int .i64 b.2] 34)) = W at y0 y1 y2 y3 hg hg2 p1 HB0 ⊢
  have zb : Below W.heap.size W W := Below.refl _ _
  have z0 := y0
  have z1 := y1
  have z2 := y2
  have z3 := y3
  go_region_held3 (fun w' => w'.cell? ⟨w.heap.size, 0, none⟩ = some (.int .i64 a.1) ∧ w'.cell? ⟨w.heap.size, 1, none⟩ = some (.int .i64 a.2) ∧ w'.cell? ⟨w.heap.size + 1, 0, none⟩ = some (.int .i64 b.1) ∧ w'.cell? ⟨w.heap.size + 1, 1, none⟩ = some (.int .i64 b.2)) (first | exact ⟨z0, z1, z2, z3⟩)
    (first
      | (go_at_call 16; (with_reducible refine (Sort_any A c d _ (rdzA p1.out (by first | exact zb | exact zb.drew)) (by omega)).mono ?_); rintro e w1 ⟨X1, k1, rfl, q1, _, _, hb⟩; have zb : Below W.heap.size W w1 := belStep (by first | exact zb | exact zb.drew) hb; have z0 := (zb.cell (p := ⟨w.heap.size, 0, none⟩) hg).trans y0; have z1 := (zb.cell (p := ⟨w.heap.size, 1, none⟩) hg).trans y1; have z2 := (zb.cell (p := ⟨w.heap.size + 1, 0, none⟩) hg2).trans y2; have z3 := (zb.cell (p := ⟨w.heap.size + 1, 1, none⟩) hg2).trans y3)
      | (go_at_call 17; (with_reducible refine (rSort_rd A c d _ (rdzA p1.out (by first | exact zb | exact zb.drew)) (by omega)).mono ?_); rintro e w2 ⟨X2, k2, rfl, q2, hb⟩; have q1 := rdzA (by first | exact q1 | exact q1.below (Below.refl _ _).drew) hb; have zb : Below W.heap.size W w2 := belStep (by first | exact zb | exact zb.drew) hb; have z0 := (zb.cell (p := ⟨w.heap.size, 0, none⟩) hg).trans y0; have z1 := (zb.cell (p := ⟨w.heap.size, 1, none⟩) hg).trans y1; have z2 := (zb.cell (p := ⟨w.heap.size + 1, 0, none⟩) hg2).trans y2; have z3 := (zb.cell (p := ⟨w.heap.size + 1, 1, none⟩) hg2).trans y3)
      | (go_at_call 18; (with_reducible refine (Less_any a b _).mono ?_); rintro e w4 ⟨rfl, hb⟩; have zb : Below W.heap.size W w4 := belStep (by first | exact zb | exact zb.drew) hb; have z0 := (zb.cell (p := ⟨w.heap.size, 0, none⟩) hg).trans y0; have z1 := (zb.cell (p := ⟨w.heap.size, 1, none⟩) hg).trans y1; have z2 := (zb.cell (p := ⟨w.heap.size + 1, 0, none⟩) hg2).trans y2; have z3 := (zb.cell (p := ⟨w.heap.size + 1, 1, none⟩) hg2).trans y3)
      | (go_at_call 19; (with_reducible refine (rLess_any a b _).mono ?_); rintro e w5 ⟨rfl, hb⟩; have zb : Below W.heap.size W w5 := belStep (by first | exact zb | exact zb.drew) hb; have z0 := (zb.cell (p := ⟨w.heap.size, 0, none⟩) hg).trans y0; have z1 := (zb.cell (p := ⟨w.heap.size, 1, none⟩) hg).trans y1; have z2 := (zb.cell (p := ⟨w.heap.size + 1, 0, none⟩) hg2).trans y2; have z3 := (zb.cell (p := ⟨w.heap.size + 1, 1, none⟩) hg2).trans y3)
      | (go_at_call 14; (with_reducible refine (awake_any _).mono ?_); rintro e w6 ⟨rfl, hb⟩; have zb : Below W.heap.size W w6 := belStep (by first | exact zb | exact zb.drew) hb; have z0 := (zb.cell (p := ⟨w.heap.size, 0, none⟩) hg).trans y0; have z1 := (zb.cell (p := ⟨w.heap.size, 1, none⟩) hg).trans y1; have z2 := (zb.cell (p := ⟨w.heap.size + 1, 0, none⟩) hg2).trans y2; have z3 := (zb.cell (p := ⟨w.heap.size + 1, 1, none⟩) hg2).trans y3)
      | (go_at_call 15; (with_reducible refine (sameA_yes X1 X2 k1 k2 d.size _ _ q1 q2 HLN.out (by omega)).mono ?_); rintro e w3 ⟨rfl, hb⟩; have zb : Below W.heap.size W w3 := belStep (by first | exact zb | exact zb.drew) hb; have z0 := (zb.cell (p := ⟨w.heap.size, 0, none⟩) hg).trans y0; have z1 := (zb.cell (p := ⟨w.heap.size, 1, none⟩) hg).trans y1; have z2 := (zb.cell (p := ⟨w.heap.size + 1, 0, none⟩) hg2).trans y2; have z3 := (zb.cell (p := ⟨w.heap.size + 1, 1, none⟩) hg2).trans y3))
  go_wp2
  go_ret
  exact ⟨rfl, belStep HB0.out zb⟩

set_option maxRecDepth 100000 in
theorem lifted (os : Os) (started : os.Started) (H : Type) (enc : TypeId × Value → H) :
    ReturnsInHanded {} Try.checked os 4 .any (Rows.identSortsSpec.pre6 enc Try.prog Try.f4 Rows.identSortsRow.domain false) (Rows.identSortsSpec.post enc Try.prog Try.f4 false true false false) := by
  refine returnsInHanded_of_change_sized (C := Try.checked) own started (by kernel_rfl) Try.func4
    (ChangeSpec.witness6 (enc := enc) (C := Try.checked) false ⟨#[], #[.slice none 0 0, .agg #[.int .i64 0, .int .i64 0], .agg #[.int .i64 0, .int .i64 0]], []⟩ 8 (by kernel_rfl) (by kernel_rfl) (by kernel_rfl) (by kernel_rfl)) ?_
  intro W base args ds gs before hval0 hW _ _ _
  have hval : ∀ (j : Nat) t v, Try.f4.params[j]? = some t → args[j]? = some v → Value.okWide Try.prog W .any base t v := hval0
  have hW' := hW
  obtain ⟨p, q, hA0, hV, rfl, _, _⟩ := hW
  have hA : DataW.TrodAll enc Try.prog W 0 (fun _ => true) true Try.f4.params.toList args.toList ds p := hA0
  rw [Try.params4] at hA hval
  obtain ⟨v0, v1, v2, d0, d1, d2, p0, p1, p2, rfl, rfl, rfl, h0, h1, h2⟩ := trodAll_three hA
  obtain ⟨rfl, rfl⟩ := trodVars_none hV
  obtain ⟨A0, c0, z0, rfl, r0, n0⟩ := open_rdA Try.underlying32 Try.underlying34 (by kernel_rfl) (by kernel_rfl) Try.underlying3 Try.underlying3 (hval 0 32 v0 rfl rfl) h0
  obtain ⟨y1, rfl⟩ := open_rng Try.underlying34 (by kernel_rfl) (by kernel_rfl) Try.underlying3 Try.underlying3 (hval 1 34 v1 rfl rfl) h1
  obtain ⟨y2, rfl⟩ := open_rng Try.underlying34 (by kernel_rfl) (by kernel_rfl) Try.underlying3 Try.underlying3 (hval 2 34 v2 rfl rfl) h2
  refine (walk A0 c0 z0 y1 y2 W r0 n0).mono fun e W' ⟨he, hb⟩ => ?_
  subst he
  exact ⟨_, rfl, law_post (tb := 4) laidOut (by decide +kernel) rfl hW' rfl rfl rfl rfl Try.underlying4 hb⟩

theorem over : Rows.identSortsRow.holds Try.pinned (OpenSpec.ofChange Rows.identSortsSpec) :=
  OpenClaim.holds_of_wide 4 Try.f4 rfl rfl rfl rfl rfl rfl rfl ⟨rfl, rfl, rfl, rfl, rfl⟩ rfl rfl rfl rfl rfl (by kernel_rfl) Try.func4 (by kernel_rfl)
    (of_decide_eq_true (by kernel_rfl)) (by unfold Func.isWrapper; first | (rw [if_pos (by decide +kernel)]; kernel_rfl) | (rw [if_neg (by decide +kernel)]; exact ⟨rfl, rfl⟩))
    (fun os started H enc _ => lifted os started H enc)
theorem proved : Rows.IdentSortsSaid := over
#print axioms proved
end Go.Proofs.Ythgpjbpkcpbcoaa.identSorts
