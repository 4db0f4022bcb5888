/- The law RangesChange returns true for every input, and changes nothing that lay there. No condition. -/
import Derived.Test.YtpnjodefnpphkaaOpenR
import Derived.Deep.RegionHeld3
import Derived.Deep.DrawnRows
namespace Go.Proofs.Ytpnjodefnpphkaa.rangesChange
open Go.ChangeShapes Go.WideShapes Go.ChangeAt Go.RowKit Go.Deep

attribute [local go_sem ↓] Go.wp_at_zero Go.wp_at_succ
theorem rdz {W w : World} {A : Option Addr} {d : Array (Int × Int)} (h : RdK encR 2 W.heap.size W A d) (hb : Below W.heap.size W w) : RdK encR 2 w.heap.size w A d := (h.below hb).mono hb.size
theorem same_yes (A1 A2 : Option Addr) (c1 c2 : Nat) (d1 d2 : Array (Int × Int)) (w : World) (h1 : RdK encR 2 w.heap.size w A1 d1) (h2 : RdK encR 2 w.heap.size w A2 d2) (he : d1 = d2) (hm : d2.size ≤ 1000) :
    Calls Try.prog 32 #[.slice A1 d1.size c1, .slice A2 d2.size c2] w fun e w' => e = .returned (.bool true) ∧ Below w.heap.size w w' :=
  (r4Same_b A1 A2 c1 c2 d1 d2 w h1 h2 (by omega)).mono fun _ _ ⟨e, hb⟩ => ⟨by rw [e, sameR_yes he], hb⟩
set_option maxRecDepth 100000 in
set_option maxHeartbeats 8000000 in
theorem walk (A1 : Option Addr) (c1 : Nat) (d1 : Array (Int × Int)) (A2 : Option Addr) (c2 : Nat) (d2 : Array (Int × Int)) (r : Int × Int) (w : World) (h1 : RdK encR 2 w.heap.size w A1 d1) (n1 : A1 = none → c1 = 0) (h2 : RdK encR 2 w.heap.size w A2 d2) (n2 : A2 = none → c2 = 0) :
    Calls Try.prog 7 #[.slice A1 d1.size c1, .slice A2 d2.size c2, .agg #[.int .i64 r.1, .int .i64 r.2]] w fun e w' => e = .returned (.bool true) ∧ Below w.heap.size w w' := by
  have HN1 := Lib.hid n1
  have HN2 := Lib.hid n2
  clear n1 n2
  by_cases hd : 200 < d1.size
  · have hz : (200 : Int) < (d1.size : Int) := by omega
    go_enter Try.func7, Try.ntmps7
    go_wp2_with fail
    refine (aw4_any _).mono ?_
    rintro e w3 ⟨rfl, hb3⟩
    go_wp2
    go_ret
    exact ⟨rfl, belStep (bel1 _ _) hb3⟩
  have hz : decide ((200 : Int) < (d1.size : Int)) = false := by simp; omega
  by_cases hd2 : 200 < d2.size
  · have hz2 : (200 : Int) < (d2.size : Int) := by omega
    go_enter Try.func7, Try.ntmps7
    go_wp2_with fail
    refine (aw4_any _).mono ?_
    rintro e w3 ⟨rfl, hb3⟩
    go_wp2
    go_ret
    exact ⟨rfl, belStep (bel1 _ _) hb3⟩
  have hz2 : decide ((200 : Int) < (d2.size : Int)) = false := by simp; omega
  have hd1' : d1.size ≤ 200 := by omega
  have hd2' : d2.size ≤ 200 := by omega
  clear hd hd2
  have y0 : (w.alloc (.cells #[.int .i64 r.1, .int .i64 r.2] 42)).cell? ⟨w.heap.size, 0, none⟩ = some (.int .i64 r.1) := cell_new w #[.int .i64 r.1, .int .i64 r.2] _ 0
  have y1 : (w.alloc (.cells #[.int .i64 r.1, .int .i64 r.2] 42)).cell? ⟨w.heap.size, 1, none⟩ = some (.int .i64 r.2) := cell_new w #[.int .i64 r.1, .int .i64 r.2] _ 1
  have hg : w.heap.size < (w.alloc (.cells #[.int .i64 r.1, .int .i64 r.2] 42)).heap.size := by simp
  have p1 := Lib.hid ((h1.alloc (Nat.le_refl _) (.cells #[.int .i64 r.1, .int .i64 r.2] 42)).mono (Nat.le_of_lt hg))
  have p2 := Lib.hid ((h2.alloc (Nat.le_refl _) (.cells #[.int .i64 r.1, .int .i64 r.2] 42)).mono (Nat.le_of_lt hg))
  have HB0 := Lib.hid (bel1 w (.cells #[.int .i64 r.1, .int .i64 r.2] 42))
  clear h1 h2
  go_enter Try.func7, Try.ntmps7
  go_wp2_with fail
  generalize w.alloc (.cells #[.int .i64 r.1, .int .i64 r.2] 42) = W at y0 y1 hg p1 p2 HB0 ⊢
  have zb : Below W.heap.size W W := Below.refl _ _
  have z0 := y0
  have z1 := y1
  go_region_held3 (fun w' => w'.cell? ⟨w.heap.size, 0, none⟩ = some (.int .i64 r.1) ∧ w'.cell? ⟨w.heap.size, 1, none⟩ = some (.int .i64 r.2)) (first | exact ⟨z0, z1⟩)
    (first
      | (go_at_call 35; (with_reducible refine (gAdd_fit A1 c1 d1 A2 c2 d2 _ (rdz p1.out (by first | exact zb | exact zb.drew)) (rdz p2.out (by first | exact zb | exact zb.drew)) (by omega)).mono ?_); rintro e w1 ⟨v1, o1, rfl, hO1, hV1, hb⟩; have zb : Below W.heap.size W w1 := belStep (by first | exact zb | exact zb.drew) hb; have z0 := (zb.cell (p := ⟨w.heap.size, 0, none⟩) hg).trans y0; have z1 := (zb.cell (p := ⟨w.heap.size, 1, none⟩) hg).trans y1)
      | (go_at_call 36; (with_reducible refine (r4Add_any A1 c1 d1 A2 c2 d2 _ (rdz p1.out (by first | exact zb | exact zb.drew)) (rdz p2.out (by first | exact zb | exact zb.drew)) HN1.out HN2.out (by omega)).mono ?_); rintro e w2 ⟨v2, o2, rfl, hO2, hV2, hb⟩; have hV1 := hV1.below hb; have hE := hO1.uniq hO2; have hS := hO2.size; obtain ⟨X1, k1, rfl, q1, _⟩ := hV1; obtain ⟨X2, k2, rfl, q2, _⟩ := hV2; have HE := Lib.hid hE; clear hE; have zb : Below W.heap.size W w2 := belStep (by first | exact zb | exact zb.drew) hb; have z0 := (zb.cell (p := ⟨w.heap.size, 0, none⟩) hg).trans y0; have z1 := (zb.cell (p := ⟨w.heap.size, 1, none⟩) hg).trans y1)
      | (go_at_call 32; (with_reducible refine (same_yes X1 X2 k1 k2 _ _ _ q1 q2 HE.out hS).mono ?_); rintro e w3 ⟨rfl, hb⟩; have zb : Below W.heap.size W w3 := belStep (by first | exact zb | exact zb.drew) hb; have z0 := (zb.cell (p := ⟨w.heap.size, 0, none⟩) hg).trans y0; have z1 := (zb.cell (p := ⟨w.heap.size, 1, none⟩) hg).trans y1)
      | (go_at_call 37; (with_reducible refine (gLess_fit A1 c1 d1 r _ (rdz p1.out (by first | exact zb | exact zb.drew))).mono ?_); rintro e w1 ⟨v1, o1, rfl, hO1, hV1, hb⟩; have zb : Below W.heap.size W w1 := belStep (by first | exact zb | exact zb.drew) hb; have z0 := (zb.cell (p := ⟨w.heap.size, 0, none⟩) hg).trans y0; have z1 := (zb.cell (p := ⟨w.heap.size, 1, none⟩) hg).trans y1)
      | (go_at_call 39; (with_reducible refine (gCut_fit A1 c1 d1 r.2 _ (rdz p1.out (by first | exact zb | exact zb.drew))).mono ?_); rintro e w1 ⟨v1, o1, rfl, hO1, hV1, hb⟩; have zb : Below W.heap.size W w1 := belStep (by first | exact zb | exact zb.drew) hb; have z0 := (zb.cell (p := ⟨w.heap.size, 0, none⟩) hg).trans y0; have z1 := (zb.cell (p := ⟨w.heap.size, 1, none⟩) hg).trans y1)
      | (go_at_call 38; (first | (with_reducible refine (r4Less_any A1 c1 d1 r _ (rdz p1.out (by first | exact zb | exact zb.drew)) HN1.out).mono ?_) | (with_reducible refine (r4Less_any A1 c1 d1 (1, r.2) _ (rdz p1.out (by first | exact zb | exact zb.drew)) HN1.out).mono ?_)); rintro e w2 ⟨v2, o2, rfl, hO2, hV2, hb⟩; have hV1 := hV1.below hb; have hE := hO1.uniq hO2; have hS := hO2.size; obtain ⟨X1, k1, rfl, q1, _⟩ := hV1; obtain ⟨X2, k2, rfl, q2, _⟩ := hV2; have HE := Lib.hid hE; clear hE; have zb : Below W.heap.size W w2 := belStep (by first | exact zb | exact zb.drew) hb; have z0 := (zb.cell (p := ⟨w.heap.size, 0, none⟩) hg).trans y0; have z1 := (zb.cell (p := ⟨w.heap.size, 1, none⟩) hg).trans y1)
      | (go_at_call 23; (with_reducible refine (aw4_any _).mono ?_); rintro e w3 ⟨rfl, hb⟩; have zb : Below W.heap.size W w3 := belStep (by first | exact zb | exact zb.drew) hb; have z0 := (zb.cell (p := ⟨w.heap.size, 0, none⟩) hg).trans y0; have z1 := (zb.cell (p := ⟨w.heap.size, 1, none⟩) hg).trans y1))
  go_wp2
  go_ret
  exact ⟨rfl, belStep HB0.out zb⟩

set_option maxRecDepth 100000 in
theorem lifted (os : Os) (started : os.Started) (H : Type) (enc : TypeId × Value → H) :
    ReturnsInHanded {} Try.checked os 7 .any (Rows.rangesChangeSpec.pre6 enc Try.prog Try.f7 Rows.rangesChangeRow.domain false) (Rows.rangesChangeSpec.post enc Try.prog Try.f7 false true false false) := by
  refine returnsInHanded_of_change_sized (C := Try.checked) own started (by kernel_rfl) Try.func7
    (ChangeSpec.witness6 (enc := enc) (C := Try.checked) false ⟨#[], #[.slice none 0 0, .slice none 0 0, .agg #[.int .i64 0, .int .i64 0]], []⟩ 8 (by kernel_rfl) (by kernel_rfl) (by kernel_rfl) (by kernel_rfl)) ?_
  intro W base args ds gs before hval0 hW _ _ _
  have hval : ∀ (j : Nat) t v, Try.f7.params[j]? = some t → args[j]? = some v → Value.okWide Try.prog W .any base t v := hval0
  have hW' := hW
  obtain ⟨p, q, hA0, hV, rfl, _, _⟩ := hW
  have hA : DataW.TrodAll enc Try.prog W 0 (fun _ => true) true Try.f7.params.toList args.toList ds p := hA0
  rw [Try.params7] at hA hval
  obtain ⟨v0, v1, v2, d0, d1, d2, p0, p1, p2, rfl, rfl, rfl, h0, h1, h2⟩ := trodAll_three hA
  obtain ⟨rfl, rfl⟩ := trodVars_none hV
  obtain ⟨A0, c0, z0, rfl, r0, n0⟩ := open_rdR Try.underlying33 Try.underlying42 (by kernel_rfl) (by kernel_rfl) Try.underlying3 Try.underlying3 (hval 0 33 v0 rfl rfl) h0
  obtain ⟨A1, c1, z1, rfl, r1, n1⟩ := open_rdR Try.underlying33 Try.underlying42 (by kernel_rfl) (by kernel_rfl) Try.underlying3 Try.underlying3 (hval 1 33 v1 rfl rfl) h1
  obtain ⟨y2, rfl⟩ := open_rng Try.underlying42 (by kernel_rfl) (by kernel_rfl) Try.underlying3 Try.underlying3 (hval 2 42 v2 rfl rfl) h2
  refine (walk A0 c0 z0 A1 c1 z1 y2 W r0 n0 r1 n1).mono fun e W' ⟨he, hb⟩ => ?_
  subst he
  exact ⟨_, rfl, law_post (tb := 4) laidOut (by decide +kernel) rfl hW' rfl rfl rfl rfl Try.underlying4 hb⟩

theorem over : Rows.rangesChangeRow.holds Try.pinned (OpenSpec.ofChange Rows.rangesChangeSpec) :=
  OpenClaim.holds_of_wide 7 Try.f7 rfl rfl rfl rfl rfl rfl rfl ⟨rfl, rfl, rfl, rfl, rfl⟩ rfl rfl rfl rfl rfl (by kernel_rfl) Try.func7 (by kernel_rfl)
    (of_decide_eq_true (by kernel_rfl)) (by unfold Func.isWrapper; first | (rw [if_pos (by decide +kernel)]; kernel_rfl) | (rw [if_neg (by decide +kernel)]; exact ⟨rfl, rfl⟩))
    (fun os started H enc _ => lifted os started H enc)
theorem proved : Rows.RangesChangeSaid := over
#print axioms proved
end Go.Proofs.Ytpnjodefnpphkaa.rangesChange
