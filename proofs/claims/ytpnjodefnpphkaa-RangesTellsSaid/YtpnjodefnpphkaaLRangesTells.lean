/- The law RangesTells returns true for every input, and changes nothing that lay there. No condition. -/
import Derived.Test.YtpnjodefnpphkaaOpenR
namespace Go.Proofs.Ytpnjodefnpphkaa.rangesTells
open Go.ChangeShapes Go.WideShapes Go.ChangeAt Go.RowKit Go.Deep

set_option maxRecDepth 100000 in
set_option maxHeartbeats 4000000 in
theorem walk (A : Option Addr) (c : Nat) (d : Array (Int × Int)) (a b : Int) (w : World) (h : RdK encR 2 w.heap.size w A d) (hn : A = none → c = 0) :
    Calls Try.prog 6 #[.slice A d.size c, .int .i64 a, .int .i64 b] w fun e w' => e = .returned (.bool true) ∧ Below w.heap.size w w' := by
  have HN := Lib.hid hn
  clear hn
  by_cases hd : 200 < d.size
  · have hz : (200 : Int) < (d.size : Int) := by omega
    go_enter Try.func6, Try.ntmps6
    go_wp2_with fail
    refine (aw4_any _).mono ?_
    rintro e w3 ⟨rfl, hb3⟩
    go_wp2
    go_ret
    exact ⟨rfl, hb3⟩
  · have hz : decide ((200 : Int) < (d.size : Int)) = false := by simp; omega
    have hd' : d.size ≤ 200 := by omega
    clear hd
    go_enter Try.func6, Try.ntmps6
    go_wp2_with fail
    refine (gCheck_any _ _ d _ h).mono ?_
    rintro e w1 ⟨rfl, hb⟩
    have r1 := (h.below hb).mono hb.size
    have B1 : Below w.heap.size w w1 := hb
    clear hb
    go_wp2_with fail
    refine (r4Check_any _ _ d _ _ r1).mono ?_
    rintro e w2 ⟨rfl, q, hq⟩
    have hb : Below w1.heap.size w1 w2 := by rw [hq]; exact belDrewN (Below.refl _ _) q
    clear hq
    have r2 := (r1.below hb).mono hb.size
    have B2 := belStep B1 hb
    clear hb r1 B1
    go_wp2_with fail
    refine (gHas_any _ _ d a _ r2).mono ?_
    rintro e w3 ⟨rfl, hb⟩
    have r3 := (r2.below hb).mono hb.size
    have B3 := belStep B2 hb
    clear hb r2 B2
    go_wp2_with fail
    refine (r4Has_any _ _ d a _ _ r3).mono ?_
    rintro e w4 ⟨rfl, hb⟩
    have r4 := (r3.below hb).mono hb.size
    have B4 := belStep B3 hb
    clear hb r3 B3
    go_wp2_with fail
    refine (gCount_any _ _ d _ r4 (by omega)).mono ?_
    rintro e w5 ⟨rfl, hb⟩
    have r5 := (r4.below hb).mono hb.size
    have B5 := belStep B4 hb
    clear hb r4 B4
    go_wp2_with fail
    refine (r4Count_any _ _ d _ _ r5).mono ?_
    rintro e w6 ⟨rfl, q, hq⟩
    have hb : Below w5.heap.size w5 w6 := by rw [hq]; exact belDrewN (Below.refl _ _) q
    clear hq
    have r6 := (r5.below hb).mono hb.size
    have B6 := belStep B5 hb
    clear hb r5 B5
    go_wp2_with fail
    refine (gPrefix_any _ _ d a _ r6).mono ?_
    rintro e w7 ⟨rfl, hb⟩
    have r7 := (r6.below hb).mono hb.size
    have B7 := belStep B6 hb
    clear hb r6 B6
    go_wp2_with fail
    refine (r4Prefix_any _ _ d a _ _ r7).mono ?_
    rintro e w8 ⟨rfl, q, hq⟩
    have hb : Below w7.heap.size w7 w8 := by rw [hq]; exact belDrewN (Below.refl _ _) q
    clear hq
    have r8 := (r7.below hb).mono hb.size
    have B8 := belStep B7 hb
    clear hb r7 B7
    go_wp2_with fail
    refine (gGaps_fit A c d (a, b) _ r8).mono ?_
    rintro e w9 ⟨v1, o1, rfl, hO1, hV1, hb⟩
    have HO1 := Lib.hid hO1
    have r9 := (r8.below hb).mono hb.size
    have B9 := belStep B8 hb
    clear hb r8 B8 hO1
    go_wp2_with fail
    refine (r4Gaps_any A c d (a, b) _ r9 HN.out).mono ?_
    rintro e w10 ⟨v2, o2, rfl, hO2, hV2, hb⟩
    have hV1' := hV1.below hb
    have hs := sameR_yes (HO1.out.uniq hO2)
    have hz2 := hO2.size
    have B10 := belStep B9 hb
    clear hb r9 B9 hO2 hV1
    obtain ⟨A1, c1, rfl, q1, _⟩ := hV1'
    obtain ⟨A2, c2, rfl, q2, _⟩ := hV2
    go_wp2_with fail
    refine (r4Same_b A1 A2 c1 c2 o1 o2 _ q1 q2 (by omega)).mono ?_
    rintro e w11 ⟨rfl, hb⟩
    have B11 := belStep B10 hb
    clear hb B10 q1 q2
    go_wp2_with fail
    refine (aw4_any _).mono ?_
    rintro e w12 ⟨rfl, hb⟩
    go_wp2
    go_ret
    exact ⟨rfl, belStep B11 hb⟩

set_option maxRecDepth 100000 in
theorem lifted (os : Os) (started : os.Started) (H : Type) (enc : TypeId × Value → H) :
    ReturnsInHanded {} Try.checked os 6 .any (Rows.rangesTellsSpec.pre6 enc Try.prog Try.f6 Rows.rangesTellsRow.domain false) (Rows.rangesTellsSpec.post enc Try.prog Try.f6 false true false false) := by
  refine returnsInHanded_of_change_sized (C := Try.checked) own started (by kernel_rfl) Try.func6
    (ChangeSpec.witness6 (enc := enc) (C := Try.checked) false ⟨#[], #[.slice none 0 0, .int .i64 0, .int .i64 0], []⟩ 8 (by kernel_rfl) (by kernel_rfl) (by kernel_rfl) (by kernel_rfl)) ?_
  intro W base args ds gs before hval0 hW _ _ _
  have hval : ∀ (j : Nat) t v, Try.f6.params[j]? = some t → args[j]? = some v → Value.okWide Try.prog W .any base t v := hval0
  have hW' := hW
  obtain ⟨p, q, hA0, hV, rfl, _, _⟩ := hW
  have hA : DataW.TrodAll enc Try.prog W 0 (fun _ => true) true Try.f6.params.toList args.toList ds p := hA0
  rw [Try.params6] at hA hval
  obtain ⟨v0, v1, v2, d0, d1, d2, p0, p1, p2, rfl, rfl, rfl, h0, h1, h2⟩ := trodAll_three hA
  obtain ⟨rfl, rfl⟩ := trodVars_none hV
  obtain ⟨A0, c0, z0, rfl, r0, n0⟩ := open_rdR Try.underlying33 Try.underlying42 (by kernel_rfl) (by kernel_rfl) Try.underlying3 Try.underlying3 (hval 0 33 v0 rfl rfl) h0
  obtain ⟨a1, rfl, rfl, rfl, w1⟩ := open_int Try.underlying3 (hval 1 3 v1 rfl rfl) h1
  obtain ⟨a2, rfl, rfl, rfl, w2⟩ := open_int Try.underlying3 (hval 2 3 v2 rfl rfl) h2
  refine (walk A0 c0 z0 a1 a2 W r0 n0).mono fun e W' ⟨he, hb⟩ => ?_
  subst he
  exact ⟨_, rfl, law_post (tb := 4) laidOut (by decide +kernel) rfl hW' rfl rfl rfl rfl Try.underlying4 hb⟩

theorem over : Rows.rangesTellsRow.holds Try.pinned (OpenSpec.ofChange Rows.rangesTellsSpec) :=
  OpenClaim.holds_of_wide 6 Try.f6 rfl rfl rfl rfl rfl rfl rfl ⟨rfl, rfl, rfl, rfl, rfl⟩ rfl rfl rfl rfl rfl (by kernel_rfl) Try.func6 (by kernel_rfl)
    (of_decide_eq_true (by kernel_rfl)) (by unfold Func.isWrapper; first | (rw [if_pos (by decide +kernel)]; kernel_rfl) | (rw [if_neg (by decide +kernel)]; exact ⟨rfl, rfl⟩))
    (fun os started H enc _ => lifted os started H enc)
theorem proved : Rows.RangesTellsSaid := over
#print axioms proved
end Go.Proofs.Ytpnjodefnpphkaa.rangesTells
