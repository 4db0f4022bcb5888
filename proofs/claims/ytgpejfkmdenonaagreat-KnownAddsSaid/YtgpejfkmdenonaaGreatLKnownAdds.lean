/- The law KnownAdds returns true for every input, and changes nothing that lay there. No condition. -/
import Derived.Test.YtgpejfkmdenonaaGreatQKnQ
import Derived.Test.YtgpejfkmdenonaaGreatQKnO
namespace Go.Proofs.YtgpejfkmdenonaaGreat.knownAdds
open Go.ChangeShapes Go.WideShapes Go.ChangeAt Go.RowKit Go.Deep Go.Sort

set_option maxRecDepth 100000
set_option maxHeartbeats 16000000 in
theorem walk (v : Value) (k : KN) (lo hi : Int) (A3 : Option Addr) (c3 : Nat) (atts : Array (Int × Int)) (t : Int) (w : World) (hk : KnV w v k) (h3 : RdK encA_I 2 w.heap.size w A3 atts) :
    Calls Tryz.prog 3 #[v, .agg #[.int .i64 lo, .int .i64 hi, .slice A3 atts.size c3], .int .i64 t] w fun e w' => e = .returned (.bool true) ∧ Below w.heap.size w w' := by
  have HFw := Lib.hid (fun W (hb : Below w.heap.size w W) => Few16_any v k W (hk.below hb))
  have HKV := Lib.hid hk
  have H3 := Lib.hid h3
  obtain ⟨base, rs, ats⟩ := k
  obtain ⟨A1, c1, A2, c2, rfl, _⟩ := hk
  have HK : Hid (∀ W, Below w.heap.size w W → KnV W (.agg #[.int .i64 base, .slice A1 rs.size c1, .slice A2 ats.size c2]) ⟨base, rs, ats⟩) := fun W hb => HKV.out.below hb
  have HT := Lib.hid (two_blk w (.cells #[.int .i64 base, .slice A1 rs.size c1, .slice A2 ats.size c2] 25) (.cells #[.int .i64 lo, .int .i64 hi, .slice A3 atts.size c3] 27))
  clear h3 HKV
  cases hf : fewK ⟨base, rs, ats⟩
  · rw [hf] at HFw
    clear hf
    go_enter Tryz.func3, Tryz.ntmps3
    go_wp2_with fail
    refine (HFw.out _ (belAlloc (bel1 w _) _)).mono ?_
    rintro e w1 ⟨rfl, hb1⟩
    have HB1 := Lib.hid (belStep (belAlloc (bel1 w _) _) hb1)
    clear hb1
    go_wp2_with fail
    refine (aw16_any _).mono ?_
    rintro e w9 ⟨rfl, hb9⟩
    go_wp2
    go_ret
    exact ⟨rfl, belStep HB1.out hb9⟩
  · obtain ⟨s1, s2⟩ := fewK_iff.1 hf
    simp only at s1 s2
    rw [hf] at HFw
    clear hf
    by_cases s3 : 100 < atts.size
    · have q3 : decide ((100 : Int) < (atts.size : Int)) = true := decide_eq_true (by omega)
      go_enter Tryz.func3, Tryz.ntmps3
      go_wp2_with fail
      refine (HFw.out _ (belAlloc (bel1 w _) _)).mono ?_
      rintro e w1 ⟨rfl, hb1⟩
      obtain ⟨⟨m0, m1, m2⟩, _⟩ := blk3 (blk_bel HT.out.2 hb1)
      have HB1 := Lib.hid (belStep (belAlloc (bel1 w _) _) hb1)
      clear hb1
      go_wp2_with fail
      refine (aw16_any _).mono ?_
      rintro e w9 ⟨rfl, hb9⟩
      go_wp2
      go_ret
      exact ⟨rfl, belStep HB1.out hb9⟩
    · have q3 : decide ((100 : Int) < (atts.size : Int)) = false := decide_eq_false (by omega)
      go_enter Tryz.func3, Tryz.ntmps3
      go_wp2_with fail
      refine (HFw.out _ (belAlloc (bel1 w _) _)).mono ?_
      rintro e w1 ⟨rfl, hb1⟩
      have HK1 := Lib.hid (blk_bel HT.out.1 hb1)
      have HM1 := Lib.hid (blk_bel HT.out.2 hb1)
      have HB1 := Lib.hid (belStep (belAlloc (bel1 w _) _) hb1)
      have HAd := Lib.hid (kAdd_q (.agg #[.int .i64 base, .slice A1 rs.size c1, .slice A2 ats.size c2]) ⟨base, rs, ats⟩ lo hi atts A3 c3 w1 (HK.out _ HB1.out) ((H3.out.below HB1.out).mono HB1.out.size) (by simp only; omega) (by simp only; omega) (by omega))
      have HRd : Hid (∀ W, Below w.heap.size w W → Calls Tryz.prog 10 #[.agg #[.int .i64 base, .slice A1 rs.size c1, .slice A2 ats.size c2], .int .i64 lo, .int .i64 hi, .slice A3 atts.size c3] W fun e w' => ∃ A4 c4 A5 c5 r c, e = .returned (.tuple #[.agg #[.int .i64 r.base, .slice A4 r.rs.size c4, .slice A5 r.ats.size c5], .int .i64 c]) ∧ KnV w' (.agg #[.int .i64 r.base, .slice A4 r.rs.size c4, .slice A5 r.ats.size c5]) r ∧ AddQ ⟨base, rs, ats⟩ lo hi atts r c ∧ Below W.heap.size W w') := fun W hb => rAdd_q (.agg #[.int .i64 base, .slice A1 rs.size c1, .slice A2 ats.size c2]) ⟨base, rs, ats⟩ lo hi atts A3 c3 W (HK.out _ hb) ((H3.out.below hb).mono hb.size) (by simp only; omega) (by simp only; omega) (by omega)
      obtain ⟨⟨k0, k1, k2⟩, _⟩ := blk3 HK1.out
      obtain ⟨⟨m0, m1, m2⟩, _⟩ := blk3 HM1.out
      clear hb1 HT HFw
      go_wp2_with fail
      refine HAd.out.mono ?_
      rintro e w2 ⟨A4, c4, A5, c5, r, ce, rfl, hkr, hq, hz1, hz2, hb2⟩
      have HB2 := Lib.hid (belStep HB1.out hb2)
      have HK2 := Lib.hid (blk_bel HK1.out hb2)
      have HM2 := Lib.hid (blk_bel HM1.out hb2)
      have HQ := Lib.hid hq
      have HKr := Lib.hid hkr
      have y1 : r.rs.size ≤ 1000 := by omega
      have y2 : r.ats.size ≤ 1000 := by omega
      obtain ⟨⟨k0', k1', k2'⟩, _⟩ := blk3 HK2.out
      obtain ⟨⟨m0', m1', m2'⟩, _⟩ := blk3 HM2.out
      have hkl := blk_lt HK2.out
      have hml := blk_lt HM2.out
      clear hb2 hq hkr HAd k0 k1 k2 m0 m1 m2 hz1 hz2
      go_wp2_with fail
      refine (HRd.out _ (belAlloc HB2.out _)).mono ?_
      rintro e w3 ⟨A6, c6, A7, c7, s, cf, rfl, hks, hqs, hb3⟩
      obtain ⟨rfl, rfl⟩ := HQ.out.uniq hqs
      have HKs := Lib.hid hks
      have HP3 : Hid (w3.heap[w2.heap.size]? = some (.cells #[.int .i64 r.base, .slice A4 r.rs.size c4, .slice A5 r.ats.size c5] 25 (0, 0))) := box3b hb3
      have HK3 := Lib.hid (blk_bel (blk_alloc HK2.out) hb3)
      have HB3 := Lib.hid (belStep (belAlloc HB2.out _) hb3)
      have HKr3 := Lib.hid (HKr.out.below (belStep (bel1 w2 _) hb3))
      clear hks hqs hb3 HRd k0' k1' k2' m0' m1' m2' hkl hml HM1 HM2 HK1 HK2 HQ HKr
      go_upto_region 5 with (fail)
      have HPa := Lib.hid (blk3 (blk_alloc (o' := .cells #[.int .i64 r.base, .slice A6 r.rs.size c6, .slice A7 r.ats.size c7] 25) HP3.out)).1
      have HPk := Lib.hid (blk3 (blk_alloc (o' := .cells #[.int .i64 r.base, .slice A6 r.rs.size c6, .slice A7 r.ats.size c7] 25) HK3.out)).1
      have HPb := Lib.hid (blk3 (heap_alloc_new w3 (.cells #[.int .i64 r.base, .slice A6 r.rs.size c6, .slice A7 r.ats.size c7] 25))).1
      have hl1 : w2.heap.size < (w3.alloc (.cells #[.int .i64 r.base, .slice A6 r.rs.size c6, .slice A7 r.ats.size c7] 25)).heap.size := blk_lt (blk_alloc HP3.out)
      have hl2 : w.heap.size < (w3.alloc (.cells #[.int .i64 r.base, .slice A6 r.rs.size c6, .slice A7 r.ats.size c7] 25)).heap.size := blk_lt (blk_alloc HK3.out)
      have hl3 : w3.heap.size < (w3.alloc (.cells #[.int .i64 r.base, .slice A6 r.rs.size c6, .slice A7 r.ats.size c7] 25)).heap.size := blk_lt (heap_alloc_new w3 _)
      have HKs4 := Lib.hid (HKs.out.below (bel1 w3 (.cells #[.int .i64 r.base, .slice A6 r.rs.size c6, .slice A7 r.ats.size c7] 25)))
      have HKr4 := Lib.hid (HKr3.out.below (bel1 w3 (.cells #[.int .i64 r.base, .slice A6 r.rs.size c6, .slice A7 r.ats.size c7] 25)))
      have HB4 := Lib.hid (belAlloc HB3.out (.cells #[.int .i64 r.base, .slice A6 r.rs.size c6, .slice A7 r.ats.size c7] 25))
      generalize w3.alloc (.cells #[.int .i64 r.base, .slice A6 r.rs.size c6, .slice A7 r.ats.size c7] 25) = w4 at HPa HPk HPb hl1 hl2 hl3 HKs4 HKr4 HB4 ⊢
      have a0 := fun p : ExtW w4 => p.cell (a := ⟨w2.heap.size, 0, none⟩) hl1 HPa.out.1
      have a1 := fun p : ExtW w4 => p.cell (a := ⟨w2.heap.size, 1, none⟩) hl1 HPa.out.2.1
      have a2 := fun p : ExtW w4 => p.cell (a := ⟨w2.heap.size, 2, none⟩) hl1 HPa.out.2.2
      have b0 := fun p : ExtW w4 => p.cell (a := ⟨w.heap.size, 0, none⟩) hl2 HPk.out.1
      have b1 := fun p : ExtW w4 => p.cell (a := ⟨w.heap.size, 1, none⟩) hl2 HPk.out.2.1
      have b2 := fun p : ExtW w4 => p.cell (a := ⟨w.heap.size, 2, none⟩) hl2 HPk.out.2.2
      have d0 := fun p : ExtW w4 => p.cell (a := ⟨w3.heap.size, 0, none⟩) hl3 HPb.out.1
      have d1 := fun p : ExtW w4 => p.cell (a := ⟨w3.heap.size, 1, none⟩) hl3 HPb.out.2.1
      have d2 := fun p : ExtW w4 => p.cell (a := ⟨w3.heap.size, 2, none⟩) hl3 HPb.out.2.2
      have HSm : Hid (∀ p : ExtW w4, Calls Tryz.prog 11 #[.agg #[.int .i64 r.base, .slice A4 r.rs.size c4, .slice A5 r.ats.size c5], .agg #[.int .i64 r.base, .slice A6 r.rs.size c6, .slice A7 r.ats.size c7]] p.to fun e w' => e = .returned (.bool true) ∧ Below p.to.heap.size p.to w') := fun p => by
        have := rSame16_any (.agg #[.int .i64 r.base, .slice A4 r.rs.size c4, .slice A5 r.ats.size c5]) (.agg #[.int .i64 r.base, .slice A6 r.rs.size c6, .slice A7 r.ats.size c7]) r r p.to (HKr4.out.below p.h) (HKs4.out.below p.h) (by omega) (by omega) (by omega) (by omega)
        rwa [sameK_self] at this
      obtain ⟨ck, hck⟩ : ∃ ck, chkE ⟨base, rs, ats⟩ = ck := ⟨_, rfl⟩
      obtain ⟨hh, hhh⟩ : ∃ hh, hasK ⟨base, rs, ats⟩ t = hh := ⟨_, rfl⟩
      have HCk : Hid (∀ p : ExtW w4, Calls Tryz.prog 12 #[.agg #[.int .i64 base, .slice A1 rs.size c1, .slice A2 ats.size c2]] p.to fun e w' => e = .returned (.int .i64 ck) ∧ Below p.to.heap.size p.to w') := fun p => by
        have := kCheck_any (.agg #[.int .i64 base, .slice A1 rs.size c1, .slice A2 ats.size c2]) ⟨base, rs, ats⟩ p.to (HK.out _ (belStep HB4.out p.h))
        rwa [hck] at this
      have HCr : Hid (∀ p : ExtW w4, Calls Tryz.prog 13 #[.agg #[.int .i64 base, .slice A1 rs.size c1, .slice A2 ats.size c2]] p.to fun e w' => e = .returned (.int .i64 ck) ∧ Below p.to.heap.size p.to w') := fun p => by
        have := rChk16_any (.agg #[.int .i64 base, .slice A1 rs.size c1, .slice A2 ats.size c2]) ⟨base, rs, ats⟩ p.to (HK.out _ (belStep HB4.out p.h))
        rwa [hck] at this
      have HHk : Hid (∀ p : ExtW w4, Calls Tryz.prog 14 #[.agg #[.int .i64 base, .slice A1 rs.size c1, .slice A2 ats.size c2], .int .i64 t] p.to fun e w' => e = .returned (.bool hh) ∧ Below p.to.heap.size p.to w') := fun p => by
        have := kHas_any (.agg #[.int .i64 base, .slice A1 rs.size c1, .slice A2 ats.size c2]) ⟨base, rs, ats⟩ t p.to (HK.out _ (belStep HB4.out p.h))
        rwa [hhh] at this
      have HHr : Hid (∀ p : ExtW w4, Calls Tryz.prog 15 #[.agg #[.int .i64 base, .slice A1 rs.size c1, .slice A2 ats.size c2], .int .i64 t] p.to fun e w' => e = .returned (.bool hh) ∧ Below p.to.heap.size p.to w') := fun p => by
        have := rHas16_any (.agg #[.int .i64 base, .slice A1 rs.size c1, .slice A2 ats.size c2]) ⟨base, rs, ats⟩ t p.to (HK.out _ (belStep HB4.out p.h))
        rwa [hhh] at this
      clear hck hhh hl1 hl2 hl3 HPa HPb HPk HKs4 HKr4 HP3 HK3 HKr3 HKs HK H3
      go_wp2_with fail
      refine wp_region_ext (by kernel_rfl) (by kernel_rfl) ?_
      repeat (first | go_big_quiet_step ((first | (go_at_call 11; exact Calls.ext_of (HSm.out _)) | (go_at_call 12; exact Calls.ext_of (HCk.out _)) | (go_at_call 13; exact Calls.ext_of (HCr.out _)) | (go_at_call 14; exact Calls.ext_of (HHk.out _)) | (go_at_call 15; exact Calls.ext_of (HHr.out _)) | (go_at_call 8; exact Calls.ext_of (aw16_any _)))) | quiet_step ((first | (go_at_call 11; exact Calls.ext_of (HSm.out _)) | (go_at_call 12; exact Calls.ext_of (HCk.out _)) | (go_at_call 13; exact Calls.ext_of (HCr.out _)) | (go_at_call 14; exact Calls.ext_of (HHk.out _)) | (go_at_call 15; exact Calls.ext_of (HHr.out _)) | (go_at_call 8; exact Calls.ext_of (aw16_any _)))))
      refine wpQuiet_nil ?_
      intro wq hw'
      obtain ⟨⟨W, hbW⟩, hw''⟩ := hw'
      have hw3 : wq = W := hw''
      subst hw3
      have HBW := Lib.hid (belStep HB4.out hbW)
      clear hbW hw'' a0 a1 a2 b0 b1 b2 d0 d1 d2
      go_wp2
      go_ret
      exact ⟨rfl, HBW.out⟩

set_option maxRecDepth 100000 in
theorem lifted (os : Os) (started : os.Started) (H : Type) (enc : TypeId × Value → H) :
    ReturnsInHanded {} Tryz.checked os 3 .any (Rows.knownAddsSpec.pre6 enc Tryz.prog Tryz.f3 Rows.knownAddsRow.domain false) (Rows.knownAddsSpec.post enc Tryz.prog Tryz.f3 false true false false) := by
  refine returnsInHanded_of_change_sized (C := Tryz.checked) own started (by kernel_rfl) Tryz.func3
    (ChangeSpec.witness6 (enc := enc) (C := Tryz.checked) false ⟨#[], #[.agg #[.int .i64 0, .slice none 0 0, .slice none 0 0], .agg #[.int .i64 0, .int .i64 0, .slice none 0 0], .int .i64 0], []⟩ 8 (by kernel_rfl) (by kernel_rfl) (by kernel_rfl) (by kernel_rfl)) ?_
  intro W base args ds gs before hval0 hW _ _ _
  have hval : ∀ (j : Nat) t v, Tryz.f3.params[j]? = some t → args[j]? = some v → Value.okWide Tryz.prog W .any base t v := hval0
  have hW' := hW
  obtain ⟨p, q, hA0, hV, rfl, _, _⟩ := hW
  have hA : DataW.TrodAll enc Tryz.prog W 0 (fun _ => true) true Tryz.f3.params.toList args.toList ds p := hA0
  rw [Tryz.params3] at hA hval
  obtain ⟨v0, v1, v2, d0, d1, d2, p0, p1, p2, rfl, rfl, rfl, h0, h1, h2⟩ := trodAll_three hA
  obtain ⟨rfl, rfl⟩ := trodVars_none hV
  obtain ⟨k0, hk0⟩ := open_known (hval 0 25 v0 rfl rfl) h0
  obtain ⟨lo1, hi1, A1, c1, z1, rfl, r1, n1⟩ := open_more (hval 1 27 v1 rfl rfl) h1
  obtain ⟨a2, rfl, rfl, rfl, w2⟩ := open_int Tryz.underlying3 (hval 2 3 v2 rfl rfl) h2
  refine (walk v0 k0 lo1 hi1 A1 c1 z1 a2 W hk0 r1).mono fun e W' ⟨he, hb⟩ => ?_
  subst he
  exact ⟨_, rfl, law_post (tb := 4) laidOut (by decide +kernel) rfl hW' rfl rfl rfl rfl Tryz.underlying4 hb⟩

theorem over : Rows.knownAddsRow.holds Tryz.pinned (OpenSpec.ofChange Rows.knownAddsSpec) :=
  OpenClaim.holds_of_wide 3 Tryz.f3 rfl rfl rfl rfl rfl rfl rfl ⟨rfl, rfl, rfl, rfl, rfl⟩ rfl rfl rfl rfl rfl (by kernel_rfl) Tryz.func3 (by kernel_rfl)
    (of_decide_eq_true (by kernel_rfl)) (by unfold Func.isWrapper; first | (rw [if_pos (by decide +kernel)]; kernel_rfl) | (rw [if_neg (by decide +kernel)]; exact ⟨rfl, rfl⟩))
    (fun os started H enc _ => lifted os started H enc)
theorem proved : Rows.KnownAddsSaid := over
#print axioms proved
end Go.Proofs.YtgpejfkmdenonaaGreat.knownAdds
