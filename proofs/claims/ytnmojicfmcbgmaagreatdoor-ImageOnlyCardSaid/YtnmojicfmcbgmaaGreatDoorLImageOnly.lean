/- The law ImageOnly returns true for every input, and changes nothing that lay there. -/
import Derived.Test.YtnmojicfmcbgmaaGreatDoorQIoK
import Derived.Test.YtnmojicfmcbgmaaGreatDoorQLawG
import Derived.Test.YtnmojicfmcbgmaaGreatDoorQImU
namespace Go.Proofs.YtnmojicfmcbgmaaGreatDoor.imageOnly
open Go.ChangeShapes Go.WideShapes Go.ChangeAt Go.RowKit Go.Sort Nb

set_option maxRecDepth 100000
attribute [local go_sem ↓] execOp_loadRep execOp_storeRep
attribute [local go_sem] run_loadBox run_storeBox_any run_storeBox_newA allOne_lit size_lit
set_option maxHeartbeats 16000000 in
theorem walk (s t : ByteArray) (w : World) (hg : Glob w) :
    Calls Tryz.prog 5 #[.string s, .string t] w fun e w' => e = .returned (.bool true) ∧ Below w.heap.size w w' := by
  have HG := Lib.hid hg
  by_cases h1 : 18000 < s.size
  · have d1 : decide ((18000 : Int) < (s.size : Int)) = true := by simp; omega
    clear h1 hg
    go_enter Tryz.func5, Tryz.ntmps5
    go_wp2_with fail
    refine (aw36_any _ HG.out).mono ?_
    rintro _ w1 ⟨rfl, hb1⟩
    have B1 := Lib.hid hb1
    clear hb1
    go_wp2
    go_ret
    exact ⟨rfl, B1.out⟩
  have d1 : decide ((18000 : Int) < (s.size : Int)) = false := by simp; omega
  by_cases h2 : 300 < t.size
  · have d2 : decide ((300 : Int) < (t.size : Int)) = true := by simp; omega
    clear h1 h2 hg
    go_enter Tryz.func5, Tryz.ntmps5
    go_wp2_with fail
    refine (aw36_any _ HG.out).mono ?_
    rintro _ w1 ⟨rfl, hb1⟩
    have B1 := Lib.hid hb1
    clear hb1
    go_wp2
    go_ret
    exact ⟨rfl, B1.out⟩
  have d2 : decide ((300 : Int) < (t.size : Int)) = false := by simp; omega
  have HS1 : Hid (s.size ≤ 1000000) := Lib.hid (by omega)
  have HS2 : Hid ((s.extract 0 (s.size - 1)).size ≤ 1000000) := Lib.hid (by rw [ByteArray.size_extract]; omega)
  have HS3 : Hid ((s ++ t).size ≤ 1000000) := Lib.hid (by rw [ByteArray.size_append]; omega)
  have hs1 : s.size ≤ 18000 := by omega
  have ht1 : t.size ≤ 300 := by omega
  clear h1 h2 hg
  go_enter Tryz.func5, Tryz.ntmps5
  go_wp2_with fail
  refine (im_take s HS1.out _ HG.out).mono ?_
  rintro _ w1 ⟨R, c, ct, ev, ops, rfl, hct, htk, hrt, hev, hb1⟩
  have HI : ct.size = 18 := by rw [hct]; rfl
  have H1 : allOne ct = true := by rw [hct]; exact encP_all R
  have HCT := Lib.hid hct
  have HTK := Lib.hid htk
  clear hct htk
  go_upto_region 4 with (fail)
  obtain ⟨q1, hq1⟩ : ∃ p, p = w1.heap.size := ⟨_, rfl⟩
  have hb2 := bel1 w1 (.cells ct 35)
  have X2 : Hid ((w1.alloc (.cells ct 35)).heap[w1.heap.size]? = some (.cells ct 35 (0, 0))) := heap_new_D w1 _
  have B2 := Lib.hid (belStep hb1 hb2)
  have T2 := Lib.hid (hrt.below hb2)
  have E2 := Lib.hid (hev.below hb2)
  obtain ⟨w2, hw2⟩ : ∃ W, W = w1.alloc (.cells ct 35) := ⟨_, rfl⟩
  rw [← hw2, ← hq1] at X2
  rw [← hw2] at B2 T2 E2 ⊢
  rw [← hq1]
  clear hw2 hq1 hb1 hb2 hrt hev
  by_cases h0 : c = 0
  · subst h0
    have HK := Lib.hid (tk_put HTK.out)
    have k10 : decide ((s.size : Int) < 10) = false := by have := tk_ten HTK.out; simp; omega
    have k1 : (1 : Int) ≤ (s.size : Int) := by have := tk_ten HTK.out; omega
    have HCUT : Hid (tkE (s.extract 0 (s.size - 1)).data.toList ≠ 0) := by
      show tkE _ ≠ 0
      rw [dat_cut]
      exact tk_cut HK.out.2.2.2.2 (by have := tk_ten HTK.out; intro e; have h9 : s.data.toList.length = 0 := by rw [e]; rfl
                                      rw [show s.data.toList.length = s.size by simp] at h9; omega)
    go_wp2_with fail
    refine (Code_any ops 0 ev _ (HG.out.below B2.out) E2.out).mono ?_
    rintro _ w3 ⟨rfl, hb3⟩
    have B3 := Lib.hid (belStep B2.out hb3)
    have X3 := Lib.hid ((hb3.block _ (lt_of_heap X2.out)).trans X2.out)
    have T3 := Lib.hid (T2.out.below hb3)
    clear hb3 X2 B2 T2 E2
    have x1 := boxAt_of X3.out HI
    have x2 := rowAt_of X3.out
    have HPU : Hid (Calls Tryz.prog 8 #[.agg ct] w3 fun e w' => e = .returned (.tuple #[.string s, .nilIface]) ∧ Below w3.heap.size w3 w') := by
      show Calls _ _ _ _ _
      rw [HCT.out]
      exact im_put HTK.out w3 T3.out
    go_wp2_with fail
    refine HPU.out.mono ?_
    rintro _ w4 ⟨rfl, hb4⟩
    have B4 := Lib.hid (belStep B3.out hb4)
    clear hb4 HPU x1 x2 X3 B3 T3
    go_wp2_with fail
    refine (Code_any [] 0 _ _ (HG.out.below B4.out) (Or.inl ⟨rfl, rfl, rfl⟩)).mono ?_
    rintro _ w5 ⟨rfl, hb5⟩
    have B5 := Lib.hid (belStep B4.out hb5)
    clear hb5 B4
    go_wp2_with fail
    refine (im_take (s.extract 0 (s.size - 1)) HS2.out _ (HG.out.below B5.out)).mono ?_
    rintro _ w6 ⟨R6, c6, ct6, ev6, ops6, rfl, hct6, htk6, hrt6, hev6, hb6⟩
    have HI6 : ct6.size = 18 := by rw [hct6]; rfl
    have H6 : allOne ct6 = true := by rw [hct6]; exact encP_all R6
    have hn6 : ((c6 : Int) != 0) = true := by have := tkO_ne htk6 HCUT.out; simpa using this
    have hb7 := belStep hb6 (bel1 w6 (.cells ct6 35))
    have E7 := Lib.hid (hev6.below (bel1 w6 (.cells ct6 35)))
    clear hct6 htk6 hrt6 hev6
    go_upto_region 10 with (fail)
    obtain ⟨w7, hw7⟩ : ∃ W, W = w6.alloc (.cells ct6 35) := ⟨_, rfl⟩
    obtain ⟨q7, hq7⟩ : ∃ p, p = w6.heap.size := ⟨_, rfl⟩
    rw [← hw7] at hb7 E7 ⊢
    rw [← hq7]
    have B7 := Lib.hid (belStep B5.out hb7)
    clear hw7 hq7 hb6 hb7 B5 HI6 H6
    go_wp2_with fail
    refine (im_take (s ++ t) HS3.out _ (HG.out.below B7.out)).mono ?_
    rintro _ w8 ⟨R8, c8, ct8, ev8, ops8, rfl, hct8, htk8, hrt8, hev8, hb8⟩
    have HI8 : ct8.size = 18 := by rw [hct8]; rfl
    have H8 : allOne ct8 = true := by rw [hct8]; exact encP_all R8
    have hn8 : ((c8 : Int) == 0) = t.toList.isEmpty := by
      cases he : t.toList.isEmpty
      · have := tkO_ne htk8 (tk_more HK.out.2.2.2.2 he)
        simpa using this
      · rw [dat_none he] at htk8
        have := (TkO.uniq htk8 HTK.out).1
        simp [this]
    have hb9 := belStep hb8 (bel1 w8 (.cells ct8 35))
    have E9 := Lib.hid (hev8.below (bel1 w8 (.cells ct8 35)))
    clear hct8 htk8 hrt8 hev8
    go_upto_region 11 with (fail)
    obtain ⟨w9, hw9⟩ : ∃ W, W = w8.alloc (.cells ct8 35) := ⟨_, rfl⟩
    obtain ⟨q9, hq9⟩ : ∃ p, p = w8.heap.size := ⟨_, rfl⟩
    rw [← hw9] at hb9 E9 ⊢
    rw [← hq9]
    have B9 := Lib.hid (belStep B7.out hb9)
    have F9 := Lib.hid (E7.out.below hb9)
    clear hw9 hq9 hb8 hb9 B7 E7 HI8 H8
    go_wp2_with fail
    refine (Code_any ops6 c6 ev6 _ (HG.out.below B9.out) F9.out).mono ?_
    rintro _ w10 ⟨rfl, hb10⟩
    have B10 := Lib.hid (belStep B9.out hb10)
    have E10 := Lib.hid (E9.out.below hb10)
    clear hb10 B9 E9 F9
    go_wp2_with fail
    refine (Code_any ops8 c8 ev8 _ (HG.out.below B10.out) E10.out).mono ?_
    rintro _ w11 ⟨rfl, hb11⟩
    have B11 := Lib.hid (belStep B10.out hb11)
    clear hb11 B10 E10 HCUT HK HTK
    generalize htt : t.toList.isEmpty = te at hn8
    cases te
    all_goals
      go_wp2_with fail
      refine (aw36_any _ (HG.out.below B11.out)).mono ?_
      rintro _ w12 ⟨rfl, hb12⟩
      have B12 := Lib.hid (belStep B11.out hb12)
      clear hb12
      go_wp2
      go_ret
      exact ⟨rfl, B12.out⟩
  · have hR := tkO_code HTK.out h0
    have hn : ((c : Int) != 0) = true := by simpa using h0
    have HSZ : Hid (∀ W, Calls Tryz.prog 14 #[.agg ct, .agg (encP (default : RP)).toArray] W fun e w' => e = .returned (.bool true) ∧ Below W.heap.size W w') := fun W => by rw [HCT.out, hR]; exact rp_same W
    clear hR h0
    go_wp2_with fail
    refine (Code_any ops c ev _ (HG.out.below B2.out) E2.out).mono ?_
    rintro _ w3 ⟨rfl, hb3⟩
    have B3 := Lib.hid (belStep B2.out hb3)
    have X3 := Lib.hid ((hb3.block _ (lt_of_heap X2.out)).trans X2.out)
    clear hb3 X2 B2 T2 E2
    have x1 := boxAt_of X3.out HI
    have x2 := rowAt_of X3.out
    go_wp2_with fail
    refine (HSZ.out _).mono ?_
    rintro _ w4 ⟨rfl, hb4⟩
    have B4 := Lib.hid (belStep B3.out hb4)
    clear hb4 x1 x2 X3 B3 HSZ
    go_wp2_with fail
    refine (aw36_any _ (HG.out.below B4.out)).mono ?_
    rintro _ w5 ⟨rfl, hb5⟩
    have B5 := Lib.hid (belStep B4.out hb5)
    clear hb5 B4
    go_wp2
    go_ret
    exact ⟨rfl, B5.out⟩

set_option maxRecDepth 100000 in
theorem lifted (os : Os) (started : os.Started) (H : Type) (enc : TypeId × Value → H) :
    ReturnsInHanded {} Tryz.checked os 5 .any (fun w args => (Rows.imageOnlySpec.pre enc Tryz.prog Tryz.f5 [] false w args ∧ laidMetH Tryz.prog laidL w) ∧ sizedMet enc Tryz.prog Tryz.f5 (OpenSpec.ofChange Rows.imageOnlySpec) false w args)
      (Rows.imageOnlySpec.post enc Tryz.prog Tryz.f5 false true false false) := by
  refine returnsInHanded_of_change_and (C := Tryz.checked) (X := fun w _ => laidMetH Tryz.prog laidL w) (fun _ _ _ hh h => h.of_heap hh) own started (by kernel_rfl) Tryz.func5
    (ChangeSpec.witness_at (enc := enc) (C := Tryz.checked) (os := os) (X := fun w _ => laidMetH Tryz.prog laidL w) false (laidWorld os) #[.string ⟨#[]⟩, .string ⟨#[]⟩] 8 rfl (by kernel_rfl) (by kernel_rfl) (by kernel_rfl) (by kernel_rfl) (by kernel_rfl) (laidWorld_met os _)) ?_
  intro W base args ds gs before hval0 hW _ _ hL _
  have hval : ∀ (j : Nat) t v, Tryz.f5.params[j]? = some t → args[j]? = some v → Value.okWide Tryz.prog W .any base t v := hval0
  have hW' := hW
  obtain ⟨p, q, hA0, hV, rfl, _, _⟩ := hW
  have hA : DataW.TrodAll enc Tryz.prog W 0 (fun _ => true) true Tryz.f5.params.toList args.toList ds p := hA0
  rw [Tryz.params5] at hA hval
  have hg := glob_of_laid hL
  obtain ⟨v0, v1, d0, d1, p0, p1, rfl, rfl, rfl, h0, h1⟩ := trodAll_two hA
  obtain ⟨rfl, rfl⟩ := trodVars_none hV
  obtain ⟨s0, rfl, rfl, rfl, -⟩ := ChangeMaps.open_string Tryz.underlying9 (hval 0 9 v0 rfl rfl) h0
  obtain ⟨s1, rfl, rfl, rfl, -⟩ := ChangeMaps.open_string Tryz.underlying9 (hval 1 9 v1 rfl rfl) h1
  refine (walk s0 s1 W hg ).mono fun e W' ⟨he, hb⟩ => ?_
  subst he
  exact ⟨_, rfl, law_post (tb := 4) laidOut (by decide +kernel) rfl hW' rfl rfl rfl rfl Tryz.underlying4 hb⟩

theorem over : Rows.imageOnlyRow.holds Tryz.pinned (OpenSpec.ofChange Rows.imageOnlySpec) :=
  OpenClaim.holds_of_wide 5 Tryz.f5 rfl rfl rfl rfl rfl rfl rfl ⟨rfl, rfl, rfl, rfl, rfl⟩ rfl rfl rfl rfl rfl (by kernel_rfl) Tryz.func5 (by kernel_rfl)
    (of_decide_eq_true (by kernel_rfl)) (by unfold Func.isWrapper; first | (rw [if_pos (by decide +kernel)]; kernel_rfl) | (rw [if_neg (by decide +kernel)]; exact ⟨rfl, rfl⟩))
    (fun os started H enc _ => lifted os started H enc)
theorem noStand : ∀ (f : FuncId) (fn : Func), Tryz.prog.funcNamed "rubato/rubatolaw36.ImageOnly" = some f → Tryz.prog.funcs[f]? = some fn → true = Tryz.prog.looks [] ∧ ∀ (j : Nat) t, fn.params[j]? = some t → Tryz.prog.wantsStandIn t = false := fun f fn hf hfn => by
  obtain rfl : f = 5 := Option.some.inj ((show Tryz.prog.funcNamed "rubato/rubatolaw36.ImageOnly" = some 5 by kernel_rfl).symm.trans hf) |>.symm
  obtain rfl : fn = Tryz.f5 := (Option.some.inj (Tryz.func5.symm.trans hfn)).symm
  refine ⟨by kernel_rfl, fun j t ht => ?_⟩
  rw [Tryz.params5] at ht
  have hs : t = 9 := by
    rcases j with _ | j
    · simpa using ht.symm
    rcases j with _ | j
    · simpa using ht.symm
    simp at ht
  rcases hs with rfl
  · exact (show Tryz.prog.wantsStandIn 9 = false by kernel_rfl)
theorem proved : Rows.ImageOnlyCardSaid :=
  Claim7.holds_tied_plain_at .later [] [.handle] true Rows.imageOnlyCard.stood.harness true over (fun _ h => by cases h) (by kernel_rfl) (fun _ h => by cases h) imageOnly_row_tie rfl ⟨rfl, rfl⟩ (by kernel_rfl) (by kernel_rfl) noStand (by kernel_rfl)
#print axioms proved
end Go.Proofs.YtnmojicfmcbgmaaGreatDoor.imageOnly
