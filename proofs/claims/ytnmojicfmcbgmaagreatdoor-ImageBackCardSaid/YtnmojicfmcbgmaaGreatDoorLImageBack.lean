/- The law ImageBack returns true for every input, and changes nothing that lay there. -/
import Derived.Test.YtnmojicfmcbgmaaGreatDoorQIoK
import Derived.Test.YtnmojicfmcbgmaaGreatDoorQLawG
import Derived.Test.YtnmojicfmcbgmaaGreatDoorQImU
namespace Go.Proofs.YtnmojicfmcbgmaaGreatDoor.imageBack
open Go.ChangeShapes Go.WideShapes Go.ChangeAt Go.RowKit Go.Sort Nb

set_option maxRecDepth 100000
attribute [local go_sem ↓] execOp_loadRep execOp_storeRep
attribute [local go_sem] run_loadBox run_storeBox_any run_storeBox_newA allOne_lit size_lit
set_option maxHeartbeats 16000000 in
theorem walk (r : RP) (w : World) (hg : Glob w) (ra : RdP w r) :
    Calls Tryz.prog 4 #[.agg (encP r).toArray] w fun e w' => e = .returned (.bool true) ∧ Below w.heap.size w w' := by
  have HG := Lib.hid hg
  have HR := Lib.hid ra
  obtain ⟨cs, hcs⟩ : ∃ cs, cs = (encP r).toArray := ⟨_, rfl⟩
  have HI : cs.size = 18 := by rw [hcs]; rfl
  have H1 : allOne cs = true := by rw [hcs]; exact encP_all r
  have HCS := Lib.hid hcs
  rw [← hcs]
  have HFW : Hid (∀ W, Below w.heap.size w W → Calls Tryz.prog 6 #[.agg cs] W fun e w' => e = .returned (.bool (fewW r)) ∧ Below W.heap.size W w') := fun W hb => by rw [HCS.out]; exact few34_any r W (HR.out.below hb)
  obtain ⟨g1, hg1⟩ : ∃ g, fewW r = g := ⟨_, rfl⟩
  rw [hg1] at HFW
  have HF1 := Lib.hid hg1
  have B0 := Lib.hid (bel1 w (.cells cs 35))
  have X0 : Hid ((w.alloc (.cells cs 35)).heap[w.heap.size]? = some (.cells cs 35 (0, 0))) := heap_new_D w _
  clear hcs hg ra hg1
  go_enter Tryz.func4, Tryz.ntmps4
  go_upto_region 1 with (fail)
  obtain ⟨p1, hp1⟩ : ∃ p, p = w.heap.size := ⟨_, rfl⟩
  obtain ⟨w0, hw0⟩ : ∃ W, W = w.alloc (.cells cs 35) := ⟨_, rfl⟩
  rw [← hp1] at X0 ⊢
  rw [← hw0] at X0 B0 ⊢
  have HP1 := Lib.hid hp1
  clear hw0 hp1
  have x1 := boxAt_of X0.out HI
  have x2 := rowAt_of X0.out
  go_wp2_with fail
  refine (HFW.out _ B0.out).mono ?_
  rintro _ w1 ⟨rfl, hb1⟩
  have B1 := Lib.hid (belStep B0.out hb1)
  have X1 := Lib.hid ((hb1.block _ (lt_of_heap X0.out)).trans X0.out)
  clear hb1 x1 x2 X0 B0 HFW
  cases g1
  · go_wp2_with fail
    refine (aw36_any _ (HG.out.below B1.out)).mono ?_
    rintro _ w2 ⟨rfl, hb2⟩
    have B2 := Lib.hid (belStep B1.out hb2)
    clear hb2
    go_wp2
    go_ret
    exact ⟨rfl, B2.out⟩
  have HFC := Lib.hid (fewW_c HF1.out)
  have HP : Hid (∀ W, Below w.heap.size w W → Calls Tryz.prog 8 #[.agg cs] W fun e w' => PutP r e w' ∧ Below W.heap.size W w') := fun W hb => by rw [HCS.out]; exact imPut_any r W (HR.out.below hb) HFC.out.1
  have x1 := boxAt_of X1.out HI
  have x2 := rowAt_of X1.out
  go_wp2_with fail
  refine (HP.out _ B1.out).mono ?_
  rintro _ w2 ⟨hp, hb2⟩
  have B2 := Lib.hid (belStep B1.out hb2)
  have X2 := Lib.hid ((hb2.block _ (lt_of_heap X1.out)).trans X1.out)
  clear hb2 x1 x2 X1 B1 HP
  rcases hp with ⟨h0, rfl⟩ | ⟨h0, v, rfl, hch⟩
  · have HT := Lib.hid (im_back h0)
    obtain ⟨sb, hsb⟩ : ∃ y : ByteArray, (⟨(bytesR r).toArray⟩ : ByteArray) = y := ⟨_, rfl⟩
    rw [hsb] at HT ⊢
    clear hsb h0
    go_wp2_with fail
    refine (Code_any [] 0 _ _ (HG.out.below B2.out) (Or.inl ⟨rfl, rfl, rfl⟩)).mono ?_
    rintro _ w3 ⟨rfl, hb3⟩
    have B3 := Lib.hid (belStep B2.out hb3)
    have X3 := Lib.hid ((hb3.block _ (lt_of_heap X2.out)).trans X2.out)
    clear hb3 X2 B2
    go_wp2_with fail
    refine (HT.out _ (HG.out.below B3.out)).mono ?_
    rintro _ w4 ⟨R, ct, rfl, hct, hrt, hsm, hck, hft, hb4⟩
    have HI2 : ct.size = 18 := by rw [hct]; rfl
    have H2 : allOne ct = true := by rw [hct]; exact encP_all R
    have HCT := Lib.hid hct
    have HSM := Lib.hid hsm
    have HCK := Lib.hid hck
    have HFT := Lib.hid hft
    have X4 := Lib.hid ((hb4.block _ (lt_of_heap X3.out)).trans X3.out)
    have B4 := Lib.hid (belStep B3.out hb4)
    have T4 := Lib.hid hrt
    clear hct hrt hsm hck hft hb4 X3 B3 HT
    go_upto_region 7 with (fail)
    obtain ⟨q2, hq2⟩ : ∃ p, p = w4.heap.size := ⟨_, rfl⟩
    have hb5 := bel1 w4 (.cells ct 35)
    have Y5 : Hid ((w4.alloc (.cells ct 35)).heap[w4.heap.size]? = some (.cells ct 35 (0, 0))) := heap_new_D w4 _
    have X5 := Lib.hid ((hb5.block _ (lt_of_heap X4.out)).trans X4.out)
    have B5 := Lib.hid (belStep B4.out hb5)
    have T5 := Lib.hid (T4.out.below hb5)
    obtain ⟨w5, hw5⟩ : ∃ W, W = w4.alloc (.cells ct 35) := ⟨_, rfl⟩
    rw [← hw5, ← hq2] at Y5
    rw [← hw5] at X5 B5 T5 ⊢
    rw [← hq2]
    clear hw5 hq2 hb5 X4 B4 T4
    have x1 := boxAt_of X5.out HI
    have x2 := rowAt_of X5.out
    have y1 := boxAt_of Y5.out HI2
    have y2 := rowAt_of Y5.out
    have HSA : Hid (Calls Tryz.prog 14 #[.agg ct, .agg cs] w5 fun e w' => e = .returned (.bool true) ∧ Below w5.heap.size w5 w') := by
      have := rSameW_any R r w5 T5.out (HR.out.below B5.out) HFT.out.c HFC.out.1 HFT.out.it HFT.out.ss HFC.out.2.1 HFC.out.2.2
      rw [HSM.out, ← HCT.out, ← HCS.out] at this
      exact this
    go_wp2_with fail
    refine HSA.out.mono ?_
    rintro _ w6 ⟨rfl, hb6⟩
    have Y6 := Lib.hid ((hb6.block _ (lt_of_heap Y5.out)).trans Y5.out)
    have B6 := Lib.hid (belStep B5.out hb6)
    have T6 := Lib.hid (T5.out.below hb6)
    clear hb6 x1 x2 y1 y2 HSA X5 Y5 B5 T5
    go_wp2_with fail
    refine (Code_any [] 0 _ _ (HG.out.below B6.out) (Or.inl ⟨rfl, rfl, rfl⟩)).mono ?_
    rintro _ w7 ⟨rfl, hb7⟩
    have Y7 := Lib.hid ((hb7.block _ (lt_of_heap Y6.out)).trans Y6.out)
    have B7 := Lib.hid (belStep B6.out hb7)
    have T7 := Lib.hid (T6.out.below hb7)
    clear hb7 Y6 B6 T6
    have y1 := boxAt_of Y7.out HI2
    have y2 := rowAt_of Y7.out
    have HRC : Hid (Calls Tryz.prog 16 #[.agg ct] w7 fun e w' => e = .returned (.int .i64 0) ∧ Below w7.heap.size w7 w') := by
      have := repCheck_any R w7 T7.out HFT.out.c
      rw [HCK.out, ← HCT.out] at this
      exact this
    go_wp2_with fail
    refine HRC.out.mono ?_
    rintro _ w8 ⟨rfl, hb8⟩
    have B8 := Lib.hid (belStep B7.out hb8)
    clear hb8 y1 y2 HRC Y7 B7 T7
    go_wp2_with fail
    refine (aw36_any _ (HG.out.below B8.out)).mono ?_
    rintro _ w9 ⟨rfl, hb9⟩
    have B9 := Lib.hid (belStep B8.out hb9)
    clear hb9 B8
    go_wp2
    go_ret
    exact ⟨rfl, B9.out⟩
  · obtain ⟨pe, hpe⟩ : ∃ n, putE r = n := ⟨_, rfl⟩
    have HN : Hid (pe = 3 ∨ (pe = 2 ∧ chkW r = false)) := by show _ ∨ _; rw [← hpe]; exact put_not h0
    rw [hpe] at h0 hch
    clear hpe
    have HCH := Lib.hid hch
    have HC0 := Lib.hid h0
    clear hch
    have hne : (pe != 0) = true := by simpa using h0
    clear h0
    go_wp2_with fail
    refine (Code_any [imageS] pe v _ (HG.out.below B2.out) (Or.inr ⟨HC0.out, HCH.out⟩)).mono ?_
    rintro _ w3 ⟨rfl, hb3⟩
    have B3 := Lib.hid (belStep B2.out hb3)
    have X3 := Lib.hid ((hb3.block _ (lt_of_heap X2.out)).trans X2.out)
    have C3 := Lib.hid (HCH.out.below hb3)
    clear hb3 X2 B2 HCH
    go_wp2_with fail
    refine (Code_any [imageS] pe v _ (HG.out.below B3.out) (Or.inr ⟨HC0.out, C3.out⟩)).mono ?_
    rintro _ w4 ⟨rfl, hb4⟩
    have B4 := Lib.hid (belStep B3.out hb4)
    have X4 := Lib.hid ((hb4.block _ (lt_of_heap X3.out)).trans X3.out)
    clear hb4 X3 B3 C3
    rcases HN.out with h3 | ⟨h2, hck⟩
    · subst h3
      go_wp2_with fail
      refine (aw36_any _ (HG.out.below B4.out)).mono ?_
      rintro _ w5 ⟨rfl, hb5⟩
      have B5 := Lib.hid (belStep B4.out hb5)
      clear hb5
      go_wp2
      go_ret
      exact ⟨rfl, B5.out⟩
    · subst h2
      have x1 := boxAt_of X4.out HI
      have x2 := rowAt_of X4.out
      have HRC : Hid (∀ W, Below w.heap.size w W → Calls Tryz.prog 16 #[.agg cs] W fun e w' => e = .returned (.int .i64 2) ∧ Below W.heap.size W w') := fun W hb => by
        have := repCheck_any r W (HR.out.below hb) HFC.out.1
        rw [show repW r = 2 by unfold repW; rw [hck]; rfl, ← HCS.out] at this
        exact this
      clear hck
      go_wp2_with fail
      refine (HRC.out _ B4.out).mono ?_
      rintro _ w5 ⟨rfl, hb5⟩
      have B5 := Lib.hid (belStep B4.out hb5)
      clear hb5 x1 x2 B4
      go_wp2_with fail
      refine (aw36_any _ (HG.out.below B5.out)).mono ?_
      rintro _ w6 ⟨rfl, hb6⟩
      have B6 := Lib.hid (belStep B5.out hb6)
      clear hb6
      go_wp2
      go_ret
      exact ⟨rfl, B6.out⟩

set_option maxRecDepth 100000 in
theorem lifted (os : Os) (started : os.Started) (H : Type) (enc : TypeId × Value → H) :
    ReturnsInHanded {} Tryz.checked os 4 .any (fun w args => (Rows.imageBackSpec.pre enc Tryz.prog Tryz.f4 [] false w args ∧ laidMetH Tryz.prog laidL w) ∧ sizedMet enc Tryz.prog Tryz.f4 (OpenSpec.ofChange Rows.imageBackSpec) false w args)
      (Rows.imageBackSpec.post enc Tryz.prog Tryz.f4 false true false false) := by
  refine returnsInHanded_of_change_and (C := Tryz.checked) (X := fun w _ => laidMetH Tryz.prog laidL w) (fun _ _ _ hh h => h.of_heap hh) own started (by kernel_rfl) Tryz.func4
    (ChangeSpec.witness_at (enc := enc) (C := Tryz.checked) (os := os) (X := fun w _ => laidMetH Tryz.prog laidL w) false (laidWorld os) #[.agg #[.int .i64 0, .int .i64 0, .int .i64 0, .int .i64 0, .int .i64 0, .int .i64 0, .int .i64 0, .slice none 0 0, .slice none 0 0, .slice none 0 0, .slice none 0 0, .slice none 0 0, .slice none 0 0, .int .i64 0, .int .i64 0, .int .i64 0, .slice none 0 0, .slice none 0 0]] 8 rfl (by kernel_rfl) (by kernel_rfl) (by kernel_rfl) (by kernel_rfl) (by kernel_rfl) (laidWorld_met os _)) ?_
  intro W base args ds gs before hval0 hW _ _ hL _
  have hval : ∀ (j : Nat) t v, Tryz.f4.params[j]? = some t → args[j]? = some v → Value.okWide Tryz.prog W .any base t v := hval0
  have hW' := hW
  obtain ⟨p, q, hA0, hV, rfl, _, _⟩ := hW
  have hA : DataW.TrodAll enc Tryz.prog W 0 (fun _ => true) true Tryz.f4.params.toList args.toList ds p := hA0
  rw [Tryz.params4] at hA hval
  have hg := glob_of_laid hL
  obtain ⟨v0, d0, rfl, rfl, h0⟩ := trodAll_one hA
  obtain ⟨rfl, rfl⟩ := trodVars_none hV
  obtain ⟨m0, rfl, ra0⟩ := open_rep (hval 0 35 v0 rfl rfl) h0
  refine (walk m0 W hg ra0).mono fun e W' ⟨he, hb⟩ => ?_
  subst he
  exact ⟨_, rfl, law_post (tb := 4) laidOut (by decide +kernel) rfl hW' rfl rfl rfl rfl Tryz.underlying4 hb⟩

theorem over : Rows.imageBackRow.holds Tryz.pinned (OpenSpec.ofChange Rows.imageBackSpec) :=
  OpenClaim.holds_of_wide 4 Tryz.f4 rfl rfl rfl rfl rfl rfl rfl ⟨rfl, rfl, rfl, rfl, rfl⟩ rfl rfl rfl rfl rfl (by kernel_rfl) Tryz.func4 (by kernel_rfl)
    (of_decide_eq_true (by kernel_rfl)) (by unfold Func.isWrapper; first | (rw [if_pos (by decide +kernel)]; kernel_rfl) | (rw [if_neg (by decide +kernel)]; exact ⟨rfl, rfl⟩))
    (fun os started H enc _ => lifted os started H enc)
theorem noStand : ∀ (f : FuncId) (fn : Func), Tryz.prog.funcNamed "rubato/rubatolaw36.ImageBack" = some f → Tryz.prog.funcs[f]? = some fn → true = Tryz.prog.looks [] ∧ ∀ (j : Nat) t, fn.params[j]? = some t → Tryz.prog.wantsStandIn t = false := fun f fn hf hfn => by
  obtain rfl : f = 4 := Option.some.inj ((show Tryz.prog.funcNamed "rubato/rubatolaw36.ImageBack" = some 4 by kernel_rfl).symm.trans hf) |>.symm
  obtain rfl : fn = Tryz.f4 := (Option.some.inj (Tryz.func4.symm.trans hfn)).symm
  refine ⟨by kernel_rfl, fun j t ht => ?_⟩
  rw [Tryz.params4] at ht
  have hs : t = 35 := by
    rcases j with _ | j
    · simpa using ht.symm
    simp at ht
  rcases hs with rfl
  · exact (show Tryz.prog.wantsStandIn 35 = false by kernel_rfl)
theorem proved : Rows.ImageBackCardSaid :=
  Claim7.holds_tied_plain_at .later [] [.handle] true Rows.imageBackCard.stood.harness true over (fun _ h => by cases h) (by kernel_rfl) (fun _ h => by cases h) imageBack_row_tie rfl ⟨rfl, rfl⟩ (by kernel_rfl) (by kernel_rfl) noStand (by kernel_rfl)
#print axioms proved
end Go.Proofs.YtnmojicfmcbgmaaGreatDoor.imageBack
