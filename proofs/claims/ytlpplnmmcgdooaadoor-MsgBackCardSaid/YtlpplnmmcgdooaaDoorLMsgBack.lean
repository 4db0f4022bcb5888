/- The law MsgBack returns true for every input, and changes nothing that lay there; the variable errors.errorType holds what the program's text lays into it. No other condition. -/
import Derived.Test.YtlpplnmmcgdooaaDoorFew
import Derived.Test.YtlpplnmmcgdooaaDoorOpenM
import Derived.Test.YtlpplnmmcgdooaaDoorLawG
namespace Go.Proofs.YtlpplnmmcgdooaaDoor.msgBack
open Go.ChangeShapes Go.WideShapes Go.ChangeAt Go.RowKit Go.Sort Nb

set_option maxRecDepth 100000 in
set_option maxHeartbeats 4000000 in
theorem walk (m : PM) (w : World) (hg : Glob w) (ra : RdK encA 2 w.heap.size w m.aA m.ats) (rm : RdI w.heap.size w m.mA m.mks) :
    Calls Tryd.prog 3 #[msgV m] w fun e w' => e = .returned (.bool true) ∧ Below w.heap.size w w' := by
  have HFW := Lib.hid (fun W => Few_any m W)
  have HAW := Lib.hid (fun (W : World) (h : Below w.heap.size w W) => awake09_any W (hg.below h))
  by_cases hf : fewM m = true
  · have hrd : RdM w m := fewM_rd hf ra rm
    have HCD := Lib.hid (fun (ops : List ByteArray) (c : Int) (v : Value) (W : World) (h : Below w.heap.size w W) (hv : ErrV W ops c v) => Code_any ops c v W (hg.below h) hv)
    have HCK := Lib.hid (fun (W : World) (h : Below w.heap.size w W) => Check_any m W (hrd.next h))
    unfold ChkP at HCK
    rw [hf] at HFW
    by_cases h0 : chkM m = 0
    · have HPO := Lib.hid (fun (W : World) (h : Below w.heap.size w W) => mPutOk_any m W (hrd.next h) h0)
      have hok := okM_of h0
      have hbl := msgB_le hok
      have htk := takeC_laid m h0
      have HSM := Lib.hid (fun aA aC mA mC => raw_same m hok [] aA aC mA mC)
      rw [List.append_nil] at HSM
      rw [h0] at HCK
      simp only [if_true] at HCK
      obtain ⟨z, hz⟩ : ∃ z : ByteArray, z = ⟨(msgB m).toArray⟩ := ⟨_, rfl⟩
      have hzl : z.data.toList = msgB m := by rw [hz]
      have hzs : z.size ≤ 1000000 := by rw [hz]; simp [ByteArray.size]; omega
      rw [← hz] at HPO
      rw [← hzl] at htk HSM
      have HTK := Lib.hid (fun (W : World) (h : Below w.heap.size w W) => mTake_any z W (hg.below h) hzs)
      have HT0 := Lib.hid htk
      have HSA := Lib.hid (fun (n : PM) (W : World) (h : Below w.heap.size w W) (hn : RdM W n) => rSame_any m n W (hrd.next h) hn)
      clear hz hzl hzs htk hbl hok hf h0 ra rm hg hrd
      have HMV : Hid (∀ x, msgV x = .agg #[.int .i64 x.k, .int .i64 x.fr, .int .i64 x.id, .int .i64 x.t, .int .i64 x.bal, .int .i64 x.abal, .int .i64 x.ph, .int .i64 x.q, .string x.pay, .int .i64 x.lo, .int .i64 x.hi, .slice x.aA x.ats.size x.aC, .slice x.mA x.mks.size x.mC, .int .i64 x.dn]) := fun _ => rfl
      unfold msgV at HFW HPO HCK HSA ⊢
      go_enter Tryd.func3, Tryd.ntmps3
      go_wp2_with fail
      refine (HFW.out _).mono ?_
      rintro e w1 ⟨rfl, hb1⟩
      have HB1 := Lib.hid hb1
      obtain ⟨p0, -, p1, -, p2, -, p3, -, p4, -, p5, -, p6, -, p7, -, p8, -, p9, -, p10, -, p11, -, p12, -, p13, -⟩ := cells14 (heap_box hb1)
      clear hb1
      go_wp2_with fail
      refine (HPO.out _ (belStep (bel1 w _) HB1.out)).mono ?_
      rintro e w2 ⟨rfl, hb2⟩
      have HB2 := Lib.hid (belStep HB1.out hb2)
      clear hb2 p0 p1 p2 p3 p4 p5 p6 p7 p8 p9 p10 p11 p12 p13
      go_wp2_with fail
      refine (HCD.out [] 0 _ _ (belStep (bel1 w _) HB2.out) (Or.inl ⟨rfl, rfl, rfl⟩)).mono ?_
      rintro e w3 ⟨rfl, hb3⟩
      have HB3 := Lib.hid (belStep HB2.out hb3)
      clear hb3
      go_wp2_with fail
      refine (HTK.out _ (belStep (bel1 w _) HB3.out)).mono ?_
      rintro e w4 ⟨⟨n, v4, ops4, rfl, hrn, hev, -, -, hn⟩, hb4⟩
      rw [HT0.out] at hev
      have hv4 := errNil hev
      subst hv4
      obtain ⟨aA, aC, mA, mC, hn⟩ := hn HT0.out
      have HSN : Hid (sameM m n = true) := by show _ = _; rw [hn]; exact HSM.out aA aC mA mC
      have HB4 := Lib.hid (belStep HB3.out hb4)
      have HRN := Lib.hid hrn
      have HSAn := Lib.hid (fun (W : World) (h : Below w.heap.size w W) (hn : RdM W n) => HSA.out n W h hn)
      rw [HSN.out] at HSAn
      unfold msgV
      clear hrn hev hn hb4 HSA
      go_wp2_with fail
      refine (HCD.out [] 0 _ _ (belStep (bel1 w _) (belAlloc HB4.out _)) (Or.inl ⟨rfl, rfl, rfl⟩)).mono ?_
      rintro e w5 ⟨rfl, hb5⟩
      have HB5 := Lib.hid (belStep (belAlloc HB4.out _) hb5)
      have HRN5 := Lib.hid (HRN.out.next (belStep (bel1 w4 _) hb5))
      obtain ⟨p0, -, p1, -, p2, -, p3, -, p4, -, p5, -, p6, -, p7, -, p8, -, p9, -, p10, -, p11, -, p12, -, p13, -⟩ := cells14 (heap_box HB5.out)
      obtain ⟨q0, -, q1, -, q2, -, q3, -, q4, -, q5, -, q6, -, q7, -, q8, -, q9, -, q10, -, q11, -, q12, -, q13, -⟩ := cells14 (heap_box hb5)
      clear hb5
      go_wp2_with fail
      refine (HSAn.out _ (belStep (bel1 w _) HB5.out) HRN5.out).mono ?_
      rintro e w6 ⟨rfl, hb6⟩
      have HB6 := Lib.hid (belStep HB5.out hb6)
      clear hb6 p0 p1 p2 p3 p4 p5 p6 p7 p8 p9 p10 p11 p12 p13 q0 q1 q2 q3 q4 q5 q6 q7 q8 q9 q10 q11 q12 q13
      obtain ⟨p0, -, p1, -, p2, -, p3, -, p4, -, p5, -, p6, -, p7, -, p8, -, p9, -, p10, -, p11, -, p12, -, p13, -⟩ := cells14 (heap_box HB6.out)
      go_wp2_with fail
      refine (HCK.out _ (belStep (bel1 w _) HB6.out)).mono ?_
      rintro e w7 ⟨⟨v7, rfl, hv7⟩, hb7⟩
      have HV7 := Lib.hid hv7
      have HB7 := Lib.hid (belStep HB6.out hb7)
      clear hv7 hb7 p0 p1 p2 p3 p4 p5 p6 p7 p8 p9 p10 p11 p12 p13
      go_wp2_with fail
      refine (HCD.out _ 0 _ _ (belStep (bel1 w _) HB7.out) HV7.out).mono ?_
      rintro e w8 ⟨rfl, hb8⟩
      have HB8 := Lib.hid (belStep HB7.out hb8)
      clear hb8
      go_wp2_with (go_at_call 8; refine (HAW.out _ (belStep (bel1 w _) HB8.out)).mono ?_; rintro e w9 ⟨rfl, hb9⟩; have HB9 := Lib.hid (belStep HB8.out hb9); clear hb9)
      go_ret
      exact ⟨rfl, belStep (bel1 w _) HB9.out⟩
    · have HPB := Lib.hid (fun (W : World) (h : Below w.heap.size w W) => mPutBad_any m W (hrd.next h) h0)
      unfold PutBad at HPB
      rw [if_neg h0] at HCK
      have hne : (chkM m != 0) = true := by simpa using h0
      generalize chkM m = c at HPB HCK hne h0
      have H0 := Lib.hid h0
      clear hf h0 ra rm hg hrd
      unfold msgV at HFW HPB HCK ⊢
      go_enter Tryd.func3, Tryd.ntmps3
      go_wp2_with fail
      refine (HFW.out _).mono ?_
      rintro e w1 ⟨rfl, hb1⟩
      have HB1 := Lib.hid hb1
      obtain ⟨p0, -, p1, -, p2, -, p3, -, p4, -, p5, -, p6, -, p7, -, p8, -, p9, -, p10, -, p11, -, p12, -, p13, -⟩ := cells14 (heap_box hb1)
      clear hb1
      go_wp2_with fail
      refine (HPB.out _ (belStep (bel1 w _) HB1.out)).mono ?_
      rintro e w2 ⟨⟨v2, rfl, hv2⟩, hb2⟩
      have HB2 := Lib.hid (belStep HB1.out hb2)
      have HV2 := Lib.hid hv2
      clear hv2 hb2 p0 p1 p2 p3 p4 p5 p6 p7 p8 p9 p10 p11 p12 p13
      go_wp2_with fail
      refine (HCD.out [msgW] c _ _ (belStep (bel1 w _) HB2.out) HV2.out).mono ?_
      rintro e w3 ⟨rfl, hb3⟩
      have HB3 := Lib.hid (belStep HB2.out hb3)
      have HV3 := Lib.hid (HV2.out.below hb3)
      obtain ⟨p0, -, p1, -, p2, -, p3, -, p4, -, p5, -, p6, -, p7, -, p8, -, p9, -, p10, -, p11, -, p12, -, p13, -⟩ := cells14 (heap_box HB3.out)
      clear hb3
      go_wp2_with fail
      refine (HCK.out _ (belStep (bel1 w _) HB3.out)).mono ?_
      rintro e w4 ⟨⟨v4, rfl, hv4⟩, hb4⟩
      have HB4 := Lib.hid (belStep HB3.out hb4)
      have HV4 := Lib.hid hv4
      have HW4 := Lib.hid (HV3.out.below hb4)
      clear hv4 hb4 p0 p1 p2 p3 p4 p5 p6 p7 p8 p9 p10 p11 p12 p13
      go_wp2_with fail
      refine (HCD.out [msgW] c v4 _ (belStep (bel1 w _) HB4.out) HV4.out).mono ?_
      rintro e w5 ⟨rfl, hb5⟩
      have HB5 := Lib.hid (belStep HB4.out hb5)
      have HW5 := Lib.hid (HW4.out.below hb5)
      clear hb5
      go_wp2_with fail
      refine (HCD.out [msgW] c v2 _ (belStep (bel1 w _) HB5.out) HW5.out).mono ?_
      rintro e w6 ⟨rfl, hb6⟩
      have HB6 := Lib.hid (belStep HB5.out hb6)
      clear hb6
      go_wp2_with (go_at_call 8; refine (HAW.out _ (belStep (bel1 w _) HB6.out)).mono ?_; rintro e w9 ⟨rfl, hb9⟩; have HB9 := Lib.hid (belStep HB6.out hb9); clear hb9)
      go_ret
      exact ⟨rfl, belStep (bel1 w _) HB9.out⟩
  · have hff : fewM m = false := by simpa using hf
    rw [hff] at HFW
    clear hf hff ra rm hg
    unfold msgV at HFW ⊢
    go_enter Tryd.func3, Tryd.ntmps3
    go_wp2_with fail
    refine (HFW.out _).mono ?_
    rintro e w1 ⟨rfl, hb1⟩
    have HB1 := Lib.hid (belStep (bel1 w _) hb1)
    clear hb1
    go_wp2_with (go_at_call 8; refine (HAW.out _ HB1.out).mono ?_; rintro e w9 ⟨rfl, hb9⟩; have HB9 := Lib.hid (belStep HB1.out hb9); clear hb9)
    go_ret
    exact ⟨rfl, HB9.out⟩

set_option maxRecDepth 100000 in
theorem lifted (os : Os) (started : os.Started) (H : Type) (enc : TypeId × Value → H) :
    ReturnsInHanded {} Tryd.checked os 3 .any (fun w args => (Rows.msgBackSpec.pre enc Tryd.prog Tryd.f3 [] false w args ∧ laidMetH Tryd.prog laidL w) ∧ sizedMet enc Tryd.prog Tryd.f3 (OpenSpec.ofChange Rows.msgBackSpec) false w args)
      (Rows.msgBackSpec.post enc Tryd.prog Tryd.f3 false true false false) := by
  refine returnsInHanded_of_change_and (C := Tryd.checked) (X := fun w _ => laidMetH Tryd.prog laidL w) (fun _ _ _ hh h => h.of_heap hh) own started (by kernel_rfl) Tryd.func3
    (ChangeSpec.witness_at (enc := enc) (C := Tryd.checked) (os := os) (X := fun w _ => laidMetH Tryd.prog laidL w) false (laidWorld os) #[.agg #[.int .i64 0, .int .i64 0, .int .i64 0, .int .i64 0, .int .i64 0, .int .i64 0, .int .i64 0, .int .i64 0, .string ⟨#[]⟩, .int .i64 0, .int .i64 0, .slice none 0 0, .slice none 0 0, .int .i64 0]] 8 rfl (by kernel_rfl) (by kernel_rfl) (by kernel_rfl) (by kernel_rfl) (by kernel_rfl) (laidWorld_met os _)) ?_
  intro W base args ds gs before hval0 hW _ _ hL _
  have hval : ∀ (j : Nat) t v, Tryd.f3.params[j]? = some t → args[j]? = some v → Value.okWide Tryd.prog W .any base t v := hval0
  have hW' := hW
  obtain ⟨p, q, hA0, hV, rfl, _, _⟩ := hW
  have hA : DataW.TrodAll enc Tryd.prog W 0 (fun _ => true) true Tryd.f3.params.toList args.toList ds p := hA0
  rw [Tryd.params3] at hA hval
  have hg := glob_of_laid hL
  obtain ⟨v0, d0, rfl, rfl, h0⟩ := trodAll_one hA
  obtain ⟨rfl, rfl⟩ := trodVars_none hV
  obtain ⟨m0, rfl, ra0, rm0⟩ := open_msg (hval 0 25 v0 rfl rfl) h0
  refine (walk m0 W hg ra0 rm0).mono fun e W' ⟨he, hb⟩ => ?_
  subst he
  exact ⟨_, rfl, law_post (tb := 4) laidOut (by decide +kernel) rfl hW' rfl rfl rfl rfl Tryd.underlying4 hb⟩

theorem over : Rows.msgBackRow.holds Tryd.pinned (OpenSpec.ofChange Rows.msgBackSpec) :=
  OpenClaim.holds_of_wide 3 Tryd.f3 rfl rfl rfl rfl rfl rfl rfl ⟨rfl, rfl, rfl, rfl, rfl⟩ rfl rfl rfl rfl rfl (by kernel_rfl) Tryd.func3 (by kernel_rfl)
    (of_decide_eq_true (by kernel_rfl)) (by unfold Func.isWrapper; first | (rw [if_pos (by decide +kernel)]; kernel_rfl) | (rw [if_neg (by decide +kernel)]; exact ⟨rfl, rfl⟩))
    (fun os started H enc _ => lifted os started H enc)
theorem noStand : ∀ (f : FuncId) (fn : Func), Tryd.prog.funcNamed "rubato/rubatolaw09.MsgBack" = some f → Tryd.prog.funcs[f]? = some fn → true = Tryd.prog.looks [] ∧ ∀ (j : Nat) t, fn.params[j]? = some t → Tryd.prog.wantsStandIn t = false := fun f fn hf hfn => by
  obtain rfl : f = 3 := Option.some.inj ((show Tryd.prog.funcNamed "rubato/rubatolaw09.MsgBack" = some 3 by kernel_rfl).symm.trans hf) |>.symm
  obtain rfl : fn = Tryd.f3 := (Option.some.inj (Tryd.func3.symm.trans hfn)).symm
  refine ⟨by kernel_rfl, fun j t ht => ?_⟩
  rw [Tryd.params3] at ht
  have hs : t = 25 := by
    rcases j with _ | j
    · simpa using ht.symm
    simp at ht
  rcases hs with rfl
  · exact (show Tryd.prog.wantsStandIn 25 = false by kernel_rfl)
theorem proved : Rows.MsgBackCardSaid :=
  Claim7.holds_tied_plain_at .later [] [.handle] true Rows.msgBackCard.stood.harness true over (fun _ h => by cases h) (by kernel_rfl) (fun _ h => by cases h) msgBack_row_tie rfl ⟨rfl, rfl⟩ (by kernel_rfl) (by kernel_rfl) noStand (by kernel_rfl)
#print axioms proved
end Go.Proofs.YtlpplnmmcgdooaaDoor.msgBack
