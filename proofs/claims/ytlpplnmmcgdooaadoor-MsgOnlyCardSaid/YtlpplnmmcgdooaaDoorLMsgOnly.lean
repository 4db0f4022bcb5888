/- The law MsgOnly returns true for every input, and changes nothing that lay there; the variable errors.errorType holds what the program's text lays into it. No other condition. -/
import Derived.Test.YtlpplnmmcgdooaaDoorFew
import Derived.Test.YtlpplnmmcgdooaaDoorOpenM
import Derived.Test.YtlpplnmmcgdooaaDoorLawG
namespace Go.Proofs.YtlpplnmmcgdooaaDoor.msgOnly
open Go.ChangeShapes Go.WideShapes Go.ChangeAt Go.RowKit Go.Sort Nb

set_option maxRecDepth 100000 in
set_option maxHeartbeats 4000000 in
theorem walk (s t : ByteArray) (w : World) (hg : Glob w) :
    Calls Tryd.prog 4 #[.string s, .string t] w fun e w' => e = .returned (.bool true) ∧ Below w.heap.size w w' := by
  have HAW := Lib.hid (fun (W : World) (h : Below w.heap.size w W) => awake09_any W (hg.below h))
  by_cases h1 : 3000 < s.size
  · have d1 : decide ((3000 : Int) < (s.size : Int)) = true := by simp; omega
    clear h1 hg
    go_enter Tryd.func4, Tryd.ntmps4
    go_wp2_with (go_at_call 8; refine (HAW.out _ (Below.refl _ _)).mono ?_; rintro e w9 ⟨rfl, hb9⟩; have HB9 := Lib.hid hb9; clear hb9)
    go_ret
    exact ⟨rfl, HB9.out⟩
  have d1 : decide ((3000 : Int) < (s.size : Int)) = false := by simp; omega
  by_cases h2 : 300 < t.size
  · have d2 : decide ((300 : Int) < (t.size : Int)) = true := by simp; omega
    clear h1 h2 hg
    go_enter Tryd.func4, Tryd.ntmps4
    go_wp2_with (go_at_call 8; refine (HAW.out _ (Below.refl _ _)).mono ?_; rintro e w9 ⟨rfl, hb9⟩; have HB9 := Lib.hid hb9; clear hb9)
    go_ret
    exact ⟨rfl, HB9.out⟩
  have d2 : decide ((300 : Int) < (t.size : Int)) = false := by simp; omega
  have hs1 : s.size ≤ 3000 := by omega
  have ht1 : t.size ≤ 300 := by omega
  have HCD := Lib.hid (fun (ops : List ByteArray) (c : Int) (v : Value) (W : World) (h : Below w.heap.size w W) (hv : ErrV W ops c v) => Code_any ops c v W (hg.below h) hv)
  have HTK := Lib.hid (fun (z : ByteArray) (hz : z.size ≤ 1000000) (W : World) (h : Below w.heap.size w W) => mTake_any z W (hg.below h) hz)
  have HCK := Lib.hid (fun (m : PM) (W : World) (h : RdM W m) => Check_any m W h)
  have HPO := Lib.hid (fun (m : PM) (W : World) (h : RdM W m) (h0 : chkM m = 0) => mPutOk_any m W h h0)
  have HSA := Lib.hid (fun (m n : PM) (W : World) (hm : RdM W m) (hn : RdM W n) => rSame_any m n W hm hn)
  clear h1 h2 hg
  by_cases h0 : takeC s.data.toList = 0
  · obtain ⟨-, -, hc, hb⟩ := takeC_ok h0 none 0 none 0
    have h10 : 10 ≤ s.size := by have := msgB_len (pmOf (rawOf s.data.toList) none 0 none 0); rw [hb] at this; simpa using this
    have d10 : decide ((s.size : Int) < 10) = false := by simp; omega
    have H0 := Lib.hid h0
    have HOK : Hid (∀ aA aC mA mC, chkM (pmOf (rawOf s.data.toList) aA aC mA mC) = 0 ∧ (⟨(msgB (pmOf (rawOf s.data.toList) aA aC mA mC)).toArray⟩ : ByteArray) = s) := fun aA aC mA mC => ⟨(takeC_ok h0 aA aC mA mC).2.2.1, by rw [(takeC_ok h0 aA aC mA mC).2.2.2]⟩
    have HCUT : Hid (takeC (s.extract 0 (s.size - 1)).data.toList ≠ 0) := by
      have hx : (s.extract 0 (s.size - 1)).data.toList = s.data.toList.take (s.data.toList.length - 1) := by
        rw [extract_list]
        simp
      show takeC _ ≠ 0
      rw [hx]
      exact takeC_cut h0 (by simp; omega)
    have HMORE : Hid (t.toList.isEmpty = false → takeC (s ++ t).data.toList ≠ 0) := by
      intro ht
      rw [Lib.toList_data] at ht
      have hx : (s ++ t).data.toList = s.data.toList ++ t.data.toList := by simp
      rw [hx]
      exact takeC_more h0 (by intro e; rw [e] at ht; simp at ht)
    have HSAM : Hid (t.toList.isEmpty = true → takeC (s ++ t).data.toList = 0) := by
      intro ht
      rw [Lib.toList_data] at ht
      have hx : (s ++ t).data.toList = s.data.toList ++ t.data.toList := by simp
      have e0 : t.data.toList = [] := by simpa using ht
      rw [hx, e0, List.append_nil]
      exact h0
    have k1 : (1 : Int) ≤ (s.size : Int) := by omega
    clear h0 hc hb
    go_enter Tryd.func4, Tryd.ntmps4
    go_wp2_with fail
    refine (HTK.out s (by omega) _ (Below.refl _ _)).mono ?_
    rintro e w1 ⟨⟨m, v1, ops1, rfl, hrm, hev, -, -, hm⟩, hb1⟩
    rw [H0.out] at hev
    have hv1 := errNil hev
    subst hv1
    obtain ⟨aA, aC, mA, mC, hm⟩ := hm H0.out
    obtain ⟨hcm, hzm⟩ := HOK.out aA aC mA mC
    rw [← hm] at hcm hzm
    have HRM := Lib.hid hrm
    have HB1 := Lib.hid hb1
    have HPOm := Lib.hid (fun (W : World) (h : RdM W m) => HPO.out m W h hcm)
    rw [hzm] at HPOm
    have HCKm := Lib.hid (fun (W : World) (h : RdM W m) => HCK.out m W h)
    unfold ChkP at HCKm
    rw [hcm] at HCKm
    simp only [if_true] at HCKm
    clear hrm hev hm hb1 hcm hzm HPO HCK HSA HOK
    unfold msgV at HPOm HCKm ⊢
    go_wp2_with fail
    refine (HCD.out [] 0 _ _ (belAlloc HB1.out _) (Or.inl ⟨rfl, rfl, rfl⟩)).mono ?_
    rintro e w2 ⟨rfl, hb2⟩
    have HB2 := Lib.hid (belStep (belAlloc HB1.out _) hb2)
    have HRM2 := Lib.hid (HRM.out.next (belStep (bel1 w1 _) hb2))
    have HBX := Lib.hid hb2
    obtain ⟨p0, -, p1, -, p2, -, p3, -, p4, -, p5, -, p6, -, p7, -, p8, -, p9, -, p10, -, p11, -, p12, -, p13, -⟩ := cells14 (heap_box hb2)
    clear hb2
    go_wp2_with fail
    refine (HPOm.out _ HRM2.out).mono ?_
    rintro e w3 ⟨rfl, hb3⟩
    have HB3 := Lib.hid (belStep HB2.out hb3)
    have HBX3 := Lib.hid (belStep HBX.out hb3)
    have HRM3 := Lib.hid (HRM2.out.next hb3)
    clear hb3 p0 p1 p2 p3 p4 p5 p6 p7 p8 p9 p10 p11 p12 p13
    go_wp2_with fail
    refine (HCD.out [] 0 _ _ HB3.out (Or.inl ⟨rfl, rfl, rfl⟩)).mono ?_
    rintro e w4 ⟨rfl, hb4⟩
    have HB4 := Lib.hid (belStep HB3.out hb4)
    have HRM4 := Lib.hid (HRM3.out.next hb4)
    obtain ⟨p0, -, p1, -, p2, -, p3, -, p4, -, p5, -, p6, -, p7, -, p8, -, p9, -, p10, -, p11, -, p12, -, p13, -⟩ := cells14 (heap_box (belStep HBX3.out hb4))
    clear hb4
    go_wp2_with fail
    refine (HCKm.out _ HRM4.out).mono ?_
    rintro e w5 ⟨⟨v5, rfl, hv5⟩, hb5⟩
    have HV5 := Lib.hid hv5
    have HB5 := Lib.hid (belStep HB4.out hb5)
    clear hv5 hb5 p0 p1 p2 p3 p4 p5 p6 p7 p8 p9 p10 p11 p12 p13
    go_wp2_with fail
    refine (HCD.out _ 0 _ _ HB5.out HV5.out).mono ?_
    rintro e w6 ⟨rfl, hb6⟩
    have HB6 := Lib.hid (belStep HB5.out hb6)
    clear hb6
    go_wp2_with fail
    refine (HTK.out (s.extract 0 (s.size - 1)) (by rw [ByteArray.size_extract]; omega) _ HB6.out).mono ?_
    rintro e w7 ⟨⟨m7, v7, ops7, rfl, -, hev7, -, -, -⟩, hb7⟩
    obtain ⟨c7, hc7⟩ : ∃ c, c = takeC (s.extract 0 (s.size - 1)).data.toList := ⟨_, rfl⟩
    rw [← hc7] at hev7
    have hn7 : ((c7 : Int) != 0) = true := by have := HCUT.out; rw [← hc7] at this; simpa using this
    have HV7 := Lib.hid hev7
    have HB7 := Lib.hid (belStep HB6.out hb7)
    clear hev7 hb7 hc7
    unfold msgV
    go_wp2_with fail
    refine (HTK.out (s ++ t) (by rw [ByteArray.size_append]; omega) _ (belAlloc HB7.out _)).mono ?_
    rintro e w8 ⟨⟨m8, v8, ops8, rfl, -, hev8, -, -, -⟩, hb8⟩
    obtain ⟨c8, hc8⟩ : ∃ c, c = takeC (s ++ t).data.toList := ⟨_, rfl⟩
    rw [← hc8] at hev8
    have hn8 : ((c8 : Int) == 0) = t.toList.isEmpty := by
      cases he : t.toList.isEmpty
      · have := HMORE.out he; rw [← hc8] at this; simpa using this
      · have := HSAM.out he; rw [← hc8] at this; simp [this]
    have HV8 := Lib.hid hev8
    have HV78 := Lib.hid (HV7.out.below (belStep (bel1 w7 _) hb8))
    have HB8 := Lib.hid (belStep (belAlloc HB7.out _) hb8)
    clear hev8 hb8 hc8
    unfold msgV
    go_wp2_with fail
    refine (HCD.out ops7 c7 v7 _ (belAlloc HB8.out _) (HV78.out.below (bel1 w8 _))).mono ?_
    rintro e w9 ⟨rfl, hb9⟩
    have HB9 := Lib.hid (belStep (belAlloc HB8.out _) hb9)
    have HV9 := Lib.hid (HV8.out.below (belStep (bel1 w8 _) hb9))
    clear hb9
    go_wp2_with fail
    refine (HCD.out ops8 c8 v8 _ HB9.out HV9.out).mono ?_
    rintro e w10 ⟨rfl, hb10⟩
    have HB10 := Lib.hid (belStep HB9.out hb10)
    clear hb10
    generalize htt : t.toList.isEmpty = te at hn8
    cases te
    all_goals
      go_wp2_with (go_at_call 8; refine (HAW.out _ HB10.out).mono ?_; rintro e w11 ⟨rfl, hb11⟩; have HB11 := Lib.hid (belStep HB10.out hb11); clear hb11)
      go_ret
      exact ⟨rfl, HB11.out⟩
  · have H0 := Lib.hid h0
    clear h0
    go_enter Tryd.func4, Tryd.ntmps4
    go_wp2_with fail
    refine (HTK.out s (by omega) _ (Below.refl _ _)).mono ?_
    rintro e w1 ⟨⟨m, v1, ops1, rfl, hrm, hev, -, hz, -⟩, hb1⟩
    obtain ⟨-, rfl⟩ := hz H0.out
    obtain ⟨c, hc⟩ : ∃ c, c = takeC s.data.toList := ⟨_, rfl⟩
    rw [← hc] at hev H0
    have hn : ((c : Int) != 0) = true := by have := H0.out; simpa using this
    have HB1 := Lib.hid hb1
    have HV1 := Lib.hid hev
    have HSZ : Hid (∀ W, Calls Tryd.prog 13 #[msgV zM, msgV zM] W fun e w' => e = .returned (.bool true) ∧ Below W.heap.size W w') := fun W => by
      have := HSA.out zM zM W (zM_rd W) (zM_rd W)
      rw [sameM_self] at this
      exact this
    unfold msgV zM at HSZ
    unfold msgV zM
    clear hrm hev hz hb1 hc HSA HPO HCK
    go_wp2_with fail
    refine (HCD.out ops1 c v1 _ (belAlloc HB1.out _) (HV1.out.below (bel1 w1 _))).mono ?_
    rintro e w2 ⟨rfl, hb2⟩
    have HB2 := Lib.hid (belStep (belAlloc HB1.out _) hb2)
    obtain ⟨p0, -, p1, -, p2, -, p3, -, p4, -, p5, -, p6, -, p7, -, p8, -, p9, -, p10, -, p11, -, p12, -, p13, -⟩ := cells14 (heap_box hb2)
    clear hb2
    go_wp2_with fail
    refine (HSZ.out _).mono ?_
    rintro e w3 ⟨rfl, hb3⟩
    have HB3 := Lib.hid (belStep HB2.out hb3)
    clear hb3 p0 p1 p2 p3 p4 p5 p6 p7 p8 p9 p10 p11 p12 p13
    go_wp2_with (go_at_call 8; refine (HAW.out _ HB3.out).mono ?_; rintro e w11 ⟨rfl, hb11⟩; have HB11 := Lib.hid (belStep HB3.out hb11); clear hb11)
    go_ret
    exact ⟨rfl, HB11.out⟩

set_option maxRecDepth 100000 in
theorem lifted (os : Os) (started : os.Started) (H : Type) (enc : TypeId × Value → H) :
    ReturnsInHanded {} Tryd.checked os 4 .any (fun w args => (Rows.msgOnlySpec.pre enc Tryd.prog Tryd.f4 [] false w args ∧ laidMetH Tryd.prog laidL w) ∧ sizedMet enc Tryd.prog Tryd.f4 (OpenSpec.ofChange Rows.msgOnlySpec) false w args)
      (Rows.msgOnlySpec.post enc Tryd.prog Tryd.f4 false true false false) := by
  refine returnsInHanded_of_change_and (C := Tryd.checked) (X := fun w _ => laidMetH Tryd.prog laidL w) (fun _ _ _ hh h => h.of_heap hh) own started (by kernel_rfl) Tryd.func4
    (ChangeSpec.witness_at (enc := enc) (C := Tryd.checked) (os := os) (X := fun w _ => laidMetH Tryd.prog laidL w) false (laidWorld os) #[.string ⟨#[]⟩, .string ⟨#[]⟩] 8 rfl (by kernel_rfl) (by kernel_rfl) (by kernel_rfl) (by kernel_rfl) (by kernel_rfl) (laidWorld_met os _)) ?_
  intro W base args ds gs before hval0 hW _ _ hL _
  have hval : ∀ (j : Nat) t v, Tryd.f4.params[j]? = some t → args[j]? = some v → Value.okWide Tryd.prog W .any base t v := hval0
  have hW' := hW
  obtain ⟨p, q, hA0, hV, rfl, _, _⟩ := hW
  have hA : DataW.TrodAll enc Tryd.prog W 0 (fun _ => true) true Tryd.f4.params.toList args.toList ds p := hA0
  rw [Tryd.params4] at hA hval
  have hg := glob_of_laid hL
  obtain ⟨v0, v1, d0, d1, p0, p1, rfl, rfl, rfl, h0, h1⟩ := trodAll_two hA
  obtain ⟨rfl, rfl⟩ := trodVars_none hV
  obtain ⟨s0, rfl, rfl, rfl, -⟩ := ChangeMaps.open_string Tryd.underlying9 (hval 0 9 v0 rfl rfl) h0
  obtain ⟨s1, rfl, rfl, rfl, -⟩ := ChangeMaps.open_string Tryd.underlying9 (hval 1 9 v1 rfl rfl) h1
  refine (walk s0 s1 W hg ).mono fun e W' ⟨he, hb⟩ => ?_
  subst he
  exact ⟨_, rfl, law_post (tb := 4) laidOut (by decide +kernel) rfl hW' rfl rfl rfl rfl Tryd.underlying4 hb⟩

theorem over : Rows.msgOnlyRow.holds Tryd.pinned (OpenSpec.ofChange Rows.msgOnlySpec) :=
  OpenClaim.holds_of_wide 4 Tryd.f4 rfl rfl rfl rfl rfl rfl rfl ⟨rfl, rfl, rfl, rfl, rfl⟩ rfl rfl rfl rfl rfl (by kernel_rfl) Tryd.func4 (by kernel_rfl)
    (of_decide_eq_true (by kernel_rfl)) (by unfold Func.isWrapper; first | (rw [if_pos (by decide +kernel)]; kernel_rfl) | (rw [if_neg (by decide +kernel)]; exact ⟨rfl, rfl⟩))
    (fun os started H enc _ => lifted os started H enc)
theorem noStand : ∀ (f : FuncId) (fn : Func), Tryd.prog.funcNamed "rubato/rubatolaw09.MsgOnly" = some f → Tryd.prog.funcs[f]? = some fn → true = Tryd.prog.looks [] ∧ ∀ (j : Nat) t, fn.params[j]? = some t → Tryd.prog.wantsStandIn t = false := fun f fn hf hfn => by
  obtain rfl : f = 4 := Option.some.inj ((show Tryd.prog.funcNamed "rubato/rubatolaw09.MsgOnly" = some 4 by kernel_rfl).symm.trans hf) |>.symm
  obtain rfl : fn = Tryd.f4 := (Option.some.inj (Tryd.func4.symm.trans hfn)).symm
  refine ⟨by kernel_rfl, fun j t ht => ?_⟩
  rw [Tryd.params4] at ht
  have hs : t = 9 := by
    rcases j with _ | j
    · simpa using ht.symm
    rcases j with _ | j
    · simpa using ht.symm
    simp at ht
  rcases hs with rfl
  · exact (show Tryd.prog.wantsStandIn 9 = false by kernel_rfl)
theorem proved : Rows.MsgOnlyCardSaid :=
  Claim7.holds_tied_plain_at .later [] [.handle] true Rows.msgOnlyCard.stood.harness true over (fun _ h => by cases h) (by kernel_rfl) (fun _ h => by cases h) msgOnly_row_tie rfl ⟨rfl, rfl⟩ (by kernel_rfl) (by kernel_rfl) noStand (by kernel_rfl)
#print axioms proved
end Go.Proofs.YtlpplnmmcgdooaaDoor.msgOnly
