/- The law RecordOnly returns true for every input, and changes nothing that lay there; the variable errors.errorType holds what the program's text lays into it. No other condition. -/
import Derived.Test.YtlpplnmmcgdooaaDoorFewR
import Derived.Test.YtlpplnmmcgdooaaDoorOpenE
import Derived.Test.YtlpplnmmcgdooaaDoorLawG
namespace Go.Proofs.YtlpplnmmcgdooaaDoor.recordOnly
open Go.ChangeShapes Go.WideShapes Go.ChangeAt Go.RowKit Go.Sort Nb

set_option maxRecDepth 100000 in
set_option maxHeartbeats 4000000 in
theorem walk (s t : ByteArray) (w : World) (hg : Glob w) :
    Calls Tryd.prog 6 #[.string s, .string t] w fun e w' => e = .returned (.bool true) ∧ Below w.heap.size w w' := by
  have HAW := Lib.hid (fun (W : World) (h : Below w.heap.size w W) => awake11_any W (hg.below h))
  by_cases h1 : 20000 < s.size
  · have d1 : decide ((20000 : Int) < (s.size : Int)) = true := by simp; omega
    clear h1 hg
    go_enter Tryd.func6, Tryd.ntmps6
    go_wp2_with (go_at_call 15; refine (HAW.out _ (Below.refl _ _)).mono ?_; rintro e w9 ⟨rfl, hb9⟩; have HB9 := Lib.hid hb9; clear hb9)
    go_ret
    exact ⟨rfl, HB9.out⟩
  have d1 : decide ((20000 : Int) < (s.size : Int)) = false := by simp; omega
  by_cases h2 : 300 < t.size
  · have d2 : decide ((300 : Int) < (t.size : Int)) = true := by simp; omega
    clear h1 h2 hg
    go_enter Tryd.func6, Tryd.ntmps6
    go_wp2_with (go_at_call 15; refine (HAW.out _ (Below.refl _ _)).mono ?_; rintro e w9 ⟨rfl, hb9⟩; have HB9 := Lib.hid hb9; clear hb9)
    go_ret
    exact ⟨rfl, HB9.out⟩
  have d2 : decide ((300 : Int) < (t.size : Int)) = false := by simp; omega
  have hs1 : s.size ≤ 20000 := by omega
  have ht1 : t.size ≤ 300 := by omega
  have hrg := recGuard
  have HCD := Lib.hid (fun (ops : List ByteArray) (c : Int) (v : Value) (W : World) (h : Below w.heap.size w W) (hv : ErrV W ops c v) => Code_any ops c v W (hg.below h) hv)
  have HTK := Lib.hid (fun (z : ByteArray) (hz : z.size ≤ 1000000) (W : World) (h : Below w.heap.size w W) => rcTake_any z W (hg.below h) hz)
  by_cases h0 : rtC s.data.toList = 0
  · obtain ⟨-, hc, hb⟩ := rtC_ok h0
    have h10 : 4 ≤ s.size := by have := recB_len (recO s.data.toList); rw [hb] at this; simpa using this
    have d10 : decide ((s.size : Int) < 4) = false := by simp; omega
    have H0 := Lib.hid h0
    obtain ⟨m, hm⟩ : ∃ m, m = recO s.data.toList := ⟨_, rfl⟩
    rw [← hm] at hc hb
    have hmd : m.dt.size ≤ 1000000 := by
      cases hs : m.sn
      · have := ((recC_ok hc).2.2.2.2.2 hs).2.2.1; omega
      · have := ((recC_ok hc).2.2.2.2.1 hs).2.1; rw [this]; decide
    have HPO := Lib.hid (fun (W : World) (h : Below w.heap.size w W) => rcPutOk_any m W (hg.below h) hmd hc)
    have HCK := Lib.hid (fun (W : World) (h : Below w.heap.size w W) => rcChk_any m W (hg.below h) hmd)
    rw [hc] at HCK
    have hbs : (⟨(recB m).toArray⟩ : ByteArray) = s := by rw [hb]
    rw [hbs] at HPO
    have HM := Lib.hid hm
    have HCUT : Hid (rtC (s.extract 0 (s.size - 1)).data.toList ≠ 0) := by
      have hx : (s.extract 0 (s.size - 1)).data.toList = s.data.toList.take (s.data.toList.length - 1) := by
        rw [extract_list]
        simp
      show rtC _ ≠ 0
      rw [hx]
      exact rtC_cut h0 (by simp; omega)
    have HMORE : Hid (t.toList.isEmpty = false → rtC (s ++ t).data.toList ≠ 0) := by
      intro ht
      rw [Lib.toList_data] at ht
      have hx : (s ++ t).data.toList = s.data.toList ++ t.data.toList := by simp
      rw [hx]
      exact rtC_more h0 (by intro e; rw [e] at ht; simp at ht)
    have HSAM : Hid (t.toList.isEmpty = true → rtC (s ++ t).data.toList = 0) := by
      intro ht
      rw [Lib.toList_data] at ht
      have hx : (s ++ t).data.toList = s.data.toList ++ t.data.toList := by simp
      have e0 : t.data.toList = [] := by simpa using ht
      rw [hx, e0, List.append_nil]
      exact h0
    have k1 : (1 : Int) ≤ (s.size : Int) := by omega
    clear h0 hc hb h1 h2 hg hm hmd hbs
    unfold recV at HPO HCK
    go_enter Tryd.func6, Tryd.ntmps6
    go_wp2_with fail
    refine (HTK.out s (by omega) _ (Below.refl _ _)).mono ?_
    rintro e w1 ⟨⟨m', v1, ops1, rfl, hev, -, -, hm'⟩, hb1⟩
    rw [H0.out] at hev
    have hv1 := errNil hev
    subst hv1
    have hmm := hm' H0.out
    rw [← HM.out] at hmm
    subst hmm
    have HB1 := Lib.hid hb1
    clear hev hm' hb1
    unfold recV
    go_wp2_with fail
    refine (HCD.out [] 0 _ _ (belAlloc HB1.out _) (Or.inl ⟨rfl, rfl, rfl⟩)).mono ?_
    rintro e w2 ⟨rfl, hb2⟩
    have HB2 := Lib.hid (belStep (belAlloc HB1.out _) hb2)
    have HBX := Lib.hid hb2
    obtain ⟨⟨c0, c1, c2, c3, c4, c5⟩, -⟩ := cells6 (heap_box hb2)
    have z2 : w1.heap.size < w2.heap.size := lt_of_heap (heap_box hb2)
    clear hb2
    go_wp2_with fail
    refine (HPO.out _ HB2.out).mono ?_
    rintro e w3 ⟨rfl, hb3⟩
    have HB3 := Lib.hid (belStep HB2.out hb3)
    have HBX3 := Lib.hid (belStep HBX.out hb3)
    clear hb3 c0 c1 c2 c3 c4 c5 z2
    go_wp2_with fail
    refine (HCD.out [] 0 _ _ HB3.out (Or.inl ⟨rfl, rfl, rfl⟩)).mono ?_
    rintro e w4 ⟨rfl, hb4⟩
    have HB4 := Lib.hid (belStep HB3.out hb4)
    obtain ⟨⟨c0, c1, c2, c3, c4, c5⟩, -⟩ := cells6 (heap_box (belStep HBX3.out hb4))
    have z4 : w1.heap.size < w4.heap.size := lt_of_heap (heap_box (belStep HBX3.out hb4))
    clear hb4
    go_wp2_with fail
    refine (HCK.out _ HB4.out).mono ?_
    rintro e w5 ⟨⟨v5, rfl, hv5⟩, hb5⟩
    have HV5 := Lib.hid hv5
    have HB5 := Lib.hid (belStep HB4.out hb5)
    clear hv5 hb5 c0 c1 c2 c3 c4 c5 z4
    go_wp2_with fail
    refine (HCD.out _ 0 _ _ HB5.out HV5.out).mono ?_
    rintro e w6 ⟨rfl, hb6⟩
    have HB6 := Lib.hid (belStep HB5.out hb6)
    clear hb6
    go_wp2_with fail
    refine (HTK.out (s.extract 0 (s.size - 1)) (by rw [ByteArray.size_extract]; omega) _ HB6.out).mono ?_
    rintro e w7 ⟨⟨m7, v7, ops7, rfl, hev7, -, -, -⟩, hb7⟩
    obtain ⟨c7, hc7⟩ : ∃ c, c = rtC (s.extract 0 (s.size - 1)).data.toList := ⟨_, rfl⟩
    rw [← hc7] at hev7
    have hn7 : ((c7 : Int) != 0) = true := by have := HCUT.out; rw [← hc7] at this; simpa using this
    have HV7 := Lib.hid hev7
    have HB7 := Lib.hid (belStep HB6.out hb7)
    clear hev7 hb7 hc7
    unfold recV
    go_wp2_with fail
    refine (HTK.out (s ++ t) (by rw [ByteArray.size_append]; omega) _ (belAlloc HB7.out _)).mono ?_
    rintro e w8 ⟨⟨m8, v8, ops8, rfl, hev8, -, -, -⟩, hb8⟩
    obtain ⟨c8, hc8⟩ : ∃ c, c = rtC (s ++ t).data.toList := ⟨_, rfl⟩
    rw [← hc8] at hev8
    have hn8 : ((c8 : Int) == 0) = t.toList.isEmpty := by
      cases he : t.toList.isEmpty
      · have := HMORE.out he; rw [← hc8] at this; simpa using this
      · have := HSAM.out he; rw [← hc8] at this; simp [this]
    have HV8 := Lib.hid hev8
    have HV78 := Lib.hid (HV7.out.below (belStep (bel1 w7 _) hb8))
    have HB8 := Lib.hid (belStep (belAlloc HB7.out _) hb8)
    clear hev8 hb8 hc8
    unfold recV
    go_wp2_with fail
    refine (HCD.out ops7 c7 v7 _ (belAlloc HB8.out _) (HV78.out.below (bel1 w8 _))).mono ?_
    rintro e w9 ⟨rfl, hb9⟩
    have HB9 := Lib.hid (belStep (belAlloc HB8.out _) hb9)
    have HV9 := Lib.hid (HV8.out.below (belStep (bel1 w8 _) hb9))
    clear hb9
    go_wp2_with fail
    refine (HCD.out ops8 c8 v8 _ HB9.out HV9.out).mono ?_
    rintro e w10 ⟨rfl, hb10⟩
    have HB10 := Lib.hid (belStep HB9.out hb10)
    clear hb10
    generalize htt : t.toList.isEmpty = te at hn8
    cases te
    all_goals
      go_wp2_with (go_at_call 15; refine (HAW.out _ HB10.out).mono ?_; rintro e w11 ⟨rfl, hb11⟩; have HB11 := Lib.hid (belStep HB10.out hb11); clear hb11)
      go_ret
      exact ⟨rfl, HB11.out⟩
  · have H0 := Lib.hid h0
    have heq : ∀ W, (binOp .eql 42 (.agg #[.int .i64 0, .int .i64 0, .bool false, .int .i64 0, .string ⟨#[]⟩, .string ⟨#[]⟩]) (.agg #[.int .i64 0, .int .i64 0, .bool false, .int .i64 0, .string ⟨#[]⟩, .string ⟨#[]⟩])).run Tryd.prog W = .ok (.bool true) W := fun W => by
      have := eqRec_run zR zR W
      rw [eqR_self] at this
      exact this
    clear h0 h1 h2 hg
    go_enter Tryd.func6, Tryd.ntmps6
    go_wp2_with fail
    refine (HTK.out s (by omega) _ (Below.refl _ _)).mono ?_
    rintro e w1 ⟨⟨m, v1, ops1, rfl, hev, -, hz, -⟩, hb1⟩
    obtain ⟨-, rfl⟩ := hz H0.out
    obtain ⟨c, hc⟩ : ∃ c, c = rtC s.data.toList := ⟨_, rfl⟩
    rw [← hc] at hev H0
    have hn : ((c : Int) != 0) = true := by have := H0.out; simpa using this
    have HB1 := Lib.hid hb1
    have HV1 := Lib.hid hev
    unfold recV zR
    dsimp only
    clear hev hz hb1 hc
    go_wp2_with fail
    refine (HCD.out ops1 c v1 _ (belAlloc HB1.out _) (HV1.out.below (bel1 w1 _))).mono ?_
    rintro e w2 ⟨rfl, hb2⟩
    have HB2 := Lib.hid (belStep (belAlloc HB1.out _) hb2)
    obtain ⟨⟨c0, c1, c2, c3, c4, c5⟩, -⟩ := cells6 (heap_box hb2)
    have z2 : w1.heap.size < w2.heap.size := lt_of_heap (heap_box hb2)
    clear hb2
    go_wp2_with (go_at_call 15; refine (HAW.out _ HB2.out).mono ?_; rintro e w11 ⟨rfl, hb11⟩; have HB11 := Lib.hid (belStep HB2.out hb11); clear hb11)
    go_ret
    exact ⟨rfl, HB11.out⟩

set_option maxRecDepth 100000 in
theorem lifted (os : Os) (started : os.Started) (H : Type) (enc : TypeId × Value → H) :
    ReturnsInHanded {} Tryd.checked os 6 .any (fun w args => (Rows.recordOnlySpec.pre enc Tryd.prog Tryd.f6 [] false w args ∧ laidMetH Tryd.prog laidL w) ∧ sizedMet enc Tryd.prog Tryd.f6 (OpenSpec.ofChange Rows.recordOnlySpec) false w args)
      (Rows.recordOnlySpec.post enc Tryd.prog Tryd.f6 false true false false) := by
  refine returnsInHanded_of_change_and (C := Tryd.checked) (X := fun w _ => laidMetH Tryd.prog laidL w) (fun _ _ _ hh h => h.of_heap hh) own started (by kernel_rfl) Tryd.func6
    (ChangeSpec.witness_at (enc := enc) (C := Tryd.checked) (os := os) (X := fun w _ => laidMetH Tryd.prog laidL w) false (laidWorld os) #[.string ⟨#[]⟩, .string ⟨#[]⟩] 8 rfl (by kernel_rfl) (by kernel_rfl) (by kernel_rfl) (by kernel_rfl) (by kernel_rfl) (laidWorld_met os _)) ?_
  intro W base args ds gs before hval0 hW _ _ hL _
  have hval : ∀ (j : Nat) t v, Tryd.f6.params[j]? = some t → args[j]? = some v → Value.okWide Tryd.prog W .any base t v := hval0
  have hW' := hW
  obtain ⟨p, q, hA0, hV, rfl, _, _⟩ := hW
  have hA : DataW.TrodAll enc Tryd.prog W 0 (fun _ => true) true Tryd.f6.params.toList args.toList ds p := hA0
  rw [Tryd.params6] at hA hval
  have hg := glob_of_laid hL
  obtain ⟨v0, v1, d0, d1, p0, p1, rfl, rfl, rfl, h0, h1⟩ := trodAll_two hA
  obtain ⟨rfl, rfl⟩ := trodVars_none hV
  obtain ⟨s0, rfl, rfl, rfl, -⟩ := ChangeMaps.open_string Tryd.underlying9 (hval 0 9 v0 rfl rfl) h0
  obtain ⟨s1, rfl, rfl, rfl, -⟩ := ChangeMaps.open_string Tryd.underlying9 (hval 1 9 v1 rfl rfl) h1
  refine (walk s0 s1 W hg ).mono fun e W' ⟨he, hb⟩ => ?_
  subst he
  exact ⟨_, rfl, law_post (tb := 4) laidOut (by decide +kernel) rfl hW' rfl rfl rfl rfl Tryd.underlying4 hb⟩

theorem over : Rows.recordOnlyRow.holds Tryd.pinned (OpenSpec.ofChange Rows.recordOnlySpec) :=
  OpenClaim.holds_of_wide 6 Tryd.f6 rfl rfl rfl rfl rfl rfl rfl ⟨rfl, rfl, rfl, rfl, rfl⟩ rfl rfl rfl rfl rfl (by kernel_rfl) Tryd.func6 (by kernel_rfl)
    (of_decide_eq_true (by kernel_rfl)) (by unfold Func.isWrapper; first | (rw [if_pos (by decide +kernel)]; kernel_rfl) | (rw [if_neg (by decide +kernel)]; exact ⟨rfl, rfl⟩))
    (fun os started H enc _ => lifted os started H enc)
theorem noStand : ∀ (f : FuncId) (fn : Func), Tryd.prog.funcNamed "rubato/rubatolaw11.RecordOnly" = some f → Tryd.prog.funcs[f]? = some fn → true = Tryd.prog.looks [] ∧ ∀ (j : Nat) t, fn.params[j]? = some t → Tryd.prog.wantsStandIn t = false := fun f fn hf hfn => by
  obtain rfl : f = 6 := Option.some.inj ((show Tryd.prog.funcNamed "rubato/rubatolaw11.RecordOnly" = some 6 by kernel_rfl).symm.trans hf) |>.symm
  obtain rfl : fn = Tryd.f6 := (Option.some.inj (Tryd.func6.symm.trans hfn)).symm
  refine ⟨by kernel_rfl, fun j t ht => ?_⟩
  rw [Tryd.params6] at ht
  have hs : t = 9 := by
    rcases j with _ | j
    · simpa using ht.symm
    rcases j with _ | j
    · simpa using ht.symm
    simp at ht
  rcases hs with rfl
  · exact (show Tryd.prog.wantsStandIn 9 = false by kernel_rfl)
theorem proved : Rows.RecordOnlyCardSaid :=
  Claim7.holds_tied_plain_at .later [] [.handle] true Rows.recordOnlyCard.stood.harness true over (fun _ h => by cases h) (by kernel_rfl) (fun _ h => by cases h) recordOnly_row_tie rfl ⟨rfl, rfl⟩ (by kernel_rfl) (by kernel_rfl) noStand (by kernel_rfl)
#print axioms proved
end Go.Proofs.YtlpplnmmcgdooaaDoor.recordOnly
