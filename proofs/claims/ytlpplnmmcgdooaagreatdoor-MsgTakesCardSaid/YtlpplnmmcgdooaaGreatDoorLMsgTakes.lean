/- The law MsgTakes returns true for every input, and changes nothing that lay there; the variable errors.errorType holds what the program's text lays into it. No other condition. -/
import Derived.Test.YtlpplnmmcgdooaaGreatDoorFew
import Derived.Test.YtlpplnmmcgdooaaGreatDoorOpenM
import Derived.Test.YtlpplnmmcgdooaaGreatDoorLawG
import Derived.Test.YtlpplnmmcgdooaaGreatDoorDocY
namespace Go.Proofs.YtlpplnmmcgdooaaGreatDoor.msgTakes
open Go.ChangeShapes Go.WideShapes Go.ChangeAt Go.RowKit Go.Sort Nb

set_option maxRecDepth 100000 in
set_option maxHeartbeats 4000000 in
theorem walk (s : ByteArray) (w : World) (hg : Glob w) :
    Calls Tryz.prog 4 #[.string s] w fun e w' => e = .returned (.bool true) ∧ Below w.heap.size w w' := by
  have HAW := Lib.hid (fun (W : World) (h : Below w.heap.size w W) => awake09_any W (hg.below h))
  by_cases h1 : 3000 < s.size
  · have d1 : decide ((3000 : Int) < (s.size : Int)) = true := by simp; omega
    clear h1 hg
    go_enter Tryz.func4, Tryz.ntmps4
    go_wp2_with (go_at_call 9; refine (HAW.out _ (Below.refl _ _)).mono ?_; rintro e w9 ⟨rfl, hb9⟩; have HB9 := Lib.hid hb9; clear hb9)
    go_ret
    exact ⟨rfl, HB9.out⟩
  have d1 : decide ((3000 : Int) < (s.size : Int)) = false := by simp; omega
  have hs1 : s.size ≤ 1000000 := by omega
  have HCD := Lib.hid (fun (ops : List ByteArray) (c : Int) (v : Value) (W : World) (h : Below w.heap.size w W) (hv : ErrV W ops c v) => Code_any ops c v W (hg.below h) hv)
  have HAT := Lib.hid (fun (ops : List ByteArray) (c : Int) (v : Value) (W : World) (h : Below w.heap.size w W) (hv : Chain W ops c v) (hn : ops.length ≤ 1000) => At_any ops c v takeW W (hg.below h) hv hn)
  have HTK := Lib.hid (fun (W : World) (h : Below w.heap.size w W) => mTake_any s W (hg.below h) hs1)
  have HDK := Lib.hid (fun (W : World) => dTake_any s W hs1)
  clear h1 hg hs1
  go_enter Tryz.func4, Tryz.ntmps4
  go_wp2_with fail
  refine (HTK.out _ (Below.refl _ _)).mono ?_
  rintro e w1 ⟨⟨m, v1, ops1, rfl, hrm, hev, hol, hz, hy⟩, hb1⟩
  have HRM := Lib.hid hrm
  have HEV := Lib.hid hev
  have HOL := Lib.hid hol
  have HZ := Lib.hid hz
  have HY := Lib.hid hy
  have HB1 := Lib.hid hb1
  have HMV : Hid (∀ x, msgV x = .agg #[.int .i64 x.k, .int .i64 x.fr, .int .i64 x.id, .int .i64 x.t, .int .i64 x.bal, .int .i64 x.abal, .int .i64 x.ph, .int .i64 x.q, .string x.pay, .int .i64 x.lo, .int .i64 x.hi, .slice x.aA x.ats.size x.aC, .slice x.mA x.mks.size x.mC, .int .i64 x.dn]) := fun _ => rfl
  unfold msgV
  clear hrm hev hol hz hy hb1
  go_wp2_with fail
  refine (HDK.out _).mono ?_
  rintro e w2 ⟨⟨n, rfl, hrn, hzn, hyn⟩, hb2⟩
  have hsm : sameM m n = true := by
    by_cases h0 : takeC s.data.toList = 0
    · obtain ⟨a, b, c, d, rfl⟩ := HY.out h0
      obtain ⟨a', b', c', d', rfl⟩ := hyn h0
      exact pmOf_same _ _ _ _ _ _ _ _ _
    · obtain ⟨-, rfl⟩ := HZ.out h0
      rw [hzn h0]
      exact sameM_self _
  have HRN := Lib.hid hrn
  have HB2 := Lib.hid (belStep (belAlloc HB1.out _) hb2)
  have HX2 := Lib.hid hb2
  have HRM2 := Lib.hid (HRM.out.next (belStep (bel1 w1 _) hb2))
  have HEV2 := Lib.hid (HEV.out.below (belStep (bel1 w1 _) hb2))
  have HSA : Hid (∀ W, RdM W m → RdM W n → Calls Tryz.prog 16 #[msgV m, msgV n] W fun e w' => e = .returned (.bool true) ∧ Below W.heap.size W w') := fun W h1 h2 => by
    have := rSame_any m n W h1 h2
    rw [hsm] at this
    exact this
  generalize takeC s.data.toList = c at HEV2 HZ ⊢
  clear hrn hzn hyn hb2 hsm HY HEV HDK HTK
  obtain ⟨p0, -, p1, -, p2, -, p3, -, p4, -, p5, -, p6, -, p7, -, p8, -, p9, -, p10, -, p11, -, p12, -, p13, -⟩ := cells14 (heap_box HX2.out)
  have hzz : w1.heap.size < w2.heap.size := lt_of_heap (heap_box HX2.out)
  unfold msgV at HSA ⊢
  go_wp2_with fail
  refine (HSA.out _ (HRM2.out.next (bel1 w2 _)) (HRN.out.next (bel1 w2 _))).mono ?_
  rintro e w3 ⟨rfl, hb3⟩
  have HB3 := Lib.hid (belStep (belAlloc HB2.out _) hb3)
  have HEV3 := Lib.hid (HEV2.out.below (belStep (bel1 w2 _) hb3))
  clear hb3 p0 p1 p2 p3 p4 p5 p6 p7 p8 p9 p10 p11 p12 p13
  go_wp2_with fail
  refine (HCD.out ops1 c v1 _ HB3.out HEV3.out).mono ?_
  rintro e w4 ⟨rfl, hb4⟩
  have HB4 := Lib.hid (belStep HB3.out hb4)
  have HEV4 := Lib.hid (HEV3.out.below hb4)
  clear hb4
  by_cases h0 : c = 0
  · have hc0 : ((c : Int) == 0) = true := by simp [h0]
    clear h0
    go_wp2_with (go_at_call 9; refine (HAW.out _ HB4.out).mono ?_; rintro e w9 ⟨rfl, hb9⟩; have HB9 := Lib.hid (belStep HB4.out hb9); clear hb9)
    go_ret
    exact ⟨rfl, HB9.out⟩
  · have hc0 : ((c : Int) == 0) = false := by simp [h0]
    have HCH := Lib.hid (errChain HEV4.out (by omega))
    have HTO := Lib.hid (HZ.out h0).1
    clear h0
    go_wp2_with fail
    refine (HAT.out ops1 c v1 _ HB4.out HCH.out (by have := HOL.out; omega)).mono ?_
    rintro e w5 ⟨rfl, hb5⟩
    rw [hasS_yes HTO.out]
    have HB5 := Lib.hid (belStep HB4.out hb5)
    clear hb5
    go_wp2_with (go_at_call 9; refine (HAW.out _ HB5.out).mono ?_; rintro e w9 ⟨rfl, hb9⟩; have HB9 := Lib.hid (belStep HB5.out hb9); clear hb9)
    go_ret
    exact ⟨rfl, HB9.out⟩

set_option maxRecDepth 100000 in
theorem lifted (os : Os) (started : os.Started) (H : Type) (enc : TypeId × Value → H) :
    ReturnsInHanded {} Tryz.checked os 4 .any (fun w args => (Rows.msgTakesSpec.pre enc Tryz.prog Tryz.f4 [] false w args ∧ laidMetH Tryz.prog laidL w) ∧ sizedMet enc Tryz.prog Tryz.f4 (OpenSpec.ofChange Rows.msgTakesSpec) false w args)
      (Rows.msgTakesSpec.post enc Tryz.prog Tryz.f4 false true false false) := by
  refine returnsInHanded_of_change_and (C := Tryz.checked) (X := fun w _ => laidMetH Tryz.prog laidL w) (fun _ _ _ hh h => h.of_heap hh) own started (by kernel_rfl) Tryz.func4
    (ChangeSpec.witness_at (enc := enc) (C := Tryz.checked) (os := os) (X := fun w _ => laidMetH Tryz.prog laidL w) false (laidWorld os) #[.string ⟨#[]⟩] 8 rfl (by kernel_rfl) (by kernel_rfl) (by kernel_rfl) (by kernel_rfl) (by kernel_rfl) (laidWorld_met os _)) ?_
  intro W base args ds gs before hval0 hW _ _ hL _
  have hval : ∀ (j : Nat) t v, Tryz.f4.params[j]? = some t → args[j]? = some v → Value.okWide Tryz.prog W .any base t v := hval0
  have hW' := hW
  obtain ⟨p, q, hA0, hV, rfl, _, _⟩ := hW
  have hA : DataW.TrodAll enc Tryz.prog W 0 (fun _ => true) true Tryz.f4.params.toList args.toList ds p := hA0
  rw [Tryz.params4] at hA hval
  have hg := glob_of_laid hL
  obtain ⟨v0, d0, rfl, rfl, h0⟩ := trodAll_one hA
  obtain ⟨rfl, rfl⟩ := trodVars_none hV
  obtain ⟨s0, rfl, rfl, rfl, -⟩ := ChangeMaps.open_string Tryz.underlying9 (hval 0 9 v0 rfl rfl) h0
  refine (walk s0 W hg ).mono fun e W' ⟨he, hb⟩ => ?_
  subst he
  exact ⟨_, rfl, law_post (tb := 4) laidOut (by decide +kernel) rfl hW' rfl rfl rfl rfl Tryz.underlying4 hb⟩

theorem over : Rows.msgTakesRow.holds Tryz.pinned (OpenSpec.ofChange Rows.msgTakesSpec) :=
  OpenClaim.holds_of_wide 4 Tryz.f4 rfl rfl rfl rfl rfl rfl rfl ⟨rfl, rfl, rfl, rfl, rfl⟩ rfl rfl rfl rfl rfl (by kernel_rfl) Tryz.func4 (by kernel_rfl)
    (of_decide_eq_true (by kernel_rfl)) (by unfold Func.isWrapper; first | (rw [if_pos (by decide +kernel)]; kernel_rfl) | (rw [if_neg (by decide +kernel)]; exact ⟨rfl, rfl⟩))
    (fun os started H enc _ => lifted os started H enc)
theorem noStand : ∀ (f : FuncId) (fn : Func), Tryz.prog.funcNamed "rubato/rubatolaw09.MsgTakes" = some f → Tryz.prog.funcs[f]? = some fn → true = Tryz.prog.looks [] ∧ ∀ (j : Nat) t, fn.params[j]? = some t → Tryz.prog.wantsStandIn t = false := fun f fn hf hfn => by
  obtain rfl : f = 4 := Option.some.inj ((show Tryz.prog.funcNamed "rubato/rubatolaw09.MsgTakes" = some 4 by kernel_rfl).symm.trans hf) |>.symm
  obtain rfl : fn = Tryz.f4 := (Option.some.inj (Tryz.func4.symm.trans hfn)).symm
  refine ⟨by kernel_rfl, fun j t ht => ?_⟩
  rw [Tryz.params4] at ht
  have hs : t = 9 := by
    rcases j with _ | j
    · simpa using ht.symm
    simp at ht
  rcases hs with rfl
  · exact (show Tryz.prog.wantsStandIn 9 = false by kernel_rfl)
theorem proved : Rows.MsgTakesCardSaid :=
  Claim7.holds_tied_plain_at .later [] [.handle] true Rows.msgTakesCard.stood.harness true over (fun _ h => by cases h) (by kernel_rfl) (fun _ h => by cases h) msgTakes_row_tie rfl ⟨rfl, rfl⟩ (by kernel_rfl) (by kernel_rfl) noStand (by kernel_rfl)
#print axioms proved
end Go.Proofs.YtlpplnmmcgdooaaGreatDoor.msgTakes
