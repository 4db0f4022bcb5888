/- The law RecordBack returns true for every input, and changes nothing that lay there; the variable errors.errorType holds what the program's text lays into it. No other condition. -/
import Derived.Test.YtlpplnmmcgdooaaDoorFewR
import Derived.Test.YtlpplnmmcgdooaaDoorOpenE
import Derived.Test.YtlpplnmmcgdooaaDoorLawG
namespace Go.Proofs.YtlpplnmmcgdooaaDoor.recordBack
open Go.ChangeShapes Go.WideShapes Go.ChangeAt Go.RowKit Go.Sort Nb

set_option maxRecDepth 100000 in
set_option maxHeartbeats 4000000 in
theorem walk (m : PR) (w : World) (hg : Glob w) :
    Calls Tryd.prog 5 #[recV m] w fun e w' => e = .returned (.bool true) ∧ Below w.heap.size w w' := by
  have HFW := Lib.hid (fun W => FewR_any m W)
  have HAW := Lib.hid (fun (W : World) (h : Below w.heap.size w W) => awake11_any W (hg.below h))
  have hrg := recGuard
  have heq : ∀ W, (binOp .eql 42 (recV m) (recV m)).run Tryd.prog W = .ok (.bool true) W := fun W => by
    have := eqRec_run m m W
    rw [eqR_self] at this
    exact this
  by_cases hf : fewR m = true
  · have hd := fewR_dt hf
    have HCD := Lib.hid (fun (ops : List ByteArray) (c : Int) (v : Value) (W : World) (h : Below w.heap.size w W) (hv : ErrV W ops c v) => Code_any ops c v W (hg.below h) hv)
    have HCK := Lib.hid (fun (W : World) (h : Below w.heap.size w W) => rcChk_any m W (hg.below h) (by omega))
    rw [hf] at HFW
    by_cases h0 : recC m = 0
    · have HPO := Lib.hid (fun (W : World) (h : Below w.heap.size w W) => rcPutOk_any m W (hg.below h) (by omega) h0)
      have hbl := recB_le h0
      obtain ⟨htk, hro⟩ := rtC_laid m h0
      obtain ⟨z, hz⟩ : ∃ z : ByteArray, z = ⟨(recB m).toArray⟩ := ⟨_, rfl⟩
      have hzl : z.data.toList = recB m := by rw [hz]
      have hzs : z.size ≤ 1000000 := by rw [hz]; simp [ByteArray.size]; omega
      rw [← hz] at HPO
      rw [← hzl] at htk hro
      have HTK := Lib.hid (fun (W : World) (h : Below w.heap.size w W) => rcTake_any z W (hg.below h) hzs)
      have HT0 := Lib.hid htk
      have HRO := Lib.hid hro
      clear hz hzl hzs htk hro hbl hf h0 hg hd HCK
      have HMV : Hid (∀ x, recV x = .agg #[.int .i64 x.ep, .int .i64 x.sq, .bool x.sn, .int .i64 x.k, .string x.dt, .string x.st]) := fun _ => rfl
      unfold recV at HFW HPO heq ⊢
      go_enter Tryd.func5, Tryd.ntmps5
      go_wp2_with fail
      refine (HFW.out _).mono ?_
      rintro e w1 ⟨rfl, hb1⟩
      have HB1 := Lib.hid hb1
      obtain ⟨⟨c0, c1, c2, c3, c4, c5⟩, -⟩ := cells6 (heap_box hb1)
      have z1 : w.heap.size < w1.heap.size := lt_of_heap (heap_box hb1)
      clear hb1
      go_wp2_with fail
      refine (HPO.out _ (belStep (bel1 w _) HB1.out)).mono ?_
      rintro e w2 ⟨rfl, hb2⟩
      have HB2 := Lib.hid (belStep HB1.out hb2)
      clear hb2 c0 c1 c2 c3 c4 c5 z1
      go_wp2_with fail
      refine (HCD.out [] 0 _ _ (belStep (bel1 w _) HB2.out) (Or.inl ⟨rfl, rfl, rfl⟩)).mono ?_
      rintro e w3 ⟨rfl, hb3⟩
      have HB3 := Lib.hid (belStep HB2.out hb3)
      clear hb3
      go_wp2_with fail
      refine (HTK.out _ (belStep (bel1 w _) HB3.out)).mono ?_
      rintro e w4 ⟨⟨n, v4, ops4, rfl, hev, -, -, hn⟩, hb4⟩
      rw [HT0.out] at hev
      have hv4 := errNil hev
      subst hv4
      have hnn := hn HT0.out
      rw [HRO.out] at hnn
      subst hnn
      have HB4 := Lib.hid (belStep HB3.out hb4)
      obtain ⟨⟨c0, c1, c2, c3, c4, c5⟩, -⟩ := cells6 (heap_box HB4.out)
      have z4 : w.heap.size < w4.heap.size := lt_of_heap (heap_box HB4.out)
      clear hev hn hb4
      unfold recV
      go_wp2_with fail
      refine (HCD.out [] 0 _ _ (belStep (bel1 w _) (belAlloc HB4.out _)) (Or.inl ⟨rfl, rfl, rfl⟩)).mono ?_
      rintro e w5 ⟨rfl, hb5⟩
      have HB5 := Lib.hid (belStep (belAlloc HB4.out _) hb5)
      clear hb5 c0 c1 c2 c3 c4 c5 z4
      go_wp2_with (go_at_call 15; refine (HAW.out _ (belStep (bel1 w _) HB5.out)).mono ?_; rintro e w9 ⟨rfl, hb9⟩; have HB9 := Lib.hid (belStep HB5.out hb9); clear hb9)
      go_ret
      exact ⟨rfl, belStep (bel1 w _) HB9.out⟩
    · have HPO := Lib.hid (fun (W : World) (h : Below w.heap.size w W) => rcPutBad_any m W (hg.below h) (by omega) h0)
      have h2 := (recC_2 m).resolve_left h0
      rw [h2] at HCK
      clear hf h0 hg hd h2 heq
      unfold recV at HFW HPO HCK ⊢
      go_enter Tryd.func5, Tryd.ntmps5
      go_wp2_with fail
      refine (HFW.out _).mono ?_
      rintro e w1 ⟨rfl, hb1⟩
      have HB1 := Lib.hid hb1
      obtain ⟨⟨c0, c1, c2, c3, c4, c5⟩, -⟩ := cells6 (heap_box hb1)
      have z1 : w.heap.size < w1.heap.size := lt_of_heap (heap_box hb1)
      clear hb1
      go_wp2_with fail
      refine (HPO.out _ (belStep (bel1 w _) HB1.out)).mono ?_
      rintro e w2 ⟨⟨v2, rfl, hv2⟩, hb2⟩
      have HB2 := Lib.hid (belStep HB1.out hb2)
      have HV2 := Lib.hid hv2
      clear hb2 hv2 c0 c1 c2 c3 c4 c5 z1
      go_wp2_with fail
      refine (HCD.out [recordW] 2 v2 _ (belStep (bel1 w _) HB2.out) HV2.out).mono ?_
      rintro e w3 ⟨rfl, hb3⟩
      have HB3 := Lib.hid (belStep HB2.out hb3)
      obtain ⟨⟨c0, c1, c2, c3, c4, c5⟩, -⟩ := cells6 (heap_box HB3.out)
      have z3 : w.heap.size < w3.heap.size := lt_of_heap (heap_box HB3.out)
      clear hb3
      go_wp2_with fail
      refine (HCK.out _ (belStep (bel1 w _) HB3.out)).mono ?_
      rintro e w4 ⟨⟨v4, rfl, hv4⟩, hb4⟩
      have HB4 := Lib.hid (belStep HB3.out hb4)
      have HV4 := Lib.hid hv4
      clear hv4 hb4 c0 c1 c2 c3 c4 c5 z3
      go_wp2_with fail
      refine (HCD.out _ 2 v4 _ (belStep (bel1 w _) HB4.out) HV4.out).mono ?_
      rintro e w5 ⟨rfl, hb5⟩
      have HB5 := Lib.hid (belStep HB4.out hb5)
      clear hb5
      go_wp2_with (go_at_call 15; refine (HAW.out _ (belStep (bel1 w _) HB5.out)).mono ?_; rintro e w9 ⟨rfl, hb9⟩; have HB9 := Lib.hid (belStep HB5.out hb9); clear hb9)
      go_ret
      exact ⟨rfl, belStep (bel1 w _) HB9.out⟩
  · have hff : fewR m = false := by simpa using hf
    rw [hff] at HFW
    clear hf hff hg heq
    unfold recV at HFW ⊢
    go_enter Tryd.func5, Tryd.ntmps5
    go_wp2_with fail
    refine (HFW.out _).mono ?_
    rintro e w1 ⟨rfl, hb1⟩
    have HB1 := Lib.hid (belStep (bel1 w _) hb1)
    clear hb1
    go_wp2_with (go_at_call 15; refine (HAW.out _ HB1.out).mono ?_; rintro e w9 ⟨rfl, hb9⟩; have HB9 := Lib.hid (belStep HB1.out hb9); clear hb9)
    go_ret
    exact ⟨rfl, HB9.out⟩

set_option maxRecDepth 100000 in
theorem lifted (os : Os) (started : os.Started) (H : Type) (enc : TypeId × Value → H) :
    ReturnsInHanded {} Tryd.checked os 5 .any (fun w args => (Rows.recordBackSpec.pre enc Tryd.prog Tryd.f5 [] false w args ∧ laidMetH Tryd.prog laidL w) ∧ sizedMet enc Tryd.prog Tryd.f5 (OpenSpec.ofChange Rows.recordBackSpec) false w args)
      (Rows.recordBackSpec.post enc Tryd.prog Tryd.f5 false true false false) := by
  refine returnsInHanded_of_change_and (C := Tryd.checked) (X := fun w _ => laidMetH Tryd.prog laidL w) (fun _ _ _ hh h => h.of_heap hh) own started (by kernel_rfl) Tryd.func5
    (ChangeSpec.witness_at (enc := enc) (C := Tryd.checked) (os := os) (X := fun w _ => laidMetH Tryd.prog laidL w) false (laidWorld os) #[.agg #[.int .i64 0, .int .i64 0, .bool false, .int .i64 0, .string ⟨#[]⟩, .string ⟨#[]⟩]] 8 rfl (by kernel_rfl) (by kernel_rfl) (by kernel_rfl) (by kernel_rfl) (by kernel_rfl) (laidWorld_met os _)) ?_
  intro W base args ds gs before hval0 hW _ _ hL _
  have hval : ∀ (j : Nat) t v, Tryd.f5.params[j]? = some t → args[j]? = some v → Value.okWide Tryd.prog W .any base t v := hval0
  have hW' := hW
  obtain ⟨p, q, hA0, hV, rfl, _, _⟩ := hW
  have hA : DataW.TrodAll enc Tryd.prog W 0 (fun _ => true) true Tryd.f5.params.toList args.toList ds p := hA0
  rw [Tryd.params5] at hA hval
  have hg := glob_of_laid hL
  obtain ⟨v0, d0, rfl, rfl, h0⟩ := trodAll_one hA
  obtain ⟨rfl, rfl⟩ := trodVars_none hV
  obtain ⟨m0, rfl⟩ := open_rec (hval 0 42 v0 rfl rfl) h0
  refine (walk m0 W hg ).mono fun e W' ⟨he, hb⟩ => ?_
  subst he
  exact ⟨_, rfl, law_post (tb := 4) laidOut (by decide +kernel) rfl hW' rfl rfl rfl rfl Tryd.underlying4 hb⟩

theorem over : Rows.recordBackRow.holds Tryd.pinned (OpenSpec.ofChange Rows.recordBackSpec) :=
  OpenClaim.holds_of_wide 5 Tryd.f5 rfl rfl rfl rfl rfl rfl rfl ⟨rfl, rfl, rfl, rfl, rfl⟩ rfl rfl rfl rfl rfl (by kernel_rfl) Tryd.func5 (by kernel_rfl)
    (of_decide_eq_true (by kernel_rfl)) (by unfold Func.isWrapper; first | (rw [if_pos (by decide +kernel)]; kernel_rfl) | (rw [if_neg (by decide +kernel)]; exact ⟨rfl, rfl⟩))
    (fun os started H enc _ => lifted os started H enc)
theorem noStand : ∀ (f : FuncId) (fn : Func), Tryd.prog.funcNamed "rubato/rubatolaw11.RecordBack" = some f → Tryd.prog.funcs[f]? = some fn → true = Tryd.prog.looks [] ∧ ∀ (j : Nat) t, fn.params[j]? = some t → Tryd.prog.wantsStandIn t = false := fun f fn hf hfn => by
  obtain rfl : f = 5 := Option.some.inj ((show Tryd.prog.funcNamed "rubato/rubatolaw11.RecordBack" = some 5 by kernel_rfl).symm.trans hf) |>.symm
  obtain rfl : fn = Tryd.f5 := (Option.some.inj (Tryd.func5.symm.trans hfn)).symm
  refine ⟨by kernel_rfl, fun j t ht => ?_⟩
  rw [Tryd.params5] at ht
  have hs : t = 42 := by
    rcases j with _ | j
    · simpa using ht.symm
    simp at ht
  rcases hs with rfl
  · exact (show Tryd.prog.wantsStandIn 42 = false by kernel_rfl)
theorem proved : Rows.RecordBackCardSaid :=
  Claim7.holds_tied_plain_at .later [] [.handle] true Rows.recordBackCard.stood.harness true over (fun _ h => by cases h) (by kernel_rfl) (fun _ h => by cases h) recordBack_row_tie rfl ⟨rfl, rfl⟩ (by kernel_rfl) (by kernel_rfl) noStand (by kernel_rfl)
#print axioms proved
end Go.Proofs.YtlpplnmmcgdooaaDoor.recordBack
