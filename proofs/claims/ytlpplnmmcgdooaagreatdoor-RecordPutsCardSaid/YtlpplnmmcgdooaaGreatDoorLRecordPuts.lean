/- The law RecordPuts returns true for every input, and changes nothing that lay there; the variable errors.errorType holds what the program's text lays into it. No other condition. -/
import Derived.Test.YtlpplnmmcgdooaaGreatDoorAwkR
import Derived.Test.YtlpplnmmcgdooaaGreatDoorOpenM
import Derived.Test.YtlpplnmmcgdooaaGreatDoorLaw
import Derived.Test.YtlpplnmmcgdooaaGreatDoorDocK
namespace Go.Proofs.YtlpplnmmcgdooaaGreatDoor.recordPuts
open Go.ChangeShapes Go.WideShapes Go.ChangeAt Go.RowKit Go.Sort Nb

attribute [local go_sem ↓] Go.wp_at_zero Go.wp_at_succ
set_option maxRecDepth 100000 in
set_option maxHeartbeats 8000000 in
theorem walk (r : PR) (w : World) (hg : Glob w) :
    Calls Tryz.prog 5 #[recV r] w fun e w' => e = .returned (.bool true) ∧ Below w.heap.size w w' := by
  have HFW := Lib.hid (fun W => FewR_any r W)
  have HAW := Lib.hid (fun (W : World) (h : Below w.heap.size w W) => awake11_any W (hg.below h))
  by_cases hf : fewR r = true
  · have hd := fewR_dt hf
    have hd1 : r.dt.size ≤ 1000000 := by omega
    rw [hf] at HFW
    have HCD := Lib.hid (fun (ops : List ByteArray) (c : Int) (v : Value) (W : World) (h : Below w.heap.size w W) (hv : ErrV W ops c v) => Code_any ops c v W (hg.below h) hv)
    have HCK := Lib.hid (fun (W : World) (h : Below w.heap.size w W) => rcChk_any r W (hg.below h) hd1)
    have HRC := Lib.hid (fun (W : World) => rRecChk_any r W hd1)
    have HEV := Lib.hid (fun (W : World) (h : Below w.heap.size w W) => evt_any r.k r.dt W (hg.below h) hd1)
    have HRE := Lib.hid (fun (W : World) => rEvt_any r.k r.dt W hd1)
    have HOF := Lib.hid (fun (W : World) => of_any r W)
    unfold ErP at HCK HEV
    obtain ⟨z, opsp, HPO, HDP⟩ : ∃ (z : ByteArray) (ops : List ByteArray), Hid (∀ W, Below w.heap.size w W → Calls Tryz.prog 24 #[recV r] W fun e w' => (∃ v, e = .returned (.tuple #[.string z, v]) ∧ ErrV w' ops (recC r : Int) v) ∧ Below W.heap.size W w') ∧ Hid (∀ W, Calls Tryz.prog 25 #[recV r] W fun e w' => e = .returned (.tuple #[.string z, .int .i64 (recC r : Int)]) ∧ Below W.heap.size W w') := by
      by_cases h0 : recC r = 0
      · refine ⟨⟨(recB r).toArray⟩, [], fun W h => (rcPutOk_any r W (hg.below h) hd1 h0).mono fun e w' ⟨he, hb⟩ => ⟨⟨_, he, Or.inl ⟨by rw [h0]; rfl, rfl, rfl⟩⟩, hb⟩, fun W => ?_⟩
        have := rRecPutOk_any r W hd1 h0
        rw [h0]
        exact this
      · have h2 := (recC_2 r).resolve_left h0
        refine ⟨⟨#[]⟩, [recordW], fun W h => ?_, fun W => ?_⟩
        · rw [h2]
          exact rcPutBad_any r W (hg.below h) hd1 h0
        · rw [h2]
          exact rRecPutBad_any r W hd1 h0
    generalize (if recC r = 0 then [] else [recordW]) = opsc at HCK
    generalize (if evC r.k r.dt = 0 then [] else [eventW]) = opse at HEV
    generalize (evC r.k r.dt : Int) = ce at HEV HRE
    generalize (recC r : Int) = c at HCK HRC HPO HDP
    clear hf hg hd hd1
    unfold recV at HFW HCK HRC HPO HDP HOF ⊢
    go_enter Tryz.func5, Tryz.ntmps5
    go_wp2_with fail
    refine (HFW.out _).mono ?_
    rintro e w1 ⟨rfl, hb1⟩
    have B1 := Lib.hid (belStep (bel1 w _) hb1)
    have K1 := Lib.hid (heap_box hb1)
    clear hb1
    obtain ⟨⟨p0, p1, p2, p3, p4, p5⟩, -⟩ := cells6 K1.out
    have zk1 : w.heap.size < w1.heap.size := lt_of_heap K1.out
    go_wp2_with fail
    refine (HPO.out _ B1.out).mono ?_
    rintro e w2 ⟨⟨v3, rfl, hv3⟩, hb2⟩
    have B2 := Lib.hid (belStep B1.out hb2)
    have K2 := Lib.hid ((hb2.block _ (lt_of_heap K1.out)).trans K1.out)
    have V2 := Lib.hid hv3
    clear hb2 hv3 p0 p1 p2 p3 p4 p5 zk1
    obtain ⟨⟨p0, p1, p2, p3, p4, p5⟩, -⟩ := cells6 K2.out
    have zk2 : w.heap.size < w2.heap.size := lt_of_heap K2.out
    go_wp2_with fail
    refine (HOF.out _).mono ?_
    rintro e w3 ⟨rfl, hb3⟩
    have B3 := Lib.hid (belStep B2.out hb3)
    have K3 := Lib.hid ((hb3.block _ (lt_of_heap K2.out)).trans K2.out)
    have V3 := Lib.hid (V2.out.below hb3)
    clear hb3 p0 p1 p2 p3 p4 p5 zk2
    go_wp2_with fail
    refine (HDP.out _).mono ?_
    rintro e w4 ⟨rfl, hb4⟩
    have B4 := Lib.hid (belStep B3.out hb4)
    have K4 := Lib.hid ((hb4.block _ (lt_of_heap K3.out)).trans K3.out)
    have V4 := Lib.hid (V3.out.below hb4)
    clear hb4
    have KS : Hid (∀ W, Below w4.heap.size w4 W → Below w4.heap.size w4 W ∧ W.cell? ⟨w.heap.size, 0, none⟩ = some (.int .i64 r.ep) ∧ W.cell? ⟨w.heap.size, 1, none⟩ = some (.int .i64 r.sq) ∧ W.cell? ⟨w.heap.size, 2, none⟩ = some (.bool r.sn) ∧ W.cell? ⟨w.heap.size, 3, none⟩ = some (.int .i64 r.k) ∧ W.cell? ⟨w.heap.size, 4, none⟩ = some (.string r.dt) ∧ W.cell? ⟨w.heap.size, 5, none⟩ = some (.string r.st)) := fun W hb => by
      obtain ⟨⟨p0, p1, p2, p3, p4, p5⟩, -⟩ := cells6 ((hb.block _ (lt_of_heap K4.out)).trans K4.out)
      exact ⟨hb, p0, p1, p2, p3, p4, p5⟩
    have BW := Lib.hid (fun (W : World) (hb : Below w4.heap.size w4 W) => belStep B4.out hb)
    have VW := Lib.hid (fun (W : World) (hb : Below w4.heap.size w4 W) => V4.out.below hb)
    have hb0 : Below w4.heap.size w4 w4 := Below.refl _ _
    go_wp2_with fail
    go_region_held3 (fun W => Below w4.heap.size w4 W ∧ W.cell? ⟨w.heap.size, 0, none⟩ = some (.int .i64 r.ep) ∧ W.cell? ⟨w.heap.size, 1, none⟩ = some (.int .i64 r.sq) ∧ W.cell? ⟨w.heap.size, 2, none⟩ = some (.bool r.sn) ∧ W.cell? ⟨w.heap.size, 3, none⟩ = some (.int .i64 r.k) ∧ W.cell? ⟨w.heap.size, 4, none⟩ = some (.string r.dt) ∧ W.cell? ⟨w.heap.size, 5, none⟩ = some (.string r.st)) (first | exact KS.out _ (by assumption) | exact KS.out _ (Below.drew (by assumption)))
        (first
          | (go_at_call 27; ((with_reducible refine (HCK.out _ (BW.out _ (by first | assumption | exact Below.drew (by assumption)))).mono ?_); rintro e wa ⟨⟨va, rfl, hva⟩, hba⟩; have hbA : Below w4.heap.size w4 wa := belStep (by first | assumption | exact Below.drew (by assumption)) hba; have HVA := Lib.hid hva; clear hva; clear hba))
          | (go_at_call 12; ((with_reducible refine (HCD.out opsc c va _ (BW.out _ (by first | assumption | exact Below.drew (by assumption))) HVA.out).mono ?_); rintro e wa ⟨rfl, hba⟩; have hbA : Below w4.heap.size w4 wa := belStep (by first | assumption | exact Below.drew (by assumption)) hba; clear hba))
          | (go_at_call 26; ((with_reducible refine (HOF.out _).mono ?_); rintro e wa ⟨rfl, hba⟩; have hbA : Below w4.heap.size w4 wa := belStep (by first | assumption | exact Below.drew (by assumption)) hba; clear hba))
          | (go_at_call 28; ((with_reducible refine (HRC.out _).mono ?_); rintro e wa ⟨rfl, hba⟩; have hbA : Below w4.heap.size w4 wa := belStep (by first | assumption | exact Below.drew (by assumption)) hba; clear hba))
          | (go_at_call 29; ((with_reducible refine (HEV.out _ (BW.out _ (by first | assumption | exact Below.drew (by assumption)))).mono ?_); rintro e wa ⟨⟨vb, rfl, hvb⟩, hba⟩; have hbA : Below w4.heap.size w4 wa := belStep (by first | assumption | exact Below.drew (by assumption)) hba; have HVB := Lib.hid hvb; clear hvb; clear hba))
          | (go_at_call 12; ((with_reducible refine (HCD.out opse ce vb _ (BW.out _ (by first | assumption | exact Below.drew (by assumption))) HVB.out).mono ?_); rintro e wa ⟨rfl, hba⟩; have hbA : Below w4.heap.size w4 wa := belStep (by first | assumption | exact Below.drew (by assumption)) hba; clear hba))
          | (go_at_call 30; ((with_reducible refine (HRE.out _).mono ?_); rintro e wa ⟨rfl, hba⟩; have hbA : Below w4.heap.size w4 wa := belStep (by first | assumption | exact Below.drew (by assumption)) hba; clear hba))
          | (go_at_call 12; ((with_reducible refine (HCD.out opsp c v3 _ (BW.out _ (by first | assumption | exact Below.drew (by assumption))) (VW.out _ (by first | assumption | exact Below.drew (by assumption)))).mono ?_); rintro e wa ⟨rfl, hba⟩; have hbA : Below w4.heap.size w4 wa := belStep (by first | assumption | exact Below.drew (by assumption)) hba; clear hba))
          | (go_at_call 23; ((with_reducible refine (HAW.out _ (BW.out _ (by first | assumption | exact Below.drew (by assumption)))).mono ?_); rintro e wa ⟨rfl, hba⟩; have hbA : Below w4.heap.size w4 wa := belStep (by first | assumption | exact Below.drew (by assumption)) hba; clear hba)))
    go_wp2
    go_ret
    exact ⟨rfl, BW.out _ (by assumption)⟩
  · have hff : fewR r = false := by simpa using hf
    rw [hff] at HFW
    clear hf hff hg
    unfold recV at HFW ⊢
    go_enter Tryz.func5, Tryz.ntmps5
    go_wp2_with fail
    refine (HFW.out _).mono ?_
    rintro e w1 ⟨rfl, hb1⟩
    have B1 := Lib.hid (belStep (bel1 w _) hb1)
    clear hb1
    go_wp2_with (go_at_call 23; refine (HAW.out _ B1.out).mono ?_; rintro e w9 ⟨rfl, hb9⟩; have HB9 := Lib.hid (belStep B1.out hb9); clear hb9)
    go_ret
    exact ⟨rfl, HB9.out⟩

set_option maxRecDepth 100000 in
theorem lifted (os : Os) (started : os.Started) (H : Type) (enc : TypeId × Value → H) :
    ReturnsInHanded {} Tryz.checked os 5 .any (fun w args => (Rows.recordPutsSpec.pre enc Tryz.prog Tryz.f5 [] false w args ∧ laidMetH Tryz.prog laidL w) ∧ sizedMet enc Tryz.prog Tryz.f5 (OpenSpec.ofChange Rows.recordPutsSpec) false w args)
      (Rows.recordPutsSpec.post enc Tryz.prog Tryz.f5 false true false false) := by
  refine returnsInHanded_of_change_and (C := Tryz.checked) (X := fun w _ => laidMetH Tryz.prog laidL w) (fun _ _ _ hh h => h.of_heap hh) own started (by kernel_rfl) Tryz.func5
    (ChangeSpec.witness_at (enc := enc) (C := Tryz.checked) (os := os) (X := fun w _ => laidMetH Tryz.prog laidL w) false (laidWorld os) #[.agg #[.int .i64 0, .int .i64 0, .bool false, .int .i64 0, .string ⟨#[]⟩, .string ⟨#[]⟩]] 8 rfl (by kernel_rfl) (by kernel_rfl) (by kernel_rfl) (by kernel_rfl) (by kernel_rfl) (laidWorld_met os _)) ?_
  intro W base args ds gs before hval0 hW _ _ hL _
  have hval : ∀ (j : Nat) t v, Tryz.f5.params[j]? = some t → args[j]? = some v → Value.okWide Tryz.prog W .any base t v := hval0
  have hW' := hW
  obtain ⟨p, q, hA0, hV, rfl, _, _⟩ := hW
  have hA : DataW.TrodAll enc Tryz.prog W 0 (fun _ => true) true Tryz.f5.params.toList args.toList ds p := hA0
  rw [Tryz.params5] at hA hval
  have hg := glob_of_laid hL
  obtain ⟨v0, d0, rfl, rfl, h0⟩ := trodAll_one hA
  obtain ⟨rfl, rfl⟩ := trodVars_none hV
  obtain ⟨m0, rfl⟩ := open_rec (hval 0 49 v0 rfl rfl) h0
  refine (walk m0 W hg ).mono fun e W' ⟨he, hb⟩ => ?_
  subst he
  exact ⟨_, rfl, law_post (tb := 4) laidOut (by decide +kernel) rfl hW' rfl rfl rfl rfl Tryz.underlying4 hb⟩

theorem over : Rows.recordPutsRow.holds Tryz.pinned (OpenSpec.ofChange Rows.recordPutsSpec) :=
  OpenClaim.holds_of_wide 5 Tryz.f5 rfl rfl rfl rfl rfl rfl rfl ⟨rfl, rfl, rfl, rfl, rfl⟩ rfl rfl rfl rfl rfl (by kernel_rfl) Tryz.func5 (by kernel_rfl)
    (of_decide_eq_true (by kernel_rfl)) (by unfold Func.isWrapper; first | (rw [if_pos (by decide +kernel)]; kernel_rfl) | (rw [if_neg (by decide +kernel)]; exact ⟨rfl, rfl⟩))
    (fun os started H enc _ => lifted os started H enc)
theorem noStand : ∀ (f : FuncId) (fn : Func), Tryz.prog.funcNamed "rubato/rubatolaw11.RecordPuts" = some f → Tryz.prog.funcs[f]? = some fn → true = Tryz.prog.looks [] ∧ ∀ (j : Nat) t, fn.params[j]? = some t → Tryz.prog.wantsStandIn t = false := fun f fn hf hfn => by
  obtain rfl : f = 5 := Option.some.inj ((show Tryz.prog.funcNamed "rubato/rubatolaw11.RecordPuts" = some 5 by kernel_rfl).symm.trans hf) |>.symm
  obtain rfl : fn = Tryz.f5 := (Option.some.inj (Tryz.func5.symm.trans hfn)).symm
  refine ⟨by kernel_rfl, fun j t ht => ?_⟩
  rw [Tryz.params5] at ht
  have hs : t = 49 := by
    rcases j with _ | j
    · simpa using ht.symm
    simp at ht
  rcases hs with rfl
  · exact (show Tryz.prog.wantsStandIn 49 = false by kernel_rfl)
theorem proved : Rows.RecordPutsCardSaid :=
  Claim7.holds_tied_plain_at .later [] [.handle] true Rows.recordPutsCard.stood.harness true over (fun _ h => by cases h) (by kernel_rfl) (fun _ h => by cases h) recordPuts_row_tie rfl ⟨rfl, rfl⟩ (by kernel_rfl) (by kernel_rfl) noStand (by kernel_rfl)
#print axioms proved
end Go.Proofs.YtlpplnmmcgdooaaGreatDoor.recordPuts
