/- The law StableRises returns true for every input, and changes nothing that lay there. No condition. -/
import Derived.Test.YtpnjodefnpphkaaStableK
import Derived.Test.YtpnjodefnpphkaaOpenI
namespace Go.Proofs.Ytpnjodefnpphkaa.stableRises
open Go.ChangeShapes Go.WideShapes Go.ChangeAt Go.RowKit

set_option maxHeartbeats 4000000 in
set_option maxRecDepth 100000 in
theorem walk (A1 : Option Addr) (c1 : Nat) (d1 : Array Int) (A2 : Option Addr) (c2 : Nat) (d2 : Array Int) (n : Int) (w : World) (h1 : RdI w.heap.size w A1 d1) (n1 : A1 = none → c1 = 0) (h2 : RdI w.heap.size w A2 d2) (n2 : A2 = none → c2 = 0) :
    Calls Try.prog 5 #[.slice A1 d1.size c1, .slice A2 d2.size c2, .int .i64 n] w fun e w' => e = .returned (.bool true) ∧ Below w.heap.size w w' := by
  by_cases hd : 300 < d1.size
  · have hz : (300 : Int) < (d1.size : Int) := by omega
    go_enter Try.func5, Try.ntmps5
    go_wp2_with (go_at_call 11; refine (awake17_any _).mono ?_; rintro e w3 ⟨rfl, hb3⟩)
    go_ret
    exact ⟨rfl, hb3⟩
  have hz : decide ((300 : Int) < (d1.size : Int)) = false := by simp; omega
  have hd1 : d1.size ≤ 300 := by omega
  clear hd
  by_cases hd : 300 < d2.size
  · have hz : (300 : Int) < (d2.size : Int) := by omega
    go_enter Try.func5, Try.ntmps5
    go_wp2_with (go_at_call 11; refine (awake17_any _).mono ?_; rintro e w3 ⟨rfl, hb3⟩)
    go_ret
    exact ⟨rfl, hb3⟩
  have hz2 : decide ((300 : Int) < (d2.size : Int)) = false := by simp; omega
  have hd2 : d2.size ≤ 300 := by omega
  have N1 := Lib.hid n1
  have N2 := Lib.hid n2
  clear hd n1 n2
  obtain ⟨i0, hi0, hz0, hz1, hz8⟩ := info_parts int_info
  go_enter Try.func5, Try.ntmps5
  go_wp2_with (first
    | (at_builtin; refine append_rdI rfl (.tmp 20) (.tmp 21) 22 rfl w.heap.size 3 i0 (.int .i64 0) Try.underlying22 hi0 hz0 hz1 hz8 rfl _ 0 [] rfl (empty_owns w 3) w.heap.size A1 c1 d1 rfl (h1.alloc (Nat.le_refl _) _) N1.out (by omega) (by simp) ?_; intro v1 w1 hown1 hg1; have hb1 : Below w.heap.size w w1 := (bel1 w _).grown hg1 (by simp) (own_block (empty_owns w 3)))
    | (at_builtin; refine append_rdI rfl (.tmp 23) (.tmp 24) 22 rfl w1.heap.size 3 i0 (.int .i64 0) Try.underlying22 hi0 hz0 hz1 hz8 rfl _ 0 [] rfl (empty_owns w1 3) w.heap.size A2 c2 d2 rfl ((h2.below hb1).alloc hb1.size _) N2.out (by omega) (by simp) ?_; intro v2 w2 hown2 hg2; have hb2 : Below w1.heap.size w1 w2 := (bel1 w1 _).grown hg2 (by simp) (own_block (empty_owns w1 3))))
  obtain ⟨A7, c7, hv7, r7⟩ := rdI_of_owns (l := d1.toList) (by simpa using hown1)
  obtain ⟨A8, c8, hv8, r8⟩ := rdI_of_owns (l := d2.toList) (by simpa using hown2)
  have e7 : v1 = .slice A7 d1.size c7 := by simpa using hv7
  have e8 : v2 = .slice A8 d2.size c8 := by simpa using hv8
  have r7' : RdI w1.heap.size w1 A7 d1 := r7
  have r8' : RdI w2.heap.size w2 A8 d2 := r8
  clear hv7 hv8 r7 r8 hown1 hown2 hg1 hg2
  subst e7 e8
  have B2 : Below w.heap.size w w2 := belStep hb1 hb2
  have q1 := Lib.hid ((h1.below B2).mono B2.size)
  have q2 := Lib.hid ((h2.below B2).mono B2.size)
  have q7 := Lib.hid ((r7'.below hb2).mono hb2.size)
  have q8 := Lib.hid r8'
  clear r7' r8'
  refine (Merge_any _ _ _ _ d1 d2 _ q1.out q2.out (by omega) (by omega)).mono ?_
  rintro e w3 ⟨A9, c9, rfl, r9, hb3⟩
  have B3 : Below w.heap.size w w3 := belStep B2 hb3
  have s1 := Lib.hid ((q1.out.below hb3).mono hb3.size)
  have s2 := Lib.hid ((q2.out.below hb3).mono hb3.size)
  have s7 := Lib.hid ((q7.out.below hb3).mono hb3.size)
  have s8 := Lib.hid ((q8.out.below hb3).mono hb3.size)
  have s9 := Lib.hid r9
  have HMS := Lib.hid (mergeN_size d1 d2)
  have hms : (mergeN d1 d2).size ≤ 300 := by rw [mergeN_size]; omega
  have hne : (((mergeN d1 d2).size : Int) != max (d1.size : Int) (d2.size : Int)) = false := by rw [mergeN_size]; simp; omega
  clear r9 q1 q2 q7 q8 h1 h2 N1 N2 hb1 hb2 hb3 B2
  go_wp2_with fail
  refine (SameInts_any _ _ _ _ d1 d1 _ _ _ s1.out s7.out (by omega)).mono ?_
  rintro e w4 ⟨rfl, m4, rfl⟩
  rw [show decide (d1 = d1) = true by simp]
  go_wp2_with fail
  refine (SameInts_any _ _ _ _ d2 d2 _ _ _ (by exact s2.out) (by exact s8.out) (by omega)).mono ?_
  rintro e w5 ⟨rfl, m5, rfl⟩
  rw [show decide (d2 = d2) = true by simp]
  go_wp2
  have t1 : RdI (w3.drewN (m4 + m5)).heap.size (w3.drewN (m4 + m5)) A1 d1 := s1.out
  have t2 : RdI (w3.drewN (m4 + m5)).heap.size (w3.drewN (m4 + m5)) A2 d2 := s2.out
  have t9 : RdI (w3.drewN (m4 + m5)).heap.size (w3.drewN (m4 + m5)) A9 (mergeN d1 d2) := s9.out
  have B4 : Below w.heap.size w (w3.drewN (m4 + m5)) := belDrewN B3 _
  generalize w3.drewN (m4 + m5) = W at t1 t2 t9 B4 ⊢
  clear s1 s2 s7 s8 s9 B3 hne
  go_loopw [10] (fun i wr => ∃ k q : Nat, k ≤ (mergeN d1 d2).size ∧ i = .int .i64 k ∧ wr = W.drewN q) (fun i _ => (mergeN d1 d2).size - (intOf i).toNat)
  case atStart => exact ⟨0, 0, Nat.zero_le _, rfl, rfl⟩
  case round =>
    obtain ⟨k, q, hk, rfl, rfl⟩ := hrel
    by_cases hlt : k < (mergeN d1 d2).size
    · have hkm : k < max d1.size d2.size := by rw [← mergeN_size]; exact hlt
      obtain ⟨b9, o9, rfl, _, f9⟩ := t9.at_ hlt
      rw [mergeN_at _ _ _ hkm] at f9
      have z9 : (k : Int) < ((mergeN d1 d2).size : Int) := by omega
      by_cases k1 : k < d1.size
      · obtain ⟨b1, o1, rfl, _, f1⟩ := t1.at_ k1
        have z1 : (k : Int) < (d1.size : Int) := by omega
        have g1 : decide (d1.size ≤ k) = false := by simp; omega
        by_cases k2 : k < d2.size
        · obtain ⟨b2, o2, rfl, _, f2⟩ := t2.at_ k2
          have z2 : (k : Int) < (d2.size : Int) := by omega
          have g2 : decide (d2.size ≤ k) = false := by simp; omega
          have HV : Hid (mrgAt d1 d2 k = max d1[k]! d2[k]!) := by show _ = _; unfold mrgAt; rw [if_pos k1, if_pos k2]
          generalize d1[k]! = x at f1 HV
          generalize d2[k]! = y at f2 HV
          by_cases hxy : y ≤ x
          · have hv : mrgAt d1 d2 k = x := by rw [HV.out]; omega
            rw [hv] at f9
            have e1 : decide (x < x) = false := by simp
            have e2 : decide (x < y) = false := by simp; omega
            have e3 : (x != x) = false := by simp
            clear hv HV
            go_wp2_with fail
            simp only [List.append_eq, List.cons_append, List.nil_append]
            go_quiet (fail)
            go_wp2
            go_roundw
            case rel => exact ⟨k + 1, _, by omega, by go_num, rfl⟩
            case measure => simp [intOf]; omega
          · have hv : mrgAt d1 d2 k = y := by rw [HV.out]; omega
            rw [hv] at f9
            have e1 : decide (y < y) = false := by simp
            have e2 : decide (y < x) = false := by simp; omega
            have e3 : (y != x) = true := by simp; omega
            have e4 : (y != y) = false := by simp
            clear hv HV hxy
            go_wp2_with fail
            simp only [List.append_eq, List.cons_append, List.nil_append]
            go_quiet (fail)
            go_wp2
            go_roundw
            case rel => exact ⟨k + 1, _, by omega, by go_num, rfl⟩
            case measure => simp [intOf]; omega
        · have z2 : decide (k < d2.size) = false := by simp; omega
          have g2 : decide (d2.size ≤ k) = true := by simp; omega
          have hv : mrgAt d1 d2 k = d1[k]! := by unfold mrgAt; rw [if_pos k1, if_neg k2]
          rw [hv] at f9
          generalize d1[k]! = x at f1 f9
          have e1 : decide (x < x) = false := by simp
          have e3 : (x != x) = false := by simp
          clear hv k2
          go_wp2_with fail
          simp only [List.append_eq, List.cons_append, List.nil_append]
          go_quiet (fail)
          go_wp2
          go_roundw
          case rel => exact ⟨k + 1, _, by omega, by go_num, rfl⟩
          case measure => simp [intOf]; omega
      · have k2 : k < d2.size := by omega
        obtain ⟨b2, o2, rfl, _, f2⟩ := t2.at_ k2
        have z1 : decide (k < d1.size) = false := by simp; omega
        have g1 : decide (d1.size ≤ k) = true := by simp; omega
        have z2 : (k : Int) < (d2.size : Int) := by omega
        have g2 : decide (d2.size ≤ k) = false := by simp; omega
        have hv : mrgAt d1 d2 k = d2[k]! := by unfold mrgAt; rw [if_neg k1]
        rw [hv] at f9
        generalize d2[k]! = y at f2 f9
        have e1 : decide (y < y) = false := by simp
        have e4 : (y != y) = false := by simp
        clear hv k1
        go_wp2_with fail
        simp only [List.append_eq, List.cons_append, List.nil_append]
        go_quiet (fail)
        go_wp2
        go_roundw
        case rel => exact ⟨k + 1, _, by omega, by go_num, rfl⟩
        case measure => simp [intOf]; omega
    · have T1 : Hid (RdI (W.drewN q).heap.size (W.drewN q) A1 d1) := t1
      have T2 : Hid (RdI (W.drewN q).heap.size (W.drewN q) A2 d2) := t2
      have T9 : Hid (RdI (W.drewN q).heap.size (W.drewN q) A9 (mergeN d1 d2)) := t9
      have B5 : Below w.heap.size w (W.drewN q) := belDrewN B4 _
      have hz9 : decide (k < (mergeN d1 d2).size) = false := by simp; omega
      clear t1 t2 t9 B4 hlt
      generalize W.drewN q = V at T1 T2 T9 B5 ⊢
      by_cases m1 : marksE d1 n = 0
      · by_cases m2 : marksE d2 n = 0
        · have hm1 : (marksE d1 n != 0) = false := by simp [m1]
          have hm2 : (marksE d2 n != 0) = false := by simp [m2]
          have mm := marks_merge m1 m2
          obtain ⟨_, _, sz1, _, _⟩ := marks_size m1
          obtain ⟨_, _, sz2, _, _⟩ := marks_size m2
          have l1 : ofS d1 n ≤ ofS (mergeN d1 d2) n := ofS_mono m1 mm fun i hi => by rw [mergeN_at _ _ _ (by omega)]; exact mrg_ge1 d1 d2 i hi
          have l2 : ofS d2 n ≤ ofS (mergeN d1 d2) n := ofS_mono m2 mm fun i hi => by rw [mergeN_at _ _ _ (by omega)]; exact mrg_ge2 d1 d2 i hi
          have l3 : leastN d1 ≤ leastN (mergeN d1 d2) := least_mono (by rw [mergeN_size]; omega) (by omega) fun i hi => by rw [mergeN_at _ _ _ (by omega)]; exact mrg_ge1 d1 d2 i hi
          clear m1 m2 mm sz1 sz2
          go_wp2_with fail
          refine (sCheck_any _ _ d1 _ _ _ T1.out (by omega)).mono ?_
          rintro e w5 ⟨rfl, hb5⟩
          have U1 := Lib.hid ((T1.out.below hb5).mono hb5.size)
          have U2 := Lib.hid ((T2.out.below hb5).mono hb5.size)
          have U9 := Lib.hid ((T9.out.below hb5).mono hb5.size)
          go_wp2_with fail
          refine (sCheck_any _ _ d2 _ _ _ U2.out (by omega)).mono ?_
          rintro e w6 ⟨rfl, hb6⟩
          have V1 := Lib.hid ((U1.out.below hb6).mono hb6.size)
          have V2 := Lib.hid ((U2.out.below hb6).mono hb6.size)
          have V9 := Lib.hid ((U9.out.below hb6).mono hb6.size)
          go_wp2_with fail
          refine (Of_any _ _ (mergeN d1 d2) _ _ V9.out (by omega)).mono ?_
          rintro e w7 ⟨rfl, hb7⟩
          have X1 := Lib.hid ((V1.out.below hb7).mono hb7.size)
          have X2 := Lib.hid ((V2.out.below hb7).mono hb7.size)
          have X9 := Lib.hid ((V9.out.below hb7).mono hb7.size)
          go_wp2_with fail
          refine (Of_any _ _ d1 _ _ X1.out (by omega)).mono ?_
          rintro e w8 ⟨rfl, hb8⟩
          have Y1 := Lib.hid ((X1.out.below hb8).mono hb8.size)
          have Y2 := Lib.hid ((X2.out.below hb8).mono hb8.size)
          have Y9 := Lib.hid ((X9.out.below hb8).mono hb8.size)
          go_wp2_with fail
          refine (Of_any _ _ (mergeN d1 d2) _ _ Y9.out (by omega)).mono ?_
          rintro e w9 ⟨rfl, hb9⟩
          have Z1 := Lib.hid ((Y1.out.below hb9).mono hb9.size)
          have Z2 := Lib.hid ((Y2.out.below hb9).mono hb9.size)
          have Z9 := Lib.hid ((Y9.out.below hb9).mono hb9.size)
          go_wp2_with fail
          refine (Of_any _ _ d2 _ _ Z2.out (by omega)).mono ?_
          rintro e wa ⟨rfl, hba⟩
          have G1 := Lib.hid ((Z1.out.below hba).mono hba.size)
          have G9 := Lib.hid ((Z9.out.below hba).mono hba.size)
          go_wp2_with fail
          refine (Least_any _ _ (mergeN d1 d2) _ _ G9.out (by omega)).mono ?_
          rintro e wb ⟨rfl, rfl⟩
          go_wp2_with fail
          refine (Least_any _ _ d1 _ _ G1.out (by omega)).mono ?_
          rintro e wb ⟨rfl, rfl⟩
          go_wp2_with fail
          refine (awake17_any _).mono ?_
          rintro e wc ⟨rfl, hbc⟩
          go_wp2
          go_ret
          exact ⟨rfl, belStep (belStep (belStep (belStep (belStep (belStep (belStep B5 hb5) hb6) hb7) hb8) hb9) hba) hbc⟩
        · have hm1 : (marksE d1 n != 0) = false := by simp [m1]
          have hm2 : (marksE d2 n != 0) = true := by simpa using m2
          clear m1 m2
          go_wp2_with fail
          refine (sCheck_any _ _ d1 _ _ _ T1.out (by omega)).mono ?_
          rintro e w5 ⟨rfl, hb5⟩
          have U2 := Lib.hid ((T2.out.below hb5).mono hb5.size)
          go_wp2_with fail
          refine (sCheck_any _ _ d2 _ _ _ U2.out (by omega)).mono ?_
          rintro e w6 ⟨rfl, hb6⟩
          go_wp2_with (go_at_call 11; refine (awake17_any _).mono ?_; rintro e w7 ⟨rfl, hb7⟩)
          go_ret
          exact ⟨rfl, belStep (belStep (belStep B5 hb5) hb6) hb7⟩
      · have hm1 : (marksE d1 n != 0) = true := by simpa using m1
        clear m1
        go_wp2_with fail
        refine (sCheck_any _ _ d1 _ _ _ T1.out (by omega)).mono ?_
        rintro e w5 ⟨rfl, hb5⟩
        go_wp2_with (go_at_call 11; refine (awake17_any _).mono ?_; rintro e w6 ⟨rfl, hb6⟩)
        go_ret
        exact ⟨rfl, belStep (belStep B5 hb5) hb6⟩

set_option maxRecDepth 100000 in
theorem lifted (os : Os) (started : os.Started) (H : Type) (enc : TypeId × Value → H) :
    ReturnsInHanded {} Try.checked os 5 .any (Rows.stableRisesSpec.pre6 enc Try.prog Try.f5 Rows.stableRisesRow.domain false) (Rows.stableRisesSpec.post enc Try.prog Try.f5 false true false false) := by
  refine returnsInHanded_of_change_sized (C := Try.checked) own started (by kernel_rfl) Try.func5
    (ChangeSpec.witness6 (enc := enc) (C := Try.checked) false ⟨#[], #[.slice none 0 0, .slice none 0 0, .int .i64 0], []⟩ 8 (by kernel_rfl) (by kernel_rfl) (by kernel_rfl) (by kernel_rfl)) ?_
  intro W base args ds gs before hval0 hW _ _ _
  have hval : ∀ (j : Nat) t v, Try.f5.params[j]? = some t → args[j]? = some v → Value.okWide Try.prog W .any base t v := hval0
  have hW' := hW
  obtain ⟨p, q, hA0, hV, rfl, _, _⟩ := hW
  have hA : DataW.TrodAll enc Try.prog W 0 (fun _ => true) true Try.f5.params.toList args.toList ds p := hA0
  rw [Try.params5] at hA hval
  obtain ⟨v0, v1, v2, d0, d1, d2, p0, p1, p2, rfl, rfl, rfl, h0, h1, h2⟩ := trodAll_three hA
  obtain ⟨rfl, rfl⟩ := trodVars_none hV
  obtain ⟨A0, c0, z0, rfl, r0, n0⟩ := open_rdI0 Try.underlying22 Try.underlying3 (by kernel_rfl) (hval 0 22 v0 rfl rfl) h0
  obtain ⟨A1, c1, z1, rfl, r1, n1⟩ := open_rdI0 Try.underlying22 Try.underlying3 (by kernel_rfl) (hval 1 22 v1 rfl rfl) h1
  obtain ⟨a2, rfl, rfl, rfl, w2⟩ := open_int Try.underlying3 (hval 2 3 v2 rfl rfl) h2
  refine (walk A0 c0 z0 A1 c1 z1 a2 W r0 n0 r1 n1).mono fun e W' ⟨he, hb⟩ => ?_
  subst he
  exact ⟨_, rfl, law_post (tb := 4) laidOut (by decide +kernel) rfl hW' rfl rfl rfl rfl Try.underlying4 hb⟩

theorem over : Rows.stableRisesRow.holds Try.pinned (OpenSpec.ofChange Rows.stableRisesSpec) :=
  OpenClaim.holds_of_wide 5 Try.f5 rfl rfl rfl rfl rfl rfl rfl ⟨rfl, rfl, rfl, rfl, rfl⟩ rfl rfl rfl rfl rfl (by kernel_rfl) Try.func5 (by kernel_rfl)
    (of_decide_eq_true (by kernel_rfl)) (by unfold Func.isWrapper; first | (rw [if_pos (by decide +kernel)]; kernel_rfl) | (rw [if_neg (by decide +kernel)]; exact ⟨rfl, rfl⟩))
    (fun os started H enc _ => lifted os started H enc)
theorem proved : Rows.StableRisesSaid := over
#print axioms proved
end Go.Proofs.Ytpnjodefnpphkaa.stableRises
