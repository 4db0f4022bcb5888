/- The document's Check and Has of what is known. The document's ranges without a number; its one form of what is known. -/
import Derived.Test.YtgpejfkmdenonaaGreatQKnI
import Derived.Test.YtgpejfkmdenonaaGreatQKnR
namespace Go.Proofs.YtgpejfkmdenonaaGreat
open Go.RowKit Go.Sort Go.Lib
set_option maxRecDepth 100000
set_option maxHeartbeats 32000000 in
theorem rChk16_let (base : Int) (rs ats : Array (Int × Int)) (A1 : Option Addr) (c1 : Nat) (A2 : Option Addr) (c2 : Nat) (w : World) (h1 : RdK encR 2 w.heap.size w A1 rs) (h2 : RdK encA_I 2 w.heap.size w A2 ats) :
    Calls Tryz.prog 13 #[.agg #[.int .i64 base, .slice A1 rs.size c1, .slice A2 ats.size c2]] w fun e w' => e = .returned (.int .i64 (chkE ⟨base, rs, ats⟩)) ∧ Below w.heap.size w w' := by
  have HC : Hid (∀ W, Below w.heap.size w W → Calls Tryz.prog 43 #[.slice A1 rs.size c1] W fun e w' => e = .returned (.int .i64 (setE_R rs)) ∧ Below W.heap.size W w') := fun W hb => (r4Check_any A1 c1 rs _ W ((h1.below hb).mono hb.size)).mono fun _ _ ⟨he, q, hw⟩ => ⟨he, by rw [hw]; exact belDrewN (Below.refl _ _) q⟩
  have HRi : Hid (ats.size ≤ 400 → ∀ W, Below w.heap.size w W → Calls Tryz.prog 32 #[.slice A2 ats.size c2, .int .i64 base, .int .i64 1000000] W fun e w' => e = .returned (.bool (riseL 1000000 base ats.toList)) ∧ Below W.heap.size W w') := fun hs W hb => rRise_any A2 c2 ats base 1000000 W ((h2.below hb).mono hb.size) (by omega)
  have HR1 := Lib.hid h1
  have HR2 := Lib.hid h2
  have hrw : ∀ b : Bool, chkB ⟨base, rs, ats⟩ = b → chkE ⟨base, rs, ats⟩ = if b = true then 0 else 2 := fun b hb => by unfold chkE; rw [hb]
  clear h1 h2
  by_cases g1 : base < 0 ∨ 1000000 < base ∨ setE_R rs ≠ 0 ∨ 400 < ats.size ∨ riseL 1000000 base ats.toList = false
  · have HE : Hid (chkE ⟨base, rs, ats⟩ = 2) := by
      show _ = _
      rw [hrw false]
      · rfl
      · rw [Bool.eq_false_iff]
        intro h
        have h' := chk_iff.1 h
        have a1 := h'.b0
        have a2 := h'.b1
        have a3 := h'.rs
        have a4 := h'.sz
        have a5 := h'.up
        simp only at a1 a2 a3 a4 a5
        rcases g1 with g | g | g | g | g
        · omega
        · omega
        · exact g a3
        · omega
        · rw [a5] at g; cases g
    clear hrw
    by_cases q1 : base < 0
    · have q1' : decide (base < 0) = true := by simpa using q1
      clear g1 q1
      go_enter Tryz.func13, Tryz.ntmps13
      go_wp2
      go_ret
      exact ⟨ret_int HE.out.symm, bel1 w _⟩
    · have q1' : decide (base < 0) = false := by simpa using q1
      by_cases q2 : 1000000 < base
      · have q2' : decide (1000000 < base) = true := by simpa using q2
        clear g1 q1 q2
        go_enter Tryz.func13, Tryz.ntmps13
        go_wp2
        go_ret
        exact ⟨ret_int HE.out.symm, bel1 w _⟩
      · have q2' : decide (1000000 < base) = false := by simpa using q2
        have HQ : Hid (setE_R rs ≠ 0 ∨ 400 < ats.size ∨ riseL 1000000 base ats.toList = false) := by
          rcases g1 with g | g | g
          · exact absurd g q1
          · exact absurd g q2
          · exact g
        clear g1 q1 q2
        go_enter Tryz.func13, Tryz.ntmps13
        go_wp2_with fail
        refine (HC.out _ (bel1 w _)).mono ?_
        rintro e w1 ⟨rfl, hb1⟩
        obtain ⟨u0, u1, u2⟩ := box3 hb1
        have HB1 := Lib.hid (belStep (bel1 w _) hb1)
        have hrest := fun p : ats.size ≤ 400 => HRi.out p w1 HB1.out
        have HR := Lib.hid hrest
        clear hb1 hrest HC
        by_cases q3 : setE_R rs = 0
        · have q3' : (setE_R rs != 0) = false := by simpa using q3
          by_cases q4 : 400 < ats.size
          · have q4' : decide ((400 : Int) < (ats.size : Int)) = true := by simp; omega
            clear q3 q4
            go_wp2
            go_ret
            exact ⟨ret_int HE.out.symm, HB1.out⟩
          · have q4' : decide ((400 : Int) < (ats.size : Int)) = false := by simp; omega
            have q5 : riseL 1000000 base ats.toList = false := by
              rcases HQ.out with g | g | g
              · exact absurd q3 g
              · exact absurd g q4
              · exact g
            have HRR := Lib.hid (HR.out (by omega))
            rw [q5] at HRR
            clear q3 q5 HQ HR
            go_wp2_with fail
            refine HRR.out.mono ?_
            rintro e w2 ⟨rfl, hb2⟩
            go_wp2
            go_ret
            exact ⟨ret_int HE.out.symm, belStep HB1.out hb2⟩
        · have q3' : (setE_R rs != 0) = true := by simpa using q3
          clear q3 HQ
          go_wp2
          go_ret
          exact ⟨ret_int HE.out.symm, HB1.out⟩
  · obtain ⟨p1, p2, p3, p4, p5⟩ : 0 ≤ base ∧ base ≤ 1000000 ∧ setE_R rs = 0 ∧ ats.size ≤ 400 ∧ riseL 1000000 base ats.toList = true := by
      refine ⟨by omega, by omega, Classical.byContradiction fun h => g1 (by simp [h]), by omega, ?_⟩
      cases hr : riseL 1000000 base ats.toList
      · exact absurd (by simp [hr]) g1
      · rfl
    have hall : chkB ⟨base, rs, ats⟩ = (decide (0 < rs.size → base + 1 < rs[0]!.1) && !(ats.toList.any fun a => hasB_R rs a.1)) := by
      have e : (fun a : Int × Int => hasB_R rs a.1) = fun a => inR rs a.1 := funext fun a => has_in p3 a.1
      rw [e]
      unfold chkB
      simp only [p3, p5, p4]
      simp [p1, p2]
    have HA := Lib.hid hall
    have q1 : decide (base < 0) = false := by simpa using p1
    have q2 : decide (1000000 < base) = false := by simpa using p2
    have q3 : (setE_R rs != 0) = false := by simpa using p3
    have q4 : decide ((400 : Int) < (ats.size : Int)) = false := by simp; omega
    have HRi' := Lib.hid (HRi.out p4)
    rw [p5] at HRi'
    have HW := Lib.hid hrw
    have HP4 := Lib.hid p4
    have hrs := (setE_all p3).1
    have hatN : ∀ W, Below w.heap.size w W → 0 < rs.size → ∃ b off, A1 = some ⟨b, off, none⟩ ∧ W.cell? ⟨b, off, none⟩ = some (.int .i64 rs[0]!.1) := fun W hb h0 => by
      obtain ⟨b, off, e, _, f⟩ := (HR1.out.below hb).at_ (i := 0) h0
      refine ⟨b, off, e, ?_⟩
      have := f 0 (by omega)
      simpa [encR] using this
    have HN := Lib.hid hatN
    have HHs : Hid (∀ x W, Below w.heap.size w W → Calls Tryz.prog 44 #[.slice A1 rs.size c1, .int .i64 x] W fun e w' => e = .returned (.bool (hasB_R rs x)) ∧ Below W.heap.size W w') := fun x W hb => r4Has_any A1 c1 rs x _ W ((HR1.out.below hb).mono hb.size)
    have hlo1 : 0 < rs.size → 1 ≤ rs[0]!.1 ∧ rs[0]!.1 ≤ 1000000 := fun h0 => by
      have := (NL.of_set p3).1 rs[0]! (by rw [getElem!_pos rs 0 h0]; simp)
      omega
    have HL1 := Lib.hid hlo1
    clear g1 p3 p5 hall hrw hatN hlo1 HRi
    go_enter Tryz.func13, Tryz.ntmps13
    go_wp2_with fail
    refine (HC.out _ (bel1 w _)).mono ?_
    rintro e w1 ⟨rfl, hb1⟩
    obtain ⟨u0, u1, u2⟩ := box3 hb1
    have HB1 := Lib.hid (belStep (bel1 w _) hb1)
    have HRR := Lib.hid (HRi'.out w1 HB1.out)
    have hlt1 : w.heap.size < w1.heap.size := by have := hb1.size; simp at this; omega
    clear hb1 HC HRi'
    go_wp2_with fail
    refine HRR.out.mono ?_
    rintro e w2 ⟨rfl, hb2⟩
    have v0 := (hb2.cell (p := ⟨w.heap.size, 0, none⟩) hlt1).trans u0
    have v1 := (hb2.cell (p := ⟨w.heap.size, 1, none⟩) hlt1).trans u1
    have v2 := (hb2.cell (p := ⟨w.heap.size, 2, none⟩) hlt1).trans u2
    have hlt2 : w.heap.size < w2.heap.size := Nat.lt_of_lt_of_le hlt1 hb2.size
    have HB2 := Lib.hid (belStep HB1.out hb2)
    clear hb2 u0 u1 u2 HRR hlt1
    by_cases q5 : 0 < rs.size
    · obtain ⟨bq, oq, rfl, hcell⟩ := HN.out w2 HB2.out q5
      have q5' : decide ((0 : Int) < (rs.size : Int)) = true := by simp; omega
      obtain ⟨l1, l2⟩ := HL1.out q5
      obtain ⟨lo, hlo⟩ : ∃ lo, rs[0]!.1 = lo := ⟨_, rfl⟩
      rw [hlo] at hcell l1 l2
      have HLo := Lib.hid hlo
      clear hlo HN HL1
      by_cases q6 : lo ≤ base + 1
      · have q6' : decide (lo - 1 ≤ base) = true := by simp; omega
        have HE : Hid (chkE ⟨base, rs, ats⟩ = 2) := by
          show _ = _
          rw [HW.out false]
          · rfl
          · rw [HA.out, Bool.and_eq_false_iff]
            left
            rw [decide_eq_false_iff_not]
            intro h
            have := h q5
            rw [HLo.out] at this
            omega
        clear q6
        go_wp2
        go_quiet (fail)
        go_wp2
        go_ret
        exact ⟨ret_int HE.out.symm, belDrewN HB2.out _⟩
      · have q6' : decide (lo - 1 ≤ base) = false := by simp; omega
        have hone : decide (0 < rs.size → base + 1 < rs[0]!.1) = true := by
          rw [decide_eq_true_iff]
          intro _
          rw [HLo.out]
          omega
        rw [hone, Bool.true_and] at HA
        clear q6 hone
        go_wp2
        go_quiet (fail)
        obtain ⟨w3, HW3⟩ : ∃ W, Hid (W = w2.drewN nq) := ⟨_, rfl⟩
        have HB3 : Hid (Below w.heap.size w w3) := by rw [HW3.out]; exact belDrewN HB2.out _
        have HV : Hid (w.heap.size < w3.heap.size ∧ w3.cell? ⟨w.heap.size, 1, none⟩ = some (.slice (some ⟨bq, oq, none⟩) rs.size c1) ∧ w3.cell? ⟨w.heap.size, 2, none⟩ = some (.slice A2 ats.size c2)) := by rw [HW3.out]; exact ⟨hlt2, v1, v2⟩
        clear v0 v1 v2 hlt2
        go_wp2
        go_loopw [3] (fun iv wr => ∃ j : Nat, iv = .int .i64 (j : Int) ∧ j ≤ ats.size ∧ (∀ i, i < j → hasB_R rs ats[i]!.1 = false) ∧ Below w3.heap.size w3 wr) (fun iv _ => ats.size - (intOf iv).toNat)
        case atStart => exact ⟨0, rfl, Nat.zero_le _, fun i hi => absurd hi (by omega), by rw [HW3.out]; exact Below.refl _ _⟩
        case round =>
          obtain ⟨j, rfl, hj, hJ, hB⟩ := hrel
          have HJ := Lib.hid hJ
          have HB := Lib.hid hB
          have x1 := (hB.cell (p := ⟨w.heap.size, 1, none⟩) HV.out.1).trans HV.out.2.1
          have x2 := (hB.cell (p := ⟨w.heap.size, 2, none⟩) HV.out.1).trans HV.out.2.2
          have hl3 : w.heap.size < wr.heap.size := Nat.lt_of_lt_of_le HV.out.1 hB.size
          clear hJ hB
          by_cases hlt : j < ats.size
          · have jz : (j : Int) < (ats.size : Int) := by omega
            obtain ⟨b, off, rfl, hbl, f⟩ := (HR2.out.below (belStep HB3.out HB.out)).at_ hlt
            have e0 := f 0 (by omega)
            have hbw : b < wr.heap.size := Nat.lt_of_lt_of_le hbl (belStep HB3.out HB.out).size
            obtain ⟨x, hx⟩ : ∃ x, ats[j]!.1 = x := ⟨_, rfl⟩
            have HX := Lib.hid hx
            simp only [Nat.add_zero, encA_I, List.getElem!_cons_zero, hx] at e0
            clear f hx
            have p1 := fun p : ExtW wr => p.cell (a := ⟨w.heap.size, 1, none⟩) hl3 x1
            have p2 := fun p : ExtW wr => p.cell (a := ⟨w.heap.size, 2, none⟩) hl3 x2
            have p3 := fun p : ExtW wr => p.cell (a := ⟨b, off + j * 2, none⟩) hbw e0
            have hhx : ∀ p : ExtW wr, Calls Tryz.prog 44 #[.slice (some ⟨bq, oq, none⟩) rs.size c1, .int .i64 x] p.to fun e w' => e = .returned (.bool (hasB_R rs x)) ∧ Below p.to.heap.size p.to w' := fun p => HHs.out x p.to (belStep HB3.out (belStep HB.out p.h))
            obtain ⟨t, ht⟩ : ∃ t, hasB_R rs x = t := ⟨_, rfl⟩
            rw [ht] at hhx
            have HT := Lib.hid ht
            have HC := Lib.hid hhx
            clear ht hhx
            cases t
            · go_wp2_with fail
              refine wp_region_ext (by kernel_rfl) (by kernel_rfl) ?_
              repeat (first | go_big_quiet_step ((go_at_call 44; exact Calls.ext_of (HC.out _))) | quiet_step ((go_at_call 44; exact Calls.ext_of (HC.out _))))
              refine wpQuiet_nil ?_
              intro w' hw'
              obtain ⟨⟨W, hbW⟩, hw''⟩ := hw'
              have hw3 : w' = W := hw''
              subst hw3
              have HBW := Lib.hid hbW
              clear hbW hw'' p1 p2 p3
              go_wp2
              go_roundw
              case rel => exact ⟨j + 1, by go_num, by omega, (fun i hi => by
                rcases Nat.lt_or_ge i j with h' | h'
                · exact HJ.out i h'
                · obtain rfl : i = j := by omega
                  rw [HX.out]; exact HT.out), belStep HB.out HBW.out⟩
              case measure => simp [intOf]; omega
            · have HE : Hid (chkE ⟨base, rs, ats⟩ = 2) := by
                show _ = _
                rw [HW.out false]
                · rfl
                · rw [HA.out, Bool.not_eq_false', List.any_eq_true]
                  exact ⟨ats[j]!, by rw [getElem!_pos ats j hlt]; simp, by rw [HX.out]; exact HT.out⟩
              go_wp2_with fail
              refine wp_region_ext (by kernel_rfl) (by kernel_rfl) ?_
              repeat (first | go_big_quiet_step ((go_at_call 44; exact Calls.ext_of (HC.out _))) | quiet_step ((go_at_call 44; exact Calls.ext_of (HC.out _))))
              refine wpQuiet_nil ?_
              intro w' hw'
              obtain ⟨⟨W, hbW⟩, hw''⟩ := hw'
              have hw3 : w' = W := hw''
              subst hw3
              have HBW := Lib.hid hbW
              clear hbW hw'' p1 p2 p3
              go_wp2
              go_ret
              exact ⟨ret_int HE.out.symm, belStep HB3.out (belStep HB.out HBW.out)⟩
          · have hlt' : decide ((j : Int) < (ats.size : Int)) = false := decide_eq_false (by omega)
            have HE : Hid (chkE ⟨base, rs, ats⟩ = 0) := by
              show _ = _
              rw [HW.out true]
              · rfl
              · rw [HA.out, Bool.not_eq_true', List.any_eq_false]
                intro x hx
                obtain ⟨i, hi, rfl⟩ := List.mem_iff_getElem.1 hx
                have := HJ.out i (by simp at hi; omega)
                rw [getElem!_pos ats i (by simpa using hi)] at this
                simpa using this
            go_wp2
            go_ret
            exact ⟨ret_int HE.out.symm, belStep HB3.out HB.out⟩
    · have q5' : decide ((0 : Int) < (rs.size : Int)) = false := decide_eq_false (by omega)
      have q5n : decide (0 < rs.size) = false := decide_eq_false q5
      have hone : decide (0 < rs.size → base + 1 < rs[0]!.1) = true := by
        rw [decide_eq_true_iff]
        intro h
        exact absurd h q5
      rw [hone, Bool.true_and] at HA
      clear q5 hone HN HL1
      go_wp2
      go_quiet (fail)
      obtain ⟨w3, HW3⟩ : ∃ W, Hid (W = w2.drewN nq) := ⟨_, rfl⟩
      have HB3 : Hid (Below w.heap.size w w3) := by rw [HW3.out]; exact belDrewN HB2.out _
      have HV : Hid (w.heap.size < w3.heap.size ∧ w3.cell? ⟨w.heap.size, 1, none⟩ = some (.slice A1 rs.size c1) ∧ w3.cell? ⟨w.heap.size, 2, none⟩ = some (.slice A2 ats.size c2)) := by rw [HW3.out]; exact ⟨hlt2, v1, v2⟩
      clear v0 v1 v2 hlt2
      go_wp2
      go_loopw [3] (fun iv wr => ∃ j : Nat, iv = .int .i64 (j : Int) ∧ j ≤ ats.size ∧ (∀ i, i < j → hasB_R rs ats[i]!.1 = false) ∧ Below w3.heap.size w3 wr) (fun iv _ => ats.size - (intOf iv).toNat)
      case atStart => exact ⟨0, rfl, Nat.zero_le _, fun i hi => absurd hi (by omega), by rw [HW3.out]; exact Below.refl _ _⟩
      case round =>
        obtain ⟨j, rfl, hj, hJ, hB⟩ := hrel
        have HJ := Lib.hid hJ
        have HB := Lib.hid hB
        have x1 := (hB.cell (p := ⟨w.heap.size, 1, none⟩) HV.out.1).trans HV.out.2.1
        have x2 := (hB.cell (p := ⟨w.heap.size, 2, none⟩) HV.out.1).trans HV.out.2.2
        have hl3 : w.heap.size < wr.heap.size := Nat.lt_of_lt_of_le HV.out.1 hB.size
        clear hJ hB
        by_cases hlt : j < ats.size
        · have jz : (j : Int) < (ats.size : Int) := by omega
          obtain ⟨b, off, rfl, hbl, f⟩ := (HR2.out.below (belStep HB3.out HB.out)).at_ hlt
          have e0 := f 0 (by omega)
          have hbw : b < wr.heap.size := Nat.lt_of_lt_of_le hbl (belStep HB3.out HB.out).size
          obtain ⟨x, hx⟩ : ∃ x, ats[j]!.1 = x := ⟨_, rfl⟩
          have HX := Lib.hid hx
          simp only [Nat.add_zero, encA_I, List.getElem!_cons_zero, hx] at e0
          clear f hx
          have p1 := fun p : ExtW wr => p.cell (a := ⟨w.heap.size, 1, none⟩) hl3 x1
          have p2 := fun p : ExtW wr => p.cell (a := ⟨w.heap.size, 2, none⟩) hl3 x2
          have p3 := fun p : ExtW wr => p.cell (a := ⟨b, off + j * 2, none⟩) hbw e0
          have hhx : ∀ p : ExtW wr, Calls Tryz.prog 44 #[.slice A1 rs.size c1, .int .i64 x] p.to fun e w' => e = .returned (.bool (hasB_R rs x)) ∧ Below p.to.heap.size p.to w' := fun p => HHs.out x p.to (belStep HB3.out (belStep HB.out p.h))
          obtain ⟨t, ht⟩ : ∃ t, hasB_R rs x = t := ⟨_, rfl⟩
          rw [ht] at hhx
          have HT := Lib.hid ht
          have HC := Lib.hid hhx
          clear ht hhx
          cases t
          · go_wp2_with fail
            refine wp_region_ext (by kernel_rfl) (by kernel_rfl) ?_
            repeat (first | go_big_quiet_step ((go_at_call 44; exact Calls.ext_of (HC.out _))) | quiet_step ((go_at_call 44; exact Calls.ext_of (HC.out _))))
            refine wpQuiet_nil ?_
            intro w' hw'
            obtain ⟨⟨W, hbW⟩, hw''⟩ := hw'
            have hw3 : w' = W := hw''
            subst hw3
            have HBW := Lib.hid hbW
            clear hbW hw'' p1 p2 p3
            go_wp2
            go_roundw
            case rel => exact ⟨j + 1, by go_num, by omega, (fun i hi => by
              rcases Nat.lt_or_ge i j with h' | h'
              · exact HJ.out i h'
              · obtain rfl : i = j := by omega
                rw [HX.out]; exact HT.out), belStep HB.out HBW.out⟩
            case measure => simp [intOf]; omega
          · have HE : Hid (chkE ⟨base, rs, ats⟩ = 2) := by
              show _ = _
              rw [HW.out false]
              · rfl
              · rw [HA.out, Bool.not_eq_false', List.any_eq_true]
                exact ⟨ats[j]!, by rw [getElem!_pos ats j hlt]; simp, by rw [HX.out]; exact HT.out⟩
            go_wp2_with fail
            refine wp_region_ext (by kernel_rfl) (by kernel_rfl) ?_
            repeat (first | go_big_quiet_step ((go_at_call 44; exact Calls.ext_of (HC.out _))) | quiet_step ((go_at_call 44; exact Calls.ext_of (HC.out _))))
            refine wpQuiet_nil ?_
            intro w' hw'
            obtain ⟨⟨W, hbW⟩, hw''⟩ := hw'
            have hw3 : w' = W := hw''
            subst hw3
            have HBW := Lib.hid hbW
            clear hbW hw'' p1 p2 p3
            go_wp2
            go_ret
            exact ⟨ret_int HE.out.symm, belStep HB3.out (belStep HB.out HBW.out)⟩
        · have hlt' : decide ((j : Int) < (ats.size : Int)) = false := decide_eq_false (by omega)
          have HE : Hid (chkE ⟨base, rs, ats⟩ = 0) := by
            show _ = _
            rw [HW.out true]
            · rfl
            · rw [HA.out, Bool.not_eq_true', List.any_eq_false]
              intro x hx
              obtain ⟨i, hi, rfl⟩ := List.mem_iff_getElem.1 hx
              have := HJ.out i (by simp at hi; omega)
              rw [getElem!_pos ats i (by simpa using hi)] at this
              simpa using this
          go_wp2
          go_ret
          exact ⟨ret_int HE.out.symm, belStep HB3.out HB.out⟩
theorem rChk16_any (v : Value) (k : KN) (w : World) (h : KnV w v k) : Calls Tryz.prog 13 #[v] w fun e w' => e = .returned (.int .i64 (chkE k)) ∧ Below w.heap.size w w' := by
  obtain ⟨A1, c1, A2, c2, rfl, h1, h2, _, _⟩ := h
  exact rChk16_let k.base k.rs k.ats A1 c1 A2 c2 w h1 h2
set_option maxHeartbeats 4000000 in
theorem rHas16_any (v : Value) (k : KN) (t : Int) (w : World) (h : KnV w v k) :
    Calls Tryz.prog 15 #[v, .int .i64 t] w fun e w' => e = .returned (.bool (hasK k t)) ∧ Below w.heap.size w w' := by
  obtain ⟨base, rs, ats⟩ := k
  obtain ⟨A1, c1, A2, c2, rfl, h1, h2, n1, n2⟩ := h
  have HC : Hid (∀ W, Below w.heap.size w W → Calls Tryz.prog 13 #[.agg #[.int .i64 base, .slice A1 rs.size c1, .slice A2 ats.size c2]] W fun e w' => e = .returned (.int .i64 (chkE ⟨base, rs, ats⟩)) ∧ Below W.heap.size W w') := fun W hb => rChk16_let base rs ats A1 c1 A2 c2 W ((h1.below hb).mono hb.size) ((h2.below hb).mono hb.size)
  have HG : Hid (∀ W, Below w.heap.size w W → Calls Tryz.prog 44 #[.slice A1 rs.size c1, .int .i64 t] W fun e w' => e = .returned (.bool (hasB_R rs t)) ∧ Below W.heap.size W w') := fun W hb => r4Has_any A1 c1 rs t _ W ((h1.below hb).mono hb.size)
  have HK := Lib.hid (hasB_iff ⟨base, rs, ats⟩ t)
  have q0 := chkE_eq ⟨base, rs, ats⟩
  clear h1 h2 n1 n2
  generalize chkE ⟨base, rs, ats⟩ = ce at q0 HC
  generalize hasB_R rs t = hr at HK HG
  cases hc : chkB ⟨base, rs, ats⟩
  · rw [hc] at q0 HK
    have HF : Hid (hasK ⟨base, rs, ats⟩ t = false) := HK.out
    clear hc HK
    go_enter Tryz.func15, Tryz.ntmps15
    go_wp2_with fail
    refine (HC.out _ (bel1 w _)).mono ?_
    rintro e w1 ⟨rfl, hb1⟩
    go_wp2
    go_ret
    exact ⟨ret_bool HF.out.symm, belStep (bel1 w _) hb1⟩
  · rw [hc, Bool.true_and] at HK
    rw [hc] at q0
    clear hc
    by_cases g1 : 1 ≤ t ∧ t ≤ base
    · obtain ⟨a1, a2⟩ := g1
      have d1 : decide (1 ≤ t) = true := by simpa using a1
      have d2 : decide (t ≤ base) = true := by simpa using a2
      have HF : Hid (hasK ⟨base, rs, ats⟩ t = true) := by show _ = _; rw [HK.out, d1]; simp [a2]
      clear HK a1 a2
      go_enter Tryz.func15, Tryz.ntmps15
      go_wp2_with fail
      refine (HC.out _ (bel1 w _)).mono ?_
      rintro e w1 ⟨rfl, hb1⟩
      obtain ⟨u0, u1, u2⟩ := box3 hb1
      go_wp2
      go_ret
      exact ⟨ret_bool HF.out.symm, belStep (bel1 w _) hb1⟩
    · have HF : Hid (hasK ⟨base, rs, ats⟩ t = hr) := by
        show _ = _
        rw [HK.out, ← Bool.decide_and, decide_eq_false g1]
        rfl
      clear HK
      by_cases g2 : 1 ≤ t
      · have d1 : decide (1 ≤ t) = true := by simpa using g2
        have d2 : decide (t ≤ base) = false := decide_eq_false (fun h => g1 ⟨g2, h⟩)
        clear g1 g2
        go_enter Tryz.func15, Tryz.ntmps15
        go_wp2_with fail
        refine (HC.out _ (bel1 w _)).mono ?_
        rintro e w1 ⟨rfl, hb1⟩
        obtain ⟨u0, u1, u2⟩ := box3 hb1
        have HB1 := Lib.hid (belStep (bel1 w _) hb1)
        have HGG := Lib.hid (HG.out w1 HB1.out)
        clear hb1
        go_wp2_with fail
        refine HGG.out.mono ?_
        rintro e w2 ⟨rfl, hb2⟩
        go_wp2
        go_ret
        exact ⟨ret_bool HF.out.symm, belStep HB1.out hb2⟩
      · have d1 : decide (1 ≤ t) = false := decide_eq_false g2
        clear g1 g2
        go_enter Tryz.func15, Tryz.ntmps15
        go_wp2_with fail
        refine (HC.out _ (bel1 w _)).mono ?_
        rintro e w1 ⟨rfl, hb1⟩
        obtain ⟨u0, u1, u2⟩ := box3 hb1
        have HB1 := Lib.hid (belStep (bel1 w _) hb1)
        have HGG := Lib.hid (HG.out w1 HB1.out)
        clear hb1
        go_wp2_with fail
        refine HGG.out.mono ?_
        rintro e w2 ⟨rfl, hb2⟩
        go_wp2
        go_ret
        exact ⟨ret_bool HF.out.symm, belStep HB1.out hb2⟩
end Go.Proofs.YtgpejfkmdenonaaGreat
namespace Go.Proofs.YtgpejfkmdenonaaGreat
open Go.RowKit Go.Sort Go.Lib
theorem woL_len2 (n : Int) : ∀ l : List (Int × Int), (woL n l).length ≤ 2 * l.length
  | [] => by simp [woL]
  | r :: l => by
    have e : woL n (r :: l) = wo1 n r ++ woL n l := by simp [woL]
    have := (wo1_len n r).1
    have := woL_len2 n l
    rw [e, List.length_append, List.length_cons]
    omega
theorem two_new2 (w : World) (o : Obj) (u v : Value) (e : TypeId) : ∀ (j : Nat) (x : Value), [u, v][j]? = some x → ((w.alloc o).alloc (.cells #[u, v] e)).cell? (Addr.add ⟨w.heap.size + 1, 0, none⟩ j) = some x := fun j x hj => by
  have := two_new_R (w.alloc o) u v e j x hj
  rwa [show (w.alloc o).heap.size = w.heap.size + 1 by simp] at this
/-- A cell of a box that was made ahead of an append stays. -/
theorem box_kept {w w2 : World} {v a b : Value} {e : TypeId} {o : Obj} (hlt : ∀ k, v.ownBlock = some k → k < w.heap.size) (hg : ((w.alloc (.cells #[a, b] e)).alloc o).grownBy w2 v.ownBlock) : w2.cell? ⟨w.heap.size, 1, none⟩ = some b := by
  rw [hg.cell_far ⟨w.heap.size, 1, none⟩ (by simp; omega) (fun h => by have := hlt _ h.symm; simp at this)]
  exact (World.cell?_alloc_lt (w.alloc (.cells #[a, b] e)) o ⟨w.heap.size, 1, none⟩ (by simp)).trans (cell_new w _ _ 1)
/-- The row at A is of the call's own, or it is the one that was handed in. -/
def OwnOr (w : World) (A A1 : Option Addr) (out d1 : Array (Int × Int)) : Prop := 0 < out.size → ∀ g off, A = some ⟨g, off, none⟩ → w.heap.size ≤ g ∨ (A = A1 ∧ out = d1)
set_option maxRecDepth 100000 in
set_option maxHeartbeats 4000000 in
theorem wo_any (A : Option Addr) (c : Nat) (d : Array (Int × Int)) (n : Int) (w : World) (h : RdK encR 2 w.heap.size w A d) (hd : d.size ≤ 100000) (hn : -1000000 ≤ n ∧ n ≤ 1000000) :
    Calls Tryz.prog 34 #[.slice A d.size c, .int .i64 n] w fun e w' => ∃ v, e = .returned v ∧ w'.ownsRow w.heap.size 47 2 v (woL n d.toList).toArray.size (flatK encR 2 (woL n d.toList).toArray).toList ∧ Below w.heap.size w w' := by
  obtain ⟨i0, hi0, hz0, hz1, hz2⟩ := info_parts range_info
  have HR := Lib.hid h
  obtain ⟨n1, n2⟩ := hn
  clear h
  have wm : IntKind.i64.wrap (n - 1) = n - 1 := by rw [IntKind.wrap_i64]; omega
  have wp : IntKind.i64.wrap (n + 1) = n + 1 := by rw [IntKind.wrap_i64]; omega
  go_enter Tryz.func34, Tryz.ntmps34
  go_wp2
  go_loopw [5, 6] (fun v iv wr => ∃ (j : Nat) (out : Array (Int × Int)), iv = .int .i64 (j : Int) ∧ j ≤ d.size ∧ (woL n (d.toList.take j)).toArray = out ∧ wr.ownsRow w.heap.size 47 2 v out.size (flatK encR 2 out).toList ∧ Below w.heap.size w wr) (fun _ iv _ => d.size - (intOf iv).toNat)
  case atStart => exact ⟨0, #[], rfl, Nat.zero_le _, rfl, nil_ownsK _ _ _ _ _, Below.refl _ _⟩
  case round =>
    obtain ⟨j, out, rfl, hj, ho, hown, hB⟩ := hrel
    have hos : out.size ≤ 2 * j := by
      have := woL_len2 n (d.toList.take j)
      rw [← ho]
      simp at this ⊢
      omega
    by_cases hlt : j < d.size
    · have jz : (j : Int) < (d.size : Int) := by omega
      obtain ⟨b, off, rfl, hbl, f⟩ := (HR.out.below hB).at_ hlt
      have e0 := f 0 (by omega)
      have e1 := f 1 (by omega)
      have HS : Hid ((woL n (d.toList.take (j + 1))).toArray = out ++ (wo1 n d[j]!).toArray) := by show _ = _; rw [take_snoc_U hlt, ← ho]; simp [woL]
      obtain ⟨x, hx⟩ : ∃ x, d[j]! = x := ⟨_, rfl⟩
      rw [hx] at e0 e1 HS
      simp only [Nat.add_zero, encR, List.getElem!_cons_zero, List.getElem!_cons_succ] at e0 e1
      clear f hx ho
      have HLT : Hid (∀ k, u5.ownBlock = some k → k < wr.heap.size) := fun k hk => (hown.lt k hk).2
      have hz := hB.size
      by_cases c1 : n < x.1
      · have d1 : decide (n < x.1) = true := decide_eq_true c1
        by_cases c3 : x.1 ≤ x.2
        · have d3 : decide (x.1 ≤ x.2) = true := decide_eq_true c3
          have HE : Hid ((woL n (d.toList.take (j + 1))).toArray = out.push x) := by show _ = _; rw [HS.out]; unfold wo1; rw [if_pos (Or.inl c1), if_pos c3]; first | (simp; done) | (simp; exact Array.toList_inj.1 (by simp))
          clear c1 c3 HS
          go_wp2_with (at_builtin; refine wpList_append_own _ rfl _ _ 22 rfl w.heap.size 47 i0 (.agg #[.int .i64 0, .int .i64 0]) 2 16 Tryz.underlying22 hi0 hz0 hz1 hz2 rfl (by decide) _ _ _ rfl ((hown.alloc _).alloc _) ⟨wr.heap.size + 1, 0, none⟩ 1 1 [.int .i64 x.1, .int .i64 x.2] rfl rfl (two_new2 wr _ _ _ _) (by simp [Value.oneCell']) (by unfold maxLen; omega) (by omega) (by simp; omega) ?_; intro v' w2 hown' hgrow _; have hb2 := own_app2 hB hz hown hgrow; have z1 := box_kept HLT.out hgrow)
          exact ⟨⟨j + 1, _, by go_num, by omega, HE.out, (by rw [Array.size_push, flatK_push encR_len]; exact hown'), hb2⟩, by simp [intOf]; omega⟩
        · have d3 : decide (x.1 ≤ x.2) = false := decide_eq_false c3
          have HE : Hid ((woL n (d.toList.take (j + 1))).toArray = out) := by show _ = _; rw [HS.out]; unfold wo1; rw [if_pos (Or.inl c1), if_neg c3]; first | (simp; done) | (simp; exact Array.toList_inj.1 (by simp))
          clear c1 c3 HS
          go_wp2
          exact ⟨⟨j + 1, out, by go_num, by omega, HE.out, hown.alloc _, hB.alloc hz _⟩, by simp [intOf]; omega⟩
      · have d1 : decide (n < x.1) = false := decide_eq_false c1
        by_cases c2 : x.2 < n
        · have d2 : decide (x.2 < n) = true := decide_eq_true c2
          by_cases c3 : x.1 ≤ x.2
          · have d3 : decide (x.1 ≤ x.2) = true := decide_eq_true c3
            have HE : Hid ((woL n (d.toList.take (j + 1))).toArray = out.push x) := by show _ = _; rw [HS.out]; unfold wo1; rw [if_pos (Or.inr c2), if_pos c3]; first | (simp; done) | (simp; exact Array.toList_inj.1 (by simp))
            clear c1 c2 c3 HS
            go_wp2_with (at_builtin; refine wpList_append_own _ rfl _ _ 22 rfl w.heap.size 47 i0 (.agg #[.int .i64 0, .int .i64 0]) 2 16 Tryz.underlying22 hi0 hz0 hz1 hz2 rfl (by decide) _ _ _ rfl ((hown.alloc _).alloc _) ⟨wr.heap.size + 1, 0, none⟩ 1 1 [.int .i64 x.1, .int .i64 x.2] rfl rfl (two_new2 wr _ _ _ _) (by simp [Value.oneCell']) (by unfold maxLen; omega) (by omega) (by simp; omega) ?_; intro v' w2 hown' hgrow _; have hb2 := own_app2 hB hz hown hgrow; have z1 := box_kept HLT.out hgrow)
            exact ⟨⟨j + 1, _, by go_num, by omega, HE.out, (by rw [Array.size_push, flatK_push encR_len]; exact hown'), hb2⟩, by simp [intOf]; omega⟩
          · have d3 : decide (x.1 ≤ x.2) = false := decide_eq_false c3
            have HE : Hid ((woL n (d.toList.take (j + 1))).toArray = out) := by show _ = _; rw [HS.out]; unfold wo1; rw [if_pos (Or.inr c2), if_neg c3]; first | (simp; done) | (simp; exact Array.toList_inj.1 (by simp))
            clear c1 c2 c3 HS
            go_wp2
            exact ⟨⟨j + 1, out, by go_num, by omega, HE.out, hown.alloc _, hB.alloc hz _⟩, by simp [intOf]; omega⟩
        · have d2 : decide (x.2 < n) = false := decide_eq_false c2
          have cn : ¬ (n < x.1 ∨ x.2 < n) := by omega
          by_cases c4 : x.1 < n
          · have d4 : decide (x.1 < n) = true := decide_eq_true c4
            by_cases c5 : n < x.2
            · have d5 : decide (n < x.2) = true := decide_eq_true c5
              have HE : Hid ((woL n (d.toList.take (j + 1))).toArray = (out.push (x.1, n - 1)).push (n + 1, x.2)) := by show _ = _; rw [HS.out]; unfold wo1; rw [if_neg cn, if_pos c4, if_pos c5]; first | (simp; done) | (simp; exact Array.toList_inj.1 (by simp))
              clear c1 c2 c4 c5 cn HS
              go_wp2_with (first
                | (at_builtin; refine wpList_append_own _ rfl _ _ 22 rfl w.heap.size 47 i0 (.agg #[.int .i64 0, .int .i64 0]) 2 16 Tryz.underlying22 hi0 hz0 hz1 hz2 rfl (by decide) _ _ _ rfl ((hown.alloc _).alloc _) ⟨wr.heap.size + 1, 0, none⟩ 1 1 [.int .i64 x.1, .int .i64 (n - 1)] rfl rfl (two_new2 wr _ _ _ _) (by simp [Value.oneCell']) (by unfold maxLen; omega) (by omega) (by simp; omega) ?_; intro v' w2 hown' hgrow _; have hb2 := own_app2 hB hz hown hgrow; have z1 := box_kept HLT.out hgrow)
                | (at_builtin; refine wpList_append_own _ rfl _ _ 22 rfl w.heap.size 47 i0 (.agg #[.int .i64 0, .int .i64 0]) 2 16 Tryz.underlying22 hi0 hz0 hz1 hz2 rfl (by decide) _ _ _ rfl (hown'.alloc _) ⟨w2.heap.size, 0, none⟩ 1 1 [.int .i64 (n + 1), .int .i64 x.2] rfl rfl (two_new_R w2 _ _ _) (by simp [Value.oneCell']) (by unfold maxLen; omega) (by omega) (by have := hb2.size; simp; omega) ?_; intro v3 w3 hown3 hgrow3 _; have hb3 := own_app1 hb2 hb2.size hown' hgrow3))
              exact ⟨⟨j + 1, _, by go_num, by omega, HE.out, (by rw [Array.size_push, flatK_push encR_len, Array.size_push, flatK_push encR_len]; exact hown3), hb3⟩, by simp [intOf]; omega⟩
            · have d5 : decide (n < x.2) = false := decide_eq_false c5
              have HE : Hid ((woL n (d.toList.take (j + 1))).toArray = out.push (x.1, n - 1)) := by show _ = _; rw [HS.out]; unfold wo1; rw [if_neg cn, if_pos c4, if_neg c5]; first | (simp; done) | (simp; exact Array.toList_inj.1 (by simp))
              clear c1 c2 c4 c5 cn HS
              go_wp2_with (at_builtin; refine wpList_append_own _ rfl _ _ 22 rfl w.heap.size 47 i0 (.agg #[.int .i64 0, .int .i64 0]) 2 16 Tryz.underlying22 hi0 hz0 hz1 hz2 rfl (by decide) _ _ _ rfl ((hown.alloc _).alloc _) ⟨wr.heap.size + 1, 0, none⟩ 1 1 [.int .i64 x.1, .int .i64 (n - 1)] rfl rfl (two_new2 wr _ _ _ _) (by simp [Value.oneCell']) (by unfold maxLen; omega) (by omega) (by simp; omega) ?_; intro v' w2 hown' hgrow _; have hb2 := own_app2 hB hz hown hgrow; have z1 := box_kept HLT.out hgrow)
              exact ⟨⟨j + 1, _, by go_num, by omega, HE.out, (by rw [Array.size_push, flatK_push encR_len]; exact hown'), hb2⟩, by simp [intOf]; omega⟩
          · have d4 : decide (x.1 < n) = false := decide_eq_false c4
            by_cases c5 : n < x.2
            · have d5 : decide (n < x.2) = true := decide_eq_true c5
              have HE : Hid ((woL n (d.toList.take (j + 1))).toArray = out.push (n + 1, x.2)) := by show _ = _; rw [HS.out]; unfold wo1; rw [if_neg cn, if_neg c4, if_pos c5]; first | (simp; done) | (simp; exact Array.toList_inj.1 (by simp))
              clear c1 c2 c4 c5 cn HS
              go_wp2_with (at_builtin; refine wpList_append_own _ rfl _ _ 22 rfl w.heap.size 47 i0 (.agg #[.int .i64 0, .int .i64 0]) 2 16 Tryz.underlying22 hi0 hz0 hz1 hz2 rfl (by decide) _ _ _ rfl ((hown.alloc _).alloc _) ⟨wr.heap.size + 1, 0, none⟩ 1 1 [.int .i64 (n + 1), .int .i64 x.2] rfl rfl (two_new2 wr _ _ _ _) (by simp [Value.oneCell']) (by unfold maxLen; omega) (by omega) (by simp; omega) ?_; intro v' w2 hown' hgrow _; have hb2 := own_app2 hB hz hown hgrow; have z1 := box_kept HLT.out hgrow)
              exact ⟨⟨j + 1, _, by go_num, by omega, HE.out, (by rw [Array.size_push, flatK_push encR_len]; exact hown'), hb2⟩, by simp [intOf]; omega⟩
            · have d5 : decide (n < x.2) = false := decide_eq_false c5
              have HE : Hid ((woL n (d.toList.take (j + 1))).toArray = out) := by show _ = _; rw [HS.out]; unfold wo1; rw [if_neg cn, if_neg c4, if_neg c5]; first | (simp; done) | (simp; exact Array.toList_inj.1 (by simp))
              clear c1 c2 c4 c5 cn HS
              go_wp2
              exact ⟨⟨j + 1, out, by go_num, by omega, HE.out, hown.alloc _, hB.alloc hz _⟩, by simp [intOf]; omega⟩
    · have hlt' : ¬ (j : Int) < (d.size : Int) := by omega
      have HO : Hid (out = (woL n d.toList).toArray) := by show _ = _; rw [← ho, List.take_of_length_le (by simp; omega)]
      clear ho
      go_wp2
      go_ret
      exact ⟨_, rfl, by have := hown; rw [HO.out] at this; exact this, hB⟩
set_option maxRecDepth 100000 in
set_option maxHeartbeats 4000000 in
theorem r4LessF_any (A1 : Option Addr) (c1 : Nat) (d1 : Array (Int × Int)) (r : Int × Int) (w : World) (h1 : RdK encR 2 w.heap.size w A1 d1) (n1 : A1 = none → c1 = 0) :
    Calls Tryz.prog 65 #[.slice A1 d1.size c1, .agg #[.int .i64 r.1, .int .i64 r.2]] w fun e w' => ∃ A out c, e = .returned (.slice A out.size c) ∧ LessE d1 r out ∧ RdK encR 2 w'.heap.size w' A out ∧ (A = none → c = 0) ∧ OwnOr w A A1 out d1 ∧ Below w.heap.size w w' := by
  have HN1 := Lib.hid n1
  clear n1
  have r0 := Lib.hid ((h1.alloc (Nat.le_refl _) (.cells #[.int .i64 r.1, .int .i64 r.2] 47)).mono (show w.heap.size ≤ (w.alloc (.cells #[.int .i64 r.1, .int .i64 r.2] 47)).heap.size by simp))
  by_cases hs : setE_R d1 = 0
  · have hq : (setE_R d1 != 0) = false := by simp [hs]
    have HS := Lib.hid hs
    have hd1 := (setE_all hs).1
    clear hs
    go_enter Tryz.func65, Tryz.ntmps65
    go_wp2_with fail
    refine (r4Check_any _ _ d1 _ _ r0.out).mono ?_
    rintro e w1 ⟨rfl, q, hw1⟩
    have hB1 : Below w.heap.size w w1 := by rw [hw1]; exact belDrewN (bel1 _ _) q
    have b0 : w1.cell? ⟨w.heap.size, 0, none⟩ = some (.int .i64 r.1) := by rw [hw1]; exact cell_new w #[.int .i64 r.1, .int .i64 r.2] _ 0
    have b1 : w1.cell? ⟨w.heap.size, 1, none⟩ = some (.int .i64 r.2) := by rw [hw1]; exact cell_new w #[.int .i64 r.1, .int .i64 r.2] _ 1
    clear hw1
    have r1 : RdK encR 2 (w1.alloc (.cells #[.int .i64 r.1, .int .i64 r.2] 47)).heap.size (w1.alloc (.cells #[.int .i64 r.1, .int .i64 r.2] 47)) A1 d1 := (((h1.below hB1).mono hB1.size).alloc (Nat.le_refl _) _).mono (by simp)
    have r2 : RdK encR 2 (w1.alloc (.cells #[.int .i64 r.1, .int .i64 r.2] 47)).heap.size (w1.alloc (.cells #[.int .i64 r.1, .int .i64 r.2] 47)) (some ⟨w1.heap.size, 0, none⟩) #[r] := (RdK.new w1 encR 2 #[r] 47 #[.int .i64 r.1, .int .i64 r.2] (flat_lit [r])).mono (by simp)
    have HH : Hid (Calls Tryz.prog 79 #[.slice A1 d1.size c1, .slice (some ⟨w1.heap.size, 0, none⟩) 1 1] _ _) := Lib.hid (of_any_R A1 c1 d1 (some ⟨w1.heap.size, 0, none⟩) 1 #[r] _ r1 r2 HN1.out (fun h => by cases h) (by simp; omega))
    go_wp2_with fail
    refine HH.out.mono ?_
    rintro e w4 ⟨v4, rfl, hown4, hb4⟩
    have hB4 : Below w.heap.size w w4 := belStep (belAlloc hB1 _) hb4
    have hV4 := RdV.own hown4
    have HF : Hid (LessE d1 r (fitE (ofE d1 #[r]) d1)) := ⟨fun hs => (ofE_fit d1 #[r] d1).congr (pOf_less hs r), fun h => absurd HS.out h⟩
    generalize ofE d1 #[r] = s at hV4 HF
    obtain ⟨A4, c4, rfl, hr4, hn4⟩ := hV4
    have hfr : ∀ g off, A4 = some ⟨g, off, none⟩ → w.heap.size ≤ g := fun g off e => by
      have g1 := (hown4.lt g (by rw [e]; rfl)).1
      have g2 := hB1.size
      simp at g1
      omega
    have HFr := Lib.hid hfr
    clear hfr
    have HX := Lib.hid (fits_any A4 A1 s.size c4 d1.size c1 w4)
    have HR4 := Lib.hid hr4
    have HN4 := Lib.hid hn4
    have HR1 := Lib.hid ((h1.below hB4).mono hB4.size)
    have HB4 := Lib.hid hB4
    clear hr4 hn4 hown4 hb4 hB4 hB1
    by_cases hs1 : s.size ≤ 1000
    · rw [if_pos hs1] at HX
      have HFF : Hid (LessE d1 r s) := by have := HF.out; unfold fitE at this; rwa [if_pos hs1] at this
      go_wp2_with fail
      refine HX.out.mono ?_
      rintro e w5 ⟨rfl, rfl⟩
      go_wp2
      go_ret
      exact ⟨A4, s, c4, rfl, HFF.out, HR4.out, HN4.out, fun _ g off e => Or.inl (HFr.out g off e), HB4.out⟩
    · rw [if_neg hs1] at HX
      have HFF : Hid (LessE d1 r d1) := by have := HF.out; unfold fitE at this; rwa [if_neg hs1] at this
      go_wp2_with fail
      refine HX.out.mono ?_
      rintro e w5 ⟨rfl, rfl⟩
      go_wp2
      go_ret
      exact ⟨A1, d1, c1, rfl, HFF.out, HR1.out, HN1.out, fun _ g off e => Or.inr ⟨rfl, rfl⟩, HB4.out⟩
  · have hq : (setE_R d1 != 0) = true := by simpa using hs
    have HS := Lib.hid hs
    clear hs
    go_enter Tryz.func65, Tryz.ntmps65
    go_wp2_with fail
    refine (r4Check_any _ _ d1 _ _ r0.out).mono ?_
    rintro e w1 ⟨rfl, q, hw1⟩
    have hB1 : Below w.heap.size w w1 := by rw [hw1]; exact belDrewN (bel1 _ _) q
    clear hw1
    go_wp2
    go_ret
    exact ⟨none, #[], 0, rfl, ⟨fun h => absurd h HS.out, fun _ => rfl⟩, fun h => absurd h (by decide), fun _ => rfl, fun h => absurd h (by decide), hB1⟩
/-- The document's form. -/
theorem RdK.far0 {α : Type} [Inhabited α] {enc : α → List Value} {k B : Nat} {w : World} {A : Option Addr} {d : Array α} (h : RdK enc k B w A d) (p : Addr) (v : Value) (hp : 0 < d.size → ∀ g off, A = some ⟨g, off, none⟩ → g ≠ p.block) : RdK enc k B (w.setCell p v) A d := fun h0 => (h.far p v (hp h0)) h0
set_option maxRecDepth 100000 in
set_option maxHeartbeats 4000000 in
theorem rForm_any (base : Int) (A1 : Option Addr) (c1 : Nat) (l : Array (Int × Int)) (A2 : Option Addr) (n2 c2 : Nat) (w : World) (h : RdK encR 2 w.heap.size w A1 l) (hn1 : A1 = none → c1 = 0) :
    Calls Tryz.prog 36 #[.int .i64 base, .slice A1 l.size c1, .slice A2 n2 c2] w fun e w' => ∃ A out c, e = .returned (.tuple #[.agg #[.int .i64 (preE l base), .slice A out.size c, .slice A2 n2 c2], .int .i64 0]) ∧ LessE l (1, preE l base) out ∧ RdK encR 2 w'.heap.size w' A out ∧ (A = none → c = 0) ∧ OwnOr w A A1 out l ∧ Below w.heap.size w w' := by
  have HR := Lib.hid h
  have HN1 := Lib.hid hn1
  have HP : Hid (∀ W, Below w.heap.size w W → Calls Tryz.prog 64 #[.slice A1 l.size c1, .int .i64 base] W fun e w' => e = .returned (.int .i64 (preE l base)) ∧ ∃ q, w' = W.drewN q) := fun W hb => r4Prefix_any A1 c1 l base _ W ((h.below hb).mono hb.size)
  clear h hn1
  generalize preE l base = pb at HP ⊢
  go_enter Tryz.func36, Tryz.ntmps36
  go_wp2_with fail
  refine (HP.out _ (bel1 w _)).mono ?_
  rintro e w1 ⟨rfl, q, hw1⟩
  have hz1 : w1.heap.size = w.heap.size + 1 := by rw [hw1]; show (w.alloc _).heap.size = _; simp
  have hB1 : Below w.heap.size w w1 := by rw [hw1]; exact belDrewN (bel1 w _) q
  have hk6 : w1.heap[w.heap.size]? = some (.cells #[.int .i64 0, .slice none 0 0, .slice none 0 0] 25 (0, 0)) := by rw [hw1]; exact heap_alloc_new w _
  have HB1 := Lib.hid hB1
  have HK6 := Lib.hid hk6
  clear hw1 hB1 hk6
  have HL : Hid (∀ W, Below w1.heap.size w1 W → Calls Tryz.prog 65 #[.slice A1 l.size c1, .agg #[.int .i64 1, .int .i64 pb]] W fun e w' => ∃ A out c, e = .returned (.slice A out.size c) ∧ LessE l (1, pb) out ∧ RdK encR 2 w'.heap.size w' A out ∧ (A = none → c = 0) ∧ OwnOr W A A1 out l ∧ Below W.heap.size W w') := fun W hb => r4LessF_any A1 c1 l (1, pb) W ((HR.out.below (belStep HB1.out hb)).mono (belStep HB1.out hb).size) HN1.out
  go_wp2_with fail
  refine (HL.out _ (bel1 w1 _)).mono ?_
  rintro e w2 ⟨A, out, c, rfl, hL, hr, hn, ho, hb2⟩
  have HLs := Lib.hid hL
  have HRd := Lib.hid hr
  have HN := Lib.hid hn
  have HB2 := Lib.hid (belStep HB1.out (belStep (bel1 w1 _) hb2))
  have hk8 : w2.heap[w1.heap.size]? = some (.cells #[.int .i64 pb, .slice none 0 0, .slice A2 n2 c2] 25 (0, 0)) := (hb2.block _ (by simp)).trans (heap_alloc_new w1 _)
  have hk6 : w2.heap[w.heap.size]? = some (.cells #[.int .i64 0, .slice none 0 0, .slice none 0 0] 25 (0, 0)) := (hb2.block _ (by simp; omega)).trans (blk_alloc HK6.out)
  have HOw : Hid (0 < out.size → ∀ g off, A = some ⟨g, off, none⟩ → g ≠ w.heap.size ∧ g ≠ w1.heap.size) := fun h0 g off e => by
    rcases ho h0 g off e with h1 | ⟨h1, h2⟩
    · simp at h1
      omega
    · subst h2
      obtain ⟨b, off', e', hb, _⟩ := HR.out h0
      rw [← h1, e] at e'
      injection e' with e'
      injection e' with e1 e2
      omega
  have HOo : Hid (OwnOr w A A1 out l) := fun h0 g off e => (ho h0 g off e).imp (fun h => by simp at h; omega) id
  clear hL hr hn ho hb2 HL HR
  rw [hz1] at hk8 HOw
  obtain ⟨⟨a0, a1, a2⟩, af⟩ := blk3 hk8
  obtain ⟨⟨b0, b1, b2⟩, bf⟩ := blk3 hk6
  clear hz1 hk6 hk8
  go_wp2
  refine bodyPost_ret (v := .tuple #[.agg #[.int .i64 pb, .slice A out.size c, .slice A2 n2 c2], .int .i64 0]) ?_ rfl ⟨A, out, c, rfl, HLs.out, ?_, HN.out, HOo.out, ?_⟩
  · simp [results, Tryz.results36, go_sem, b0, b1, b2]
  · have q6 : 0 < out.size → ∀ g off, A = some ⟨g, off, none⟩ → g ≠ w.heap.size := fun h0 g off e => (HOw.out h0 g off e).1
    have q8 : 0 < out.size → ∀ g off, A = some ⟨g, off, none⟩ → g ≠ w.heap.size + 1 := fun h0 g off e => (HOw.out h0 g off e).2
    exact ((((HRd.out.far0 ⟨w.heap.size + 1, 1, none⟩ _ q8).far0 ⟨w.heap.size, 0, none⟩ _ q6).far0 ⟨w.heap.size, 1, none⟩ _ q6).far0 ⟨w.heap.size, 2, none⟩ _ q6).mono (by simp)
  · exact (((HB2.out.setCell (by simp) _).setCell (by simp) _).setCell (by simp) _).setCell (by simp) _
end Go.Proofs.YtgpejfkmdenonaaGreat
