/- The law MsgPuts returns true for every input, and changes nothing that lay there; the variable errors.errorType holds what the program's text lays into it. No other condition. -/
import Derived.Test.YtlpplnmmcgdooaaGreatDoorFew
import Derived.Test.YtlpplnmmcgdooaaGreatDoorOpenM
import Derived.Test.YtlpplnmmcgdooaaGreatDoorLawG
import Derived.Test.YtlpplnmmcgdooaaGreatDoorDocZ
import Derived.Test.YtlpplnmmcgdooaaGreatDoorDocQ
namespace Go.Proofs.YtlpplnmmcgdooaaGreatDoor.msgPuts
open Go.ChangeShapes Go.WideShapes Go.ChangeAt Go.RowKit Go.Sort Nb

theorem dChk0 (m : PM) (w : World) (hm : RdM w m) :
    Calls Tryz.prog 14 #[msgV m] w fun e w' => e = .returned (.int .i64 (chkM m)) ∧ Below w.heap.size w w' := by
  have := rChk_any m w hm
  rw [chkR_eq] at this
  exact this
theorem hasT_emp (k : Int) : (⟨(hasT k).toArray⟩ : ByteArray).toList.isEmpty = decide (k < 1 ∨ 10 < k) := by
  rw [Lib.toList_data]
  by_cases h : k < 1 ∨ 10 < k
  · have : hasT k = [] := by unfold hasT; (repeat' rw [if_neg (by omega)])
    rw [this, decide_eq_true h]
    rfl
  · rw [decide_eq_false h]
    unfold hasT
    (repeat' split) <;> first | rfl | omega
theorem name_emp {k : Int} {e : Ending} (h : NameR k e) : ∃ s : ByteArray, e = .returned (.string s) ∧ s.toList.isEmpty = decide (k < 1 ∨ 10 < k) := h
set_option maxRecDepth 100000 in
set_option maxHeartbeats 8000000 in
theorem walk (m n : PM) (w : World) (hg : Glob w) (ra : RdK encA 2 w.heap.size w m.aA m.ats) (rm : RdI w.heap.size w m.mA m.mks) (rb : RdK encA 2 w.heap.size w n.aA n.ats) (rn : RdI w.heap.size w n.mA n.mks) :
    Calls Tryz.prog 3 #[msgV m, msgV n] w fun e w' => e = .returned (.bool true) ∧ Below w.heap.size w w' := by
  have HFM := Lib.hid (fun W => Few_any m W)
  have HFN := Lib.hid (fun W => Few_any n W)
  have HAW := Lib.hid (fun (W : World) (h : Below w.heap.size w W) => awake09_any W (hg.below h))
  by_cases hf : fewM m = true
  · rw [hf] at HFM
    by_cases hfn : fewM n = true
    · rw [hfn] at HFN
      have hrm : RdM w m := fewM_rd hf ra rm
      have hrn : RdM w n := fewM_rd hfn rb rn
      have HCD := Lib.hid (fun (ops : List ByteArray) (c : Int) (v : Value) (W : World) (h : Below w.heap.size w W) (hv : ErrV W ops c v) => Code_any ops c v W (hg.below h) hv)
      have HCK := Lib.hid (fun (W : World) (h : Below w.heap.size w W) => Check_any m W (hrm.next h))
      have HDC := Lib.hid (fun (W : World) (h : Below w.heap.size w W) => dChk0 m W (hrm.next h))
      have HSA := Lib.hid (fun (W : World) (h : Below w.heap.size w W) => Same_any m n W (hrm.next h) (hrn.next h))
      have HSR := Lib.hid (fun (W : World) (h : Below w.heap.size w W) => rSame_any m n W (hrm.next h) (hrn.next h))
      have HNM : Hid (∀ W, Calls Tryz.prog 17 #[.int .i64 m.k] W fun e w' => (∃ s : ByteArray, e = .returned (.string s) ∧ s.toList.isEmpty = decide (m.k < 1 ∨ 10 < m.k)) ∧ Below W.heap.size W w') := fun W => Name_any m.k W
      obtain ⟨hs, hhs, hhe⟩ : ∃ s : ByteArray, s = ⟨(hasT m.k).toArray⟩ ∧ s.toList.isEmpty = decide (m.k < 1 ∨ 10 < m.k) := ⟨_, rfl, hasT_emp m.k⟩
      have HHS := Lib.hid (fun (W : World) => rHas_any m.k W)
      rw [← hhs] at HHS
      unfold ChkP at HCK
      obtain ⟨z, ops, HPO, HDP⟩ : ∃ (z : ByteArray) (ops : List ByteArray), Hid (∀ W, Below w.heap.size w W → Calls Tryz.prog 10 #[msgV m] W fun e w' => (∃ v, e = .returned (.tuple #[.string z, v]) ∧ ErrV w' ops (chkM m) v) ∧ Below W.heap.size W w') ∧ Hid (∀ W, Below w.heap.size w W → Calls Tryz.prog 11 #[msgV m] W fun e w' => e = .returned (.tuple #[.string z, .int .i64 (chkM m)]) ∧ Below W.heap.size W w') := by
        by_cases h0 : chkM m = 0
        · refine ⟨⟨(msgB m).toArray⟩, [], fun W h => (mPutOk_any m W (hrm.next h) h0).mono fun e w' ⟨he, hb⟩ => ⟨⟨_, he, Or.inl ⟨h0, rfl, rfl⟩⟩, hb⟩, fun W h => ?_⟩
          have := dPutOk_of dChk0 m W (hrm.next h) h0
          rw [h0]
          exact this
        · exact ⟨⟨#[]⟩, [msgW], fun W h => (mPutBad_any m W (hrm.next h) h0).mono fun e w' ⟨he, hb⟩ => ⟨he, hb⟩, fun W h => dPutBad_of dChk0 m W (hrm.next h) h0⟩
      generalize (if chkM m = 0 then [] else [msgW]) = opsc at HCK
      generalize chkM m = c at HCK HDC HPO HDP
      generalize sameM m n = sm at HSA HSR
      clear hf hfn ra rm rb rn hg hhs
      have HKS : Hid (∀ (w4 W : World), w4.heap[w.heap.size]? = some (.cells #[.int .i64 m.k, .int .i64 m.fr, .int .i64 m.id, .int .i64 m.t, .int .i64 m.bal, .int .i64 m.abal, .int .i64 m.ph, .int .i64 m.q, .string m.pay, .int .i64 m.lo, .int .i64 m.hi, .slice m.aA m.ats.size m.aC, .slice m.mA m.mks.size m.mC, .int .i64 m.dn] 25 (0, 0)) → w4.heap[w.heap.size + 1]? = some (.cells #[.int .i64 n.k, .int .i64 n.fr, .int .i64 n.id, .int .i64 n.t, .int .i64 n.bal, .int .i64 n.abal, .int .i64 n.ph, .int .i64 n.q, .string n.pay, .int .i64 n.lo, .int .i64 n.hi, .slice n.aA n.ats.size n.aC, .slice n.mA n.mks.size n.mC, .int .i64 n.dn] 25 (0, 0)) → Below w4.heap.size w4 W → Below w4.heap.size w4 W ∧ W.cell? ⟨w.heap.size, 0, none⟩ = some (.int .i64 m.k) ∧ W.cell? ⟨w.heap.size, 1, none⟩ = some (.int .i64 m.fr) ∧ W.cell? ⟨w.heap.size, 2, none⟩ = some (.int .i64 m.id) ∧ W.cell? ⟨w.heap.size, 3, none⟩ = some (.int .i64 m.t) ∧ W.cell? ⟨w.heap.size, 4, none⟩ = some (.int .i64 m.bal) ∧ W.cell? ⟨w.heap.size, 5, none⟩ = some (.int .i64 m.abal) ∧ W.cell? ⟨w.heap.size, 6, none⟩ = some (.int .i64 m.ph) ∧ W.cell? ⟨w.heap.size, 7, none⟩ = some (.int .i64 m.q) ∧ W.cell? ⟨w.heap.size, 8, none⟩ = some (.string m.pay) ∧ W.cell? ⟨w.heap.size, 9, none⟩ = some (.int .i64 m.lo) ∧ W.cell? ⟨w.heap.size, 10, none⟩ = some (.int .i64 m.hi) ∧ W.cell? ⟨w.heap.size, 11, none⟩ = some (.slice m.aA m.ats.size m.aC) ∧ W.cell? ⟨w.heap.size, 12, none⟩ = some (.slice m.mA m.mks.size m.mC) ∧ W.cell? ⟨w.heap.size, 13, none⟩ = some (.int .i64 m.dn) ∧ W.cell? ⟨w.heap.size + 1, 0, none⟩ = some (.int .i64 n.k) ∧ W.cell? ⟨w.heap.size + 1, 1, none⟩ = some (.int .i64 n.fr) ∧ W.cell? ⟨w.heap.size + 1, 2, none⟩ = some (.int .i64 n.id) ∧ W.cell? ⟨w.heap.size + 1, 3, none⟩ = some (.int .i64 n.t) ∧ W.cell? ⟨w.heap.size + 1, 4, none⟩ = some (.int .i64 n.bal) ∧ W.cell? ⟨w.heap.size + 1, 5, none⟩ = some (.int .i64 n.abal) ∧ W.cell? ⟨w.heap.size + 1, 6, none⟩ = some (.int .i64 n.ph) ∧ W.cell? ⟨w.heap.size + 1, 7, none⟩ = some (.int .i64 n.q) ∧ W.cell? ⟨w.heap.size + 1, 8, none⟩ = some (.string n.pay) ∧ W.cell? ⟨w.heap.size + 1, 9, none⟩ = some (.int .i64 n.lo) ∧ W.cell? ⟨w.heap.size + 1, 10, none⟩ = some (.int .i64 n.hi) ∧ W.cell? ⟨w.heap.size + 1, 11, none⟩ = some (.slice n.aA n.ats.size n.aC) ∧ W.cell? ⟨w.heap.size + 1, 12, none⟩ = some (.slice n.mA n.mks.size n.mC) ∧ W.cell? ⟨w.heap.size + 1, 13, none⟩ = some (.int .i64 n.dn)) := fun w4 W h1 h2 hb => by
        obtain ⟨p0, -, p1, -, p2, -, p3, -, p4, -, p5, -, p6, -, p7, -, p8, -, p9, -, p10, -, p11, -, p12, -, p13, -⟩ := cells14 ((hb.block _ (lt_of_heap h1)).trans h1)
        obtain ⟨q0, -, q1, -, q2, -, q3, -, q4, -, q5, -, q6, -, q7, -, q8, -, q9, -, q10, -, q11, -, q12, -, q13, -⟩ := cells14 ((hb.block _ (lt_of_heap h2)).trans h2)
        exact ⟨hb, p0, p1, p2, p3, p4, p5, p6, p7, p8, p9, p10, p11, p12, p13, q0, q1, q2, q3, q4, q5, q6, q7, q8, q9, q10, q11, q12, q13⟩
      unfold msgV at HFM HFN HCK HDC HSA HSR HPO HDP ⊢
      clear hrm hrn
      go_enter Tryz.func3, Tryz.ntmps3
      go_wp2_with fail
      refine (HFM.out _).mono ?_
      rintro e w1 ⟨rfl, hb1⟩
      have B1 := Lib.hid (belStep (belAlloc (bel1 w _) _) hb1)
      have K1 : Hid (w1.heap[w.heap.size]? = some (.cells #[.int .i64 m.k, .int .i64 m.fr, .int .i64 m.id, .int .i64 m.t, .int .i64 m.bal, .int .i64 m.abal, .int .i64 m.ph, .int .i64 m.q, .string m.pay, .int .i64 m.lo, .int .i64 m.hi, .slice m.aA m.ats.size m.aC, .slice m.mA m.mks.size m.mC, .int .i64 m.dn] 25 (0, 0))) := (hb1.block _ (by simp; omega)).trans ((Below.heap_alloc _ _ _ (by simp)).trans (heap_new w _))
      have L1 : Hid (w1.heap[w.heap.size + 1]? = some (.cells #[.int .i64 n.k, .int .i64 n.fr, .int .i64 n.id, .int .i64 n.t, .int .i64 n.bal, .int .i64 n.abal, .int .i64 n.ph, .int .i64 n.q, .string n.pay, .int .i64 n.lo, .int .i64 n.hi, .slice n.aA n.ats.size n.aC, .slice n.mA n.mks.size n.mC, .int .i64 n.dn] 25 (0, 0))) := (hb1.block _ (by simp)).trans (heap_new2 w _ _)
      clear hb1
      obtain ⟨q0, -, q1, -, q2, -, q3, -, q4, -, q5, -, q6, -, q7, -, q8, -, q9, -, q10, -, q11, -, q12, -, q13, -⟩ := cells14 L1.out
      have zl1 : w.heap.size + 1 < w1.heap.size := lt_of_heap L1.out
      go_wp2_with fail
      refine (HFN.out _).mono ?_
      rintro e w2 ⟨rfl, hb2⟩
      have B2 := Lib.hid (belStep B1.out hb2)
      have K2 := Lib.hid ((hb2.block _ (lt_of_heap K1.out)).trans K1.out)
      have L2 := Lib.hid ((hb2.block _ (lt_of_heap L1.out)).trans L1.out)
      clear hb2 q0 q1 q2 q3 q4 q5 q6 q7 q8 q9 q10 q11 q12 q13 zl1
      obtain ⟨p0, -, p1, -, p2, -, p3, -, p4, -, p5, -, p6, -, p7, -, p8, -, p9, -, p10, -, p11, -, p12, -, p13, -⟩ := cells14 K2.out
      have zk2 : w.heap.size < w2.heap.size := lt_of_heap K2.out
      go_wp2_with fail
      refine (HPO.out _ B2.out).mono ?_
      rintro e w3 ⟨⟨v3, rfl, hv3⟩, hb3⟩
      have B3 := Lib.hid (belStep B2.out hb3)
      have K3 := Lib.hid ((hb3.block _ (lt_of_heap K2.out)).trans K2.out)
      have L3 := Lib.hid ((hb3.block _ (lt_of_heap L2.out)).trans L2.out)
      have V3 := Lib.hid hv3
      clear hb3 hv3 p0 p1 p2 p3 p4 p5 p6 p7 p8 p9 p10 p11 p12 p13 zk2
      obtain ⟨p0, -, p1, -, p2, -, p3, -, p4, -, p5, -, p6, -, p7, -, p8, -, p9, -, p10, -, p11, -, p12, -, p13, -⟩ := cells14 K3.out
      have zk3 : w.heap.size < w3.heap.size := lt_of_heap K3.out
      go_wp2_with fail
      refine (HDP.out _ B3.out).mono ?_
      rintro e w4 ⟨rfl, hb4⟩
      have B4 := Lib.hid (belStep B3.out hb4)
      have K4 := Lib.hid ((hb4.block _ (lt_of_heap K3.out)).trans K3.out)
      have L4 := Lib.hid ((hb4.block _ (lt_of_heap L3.out)).trans L3.out)
      have V4 := Lib.hid (V3.out.below hb4)
      have KS := Lib.hid (fun (W : World) (hb : Below w4.heap.size w4 W) => HKS.out w4 W K4.out L4.out hb)
      have BW := Lib.hid (fun (W : World) (hb : Below w4.heap.size w4 W) => belStep B4.out hb)
      have VW := Lib.hid (fun (W : World) (hb : Below w4.heap.size w4 W) => V4.out.below hb)
      clear hb4 p0 p1 p2 p3 p4 p5 p6 p7 p8 p9 p10 p11 p12 p13 zk3 HKS
      have hb0 : Below w4.heap.size w4 w4 := Below.refl _ _
      generalize decide (m.k < 1 ∨ 10 < m.k) = nm at hhe HNM
      go_wp2_with fail
      go_region_held3 (fun W => Below w4.heap.size w4 W ∧ W.cell? ⟨w.heap.size, 0, none⟩ = some (.int .i64 m.k) ∧ W.cell? ⟨w.heap.size, 1, none⟩ = some (.int .i64 m.fr) ∧ W.cell? ⟨w.heap.size, 2, none⟩ = some (.int .i64 m.id) ∧ W.cell? ⟨w.heap.size, 3, none⟩ = some (.int .i64 m.t) ∧ W.cell? ⟨w.heap.size, 4, none⟩ = some (.int .i64 m.bal) ∧ W.cell? ⟨w.heap.size, 5, none⟩ = some (.int .i64 m.abal) ∧ W.cell? ⟨w.heap.size, 6, none⟩ = some (.int .i64 m.ph) ∧ W.cell? ⟨w.heap.size, 7, none⟩ = some (.int .i64 m.q) ∧ W.cell? ⟨w.heap.size, 8, none⟩ = some (.string m.pay) ∧ W.cell? ⟨w.heap.size, 9, none⟩ = some (.int .i64 m.lo) ∧ W.cell? ⟨w.heap.size, 10, none⟩ = some (.int .i64 m.hi) ∧ W.cell? ⟨w.heap.size, 11, none⟩ = some (.slice m.aA m.ats.size m.aC) ∧ W.cell? ⟨w.heap.size, 12, none⟩ = some (.slice m.mA m.mks.size m.mC) ∧ W.cell? ⟨w.heap.size, 13, none⟩ = some (.int .i64 m.dn) ∧ W.cell? ⟨w.heap.size + 1, 0, none⟩ = some (.int .i64 n.k) ∧ W.cell? ⟨w.heap.size + 1, 1, none⟩ = some (.int .i64 n.fr) ∧ W.cell? ⟨w.heap.size + 1, 2, none⟩ = some (.int .i64 n.id) ∧ W.cell? ⟨w.heap.size + 1, 3, none⟩ = some (.int .i64 n.t) ∧ W.cell? ⟨w.heap.size + 1, 4, none⟩ = some (.int .i64 n.bal) ∧ W.cell? ⟨w.heap.size + 1, 5, none⟩ = some (.int .i64 n.abal) ∧ W.cell? ⟨w.heap.size + 1, 6, none⟩ = some (.int .i64 n.ph) ∧ W.cell? ⟨w.heap.size + 1, 7, none⟩ = some (.int .i64 n.q) ∧ W.cell? ⟨w.heap.size + 1, 8, none⟩ = some (.string n.pay) ∧ W.cell? ⟨w.heap.size + 1, 9, none⟩ = some (.int .i64 n.lo) ∧ W.cell? ⟨w.heap.size + 1, 10, none⟩ = some (.int .i64 n.hi) ∧ W.cell? ⟨w.heap.size + 1, 11, none⟩ = some (.slice n.aA n.ats.size n.aC) ∧ W.cell? ⟨w.heap.size + 1, 12, none⟩ = some (.slice n.mA n.mks.size n.mC) ∧ W.cell? ⟨w.heap.size + 1, 13, none⟩ = some (.int .i64 n.dn)) (first | exact KS.out _ (by assumption) | exact KS.out _ (Below.drew (by assumption)))
        (first
          | (go_at_call 13; ((with_reducible refine (HCK.out _ (BW.out _ (by first | assumption | exact Below.drew (by assumption)))).mono ?_); rintro e wa ⟨⟨va, rfl, hva⟩, hba⟩; have hbA : Below w4.heap.size w4 wa := belStep (by first | assumption | exact Below.drew (by assumption)) hba; have HVA := Lib.hid hva; clear hva; clear hba))
          | (go_at_call 12; ((with_reducible refine (HCD.out opsc c va _ (BW.out _ (by first | assumption | exact Below.drew (by assumption))) HVA.out).mono ?_); rintro e wa ⟨rfl, hba⟩; have hbA : Below w4.heap.size w4 wa := belStep (by first | assumption | exact Below.drew (by assumption)) hba; clear hba))
          | (go_at_call 12; ((with_reducible refine (HCD.out ops c v3 _ (BW.out _ (by first | assumption | exact Below.drew (by assumption))) (VW.out _ (by first | assumption | exact Below.drew (by assumption)))).mono ?_); rintro e wa ⟨rfl, hba⟩; have hbA : Below w4.heap.size w4 wa := belStep (by first | assumption | exact Below.drew (by assumption)) hba; clear hba))
          | (go_at_call 14; ((with_reducible refine (HDC.out _ (BW.out _ (by first | assumption | exact Below.drew (by assumption)))).mono ?_); rintro e wa ⟨rfl, hba⟩; have hbA : Below w4.heap.size w4 wa := belStep (by first | assumption | exact Below.drew (by assumption)) hba; clear hba))
          | (go_at_call 15; ((with_reducible refine (HSA.out _ (BW.out _ (by first | assumption | exact Below.drew (by assumption)))).mono ?_); rintro e wa ⟨rfl, hba⟩; have hbA : Below w4.heap.size w4 wa := belStep (by first | assumption | exact Below.drew (by assumption)) hba; clear hba))
          | (go_at_call 16; ((with_reducible refine (HSR.out _ (BW.out _ (by first | assumption | exact Below.drew (by assumption)))).mono ?_); rintro e wa ⟨rfl, hba⟩; have hbA : Below w4.heap.size w4 wa := belStep (by first | assumption | exact Below.drew (by assumption)) hba; clear hba))
          | (go_at_call 17; ((with_reducible refine (HNM.out _).mono ?_); rintro e wa ⟨⟨sn, rfl, hsn⟩, hba⟩; have hbA : Below w4.heap.size w4 wa := belStep (by first | assumption | exact Below.drew (by assumption)) hba; clear hba))
          | (go_at_call 18; ((with_reducible refine (HHS.out _).mono ?_); rintro e wa ⟨rfl, hba⟩; have hbA : Below w4.heap.size w4 wa := belStep (by first | assumption | exact Below.drew (by assumption)) hba; clear hba))
          | (go_at_call 9; ((with_reducible refine (HAW.out _ (BW.out _ (by first | assumption | exact Below.drew (by assumption)))).mono ?_); rintro e wa ⟨rfl, hba⟩; have hbA : Below w4.heap.size w4 wa := belStep (by first | assumption | exact Below.drew (by assumption)) hba; clear hba)))
      go_wp2
      go_ret
      exact ⟨rfl, BW.out _ (by assumption)⟩
    · have hff : fewM n = false := by simpa using hfn
      rw [hff] at HFN
      clear hf hfn hff ra rm rb rn hg
      unfold msgV at HFM HFN ⊢
      go_enter Tryz.func3, Tryz.ntmps3
      go_wp2_with fail
      refine (HFM.out _).mono ?_
      rintro e w1 ⟨rfl, hb1⟩
      have B1 := Lib.hid (belStep (belAlloc (bel1 w _) _) hb1)
      have L1 := Lib.hid ((hb1.block (w.heap.size + 1) (by simp)).trans (heap_new2 w _ _))
      clear hb1
      obtain ⟨q0, -, q1, -, q2, -, q3, -, q4, -, q5, -, q6, -, q7, -, q8, -, q9, -, q10, -, q11, -, q12, -, q13, -⟩ := cells14 L1.out
      have zl1 : w.heap.size + 1 < w1.heap.size := lt_of_heap L1.out
      go_wp2_with fail
      refine (HFN.out _).mono ?_
      rintro e w2 ⟨rfl, hb2⟩
      have B2 := Lib.hid (belStep B1.out hb2)
      clear hb2 q0 q1 q2 q3 q4 q5 q6 q7 q8 q9 q10 q11 q12 q13 zl1
      go_wp2_with (go_at_call 9; refine (HAW.out _ B2.out).mono ?_; rintro e w9 ⟨rfl, hb9⟩; have HB9 := Lib.hid (belStep B2.out hb9); clear hb9)
      go_ret
      exact ⟨rfl, HB9.out⟩
  · have hff : fewM m = false := by simpa using hf
    rw [hff] at HFM
    clear hf hff ra rm rb rn hg
    unfold msgV at HFM ⊢
    go_enter Tryz.func3, Tryz.ntmps3
    go_wp2_with fail
    refine (HFM.out _).mono ?_
    rintro e w1 ⟨rfl, hb1⟩
    have B1 := Lib.hid (belStep (belAlloc (bel1 w _) _) hb1)
    clear hb1
    go_wp2_with (go_at_call 9; refine (HAW.out _ B1.out).mono ?_; rintro e w9 ⟨rfl, hb9⟩; have HB9 := Lib.hid (belStep B1.out hb9); clear hb9)
    go_ret
    exact ⟨rfl, HB9.out⟩

set_option maxRecDepth 100000 in
theorem lifted (os : Os) (started : os.Started) (H : Type) (enc : TypeId × Value → H) :
    ReturnsInHanded {} Tryz.checked os 3 .any (fun w args => (Rows.msgPutsSpec.pre enc Tryz.prog Tryz.f3 [] false w args ∧ laidMetH Tryz.prog laidL w) ∧ sizedMet enc Tryz.prog Tryz.f3 (OpenSpec.ofChange Rows.msgPutsSpec) false w args)
      (Rows.msgPutsSpec.post enc Tryz.prog Tryz.f3 false true false false) := by
  refine returnsInHanded_of_change_and (C := Tryz.checked) (X := fun w _ => laidMetH Tryz.prog laidL w) (fun _ _ _ hh h => h.of_heap hh) own started (by kernel_rfl) Tryz.func3
    (ChangeSpec.witness_at (enc := enc) (C := Tryz.checked) (os := os) (X := fun w _ => laidMetH Tryz.prog laidL w) false (laidWorld os) #[.agg #[.int .i64 0, .int .i64 0, .int .i64 0, .int .i64 0, .int .i64 0, .int .i64 0, .int .i64 0, .int .i64 0, .string ⟨#[]⟩, .int .i64 0, .int .i64 0, .slice none 0 0, .slice none 0 0, .int .i64 0], .agg #[.int .i64 0, .int .i64 0, .int .i64 0, .int .i64 0, .int .i64 0, .int .i64 0, .int .i64 0, .int .i64 0, .string ⟨#[]⟩, .int .i64 0, .int .i64 0, .slice none 0 0, .slice none 0 0, .int .i64 0]] 8 rfl (by kernel_rfl) (by kernel_rfl) (by kernel_rfl) (by kernel_rfl) (by kernel_rfl) (laidWorld_met os _)) ?_
  intro W base args ds gs before hval0 hW _ _ hL _
  have hval : ∀ (j : Nat) t v, Tryz.f3.params[j]? = some t → args[j]? = some v → Value.okWide Tryz.prog W .any base t v := hval0
  have hW' := hW
  obtain ⟨p, q, hA0, hV, rfl, _, _⟩ := hW
  have hA : DataW.TrodAll enc Tryz.prog W 0 (fun _ => true) true Tryz.f3.params.toList args.toList ds p := hA0
  rw [Tryz.params3] at hA hval
  have hg := glob_of_laid hL
  obtain ⟨v0, v1, d0, d1, p0, p1, rfl, rfl, rfl, h0, h1⟩ := trodAll_two hA
  obtain ⟨rfl, rfl⟩ := trodVars_none hV
  obtain ⟨m0, rfl, ra0, rm0⟩ := open_msg (hval 0 25 v0 rfl rfl) h0
  obtain ⟨m1, rfl, ra1, rm1⟩ := open_msg (hval 1 25 v1 rfl rfl) h1
  refine (walk m0 m1 W hg ra0 rm0 ra1 rm1).mono fun e W' ⟨he, hb⟩ => ?_
  subst he
  exact ⟨_, rfl, law_post (tb := 4) laidOut (by decide +kernel) rfl hW' rfl rfl rfl rfl Tryz.underlying4 hb⟩

theorem over : Rows.msgPutsRow.holds Tryz.pinned (OpenSpec.ofChange Rows.msgPutsSpec) :=
  OpenClaim.holds_of_wide 3 Tryz.f3 rfl rfl rfl rfl rfl rfl rfl ⟨rfl, rfl, rfl, rfl, rfl⟩ rfl rfl rfl rfl rfl (by kernel_rfl) Tryz.func3 (by kernel_rfl)
    (of_decide_eq_true (by kernel_rfl)) (by unfold Func.isWrapper; first | (rw [if_pos (by decide +kernel)]; kernel_rfl) | (rw [if_neg (by decide +kernel)]; exact ⟨rfl, rfl⟩))
    (fun os started H enc _ => lifted os started H enc)
theorem noStand : ∀ (f : FuncId) (fn : Func), Tryz.prog.funcNamed "rubato/rubatolaw09.MsgPuts" = some f → Tryz.prog.funcs[f]? = some fn → true = Tryz.prog.looks [] ∧ ∀ (j : Nat) t, fn.params[j]? = some t → Tryz.prog.wantsStandIn t = false := fun f fn hf hfn => by
  obtain rfl : f = 3 := Option.some.inj ((show Tryz.prog.funcNamed "rubato/rubatolaw09.MsgPuts" = some 3 by kernel_rfl).symm.trans hf) |>.symm
  obtain rfl : fn = Tryz.f3 := (Option.some.inj (Tryz.func3.symm.trans hfn)).symm
  refine ⟨by kernel_rfl, fun j t ht => ?_⟩
  rw [Tryz.params3] at ht
  have hs : t = 25 := by
    rcases j with _ | j
    · simpa using ht.symm
    rcases j with _ | j
    · simpa using ht.symm
    simp at ht
  rcases hs with rfl
  · exact (show Tryz.prog.wantsStandIn 25 = false by kernel_rfl)
theorem proved : Rows.MsgPutsCardSaid :=
  Claim7.holds_tied_plain_at .later [] [.handle] true Rows.msgPutsCard.stood.harness true over (fun _ h => by cases h) (by kernel_rfl) (fun _ h => by cases h) msgPuts_row_tie rfl ⟨rfl, rfl⟩ (by kernel_rfl) (by kernel_rfl) noStand (by kernel_rfl)
#print axioms proved
end Go.Proofs.YtlpplnmmcgdooaaGreatDoor.msgPuts
