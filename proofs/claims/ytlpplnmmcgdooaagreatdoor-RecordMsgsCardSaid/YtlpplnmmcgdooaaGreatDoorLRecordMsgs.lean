/- The law RecordMsgs returns true for every input, and changes nothing that lay there; the variable errors.errorType holds what the program's text lays into it. No other condition. -/
import Derived.Test.YtlpplnmmcgdooaaGreatDoorAwkA
import Derived.Test.YtlpplnmmcgdooaaGreatDoorOpenM
import Derived.Test.YtlpplnmmcgdooaaGreatDoorLaw
import Derived.Test.YtlpplnmmcgdooaaGreatDoorDocI
import Derived.Test.YtlpplnmmcgdooaaGreatDoorAwkR
namespace Go.Proofs.YtlpplnmmcgdooaaGreatDoor.recordMsgs
open Go.ChangeShapes Go.WideShapes Go.ChangeAt Go.RowKit Go.Sort Nb

theorem sameM_symm {a b : PM} (h : sameM a b = true) : sameM b a = true := by
  rw [sameM_iff] at h ⊢
  obtain ⟨h1, h2, h3, h4, h5, h6, h7, h8, h9, h10, h11, h12, h13, h14⟩ := h
  exact ⟨h1.symm, h2.symm, h3.symm, h4.symm, h5.symm, h6.symm, h7.symm, h8.symm, h9.symm, h10.symm, h11.symm, h12.symm, h13.symm, h14.symm⟩
theorem neqEv_self (k : Int) (d : ByteArray) (w : World) : (binOp .neq 47 (.agg #[.int .i64 k, .string d]) (.agg #[.int .i64 k, .string d])).run Tryz.prog w = .ok (.bool false) w := by
  have hS : Tryz.prog.underlying 47 = some (.struct (Tryz.prog.fieldsOf 47)) := by kernel_rfl
  have hp : Tryz.prog.stoodInHeld 47 = false := by kernel_rfl
  have u3 := Tryz.underlying3
  have u9 := Tryz.underlying9
  rw [run_neq_struct, show (10000 : Nat) = 9999 + 1 from rfl, run_equalIn_agg w 9999 47 _ _ hS hp]
  simp only [Program.fieldsOf, Tryz.underlying47]
  go_simp
set_option maxRecDepth 100000 in
set_option maxHeartbeats 8000000 in
theorem walk (m : PM) (ev : Int × ByteArray) (w : World) (hg : Glob w) (ra : RdK encA 2 w.heap.size w m.aA m.ats) (rm : RdI w.heap.size w m.mA m.mks) :
    Calls Tryz.prog 6 #[msgV m, .agg #[.int .i64 ev.1, .string ev.2]] w fun e w' => e = .returned (.bool true) ∧ Below w.heap.size w w' := by
  obtain ⟨ek, ed⟩ := ev
  dsimp only
  have HFM := Lib.hid (fun W => Few_any m W)
  have HAW := Lib.hid (fun (W : World) (h : Below w.heap.size w W) => awake11_any W (hg.below h))
  by_cases hf : fewM m = true
  case neg =>
    have hff : fewM m = false := by simpa using hf
    rw [hff] at HFM
    clear hf hff ra rm hg
    unfold msgV at HFM ⊢
    go_enter Tryz.func6, Tryz.ntmps6
    go_wp2_with fail
    refine (HFM.out _).mono ?_
    rintro e w1 ⟨rfl, hb1⟩
    have B1 := Lib.hid (belStep (belAlloc (bel1 w _) _) hb1)
    clear hb1
    go_wp2_with (go_at_call 23; refine (HAW.out _ B1.out).mono ?_; rintro e w9 ⟨rfl, hb9⟩; have HB9 := Lib.hid (belStep B1.out hb9); clear hb9)
    go_ret
    exact ⟨rfl, HB9.out⟩
  rw [hf] at HFM
  by_cases hed : 6000 < ed.size
  case pos =>
    have d1 : decide ((6000 : Int) < (ed.size : Int)) = true := by simp; omega
    clear hf ra rm hg hed
    unfold msgV at HFM ⊢
    go_enter Tryz.func6, Tryz.ntmps6
    go_wp2_with fail
    refine (HFM.out _).mono ?_
    rintro e w1 ⟨rfl, hb1⟩
    have B1 := Lib.hid (belStep (belAlloc (bel1 w _) _) hb1)
    have L1 := Lib.hid ((hb1.block (w.heap.size + 1) (by simp)).trans (heap_new2 w _ _))
    clear hb1
    obtain ⟨q0, q1, -, -⟩ := cells2s L1.out
    have zl1 : w.heap.size + 1 < w1.heap.size := lt_of_heap L1.out
    go_wp2_with (go_at_call 23; refine (HAW.out _ B1.out).mono ?_; rintro e w9 ⟨rfl, hb9⟩; have HB9 := Lib.hid (belStep B1.out hb9); clear hb9)
    go_ret
    exact ⟨rfl, HB9.out⟩
  have d1 : decide ((6000 : Int) < (ed.size : Int)) = false := by simp; omega
  have hrm : RdM w m := fewM_rd hf ra rm
  have HCD := Lib.hid (fun (ops : List ByteArray) (c : Int) (v : Value) (W : World) (h : Below w.heap.size w W) (hv : ErrV W ops c v) => Code_any ops c v W (hg.below h) hv)
  have HSE := Lib.hid (fun (W : World) (h : Below w.heap.size w W) => sent_any ek ed W (hg.below h) (by omega))
  have HSD := Lib.hid (fun (W : World) => rSent_any ek ed W (by omega))
  have HRM := Lib.hid hrm
  have HSAll := Lib.hid (fun (a b : PM) (W : World) (ha : RdM W a) (hb : RdM W b) => rSame_any a b W ha hb)
  obtain ⟨kk, dd, ops0, HRC, HRD, HNX⟩ : ∃ (kk : Int) (dd : ByteArray) (ops : List ByteArray), Hid (∀ W, Below w.heap.size w W → Calls Tryz.prog 31 #[msgV m] W fun e w' => (∃ v, e = .returned (.tuple #[.agg #[.int .i64 kk, .string dd], v]) ∧ ErrV w' ops (chkM m) v) ∧ Below W.heap.size W w') ∧ Hid (∀ W, Below w.heap.size w W → Calls Tryz.prog 32 #[msgV m] W fun e w' => e = .returned (.tuple #[.agg #[.int .i64 kk, .string dd], .int .i64 (chkM m)]) ∧ Below W.heap.size W w') ∧ Hid (∀ W, Below w.heap.size w W → Calls Tryz.prog 33 #[.agg #[.int .i64 kk, .string dd]] W fun e w' => (∃ n v ops, e = .returned (.tuple #[msgV n, v]) ∧ RdM w' n ∧ ErrV w' ops (if chkM m = 0 then 0 else 30) v ∧ (chkM m = 0 → sameM n m = true)) ∧ Below W.heap.size W w') := by
    by_cases h0 : chkM m = 0
    · have hok := okM_of h0
      have hbl := msgB_le hok
      have hsz : (⟨(msgB m).toArray⟩ : ByteArray).size ≤ 1000000 := by rw [str_size]; omega
      refine ⟨2, ⟨(msgB m).toArray⟩, [], fun W hb => ?_, fun W hb => ?_, fun W hb => ?_⟩
      · have := rcv_any m W (hrm.next hb)
        unfold RecvP at this
        simp only [h0, if_true] at this
        rw [h0]
        exact this
      · have := rRcv_any m W (hrm.next hb)
        simp only [h0, if_true] at this
        rw [h0]
        exact this
      · refine (sent_any 2 ⟨(msgB m).toArray⟩ W (hg.below hb) hsz).mono ?_
        rintro e w' ⟨⟨n, v, ops, he, hn, hev, -, -, hy⟩, hb'⟩
        have hs0 : sentC 2 ⟨(msgB m).toArray⟩ = 0 := by
          unfold sentC
          rw [if_pos rfl]
          exact takeC_laid m h0
        rw [hs0] at hev
        obtain ⟨aA, aC, mA, mC, rfl⟩ := hy hs0
        refine ⟨⟨_, v, ops, he, hn, by rw [if_pos h0]; exact hev, fun _ => ?_⟩, hb'⟩
        have := raw_same m hok [] aA aC mA mC
        rw [List.append_nil] at this
        exact sameM_symm this
    · refine ⟨0, ⟨#[]⟩, [recvW, msgW], fun W hb => ?_, fun W hb => ?_, fun W hb => ?_⟩
      · have := rcv_any m W (hrm.next hb)
        unfold RecvP at this
        simp only [if_neg h0] at this
        exact this
      · have := rRcv_any m W (hrm.next hb)
        simp only [if_neg h0] at this
        exact this
      · refine (sent_any 0 ⟨#[]⟩ W (hg.below hb) (by decide)).mono ?_
        rintro e w' ⟨⟨n, v, ops, he, hn, hev, -, -, -⟩, hb'⟩
        exact ⟨⟨n, v, ops, he, hn, by rw [if_neg h0]; exact hev, fun h => absurd h h0⟩, hb'⟩
  have hne := neqEv_self kk dd
  have hgd := evGuard
  unfold msgV at HFM HRC HRD ⊢
  generalize hcm : chkM m = c at HRC HRD HNX
  clear hf ra rm hg hed hrm hcm
  go_enter Tryz.func6, Tryz.ntmps6
  go_wp2_with fail
  refine (HFM.out _).mono ?_
  rintro e w1 ⟨rfl, hb1⟩
  have B1 := Lib.hid (belStep (belAlloc (bel1 w _) _) hb1)
  have K1 : Hid (w1.heap[w.heap.size]? = some (.cells #[.int .i64 m.k, .int .i64 m.fr, .int .i64 m.id, .int .i64 m.t, .int .i64 m.bal, .int .i64 m.abal, .int .i64 m.ph, .int .i64 m.q, .string m.pay, .int .i64 m.lo, .int .i64 m.hi, .slice m.aA m.ats.size m.aC, .slice m.mA m.mks.size m.mC, .int .i64 m.dn] 25 (0, 0))) := (hb1.block _ (by simp; omega)).trans ((Below.heap_alloc _ _ _ (by simp)).trans (heap_new w _))
  have L1 : Hid (w1.heap[w.heap.size + 1]? = some (.cells #[.int .i64 ek, .string ed] 47 (0, 0))) := (hb1.block _ (by simp)).trans (heap_new2 w _ _)
  clear hb1
  obtain ⟨q0, q1, -, -⟩ := cells2s L1.out
  have zl1 : w.heap.size + 1 < w1.heap.size := lt_of_heap L1.out
  obtain ⟨p0, -, p1, -, p2, -, p3, -, p4, -, p5, -, p6, -, p7, -, p8, -, p9, -, p10, -, p11, -, p12, -, p13, -⟩ := cells14 K1.out
  go_wp2_with fail
  refine (HRC.out _ B1.out).mono ?_
  rintro e w2 ⟨⟨v2, rfl, hv2⟩, hb2⟩
  have B2 := Lib.hid (belStep B1.out hb2)
  have K2 := Lib.hid ((hb2.block _ (lt_of_heap K1.out)).trans K1.out)
  have L2 := Lib.hid ((hb2.block _ (lt_of_heap L1.out)).trans L1.out)
  have V2 := Lib.hid hv2
  clear hb2 hv2 q0 q1 zl1 p0 p1 p2 p3 p4 p5 p6 p7 p8 p9 p10 p11 p12 p13
  obtain ⟨p0, -, p1, -, p2, -, p3, -, p4, -, p5, -, p6, -, p7, -, p8, -, p9, -, p10, -, p11, -, p12, -, p13, -⟩ := cells14 K2.out
  have zk2 : w.heap.size < w2.heap.size := lt_of_heap K2.out
  go_wp2_with fail
  refine (HRD.out _ (belAlloc B2.out _)).mono ?_
  rintro e w3 ⟨rfl, hb3⟩
  have hb23 := belStep (bel1 w2 _) hb3
  have B3 := Lib.hid (belStep B2.out hb23)
  have K3 := Lib.hid ((hb23.block _ (lt_of_heap K2.out)).trans K2.out)
  have L3 := Lib.hid ((hb23.block _ (lt_of_heap L2.out)).trans L2.out)
  have V3 := Lib.hid (V2.out.below hb23)
  have A3 := Lib.hid (heap_box hb3)
  clear hb3 hb23 zk2 p0 p1 p2 p3 p4 p5 p6 p7 p8 p9 p10 p11 p12 p13
  obtain ⟨q0, q1, -, -⟩ := cells2s L3.out
  have zl3 : w.heap.size + 1 < w3.heap.size := lt_of_heap L3.out
  go_wp2_with fail
  refine (HSE.out _ (belAlloc B3.out _)).mono ?_
  rintro e w4 ⟨⟨mc, v4, ops4, rfl, hrc, hev4, -, hz4, hy4⟩, hb4⟩
  have hb34 := belStep (bel1 w3 _) hb4
  have B4 := Lib.hid (belStep B3.out hb34)
  have K4 := Lib.hid ((hb34.block _ (lt_of_heap K3.out)).trans K3.out)
  have L4 := Lib.hid ((hb34.block _ (lt_of_heap L3.out)).trans L3.out)
  have V4 := Lib.hid (V3.out.below hb34)
  have U4 := Lib.hid hev4
  have A4 := Lib.hid ((hb34.block _ (lt_of_heap A3.out)).trans A3.out)
  have N4 := Lib.hid (heap_box hb4)
  have R4 := Lib.hid hrc
  have HZ4 := Lib.hid hz4
  have HY4 := Lib.hid hy4
  have HMV : Hid (∀ x, msgV x = .agg #[.int .i64 x.k, .int .i64 x.fr, .int .i64 x.id, .int .i64 x.t, .int .i64 x.bal, .int .i64 x.abal, .int .i64 x.ph, .int .i64 x.q, .string x.pay, .int .i64 x.lo, .int .i64 x.hi, .slice x.aA x.ats.size x.aC, .slice x.mA x.mks.size x.mC, .int .i64 x.dn]) := fun _ => rfl
  clear hb4 hb34 hrc hev4 hz4 hy4 q0 q1 zl3
  unfold msgV
  obtain ⟨q0, q1, -, -⟩ := cells2s L4.out
  have zl4 : w.heap.size + 1 < w4.heap.size := lt_of_heap L4.out
  go_wp2_with fail
  refine (HSD.out _).mono ?_
  rintro e w5 ⟨⟨md, rfl, hrd, hz5, hy5⟩, hb5⟩
  have hsm : sameM mc md = true := by
    by_cases h0 : sentC ek ed = 0
    · obtain ⟨a1, a2, a3, a4, rfl⟩ := HY4.out h0
      obtain ⟨b1, b2, b3, b4, rfl⟩ := hy5 h0
      exact pmOf_same _ _ _ _ _ _ _ _ _
    · rw [HZ4.out h0, hz5 h0]
      exact sameM_self _
  have hb45 := belStep (bel1 w4 _) hb5
  have B5 := Lib.hid (belStep B4.out hb45)
  have K5 := Lib.hid ((hb45.block _ (lt_of_heap K4.out)).trans K4.out)
  have V5 := Lib.hid (V4.out.below hb45)
  have U5 := Lib.hid (U4.out.below hb45)
  have A5 := Lib.hid ((hb45.block _ (lt_of_heap A4.out)).trans A4.out)
  have N5 := Lib.hid ((hb45.block _ (lt_of_heap N4.out)).trans N4.out)
  have C5 := Lib.hid (heap_box hb5)
  have R5 := Lib.hid (R4.out.next hb45)
  have S5 := Lib.hid hrd
  have HSX : Hid (∀ W, RdM W mc → RdM W md → Calls Tryz.prog 16 #[msgV mc, msgV md] W fun e w' => e = .returned (.bool true) ∧ Below W.heap.size W w') := fun W h1 h2 => by
    have := HSAll.out mc md W h1 h2
    rw [hsm] at this
    exact this
  generalize (sentC ek ed : Int) = c2 at U5 ⊢
  clear hb5 hb45 hrd hz5 hy5 hsm q0 q1 zl4 HZ4 HY4 U4
  unfold msgV at HSX ⊢
  go_upto_region 7 with (fail)
  have B6 := Lib.hid (belAlloc B5.out (.cells #[.int .i64 md.k, .int .i64 md.fr, .int .i64 md.id, .int .i64 md.t, .int .i64 md.bal, .int .i64 md.abal, .int .i64 md.ph, .int .i64 md.q, .string md.pay, .int .i64 md.lo, .int .i64 md.hi, .slice md.aA md.ats.size md.aC, .slice md.mA md.mks.size md.mC, .int .i64 md.dn] 25))
  have K6 := Lib.hid ((Below.heap_alloc w5 (.cells #[.int .i64 md.k, .int .i64 md.fr, .int .i64 md.id, .int .i64 md.t, .int .i64 md.bal, .int .i64 md.abal, .int .i64 md.ph, .int .i64 md.q, .string md.pay, .int .i64 md.lo, .int .i64 md.hi, .slice md.aA md.ats.size md.aC, .slice md.mA md.mks.size md.mC, .int .i64 md.dn] 25) _ (lt_of_heap K5.out)).trans K5.out)
  have V6 := Lib.hid (V5.out.below (bel1 w5 (.cells #[.int .i64 md.k, .int .i64 md.fr, .int .i64 md.id, .int .i64 md.t, .int .i64 md.bal, .int .i64 md.abal, .int .i64 md.ph, .int .i64 md.q, .string md.pay, .int .i64 md.lo, .int .i64 md.hi, .slice md.aA md.ats.size md.aC, .slice md.mA md.mks.size md.mC, .int .i64 md.dn] 25)))
  have U6 := Lib.hid (U5.out.below (bel1 w5 (.cells #[.int .i64 md.k, .int .i64 md.fr, .int .i64 md.id, .int .i64 md.t, .int .i64 md.bal, .int .i64 md.abal, .int .i64 md.ph, .int .i64 md.q, .string md.pay, .int .i64 md.lo, .int .i64 md.hi, .slice md.aA md.ats.size md.aC, .slice md.mA md.mks.size md.mC, .int .i64 md.dn] 25)))
  have A6 := Lib.hid ((Below.heap_alloc w5 (.cells #[.int .i64 md.k, .int .i64 md.fr, .int .i64 md.id, .int .i64 md.t, .int .i64 md.bal, .int .i64 md.abal, .int .i64 md.ph, .int .i64 md.q, .string md.pay, .int .i64 md.lo, .int .i64 md.hi, .slice md.aA md.ats.size md.aC, .slice md.mA md.mks.size md.mC, .int .i64 md.dn] 25) _ (lt_of_heap A5.out)).trans A5.out)
  have N6 := Lib.hid ((Below.heap_alloc w5 (.cells #[.int .i64 md.k, .int .i64 md.fr, .int .i64 md.id, .int .i64 md.t, .int .i64 md.bal, .int .i64 md.abal, .int .i64 md.ph, .int .i64 md.q, .string md.pay, .int .i64 md.lo, .int .i64 md.hi, .slice md.aA md.ats.size md.aC, .slice md.mA md.mks.size md.mC, .int .i64 md.dn] 25) _ (lt_of_heap N5.out)).trans N5.out)
  have C6 := Lib.hid ((Below.heap_alloc w5 (.cells #[.int .i64 md.k, .int .i64 md.fr, .int .i64 md.id, .int .i64 md.t, .int .i64 md.bal, .int .i64 md.abal, .int .i64 md.ph, .int .i64 md.q, .string md.pay, .int .i64 md.lo, .int .i64 md.hi, .slice md.aA md.ats.size md.aC, .slice md.mA md.mks.size md.mC, .int .i64 md.dn] 25) _ (lt_of_heap C5.out)).trans C5.out)
  have D6 := Lib.hid (heap_new w5 (.cells #[.int .i64 md.k, .int .i64 md.fr, .int .i64 md.id, .int .i64 md.t, .int .i64 md.bal, .int .i64 md.abal, .int .i64 md.ph, .int .i64 md.q, .string md.pay, .int .i64 md.lo, .int .i64 md.hi, .slice md.aA md.ats.size md.aC, .slice md.mA md.mks.size md.mC, .int .i64 md.dn] 25))
  have R6 := Lib.hid (R5.out.next (bel1 w5 (.cells #[.int .i64 md.k, .int .i64 md.fr, .int .i64 md.id, .int .i64 md.t, .int .i64 md.bal, .int .i64 md.abal, .int .i64 md.ph, .int .i64 md.q, .string md.pay, .int .i64 md.lo, .int .i64 md.hi, .slice md.aA md.ats.size md.aC, .slice md.mA md.mks.size md.mC, .int .i64 md.dn] 25)))
  have S6 := Lib.hid (S5.out.next (bel1 w5 (.cells #[.int .i64 md.k, .int .i64 md.fr, .int .i64 md.id, .int .i64 md.t, .int .i64 md.bal, .int .i64 md.abal, .int .i64 md.ph, .int .i64 md.q, .string md.pay, .int .i64 md.lo, .int .i64 md.hi, .slice md.aA md.ats.size md.aC, .slice md.mA md.mks.size md.mC, .int .i64 md.dn] 25)))
  generalize w5.alloc (.cells #[.int .i64 md.k, .int .i64 md.fr, .int .i64 md.id, .int .i64 md.t, .int .i64 md.bal, .int .i64 md.abal, .int .i64 md.ph, .int .i64 md.q, .string md.pay, .int .i64 md.lo, .int .i64 md.hi, .slice md.aA md.ats.size md.aC, .slice md.mA md.mks.size md.mC, .int .i64 md.dn] 25) = w6 at B6 K6 V6 U6 A6 N6 C6 D6 R6 S6 ⊢
  obtain ⟨a0, a1, -, -⟩ := cells2s A6.out
  obtain ⟨n0, n1, -, -⟩ := cells2s N6.out
  have za : w2.heap.size < w6.heap.size := lt_of_heap A6.out
  have zn : w3.heap.size < w6.heap.size := lt_of_heap N6.out
  go_wp2_with fail
  refine (HCD.out ops0 c v2 _ B6.out V6.out).mono ?_
  rintro e w7 ⟨rfl, hb7⟩
  have B7 := Lib.hid (belStep B6.out hb7)
  have K7 := Lib.hid ((hb7.block _ (lt_of_heap K6.out)).trans K6.out)
  have U7 := Lib.hid (U6.out.below hb7)
  have A7 := Lib.hid ((hb7.block _ (lt_of_heap A6.out)).trans A6.out)
  have C7 := Lib.hid ((hb7.block _ (lt_of_heap C6.out)).trans C6.out)
  have D7 := Lib.hid ((hb7.block _ (lt_of_heap D6.out)).trans D6.out)
  have R7 := Lib.hid (R6.out.next hb7)
  have S7 := Lib.hid (S6.out.next hb7)
  clear hb7 a0 a1 n0 n1 za zn
  obtain ⟨p0, -, p1, -, p2, -, p3, -, p4, -, p5, -, p6, -, p7, -, p8, -, p9, -, p10, -, p11, -, p12, -, p13, -⟩ := cells14 C7.out
  obtain ⟨q0, -, q1, -, q2, -, q3, -, q4, -, q5, -, q6, -, q7, -, q8, -, q9, -, q10, -, q11, -, q12, -, q13, -⟩ := cells14 D7.out
  have zc : w4.heap.size < w7.heap.size := lt_of_heap C7.out
  have zd : w5.heap.size < w7.heap.size := lt_of_heap D7.out
  go_wp2_with fail
  refine (HSX.out _ R7.out S7.out).mono ?_
  rintro e w8 ⟨rfl, hb8⟩
  have B8 := Lib.hid (belStep B7.out hb8)
  have K8 := Lib.hid ((hb8.block _ (lt_of_heap K7.out)).trans K7.out)
  have U8 := Lib.hid (U7.out.below hb8)
  have A8 := Lib.hid ((hb8.block _ (lt_of_heap A7.out)).trans A7.out)
  clear hb8 zc zd p0 p1 p2 p3 p4 p5 p6 p7 p8 p9 p10 p11 p12 p13 q0 q1 q2 q3 q4 q5 q6 q7 q8 q9 q10 q11 q12 q13
  go_wp2_with fail
  refine (HCD.out ops4 c2 v4 _ B8.out U8.out).mono ?_
  rintro e w9 ⟨rfl, hb9⟩
  have B9 := Lib.hid (belStep B8.out hb9)
  have K9 := Lib.hid ((hb9.block _ (lt_of_heap K8.out)).trans K8.out)
  have A9 := Lib.hid ((hb9.block _ (lt_of_heap A8.out)).trans A8.out)
  clear hb9
  obtain ⟨a0, a1, -, -⟩ := cells2s A9.out
  have za : w2.heap.size < w9.heap.size := lt_of_heap A9.out
  go_wp2_with fail
  refine (HNX.out _ B9.out).mono ?_
  rintro e w10 ⟨⟨n, v10, ops10, rfl, hrn, hev10, hsn⟩, hb10⟩
  have B10 := Lib.hid (belAlloc (belStep B9.out hb10) (.cells #[.int .i64 n.k, .int .i64 n.fr, .int .i64 n.id, .int .i64 n.t, .int .i64 n.bal, .int .i64 n.abal, .int .i64 n.ph, .int .i64 n.q, .string n.pay, .int .i64 n.lo, .int .i64 n.hi, .slice n.aA n.ats.size n.aC, .slice n.mA n.mks.size n.mC, .int .i64 n.dn] 25))
  have K10 := Lib.hid ((Below.heap_alloc w10 (.cells #[.int .i64 n.k, .int .i64 n.fr, .int .i64 n.id, .int .i64 n.t, .int .i64 n.bal, .int .i64 n.abal, .int .i64 n.ph, .int .i64 n.q, .string n.pay, .int .i64 n.lo, .int .i64 n.hi, .slice n.aA n.ats.size n.aC, .slice n.mA n.mks.size n.mC, .int .i64 n.dn] 25) _ (lt_of_heap ((hb10.block _ (lt_of_heap K9.out)).trans K9.out))).trans ((hb10.block _ (lt_of_heap K9.out)).trans K9.out))
  have G10 := Lib.hid (heap_new w10 (.cells #[.int .i64 n.k, .int .i64 n.fr, .int .i64 n.id, .int .i64 n.t, .int .i64 n.bal, .int .i64 n.abal, .int .i64 n.ph, .int .i64 n.q, .string n.pay, .int .i64 n.lo, .int .i64 n.hi, .slice n.aA n.ats.size n.aC, .slice n.mA n.mks.size n.mC, .int .i64 n.dn] 25))
  have R10 := Lib.hid (hrn.next (bel1 w10 (.cells #[.int .i64 n.k, .int .i64 n.fr, .int .i64 n.id, .int .i64 n.t, .int .i64 n.bal, .int .i64 n.abal, .int .i64 n.ph, .int .i64 n.q, .string n.pay, .int .i64 n.lo, .int .i64 n.hi, .slice n.aA n.ats.size n.aC, .slice n.mA n.mks.size n.mC, .int .i64 n.dn] 25)))
  have V10 := Lib.hid (hev10.below (bel1 w10 (.cells #[.int .i64 n.k, .int .i64 n.fr, .int .i64 n.id, .int .i64 n.t, .int .i64 n.bal, .int .i64 n.abal, .int .i64 n.ph, .int .i64 n.q, .string n.pay, .int .i64 n.lo, .int .i64 n.hi, .slice n.aA n.ats.size n.aC, .slice n.mA n.mks.size n.mC, .int .i64 n.dn] 25)))
  clear hb10 hrn hev10 a0 a1 za
  unfold msgV
  by_cases h0 : c = 0
  · rw [if_pos h0] at V10
    have hsame := hsn h0
    have hc0 : (c != 0) = false := by simp [h0]
    have HSY : Hid (∀ W, RdM W n → RdM W m → Calls Tryz.prog 16 #[msgV n, msgV m] W fun e w' => e = .returned (.bool true) ∧ Below W.heap.size W w') := fun W h1 h2 => by
      have := HSAll.out n m W h1 h2
      rw [hsame] at this
      exact this
    unfold msgV at HSY
    clear h0 hsn hsame
    go_upto_region 10 with (fail)
    generalize w10.alloc (.cells #[.int .i64 n.k, .int .i64 n.fr, .int .i64 n.id, .int .i64 n.t, .int .i64 n.bal, .int .i64 n.abal, .int .i64 n.ph, .int .i64 n.q, .string n.pay, .int .i64 n.lo, .int .i64 n.hi, .slice n.aA n.ats.size n.aC, .slice n.mA n.mks.size n.mC, .int .i64 n.dn] 25) = w11 at B10 K10 G10 R10 V10 ⊢
    obtain ⟨p0, -, p1, -, p2, -, p3, -, p4, -, p5, -, p6, -, p7, -, p8, -, p9, -, p10, -, p11, -, p12, -, p13, -⟩ := cells14 G10.out
    obtain ⟨q0, -, q1, -, q2, -, q3, -, q4, -, q5, -, q6, -, q7, -, q8, -, q9, -, q10, -, q11, -, q12, -, q13, -⟩ := cells14 K10.out
    have zg : w10.heap.size < w11.heap.size := lt_of_heap G10.out
    have zk : w.heap.size < w11.heap.size := lt_of_heap K10.out
    go_wp2_with fail
    refine (HSY.out _ R10.out (HRM.out.next B10.out)).mono ?_
    rintro e w12 ⟨rfl, hb12⟩
    have B12 := Lib.hid (belStep B10.out hb12)
    have V12 := Lib.hid (V10.out.below hb12)
    clear hb12 zg zk p0 p1 p2 p3 p4 p5 p6 p7 p8 p9 p10 p11 p12 p13 q0 q1 q2 q3 q4 q5 q6 q7 q8 q9 q10 q11 q12 q13
    go_wp2_with fail
    refine (HCD.out ops10 0 v10 _ B12.out V12.out).mono ?_
    rintro e w13 ⟨rfl, hb13⟩
    have B13 := Lib.hid (belStep B12.out hb13)
    clear hb13
    go_wp2_with (go_at_call 23; refine (HAW.out _ B13.out).mono ?_; rintro e w14 ⟨rfl, hb14⟩; have HB14 := Lib.hid (belStep B13.out hb14); clear hb14)
    go_ret
    exact ⟨rfl, HB14.out⟩
  · have hc0 : (c != 0) = true := by simpa using h0
    clear h0 hsn
    go_upto_region 10 with (fail)
    generalize w10.alloc (.cells #[.int .i64 n.k, .int .i64 n.fr, .int .i64 n.id, .int .i64 n.t, .int .i64 n.bal, .int .i64 n.abal, .int .i64 n.ph, .int .i64 n.q, .string n.pay, .int .i64 n.lo, .int .i64 n.hi, .slice n.aA n.ats.size n.aC, .slice n.mA n.mks.size n.mC, .int .i64 n.dn] 25) = w11 at B10 K10 G10 R10 V10 ⊢
    go_wp2_with (go_at_call 23; refine (HAW.out _ B10.out).mono ?_; rintro e w14 ⟨rfl, hb14⟩; have HB14 := Lib.hid (belStep B10.out hb14); clear hb14)
    go_ret
    exact ⟨rfl, HB14.out⟩

set_option maxRecDepth 100000 in
theorem lifted (os : Os) (started : os.Started) (H : Type) (enc : TypeId × Value → H) :
    ReturnsInHanded {} Tryz.checked os 6 .any (fun w args => (Rows.recordMsgsSpec.pre enc Tryz.prog Tryz.f6 [] false w args ∧ laidMetH Tryz.prog laidL w) ∧ sizedMet enc Tryz.prog Tryz.f6 (OpenSpec.ofChange Rows.recordMsgsSpec) false w args)
      (Rows.recordMsgsSpec.post enc Tryz.prog Tryz.f6 false true false false) := by
  refine returnsInHanded_of_change_and (C := Tryz.checked) (X := fun w _ => laidMetH Tryz.prog laidL w) (fun _ _ _ hh h => h.of_heap hh) own started (by kernel_rfl) Tryz.func6
    (ChangeSpec.witness_at (enc := enc) (C := Tryz.checked) (os := os) (X := fun w _ => laidMetH Tryz.prog laidL w) false (laidWorld os) #[.agg #[.int .i64 0, .int .i64 0, .int .i64 0, .int .i64 0, .int .i64 0, .int .i64 0, .int .i64 0, .int .i64 0, .string ⟨#[]⟩, .int .i64 0, .int .i64 0, .slice none 0 0, .slice none 0 0, .int .i64 0], .agg #[.int .i64 0, .string ⟨#[]⟩]] 8 rfl (by kernel_rfl) (by kernel_rfl) (by kernel_rfl) (by kernel_rfl) (by kernel_rfl) (laidWorld_met os _)) ?_
  intro W base args ds gs before hval0 hW _ _ hL _
  have hval : ∀ (j : Nat) t v, Tryz.f6.params[j]? = some t → args[j]? = some v → Value.okWide Tryz.prog W .any base t v := hval0
  have hW' := hW
  obtain ⟨p, q, hA0, hV, rfl, _, _⟩ := hW
  have hA : DataW.TrodAll enc Tryz.prog W 0 (fun _ => true) true Tryz.f6.params.toList args.toList ds p := hA0
  rw [Tryz.params6] at hA hval
  have hg := glob_of_laid hL
  obtain ⟨v0, v1, d0, d1, p0, p1, rfl, rfl, rfl, h0, h1⟩ := trodAll_two hA
  obtain ⟨rfl, rfl⟩ := trodVars_none hV
  obtain ⟨m0, rfl, ra0, rm0⟩ := open_msg (hval 0 25 v0 rfl rfl) h0
  obtain ⟨k1, s1, rfl⟩ := open_event (hval 1 47 v1 rfl rfl) h1
  refine (walk m0 (k1, s1) W hg ra0 rm0).mono fun e W' ⟨he, hb⟩ => ?_
  subst he
  exact ⟨_, rfl, law_post (tb := 4) laidOut (by decide +kernel) rfl hW' rfl rfl rfl rfl Tryz.underlying4 hb⟩

theorem over : Rows.recordMsgsRow.holds Tryz.pinned (OpenSpec.ofChange Rows.recordMsgsSpec) :=
  OpenClaim.holds_of_wide 6 Tryz.f6 rfl rfl rfl rfl rfl rfl rfl ⟨rfl, rfl, rfl, rfl, rfl⟩ rfl rfl rfl rfl rfl (by kernel_rfl) Tryz.func6 (by kernel_rfl)
    (of_decide_eq_true (by kernel_rfl)) (by unfold Func.isWrapper; first | (rw [if_pos (by decide +kernel)]; kernel_rfl) | (rw [if_neg (by decide +kernel)]; exact ⟨rfl, rfl⟩))
    (fun os started H enc _ => lifted os started H enc)
theorem noStand : ∀ (f : FuncId) (fn : Func), Tryz.prog.funcNamed "rubato/rubatolaw11.RecordMsgs" = some f → Tryz.prog.funcs[f]? = some fn → true = Tryz.prog.looks [] ∧ ∀ (j : Nat) t, fn.params[j]? = some t → Tryz.prog.wantsStandIn t = false := fun f fn hf hfn => by
  obtain rfl : f = 6 := Option.some.inj ((show Tryz.prog.funcNamed "rubato/rubatolaw11.RecordMsgs" = some 6 by kernel_rfl).symm.trans hf) |>.symm
  obtain rfl : fn = Tryz.f6 := (Option.some.inj (Tryz.func6.symm.trans hfn)).symm
  refine ⟨by kernel_rfl, fun j t ht => ?_⟩
  rw [Tryz.params6] at ht
  have hs : t = 47 ∨ t = 25 := by
    rcases j with _ | j
    · (right; simpa using ht.symm)
    rcases j with _ | j
    · (left; simpa using ht.symm)
    simp at ht
  rcases hs with rfl | rfl
  · exact (show Tryz.prog.wantsStandIn 47 = false by kernel_rfl)
  · exact (show Tryz.prog.wantsStandIn 25 = false by kernel_rfl)
theorem proved : Rows.RecordMsgsCardSaid :=
  Claim7.holds_tied_plain_at .later [] [.handle] true Rows.recordMsgsCard.stood.harness true over (fun _ h => by cases h) (by kernel_rfl) (fun _ h => by cases h) recordMsgs_row_tie rfl ⟨rfl, rfl⟩ (by kernel_rfl) (by kernel_rfl) noStand (by kernel_rfl)
#print axioms proved
end Go.Proofs.YtlpplnmmcgdooaaGreatDoor.recordMsgs
