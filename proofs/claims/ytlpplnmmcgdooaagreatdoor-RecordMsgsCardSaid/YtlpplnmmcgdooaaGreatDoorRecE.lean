/- record.Recv, record.Sent. -/
import Derived.Test.YtlpplnmmcgdooaaGreatDoorRecD
namespace Go.Proofs.YtlpplnmmcgdooaaGreatDoor
open Go.RowKit Go.Sort Nb

/-- The bytes of 'recv', of 'sent'. -/
def recvW : ByteArray := ⟨#[114, 101, 99, 118]⟩
def sentW : ByteArray := ⟨#[115, 101, 110, 116]⟩
theorem heap2s {w : World} {g : Nat} {y0 y1 : Value} {T : TypeId} (h : w.heap[g]? = some (.cells #[y0, y1] T (0, 0))) (z0 z1 : Value) : ((w.setCell ⟨g, 0, none⟩ z0).setCell ⟨g, 1, none⟩ z1).heap[g]? = some (.cells #[z0, z1] T (0, 0)) := by
  rw [heap_set (heap_set h 0 z0) 1 z1]; rfl
theorem same2s (a : World) (g : Nat) (z0 z1 : Value) : a.grownBy ((a.setCell ⟨g, 0, none⟩ z0).setCell ⟨g, 1, none⟩ z1) (some g) :=
  grown_setCell (grown_setCell (World.grownBy.refl a (some g)) (p := ⟨g, 0, none⟩) rfl z0) (p := ⟨g, 1, none⟩) rfl z1
theorem bel2s {w a : World} {g : Nat} (h : Below w.heap.size w a) (hg : w.heap.size ≤ g) (z0 z1 : Value) : Below w.heap.size w ((a.setCell ⟨g, 0, none⟩ z0).setCell ⟨g, 1, none⟩ z1) := below_of_grown h (same2s a g z0 z1) hg
theorem cells2s {w : World} {g : Nat} {z0 z1 : Value} {T : TypeId} (h : w.heap[g]? = some (.cells #[z0, z1] T (0, 0))) :
    w.cell? ⟨g, 0, none⟩ = some z0 ∧ w.cell? ⟨g, 1, none⟩ = some z1 ∧ w.frozen? ⟨g, 0, none⟩ = false ∧ w.frozen? ⟨g, 1, none⟩ = false :=
  ⟨by rw [heap_cell h]; rfl, by rw [heap_cell h]; rfl, Lib.frozen_of_heap h 0, Lib.frozen_of_heap h 1⟩
theorem ev_noFault (k : Int) (d : ByteArray) : NoFault #[.int .i64 k, .string d] := by
  intro o op t x h1 h2
  match o, h1, h2 with
  | 0, h1, _ => simp at h1
  | 1, _, h2 => simp at h2
  | o + 2, h1, _ => simp at h1
/-- What Recv tells. -/
def RecvP (m : PM) (e : Ending) (w' : World) : Prop := ∃ v, e = .returned (.tuple #[.agg #[.int .i64 (if chkM m = 0 then 2 else 0), .string (if chkM m = 0 then ⟨(msgB m).toArray⟩ else ⟨#[]⟩)], v]) ∧ ErrV w' (if chkM m = 0 then [] else [recvW, msgW]) (chkM m) v
set_option maxRecDepth 100000 in
set_option maxHeartbeats 2000000 in
theorem rcv_any (m : PM) (w : World) (hm : RdM w m) :
    Calls Tryz.prog 31 #[msgV m] w fun e w' => RecvP m e w' ∧ Below w.heap.size w w' := by
  unfold RecvP
  by_cases h0 : chkM m = 0
  · have HP := Lib.hid (fun W (h : Below w.heap.size w W) => mPutOk_any m W (hm.next h) h0)
    simp only [h0, if_true]
    unfold msgV at HP ⊢
    obtain ⟨bs, hbs⟩ : ∃ x : ByteArray, x = ⟨(msgB m).toArray⟩ := ⟨_, rfl⟩
    rw [← hbs] at HP ⊢
    clear hm h0 hbs
    go_enter Tryz.func31, Tryz.ntmps31
    go_wp2_with fail
    refine (HP.out _ (belAlloc (bel1 w _) _)).mono ?_
    rintro e w1 ⟨rfl, hb1⟩
    have B1 := Lib.hid (belStep (belAlloc (bel1 w _) _) hb1)
    have Z1 : Hid (w1.heap[w.heap.size + 1]? = some (.cells #[.int .i64 0, .string ⟨#[]⟩] 47 (0, 0))) := (hb1.block _ (by simp)).trans (heap_new2 w _ _)
    have HALL := Lib.hid (And.intro (heap2s Z1.out (.int .i64 2) (.string bs)) (bel2s B1.out (by omega : w.heap.size ≤ w.heap.size + 1) (.int .i64 2) (.string bs)))
    obtain ⟨x0, x1, u0, u1⟩ := cells2s Z1.out
    have z1 : w.heap.size + 1 < w1.heap.size := lt_of_heap Z1.out
    clear hb1 HP
    go_wp2
    generalize ((w1.setCell ⟨w.heap.size + 1, 0, none⟩ (.int .i64 2)).setCell ⟨w.heap.size + 1, 1, none⟩ (.string bs)) = wf at HALL ⊢
    obtain ⟨hF, hFin⟩ := HALL.out
    obtain ⟨y0, y1, -, -⟩ := cells2s hF
    refine bodyPost_ret (v := .tuple #[.agg #[.int .i64 2, .string bs], .nilIface]) (by simp [results, Tryz.results31, go_sem, y0, y1]) rfl ?_
    exact ⟨⟨_, rfl, Or.inl ⟨rfl, rfl, rfl⟩⟩, hFin⟩
  · have HP := Lib.hid (fun W (h : Below w.heap.size w W) => mPutBad_any m W (hm.next h) h0)
    unfold PutBad at HP
    simp only [if_neg h0]
    unfold msgV at HP ⊢
    generalize chkM m = c at HP h0 ⊢
    have H0 := Lib.hid h0
    clear hm h0
    go_enter Tryz.func31, Tryz.ntmps31
    go_wp2_with fail
    refine (HP.out _ (belAlloc (bel1 w _) _)).mono ?_
    rintro e w1 ⟨⟨v, rfl, hev⟩, hb1⟩
    have hch := errChain hev H0.out
    have HWr := Lib.hid (Wrap_any recvW [msgW] c v w1 hch)
    obtain ⟨t1, q1, rfl⟩ : ∃ t u, v = .iface t u := chain_iface hch
    have B1 := Lib.hid (belStep (belAlloc (bel1 w _) _) hb1)
    have Z1 : Hid (w1.heap[w.heap.size + 1]? = some (.cells #[.int .i64 0, .string ⟨#[]⟩] 47 (0, 0))) := (hb1.block _ (by simp)).trans (heap_new2 w _ _)
    clear hev hch hb1 HP
    go_wp2_with fail
    refine HWr.out.mono ?_
    rintro e w2 ⟨v2, rfl, hch2, hb2⟩
    have HCH := Lib.hid hch2
    have B2 := Lib.hid (belStep B1.out hb2)
    have Z2 := Lib.hid ((hb2.block _ (lt_of_heap Z1.out)).trans Z1.out)
    have HALL := Lib.hid (And.intro (heap2s Z2.out (.int .i64 0) (.string ⟨#[]⟩)) (And.intro (same2s w2 (w.heap.size + 1) (.int .i64 0) (.string ⟨#[]⟩)) (bel2s B2.out (by omega : w.heap.size ≤ w.heap.size + 1) (.int .i64 0) (.string ⟨#[]⟩))))
    obtain ⟨x0, x1, u0, u1⟩ := cells2s Z2.out
    have z1 : w.heap.size + 1 < w2.heap.size := lt_of_heap Z2.out
    clear hb2 hch2 HWr
    go_wp2
    generalize ((w2.setCell ⟨w.heap.size + 1, 0, none⟩ (.int .i64 0)).setCell ⟨w.heap.size + 1, 1, none⟩ (.string ⟨#[]⟩)) = wf at HALL ⊢
    obtain ⟨hF, hsm, hFin⟩ := HALL.out
    obtain ⟨y0, y1, -, -⟩ := cells2s hF
    refine bodyPost_ret (v := .tuple #[.agg #[.int .i64 0, .string ⟨#[]⟩], v2]) (by simp [results, Tryz.results31, go_sem, y0, y1]) rfl ?_
    exact ⟨⟨_, rfl, Or.inr ⟨H0.out, chain_grown Z2.out (ev_noFault _ _) hsm HCH.out⟩⟩, hFin⟩
/-- Sent's code. -/
def sentC (k : Int) (d : ByteArray) : Nat := if k = 2 then takeC d.data.toList else 30
/-- What Sent tells. -/
def SentP (k : Int) (d : ByteArray) (e : Ending) (w' : World) : Prop := ∃ m v ops, e = .returned (.tuple #[msgV m, v]) ∧ RdM w' m ∧ ErrV w' ops (sentC k d : Int) v ∧ ops.length ≤ 20 ∧ (sentC k d ≠ 0 → m = zM) ∧ (sentC k d = 0 → ∃ aA aC mA mC, m = pmOf (rawOf d.data.toList) aA aC mA mC)
set_option maxRecDepth 100000 in
set_option maxHeartbeats 4000000 in
theorem sent_any (k : Int) (d : ByteArray) (w : World) (hg : Glob w) (hd : d.size ≤ 1000000) :
    Calls Tryz.prog 33 #[.agg #[.int .i64 k, .string d]] w fun e w' => SentP k d e w' ∧ Below w.heap.size w w' := by
  by_cases h2 : k = 2
  · have HS : Hid (sentC k d = takeC d.data.toList) := by show _ = _; unfold sentC; rw [if_pos h2]
    have HTK := Lib.hid (fun (W : World) (hb : Below w.heap.size w W) => mTakeB_any d W (hg.below hb) hd)
    have h2' : (k != 2) = false := by simpa using h2
    clear h2 hg hd
    go_enter Tryz.func33, Tryz.ntmps33
    go_wp2_with fail
    refine (HTK.out _ (belAlloc (bel1 w _) _)).mono ?_
    rintro e w1 ⟨⟨m, v, ops, rfl, hrm, hev, hol, hz, hy, hba, hbm⟩, hb1⟩
    have HRM := Lib.hid hrm
    have HOL := Lib.hid hol
    have HY := Lib.hid hy
    have HZZ := Lib.hid hz
    have HNA : Hid (∀ a, m.aA = some a → a.block ≠ w.heap.size + 1) := fun a ha => by have := hba a ha; simp at this; omega
    have HNM : Hid (∀ a, m.mA = some a → a.block ≠ w.heap.size + 1) := fun a ha => by have := hbm a ha; simp at this; omega
    have B1 := Lib.hid (belStep (belAlloc (bel1 w _) _) hb1)
    have Z1 : Hid (w1.heap[w.heap.size + 1]? = some (.cells (mCs 0 0 0 0 0 0 0 0 ⟨#[]⟩ 0 0 (.slice none 0 0) (.slice none 0 0) 0) 25 (0, 0))) := (hb1.block _ (by simp)).trans (heap_new2 w _ _)
    clear hrm hol hy hz hba hbm hb1 HTK
    have HMV : Hid (msgV m = .agg #[.int .i64 m.k, .int .i64 m.fr, .int .i64 m.id, .int .i64 m.t, .int .i64 m.bal, .int .i64 m.abal, .int .i64 m.ph, .int .i64 m.q, .string m.pay, .int .i64 m.lo, .int .i64 m.hi, .slice m.aA m.ats.size m.aC, .slice m.mA m.mks.size m.mC, .int .i64 m.dn]) := rfl
    unfold msgV
    by_cases h0 : takeC d.data.toList = 0
    · rw [h0] at hev
      obtain rfl : v = .nilIface := errNil hev
      have HT0 : Hid (sentC k d = 0) := by show _ = _; rw [HS.out]; exact h0
      have HY0 := Lib.hid (HY.out h0)
      have B2 := Lib.hid (belAlloc B1.out (.cells #[.int .i64 m.k, .int .i64 m.fr, .int .i64 m.id, .int .i64 m.t, .int .i64 m.bal, .int .i64 m.abal, .int .i64 m.ph, .int .i64 m.q, .string m.pay, .int .i64 m.lo, .int .i64 m.hi, .slice m.aA m.ats.size m.aC, .slice m.mA m.mks.size m.mC, .int .i64 m.dn] 25))
      have Z2 := Lib.hid ((Below.heap_alloc w1 (.cells #[.int .i64 m.k, .int .i64 m.fr, .int .i64 m.id, .int .i64 m.t, .int .i64 m.bal, .int .i64 m.abal, .int .i64 m.ph, .int .i64 m.q, .string m.pay, .int .i64 m.lo, .int .i64 m.hi, .slice m.aA m.ats.size m.aC, .slice m.mA m.mks.size m.mC, .int .i64 m.dn] 25) _ (lt_of_heap Z1.out)).trans Z1.out)
      have R2 := Lib.hid (HRM.out.next (bel1 w1 (.cells #[.int .i64 m.k, .int .i64 m.fr, .int .i64 m.id, .int .i64 m.t, .int .i64 m.bal, .int .i64 m.abal, .int .i64 m.ph, .int .i64 m.q, .string m.pay, .int .i64 m.lo, .int .i64 m.hi, .slice m.aA m.ats.size m.aC, .slice m.mA m.mks.size m.mC, .int .i64 m.dn] 25)))
      have H2 := Lib.hid (heap_new w1 (.cells #[.int .i64 m.k, .int .i64 m.fr, .int .i64 m.id, .int .i64 m.t, .int .i64 m.bal, .int .i64 m.abal, .int .i64 m.ph, .int .i64 m.q, .string m.pay, .int .i64 m.lo, .int .i64 m.hi, .slice m.aA m.ats.size m.aC, .slice m.mA m.mks.size m.mC, .int .i64 m.dn] 25))
      have z1 : w.heap.size + 1 < w1.heap.size := lt_of_heap Z1.out
      clear h0 hev HRM B1 Z1 HS HY HZZ HMV
      go_upto_region 6 with (fail)
      generalize hW : w1.alloc (.cells #[.int .i64 m.k, .int .i64 m.fr, .int .i64 m.id, .int .i64 m.t, .int .i64 m.bal, .int .i64 m.abal, .int .i64 m.ph, .int .i64 m.q, .string m.pay, .int .i64 m.lo, .int .i64 m.hi, .slice m.aA m.ats.size m.aC, .slice m.mA m.mks.size m.mC, .int .i64 m.dn] 25) = W at B2 Z2 R2 H2 ⊢
      have hz2 : w1.heap.size < W.heap.size := by rw [← hW]; simp
      clear hW
      obtain ⟨p0, -, p1, -, p2, -, p3, -, p4, -, p5, -, p6, -, p7, -, p8, -, p9, -, p10, -, p11, -, p12, -, p13, -⟩ := cells14 H2.out
      have HALL := Lib.hid (And.intro (heap14 Z2.out (.int .i64 m.k) (.int .i64 m.fr) (.int .i64 m.id) (.int .i64 m.t) (.int .i64 m.bal) (.int .i64 m.abal) (.int .i64 m.ph) (.int .i64 m.q) (.string m.pay) (.int .i64 m.lo) (.int .i64 m.hi) (.slice m.aA m.ats.size m.aC) (.slice m.mA m.mks.size m.mC) (.int .i64 m.dn)) (And.intro (same14 W (w.heap.size + 1) (.int .i64 m.k) (.int .i64 m.fr) (.int .i64 m.id) (.int .i64 m.t) (.int .i64 m.bal) (.int .i64 m.abal) (.int .i64 m.ph) (.int .i64 m.q) (.string m.pay) (.int .i64 m.lo) (.int .i64 m.hi) (.slice m.aA m.ats.size m.aC) (.slice m.mA m.mks.size m.mC) (.int .i64 m.dn)) (bel14 B2.out (by omega : w.heap.size ≤ w.heap.size + 1) (.int .i64 m.k) (.int .i64 m.fr) (.int .i64 m.id) (.int .i64 m.t) (.int .i64 m.bal) (.int .i64 m.abal) (.int .i64 m.ph) (.int .i64 m.q) (.string m.pay) (.int .i64 m.lo) (.int .i64 m.hi) (.slice m.aA m.ats.size m.aC) (.slice m.mA m.mks.size m.mC) (.int .i64 m.dn))))
      obtain ⟨u0, x0, u1, x1, u2, x2, u3, x3, u4, x4, u5, x5, u6, x6, u7, x7, u8, x8, u9, x9, u10, x10, u11, x11, u12, x12, u13, x13⟩ := cells14 Z2.out
      have zz : w.heap.size + 1 < W.heap.size := lt_of_heap Z2.out
      go_wp2
      generalize ((((((((((((((W.setCell ⟨w.heap.size + 1, 0, none⟩ (.int .i64 m.k)).setCell ⟨w.heap.size + 1, 1, none⟩ (.int .i64 m.fr)).setCell ⟨w.heap.size + 1, 2, none⟩ (.int .i64 m.id)).setCell ⟨w.heap.size + 1, 3, none⟩ (.int .i64 m.t)).setCell ⟨w.heap.size + 1, 4, none⟩ (.int .i64 m.bal)).setCell ⟨w.heap.size + 1, 5, none⟩ (.int .i64 m.abal)).setCell ⟨w.heap.size + 1, 6, none⟩ (.int .i64 m.ph)).setCell ⟨w.heap.size + 1, 7, none⟩ (.int .i64 m.q)).setCell ⟨w.heap.size + 1, 8, none⟩ (.string m.pay)).setCell ⟨w.heap.size + 1, 9, none⟩ (.int .i64 m.lo)).setCell ⟨w.heap.size + 1, 10, none⟩ (.int .i64 m.hi)).setCell ⟨w.heap.size + 1, 11, none⟩ (.slice m.aA m.ats.size m.aC)).setCell ⟨w.heap.size + 1, 12, none⟩ (.slice m.mA m.mks.size m.mC)).setCell ⟨w.heap.size + 1, 13, none⟩ (.int .i64 m.dn)) = wf at HALL ⊢
      obtain ⟨hF, hSM, hFin⟩ := HALL.out
      obtain ⟨y0, -, y1, -, y2, -, y3, -, y4, -, y5, -, y6, -, y7, -, y8, -, y9, -, y10, -, y11, -, y12, -, y13, -⟩ := cells14 hF
      refine bodyPost_ret (v := .tuple #[.agg #[.int .i64 m.k, .int .i64 m.fr, .int .i64 m.id, .int .i64 m.t, .int .i64 m.bal, .int .i64 m.abal, .int .i64 m.ph, .int .i64 m.q, .string m.pay, .int .i64 m.lo, .int .i64 m.hi, .slice m.aA m.ats.size m.aC, .slice m.mA m.mks.size m.mC, .int .i64 m.dn], .nilIface]) (by simp [results, Tryz.results33, go_sem, y0, y1, y2, y3, y4, y5, y6, y7, y8, y9, y10, y11, y12, y13]) rfl ?_
      exact ⟨⟨m, .nilIface, [], rfl, ⟨R2.out.ra.grown hSM HNA.out, R2.out.rm.grown hSM HNM.out, R2.out.sa, R2.out.sm, R2.out.sp⟩, Or.inl ⟨by rw [HT0.out]; rfl, rfl, rfl⟩, by simp, (fun h => absurd HT0.out h), fun _ => HY0.out⟩, hFin⟩
    · have hch := errChain hev (by omega)
      have HTN : Hid (sentC k d ≠ 0) := by show ¬ _; rw [HS.out]; exact h0
      have HWr := Lib.hid (fun W (hb : Below w1.heap.size w1 W) => Wrap_any sentW ops _ v W (hch.below hb))
      obtain ⟨t1, q1, rfl⟩ : ∃ t u, v = .iface t u := chain_iface hch
      clear h0 hev hch HRM HY HZZ HNA HNM HMV
      go_wp2_with fail
      refine (HWr.out _ (bel1 w1 _)).mono ?_
      rintro e w2 ⟨v2, rfl, hch2, hb2⟩
      have HCH := Lib.hid hch2
      have B2 := Lib.hid (belStep (belAlloc B1.out _) hb2)
      have Z2 := Lib.hid ((hb2.block _ (by have := lt_of_heap Z1.out; simp; omega)).trans ((Below.heap_alloc _ _ _ (lt_of_heap Z1.out)).trans Z1.out))
      clear hb2 hch2 HWr B1 Z1
      have HALL := Lib.hid (And.intro (heap14 Z2.out (.int .i64 0) (.int .i64 0) (.int .i64 0) (.int .i64 0) (.int .i64 0) (.int .i64 0) (.int .i64 0) (.int .i64 0) (.string ⟨#[]⟩) (.int .i64 0) (.int .i64 0) (.slice none 0 0) (.slice none 0 0) (.int .i64 0)) (And.intro (same14 w2 (w.heap.size + 1) (.int .i64 0) (.int .i64 0) (.int .i64 0) (.int .i64 0) (.int .i64 0) (.int .i64 0) (.int .i64 0) (.int .i64 0) (.string ⟨#[]⟩) (.int .i64 0) (.int .i64 0) (.slice none 0 0) (.slice none 0 0) (.int .i64 0)) (bel14 B2.out (by omega : w.heap.size ≤ w.heap.size + 1) (.int .i64 0) (.int .i64 0) (.int .i64 0) (.int .i64 0) (.int .i64 0) (.int .i64 0) (.int .i64 0) (.int .i64 0) (.string ⟨#[]⟩) (.int .i64 0) (.int .i64 0) (.slice none 0 0) (.slice none 0 0) (.int .i64 0))))
      obtain ⟨u0, x0, u1, x1, u2, x2, u3, x3, u4, x4, u5, x5, u6, x6, u7, x7, u8, x8, u9, x9, u10, x10, u11, x11, u12, x12, u13, x13⟩ := cells14 Z2.out
      have zz : w.heap.size + 1 < w2.heap.size := lt_of_heap Z2.out
      go_wp2
      generalize ((((((((((((((w2.setCell ⟨w.heap.size + 1, 0, none⟩ (.int .i64 0)).setCell ⟨w.heap.size + 1, 1, none⟩ (.int .i64 0)).setCell ⟨w.heap.size + 1, 2, none⟩ (.int .i64 0)).setCell ⟨w.heap.size + 1, 3, none⟩ (.int .i64 0)).setCell ⟨w.heap.size + 1, 4, none⟩ (.int .i64 0)).setCell ⟨w.heap.size + 1, 5, none⟩ (.int .i64 0)).setCell ⟨w.heap.size + 1, 6, none⟩ (.int .i64 0)).setCell ⟨w.heap.size + 1, 7, none⟩ (.int .i64 0)).setCell ⟨w.heap.size + 1, 8, none⟩ (.string ⟨#[]⟩)).setCell ⟨w.heap.size + 1, 9, none⟩ (.int .i64 0)).setCell ⟨w.heap.size + 1, 10, none⟩ (.int .i64 0)).setCell ⟨w.heap.size + 1, 11, none⟩ (.slice none 0 0)).setCell ⟨w.heap.size + 1, 12, none⟩ (.slice none 0 0)).setCell ⟨w.heap.size + 1, 13, none⟩ (.int .i64 0)) = wf at HALL ⊢
      obtain ⟨hF, hSM, hFin⟩ := HALL.out
      obtain ⟨y0, -, y1, -, y2, -, y3, -, y4, -, y5, -, y6, -, y7, -, y8, -, y9, -, y10, -, y11, -, y12, -, y13, -⟩ := cells14 hF
      refine bodyPost_ret (v := .tuple #[.agg #[.int .i64 0, .int .i64 0, .int .i64 0, .int .i64 0, .int .i64 0, .int .i64 0, .int .i64 0, .int .i64 0, .string ⟨#[]⟩, .int .i64 0, .int .i64 0, .slice none 0 0, .slice none 0 0, .int .i64 0], v2]) (by simp [results, Tryz.results33, go_sem, y0, y1, y2, y3, y4, y5, y6, y7, y8, y9, y10, y11, y12, y13]) rfl ?_
      exact ⟨⟨zM, v2, sentW :: ops, rfl, zM_rd _, Or.inr ⟨by have := HTN.out; omega, by rw [HS.out]; exact chain_grown Z2.out (mCs_noFault _ _ _ _ _ _ _ _ _ _ _ _ _ _ (by simp)) hSM HCH.out⟩, by have := HOL.out; simp; omega, fun _ => rfl, fun h => absurd h HTN.out⟩, hFin⟩
  · have HS : Hid (sentC k d = 30) := by show _ = _; unfold sentC; rw [if_neg h2]
    have HNW := Lib.hid (fun W => New_any sentW 30 W (by omega))
    have h2' : (k != 2) = true := by simpa using h2
    clear h2 hg hd
    go_enter Tryz.func33, Tryz.ntmps33
    go_wp2_with fail
    refine (HNW.out _).mono ?_
    rintro e w2 ⟨v2, rfl, hch2, hb2⟩
    have HCH := Lib.hid hch2
    have B2 := Lib.hid (belStep (belAlloc (bel1 w _) _) hb2)
    have Z2 : Hid (w2.heap[w.heap.size + 1]? = some (.cells (mCs 0 0 0 0 0 0 0 0 ⟨#[]⟩ 0 0 (.slice none 0 0) (.slice none 0 0) 0) 25 (0, 0))) := (hb2.block _ (by simp)).trans (heap_new2 w _ _)
    clear hb2 hch2 HNW
    have HALL := Lib.hid (And.intro (heap14 Z2.out (.int .i64 0) (.int .i64 0) (.int .i64 0) (.int .i64 0) (.int .i64 0) (.int .i64 0) (.int .i64 0) (.int .i64 0) (.string ⟨#[]⟩) (.int .i64 0) (.int .i64 0) (.slice none 0 0) (.slice none 0 0) (.int .i64 0)) (And.intro (same14 w2 (w.heap.size + 1) (.int .i64 0) (.int .i64 0) (.int .i64 0) (.int .i64 0) (.int .i64 0) (.int .i64 0) (.int .i64 0) (.int .i64 0) (.string ⟨#[]⟩) (.int .i64 0) (.int .i64 0) (.slice none 0 0) (.slice none 0 0) (.int .i64 0)) (bel14 B2.out (by omega : w.heap.size ≤ w.heap.size + 1) (.int .i64 0) (.int .i64 0) (.int .i64 0) (.int .i64 0) (.int .i64 0) (.int .i64 0) (.int .i64 0) (.int .i64 0) (.string ⟨#[]⟩) (.int .i64 0) (.int .i64 0) (.slice none 0 0) (.slice none 0 0) (.int .i64 0))))
    obtain ⟨u0, x0, u1, x1, u2, x2, u3, x3, u4, x4, u5, x5, u6, x6, u7, x7, u8, x8, u9, x9, u10, x10, u11, x11, u12, x12, u13, x13⟩ := cells14 Z2.out
    have zz : w.heap.size + 1 < w2.heap.size := lt_of_heap Z2.out
    go_wp2
    generalize ((((((((((((((w2.setCell ⟨w.heap.size + 1, 0, none⟩ (.int .i64 0)).setCell ⟨w.heap.size + 1, 1, none⟩ (.int .i64 0)).setCell ⟨w.heap.size + 1, 2, none⟩ (.int .i64 0)).setCell ⟨w.heap.size + 1, 3, none⟩ (.int .i64 0)).setCell ⟨w.heap.size + 1, 4, none⟩ (.int .i64 0)).setCell ⟨w.heap.size + 1, 5, none⟩ (.int .i64 0)).setCell ⟨w.heap.size + 1, 6, none⟩ (.int .i64 0)).setCell ⟨w.heap.size + 1, 7, none⟩ (.int .i64 0)).setCell ⟨w.heap.size + 1, 8, none⟩ (.string ⟨#[]⟩)).setCell ⟨w.heap.size + 1, 9, none⟩ (.int .i64 0)).setCell ⟨w.heap.size + 1, 10, none⟩ (.int .i64 0)).setCell ⟨w.heap.size + 1, 11, none⟩ (.slice none 0 0)).setCell ⟨w.heap.size + 1, 12, none⟩ (.slice none 0 0)).setCell ⟨w.heap.size + 1, 13, none⟩ (.int .i64 0)) = wf at HALL ⊢
    obtain ⟨hF, hSM, hFin⟩ := HALL.out
    obtain ⟨y0, -, y1, -, y2, -, y3, -, y4, -, y5, -, y6, -, y7, -, y8, -, y9, -, y10, -, y11, -, y12, -, y13, -⟩ := cells14 hF
    refine bodyPost_ret (v := .tuple #[.agg #[.int .i64 0, .int .i64 0, .int .i64 0, .int .i64 0, .int .i64 0, .int .i64 0, .int .i64 0, .int .i64 0, .string ⟨#[]⟩, .int .i64 0, .int .i64 0, .slice none 0 0, .slice none 0 0, .int .i64 0], v2]) (by simp [results, Tryz.results33, go_sem, y0, y1, y2, y3, y4, y5, y6, y7, y8, y9, y10, y11, y12, y13]) rfl ?_
    exact ⟨⟨zM, v2, [sentW], rfl, zM_rd _, Or.inr ⟨by rw [HS.out]; decide, by rw [HS.out]; exact chain_grown Z2.out (mCs_noFault _ _ _ _ _ _ _ _ _ _ _ _ _ _ (by simp)) hSM HCH.out⟩, by simp, fun _ => rfl, fun h => by rw [HS.out] at h; cases h⟩, hFin⟩
end Go.Proofs.YtlpplnmmcgdooaaGreatDoor
