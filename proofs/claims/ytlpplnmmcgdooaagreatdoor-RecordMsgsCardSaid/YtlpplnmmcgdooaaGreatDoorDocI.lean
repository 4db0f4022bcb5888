/- The document's Recv and Sent (rubatoref11). -/
import Derived.Test.YtlpplnmmcgdooaaGreatDoorRecE
import Derived.Test.YtlpplnmmcgdooaaGreatDoorDocZ
import Derived.Test.YtlpplnmmcgdooaaGreatDoorDocX
namespace Go.Proofs.YtlpplnmmcgdooaaGreatDoor
open Go.RowKit Go.Sort Nb

set_option maxRecDepth 100000 in
set_option maxHeartbeats 2000000 in
theorem rRcv_any (m : PM) (w : World) (hm : RdM w m) :
    Calls Tryz.prog 32 #[msgV m] w fun e w' => e = .returned (.tuple #[.agg #[.int .i64 (if chkM m = 0 then 2 else 0), .string (if chkM m = 0 then ⟨(msgB m).toArray⟩ else ⟨#[]⟩)], .int .i64 (chkM m)]) ∧ Below w.heap.size w w' := by
  by_cases h0 : chkM m = 0
  · have HP := Lib.hid (fun W (h : Below w.heap.size w W) => dPutOk_of dChk_any m W (hm.next h) h0)
    simp only [h0, if_true]
    unfold msgV at HP ⊢
    obtain ⟨bs, hbs⟩ : ∃ x : ByteArray, x = ⟨(msgB m).toArray⟩ := ⟨_, rfl⟩
    rw [← hbs] at HP ⊢
    clear hm h0 hbs
    go_enter Tryz.func32, Tryz.ntmps32
    go_wp2_with fail
    refine (HP.out _ (belAlloc (bel1 w _) _)).mono ?_
    rintro e w1 ⟨rfl, hb1⟩
    have B1 := Lib.hid (belStep (belAlloc (bel1 w _) _) hb1)
    have Z1 : Hid (w1.heap[w.heap.size + 1]? = some (.cells #[.int .i64 0, .string ⟨#[]⟩] 47 (0, 0))) := (hb1.block _ (by simp)).trans (heap_new2 w _ _)
    have HALL := Lib.hid (And.intro (heap2s Z1.out (.int .i64 2) (.string bs)) (bel2s B1.out (by omega : w.heap.size ≤ w.heap.size + 1) (.int .i64 2) (.string bs)))
    obtain ⟨x0, x1, u0, u1⟩ := cells2s Z1.out
    have z1 : w.heap.size + 1 < w1.heap.size := lt_of_heap Z1.out
    clear hb1 HP
    go_wp2
    generalize ((w1.setCell ⟨w.heap.size + 1, 0, none⟩ (.int .i64 2)).setCell ⟨w.heap.size + 1, 1, none⟩ (.string bs)) = wf at HALL ⊢
    obtain ⟨hF, hFin⟩ := HALL.out
    obtain ⟨y0, y1, -, -⟩ := cells2s hF
    refine bodyPost_ret (v := .tuple #[.agg #[.int .i64 2, .string bs], .int .i64 0]) (by simp [results, Tryz.results32, go_sem, y0, y1]) rfl ?_
    exact ⟨rfl, hFin⟩
  · have HP := Lib.hid (fun W (h : Below w.heap.size w W) => dPutBad_of dChk_any m W (hm.next h) h0)
    simp only [if_neg h0]
    unfold msgV at HP ⊢
    generalize chkM m = c at HP h0 ⊢
    have h0' : (c != 0) = true := by simpa using h0
    clear hm h0
    go_enter Tryz.func32, Tryz.ntmps32
    go_wp2_with fail
    refine (HP.out _ (belAlloc (bel1 w _) _)).mono ?_
    rintro e w1 ⟨rfl, hb1⟩
    have B1 := Lib.hid (belStep (belAlloc (bel1 w _) _) hb1)
    have Z1 : Hid (w1.heap[w.heap.size + 1]? = some (.cells #[.int .i64 0, .string ⟨#[]⟩] 47 (0, 0))) := (hb1.block _ (by simp)).trans (heap_new2 w _ _)
    have HALL := Lib.hid (And.intro (heap2s Z1.out (.int .i64 0) (.string ⟨#[]⟩)) (bel2s B1.out (by omega : w.heap.size ≤ w.heap.size + 1) (.int .i64 0) (.string ⟨#[]⟩)))
    obtain ⟨x0, x1, u0, u1⟩ := cells2s Z1.out
    have z1 : w.heap.size + 1 < w1.heap.size := lt_of_heap Z1.out
    clear hb1 HP
    go_wp2
    generalize ((w1.setCell ⟨w.heap.size + 1, 0, none⟩ (.int .i64 0)).setCell ⟨w.heap.size + 1, 1, none⟩ (.string ⟨#[]⟩)) = wf at HALL ⊢
    obtain ⟨hF, hFin⟩ := HALL.out
    obtain ⟨y0, y1, -, -⟩ := cells2s hF
    refine bodyPost_ret (v := .tuple #[.agg #[.int .i64 0, .string ⟨#[]⟩], .int .i64 c]) (by simp [results, Tryz.results32, go_sem, y0, y1]) rfl ?_
    exact ⟨rfl, hFin⟩
/-- What Sent tells. -/
def DSentP (k : Int) (d : ByteArray) (e : Ending) (w' : World) : Prop := ∃ m, e = .returned (.tuple #[msgV m, .int .i64 (sentC k d : Int)]) ∧ RdM w' m ∧ (sentC k d ≠ 0 → m = zM) ∧ (sentC k d = 0 → ∃ aA aC mA mC, m = pmOf (rawOf d.data.toList) aA aC mA mC)
set_option maxRecDepth 100000 in
set_option maxHeartbeats 4000000 in
theorem rSent_any (k : Int) (d : ByteArray) (w : World) (hd : d.size ≤ 1000000) :
    Calls Tryz.prog 34 #[.agg #[.int .i64 k, .string d]] w fun e w' => DSentP k d e w' ∧ Below w.heap.size w w' := by
  by_cases h2 : k = 2
  · have HS : Hid (sentC k d = takeC d.data.toList) := by show _ = _; unfold sentC; rw [if_pos h2]
    have HTK := Lib.hid (fun (W : World) => dTakeB_any d W hd)
    have h2' : (k != 2) = false := by simpa using h2
    clear h2 hd
    go_enter Tryz.func34, Tryz.ntmps34
    go_wp2_with fail
    refine (HTK.out _).mono ?_
    rintro e w1 ⟨⟨m, rfl, hrm, hz, hy, hba, hbm⟩, hb1⟩
    rw [← HS.out] at hz hy ⊢
    have HRM := Lib.hid hrm
    have HY := Lib.hid hy
    have HZZ := Lib.hid hz
    have HNA : Hid (∀ a, m.aA = some a → a.block ≠ w.heap.size + 1) := fun a ha => by have := hba a ha; simp at this; omega
    have HNM : Hid (∀ a, m.mA = some a → a.block ≠ w.heap.size + 1) := fun a ha => by have := hbm a ha; simp at this; omega
    have B1 := Lib.hid (belStep (belAlloc (bel1 w _) _) hb1)
    have Z1 : Hid (w1.heap[w.heap.size + 1]? = some (.cells (mCs 0 0 0 0 0 0 0 0 ⟨#[]⟩ 0 0 (.slice none 0 0) (.slice none 0 0) 0) 25 (0, 0))) := (hb1.block _ (by simp)).trans (heap_new2 w _ _)
    clear hrm hy hz hba hbm hb1 HTK
    unfold msgV
    have HALL := Lib.hid (And.intro (heap14 Z1.out (.int .i64 m.k) (.int .i64 m.fr) (.int .i64 m.id) (.int .i64 m.t) (.int .i64 m.bal) (.int .i64 m.abal) (.int .i64 m.ph) (.int .i64 m.q) (.string m.pay) (.int .i64 m.lo) (.int .i64 m.hi) (.slice m.aA m.ats.size m.aC) (.slice m.mA m.mks.size m.mC) (.int .i64 m.dn)) (And.intro (same14 w1 (w.heap.size + 1) (.int .i64 m.k) (.int .i64 m.fr) (.int .i64 m.id) (.int .i64 m.t) (.int .i64 m.bal) (.int .i64 m.abal) (.int .i64 m.ph) (.int .i64 m.q) (.string m.pay) (.int .i64 m.lo) (.int .i64 m.hi) (.slice m.aA m.ats.size m.aC) (.slice m.mA m.mks.size m.mC) (.int .i64 m.dn)) (bel14 B1.out (by omega : w.heap.size ≤ w.heap.size + 1) (.int .i64 m.k) (.int .i64 m.fr) (.int .i64 m.id) (.int .i64 m.t) (.int .i64 m.bal) (.int .i64 m.abal) (.int .i64 m.ph) (.int .i64 m.q) (.string m.pay) (.int .i64 m.lo) (.int .i64 m.hi) (.slice m.aA m.ats.size m.aC) (.slice m.mA m.mks.size m.mC) (.int .i64 m.dn))))
    obtain ⟨u0, x0, u1, x1, u2, x2, u3, x3, u4, x4, u5, x5, u6, x6, u7, x7, u8, x8, u9, x9, u10, x10, u11, x11, u12, x12, u13, x13⟩ := cells14 Z1.out
    have zz : w.heap.size + 1 < w1.heap.size := lt_of_heap Z1.out
    go_wp2
    generalize ((((((((((((((w1.setCell ⟨w.heap.size + 1, 0, none⟩ (.int .i64 m.k)).setCell ⟨w.heap.size + 1, 1, none⟩ (.int .i64 m.fr)).setCell ⟨w.heap.size + 1, 2, none⟩ (.int .i64 m.id)).setCell ⟨w.heap.size + 1, 3, none⟩ (.int .i64 m.t)).setCell ⟨w.heap.size + 1, 4, none⟩ (.int .i64 m.bal)).setCell ⟨w.heap.size + 1, 5, none⟩ (.int .i64 m.abal)).setCell ⟨w.heap.size + 1, 6, none⟩ (.int .i64 m.ph)).setCell ⟨w.heap.size + 1, 7, none⟩ (.int .i64 m.q)).setCell ⟨w.heap.size + 1, 8, none⟩ (.string m.pay)).setCell ⟨w.heap.size + 1, 9, none⟩ (.int .i64 m.lo)).setCell ⟨w.heap.size + 1, 10, none⟩ (.int .i64 m.hi)).setCell ⟨w.heap.size + 1, 11, none⟩ (.slice m.aA m.ats.size m.aC)).setCell ⟨w.heap.size + 1, 12, none⟩ (.slice m.mA m.mks.size m.mC)).setCell ⟨w.heap.size + 1, 13, none⟩ (.int .i64 m.dn)) = wf at HALL ⊢
    obtain ⟨hF, hSM, hFin⟩ := HALL.out
    obtain ⟨y0, -, y1, -, y2, -, y3, -, y4, -, y5, -, y6, -, y7, -, y8, -, y9, -, y10, -, y11, -, y12, -, y13, -⟩ := cells14 hF
    refine bodyPost_ret (v := .tuple #[.agg #[.int .i64 m.k, .int .i64 m.fr, .int .i64 m.id, .int .i64 m.t, .int .i64 m.bal, .int .i64 m.abal, .int .i64 m.ph, .int .i64 m.q, .string m.pay, .int .i64 m.lo, .int .i64 m.hi, .slice m.aA m.ats.size m.aC, .slice m.mA m.mks.size m.mC, .int .i64 m.dn], .int .i64 (sentC k d : Int)]) (by simp [results, Tryz.results34, go_sem, y0, y1, y2, y3, y4, y5, y6, y7, y8, y9, y10, y11, y12, y13]) rfl ?_
    exact ⟨⟨m, rfl, ⟨HRM.out.ra.grown hSM HNA.out, HRM.out.rm.grown hSM HNM.out, HRM.out.sa, HRM.out.sm, HRM.out.sp⟩, HZZ.out, HY.out⟩, hFin⟩
  · have HS : Hid (sentC k d = 30) := by show _ = _; unfold sentC; rw [if_neg h2]
    have h2' : (k != 2) = true := by simpa using h2
    clear h2 hd
    go_enter Tryz.func34, Tryz.ntmps34
    go_wp2
    exact bodyPost_ret (v := .tuple #[.agg #[.int .i64 0, .int .i64 0, .int .i64 0, .int .i64 0, .int .i64 0, .int .i64 0, .int .i64 0, .int .i64 0, .string ⟨#[]⟩, .int .i64 0, .int .i64 0, .slice none 0 0, .slice none 0 0, .int .i64 0], .int .i64 30]) (by simp [results, Tryz.results34, go_sem]) rfl ⟨⟨zM, by rw [HS.out]; rfl, zM_rd _, fun _ => rfl, fun h => by rw [HS.out] at h; cases h⟩, belAlloc (bel1 w _) _⟩
end Go.Proofs.YtlpplnmmcgdooaaGreatDoor
