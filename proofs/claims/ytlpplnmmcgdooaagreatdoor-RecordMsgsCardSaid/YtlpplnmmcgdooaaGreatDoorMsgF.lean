/- msg.Check: whether a message may be. -/
import Derived.Test.YtlpplnmmcgdooaaGreatDoorMsgA
import Derived.Test.YtlpplnmmcgdooaaGreatDoorMsgE
import Derived.Test.YtlpplnmmcgdooaaGreatDoorErrB
namespace Go.Proofs.YtlpplnmmcgdooaaGreatDoor
open Go.RowKit Go.Sort Go.Lib

/-- The code: 30, 2, or 0. -/
def chkM (m : PM) : Int := if m.k < 1 ∨ 10 < m.k then 30 else if decide (1 ≤ m.fr ∧ m.fr ≤ 9) && sameM (bareM m) m && mayB m then 0 else 2
/-- The bytes of 'msg'. -/
def msgW : ByteArray := ⟨#[109, 115, 103]⟩
/-- What Check tells. -/
def ChkP (m : PM) (e : Ending) (w' : World) : Prop := ∃ v, e = .returned v ∧ ErrV w' (if chkM m = 0 then [] else [msgW]) (chkM m) v
theorem RdM.bare {w : World} {m : PM} (h : RdM w m) : RdM w (bareM m) := by
  refine ⟨?_, ?_, ?_, ?_, ?_⟩
  · unfold bareM; by_cases hk : m.k = 10
    · simp [hk]; exact h.ra
    · simp [hk]; exact fun h => absurd h (by simp)
  · unfold bareM; by_cases hk : m.k = 10
    · simp [hk]; exact h.rm
    · simp [hk]; exact RdI.none_
  · unfold bareM; by_cases hk : m.k = 10
    · simp [hk]; exact h.sa
    · simp [hk]
  · unfold bareM; by_cases hk : m.k = 10
    · simp [hk]; exact h.sm
    · simp [hk]
  · unfold bareM; have := h.sp; simp only; split
    · exact this
    · simp [ByteArray.size]
set_option maxRecDepth 100000 in
set_option maxHeartbeats 4000000 in
theorem Check_any (m : PM) (w : World) (hm : RdM w m) :
    Calls Tryz.prog 13 #[msgV m] w fun e w' => ChkP m e w' ∧ Below w.heap.size w w' := by
  have HN := Lib.hid (fun W => Name_any m.k W)
  by_cases hk : m.k < 1 ∨ 10 < m.k
  · have HC : Hid (chkM m = 30) := by show _ = _; unfold chkM; rw [if_pos hk]
    have HF := Lib.hid (fun W => New_any msgW 30 W (by omega))
    have hd : decide (m.k < 1 ∨ 10 < m.k) = true := by simpa using hk
    unfold msgV
    clear hk hm
    go_enter Tryz.func13, Tryz.ntmps13
    go_wp2_with fail
    refine (HN.out _).mono ?_
    rintro e w1 ⟨⟨s, rfl, hs⟩, hb1⟩
    rw [hd] at hs
    have HB1 := Lib.hid (belStep (bel1 w _) hb1)
    clear hb1
    go_wp2_with (go_at_call 46; refine (HF.out _).mono ?_; rintro e w2 ⟨v, rfl, hch, hb2⟩; have HCH := Lib.hid hch; have HB2 := Lib.hid (belStep HB1.out hb2); clear hch hb2)
    go_ret
    exact ⟨⟨v, rfl, by rw [HC.out]; exact Or.inr ⟨by omega, by simpa using HCH.out⟩⟩, HB2.out⟩
  · have HK := Lib.hid hk
    have hd : decide (m.k < 1 ∨ 10 < m.k) = false := by simpa using hk
    have h1 : 1 ≤ m.k := by omega
    have h2 : m.k ≤ 10 := by omega
    have HM := Lib.hid hm
    have HMA0 := Lib.hid (fun W (h : Below w.heap.size w W) => mayM_any m W (hm.next h) h1 h2)
    have HBA0 := Lib.hid (fun W => bare_any m W h1 h2)
    have HSA0 := Lib.hid (fun W (h : Below w.heap.size w W) => Same_any (bareM m) m W (hm.next h).bare (hm.next h))
    have HMV : Hid (∀ x, msgV x = .agg #[.int .i64 x.k, .int .i64 x.fr, .int .i64 x.id, .int .i64 x.t, .int .i64 x.bal, .int .i64 x.abal, .int .i64 x.ph, .int .i64 x.q, .string x.pay, .int .i64 x.lo, .int .i64 x.hi, .slice x.aA x.ats.size x.aC, .slice x.mA x.mks.size x.mC, .int .i64 x.dn]) := fun _ => rfl
    obtain ⟨bv, hbv⟩ : ∃ v, msgV (bareM m) = v := ⟨_, rfl⟩
    rw [hbv] at HBA0 HSA0
    unfold msgV at HMA0 HBA0 HSA0 ⊢
    clear hk hm h1 h2 hbv
    go_enter Tryz.func13, Tryz.ntmps13
    go_wp2_with fail
    refine (HN.out _).mono ?_
    rintro e w1 ⟨⟨s, rfl, hs⟩, hb1⟩
    rw [hd] at hs
    have hlt : w.heap.size < w1.heap.size := by have := hb1.size; simp at this; omega
    have q0 : ∀ p : ExtW w1, p.to.cell? ⟨w.heap.size, 0, none⟩ = some (.int .i64 m.k) := fun p => (p.h.cell (p := ⟨w.heap.size, 0, none⟩) hlt).trans ((hb1.cell (p := ⟨w.heap.size, 0, none⟩) (by simp)).trans (by simp))
    have q1 : ∀ p : ExtW w1, p.to.cell? ⟨w.heap.size, 1, none⟩ = some (.int .i64 m.fr) := fun p => (p.h.cell (p := ⟨w.heap.size, 1, none⟩) hlt).trans ((hb1.cell (p := ⟨w.heap.size, 1, none⟩) (by simp)).trans (by simp))
    have q2 : ∀ p : ExtW w1, p.to.cell? ⟨w.heap.size, 2, none⟩ = some (.int .i64 m.id) := fun p => (p.h.cell (p := ⟨w.heap.size, 2, none⟩) hlt).trans ((hb1.cell (p := ⟨w.heap.size, 2, none⟩) (by simp)).trans (by simp))
    have q3 : ∀ p : ExtW w1, p.to.cell? ⟨w.heap.size, 3, none⟩ = some (.int .i64 m.t) := fun p => (p.h.cell (p := ⟨w.heap.size, 3, none⟩) hlt).trans ((hb1.cell (p := ⟨w.heap.size, 3, none⟩) (by simp)).trans (by simp))
    have q4 : ∀ p : ExtW w1, p.to.cell? ⟨w.heap.size, 4, none⟩ = some (.int .i64 m.bal) := fun p => (p.h.cell (p := ⟨w.heap.size, 4, none⟩) hlt).trans ((hb1.cell (p := ⟨w.heap.size, 4, none⟩) (by simp)).trans (by simp))
    have q5 : ∀ p : ExtW w1, p.to.cell? ⟨w.heap.size, 5, none⟩ = some (.int .i64 m.abal) := fun p => (p.h.cell (p := ⟨w.heap.size, 5, none⟩) hlt).trans ((hb1.cell (p := ⟨w.heap.size, 5, none⟩) (by simp)).trans (by simp))
    have q6 : ∀ p : ExtW w1, p.to.cell? ⟨w.heap.size, 6, none⟩ = some (.int .i64 m.ph) := fun p => (p.h.cell (p := ⟨w.heap.size, 6, none⟩) hlt).trans ((hb1.cell (p := ⟨w.heap.size, 6, none⟩) (by simp)).trans (by simp))
    have q7 : ∀ p : ExtW w1, p.to.cell? ⟨w.heap.size, 7, none⟩ = some (.int .i64 m.q) := fun p => (p.h.cell (p := ⟨w.heap.size, 7, none⟩) hlt).trans ((hb1.cell (p := ⟨w.heap.size, 7, none⟩) (by simp)).trans (by simp))
    have q8 : ∀ p : ExtW w1, p.to.cell? ⟨w.heap.size, 8, none⟩ = some (.string m.pay) := fun p => (p.h.cell (p := ⟨w.heap.size, 8, none⟩) hlt).trans ((hb1.cell (p := ⟨w.heap.size, 8, none⟩) (by simp)).trans (by simp))
    have q9 : ∀ p : ExtW w1, p.to.cell? ⟨w.heap.size, 9, none⟩ = some (.int .i64 m.lo) := fun p => (p.h.cell (p := ⟨w.heap.size, 9, none⟩) hlt).trans ((hb1.cell (p := ⟨w.heap.size, 9, none⟩) (by simp)).trans (by simp))
    have q10 : ∀ p : ExtW w1, p.to.cell? ⟨w.heap.size, 10, none⟩ = some (.int .i64 m.hi) := fun p => (p.h.cell (p := ⟨w.heap.size, 10, none⟩) hlt).trans ((hb1.cell (p := ⟨w.heap.size, 10, none⟩) (by simp)).trans (by simp))
    have q11 : ∀ p : ExtW w1, p.to.cell? ⟨w.heap.size, 11, none⟩ = some (.slice m.aA m.ats.size m.aC) := fun p => (p.h.cell (p := ⟨w.heap.size, 11, none⟩) hlt).trans ((hb1.cell (p := ⟨w.heap.size, 11, none⟩) (by simp)).trans (by simp))
    have q12 : ∀ p : ExtW w1, p.to.cell? ⟨w.heap.size, 12, none⟩ = some (.slice m.mA m.mks.size m.mC) := fun p => (p.h.cell (p := ⟨w.heap.size, 12, none⟩) hlt).trans ((hb1.cell (p := ⟨w.heap.size, 12, none⟩) (by simp)).trans (by simp))
    have q13 : ∀ p : ExtW w1, p.to.cell? ⟨w.heap.size, 13, none⟩ = some (.int .i64 m.dn) := fun p => (p.h.cell (p := ⟨w.heap.size, 13, none⟩) hlt).trans ((hb1.cell (p := ⟨w.heap.size, 13, none⟩) (by simp)).trans (by simp))
    have HB1 := Lib.hid (belStep (bel1 w _) hb1)
    have HMA := Lib.hid (fun p : ExtW w1 => HMA0.out p.to (belStep HB1.out p.h))
    have HBA := Lib.hid (fun p : ExtW w1 => HBA0.out p.to)
    have HSA := Lib.hid (fun p : ExtW w1 => HSA0.out p.to (belStep HB1.out p.h))
    clear hb1 HMA0 HBA0 HSA0
    by_cases hf1 : m.fr < 1
    · have hf1' : decide (m.fr < 1) = true := by simp; omega
      have HC : Hid (chkM m = 2) := by show _ = _; unfold chkM; rw [if_neg HK.out]; simp ; intro h; omega
      have HF := Lib.hid (fun W => New_any msgW 2 W (by omega))
      go_wp2_with fail
      refine wp_region_ext (by kernel_rfl) (by kernel_rfl) ?_
      repeat (first | go_big_quiet_step ((first | (go_at_call 47; exact Calls.ext_of (HBA.out _)) | (go_at_call 15; exact Calls.ext_of (HSA.out _)) | (go_at_call 48; exact Calls.ext_of (HMA.out _)))) | quiet_step ((first | (go_at_call 47; exact Calls.ext_of (HBA.out _)) | (go_at_call 15; exact Calls.ext_of (HSA.out _)) | (go_at_call 48; exact Calls.ext_of (HMA.out _)))))
      refine wpQuiet_nil ?_
      intro w' hw'
      obtain ⟨⟨W, hbW⟩, hw''⟩ := hw'
      have hw3 : w' = W := hw''
      subst hw3
      have HBW := Lib.hid (belStep HB1.out hbW)
      clear hbW hw''
      go_wp2_with (go_at_call 46; refine (HF.out _).mono ?_; rintro e w2 ⟨v, rfl, hch, hb2⟩; have HCH := Lib.hid hch; have HB2 := Lib.hid (belStep HBW.out hb2); clear hch hb2)
      go_ret
      exact ⟨⟨v, rfl, by rw [HC.out]; exact Or.inr ⟨by omega, by simpa using HCH.out⟩⟩, HB2.out⟩
    by_cases hf2 : 9 < m.fr
    · have hf1' : decide (m.fr < 1) = false := by simp; omega
      have hf2' : decide (9 < m.fr) = true := by simp; omega
      have HC : Hid (chkM m = 2) := by show _ = _; unfold chkM; rw [if_neg HK.out]; simp ; intro h1 h; omega
      have HF := Lib.hid (fun W => New_any msgW 2 W (by omega))
      go_wp2_with fail
      refine wp_region_ext (by kernel_rfl) (by kernel_rfl) ?_
      repeat (first | go_big_quiet_step ((first | (go_at_call 47; exact Calls.ext_of (HBA.out _)) | (go_at_call 15; exact Calls.ext_of (HSA.out _)) | (go_at_call 48; exact Calls.ext_of (HMA.out _)))) | quiet_step ((first | (go_at_call 47; exact Calls.ext_of (HBA.out _)) | (go_at_call 15; exact Calls.ext_of (HSA.out _)) | (go_at_call 48; exact Calls.ext_of (HMA.out _)))))
      refine wpQuiet_nil ?_
      intro w' hw'
      obtain ⟨⟨W, hbW⟩, hw''⟩ := hw'
      have hw3 : w' = W := hw''
      subst hw3
      have HBW := Lib.hid (belStep HB1.out hbW)
      clear hbW hw''
      go_wp2_with (go_at_call 46; refine (HF.out _).mono ?_; rintro e w2 ⟨v, rfl, hch, hb2⟩; have HCH := Lib.hid hch; have HB2 := Lib.hid (belStep HBW.out hb2); clear hch hb2)
      go_ret
      exact ⟨⟨v, rfl, by rw [HC.out]; exact Or.inr ⟨by omega, by simpa using HCH.out⟩⟩, HB2.out⟩
    have hf1' : decide (m.fr < 1) = false := by simp; omega
    have hf2' : decide (9 < m.fr) = false := by simp; omega
    have HFR : Hid (decide (1 ≤ m.fr ∧ m.fr ≤ 9) = true) := by show _ = _; rw [decide_eq_true_iff]; omega
    cases hsm : sameM (bareM m) m
    · rw [hsm] at HSA
      have HC : Hid (chkM m = 2) := by show _ = _; unfold chkM; rw [if_neg HK.out]; simp [hsm]
      have HF := Lib.hid (fun W => New_any msgW 2 W (by omega))
      go_wp2_with fail
      refine wp_region_ext (by kernel_rfl) (by kernel_rfl) ?_
      repeat (first | go_big_quiet_step ((first | (go_at_call 47; exact Calls.ext_of (HBA.out _)) | (go_at_call 15; exact Calls.ext_of (HSA.out _)) | (go_at_call 48; exact Calls.ext_of (HMA.out _)))) | quiet_step ((first | (go_at_call 47; exact Calls.ext_of (HBA.out _)) | (go_at_call 15; exact Calls.ext_of (HSA.out _)) | (go_at_call 48; exact Calls.ext_of (HMA.out _)))))
      refine wpQuiet_nil ?_
      intro w' hw'
      obtain ⟨⟨W, hbW⟩, hw''⟩ := hw'
      have hw3 : w' = W := hw''
      subst hw3
      have HBW := Lib.hid (belStep HB1.out hbW)
      clear hbW hw''
      go_wp2_with (go_at_call 46; refine (HF.out _).mono ?_; rintro e w2 ⟨v, rfl, hch, hb2⟩; have HCH := Lib.hid hch; have HB2 := Lib.hid (belStep HBW.out hb2); clear hch hb2)
      go_ret
      exact ⟨⟨v, rfl, by rw [HC.out]; exact Or.inr ⟨by omega, by simpa using HCH.out⟩⟩, HB2.out⟩
    cases hmy : mayB m
    · rw [hsm] at HSA
      rw [hmy] at HMA
      have HC : Hid (chkM m = 2) := by show _ = _; unfold chkM; rw [if_neg HK.out]; simp [hmy]
      have HF := Lib.hid (fun W => New_any msgW 2 W (by omega))
      go_wp2_with fail
      refine wp_region_ext (by kernel_rfl) (by kernel_rfl) ?_
      repeat (first | go_big_quiet_step ((first | (go_at_call 47; exact Calls.ext_of (HBA.out _)) | (go_at_call 15; exact Calls.ext_of (HSA.out _)) | (go_at_call 48; exact Calls.ext_of (HMA.out _)))) | quiet_step ((first | (go_at_call 47; exact Calls.ext_of (HBA.out _)) | (go_at_call 15; exact Calls.ext_of (HSA.out _)) | (go_at_call 48; exact Calls.ext_of (HMA.out _)))))
      refine wpQuiet_nil ?_
      intro w' hw'
      obtain ⟨⟨W, hbW⟩, hw''⟩ := hw'
      have hw3 : w' = W := hw''
      subst hw3
      have HBW := Lib.hid (belStep HB1.out hbW)
      clear hbW hw''
      go_wp2_with (go_at_call 46; refine (HF.out _).mono ?_; rintro e w2 ⟨v, rfl, hch, hb2⟩; have HCH := Lib.hid hch; have HB2 := Lib.hid (belStep HBW.out hb2); clear hch hb2)
      go_ret
      exact ⟨⟨v, rfl, by rw [HC.out]; exact Or.inr ⟨by omega, by simpa using HCH.out⟩⟩, HB2.out⟩
    · rw [hsm] at HSA
      rw [hmy] at HMA
      have HC : Hid (chkM m = 0) := by show _ = _; unfold chkM; rw [if_neg HK.out, HFR.out, hsm, hmy]; rfl
      go_wp2_with fail
      refine wp_region_ext (by kernel_rfl) (by kernel_rfl) ?_
      repeat (first | go_big_quiet_step ((first | (go_at_call 47; exact Calls.ext_of (HBA.out _)) | (go_at_call 15; exact Calls.ext_of (HSA.out _)) | (go_at_call 48; exact Calls.ext_of (HMA.out _)))) | quiet_step ((first | (go_at_call 47; exact Calls.ext_of (HBA.out _)) | (go_at_call 15; exact Calls.ext_of (HSA.out _)) | (go_at_call 48; exact Calls.ext_of (HMA.out _)))))
      refine wpQuiet_nil ?_
      intro w' hw'
      obtain ⟨⟨W, hbW⟩, hw''⟩ := hw'
      have hw3 : w' = W := hw''
      subst hw3
      have HBW := Lib.hid (belStep HB1.out hbW)
      clear hbW hw''
      go_wp2
      go_ret
      exact ⟨⟨_, rfl, by rw [HC.out]; exact Or.inl ⟨rfl, rfl, rfl⟩⟩, HBW.out⟩
end Go.Proofs.YtlpplnmmcgdooaaGreatDoor
