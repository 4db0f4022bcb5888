/- image.Take. A new replica's pieces; what the law's probe calls: plain. -/
import Derived.Test.YtnmojicfmcbgmaaGreatDoorQIoH
import Derived.Test.YtnmojicfmcbgmaaGreatDoorQImA
import Derived.Test.YtnmojicfmcbgmaaGreatDoorQImU
import Derived.Test.YtnmojicfmcbgmaaGreatDoorQImG
import Derived.Test.YtnmojicfmcbgmaaGreatDoorQErrD
namespace Go.Proofs.YtnmojicfmcbgmaaGreatDoor
open Go.RowKit Go.Sort Go.Lib Nb
set_option maxRecDepth 100000
/-- Take's error. -/
def ErrI (w : World) (c : Nat) (ev : Value) : Prop := (c = 0 ∧ ev = .nilIface) ∨ (c ≠ 0 ∧ ∃ ops, ops.length ≤ 6 ∧ Chain w (imageS :: ops) (c : Int) ev)
/-- What image.Take tells. -/
def TakeI (s : ByteArray) (w : World) (e : Ending) (w' : World) : Prop :=
  ∃ (R : RP) (c : Nat) (ev : Value), e = .returned (.tuple #[.agg (encP R).toArray, ev]) ∧ TkO s.data.toList R c ∧ RdP w' R ∧ ErrI w' c ev ∧ Below w.heap.size w w'
theorem rdP_default (W : World) : RdP W (default : RP) :=
  ⟨⟨fun h => absurd h (by decide), fun i hi => absurd hi (by simp [show (default : RP).e.z = #[] from rfl])⟩, ⟨fun h => absurd h (by decide), fun _ => rfl⟩, ⟨fun h => absurd h (by decide), Nat.le_refl _, fun _ => rfl⟩, fun i hi => absurd hi (by simp [show (default : RP).k.z = #[] from rfl]), ⟨fun h => absurd h (by decide), Nat.le_refl _, fun _ => rfl⟩, fun i hi => absurd hi (by simp [show (default : RP).m.z = #[] from rfl]), ⟨fun h => absurd h (by decide), Nat.le_refl _, fun _ => rfl⟩, ⟨fun h => absurd h (by decide), Nat.le_refl _, fun _ => rfl⟩, fun i hi => absurd hi (by simp [show (default : RP).d.z = #[] from rfl]), ⟨fun h => absurd h (by decide), Nat.le_refl _, fun _ => rfl⟩, ⟨fun h => absurd h (by decide), Nat.le_refl _, fun _ => rfl⟩⟩
theorem belPost {n b B : Nat} {s : ByteArray} {st : IS} {w W W' : World} (h : Below w.heap.size w W) (hp : IPost n b B s st W W') (hb : w.heap.size ≤ b) (hB : w.heap.size ≤ B) : Below w.heap.size w W' := h.trans (hp.2.to_below hb hB h.size)
theorem encP_size (r : RP) : (encP r).toArray.size = 18 := rfl
theorem encP_all (r : RP) : allOne (encP r).toArray = true := encP_one r
attribute [local go_sem ↓] execOp_loadRep execOp_storeRep
attribute [local go_sem] run_loadBox run_storeBox_any run_storeBox_newA allOne_lit size_lit
set_option maxHeartbeats 16000000 in
theorem imTake_any (s : ByteArray) (w : World) (hg : Glob w) (hs : s.size ≤ 1000000) :
    Calls Tryz.prog 10 #[.string s] w fun e w' => TakeI s w e w' := by
  have hsl : s.data.toList.length = s.size := by simp
  have HG := Lib.hid hg
  have HS := Lib.hid hs
  have HR0 : Hid ((w.alloc (.cells #[.int .i64 0, .int .i64 0, .int .i64 0, .int .i64 0, .int .i64 0, .int .i64 0, .int .i64 0, .slice none 0 0, .slice none 0 0, .slice none 0 0, .slice none 0 0, .slice none 0 0, .slice none 0 0, .int .i64 0, .int .i64 0, .int .i64 0, .slice none 0 0, .slice none 0 0] 35)).heap[w.heap.size]? = some (.cells (encP (default : RP)).toArray 35 (0, 0))) := heap_new_D w _
  have HB0 := Lib.hid (bel1 w (.cells #[.int .i64 0, .int .i64 0, .int .i64 0, .int .i64 0, .int .i64 0, .int .i64 0, .int .i64 0, .slice none 0 0, .slice none 0 0, .slice none 0 0, .slice none 0 0, .slice none 0 0, .slice none 0 0, .int .i64 0, .int .i64 0, .int .i64 0, .slice none 0 0, .slice none 0 0] 35))
  by_cases hbig : 18000 < s.size
  · have kb : (18000 : Int) < (s.size : Int) := by omega
    have HTK : Hid (tkE s.data.toList = 3) := by show _ = _; unfold tkE; rw [hsl, if_pos hbig]
    clear hbig hsl hg hs
    go_enter Tryz.func10, Tryz.ntmps10
    go_upto_region 2 with (fail)
    obtain ⟨w0, hw0⟩ : ∃ W, W = w.alloc (.cells #[.int .i64 0, .int .i64 0, .int .i64 0, .int .i64 0, .int .i64 0, .int .i64 0, .int .i64 0, .slice none 0 0, .slice none 0 0, .slice none 0 0, .slice none 0 0, .slice none 0 0, .slice none 0 0, .int .i64 0, .int .i64 0, .int .i64 0, .slice none 0 0, .slice none 0 0] 35) := ⟨_, rfl⟩
    rw [← hw0] at HR0 HB0 ⊢
    clear hw0
    go_wp2_with fail
    refine (New_any imageS 3 _ (by decide)).mono ?_
    rintro _ w1 ⟨v, rfl, hch, hb1⟩
    have HR1 := Lib.hid ((hb1.block _ (lt_of_heap HR0.out)).trans HR0.out)
    have HB1 := Lib.hid (belStep HB0.out hb1)
    have HCH := Lib.hid hch
    clear hb1 hch
    have x1 := boxAt_of HR1.out (encP_size _)
    go_wp2
    refine bodyPost_ret (results_rep2 rfl rfl (setRow_heap _ _ _ _ _ _ HR1.out) rfl) rfl ?_
    have hgr := setRow_grown w1 w.heap.size (encP (default : RP)).toArray
    exact ⟨default, 3, v, rfl, Or.inl ⟨by rw [HTK.out]; decide, HTK.out.symm, rfl⟩, rdP_default _, Or.inr ⟨by decide, [], by decide, HCH.out.apart HR1.out (by decide) (fun i h1 h2 => hgr.block i h1 (by intro e; injection e with e; exact h2 e))⟩, below_of_grown HB1.out hgr (Nat.le_refl _)⟩
  · have kb : decide ((18000 : Int) < (s.size : Int)) = false := decide_eq_false (by omega)
    have HSM : Hid (¬ 18000 < s.data.toList.length) := by show ¬ _; rw [hsl]; exact hbig
    clear hbig hsl hg hs
    go_enter Tryz.func10, Tryz.ntmps10
    go_upto_region 3 with (fail)
    obtain ⟨w0, hw0⟩ : ∃ W, W = w.alloc (.cells #[.int .i64 0, .int .i64 0, .int .i64 0, .int .i64 0, .int .i64 0, .int .i64 0, .int .i64 0, .slice none 0 0, .slice none 0 0, .slice none 0 0, .slice none 0 0, .slice none 0 0, .slice none 0 0, .int .i64 0, .int .i64 0, .int .i64 0, .slice none 0 0, .slice none 0 0] 35) := ⟨_, rfl⟩
    rw [← hw0] at HR0 HB0 ⊢
    have HZ0 : Hid (w0.heap.size = w.heap.size + 1) := by show _ = _; rw [hw0]; simp
    clear hw0
    go_wp2_with fail
    refine (RNew_any s _).mono ?_
    rintro _ w1 ⟨rfl, hw1⟩
    have HRD1 : Hid (Rdr w0.heap.size s ⟨0, 0⟩ w1) := by show Rdr _ _ _ _; rw [hw1]; exact Rdr.new s w0
    have HB1 : Hid (Below w0.heap.size w0 w1) := by show Below _ _ _; rw [hw1]; exact bel1 w0 _
    have HZ1 : Hid (w1.heap.size = w0.heap.size + 1) := by show _ = _; rw [hw1]; simp
    clear hw1
    go_upto_region 4 with (fail)
    obtain ⟨w2, hw2⟩ : ∃ W, W = w1.alloc (.cells #[.pointer (some ⟨w0.heap.size, 0, none⟩), .bool false] 92) := ⟨_, rfl⟩
    rw [← hw2]
    have HBX : Hid (w2.heap[w1.heap.size]? = some (.cells #[.pointer (some ⟨w0.heap.size, 0, none⟩), .bool false] 92 (0, 0))) := by show _ = _; rw [hw2]; exact heap_new_D w1 _
    have HB2 : Hid (Below w1.heap.size w1 w2) := by show Below _ _ _; rw [hw2]; exact bel1 w1 _
    have HZ2 : Hid (w2.heap.size = w1.heap.size + 1) := by show _ = _; rw [hw2]; simp
    clear hw2
    obtain ⟨B, hB⟩ : ∃ p, p = w1.heap.size := ⟨_, rfl⟩
    obtain ⟨b, hb⟩ : ∃ p, p = w0.heap.size := ⟨_, rfl⟩
    have HBB : Hid (w.heap.size < b ∧ b < B ∧ B < w2.heap.size) := by have := HZ0.out; have := HZ1.out; have := HZ2.out; exact ⟨by omega, by omega, by omega⟩
    have I2 : Hid (IRd w2.heap.size b B s ⟨⟨0, 0⟩, false⟩ w2) := by
      show IRd _ _ _ _ _ _
      rw [hB, hb]
      exact ⟨HBX.out, (HRD1.out.below HB2.out), (HG.out.below (belStep HB0.out (belStep HB1.out HB2.out))), by have := HZ1.out; have := HZ2.out; omega, by have := HZ2.out; omega, Nat.le_refl _⟩
    have BW2 := Lib.hid (belStep HB0.out (belStep HB1.out HB2.out))
    have R2 := Lib.hid (((belStep HB1.out HB2.out).block _ (lt_of_heap HR0.out)).trans HR0.out)
    rw [← hB, ← hb]
    clear hB hb HZ0 HZ1 HZ2 HBX HB1 HB2 HRD1 HB0 HR0
    rcases hrd0 : rd0 s.data.toList with ⟨st, gm⟩
    have HA := Lib.hid (iall_any w2.heap.size b B s ⟨⟨0, 0⟩, false⟩ w2 I2.out (by have := lt_of_cell HG.out; have := BW2.out.size; simp only at *; omega) HS.out)
    have HRD0 := Lib.hid hrd0
    rw [show repC.rd s.data.toList ⟨⟨0, 0⟩, false⟩ = (st, gm) from hrd0] at HA
    clear hrd0
    go_wp2_with fail
    refine HA.out.mono ?_
    rintro _ w3 ⟨R, rfl, hrp, hms, hp⟩
    have HRP := Lib.hid hrp
    have HMS := Lib.hid hms
    have BW3 := Lib.hid (belPost BW2.out hp (by have := HBB.out; omega) (by have := HBB.out; omega))
    have R3 := Lib.hid (hp.2.heap R2.out (by have := HBB.out; omega) (by have := HBB.out; omega))
    have I3 := Lib.hid hp.1
    clear hrp hms hp HA
    obtain ⟨cs, hcs⟩ : ∃ y, (encP R).toArray = y := ⟨_, rfl⟩
    have HI : cs.size = 18 := by rw [← hcs]; rfl
    have H1 : allOne cs = true := by rw [← hcs]; exact encP_all R
    have HCS := Lib.hid hcs
    rw [hcs]
    clear hcs
    simp only at HMS I3
    go_upto_region 5 with (fail)
    obtain ⟨q, hq⟩ : ∃ p, p = w3.heap.size := ⟨_, rfl⟩
    obtain ⟨w4, hw4⟩ : ∃ W, W = w3.alloc (.cells cs 35) := ⟨_, rfl⟩
    have X4 : Hid (w4.heap[w3.heap.size]? = some (.cells cs 35 (0, 0))) := by show _ = _; rw [hw4]; exact heap_new_D w3 _
    have HB4 : Hid (Below w3.heap.size w3 w4) := by show Below _ _ _; rw [hw4]; exact bel1 w3 _
    rw [← hw4, ← hq]
    rw [← hq] at X4
    have HQB : Hid (B < q) := by have := lt_of_heap I3.out.bx; show B < q; rw [hq]; exact this
    clear hw4 hq
    have I4 := Lib.hid (I3.out.below HB4.out)
    have R4 := Lib.hid ((HB4.out.block _ (lt_of_heap R3.out)).trans R3.out)
    have BW4 := Lib.hid (belStep BW3.out HB4.out)
    have K4 := Lib.hid (KF.of_below (m := w2.heap.size) HB4.out)
    clear R3 BW3 I3 HB4
    have cB := I4.out.c0
    have HE := Lib.hid (REnd_any b s st.r w4 I4.out.rd I4.out.gl)
    go_wp2_with fail
    refine HE.out.mono ?_
    rintro _ w5 ⟨rfl, hP⟩
    have I5 := Lib.hid (I4.out.rpost hP)
    have hp : IPost w2.heap.size b B s ⟨endR s.data.toList st.r, st.odd⟩ w4 w5 := ⟨I5.out, hP.gr2⟩
    have R5 := Lib.hid (hp.2.heap R4.out (by have := HBB.out; omega) (by have := HBB.out; omega))
    have X5 := Lib.hid (hp.2.heap X4.out (by have := HBB.out; have := HQB.out; omega) (by have := HQB.out; omega))
    have BW5 := Lib.hid (belPost BW4.out hp (by have := HBB.out; omega) (by have := HBB.out; omega))
    have K5 := Lib.hid (K4.out.trans (KF.of_post hp (Nat.le_refl _)))
    clear cB HE hP hp I4 R4 X4 BW4 K4
    have cB := I5.out.c0
    have HDN := Lib.hid (RDone_any b s _ w5 I5.out.rd)
    by_cases her : (endR s.data.toList st.r).e = 0
    · have HD0 : Hid (Calls Tryz.prog 41 #[.pointer (some ⟨b, 0, none⟩)] w5 fun e w' => e = .returned .nilIface ∧ w5 = w') := HDN.out.mono fun e w' ⟨ev, h1, h2, h3⟩ => by
        rcases h2 with ⟨_, rfl⟩ | ⟨h2, _⟩
        · exact ⟨h1, h3⟩
        · exact absurd her h2
      have HER := Lib.hid her
      have HE0 : Hid (st.r.e = 0) := ((endR_e _ _).1 her).1
      clear her HDN
      go_wp2_with fail
      refine HD0.out.mono ?_
      rintro _ _ ⟨rfl, rfl⟩
      clear HD0
      have c1 := I5.out.c1
      obtain ⟨od, hod⟩ : ∃ x, st.odd = x := ⟨_, rfl⟩
      simp only at c1
      rw [hod] at c1
      have HOD := Lib.hid hod
      clear hod
      cases od
      · have HTK : Hid (tkE s.data.toList = 0) := by
          show _ = _
          unfold tkE
          rw [if_neg HSM.out, HRD0.out, if_neg (by rw [HER.out]; simp), if_neg (by rw [HOD.out]; simp)]
        have hM := HMS.out HE0.out
        have hM2 : repM R = (rd0 s.data.toList).2 := by rw [HRD0.out]; exact hM.1
        have hF := fewI_of (r := R) (by rw [hM2]; exact (tk_back HTK.out).2.2.1) hM.2
        have HM := Lib.hid (And.intro hM2 hM.2)
        have HCK : Hid (Calls Tryz.prog 16 #[.agg cs] w5 fun e w' => e = .returned (.int .i64 (if chkW R = true then 0 else 2)) ∧ Below w5.heap.size w5 w') := by
          have := repCheck_any R w5 (HRP.out w5 K5.out) hF.c
          rw [HCS.out] at this
          exact this
        obtain ⟨g, hgc⟩ : ∃ x, chkW R = x := ⟨_, rfl⟩
        rw [hgc] at HCK
        have HGC := Lib.hid hgc
        clear hgc hF hM hM2
        have x1 := boxAt_of X5.out HI
        have x2 := rowAt_of X5.out
        go_wp2_with fail
        refine HCK.out.mono ?_
        rintro _ w6 ⟨rfl, hb6⟩
        have R6 := Lib.hid ((hb6.block _ (lt_of_heap R5.out)).trans R5.out)
        have X6 := Lib.hid ((hb6.block _ (lt_of_heap X5.out)).trans X5.out)
        have BW6 := Lib.hid (belStep BW5.out hb6)
        have K6 := Lib.hid (K5.out.trans (KF.of_below hb6))
        clear hb6 x1 x2 cB c1 HCK
        cases g
        · simp only [Bool.false_eq_true, if_false]
          go_wp2_with fail
          refine (New_any imageS 2 _ (by decide)).mono ?_
          rintro _ w7 ⟨v, rfl, hch, hb7⟩
          have HR1 := Lib.hid ((hb7.block _ (lt_of_heap R6.out)).trans R6.out)
          have HB1 := Lib.hid (belStep BW6.out hb7)
          have HCH := Lib.hid hch
          clear hb7 hch
          have x1 := boxAt_of HR1.out (encP_size _)
          go_wp2
          refine bodyPost_ret (results_rep2 rfl rfl (setRow_heap _ _ _ _ _ _ HR1.out) rfl) rfl ?_
          have hgr := setRow_grown w7 w.heap.size (encP (default : RP)).toArray
          exact ⟨default, 2, v, rfl, Or.inr (Or.inl ⟨HTK.out, rfl, rfl, R, HM.out.1, HM.out.2, HGC.out⟩), rdP_default _, Or.inr ⟨by decide, [], by decide, HCH.out.apart HR1.out (by decide) (fun i h1 h2 => hgr.block i h1 (by intro e; injection e with e; exact h2 e))⟩, below_of_grown HB1.out hgr (Nat.le_refl _)⟩
        · simp only [if_true]
          have x1 := boxAt_of X6.out HI
          have x2 := rowAt_of X6.out
          have x3 := boxAt_of R6.out (encP_size _)
          go_wp2
          refine bodyPost_ret (results_rep2 rfl rfl (setRow_heap _ _ _ _ _ _ R6.out) HI) rfl ?_
          have hgr := setRow_grown w6 w.heap.size cs
          refine ⟨R, 0, .nilIface, by rw [HCS.out]; rfl, Or.inr (Or.inr ⟨HTK.out, rfl, HM.out.1, HM.out.2, HGC.out⟩), HRP.out _ (K6.out.trans (KF.of_grown hgr (by have := HBB.out; omega))), Or.inl ⟨rfl, rfl⟩, below_of_grown BW6.out hgr (Nat.le_refl _)⟩
      · have HTK : Hid (tkE s.data.toList = 5) := by
          show _ = _
          unfold tkE
          rw [if_neg HSM.out, HRD0.out, if_neg (by rw [HER.out]; simp), if_pos (by rw [HOD.out])]
        go_wp2_with fail
        refine (New_any imageS 5 _ (by decide)).mono ?_
        rintro _ w7 ⟨v, rfl, hch, hb7⟩
        have HR1 := Lib.hid ((hb7.block _ (lt_of_heap R5.out)).trans R5.out)
        have HB1 := Lib.hid (belStep BW5.out hb7)
        have HCH := Lib.hid hch
        clear hb7 hch cB c1
        have x1 := boxAt_of HR1.out (encP_size _)
        go_wp2
        refine bodyPost_ret (results_rep2 rfl rfl (setRow_heap _ _ _ _ _ _ HR1.out) rfl) rfl ?_
        have hgr := setRow_grown w7 w.heap.size (encP (default : RP)).toArray
        exact ⟨default, 5, v, rfl, Or.inl ⟨by rw [HTK.out]; decide, HTK.out.symm, rfl⟩, rdP_default _, Or.inr ⟨by decide, [], by decide, HCH.out.apart HR1.out (by decide) (fun i h1 h2 => hgr.block i h1 (by intro e; injection e with e; exact h2 e))⟩, below_of_grown HB1.out hgr (Nat.le_refl _)⟩
    · have HTK : Hid (tkE s.data.toList = (endR s.data.toList st.r).e) := by
        show _ = _
        unfold tkE
        rw [if_neg HSM.out, HRD0.out, if_pos her]
      obtain ⟨c, hc⟩ : ∃ x, (endR s.data.toList st.r).e = x := ⟨_, rfl⟩
      rw [hc] at HTK her
      have HD0 : Hid (Calls Tryz.prog 41 #[.pointer (some ⟨b, 0, none⟩)] w5 fun e w' => (∃ op ops t u, ops.length ≤ 5 ∧ e = .returned (.iface t u) ∧ Chain w5 (op :: ops) (c : Int) (.iface t u)) ∧ w5 = w') := HDN.out.mono fun e w' ⟨ev, h1, h2, h3⟩ => by
        simp only at h2
        rw [hc] at h2
        rcases h2 with ⟨h2, _⟩ | ⟨_, op, ops, hl, h2⟩
        · exact absurd h2 her
        · obtain ⟨t, u, rfl⟩ := chain_iface h2
          exact ⟨⟨op, ops, t, u, hl, h1, h2⟩, h3⟩
      have HC0 := Lib.hid her
      clear her HDN hc
      go_wp2_with fail
      refine HD0.out.mono ?_
      rintro _ _ ⟨⟨op, ops, t, u, hl, rfl, hch⟩, rfl⟩
      have HW := Lib.hid (Wrap_any imageS (op :: ops) (c : Int) (.iface t u) w5 hch)
      have HLN := Lib.hid hl
      clear HD0 hch hl cB
      go_wp2_with fail
      refine HW.out.mono ?_
      rintro _ w7 ⟨v, rfl, hch, hb7⟩
      have HR1 := Lib.hid ((hb7.block _ (lt_of_heap R5.out)).trans R5.out)
      have HB1 := Lib.hid (belStep BW5.out hb7)
      have HCH := Lib.hid hch
      clear hb7 hch HW
      have x1 := boxAt_of HR1.out (encP_size _)
      go_wp2
      refine bodyPost_ret (results_rep2 rfl rfl (setRow_heap _ _ _ _ _ _ HR1.out) rfl) rfl ?_
      have hgr := setRow_grown w7 w.heap.size (encP (default : RP)).toArray
      exact ⟨default, c, v, rfl, Or.inl ⟨by rw [HTK.out]; exact HC0.out, HTK.out.symm, rfl⟩, rdP_default _, Or.inr ⟨HC0.out, op :: ops, by have := HLN.out; simp; omega, HCH.out.apart HR1.out (by decide) (fun i h1 h2 => hgr.block i h1 (by intro e; injection e with e; exact h2 e))⟩, below_of_grown HB1.out hgr (Nat.le_refl _)⟩
end Go.Proofs.YtnmojicfmcbgmaaGreatDoor
namespace Go.Proofs.YtnmojicfmcbgmaaGreatDoor
open Go.RowKit Go.Sort Go.Lib Nb
set_option maxRecDepth 100000
def M31 : RepT := ((3, [1, 1, 0, 0, 0, 0, 0, 0, 0]), ([], ([], (List.replicate 3 (0, ([], [])), (List.replicate 3 (List.replicate 3 [0]), (List.replicate 3 [0], (List.replicate 3 [], ([], []))))))))
theorem new_M {r : RP} (h : NewR 3 1 1 3 r) : repM r = M31 ∧ NN r := by
  obtain ⟨n0, n1, n2, n3, n4, n5, n6, n7, n8, n9⟩ := h.h
  have hk : r.k.z.toList.map knM = List.replicate 3 (0, ([], [])) := by
    refine List.eq_replicate_iff.2 ⟨by simpa using h.k.1, fun b hb => ?_⟩
    obtain ⟨x, hx, rfl⟩ := List.mem_map.1 hb
    obtain ⟨i, hi, rfl⟩ := mem_at hx
    have := h.k.2 i (by rw [← h.k.1]; exact hi)
    have e1 : r.k.z[i]!.base = 0 := congrArg KN.base this
    have e2 : r.k.z[i]!.r.z = #[] := congrArg KN.rs this
    have e3 : r.k.z[i]!.a.z = #[] := congrArg KN.ats this
    unfold knM
    rw [e1, e2, e3]
    rfl
  have hm : r.m.z.toList.map (fun x => intM x.z) = List.replicate 3 (List.replicate 3 [0]) := by
    refine List.eq_replicate_iff.2 ⟨by simpa using h.m.1, fun b hb => ?_⟩
    obtain ⟨x, hx, rfl⟩ := List.mem_map.1 hb
    obtain ⟨i, hi, rfl⟩ := mem_at hx
    rw [h.m.2 i (by rw [← h.m.1]; exact hi)]
    rfl
  have hd : r.d.z.toList.map (fun x => pairM x.z) = List.replicate 3 [] := by
    refine List.eq_replicate_iff.2 ⟨by simpa using h.d.1, fun b hb => ?_⟩
    obtain ⟨x, hx, rfl⟩ := List.mem_map.1 hb
    obtain ⟨i, hi, rfl⟩ := mem_at hx
    rw [h.d.2 i (by rw [← h.d.1]; exact hi)]
    rfl
  constructor
  · unfold repM head9
    rw [hk, hm, hd, h.e, h.o, h.fr, h.it, h.ss, n0, n1, n2, n3, n4, n5, n6, n7, n8, n9]
    rfl
  · refine ⟨⟨by omega, by omega, by omega, by omega, by omega, by omega, by omega, by omega, by omega, by omega⟩, ?_, ?_, ?_, ?_, ?_, ?_, ?_, ?_⟩
    · rw [h.e]; intro x hx; simp at hx
    · rw [h.o]; intro x hx; simp at hx
    · intro x hx
      obtain ⟨i, hi, rfl⟩ := mem_at hx
      have := h.k.2 i (by rw [← h.k.1]; exact hi)
      have e1 : r.k.z[i]!.base = 0 := congrArg KN.base this
      have e2 : r.k.z[i]!.r.z = #[] := congrArg KN.rs this
      have e3 : r.k.z[i]!.a.z = #[] := congrArg KN.ats this
      refine ⟨by omega, ?_, ?_⟩
      · rw [e2]; intro x hx; simp at hx
      · rw [e3]; intro x hx; simp at hx
    · intro x hx
      obtain ⟨i, hi, rfl⟩ := mem_at hx
      rw [h.m.2 i (by rw [← h.m.1]; exact hi)]
      intro y hy
      simp at hy
      omega
    · rw [h.fr]; intro y hy; simp at hy; omega
    · intro x hx
      obtain ⟨i, hi, rfl⟩ := mem_at hx
      rw [h.d.2 i (by rw [← h.d.1]; exact hi)]
      intro y hy
      simp at hy
    · rw [h.it]; intro x hx; simp at hx
    · rw [h.ss]; intro x hx; simp at hx
def rp31 : RP := ⟨3, 1, 1, 0, 0, 0, 0, ⟨none, 0, #[]⟩, ⟨none, 0, #[]⟩, ⟨none, 0, #[ke0, ke0, ke0]⟩, ⟨none, 0, #[⟨none, 0, #[0, 0, 0]⟩, ⟨none, 0, #[0, 0, 0]⟩, ⟨none, 0, #[0, 0, 0]⟩]⟩, ⟨none, 0, #[0, 0, 0]⟩, ⟨none, 0, #[⟨none, 0, #[]⟩, ⟨none, 0, #[]⟩, ⟨none, 0, #[]⟩]⟩, 0, 0, 0, ⟨none, 0, #[]⟩, ⟨none, 0, #[]⟩⟩
theorem rp31_new : NewR 3 1 1 3 rp31 :=
  ⟨⟨rfl, rfl, rfl, rfl, rfl, rfl, rfl, rfl, rfl, rfl⟩, rfl, rfl, ⟨rfl, fun i hi => by match i, hi with | 0, _ => rfl | 1, _ => rfl | 2, _ => rfl⟩, ⟨rfl, fun i hi => by match i, hi with | 0, _ => rfl | 1, _ => rfl | 2, _ => rfl⟩, rfl, ⟨rfl, fun i hi => by match i, hi with | 0, _ => rfl | 1, _ => rfl | 2, _ => rfl⟩, rfl, rfl⟩
theorem rp31_chk : chkW rp31 = true := by decide +kernel
theorem M31_len : (repC.b M31).length = 42 := by decide +kernel
theorem def_chk : chkW (default : RP) = false := by decide +kernel
theorem new_chk {r : RP} (h : NewR 3 1 1 3 r) : chkW r = true := by
  rw [chkW_same (same_of_M ((new_M h).1.trans (new_M rp31_new).1.symm) (new_M h).2 (new_M rp31_new).2)]
  exact rp31_chk
theorem new_wide {r : RP} (h : NewR 3 1 1 3 r) : wideB r = false := by
  unfold wideB
  simp only [Bool.or_eq_false_iff, decide_eq_false_iff_not, anyN_false]
  refine ⟨by rw [h.o]; simp, fun i hi => ?_, fun i hi => ?_⟩
  · have := h.k.2 i (by rw [← h.k.1]; exact hi)
    have e2 : r.k.z[i]!.r.z = #[] := congrArg KN.rs this
    have e3 : r.k.z[i]!.a.z = #[] := congrArg KN.ats this
    rw [e2, e3]
    simp
  · rw [h.d.2 i (by rw [← h.d.1]; exact hi)]
    simp
theorem new_len {r : RP} (h : NewR 3 1 1 3 r) : (bytesR r).length = 42 := by rw [bytesR_eq, (new_M h).1]; exact M31_len
theorem new_put {r : RP} (h : NewR 3 1 1 3 r) : putE r = 0 := by
  unfold putE
  rw [if_pos (new_chk h), new_wide h, if_neg Bool.false_ne_true, new_len h, if_neg (by decide)]
theorem fewC_default : FewC (default : RP) := by
  refine ⟨?_, ?_, ?_, ?_, ?_, ?_, ?_, ?_, ?_, ?_⟩
  · decide
  · intro i hi; exact absurd hi (by simp [show (default : RP).e.z = #[] from rfl])
  · decide
  · decide
  · decide
  · intro i hi; exact absurd hi (by simp [show (default : RP).m.z = #[] from rfl])
  · decide
  · decide
  · intro i hi; exact absurd hi (by simp [show (default : RP).d.z = #[] from rfl])
  · intro i hi; exact absurd hi (by simp [show (default : RP).k.z = #[] from rfl])
theorem def_put : putE (default : RP) = 2 := by unfold putE; rw [def_chk]; rfl
/-- What Take tells of a replica's own bytes. -/
theorem take_put {r : RP} (hp : putE r = 0) {R : RP} {c : Nat} (h : TkO (bytesR r) R c) : c = 0 ∧ sameW R r = true ∧ chkW R = true ∧ repC.ok (repM R) ∧ NN R := by
  unfold putE at hp
  split at hp
  · rename_i hc
    split at hp
    · cases hp
    · rename_i hw
      split at hp
      · cases hp
      · rename_i hl
        obtain ⟨hok, hnn⟩ := rep_ok hc (by simpa using hw)
        rw [bytesR_eq] at h hl
        have h1 := tk_all (by omega) hok
        have h2 : rd0 (repC.b (repM r)) = (⟨⟨(repC.b (repM r)).length, 0⟩, false⟩, repM r) := tk_laid (t := []) (by simp) hok
        rcases h with ⟨h3, _⟩ | ⟨_, _, _, x, hx, nx, cx⟩ | ⟨_, h4, hx, nx, cx⟩
        · exact absurd h1 h3
        · rw [h2] at hx
          have := chkW_same (same_of_M hx nx hnn)
          rw [cx, hc] at this
          cases this
        · rw [h2] at hx
          have hx' : repM R = repM r := hx
          exact ⟨h4, same_of_M hx' nx hnn, cx, by rw [hx']; exact hok, nx⟩
  · cases hp
theorem sbx {l : List UInt8} {x : UInt8} : ((⟨l.toArray⟩ : ByteArray) ++ (⟨#[x]⟩ : ByteArray)).data.toList = l ++ [x] := by
  rw [ByteArray.data_append]
  simp
/-- With a byte behind it. -/
theorem take_rest {r : RP} (hp : putE r = 0) {x : UInt8} (hl : (bytesR r).length < 18000) {R : RP} {c : Nat} (h : TkO (bytesR r ++ [x]) R c) : c = 6 := by
  unfold putE at hp
  split at hp
  · rename_i hc
    split at hp
    · cases hp
    · rename_i hw
      obtain ⟨hok, hnn⟩ := rep_ok hc (by simpa using hw)
      rw [bytesR_eq] at h hl
      have h2 : rd0 (repC.b (repM r) ++ [x]) = (⟨⟨(repC.b (repM r)).length, 0⟩, false⟩, repM r) := tk_laid rfl hok
      have h3 : tkE (repC.b (repM r) ++ [x]) = 6 := by
        unfold tkE
        have h4 : endR (repC.b (repM r) ++ [x]) (rd0 (repC.b (repM r) ++ [x])).1.r = ⟨(repC.b (repM r)).length, 6⟩ := by
          rw [h2]
          unfold endR
          rw [if_pos ⟨rfl, by simp⟩]
        rw [if_neg (by simp; omega), h4, if_pos (show (6 : Nat) ≠ 0 by decide)]
      rcases h with ⟨_, h4, _⟩ | ⟨h4, _⟩ | ⟨h4, _⟩
      · rw [h4, h3]
      · rw [h3] at h4; cases h4
      · rw [h3] at h4; cases h4
  · cases hp
end Go.Proofs.YtnmojicfmcbgmaaGreatDoor
