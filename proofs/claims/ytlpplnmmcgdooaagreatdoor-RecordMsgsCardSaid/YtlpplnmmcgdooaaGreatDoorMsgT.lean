/- msg.Take: the message of bytes. -/
import Derived.Test.YtlpplnmmcgdooaaGreatDoorMsgV
namespace Go.Proofs.YtlpplnmmcgdooaaGreatDoor
open Go.RowKit Go.Sort Nb

/-- A message with nothing in it. -/
def zM : PM := { k := 0, fr := 0, id := 0, t := 0, bal := 0, abal := 0, ph := 0, q := 0, pay := ⟨#[]⟩, lo := 0, hi := 0, aA := none, aC := 0, ats := #[], mA := none, mC := 0, mks := #[], dn := 0 }
theorem zM_rd (w : World) : RdM w zM := ⟨fun h => absurd h (by decide), RdI.none_, by decide, by decide, by decide⟩
/-- The bytes of 'take'. -/
def takeW : ByteArray := ⟨#[116, 97, 107, 101]⟩
/-- What Take tells. -/
def TakeP (s : ByteArray) (e : Ending) (w' : World) : Prop := ∃ m v ops, e = .returned (.tuple #[msgV m, v]) ∧ RdM w' m ∧ ErrV w' ops (takeC s.data.toList : Int) v ∧ ops.length ≤ 10 ∧ (takeC s.data.toList ≠ 0 → takeW ∈ ops ∧ m = zM) ∧ (takeC s.data.toList = 0 → ∃ aA aC mA mC, m = pmOf (rawOf s.data.toList) aA aC mA mC)
/-- The same, and the rows lie in blocks from B on. -/
def TakePB (B : Nat) (s : ByteArray) (e : Ending) (w' : World) : Prop := ∃ m v ops, e = .returned (.tuple #[msgV m, v]) ∧ RdM w' m ∧ ErrV w' ops (takeC s.data.toList : Int) v ∧ ops.length ≤ 10 ∧ (takeC s.data.toList ≠ 0 → takeW ∈ ops ∧ m = zM) ∧ (takeC s.data.toList = 0 → ∃ aA aC mA mC, m = pmOf (rawOf s.data.toList) aA aC mA mC) ∧ (∀ a, m.aA = some a → B ≤ a.block) ∧ (∀ a, m.mA = some a → B ≤ a.block)
theorem TakePB.take {B : Nat} {s : ByteArray} {e : Ending} {w' : World} (h : TakePB B s e w') : TakeP s e w' := by
  obtain ⟨m, v, ops, h1, h2, h3, h4, h5, h6, -, -⟩ := h
  exact ⟨m, v, ops, h1, h2, h3, h4, h5, h6⟩
theorem zM_blk (B : Nat) : (∀ a, zM.aA = some a → B ≤ a.block) ∧ (∀ a, zM.mA = some a → B ≤ a.block) := ⟨fun a h => (by cases h), fun a h => (by cases h)⟩
theorem takeC_e {l : List UInt8} (h : (rawOf l).r.e ≠ 0) : takeC l = (rawOf l).r.e := by unfold takeC; rw [if_pos h]
theorem takeC_odd {l : List UInt8} (h : (rawOf l).r.e = 0) (h2 : (rawOf l).l.length % 2 ≠ 0) : takeC l = 5 := by unfold takeC; rw [if_neg (by omega), if_pos h2]
theorem takeC_chk {l : List UInt8} (h : (rawOf l).r.e = 0) (h2 : (rawOf l).l.length % 2 = 0) (aA : Option Addr) (aC : Nat) (mA : Option Addr) (mC : Nat) : (takeC l : Int) = chkM (pmOf (rawOf l) aA aC mA mC) := by
  unfold takeC
  rw [if_neg (by omega), if_neg (by omega), chkM_at (rawOf l) aA aC mA mC]
  rcases chk_3 (pmOf (rawOf l) none 0 none 0) with h | h | h <;> rw [h] <;> rfl
theorem Rdr.new2 (s : ByteArray) (w : World) (o : Obj) : Rdr (w.heap.size + 1) s ⟨0, 0⟩ ((w.alloc o).alloc (.cells #[.string s, .int .i64 0, .nilIface, .bool true] 151)) := by
  have h := Rdr.new s (w.alloc o)
  have e : (w.alloc o).heap.size = w.heap.size + 1 := by simp
  rw [e] at h
  exact h
set_option maxRecDepth 100000 in
set_option maxHeartbeats 1000000 in
theorem mTakeB_any (s : ByteArray) (w : World) (hg : Glob w) (hs : s.size ≤ 1000000) :
    Calls Tryz.prog 19 #[.string s] w fun e w' => TakePB w.heap.size s e w' ∧ Below w.heap.size w w' := by
  have HRN := Lib.hid (fun W => RNew_any s W)
  have HRD := Lib.hid (fun (b : Nat) (W : World) (h : Rdr b s ⟨0, 0⟩ W) (hg : Glob W) => read_any b s W h hg hs)
  have HDN := Lib.hid (fun (b : Nat) (r : RS) (W : World) (h : Rdr b s r W) => RDone_any b s r W h)
  have HCK := Lib.hid (fun (m : PM) (W : World) (h : RdM W m) => Check_any m W h)
  have HG := Lib.hid hg
  clear hg
  go_enter Tryz.func19, Tryz.ntmps19
  go_wp2_with fail
  refine (HRN.out _).mono ?_
  rintro e w1 ⟨rfl, rfl⟩
  go_wp2_with fail
  refine (HRD.out (w.heap.size + 1) _ (Rdr.new2 s w _) (HG.out.below (belAlloc (bel1 w _) _))).mono ?_
  rintro e w2 ⟨aA, aC, mA, mC, rfl, hrm, hP, hnA, hnM⟩
  have HRM := Lib.hid hrm
  have HPP := Lib.hid hP
  have hz2 : w.heap.size + 2 ≤ w2.heap.size := by have := hP.2.size; simp at this; omega
  have HB2 : Hid (Below w.heap.size w w2) := below_of_grown (belAlloc (bel1 w _) _) hP.2 (by omega)
  have HRES0 : Hid (w2.heap[w.heap.size]? = some (.cells (mCs 0 0 0 0 0 0 0 0 ⟨#[]⟩ 0 0 (.slice none 0 0) (.slice none 0 0) 0) 25 (0, 0))) := heap_grown ((Below.heap_alloc _ _ _ (by simp)).trans (heap_new w _)) hP.2 (by omega)
  have HTE := Lib.hid (@takeC_e s.data.toList)
  have HTO := Lib.hid (@takeC_odd s.data.toList)
  have HTK := Lib.hid (@takeC_chk s.data.toList)
  obtain ⟨m, hm⟩ : ∃ m, m = pmOf (rawOf s.data.toList) aA aC mA mC := ⟨_, rfl⟩
  have HTC : Hid ((rawOf s.data.toList).r.e = 0 → (rawOf s.data.toList).l.length % 2 = 0 → (takeC s.data.toList : Int) = chkM m) := by rw [hm]; exact fun h1 h2 => takeC_chk h1 h2 aA aC mA mC
  have HMM : Hid (∃ aA aC mA mC, m = pmOf (rawOf s.data.toList) aA aC mA mC) := ⟨aA, aC, mA, mC, hm⟩
  have HNA : Hid (∀ a, m.aA = some a → a.block ≠ w.heap.size) := fun a ha => by rw [hm] at ha; have := hnA a ha; simp at this; omega
  have HNM : Hid (∀ a, m.mA = some a → a.block ≠ w.heap.size) := fun a ha => by rw [hm] at ha; have := hnM a ha; simp at this; omega
  have HGA : Hid (∀ a, m.aA = some a → w.heap.size ≤ a.block) := fun a ha => by rw [hm] at ha; have := hnA a ha; simp at this; omega
  have HGM : Hid (∀ a, m.mA = some a → w.heap.size ≤ a.block) := fun a ha => by rw [hm] at ha; have := hnM a ha; simp at this; omega
  clear hnA hnM
  rw [← hm] at HRM ⊢
  have HRD2 := Lib.hid hP.1
  clear hrm hP hm HTK HRD HRN
  generalize hde : decide ((rawOf s.data.toList).l.length % 2 = 0) = par
  have HDE := Lib.hid hde
  clear hde
  unfold msgV
  go_wp2_with fail
  refine (HDN.out (w.heap.size + 1) (rawOf s.data.toList).r _ (HRD2.out.below (bel1 w2 _))).mono ?_
  rintro e w3 ⟨ev, rfl, hfv, rfl⟩
  rcases hfv with ⟨he, rfl⟩ | ⟨he, op, ops, hol, hch⟩
  · have HE0 := Lib.hid he
    clear he
    cases hpa : par
    · have hne : (rawOf s.data.toList).l.length % 2 ≠ 0 := by have := HDE.out; rw [hpa] at this; simpa using this
      have HTV := Lib.hid (HTO.out HE0.out hne)
      have HNW := Lib.hid (fun W => New_any takeW 5 W (by omega))
      clear hne HDE hpa HTC
      go_wp2_with fail
      refine (HNW.out _).mono ?_
      rintro e w4 ⟨v, rfl, hch4, hb4⟩
      have HCH := Lib.hid hch4
      have HB4 := Lib.hid (belStep (belAlloc HB2.out _) hb4)
      have HR4 := Lib.hid ((hb4.block _ (by simp; omega)).trans ((Below.heap_alloc _ _ _ (by omega)).trans HRES0.out))
      clear hch4 hb4
      have HALL := Lib.hid (And.intro (heap14 HR4.out (.int .i64 0) (.int .i64 0) (.int .i64 0) (.int .i64 0) (.int .i64 0) (.int .i64 0) (.int .i64 0) (.int .i64 0) (.string ⟨#[]⟩) (.int .i64 0) (.int .i64 0) (.slice none 0 0) (.slice none 0 0) (.int .i64 0)) (And.intro (same14 w4 w.heap.size (.int .i64 0) (.int .i64 0) (.int .i64 0) (.int .i64 0) (.int .i64 0) (.int .i64 0) (.int .i64 0) (.int .i64 0) (.string ⟨#[]⟩) (.int .i64 0) (.int .i64 0) (.slice none 0 0) (.slice none 0 0) (.int .i64 0)) (bel14 HB4.out (Nat.le_refl _) (.int .i64 0) (.int .i64 0) (.int .i64 0) (.int .i64 0) (.int .i64 0) (.int .i64 0) (.int .i64 0) (.int .i64 0) (.string ⟨#[]⟩) (.int .i64 0) (.int .i64 0) (.slice none 0 0) (.slice none 0 0) (.int .i64 0))))
      obtain ⟨u0, x0, u1, x1, u2, x2, u3, x3, u4, x4, u5, x5, u6, x6, u7, x7, u8, x8, u9, x9, u10, x10, u11, x11, u12, x12, u13, x13⟩ := cells14 HR4.out
      go_wp2
      generalize ((((((((((((((w4.setCell ⟨w.heap.size, 0, none⟩ (.int .i64 0)).setCell ⟨w.heap.size, 1, none⟩ (.int .i64 0)).setCell ⟨w.heap.size, 2, none⟩ (.int .i64 0)).setCell ⟨w.heap.size, 3, none⟩ (.int .i64 0)).setCell ⟨w.heap.size, 4, none⟩ (.int .i64 0)).setCell ⟨w.heap.size, 5, none⟩ (.int .i64 0)).setCell ⟨w.heap.size, 6, none⟩ (.int .i64 0)).setCell ⟨w.heap.size, 7, none⟩ (.int .i64 0)).setCell ⟨w.heap.size, 8, none⟩ (.string ⟨#[]⟩)).setCell ⟨w.heap.size, 9, none⟩ (.int .i64 0)).setCell ⟨w.heap.size, 10, none⟩ (.int .i64 0)).setCell ⟨w.heap.size, 11, none⟩ (.slice none 0 0)).setCell ⟨w.heap.size, 12, none⟩ (.slice none 0 0)).setCell ⟨w.heap.size, 13, none⟩ (.int .i64 0)) = wf at HALL ⊢
      obtain ⟨hF, hSM, hFin⟩ := HALL.out
      obtain ⟨y0, -, y1, -, y2, -, y3, -, y4, -, y5, -, y6, -, y7, -, y8, -, y9, -, y10, -, y11, -, y12, -, y13, -⟩ := cells14 hF
      refine bodyPost_ret (v := .tuple #[.agg #[.int .i64 0, .int .i64 0, .int .i64 0, .int .i64 0, .int .i64 0, .int .i64 0, .int .i64 0, .int .i64 0, .string ⟨#[]⟩, .int .i64 0, .int .i64 0, .slice none 0 0, .slice none 0 0, .int .i64 0], v]) (by simp [results, Tryz.results19, go_sem, y0, y1, y2, y3, y4, y5, y6, y7, y8, y9, y10, y11, y12, y13]) rfl ?_
      refine ⟨⟨zM, v, [takeW], rfl, zM_rd _, Or.inr ⟨by rw [HTV.out]; decide, ?_⟩, by simp, fun _ => ⟨by simp, rfl⟩, (fun h => by rw [HTV.out] at h; cases h), zM_blk _⟩, hFin⟩
      rw [HTV.out]
      exact chain_grown HR4.out (mCs_noFault _ _ _ _ _ _ _ _ _ _ _ _ _ _ (by simp)) hSM HCH.out
    · have heq : (rawOf s.data.toList).l.length % 2 = 0 := by have := HDE.out; rw [hpa] at this; simpa using this
      have HTV := Lib.hid (HTC.out HE0.out heq)
      have HCK2 := Lib.hid (HCK.out m (w2.alloc (.cells (msgC m) 25)) (HRM.out.next (bel1 w2 _)))
      unfold msgV at HCK2
      unfold msgC at HCK2
      clear heq HDE hpa HTC HCK
      go_wp2_with fail
      refine HCK2.out.mono ?_
      rintro e w4 ⟨⟨v, rfl, hv⟩, hb4⟩
      have HB4 := Lib.hid (belStep (belAlloc HB2.out _) hb4)
      have HR4 := Lib.hid ((hb4.block _ (by simp; omega)).trans ((Below.heap_alloc _ _ _ (by omega)).trans HRES0.out))
      have HMV : Hid (w4.heap[w2.heap.size]? = some (.cells #[.int .i64 m.k, .int .i64 m.fr, .int .i64 m.id, .int .i64 m.t, .int .i64 m.bal, .int .i64 m.abal, .int .i64 m.ph, .int .i64 m.q, .string m.pay, .int .i64 m.lo, .int .i64 m.hi, .slice m.aA m.ats.size m.aC, .slice m.mA m.mks.size m.mC, .int .i64 m.dn] 25 (0, 0))) := (hb4.block _ (by simp)).trans (heap_new w2 _)
      have HRM4 := Lib.hid (HRM.out.next (belStep (bel1 w2 _) hb4))
      rcases hv with ⟨h0, -, rfl⟩ | ⟨h0, hch⟩
      · have H0 := Lib.hid h0
        have HT0 : Hid (takeC s.data.toList = 0) := by show _ = _; have := HTV.out; rw [H0.out] at this; omega
        obtain ⟨p0, -, p1, -, p2, -, p3, -, p4, -, p5, -, p6, -, p7, -, p8, -, p9, -, p10, -, p11, -, p12, -, p13, -⟩ := cells14 HMV.out
        have hzz : w4.heap.size = w4.heap.size := rfl
        clear h0 hb4 hzz HCK2
        have HALL := Lib.hid (And.intro (heap14 HR4.out (.int .i64 m.k) (.int .i64 m.fr) (.int .i64 m.id) (.int .i64 m.t) (.int .i64 m.bal) (.int .i64 m.abal) (.int .i64 m.ph) (.int .i64 m.q) (.string m.pay) (.int .i64 m.lo) (.int .i64 m.hi) (.slice m.aA m.ats.size m.aC) (.slice m.mA m.mks.size m.mC) (.int .i64 m.dn)) (And.intro (same14 w4 w.heap.size (.int .i64 m.k) (.int .i64 m.fr) (.int .i64 m.id) (.int .i64 m.t) (.int .i64 m.bal) (.int .i64 m.abal) (.int .i64 m.ph) (.int .i64 m.q) (.string m.pay) (.int .i64 m.lo) (.int .i64 m.hi) (.slice m.aA m.ats.size m.aC) (.slice m.mA m.mks.size m.mC) (.int .i64 m.dn)) (bel14 HB4.out (Nat.le_refl _) (.int .i64 m.k) (.int .i64 m.fr) (.int .i64 m.id) (.int .i64 m.t) (.int .i64 m.bal) (.int .i64 m.abal) (.int .i64 m.ph) (.int .i64 m.q) (.string m.pay) (.int .i64 m.lo) (.int .i64 m.hi) (.slice m.aA m.ats.size m.aC) (.slice m.mA m.mks.size m.mC) (.int .i64 m.dn))))
        obtain ⟨u0, x0, u1, x1, u2, x2, u3, x3, u4, x4, u5, x5, u6, x6, u7, x7, u8, x8, u9, x9, u10, x10, u11, x11, u12, x12, u13, x13⟩ := cells14 HR4.out
        go_wp2
        generalize ((((((((((((((w4.setCell ⟨w.heap.size, 0, none⟩ (.int .i64 m.k)).setCell ⟨w.heap.size, 1, none⟩ (.int .i64 m.fr)).setCell ⟨w.heap.size, 2, none⟩ (.int .i64 m.id)).setCell ⟨w.heap.size, 3, none⟩ (.int .i64 m.t)).setCell ⟨w.heap.size, 4, none⟩ (.int .i64 m.bal)).setCell ⟨w.heap.size, 5, none⟩ (.int .i64 m.abal)).setCell ⟨w.heap.size, 6, none⟩ (.int .i64 m.ph)).setCell ⟨w.heap.size, 7, none⟩ (.int .i64 m.q)).setCell ⟨w.heap.size, 8, none⟩ (.string m.pay)).setCell ⟨w.heap.size, 9, none⟩ (.int .i64 m.lo)).setCell ⟨w.heap.size, 10, none⟩ (.int .i64 m.hi)).setCell ⟨w.heap.size, 11, none⟩ (.slice m.aA m.ats.size m.aC)).setCell ⟨w.heap.size, 12, none⟩ (.slice m.mA m.mks.size m.mC)).setCell ⟨w.heap.size, 13, none⟩ (.int .i64 m.dn)) = wf at HALL ⊢
        obtain ⟨hF, hSM, hFin⟩ := HALL.out
        obtain ⟨y0, -, y1, -, y2, -, y3, -, y4, -, y5, -, y6, -, y7, -, y8, -, y9, -, y10, -, y11, -, y12, -, y13, -⟩ := cells14 hF
        refine bodyPost_ret (v := .tuple #[.agg #[.int .i64 m.k, .int .i64 m.fr, .int .i64 m.id, .int .i64 m.t, .int .i64 m.bal, .int .i64 m.abal, .int .i64 m.ph, .int .i64 m.q, .string m.pay, .int .i64 m.lo, .int .i64 m.hi, .slice m.aA m.ats.size m.aC, .slice m.mA m.mks.size m.mC, .int .i64 m.dn], .nilIface]) (by simp [results, Tryz.results19, go_sem, y0, y1, y2, y3, y4, y5, y6, y7, y8, y9, y10, y11, y12, y13]) rfl ?_
        refine ⟨⟨m, .nilIface, [], rfl, ?_, Or.inl ⟨by rw [HT0.out]; rfl, rfl, rfl⟩, by simp, (fun h => absurd HT0.out h), (fun _ => HMM.out), HGA.out, HGM.out⟩, hFin⟩
        exact ⟨HRM4.out.ra.grown hSM HNA.out, HRM4.out.rm.grown hSM HNM.out, HRM4.out.sa, HRM4.out.sm, HRM4.out.sp⟩
      · have H0 := Lib.hid h0
        have HCH := Lib.hid hch
        rw [if_neg h0] at HCH
        have HWr := Lib.hid (Wrap_any takeW [msgW] (chkM m) v w4 HCH.out)
        obtain ⟨b6, o6, u6, rfl, -⟩ := HCH.out
        clear h0 hch hb4 HCK2
        go_wp2_with fail
        refine HWr.out.mono ?_
        rintro e w5 ⟨v, rfl, hch5, hb5⟩
        have HCH5 := Lib.hid hch5
        have HB5 := Lib.hid (belStep HB4.out hb5)
        have HR5 := Lib.hid ((hb5.block _ (lt_of_heap HR4.out)).trans HR4.out)
        clear hch5 hb5
        have HALL := Lib.hid (And.intro (heap14 HR5.out (.int .i64 0) (.int .i64 0) (.int .i64 0) (.int .i64 0) (.int .i64 0) (.int .i64 0) (.int .i64 0) (.int .i64 0) (.string ⟨#[]⟩) (.int .i64 0) (.int .i64 0) (.slice none 0 0) (.slice none 0 0) (.int .i64 0)) (And.intro (same14 w5 w.heap.size (.int .i64 0) (.int .i64 0) (.int .i64 0) (.int .i64 0) (.int .i64 0) (.int .i64 0) (.int .i64 0) (.int .i64 0) (.string ⟨#[]⟩) (.int .i64 0) (.int .i64 0) (.slice none 0 0) (.slice none 0 0) (.int .i64 0)) (bel14 HB5.out (Nat.le_refl _) (.int .i64 0) (.int .i64 0) (.int .i64 0) (.int .i64 0) (.int .i64 0) (.int .i64 0) (.int .i64 0) (.int .i64 0) (.string ⟨#[]⟩) (.int .i64 0) (.int .i64 0) (.slice none 0 0) (.slice none 0 0) (.int .i64 0))))
        obtain ⟨u0, x0, u1, x1, u2, x2, u3, x3, u4, x4, u5, x5, u6, x6, u7, x7, u8, x8, u9, x9, u10, x10, u11, x11, u12, x12, u13, x13⟩ := cells14 HR5.out
        go_wp2
        generalize ((((((((((((((w5.setCell ⟨w.heap.size, 0, none⟩ (.int .i64 0)).setCell ⟨w.heap.size, 1, none⟩ (.int .i64 0)).setCell ⟨w.heap.size, 2, none⟩ (.int .i64 0)).setCell ⟨w.heap.size, 3, none⟩ (.int .i64 0)).setCell ⟨w.heap.size, 4, none⟩ (.int .i64 0)).setCell ⟨w.heap.size, 5, none⟩ (.int .i64 0)).setCell ⟨w.heap.size, 6, none⟩ (.int .i64 0)).setCell ⟨w.heap.size, 7, none⟩ (.int .i64 0)).setCell ⟨w.heap.size, 8, none⟩ (.string ⟨#[]⟩)).setCell ⟨w.heap.size, 9, none⟩ (.int .i64 0)).setCell ⟨w.heap.size, 10, none⟩ (.int .i64 0)).setCell ⟨w.heap.size, 11, none⟩ (.slice none 0 0)).setCell ⟨w.heap.size, 12, none⟩ (.slice none 0 0)).setCell ⟨w.heap.size, 13, none⟩ (.int .i64 0)) = wf at HALL ⊢
        obtain ⟨hF, hSM, hFin⟩ := HALL.out
        obtain ⟨y0, -, y1, -, y2, -, y3, -, y4, -, y5, -, y6, -, y7, -, y8, -, y9, -, y10, -, y11, -, y12, -, y13, -⟩ := cells14 hF
        refine bodyPost_ret (v := .tuple #[.agg #[.int .i64 0, .int .i64 0, .int .i64 0, .int .i64 0, .int .i64 0, .int .i64 0, .int .i64 0, .int .i64 0, .string ⟨#[]⟩, .int .i64 0, .int .i64 0, .slice none 0 0, .slice none 0 0, .int .i64 0], v]) (by simp [results, Tryz.results19, go_sem, y0, y1, y2, y3, y4, y5, y6, y7, y8, y9, y10, y11, y12, y13]) rfl ?_
        refine ⟨⟨zM, v, [takeW, msgW], rfl, zM_rd _, Or.inr ⟨by rw [HTV.out]; exact H0.out, ?_⟩, by simp, fun _ => ⟨by simp, rfl⟩, (fun h => absurd (by rw [← HTV.out, h]; rfl) H0.out), zM_blk _⟩, hFin⟩
        rw [HTV.out]
        exact chain_grown HR5.out (mCs_noFault _ _ _ _ _ _ _ _ _ _ _ _ _ _ (by simp)) hSM HCH5.out
  · have HTV := Lib.hid (HTE.out he)
    have HE0 := Lib.hid he
    have HOL := Lib.hid hol
    have HWr := Lib.hid (Wrap_any takeW (op :: ops) _ ev _ hch)
    obtain ⟨b6, o6, u6, rfl, -⟩ := hch
    clear he HDE HTC HCK hol
    go_wp2_with fail
    refine HWr.out.mono ?_
    rintro e w4 ⟨v, rfl, hch4, hb4⟩
    have HCH := Lib.hid hch4
    have HB4 := Lib.hid (belStep (belAlloc HB2.out _) hb4)
    have HR4 := Lib.hid ((hb4.block _ (by simp; omega)).trans ((Below.heap_alloc _ _ _ (by omega)).trans HRES0.out))
    clear hch4 hb4
    have HALL := Lib.hid (And.intro (heap14 HR4.out (.int .i64 0) (.int .i64 0) (.int .i64 0) (.int .i64 0) (.int .i64 0) (.int .i64 0) (.int .i64 0) (.int .i64 0) (.string ⟨#[]⟩) (.int .i64 0) (.int .i64 0) (.slice none 0 0) (.slice none 0 0) (.int .i64 0)) (And.intro (same14 w4 w.heap.size (.int .i64 0) (.int .i64 0) (.int .i64 0) (.int .i64 0) (.int .i64 0) (.int .i64 0) (.int .i64 0) (.int .i64 0) (.string ⟨#[]⟩) (.int .i64 0) (.int .i64 0) (.slice none 0 0) (.slice none 0 0) (.int .i64 0)) (bel14 HB4.out (Nat.le_refl _) (.int .i64 0) (.int .i64 0) (.int .i64 0) (.int .i64 0) (.int .i64 0) (.int .i64 0) (.int .i64 0) (.int .i64 0) (.string ⟨#[]⟩) (.int .i64 0) (.int .i64 0) (.slice none 0 0) (.slice none 0 0) (.int .i64 0))))
    obtain ⟨u0, x0, u1, x1, u2, x2, u3, x3, u4, x4, u5, x5, u6, x6, u7, x7, u8, x8, u9, x9, u10, x10, u11, x11, u12, x12, u13, x13⟩ := cells14 HR4.out
    go_wp2
    generalize ((((((((((((((w4.setCell ⟨w.heap.size, 0, none⟩ (.int .i64 0)).setCell ⟨w.heap.size, 1, none⟩ (.int .i64 0)).setCell ⟨w.heap.size, 2, none⟩ (.int .i64 0)).setCell ⟨w.heap.size, 3, none⟩ (.int .i64 0)).setCell ⟨w.heap.size, 4, none⟩ (.int .i64 0)).setCell ⟨w.heap.size, 5, none⟩ (.int .i64 0)).setCell ⟨w.heap.size, 6, none⟩ (.int .i64 0)).setCell ⟨w.heap.size, 7, none⟩ (.int .i64 0)).setCell ⟨w.heap.size, 8, none⟩ (.string ⟨#[]⟩)).setCell ⟨w.heap.size, 9, none⟩ (.int .i64 0)).setCell ⟨w.heap.size, 10, none⟩ (.int .i64 0)).setCell ⟨w.heap.size, 11, none⟩ (.slice none 0 0)).setCell ⟨w.heap.size, 12, none⟩ (.slice none 0 0)).setCell ⟨w.heap.size, 13, none⟩ (.int .i64 0)) = wf at HALL ⊢
    obtain ⟨hF, hSM, hFin⟩ := HALL.out
    obtain ⟨y0, -, y1, -, y2, -, y3, -, y4, -, y5, -, y6, -, y7, -, y8, -, y9, -, y10, -, y11, -, y12, -, y13, -⟩ := cells14 hF
    refine bodyPost_ret (v := .tuple #[.agg #[.int .i64 0, .int .i64 0, .int .i64 0, .int .i64 0, .int .i64 0, .int .i64 0, .int .i64 0, .int .i64 0, .string ⟨#[]⟩, .int .i64 0, .int .i64 0, .slice none 0 0, .slice none 0 0, .int .i64 0], v]) (by simp [results, Tryz.results19, go_sem, y0, y1, y2, y3, y4, y5, y6, y7, y8, y9, y10, y11, y12, y13]) rfl ?_
    refine ⟨⟨zM, v, takeW :: op :: ops, rfl, zM_rd _, Or.inr ⟨by rw [HTV.out]; have := HE0.out; omega, ?_⟩, by have := HOL.out; simp; omega, fun _ => ⟨by simp, rfl⟩, (fun h => absurd (by rw [← HTV.out, h]) HE0.out), zM_blk _⟩, hFin⟩
    rw [HTV.out]
    exact chain_grown HR4.out (mCs_noFault _ _ _ _ _ _ _ _ _ _ _ _ _ _ (by simp)) hSM HCH.out
theorem mTake_any (s : ByteArray) (w : World) (hg : Glob w) (hs : s.size ≤ 1000000) :
    Calls Tryz.prog 19 #[.string s] w fun e w' => TakeP s e w' ∧ Below w.heap.size w w' := (mTakeB_any s w hg hs).mono fun _ _ ⟨h, hb⟩ => ⟨h.take, hb⟩
end Go.Proofs.YtlpplnmmcgdooaaGreatDoor
