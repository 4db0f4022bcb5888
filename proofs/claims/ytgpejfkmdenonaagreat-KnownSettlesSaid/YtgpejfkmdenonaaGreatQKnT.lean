/- The document's Settle of what is known. The document's Open of what is known. -/
import Derived.Test.YtgpejfkmdenonaaGreatQKnX
namespace Go.Proofs.YtgpejfkmdenonaaGreat
open Go.RowKit Go.Sort Go.Lib
set_option maxRecDepth 100000
def stA (k : KN) (ids : Array Int) (j : Nat) : Array (Int × Int) := ((k.ats.toList.take j).filter fun a => !doneK ids a).toArray
def moA (k : KN) (ids : Array Int) (j : Nat) : Array (Int × Int) := (((k.ats.toList.take j).filter (doneK ids)).map fun a => (a.1, a.1)).toArray
theorem stA_succ {k : KN} {ids : Array Int} {j : Nat} (hj : j < k.ats.size) : stA k ids (j + 1) = if doneK ids k.ats[j]! then stA k ids j else (stA k ids j).push k.ats[j]! := by
  unfold stA
  rw [take_snoc_U hj, List.filter_append]
  cases h : doneK ids k.ats[j]! <;> simp [h]
theorem moA_succ {k : KN} {ids : Array Int} {j : Nat} (hj : j < k.ats.size) : moA k ids (j + 1) = if doneK ids k.ats[j]! then moA k ids j ++ #[(k.ats[j]!.1, k.ats[j]!.1)] else moA k ids j := by
  unfold moA
  rw [take_snoc_U hj, List.filter_append]
  cases h : doneK ids k.ats[j]! <;> simp [h]
theorem stA_size (k : KN) (ids : Array Int) (j : Nat) : (stA k ids j).size ≤ k.ats.size := by
  unfold stA
  have h1 := List.length_filter_le (fun a => !doneK ids a) (k.ats.toList.take j)
  have h2 := List.length_take_le j k.ats.toList
  have h3 := List.length_take_le' j k.ats.toList
  simp at h1 h2 h3 ⊢
  omega
theorem moA_size (k : KN) (ids : Array Int) (j : Nat) : (moA k ids j).size ≤ k.ats.size := by
  unfold moA
  have h1 := List.length_filter_le (doneK ids) (k.ats.toList.take j)
  have h3 := List.length_take_le' j k.ats.toList
  simp at h1 h3 ⊢
  omega
theorem stA_fin (k : KN) (ids : Array Int) : stA k ids k.ats.size = stayK k ids := by unfold stA stayK; rw [List.take_of_length_le (by simp)]
theorem moA_fin (k : KN) (ids : Array Int) : moA k ids k.ats.size = setlK k ids := by unfold moA setlK; rw [List.take_of_length_le (by simp)]
theorem cont_succ {ids : Array Int} {m : Nat} (hm : m < ids.size) (y : Int) : (ids.toList.take (m + 1)).contains y = ((ids.toList.take m).contains y || (ids[m]! == y)) := by
  rw [List.take_add_one]
  have e : ids.toList[m]? = some ids[m]! := by rw [getElem!_pos ids m hm]; simp [hm]
  rw [e, Bool.eq_iff_iff]
  simp only [Option.toList_some, List.contains_iff_mem, List.mem_append, List.mem_singleton, Bool.or_eq_true, beq_iff_eq]
  constructor
  · rintro (h | h)
    · exact Or.inl h
    · exact Or.inr h.symm
  · rintro (h | h)
    · exact Or.inl h
    · exact Or.inr h.symm
attribute [local go_sem ↓] Go.wp_at_zero Go.wp_at_succ
set_option maxHeartbeats 16000000 in
theorem rSettle_ok (base : Int) (rs ats : Array (Int × Int)) (A1 : Option Addr) (c1 : Nat) (A2 : Option Addr) (c2 : Nat) (ids : Array Int) (A3 : Option Addr) (c3 : Nat) (w : World) (h1 : RdK encR 2 w.heap.size w A1 rs) (h2 : RdK encA_I 2 w.heap.size w A2 ats) (h3 : RdI_R w.heap.size w A3 ids) (m1 : A1 = none → c1 = 0)
    (hP : ChkP ⟨base, rs, ats⟩) (s1 : rs.size ≤ 500) (s3 : ids.size ≤ 100000) :
    Calls Tryz.prog 17 #[.agg #[.int .i64 base, .slice A1 rs.size c1, .slice A2 ats.size c2], .slice A3 ids.size c3] w fun e w' => ∃ v r, e = .returned v ∧ KnV w' v r ∧ SetR ⟨base, rs, ats⟩ ids r ∧ Below w.heap.size w w' := by
  obtain ⟨i0, hi0, hz0, hz1, hz2⟩ := info_parts range_info
  obtain ⟨j0, hj0, jz0, jz1, jz2⟩ := info_parts att_info_I
  have HC : Hid (∀ W, Below w.heap.size w W → Calls Tryz.prog 13 #[.agg #[.int .i64 base, .slice A1 rs.size c1, .slice A2 ats.size c2]] W fun e w' => e = .returned (.int .i64 0) ∧ Below W.heap.size W w') := fun W hb => by
    have := rChk16_let base rs ats A1 c1 A2 c2 W ((h1.below hb).mono hb.size) ((h2.below hb).mono hb.size)
    unfold chkE at this
    rwa [if_pos (chk_iff.2 hP)] at this
  have HT := Lib.hid (two_blk w (.cells #[.int .i64 base, .slice A1 rs.size c1, .slice A2 ats.size c2] 25) (.cells #[.int .i64 0, .slice none 0 0, .slice none 0 0] 25))
  have HR1 := Lib.hid h1
  have HR2 := Lib.hid h2
  have HR3 := Lib.hid h3
  have HM1 := Lib.hid m1
  have HP := Lib.hid hP
  have s2 := hP.sz
  simp only at s2
  clear h1 h2 h3 m1 hP
  go_enter Tryz.func17, Tryz.ntmps17
  go_wp2_with fail
  refine (HC.out _ (belAlloc (bel1 w _) _)).mono ?_
  rintro e w1 ⟨rfl, hb1⟩
  have HB1 := Lib.hid (belStep (belAlloc (bel1 w _) _) hb1)
  have HK1 := Lib.hid (blk_bel HT.out.1 hb1)
  have HG1 := Lib.hid (blk_bel HT.out.2 hb1)
  have HL1 : Hid (w.heap.size + 1 < w1.heap.size) := blk_lt HG1.out
  clear hb1 HC HT
  go_wp2
  go_loopw [5, 6, 7] (fun vs vm iv wr => ∃ j : Nat, iv = .int .i64 (j : Int) ∧ j ≤ ats.size ∧ wr.ownsRow w1.heap.size 50 2 vs (stA ⟨base, rs, ats⟩ ids j).size (flatK encA_I 2 (stA ⟨base, rs, ats⟩ ids j)).toList ∧ wr.ownsRow w1.heap.size 47 2 vm (moA ⟨base, rs, ats⟩ ids j).size (flatK encA_I 2 (moA ⟨base, rs, ats⟩ ids j)).toList ∧ Below w1.heap.size w1 wr) (fun _ _ iv _ => ats.size - (intOf iv).toNat)
  case atStart => exact ⟨0, rfl, Nat.zero_le _, nil_ownsK _ _ _ _ _, nil_ownsK _ _ _ _ _, Below.refl _ _⟩
  case round =>
    obtain ⟨j, rfl, hj, hst, hmo, hB⟩ := hrel
    have hzs := stA_size ⟨base, rs, ats⟩ ids j
    have hzm := moA_size ⟨base, rs, ats⟩ ids j
    simp only at hzs hzm
    have HB := Lib.hid hB
    obtain ⟨⟨k0, k1, k2⟩, _⟩ := blk3 (blk_bel HK1.out HB.out)
    clear hB
    by_cases hlt : j < ats.size
    · have jz : (j : Int) < (ats.size : Int) := by omega
      obtain ⟨b, off, rfl, hbl, f⟩ := (HR2.out.below (belStep HB1.out HB.out)).at_ hlt
      have e0 := f 0 (by omega)
      have e1 := f 1 (by omega)
      have hb1w : b < w1.heap.size := Nat.lt_of_lt_of_le hbl HB1.out.size
      have HSS := Lib.hid (stA_succ (k := ⟨base, rs, ats⟩) (ids := ids) hlt)
      have HSM := Lib.hid (moA_succ (k := ⟨base, rs, ats⟩) (ids := ids) hlt)
      obtain ⟨x, hx⟩ : ∃ x, ats[j]! = x := ⟨_, rfl⟩
      simp only [hx] at e0 e1 HSS HSM
      simp only [Nat.add_zero, encA_I, List.getElem!_cons_zero, List.getElem!_cons_succ] at e0 e1
      obtain ⟨st, hste⟩ : ∃ st, stA ⟨base, rs, ats⟩ ids j = st := ⟨_, rfl⟩
      obtain ⟨mo, hmoe⟩ : ∃ mo, moA ⟨base, rs, ats⟩ ids j = mo := ⟨_, rfl⟩
      rw [hste] at hst HSS hzs
      rw [hmoe] at hmo HSM hzm
      have HSt := Lib.hid hst
      have HMo := Lib.hid hmo
      have HXC : Hid (b < w1.heap.size ∧ w1.cell? ⟨b, off + j * 2, none⟩ = some (.int .i64 x.1) ∧ w1.cell? ⟨b, off + j * 2 + 1, none⟩ = some (.int .i64 x.2)) := ⟨hb1w, (HB.out.cell (p := ⟨b, off + j * 2, none⟩) hb1w).symm.trans e0, (HB.out.cell (p := ⟨b, off + j * 2 + 1, none⟩) hb1w).symm.trans e1⟩
      have KS : Hid (∀ W, Below w1.heap.size w1 W → Below w1.heap.size w1 W ∧ W.cell? ⟨b, off + j * 2, none⟩ = some (.int .i64 x.1) ∧ W.cell? ⟨w.heap.size, 2, none⟩ = some (.slice (some ⟨b, off, none⟩) ats.size c2)) := fun W hb => ⟨hb, (hb.cell (p := ⟨b, off + j * 2, none⟩) HXC.out.1).trans HXC.out.2.1, (blk3 (blk_bel HK1.out hb)).1.2.2⟩
      obtain ⟨w2, HW2⟩ : ∃ W, Hid (W = wr) := ⟨wr, rfl⟩
      have HSt2 : Hid (w2.ownsRow w1.heap.size 50 2 u5 st.size (flatK encA_I 2 st).toList) := by rw [HW2.out]; exact hst
      have HMo2 : Hid (w2.ownsRow w1.heap.size 47 2 u6 mo.size (flatK encA_I 2 mo).toList) := by rw [HW2.out]; exact hmo
      have HB2 : Hid (Below w1.heap.size w1 w2) := by rw [HW2.out]; exact HB.out
      clear f hx hst hmo hste hmoe hb1w HSt HMo HB e0 e1
      go_wp2_with fail
      go_loopw [8, 9] (fun dv jv wi => ∃ m : Nat, jv = .int .i64 (m : Int) ∧ m ≤ ids.size ∧ dv = .bool ((ids.toList.take m).contains x.2) ∧ wi.heap = w2.heap ∧ Below w1.heap.size w1 wi) (fun _ jv _ => ids.size - (intOf jv).toNat)
      case atStart => exact ⟨0, rfl, Nat.zero_le _, rfl, by rw [HW2.out], by have := HB2.out; rw [HW2.out] at this; exact this⟩
      case round =>
        clear k0 k1 k2 HW2
        obtain ⟨m, rfl, hm, rfl, hq, hBi⟩ := hrel
        obtain ⟨wi, hwi⟩ : ∃ W, wr = W := ⟨_, rfl⟩
        rw [hwi] at hq hBi ⊢
        clear hwi
        have HSi : Hid (wi.ownsRow w1.heap.size 50 2 u5 st.size (flatK encA_I 2 st).toList) := own_heap HSt2.out fun g _ _ => by rw [hq]
        have HMi : Hid (wi.ownsRow w1.heap.size 47 2 u6 mo.size (flatK encA_I 2 mo).toList) := own_heap HMo2.out fun g _ _ => by rw [hq]
        have HBi := Lib.hid hBi
        have HQ := Lib.hid hq
        clear hq hBi
        by_cases hlm : m < ids.size
        · have mz : (m : Int) < (ids.size : Int) := by omega
          obtain ⟨⟨k0, k1, k2⟩, _⟩ := blk3 (blk_bel HK1.out HBi.out)
          have x1 := (HBi.out.cell (p := ⟨b, off + j * 2 + 1, none⟩) HXC.out.1).trans HXC.out.2.2
          obtain ⟨bi, oi, rfl, _, g⟩ := (HR3.out.below (belStep HB1.out HBi.out)) (by omega)
          have y0 := g m hlm
          have HCS := Lib.hid (cont_succ hlm x.2)
          obtain ⟨y, hy⟩ : ∃ y, ids[m]! = y := ⟨_, rfl⟩
          rw [hy] at y0 HCS
          clear g hy
          obtain ⟨cc, hcc⟩ : ∃ cc, (ids.toList.take m).contains x.2 = cc := ⟨_, rfl⟩
          rw [hcc] at HCS ⊢
          clear hcc
          cases cc
          · rw [Bool.false_or] at HCS
            obtain ⟨yy, hyy⟩ : ∃ yy, (y == x.2) = yy := ⟨_, rfl⟩
            rw [hyy] at HCS
            go_wp2_with fail
            go_quiet (fail)
            go_wp2
            exact ⟨⟨m + 1, by go_num, by omega, by rw [HCS.out], HQ.out, belDrewN HBi.out _⟩, by simp [intOf]; omega⟩
          · rw [Bool.true_or] at HCS
            go_wp2_with fail
            go_quiet (fail)
            go_wp2
            exact ⟨⟨m + 1, by go_num, by omega, by rw [HCS.out], HQ.out, belDrewN HBi.out _⟩, by simp [intOf]; omega⟩
        · obtain rfl : m = ids.size := by omega
          have hltm : ¬ (ids.size : Int) < (ids.size : Int) := by omega
          have hdn : (ids.toList.take ids.size).contains x.2 = doneK ids x := by rw [List.take_of_length_le (by simp)]; rfl
          rw [hdn]
          clear hdn
          obtain ⟨dn, hde⟩ : ∃ dn, doneK ids x = dn := ⟨_, rfl⟩
          rw [hde] at HSS HSM ⊢
          clear hde
          cases dn
          · rw [if_neg (by decide)] at HSS HSM
            obtain ⟨⟨k0, k1, k2⟩, _⟩ := blk3 (blk_bel HK1.out HBi.out)
            have x0 := (HBi.out.cell (p := ⟨b, off + j * 2, none⟩) HXC.out.1).trans HXC.out.2.1
            have x1 := (HBi.out.cell (p := ⟨b, off + j * 2 + 1, none⟩) HXC.out.1).trans HXC.out.2.2
            have hzq := HBi.out.size
            go_wp2_with (at_builtin; refine wpList_append_own _ rfl _ _ 23 rfl w1.heap.size 50 j0 (.agg #[.int .i64 0, .int .i64 0]) 2 16 Tryz.underlying23 hj0 jz0 jz1 jz2 rfl (by decide) _ _ _ rfl (HSi.out.alloc _) ⟨wi.heap.size, 0, none⟩ 1 1 [.int .i64 x.1, .int .i64 x.2] rfl rfl (two_new_R wi _ _ _) (by simp [Value.oneCell']) (by unfold maxLen; omega) (by omega) (by simp; omega) ?_; intro v4 w4 hown4 hgrow4 _; have hmo4 := (HMi.out.alloc _).kept hgrow4 (own_apart HMi.out HSi.out (by decide)); have hb4 := own_app1 HBi.out hzq HSi.out hgrow4)
            exact ⟨⟨j + 1, by go_num, by omega, (by rw [HSS.out, Array.size_push, flatK_push encA_len_I]; exact hown4), (by rw [HSM.out]; exact hmo4), hb4⟩, by simp [intOf]; omega⟩
          · rw [if_pos rfl] at HSS HSM
            have hbc : Below w1.heap.size w1 wi := HBi.out
            go_wp2_with fail
            go_region_held3 (fun w' => Below w1.heap.size w1 w' ∧ w'.cell? ⟨b, off + j * 2, none⟩ = some (.int .i64 x.1) ∧ w'.cell? ⟨w.heap.size, 2, none⟩ = some (.slice (some ⟨b, off, none⟩) ats.size c2)) (first | assumption | exact KS.out _ (by assumption) | exact KS.out _ (And.left (by assumption)) | exact KS.out _ (Below.drew (by assumption)) | exact KS.out _ (Below.drew (And.left (by assumption))) | exact KS.out _ (belAlloc (by assumption) _) | exact KS.out _ (belAlloc (And.left (by assumption)) _) | exact KS.out _ (belAlloc (by assumption) _).drew | exact KS.out _ (belAlloc (And.left (by assumption)) _).drew | exact KS.out _ (belAlloc (Below.drew (by assumption)) _) | exact KS.out _ (belAlloc (Below.drew (And.left (by assumption))) _))
              ((refine step_append_R encA_1_I encA_len_I (by decide) (by rfl) _ _ _ (by rfl) w1 47 i0 _ 16 Tryz.underlying22 hi0 hz0 hz1 hz2 rfl _ mo (by rfl) (by first | exact HMi.out.alloc _ | exact (HMi.out.alloc _).drew | exact World.ownsRow.alloc HMi.out.drew _) _ _ _ _ #[(x.1, x.1)] (by rfl) (by rfl) (by first | exact one2A _ (x.1, x.1) _ | exact one2N _ (x.1, x.1) _) (fun h => by cases h) (by first | (simp; done) | (simp; omega)) (by decide) (by first | assumption | exact And.left (by assumption)) ?_; intro v3 w3 hown3 hgrow3 hBw3; have hst3 := World.ownsRow.kept (by first | exact HSi.out.alloc _ | exact (HSi.out.alloc _).drew | exact World.ownsRow.alloc HSi.out.drew _) hgrow3 (own_apart HSi.out HMi.out (by decide))))
            all_goals
              go_wp2
              exact ⟨⟨j + 1, by go_num, by omega, (by rw [HSS.out]; exact hst3), (by rw [HSM.out]; exact hown3), hBw3⟩, by simp [intOf]; omega⟩
    · obtain rfl : j = ats.size := by omega
      have hlt' : ¬ (ats.size : Int) < (ats.size : Int) := by omega
      have hsf := stA_fin ⟨base, rs, ats⟩ ids
      have hmf := moA_fin ⟨base, rs, ats⟩ ids
      simp only at hsf hmf
      rw [hsf] at hst hzs
      rw [hmf] at hmo hzm
      have hse := (rfl : stayK ⟨base, rs, ats⟩ ids = stayK ⟨base, rs, ats⟩ ids)
      have hok := uni_set_ok (ids := ids) HP.out
      have hpi := fun m => uni_set (k := ⟨base, rs, ats⟩) (ids := ids) m
      simp only at hok hpi
      generalize setlK ⟨base, rs, ats⟩ ids = more at hmo hzm hok hpi
      obtain ⟨stay, hsy⟩ : ∃ stay, stayK ⟨base, rs, ats⟩ ids = stay := ⟨_, rfl⟩
      rw [hsy] at hst hzs
      have HSy := Lib.hid hsy
      have hsl : ∀ g, u5.ownBlock = some g → w1.heap.size ≤ g := fun g e => (hst.lt g e).1
      obtain ⟨As, cs, rfl, hrs, hns⟩ := rdK_of_owns (enc := encA_I) hst
      obtain ⟨Am, cm, rfl, hrm, hnm⟩ := rdK_of_owns (enc := encA_I) hmo
      have HRs := Lib.hid hrs
      have HNs := Lib.hid hns
      have HFs : Hid (∀ g off, As = some ⟨g, off, none⟩ → g ≠ w.heap.size + 1) := fun g off e => by
        have h1 := hsl g (by rw [e]; rfl)
        have h2 := HL1.out
        omega
      have hkl := blk_lt (blk_bel HK1.out HB.out)
      have hwr := HB.out.size
      have HUn := Lib.hid (uni_any A1 c1 rs Am cm more wr ((HR1.out.below (belStep HB1.out HB.out)).mono (belStep HB1.out HB.out).size) hrm HM1.out hnm (by omega) hok)
      have HPi := Lib.hid hpi
      clear hst hmo hsf hmf hsy hse hsl hrs hns hrm hnm hok hpi
      go_wp2_with fail
      refine HUn.out.mono ?_
      rintro e w4 ⟨v, out, rfl, hIs, hsz, hown, hb4⟩
      have hfr : ∀ g, v.ownBlock = some g → wr.heap.size ≤ g := fun g e => (hown.lt g e).1
      obtain ⟨Au, cu, rfl, hru, hnu⟩ := rdK_of_owns (enc := encR) hown
      have HIs : Hid (IsN (pS ⟨base, rs, ats⟩ ids) out) := hIs.congr fun m => HPi.out m
      have d5 : decide ((1000 : Int) < (out.size : Int)) = false := decide_eq_false (by omega)
      have hou : out.size ≤ 1000 := by omega
      have HB14 := Lib.hid (belStep HB.out hb4)
      have HRs4 := Lib.hid (HRs.out.next_K hb4)
      have HFu : Hid (∀ g off, Au = some ⟨g, off, none⟩ → g ≠ w.heap.size + 1) := fun g off e => by
        have h1 := hfr g (by rw [e]; rfl)
        have h2 := HL1.out
        omega
      obtain ⟨pb, hpb⟩ : ∃ pb, preE out base = pb := ⟨_, rfl⟩
      have hfm := rForm_any base Au cu out As stay.size cs w4 hru hnu
      rw [hpb] at hfm
      have HFm := Lib.hid hfm
      have HPb := Lib.hid hpb
      obtain ⟨⟨k0, k1, k2⟩, _⟩ := blk3 (blk_bel HK1.out HB14.out)
      have hgr4 : w.heap.size + 1 < w4.heap.size := Nat.lt_of_lt_of_le HL1.out HB14.out.size
      clear hIs hown hb4 hfr hru hnu hfm hpb HUn
      go_wp2_with fail
      refine HFm.out.mono ?_
      rintro e w5 ⟨Ao, oo, co, rfl, hL, hro, hno, hor, hb5⟩
      have HLs := Lib.hid hL
      have HRo := Lib.hid hro
      have HNo := Lib.hid hno
      have HFo : Hid (0 < oo.size → ∀ g off, Ao = some ⟨g, off, none⟩ → g ≠ w.heap.size + 1) := fun h0 g off e => by
        rcases hor h0 g off e with h | ⟨h, _⟩
        · omega
        · exact HFu.out g off (by rw [← h]; exact e)
      have HB15 := Lib.hid (belStep HB14.out hb5)
      have HRs5 := Lib.hid (HRs4.out.next_K hb5)
      obtain ⟨⟨z0, z1, z2⟩, zf⟩ := blk3 (blk_bel HG1.out HB15.out)
      have hgr5 : w.heap.size + 1 < w5.heap.size := Nat.lt_of_lt_of_le hgr4 hb5.size
      clear hL hro hno hor hb5 k0 k1 k2
      go_wp2
      refine bodyPost_ret (v := .agg #[.int .i64 pb, .slice Ao oo.size co, .slice As stay.size cs]) ?_ rfl ⟨.agg #[.int .i64 pb, .slice Ao oo.size co, .slice As stay.size cs], ⟨pb, oo, stay⟩, rfl, ?_, ?_, ?_⟩
      · simp [results, Tryz.results17, go_sem, z0, z1, z2, hgr5]
      · refine ⟨Ao, co, As, cs, rfl, ?_, ?_, HNo.out, HNs.out⟩
        · exact (((((HRo.out.far0 ⟨w.heap.size + 1, 0, none⟩ (.int .i64 pb) HFo.out).far0 ⟨w.heap.size + 1, 1, none⟩ (.slice Ao oo.size co) HFo.out).far0 ⟨w.heap.size + 1, 2, none⟩ (.slice As stay.size cs) HFo.out)).alloc (by simp) _).mono (by simp)
        · exact (((((HRs5.out.far0 ⟨w.heap.size + 1, 0, none⟩ (.int .i64 pb) (fun _ => HFs.out)).far0 ⟨w.heap.size + 1, 1, none⟩ (.slice Ao oo.size co) (fun _ => HFs.out)).far0 ⟨w.heap.size + 1, 2, none⟩ (.slice As stay.size cs) (fun _ => HFs.out))).alloc (by simp) _).mono (by simp)
      · exact ⟨out, HIs.out, hou, ⟨HPb.out.symm, HLs.out, HSy.out.symm⟩⟩
      · exact belAlloc ((((belStep HB1.out HB15.out).setCell (by simp) _).setCell (by simp) _).setCell (by simp) _) _
set_option maxHeartbeats 4000000 in
theorem rSettle_bad (base : Int) (rs ats : Array (Int × Int)) (A1 : Option Addr) (c1 : Nat) (A2 : Option Addr) (c2 : Nat) (v3 : Value) (w : World) (h1 : RdK encR 2 w.heap.size w A1 rs) (h2 : RdK encA_I 2 w.heap.size w A2 ats) (hbad : chkB ⟨base, rs, ats⟩ = false) :
    Calls Tryz.prog 17 #[.agg #[.int .i64 base, .slice A1 rs.size c1, .slice A2 ats.size c2], v3] w fun e w' => e = .returned (.agg #[.int .i64 base, .slice A1 rs.size c1, .slice A2 ats.size c2]) ∧ Below w.heap.size w w' := by
  have HC : Hid (∀ W, Below w.heap.size w W → Calls Tryz.prog 13 #[.agg #[.int .i64 base, .slice A1 rs.size c1, .slice A2 ats.size c2]] W fun e w' => e = .returned (.int .i64 2) ∧ Below W.heap.size W w') := fun W hb => by
    have := rChk16_let base rs ats A1 c1 A2 c2 W ((h1.below hb).mono hb.size) ((h2.below hb).mono hb.size)
    unfold chkE at this
    rwa [if_neg (by rw [hbad]; decide)] at this
  have HT := Lib.hid (two_blk w (.cells #[.int .i64 base, .slice A1 rs.size c1, .slice A2 ats.size c2] 25) (.cells #[.int .i64 0, .slice none 0 0, .slice none 0 0] 25))
  clear h1 h2 hbad
  go_enter Tryz.func17, Tryz.ntmps17
  go_wp2_with fail
  refine (HC.out _ (belAlloc (bel1 w _) _)).mono ?_
  rintro e w1 ⟨rfl, hb1⟩
  obtain ⟨⟨k0, k1, k2⟩, _⟩ := blk3 (blk_bel HT.out.1 hb1)
  obtain ⟨⟨z0, z1, z2⟩, zf⟩ := blk3 (blk_bel HT.out.2 hb1)
  have HB1 := Lib.hid (belStep (belAlloc (bel1 w _) _) hb1)
  clear hb1
  go_wp2
  refine bodyPost_ret (v := .agg #[.int .i64 base, .slice A1 rs.size c1, .slice A2 ats.size c2]) (by simp [results, Tryz.results17, go_sem, z0, z1, z2]) rfl ⟨rfl, ?_⟩
  exact ((HB1.out.setCell (by simp) _).setCell (by simp) _).setCell (by simp) _
theorem rSettle_any (v : Value) (k : KN) (ids : Array Int) (A3 : Option Addr) (c3 : Nat) (w : World) (h : KnV w v k) (h3 : RdI_R w.heap.size w A3 ids) (s1 : k.rs.size ≤ 500) (s3 : ids.size ≤ 100000) :
    Calls Tryz.prog 17 #[v, .slice A3 ids.size c3] w fun e w' => ((chkB k = false ∧ e = .returned v) ∨ (ChkP k ∧ ∃ v' r, e = .returned v' ∧ KnV w' v' r ∧ SetR k ids r)) ∧ Below w.heap.size w w' := by
  obtain ⟨base, rs, ats⟩ := k
  obtain ⟨A1, c1, A2, c2, rfl, h1, h2, m1, _⟩ := h
  cases hb : chkB ⟨base, rs, ats⟩
  · exact (rSettle_bad base rs ats A1 c1 A2 c2 _ w h1 h2 hb).mono fun e w' ⟨he, hw⟩ => ⟨Or.inl ⟨rfl, he⟩, hw⟩
  · exact (rSettle_ok base rs ats A1 c1 A2 c2 ids A3 c3 w h1 h2 h3 m1 (chk_iff.1 hb) s1 s3).mono fun e w' ⟨v, r, he, hk, ha, hw⟩ => ⟨Or.inr ⟨chk_iff.1 hb, v, r, he, hk, ha⟩, hw⟩
end Go.Proofs.YtgpejfkmdenonaaGreat
namespace Go.Proofs.YtgpejfkmdenonaaGreat
open Go.RowKit Go.Sort Go.Lib
set_option maxRecDepth 100000
def encJ (x : Int) : List Value := [.int .i64 x]
theorem encJ_1 : ∀ x, ∀ u ∈ encJ x, u.oneCell' = true := fun x u hu => by
  obtain rfl := List.mem_singleton.1 hu
  rfl
theorem encJ_len (x : Int) : (encJ x).length = 1 := rfl
section
variable {w W W' : World} {x : Int} {e : TypeId} {o : Obj} {H : Nat}
theorem n1 (h0 : W.cell? ⟨H, 0, none⟩ = some (.int .i64 x)) : RdK encJ 1 (H + 1) W (some ⟨H, 0, none⟩) #[x] := fun _ =>
  ⟨H, 0, rfl, Nat.lt_succ_self _, fun t ht => by
    have ht' : t = 0 := by simp at ht; omega
    subst ht'
    rw [get_flatK _ _ _ _ (by simp)]
    exact h0⟩
theorem n1A (w1 : World) (x : Int) (e : TypeId) : RdK encJ 1 (w1.heap.size + 1) (w1.alloc (.cells #[.int .i64 x] e)).drew (some ⟨w1.heap.size, 0, none⟩) #[x] := n1 (cell_new w1 _ _ 0)
theorem n1B (hg : ((w.alloc o).alloc (.cells #[.int .i64 x] e)).drew.grownBy W' (Value.slice (some ⟨w.heap.size, 0, none⟩) 0 0).ownBlock) : RdK encJ 1 (w.heap.size + 1 + 1) W' (some ⟨w.heap.size + 1, 0, none⟩) #[x] := by
  have e1 : w.heap.size + 1 = (w.alloc o).heap.size := by simp
  refine n1 ?_
  rw [hg.cell_far ⟨w.heap.size + 1, 0, none⟩ (by simp) (by simp [Value.ownBlock]), e1]
  exact cell_new (w.alloc o) _ _ 0
theorem n1C (hg : ((w.alloc (.cells #[.int .i64 x] e)).alloc o).drew.grownBy W' (Value.slice (some ⟨w.heap.size + 1, 0, none⟩) 0 0).ownBlock) : RdK encJ 1 (w.heap.size + 1) W' (some ⟨w.heap.size, 0, none⟩) #[x] := by
  refine n1 ?_
  rw [hg.cell_far ⟨w.heap.size, 0, none⟩ (by simp; omega) (by simp [Value.ownBlock])]
  exact (World.cell?_alloc_lt (w.alloc (.cells #[.int .i64 x] e)) o ⟨w.heap.size, 0, none⟩ (by simp)).trans (cell_new w _ _ 0)
theorem enA (w : World) (e : TypeId) : (w.alloc (.cells #[] e)).drew.ownsRow w.heap.size e 1 (.slice (some ⟨w.heap.size, 0, none⟩) 0 0) (#[] : Array Int).size (flatK encJ 1 #[]).toList := (empty_ownsK w e encJ 1).drew
theorem enB (w : World) (e : TypeId) (o : Obj) : ((w.alloc (.cells #[] e)).alloc o).drew.ownsRow w.heap.size e 1 (.slice (some ⟨w.heap.size, 0, none⟩) 0 0) (#[] : Array Int).size (flatK encJ 1 #[]).toList := ((empty_ownsK w e encJ 1).alloc o).drew
theorem enC (w : World) (e : TypeId) (o : Obj) (H : (w.alloc o).heap.size = w.heap.size + 1) : ((w.alloc o).alloc (.cells #[] e)).drew.ownsRow w.heap.size e 1 (.slice (some ⟨w.heap.size + 1, 0, none⟩) 0 0) (#[] : Array Int).size (flatK encJ 1 #[]).toList := by
  have := own_mono_I (empty_ownsK (w.alloc o) e encJ 1).drew (base' := w.heap.size) (by simp)
  rw [H] at this
  exact this
theorem rd_take_N {g m k B o0 : Nat} {oo : Array Int} (hH : HoldsK encJ 1 W g o0 oo) (hg : g < W.heap.size) (hb : Below W.heap.size W W') (hm : oo.size = m) (hk : k ≤ m) (hB : g < B) : RdK encJ 1 B W' (some ⟨g, o0, none⟩) (oo.toList.take k).toArray := fun _ =>
  ⟨g, o0, rfl, hB, fun t ht => by
    have hl : (oo.toList.take k).toArray.size = k := by simp; omega
    rw [hl] at ht
    rw [hb.cell (p := ⟨g, o0 + t, none⟩) hg, (hH t (by rw [size_flatK]; omega)).1, get_flatK _ _ oo _ (by omega), get_flatK _ _ (oo.toList.take k).toArray _ (by rw [hl]; exact ht)]
    have e1 : (oo.toList.take k).toArray[t / 1]! = oo[t / 1]! := by
      rw [getElem!_pos _ _ (by rw [hl]; omega), getElem!_pos oo _ (by omega)]
      simp
    rw [e1]; rfl⟩
theorem rd_drop_N {g m k B o0 off : Nat} {oo : Array Int} (hH : HoldsK encJ 1 W g o0 oo) (hg : g < W.heap.size) (hb : Below W.heap.size W W') (hm : oo.size = m) (hk : k ≤ m) (hB : g < B) (ho : off = o0 + k * 1 ∨ k = m) : RdK encJ 1 B W' (some ⟨g, off, none⟩) (oo.toList.drop k).toArray := fun h0 =>
  ⟨g, off, rfl, hB, fun t ht => by
    have hl : (oo.toList.drop k).toArray.size = m - k := by simp; omega
    rw [hl] at ht h0
    obtain rfl : off = o0 + k * 1 := by omega
    have e0 : o0 + k * 1 + t = o0 + (k * 1 + t) := by omega
    rw [hb.cell (p := ⟨g, o0 + k * 1 + t, none⟩) hg, e0, (hH (k * 1 + t) (by rw [size_flatK]; omega)).1, get_flatK _ _ oo _ (by omega), get_flatK _ _ (oo.toList.drop k).toArray _ (by rw [hl]; exact ht)]
    have e2 : (k * 1 + t) / 1 = k + t / 1 := by omega
    have e3 : (k * 1 + t) % 1 = t % 1 := by omega
    have e1 : (oo.toList.drop k).toArray[t / 1]! = oo[k + t / 1]! := by
      rw [getElem!_pos _ _ (by rw [hl]; omega), getElem!_pos oo _ (by omega)]
      simp
    rw [e1, e2, e3]; rfl⟩
theorem own_parts_N {base m : Nat} {v : Value} {oo : Array Int} (h : W.ownsRow base e 1 v m (flatK encJ 1 oo).toList) (hm : oo.size = m) (hn : v ≠ .slice none 0 0) : ∃ g cap o0, v = .slice (some ⟨g, o0, none⟩) m cap ∧ m ≤ cap ∧ g < W.heap.size ∧ HoldsK encJ 1 W g o0 oo := by
  subst hm
  obtain ⟨g, cap, hv, h1, h2, h3⟩ := holds_of_owns h hn
  refine ⟨g, cap, 0, hv, ?_, h2, h3⟩
  obtain ⟨_, ⟨h1, _⟩ | ⟨g', cap', cur, hv', hb, hh, hnc, _⟩⟩ := h
  · exact absurd h1 hn
  · rw [hv] at hv'
    injection hv' with _ _ e3
    omega
theorem cellsE_N {g k o0 : Nat} {oo : Array Int} (hH : HoldsK encJ 1 w g o0 oo) (hg : g < w.heap.size) (hb : Below w.heap.size w W) (hi : k < oo.size) : W.cell? ⟨g, o0 + k, none⟩ = some (.int .i64 oo[k]!) := by
  have := (hb.cell (p := ⟨g, o0 + k * 1, none⟩) hg).trans ((hH.cell (i := k) (c := 0) hi (by decide)).1)
  rwa [Nat.mul_one] at this
theorem holdsBel_N {g o0 : Nat} {oo : Array Int} (hH : HoldsK encJ 1 w g o0 oo) (hg : g < w.heap.size) (hb : Below w.heap.size w W) : HoldsK encJ 1 W g o0 oo := fun t ht =>
  ⟨(hb.cell (p := ⟨g, o0 + t, none⟩) hg).trans (hH t ht).1, (hb.frozen (p := ⟨g, o0 + t, none⟩) hg).trans (hH t ht).2⟩
end
/-- A row of ints reads as ints. -/
theorem rdI_of_N {B : Nat} {w : World} {A : Option Addr} {d : Array Int} (h : RdK encJ 1 B w A d) : RdI_R B w A d := fun h0 => by
  obtain ⟨b, off, e, hb, f⟩ := h h0
  refine ⟨b, off, e, hb, fun i hi => ?_⟩
  rw [f i (by omega), get_flatK _ _ _ _ (by omega), Nat.mod_one, Nat.div_one]
  rfl
theorem put_J {l : Array Int} {y : Int} {k : Nat} (hk : k ≤ l.size) (h1 : ∀ j, j < k → l[j]! < y) (h2 : k < l.size → y < l[k]!) : putL y l.toList = l.toList.take k ++ y :: l.toList.drop k := by
  rw [putL_at y l.toList k (by simpa using hk) (fun j h hj => by have := h1 j hj; rw [getElem!_pos l j (by simpa using h)] at this; simpa using this) (fun h => by have := h2 (by simpa using h); rw [getElem!_pos l k (by simpa using h)] at this; simpa using Int.le_of_lt this)]
  rw [if_neg]
  rintro ⟨h, e⟩
  have := h2 (by simpa using h)
  rw [getElem!_pos l k (by simpa using h)] at this
  rw [getElem!_pos l.toList k h] at e
  simp at e
  omega
theorem put_J0 {l : Array Int} {y : Int} {k : Nat} (hk : k < l.size) (h1 : ∀ j, j < k → l[j]! < y) (h2 : l[k]! = y) : putL y l.toList = l.toList := by
  rw [putL_at y l.toList k (by simp; omega) (fun j h hj => by have := h1 j hj; rw [getElem!_pos l j (by simpa using h)] at this; simpa using this) (fun h => by rw [getElem!_pos l k hk] at h2; simp; omega)]
  rw [if_pos]
  refine ⟨by simpa using hk, ?_⟩
  rw [getElem!_pos l k hk] at h2
  rw [getElem!_pos l.toList k (by simpa using hk)]
  simpa using h2
attribute [local go_sem ↓] Go.wp_at_zero Go.wp_at_succ
set_option maxHeartbeats 16000000 in
theorem rOpen_ok (base : Int) (rs ats : Array (Int × Int)) (A1 : Option Addr) (c1 : Nat) (A2 : Option Addr) (c2 : Nat) (w : World) (h1 : RdK encR 2 w.heap.size w A1 rs) (h2 : RdK encA_I 2 w.heap.size w A2 ats) (hP : ChkP ⟨base, rs, ats⟩) :
    Calls Tryz.prog 20 #[.agg #[.int .i64 base, .slice A1 rs.size c1, .slice A2 ats.size c2]] w fun e w' => ∃ v oo, e = .returned v ∧ oo.toList = opN ats.toList ∧ w'.ownsRow w.heap.size 3 1 v oo.size (flatK encJ 1 oo).toList ∧ Below w.heap.size w w' := by
  obtain ⟨i0, hi0, hz0, hz1, hz2⟩ := info_parts int_info_R
  have HC : Hid (∀ W, Below w.heap.size w W → Calls Tryz.prog 13 #[.agg #[.int .i64 base, .slice A1 rs.size c1, .slice A2 ats.size c2]] W fun e w' => e = .returned (.int .i64 0) ∧ Below W.heap.size W w') := fun W hb => by
    have := rChk16_let base rs ats A1 c1 A2 c2 W ((h1.below hb).mono hb.size) ((h2.below hb).mono hb.size)
    unfold chkE at this
    rwa [if_pos (chk_iff.2 hP)] at this
  have HR2 := Lib.hid h2
  have s2 := hP.sz
  simp only at s2
  clear h1 h2 hP
  obtain ⟨w1, HW1⟩ : ∃ W, Hid (W = w.alloc (.cells #[.int .i64 base, .slice A1 rs.size c1, .slice A2 ats.size c2] 25)) := ⟨_, rfl⟩
  have HK1 : Hid (w1.heap[w.heap.size]? = some (.cells #[.int .i64 base, .slice A1 rs.size c1, .slice A2 ats.size c2] 25 (0, 0))) := by rw [HW1.out]; exact heap_alloc_new w _
  have HB1 : Hid (Below w.heap.size w w1) := by rw [HW1.out]; exact bel1 w _
  go_enter Tryz.func20, Tryz.ntmps20
  go_wp2
  go_loopw [3, 4] (fun v iv wr => ∃ (j : Nat) (oo : Array Int), iv = .int .i64 (j : Int) ∧ j ≤ ats.size ∧ oo.toList = opN (ats.toList.take j) ∧ wr.ownsRow w1.heap.size 3 1 v oo.size (flatK encJ 1 oo).toList ∧ Below w1.heap.size w1 wr) (fun _ iv _ => ats.size - (intOf iv).toNat)
  case atStart => exact ⟨0, #[], rfl, Nat.zero_le _, rfl, nil_ownsK _ _ _ _ _, by rw [HW1.out]; exact Below.refl _ _⟩
  case round =>
    clear HW1
    obtain ⟨j, oo, rfl, hj, ho, hown, hB⟩ := hrel
    have HB := Lib.hid hB
    obtain ⟨⟨k0, k1, k2⟩, _⟩ := blk3 (blk_bel HK1.out HB.out)
    have hol : oo.size ≤ j := by
      have h3 := opN_len (ats.toList.take j)
      have h4 := List.length_take_le j ats.toList
      rw [← ho] at h3
      simp at h3 h4 ⊢
      omega
    clear hB
    by_cases hlt : j < ats.size
    · have jz : (j : Int) < (ats.size : Int) := by omega
      obtain ⟨b, off, rfl, hbl, f⟩ := (HR2.out.below (belStep HB1.out HB.out)).at_ hlt
      have e1 := f 1 (by omega)
      have hb1w : b < w1.heap.size := Nat.lt_of_lt_of_le hbl HB1.out.size
      have HS : Hid (opN (ats.toList.take (j + 1)) = putL ats[j]!.2 oo.toList) := by show _ = _; rw [take_snoc_U hlt, opN_snoc, ← ho]
      obtain ⟨y, hy⟩ : ∃ y, ats[j]!.2 = y := ⟨_, rfl⟩
      simp only [encA_I, List.getElem!_cons_zero, List.getElem!_cons_succ, hy] at e1
      rw [hy] at HS
      have KS : Hid (∀ W, Below w1.heap.size w1 W → W.cell? ⟨b, off + j * 2 + 1, none⟩ = some (.int .i64 y) ∧ W.cell? ⟨w.heap.size, 2, none⟩ = some (.slice (some ⟨b, off, none⟩) ats.size c2)) := fun W hb => ⟨(hb.cell (p := ⟨b, off + j * 2 + 1, none⟩) hb1w).trans ((HB.out.cell (p := ⟨b, off + j * 2 + 1, none⟩) hb1w).symm.trans e1), (blk3 (blk_bel HK1.out hb)).1.2.2⟩
      clear f hy e1 hb1w ho
      go_wp2_with fail
      refine (HC.out wr (belStep HB1.out HB.out)).mono ?_
      rintro e w2 ⟨rfl, hb2⟩
      have hown2 : w2.ownsRow w1.heap.size 3 1 u3 oo.size (flatK encJ 1 oo).toList := own_heap hown (fun g _ hl => hb2.block g hl)
      have HB2 := Lib.hid (belStep HB.out hb2)
      clear hb2 hown k0 k1 k2 HB
      obtain ⟨s, hs⟩ : ∃ s, oo.size = s := ⟨_, rfl⟩
      rw [hs] at hown2 hol
      have HSZ := Lib.hid hs
      clear hs
      by_cases hn : u3 = .slice none 0 0
      · subst hn
        have h0 : s = 0 := by
          obtain ⟨_, ⟨_, h0⟩ | ⟨g, cap, cur, hv, _⟩⟩ := hown2
          · exact h0
          · cases hv
        subst h0
        clear hown2
        obtain rfl : oo = #[] := Array.eq_empty_of_size_eq_zero HSZ.out
        go_wp2_with fail
        go_loopw [5] (fun kk wr => kk = .int .i64 0 ∧ Below w2.heap.size w2 wr) (fun _ _ => 0)
        case atStart => exact ⟨rfl, Below.refl _ _⟩
        case round =>
          obtain ⟨rfl, hBi⟩ := hrel
          go_wp2_with fail
          go_quiet (fail)
          have hBi2 := belDrewN hBi nq
          clear hBi
          generalize wr.drewN nq = wc at hBi2 ⊢
          have hBi := hBi2
          clear hBi2
          go_wp2_with fail
          go_quiet (fail)
          have hBi2 := belDrewN hBi nq
          clear hBi
          generalize wc.drewN nq = wd at hBi2 ⊢
          obtain ⟨wc, hwc⟩ : ∃ W, wd = W := ⟨_, rfl⟩
          rw [hwc] at hBi2 ⊢
          have hBi := hBi2
          clear hBi2 hwc
          have HBW : Hid (Below w1.heap.size w1 wc) := HB2.out.trans (hBi.mono HB2.out.size)
          have KC : Hid (∀ W, Below wc.heap.size wc W → Below wc.heap.size wc W ∧ W.cell? ⟨b, off + j * 2 + 1, none⟩ = some (.int .i64 y) ∧ W.cell? ⟨w.heap.size, 2, none⟩ = some (.slice (some ⟨b, off, none⟩) ats.size c2)) := fun W hb => ⟨hb, KS.out W (HBW.out.trans (hb.mono HBW.out.size))⟩
          have hbz : Below wc.heap.size wc wc := Below.refl _ _
          have HPUT : Hid ((#[] ++ ((#[] : Array Int).toList.take 0).toArray ++ #[y] ++ ((#[] : Array Int).toList.drop 0).toArray).toList = opN (ats.toList.take (j + 1))) := by show _ = _; rw [HS.out]; rfl
          clear hBi
          go_wp2_with fail
          go_region_held3 (fun w' => Below wc.heap.size wc w' ∧ w'.cell? ⟨b, off + j * 2 + 1, none⟩ = some (.int .i64 y) ∧ w'.cell? ⟨w.heap.size, 2, none⟩ = some (.slice (some ⟨b, off, none⟩) ats.size c2)) (first | assumption | exact KC.out _ (by assumption) | exact KC.out _ (And.left (by assumption)) | exact KC.out _ (Below.drew (by assumption)) | exact KC.out _ (Below.drew (And.left (by assumption))) | exact KC.out _ (belAlloc (by assumption) _) | exact KC.out _ (belAlloc (And.left (by assumption)) _) | exact KC.out _ (belAlloc (by assumption) _).drew | exact KC.out _ (belAlloc (And.left (by assumption)) _).drew | exact KC.out _ (belAlloc (Below.drew (by assumption)) _) | exact KC.out _ (belAlloc (Below.drew (And.left (by assumption))) _))
            (first
              | (refine step_append_R encJ_1 encJ_len (by decide) (by rfl) _ _ _ (by rfl) wc 3 i0 _ 8 Tryz.underlying40 hi0 hz0 hz1 hz2 rfl _ #[] (by rfl) (by first | exact enA _ _ | exact enB _ _ _ | exact enC _ _ _ (by simp)) _ _ _ (wc.heap.size + 9) ((#[] : Array Int).toList.take 0).toArray (by rfl) (by have := HSZ.out; first | (simp; done) | (simp; omega)) (fun h => absurd h (by simp)) (fun _ => rfl) (by have := HSZ.out; first | (simp; done) | (simp; omega)) (by decide) (by first | assumption | exact And.left (by assumption)) ?_; intro v1 w1' hown1 hgrow1 hBw1)
              | (refine step_append_R encJ_1 encJ_len (by decide) (by rfl) _ _ _ (by rfl) wc 3 i0 _ 8 Tryz.underlying40 hi0 hz0 hz1 hz2 rfl v1 (#[] ++ ((#[] : Array Int).toList.take 0).toArray) (by rfl) (by first | exact hown1 | exact (hown1.alloc _).drew) _ _ _ _ #[y] (by rfl) (by rfl) (by first | exact n1A _ _ _ | exact n1B hgrow1 | exact n1C hgrow1) (fun h => by cases h) (by have := HSZ.out; first | (simp; done) | (simp; omega)) (by decide) (by first | assumption | exact And.left (by assumption)) ?_; intro v2 w2' hown2 hgrow2 hBw2)
              | (refine step_append_R encJ_1 encJ_len (by decide) (by rfl) _ _ _ (by rfl) wc 3 i0 _ 8 Tryz.underlying40 hi0 hz0 hz1 hz2 rfl v2 (#[] ++ ((#[] : Array Int).toList.take 0).toArray ++ #[y]) (by rfl) (by first | exact hown2 | exact hown2.drew) _ _ _ (wc.heap.size + 9) ((#[] : Array Int).toList.drop 0).toArray (by rfl) (by have := HSZ.out; first | (simp; done) | (simp; omega)) (fun h => absurd h (by simp)) (fun _ => rfl) (by have := HSZ.out; first | (simp; done) | (simp; omega)) (by decide) (by first | assumption | exact And.left (by assumption)) ?_; intro v3 w3 hown3 hgrow3 hBw3))
          all_goals
            go_wp2
            exact ⟨⟨j + 1, _, by go_num, by omega, HPUT.out, own_mono_I hown3 HBW.out.size, HBW.out.trans (hBw3.mono HBW.out.size)⟩, by simp [intOf]; omega⟩
      · obtain ⟨g, cap, o0, rfl, hcap, hg, hH⟩ := own_parts_N hown2 HSZ.out hn
        have HH2 := Lib.hid hH
        have HG2 := Lib.hid hg
        have HOw2 := Lib.hid hown2
        clear hH hg hown2 hn
        go_wp2_with fail
        go_loopw [5] (fun kk wr => ∃ k : Nat, kk = .int .i64 (k : Int) ∧ k ≤ s ∧ (∀ j, j < k → oo[j]! < y) ∧ Below w2.heap.size w2 wr) (fun kk _ => s - (intOf kk).toNat)
        case atStart => exact ⟨0, rfl, Nat.zero_le _, (fun j hj => absurd hj (by omega)), Below.refl _ _⟩
        case round =>
          obtain ⟨k, rfl, hk, hj', hBi⟩ := hrel
          have HJ := Lib.hid hj'
          clear hj'
          have k0 : (0 : Int) ≤ (k : Int) := by omega
          have kc : (k : Int) ≤ (cap : Int) := by omega
          have kd : (k : Int) ≤ (s : Int) := by omega
          have q0 := (KS.out wr (HB2.out.trans (hBi.mono HB2.out.size))).1
          have q2 := (KS.out wr (HB2.out.trans (hBi.mono HB2.out.size))).2
          by_cases hkm : k < s
          · have hkz : (k : Int) < (s : Int) := by omega
            have p0 : wr.cell? ⟨g, o0 + k, none⟩ = some (.int .i64 oo[k]!) := cellsE_N HH2.out HG2.out hBi (by rw [HSZ.out]; exact hkm)
            have hck : ¬ cap = k := by omega
            obtain ⟨z, hz⟩ : ∃ z, oo[k]! = z := ⟨_, rfl⟩
            rw [hz] at p0
            have HZ := Lib.hid hz
            clear hz
            by_cases hzy : z < y
            · have hzy' : decide (z < y) = true := decide_eq_true hzy
              have HZY := Lib.hid hzy
              clear hzy
              go_wp2_with fail
              go_quiet (fail)
              go_wp2
              exact ⟨⟨k + 1, by go_num, by omega, (fun j hj => by
                rcases Nat.lt_or_ge j k with h | h
                · exact HJ.out j h
                · obtain rfl : j = k := by omega
                  rw [HZ.out]; exact HZY.out), belDrewN hBi nq⟩, by simp [intOf]; omega⟩
            · have hzy' : decide (z < y) = false := decide_eq_false hzy
              by_cases hze : z = y
              · have hze' : (z == y) = true := by simp [hze]
                have HPS : Hid (oo.toList = opN (ats.toList.take (j + 1))) := by show _ = _; rw [HS.out, put_J0 (k := k) (by rw [HSZ.out]; exact hkm) HJ.out (by rw [HZ.out]; exact hze)]
                clear hzy hze
                go_wp2_with fail
                go_quiet (fail)
                have hBi2 := belDrewN hBi nq
                clear hBi q0 q2 p0
                generalize wr.drewN nq = wc at hBi2 ⊢
                have hBi := hBi2
                clear hBi2
                have q0 := (KS.out wc (HB2.out.trans (hBi.mono HB2.out.size))).1
                have q2 := (KS.out wc (HB2.out.trans (hBi.mono HB2.out.size))).2
                have p0 : wc.cell? ⟨g, o0 + k, none⟩ = some (.int .i64 oo[k]!) := cellsE_N HH2.out HG2.out hBi (by rw [HSZ.out]; exact hkm)
                rw [HZ.out] at p0
                go_wp2_with fail
                go_quiet (fail)
                go_wp2
                exact ⟨⟨j + 1, oo, by go_num, by omega, HPS.out, (by rw [HSZ.out]; exact own_heap HOw2.out (fun g _ hl => (belDrewN hBi nq).block g hl)), HB2.out.trans ((belDrewN hBi nq).mono HB2.out.size)⟩, by simp [intOf]; omega⟩
              · have hze' : (z == y) = false := by simp [hze]
                have HGE : Hid (k < oo.size → y < oo[k]!) := fun _ => by rw [HZ.out]; omega
                clear hzy hze
                go_wp2_with fail
                go_quiet (fail)
                have hBi2 := belDrewN hBi nq
                clear hBi q0 q2 p0
                generalize wr.drewN nq = wc at hBi2 ⊢
                have hBi := hBi2
                clear hBi2
                have q0 := (KS.out wc (HB2.out.trans (hBi.mono HB2.out.size))).1
                have q2 := (KS.out wc (HB2.out.trans (hBi.mono HB2.out.size))).2
                have p0 : wc.cell? ⟨g, o0 + k, none⟩ = some (.int .i64 oo[k]!) := cellsE_N HH2.out HG2.out hBi (by rw [HSZ.out]; exact hkm)
                rw [HZ.out] at p0
                go_wp2_with fail
                go_quiet (fail)
                have hBi2 := belDrewN hBi nq
                clear hBi q0 q2 p0
                generalize wc.drewN nq = wd at hBi2 ⊢
                obtain ⟨wc, hwc⟩ : ∃ W, wd = W := ⟨_, rfl⟩
                rw [hwc] at hBi2 ⊢
                have hBi := hBi2
                clear hBi2 hwc
                have HBW : Hid (Below w1.heap.size w1 wc) := HB2.out.trans (hBi.mono HB2.out.size)
                have KC : Hid (∀ W, Below wc.heap.size wc W → Below wc.heap.size wc W ∧ W.cell? ⟨b, off + j * 2 + 1, none⟩ = some (.int .i64 y) ∧ W.cell? ⟨w.heap.size, 2, none⟩ = some (.slice (some ⟨b, off, none⟩) ats.size c2)) := fun W hb => ⟨hb, KS.out W (HBW.out.trans (hb.mono HBW.out.size))⟩
                have hbz : Below wc.heap.size wc wc := Below.refl _ _
                have HH : Hid (HoldsK encJ 1 wc g o0 oo) := holdsBel_N HH2.out HG2.out hBi
                have HG : Hid (g < wc.heap.size) := Nat.lt_of_lt_of_le HG2.out hBi.size
                have HPUT : Hid ((#[] ++ (oo.toList.take k).toArray ++ #[y] ++ (oo.toList.drop k).toArray).toList = opN (ats.toList.take (j + 1))) := by
                  show _ = _
                  rw [HS.out, put_J (k := k) (by have := HSZ.out; omega) HJ.out HGE.out]
                  simp
                clear hBi
                go_wp2_with fail
                go_region_held3 (fun w' => Below wc.heap.size wc w' ∧ w'.cell? ⟨b, off + j * 2 + 1, none⟩ = some (.int .i64 y) ∧ w'.cell? ⟨w.heap.size, 2, none⟩ = some (.slice (some ⟨b, off, none⟩) ats.size c2)) (first | assumption | exact KC.out _ (by assumption) | exact KC.out _ (And.left (by assumption)) | exact KC.out _ (Below.drew (by assumption)) | exact KC.out _ (Below.drew (And.left (by assumption))) | exact KC.out _ (belAlloc (by assumption) _) | exact KC.out _ (belAlloc (And.left (by assumption)) _) | exact KC.out _ (belAlloc (by assumption) _).drew | exact KC.out _ (belAlloc (And.left (by assumption)) _).drew | exact KC.out _ (belAlloc (Below.drew (by assumption)) _) | exact KC.out _ (belAlloc (Below.drew (And.left (by assumption))) _))
                  (first
                    | (refine step_append_R encJ_1 encJ_len (by decide) (by rfl) _ _ _ (by rfl) wc 3 i0 _ 8 Tryz.underlying40 hi0 hz0 hz1 hz2 rfl _ #[] (by rfl) (by first | exact enA _ _ | exact enB _ _ _ | exact enC _ _ _ (by simp)) _ _ _ (wc.heap.size + 9) (oo.toList.take k).toArray (by rfl) (by have := HSZ.out; first | (simp; done) | (simp; omega)) (rd_take_N HH.out HG.out (by first | assumption | exact And.left (by assumption)) HSZ.out (by omega) (by have := HG.out; omega)) (fun h => by cases h) (by have := HSZ.out; first | (simp; done) | (simp; omega)) (by decide) (by first | assumption | exact And.left (by assumption)) ?_; intro v1 w1' hown1 hgrow1 hBw1)
                    | (refine step_append_R encJ_1 encJ_len (by decide) (by rfl) _ _ _ (by rfl) wc 3 i0 _ 8 Tryz.underlying40 hi0 hz0 hz1 hz2 rfl v1 (#[] ++ (oo.toList.take k).toArray) (by rfl) (by first | exact hown1 | exact (hown1.alloc _).drew) _ _ _ _ #[y] (by rfl) (by rfl) (by first | exact n1A _ _ _ | exact n1B hgrow1 | exact n1C hgrow1) (fun h => by cases h) (by have := HSZ.out; first | (simp; done) | (simp; omega)) (by decide) (by first | assumption | exact And.left (by assumption)) ?_; intro v2 w2' hown2 hgrow2 hBw2)
                    | (refine step_append_R encJ_1 encJ_len (by decide) (by rfl) _ _ _ (by rfl) wc 3 i0 _ 8 Tryz.underlying40 hi0 hz0 hz1 hz2 rfl v2 (#[] ++ (oo.toList.take k).toArray ++ #[y]) (by rfl) (by first | exact hown2 | exact hown2.drew) _ _ _ (wc.heap.size + 9) (oo.toList.drop k).toArray (by rfl) (by have := HSZ.out; first | (simp; done) | (simp; omega)) (rd_drop_N HH.out HG.out (by first | assumption | exact And.left (by assumption)) HSZ.out (by omega) (by have := HG.out; omega) (by omega)) (fun h => by cases h) (by have := HSZ.out; first | (simp; done) | (simp; omega)) (by decide) (by first | assumption | exact And.left (by assumption)) ?_; intro v3 w3 hown3 hgrow3 hBw3))
                all_goals
                  go_wp2
                  exact ⟨⟨j + 1, _, by go_num, by omega, HPUT.out, own_mono_I hown3 HBW.out.size, HBW.out.trans (hBw3.mono HBW.out.size)⟩, by simp [intOf]; omega⟩
          · obtain rfl : k = s := by omega
            have HGE : Hid (k < oo.size → y < oo[k]!) := fun h => absurd h (by have := HSZ.out; omega)
            have hkd : decide ((k : Int) < (k : Int)) = false := decide_eq_false (by omega)
            by_cases hck : cap = k
            · obtain rfl : cap = k := hck
              go_wp2_with fail
              go_quiet (fail)
              have hBi2 := belDrewN hBi nq
              clear hBi q0 q2
              generalize wr.drewN nq = wc at hBi2 ⊢
              have hBi := hBi2
              clear hBi2
              go_wp2_with fail
              go_quiet (fail)
              have hBi2 := belDrewN hBi nq
              clear hBi
              generalize wc.drewN nq = wd at hBi2 ⊢
              obtain ⟨wc, hwc⟩ : ∃ W, wd = W := ⟨_, rfl⟩
              rw [hwc] at hBi2 ⊢
              have hBi := hBi2
              clear hBi2 hwc
              have HBW : Hid (Below w1.heap.size w1 wc) := HB2.out.trans (hBi.mono HB2.out.size)
              have KC : Hid (∀ W, Below wc.heap.size wc W → Below wc.heap.size wc W ∧ W.cell? ⟨b, off + j * 2 + 1, none⟩ = some (.int .i64 y) ∧ W.cell? ⟨w.heap.size, 2, none⟩ = some (.slice (some ⟨b, off, none⟩) ats.size c2)) := fun W hb => ⟨hb, KS.out W (HBW.out.trans (hb.mono HBW.out.size))⟩
              have hbz : Below wc.heap.size wc wc := Below.refl _ _
              have HH : Hid (HoldsK encJ 1 wc g o0 oo) := holdsBel_N HH2.out HG2.out hBi
              have HG : Hid (g < wc.heap.size) := Nat.lt_of_lt_of_le HG2.out hBi.size
              have HPUT : Hid ((#[] ++ (oo.toList.take cap).toArray ++ #[y] ++ (oo.toList.drop cap).toArray).toList = opN (ats.toList.take (j + 1))) := by
                show _ = _
                rw [HS.out, put_J (k := cap) (by have := HSZ.out; omega) HJ.out HGE.out]
                simp
              clear hBi
              go_wp2_with fail
              go_region_held3 (fun w' => Below wc.heap.size wc w' ∧ w'.cell? ⟨b, off + j * 2 + 1, none⟩ = some (.int .i64 y) ∧ w'.cell? ⟨w.heap.size, 2, none⟩ = some (.slice (some ⟨b, off, none⟩) ats.size c2)) (first | assumption | exact KC.out _ (by assumption) | exact KC.out _ (And.left (by assumption)) | exact KC.out _ (Below.drew (by assumption)) | exact KC.out _ (Below.drew (And.left (by assumption))) | exact KC.out _ (belAlloc (by assumption) _) | exact KC.out _ (belAlloc (And.left (by assumption)) _) | exact KC.out _ (belAlloc (by assumption) _).drew | exact KC.out _ (belAlloc (And.left (by assumption)) _).drew | exact KC.out _ (belAlloc (Below.drew (by assumption)) _) | exact KC.out _ (belAlloc (Below.drew (And.left (by assumption))) _))
                (first
                  | (refine step_append_R encJ_1 encJ_len (by decide) (by rfl) _ _ _ (by rfl) wc 3 i0 _ 8 Tryz.underlying40 hi0 hz0 hz1 hz2 rfl _ #[] (by rfl) (by first | exact enA _ _ | exact enB _ _ _ | exact enC _ _ _ (by simp)) _ _ _ (wc.heap.size + 9) (oo.toList.take cap).toArray (by rfl) (by have := HSZ.out; first | (simp; done) | (simp; omega)) (rd_take_N HH.out HG.out (by first | assumption | exact And.left (by assumption)) HSZ.out (by omega) (by have := HG.out; omega)) (fun h => by cases h) (by have := HSZ.out; first | (simp; done) | (simp; omega)) (by decide) (by first | assumption | exact And.left (by assumption)) ?_; intro v1 w1' hown1 hgrow1 hBw1)
                  | (refine step_append_R encJ_1 encJ_len (by decide) (by rfl) _ _ _ (by rfl) wc 3 i0 _ 8 Tryz.underlying40 hi0 hz0 hz1 hz2 rfl v1 (#[] ++ (oo.toList.take cap).toArray) (by rfl) (by first | exact hown1 | exact (hown1.alloc _).drew) _ _ _ _ #[y] (by rfl) (by rfl) (by first | exact n1A _ _ _ | exact n1B hgrow1 | exact n1C hgrow1) (fun h => by cases h) (by have := HSZ.out; first | (simp; done) | (simp; omega)) (by decide) (by first | assumption | exact And.left (by assumption)) ?_; intro v2 w2' hown2 hgrow2 hBw2)
                  | (refine step_append_R encJ_1 encJ_len (by decide) (by rfl) _ _ _ (by rfl) wc 3 i0 _ 8 Tryz.underlying40 hi0 hz0 hz1 hz2 rfl v2 (#[] ++ (oo.toList.take cap).toArray ++ #[y]) (by rfl) (by first | exact hown2 | exact hown2.drew) _ _ _ (wc.heap.size + 9) (oo.toList.drop cap).toArray (by rfl) (by have := HSZ.out; first | (simp; done) | (simp; omega)) (rd_drop_N HH.out HG.out (by first | assumption | exact And.left (by assumption)) HSZ.out (by omega) (by have := HG.out; omega) (by omega)) (fun h => by cases h) (by have := HSZ.out; first | (simp; done) | (simp; omega)) (by decide) (by first | assumption | exact And.left (by assumption)) ?_; intro v3 w3 hown3 hgrow3 hBw3))
              all_goals
                go_wp2
                exact ⟨⟨j + 1, _, by go_num, by omega, HPUT.out, own_mono_I hown3 HBW.out.size, HBW.out.trans (hBw3.mono HBW.out.size)⟩, by simp [intOf]; omega⟩
            · go_wp2_with fail
              go_quiet (fail)
              have hBi2 := belDrewN hBi nq
              clear hBi q0 q2
              generalize wr.drewN nq = wc at hBi2 ⊢
              have hBi := hBi2
              clear hBi2
              go_wp2_with fail
              go_quiet (fail)
              have hBi2 := belDrewN hBi nq
              clear hBi
              generalize wc.drewN nq = wd at hBi2 ⊢
              obtain ⟨wc, hwc⟩ : ∃ W, wd = W := ⟨_, rfl⟩
              rw [hwc] at hBi2 ⊢
              have hBi := hBi2
              clear hBi2 hwc
              have HBW : Hid (Below w1.heap.size w1 wc) := HB2.out.trans (hBi.mono HB2.out.size)
              have KC : Hid (∀ W, Below wc.heap.size wc W → Below wc.heap.size wc W ∧ W.cell? ⟨b, off + j * 2 + 1, none⟩ = some (.int .i64 y) ∧ W.cell? ⟨w.heap.size, 2, none⟩ = some (.slice (some ⟨b, off, none⟩) ats.size c2)) := fun W hb => ⟨hb, KS.out W (HBW.out.trans (hb.mono HBW.out.size))⟩
              have hbz : Below wc.heap.size wc wc := Below.refl _ _
              have HH : Hid (HoldsK encJ 1 wc g o0 oo) := holdsBel_N HH2.out HG2.out hBi
              have HG : Hid (g < wc.heap.size) := Nat.lt_of_lt_of_le HG2.out hBi.size
              have HPUT : Hid ((#[] ++ (oo.toList.take k).toArray ++ #[y] ++ (oo.toList.drop k).toArray).toList = opN (ats.toList.take (j + 1))) := by
                show _ = _
                rw [HS.out, put_J (k := k) (by have := HSZ.out; omega) HJ.out HGE.out]
                simp
              clear hBi
              go_wp2_with fail
              go_region_held3 (fun w' => Below wc.heap.size wc w' ∧ w'.cell? ⟨b, off + j * 2 + 1, none⟩ = some (.int .i64 y) ∧ w'.cell? ⟨w.heap.size, 2, none⟩ = some (.slice (some ⟨b, off, none⟩) ats.size c2)) (first | assumption | exact KC.out _ (by assumption) | exact KC.out _ (And.left (by assumption)) | exact KC.out _ (Below.drew (by assumption)) | exact KC.out _ (Below.drew (And.left (by assumption))) | exact KC.out _ (belAlloc (by assumption) _) | exact KC.out _ (belAlloc (And.left (by assumption)) _) | exact KC.out _ (belAlloc (by assumption) _).drew | exact KC.out _ (belAlloc (And.left (by assumption)) _).drew | exact KC.out _ (belAlloc (Below.drew (by assumption)) _) | exact KC.out _ (belAlloc (Below.drew (And.left (by assumption))) _))
                (first
                  | (refine step_append_R encJ_1 encJ_len (by decide) (by rfl) _ _ _ (by rfl) wc 3 i0 _ 8 Tryz.underlying40 hi0 hz0 hz1 hz2 rfl _ #[] (by rfl) (by first | exact enA _ _ | exact enB _ _ _ | exact enC _ _ _ (by simp)) _ _ _ (wc.heap.size + 9) (oo.toList.take k).toArray (by rfl) (by have := HSZ.out; first | (simp; done) | (simp; omega)) (rd_take_N HH.out HG.out (by first | assumption | exact And.left (by assumption)) HSZ.out (by omega) (by have := HG.out; omega)) (fun h => by cases h) (by have := HSZ.out; first | (simp; done) | (simp; omega)) (by decide) (by first | assumption | exact And.left (by assumption)) ?_; intro v1 w1' hown1 hgrow1 hBw1)
                  | (refine step_append_R encJ_1 encJ_len (by decide) (by rfl) _ _ _ (by rfl) wc 3 i0 _ 8 Tryz.underlying40 hi0 hz0 hz1 hz2 rfl v1 (#[] ++ (oo.toList.take k).toArray) (by rfl) (by first | exact hown1 | exact (hown1.alloc _).drew) _ _ _ _ #[y] (by rfl) (by rfl) (by first | exact n1A _ _ _ | exact n1B hgrow1 | exact n1C hgrow1) (fun h => by cases h) (by have := HSZ.out; first | (simp; done) | (simp; omega)) (by decide) (by first | assumption | exact And.left (by assumption)) ?_; intro v2 w2' hown2 hgrow2 hBw2)
                  | (refine step_append_R encJ_1 encJ_len (by decide) (by rfl) _ _ _ (by rfl) wc 3 i0 _ 8 Tryz.underlying40 hi0 hz0 hz1 hz2 rfl v2 (#[] ++ (oo.toList.take k).toArray ++ #[y]) (by rfl) (by first | exact hown2 | exact hown2.drew) _ _ _ (wc.heap.size + 9) (oo.toList.drop k).toArray (by rfl) (by have := HSZ.out; first | (simp; done) | (simp; omega)) (rd_drop_N HH.out HG.out (by first | assumption | exact And.left (by assumption)) HSZ.out (by omega) (by have := HG.out; omega) (by omega)) (fun h => by cases h) (by have := HSZ.out; first | (simp; done) | (simp; omega)) (by decide) (by first | assumption | exact And.left (by assumption)) ?_; intro v3 w3 hown3 hgrow3 hBw3))
              all_goals
                go_wp2
                exact ⟨⟨j + 1, _, by go_num, by omega, HPUT.out, own_mono_I hown3 HBW.out.size, HBW.out.trans (hBw3.mono HBW.out.size)⟩, by simp [intOf]; omega⟩
    · obtain rfl : j = ats.size := by omega
      have hlt' : decide ((ats.size : Int) < (ats.size : Int)) = false := decide_eq_false (by omega)
      rw [List.take_of_length_le (by simp)] at ho
      have HO := Lib.hid ho
      clear ho
      go_wp2
      go_ret
      first | exact ⟨_, oo, rfl, HO.out, own_mono_I hown HB1.out.size, belStep HB1.out HB.out⟩ | exact ⟨_, rfl, oo, HO.out, own_mono_I hown HB1.out.size, belStep HB1.out HB.out⟩
set_option maxHeartbeats 4000000 in
theorem rOpen_bad (base : Int) (rs ats : Array (Int × Int)) (A1 : Option Addr) (c1 : Nat) (A2 : Option Addr) (c2 : Nat) (w : World) (h1 : RdK encR 2 w.heap.size w A1 rs) (h2 : RdK encA_I 2 w.heap.size w A2 ats) (hbad : chkB ⟨base, rs, ats⟩ = false) :
    Calls Tryz.prog 20 #[.agg #[.int .i64 base, .slice A1 rs.size c1, .slice A2 ats.size c2]] w fun e w' => e = .returned (.slice none 0 0) ∧ Below w.heap.size w w' := by
  have HC : Hid (∀ W, Below w.heap.size w W → Calls Tryz.prog 13 #[.agg #[.int .i64 base, .slice A1 rs.size c1, .slice A2 ats.size c2]] W fun e w' => e = .returned (.int .i64 2) ∧ Below W.heap.size W w') := fun W hb => by
    have := rChk16_let base rs ats A1 c1 A2 c2 W ((h1.below hb).mono hb.size) ((h2.below hb).mono hb.size)
    unfold chkE at this
    rwa [if_neg (by rw [hbad]; decide)] at this
  clear h1 h2 hbad
  go_enter Tryz.func20, Tryz.ntmps20
  go_wp2
  go_loopw [3, 4] (fun v iv wr => v = .slice none 0 0 ∧ iv = .int .i64 0 ∧ wr = w.alloc (.cells #[.int .i64 base, .slice A1 rs.size c1, .slice A2 ats.size c2] 25)) (fun _ _ _ => 0)
  case atStart => exact ⟨rfl, rfl, rfl⟩
  case round =>
    obtain ⟨rfl, rfl, rfl⟩ := hrel
    by_cases h0 : 0 < ats.size
    · have d0 : decide ((0 : Int) < (ats.size : Int)) = true := decide_eq_true (by omega)
      have d1 : decide (0 < ats.size) = true := decide_eq_true h0
      go_wp2_with fail
      refine (HC.out _ (bel1 w _)).mono ?_
      rintro e w2 ⟨rfl, hb2⟩
      go_wp2
      go_ret
      exact ⟨rfl, belStep (bel1 w _) hb2⟩
    · have d0 : decide ((0 : Int) < (ats.size : Int)) = false := decide_eq_false (by omega)
      have d1 : decide (0 < ats.size) = false := decide_eq_false h0
      go_wp2
      go_ret
      exact ⟨rfl, bel1 w _⟩
theorem rOpen_any (v : Value) (k : KN) (w : World) (h : KnV w v k) :
    Calls Tryz.prog 20 #[v] w fun e w' => (∃ A s c, e = .returned (.slice A s.size c) ∧ OpenR k s ∧ RdI_R w'.heap.size w' A s) ∧ Below w.heap.size w w' := by
  obtain ⟨base, rs, ats⟩ := k
  obtain ⟨A1, c1, A2, c2, rfl, h1, h2, _, _⟩ := h
  cases hb : chkB ⟨base, rs, ats⟩
  · exact (rOpen_bad base rs ats A1 c1 A2 c2 w h1 h2 hb).mono fun e w' ⟨he, hw⟩ => ⟨⟨none, #[], 0, he, open_bad hb, RdI_R.none_⟩, hw⟩
  · refine (rOpen_ok base rs ats A1 c1 A2 c2 w h1 h2 (chk_iff.1 hb)).mono ?_
    rintro e w' ⟨v, oo, rfl, ho, hown, hw⟩
    have e1 : oo = (opN ats.toList).toArray := by rw [← ho]
    obtain ⟨A, c, rfl, hr, _⟩ := rdK_of_owns (enc := encJ) hown
    refine ⟨⟨A, oo, c, rfl, ?_, rdI_of_N hr⟩, hw⟩
    rw [e1]
    exact opN_open (k := ⟨base, rs, ats⟩) hb

end Go.Proofs.YtgpejfkmdenonaaGreat
