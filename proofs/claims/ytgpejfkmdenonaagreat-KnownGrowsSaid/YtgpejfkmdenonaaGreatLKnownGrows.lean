/- The law KnownGrows returns true for every input, and changes nothing that lay there. No condition. -/
import Derived.Test.YtgpejfkmdenonaaGreatQKnZ
import Derived.Test.YtgpejfkmdenonaaGreatQOpA
namespace Go.Proofs.YtgpejfkmdenonaaGreat.knownGrows
open Go.ChangeShapes Go.WideShapes Go.ChangeAt Go.RowKit Go.Deep Go.Sort

set_option maxRecDepth 100000
set_option maxHeartbeats 32000000 in
theorem walk (v : Value) (k : KN) (lo hi : Int) (A3 : Option Addr) (c3 : Nat) (atts : Array (Int × Int)) (A8 : Option Addr) (c8 : Nat) (ids : Array Int) (w : World) (hk : KnV w v k) (h3 : RdK encA_I 2 w.heap.size w A3 atts) (h8 : RdI_R w.heap.size w A8 ids) :
    Calls Tryz.prog 5 #[v, .agg #[.int .i64 lo, .int .i64 hi, .slice A3 atts.size c3], .slice A8 ids.size c8] w fun e w' => e = .returned (.bool true) ∧ Below w.heap.size w w' := by
  have HFw := Lib.hid (fun W (hb : Below w.heap.size w W) => Few16_any v k W (hk.below hb))
  have HKV := Lib.hid hk
  have H3 := Lib.hid h3
  have H8 := Lib.hid h8
  obtain ⟨base, rs, ats⟩ := k
  obtain ⟨A1, c1, A2, c2, rfl, hrr, _⟩ := hk
  have HRr := Lib.hid hrr
  have HK : Hid (∀ W, Below w.heap.size w W → KnV W (.agg #[.int .i64 base, .slice A1 rs.size c1, .slice A2 ats.size c2]) ⟨base, rs, ats⟩) := fun W hb => HKV.out.below hb
  have HCk : Hid (∀ W, Below w.heap.size w W → Calls Tryz.prog 12 #[.agg #[.int .i64 base, .slice A1 rs.size c1, .slice A2 ats.size c2]] W fun e w' => e = .returned (.int .i64 (chkE ⟨base, rs, ats⟩)) ∧ Below W.heap.size W w') := fun W hb => kCheck_any (.agg #[.int .i64 base, .slice A1 rs.size c1, .slice A2 ats.size c2]) ⟨base, rs, ats⟩ W (HK.out W hb)
  have HT := Lib.hid (two_blk w (.cells #[.int .i64 base, .slice A1 rs.size c1, .slice A2 ats.size c2] 25) (.cells #[.int .i64 lo, .int .i64 hi, .slice A3 atts.size c3] 27))
  clear h3 h8 hrr HKV
  cases hf : fewK ⟨base, rs, ats⟩
  · rw [hf] at HFw
    clear hf
    go_enter Tryz.func5, Tryz.ntmps5
    go_wp2_with fail
    refine (HFw.out _ (belAlloc (bel1 w _) _)).mono ?_
    rintro e w1 ⟨rfl, hb1⟩
    obtain ⟨⟨k0, k1, k2⟩, _⟩ := blk3 (blk_bel HT.out.1 hb1)
    obtain ⟨⟨m0, m1, m2⟩, _⟩ := blk3 (blk_bel HT.out.2 hb1)
    have HK1 := Lib.hid (blk_bel HT.out.1 hb1)
    have HM1 := Lib.hid (blk_bel HT.out.2 hb1)
    have HB1 := Lib.hid (belStep (belAlloc (bel1 w _) _) hb1)
    clear hb1
    go_wp2_with fail
    refine (aw16_any _).mono ?_
    rintro e w9 ⟨rfl, hb9⟩
    go_wp2
    go_ret
    exact ⟨rfl, belStep HB1.out hb9⟩
  · obtain ⟨s1, s2⟩ := fewK_iff.1 hf
    simp only at s1 s2
    rw [hf] at HFw
    clear hf
    by_cases s3 : 100 < atts.size
    · have q3 : decide ((100 : Int) < (atts.size : Int)) = true := decide_eq_true (by omega)
      go_enter Tryz.func5, Tryz.ntmps5
      go_wp2_with fail
      refine (HFw.out _ (belAlloc (bel1 w _) _)).mono ?_
      rintro e w1 ⟨rfl, hb1⟩
      obtain ⟨⟨k0, k1, k2⟩, _⟩ := blk3 (blk_bel HT.out.1 hb1)
      obtain ⟨⟨m0, m1, m2⟩, _⟩ := blk3 (blk_bel HT.out.2 hb1)
      have HK1 := Lib.hid (blk_bel HT.out.1 hb1)
      have HM1 := Lib.hid (blk_bel HT.out.2 hb1)
      have HB1 := Lib.hid (belStep (belAlloc (bel1 w _) _) hb1)
      clear hb1
      go_wp2_with fail
      refine (aw16_any _).mono ?_
      rintro e w9 ⟨rfl, hb9⟩
      go_wp2
      go_ret
      exact ⟨rfl, belStep HB1.out hb9⟩
    · have q3 : decide ((100 : Int) < (atts.size : Int)) = false := decide_eq_false (by omega)
      by_cases s4 : 100 < ids.size
      · have q4 : decide ((100 : Int) < (ids.size : Int)) = true := decide_eq_true (by omega)
        go_enter Tryz.func5, Tryz.ntmps5
        go_wp2_with fail
        refine (HFw.out _ (belAlloc (bel1 w _) _)).mono ?_
        rintro e w1 ⟨rfl, hb1⟩
        obtain ⟨⟨k0, k1, k2⟩, _⟩ := blk3 (blk_bel HT.out.1 hb1)
        obtain ⟨⟨m0, m1, m2⟩, _⟩ := blk3 (blk_bel HT.out.2 hb1)
        have HK1 := Lib.hid (blk_bel HT.out.1 hb1)
        have HM1 := Lib.hid (blk_bel HT.out.2 hb1)
        have HB1 := Lib.hid (belStep (belAlloc (bel1 w _) _) hb1)
        clear hb1
        go_wp2_with fail
        refine (aw16_any _).mono ?_
        rintro e w9 ⟨rfl, hb9⟩
        go_wp2
        go_ret
        exact ⟨rfl, belStep HB1.out hb9⟩
      · have q4 : decide ((100 : Int) < (ids.size : Int)) = false := decide_eq_false (by omega)
        cases hc : chkB ⟨base, rs, ats⟩
        · obtain ⟨ce, hce⟩ : ∃ ce, chkE ⟨base, rs, ats⟩ = ce := ⟨_, rfl⟩
          have q0 := chkE_ne ⟨base, rs, ats⟩
          rw [hc, hce] at q0
          rw [hce] at HCk
          clear hc hce
          go_enter Tryz.func5, Tryz.ntmps5
          go_wp2_with fail
          refine (HFw.out _ (belAlloc (bel1 w _) _)).mono ?_
          rintro e w1 ⟨rfl, hb1⟩
          obtain ⟨⟨k0, k1, k2⟩, _⟩ := blk3 (blk_bel HT.out.1 hb1)
          obtain ⟨⟨m0, m1, m2⟩, _⟩ := blk3 (blk_bel HT.out.2 hb1)
          have HK1 := Lib.hid (blk_bel HT.out.1 hb1)
          have HM1 := Lib.hid (blk_bel HT.out.2 hb1)
          have HB1 := Lib.hid (belStep (belAlloc (bel1 w _) _) hb1)
          clear hb1
          go_wp2_with fail
          refine (HCk.out _ HB1.out).mono ?_
          rintro e w2 ⟨rfl, hb2⟩
          have HB2 := Lib.hid (belStep HB1.out hb2)
          clear hb2
          go_wp2_with fail
          refine (aw16_any _).mono ?_
          rintro e w9 ⟨rfl, hb9⟩
          go_wp2
          go_ret
          exact ⟨rfl, belStep HB2.out hb9⟩
        · have hP := chk_iff.1 hc
          have HP := Lib.hid hP
          rw [chkE_ok hP] at HCk
          clear hc hP
          go_enter Tryz.func5, Tryz.ntmps5
          go_wp2_with fail
          refine (HFw.out _ (belAlloc (bel1 w _) _)).mono ?_
          rintro e w1 ⟨rfl, hb1⟩
          obtain ⟨⟨k0, k1, k2⟩, _⟩ := blk3 (blk_bel HT.out.1 hb1)
          obtain ⟨⟨m0, m1, m2⟩, _⟩ := blk3 (blk_bel HT.out.2 hb1)
          have HK1 := Lib.hid (blk_bel HT.out.1 hb1)
          have HM1 := Lib.hid (blk_bel HT.out.2 hb1)
          have HB1 := Lib.hid (belStep (belAlloc (bel1 w _) _) hb1)
          clear hb1
          go_wp2_with fail
          refine (HCk.out _ HB1.out).mono ?_
          rintro e w2 ⟨rfl, hb2⟩
          have HK2 := Lib.hid (blk_bel HK1.out hb2)
          have HM2 := Lib.hid (blk_bel HM1.out hb2)
          have HB2 := Lib.hid (belStep HB1.out hb2)
          clear hb2 k0 k1 k2 m0 m1 m2 HT HFw HCk HK1 HM1
          obtain ⟨⟨k0, k1, k2⟩, _⟩ := blk3 HK2.out
          have HSe := Lib.hid (kSettle_any (.agg #[.int .i64 base, .slice A1 rs.size c1, .slice A2 ats.size c2]) ⟨base, rs, ats⟩ ids A8 c8 w2 (HK.out _ HB2.out) ((H8.out.below HB2.out).mono HB2.out.size) (by simp only; omega) (by omega))
          go_wp2_with fail
          refine HSe.out.mono ?_
          rintro e w3 ⟨hso, hb3⟩
          have HK3 := Lib.hid (blk_bel HK2.out hb3)
          have HM3 := Lib.hid (blk_bel HM2.out hb3)
          have HB3 := Lib.hid (belStep HB2.out hb3)
          clear hb3 k0 k1 k2 HK2 HM2 HSe
          rcases hso with ⟨hcf, _⟩ | ⟨_, vs, s, rfl, hks, hs, _⟩
          · rw [chk_iff.2 HP.out] at hcf
            cases hcf
          have HKs3 := Lib.hid hks
          obtain ⟨A4, c4, A5, c5, rfl, _⟩ := hks
          obtain ⟨gs1, gs2, gs3⟩ := grow_set HP.out hs
          have HS1 := Lib.hid gs1
          have HS3 := Lib.hid gs3
          simp only at gs2
          have d4 : decide (s.base < base) = false := decide_eq_false (by omega)
          clear hs gs1 gs3 gs2
          go_upto_region 4 with (fail)
          have HKN := Lib.hid (blk_alloc (o' := .cells #[.int .i64 s.base, .slice A4 s.rs.size c4, .slice A5 s.ats.size c5] 25) HK3.out)
          have HMN := Lib.hid (blk_alloc (o' := .cells #[.int .i64 s.base, .slice A4 s.rs.size c4, .slice A5 s.ats.size c5] 25) HM3.out)
          have HSN := Lib.hid (heap_alloc_new w3 (.cells #[.int .i64 s.base, .slice A4 s.rs.size c4, .slice A5 s.ats.size c5] 25))
          have HBN := Lib.hid (belAlloc HB3.out (.cells #[.int .i64 s.base, .slice A4 s.rs.size c4, .slice A5 s.ats.size c5] 25))
          have HKsN := Lib.hid (HKs3.out.below (bel1 w3 (.cells #[.int .i64 s.base, .slice A4 s.rs.size c4, .slice A5 s.ats.size c5] 25)))
          clear HK3 HM3 HKs3 HB3
          generalize w3.alloc (.cells #[.int .i64 s.base, .slice A4 s.rs.size c4, .slice A5 s.ats.size c5] 25) = w4 at HKN HMN HSN HBN HKsN ⊢
          obtain ⟨⟨s0, s1', s2'⟩, _⟩ := blk3 HSN.out
          have hcs := kCheck_any (.agg #[.int .i64 s.base, .slice A4 s.rs.size c4, .slice A5 s.ats.size c5]) s w4 HKsN.out
          rw [chkE_ok HS1.out] at hcs
          have HCs := Lib.hid hcs
          clear hcs
          go_wp2_with fail
          refine HCs.out.mono ?_
          rintro e w5 ⟨rfl, hb5⟩
          have HK5 := Lib.hid (blk_bel HKN.out hb5)
          have HM5 := Lib.hid (blk_bel HMN.out hb5)
          have HS5 := Lib.hid (blk_bel HSN.out hb5)
          have HB5 := Lib.hid (belStep HBN.out hb5)
          have HKs5 := Lib.hid (HKsN.out.below hb5)
          clear hb5 HCs HKN HMN HSN HBN HKsN s0 s1' s2'
          obtain ⟨⟨k0, k1, k2⟩, _⟩ := blk3 HK5.out
          obtain ⟨⟨m0, m1, m2⟩, _⟩ := blk3 HM5.out
          obtain ⟨⟨s0, s1', s2'⟩, _⟩ := blk3 HS5.out
          have HAd := Lib.hid (kAdd_any (.agg #[.int .i64 base, .slice A1 rs.size c1, .slice A2 ats.size c2]) ⟨base, rs, ats⟩ lo hi atts A3 c3 w5 (HK.out _ HB5.out) ((H3.out.below HB5.out).mono HB5.out.size) (by simp only; omega) (by simp only; omega) (by omega))
          go_wp2_with fail
          refine HAd.out.mono ?_
          rintro e w6 ⟨ho, hb6⟩
          have HK6 := Lib.hid (blk_bel HK5.out hb6)
          have HM6 := Lib.hid (blk_bel HM5.out hb6)
          have HS6 := Lib.hid (blk_bel HS5.out hb6)
          have HB6 := Lib.hid (belStep HB5.out hb6)
          have HKs6 := Lib.hid (HKs5.out.below hb6)
          clear hb6 HAd k0 k1 k2 m0 m1 m2 s0 s1' s2' HK5 HM5 HS5 HB5 HKs5
          rcases ho with ⟨_, rfl⟩ | ⟨hA, vr, r, rfl, hkr, hr, hrs⟩
          · skip
            go_wp2_with fail
            refine (aw16_any _).mono ?_
            rintro e w9 ⟨rfl, hb9⟩
            go_wp2
            go_ret
            exact ⟨rfl, belStep (belAlloc HB6.out _) hb9⟩
          have HA := Lib.hid hA
          have HKr6 := Lib.hid hkr
          obtain ⟨A6, c6, A7, c7, rfl, _⟩ := hkr
          obtain ⟨ga1, ga2, ga3, ga4⟩ := grow_add hA hr (by simp only; omega)
          have HR1 := Lib.hid ga1
          have HR4 := Lib.hid ga4
          simp only at ga2 ga3 hrs
          have y1 : r.rs.size ≤ 500 := by omega
          have y2 : r.ats.size ≤ 250 := by omega
          have d5 : decide (r.base < base) = false := decide_eq_false (by omega)
          have hA2 : AddA r lo hi atts := ⟨ga1, hA.lo0, hA.le, hA.hi1, hA.up⟩
          have HA2 := Lib.hid hA2
          have HAg : Hid (∀ b, AddR r lo hi atts b → b = r) := fun b hb => hr.again hA (by simp only; omega) hb
          clear hA hr ga1 ga2 ga3 ga4 hrs hA2
          go_upto_region 9 with (fail)
          have HKN := Lib.hid (blk_alloc (o' := .cells #[.int .i64 r.base, .slice A6 r.rs.size c6, .slice A7 r.ats.size c7] 25) HK6.out)
          have HMN := Lib.hid (blk_alloc (o' := .cells #[.int .i64 r.base, .slice A6 r.rs.size c6, .slice A7 r.ats.size c7] 25) HM6.out)
          have HSN := Lib.hid (blk_alloc (o' := .cells #[.int .i64 r.base, .slice A6 r.rs.size c6, .slice A7 r.ats.size c7] 25) HS6.out)
          have HRN := Lib.hid (heap_alloc_new w6 (.cells #[.int .i64 r.base, .slice A6 r.rs.size c6, .slice A7 r.ats.size c7] 25))
          have HBN := Lib.hid (belAlloc HB6.out (.cells #[.int .i64 r.base, .slice A6 r.rs.size c6, .slice A7 r.ats.size c7] 25))
          have HKsN := Lib.hid (HKs6.out.below (bel1 w6 (.cells #[.int .i64 r.base, .slice A6 r.rs.size c6, .slice A7 r.ats.size c7] 25)))
          have HKrN := Lib.hid (HKr6.out.below (bel1 w6 (.cells #[.int .i64 r.base, .slice A6 r.rs.size c6, .slice A7 r.ats.size c7] 25)))
          clear HK6 HM6 HS6 HKs6 HKr6 HB6
          generalize w6.alloc (.cells #[.int .i64 r.base, .slice A6 r.rs.size c6, .slice A7 r.ats.size c7] 25) = w7 at HKN HMN HSN HRN HBN HKsN HKrN ⊢
          obtain ⟨⟨r0, r1, r2⟩, _⟩ := blk3 HRN.out
          obtain ⟨⟨m0, m1, m2⟩, _⟩ := blk3 HMN.out
          have HAd := Lib.hid (kAdd_any (.agg #[.int .i64 r.base, .slice A6 r.rs.size c6, .slice A7 r.ats.size c7]) r lo hi atts A3 c3 w7 HKrN.out ((H3.out.below HBN.out).mono HBN.out.size) y1 y2 (by omega))
          go_wp2_with fail
          refine HAd.out.mono ?_
          rintro e w8 ⟨ho, hb8⟩
          have HK8 := Lib.hid (blk_bel HKN.out hb8)
          have HS8 := Lib.hid (blk_bel HSN.out hb8)
          have HR8 := Lib.hid (blk_bel HRN.out hb8)
          have HB8 := Lib.hid (belStep HBN.out hb8)
          have HKs8 := Lib.hid (HKsN.out.below hb8)
          have HKr8 := Lib.hid (HKrN.out.below hb8)
          clear hb8 HAd r0 r1 r2 m0 m1 m2 HKN HMN HSN HRN HBN HKsN HKrN
          rcases ho with ⟨hbad, _⟩ | ⟨_, vb, b, rfl, hkb, hr2, _⟩
          · rw [add_iff.2 HA2.out] at hbad
            cases hbad
          have hbr := HAg.out b hr2
          subst hbr
          have HKb8 := Lib.hid hkb
          obtain ⟨A9, c9, Ab, cb, rfl, _⟩ := hkb
          clear hr2 HAg HA2
          go_upto_region 10 with (fail)
          have HKN := Lib.hid (blk_alloc (o' := .cells #[.int .i64 b.base, .slice A9 b.rs.size c9, .slice Ab b.ats.size cb] 25) HK8.out)
          have HSN := Lib.hid (blk_alloc (o' := .cells #[.int .i64 b.base, .slice A9 b.rs.size c9, .slice Ab b.ats.size cb] 25) HS8.out)
          have HRN := Lib.hid (blk_alloc (o' := .cells #[.int .i64 b.base, .slice A9 b.rs.size c9, .slice Ab b.ats.size cb] 25) HR8.out)
          have HZN := Lib.hid (heap_alloc_new w8 (.cells #[.int .i64 b.base, .slice A9 b.rs.size c9, .slice Ab b.ats.size cb] 25))
          have HBN := Lib.hid (belAlloc HB8.out (.cells #[.int .i64 b.base, .slice A9 b.rs.size c9, .slice Ab b.ats.size cb] 25))
          have HKsN := Lib.hid (HKs8.out.below (bel1 w8 (.cells #[.int .i64 b.base, .slice A9 b.rs.size c9, .slice Ab b.ats.size cb] 25)))
          have HKrN := Lib.hid (HKr8.out.below (bel1 w8 (.cells #[.int .i64 b.base, .slice A9 b.rs.size c9, .slice Ab b.ats.size cb] 25)))
          have HKbN := Lib.hid (HKb8.out.below (bel1 w8 (.cells #[.int .i64 b.base, .slice A9 b.rs.size c9, .slice Ab b.ats.size cb] 25)))
          clear HK8 HS8 HR8 HKs8 HKr8 HKb8 HB8
          generalize w8.alloc (.cells #[.int .i64 b.base, .slice A9 b.rs.size c9, .slice Ab b.ats.size cb] 25) = w9 at HKN HSN HRN HZN HBN HKsN HKrN HKbN ⊢
          obtain ⟨⟨r0, r1, r2⟩, _⟩ := blk3 HRN.out
          have hcr := kCheck_any ((.agg #[.int .i64 b.base, .slice A6 b.rs.size c6, .slice A7 b.ats.size c7])) b w9 HKrN.out
          rw [chkE_ok HR1.out] at hcr
          have HCr := Lib.hid hcr
          clear hcr
          go_wp2_with fail
          refine HCr.out.mono ?_
          rintro e w10 ⟨rfl, hb10⟩
          have HK10 := Lib.hid (blk_bel HKN.out hb10)
          have HS10 := Lib.hid (blk_bel HSN.out hb10)
          have HR10 := Lib.hid (blk_bel HRN.out hb10)
          have HZ10 := Lib.hid (blk_bel HZN.out hb10)
          have HB10 := Lib.hid (belStep HBN.out hb10)
          have HKs10 := Lib.hid (HKsN.out.below hb10)
          have HKr10 := Lib.hid (HKrN.out.below hb10)
          have HKb10 := Lib.hid (HKbN.out.below hb10)
          clear hb10 HCr r0 r1 r2 HKN HSN HRN HZN HBN HKsN HKrN HKbN
          obtain ⟨⟨k0, k1, k2⟩, _⟩ := blk3 HK10.out
          obtain ⟨⟨r0, r1, r2⟩, _⟩ := blk3 HR10.out
          obtain ⟨⟨z0, z1, z2⟩, _⟩ := blk3 HZ10.out
          have hsm := rSame16_any ((.agg #[.int .i64 b.base, .slice A6 b.rs.size c6, .slice A7 b.ats.size c7])) (.agg #[.int .i64 b.base, .slice A9 b.rs.size c9, .slice Ab b.ats.size cb]) b b w10 HKr10.out HKb10.out (by omega) (by omega) (by omega) (by omega)
          rw [same_self] at hsm
          have HSm := Lib.hid hsm
          clear hsm
          go_wp2_with fail
          refine HSm.out.mono ?_
          rintro e w11 ⟨rfl, hb11⟩
          have HK11 := Lib.hid (blk_bel HK10.out hb11)
          have HS11 := Lib.hid (blk_bel HS10.out hb11)
          have HR11 := Lib.hid (blk_bel HR10.out hb11)
          have HB11 := Lib.hid (belStep HB10.out hb11)
          have HHs : Hid (∀ W t, Below w11.heap.size w11 W → inR rs t = true → Calls Tryz.prog 14 #[.agg #[.int .i64 s.base, .slice A4 s.rs.size c4, .slice A5 s.ats.size c5], .int .i64 t] W fun e w' => e = .returned (.bool true) ∧ Below W.heap.size W w') := fun W t hb ht => by
            have := kHas_any (.agg #[.int .i64 s.base, .slice A4 s.rs.size c4, .slice A5 s.ats.size c5]) s t W ((HKs10.out.below hb11).below hb)
            rwa [HS3.out t ht] at this
          have HHr : Hid (∀ W t, Below w11.heap.size w11 W → inR rs t = true → Calls Tryz.prog 14 #[(.agg #[.int .i64 b.base, .slice A6 b.rs.size c6, .slice A7 b.ats.size c7]), .int .i64 t] W fun e w' => e = .returned (.bool true) ∧ Below W.heap.size W w') := fun W t hb ht => by
            have := kHas_any ((.agg #[.int .i64 b.base, .slice A6 b.rs.size c6, .slice A7 b.ats.size c7])) b t W ((HKr10.out.below hb11).below hb)
            rwa [HR4.out t ht] at this
          clear hb11 HSm k0 k1 k2 r0 r1 r2 z0 z1 z2 HK10 HS10 HR10 HZ10 HB10 HKs10 HKr10 HKb10
          go_wp2
          go_loopw [12] (fun iv wr => ∃ j : Nat, iv = .int .i64 (j : Int) ∧ j ≤ rs.size ∧ Below w11.heap.size w11 wr) (fun iv _ => rs.size - (intOf iv).toNat)
          case atStart => exact ⟨0, rfl, Nat.zero_le _, Below.refl _ _⟩
          case round =>
            obtain ⟨j, rfl, hj, hB⟩ := hrel
            have HB := Lib.hid hB
            clear hB
            obtain ⟨⟨k0, k1, k2⟩, _⟩ := blk3 (blk_bel HK11.out HB.out)
            by_cases hlt : j < rs.size
            · have jz : (j : Int) < (rs.size : Int) := by omega
              obtain ⟨bx, off, rfl, hbl, f⟩ := (HRr.out.below (belStep HB11.out HB.out)).at_ hlt
              have e0 := f 0 (by omega)
              have e1 := f 1 (by omega)
              obtain ⟨i1, i2⟩ := in_ends HP.out hlt
              simp only at i1 i2
              obtain ⟨x, hx⟩ : ∃ x, rs[j]! = x := ⟨_, rfl⟩
              rw [hx] at e0 e1 i1 i2
              simp only [Nat.add_zero, encR, List.getElem!_cons_zero, List.getElem!_cons_succ] at e0 e1
              have HI1 := Lib.hid i1
              have HI2 := Lib.hid i2
              clear f hx i1 i2
              go_upto_region 16 with (fail)
              have HXN := Lib.hid (heap_alloc_new wr (.cells #[.int .i64 x.1, .int .i64 x.2] 47))
              have HBN := Lib.hid (belAlloc HB.out (.cells #[.int .i64 x.1, .int .i64 x.2] 47))
              clear e0 e1 k0 k1 k2
              generalize wr.alloc (.cells #[.int .i64 x.1, .int .i64 x.2] 47) = wa at HXN HBN ⊢
              obtain ⟨⟨r0, r1, r2⟩, _⟩ := blk3 (blk_bel HR11.out HBN.out)
              obtain ⟨x0, x1, _⟩ := blk_cells HXN.out
              go_wp2_with fail
              refine (HHr.out _ _ HBN.out HI1.out).mono ?_
              rintro e wb ⟨rfl, hbb⟩
              have HXb := Lib.hid (blk_bel HXN.out hbb)
              have HBb := Lib.hid (belStep HBN.out hbb)
              clear hbb r0 r1 r2 x0 x1
              obtain ⟨⟨r0, r1, r2⟩, _⟩ := blk3 (blk_bel HR11.out HBb.out)
              obtain ⟨x0, x1, _⟩ := blk_cells HXb.out
              go_wp2_with fail
              refine (HHr.out _ _ HBb.out HI2.out).mono ?_
              rintro e wc ⟨rfl, hbc⟩
              have HXc := Lib.hid (blk_bel HXb.out hbc)
              have HBc := Lib.hid (belStep HBb.out hbc)
              clear hbc r0 r1 r2 x0 x1
              obtain ⟨⟨s0, s1', s2'⟩, _⟩ := blk3 (blk_bel HS11.out HBc.out)
              obtain ⟨x0, x1, _⟩ := blk_cells HXc.out
              go_wp2_with fail
              refine (HHs.out _ _ HBc.out HI1.out).mono ?_
              rintro e wd ⟨rfl, hbd⟩
              have HXd := Lib.hid (blk_bel HXc.out hbd)
              have HBd := Lib.hid (belStep HBc.out hbd)
              clear hbd s0 s1' s2' x0 x1
              obtain ⟨⟨s0, s1', s2'⟩, _⟩ := blk3 (blk_bel HS11.out HBd.out)
              obtain ⟨x0, x1, _⟩ := blk_cells HXd.out
              go_wp2_with fail
              refine (HHs.out _ _ HBd.out HI2.out).mono ?_
              rintro e we ⟨rfl, hbe⟩
              have HBe := Lib.hid (belStep HBd.out hbe)
              clear hbe s0 s1' s2' x0 x1
              go_wp2
              exact ⟨⟨j + 1, by go_num, by omega, HBe.out⟩, by simp [intOf]; omega⟩
            · have hlt' : ¬ (j : Int) < (rs.size : Int) := by omega
              go_wp2_with fail
              refine (aw16_any _).mono ?_
              rintro e w9 ⟨rfl, hb9⟩
              go_wp2
              go_ret
              exact ⟨rfl, belStep (belStep HB11.out HB.out) hb9⟩

set_option maxRecDepth 100000 in
theorem lifted (os : Os) (started : os.Started) (H : Type) (enc : TypeId × Value → H) :
    ReturnsInHanded {} Tryz.checked os 5 .any (Rows.knownGrowsSpec.pre6 enc Tryz.prog Tryz.f5 Rows.knownGrowsRow.domain false) (Rows.knownGrowsSpec.post enc Tryz.prog Tryz.f5 false true false false) := by
  refine returnsInHanded_of_change_sized (C := Tryz.checked) own started (by kernel_rfl) Tryz.func5
    (ChangeSpec.witness6 (enc := enc) (C := Tryz.checked) false ⟨#[], #[.agg #[.int .i64 0, .slice none 0 0, .slice none 0 0], .agg #[.int .i64 0, .int .i64 0, .slice none 0 0], .slice none 0 0], []⟩ 8 (by kernel_rfl) (by kernel_rfl) (by kernel_rfl) (by kernel_rfl)) ?_
  intro W base args ds gs before hval0 hW _ _ _
  have hval : ∀ (j : Nat) t v, Tryz.f5.params[j]? = some t → args[j]? = some v → Value.okWide Tryz.prog W .any base t v := hval0
  have hW' := hW
  obtain ⟨p, q, hA0, hV, rfl, _, _⟩ := hW
  have hA : DataW.TrodAll enc Tryz.prog W 0 (fun _ => true) true Tryz.f5.params.toList args.toList ds p := hA0
  rw [Tryz.params5] at hA hval
  obtain ⟨v0, v1, v2, d0, d1, d2, p0, p1, p2, rfl, rfl, rfl, h0, h1, h2⟩ := trodAll_three hA
  obtain ⟨rfl, rfl⟩ := trodVars_none hV
  obtain ⟨k0, hk0⟩ := open_known (hval 0 25 v0 rfl rfl) h0
  obtain ⟨lo1, hi1, A1, c1, z1, rfl, r1, n1⟩ := open_more (hval 1 27 v1 rfl rfl) h1
  obtain ⟨A2, c2, z2, rfl, r2, n2⟩ := open_rdI0 Tryz.underlying40 Tryz.underlying3 (by kernel_rfl) (hval 2 40 v2 rfl rfl) h2
  refine (walk v0 k0 lo1 hi1 A1 c1 z1 A2 c2 z2 W hk0 r1 r2).mono fun e W' ⟨he, hb⟩ => ?_
  subst he
  exact ⟨_, rfl, law_post (tb := 4) laidOut (by decide +kernel) rfl hW' rfl rfl rfl rfl Tryz.underlying4 hb⟩

theorem over : Rows.knownGrowsRow.holds Tryz.pinned (OpenSpec.ofChange Rows.knownGrowsSpec) :=
  OpenClaim.holds_of_wide 5 Tryz.f5 rfl rfl rfl rfl rfl rfl rfl ⟨rfl, rfl, rfl, rfl, rfl⟩ rfl rfl rfl rfl rfl (by kernel_rfl) Tryz.func5 (by kernel_rfl)
    (of_decide_eq_true (by kernel_rfl)) (by unfold Func.isWrapper; first | (rw [if_pos (by decide +kernel)]; kernel_rfl) | (rw [if_neg (by decide +kernel)]; exact ⟨rfl, rfl⟩))
    (fun os started H enc _ => lifted os started H enc)
theorem proved : Rows.KnownGrowsSaid := over
#print axioms proved
end Go.Proofs.YtgpejfkmdenonaaGreat.knownGrows
