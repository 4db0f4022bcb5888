/- The law StateMarks returns true for every input, and changes nothing that lay there. No condition. -/
import Derived.Deep.RegionHeld3
import Derived.Test.YtnmojicfmcbgmaaGreatQStZ
import Derived.Test.YtnmojicfmcbgmaaGreatQKaF
namespace Go.Proofs.YtnmojicfmcbgmaaGreat.stateMarks
open Go.ChangeShapes Go.WideShapes Go.ChangeAt Go.RowKit Go.Deep Go.Sort
set_option maxRecDepth 100000
attribute [local go_sem ↓] execOp_loadRep execOp_storeRep
attribute [local go_sem] run_loadBox run_storeBox_any run_storeBox_newA allOne_lit size_lit
/-- What the law asks of a replica, and of what it is when it is brought to the present. -/
structure LawR (r s : RP) (N p : Nat) : Prop where
  n : r.n = (N : Int)
  ks : s.k.z.size = N
  kr : r.k.z.size = N
  clock : s.clock = r.clock
  floor : r.floor ≤ s.floor
  up : ∀ i, i < N → (basesK r.k.z)[i]! ≤ (basesK s.k.z)[i]!
  own : s.k.z[p]!.a.z.size = 0 → r.floor ≤ r.k.z[p]!.base → r.clock ≤ (basesK s.k.z)[p]!
theorem lawR_of {r s : RP} {N p : Nat} (h : RefR r s) (hc : chkR r = true) (hf : FewM r) (hN : r.k.z.size = N) (hp : r.self = (p : Int) + 1) (hpN : p < N) : LawR r s N p := by
  subst hN
  have hk := h.known hc hf
  refine ⟨(chkR_k hc).symm, h.ks, rfl, by rw [h.eq], (h.fl hc).1, fun i hi => ?_, fun h0 h1 => ?_⟩
  · rw [basesK_at _ hi, basesK_at _ (by rw [h.ks]; exact hi)]
    exact (hk i hi).2.1
  · rw [basesK_at _ (by rw [h.ks]; exact hpN)]
    exact h.own hc hf hpN (by rw [hp]) h0 h1
set_option maxHeartbeats 32000000 in
theorem walk (r : RP) (w : World) (hr : RdP w r) :
    Calls Tryz.prog 4 #[.agg (encP r).toArray] w fun e w' => e = .returned (.bool true) ∧ Below w.heap.size w w' := by
  have HF1 : Hid (∀ W, Below w.heap.size w W → Calls Tryz.prog 5 #[.agg (encP r).toArray] W fun e w' => e = .returned (.bool (fewR r)) ∧ Below W.heap.size W w') := fun W hb => few25_any r W (hr.below hb)
  have HC1 : Hid (FewC r → ∀ W, Below w.heap.size w W → Calls Tryz.prog 9 #[.agg (encP r).toArray] W fun e w' => e = .returned (.int .i64 (repE r)) ∧ Below W.heap.size W w') := fun hf W hb => stCheck_any r W (hr.below hb) hf
  have HR := Lib.hid hr
  obtain ⟨g1, hg1⟩ : ∃ g, fewR r = g := ⟨_, rfl⟩
  obtain ⟨g2, hg2⟩ : ∃ g, chkR r = g := ⟨_, rfl⟩
  rw [hg1] at HF1
  have HG1 := Lib.hid hg1
  have HG2 := Lib.hid hg2
  clear hg1 hg2 hr
  obtain ⟨cr, hcr⟩ : ∃ c, c = (encP r).toArray := ⟨_, rfl⟩
  obtain ⟨hszr, honer⟩ := rowP hcr
  have HCR := Lib.hid hcr
  rw [← hcr] at HF1 HC1
  have hgoal : ∀ x : Array Value, cr = x → Calls Tryz.prog 4 #[.agg x] w fun e w' => e = .returned (.bool true) ∧ Below w.heap.size w w' := by
    rintro _ rfl
    simp only [encP] at hcr
    have HX := Lib.hid (BoxR.init w cr 35)
    have x1 := HX.out.box hszr
    have x2 := HX.out.rowAt
    rw [hcr]
    go_enter Tryz.func4, Tryz.ntmps4
    rw [← hcr]
    clear hcr
    cases g1
    · go_wp2_with fail
      refine (HF1.out _ HX.out.b).mono ?_
      rintro _ w1 ⟨rfl, hb1⟩
      have HX := Lib.hid (HX.out.next hb1)
      clear hb1 x1 x2
      go_wp2_with fail
      refine (aw25_any _).mono ?_
      rintro _ w9 ⟨rfl, hb9⟩
      have HX := Lib.hid (HX.out.next hb9)
      clear hb9
      go_wp2
      go_ret
      exact ⟨rfl, HX.out.b⟩
    have FM := Lib.hid (fewR_iff.1 HG1.out).m'
    have HC1 := Lib.hid (HC1.out FM.out.c)
    go_wp2_with fail
    refine (HF1.out _ HX.out.b).mono ?_
    rintro _ w1 ⟨rfl, hb1⟩
    have HX := Lib.hid (HX.out.next hb1)
    clear hb1 x1 x2
    have x1 := HX.out.box hszr
    have x2 := HX.out.rowAt
    cases g2
    · rw [repE_no (by rw [HG2.out]; decide)] at HC1
      go_wp2_with fail
      refine (HC1.out _ HX.out.b).mono ?_
      rintro _ w2 ⟨rfl, hb2⟩
      have HX := Lib.hid (HX.out.next hb2)
      clear hb2 x1 x2
      go_wp2_with fail
      refine (aw25_any _).mono ?_
      rintro _ w9 ⟨rfl, hb9⟩
      have HX := Lib.hid (HX.out.next hb9)
      clear hb9
      go_wp2
      go_ret
      exact ⟨rfl, HX.out.b⟩
    rw [repE_yes HG2.out] at HC1
    go_wp2_with fail
    refine (HC1.out _ HX.out.b).mono ?_
    rintro _ w2 ⟨rfl, hb2⟩
    have HX := Lib.hid (HX.out.next hb2)
    clear hb2 x1 x2
    have x1 := HX.out.box hszr
    have x2 := HX.out.rowAt
    obtain ⟨N, hN⟩ : ∃ N, r.k.z.size = N := ⟨_, rfl⟩
    have hn := chkR_n HG2.out
    have hkn := chkR_k HG2.out
    obtain ⟨p, hp⟩ : ∃ p : Nat, r.self = (p : Int) + 1 := ⟨r.self.toNat - 1, by omega⟩
    have hpN : p < N := by omega
    have hN9 : N ≤ 9 := by omega
    have HRF : Hid (Calls Tryz.prog 18 #[.agg cr] w2 fun e w' => ∃ (s : RP) (cs : Array Value), e = .returned (.agg cs) ∧ cs = (encP s).toArray ∧ RefR r s ∧ RdP w' s ∧ Below w2.heap.size w2 w') := by
      show Calls _ _ _ _ _
      rw [HCR.out]
      exact (stRef_any r w2 (HR.out.below HX.out.b) FM.out HG2.out).mono fun e w' ⟨⟨s, h1, h2, h3⟩, h4⟩ => ⟨s, _, h1, rfl, h2, h3, h4⟩
    have HPS := Lib.hid hp
    have HNN := Lib.hid hN
    clear hn hkn hp hN
    go_wp2_with fail
    refine HRF.out.mono ?_
    rintro _ w3 ⟨s, cs, rfl, hcs, href, hrs, hb3⟩
    obtain ⟨hszs, hones⟩ := rowP hcs
    have HL := Lib.hid (lawR_of href HG2.out FM.out HNN.out HPS.out hpN)
    have HCS := Lib.hid hcs
    have HSC := Lib.hid (href.chk HG2.out FM.out)
    have FS := Lib.hid (href.few HG2.out FM.out)
    have HX := Lib.hid (HX.out.next hb3)
    have HRS := Lib.hid (hrs.below (bel1 w3 (.cells cs 35)))
    have HXS : Hid (BoxG w w3.heap.size cs 35 (w3.alloc (.cells cs 35))) := box_new HX.out.b cs _
    have HX := Lib.hid (HX.out.next (bel1 w3 (.cells cs 35)))
    clear hb3 x1 x2 hcs href hrs HRF HC1 HF1
    go_wp2
    obtain ⟨w4, hw4⟩ : ∃ W, W = w3.alloc (.cells cs 35) := ⟨_, rfl⟩
    rw [← hw4] at HX HXS HRS ⊢
    clear hw4
    obtain ⟨a, ha⟩ : ∃ a, basesK r.k.z = a := ⟨_, rfl⟩
    obtain ⟨b, hb⟩ : ∃ b, basesK s.k.z = b := ⟨_, rfl⟩
    have hasz : a.size = N := by rw [← ha, basesK_size]; exact HNN.out
    have hbsz : b.size = N := by rw [← hb, basesK_size]; exact HL.out.ks
    have HM1 : Hid (∀ W, Below w4.heap.size w4 W → Calls Tryz.prog 14 #[.agg cr] W fun e w' => (∃ (A : Option Addr) (k : Nat), e = .returned (.slice A N k) ∧ RdI_R w'.heap.size w' A a) ∧ Below W.heap.size W w') := fun W hbW => by
      have h1 : marksR r = a := by unfold marksR; rw [if_pos HG2.out]; exact ha
      refine (pr_marks r cr HCR.out FM.out.c a h1 W (HR.out.below (HX.out.next hbW).b)).mono fun e w' ⟨A, k, h2, h3, h4⟩ => ?_
      rw [hasz] at h2
      exact ⟨⟨A, k, h2, h3⟩, h4⟩
    have HM2 : Hid (∀ W, Below w4.heap.size w4 W → Calls Tryz.prog 14 #[.agg cs] W fun e w' => (∃ (A : Option Addr) (k : Nat), e = .returned (.slice A N k) ∧ RdI_R w'.heap.size w' A b) ∧ Below W.heap.size W w') := fun W hbW => by
      have h1 : marksR s = b := by unfold marksR; rw [if_pos HSC.out]; exact hb
      refine (pr_marks s cs HCS.out FS.out b h1 W (HRS.out.below hbW)).mono fun e w' ⟨A, k, h2, h3, h4⟩ => ?_
      rw [hbsz] at h2
      exact ⟨⟨A, k, h2, h3⟩, h4⟩
    have HAB : Hid ((∀ i, i < N → a[i]! ≤ b[i]!) ∧ (s.k.z[p]!.a.z.size = 0 → r.floor ≤ r.k.z[p]!.base → r.clock ≤ b[p]!)) := by
      rw [← ha, ← hb]; exact ⟨HL.out.up, HL.out.own⟩
    have HASZ := Lib.hid hasz
    have HBSZ := Lib.hid hbsz
    have hb0 : Below w4.heap.size w4 w4 := Below.refl _ _
    have KS : Hid (∀ W, Below w4.heap.size w4 W → Below w4.heap.size w4 W ∧ boxAt W w.heap.size 18 = true ∧ rowAt W w.heap.size = cr ∧ boxAt W w3.heap.size 18 = true ∧ rowAt W w3.heap.size = cs) := fun W hbW => by
      have h1 := HX.out.next hbW
      have h2 := HXS.out.next hbW
      exact ⟨hbW, h1.box hszr, h1.rowAt, h2.box hszs, h2.rowAt⟩
    clear ha hb hasz hbsz
    go_region_held3 (fun W => Below w4.heap.size w4 W ∧ boxAt W w.heap.size 18 = true ∧ rowAt W w.heap.size = cr ∧ boxAt W w3.heap.size 18 = true ∧ rowAt W w3.heap.size = cs) (exact KS.out _ (by first | assumption | exact Below.drew (by assumption)))
      (first
        | (go_at_call 14; ((with_reducible refine (HM1.out _ (by first | assumption | exact Below.drew (by assumption))).mono ?_); rintro e wA ⟨⟨A1, k1, rfl, hr1⟩, hba⟩; have hbA : Below w4.heap.size w4 wA := belStep (by first | assumption | exact Below.drew (by assumption)) hba; have HR1 := Lib.hid hr1; clear hr1 hba))
        | (go_at_call 14; ((with_reducible refine (HM2.out _ hbA).mono ?_); rintro e wB ⟨⟨A2, k2, rfl, hr2⟩, hba⟩; have hbB : Below w4.heap.size w4 wB := belStep hbA hba; have HR2 := Lib.hid hr2; have HR1 := Lib.hid ((HR1.out.below hba).mono hba.size); clear hr2 hba)))
    have HX := Lib.hid (HX.out.next hbB)
    have HXS := Lib.hid (HXS.out.next hbB)
    have HRB := Lib.hid (HR.out.below HX.out.b)
    have HRSB := Lib.hid (HRS.out.below hbB)
    have q0 : cr[0]? = some (.int .i64 (N : Int)) := by rw [HCR.out, ← HL.out.n]; rfl
    have q2 : cr[2]? = some (.int .i64 ((p : Int) + 1)) := by rw [HCR.out, ← HPS.out]; rfl
    have q3 : cr[3]? = some (.int .i64 r.clock) := by rw [HCR.out]; rfl
    have q5 : cr[5]? = some (.int .i64 r.floor) := by rw [HCR.out]; rfl
    have s3 : cs[3]? = some (.int .i64 r.clock) := by rw [HCS.out, ← HL.out.clock]; rfl
    have s5 : cs[5]? = some (.int .i64 s.floor) := by rw [HCS.out]; rfl
    have Q0 := Lib.hid q0
    have Q2 := Lib.hid q2
    have Q3 := Lib.hid q3
    have Q5 := Lib.hid q5
    obtain ⟨bk, ok, hkA, hkb, fk⟩ := HRB.out.k.rd.at_ (i := p) (by rw [HNN.out]; exact hpN)
    obtain ⟨bs, os, hsA, hsb, fs⟩ := HRSB.out.k.rd.at_ (i := p) (by rw [HL.out.ks]; exact hpN)
    have q9 : cr[9]? = some (.slice (some ⟨bk, ok, none⟩) N r.k.c) := by rw [HCR.out, ← HNN.out, ← (show r.k.A = _ from hkA)]; rfl
    have s9 : cs[9]? = some (.slice (some ⟨bs, os, none⟩) N s.k.c) := by rw [HCS.out, ← HL.out.ks, ← (show s.k.A = _ from hsA)]; rfl
    have Q9 := Lib.hid q9
    have S9 := Lib.hid s9
    obtain ⟨b1, o1, rfl, hl1, f1⟩ := HR1.out (by rw [HASZ.out]; omega)
    obtain ⟨b2, o2, rfl, hl2, f2⟩ := HR2.out (by rw [HBSZ.out]; omega)
    have F1 := Lib.hid f1
    have F2 := Lib.hid f2
    have FK := Lib.hid (fk 0 (by omega))
    have FS0 := Lib.hid (fs 0 (by omega))
    have FS1 := Lib.hid (fs 1 (by omega))
    have FS2 := Lib.hid (fs 2 (by omega))
    have c0 := HX.out.at_ 0 Q0.out
    have c3 := HX.out.at_ 3 Q3.out
    have c5 := HX.out.at_ 5 Q5.out
    have d3 := HXS.out.at_ 3 s3
    have d5 := HXS.out.at_ 5 s5
    have hfl : decide (s.floor < r.floor) = false := decide_eq_false (by have := HL.out.floor; omega)
    have hwr : IntKind.i64.wrap (p : Int) = (p : Int) := IntWalk.i64_in _ (by omega)
    clear q0 q2 q3 q5 s3 s5 q9 s9 hkA hsA fk fs f1 f2 KS HM1 HM2 hb0
    go_wp2
    clear c0 c3 c5 d3 d5
    go_loopw [6] (fun i wr => ∃ k : Nat, i = .int .i64 k ∧ k ≤ N ∧ Hid (Below wB.heap.size wB wr)) (fun i _ => N - (intOf i).toNat)
    case atStart => exact ⟨0, rfl, Nat.zero_le _, Lib.hid (Below.refl _ _)⟩
    case round =>
      obtain ⟨k, rfl, hk, HBk⟩ := hrel
      have HX := Lib.hid (HX.out.next HBk.out)
      have c0 := HX.out.at_ 0 Q0.out
      by_cases hlt : k < N
      · have kz : (k : Int) < (N : Int) := by omega
        have e1 := (HBk.out.cell (p := ⟨b1, o1 + k, none⟩) hl1).trans (F1.out k (by rw [HASZ.out]; exact hlt))
        have e2 := (HBk.out.cell (p := ⟨b2, o2 + k, none⟩) hl2).trans (F2.out k (by rw [HBSZ.out]; exact hlt))
        have hle : decide (b[k]! < a[k]!) = false := decide_eq_false (by have := HAB.out.1 k hlt; omega)
        generalize a[k]! = ak at e1 hle
        generalize b[k]! = bk' at e2 hle
        go_wp2
        go_quiet (fail)
        go_wp2
        go_roundw
        case rel => exact ⟨k + 1, by go_num, by omega, Lib.hid (belDrewN HBk.out _)⟩
        case measure => simp [intOf]; omega
      · have hlt' : decide ((k : Int) < (N : Int)) = false := decide_eq_false (by omega)
        have HXS := Lib.hid (HXS.out.next HBk.out)
        have c2 := HX.out.at_ 2 Q2.out
        have d9 := HXS.out.at_ 9 S9.out
        have kz : (p : Int) < (N : Int) := by omega
        have e0 := (HBk.out.cell (p := ⟨bs, os + p * 3 + 0, none⟩) hsb).trans FS0.out
        have e1 := (HBk.out.cell (p := ⟨bs, os + p * 3 + 1, none⟩) hsb).trans FS1.out
        have e2 := (HBk.out.cell (p := ⟨bs, os + p * 3 + 2, none⟩) hsb).trans FS2.out
        have k0 := (HBk.out.cell (p := ⟨bk, ok + p * 3 + 0, none⟩) hkb).trans FK.out
        have g2 := (HBk.out.cell (p := ⟨b2, o2 + p, none⟩) hl2).trans (F2.out p (by rw [HBSZ.out]; exact hpN))
        have HOW := Lib.hid HAB.out.2
        generalize b[p]! = bp at g2 HOW
        obtain ⟨u, hu⟩ : ∃ u, s.k.z[p]! = u := ⟨_, rfl⟩
        obtain ⟨v, hv⟩ : ∃ v, r.k.z[p]! = v := ⟨_, rfl⟩
        rw [hu] at e0 e1 e2 HOW
        rw [hv] at k0 HOW
        clear hu hv
        simp only [Nat.add_zero, encKE, List.getElem!_cons_zero, List.getElem!_cons_succ] at e0 e1 e2 k0
        go_wp2
        have hg5 : (wr.alloc (.cells #[.int .i64 u.base, .slice u.r.A u.r.z.size u.r.c, .slice u.a.A u.a.z.size u.a.c] 53)).heap[wr.heap.size]? = some (.cells #[.int .i64 u.base, .slice u.r.A u.r.z.size u.r.c, .slice u.a.A u.a.z.size u.a.c] 53 (0, 0)) := heap_alloc_new wr _
        have hb5 : Below wr.heap.size wr (wr.alloc (.cells #[.int .i64 u.base, .slice u.r.A u.r.z.size u.r.c, .slice u.a.A u.a.z.size u.a.c] 53)) := bel1 wr _
        obtain ⟨w5, hw5⟩ : ∃ W, W = wr.alloc (.cells #[.int .i64 u.base, .slice u.r.A u.r.z.size u.r.c, .slice u.a.A u.a.z.size u.a.c] 53) := ⟨_, rfl⟩
        rw [← hw5] at hg5 hb5 ⊢
        clear hw5 c0 c2 d9 e0 e1 e2
        have HX5 := Lib.hid (HX.out.next hb5)
        have t2 : w5.cell? ⟨wr.heap.size, 2, none⟩ = some (.slice u.a.A u.a.z.size u.a.c) := (cell_of_row w5 _ 2 _ _ (0, 0) hg5).trans rfl
        have c9 := HX5.out.at_ 9 Q9.out
        have c2 := HX5.out.at_ 2 Q2.out
        have c5 := HX5.out.at_ 5 Q5.out
        have l2 := Nat.lt_of_lt_of_le hl2 HBk.out.size
        have lk := Nat.lt_of_lt_of_le hkb HBk.out.size
        have k0 := (hb5.cell (p := ⟨bk, ok + p * 3, none⟩) lk).trans k0
        have G2 := Lib.hid ((hb5.cell (p := ⟨b2, o2 + p, none⟩) l2).trans g2)
        have C3 := Lib.hid (HX5.out.at_ 3 Q3.out)
        have C2 := Lib.hid c2
        have L2 := Lib.hid (Nat.lt_of_lt_of_le l2 hb5.size)
        clear g2 hb5 hg5 l2 lk
        by_cases h0 : 0 < u.a.z.size
        · have h0' : decide ((0 : Int) < (u.a.z.size : Int)) = true := decide_eq_true (by omega)
          go_quiet (fail)
          have HBQ : Hid (Below w5.heap.size w5 (w5.drewN nq)) := belDrewN (Below.refl _ _) nq
          go_wp2_with fail
          refine (aw25_any _).mono ?_
          rintro _ w9 ⟨rfl, hb9⟩
          have HW9 := Lib.hid (belStep HBQ.out hb9)
          clear hb9
          go_wp2
          go_ret
          exact ⟨rfl, belStep HX5.out.b HW9.out⟩
        · have h0' : decide ((0 : Int) < (u.a.z.size : Int)) = false := decide_eq_false (by omega)
          by_cases h1 : v.base < r.floor
          · have h1' : decide (v.base < r.floor) = true := decide_eq_true h1
            clear h1
            go_quiet (fail)
            have HBQ : Hid (Below w5.heap.size w5 (w5.drewN nq)) := belDrewN (Below.refl _ _) nq
            go_wp2_with fail
            refine (aw25_any _).mono ?_
            rintro _ w9 ⟨rfl, hb9⟩
            have HW9 := Lib.hid (belStep HBQ.out hb9)
            clear hb9
            go_wp2
            go_ret
            exact ⟨rfl, belStep HX5.out.b HW9.out⟩
          · have h1' : decide (v.base < r.floor) = false := decide_eq_false h1
            have hge : decide (r.clock ≤ bp) = true := decide_eq_true (HOW.out (by omega) (by omega))
            clear h1
            go_quiet (fail)
            have hbq : Below w5.heap.size w5 (w5.drewN nq) := belDrewN (Below.refl _ _) nq
            have hbq1 : Below w5.heap.size w5 (w5.drewN (nq + 1)) := belDrewN (Below.refl _ _) (nq + 1)
            clear t2 c9 c2 c5 k0
            have KS : Hid (∀ W, Below w5.heap.size w5 W → Below w5.heap.size w5 W ∧ W.cell? ⟨w.heap.size, 2, none⟩ = some (.int .i64 ((p : Int) + 1)) ∧ W.cell? ⟨w.heap.size, 3, none⟩ = some (.int .i64 r.clock) ∧ W.cell? ⟨b2, o2 + p, none⟩ = some (.int .i64 bp)) := fun W hb => by
              have hx := HX5.out.next hb
              exact ⟨hb, hx.at_ 2 Q2.out, hx.at_ 3 Q3.out, (hb.cell (p := ⟨b2, o2 + p, none⟩) L2.out).trans G2.out⟩
            go_wp2
            go_region_held3 (fun W => Below w5.heap.size w5 W ∧ W.cell? ⟨w.heap.size, 2, none⟩ = some (.int .i64 ((p : Int) + 1)) ∧ W.cell? ⟨w.heap.size, 3, none⟩ = some (.int .i64 r.clock) ∧ W.cell? ⟨b2, o2 + p, none⟩ = some (.int .i64 bp)) (exact KS.out _ (by first | assumption | exact Below.drew (by assumption)))
              ((go_at_call 6; ((with_reducible refine (aw25_any _).mono ?_); rintro e wK ⟨rfl, hba⟩; have hbK : Below w5.heap.size w5 wK := belStep (by first | assumption | exact Below.drew (by assumption)) hba; clear hba)))
            go_wp2
            go_ret
            exact ⟨rfl, belStep HX5.out.b hbK⟩
  exact hgoal _ hcr

set_option maxRecDepth 100000 in
theorem lifted (os : Os) (started : os.Started) (H : Type) (enc : TypeId × Value → H) :
    ReturnsInHanded {} Tryz.checked os 4 .any (Rows.stateMarksSpec.pre6 enc Tryz.prog Tryz.f4 Rows.stateMarksRow.domain false) (Rows.stateMarksSpec.post enc Tryz.prog Tryz.f4 false true false false) := by
  refine returnsInHanded_of_change_sized (C := Tryz.checked) own started (by kernel_rfl) Tryz.func4
    (ChangeSpec.witness6 (enc := enc) (C := Tryz.checked) false ⟨#[], #[.agg #[.int .i64 0, .int .i64 0, .int .i64 0, .int .i64 0, .int .i64 0, .int .i64 0, .int .i64 0, .slice none 0 0, .slice none 0 0, .slice none 0 0, .slice none 0 0, .slice none 0 0, .slice none 0 0, .int .i64 0, .int .i64 0, .int .i64 0, .slice none 0 0, .slice none 0 0]], []⟩ 8 (by kernel_rfl) (by kernel_rfl) (by kernel_rfl) (by kernel_rfl)) ?_
  intro W base args ds gs before hval0 hW _ _ _
  have hval : ∀ (j : Nat) t v, Tryz.f4.params[j]? = some t → args[j]? = some v → Value.okWide Tryz.prog W .any base t v := hval0
  have hW' := hW
  obtain ⟨p, q, hA0, hV, rfl, _, _⟩ := hW
  have hA : DataW.TrodAll enc Tryz.prog W 0 (fun _ => true) true Tryz.f4.params.toList args.toList ds p := hA0
  rw [Tryz.params4] at hA hval
  obtain ⟨v0, d0, rfl, rfl, h0⟩ := trodAll_one hA
  obtain ⟨rfl, rfl⟩ := trodVars_none hV
  obtain ⟨r0, rfl, q0⟩ := open_rep (hval 0 35 v0 rfl rfl) h0
  refine (walk r0 W q0).mono fun e W' ⟨he, hb⟩ => ?_
  subst he
  exact ⟨_, rfl, law_post (tb := 4) laidOut (by decide +kernel) rfl hW' rfl rfl rfl rfl Tryz.underlying4 hb⟩

theorem over : Rows.stateMarksRow.holds Tryz.pinned (OpenSpec.ofChange Rows.stateMarksSpec) :=
  OpenClaim.holds_of_wide 4 Tryz.f4 rfl rfl rfl rfl rfl rfl rfl ⟨rfl, rfl, rfl, rfl, rfl⟩ rfl rfl rfl rfl rfl (by kernel_rfl) Tryz.func4 (by kernel_rfl)
    (of_decide_eq_true (by kernel_rfl)) (by unfold Func.isWrapper; first | (rw [if_pos (by decide +kernel)]; kernel_rfl) | (rw [if_neg (by decide +kernel)]; exact ⟨rfl, rfl⟩))
    (fun os started H enc _ => lifted os started H enc)
theorem proved : Rows.StateMarksSaid := over
#print axioms proved
end Go.Proofs.YtnmojicfmcbgmaaGreat.stateMarks
