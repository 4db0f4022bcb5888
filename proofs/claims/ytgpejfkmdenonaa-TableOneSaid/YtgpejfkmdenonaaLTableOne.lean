/- The law TableOne returns true for every input, and changes nothing that lay there. No condition. -/
import Derived.Test.YtgpejfkmdenonaaTbI
import Derived.Test.YtgpejfkmdenonaaOpenN
import Derived.Test.YtgpejfkmdenonaaTbP
namespace Go.Proofs.Ytgpejfkmdenonaa.tableOne
open Go.ChangeShapes Go.WideShapes Go.ChangeAt Go.RowKit Go.Deep Go.Sort
set_option maxRecDepth 100000
set_option maxHeartbeats 64000000 in
theorem walk (A : Option Addr) (c : Nat) (z : Array EN) (e : EN) (w : World) (r0 : RdT0 w A z) (hn : A = none → c = 0) (r1 : RdE0 w e) :
    Calls Try.prog 4 #[.slice A z.size c, .agg (encE e).toArray] w fun r w' => r = .returned (.bool true) ∧ Below w.heap.size w w' := by
  obtain ⟨i0, hi0, hz0, hz1, hz2⟩ := info_parts ent_info
  have HL := Lib.hid (fun W (hb : Below w.heap.size w W) => few21_any A c z W (r0.below hb))
  have HE := Lib.hid (fun W => few20_any e W)
  have HX := Lib.hid (BoxW.init w (encE e).toArray 25)
  obtain ⟨g1, hg1⟩ : ∃ g, fewT z = g := ⟨_, rfl⟩
  obtain ⟨g2, hg2⟩ : ∃ g, decide (fewP e) = g := ⟨_, rfl⟩
  rw [hg1] at HL
  rw [hg2] at HE
  have HG1 := Lib.hid hg1
  have HG2 := Lib.hid hg2
  have R0 := Lib.hid r0
  have R1 := Lib.hid r1
  clear hg1 hg2 r0 r1
  simp only [encE] at HX HE ⊢
  cases g1
  · go_enter Try.func4, Try.ntmps4
    go_wp2_with fail
    refine (HL.out _ HX.out.b).mono ?_
    rintro _ w1 ⟨rfl, hb1⟩
    have HX := Lib.hid (HX.out.next hb1)
    clear hb1
    go_wp2_with fail
    refine (aw21_any _).mono ?_
    rintro _ w9 ⟨rfl, hb9⟩
    have HB9 := Lib.hid (belStep (Lib.hid HX.out.b).out hb9)
    clear hb9
    go_wp2
    go_ret
    exact ⟨rfl, HB9.out⟩
  cases g2
  · go_enter Try.func4, Try.ntmps4
    go_wp2_with fail
    refine (HL.out _ HX.out.b).mono ?_
    rintro _ w1 ⟨rfl, hb1⟩
    have HX := Lib.hid (HX.out.next hb1)
    clear hb1
    have y0 := HX.out.at_ 0
    have y1 := HX.out.at_ 1
    have y2 := HX.out.at_ 2
    have y3 := HX.out.at_ 3
    have y4 := HX.out.at_ 4
    have y5 := HX.out.at_ 5
    have y6 := HX.out.at_ 6
    have y7 := HX.out.at_ 7
    have y8 := HX.out.at_ 8
    have y9 := HX.out.at_ 9
    go_wp2_with fail
    refine (HE.out _).mono ?_
    rintro _ w2 ⟨rfl, hb2⟩
    have HX := Lib.hid (HX.out.next hb2)
    clear hb2 y0 y1 y2 y3 y4 y5 y6 y7 y8 y9
    go_wp2_with fail
    refine (aw21_any _).mono ?_
    rintro _ w9 ⟨rfl, hb9⟩
    have HB9 := Lib.hid (belStep (Lib.hid HX.out.b).out hb9)
    clear hb9
    go_wp2
    go_ret
    exact ⟨rfl, HB9.out⟩
  have HT := Lib.hid (R0.out.few HG1.out)
  have HR := Lib.hid (R1.out.few (of_decide_eq_true HG2.out).1 (of_decide_eq_true HG2.out).2)
  have hsz : z.size ≤ 60 := (fewT_iff.1 HG1.out).1
  go_enter Try.func4, Try.ntmps4
  go_wp2_with fail
  refine (HL.out _ HX.out.b).mono ?_
  rintro _ w1 ⟨rfl, hb1⟩
  have HX := Lib.hid (HX.out.next hb1)
  clear hb1
  have y0 := HX.out.at_ 0
  have y1 := HX.out.at_ 1
  have y2 := HX.out.at_ 2
  have y3 := HX.out.at_ 3
  have y4 := HX.out.at_ 4
  have y5 := HX.out.at_ 5
  have y6 := HX.out.at_ 6
  have y7 := HX.out.at_ 7
  have y8 := HX.out.at_ 8
  have y9 := HX.out.at_ 9
  go_wp2_with fail
  refine (HE.out _).mono ?_
  rintro _ w2 ⟨rfl, hb2⟩
  have HX := Lib.hid (HX.out.next hb2)
  clear hb2 y0 y1 y2 y3 y4 y5 y6 y7 y8 y9
  go_wp2_with (at_builtin; refine append_rdK encE_1 encE_len (by decide) rfl (.tmp 25) (.tmp 26) 22 rfl w2.heap.size 25 i0 (.agg #[.int .i64 0, .int .i64 0, .int .i64 0, .int .i64 0, .int .i64 0, .int .i64 0, .int .i64 0, .int .i64 0, .string ⟨#[]⟩, .slice none 0 0]) 104 Try.underlying22 hi0 hz0 hz1 hz2 rfl _ #[] rfl (empty_ownsK w2 25 encE 10) w2.heap.size A c z rfl (((HT.out.below HX.out.b).rd).alloc (Nat.le_refl _) _) hn (by simp; omega) (by decide) (by simp) ?_; intro v3 w3 hown3 hg3 _; have HB3 := Lib.hid ((bel1 w2 (.cells #[] 25)).grown hg3 (by simp) (fun k hk => ((empty_ownsK w2 25 encE 10).lt k hk).1)); have HX := Lib.hid (HX.out.next HB3.out); obtain ⟨A3, c3, rfl, hr3, _⟩ := rdK_of_owns hown3; rw [Array.empty_append] at hr3; have y0 := HX.out.at_ 0; have y1 := HX.out.at_ 1; have y2 := HX.out.at_ 2; have y3 := HX.out.at_ 3; have y4 := HX.out.at_ 4; have y5 := HX.out.at_ 5; have y6 := HX.out.at_ 6; have y7 := HX.out.at_ 7; have y8 := HX.out.at_ 8; have y9 := HX.out.at_ 9)
  have H3 := Lib.hid (HT.out.sub HX.out.b hr3 (by omega) (fun x hx => hx))
  have HP := Lib.hid (tPut_any A c z e w3 (HT.out.below HX.out.b) (HR.out.below HX.out.b))
  simp only [encE] at HP
  refine HP.out.mono ?_
  rintro _ w4 ⟨⟨A4, c4, rfl, h4⟩, hb4⟩
  have HX := Lib.hid (HX.out.next hb4)
  have HM := Lib.hid (fun W (hb : Below w4.heap.size w4 W) => h4.below hb)
  have HQ : Hid (Below w4.heap.size w4 w4) := Below.refl _ _
  have HS := Lib.hid (rSame21_any A A3 c c3 z z w4 (HT.out.below HX.out.b) (H3.out.below hb4))
  rw [sameT_self] at HS
  clear hb4 h4 y0 y1 y2 y3 y4 y5 y6 y7 y8 y9 hown3 hg3 hr3 HP
  go_wp2_with fail
  refine HS.out.mono ?_
  rintro _ w5 ⟨rfl, hb5⟩
  have HX := Lib.hid (HX.out.next hb5)
  have HQ := Lib.hid (belStep HQ.out hb5)
  clear hb5 HS
  by_cases hc : putC z e = 0
  rotate_left
  · have hpd : putD z e = #[] := by unfold putD; rw [if_neg hc]
    have hc' : (putC z e != 0) = true := by simpa using hc
    rw [hpd]
    clear hc
    go_wp2_with fail
    refine (aw21_any _).mono ?_
    rintro _ w9 ⟨rfl, hb9⟩
    have HB9 := Lib.hid (belStep (Lib.hid HX.out.b).out hb9)
    clear hb9
    go_wp2
    go_ret
    exact ⟨rfl, HB9.out⟩
  have HOK := Lib.hid (put_ok hc)
  have hc' : (putC z e != 0) = false := by rw [hc]; rfl
  have hms : (putD z e).size ≤ 40 := putD_size z e
  clear hc
  generalize putD z e = m at HM HOK hms ⊢
  have y0 := HX.out.at_ 0
  have y1 := HX.out.at_ 1
  have y2 := HX.out.at_ 2
  have y3 := HX.out.at_ 3
  have y4 := HX.out.at_ 4
  have y5 := HX.out.at_ 5
  have y6 := HX.out.at_ 6
  have y7 := HX.out.at_ 7
  have y8 := HX.out.at_ 8
  have y9 := HX.out.at_ 9
  have HF := Lib.hid (tFind_any A4 c4 m e.id w5 (HM.out _ HQ.out).zero (by omega))
  go_wp2_with fail
  refine HF.out.mono ?_
  rintro _ w6 ⟨⟨r, rfl, hr⟩, hb6⟩
  obtain rfl := hr.uniq HOK.out.1.here
  simp only [encE]
  have HX := Lib.hid ((HX.out.next hb6).next (bel1 w6 (.cells #[.int .i64 e.id, .int .i64 e.ph, .int .i64 e.qu, .int .i64 e.t, .int .i64 e.bal, .int .i64 e.abal, .int .i64 e.seen, .int .i64 e.age, .string e.pay, .slice e.A e.z.size e.c] 25)))
  have HQ := Lib.hid (belAlloc (belStep HQ.out hb6) (.cells #[.int .i64 e.id, .int .i64 e.ph, .int .i64 e.qu, .int .i64 e.t, .int .i64 e.bal, .int .i64 e.abal, .int .i64 e.seen, .int .i64 e.age, .string e.pay, .slice e.A e.z.size e.c] 25))
  have HY := Lib.hid (BoxW.init w6 #[.int .i64 e.id, .int .i64 e.ph, .int .i64 e.qu, .int .i64 e.t, .int .i64 e.bal, .int .i64 e.abal, .int .i64 e.seen, .int .i64 e.age, .string e.pay, .slice e.A e.z.size e.c] 25)
  have HP := Lib.hid (tPut_any A4 c4 m e (w6.alloc (.cells #[.int .i64 e.id, .int .i64 e.ph, .int .i64 e.qu, .int .i64 e.t, .int .i64 e.bal, .int .i64 e.abal, .int .i64 e.seen, .int .i64 e.age, .string e.pay, .slice e.A e.z.size e.c] 25)) (HM.out _ HQ.out) (HR.out.below HX.out.b))
  clear hb6 hr HF y0 y1 y2 y3 y4 y5 y6 y7 y8 y9
  have y0 := HX.out.at_ 0
  have y1 := HX.out.at_ 1
  have y2 := HX.out.at_ 2
  have y3 := HX.out.at_ 3
  have y4 := HX.out.at_ 4
  have y5 := HX.out.at_ 5
  have y6 := HX.out.at_ 6
  have y7 := HX.out.at_ 7
  have y8 := HX.out.at_ 8
  have y9 := HX.out.at_ 9
  simp only [encE] at HP
  go_wp2_with fail
  refine HP.out.mono ?_
  rintro _ w7 ⟨⟨A7, c7, rfl, h7⟩, hb7⟩
  rw [HOK.out.1.again.1, HOK.out.1.again.2]
  rw [HOK.out.1.again.2] at h7
  have HX := Lib.hid (HX.out.next hb7)
  have HY := Lib.hid (HY.out.next hb7)
  have HQ := Lib.hid (belStep HQ.out hb7)
  have H7 := Lib.hid h7
  have HC := Lib.hid (rSame20_any e e w7 (HR.out.below HX.out.b).zero (HR.out.below HX.out.b).zero (by have := HR.out.sz; omega) (by have := HR.out.sz; omega))
  rw [decide_eq_true (sameP_refl e)] at HC
  clear hb7 h7 HP y0 y1 y2 y3 y4 y5 y6 y7 y8 y9
  have y0 := HX.out.at_ 0
  have y1 := HX.out.at_ 1
  have y2 := HX.out.at_ 2
  have y3 := HX.out.at_ 3
  have y4 := HX.out.at_ 4
  have y5 := HX.out.at_ 5
  have y6 := HX.out.at_ 6
  have y7 := HX.out.at_ 7
  have y8 := HX.out.at_ 8
  have y9 := HX.out.at_ 9
  have u0 := HY.out.at_ 0
  have u1 := HY.out.at_ 1
  have u2 := HY.out.at_ 2
  have u3 := HY.out.at_ 3
  have u4 := HY.out.at_ 4
  have u5 := HY.out.at_ 5
  have u6 := HY.out.at_ 6
  have u7 := HY.out.at_ 7
  have u8 := HY.out.at_ 8
  have u9 := HY.out.at_ 9
  simp only [encE] at HC
  go_wp2_with fail
  refine HC.out.mono ?_
  rintro _ w8 ⟨rfl, hb8⟩
  have HX := Lib.hid (HX.out.next hb8)
  have HQ := Lib.hid (belStep HQ.out hb8)
  have HC := Lib.hid (rSame21_any A7 A4 c7 c4 m m w8 (H7.out.below hb8) (HM.out _ HQ.out))
  rw [sameT_self] at HC
  clear hb8 y0 y1 y2 y3 y4 y5 y6 y7 y8 y9 u0 u1 u2 u3 u4 u5 u6 u7 u8 u9
  go_wp2_with fail
  refine HC.out.mono ?_
  rintro _ wa ⟨rfl, hba⟩
  have HX := Lib.hid (HX.out.next hba)
  have HQ := Lib.hid (belStep HQ.out hba)
  clear hba HC HY H7 H3
  go_wp2
  go_loopw [12, 13] (fun nn i wr => ∃ k : Nat, i = .int .i64 k ∧ nn = .int .i64 (cntO z e.id k : Nat) ∧ k ≤ z.size ∧ Hid (BoxW w #[.int .i64 e.id, .int .i64 e.ph, .int .i64 e.qu, .int .i64 e.t, .int .i64 e.bal, .int .i64 e.abal, .int .i64 e.seen, .int .i64 e.age, .string e.pay, .slice e.A e.z.size e.c] wr) ∧ Hid (Below w4.heap.size w4 wr)) (fun _ i _ => z.size - (intOf i).toNat)
  case atStart => exact ⟨0, rfl, rfl, Nat.zero_le _, HX, HQ⟩
  case round =>
    obtain ⟨k, rfl, rfl, hk, HX, HQ⟩ := hrel
    have hcl := cntO_le z e.id k
    by_cases hlt : k < z.size
    · have kz : (k : Int) < (z.size : Int) := by omega
      have HCS := Lib.hid (cntO_succ (n := e.id) hlt)
      have HST := Lib.hid (HOK.out.1.stay k hlt)
      obtain ⟨b, off, rfl, hbl, f⟩ := (HT.out.below HX.out.b).rd.at_ (i := k) hlt
      have HRX := Lib.hid (fun W (hb : Below w.heap.size w W) => (HT.out.below hb).el k hlt)
      have HF : Hid (∀ W, Below w.heap.size w W → ∀ j, j < 10 → b < W.heap.size ∧ W.cell? ⟨b, off + k * 10 + j, none⟩ = some (encE z[k]!)[j]!) := fun W hb j hj => by
        obtain ⟨b', off', e', hl, f'⟩ := (HT.out.below hb).rd.at_ (i := k) hlt
        injection e' with e'
        injection e' with ea eo
        subst ea eo
        exact ⟨hl, f' j hj⟩
      clear f
      obtain ⟨x, hx⟩ : ∃ x, z[k]! = x := ⟨_, rfl⟩
      rw [hx] at HF HCS HST HRX
      clear hx
      simp only [encE] at HF
      have r0 := fun p : ExtW wr => (HF.out p.to (belStep HX.out.b p.h) 0 (by decide)).2
      have b0 := fun p : ExtW wr => p.cell (a := ⟨w.heap.size, 0, none⟩) HX.out.lt (HX.out.at_ 0)
      simp only [Nat.add_zero, List.getElem!_cons_zero] at r0
      obtain ⟨q, hq⟩ : ∃ q, (x.id == e.id) = q := ⟨_, rfl⟩
      cases q
      all_goals
        go_wp2_with fail
        refine wp_region_ext (by kernel_rfl) (by kernel_rfl) ?_
        repeat (first | go_big_quiet_step (fail) | quiet_step (fail))
        refine wpQuiet_nil ?_
        intro V hw'
        obtain ⟨⟨W, hbW⟩, hw''⟩ := hw'
        have hw3 : V = W := hw''
        subst hw3
        have HX := Lib.hid (HX.out.next hbW)
        have HQ := Lib.hid (belStep HQ.out hbW)
        clear hbW hw'' r0 b0
      rotate_left
      · have he : x.id = e.id := by simpa using hq
        rw [if_pos he] at HCS
        clear he
        go_wp2
        go_roundw
        case rel => exact ⟨k + 1, by go_num, by rw [HCS.out], by omega, HX, HQ⟩
        case measure => simp [intOf]; omega
      · have he : x.id ≠ e.id := by simpa using hq
        rw [if_neg he] at HCS
        have HFU := Lib.hid (HST.out he)
        have HG := Lib.hid (tFind_any A4 c4 m x.id V (HM.out _ HQ.out).zero (by omega))
        have r0 := (HF.out V HX.out.b 0 (by decide)).2
        simp only [Nat.add_zero, List.getElem!_cons_zero] at r0
        clear he
        go_wp2_with fail
        refine HG.out.mono ?_
        rintro _ v5 ⟨⟨r, rfl, hr⟩, hb5⟩
        obtain rfl := hr.uniq HFU.out
        simp only [encE]
        have HX := Lib.hid ((HX.out.next hb5).next (bel1 v5 (.cells #[.int .i64 x.id, .int .i64 x.ph, .int .i64 x.qu, .int .i64 x.t, .int .i64 x.bal, .int .i64 x.abal, .int .i64 x.seen, .int .i64 x.age, .string x.pay, .slice x.A x.z.size x.c] 25)))
        have HQ := Lib.hid (belAlloc (belStep HQ.out hb5) (.cells #[.int .i64 x.id, .int .i64 x.ph, .int .i64 x.qu, .int .i64 x.t, .int .i64 x.bal, .int .i64 x.abal, .int .i64 x.seen, .int .i64 x.age, .string x.pay, .slice x.A x.z.size x.c] 25))
        have HY := Lib.hid (BoxW.init v5 #[.int .i64 x.id, .int .i64 x.ph, .int .i64 x.qu, .int .i64 x.t, .int .i64 x.bal, .int .i64 x.abal, .int .i64 x.seen, .int .i64 x.age, .string x.pay, .slice x.A x.z.size x.c] 25)
        clear hb5 hr HG r0
        go_wp2_with fail
        generalize v5.alloc (.cells #[.int .i64 x.id, .int .i64 x.ph, .int .i64 x.qu, .int .i64 x.t, .int .i64 x.bal, .int .i64 x.abal, .int .i64 x.seen, .int .i64 x.age, .string x.pay, .slice x.A x.z.size x.c] 25) = v6 at HX HQ HY ⊢
        have HC := Lib.hid (fun p : ExtW v6 => rSame20_any x x p.to (HRX.out _ (belStep HX.out.b p.h)).zero (HRX.out _ (belStep HX.out.b p.h)).zero (by have := (HRX.out _ HX.out.b).sz; omega) (by have := (HRX.out _ HX.out.b).sz; omega))
        rw [decide_eq_true (sameP_refl x)] at HC
        simp only [encE] at HC
        have u0 := fun p : ExtW v6 => p.cell (a := ⟨v5.heap.size, 0, none⟩) HY.out.lt (HY.out.at_ 0)
        have u1 := fun p : ExtW v6 => p.cell (a := ⟨v5.heap.size, 1, none⟩) HY.out.lt (HY.out.at_ 1)
        have u2 := fun p : ExtW v6 => p.cell (a := ⟨v5.heap.size, 2, none⟩) HY.out.lt (HY.out.at_ 2)
        have u3 := fun p : ExtW v6 => p.cell (a := ⟨v5.heap.size, 3, none⟩) HY.out.lt (HY.out.at_ 3)
        have u4 := fun p : ExtW v6 => p.cell (a := ⟨v5.heap.size, 4, none⟩) HY.out.lt (HY.out.at_ 4)
        have u5 := fun p : ExtW v6 => p.cell (a := ⟨v5.heap.size, 5, none⟩) HY.out.lt (HY.out.at_ 5)
        have u6 := fun p : ExtW v6 => p.cell (a := ⟨v5.heap.size, 6, none⟩) HY.out.lt (HY.out.at_ 6)
        have u7 := fun p : ExtW v6 => p.cell (a := ⟨v5.heap.size, 7, none⟩) HY.out.lt (HY.out.at_ 7)
        have u8 := fun p : ExtW v6 => p.cell (a := ⟨v5.heap.size, 8, none⟩) HY.out.lt (HY.out.at_ 8)
        have u9 := fun p : ExtW v6 => p.cell (a := ⟨v5.heap.size, 9, none⟩) HY.out.lt (HY.out.at_ 9)
        have r0 := fun p : ExtW v6 => (HF.out p.to (belStep HX.out.b p.h) 0 (by decide)).2
        have r1 := fun p : ExtW v6 => (HF.out p.to (belStep HX.out.b p.h) 1 (by decide)).2
        have r2 := fun p : ExtW v6 => (HF.out p.to (belStep HX.out.b p.h) 2 (by decide)).2
        have r3 := fun p : ExtW v6 => (HF.out p.to (belStep HX.out.b p.h) 3 (by decide)).2
        have r4 := fun p : ExtW v6 => (HF.out p.to (belStep HX.out.b p.h) 4 (by decide)).2
        have r5 := fun p : ExtW v6 => (HF.out p.to (belStep HX.out.b p.h) 5 (by decide)).2
        have r6 := fun p : ExtW v6 => (HF.out p.to (belStep HX.out.b p.h) 6 (by decide)).2
        have r7 := fun p : ExtW v6 => (HF.out p.to (belStep HX.out.b p.h) 7 (by decide)).2
        have r8 := fun p : ExtW v6 => (HF.out p.to (belStep HX.out.b p.h) 8 (by decide)).2
        have r9 := fun p : ExtW v6 => (HF.out p.to (belStep HX.out.b p.h) 9 (by decide)).2
        simp only [Nat.add_zero, List.getElem!_cons_zero, List.getElem!_cons_succ] at r0 r1 r2 r3 r4 r5 r6 r7 r8 r9
        refine wp_region_ext (by kernel_rfl) (by kernel_rfl) ?_
        repeat (first | go_big_quiet_step ((go_at_call 16; exact Calls.ext_of (HC.out _))) | quiet_step (fail))
        refine wpQuiet_nil ?_
        intro V2 hw'
        obtain ⟨⟨W, hbW⟩, hw''⟩ := hw'
        have hw3 : V2 = W := hw''
        subst hw3
        have HX := Lib.hid (HX.out.next hbW)
        have HQ := Lib.hid (belStep HQ.out hbW)
        clear hbW hw'' r0 r1 r2 r3 r4 r5 r6 r7 r8 r9 u0 u1 u2 u3 u4 u5 u6 u7 u8 u9
        go_wp2
        go_roundw
        case rel => exact ⟨k + 1, by go_num, by rw [HCS.out]; go_num, by omega, HX, HQ⟩
        case measure => simp [intOf]; omega
    · have hlt' : decide ((k : Int) < (z.size : Int)) = false := by simp; omega
      have hkd : k = z.size := by omega
      subst hkd
      have hcn := HOK.out.1.cnt
      rw [hcn]
      go_wp2_with fail
      refine (aw21_any _).mono ?_
      rintro _ w9 ⟨rfl, hb9⟩
      have HB9 := Lib.hid (belStep (Lib.hid HX.out.b).out hb9)
      clear hb9
      go_wp2
      go_ret
      exact ⟨rfl, HB9.out⟩

set_option maxRecDepth 100000 in
theorem lifted (os : Os) (started : os.Started) (H : Type) (enc : TypeId × Value → H) :
    ReturnsInHanded {} Try.checked os 4 .any (Rows.tableOneSpec.pre6 enc Try.prog Try.f4 Rows.tableOneRow.domain false) (Rows.tableOneSpec.post enc Try.prog Try.f4 false true false false) := by
  refine returnsInHanded_of_change_sized (C := Try.checked) own started (by kernel_rfl) Try.func4
    (ChangeSpec.witness6 (enc := enc) (C := Try.checked) false ⟨#[], #[.slice none 0 0, .agg #[.int .i64 0, .int .i64 0, .int .i64 0, .int .i64 0, .int .i64 0, .int .i64 0, .int .i64 0, .int .i64 0, .string ⟨#[]⟩, .slice none 0 0]], []⟩ 8 (by kernel_rfl) (by kernel_rfl) (by kernel_rfl) (by kernel_rfl)) ?_
  intro W base args ds gs before hval0 hW _ _ _
  have hval : ∀ (j : Nat) t v, Try.f4.params[j]? = some t → args[j]? = some v → Value.okWide Try.prog W .any base t v := hval0
  have hW' := hW
  obtain ⟨p, q, hA0, hV, rfl, _, _⟩ := hW
  have hA : DataW.TrodAll enc Try.prog W 0 (fun _ => true) true Try.f4.params.toList args.toList ds p := hA0
  rw [Try.params4] at hA hval
  obtain ⟨v0, v1, d0, d1, p0, p1, rfl, rfl, rfl, h0, h1⟩ := trodAll_two hA
  obtain ⟨rfl, rfl⟩ := trodVars_none hV
  obtain ⟨A0, c0, z0, rfl, r0, n0⟩ := open_ents (hval 0 22 v0 rfl rfl) h0
  obtain ⟨e1, rfl, r1⟩ := open_ent (hval 1 25 v1 rfl rfl) h1
  refine (walk A0 c0 z0 e1 W r0 n0 r1).mono fun e W' ⟨he, hb⟩ => ?_
  subst he
  exact ⟨_, rfl, law_post (tb := 4) laidOut (by decide +kernel) rfl hW' rfl rfl rfl rfl Try.underlying4 hb⟩

theorem over : Rows.tableOneRow.holds Try.pinned (OpenSpec.ofChange Rows.tableOneSpec) :=
  OpenClaim.holds_of_wide 4 Try.f4 rfl rfl rfl rfl rfl rfl rfl ⟨rfl, rfl, rfl, rfl, rfl⟩ rfl rfl rfl rfl rfl (by kernel_rfl) Try.func4 (by kernel_rfl)
    (of_decide_eq_true (by kernel_rfl)) (by unfold Func.isWrapper; first | (rw [if_pos (by decide +kernel)]; kernel_rfl) | (rw [if_neg (by decide +kernel)]; exact ⟨rfl, rfl⟩))
    (fun os started H enc _ => lifted os started H enc)
theorem proved : Rows.TableOneSaid := over
#print axioms proved
end Go.Proofs.Ytgpejfkmdenonaa.tableOne
