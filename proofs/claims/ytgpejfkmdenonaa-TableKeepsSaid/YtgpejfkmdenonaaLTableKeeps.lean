/- The law TableKeeps returns true for every input, and changes nothing that lay there. No condition. -/
import Derived.Test.YtgpejfkmdenonaaTbI
import Derived.Test.YtgpejfkmdenonaaOpenN
import Derived.Test.YtgpejfkmdenonaaTbQ
namespace Go.Proofs.Ytgpejfkmdenonaa.tableKeeps
open Go.ChangeShapes Go.WideShapes Go.ChangeAt Go.RowKit Go.Deep Go.Sort
set_option maxRecDepth 100000
theorem any_mem {d : Array Int} {x : Int} (h : x ∈ d.toList) : ∃ j, j < d.size ∧ d[j]! = x := by
  obtain ⟨j, hj, e⟩ := List.getElem_of_mem h
  have hj' : j < d.size := by simpa using hj
  exact ⟨j, hj', by rw [getElem!_pos d j hj', ← e]; simp⟩
set_option maxHeartbeats 64000000 in
theorem walk (A : Option Addr) (c : Nat) (z : Array EN) (e : EN) (n : Int) (w : World) (r0 : RdT0 w A z) (r1 : RdE0 w e) :
    Calls Try.prog 5 #[.slice A z.size c, .agg (encE e).toArray, .int .i64 n] w fun r w' => r = .returned (.bool true) ∧ Below w.heap.size w w' := by
  have HL := Lib.hid (fun W (hb : Below w.heap.size w W) => few21_any A c z W (r0.below hb))
  have HE := Lib.hid (fun W => few20_any e W)
  have HX := Lib.hid (BoxW.init w (encE e).toArray 25)
  obtain ⟨g1, hg1⟩ : ∃ g, fewT z = g := ⟨_, rfl⟩
  obtain ⟨g2, hg2⟩ : ∃ g, decide (fewP e) = g := ⟨_, rfl⟩
  obtain ⟨g3, hg3⟩ : ∃ g, chkT z = g := ⟨_, rfl⟩
  rw [hg1] at HL
  rw [hg2] at HE
  have HG1 := Lib.hid hg1
  have HG2 := Lib.hid hg2
  have HG3 := Lib.hid hg3
  have R0 := Lib.hid r0
  have R1 := Lib.hid r1
  clear hg1 hg2 r0 r1
  simp only [encE] at HX HE ⊢
  cases g1
  · go_enter Try.func5, Try.ntmps5
    go_wp2_with fail
    refine (HL.out _ HX.out.b).mono ?_
    rintro _ w1 ⟨rfl, hb1⟩
    have HX := Lib.hid (HX.out.next hb1)
    clear hb1
    go_wp2_with fail
    refine (aw21_any _).mono ?_
    rintro _ w9 ⟨rfl, hb9⟩
    have HB9 := Lib.hid (belStep (Lib.hid HX.out.b).out hb9)
    clear hb9
    go_wp2
    go_ret
    exact ⟨rfl, HB9.out⟩
  cases g2
  · go_enter Try.func5, Try.ntmps5
    go_wp2_with fail
    refine (HL.out _ HX.out.b).mono ?_
    rintro _ w1 ⟨rfl, hb1⟩
    have HX := Lib.hid (HX.out.next hb1)
    clear hb1
    have y0 := HX.out.at_ 0
    have y1 := HX.out.at_ 1
    have y2 := HX.out.at_ 2
    have y3 := HX.out.at_ 3
    have y4 := HX.out.at_ 4
    have y5 := HX.out.at_ 5
    have y6 := HX.out.at_ 6
    have y7 := HX.out.at_ 7
    have y8 := HX.out.at_ 8
    have y9 := HX.out.at_ 9
    go_wp2_with fail
    refine (HE.out _).mono ?_
    rintro _ w2 ⟨rfl, hb2⟩
    have HX := Lib.hid (HX.out.next hb2)
    clear hb2 y0 y1 y2 y3 y4 y5 y6 y7 y8 y9
    go_wp2_with fail
    refine (aw21_any _).mono ?_
    rintro _ w9 ⟨rfl, hb9⟩
    have HB9 := Lib.hid (belStep (Lib.hid HX.out.b).out hb9)
    clear hb9
    go_wp2
    go_ret
    exact ⟨rfl, HB9.out⟩
  have HT := Lib.hid (R0.out.few HG1.out)
  have HR := Lib.hid (R1.out.few (of_decide_eq_true HG2.out).1 (of_decide_eq_true HG2.out).2)
  have hsz : z.size ≤ 60 := (fewT_iff.1 HG1.out).1
  have HC := Lib.hid (fun W (hb : Below w.heap.size w W) => tCheck_any A c z W (HT.out.below hb))
  have qt := tabE_bool z
  rw [hg3] at qt
  clear hg3
  generalize tabE z = tz at qt HC
  cases g3
  · go_enter Try.func5, Try.ntmps5
    go_wp2_with fail
    refine (HL.out _ HX.out.b).mono ?_
    rintro _ w1 ⟨rfl, hb1⟩
    have HX := Lib.hid (HX.out.next hb1)
    clear hb1
    have y0 := HX.out.at_ 0
    have y1 := HX.out.at_ 1
    have y2 := HX.out.at_ 2
    have y3 := HX.out.at_ 3
    have y4 := HX.out.at_ 4
    have y5 := HX.out.at_ 5
    have y6 := HX.out.at_ 6
    have y7 := HX.out.at_ 7
    have y8 := HX.out.at_ 8
    have y9 := HX.out.at_ 9
    go_wp2_with fail
    refine (HE.out _).mono ?_
    rintro _ w2 ⟨rfl, hb2⟩
    have HX := Lib.hid (HX.out.next hb2)
    clear hb2 y0 y1 y2 y3 y4 y5 y6 y7 y8 y9
    go_wp2_with fail
    refine (HC.out _ HX.out.b).mono ?_
    rintro _ w3 ⟨rfl, hb3⟩
    have HX := Lib.hid (HX.out.next hb3)
    clear hb3
    go_wp2_with fail
    refine (aw21_any _).mono ?_
    rintro _ w9 ⟨rfl, hb9⟩
    have HB9 := Lib.hid (belStep (Lib.hid HX.out.b).out hb9)
    clear hb9
    go_wp2
    go_ret
    exact ⟨rfl, HB9.out⟩
  go_enter Try.func5, Try.ntmps5
  go_wp2_with fail
  refine (HL.out _ HX.out.b).mono ?_
  rintro _ w1 ⟨rfl, hb1⟩
  have HX := Lib.hid (HX.out.next hb1)
  clear hb1
  have y0 := HX.out.at_ 0
  have y1 := HX.out.at_ 1
  have y2 := HX.out.at_ 2
  have y3 := HX.out.at_ 3
  have y4 := HX.out.at_ 4
  have y5 := HX.out.at_ 5
  have y6 := HX.out.at_ 6
  have y7 := HX.out.at_ 7
  have y8 := HX.out.at_ 8
  have y9 := HX.out.at_ 9
  go_wp2_with fail
  refine (HE.out _).mono ?_
  rintro _ w2 ⟨rfl, hb2⟩
  have HX := Lib.hid (HX.out.next hb2)
  clear hb2 y0 y1 y2 y3 y4 y5 y6 y7 y8 y9
  go_wp2_with fail
  refine (HC.out _ HX.out.b).mono ?_
  rintro _ w3 ⟨rfl, hb3⟩
  have HX := Lib.hid (HX.out.next hb3)
  clear hb3
  have y0 := HX.out.at_ 0
  have y1 := HX.out.at_ 1
  have y2 := HX.out.at_ 2
  have y3 := HX.out.at_ 3
  have y4 := HX.out.at_ 4
  have y5 := HX.out.at_ 5
  have y6 := HX.out.at_ 6
  have y7 := HX.out.at_ 7
  have y8 := HX.out.at_ 8
  have y9 := HX.out.at_ 9
  have HP := Lib.hid (tPut_any A c z e w3 (HT.out.below HX.out.b) (HR.out.below HX.out.b))
  simp only [encE] at HP
  go_wp2_with fail
  refine HP.out.mono ?_
  rintro _ w4 ⟨⟨A4, c4, rfl, h4⟩, hb4⟩
  have HX := Lib.hid (HX.out.next hb4)
  have HM := Lib.hid h4
  have HDr := Lib.hid (tDrop_any A c z n w4 (HT.out.below HX.out.b))
  clear hb4 h4 HP qt y0 y1 y2 y3 y4 y5 y6 y7 y8 y9
  go_wp2_with fail
  refine HDr.out.mono ?_
  rintro _ w5 ⟨A5, c5, rfl, h5, hb5⟩
  have HX := Lib.hid (HX.out.next hb5)
  have HM := Lib.hid (HM.out.below hb5)
  have HD := Lib.hid (fun W (hb : Below w5.heap.size w5 W) => h5.below hb)
  have HQ : Hid (Below w5.heap.size w5 w5) := Below.refl _ _
  have HKO := Lib.hid (keep_ok (n := n) HG3.out)
  have htk : tabE (keepT n z) = 0 := by unfold tabE; rw [if_pos HKO.out]
  have hks : (keepT n z).size ≤ 60 := by have := keepT_size n z; omega
  clear hb5 h5 HDr
  have HCm := Lib.hid (tCheck_any A4 c4 (putD z e) w5 HM.out)
  have HPO := Lib.hid (fun h => put_ok (z := z) (e := e) h)
  have HJ : Hid (∀ W, BoxW w #[.int .i64 e.id, .int .i64 e.ph, .int .i64 e.qu, .int .i64 e.t, .int .i64 e.bal, .int .i64 e.abal, .int .i64 e.seen, .int .i64 e.age, .string e.pay, .slice e.A e.z.size e.c] W → Below w5.heap.size w5 W → Calls Try.prog 13 #[.slice A5 (keepT n z).size c5] W fun e w' => e = .returned (.int .i64 0) ∧ Below W.heap.size W w') := fun W _ hb => by
    have := tCheck_any A5 c5 (keepT n z) W (HD.out W hb)
    rwa [htk] at this
  clear htk
  go_upto_region 5 with fail
  go_cut [51] from 40 to 51 (fun v wx => v = .bool false ∧ BoxW w #[.int .i64 e.id, .int .i64 e.ph, .int .i64 e.qu, .int .i64 e.t, .int .i64 e.bal, .int .i64 e.abal, .int .i64 e.seen, .int .i64 e.age, .string e.pay, .slice e.A e.z.size e.c] wx ∧ Below w5.heap.size w5 wx)
  case first =>
    by_cases hc : putC z e = 0
    · have hc' : (putC z e == 0) = true := by simpa using hc
      have htm : tabE (putD z e) = 0 := by unfold tabE; rw [if_pos (HPO.out hc).2]
      rw [htm] at HCm
      clear hc htm
      go_wp2_with fail
      refine HCm.out.mono ?_
      rintro _ w6 ⟨rfl, hb6⟩
      have HX := Lib.hid (HX.out.next hb6)
      have HQ := Lib.hid (belStep HQ.out hb6)
      clear hb6
      go_wp2_with fail
      refine (HJ.out _ HX.out HQ.out).mono ?_
      rintro _ w7 ⟨rfl, hb7⟩
      have HX := Lib.hid (HX.out.next hb7)
      have HQ := Lib.hid (belStep HQ.out hb7)
      clear hb7
      go_wp2
      go_meet
      exact ⟨rfl, HX.out, HQ.out⟩
    · have hc' : (putC z e == 0) = false := by simpa using hc
      clear hc
      go_wp2_with fail
      refine (HJ.out _ HX.out HQ.out).mono ?_
      rintro _ w7 ⟨rfl, hb7⟩
      have HX := Lib.hid (HX.out.next hb7)
      have HQ := Lib.hid (belStep HQ.out hb7)
      clear hb7
      go_wp2
      go_meet
      exact ⟨rfl, HX.out, HQ.out⟩
  case rest =>
    obtain ⟨rfl, hX, hQ⟩ := hcut
    have HX := Lib.hid hX
    have HQ := Lib.hid hQ
    clear hX hQ HJ HCm HPO HM
    have HU := Lib.hid (tDue_any A c z n wc (HT.out.below HX.out.b).rd (by omega))
    go_wp2_with fail
    refine HU.out.mono ?_
    rintro _ w8 ⟨⟨A8, c8, rfl, h8⟩, hb8⟩
    have HX := Lib.hid (HX.out.next hb8)
    have HQ := Lib.hid (belStep HQ.out hb8)
    have HV := Lib.hid (tSetl_any A c z w8 (HT.out.below HX.out.b).rd (by omega))
    clear hb8 HU
    go_wp2_with fail
    refine HV.out.mono ?_
    rintro _ w9 ⟨⟨A9, c9, rfl, h9⟩, hb9⟩
    have HX := Lib.hid (HX.out.next hb9)
    have HQ := Lib.hid (belStep HQ.out hb9)
    have H8 := Lib.hid (fun W (hb : Below w9.heap.size w9 W) => ((h8.below hb9).mono hb9.size).below hb |>.mono hb.size)
    have H9 := Lib.hid (fun W (hb : Below w9.heap.size w9 W) => ((rdJ_T h9).below hb).mono hb.size)
    have HZ : Hid (Below w9.heap.size w9 w9) := Below.refl _ _
    have HAT := Lib.hid (fun i => due_at (n := n) HG3.out (i := i))
    have HOS := Lib.hid (open_setl HG3.out)
    have hds : (dueT n z).size ≤ 60 := by rw [dueT_size]; have := fmT_size (dueB n) (fun x : EN => (x.t, x.id)) z; omega
    have hss : (fmT (fun x => setlB x.ph) EN.id z).size ≤ 60 := by have := fmT_size (fun x => setlB x.ph) EN.id z; omega
    have HDK := Lib.hid (due_keep (z := z) (n := n))
    clear hb9 h8 h9 HV
    generalize fmT (fun x => setlB x.ph) EN.id z = st at H9 HAT HOS hss ⊢
    go_wp2
    go_loopw [12] (fun i wr => ∃ k : Nat, i = .int .i64 k ∧ k ≤ (dueT n z).size ∧ Hid (BoxW w #[.int .i64 e.id, .int .i64 e.ph, .int .i64 e.qu, .int .i64 e.t, .int .i64 e.bal, .int .i64 e.abal, .int .i64 e.seen, .int .i64 e.age, .string e.pay, .slice e.A e.z.size e.c] wr) ∧ Hid (Below w5.heap.size w5 wr) ∧ Hid (Below w9.heap.size w9 wr)) (fun i _ => (dueT n z).size - (intOf i).toNat)
    case atStart => exact ⟨0, rfl, Nat.zero_le _, HX, HQ, HZ⟩
    case round =>
      obtain ⟨k, rfl, hk, HX, HQ, HZ⟩ := hrel
      by_cases hlt : k < (dueT n z).size
      · have kz : (k : Int) < ((dueT n z).size : Int) := by omega
        have hat := HAT.out k hlt
        obtain ⟨b8, o8, e8, hl8, f8⟩ := (H8.out _ HZ.out).at_ (i := k) hlt
        subst e8
        have HF8 : Hid (∀ W, Below w9.heap.size w9 W → W.cell? ⟨b8, o8 + k * 2, none⟩ = some (.int .i64 (dueT n z)[k]!.1) ∧ W.cell? ⟨b8, o8 + k * 2 + 1, none⟩ = some (.int .i64 (dueT n z)[k]!.2) ∧ b8 < W.heap.size) := fun W hb => by
          obtain ⟨b', o', e', hl, f'⟩ := (H8.out W hb).at_ (i := k) hlt
          injection e' with e'
          injection e' with ea eo
          subst ea eo
          have g0 := f' 0 (by decide)
          have g1 := f' 1 (by decide)
          simp only [encA_I, Nat.add_zero, List.getElem!_cons_zero, List.getElem!_cons_succ] at g0 g1
          exact ⟨g0, g1, hl⟩
        obtain ⟨⟨ut, ui⟩, hu⟩ : ∃ u, (dueT n z)[k]! = u := ⟨_, rfl⟩
        rw [hu] at HF8 hat
        simp only [] at HF8 hat
        have HAT1 := Lib.hid hat
        clear hat hu f8
        go_wp2
        go_loopw [13, 14] (fun iv i wr => ∃ (m : Nat) (b : Bool), i = .int .i64 m ∧ iv = .bool b ∧ m ≤ st.size ∧ Hid (b = decide (∃ j, j < m ∧ st[j]! = ui)) ∧ Hid (BoxW w #[.int .i64 e.id, .int .i64 e.ph, .int .i64 e.qu, .int .i64 e.t, .int .i64 e.bal, .int .i64 e.abal, .int .i64 e.seen, .int .i64 e.age, .string e.pay, .slice e.A e.z.size e.c] wr) ∧ Hid (Below w5.heap.size w5 wr) ∧ Hid (Below w9.heap.size w9 wr)) (fun _ i _ => st.size - (intOf i).toNat)
        case atStart => exact ⟨0, false, rfl, rfl, Nat.zero_le _, (by show _ = _; symm; rw [decide_eq_false_iff_not]; rintro ⟨j, hj, _⟩; omega), HX, HQ, HZ⟩
        case round =>
          obtain ⟨m, b, rfl, rfl, hm, HBE, HX, HQ, HZ⟩ := hrel
          by_cases hlm : m < st.size
          · have mz : (m : Int) < (st.size : Int) := by omega
            obtain ⟨b9, o9, e9, hl9, f9⟩ := (H9.out _ HZ.out).at_ (i := m) hlm
            subst e9
            have HN1 : Hid (decide (∃ j, j < m + 1 ∧ st[j]! = ui) = (b || (st[m]! == ui))) := by
              show _ = _
              rw [HBE.out]
              by_cases h1 : ∃ j, j < m ∧ st[j]! = ui
              · rw [decide_eq_true h1, Bool.true_or, decide_eq_true_eq]
                obtain ⟨j, hj, hje⟩ := h1
                exact ⟨j, by omega, hje⟩
              · rw [decide_eq_false h1, Bool.false_or]
                by_cases h2 : st[m]! = ui
                · rw [show (st[m]! == ui) = true by simpa using h2, decide_eq_true_eq]
                  exact ⟨m, by omega, h2⟩
                · rw [show (st[m]! == ui) = false by simpa using h2, decide_eq_false_iff_not]
                  rintro ⟨j, hj, hje⟩
                  rcases Nat.lt_or_ge j m with h | h
                  · exact h1 ⟨j, h, hje⟩
                  · obtain rfl : j = m := by omega
                    exact h2 hje
            generalize st[m]! = sm at f9 HN1
            have p9 := fun p : ExtW wr => p.cell (a := ⟨b9, o9 + m, none⟩) hl9 f9
            have p8 := fun p : ExtW wr => (HF8.out p.to (HZ.out.trans (p.h.mono HZ.out.size))).2.1
            cases b
            all_goals
              go_wp2_with fail
              refine wp_region_ext (by kernel_rfl) (by kernel_rfl) ?_
              repeat (first | go_big_quiet_step (fail) | quiet_step (fail))
              refine wpQuiet_nil ?_
              intro V hw'
              obtain ⟨⟨W, hbW⟩, hw''⟩ := hw'
              have hw3 : V = W := hw''
              subst hw3
              have HX := Lib.hid (HX.out.next hbW)
              have HQ := Lib.hid (belStep HQ.out hbW)
              have HZ := Lib.hid (belStep HZ.out hbW)
              clear hbW hw'' p8 p9
              go_wp2
              go_roundw
              case rel => exact ⟨m + 1, _, by go_num, rfl, by omega, (by show _ = _; rw [HN1.out]; simp), HX, HQ, HZ⟩
              case measure => simp [intOf]; omega
          · have hlm' : decide ((m : Int) < (st.size : Int)) = false := by simp; omega
            have hb : b = true := by
              rw [HBE.out, decide_eq_true_eq]
              obtain ⟨j, hj, e⟩ := any_mem HAT1.out.2.1
              exact ⟨j, by omega, e⟩
            subst hb
            obtain ⟨x, hfx⟩ := HAT1.out.2.2
            have HFX := Lib.hid hfx
            have hle : decide (n < ut) = false := by have := HAT1.out.1; simp; omega
            have HG := Lib.hid (tFind_any A5 c5 (keepT n z) ui wr (HD.out _ HQ.out).zero (by omega))
            have k1 := (HF8.out wr HZ.out).2.1
            clear hfx
            go_wp2_with fail
            refine HG.out.mono ?_
            rintro _ v5 ⟨⟨r, rfl, hr⟩, hb5⟩
            obtain rfl := hr.uniq HFX.out
            simp only [encE]
            have HX := Lib.hid ((HX.out.next hb5).next (bel1 v5 (.cells #[.int .i64 x.id, .int .i64 x.ph, .int .i64 x.qu, .int .i64 x.t, .int .i64 x.bal, .int .i64 x.abal, .int .i64 x.seen, .int .i64 x.age, .string x.pay, .slice x.A x.z.size x.c] 25)))
            have HQ := Lib.hid (belAlloc (belStep HQ.out hb5) (.cells #[.int .i64 x.id, .int .i64 x.ph, .int .i64 x.qu, .int .i64 x.t, .int .i64 x.bal, .int .i64 x.abal, .int .i64 x.seen, .int .i64 x.age, .string x.pay, .slice x.A x.z.size x.c] 25))
            have HZ := Lib.hid (belAlloc (belStep HZ.out hb5) (.cells #[.int .i64 x.id, .int .i64 x.ph, .int .i64 x.qu, .int .i64 x.t, .int .i64 x.bal, .int .i64 x.abal, .int .i64 x.seen, .int .i64 x.age, .string x.pay, .slice x.A x.z.size x.c] 25))
            have k0 := (HF8.out _ HZ.out).1
            clear hb5 hr HG k1
            go_wp2
            go_roundw
            case rel => exact ⟨k + 1, by go_num, by omega, HX, HQ, HZ⟩
            case measure => simp [intOf]; omega
      · have hlt' : decide ((k : Int) < ((dueT n z).size : Int)) = false := by simp; omega
        have HO := Lib.hid (tOpen_any A c z wr (HT.out.below HX.out.b).rd (by omega))
        have hos := HOS.out
        generalize fmT (fun x => openB x.ph) EN.id z = ot at HO hos
        go_wp2_with fail
        refine HO.out.mono ?_
        rintro _ v1 ⟨⟨B1, d1, rfl, _⟩, hb1⟩
        have HX := Lib.hid (HX.out.next hb1)
        have HQ := Lib.hid (belStep HQ.out hb1)
        have HZ := Lib.hid (belStep HZ.out hb1)
        have hoz : (ot.size : Int) + (st.size : Int) = (z.size : Int) := by omega
        have hoe : ((ot.size : Int) + (st.size : Int) == (z.size : Int)) = true := by simpa using hoz
        have HU := Lib.hid (tDue_any A5 c5 (keepT n z) n v1 (HD.out _ HQ.out).rd (by omega))
        rw [HDK.out] at HU
        clear hb1 HO hoz
        go_wp2_with fail
        refine HU.out.mono ?_
        rintro _ v2 ⟨⟨B2, d2, rfl, h2⟩, hb2⟩
        have HX := Lib.hid (HX.out.next hb2)
        have HZ := Lib.hid (belStep HZ.out hb2)
        have HS := Lib.hid (SameAtts_any_I B2 A8 d2 c8 (dueT n z) (dueT n z) v2.heap.size v2 h2 (H8.out _ HZ.out) (by omega) (by omega))
        clear hb2 h2 HU
        go_wp2_with fail
        refine HS.out.mono ?_
        rintro _ v3 ⟨rfl, q, hw⟩
        have HX := Lib.hid (HX.out.next (show Below v2.heap.size v2 v3 by rw [hw]; exact belDrewN (Below.refl _ _) q))
        clear hw HS
        go_wp2_with fail
        refine (aw21_any _).mono ?_
        rintro _ w9 ⟨rfl, hb9⟩
        have HB9 := Lib.hid (belStep (Lib.hid HX.out.b).out hb9)
        clear hb9
        go_wp2
        go_ret
        exact ⟨rfl, HB9.out⟩

set_option maxRecDepth 100000 in
theorem lifted (os : Os) (started : os.Started) (H : Type) (enc : TypeId × Value → H) :
    ReturnsInHanded {} Try.checked os 5 .any (Rows.tableKeepsSpec.pre6 enc Try.prog Try.f5 Rows.tableKeepsRow.domain false) (Rows.tableKeepsSpec.post enc Try.prog Try.f5 false true false false) := by
  refine returnsInHanded_of_change_sized (C := Try.checked) own started (by kernel_rfl) Try.func5
    (ChangeSpec.witness6 (enc := enc) (C := Try.checked) false ⟨#[], #[.slice none 0 0, .agg #[.int .i64 0, .int .i64 0, .int .i64 0, .int .i64 0, .int .i64 0, .int .i64 0, .int .i64 0, .int .i64 0, .string ⟨#[]⟩, .slice none 0 0], .int .i64 0], []⟩ 8 (by kernel_rfl) (by kernel_rfl) (by kernel_rfl) (by kernel_rfl)) ?_
  intro W base args ds gs before hval0 hW _ _ _
  have hval : ∀ (j : Nat) t v, Try.f5.params[j]? = some t → args[j]? = some v → Value.okWide Try.prog W .any base t v := hval0
  have hW' := hW
  obtain ⟨p, q, hA0, hV, rfl, _, _⟩ := hW
  have hA : DataW.TrodAll enc Try.prog W 0 (fun _ => true) true Try.f5.params.toList args.toList ds p := hA0
  rw [Try.params5] at hA hval
  obtain ⟨v0, v1, v2, d0, d1, d2, p0, p1, p2, rfl, rfl, rfl, h0, h1, h2⟩ := trodAll_three hA
  obtain ⟨rfl, rfl⟩ := trodVars_none hV
  obtain ⟨A0, c0, z0, rfl, r0, n0⟩ := open_ents (hval 0 22 v0 rfl rfl) h0
  obtain ⟨e1, rfl, r1⟩ := open_ent (hval 1 25 v1 rfl rfl) h1
  obtain ⟨a2, rfl, rfl, rfl, w2⟩ := open_int Try.underlying3 (hval 2 3 v2 rfl rfl) h2
  refine (walk A0 c0 z0 e1 a2 W r0 r1).mono fun e W' ⟨he, hb⟩ => ?_
  subst he
  exact ⟨_, rfl, law_post (tb := 4) laidOut (by decide +kernel) rfl hW' rfl rfl rfl rfl Try.underlying4 hb⟩

theorem over : Rows.tableKeepsRow.holds Try.pinned (OpenSpec.ofChange Rows.tableKeepsSpec) :=
  OpenClaim.holds_of_wide 5 Try.f5 rfl rfl rfl rfl rfl rfl rfl ⟨rfl, rfl, rfl, rfl, rfl⟩ rfl rfl rfl rfl rfl (by kernel_rfl) Try.func5 (by kernel_rfl)
    (of_decide_eq_true (by kernel_rfl)) (by unfold Func.isWrapper; first | (rw [if_pos (by decide +kernel)]; kernel_rfl) | (rw [if_neg (by decide +kernel)]; exact ⟨rfl, rfl⟩))
    (fun os started H enc _ => lifted os started H enc)
theorem proved : Rows.TableKeepsSaid := over
#print axioms proved
end Go.Proofs.Ytgpejfkmdenonaa.tableKeeps
