/- May a command be, as the document says: rubatoref20.Check. -/
import Derived.Test.YtgpejfkmdenonaaEnD
import Derived.Deep.CutRange
namespace Go.Proofs.Ytgpejfkmdenonaa
open Go.RowKit Go.Sort Go.Lib
set_option maxRecDepth 100000
theorem selfN_bool (id : Int) : (selfN_I id == 0) = !decide (10 ≤ id ∧ id ≤ 999999 ∧ id % 10 ≠ 0) := by
  unfold selfN_I
  by_cases h : id < 10 ∨ 999999 < id ∨ id % 10 = 0
  · rw [if_pos h, decide_eq_false (by omega)]; rfl
  · rw [if_neg h, decide_eq_true (by omega)]; exact beq_eq_false_iff_ne.2 (by omega)
section
variable (e : EN)
theorem chkEn_iff : chkEn e = true ↔ headP e ∧ numsP e ∧ toldP e ∧ e.z.size ≤ 27 ∧ goodK e.z = true ∧ (5 ≤ e.ph → e.z.size = 0) := by
  unfold chkEn
  simp only [Bool.and_eq_true, decide_eq_true_eq]
  constructor
  · rintro ⟨⟨⟨⟨a, b⟩, c⟩, d, f⟩, g⟩; exact ⟨a, b, c, f, d, g⟩
  · rintro ⟨a, b, c, f, d, g⟩; exact ⟨⟨⟨⟨a, b⟩, c⟩, d, f⟩, g⟩
set_option maxHeartbeats 8000000 in
theorem rCheck_any (w : World) (hr : RdE w e) (hc : e.z.size ≤ e.c) : Calls Try.prog 32 #[.agg (encE e).toArray] w fun r w' => r = .returned (.int .i64 (enE e)) ∧ Below w.heap.size w w' := by
  have HX := Lib.hid (BoxW.init w (encE e).toArray 25)
  have HSP := Lib.hid (fun W => rSplit_any_I e.id W)
  have z0 := selfN_bool e.id
  have HR := Lib.hid hr
  have HC := Lib.hid hc
  have hps : (e.pay.size : Int) ≤ 1000 := by have := hr.pz; omega
  have hzs : (e.z.size : Int) ≤ 100 := by have := hr.sz; omega
  clear hr hc
  by_cases hh : headP e ∧ numsP e ∧ toldP e ∧ e.z.size ≤ 27
  · have HH := Lib.hid hh
    have HE : Hid (enE e = if goodK e.z = true ∧ (5 ≤ e.ph → e.z.size = 0) then 0 else 2) := by
      have hi := chkEn_iff e
      show _ = _
      unfold enE
      by_cases hc : goodK e.z = true ∧ (5 ≤ e.ph → e.z.size = 0)
      · rw [if_pos hc, if_pos (hi.2 ⟨hh.1, hh.2.1, hh.2.2.1, hh.2.2.2, hc⟩)]
      · rw [if_neg hc, if_neg fun h => hc (hi.1 h).2.2.2.2]
    clear hh
    generalize selfN_I e.id = sf at z0 HSP
    simp only [encE] at HX ⊢
    go_enter Try.func32, Try.ntmps32
    go_wp2_with fail
    refine (HSP.out _).mono ?_
    rintro _ _ ⟨rfl, rfl⟩
    generalize w.alloc (.cells #[.int .i64 e.id, .int .i64 e.ph, .int .i64 e.qu, .int .i64 e.t, .int .i64 e.bal, .int .i64 e.abal, .int .i64 e.seen, .int .i64 e.age, .string e.pay, .slice e.A e.z.size e.c] 25) = w0 at HX ⊢
    have c1 := HX.out.at_ 1
    have c2 := HX.out.at_ 2
    have c3 := HX.out.at_ 3
    have c4 := HX.out.at_ 4
    have c5 := HX.out.at_ 5
    have c6 := HX.out.at_ 6
    have c7 := HX.out.at_ 7
    have c8 := HX.out.at_ 8
    have c9 := HX.out.at_ 9
    obtain ⟨⟨d1, d2, d3, d4, d5, d6, d7, d8⟩, ⟨d9, d10, d11, d12, d13, d14, d15, d16, d17, d18⟩, _, d19⟩ := HH.out
    have z0' : (sf == 0) = false := by rw [z0, decide_eq_true ⟨d1, d2, d3⟩]; rfl
    clear z0 d1 d2 d3
    go_upto_region 6 with fail
    go_cut [107] from 96 to 107 (fun v wx => v = .bool false ∧ wx = w0)
    case first =>
      have HT := Lib.hid HH.out.2.2.1
      clear d7 d8 d14 d15 d16 d17 d18 d19 d11 d12
      go_wp2
      all_goals first
        | (go_meet; exact ⟨rfl, rfl⟩)
        | (go_meet; refine ⟨congrArg Value.bool ?_, rfl⟩; have hh := HT.out; clear HX HSP HR HC HH HE HT c1 c2 c3 c4 c5 c6 c7 c8 c9; simp only [toldP] at * <;> grind)
        | (exfalso
           have hh := HT.out
           clear HX HSP HR HC HH HE HT c1 c2 c3 c4 c5 c6 c7 c8 c9
           simp only [toldP] at * <;> grind)
    case rest =>
      obtain ⟨rfl, rfl⟩ := hcut
      go_upto_region 8 with fail
      go_cut [135] from 108 to 135 (fun v wx => v = .bool false ∧ wx = wc)
      case first =>
        have HT := Lib.hid HH.out.2.2.1
        clear d7 d8 d14 d15 d16 d17 d18 d19 d11 d12
        obtain ⟨g1, h1⟩ : ∃ g, (e.abal == 0) = g := ⟨_, rfl⟩
        obtain ⟨g2, h2⟩ : ∃ g, (e.ph == 3) = g := ⟨_, rfl⟩
        obtain ⟨g3, h3⟩ : ∃ g, (e.ph == 4) = g := ⟨_, rfl⟩
        cases g1 <;> cases g2 <;> cases g3
        all_goals go_wp2
        all_goals first
          | (go_meet; exact ⟨rfl, rfl⟩)
          | (go_meet; refine ⟨congrArg Value.bool ?_, rfl⟩; have hh := HT.out; clear HX HSP HR HC HH HE HT c1 c2 c3 c4 c5 c6 c7 c8 c9; simp only [toldP] at * <;> grind)
          | (exfalso
             have hh := HT.out
             clear HX HSP HR HC HH HE HT c1 c2 c3 c4 c5 c6 c7 c8 c9
             simp only [toldP] at * <;> grind)
      case rest =>
        obtain ⟨rfl, rfl⟩ := hcut
        clear c1 c2 c3 c4 c5 c6 c7 c8 c9 d4 d5 d6 d7 d8 d9 d10 d11 d12 d13 d14 d15 d16 d17 d18 d19
        go_wp2
        go_loopw [5] (fun i wr => ∃ k : Nat, i = .int .i64 k ∧ k ≤ e.z.size ∧ Hid (0 < k → e.ph < 5) ∧ Hid (∀ j, j < k → (ackB e.z[j]! && !hadN e.z j e.z[j]!) = true) ∧ Hid (BoxW w #[.int .i64 e.id, .int .i64 e.ph, .int .i64 e.qu, .int .i64 e.t, .int .i64 e.bal, .int .i64 e.abal, .int .i64 e.seen, .int .i64 e.age, .string e.pay, .slice e.A e.z.size e.c] wr)) (fun i _ => e.z.size - (intOf i).toNat)
        case atStart => exact ⟨0, rfl, Nat.zero_le _, Lib.hid (fun h => absurd h (by omega)), Lib.hid (fun j hj => absurd hj (by omega)), HX⟩
        case round =>
          obtain ⟨k, rfl, hk, hph, hall, HB⟩ := hrel
          have hlw := HB.out.lt
          have c1 := HB.out.at_ 1
          have c9 := HB.out.at_ 9
          by_cases hlt : k < e.z.size
          · have kz : (k : Int) < (e.z.size : Int) := by omega
            have kc : (k : Int) ≤ (e.c : Int) := by have := HC.out; omega
            have a1 := fun p : ExtW wr => p.cell (a := ⟨w.heap.size, 1, none⟩) hlw (HB.out.at_ 1)
            have a9 := fun p : ExtW wr => p.cell (a := ⟨w.heap.size, 9, none⟩) hlw (HB.out.at_ 9)
            obtain ⟨b, off, hA, hbl, f⟩ := (HR.out.below HB.out.b).rd.at_ (i := k) (by omega)
            have HRD := Lib.hid (fun p : ExtW wr => (HR.out.below (belStep HB.out.b p.h)).rd)
            rw [hA] at a9 c9
            have e0 := fun p : ExtW wr => p.cell (a := ⟨b, off + k * 6 + 0, none⟩) hbl (f 0 (by omega))
            have e1 := fun p : ExtW wr => p.cell (a := ⟨b, off + k * 6 + 1, none⟩) hbl (f 1 (by omega))
            have e2 := fun p : ExtW wr => p.cell (a := ⟨b, off + k * 6 + 2, none⟩) hbl (f 2 (by omega))
            have e3 := fun p : ExtW wr => p.cell (a := ⟨b, off + k * 6 + 3, none⟩) hbl (f 3 (by omega))
            have e4 := fun p : ExtW wr => p.cell (a := ⟨b, off + k * 6 + 4, none⟩) hbl (f 4 (by omega))
            have e5 := fun p : ExtW wr => p.cell (a := ⟨b, off + k * 6 + 5, none⟩) hbl (f 5 (by omega))
            have HAk := Lib.hid (fun W => rAck_any e.z[k]! W)
            have HHd := Lib.hid (fun p : ExtW wr => had_any e.A e.c k e.z e.z[k]! p.to (HRD.out p) (by omega) (by have := HR.out.sz; omega))
            rw [hA] at HHd
            obtain ⟨g1, hg1⟩ : ∃ g, ackB e.z[k]! = g := ⟨_, rfl⟩
            obtain ⟨g2, hg2⟩ : ∃ g, hadN e.z k e.z[k]! = g := ⟨_, rfl⟩
            rw [hg1] at HAk
            rw [hg2] at HHd
            have HG : Hid ((ackB e.z[k]! && !hadN e.z k e.z[k]!) = (g1 && !g2)) := by show _ = _; rw [hg1, hg2]
            clear hg1 hg2
            obtain ⟨x, hx⟩ : ∃ x, e.z[k]! = x := ⟨_, rfl⟩
            rw [hx] at e0 e1 e2 e3 e4 e5 HAk HHd
            clear f hx hA HRD
            simp only [encK, Nat.add_zero, List.getElem!_cons_zero, List.getElem!_cons_succ] at e0 e1 e2 e3 e4 e5 HAk HHd
            by_cases h5 : 5 ≤ e.ph
            · have h5' : decide (5 ≤ e.ph) = true := decide_eq_true h5
              have HF : Hid (enE e = 2) := by show _ = _; rw [HE.out, if_neg]; rintro ⟨_, h⟩; have := h h5; omega
              clear e0 e1 e2 e3 e4 e5
              go_wp2_with fail
              refine wp_region_ext (by kernel_rfl) (by kernel_rfl) ?_
              repeat (first | go_big_quiet_step (fail) | quiet_step (fail))
              refine wpQuiet_nil ?_
              intro w' hw'
              obtain ⟨⟨W, hbW⟩, hw''⟩ := hw'
              have hw3 : w' = W := hw''
              subst hw3
              have HW := Lib.hid (HB.out.next hbW)
              clear hbW hw'' a1 a9
              go_wp2
              go_ret
              exact ⟨ret_int HF.out.symm, HW.out.b⟩
            · have h5' : decide (5 ≤ e.ph) = false := decide_eq_false h5
              have HF : Hid ((g1 && !g2) = false → enE e = 2) := fun h => by
                rw [HE.out, if_neg]
                rintro ⟨h', _⟩
                rw [goodK_no k hlt (by rw [HG.out]; exact h)] at h'
                cases h'
              have hph' : e.ph < 5 := by omega
              have HPH := Lib.hid hph'
              clear h5 hph hph'
              cases g1 <;> cases g2
              all_goals
                go_wp2_with fail
                refine wp_region_ext (by kernel_rfl) (by kernel_rfl) ?_
                repeat (first | go_big_quiet_step ((first | (go_at_call 59; exact Calls.ext_of (HAk.out _)) | (go_at_call 60; exact Calls.ext_of (HHd.out _)))) | quiet_step (fail))
                refine wpQuiet_nil ?_
                intro w' hw'
                obtain ⟨⟨W, hbW⟩, hw''⟩ := hw'
                have hw3 : w' = W := hw''
                subst hw3
                have HW := Lib.hid (HB.out.next hbW)
                clear hbW hw'' a1 a9 e0 e1 e2 e3 e4 e5
                go_wp2
                first
                  | (go_ret
                     exact ⟨ret_int (HF.out rfl).symm, HW.out.b⟩)
                  | (go_roundw
                     case rel =>
                       refine ⟨k + 1, by go_num, by omega, Lib.hid (fun _ => HPH.out), Lib.hid (fun j hj => ?_), HW⟩
                       rcases Nat.lt_or_ge j k with h | h
                       · exact hall.out j h
                       · obtain rfl : j = k := by omega
                         exact HG.out
                     case measure => simp [intOf]; omega)
          · have hlt' : decide ((k : Int) < (e.z.size : Int)) = false := by simp; omega
            have h0 : 5 ≤ e.ph → e.z.size = 0 := fun h5 => by
              rcases Nat.eq_zero_or_pos k with h | h
              · omega
              · have := hph.out h; omega
            have HF : Hid (enE e = 0) := by
              show _ = _
              rw [HE.out, if_pos ⟨goodK_yes fun i hi => hall.out i (by omega), h0⟩]
            clear h0
            go_wp2
            go_ret
            exact ⟨ret_int HF.out.symm, HB.out.b⟩
  · have HE : Hid (enE e = 2) := by
      show _ = _
      unfold enE chkEn
      rw [if_neg]
      intro h
      simp only [Bool.and_eq_true, decide_eq_true_eq] at h
      exact hh ⟨h.1.1.1.1, h.1.1.1.2, h.1.1.2, h.1.2.2⟩
    have HH := Lib.hid hh
    clear hh
    generalize selfN_I e.id = sf at z0 HSP
    simp only [encE] at HX ⊢
    go_enter Try.func32, Try.ntmps32
    go_wp2_with fail
    refine (HSP.out _).mono ?_
    rintro _ _ ⟨rfl, rfl⟩
    generalize w.alloc (.cells #[.int .i64 e.id, .int .i64 e.ph, .int .i64 e.qu, .int .i64 e.t, .int .i64 e.bal, .int .i64 e.abal, .int .i64 e.seen, .int .i64 e.age, .string e.pay, .slice e.A e.z.size e.c] 25) = w0 at HX ⊢
    have c1 := HX.out.at_ 1
    have c2 := HX.out.at_ 2
    have c3 := HX.out.at_ 3
    have c4 := HX.out.at_ 4
    have c5 := HX.out.at_ 5
    have c6 := HX.out.at_ 6
    have c7 := HX.out.at_ 7
    have c8 := HX.out.at_ 8
    have c9 := HX.out.at_ 9
    go_wp2
    all_goals first
      | (go_ret
         exact ⟨ret_int HE.out.symm, HX.out.b⟩)
      | (exfalso
         have hh := HH.out
         simp only [headP, numsP, toldP] at *
         clear HX HSP HR HC HH HE c1 c2 c3 c4 c5 c6 c7 c8 c9
         grind)
end
end Go.Proofs.Ytgpejfkmdenonaa
