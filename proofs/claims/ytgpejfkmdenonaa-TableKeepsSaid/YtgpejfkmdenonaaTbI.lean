/- The probes of the statements about tables: rubatolaw21.two, awake; two lists of numbers held against each other. -/
import Derived.Test.YtgpejfkmdenonaaTbG
import Derived.Test.YtgpejfkmdenonaaTbH
namespace Go.Proofs.Ytgpejfkmdenonaa
open Go.RowKit Go.Sort Go.Lib
theorem arr_ext_T {α : Type} [Inhabited α] {d1 d2 : Array α} (hs : d1.size = d2.size) (h : ∀ j, j < d1.size → d1[j]! = d2[j]!) : d1 = d2 :=
  Array.ext hs fun t h1 h2 => by have := h t h1; rwa [getElem!_pos d1 t h1, getElem!_pos d2 t h2] at this
set_option maxHeartbeats 1000000 in
theorem SameInts_any_T (A1 A2 : Option Addr) (c1 c2 : Nat) (d1 d2 : Array Int) (B1 B2 : Nat) (w : World) (h1 : RdI_R B1 w A1 d1) (h2 : RdI_R B2 w A2 d2) (hm : d2.size ≤ 100000000) :
    Calls Try.prog 24 #[.slice A1 d1.size c1, .slice A2 d2.size c2] w fun e w' => e = .returned (.bool (decide (d1 = d2))) ∧ ∃ n, w' = w.drewN n := by
  by_cases hs : d1.size = d2.size
  · have hb : ((d1.size : Int) != (d2.size : Int)) = false := by simp [hs]
    have HS := Lib.hid hs
    have hge : d1.size ≤ d2.size := by omega
    clear hs
    go_enter Try.func24, Try.ntmps24
    go_wp2
    go_loopw [5] (fun i wr => ∃ k n : Nat, k ≤ d1.size ∧ i = .int .i64 k ∧ wr = w.drewN n ∧ ∀ j, j < k → d1[j]! = d2[j]!) (fun i _ => d1.size - (intOf i).toNat)
    case atStart => exact ⟨0, 0, Nat.zero_le _, rfl, rfl, fun j hj => absurd hj (by omega)⟩
    case round =>
      obtain ⟨k, n, hk, rfl, rfl, hj⟩ := hrel
      have HJ := Lib.hid hj; clear hj
      by_cases hlt : k < d1.size
      · obtain ⟨b1, o1, rfl, _, f1⟩ := h1.at_ hlt
        obtain ⟨b2, o2, rfl, _, f2⟩ := h2.at_ (i := k) (by omega)
        have HX : Hid (k < d1.size) := hlt
        generalize hx : d1[k]! = x at f1
        generalize hy : d2[k]! = y at f2
        have HXX := Lib.hid hx; clear hx
        have HYY := Lib.hid hy; clear hy
        have kz : (k : Int) < (d1.size : Int) := by omega
        have kz2 : (k : Int) < (d2.size : Int) := by omega
        by_cases hxy : x = y
        · subst hxy
          go_wp2
          go_quiet (fail)
          go_wp2
          go_roundw
          case rel => exact ⟨k + 1, _, by omega, by go_num, rfl, fun j hj => by
            rcases Nat.lt_or_ge j k with h | h
            · exact HJ.out j h
            · obtain rfl : j = k := by omega
              rw [HXX.out, HYY.out]⟩
          case measure => simp [intOf]; omega
        · have hd : (x != y) = true := by simp [hxy]
          have HXY := Lib.hid hxy; clear hxy
          go_wp2
          go_quiet (fail)
          go_wp2
          go_ret
          exact ⟨ret_bool (by symm; rw [decide_eq_false_iff_not]; rintro rfl; exact HXY.out (by rw [← HXX.out, ← HYY.out])), _, World.drewN_drewN _ _ _⟩
      · go_wp2
        go_ret
        exact ⟨ret_bool (by symm; rw [decide_eq_true_iff]; exact arr_ext_T HS.out fun j hj => HJ.out j (by omega)), n, rfl⟩
  · have hb : ((d1.size : Int) != (d2.size : Int)) = true := by simp; omega
    have HS := Lib.hid hs; clear hs
    go_enter Try.func24, Try.ntmps24
    go_wp2
    go_ret
    exact ⟨ret_bool (by symm; rw [decide_eq_false_iff_not]; rintro rfl; exact HS.out rfl), 0, rfl⟩
set_option maxRecDepth 100000
def eTw (n : Int) : EN := ⟨n, 5, 3, 5, 0, 0, 0, 0, ByteArray.empty, none, 0, #[]⟩
def eNw : EN := ⟨13, 1, 3, 0, 0, 0, 0, 0, ByteArray.empty, none, 0, #[]⟩
def dTw : Array EN := #[eTw 12, eTw 21]
def dTh : Array EN := #[eTw 12, eNw, eTw 21]
theorem srtA_pw {d : Array (Int × Int)} (h : d.toList.Pairwise (fun x y => (!lessA y x) = true)) : srtA d = d := by
  unfold srtA
  rw [List.mergeSort_of_pairwise h]
theorem aw_put : putC dTw eNw = 0 ∧ putD dTw eNw = dTh := ⟨by decide +kernel, by kernel_rfl⟩
theorem aw_bad : putC dTh default = 2 ∧ putD dTh default = #[] := ⟨by decide +kernel, by kernel_rfl⟩
theorem aw_due : dueT 5 dTh = #[(5, 12), (5, 21)] := by
  have e : fmT (dueB 5) (fun x : EN => (x.t, x.id)) dTh = #[(5, 12), (5, 21)] := by kernel_rfl
  unfold dueT
  rw [e, srtA_pw]
  decide
theorem aw_open : fmT (fun x => openB x.ph) EN.id dTh = #[13] := by kernel_rfl
theorem aw_setl : fmT (fun x => setlB x.ph) EN.id dTh = #[12, 21] := by kernel_rfl
theorem aw_keep : (keepT 9 dTh).size = 3 := by kernel_rfl
theorem aw_tab : tabE dTh = 0 := by decide +kernel
theorem aw_same : sameT dTh dTw = false := by
  unfold sameT
  rw [decide_eq_false_iff_not]
  intro h
  exact absurd h.1 (by decide)
theorem aw_find : FindR dTh 13 (eNw, true) := Or.inl ⟨1, by decide, rfl, rfl, fun j hj => by obtain rfl : j = 0 := (by omega); decide⟩
theorem aw_none : FindR dTh 14 (default, false) := Or.inr ⟨rfl, fun j hj => by
  have : j < 3 := hj
  rcases (show j = 0 ∨ j = 1 ∨ j = 2 by omega) with rfl | rfl | rfl <;> decide⟩
theorem rdE_lit (w : World) (e : EN) (hz : e.z = #[]) (hc : e.c = 0) (hp : e.pay = ByteArray.empty) : RdE w e :=
  ⟨fun h => absurd h (by rw [hz]; decide), by rw [hz, hc]; exact Nat.le_refl _, by rw [hz]; decide, by rw [hp]; decide⟩
theorem dTw_flat : (#[.int .i64 12, .int .i64 5, .int .i64 3, .int .i64 5, .int .i64 0, .int .i64 0, .int .i64 0, .int .i64 0, .string ⟨#[]⟩, .slice none 0 0, .int .i64 21, .int .i64 5, .int .i64 3, .int .i64 5, .int .i64 0, .int .i64 0, .int .i64 0, .int .i64 0, .string ⟨#[]⟩, .slice none 0 0] : Array Value) = flatK encE 10 dTw := by
  apply Array.toList_inj.1
  rw [flatK_flatMap encE_len]
  rfl
theorem two_any (w : World) : Calls Try.prog 23 #[] w fun e w' => ∃ A, e = .returned (.slice A dTw.size 2) ∧ RdT w' A dTw ∧ Below w.heap.size w w' := by
  go_enter Try.func23, Try.ntmps23
  go_wp2
  go_ret
  refine ⟨some ⟨w.heap.size, 0, none⟩, rfl, ⟨?_, fun i hi => ?_, by decide⟩, bel1 w _⟩
  · exact (RdK.new w encE 10 dTw 25 _ dTw_flat).mono (by simp)
  · have : i < 2 := hi
    rcases (show i = 0 ∨ i = 1 by omega) with rfl | rfl <;> exact rdE_lit _ _ rfl rfl rfl
set_option maxHeartbeats 32000000 in
theorem aw21_any (w : World) : Calls Try.prog 8 #[] w fun e w' => e = .returned (.bool true) ∧ Below w.heap.size w w' := by
  go_enter Try.func8, Try.ntmps8
  go_wp2_with fail
  refine (two_any _).mono ?_
  rintro _ w1 ⟨A1, rfl, h1, hb1⟩
  have HB := Lib.hid hb1
  have H1 := Lib.hid h1
  have HP := Lib.hid (tPut_any A1 2 dTw eNw w1 h1 (rdE_lit _ _ rfl rfl rfl))
  clear hb1 h1
  simp only [encE] at HP
  go_wp2_with fail
  refine HP.out.mono ?_
  rintro _ w2 ⟨⟨A2, c2, rfl, h2⟩, hb2⟩
  rw [aw_put.1, aw_put.2]
  rw [aw_put.2] at h2
  have HB := Lib.hid (belStep HB.out hb2)
  have H2 := Lib.hid h2
  have HF := Lib.hid (tFind_any A2 c2 dTh 13 w2 h2.zero (by decide))
  clear h2 hb2 HP
  go_wp2_with fail
  refine HF.out.mono ?_
  rintro _ w3 ⟨⟨r, rfl, hr⟩, hb3⟩
  obtain rfl := hr.uniq aw_find
  rw [show (encE (eNw, true).1).toArray = #[.int .i64 13, .int .i64 1, .int .i64 3, .int .i64 0, .int .i64 0, .int .i64 0, .int .i64 0, .int .i64 0, .string ⟨#[]⟩, .slice none 0 0] from rfl]
  have HB := Lib.hid (belStep HB.out hb3)
  have H3 := Lib.hid ((H2.out.below hb3).below (bel1 w3 (.cells #[.int .i64 13, .int .i64 1, .int .i64 3, .int .i64 0, .int .i64 0, .int .i64 0, .int .i64 0, .int .i64 0, .string ⟨#[]⟩, .slice none 0 0] 25)))
  have HF := Lib.hid (tFind_any A2 c2 dTh 14 (w3.alloc (.cells #[.int .i64 13, .int .i64 1, .int .i64 3, .int .i64 0, .int .i64 0, .int .i64 0, .int .i64 0, .int .i64 0, .string ⟨#[]⟩, .slice none 0 0] 25)) H3.out.zero (by decide))
  have HX3 := Lib.hid (BoxW.init w3 #[.int .i64 13, .int .i64 1, .int .i64 3, .int .i64 0, .int .i64 0, .int .i64 0, .int .i64 0, .int .i64 0, .string ⟨#[]⟩, .slice none 0 0] 25)
  have HB := Lib.hid (belAlloc HB.out (.cells #[.int .i64 13, .int .i64 1, .int .i64 3, .int .i64 0, .int .i64 0, .int .i64 0, .int .i64 0, .int .i64 0, .string ⟨#[]⟩, .slice none 0 0] 25))
  clear hb3 hr
  go_wp2_with fail
  refine HF.out.mono ?_
  rintro _ w4 ⟨⟨r, rfl, hr⟩, hb4⟩
  obtain rfl := hr.uniq aw_none
  rw [show (encE ((default : EN), false).1).toArray = #[.int .i64 0, .int .i64 0, .int .i64 0, .int .i64 0, .int .i64 0, .int .i64 0, .int .i64 0, .int .i64 0, .string ⟨#[]⟩, .slice none 0 0] from rfl]
  have HB := Lib.hid (belAlloc (belStep HB.out hb4) (.cells #[.int .i64 0, .int .i64 0, .int .i64 0, .int .i64 0, .int .i64 0, .int .i64 0, .int .i64 0, .int .i64 0, .string ⟨#[]⟩, .slice none 0 0] 25))
  have H4 := Lib.hid ((H3.out.below hb4).below (bel1 w4 (.cells #[.int .i64 0, .int .i64 0, .int .i64 0, .int .i64 0, .int .i64 0, .int .i64 0, .int .i64 0, .int .i64 0, .string ⟨#[]⟩, .slice none 0 0] 25)))
  have HX4 := Lib.hid ((HX3.out.next hb4).next (bel1 w4 (.cells #[.int .i64 0, .int .i64 0, .int .i64 0, .int .i64 0, .int .i64 0, .int .i64 0, .int .i64 0, .int .i64 0, .string ⟨#[]⟩, .slice none 0 0] 25)))
  have HP := Lib.hid (tPut_any A2 c2 dTh default (w4.alloc (.cells #[.int .i64 0, .int .i64 0, .int .i64 0, .int .i64 0, .int .i64 0, .int .i64 0, .int .i64 0, .int .i64 0, .string ⟨#[]⟩, .slice none 0 0] 25)) H4.out (RdE.default _))
  rw [show (encE (default : EN)).toArray = #[.int .i64 0, .int .i64 0, .int .i64 0, .int .i64 0, .int .i64 0, .int .i64 0, .int .i64 0, .int .i64 0, .string ⟨#[]⟩, .slice none 0 0] from rfl] at HP
  clear hb4 hr HF
  go_upto_region 4 with fail
  (try simp only [List.append_eq, List.cons_append, List.nil_append])
  go_wp2_with fail
  refine HP.out.mono ?_
  rintro _ w5 ⟨⟨A5, c5, rfl, h5⟩, hb5⟩
  rw [aw_bad.1, aw_bad.2]
  have HB := Lib.hid (belStep HB.out hb5)
  have H5 := Lib.hid (H4.out.below hb5)
  have HX5 := Lib.hid (HX4.out.next hb5)
  have x1 := HX5.out.at_ 1
  obtain ⟨b2, o2, rfl, _, f2⟩ := H5.out.rd.at_ (i := 1) (by decide)
  have l1 : w5.cell? ⟨b2, o2 + 10, none⟩ = some (.int .i64 13) := f2 0 (by decide)
  clear hb5 h5 HP f2
  rw [show dTh.size = 3 from rfl]
  have HR : Hid (Below w5.heap.size w5 w5) := Below.refl _ _
  have HD := Lib.hid (tDue_any (some ⟨b2, o2, none⟩) c2 dTh 5 w5 H5.out.rd (by decide))
  go_wp2_with fail
  refine HD.out.mono ?_
  rintro _ w6 ⟨⟨A6, c6, rfl, h6⟩, hb6⟩
  rw [aw_due]
  rw [aw_due] at h6
  have HR := Lib.hid (belStep HR.out hb6)
  have HSA := Lib.hid (SameAtts_any_I A6 (some ⟨w6.heap.size, 0, none⟩) c6 2 #[(5, 12), (5, 21)] #[(5, 12), (5, 21)] (w6.alloc (.cells #[.int .i64 5, .int .i64 12, .int .i64 5, .int .i64 21] 48)).heap.size (w6.alloc (.cells #[.int .i64 5, .int .i64 12, .int .i64 5, .int .i64 21] 48)) ((h6.alloc (Nat.le_refl _) _).mono (by simp)) ((RdK.new w6 encA_I 2 #[(5, 12), (5, 21)] 48 #[.int .i64 5, .int .i64 12, .int .i64 5, .int .i64 21] (by apply Array.toList_inj.1; rw [flatK_flatMap encA_len_I]; rfl)).mono (by simp)) (by decide) (by decide))
  clear h6 hb6 HD
  go_wp2_with fail
  refine HSA.out.mono ?_
  rintro _ w7 ⟨rfl, q7, hw7⟩
  (try simp only [decide_true])
  have HR := Lib.hid (belStep (belAlloc HR.out (.cells #[.int .i64 5, .int .i64 12, .int .i64 5, .int .i64 21] 48)) (show Below _ _ w7 by rw [hw7]; exact belDrewN (Below.refl _ _) q7))
  have HO := Lib.hid (tOpen_any (some ⟨b2, o2, none⟩) c2 dTh w7 (H5.out.below HR.out).rd (by decide))
  clear hw7 HSA
  go_wp2_with fail
  refine HO.out.mono ?_
  rintro _ w8 ⟨⟨A8, c8, rfl, h8⟩, hb8⟩
  rw [aw_open]
  rw [aw_open] at h8
  have HR := Lib.hid (belStep HR.out hb8)
  have HSI := Lib.hid (SameInts_any_T A8 (some ⟨w8.heap.size, 0, none⟩) c8 1 #[13] #[13] w8.heap.size (w8.heap.size + 1) (w8.alloc (.cells #[.int .i64 13] 3)) ((rdJ_T h8).alloc (Nat.le_refl _) _) (RdI_R.new w8 #[13] 3 _ (by simp [encI_R])) (by decide))
  clear h8 hb8 HO
  go_wp2_with fail
  refine HSI.out.mono ?_
  rintro _ w9 ⟨rfl, q9, hw9⟩
  (try simp only [decide_true])
  have HR := Lib.hid (belStep (belAlloc HR.out (.cells #[.int .i64 13] 3)) (show Below _ _ w9 by rw [hw9]; exact belDrewN (Below.refl _ _) q9))
  have HO := Lib.hid (tSetl_any (some ⟨b2, o2, none⟩) c2 dTh w9 (H5.out.below HR.out).rd (by decide))
  clear hw9 HSI
  go_wp2_with fail
  refine HO.out.mono ?_
  rintro _ wa ⟨⟨Aa, ca, rfl, ha⟩, hba⟩
  rw [aw_setl]
  rw [aw_setl] at ha
  have HR := Lib.hid (belStep HR.out hba)
  have HSI := Lib.hid (SameInts_any_T Aa (some ⟨wa.heap.size, 0, none⟩) ca 2 #[12, 21] #[12, 21] wa.heap.size (wa.heap.size + 1) (wa.alloc (.cells #[.int .i64 12, .int .i64 21] 3)) ((rdJ_T ha).alloc (Nat.le_refl _) _) (RdI_R.new wa #[12, 21] 3 _ (by simp [encI_R])) (by decide))
  clear ha hba HO
  go_wp2_with fail
  refine HSI.out.mono ?_
  rintro _ wb ⟨rfl, qb, hwb⟩
  (try simp only [decide_true])
  have HR := Lib.hid (belStep (belAlloc HR.out (.cells #[.int .i64 12, .int .i64 21] 3)) (show Below _ _ wb by rw [hwb]; exact belDrewN (Below.refl _ _) qb))
  have HO := Lib.hid (tDrop_any (some ⟨b2, o2, none⟩) c2 dTh 9 wb (H5.out.below HR.out))
  clear hwb HSI
  go_wp2_with fail
  refine HO.out.mono ?_
  rintro _ wc ⟨Ac, cc, rfl, _, hbc⟩
  rw [aw_keep]
  have HR := Lib.hid (belStep HR.out hbc)
  have HO := Lib.hid (tCheck_any (some ⟨b2, o2, none⟩) c2 dTh wc (H5.out.below HR.out))
  rw [aw_tab] at HO
  clear hbc
  go_wp2_with fail
  refine HO.out.mono ?_
  rintro _ wd ⟨rfl, hbd⟩
  have HR := Lib.hid (belStep HR.out hbd)
  have HO := Lib.hid (tSame_any (some ⟨b2, o2, none⟩) (some ⟨b2, o2, none⟩) c2 c2 dTh dTh wd (H5.out.below HR.out) (H5.out.below HR.out))
  rw [sameT_self] at HO
  clear hbd
  go_wp2_with fail
  refine HO.out.mono ?_
  rintro _ we ⟨rfl, hbe⟩
  have HR := Lib.hid (belStep HR.out hbe)
  clear hbe HO
  go_wp2_with fail
  refine (two_any _).mono ?_
  rintro _ wf ⟨Af, rfl, hf, hbf⟩
  have HR := Lib.hid (belStep HR.out hbf)
  have HO := Lib.hid (tSame_any (some ⟨b2, o2, none⟩) Af c2 2 dTh dTw wf (H5.out.below HR.out) hf)
  rw [aw_same] at HO
  clear hbf hf
  go_wp2_with fail
  refine HO.out.mono ?_
  rintro _ wg ⟨rfl, hbg⟩
  have HR := Lib.hid (belStep HR.out hbg)
  clear hbg HO
  go_wp2
  go_ret
  exact ⟨rfl, belStep HB.out HR.out⟩
end Go.Proofs.Ytgpejfkmdenonaa
