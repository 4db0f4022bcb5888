/- The sort of commands at times, by the bound method: a few shifts. -/
import Derived.Test.YtgpejfkmdenonaaSortA
import Derived.Deep.CutRange
import Derived.Deep.CutBlock
namespace Go.Proofs.Ytgpejfkmdenonaa
open Go.RowKit Go.Sort Go.Lib

def soB (d : Array (Int × Int)) (b i : Nat) : Bool := decide (i < b) && !lessA d[i]! d[i - 1]!
section
variable {lt : Int × Int → Int × Int → Bool} {d : Array (Int × Int)} {b i j : Nat}
theorem sorted_stop (h : (decide (i < b) && !lt d[i]! d[i - 1]!) = false) : scanSorted lt d b i = i := by rw [scanSorted, h]; rfl
theorem sorted_go (h : (decide (i < b) && !lt d[i]! d[i - 1]!) = true) : scanSorted lt d b i = scanSorted lt d b (i + 1) := by rw [scanSorted, h]; rfl
theorem down_stop {k : Nat} (hk : k = j + 1) (h : lt d[k]! d[j]! = false) : shiftDown lt k d = d := by subst hk; unfold shiftDown; rw [h]; rfl
theorem down_go {k : Nat} (hk : k = j + 1) (h : lt d[k]! d[j]! = true) : shiftDown lt k d = shiftDown lt j (swp d k j) := by
  subst hk
  conv => lhs; unfold shiftDown
  rw [h]; rfl
theorem down_size : ∀ (k : Nat) (d : Array (Int × Int)), (shiftDown lt k d).size = d.size
  | 0, _ => rfl
  | k + 1, d => by
    unfold shiftDown
    split
    · rfl
    · rw [down_size k, size_swp]
theorem up_end (h : ¬ j < b) : shiftUp lt b j d = d := by rw [shiftUp, if_neg h]
theorem up_stop (h : j < b) (hl : lt d[j]! d[j - 1]! = false) : shiftUp lt b j d = d := by rw [shiftUp, if_pos h, hl]; rfl
theorem up_go (h : j < b) (hl : lt d[j]! d[j - 1]! = true) : shiftUp lt b j d = shiftUp lt b (j + 1) (swp d j (j - 1)) := by
  conv => lhs; rw [shiftUp, if_pos h, hl]
  rfl
end
set_option maxRecDepth 100000 in
set_option maxHeartbeats 16000000 in
theorem pins_any (blk off cap a b N : Nat) (d : Array (Int × Int)) (w : World) (hH : HoldsK encA_I 2 w blk off d) (hblk : blk < w.heap.size) (hN : d.size = N) (hab : a < b) (hb : b ≤ N) (hsz : N ≤ 1000000) :
    Calls Try.prog 87 #[.slice (some ⟨blk, off, none⟩) N cap, .int .i64 a, .int .i64 b, .func (.func 62) #[.agg #[]] #[]] w fun e w' => e = .returned (.bool (partialInsertionSort lessA d a b).2) ∧ Srt w blk off (partialInsertionSort lessA d a b).1 w' := by
  have hS0 := Srt.refl hH hblk
  have HN := Lib.hid hN
  clear hH hN
  obtain ⟨a1, w5, w6⟩ : ∃ n, n ≤ a + 1 ∧ a + 1 ≤ n := ⟨_, Nat.le_refl _, Nat.le_refl _⟩
  obtain ⟨n, w7, w8⟩ : ∃ n, n ≤ b - a ∧ b - a ≤ n := ⟨_, Nat.le_refl _, Nat.le_refl _⟩
  have HDEF : Hid (partialInsertionSort lessA d a b = partialIns lessA a b 5 a1 d) := by show partialIns lessA a b 5 (a + 1) d = _; rw [show a + 1 = a1 by omega]
  have s2 : (a : Int) + 1 = (a1 : Int) := by omega
  have s3 : (b : Int) - (a : Int) = (n : Int) := by omega
  go_enter Try.func87, Try.ntmps87
  go_wp2
  go_loopw [9, 10] (fun vi vt wr => ∃ (i1 t : Nat) (dk : Array (Int × Int)), vi = .int .i64 i1 ∧ vt = .int .i64 t ∧ t ≤ 5 ∧ a < i1 ∧ i1 ≤ b ∧ dk.size = N ∧ Srt w blk off dk wr ∧ Hid (partialIns lessA a b (5 - t) i1 dk = partialIns lessA a b 5 a1 d)) (fun _ vt _ => 5 - (intOf vt).toNat)
  case atStart => exact ⟨a1, 0, d, rfl, rfl, by omega, by omega, by omega, HN.out, hS0, rfl⟩
  case round =>
    clear hS0
    obtain ⟨i1, t, dk, rfl, rfl, t1, t2, t3, hsk, hS, HM0⟩ := hrel
    have HSK := Lib.hid hsk
    have k5 : dk.size ≤ N := Nat.le_of_eq hsk
    have k6 : N ≤ dk.size := Nat.le_of_eq hsk.symm
    clear hsk
    by_cases ht : t < 5
    · have htz : (t : Int) < 5 := by omega
      obtain ⟨s, v3, v4⟩ : ∃ s, s + 1 + t ≤ 5 ∧ 5 ≤ s + 1 + t := ⟨4 - t, by omega, by omega⟩
      have HM : Hid (partialIns lessA a b (s + 1) i1 dk = partialIns lessA a b 5 a1 d) := by show _ = _; rw [← HM0.out]; congr 1; omega
      clear HM0
      go_wp2
      go_loopw [9] (fun vv wr => ∃ i : Nat, vv = .int .i64 i ∧ (a < i ∧ i1 ≤ i) ∧ i ≤ b ∧ Srt w blk off dk wr ∧ Hid (scanSorted lessA dk b i = scanSorted lessA dk b i1)) (fun vv _ => b - (intOf vv).toNat)
      case atStart => exact ⟨i1, rfl, by omega, by omega, hS, rfl⟩
      case round =>
        clear hS
        obtain ⟨i, rfl, hv1, hv2, hS, HMS⟩ := hrel
        go_upto_region 5 with fail
        go_cut [36] from 19 to 38 (fun c wx => c = .bool (soB dk b i) ∧ Srt w blk off dk wx)
        case first =>
          by_cases hg : i < b
          · have hgz : (i : Int) < (b : Int) := by omega
            have hvN : (i : Int) < (N : Int) := by omega
            obtain ⟨im, y1, y2⟩ : ∃ n, n + 1 ≤ i ∧ i ≤ n + 1 := ⟨i - 1, by omega, by omega⟩
            have eim : (i : Int) - 1 = (im : Int) := by omega
            have eimw : IntKind.i64.wrap ((i : Int) - 1) = (im : Int) := by rw [IntKind.wrap_i64]; omega
            have eimv : IntKind.i64.wrap (im : Int) = (im : Int) := by rw [IntKind.wrap_i64]; omega
            have him : Hid (i - 1 = im) := by show _ = _; omega
            have bim : (im : Int) < (N : Int) := by omega
            obtain ⟨xi, hxi⟩ : ∃ x, dk[i]! = x := ⟨_, rfl⟩
            obtain ⟨xj, hxj⟩ : ∃ x, dk[im]! = x := ⟨_, rfl⟩
            have p0 := fun p => (hS.cells (i := i) (by omega) p).1
            have p1 := fun p => (hS.cells (i := i) (by omega) p).2
            have q0 := fun p => (hS.cells (i := im) (by omega) p).1
            have q1 := fun p => (hS.cells (i := im) (by omega) p).2
            simp only [hxi] at p0 p1
            simp only [hxj] at q0 q1
            have HXI := Lib.hid hxi
            have HXJ := Lib.hid hxj
            clear hxi hxj
            have hcv1 := fun W => of_any_I xi xj W
            have HLv1 := Lib.hid (lessA_iff xi xj)
            generalize cmpA xi xj = v1 at hcv1 HLv1
            have HCv1 := Lib.hid hcv1
            clear hcv1
            have HT : Hid (soB dk b i = !decide (v1 < 0)) := by show _ = _; unfold soB; rw [him.out, HXI.out, HXJ.out, HLv1.out]; simp [hg]
            by_cases hv : v1 < 0
            · skip
              go_wp2_with fail
              refine wp_region_ext (by kernel_rfl) (by kernel_rfl) ?_
              repeat (first | go_big_quiet_step ((go_at_call 62; exact Calls.ext_of (HCv1.out _))) | quiet_step ((go_at_call 62; exact Calls.ext_of (HCv1.out _))))
              refine wpQuiet_nil ?_
              intro w' hw'
              obtain ⟨⟨W, hbW⟩, hw''⟩ := hw'
              have hw3 : w' = W := hw''
              subst hw3
              have hS2 := hS.below hbW
              clear hbW hw''
              clear p0 p1 q0 q1
              go_wp2_with fail
              go_meet
              exact ⟨congrArg Value.bool (HT.out.trans (by simp [hv])).symm, hS2⟩
            · have hvd : decide (v1 < 0) = false := by simp; omega
              go_wp2_with fail
              refine wp_region_ext (by kernel_rfl) (by kernel_rfl) ?_
              repeat (first | go_big_quiet_step ((go_at_call 62; exact Calls.ext_of (HCv1.out _))) | quiet_step ((go_at_call 62; exact Calls.ext_of (HCv1.out _))))
              refine wpQuiet_nil ?_
              intro w' hw'
              obtain ⟨⟨W, hbW⟩, hw''⟩ := hw'
              have hw3 : w' = W := hw''
              subst hw3
              have hS2 := hS.below hbW
              clear hbW hw''
              clear p0 p1 q0 q1
              go_wp2_with fail
              go_meet
              exact ⟨congrArg Value.bool (HT.out.trans (by simp [hv])).symm, hS2⟩
          · have hgd : decide (i < b) = false := by simp; omega
            have hgz : ¬ (i : Int) < (b : Int) := by omega
            have HT : Hid (soB dk b i = false) := by show _ = _; unfold soB; simp [hg]
            go_wp2_with fail
            go_quiet (fail)
            go_wp2_with fail
            go_meet
            exact ⟨congrArg Value.bool HT.out.symm, hS.below (belDrewN (RowKit.Below.refl _ _) nq)⟩
        case rest =>
          clear hS
          obtain ⟨rfl, hS⟩ := hcut
          cases hT : soB dk b i
          · have HEi : Hid (i = scanSorted lessA dk b i1) := by show _ = _; rw [← HMS.out]; exact (sorted_stop (lt := lessA) hT).symm
            have HTi := Lib.hid hT
            clear HMS hT
            by_cases hib : i = b
            · have q1' : ((i : Int) == (b : Int)) = true := by simp [hib]
              have q2' : (i == b) = true := by simp [hib]
              have HRES : Hid (partialInsertionSort lessA d a b = (dk, true)) := by
                show _ = _
                rw [HDEF.out, ← HM.out, partialIns_succ, ← HEi.out, if_pos hib]
              clear hib
              go_wp2
              go_ret
              exact ⟨ret_bool (by rw [HRES.out]), by rw [HRES.out]; exact hS⟩
            · have q1' : ((i : Int) == (b : Int)) = false := by simp; omega
              have q2' : (i == b) = false := by simp [hib]
              by_cases h50 : b - a < 50
              · have z50 : (n : Int) < 50 := by omega
                have HRES : Hid (partialInsertionSort lessA d a b = (dk, false)) := by
                  show _ = _
                  rw [HDEF.out, ← HM.out, partialIns_succ, ← HEi.out, if_neg hib, if_pos h50]
                go_wp2
                go_ret
                exact ⟨ret_bool (by rw [HRES.out]), by rw [HRES.out]; exact hS⟩
              · have z50 : decide ((n : Int) < 50) = false := by simp; omega
                have HSUCC0 : Hid (partialIns lessA a b (s + 1) i1 dk = partialIns lessA a b s i (fixUp lessA b i (fixDown lessA a i (swp dk i (i - 1))))) := by
                  show _ = _
                  rw [partialIns_succ, ← HEi.out, if_neg hib, if_neg h50]
                have hiN : (i : Int) < (N : Int) := by omega
                obtain ⟨im, y1, y2⟩ : ∃ n, n + 1 ≤ i ∧ i ≤ n + 1 := ⟨i - 1, by omega, by omega⟩
                have eim : (i : Int) - 1 = (im : Int) := by omega
                have eimw : IntKind.i64.wrap ((i : Int) - 1) = (im : Int) := by rw [IntKind.wrap_i64]; omega
                have eimv : IntKind.i64.wrap (im : Int) = (im : Int) := by rw [IntKind.wrap_i64]; omega
                have him : Hid (i - 1 = im) := by show _ = _; omega
                have bim : (im : Int) < (N : Int) := by omega
                go_upto_region 11 with fail
                go_cut [] from 15 to 140 (fun wx => Srt w blk off (swp (dk) i im) wx)
                case first =>
                  obtain ⟨x1, hx1⟩ : ∃ x, (dk)[i]! = x := ⟨_, rfl⟩
                  obtain ⟨a1, z1, a2, z2⟩ := hS.own (i := i) (by omega)
                  have hsw := hS.swap (i := i) (j := im) (by omega) (by omega)
                  rw [hx1] at a1 a2
                  obtain ⟨x2, hx2⟩ : ∃ x, (dk)[im]! = x := ⟨_, rfl⟩
                  obtain ⟨a3, z3, a4, z4⟩ := hS.own (i := im) (by omega)
                  rw [hx2] at a3 a4
                  rw [hx1, hx2] at hsw
                  clear hx1 hx2
                  have HSW := Lib.hid hsw
                  clear hsw
                  go_wp2_with fail
                  go_region
                  all_goals go_wp2_with fail
                  go_meet
                  exact HSW.out
                case rest =>
                  clear hS
                  have hS := hcut
                  clear hcut
                  have HSZ1 : Hid ((swp dk i im).size = N) := by show _ = _; rw [size_swp]; exact HSK.out
                  rw [him.out] at HSUCC0
                  generalize swp dk i im = d1 at hS HSUCC0 HSZ1
                  have k3 : d1.size ≤ N := Nat.le_of_eq HSZ1.out
                  have k4 : N ≤ d1.size := Nat.le_of_eq HSZ1.out.symm
                  obtain ⟨ia, g1, g2⟩ : ∃ n, n ≤ i - a ∧ i - a ≤ n := ⟨_, Nat.le_refl _, Nat.le_refl _⟩
                  obtain ⟨bi, g3, g4⟩ : ∃ n, n ≤ b - i ∧ b - i ≤ n := ⟨_, Nat.le_refl _, Nat.le_refl _⟩
                  have s5 : (i : Int) - (a : Int) = (ia : Int) := by omega
                  have s6 : (b : Int) - (i : Int) = (bi : Int) := by omega
                  go_upto_if 65 with fail
                  go_cut [11] from 15 to 140 (fun _ wx => Srt w blk off (fixDown lessA a i d1) wx)
                  case first =>
                    by_cases h2 : 2 ≤ ia
                    · have h2z : (2 : Int) ≤ (ia : Int) := by omega
                      go_wp2
                      go_loopw [11] (fun vj wr => ∃ (j : Nat) (dj : Array (Int × Int)), vj = .int .i64 j ∧ j ≤ im ∧ dj.size = N ∧ Srt w blk off dj wr ∧ Hid (shiftDown lessA j dj = shiftDown lessA im d1)) (fun vj _ => (intOf vj).toNat)
                      case atStart => exact ⟨im, d1, rfl, Nat.le_refl _, HSZ1.out, hS, rfl⟩
                      case round =>
                        clear hS
                        obtain ⟨j, dj, rfl, u1, hsj, hS, HU⟩ := hrel
                        have HSJ := Lib.hid hsj
                        have k7 : dj.size ≤ N := Nat.le_of_eq hsj
                        have k8 : N ≤ dj.size := Nat.le_of_eq hsj.symm
                        clear hsj
                        by_cases hj0 : 1 ≤ j
                        · have hjz : (1 : Int) ≤ (j : Int) := by omega
                          have hjN : (j : Int) < (N : Int) := by omega
                          obtain ⟨jm, y1, y2⟩ : ∃ n, n + 1 ≤ j ∧ j ≤ n + 1 := ⟨j - 1, by omega, by omega⟩
                          have ejm : (j : Int) - 1 = (jm : Int) := by omega
                          have ejmw : IntKind.i64.wrap ((j : Int) - 1) = (jm : Int) := by rw [IntKind.wrap_i64]; omega
                          have ejmv : IntKind.i64.wrap (jm : Int) = (jm : Int) := by rw [IntKind.wrap_i64]; omega
                          have hjm : Hid (j - 1 = jm) := by show _ = _; omega
                          have bjm : (jm : Int) < (N : Int) := by omega
                          obtain ⟨xi, hxi⟩ : ∃ x, dj[j]! = x := ⟨_, rfl⟩
                          obtain ⟨xj, hxj⟩ : ∃ x, dj[jm]! = x := ⟨_, rfl⟩
                          have p0 := fun p => (hS.cells (i := j) (by omega) p).1
                          have p1 := fun p => (hS.cells (i := j) (by omega) p).2
                          have q0 := fun p => (hS.cells (i := jm) (by omega) p).1
                          have q1 := fun p => (hS.cells (i := jm) (by omega) p).2
                          simp only [hxi] at p0 p1
                          simp only [hxj] at q0 q1
                          have HXI := Lib.hid hxi
                          have HXJ := Lib.hid hxj
                          clear hxi hxj
                          have hcv1 := fun W => of_any_I xi xj W
                          have HLv1 := Lib.hid (lessA_iff xi xj)
                          generalize cmpA xi xj = v1 at hcv1 HLv1
                          have HCv1 := Lib.hid hcv1
                          clear hcv1
                          by_cases hv : v1 < 0
                          · have HU2 : Hid (shiftDown lessA jm (swp dj j jm) = shiftDown lessA im d1) := by
                              show _ = _
                              exact (down_go (j := jm) (by omega) (by rw [HXI.out, HXJ.out, HLv1.out]; simp; omega)).symm.trans HU.out
                            go_wp2_with fail
                            refine wp_region_ext (by kernel_rfl) (by kernel_rfl) ?_
                            repeat (first | go_big_quiet_step ((go_at_call 62; exact Calls.ext_of (HCv1.out _))) | quiet_step ((go_at_call 62; exact Calls.ext_of (HCv1.out _))))
                            refine wpQuiet_nil ?_
                            intro w' hw'
                            obtain ⟨⟨W, hbW⟩, hw''⟩ := hw'
                            have hw3 : w' = W := hw''
                            subst hw3
                            have hS3 := hS.below hbW
                            clear hbW hw''
                            clear p0 p1 q0 q1 hS
                            obtain ⟨r1, s1', r2, s2'⟩ := hS3.own (i := j) (by omega)
                            obtain ⟨r3, s3', r4, s4'⟩ := hS3.own (i := jm) (by omega)
                            have hsw := hS3.swap (i := j) (j := jm) (by omega) (by omega)
                            rw [HXI.out] at r1 r2
                            rw [HXJ.out] at r3 r4
                            rw [HXI.out, HXJ.out] at hsw
                            have HSW := Lib.hid hsw
                            clear hsw hS3
                            go_wp2_with fail
                            go_region
                            all_goals go_wp2
                            exact ⟨⟨jm, swp dj j jm, rfl, by omega, by rw [size_swp]; exact HSJ.out, HSW.out, HU2⟩, by simp [intOf]; omega⟩
                          · have hvd : decide (v1 < 0) = false := by simp; omega
                            have HU2 : Hid (dj = shiftDown lessA im d1) := by
                              show _ = _
                              rw [← HU.out, down_stop (j := jm) (by omega) (by rw [HXI.out, HXJ.out, HLv1.out]; simp; omega)]
                            go_wp2_with fail
                            refine wp_region_ext (by kernel_rfl) (by kernel_rfl) ?_
                            repeat (first | go_big_quiet_step ((go_at_call 62; exact Calls.ext_of (HCv1.out _))) | quiet_step ((go_at_call 62; exact Calls.ext_of (HCv1.out _))))
                            refine wpQuiet_nil ?_
                            intro w' hw'
                            obtain ⟨⟨W, hbW⟩, hw''⟩ := hw'
                            have hw3 : w' = W := hw''
                            subst hw3
                            have hS3 := hS.below hbW
                            clear hbW hw''
                            clear p0 p1 q0 q1 hS
                            go_wp2_with fail
                            go_meet
                            exact (by unfold fixDown; rw [if_pos (by omega), him.out, ← HU2.out]; exact hS3)
                        · have hjz : ¬ (1 : Int) ≤ (j : Int) := by omega
                          have hjd : decide ((1 : Int) ≤ (j : Int)) = false := by simp; omega
                          have HU2 : Hid (dj = shiftDown lessA im d1) := by
                            show _ = _
                            rw [← HU.out, show j = 0 by omega]; rfl
                          go_wp2_with fail
                          go_meet
                          exact (by unfold fixDown; rw [if_pos (by omega), him.out, ← HU2.out]; exact hS)
                    · have h2z : ¬ (2 : Int) ≤ (ia : Int) := by omega
                      have h2d : decide ((2 : Int) ≤ (ia : Int)) = false := by simp; omega
                      go_wp2_with fail
                      go_meet
                      exact (by unfold fixDown; rw [if_neg (by omega)]; exact hS)
                  case rest =>
                    clear hS
                    have hS := hcut
                    clear hcut
                    have HSZ2 : Hid ((fixDown lessA a i d1).size = N) := by
                      show _ = _
                      unfold fixDown
                      split
                      · rw [down_size]; exact HSZ1.out
                      · exact HSZ1.out
                    have HSUCC := HSUCC0
                    clear HSUCC0 HSZ1 k3 k4
                    generalize fixDown lessA a i d1 = d2 at hS HSUCC HSZ2
                    by_cases h3 : 2 ≤ bi
                    · have h3z : (2 : Int) ≤ (bi : Int) := by omega
                      go_wp2
                      go_loopw [12] (fun vj wr => ∃ (j : Nat) (dj : Array (Int × Int)), vj = .int .i64 j ∧ i < j ∧ j ≤ b ∧ dj.size = N ∧ Srt w blk off dj wr ∧ Hid (shiftUp lessA b j dj = shiftUp lessA b (i + 1) d2)) (fun vj _ => b - (intOf vj).toNat)
                      case atStart => exact ⟨i + 1, d2, by go_num, by omega, by omega, HSZ2.out, hS, rfl⟩
                      case round =>
                        clear hS
                        obtain ⟨j, dj, rfl, u1, u2, hsj, hS, HU⟩ := hrel
                        have HSJ := Lib.hid hsj
                        have k7 : dj.size ≤ N := Nat.le_of_eq hsj
                        have k8 : N ≤ dj.size := Nat.le_of_eq hsj.symm
                        clear hsj
                        by_cases hjb : j < b
                        · have hjz : (j : Int) < (b : Int) := by omega
                          have hjN : (j : Int) < (N : Int) := by omega
                          obtain ⟨jm, y1, y2⟩ : ∃ n, n + 1 ≤ j ∧ j ≤ n + 1 := ⟨j - 1, by omega, by omega⟩
                          have ejm : (j : Int) - 1 = (jm : Int) := by omega
                          have ejmw : IntKind.i64.wrap ((j : Int) - 1) = (jm : Int) := by rw [IntKind.wrap_i64]; omega
                          have ejmv : IntKind.i64.wrap (jm : Int) = (jm : Int) := by rw [IntKind.wrap_i64]; omega
                          have hjm : Hid (j - 1 = jm) := by show _ = _; omega
                          have bjm : (jm : Int) < (N : Int) := by omega
                          obtain ⟨xi, hxi⟩ : ∃ x, dj[j]! = x := ⟨_, rfl⟩
                          obtain ⟨xj, hxj⟩ : ∃ x, dj[jm]! = x := ⟨_, rfl⟩
                          have p0 := fun p => (hS.cells (i := j) (by omega) p).1
                          have p1 := fun p => (hS.cells (i := j) (by omega) p).2
                          have q0 := fun p => (hS.cells (i := jm) (by omega) p).1
                          have q1 := fun p => (hS.cells (i := jm) (by omega) p).2
                          simp only [hxi] at p0 p1
                          simp only [hxj] at q0 q1
                          have HXI := Lib.hid hxi
                          have HXJ := Lib.hid hxj
                          clear hxi hxj
                          have hcv1 := fun W => of_any_I xi xj W
                          have HLv1 := Lib.hid (lessA_iff xi xj)
                          generalize cmpA xi xj = v1 at hcv1 HLv1
                          have HCv1 := Lib.hid hcv1
                          clear hcv1
                          by_cases hv : v1 < 0
                          · have HU2 : Hid (shiftUp lessA b (j + 1) (swp dj j jm) = shiftUp lessA b (i + 1) d2) := by
                              show _ = _
                              rw [← HU.out, up_go hjb (by rw [hjm.out, HXI.out, HXJ.out, HLv1.out]; simp; omega), hjm.out]
                            go_wp2_with fail
                            refine wp_region_ext (by kernel_rfl) (by kernel_rfl) ?_
                            repeat (first | go_big_quiet_step ((go_at_call 62; exact Calls.ext_of (HCv1.out _))) | quiet_step ((go_at_call 62; exact Calls.ext_of (HCv1.out _))))
                            refine wpQuiet_nil ?_
                            intro w' hw'
                            obtain ⟨⟨W, hbW⟩, hw''⟩ := hw'
                            have hw3 : w' = W := hw''
                            subst hw3
                            have hS3 := hS.below hbW
                            clear hbW hw''
                            clear p0 p1 q0 q1 hS
                            obtain ⟨r1, s1', r2, s2'⟩ := hS3.own (i := j) (by omega)
                            obtain ⟨r3, s3', r4, s4'⟩ := hS3.own (i := jm) (by omega)
                            have hsw := hS3.swap (i := j) (j := jm) (by omega) (by omega)
                            rw [HXI.out] at r1 r2
                            rw [HXJ.out] at r3 r4
                            rw [HXI.out, HXJ.out] at hsw
                            have HSW := Lib.hid hsw
                            clear hsw hS3
                            go_wp2_with fail
                            go_region
                            all_goals go_wp2
                            exact ⟨⟨j + 1, swp dj j jm, by go_num, by omega, by omega, by rw [size_swp]; exact HSJ.out, HSW.out, HU2⟩, by simp [intOf]; omega⟩
                          · have hvd : decide (v1 < 0) = false := by simp; omega
                            have HU2 : Hid (dj = shiftUp lessA b (i + 1) d2) := by
                              show _ = _
                              rw [← HU.out, up_stop hjb (by rw [hjm.out, HXI.out, HXJ.out, HLv1.out]; simp; omega)]
                            go_wp2_with fail
                            refine wp_region_ext (by kernel_rfl) (by kernel_rfl) ?_
                            repeat (first | go_big_quiet_step ((go_at_call 62; exact Calls.ext_of (HCv1.out _))) | quiet_step ((go_at_call 62; exact Calls.ext_of (HCv1.out _))))
                            refine wpQuiet_nil ?_
                            intro w' hw'
                            obtain ⟨⟨W, hbW⟩, hw''⟩ := hw'
                            have hw3 : w' = W := hw''
                            subst hw3
                            have hS3 := hS.below hbW
                            clear hbW hw''
                            clear p0 p1 q0 q1 hS
                            have hS := hS3
                            clear hS3
                            have HM2 : Hid (partialIns lessA a b s i dj = partialIns lessA a b 5 a1 d) := by show _ = _; rw [← HM.out, HSUCC.out, HU2.out]; unfold fixUp; rw [if_pos (by omega)]
                            go_wp2
                            exact ⟨⟨i, t + 1, dj, rfl, by go_num, by omega, by omega, by omega, HSJ.out, hS, by show _ = _; rw [← HM2.out]; congr 1; omega⟩, by simp [intOf]; omega⟩
                        · have hjz : ¬ (j : Int) < (b : Int) := by omega
                          have hjd : decide (j < b) = false := by simp; omega
                          have HU2 : Hid (dj = shiftUp lessA b (i + 1) d2) := by show _ = _; rw [← HU.out, up_end hjb]
                          have HM2 : Hid (partialIns lessA a b s i dj = partialIns lessA a b 5 a1 d) := by show _ = _; rw [← HM.out, HSUCC.out, HU2.out]; unfold fixUp; rw [if_pos (by omega)]
                          go_wp2
                          exact ⟨⟨i, t + 1, dj, rfl, by go_num, by omega, by omega, by omega, HSJ.out, hS, by show _ = _; rw [← HM2.out]; congr 1; omega⟩, by simp [intOf]; omega⟩
                    · have h3z : ¬ (2 : Int) ≤ (bi : Int) := by omega
                      have h3d : decide ((2 : Int) ≤ (bi : Int)) = false := by simp; omega
                      have HM2 : Hid (partialIns lessA a b s i d2 = partialIns lessA a b 5 a1 d) := by show _ = _; rw [← HM.out, HSUCC.out]; unfold fixUp; rw [if_neg (by omega)]
                      go_wp2
                      exact ⟨⟨i, t + 1, d2, rfl, by go_num, by omega, by omega, by omega, HSZ2.out, hS, by show _ = _; rw [← HM2.out]; congr 1; omega⟩, by simp [intOf]; omega⟩
          · have hle : i < b := by unfold soB at hT; simp at hT; exact hT.1
            have HM2 : Hid (scanSorted lessA dk b (i + 1) = scanSorted lessA dk b i1) := by show _ = _; rw [← HMS.out]; exact (sorted_go (lt := lessA) hT).symm
            have HT2 := Lib.hid hT
            go_wp2
            exact ⟨⟨i + 1, by go_num, by omega, by omega, hS, HM2⟩, by simp [intOf]; omega⟩
    · have htz : decide ((t : Int) < 5) = false := by simp; omega
      have HRES : Hid (partialInsertionSort lessA d a b = (dk, false)) := by
        show _ = _
        rw [HDEF.out, ← HM0.out, show 5 - t = 0 by omega]; rfl
      go_wp2
      go_ret
      exact ⟨ret_bool (by rw [HRES.out]), by rw [HRES.out]; exact hS⟩
end Go.Proofs.Ytgpejfkmdenonaa
