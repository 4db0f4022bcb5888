/- The sort of commands at times, by the bound method: the partition into those equal to one, and those greater. -/
import Derived.Test.YtgpejfkmdenonaaSortF
namespace Go.Proofs.Ytgpejfkmdenonaa
open Go.RowKit Go.Sort Go.Lib

def upE (d : Array (Int × Int)) (a j i : Nat) : Bool := decide (i ≤ j) && !lessA d[a]! d[i]!
def dnE (d : Array (Int × Int)) (a i j : Nat) : Bool := decide (i ≤ j) && lessA d[a]! d[j]!
theorem up_dnE {d : Array (Int × Int)} {a J i j : Nat} (h1 : upE d a J i = false) (h2 : dnE d a i j = false) (hJ : j ≤ J) (hij : i ≤ j) : i < j := by
  rcases Nat.lt_or_ge i j with h | h
  · exact h
  · obtain rfl : i = j := by omega
    unfold upE at h1
    unfold dnE at h2
    simp [hJ] at h1
    simp [h1] at h2
set_option maxRecDepth 100000 in
set_option maxHeartbeats 16000000 in
theorem parteq_any (blk off cap a b pv N : Nat) (d : Array (Int × Int)) (w : World) (hH : HoldsK encA_I 2 w blk off d) (hblk : blk < w.heap.size) (hN : d.size = N) (h1 : a ≤ pv) (h2 : pv < b) (hb : b ≤ N) (hsz : N ≤ 1000000) :
    Calls Try.prog 88 #[.slice (some ⟨blk, off, none⟩) N cap, .int .i64 a, .int .i64 b, .int .i64 pv, .func (.func 62) #[.agg #[]] #[]] w fun e w' => e = .returned (.int .i64 (partitionEqual lessA d a b pv).1) ∧ Srt w blk off (partitionEqual lessA d a b pv).2 w' := by
  have hS0 := Srt.refl hH hblk
  have HN := Lib.hid hN
  have k1 : d.size ≤ N := Nat.le_of_eq hN
  have k2 : N ≤ d.size := Nat.le_of_eq hN.symm
  clear hH hN
  have i1 : (a : Int) < (N : Int) := by omega
  have i2 : (pv : Int) < (N : Int) := by omega
  go_enter Try.func88, Try.ntmps88
  go_upto_region 1 with fail
  go_cut [] from 13 to 26 (fun wx => Srt w blk off (swp (d) a pv) wx)
  case first =>
    by_cases heq : a = pv
    · subst heq
      obtain ⟨x1, hx1⟩ : ∃ x, (d)[a]! = x := ⟨_, rfl⟩
      obtain ⟨a1, z1, a2, z2⟩ := hS0.own (i := a) (by omega)
      have hsw := hS0.swap (i := a) (j := a) (by omega) (by omega)
      rw [hx1] at a1 a2
      rw [hx1] at hsw
      clear hx1
      have HSW := Lib.hid hsw
      clear hsw
      go_wp2_with fail
      go_region
      all_goals go_wp2_with fail
      go_meet
      exact HSW.out
    · skip
      obtain ⟨x1, hx1⟩ : ∃ x, (d)[a]! = x := ⟨_, rfl⟩
      obtain ⟨a1, z1, a2, z2⟩ := hS0.own (i := a) (by omega)
      have hsw := hS0.swap (i := a) (j := pv) (by omega) (by omega)
      rw [hx1] at a1 a2
      obtain ⟨x2, hx2⟩ : ∃ x, (d)[pv]! = x := ⟨_, rfl⟩
      obtain ⟨a3, z3, a4, z4⟩ := hS0.own (i := pv) (by omega)
      rw [hx2] at a3 a4
      rw [hx1, hx2] at hsw
      clear hx1 hx2
      have HSW := Lib.hid hsw
      clear hsw
      go_wp2_with fail
      go_region
      all_goals go_wp2_with fail
      go_meet
      exact HSW.out
  case rest =>
    clear hS0
    have HSD : Hid ((swp d a pv).size = N) := by show _ = _; rw [size_swp]; exact HN.out
    have HDEF : Hid (partitionEqual lessA d a b pv = partEqLoop lessA a (a + 1) (b - 1) (swp d a pv)) := rfl
    generalize swp d a pv = d1 at hcut HDEF HSD
    obtain ⟨b1, w3, w4⟩ : ∃ n, n + 1 ≤ b ∧ b ≤ n + 1 := ⟨b - 1, by omega, by omega⟩
    obtain ⟨a1, w5, w6⟩ : ∃ n, n ≤ a + 1 ∧ a + 1 ≤ n := ⟨_, Nat.le_refl _, Nat.le_refl _⟩
    have hb1 : b - 1 = b1 := by omega
    have ha1 : a + 1 = a1 := by omega
    rw [hb1, ha1] at HDEF
    clear hb1 ha1
    have s1 : (b : Int) - 1 = (b1 : Int) := by omega
    have s2 : (a : Int) + 1 = (a1 : Int) := by omega
    go_wp2
    go_loopw [11, 12] (fun vi vj wr => ∃ (ii jj : Nat) (dk : Array (Int × Int)), vi = .int .i64 ii ∧ vj = .int .i64 jj ∧ a < ii ∧ ii ≤ jj + 1 ∧ jj < b ∧ dk.size = N ∧ Srt w blk off dk wr ∧ Hid (partEqLoop lessA a ii jj dk = partEqLoop lessA a a1 b1 d1)) (fun vi vj _ => (intOf vj + 1 - intOf vi).toNat)
    case atStart => exact ⟨a1, b1, d1, rfl, rfl, by omega, by omega, by omega, HSD.out, hcut, rfl⟩
    case round =>
      clear hcut
      obtain ⟨ii, jj, dk, rfl, rfl, c1, c2, c3, hsk, hS, HLOOP⟩ := hrel
      have HSK := Lib.hid hsk
      have k5 : dk.size ≤ N := Nat.le_of_eq hsk
      have k6 : N ≤ dk.size := Nat.le_of_eq hsk.symm
      clear hsk
      go_wp2
      go_loopw [11] (fun vv wr => ∃ i : Nat, vv = .int .i64 i ∧ (a < i ∧ ii ≤ i) ∧ i ≤ jj + 1 ∧ Srt w blk off dk wr ∧ Hid (scanUp (fun x => !lessA dk[a]! x) dk jj i = scanUp (fun x => !lessA dk[a]! x) dk jj ii)) (fun vv _ => jj + 1 - (intOf vv).toNat)
      case atStart => exact ⟨ii, rfl, by omega, by omega, hS, rfl⟩
      case round =>
        clear hS
        obtain ⟨i, rfl, hv1, hv2, hS, HM⟩ := hrel
        go_upto_region 3 with fail
        go_cut [47] from 31 to 49 (fun s wx => s = .bool (upE dk a jj i) ∧ Srt w blk off dk wx)
        case first =>
          by_cases hg : i ≤ jj
          · have hgz : (i : Int) ≤ (jj : Int) := by omega
            have hvN : (i : Int) < (N : Int) := by omega
            obtain ⟨xv, hxv⟩ : ∃ x, dk[i]! = x := ⟨_, rfl⟩
            obtain ⟨xa, hxa⟩ : ∃ x, dk[a]! = x := ⟨_, rfl⟩
            have p0 := fun p => (hS.cells (i := i) (by omega) p).1
            have p1 := fun p => (hS.cells (i := i) (by omega) p).2
            have q0 := fun p => (hS.cells (i := a) (by omega) p).1
            have q1 := fun p => (hS.cells (i := a) (by omega) p).2
            simp only [hxv] at p0 p1
            simp only [hxa] at q0 q1
            have hcv1 := fun W => of_any_I xa xv W
            have HLv1 := Lib.hid (lessA_iff xa xv)
            generalize cmpA xa xv = v1 at hcv1 HLv1
            have HCv1 := Lib.hid hcv1
            clear hcv1
            have HT : Hid (upE dk a jj i = (!decide (v1 < 0))) := by show _ = _; unfold upE; rw [hxv, hxa, HLv1.out]; simp [hg]
            clear hxv hxa
            by_cases hv : v1 < 0
            · skip
              go_wp2_with fail
              refine wp_region_ext (by kernel_rfl) (by kernel_rfl) ?_
              repeat (first | go_big_quiet_step ((go_at_call 62; exact Calls.ext_of (HCv1.out _))) | quiet_step ((go_at_call 62; exact Calls.ext_of (HCv1.out _))))
              refine wpQuiet_nil ?_
              intro w' hw'
              obtain ⟨⟨W, hbW⟩, hw''⟩ := hw'
              have hw3 : w' = W := hw''
              subst hw3
              have hS2 := hS.below hbW
              clear hbW hw''
              clear p0 p1 q0 q1
              go_wp2_with fail
              go_meet
              exact ⟨congrArg Value.bool (HT.out.trans (by simp [hv])).symm, hS2⟩
            · have hvd : decide (v1 < 0) = false := by simp; omega
              go_wp2_with fail
              refine wp_region_ext (by kernel_rfl) (by kernel_rfl) ?_
              repeat (first | go_big_quiet_step ((go_at_call 62; exact Calls.ext_of (HCv1.out _))) | quiet_step ((go_at_call 62; exact Calls.ext_of (HCv1.out _))))
              refine wpQuiet_nil ?_
              intro w' hw'
              obtain ⟨⟨W, hbW⟩, hw''⟩ := hw'
              have hw3 : w' = W := hw''
              subst hw3
              have hS2 := hS.below hbW
              clear hbW hw''
              clear p0 p1 q0 q1
              go_wp2_with fail
              go_meet
              exact ⟨congrArg Value.bool (HT.out.trans (by simp [hv])).symm, hS2⟩
          · have hgd : decide (i ≤ jj) = false := by simp; omega
            have hgz : ¬ (i : Int) ≤ (jj : Int) := by omega
            have HT : Hid (upE dk a jj i = false) := by show _ = _; unfold upE; simp [hg]
            go_wp2_with fail
            go_quiet (fail)
            go_wp2_with fail
            go_meet
            exact ⟨congrArg Value.bool HT.out.symm, hS.below (belDrewN (RowKit.Below.refl _ _) nq)⟩
        case rest =>
          clear hS
          obtain ⟨rfl, hS⟩ := hcut
          cases hT : upE dk a jj i
          · have HTi := Lib.hid hT
            have HEi : Hid (i = scanUp (fun x => !lessA dk[a]! x) dk jj ii) := by show _ = _; rw [← HM.out]; exact (scanUp_stop (p := fun x => !lessA dk[a]! x) (d := dk) hT).symm
            clear HM hT
            go_wp2
            go_loopw [12] (fun vv wr => ∃ j : Nat, vv = .int .i64 j ∧ j ≤ jj ∧ i ≤ j + 1 ∧ Srt w blk off dk wr ∧ Hid (scanDown (fun x => lessA dk[a]! x) dk i j = scanDown (fun x => lessA dk[a]! x) dk i jj)) (fun vv _ => (intOf vv).toNat)
            case atStart => exact ⟨jj, rfl, by omega, by omega, hS, rfl⟩
            case round =>
              clear hS
              obtain ⟨j, rfl, hv1, hv2, hS, HM⟩ := hrel
              go_upto_region 5 with fail
              go_cut [65] from 50 to 67 (fun s wx => s = .bool (dnE dk a i j) ∧ Srt w blk off dk wx)
              case first =>
                by_cases hg : i ≤ j
                · have hgz : (i : Int) ≤ (j : Int) := by omega
                  have hvN : (j : Int) < (N : Int) := by omega
                  obtain ⟨xv, hxv⟩ : ∃ x, dk[j]! = x := ⟨_, rfl⟩
                  obtain ⟨xa, hxa⟩ : ∃ x, dk[a]! = x := ⟨_, rfl⟩
                  have p0 := fun p => (hS.cells (i := j) (by omega) p).1
                  have p1 := fun p => (hS.cells (i := j) (by omega) p).2
                  have q0 := fun p => (hS.cells (i := a) (by omega) p).1
                  have q1 := fun p => (hS.cells (i := a) (by omega) p).2
                  simp only [hxv] at p0 p1
                  simp only [hxa] at q0 q1
                  have hcv1 := fun W => of_any_I xa xv W
                  have HLv1 := Lib.hid (lessA_iff xa xv)
                  generalize cmpA xa xv = v1 at hcv1 HLv1
                  have HCv1 := Lib.hid hcv1
                  clear hcv1
                  have HT : Hid (dnE dk a i j = (decide (v1 < 0))) := by show _ = _; unfold dnE; rw [hxv, hxa, HLv1.out]; simp [hg]
                  clear hxv hxa
                  by_cases hv : v1 < 0
                  · skip
                    go_wp2_with fail
                    refine wp_region_ext (by kernel_rfl) (by kernel_rfl) ?_
                    repeat (first | go_big_quiet_step ((go_at_call 62; exact Calls.ext_of (HCv1.out _))) | quiet_step ((go_at_call 62; exact Calls.ext_of (HCv1.out _))))
                    refine wpQuiet_nil ?_
                    intro w' hw'
                    obtain ⟨⟨W, hbW⟩, hw''⟩ := hw'
                    have hw3 : w' = W := hw''
                    subst hw3
                    have hS2 := hS.below hbW
                    clear hbW hw''
                    clear p0 p1 q0 q1
                    go_wp2_with fail
                    go_meet
                    exact ⟨congrArg Value.bool (HT.out.trans (by simp [hv])).symm, hS2⟩
                  · have hvd : decide (v1 < 0) = false := by simp; omega
                    go_wp2_with fail
                    refine wp_region_ext (by kernel_rfl) (by kernel_rfl) ?_
                    repeat (first | go_big_quiet_step ((go_at_call 62; exact Calls.ext_of (HCv1.out _))) | quiet_step ((go_at_call 62; exact Calls.ext_of (HCv1.out _))))
                    refine wpQuiet_nil ?_
                    intro w' hw'
                    obtain ⟨⟨W, hbW⟩, hw''⟩ := hw'
                    have hw3 : w' = W := hw''
                    subst hw3
                    have hS2 := hS.below hbW
                    clear hbW hw''
                    clear p0 p1 q0 q1
                    go_wp2_with fail
                    go_meet
                    exact ⟨congrArg Value.bool (HT.out.trans (by simp [hv])).symm, hS2⟩
                · have hgd : decide (i ≤ j) = false := by simp; omega
                  have hgz : ¬ (i : Int) ≤ (j : Int) := by omega
                  have HT : Hid (dnE dk a i j = false) := by show _ = _; unfold dnE; simp [hg]
                  go_wp2_with fail
                  go_quiet (fail)
                  go_wp2_with fail
                  go_meet
                  exact ⟨congrArg Value.bool HT.out.symm, hS.below (belDrewN (RowKit.Below.refl _ _) nq)⟩
              case rest =>
                clear hS
                obtain ⟨rfl, hS⟩ := hcut
                cases hT : dnE dk a i j
                · have HTj := Lib.hid hT
                  have HEj : Hid (j = scanDown (fun x => lessA dk[a]! x) dk i jj) := by show _ = _; rw [← HM.out]; exact (scanDown_stop (p := fun x => lessA dk[a]! x) (d := dk) hT).symm
                  clear HM hT
                  by_cases hij : j < i
                  · have hz : (j : Int) < (i : Int) := by omega
                    have HRES : Hid (partitionEqual lessA d a b pv = (i, dk)) := by
                      show _ = _
                      rw [HDEF.out, ← HLOOP.out, partEqLoop_eq, ← HEi.out, ← HEj.out, if_pos hij]
                    go_wp2
                    go_ret
                    exact ⟨ret_int (by rw [HRES.out]), by rw [HRES.out]; exact hS⟩
                  · have hz : ¬ (j : Int) < (i : Int) := by omega
                    have hzd : decide (j < i) = false := by simp; omega
                    have hlt : i < j := up_dnE HTi.out HTj.out hv1 (by omega)
                    have HL2 : Hid (partEqLoop lessA a (i + 1) (j - 1) (swp dk i j) = partEqLoop lessA a a1 b1 d1) := by
                      show _ = _
                      rw [← HLOOP.out, partEqLoop_eq lessA a ii jj dk, ← HEi.out, ← HEj.out, if_neg hij]
                    go_upto_region 8 with fail
                    go_cut [] from 31 to 88 (fun wx => Srt w blk off (swp (dk) i j) wx)
                    case first =>
                      obtain ⟨x1, hx1⟩ : ∃ x, (dk)[i]! = x := ⟨_, rfl⟩
                      obtain ⟨a1, z1, a2, z2⟩ := hS.own (i := i) (by omega)
                      have hsw := hS.swap (i := i) (j := j) (by omega) (by omega)
                      rw [hx1] at a1 a2
                      obtain ⟨x2, hx2⟩ : ∃ x, (dk)[j]! = x := ⟨_, rfl⟩
                      obtain ⟨a3, z3, a4, z4⟩ := hS.own (i := j) (by omega)
                      rw [hx2] at a3 a4
                      rw [hx1, hx2] at hsw
                      clear hx1 hx2
                      have HSW := Lib.hid hsw
                      clear hsw
                      go_wp2_with fail
                      go_region
                      all_goals go_wp2_with fail
                      go_meet
                      exact HSW.out
                    case rest =>
                      obtain ⟨j0, w1, w2⟩ : ∃ n, n + 1 ≤ j ∧ j ≤ n + 1 := ⟨j - 1, by omega, by omega⟩
                      have s9 : (j : Int) - 1 = (j0 : Int) := by omega
                      have HJ0 : Hid (j - 1 = j0) := by show _ = _; omega
                      rw [HJ0.out] at HL2
                      clear hS
                      go_wp2
                      exact ⟨⟨i + 1, j0, swp dk i j, by go_num, rfl, by omega, by omega, by omega, by rw [size_swp]; exact HSK.out, hcut, HL2⟩, by simp [intOf]; omega⟩
                · have hle : i ≤ j := by unfold dnE at hT; simp at hT; exact hT.1
                  obtain ⟨j0, w1, w2⟩ : ∃ n, n + 1 ≤ j ∧ j ≤ n + 1 := ⟨j - 1, by omega, by omega⟩
                  have s9 : (j : Int) - 1 = (j0 : Int) := by omega
                  have HM2 : Hid (scanDown (fun x => lessA dk[a]! x) dk i j0 = scanDown (fun x => lessA dk[a]! x) dk i jj) := by show _ = _; rw [← HM.out]; exact (scanDown_go (p := fun x => lessA dk[a]! x) (d := dk) (by omega) hT).symm
                  have HT2 := Lib.hid hT
                  go_wp2
                  exact ⟨⟨j0, rfl, by omega, by omega, hS, HM2⟩, by simp [intOf]; omega⟩
          · have hle : i ≤ jj := by unfold upE at hT; simp at hT; exact hT.1
            have HM2 : Hid (scanUp (fun x => !lessA dk[a]! x) dk jj (i + 1) = scanUp (fun x => !lessA dk[a]! x) dk jj ii) := by show _ = _; rw [← HM.out]; exact (scanUp_go (p := fun x => !lessA dk[a]! x) (d := dk) hT).symm
            have HT2 := Lib.hid hT
            go_wp2
            exact ⟨⟨i + 1, by go_num, by omega, by omega, hS, HM2⟩, by simp [intOf]; omega⟩
end Go.Proofs.Ytgpejfkmdenonaa
