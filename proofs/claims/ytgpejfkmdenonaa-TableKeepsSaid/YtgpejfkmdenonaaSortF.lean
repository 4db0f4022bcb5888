/- The sort of commands at times, by the bound method: the partition. -/
import Derived.Test.YtgpejfkmdenonaaSortA
import Derived.Deep.CutRange
import Derived.Deep.CutBlock
namespace Go.Proofs.Ytgpejfkmdenonaa
open Go.RowKit Go.Sort Go.Lib

section
variable {α : Type} [Inhabited α] {p : α → Bool} {d : Array α} {i j j0 : Nat}
theorem scanUp_stop (h : (decide (i ≤ j) && p d[i]!) = false) : scanUp p d j i = i := by rw [scanUp, h]; rfl
theorem scanUp_go (h : (decide (i ≤ j) && p d[i]!) = true) : scanUp p d j i = scanUp p d j (i + 1) := by rw [scanUp, h]; rfl
theorem scanDown_stop (h : (decide (i ≤ j) && p d[j]!) = false) : scanDown p d i j = j := by
  cases j with
  | zero => rfl
  | succ j => unfold scanDown; rw [h]; rfl
theorem scanDown_go (hj : j = j0 + 1) (h : (decide (i ≤ j) && p d[j]!) = true) : scanDown p d i j = scanDown p d i j0 := by
  subst hj; unfold scanDown; rw [h]; cases j0 <;> rfl
end
def upB (d : Array (Int × Int)) (a j i : Nat) : Bool := decide (i ≤ j) && lessA d[i]! d[a]!
def dnB (d : Array (Int × Int)) (a i j : Nat) : Bool := decide (i ≤ j) && !lessA d[j]! d[a]!
theorem up_dn {d : Array (Int × Int)} {a J i j : Nat} (h1 : upB d a J i = false) (h2 : dnB d a i j = false) (hJ : j ≤ J) (hij : i ≤ j) : i < j := by
  rcases Nat.lt_or_ge i j with h | h
  · exact h
  · obtain rfl : i = j := by omega
    unfold upB at h1
    unfold dnB at h2
    simp [hJ] at h1
    simp [h1] at h2
set_option maxRecDepth 100000 in
set_option maxHeartbeats 16000000 in
theorem part_any (blk off cap a b pv N : Nat) (d : Array (Int × Int)) (w : World) (hH : HoldsK encA_I 2 w blk off d) (hblk : blk < w.heap.size) (hN : d.size = N) (h1 : a ≤ pv) (h2 : pv < b) (hb : b ≤ N) (hsz : N ≤ 1000000) :
    Calls Try.prog 89 #[.slice (some ⟨blk, off, none⟩) N cap, .int .i64 a, .int .i64 b, .int .i64 pv, .func (.func 62) #[.agg #[]] #[]] w fun e w' => e = .returned (.tuple #[.int .i64 (partition lessA d a b pv).1, .bool (partition lessA d a b pv).2.1]) ∧ Srt w blk off (partition lessA d a b pv).2.2 w' := by
  have hS0 := Srt.refl hH hblk
  have HN := Lib.hid hN
  have k1 : d.size ≤ N := Nat.le_of_eq hN
  have k2 : N ≤ d.size := Nat.le_of_eq hN.symm
  clear hH hN
  have i1 : (a : Int) < (N : Int) := by omega
  have i2 : (pv : Int) < (N : Int) := by omega
  go_enter Try.func89, Try.ntmps89
  go_upto_region 1 with fail
  go_cut [] from 14 to 27 (fun wx => Srt w blk off (swp (d) a pv) wx)
  case first =>
    by_cases heq : a = pv
    · subst heq
      obtain ⟨x1, hx1⟩ : ∃ x, (d)[a]! = x := ⟨_, rfl⟩
      obtain ⟨a1, z1, a2, z2⟩ := hS0.own (i := a) (by omega)
      have hsw := hS0.swap (i := a) (j := a) (by omega) (by omega)
      rw [hx1] at a1 a2
      rw [hx1] at hsw
      clear hx1
      have HSW := Lib.hid hsw
      clear hsw
      go_wp2_with fail
      go_region
      all_goals go_wp2_with fail
      go_meet
      exact HSW.out
    · skip
      obtain ⟨x1, hx1⟩ : ∃ x, (d)[a]! = x := ⟨_, rfl⟩
      obtain ⟨a1, z1, a2, z2⟩ := hS0.own (i := a) (by omega)
      have hsw := hS0.swap (i := a) (j := pv) (by omega) (by omega)
      rw [hx1] at a1 a2
      obtain ⟨x2, hx2⟩ : ∃ x, (d)[pv]! = x := ⟨_, rfl⟩
      obtain ⟨a3, z3, a4, z4⟩ := hS0.own (i := pv) (by omega)
      rw [hx2] at a3 a4
      rw [hx1, hx2] at hsw
      clear hx1 hx2
      have HSW := Lib.hid hsw
      clear hsw
      go_wp2_with fail
      go_region
      all_goals go_wp2_with fail
      go_meet
      exact HSW.out
  case rest =>
    clear hS0
    have hS := hcut
    clear hcut
    have HSD0 : Hid ((swp d a pv).size = N) := by show _ = _; rw [size_swp]; exact HN.out
    have HDEF : Hid (partition lessA d a b pv = (if scanUp (fun x => lessA x (swp d a pv)[a]!) (swp d a pv) (b - 1) (a + 1) > scanDown (fun x => !lessA x (swp d a pv)[a]!) (swp d a pv) (scanUp (fun x => lessA x (swp d a pv)[a]!) (swp d a pv) (b - 1) (a + 1)) (b - 1) then (scanDown (fun x => !lessA x (swp d a pv)[a]!) (swp d a pv) (scanUp (fun x => lessA x (swp d a pv)[a]!) (swp d a pv) (b - 1) (a + 1)) (b - 1), true, swp (swp d a pv) (scanDown (fun x => !lessA x (swp d a pv)[a]!) (swp d a pv) (scanUp (fun x => lessA x (swp d a pv)[a]!) (swp d a pv) (b - 1) (a + 1)) (b - 1)) a) else
        ((partLoop lessA a (scanUp (fun x => lessA x (swp d a pv)[a]!) (swp d a pv) (b - 1) (a + 1) + 1) (scanDown (fun x => !lessA x (swp d a pv)[a]!) (swp d a pv) (scanUp (fun x => lessA x (swp d a pv)[a]!) (swp d a pv) (b - 1) (a + 1)) (b - 1) - 1) (swp (swp d a pv) (scanUp (fun x => lessA x (swp d a pv)[a]!) (swp d a pv) (b - 1) (a + 1)) (scanDown (fun x => !lessA x (swp d a pv)[a]!) (swp d a pv) (scanUp (fun x => lessA x (swp d a pv)[a]!) (swp d a pv) (b - 1) (a + 1)) (b - 1)))).1, false,
          swp (partLoop lessA a (scanUp (fun x => lessA x (swp d a pv)[a]!) (swp d a pv) (b - 1) (a + 1) + 1) (scanDown (fun x => !lessA x (swp d a pv)[a]!) (swp d a pv) (scanUp (fun x => lessA x (swp d a pv)[a]!) (swp d a pv) (b - 1) (a + 1)) (b - 1) - 1) (swp (swp d a pv) (scanUp (fun x => lessA x (swp d a pv)[a]!) (swp d a pv) (b - 1) (a + 1)) (scanDown (fun x => !lessA x (swp d a pv)[a]!) (swp d a pv) (scanUp (fun x => lessA x (swp d a pv)[a]!) (swp d a pv) (b - 1) (a + 1)) (b - 1)))).2 (partLoop lessA a (scanUp (fun x => lessA x (swp d a pv)[a]!) (swp d a pv) (b - 1) (a + 1) + 1) (scanDown (fun x => !lessA x (swp d a pv)[a]!) (swp d a pv) (scanUp (fun x => lessA x (swp d a pv)[a]!) (swp d a pv) (b - 1) (a + 1)) (b - 1) - 1) (swp (swp d a pv) (scanUp (fun x => lessA x (swp d a pv)[a]!) (swp d a pv) (b - 1) (a + 1)) (scanDown (fun x => !lessA x (swp d a pv)[a]!) (swp d a pv) (scanUp (fun x => lessA x (swp d a pv)[a]!) (swp d a pv) (b - 1) (a + 1)) (b - 1)))).1 a))) := rfl
    generalize swp d a pv = d1 at hS HDEF HSD0
    have HSD := HSD0
    have k3 : d1.size ≤ N := Nat.le_of_eq HSD.out
    have k4 : N ≤ d1.size := Nat.le_of_eq HSD.out.symm
    obtain ⟨b1, w3, w4⟩ : ∃ n, n + 1 ≤ b ∧ b ≤ n + 1 := ⟨b - 1, by omega, by omega⟩
    obtain ⟨a1, w5, w6⟩ : ∃ n, n ≤ a + 1 ∧ a + 1 ≤ n := ⟨_, Nat.le_refl _, Nat.le_refl _⟩
    have hb1 : b - 1 = b1 := by omega
    have ha1 : a + 1 = a1 := by omega
    rw [hb1, ha1] at HDEF
    clear hb1 ha1
    have s1 : (b : Int) - 1 = (b1 : Int) := by omega
    have s2 : (a : Int) + 1 = (a1 : Int) := by omega
    go_wp2
    go_loopw [12] (fun vv wr => ∃ i : Nat, vv = .int .i64 i ∧ (a < i ∧ a1 ≤ i) ∧ i ≤ b1 + 1 ∧ Srt w blk off d1 wr ∧ Hid (scanUp (fun x => lessA x d1[a]!) d1 b1 i = scanUp (fun x => lessA x d1[a]!) d1 b1 a1)) (fun vv _ => b1 + 1 - (intOf vv).toNat)
    case atStart => exact ⟨a1, rfl, by omega, by omega, hS, rfl⟩
    case round =>
      clear hS
      obtain ⟨i, rfl, hv1, hv2, hS, HM⟩ := hrel
      go_upto_region 3 with fail
      go_cut [47] from 32 to 49 (fun s wx => s = .bool (upB d1 a b1 i) ∧ Srt w blk off d1 wx)
      case first =>
        by_cases hg : i ≤ b1
        · have hgz : (i : Int) ≤ (b1 : Int) := by omega
          have hvN : (i : Int) < (N : Int) := by omega
          obtain ⟨xv, hxv⟩ : ∃ x, d1[i]! = x := ⟨_, rfl⟩
          obtain ⟨xa, hxa⟩ : ∃ x, d1[a]! = x := ⟨_, rfl⟩
          have p0 := fun p => (hS.cells (i := i) (by omega) p).1
          have p1 := fun p => (hS.cells (i := i) (by omega) p).2
          have q0 := fun p => (hS.cells (i := a) (by omega) p).1
          have q1 := fun p => (hS.cells (i := a) (by omega) p).2
          simp only [hxv] at p0 p1
          simp only [hxa] at q0 q1
          have hcv1 := fun W => of_any_I xv xa W
          have HLv1 := Lib.hid (lessA_iff xv xa)
          generalize cmpA xv xa = v1 at hcv1 HLv1
          have HCv1 := Lib.hid hcv1
          clear hcv1
          have HT : Hid (upB d1 a b1 i = (decide (v1 < 0))) := by show _ = _; unfold upB; rw [hxv, hxa, HLv1.out]; simp [hg]
          clear hxv hxa
          by_cases hv : v1 < 0
          · skip
            go_wp2_with fail
            refine wp_region_ext (by kernel_rfl) (by kernel_rfl) ?_
            repeat (first | go_big_quiet_step ((go_at_call 62; exact Calls.ext_of (HCv1.out _))) | quiet_step ((go_at_call 62; exact Calls.ext_of (HCv1.out _))))
            refine wpQuiet_nil ?_
            intro w' hw'
            obtain ⟨⟨W, hbW⟩, hw''⟩ := hw'
            have hw3 : w' = W := hw''
            subst hw3
            have hS2 := hS.below hbW
            clear hbW hw''
            clear p0 p1 q0 q1
            go_wp2_with fail
            go_meet
            exact ⟨congrArg Value.bool (HT.out.trans (by simp [hv])).symm, hS2⟩
          · have hvd : decide (v1 < 0) = false := by simp; omega
            go_wp2_with fail
            refine wp_region_ext (by kernel_rfl) (by kernel_rfl) ?_
            repeat (first | go_big_quiet_step ((go_at_call 62; exact Calls.ext_of (HCv1.out _))) | quiet_step ((go_at_call 62; exact Calls.ext_of (HCv1.out _))))
            refine wpQuiet_nil ?_
            intro w' hw'
            obtain ⟨⟨W, hbW⟩, hw''⟩ := hw'
            have hw3 : w' = W := hw''
            subst hw3
            have hS2 := hS.below hbW
            clear hbW hw''
            clear p0 p1 q0 q1
            go_wp2_with fail
            go_meet
            exact ⟨congrArg Value.bool (HT.out.trans (by simp [hv])).symm, hS2⟩
        · have hgd : decide (i ≤ b1) = false := by simp; omega
          have hgz : ¬ (i : Int) ≤ (b1 : Int) := by omega
          have HT : Hid (upB d1 a b1 i = false) := by show _ = _; unfold upB; simp [hg]
          go_wp2_with fail
          go_quiet (fail)
          go_wp2_with fail
          go_meet
          exact ⟨congrArg Value.bool HT.out.symm, hS.below (belDrewN (RowKit.Below.refl _ _) nq)⟩
      case rest =>
        clear hS
        obtain ⟨rfl, hS⟩ := hcut
        cases hT : upB d1 a b1 i
        · have HTi := Lib.hid hT
          have HEi : Hid (i = scanUp (fun x => lessA x d1[a]!) d1 b1 a1) := by show _ = _; rw [← HM.out]; exact (scanUp_stop (p := fun x => lessA x d1[a]!) (d := d1) hT).symm
          clear HM hT
          go_wp2
          go_loopw [13] (fun vv wr => ∃ j : Nat, vv = .int .i64 j ∧ j ≤ b1 ∧ i ≤ j + 1 ∧ Srt w blk off d1 wr ∧ Hid (scanDown (fun x => !lessA x d1[a]!) d1 i j = scanDown (fun x => !lessA x d1[a]!) d1 i b1)) (fun vv _ => (intOf vv).toNat)
          case atStart => exact ⟨b1, rfl, by omega, by omega, hS, rfl⟩
          case round =>
            clear hS
            obtain ⟨j, rfl, hv1, hv2, hS, HM⟩ := hrel
            go_upto_region 5 with fail
            go_cut [66] from 50 to 68 (fun s wx => s = .bool (dnB d1 a i j) ∧ Srt w blk off d1 wx)
            case first =>
              by_cases hg : i ≤ j
              · have hgz : (i : Int) ≤ (j : Int) := by omega
                have hvN : (j : Int) < (N : Int) := by omega
                obtain ⟨xv, hxv⟩ : ∃ x, d1[j]! = x := ⟨_, rfl⟩
                obtain ⟨xa, hxa⟩ : ∃ x, d1[a]! = x := ⟨_, rfl⟩
                have p0 := fun p => (hS.cells (i := j) (by omega) p).1
                have p1 := fun p => (hS.cells (i := j) (by omega) p).2
                have q0 := fun p => (hS.cells (i := a) (by omega) p).1
                have q1 := fun p => (hS.cells (i := a) (by omega) p).2
                simp only [hxv] at p0 p1
                simp only [hxa] at q0 q1
                have hcv1 := fun W => of_any_I xv xa W
                have HLv1 := Lib.hid (lessA_iff xv xa)
                generalize cmpA xv xa = v1 at hcv1 HLv1
                have HCv1 := Lib.hid hcv1
                clear hcv1
                have HT : Hid (dnB d1 a i j = (!decide (v1 < 0))) := by show _ = _; unfold dnB; rw [hxv, hxa, HLv1.out]; simp [hg]
                clear hxv hxa
                by_cases hv : v1 < 0
                · skip
                  go_wp2_with fail
                  refine wp_region_ext (by kernel_rfl) (by kernel_rfl) ?_
                  repeat (first | go_big_quiet_step ((go_at_call 62; exact Calls.ext_of (HCv1.out _))) | quiet_step ((go_at_call 62; exact Calls.ext_of (HCv1.out _))))
                  refine wpQuiet_nil ?_
                  intro w' hw'
                  obtain ⟨⟨W, hbW⟩, hw''⟩ := hw'
                  have hw3 : w' = W := hw''
                  subst hw3
                  have hS2 := hS.below hbW
                  clear hbW hw''
                  clear p0 p1 q0 q1
                  go_wp2_with fail
                  go_meet
                  exact ⟨congrArg Value.bool (HT.out.trans (by simp [hv])).symm, hS2⟩
                · have hvd : decide (v1 < 0) = false := by simp; omega
                  go_wp2_with fail
                  refine wp_region_ext (by kernel_rfl) (by kernel_rfl) ?_
                  repeat (first | go_big_quiet_step ((go_at_call 62; exact Calls.ext_of (HCv1.out _))) | quiet_step ((go_at_call 62; exact Calls.ext_of (HCv1.out _))))
                  refine wpQuiet_nil ?_
                  intro w' hw'
                  obtain ⟨⟨W, hbW⟩, hw''⟩ := hw'
                  have hw3 : w' = W := hw''
                  subst hw3
                  have hS2 := hS.below hbW
                  clear hbW hw''
                  clear p0 p1 q0 q1
                  go_wp2_with fail
                  go_meet
                  exact ⟨congrArg Value.bool (HT.out.trans (by simp [hv])).symm, hS2⟩
              · have hgd : decide (i ≤ j) = false := by simp; omega
                have hgz : ¬ (i : Int) ≤ (j : Int) := by omega
                have HT : Hid (dnB d1 a i j = false) := by show _ = _; unfold dnB; simp [hg]
                go_wp2_with fail
                go_quiet (fail)
                go_wp2_with fail
                go_meet
                exact ⟨congrArg Value.bool HT.out.symm, hS.below (belDrewN (RowKit.Below.refl _ _) nq)⟩
            case rest =>
              clear hS
              obtain ⟨rfl, hS⟩ := hcut
              cases hT : dnB d1 a i j
              · have HTj := Lib.hid hT
                have HEj : Hid (j = scanDown (fun x => !lessA x d1[a]!) d1 i b1) := by show _ = _; rw [← HM.out]; exact (scanDown_stop (p := fun x => !lessA x d1[a]!) (d := d1) hT).symm
                clear HM hT
                by_cases hij : j < i
                · have hz : (j : Int) < (i : Int) := by omega
                  have HRES : Hid (partition lessA d a b pv = (j, true, swp d1 j a)) := by
                    show _ = _
                    rw [HDEF.out, ← HEi.out, ← HEj.out, if_pos hij]
                  go_upto_region 8 with fail
                  go_cut [] from 72 to 85 (fun wx => Srt w blk off (swp (d1) j a) wx)
                  case first =>
                    by_cases heq : j = a
                    · subst heq
                      obtain ⟨x1, hx1⟩ : ∃ x, (d1)[j]! = x := ⟨_, rfl⟩
                      obtain ⟨a1, z1, a2, z2⟩ := hS.own (i := j) (by omega)
                      have hsw := hS.swap (i := j) (j := j) (by omega) (by omega)
                      rw [hx1] at a1 a2
                      rw [hx1] at hsw
                      clear hx1
                      have HSW := Lib.hid hsw
                      clear hsw
                      go_wp2_with fail
                      go_region
                      all_goals go_wp2_with fail
                      go_meet
                      exact HSW.out
                    · skip
                      obtain ⟨x1, hx1⟩ : ∃ x, (d1)[j]! = x := ⟨_, rfl⟩
                      obtain ⟨a1, z1, a2, z2⟩ := hS.own (i := j) (by omega)
                      have hsw := hS.swap (i := j) (j := a) (by omega) (by omega)
                      rw [hx1] at a1 a2
                      obtain ⟨x2, hx2⟩ : ∃ x, (d1)[a]! = x := ⟨_, rfl⟩
                      obtain ⟨a3, z3, a4, z4⟩ := hS.own (i := a) (by omega)
                      rw [hx2] at a3 a4
                      rw [hx1, hx2] at hsw
                      clear hx1 hx2
                      have HSW := Lib.hid hsw
                      clear hsw
                      go_wp2_with fail
                      go_region
                      all_goals go_wp2_with fail
                      go_meet
                      exact HSW.out
                  case rest =>
                    go_wp2
                    exact bodyPost_ret (v := .tuple #[.int .i64 j, .bool true]) (by simp [results, Try.results89, go_sem]) rfl ⟨by rw [HRES.out], by rw [HRES.out]; exact hcut⟩
                · have hz : ¬ (j : Int) < (i : Int) := by omega
                  have hzd : decide (j < i) = false := by simp; omega
                  have hlt : i < j := up_dn HTi.out HTj.out hv1 (by omega)
                  obtain ⟨J3, w1, w2⟩ : ∃ n, n + 1 ≤ j ∧ j ≤ n + 1 := ⟨j - 1, by omega, by omega⟩
                  have s9 : (j : Int) - 1 = (J3 : Int) := by omega
                  have HPART : Hid (partition lessA d a b pv = ((partLoop lessA a (i + 1) J3 (swp d1 i j)).1, false, swp (partLoop lessA a (i + 1) J3 (swp d1 i j)).2 (partLoop lessA a (i + 1) J3 (swp d1 i j)).1 a)) := by
                    show _ = _
                    rw [HDEF.out, ← HEi.out, ← HEj.out, if_neg hij, show j - 1 = J3 by omega]
                  go_upto_region 10 with fail
                  go_cut [] from 87 to 100 (fun wx => Srt w blk off (swp (d1) i j) wx)
                  case first =>
                    obtain ⟨x1, hx1⟩ : ∃ x, (d1)[i]! = x := ⟨_, rfl⟩
                    obtain ⟨a1, z1, a2, z2⟩ := hS.own (i := i) (by omega)
                    have hsw := hS.swap (i := i) (j := j) (by omega) (by omega)
                    rw [hx1] at a1 a2
                    obtain ⟨x2, hx2⟩ : ∃ x, (d1)[j]! = x := ⟨_, rfl⟩
                    obtain ⟨a3, z3, a4, z4⟩ := hS.own (i := j) (by omega)
                    rw [hx2] at a3 a4
                    rw [hx1, hx2] at hsw
                    clear hx1 hx2
                    have HSW := Lib.hid hsw
                    clear hsw
                    go_wp2_with fail
                    go_region
                    all_goals go_wp2_with fail
                    go_meet
                    exact HSW.out
                  case rest =>
                    clear hS
                    generalize i = I2 at *
                    generalize j = J2 at *
                    go_wp2
                    have HSZ2 : Hid ((swp d1 I2 J2).size = N) := by show _ = _; rw [size_swp]; exact HSD.out
                    go_loopw [12, 13] (fun vi vj wr => ∃ (ii jj : Nat) (dk : Array (Int × Int)), vi = .int .i64 ii ∧ vj = .int .i64 jj ∧ a < ii ∧ ii ≤ jj + 1 ∧ jj < b ∧ dk.size = N ∧ Srt w blk off dk wr ∧ Hid (partLoop lessA a ii jj dk = partLoop lessA a (I2 + 1) J3 (swp d1 I2 J2))) (fun vi vj _ => (intOf vj + 1 - intOf vi).toNat)
                    case atStart => exact ⟨I2 + 1, J3, swp d1 I2 J2, by go_num, rfl, by omega, by omega, by omega, HSZ2.out, hcut, rfl⟩
                    case round =>
                      clear hcut
                      obtain ⟨ii, jj, dk, rfl, rfl, c1, c2, c3, hsk, hS, HLOOP⟩ := hrel
                      have HSK := Lib.hid hsk
                      have k5 : dk.size ≤ N := Nat.le_of_eq hsk
                      have k6 : N ≤ dk.size := Nat.le_of_eq hsk.symm
                      clear hsk
                      go_wp2
                      go_loopw [12] (fun vv wr => ∃ i : Nat, vv = .int .i64 i ∧ (a < i ∧ ii ≤ i) ∧ i ≤ jj + 1 ∧ Srt w blk off dk wr ∧ Hid (scanUp (fun x => lessA x dk[a]!) dk jj i = scanUp (fun x => lessA x dk[a]!) dk jj ii)) (fun vv _ => jj + 1 - (intOf vv).toNat)
                      case atStart => exact ⟨ii, rfl, by omega, by omega, hS, rfl⟩
                      case round =>
                        clear hS
                        obtain ⟨i, rfl, hv1, hv2, hS, HM⟩ := hrel
                        go_upto_region 13 with fail
                        go_cut [120] from 105 to 122 (fun s wx => s = .bool (upB dk a jj i) ∧ Srt w blk off dk wx)
                        case first =>
                          by_cases hg : i ≤ jj
                          · have hgz : (i : Int) ≤ (jj : Int) := by omega
                            have hvN : (i : Int) < (N : Int) := by omega
                            obtain ⟨xv, hxv⟩ : ∃ x, dk[i]! = x := ⟨_, rfl⟩
                            obtain ⟨xa, hxa⟩ : ∃ x, dk[a]! = x := ⟨_, rfl⟩
                            have p0 := fun p => (hS.cells (i := i) (by omega) p).1
                            have p1 := fun p => (hS.cells (i := i) (by omega) p).2
                            have q0 := fun p => (hS.cells (i := a) (by omega) p).1
                            have q1 := fun p => (hS.cells (i := a) (by omega) p).2
                            simp only [hxv] at p0 p1
                            simp only [hxa] at q0 q1
                            have hcv1 := fun W => of_any_I xv xa W
                            have HLv1 := Lib.hid (lessA_iff xv xa)
                            generalize cmpA xv xa = v1 at hcv1 HLv1
                            have HCv1 := Lib.hid hcv1
                            clear hcv1
                            have HT : Hid (upB dk a jj i = (decide (v1 < 0))) := by show _ = _; unfold upB; rw [hxv, hxa, HLv1.out]; simp [hg]
                            clear hxv hxa
                            by_cases hv : v1 < 0
                            · skip
                              go_wp2_with fail
                              refine wp_region_ext (by kernel_rfl) (by kernel_rfl) ?_
                              repeat (first | go_big_quiet_step ((go_at_call 62; exact Calls.ext_of (HCv1.out _))) | quiet_step ((go_at_call 62; exact Calls.ext_of (HCv1.out _))))
                              refine wpQuiet_nil ?_
                              intro w' hw'
                              obtain ⟨⟨W, hbW⟩, hw''⟩ := hw'
                              have hw3 : w' = W := hw''
                              subst hw3
                              have hS2 := hS.below hbW
                              clear hbW hw''
                              clear p0 p1 q0 q1
                              go_wp2_with fail
                              go_meet
                              exact ⟨congrArg Value.bool (HT.out.trans (by simp [hv])).symm, hS2⟩
                            · have hvd : decide (v1 < 0) = false := by simp; omega
                              go_wp2_with fail
                              refine wp_region_ext (by kernel_rfl) (by kernel_rfl) ?_
                              repeat (first | go_big_quiet_step ((go_at_call 62; exact Calls.ext_of (HCv1.out _))) | quiet_step ((go_at_call 62; exact Calls.ext_of (HCv1.out _))))
                              refine wpQuiet_nil ?_
                              intro w' hw'
                              obtain ⟨⟨W, hbW⟩, hw''⟩ := hw'
                              have hw3 : w' = W := hw''
                              subst hw3
                              have hS2 := hS.below hbW
                              clear hbW hw''
                              clear p0 p1 q0 q1
                              go_wp2_with fail
                              go_meet
                              exact ⟨congrArg Value.bool (HT.out.trans (by simp [hv])).symm, hS2⟩
                          · have hgd : decide (i ≤ jj) = false := by simp; omega
                            have hgz : ¬ (i : Int) ≤ (jj : Int) := by omega
                            have HT : Hid (upB dk a jj i = false) := by show _ = _; unfold upB; simp [hg]
                            go_wp2_with fail
                            go_quiet (fail)
                            go_wp2_with fail
                            go_meet
                            exact ⟨congrArg Value.bool HT.out.symm, hS.below (belDrewN (RowKit.Below.refl _ _) nq)⟩
                        case rest =>
                          clear hS
                          obtain ⟨rfl, hS⟩ := hcut
                          cases hT : upB dk a jj i
                          · have HTi := Lib.hid hT
                            have HEi : Hid (i = scanUp (fun x => lessA x dk[a]!) dk jj ii) := by show _ = _; rw [← HM.out]; exact (scanUp_stop (p := fun x => lessA x dk[a]!) (d := dk) hT).symm
                            clear HM hT
                            go_wp2
                            go_loopw [13] (fun vv wr => ∃ j : Nat, vv = .int .i64 j ∧ j ≤ jj ∧ i ≤ j + 1 ∧ Srt w blk off dk wr ∧ Hid (scanDown (fun x => !lessA x dk[a]!) dk i j = scanDown (fun x => !lessA x dk[a]!) dk i jj)) (fun vv _ => (intOf vv).toNat)
                            case atStart => exact ⟨jj, rfl, by omega, by omega, hS, rfl⟩
                            case round =>
                              clear hS
                              obtain ⟨j, rfl, hv1, hv2, hS, HM⟩ := hrel
                              go_upto_region 15 with fail
                              go_cut [139] from 123 to 141 (fun s wx => s = .bool (dnB dk a i j) ∧ Srt w blk off dk wx)
                              case first =>
                                by_cases hg : i ≤ j
                                · have hgz : (i : Int) ≤ (j : Int) := by omega
                                  have hvN : (j : Int) < (N : Int) := by omega
                                  obtain ⟨xv, hxv⟩ : ∃ x, dk[j]! = x := ⟨_, rfl⟩
                                  obtain ⟨xa, hxa⟩ : ∃ x, dk[a]! = x := ⟨_, rfl⟩
                                  have p0 := fun p => (hS.cells (i := j) (by omega) p).1
                                  have p1 := fun p => (hS.cells (i := j) (by omega) p).2
                                  have q0 := fun p => (hS.cells (i := a) (by omega) p).1
                                  have q1 := fun p => (hS.cells (i := a) (by omega) p).2
                                  simp only [hxv] at p0 p1
                                  simp only [hxa] at q0 q1
                                  have hcv1 := fun W => of_any_I xv xa W
                                  have HLv1 := Lib.hid (lessA_iff xv xa)
                                  generalize cmpA xv xa = v1 at hcv1 HLv1
                                  have HCv1 := Lib.hid hcv1
                                  clear hcv1
                                  have HT : Hid (dnB dk a i j = (!decide (v1 < 0))) := by show _ = _; unfold dnB; rw [hxv, hxa, HLv1.out]; simp [hg]
                                  clear hxv hxa
                                  by_cases hv : v1 < 0
                                  · skip
                                    go_wp2_with fail
                                    refine wp_region_ext (by kernel_rfl) (by kernel_rfl) ?_
                                    repeat (first | go_big_quiet_step ((go_at_call 62; exact Calls.ext_of (HCv1.out _))) | quiet_step ((go_at_call 62; exact Calls.ext_of (HCv1.out _))))
                                    refine wpQuiet_nil ?_
                                    intro w' hw'
                                    obtain ⟨⟨W, hbW⟩, hw''⟩ := hw'
                                    have hw3 : w' = W := hw''
                                    subst hw3
                                    have hS2 := hS.below hbW
                                    clear hbW hw''
                                    clear p0 p1 q0 q1
                                    go_wp2_with fail
                                    go_meet
                                    exact ⟨congrArg Value.bool (HT.out.trans (by simp [hv])).symm, hS2⟩
                                  · have hvd : decide (v1 < 0) = false := by simp; omega
                                    go_wp2_with fail
                                    refine wp_region_ext (by kernel_rfl) (by kernel_rfl) ?_
                                    repeat (first | go_big_quiet_step ((go_at_call 62; exact Calls.ext_of (HCv1.out _))) | quiet_step ((go_at_call 62; exact Calls.ext_of (HCv1.out _))))
                                    refine wpQuiet_nil ?_
                                    intro w' hw'
                                    obtain ⟨⟨W, hbW⟩, hw''⟩ := hw'
                                    have hw3 : w' = W := hw''
                                    subst hw3
                                    have hS2 := hS.below hbW
                                    clear hbW hw''
                                    clear p0 p1 q0 q1
                                    go_wp2_with fail
                                    go_meet
                                    exact ⟨congrArg Value.bool (HT.out.trans (by simp [hv])).symm, hS2⟩
                                · have hgd : decide (i ≤ j) = false := by simp; omega
                                  have hgz : ¬ (i : Int) ≤ (j : Int) := by omega
                                  have HT : Hid (dnB dk a i j = false) := by show _ = _; unfold dnB; simp [hg]
                                  go_wp2_with fail
                                  go_quiet (fail)
                                  go_wp2_with fail
                                  go_meet
                                  exact ⟨congrArg Value.bool HT.out.symm, hS.below (belDrewN (RowKit.Below.refl _ _) nq)⟩
                              case rest =>
                                clear hS
                                obtain ⟨rfl, hS⟩ := hcut
                                cases hT : dnB dk a i j
                                · have HTj := Lib.hid hT
                                  have HEj : Hid (j = scanDown (fun x => !lessA x dk[a]!) dk i jj) := by show _ = _; rw [← HM.out]; exact (scanDown_stop (p := fun x => !lessA x dk[a]!) (d := dk) hT).symm
                                  clear HM hT
                                  by_cases hij : j < i
                                  · have hz : (j : Int) < (i : Int) := by omega
                                    have HRES : Hid (partition lessA d a b pv = (j, false, swp dk j a)) := by
                                      show _ = _
                                      rw [HPART.out, ← HLOOP.out, partLoop_eq, ← HEi.out, ← HEj.out, if_pos hij]
                                    go_upto_region 21 with fail
                                    go_cut [] from 163 to 177 (fun wx => Srt w blk off (swp (dk) j a) wx)
                                    case first =>
                                      by_cases heq : j = a
                                      · subst heq
                                        obtain ⟨x1, hx1⟩ : ∃ x, (dk)[j]! = x := ⟨_, rfl⟩
                                        obtain ⟨a1, z1, a2, z2⟩ := hS.own (i := j) (by omega)
                                        have hsw := hS.swap (i := j) (j := j) (by omega) (by omega)
                                        rw [hx1] at a1 a2
                                        rw [hx1] at hsw
                                        clear hx1
                                        have HSW := Lib.hid hsw
                                        clear hsw
                                        go_wp2_with fail
                                        go_region
                                        all_goals go_wp2_with fail
                                        go_meet
                                        exact HSW.out
                                      · skip
                                        obtain ⟨x1, hx1⟩ : ∃ x, (dk)[j]! = x := ⟨_, rfl⟩
                                        obtain ⟨a1, z1, a2, z2⟩ := hS.own (i := j) (by omega)
                                        have hsw := hS.swap (i := j) (j := a) (by omega) (by omega)
                                        rw [hx1] at a1 a2
                                        obtain ⟨x2, hx2⟩ : ∃ x, (dk)[a]! = x := ⟨_, rfl⟩
                                        obtain ⟨a3, z3, a4, z4⟩ := hS.own (i := a) (by omega)
                                        rw [hx2] at a3 a4
                                        rw [hx1, hx2] at hsw
                                        clear hx1 hx2
                                        have HSW := Lib.hid hsw
                                        clear hsw
                                        go_wp2_with fail
                                        go_region
                                        all_goals go_wp2_with fail
                                        go_meet
                                        exact HSW.out
                                    case rest =>
                                      go_wp2
                                      exact bodyPost_ret (v := .tuple #[.int .i64 j, .bool false]) (by simp [results, Try.results89, go_sem]) rfl ⟨by rw [HRES.out], by rw [HRES.out]; exact hcut⟩
                                  · have hz : ¬ (j : Int) < (i : Int) := by omega
                                    have hzd : decide (j < i) = false := by simp; omega
                                    have hlt : i < j := up_dn HTi.out HTj.out hv1 (by omega)
                                    have HL2 : Hid (partLoop lessA a (i + 1) (j - 1) (swp dk i j) = partLoop lessA a (I2 + 1) J3 (swp d1 I2 J2)) := by
                                      show _ = _
                                      rw [← HLOOP.out, partLoop_eq lessA a ii jj dk, ← HEi.out, ← HEj.out, if_neg hij]
                                    go_upto_region 18 with fail
                                    go_cut [] from 105 to 162 (fun wx => Srt w blk off (swp (dk) i j) wx)
                                    case first =>
                                      obtain ⟨x1, hx1⟩ : ∃ x, (dk)[i]! = x := ⟨_, rfl⟩
                                      obtain ⟨a1, z1, a2, z2⟩ := hS.own (i := i) (by omega)
                                      have hsw := hS.swap (i := i) (j := j) (by omega) (by omega)
                                      rw [hx1] at a1 a2
                                      obtain ⟨x2, hx2⟩ : ∃ x, (dk)[j]! = x := ⟨_, rfl⟩
                                      obtain ⟨a3, z3, a4, z4⟩ := hS.own (i := j) (by omega)
                                      rw [hx2] at a3 a4
                                      rw [hx1, hx2] at hsw
                                      clear hx1 hx2
                                      have HSW := Lib.hid hsw
                                      clear hsw
                                      go_wp2_with fail
                                      go_region
                                      all_goals go_wp2_with fail
                                      go_meet
                                      exact HSW.out
                                    case rest =>
                                      obtain ⟨j0, w1, w2⟩ : ∃ n, n + 1 ≤ j ∧ j ≤ n + 1 := ⟨j - 1, by omega, by omega⟩
                                      have s9 : (j : Int) - 1 = (j0 : Int) := by omega
                                      have HJ0 : Hid (j - 1 = j0) := by show _ = _; omega
                                      rw [HJ0.out] at HL2
                                      clear hS
                                      go_wp2
                                      exact ⟨⟨i + 1, j0, swp dk i j, by go_num, rfl, by omega, by omega, by omega, by rw [size_swp]; exact HSK.out, hcut, HL2⟩, by simp [intOf]; omega⟩
                                · have hle : i ≤ j := by unfold dnB at hT; simp at hT; exact hT.1
                                  obtain ⟨j0, w1, w2⟩ : ∃ n, n + 1 ≤ j ∧ j ≤ n + 1 := ⟨j - 1, by omega, by omega⟩
                                  have s9 : (j : Int) - 1 = (j0 : Int) := by omega
                                  have HM2 : Hid (scanDown (fun x => !lessA x dk[a]!) dk i j0 = scanDown (fun x => !lessA x dk[a]!) dk i jj) := by show _ = _; rw [← HM.out]; exact (scanDown_go (p := fun x => !lessA x dk[a]!) (d := dk) (by omega) hT).symm
                                  have HT2 := Lib.hid hT
                                  go_wp2
                                  exact ⟨⟨j0, rfl, by omega, by omega, hS, HM2⟩, by simp [intOf]; omega⟩
                          · have hle : i ≤ jj := by unfold upB at hT; simp at hT; exact hT.1
                            have HM2 : Hid (scanUp (fun x => lessA x dk[a]!) dk jj (i + 1) = scanUp (fun x => lessA x dk[a]!) dk jj ii) := by show _ = _; rw [← HM.out]; exact (scanUp_go (p := fun x => lessA x dk[a]!) (d := dk) hT).symm
                            have HT2 := Lib.hid hT
                            go_wp2
                            exact ⟨⟨i + 1, by go_num, by omega, by omega, hS, HM2⟩, by simp [intOf]; omega⟩
              · have hle : i ≤ j := by unfold dnB at hT; simp at hT; exact hT.1
                obtain ⟨j0, w1, w2⟩ : ∃ n, n + 1 ≤ j ∧ j ≤ n + 1 := ⟨j - 1, by omega, by omega⟩
                have s9 : (j : Int) - 1 = (j0 : Int) := by omega
                have HM2 : Hid (scanDown (fun x => !lessA x d1[a]!) d1 i j0 = scanDown (fun x => !lessA x d1[a]!) d1 i b1) := by show _ = _; rw [← HM.out]; exact (scanDown_go (p := fun x => !lessA x d1[a]!) (d := d1) (by omega) hT).symm
                have HT2 := Lib.hid hT
                go_wp2
                exact ⟨⟨j0, rfl, by omega, by omega, hS, HM2⟩, by simp [intOf]; omega⟩
        · have hle : i ≤ b1 := by unfold upB at hT; simp at hT; exact hT.1
          have HM2 : Hid (scanUp (fun x => lessA x d1[a]!) d1 b1 (i + 1) = scanUp (fun x => lessA x d1[a]!) d1 b1 a1) := by show _ = _; rw [← HM.out]; exact (scanUp_go (p := fun x => lessA x d1[a]!) (d := d1) hT).symm
          have HT2 := Lib.hid hT
          go_wp2
          exact ⟨⟨i + 1, by go_num, by omega, by omega, hS, HM2⟩, by simp [intOf]; omega⟩
end Go.Proofs.Ytgpejfkmdenonaa
