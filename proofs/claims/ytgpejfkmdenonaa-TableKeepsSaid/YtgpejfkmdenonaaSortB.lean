/- The heap's part of the sort of commands at times, by the bound method. -/
import Derived.Test.YtgpejfkmdenonaaSortA
namespace Go.Proofs.Ytgpejfkmdenonaa
open Go.RowKit Go.Sort Go.Lib

section
variable {α : Type} [Inhabited α] {lt : α → α → Bool} {hi first root : Nat} {d : Array α}
theorem sift_stop (h : hi ≤ 2 * root + 1) : siftDown lt hi first root d = d := by rw [siftDown]; simp [h]
theorem sift_R_stop (h2 : 2 * root + 2 < hi) (hl : lt d[first + (2 * root + 1)]! d[first + (2 * root + 2)]! = true) (hr : lt d[first + root]! d[first + (2 * root + 2)]! = false) : siftDown lt hi first root d = d := by
  rw [siftDown, dif_neg (by omega), if_pos (by rw [Nat.add_assoc first, hl]; simp; omega), if_pos (by rw [hr]; rfl)]
theorem sift_R_go (h2 : 2 * root + 2 < hi) (hl : lt d[first + (2 * root + 1)]! d[first + (2 * root + 2)]! = true) (hr : lt d[first + root]! d[first + (2 * root + 2)]! = true) : siftDown lt hi first root d = siftDown lt hi first (2 * root + 2) (swp d (first + root) (first + (2 * root + 2))) := by
  rw [siftDown, dif_neg (by omega), if_pos (by rw [Nat.add_assoc first, hl]; simp; omega), if_neg (by rw [hr]; simp), dif_pos h2]
theorem sift_L_stop (h1 : 2 * root + 1 < hi) (h2 : hi ≤ 2 * root + 2 ∨ lt d[first + (2 * root + 1)]! d[first + (2 * root + 2)]! = false) (hr : lt d[first + root]! d[first + (2 * root + 1)]! = false) : siftDown lt hi first root d = d := by
  rw [siftDown, dif_neg (by omega), if_neg ?_, if_pos (by rw [hr]; rfl)]
  rcases h2 with h2 | h2
  · simp; omega
  · rw [Nat.add_assoc first, h2]; simp
theorem sift_L_go (h1 : 2 * root + 1 < hi) (h2 : hi ≤ 2 * root + 2 ∨ lt d[first + (2 * root + 1)]! d[first + (2 * root + 2)]! = false) (hr : lt d[first + root]! d[first + (2 * root + 1)]! = true) : siftDown lt hi first root d = siftDown lt hi first (2 * root + 1) (swp d (first + root) (first + (2 * root + 1))) := by
  rw [siftDown, dif_neg (by omega), if_neg ?_, if_neg (by rw [hr]; simp)]
  rcases h2 with h2 | h2
  · simp; omega
  · rw [Nat.add_assoc first, h2]; simp
end
set_option maxRecDepth 100000 in
set_option maxHeartbeats 8000000 in
theorem sift_any (blk off cap lo hi first : Nat) (d : Array (Int × Int)) (w : World) (hH : HoldsK encA_I 2 w blk off d) (hblk : blk < w.heap.size) (hlo : lo ≤ d.size) (hb : first + hi ≤ d.size) (hsz : d.size ≤ 1000000) :
    Calls Try.prog 92 #[.slice (some ⟨blk, off, none⟩) d.size cap, .int .i64 lo, .int .i64 hi, .int .i64 first, .func (.func 62) #[.agg #[]] #[]] w fun e w' => e = .returned (.tuple #[]) ∧ Srt w blk off (siftDown lessA hi first lo d) w' := by
  have HS0 := Lib.hid (Srt.refl hH hblk)
  clear hH
  go_enter Try.func92, Try.ntmps92
  go_wp2
  go_loopw [10] (fun vr wr => ∃ (root : Nat) (dk : Array (Int × Int)), vr = .int .i64 root ∧ root ≤ d.size ∧ dk.size = d.size ∧ Srt w blk off dk wr ∧ Hid (siftDown lessA hi first root dk = siftDown lessA hi first lo d)) (fun vr _ => hi - (intOf vr).toNat)
  case atStart => exact ⟨lo, d, rfl, hlo, rfl, HS0.out, rfl⟩
  case round =>
    obtain ⟨root, dk, rfl, hrd, hsk, hS, HM⟩ := hrel
    have hk1 : dk.size ≤ d.size := Nat.le_of_eq hsk
    have hk2 : d.size ≤ dk.size := Nat.le_of_eq hsk.symm
    have HSK := Lib.hid hsk
    clear hsk
    by_cases h1 : hi ≤ 2 * root + 1
    · have h1z : (hi : Int) ≤ 2 * (root : Int) + 1 := by omega
      go_wp2
      go_end0
      exact ⟨rfl, by rw [← HM.out, sift_stop h1]; exact hS⟩
    · obtain ⟨ch, c1, c2⟩ : ∃ ch, ch ≤ 2 * root + 1 ∧ 2 * root + 1 ≤ ch := ⟨_, Nat.le_refl _, Nat.le_refl _⟩
      obtain ⟨fr, r1, r2⟩ : ∃ fr, fr ≤ first + root ∧ first + root ≤ fr := ⟨_, Nat.le_refl _, Nat.le_refl _⟩
      obtain ⟨fc, f1, f2⟩ : ∃ fc, fc ≤ first + ch ∧ first + ch ≤ fc := ⟨_, Nat.le_refl _, Nat.le_refl _⟩
      have hch : Hid (ch = 2 * root + 1) := by show _ = _; omega
      have hfr : Hid (fr = first + root) := by show _ = _; omega
      have hfc : Hid (fc = first + (2 * root + 1)) := by show _ = _; omega
      have e1 : 2 * (root : Int) + 1 = (ch : Int) := by omega
      have e2 : (first : Int) + (ch : Int) = (fc : Int) := by omega
      have e2w : IntKind.i64.wrap ((first : Int) + (ch : Int)) = (fc : Int) := by rw [IntKind.wrap_i64]; omega
      have e3 : (first : Int) + (root : Int) = (fr : Int) := by omega
      have e3w : IntKind.i64.wrap ((first : Int) + (root : Int)) = (fr : Int) := by rw [IntKind.wrap_i64]; omega
      have hchi : ¬ (hi : Int) ≤ (ch : Int) := by omega
      have hchd : decide ((hi : Int) ≤ (ch : Int)) = false := by simp; omega
      have i1 : (fr : Int) < (d.size : Int) := by omega
      have i2 : (fc : Int) < (d.size : Int) := by omega
      obtain ⟨xr, hxr⟩ : ∃ x, dk[fr]! = x := ⟨_, rfl⟩
      obtain ⟨xc, hxc⟩ : ∃ x, dk[fc]! = x := ⟨_, rfl⟩
      have HXR := Lib.hid hxr
      have HXC := Lib.hid hxc
      clear hxr hxc
      obtain ⟨ch1, d1, d2⟩ : ∃ c, c ≤ ch + 1 ∧ ch + 1 ≤ c := ⟨_, Nat.le_refl _, Nat.le_refl _⟩
      obtain ⟨fc1, g1, g2⟩ : ∃ c, c ≤ fc + 1 ∧ fc + 1 ≤ c := ⟨_, Nat.le_refl _, Nat.le_refl _⟩
      have hch1 : Hid (ch1 = 2 * root + 2) := by show _ = _; omega
      have hfc1 : Hid (fc1 = first + (2 * root + 2)) := by show _ = _; omega
      have e4 : (ch : Int) + 1 = (ch1 : Int) := by omega
      have e4w : IntKind.i64.wrap ((ch : Int) + 1) = (ch1 : Int) := by rw [IntKind.wrap_i64]; omega
      have e5 : (fc : Int) + 1 = (fc1 : Int) := by omega
      have e5w : IntKind.i64.wrap ((fc : Int) + 1) = (fc1 : Int) := by rw [IntKind.wrap_i64]; omega
      have e6 : (first : Int) + (ch1 : Int) = (fc1 : Int) := by omega
      have e6w : IntKind.i64.wrap ((first : Int) + (ch1 : Int)) = (fc1 : Int) := by rw [IntKind.wrap_i64]; omega
      have e7w : IntKind.i64.wrap (ch1 : Int) = (ch1 : Int) := by rw [IntKind.wrap_i64]; omega
      have e8w : IntKind.i64.wrap (fc1 : Int) = (fc1 : Int) := by rw [IntKind.wrap_i64]; omega
      have e9w : IntKind.i64.wrap (fc : Int) = (fc : Int) := by rw [IntKind.wrap_i64]; omega
      by_cases h2 : ch + 1 < hi
      · have h2z : (ch1 : Int) < (hi : Int) := by omega
        obtain ⟨x2, hx2⟩ : ∃ x, dk[fc1]! = x := ⟨_, rfl⟩
        have HX2 := Lib.hid hx2
        clear hx2
        have i3 : (fc1 : Int) < (d.size : Int) := by omega
        have p0 := fun p => (hS.cells (i := fc) (by omega) p).1
        have p1 := fun p => (hS.cells (i := fc) (by omega) p).2
        simp only [HXC.out] at p0 p1
        have q0 := fun p => (hS.cells (i := fc1) (by omega) p).1
        have q1 := fun p => (hS.cells (i := fc1) (by omega) p).2
        simp only [HX2.out] at q0 q1
        have hcv1 := fun W => of_any_I xc x2 W
        have HLv1 := Lib.hid (lessA_iff xc x2)
        generalize cmpA xc x2 = v1 at hcv1 HLv1
        have HCv1 := Lib.hid hcv1
        clear hcv1
        by_cases hv1 : v1 < 0
        · go_wp2_with fail
          refine wp_region_ext (by kernel_rfl) (by kernel_rfl) ?_
          repeat (first | go_big_quiet_step ((go_at_call 62; exact Calls.ext_of (HCv1.out _))) | quiet_step ((go_at_call 62; exact Calls.ext_of (HCv1.out _))))
          refine wpQuiet_nil ?_
          intro w' hw'
          obtain ⟨⟨W, hbW⟩, hw''⟩ := hw'
          have hw3 : w' = W := hw''
          subst hw3
          have hS2 := hS.below hbW
          clear hbW hw''
          clear p0 p1 q0 q1
          have p0 := fun p => (hS2.cells (i := fr) (by omega) p).1
          have p1 := fun p => (hS2.cells (i := fr) (by omega) p).2
          simp only [HXR.out] at p0 p1
          have q0 := fun p => (hS2.cells (i := fc1) (by omega) p).1
          have q1 := fun p => (hS2.cells (i := fc1) (by omega) p).2
          simp only [HX2.out] at q0 q1
          have hcv2 := fun W => of_any_I xr x2 W
          have HLv2 := Lib.hid (lessA_iff xr x2)
          generalize cmpA xr x2 = v2 at hcv2 HLv2
          have HCv2 := Lib.hid hcv2
          clear hcv2
          by_cases hv2 : v2 < 0
          · have HM2 : Hid (siftDown lessA hi first ch1 (swp dk fr fc1) = siftDown lessA hi first lo d) := by
              show _ = _
              rw [← HM.out, hch1.out, hfr.out, hfc1.out]; exact (sift_R_go (by omega) (by rw [← hfc.out, ← hfc1.out, HXC.out, HX2.out, HLv1.out]; simp; omega) (by rw [← hfr.out, ← hfc1.out, HXR.out, HX2.out, HLv2.out]; simp; omega)).symm
            go_wp2_with fail
            refine wp_region_ext (by kernel_rfl) (by kernel_rfl) ?_
            repeat (first | go_big_quiet_step ((go_at_call 62; exact Calls.ext_of (HCv2.out _))) | quiet_step ((go_at_call 62; exact Calls.ext_of (HCv2.out _))))
            refine wpQuiet_nil ?_
            intro w' hw'
            obtain ⟨⟨W, hbW⟩, hw''⟩ := hw'
            have hw3 : w' = W := hw''
            subst hw3
            have hS3 := hS2.below hbW
            clear hbW hw''
            clear p0 p1 q0 q1
            obtain ⟨a1, z1, a2, z2⟩ := hS3.own (i := fr) (by omega)
            obtain ⟨a3, z3, a4, z4⟩ := hS3.own (i := fc1) (by omega)
            rw [HXR.out] at a1 a2
            rw [HX2.out] at a3 a4
            go_wp2_with fail
            go_region
            all_goals go_wp2
            have hsw := hS3.swap (i := fr) (j := fc1) (by omega) (by omega)
            rw [HXR.out, HX2.out] at hsw
            exact ⟨⟨ch1, swp dk fr fc1, rfl, by omega, by rw [size_swp]; exact HSK.out, hsw, HM2⟩, by simp [intOf]; omega⟩
          · have hv2d : decide (v2 < 0) = false := by simp; omega
            have HM2 : siftDown lessA hi first root dk = dk := sift_R_stop (by omega) (by rw [← hfc.out, ← hfc1.out, HXC.out, HX2.out, HLv1.out]; simp; omega) (by rw [← hfr.out, ← hfc1.out, HXR.out, HX2.out, HLv2.out]; simp; omega)
            have HM3 := Lib.hid HM2
            clear HM2
            go_wp2_with fail
            refine wp_region_ext (by kernel_rfl) (by kernel_rfl) ?_
            repeat (first | go_big_quiet_step ((go_at_call 62; exact Calls.ext_of (HCv2.out _))) | quiet_step ((go_at_call 62; exact Calls.ext_of (HCv2.out _))))
            refine wpQuiet_nil ?_
            intro w' hw'
            obtain ⟨⟨W, hbW⟩, hw''⟩ := hw'
            have hw3 : w' = W := hw''
            subst hw3
            have hS3 := hS2.below hbW
            clear hbW hw''
            go_wp2
            exact bodyPost_ret (v := .tuple #[]) (results_none0 rfl _ _ _) rfl ⟨rfl, by rw [← HM.out, HM3.out]; exact hS3⟩
        · have hv1d : decide (v1 < 0) = false := by simp; omega
          go_wp2_with fail
          refine wp_region_ext (by kernel_rfl) (by kernel_rfl) ?_
          repeat (first | go_big_quiet_step ((go_at_call 62; exact Calls.ext_of (HCv1.out _))) | quiet_step ((go_at_call 62; exact Calls.ext_of (HCv1.out _))))
          refine wpQuiet_nil ?_
          intro w' hw'
          obtain ⟨⟨W, hbW⟩, hw''⟩ := hw'
          have hw3 : w' = W := hw''
          subst hw3
          have hS2 := hS.below hbW
          clear hbW hw''
          clear p0 p1 q0 q1
          have p0 := fun p => (hS2.cells (i := fr) (by omega) p).1
          have p1 := fun p => (hS2.cells (i := fr) (by omega) p).2
          simp only [HXR.out] at p0 p1
          have q0 := fun p => (hS2.cells (i := fc) (by omega) p).1
          have q1 := fun p => (hS2.cells (i := fc) (by omega) p).2
          simp only [HXC.out] at q0 q1
          have hcv2 := fun W => of_any_I xr xc W
          have HLv2 := Lib.hid (lessA_iff xr xc)
          generalize cmpA xr xc = v2 at hcv2 HLv2
          have HCv2 := Lib.hid hcv2
          clear hcv2
          by_cases hv2 : v2 < 0
          · have HM2 : Hid (siftDown lessA hi first ch (swp dk fr fc) = siftDown lessA hi first lo d) := by
              show _ = _
              rw [← HM.out, hch.out, hfr.out, hfc.out]; exact (sift_L_go (by omega) (Or.inr (by rw [← hfc.out, ← hfc1.out, HXC.out, HX2.out, HLv1.out]; simp; omega)) (by rw [← hfr.out, ← hfc.out, HXR.out, HXC.out, HLv2.out]; simp; omega)).symm
            go_wp2_with fail
            refine wp_region_ext (by kernel_rfl) (by kernel_rfl) ?_
            repeat (first | go_big_quiet_step ((go_at_call 62; exact Calls.ext_of (HCv2.out _))) | quiet_step ((go_at_call 62; exact Calls.ext_of (HCv2.out _))))
            refine wpQuiet_nil ?_
            intro w' hw'
            obtain ⟨⟨W, hbW⟩, hw''⟩ := hw'
            have hw3 : w' = W := hw''
            subst hw3
            have hS3 := hS2.below hbW
            clear hbW hw''
            clear p0 p1 q0 q1
            obtain ⟨a1, z1, a2, z2⟩ := hS3.own (i := fr) (by omega)
            obtain ⟨a3, z3, a4, z4⟩ := hS3.own (i := fc) (by omega)
            rw [HXR.out] at a1 a2
            rw [HXC.out] at a3 a4
            go_wp2_with fail
            go_region
            all_goals go_wp2
            have hsw := hS3.swap (i := fr) (j := fc) (by omega) (by omega)
            rw [HXR.out, HXC.out] at hsw
            exact ⟨⟨ch, swp dk fr fc, rfl, by omega, by rw [size_swp]; exact HSK.out, hsw, HM2⟩, by simp [intOf]; omega⟩
          · have hv2d : decide (v2 < 0) = false := by simp; omega
            have HM2 : siftDown lessA hi first root dk = dk := sift_L_stop (by omega) (Or.inr (by rw [← hfc.out, ← hfc1.out, HXC.out, HX2.out, HLv1.out]; simp; omega)) (by rw [← hfr.out, ← hfc.out, HXR.out, HXC.out, HLv2.out]; simp; omega)
            have HM3 := Lib.hid HM2
            clear HM2
            go_wp2_with fail
            refine wp_region_ext (by kernel_rfl) (by kernel_rfl) ?_
            repeat (first | go_big_quiet_step ((go_at_call 62; exact Calls.ext_of (HCv2.out _))) | quiet_step ((go_at_call 62; exact Calls.ext_of (HCv2.out _))))
            refine wpQuiet_nil ?_
            intro w' hw'
            obtain ⟨⟨W, hbW⟩, hw''⟩ := hw'
            have hw3 : w' = W := hw''
            subst hw3
            have hS3 := hS2.below hbW
            clear hbW hw''
            go_wp2
            exact bodyPost_ret (v := .tuple #[]) (results_none0 rfl _ _ _) rfl ⟨rfl, by rw [← HM.out, HM3.out]; exact hS3⟩
      · have h2d : decide (ch1 < hi) = false := by simp; omega
        go_wp2_with fail
        go_quiet (fail)
        have hS2 := hS.below (belDrewN (RowKit.Below.refl _ _) nq)
        have p0 := fun p => (hS2.cells (i := fr) (by omega) p).1
        have p1 := fun p => (hS2.cells (i := fr) (by omega) p).2
        simp only [HXR.out] at p0 p1
        have q0 := fun p => (hS2.cells (i := fc) (by omega) p).1
        have q1 := fun p => (hS2.cells (i := fc) (by omega) p).2
        simp only [HXC.out] at q0 q1
        have hcv2 := fun W => of_any_I xr xc W
        have HLv2 := Lib.hid (lessA_iff xr xc)
        generalize cmpA xr xc = v2 at hcv2 HLv2
        have HCv2 := Lib.hid hcv2
        clear hcv2
        by_cases hv2 : v2 < 0
        · have HM2 : Hid (siftDown lessA hi first ch (swp dk fr fc) = siftDown lessA hi first lo d) := by
            show _ = _
            rw [← HM.out, hch.out, hfr.out, hfc.out]; exact (sift_L_go (by omega) (Or.inl (by omega)) (by rw [← hfr.out, ← hfc.out, HXR.out, HXC.out, HLv2.out]; simp; omega)).symm
          go_wp2_with fail
          refine wp_region_ext (by kernel_rfl) (by kernel_rfl) ?_
          repeat (first | go_big_quiet_step ((go_at_call 62; exact Calls.ext_of (HCv2.out _))) | quiet_step ((go_at_call 62; exact Calls.ext_of (HCv2.out _))))
          refine wpQuiet_nil ?_
          intro w' hw'
          obtain ⟨⟨W, hbW⟩, hw''⟩ := hw'
          have hw3 : w' = W := hw''
          subst hw3
          have hS3 := hS2.below hbW
          clear hbW hw''
          clear p0 p1 q0 q1
          obtain ⟨a1, z1, a2, z2⟩ := hS3.own (i := fr) (by omega)
          obtain ⟨a3, z3, a4, z4⟩ := hS3.own (i := fc) (by omega)
          rw [HXR.out] at a1 a2
          rw [HXC.out] at a3 a4
          go_wp2_with fail
          go_region
          all_goals go_wp2
          have hsw := hS3.swap (i := fr) (j := fc) (by omega) (by omega)
          rw [HXR.out, HXC.out] at hsw
          exact ⟨⟨ch, swp dk fr fc, rfl, by omega, by rw [size_swp]; exact HSK.out, hsw, HM2⟩, by simp [intOf]; omega⟩
        · have hv2d : decide (v2 < 0) = false := by simp; omega
          have HM2 : siftDown lessA hi first root dk = dk := sift_L_stop (by omega) (Or.inl (by omega)) (by rw [← hfr.out, ← hfc.out, HXR.out, HXC.out, HLv2.out]; simp; omega)
          have HM3 := Lib.hid HM2
          clear HM2
          go_wp2_with fail
          refine wp_region_ext (by kernel_rfl) (by kernel_rfl) ?_
          repeat (first | go_big_quiet_step ((go_at_call 62; exact Calls.ext_of (HCv2.out _))) | quiet_step ((go_at_call 62; exact Calls.ext_of (HCv2.out _))))
          refine wpQuiet_nil ?_
          intro w' hw'
          obtain ⟨⟨W, hbW⟩, hw''⟩ := hw'
          have hw3 : w' = W := hw''
          subst hw3
          have hS3 := hS2.below hbW
          clear hbW hw''
          go_wp2
          exact bodyPost_ret (v := .tuple #[]) (results_none0 rfl _ _ _) rfl ⟨rfl, by rw [← HM.out, HM3.out]; exact hS3⟩
end Go.Proofs.Ytgpejfkmdenonaa
