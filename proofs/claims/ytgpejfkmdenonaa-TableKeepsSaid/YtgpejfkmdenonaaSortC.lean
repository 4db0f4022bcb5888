/- The sort of commands at times, by the bound method: the heap, and a part turned round. -/
import Derived.Test.YtgpejfkmdenonaaSortB
namespace Go.Proofs.Ytgpejfkmdenonaa
open Go.RowKit Go.Sort Go.Lib

theorem sift_N (blk off cap lo hi first N : Nat) (d : Array (Int × Int)) (w : World) (hH : HoldsK encA_I 2 w blk off d) (hblk : blk < w.heap.size) (hN : d.size = N) (hlo : lo ≤ N) (hb : first + hi ≤ N) (hsz : N ≤ 1000000) :
    Calls Try.prog 92 #[.slice (some ⟨blk, off, none⟩) N cap, .int .i64 lo, .int .i64 hi, .int .i64 first, .func (.func 62) #[.agg #[]] #[]] w fun e w' => e = .returned (.tuple #[]) ∧ Srt w blk off (siftDown lessA hi first lo d) w' := by
  subst hN
  exact sift_any blk off cap lo hi first d w hH hblk hlo hb hsz
theorem sift_size (lt : Int × Int → Int × Int → Bool) (hi first root : Nat) (d : Array (Int × Int)) : (siftDown lt hi first root d).size = d.size := by
  fun_induction siftDown lt hi first root d <;> simp_all [swp]
set_option maxRecDepth 100000 in
set_option maxHeartbeats 8000000 in
theorem heap_any (blk off cap a b N : Nat) (d : Array (Int × Int)) (w : World) (hH : HoldsK encA_I 2 w blk off d) (hblk : blk < w.heap.size) (hN : d.size = N) (hab : a < b) (hb : b ≤ N) (hsz : N ≤ 1000000) :
    Calls Try.prog 83 #[.slice (some ⟨blk, off, none⟩) N cap, .int .i64 a, .int .i64 b, .func (.func 62) #[.agg #[]] #[]] w fun e w' => e = .returned (.tuple #[]) ∧ Srt w blk off (heapSort lessA d a b) w' := by
  have HS0 := Lib.hid (Srt.refl hH hblk)
  have HN := Lib.hid hN
  clear hH hN
  obtain ⟨n, n1, n2⟩ : ∃ n, n ≤ b - a ∧ b - a ≤ n := ⟨_, Nat.le_refl _, Nat.le_refl _⟩
  obtain ⟨m, m1, m2⟩ : ∃ m, m ≤ (n - 1) / 2 ∧ (n - 1) / 2 ≤ m := ⟨_, Nat.le_refl _, Nat.le_refl _⟩
  have HD : Hid (heapSort lessA d a b = heapPop lessA a n (heapBuild lessA n a (m + 1) d)) := by
    show _ = _
    have e1 : n = b - a := by omega
    have e2 : m = (b - a - 1) / 2 := by omega
    rw [e1, e2]; rfl
  have s1 : (b : Int) - (a : Int) = (n : Int) := by omega
  have S2 : Hid (((n : Int) - 1) / 2 = (m : Int)) := by show _ = _; omega
  go_enter Try.func83, Try.ntmps83
  go_wp2
  go_loopw [11] (fun vi wr => ∃ (k : Nat) (dk : Array (Int × Int)), vi = .int .i64 ((k : Int) - 1) ∧ k ≤ m + 1 ∧ dk.size = N ∧ Srt w blk off dk wr ∧ Hid (heapBuild lessA n a k dk = heapBuild lessA n a (m + 1) d)) (fun vi _ => (intOf vi + 1).toNat)
  case atStart => exact ⟨m + 1, d, by congr 1; have := S2.out; omega, Nat.le_refl _, HN.out, HS0.out, rfl⟩
  case round =>
    obtain ⟨k, dk, rfl, hk, hsk, hS, HM⟩ := hrel
    have HSK := Lib.hid hsk
    clear hsk
    cases k with
    | zero =>
      have e0 : (((0 : Nat) : Int) - 1) = -1 := rfl
      rw [e0]
      clear e0
      have HM' : Hid (dk = heapBuild lessA n a (m + 1) d) := HM.out
      obtain ⟨n0, j1, j2⟩ : ∃ n0, n0 + 1 ≤ n ∧ n ≤ n0 + 1 := ⟨n - 1, by omega, by omega⟩
      go_wp2
      go_loopw [12] (fun vi wr => ∃ (k : Nat) (dj : Array (Int × Int)), vi = .int .i64 ((k : Int) - 1) ∧ k ≤ n ∧ dj.size = N ∧ Srt w blk off dj wr ∧ Hid (heapPop lessA a k dj = heapSort lessA d a b)) (fun vi _ => (intOf vi + 1).toNat)
      case atStart => exact ⟨n, dk, rfl, Nat.le_refl _, HSK.out, hS, by show _ = _; rw [HD.out, HM'.out]⟩
      case round =>
        clear hS HM HSK hk
        obtain ⟨k, dk, rfl, hk, hsk, hS, HM⟩ := hrel
        have HSK := Lib.hid hsk
        have k1 : dk.size ≤ N := Nat.le_of_eq hsk
        have k2 : N ≤ dk.size := Nat.le_of_eq hsk.symm
        clear hsk
        cases k with
        | zero =>
          have e0 : (((0 : Nat) : Int) - 1) = -1 := rfl
          rw [e0]
          clear e0
          go_wp2
          go_end0
          exact ⟨rfl, by rw [← HM.out]; exact hS⟩
        | succ k =>
          have ej : (((k + 1 : Nat) : Int) - 1) = (k : Int) := by omega
          rw [ej]
          clear ej
          rcases Nat.eq_zero_or_pos k with hk0 | hk0
          · subst hk0
            have e3w : IntKind.i64.wrap (a : Int) = (a : Int) := by rw [IntKind.wrap_i64]; omega
            have i1 : (a : Int) < (N : Int) := by omega
            obtain ⟨x1, hx1⟩ : ∃ x, dk[a]! = x := ⟨_, rfl⟩
            obtain ⟨a1, z1, a2, z2⟩ := hS.own (i := a) (by omega)
            have hsw := hS.swap (i := a) (j := a) (by omega) (by omega)
            rw [hx1] at a1 a2
            rw [hx1] at hsw
            have HSW := Lib.hid hsw
            clear hx1 hsw
            have HM2 : Hid (heapPop lessA a 0 (siftDown lessA 0 a 0 (swp dk a a)) = heapSort lessA d a b) := by show _ = _; rw [← HM.out]; rfl
            go_wp2_with fail
            go_region
            all_goals go_wp2_with fail
            have hS2 : Srt w blk off (swp dk a a) _ := HSW.out
            have HX := Lib.hid (sift_N blk off cap 0 0 a N (swp dk a a) _ hS2.holds hS2.lt1 (by rw [size_swp]; exact HSK.out) (by omega) (by omega) hsz)
            refine HX.out.mono ?_
            rintro e w5 ⟨rfl, hS5⟩
            have hS6 := hS2.trans hS5
            clear hS5 hS2 HX HSW a1 a2 z1 z2
            go_wp2
            exact ⟨⟨0, _, rfl, by omega, by rw [sift_size, size_swp]; exact HSK.out, hS6, HM2⟩, by simp [intOf]⟩
          · skip
            obtain ⟨ak, q1, q2⟩ : ∃ c, c ≤ a + k ∧ a + k ≤ c := ⟨_, Nat.le_refl _, Nat.le_refl _⟩
            have hak : Hid (ak = a + k) := by show _ = _; omega
            have e3 : (a : Int) + (k : Int) = (ak : Int) := by omega
            have e3w : IntKind.i64.wrap ((a : Int) + (k : Int)) = (ak : Int) := by rw [IntKind.wrap_i64]; omega
            have e4w : IntKind.i64.wrap (ak : Int) = (ak : Int) := by rw [IntKind.wrap_i64]; omega
            have i1 : (a : Int) < (N : Int) := by omega
            have i2 : (ak : Int) < (N : Int) := by omega
            obtain ⟨x1, hx1⟩ : ∃ x, dk[a]! = x := ⟨_, rfl⟩
            obtain ⟨x2, hx2⟩ : ∃ x, dk[ak]! = x := ⟨_, rfl⟩
            obtain ⟨a1, z1, a2, z2⟩ := hS.own (i := a) (by omega)
            obtain ⟨a3, z3, a4, z4⟩ := hS.own (i := ak) (by omega)
            have hsw := hS.swap (i := a) (j := ak) (by omega) (by omega)
            rw [hx1] at a1 a2
            rw [hx2] at a3 a4
            rw [hx1, hx2] at hsw
            have HSW := Lib.hid hsw
            clear hx1 hx2 hsw
            have k0 : (0 : Int) ≤ (k : Int) := by omega
            have HM2 : Hid (heapPop lessA a k (siftDown lessA k a 0 (swp dk a ak)) = heapSort lessA d a b) := by show _ = _; rw [← HM.out, hak.out]; rfl
            go_wp2_with fail
            go_region
            all_goals go_wp2_with fail
            have hS2 : Srt w blk off (swp dk a ak) _ := HSW.out
            have HX := Lib.hid (sift_N blk off cap 0 k a N (swp dk a ak) _ hS2.holds hS2.lt1 (by rw [size_swp]; exact HSK.out) (by omega) (by omega) hsz)
            refine HX.out.mono ?_
            rintro e w5 ⟨rfl, hS5⟩
            have hS6 := hS2.trans hS5
            clear hS5 hS2 HX HSW a1 a2 a3 a4 z1 z2 z3 z4
            go_wp2
            exact ⟨⟨k, _, rfl, by omega, by rw [sift_size, size_swp]; exact HSK.out, hS6, HM2⟩, by simp [intOf]⟩
    | succ k =>
      have ej : (((k + 1 : Nat) : Int) - 1) = (k : Int) := by omega
      rw [ej]
      clear ej
      have k0 : (0 : Int) ≤ (k : Int) := by omega
      have HX := Lib.hid (sift_N blk off cap k n a N dk _ hS.holds hS.lt1 HSK.out (by omega) (by omega) hsz)
      go_wp2_with fail
      refine HX.out.mono ?_
      rintro e w5 ⟨rfl, hS5⟩
      have hS6 := hS.trans hS5
      clear hS5 HX
      have HM2 : Hid (heapBuild lessA n a k (siftDown lessA n a k dk) = heapBuild lessA n a (m + 1) d) := HM.out
      go_wp2
      exact ⟨⟨k, _, rfl, by omega, by rw [sift_size]; exact HSK.out, hS6, HM2⟩, by simp [intOf]⟩
set_option maxRecDepth 100000 in
set_option maxHeartbeats 8000000 in
theorem rev_any (blk off cap a b N : Nat) (d : Array (Int × Int)) (w : World) (hH : HoldsK encA_I 2 w blk off d) (hblk : blk < w.heap.size) (hN : d.size = N) (hab : a < b) (hb : b ≤ N) (hsz : N ≤ 1000000) :
    Calls Try.prog 86 #[.slice (some ⟨blk, off, none⟩) N cap, .int .i64 a, .int .i64 b, .func (.func 62) #[.agg #[]] #[]] w fun e w' => e = .returned (.tuple #[]) ∧ ∃ d', PermIn a b d d' ∧ Srt w blk off d' w' := by
  have HS0 := Lib.hid (Srt.refl hH hblk)
  have HN := Lib.hid hN
  clear hH hN
  obtain ⟨b0, n1, n2⟩ : ∃ n, n + 1 ≤ b ∧ b ≤ n + 1 := ⟨b - 1, by omega, by omega⟩
  have s1 : (b : Int) - 1 = (b0 : Int) := by omega
  go_enter Try.func86, Try.ntmps86
  go_wp2
  go_loopw [8, 9] (fun vi vj wr => ∃ (i j : Nat) (dk : Array (Int × Int)), vi = .int .i64 i ∧ vj = .int .i64 j ∧ a ≤ i ∧ i ≤ b ∧ j < b ∧ PermIn a b d dk ∧ Srt w blk off dk wr) (fun _ vj _ => (intOf vj).toNat)
  case atStart => exact ⟨a, b0, d, rfl, rfl, Nat.le_refl _, by omega, by omega, permIn_refl _ _ _, HS0.out⟩
  case round =>
    obtain ⟨i, j, dk, rfl, rfl, h1, h2, h3, hp, hS⟩ := hrel
    have hsk : dk.size = N := hp.1.trans HN.out
    have k1 : dk.size ≤ N := Nat.le_of_eq hsk
    have k2 : N ≤ dk.size := Nat.le_of_eq hsk.symm
    have HP := Lib.hid hp
    clear hp hsk
    by_cases hij : i < j
    · have hz : (i : Int) < (j : Int) := by omega
      have i1 : (i : Int) < (N : Int) := by omega
      have i2 : (j : Int) < (N : Int) := by omega
      obtain ⟨x1, hx1⟩ : ∃ x, dk[i]! = x := ⟨_, rfl⟩
      obtain ⟨x2, hx2⟩ : ∃ x, dk[j]! = x := ⟨_, rfl⟩
      obtain ⟨a1, z1, a2, z2⟩ := hS.own (i := i) (by omega)
      obtain ⟨a3, z3, a4, z4⟩ := hS.own (i := j) (by omega)
      have hsw := hS.swap (i := i) (j := j) (by omega) (by omega)
      rw [hx1] at a1 a2
      rw [hx2] at a3 a4
      rw [hx1, hx2] at hsw
      have HSW := Lib.hid hsw
      have HP2 := Lib.hid (permIn_trans _ _ _ _ _ HP.out (swp_permIn dk a b i j h1 (by omega) (by omega) h3 (by omega)))
      clear hx1 hx2 hsw
      obtain ⟨j0, q1, q2⟩ : ∃ n, n + 1 ≤ j ∧ j ≤ n + 1 := ⟨j - 1, by omega, by omega⟩
      have s2 : (j : Int) - 1 = (j0 : Int) := by omega
      go_wp2_with fail
      go_region
      all_goals go_wp2
      exact ⟨⟨i + 1, j0, swp dk i j, by go_num, rfl, by omega, by omega, by omega, HP2.out, HSW.out⟩, by simp [intOf]; omega⟩
    · have hz : decide (i < j) = false := by simp; omega
      have hz' : ¬ (i : Int) < (j : Int) := by omega
      go_wp2
      go_end0
      exact ⟨rfl, dk, HP.out, hS⟩
end Go.Proofs.Ytgpejfkmdenonaa
