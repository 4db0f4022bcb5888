/- The sort of commands at times, by the bound method: patterns broken. -/
import Derived.Test.YtgpejfkmdenonaaSortA
import Derived.Deep.CutRange
import Derived.Deep.CutBlock
import Derived.Shelf.SlSortCmp.Xorshift
namespace Go.Proofs.Ytgpejfkmdenonaa
open Go.RowKit Go.Sort Go.Lib

theorem next_any (rb X : Nat) (hX : X < 18446744073709551616) (w : World) (hc : w.cell? ⟨rb, 0, none⟩ = some (.int .u64 X)) (hf : w.frozen? ⟨rb, 0, none⟩ = false) :
    Calls Try.prog 94 #[.pointer (some ⟨rb, 0, none⟩)] w fun e w' => ∃ Y : Nat, e = .returned (.int .u64 Y) ∧ Y < 18446744073709551616 ∧ w' = (w.setCell ⟨rb, 0, none⟩ (.int .u64 Y)).drewN 3 :=
  (AnyF.xorshift_Next (P := Try.prog) (ρ := Try.laysSort_ren) { Try.laysSort with } rb 0 X hX w hc hf).mono fun _ _ ⟨he, hw⟩ => ⟨_, he, xorNextN_lt X hX, hw⟩
theorem pow_any (n : Nat) (hn : n ≤ 1000000) (h0 : 0 < n) (w : World) :
    Calls Try.prog 93 #[.int .i64 n] w fun e w' => ∃ M : Nat, e = .returned (.int .u64 M) ∧ 1 ≤ M ∧ M ≤ 2 * n ∧ w' = w :=
  (AnyF.nextPowerOfTwo (P := Try.prog) (ρ := Try.laysSort_ren) { Try.laysSort with } n (by omega) w).mono fun _ _ ⟨he, hw⟩ => ⟨_, he, by rw [Nat.one_shiftLeft]; exact Nat.one_le_two_pow, by rw [Nat.one_shiftLeft]; exact two_pow_bitsLen_le h0, hw⟩
theorem Srt.other {w w1 : World} {blk off sb : Nat} {d : Array (Int × Int)} (h : Srt w blk off d w1) (hne : sb ≠ blk) (hge : w.heap.size ≤ sb) (v : Value) (n : Nat) : Srt w blk off d ((w1.setCell ⟨sb, 0, none⟩ v).drewN n) := by
  have e : ∀ g, g ≠ sb → ((w1.setCell ⟨sb, 0, none⟩ v).drewN n).heap[g]? = w1.heap[g]? := fun g hg => RowKit.Below.heap_setCell _ _ _ _ hg
  refine ⟨fun t ht => ⟨(World.cell?_of_block (a := ⟨blk, off + t, none⟩) (e blk (Ne.symm hne))).trans (h.holds t ht).1, (World.frozen?_of_block (a := ⟨blk, off + t, none⟩) (e blk (Ne.symm hne))).trans (h.holds t ht).2⟩, h.lt, ?_, fun g hg hg' => (e g (by omega)).trans (h.block g hg hg'), h.os, h.tape, h.output⟩
  show w.heap.size ≤ (w1.heap.modify _ _).size
  rw [Array.size_modify]; exact h.size
theorem kept_set {W : World} {g blk : Nat} (h : g ≠ blk) (o1 o2 o3 o4 : Nat) (v1 v2 v3 v4 : Value) : ((((W.drew.setCell ⟨blk, o1, none⟩ v1).setCell ⟨blk, o2, none⟩ v2).setCell ⟨blk, o3, none⟩ v3).setCell ⟨blk, o4, none⟩ v4).heap[g]? = W.heap[g]? := by
  rw [RowKit.Below.heap_setCell _ _ _ _ h, RowKit.Below.heap_setCell _ _ _ _ h, RowKit.Below.heap_setCell _ _ _ _ h, RowKit.Below.heap_setCell _ _ _ _ h]; rfl
theorem one_u {W : World} {B : Nat} {v : Value} {t : TypeId} (h : W.heap[B]? = some (.cells #[v] t (0, 0))) : W.cell? ⟨B, 0, none⟩ = some v ∧ W.frozen? ⟨B, 0, none⟩ = false := by
  simp [World.cell?, World.frozen?, h]
set_option maxRecDepth 100000 in
set_option maxHeartbeats 16000000 in
theorem brk_any (blk off cap a b N : Nat) (d : Array (Int × Int)) (w : World) (hH : HoldsK encA_I 2 w blk off d) (hblk : blk < w.heap.size) (hN : d.size = N) (hab : a + 12 < b) (hb : b ≤ N) (hsz : N ≤ 1000000) :
    Calls Try.prog 84 #[.slice (some ⟨blk, off, none⟩) N cap, .int .i64 a, .int .i64 b, .func (.func 62) #[.agg #[]] #[]] w fun e w' => e = .returned (.tuple #[]) ∧ ∃ d', PermIn a b d d' ∧ Srt w blk off d' w' := by
  have hS0 := (Srt.refl hH hblk).below (bel1 w (.cells #[.int .u64 ((b : Int) - (a : Int))] 105))
  have HN := Lib.hid hN
  clear hH hN
  obtain ⟨L, n1, n2⟩ : ∃ n, n ≤ b - a ∧ b - a ≤ n := ⟨_, Nat.le_refl _, Nat.le_refl _⟩
  obtain ⟨q, q1, q2⟩ : ∃ n, n ≤ L / 4 ∧ L / 4 ≤ n := ⟨_, Nat.le_refl _, Nat.le_refl _⟩
  obtain ⟨x0, x1, x2⟩ : ∃ n, n + 1 ≤ a + q * 2 ∧ a + q * 2 ≤ n + 1 := ⟨a + q * 2 - 1, by omega, by omega⟩
  obtain ⟨x3, x4, x5⟩ : ∃ n, n ≤ a + q * 2 ∧ a + q * 2 ≤ n := ⟨_, Nat.le_refl _, Nat.le_refl _⟩
  have s1 : (b : Int) - (a : Int) = (L : Int) := by omega
  have s6 : (8 : Int) ≤ (L : Int) := by omega
  have hL : 12 < L := by omega
  rw [s1] at hS0
  have hb0 : (w.alloc (.cells #[.int .u64 (L : Int)] 105)).heap[w.heap.size]? = some (.cells #[.int .u64 (L : Int)] 105 (0, 0)) := heap_alloc_new w _
  go_enter Try.func84, Try.ntmps84
  go_wp2_with fail
  generalize w.alloc (.cells #[.int .u64 (L : Int)] 105) = w0 at hS0 hb0 ⊢
  refine (pow_any L (by omega) (by omega) _).mono ?_
  rintro e w1 ⟨M, rfl, m1, m2, rfl⟩
  go_wp2
  go_loopw [11] (fun vi wr => ∃ (x X : Nat) (dk : Array (Int × Int)), vi = .int .i64 x ∧ x0 ≤ x ∧ x ≤ x0 + 3 ∧ X < 18446744073709551616 ∧ wr.heap[w.heap.size]? = some (.cells #[.int .u64 (X : Int)] 105 (0, 0)) ∧ PermIn a b d dk ∧ Srt w blk off dk wr) (fun vi _ => x0 + 3 - (intOf vi).toNat)
  case atStart => exact ⟨x0, L, d, by congr 1; omega, Nat.le_refl _, by omega, by omega, hb0, permIn_refl _ _ _, hS0⟩
  case round =>
    clear hS0 hb0
    obtain ⟨x, X, dk, rfl, h1, h2, hX, hcell, hp, hS⟩ := hrel
    have hsk : dk.size = N := hp.1.trans HN.out
    have k1 : dk.size ≤ N := Nat.le_of_eq hsk
    have k2 : N ≤ dk.size := Nat.le_of_eq hsk.symm
    have HP := Lib.hid hp
    clear hp hsk
    by_cases hx : x ≤ x0 + 2
    · have hz : (x : Int) ≤ (a : Int) + (L : Int) / 4 * 2 + 1 := by omega
      obtain ⟨c1, c2⟩ := one_u hcell
      have HX := Lib.hid (next_any w.heap.size X hX wr c1 c2)
      have HCL := Lib.hid hcell
      clear c1 c2 hcell
      go_wp2_with fail
      refine HX.out.mono ?_
      rintro e w2 ⟨Y, rfl, hY, hw2⟩
      have hS2 : Srt w blk off dk w2 := by rw [hw2]; exact hS.other (by omega) (Nat.le_refl _) _ _
      have hcell2 : w2.heap[w.heap.size]? = some (.cells #[.int .u64 (Y : Int)] 105 (0, 0)) := by
        rw [hw2]
        show (wr.heap.modify _ _)[w.heap.size]? = _
        rw [Array.getElem?_modify, if_pos rfl, HCL.out]
        rfl
      clear hw2 hS HX HCL
      obtain ⟨O, hO1, hO2⟩ : ∃ O : Nat, O ≤ M - 1 ∧ Hid (bits .and .u64 (Y : Int) ((M : Int) - 1) = (O : Int)) := ⟨Y &&& (M - 1), Nat.and_le_right, by show _ = _; rw [show ((M : Int) - 1) = ((M - 1 : Nat) : Int) by omega, bits_and_u64_nat _ _ hY (by omega)]⟩
      have eAnd := hO2.out
      clear hO2
      by_cases hOL : L ≤ O
      · have hz1 : (L : Int) ≤ (O : Int) := by omega
        obtain ⟨o2, g3, g4⟩ : ∃ n, n ≤ O - L ∧ O - L ≤ n := ⟨_, Nat.le_refl _, Nat.le_refl _⟩
        have e5 : (O : Int) - (L : Int) = (o2 : Int) := by omega
        obtain ⟨ao, g1, g2⟩ : ∃ n, n ≤ a + o2 ∧ a + o2 ≤ n := ⟨_, Nat.le_refl _, Nat.le_refl _⟩
        have e3 : (a : Int) + (o2 : Int) = (ao : Int) := by omega
        have e3w : IntKind.i64.wrap ((a : Int) + (o2 : Int)) = (ao : Int) := by rw [IntKind.wrap_i64]; omega
        have e4w : IntKind.i64.wrap (ao : Int) = (ao : Int) := by rw [IntKind.wrap_i64]; omega
        have i1 : (x : Int) < (N : Int) := by omega
        have i2 : (ao : Int) < (N : Int) := by omega
        by_cases heq : x = ao
        · subst heq
          obtain ⟨y1, hy1⟩ : ∃ y, dk[x]! = y := ⟨_, rfl⟩
          obtain ⟨a1, z1, a2, z2⟩ := hS2.own (i := x) (by omega)
          have hsw := hS2.swap (i := x) (j := x) (by omega) (by omega)
          have HP2 := Lib.hid (permIn_trans _ _ _ _ _ HP.out (swp_permIn dk a b x x (by omega) (by omega) (by omega) (by omega) (by omega)))
          rw [hy1] at a1 a2
          rw [hy1] at hsw
          clear hy1
          have HSW := Lib.hid hsw
          have hne : w.heap.size ≠ blk := by omega
          clear hsw hS2
          go_wp2_with fail
          go_region
          all_goals go_wp2
          exact ⟨⟨x + 1, Y, swp dk x x, by go_num, by omega, by omega, hY, (kept_set hne _ _ _ _ _ _ _ _).trans hcell2, HP2.out, HSW.out⟩, by simp [intOf]; omega⟩
        · skip
          obtain ⟨y1, hy1⟩ : ∃ y, dk[x]! = y := ⟨_, rfl⟩
          obtain ⟨a1, z1, a2, z2⟩ := hS2.own (i := x) (by omega)
          have hsw := hS2.swap (i := x) (j := ao) (by omega) (by omega)
          have HP2 := Lib.hid (permIn_trans _ _ _ _ _ HP.out (swp_permIn dk a b x ao (by omega) (by omega) (by omega) (by omega) (by omega)))
          rw [hy1] at a1 a2
          obtain ⟨y2, hy2⟩ : ∃ y, dk[ao]! = y := ⟨_, rfl⟩
          obtain ⟨a3, z3, a4, z4⟩ := hS2.own (i := ao) (by omega)
          rw [hy2] at a3 a4
          rw [hy1, hy2] at hsw
          clear hy1 hy2
          have HSW := Lib.hid hsw
          have hne : w.heap.size ≠ blk := by omega
          clear hsw hS2
          go_wp2_with fail
          go_region
          all_goals go_wp2
          exact ⟨⟨x + 1, Y, swp dk x ao, by go_num, by omega, by omega, hY, (kept_set hne _ _ _ _ _ _ _ _).trans hcell2, HP2.out, HSW.out⟩, by simp [intOf]; omega⟩
      · have hz1 : ¬ (L : Int) ≤ (O : Int) := by omega
        have hz1d : decide (L ≤ O) = false := by simp; omega
        obtain ⟨ao, g1, g2⟩ : ∃ n, n ≤ a + O ∧ a + O ≤ n := ⟨_, Nat.le_refl _, Nat.le_refl _⟩
        have e3 : (a : Int) + (O : Int) = (ao : Int) := by omega
        have e3w : IntKind.i64.wrap ((a : Int) + (O : Int)) = (ao : Int) := by rw [IntKind.wrap_i64]; omega
        have e4w : IntKind.i64.wrap (ao : Int) = (ao : Int) := by rw [IntKind.wrap_i64]; omega
        have i1 : (x : Int) < (N : Int) := by omega
        have i2 : (ao : Int) < (N : Int) := by omega
        by_cases heq : x = ao
        · subst heq
          obtain ⟨y1, hy1⟩ : ∃ y, dk[x]! = y := ⟨_, rfl⟩
          obtain ⟨a1, z1, a2, z2⟩ := hS2.own (i := x) (by omega)
          have hsw := hS2.swap (i := x) (j := x) (by omega) (by omega)
          have HP2 := Lib.hid (permIn_trans _ _ _ _ _ HP.out (swp_permIn dk a b x x (by omega) (by omega) (by omega) (by omega) (by omega)))
          rw [hy1] at a1 a2
          rw [hy1] at hsw
          clear hy1
          have HSW := Lib.hid hsw
          have hne : w.heap.size ≠ blk := by omega
          clear hsw hS2
          go_wp2_with fail
          go_region
          all_goals go_wp2
          exact ⟨⟨x + 1, Y, swp dk x x, by go_num, by omega, by omega, hY, (kept_set hne _ _ _ _ _ _ _ _).trans hcell2, HP2.out, HSW.out⟩, by simp [intOf]; omega⟩
        · skip
          obtain ⟨y1, hy1⟩ : ∃ y, dk[x]! = y := ⟨_, rfl⟩
          obtain ⟨a1, z1, a2, z2⟩ := hS2.own (i := x) (by omega)
          have hsw := hS2.swap (i := x) (j := ao) (by omega) (by omega)
          have HP2 := Lib.hid (permIn_trans _ _ _ _ _ HP.out (swp_permIn dk a b x ao (by omega) (by omega) (by omega) (by omega) (by omega)))
          rw [hy1] at a1 a2
          obtain ⟨y2, hy2⟩ : ∃ y, dk[ao]! = y := ⟨_, rfl⟩
          obtain ⟨a3, z3, a4, z4⟩ := hS2.own (i := ao) (by omega)
          rw [hy2] at a3 a4
          rw [hy1, hy2] at hsw
          clear hy1 hy2
          have HSW := Lib.hid hsw
          have hne : w.heap.size ≠ blk := by omega
          clear hsw hS2
          go_wp2_with fail
          go_region
          all_goals go_wp2
          exact ⟨⟨x + 1, Y, swp dk x ao, by go_num, by omega, by omega, hY, (kept_set hne _ _ _ _ _ _ _ _).trans hcell2, HP2.out, HSW.out⟩, by simp [intOf]; omega⟩
    · have hz : ¬ (x : Int) ≤ (a : Int) + (L : Int) / 4 * 2 + 1 := by omega
      have hzd : decide ((x : Int) ≤ (a : Int) + (L : Int) / 4 * 2 + 1) = false := by simp; omega
      go_wp2
      go_end0
      exact ⟨rfl, dk, HP.out, hS⟩
end Go.Proofs.Ytgpejfkmdenonaa
