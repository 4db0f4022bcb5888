/- The sort of commands at times, by the bound method: the choice of a pivot. -/
import Derived.Test.YtgpejfkmdenonaaSortA
namespace Go.Proofs.Ytgpejfkmdenonaa
open Go.RowKit Go.Sort Go.Lib

/-- w' is w but for the count at sb, and for what was made. -/
structure Cnt (w : World) (sb : Nat) (w' : World) : Prop where
  cell : ∃ s : Int, w'.heap[sb]? = some (.cells #[.int .i64 s] 3 (0, 0))
  lt : sb < w.heap.size
  size : w.heap.size ≤ w'.heap.size
  block : ∀ g, g < w.heap.size → g ≠ sb → w'.heap[g]? = w.heap[g]?
  os : w'.os = w.os
  tape : w'.tape = w.tape
  output : w'.output = w.output
section
variable {w w1 w2 : World} {sb blk off : Nat} {d : Array (Int × Int)}
theorem Cnt.trans (h : Cnt w sb w1) (k : Cnt w1 sb w2) : Cnt w sb w2 :=
  ⟨k.cell, h.lt, Nat.le_trans h.size k.size, fun g hg hne => (k.block g (Nat.lt_of_lt_of_le hg h.size) hne).trans (h.block g hg hne), k.os.trans h.os, k.tape.trans h.tape, k.output.trans h.output⟩
theorem Cnt.holds (h : Cnt w sb w1) (hH : HoldsK encA_I 2 w blk off d) (hl : blk < w.heap.size) (hne : blk ≠ sb) : HoldsK encA_I 2 w1 blk off d := fun t ht =>
  ⟨(World.cell?_of_block (a := ⟨blk, off + t, none⟩) (h.block blk hl hne)).trans (hH t ht).1, (World.frozen?_of_block (a := ⟨blk, off + t, none⟩) (h.block blk hl hne)).trans (hH t ht).2⟩
theorem Cnt.below (hb : RowKit.Below w.heap.size w w1) (hl : sb < w.heap.size) (hc : ∃ s : Int, w.heap[sb]? = some (.cells #[.int .i64 s] 3 (0, 0))) : Cnt w sb w1 :=
  ⟨by obtain ⟨s, hs⟩ := hc; exact ⟨s, (hb.block sb hl).trans hs⟩, hl, hb.size, fun g hg _ => hb.block g hg, hb.os, hb.tape, hb.output⟩
theorem Cnt.set {s : Int} (h : Cnt w sb w1) (hc : ∃ t : Int, w1.heap[sb]? = some (.cells #[.int .i64 t] 3 (0, 0))) : Cnt w sb (w1.setCell ⟨sb, 0, none⟩ (.int .i64 s)) :=
  ⟨by obtain ⟨t, ht⟩ := hc; exact ⟨s, by simp [World.setCell, Array.getElem?_modify, ht]⟩, h.lt, by simpa [World.setCell] using h.size, fun g hg hne => (RowKit.Below.heap_setCell _ _ _ _ hne).trans (h.block g hg hne), h.os, h.tape, h.output⟩
end
theorem one_cell {W : World} {B : Nat} {v : Value} {t : TypeId} (h : W.heap[B]? = some (.cells #[v] t (0, 0))) : W.cell? ⟨B, 0, none⟩ = some v ∧ W.frozen? ⟨B, 0, none⟩ = false := by
  simp [World.cell?, World.frozen?, h]
set_option maxRecDepth 100000 in
set_option maxHeartbeats 8000000 in
theorem ord_any (blk off cap a b sb N : Nat) (d : Array (Int × Int)) (w : World) (hH : HoldsK encA_I 2 w blk off d) (hblk : blk < w.heap.size) (hN : d.size = N) (ha : a < N) (hb : b < N) (hsb : sb < w.heap.size) (hcc : ∃ s : Int, w.heap[sb]? = some (.cells #[.int .i64 s] 3 (0, 0))) :
    Calls Try.prog 97 #[.slice (some ⟨blk, off, none⟩) N cap, .int .i64 a, .int .i64 b, .pointer (some ⟨sb, 0, none⟩), .func (.func 62) #[.agg #[]] #[]] w fun e w' => ∃ x y : Nat, e = .returned (.tuple #[.int .i64 x, .int .i64 y]) ∧ ((x = a ∧ y = b) ∨ (x = b ∧ y = a)) ∧ Cnt w sb w' := by
  have hS := Srt.refl hH hblk
  have HN := Lib.hid hN
  have k2 : N ≤ d.size := Nat.le_of_eq hN.symm
  clear hH hN
  obtain ⟨x1, hx1⟩ : ∃ x, d[b]! = x := ⟨_, rfl⟩
  obtain ⟨x2, hx2⟩ : ∃ x, d[a]! = x := ⟨_, rfl⟩
  have p0 := fun p => (hS.cells (i := b) (by omega) p).1
  have p1 := fun p => (hS.cells (i := b) (by omega) p).2
  have q0 := fun p => (hS.cells (i := a) (by omega) p).1
  have q1 := fun p => (hS.cells (i := a) (by omega) p).2
  simp only [hx1] at p0 p1
  simp only [hx2] at q0 q1
  clear hx1 hx2
  have hcv1 := fun W => of_any_I x1 x2 W
  have HLv1 := Lib.hid (lessA_iff x1 x2)
  generalize cmpA x1 x2 = v1 at hcv1 HLv1
  have HCv1 := Lib.hid hcv1
  clear hcv1
  have i1 : (a : Int) < (N : Int) := by omega
  have i2 : (b : Int) < (N : Int) := by omega
  by_cases hv : v1 < 0
  · go_enter Try.func97, Try.ntmps97
    go_wp2_with fail
    refine wp_region_ext (by kernel_rfl) (by kernel_rfl) ?_
    repeat (first | go_big_quiet_step ((go_at_call 62; exact Calls.ext_of (HCv1.out _))) | quiet_step ((go_at_call 62; exact Calls.ext_of (HCv1.out _))))
    refine wpQuiet_nil ?_
    intro w' hw'
    obtain ⟨⟨W, hbW⟩, hw''⟩ := hw'
    have hw3 : w' = W := hw''
    subst hw3
    have hS2 := hS.below hbW
    have hC := Cnt.below hbW hsb hcc
    clear hbW hw''
    obtain ⟨s, hs⟩ := hC.cell
    obtain ⟨c1, c2⟩ := one_cell hs
    have HCS := Lib.hid hs
    clear hs hS2 p0 p1 q0 q1
    go_wp2
    exact bodyPost_ret (v := .tuple #[.int .i64 b, .int .i64 a]) (by simp [results, Try.results97, go_sem]) rfl ⟨b, a, rfl, Or.inr ⟨rfl, rfl⟩, hC.set ⟨s, HCS.out⟩⟩
  · have hvd : decide (v1 < 0) = false := by simp; omega
    go_enter Try.func97, Try.ntmps97
    go_wp2_with fail
    refine wp_region_ext (by kernel_rfl) (by kernel_rfl) ?_
    repeat (first | go_big_quiet_step ((go_at_call 62; exact Calls.ext_of (HCv1.out _))) | quiet_step ((go_at_call 62; exact Calls.ext_of (HCv1.out _))))
    refine wpQuiet_nil ?_
    intro w' hw'
    obtain ⟨⟨W, hbW⟩, hw''⟩ := hw'
    have hw3 : w' = W := hw''
    subst hw3
    have hS2 := hS.below hbW
    have hC := Cnt.below hbW hsb hcc
    clear hbW hw''
    clear hS2 p0 p1 q0 q1
    go_wp2
    exact bodyPost_ret (v := .tuple #[.int .i64 a, .int .i64 b]) (by simp [results, Try.results97, go_sem]) rfl ⟨a, b, rfl, Or.inl ⟨rfl, rfl⟩, hC⟩
set_option maxRecDepth 100000 in
set_option maxHeartbeats 8000000 in
theorem med_any (blk off cap a b c sb N : Nat) (d : Array (Int × Int)) (w : World) (hH : HoldsK encA_I 2 w blk off d) (hblk : blk < w.heap.size) (hN : d.size = N) (ha : a < N) (hb : b < N) (hc : c < N) (hne : blk ≠ sb) (hsb : sb < w.heap.size) (hcc : ∃ s : Int, w.heap[sb]? = some (.cells #[.int .i64 s] 3 (0, 0))) :
    Calls Try.prog 96 #[.slice (some ⟨blk, off, none⟩) N cap, .int .i64 a, .int .i64 b, .int .i64 c, .pointer (some ⟨sb, 0, none⟩), .func (.func 62) #[.agg #[]] #[]] w fun e w' => ∃ x : Nat, e = .returned (.int .i64 x) ∧ (x = a ∨ x = b ∨ x = c) ∧ Cnt w sb w' := by
  have HX1 := Lib.hid (ord_any blk off cap a b sb N d w hH hblk hN ha hb hsb hcc)
  go_enter Try.func96, Try.ntmps96
  go_wp2_with fail
  refine HX1.out.mono ?_
  rintro e w1 ⟨x, y, rfl, hxy, hC1⟩
  have hx : x < N := by omega
  have hy : y < N := by omega
  have HXY := Lib.hid hxy
  clear hxy
  have HX2 := Lib.hid (ord_any blk off cap y c sb N d w1 (hC1.holds hH hblk hne) (Nat.lt_of_lt_of_le hblk hC1.size) hN hy hc (Nat.lt_of_lt_of_le hsb hC1.size) hC1.cell)
  go_wp2_with fail
  refine HX2.out.mono ?_
  rintro e w2 ⟨y2, c2, rfl, hyc, hC2⟩
  have hy2 : y2 < N := by omega
  have HYC := Lib.hid hyc
  clear hyc
  have hC12 := hC1.trans hC2
  have HX3 := Lib.hid (ord_any blk off cap x y2 sb N d w2 (hC12.holds hH hblk hne) (Nat.lt_of_lt_of_le hblk hC12.size) hN hx hy2 (Nat.lt_of_lt_of_le hsb hC12.size) hC12.cell)
  go_wp2_with fail
  refine HX3.out.mono ?_
  rintro e w3 ⟨x3, y3, rfl, hxy3, hC3⟩
  have HXY3 := Lib.hid hxy3
  clear hxy3
  go_wp2
  go_ret
  exact ⟨y3, rfl, by have := HXY.out; have := HYC.out; have := HXY3.out; omega, hC12.trans hC3⟩
theorem adj_any (blk off cap a sb N : Nat) (d : Array (Int × Int)) (w : World) (hH : HoldsK encA_I 2 w blk off d) (hblk : blk < w.heap.size) (hN : d.size = N) (h1 : 1 ≤ a) (ha : a + 1 < N) (hsz : N ≤ 1000000) (hne : blk ≠ sb) (hsb : sb < w.heap.size) (hcc : ∃ s : Int, w.heap[sb]? = some (.cells #[.int .i64 s] 3 (0, 0))) :
    Calls Try.prog 95 #[.slice (some ⟨blk, off, none⟩) N cap, .int .i64 a, .pointer (some ⟨sb, 0, none⟩), .func (.func 62) #[.agg #[]] #[]] w fun e w' => ∃ x : Nat, e = .returned (.int .i64 x) ∧ (a ≤ x + 1 ∧ x ≤ a + 1) ∧ Cnt w sb w' := by
  obtain ⟨a0, u1, u2⟩ : ∃ n, n + 1 ≤ a ∧ a ≤ n + 1 := ⟨a - 1, by omega, by omega⟩
  obtain ⟨a1, u3, u4⟩ : ∃ n, n ≤ a + 1 ∧ a + 1 ≤ n := ⟨_, Nat.le_refl _, Nat.le_refl _⟩
  have s1 : (a : Int) - 1 = (a0 : Int) := by omega
  have s2 : (a : Int) + 1 = (a1 : Int) := by omega
  have HX := Lib.hid (med_any blk off cap a0 a a1 sb N d w hH hblk hN (by omega) (by omega) (by omega) hne hsb hcc)
  go_enter Try.func95, Try.ntmps95
  go_wp2_with fail
  refine HX.out.mono ?_
  rintro e w1 ⟨x, rfl, hx, hC⟩
  have HXX := Lib.hid hx
  clear hx
  go_wp2
  go_ret
  exact ⟨x, rfl, by have := HXX.out; omega, hC⟩
set_option maxRecDepth 100000 in
set_option maxHeartbeats 8000000 in
theorem piv_any (blk off cap a b N : Nat) (d : Array (Int × Int)) (w : World) (hH : HoldsK encA_I 2 w blk off d) (hblk : blk < w.heap.size) (hN : d.size = N) (hab : a + 12 < b) (hb : b ≤ N) (hsz : N ≤ 1000000) :
    Calls Try.prog 85 #[.slice (some ⟨blk, off, none⟩) N cap, .int .i64 a, .int .i64 b, .func (.func 62) #[.agg #[]] #[]] w fun e w' => ∃ p h : Nat, e = .returned (.tuple #[.int .i64 p, .int .i64 h]) ∧ a ≤ p ∧ p < b ∧ h ≤ 2 ∧ RowKit.Below w.heap.size w w' := by
  obtain ⟨l, l1, l2⟩ : ∃ n, n ≤ b - a ∧ b - a ≤ n := ⟨_, Nat.le_refl _, Nat.le_refl _⟩
  obtain ⟨q, q1, q2⟩ : ∃ n, n ≤ l / 4 ∧ l / 4 ≤ n := ⟨_, Nat.le_refl _, Nat.le_refl _⟩
  obtain ⟨i, i1, i2⟩ : ∃ n, n ≤ a + q ∧ a + q ≤ n := ⟨_, Nat.le_refl _, Nat.le_refl _⟩
  obtain ⟨j, j1, j2⟩ : ∃ n, n ≤ a + q * 2 ∧ a + q * 2 ≤ n := ⟨_, Nat.le_refl _, Nat.le_refl _⟩
  obtain ⟨k, k1, k2⟩ : ∃ n, n ≤ a + q * 3 ∧ a + q * 3 ≤ n := ⟨_, Nat.le_refl _, Nat.le_refl _⟩
  have s1 : (b : Int) - (a : Int) = (l : Int) := by omega
  have s2 : (l : Int) / 4 = (q : Int) := by omega
  have s3 : (a : Int) + (q : Int) = (i : Int) := by omega
  have s4 : (a : Int) + (q : Int) * 2 = (j : Int) := by omega
  have s5 : (a : Int) + (q : Int) * 3 = (k : Int) := by omega
  have s6 : (8 : Int) ≤ (l : Int) := by omega
  have hH1 : HoldsK encA_I 2 (w.alloc (.cells #[.int .i64 0] 3)) blk off d := fun t ht => ⟨(World.cell?_alloc_lt w _ ⟨blk, off + t, none⟩ hblk).trans (hH t ht).1, (World.frozen?_alloc_old w _ ⟨blk, off + t, none⟩ (by show blk ≠ w.heap.size; omega)).trans (hH t ht).2⟩
  have hb1 : blk < (w.alloc (.cells #[.int .i64 0] 3)).heap.size := by simp; omega
  have hs1 : w.heap.size < (w.alloc (.cells #[.int .i64 0] 3)).heap.size := by simp
  have hc1 : ∃ s : Int, (w.alloc (.cells #[.int .i64 0] 3)).heap[w.heap.size]? = some (.cells #[.int .i64 s] 3 (0, 0)) := ⟨0, heap_alloc_new w _⟩
  have hne : blk ≠ w.heap.size := by omega
  have HB0 := Lib.hid (bel1 w (.cells #[.int .i64 0] 3))
  by_cases h50 : 50 ≤ l
  · have s7 : (50 : Int) ≤ (l : Int) := by omega
    go_enter Try.func85, Try.ntmps85
    go_wp2_with fail
    generalize w.alloc (.cells #[.int .i64 0] 3) = w0 at hH1 hb1 hs1 hc1 HB0 ⊢
    refine (adj_any blk off cap i w.heap.size N d w0 hH1 hb1 hN (by omega) (by omega) hsz hne hs1 hc1).mono ?_
    rintro e w1 ⟨x1, rfl, hx1, hC⟩
    go_wp2_with fail
    refine (adj_any blk off cap j w.heap.size N d w1 (hC.holds hH1 hb1 hne) (Nat.lt_of_lt_of_le hb1 hC.size) hN (by omega) (by omega) hsz hne (Nat.lt_of_lt_of_le hs1 hC.size) hC.cell).mono ?_
    rintro e w2 ⟨x2, rfl, hx2, hC2⟩
    have hC := hC.trans hC2
    go_wp2_with fail
    refine (adj_any blk off cap k w.heap.size N d w2 (hC.holds hH1 hb1 hne) (Nat.lt_of_lt_of_le hb1 hC.size) hN (by omega) (by omega) hsz hne (Nat.lt_of_lt_of_le hs1 hC.size) hC.cell).mono ?_
    rintro e w3 ⟨x3, rfl, hx3, hC3⟩
    have hC := hC.trans hC3
    go_wp2_with fail
    refine (med_any blk off cap x1 x2 x3 w.heap.size N d w3 (hC.holds hH1 hb1 hne) (Nat.lt_of_lt_of_le hb1 hC.size) hN (by omega) (by omega) (by omega) hne (Nat.lt_of_lt_of_le hs1 hC.size) hC.cell).mono ?_
    rintro e w4 ⟨x4, rfl, hx4, hC4⟩
    have hC := hC.trans hC4
    have p1 : a ≤ x4 := by omega
    have p2 : x4 < b := by omega
    clear hC2 hC3 hC4 hx4 hx3 hx2 hx1
    obtain ⟨s, hs⟩ := hC.cell
    obtain ⟨c1, c2⟩ := one_cell hs
    have hBF : RowKit.Below w.heap.size w w4 := ⟨hC.os.trans HB0.out.os, hC.tape.trans HB0.out.tape, hC.output.trans HB0.out.output, Nat.le_trans HB0.out.size hC.size, fun g hg => (hC.block g (by omega) (by omega)).trans (HB0.out.block g hg)⟩
    have HBF := Lib.hid hBF
    clear hBF hs
    by_cases t0 : s = 0
    · have t0' : (s == 0) = true := by simp [t0]
      clear t0
      go_wp2
      exact bodyPost_ret (v := .tuple #[.int .i64 x4, .int .i64 (1 : Nat)]) (by simp [results, Try.results85, go_sem]) rfl ⟨x4, 1, rfl, p1, p2, by omega, HBF.out⟩
    · have t0' : (s == 0) = false := by simp [t0]
      by_cases t1 : s = 12
      · have t1' : (s == 12) = true := by simp [t1]
        clear t0 t1
        go_wp2
        exact bodyPost_ret (v := .tuple #[.int .i64 x4, .int .i64 (2 : Nat)]) (by simp [results, Try.results85, go_sem]) rfl ⟨x4, 2, rfl, p1, p2, by omega, HBF.out⟩
      · have t1' : (s == 12) = false := by simp [t1]
        clear t0 t1
        go_wp2
        exact bodyPost_ret (v := .tuple #[.int .i64 x4, .int .i64 (0 : Nat)]) (by simp [results, Try.results85, go_sem]) rfl ⟨x4, 0, rfl, p1, p2, by omega, HBF.out⟩
  · have s7 : decide ((50 : Int) ≤ (l : Int)) = false := by simp; omega
    go_enter Try.func85, Try.ntmps85
    go_wp2_with fail
    generalize w.alloc (.cells #[.int .i64 0] 3) = w0 at hH1 hb1 hs1 hc1 HB0 ⊢
    refine (med_any blk off cap i j k w.heap.size N d w0 hH1 hb1 hN (by omega) (by omega) (by omega) hne hs1 hc1).mono ?_
    rintro e w4 ⟨x4, rfl, hx4, hC⟩
    have p1 : a ≤ x4 := by omega
    have p2 : x4 < b := by omega
    clear hx4
    obtain ⟨s, hs⟩ := hC.cell
    obtain ⟨c1, c2⟩ := one_cell hs
    have hBF : RowKit.Below w.heap.size w w4 := ⟨hC.os.trans HB0.out.os, hC.tape.trans HB0.out.tape, hC.output.trans HB0.out.output, Nat.le_trans HB0.out.size hC.size, fun g hg => (hC.block g (by omega) (by omega)).trans (HB0.out.block g hg)⟩
    have HBF := Lib.hid hBF
    clear hBF hs
    by_cases t0 : s = 0
    · have t0' : (s == 0) = true := by simp [t0]
      clear t0
      go_wp2
      exact bodyPost_ret (v := .tuple #[.int .i64 x4, .int .i64 (1 : Nat)]) (by simp [results, Try.results85, go_sem]) rfl ⟨x4, 1, rfl, p1, p2, by omega, HBF.out⟩
    · have t0' : (s == 0) = false := by simp [t0]
      by_cases t1 : s = 12
      · have t1' : (s == 12) = true := by simp [t1]
        clear t0 t1
        go_wp2
        exact bodyPost_ret (v := .tuple #[.int .i64 x4, .int .i64 (2 : Nat)]) (by simp [results, Try.results85, go_sem]) rfl ⟨x4, 2, rfl, p1, p2, by omega, HBF.out⟩
      · have t1' : (s == 12) = false := by simp [t1]
        clear t0 t1
        go_wp2
        exact bodyPost_ret (v := .tuple #[.int .i64 x4, .int .i64 (0 : Nat)]) (by simp [results, Try.results85, go_sem]) rfl ⟨x4, 0, rfl, p1, p2, by omega, HBF.out⟩
end Go.Proofs.Ytgpejfkmdenonaa
