/- The document's sort of commands at times: its walk. -/
import Derived.Test.YtgpejfkmdenonaaGreatQSrJ
namespace Go.Proofs.YtgpejfkmdenonaaGreat
open Go.RowKit Go.Sort Go.Lib
set_option maxRecDepth 100000

attribute [local go_sem ↓] Go.wp_at_zero Go.wp_at_succ
set_option maxRecDepth 100000 in
set_option maxHeartbeats 8000000 in
/-- The document's sort: the same commands, in their order. -/
theorem rSort_any (A : Option Addr) (c : Nat) (d : Array (Int × Int)) (w : World) (h : RdK encA_I 2 w.heap.size w A d) (hd : d.size ≤ 1000000) :
    Calls Tryz.prog 37 #[.slice A d.size c] w fun e w' => ∃ v, e = .returned v ∧ w'.ownsRow w.heap.size 50 2 v d.size (flatK encA_I 2 (srtA d)).toList ∧ Below w.heap.size w w' := by
  have HR := Lib.hid h
  clear h
  obtain ⟨i0, hi0, hz0, hz1, hz2⟩ := info_parts att_info_I
  go_enter Tryz.func37, Tryz.ntmps37
  go_wp2
  go_loopw [3, 4] (fun v i wr => ∃ (m : Nat) (oo : Array (Int × Int)), i = .int .i64 m ∧ m ≤ d.size ∧ wr.ownsRow w.heap.size 50 2 v m (flatK encA_I 2 oo).toList ∧ InsP d m oo ∧ Below w.heap.size w wr) (fun _ i _ => d.size - (intOf i).toNat)
  case atStart => exact ⟨0, #[], rfl, Nat.zero_le _, nil_ownsK _ _ _ _ _, InsP.nil d, Below.refl _ _⟩
  case round =>
    obtain ⟨m, oo, rfl, hm, hown, hI, hB⟩ := hrel
    have HSZ : Hid (oo.size = m) := hI.size hm
    have HI := Lib.hid hI
    clear hI
    by_cases hlt : m < d.size
    · obtain ⟨b, off, rfl, hbl, hcc⟩ := (HR.out.below hB).at_ hlt
      have x0 := hcc 0 (by decide)
      have x1 := hcc 1 (by decide)
      clear hcc
      obtain ⟨x, hx⟩ : ∃ x, d[m]! = x := ⟨_, rfl⟩
      rw [hx] at x0 x1
      simp only [Nat.add_zero, encA_I, List.getElem!_cons_zero, List.getElem!_cons_succ] at x0 x1
      have HX2 := Lib.hid hx
      clear hx
      have kz : (m : Int) < (d.size : Int) := by omega
      obtain ⟨w2, HW2⟩ : ∃ W, Hid (W = wr) := ⟨wr, rfl⟩
      have HXW : Hid (b < w2.heap.size ∧ w2.cell? ⟨b, off + m * 2, none⟩ = some (.int .i64 x.1) ∧ w2.cell? ⟨b, off + m * 2 + 1, none⟩ = some (.int .i64 x.2)) := by
        rw [HW2.out]; exact ⟨Nat.lt_of_lt_of_le hbl hB.size, x0, x1⟩
      have HB2 : Hid (Below w.heap.size w w2) := by rw [HW2.out]; exact hB
      clear hB x0 x1
      by_cases hn : u3 = .slice none 0 0
      · subst hn
        have h0 : m = 0 := by
          obtain ⟨_, ⟨_, h0⟩ | ⟨g, cap, cur, hv, _⟩⟩ := hown
          · exact h0
          · cases hv
        subst h0
        clear hown
        obtain rfl : oo = #[] := Array.eq_empty_of_size_eq_zero HSZ.out
        go_wp2_with fail
        go_loopw [5] (fun kk wr => kk = .int .i64 0 ∧ Below w2.heap.size w2 wr) (fun _ _ => 0)
        case atStart => exact ⟨rfl, by rw [HW2.out]; exact Below.refl _ _⟩
        case round =>
          obtain ⟨rfl, hBi⟩ := hrel
          go_upto_region 6 with fail
          go_cut [27] from 12 to 29 (fun s wx => s = .bool false ∧ Below w2.heap.size w2 wx)
          case first =>
            go_wp2_with fail
            go_quiet (fail)
            go_wp2_with fail
            go_meet
            exact ⟨rfl, belDrewN hBi nq⟩
          case rest =>
            clear hBi
            obtain ⟨rfl, hBi⟩ := hcut
            have HX : Hid (b < wc.heap.size ∧ wc.cell? ⟨b, off, none⟩ = some (.int .i64 x.1) ∧ wc.cell? ⟨b, off + 1, none⟩ = some (.int .i64 x.2)) := ⟨Nat.lt_of_lt_of_le HXW.out.1 hBi.size, (hBi.cell (p := ⟨b, off, none⟩) HXW.out.1).trans HXW.out.2.1, (hBi.cell (p := ⟨b, off + 1, none⟩) HXW.out.1).trans HXW.out.2.2⟩
            have x0 := HX.out.2.1
            have x1 := HX.out.2.2
            have HBW : Hid (Below w.heap.size w wc) := HB2.out.trans (hBi.mono HB2.out.size)
            have hbz : Below wc.heap.size wc wc := Below.refl _ _
            have HPUT : Hid (InsP d (0 + 1) (#[] ++ ((#[] : Array (Int × Int)).toList.take 0).toArray ++ #[x] ++ ((#[] : Array (Int × Int)).toList.drop 0).toArray)) := by
              have := HI.out.put (k := 0) hlt (Nat.le_refl _) (fun j hj => absurd hj (by omega)) (fun h => absurd h (by omega))
              rw [HX2.out] at this
              exact this
            go_wp2_with fail
            go_region_held3 (fun w' => Below wc.heap.size wc w' ∧ w'.cell? ⟨b, off, none⟩ = some (.int .i64 x.1) ∧ w'.cell? ⟨b, off + 1, none⟩ = some (.int .i64 x.2)) (first | assumption | exact keep3 HX.out (by assumption) | exact keep3 HX.out (And.left (by assumption)) | exact keep3 HX.out (Below.drew (by assumption)) | exact keep3 HX.out (Below.drew (And.left (by assumption))) | exact keep3 HX.out (belAlloc (by assumption) _) | exact keep3 HX.out (belAlloc (And.left (by assumption)) _) | exact keep3 HX.out (belAlloc (by assumption) _).drew | exact keep3 HX.out (belAlloc (And.left (by assumption)) _).drew | exact keep3 HX.out (belAlloc (Below.drew (by assumption)) _) | exact keep3 HX.out (belAlloc (Below.drew (And.left (by assumption))) _))
              (first
                | (refine step_append_R encA_1_I encA_len_I (by decide) (by rfl) _ _ _ (by rfl) wc 50 i0 _ 16 Tryz.underlying23 hi0 hz0 hz1 hz2 rfl _ #[] (by rfl) (by first | exact em2A _ _ | exact em2B _ _ _ | exact em2C _ _ _ (by simp)) _ _ _ (wc.heap.size + 9) ((#[] : Array (Int × Int)).toList.take 0).toArray (by rfl) (by have := HSZ.out; first | (simp; done) | (simp; omega)) (fun h => absurd h (by simp)) (fun _ => rfl) (by have := HSZ.out; first | (simp; done) | (simp; omega)) (by decide) (by first | assumption | exact And.left (by assumption)) ?_; intro v1 w1 hown1 hgrow1 hBw1)
                | (refine step_append_R encA_1_I encA_len_I (by decide) (by rfl) _ _ _ (by rfl) wc 50 i0 _ 16 Tryz.underlying23 hi0 hz0 hz1 hz2 rfl v1 (#[] ++ ((#[] : Array (Int × Int)).toList.take 0).toArray) (by rfl) (by first | exact hown1 | exact (hown1.alloc _).drew) _ _ _ _ #[x] (by rfl) (by rfl) (by first | exact one2A _ _ _ | exact one2B hgrow1 | exact one2C hgrow1) (fun h => by cases h) (by have := HSZ.out; first | (simp; done) | (simp; omega)) (by decide) (by first | assumption | exact And.left (by assumption)) ?_; intro v2 w2 hown2 hgrow2 hBw2)
                | (refine step_append_R encA_1_I encA_len_I (by decide) (by rfl) _ _ _ (by rfl) wc 50 i0 _ 16 Tryz.underlying23 hi0 hz0 hz1 hz2 rfl v2 (#[] ++ ((#[] : Array (Int × Int)).toList.take 0).toArray ++ #[x]) (by rfl) (by first | exact hown2 | exact hown2.drew) _ _ _ (wc.heap.size + 9) ((#[] : Array (Int × Int)).toList.drop 0).toArray (by rfl) (by have := HSZ.out; first | (simp; done) | (simp; omega)) (fun h => absurd h (by simp)) (fun _ => rfl) (by have := HSZ.out; first | (simp; done) | (simp; omega)) (by decide) (by first | assumption | exact And.left (by assumption)) ?_; intro v3 w3 hown3 hgrow3 hBw3))
            all_goals
              go_wp2
              exact ⟨⟨0 + 1, _, by go_num, by omega, own_mono_I (by rw [HPUT.out.size (by omega)] at hown3; exact hown3) (HBW.out.size), by first | exact HPUT.out | (rw [HX2.out]; exact HPUT.out), HBW.out.trans (hBw3.mono HBW.out.size)⟩, by simp [intOf]; omega⟩
      · obtain ⟨g, cap, o0, rfl, hcap, hg, hH⟩ := own_parts hown HSZ.out hn
        have HH2 : Hid (HoldsK encA_I 2 w2 g o0 oo) := by rw [HW2.out]; exact hH
        have HG2 : Hid (g < w2.heap.size) := by rw [HW2.out]; exact hg
        clear hH hg hown hn
        go_wp2_with fail
        go_loopw [5] (fun kk wr => ∃ k : Nat, kk = .int .i64 k ∧ k ≤ m ∧ (∀ j, j < k → lessA x oo[j]! = false) ∧ Below w2.heap.size w2 wr) (fun kk _ => m - (intOf kk).toNat)
        case atStart => exact ⟨0, rfl, Nat.zero_le _, (fun j hj => absurd hj (by omega)), by rw [HW2.out]; exact Below.refl _ _⟩
        case round =>
          obtain ⟨k, rfl, hk, hj, hBi⟩ := hrel
          have HJ := Lib.hid hj
          clear hj
          go_upto_region 6 with fail
          go_cut [27] from 12 to 29 (fun s wx => s = .bool (decide (k < m) && !lessA x oo[k]!) ∧ Below w2.heap.size w2 wx)
          case first =>
            by_cases hkm : k < m
            · have hkz : (k : Int) < (m : Int) := by omega
              have p0 := fun p => (cellsE HH2.out HG2.out hBi (k := k) (by rw [HSZ.out]; exact hkm) p).1
              have p1 := fun p => (cellsE HH2.out HG2.out hBi (k := k) (by rw [HSZ.out]; exact hkm) p).2
              have q0 : ∀ p : ExtW wr, p.to.cell? ⟨b, off + m * 2, none⟩ = some (.int .i64 x.1) := fun p => (keep3 HXW.out (hBi.trans (p.h.mono hBi.size))).2.1
              have q1 : ∀ p : ExtW wr, p.to.cell? ⟨b, off + m * 2 + 1, none⟩ = some (.int .i64 x.2) := fun p => (keep3 HXW.out (hBi.trans (p.h.mono hBi.size))).2.2
              have hc := fun W => rLess_any x oo[k]! W
              obtain ⟨y, hy⟩ : ∃ y, oo[k]! = y := ⟨_, rfl⟩
              simp only [hy] at p0 p1 hc
              have HT : Hid ((decide (k < m) && !lessA x oo[k]!) = !lessA x y) := by show _ = _; rw [hy]; simp [hkm]
              clear hy
              generalize lessA x y = t at hc HT
              have HC := Lib.hid hc
              clear hc
              cases t
              all_goals
                go_wp2_with fail
                refine wp_region_ext (by kernel_rfl) (by kernel_rfl) ?_
                repeat (first | go_big_quiet_step ((go_at_call 66; exact Calls.ext_of (HC.out _))) | quiet_step ((go_at_call 66; exact Calls.ext_of (HC.out _))))
                refine wpQuiet_nil ?_
                intro w' hw'
                obtain ⟨⟨W, hbW⟩, hw''⟩ := hw'
                have hw3 : w' = W := hw''
                subst hw3
                have hBi2 := hBi.trans (hbW.mono hBi.size)
                clear hbW hw'' p0 p1 q0 q1
                go_wp2_with fail
                go_meet
                exact ⟨congrArg Value.bool HT.out.symm, hBi2⟩
            · have hkd : decide (k < m) = false := by simp; omega
              have hkz : ¬ (k : Int) < (m : Int) := by omega
              have HT : Hid ((decide (k < m) && !lessA x oo[k]!) = false) := by show _ = _; simp [hkm]
              go_wp2_with fail
              go_quiet (fail)
              go_wp2_with fail
              go_meet
              exact ⟨congrArg Value.bool HT.out.symm, belDrewN hBi nq⟩
          case rest =>
            clear hBi
            obtain ⟨rfl, hBi⟩ := hcut
            cases hT : (decide (k < m) && !lessA x oo[k]!)
            · have HT : Hid (k < m → lessA x oo[k]! = true) := fun h => by simpa [h] using hT
              clear hT
              have k0 : (0 : Int) ≤ (k : Int) := by omega
              have kc : (k : Int) ≤ (cap : Int) := by omega
              have kd : (k : Int) ≤ (m : Int) := by omega
              by_cases hkm : k < m
              · have hck : ¬ cap = k := by omega
                have HX : Hid (b < wc.heap.size ∧ wc.cell? ⟨b, off + m * 2, none⟩ = some (.int .i64 x.1) ∧ wc.cell? ⟨b, off + m * 2 + 1, none⟩ = some (.int .i64 x.2)) := ⟨Nat.lt_of_lt_of_le HXW.out.1 hBi.size, (hBi.cell (p := ⟨b, off + m * 2, none⟩) HXW.out.1).trans HXW.out.2.1, (hBi.cell (p := ⟨b, off + m * 2 + 1, none⟩) HXW.out.1).trans HXW.out.2.2⟩
                have x0 := HX.out.2.1
                have x1 := HX.out.2.2
                have HBW : Hid (Below w.heap.size w wc) := HB2.out.trans (hBi.mono HB2.out.size)
                have hbz : Below wc.heap.size wc wc := Below.refl _ _
                have HH : Hid (HoldsK encA_I 2 wc g o0 oo) := holdsBel HH2.out HG2.out hBi
                have HG : Hid (g < wc.heap.size) := Nat.lt_of_lt_of_le HG2.out hBi.size
                have HPUT : Hid (InsP d (m + 1) (#[] ++ (oo.toList.take k).toArray ++ #[x] ++ (oo.toList.drop k).toArray)) := by
                  have := HI.out.put (k := k) hlt (by omega) (fun j hj => by rw [HX2.out]; exact HJ.out j hj) (fun h => by rw [HX2.out]; exact HT.out h)
                  rw [HX2.out] at this
                  exact this
                clear hBi
                go_wp2_with fail
                go_region_held3 (fun w' => Below wc.heap.size wc w' ∧ w'.cell? ⟨b, off + m * 2, none⟩ = some (.int .i64 x.1) ∧ w'.cell? ⟨b, off + m * 2 + 1, none⟩ = some (.int .i64 x.2)) (first | assumption | exact keep3 HX.out (by assumption) | exact keep3 HX.out (And.left (by assumption)) | exact keep3 HX.out (Below.drew (by assumption)) | exact keep3 HX.out (Below.drew (And.left (by assumption))) | exact keep3 HX.out (belAlloc (by assumption) _) | exact keep3 HX.out (belAlloc (And.left (by assumption)) _) | exact keep3 HX.out (belAlloc (by assumption) _).drew | exact keep3 HX.out (belAlloc (And.left (by assumption)) _).drew | exact keep3 HX.out (belAlloc (Below.drew (by assumption)) _) | exact keep3 HX.out (belAlloc (Below.drew (And.left (by assumption))) _))
                  (first
                    | (refine step_append_R encA_1_I encA_len_I (by decide) (by rfl) _ _ _ (by rfl) wc 50 i0 _ 16 Tryz.underlying23 hi0 hz0 hz1 hz2 rfl _ #[] (by rfl) (by first | exact em2A _ _ | exact em2B _ _ _ | exact em2C _ _ _ (by simp)) _ _ _ (wc.heap.size + 9) (oo.toList.take k).toArray (by rfl) (by have := HSZ.out; first | (simp; done) | (simp; omega)) (rd_take HH.out HG.out (by first | assumption | exact And.left (by assumption)) HSZ.out (by omega) (by have := HG.out; omega)) (fun h => by cases h) (by have := HSZ.out; first | (simp; done) | (simp; omega)) (by decide) (by first | assumption | exact And.left (by assumption)) ?_; intro v1 w1 hown1 hgrow1 hBw1)
                    | (refine step_append_R encA_1_I encA_len_I (by decide) (by rfl) _ _ _ (by rfl) wc 50 i0 _ 16 Tryz.underlying23 hi0 hz0 hz1 hz2 rfl v1 (#[] ++ (oo.toList.take k).toArray) (by rfl) (by first | exact hown1 | exact (hown1.alloc _).drew) _ _ _ _ #[x] (by rfl) (by rfl) (by first | exact one2A _ _ _ | exact one2B hgrow1 | exact one2C hgrow1) (fun h => by cases h) (by have := HSZ.out; first | (simp; done) | (simp; omega)) (by decide) (by first | assumption | exact And.left (by assumption)) ?_; intro v2 w2 hown2 hgrow2 hBw2)
                    | (refine step_append_R encA_1_I encA_len_I (by decide) (by rfl) _ _ _ (by rfl) wc 50 i0 _ 16 Tryz.underlying23 hi0 hz0 hz1 hz2 rfl v2 (#[] ++ (oo.toList.take k).toArray ++ #[x]) (by rfl) (by first | exact hown2 | exact hown2.drew) _ _ _ (wc.heap.size + 9) (oo.toList.drop k).toArray (by rfl) (by have := HSZ.out; first | (simp; done) | (simp; omega)) (rd_drop HH.out HG.out (by first | assumption | exact And.left (by assumption)) HSZ.out (by omega) (by have := HG.out; omega) (by omega)) (fun h => by cases h) (by have := HSZ.out; first | (simp; done) | (simp; omega)) (by decide) (by first | assumption | exact And.left (by assumption)) ?_; intro v3 w3 hown3 hgrow3 hBw3))
                all_goals
                  go_wp2
                  exact ⟨⟨m + 1, _, by go_num, by omega, own_mono_I (by rw [HPUT.out.size (by omega)] at hown3; exact hown3) (HBW.out.size), by first | exact HPUT.out | (rw [HX2.out]; exact HPUT.out), HBW.out.trans (hBw3.mono HBW.out.size)⟩, by simp [intOf]; omega⟩
              · obtain rfl : k = m := by omega
                by_cases hck : cap = k
                · obtain rfl : cap = k := hck
                  have HX : Hid (b < wc.heap.size ∧ wc.cell? ⟨b, off + cap * 2, none⟩ = some (.int .i64 x.1) ∧ wc.cell? ⟨b, off + cap * 2 + 1, none⟩ = some (.int .i64 x.2)) := ⟨Nat.lt_of_lt_of_le HXW.out.1 hBi.size, (hBi.cell (p := ⟨b, off + cap * 2, none⟩) HXW.out.1).trans HXW.out.2.1, (hBi.cell (p := ⟨b, off + cap * 2 + 1, none⟩) HXW.out.1).trans HXW.out.2.2⟩
                  have x0 := HX.out.2.1
                  have x1 := HX.out.2.2
                  have HBW : Hid (Below w.heap.size w wc) := HB2.out.trans (hBi.mono HB2.out.size)
                  have hbz : Below wc.heap.size wc wc := Below.refl _ _
                  have HH : Hid (HoldsK encA_I 2 wc g o0 oo) := holdsBel HH2.out HG2.out hBi
                  have HG : Hid (g < wc.heap.size) := Nat.lt_of_lt_of_le HG2.out hBi.size
                  have HPUT : Hid (InsP d (cap + 1) (#[] ++ (oo.toList.take cap).toArray ++ #[x] ++ (oo.toList.drop cap).toArray)) := by
                    have := HI.out.put (k := cap) hlt (by omega) (fun j hj => by rw [HX2.out]; exact HJ.out j hj) (fun h => by rw [HX2.out]; exact HT.out h)
                    rw [HX2.out] at this
                    exact this
                  clear hBi
                  go_wp2_with fail
                  go_region_held3 (fun w' => Below wc.heap.size wc w' ∧ w'.cell? ⟨b, off + cap * 2, none⟩ = some (.int .i64 x.1) ∧ w'.cell? ⟨b, off + cap * 2 + 1, none⟩ = some (.int .i64 x.2)) (first | assumption | exact keep3 HX.out (by assumption) | exact keep3 HX.out (And.left (by assumption)) | exact keep3 HX.out (Below.drew (by assumption)) | exact keep3 HX.out (Below.drew (And.left (by assumption))) | exact keep3 HX.out (belAlloc (by assumption) _) | exact keep3 HX.out (belAlloc (And.left (by assumption)) _) | exact keep3 HX.out (belAlloc (by assumption) _).drew | exact keep3 HX.out (belAlloc (And.left (by assumption)) _).drew | exact keep3 HX.out (belAlloc (Below.drew (by assumption)) _) | exact keep3 HX.out (belAlloc (Below.drew (And.left (by assumption))) _))
                    (first
                      | (refine step_append_R encA_1_I encA_len_I (by decide) (by rfl) _ _ _ (by rfl) wc 50 i0 _ 16 Tryz.underlying23 hi0 hz0 hz1 hz2 rfl _ #[] (by rfl) (by first | exact em2A _ _ | exact em2B _ _ _ | exact em2C _ _ _ (by simp)) _ _ _ (wc.heap.size + 9) (oo.toList.take cap).toArray (by rfl) (by have := HSZ.out; first | (simp; done) | (simp; omega)) (rd_take HH.out HG.out (by first | assumption | exact And.left (by assumption)) HSZ.out (by omega) (by have := HG.out; omega)) (fun h => by cases h) (by have := HSZ.out; first | (simp; done) | (simp; omega)) (by decide) (by first | assumption | exact And.left (by assumption)) ?_; intro v1 w1 hown1 hgrow1 hBw1)
                      | (refine step_append_R encA_1_I encA_len_I (by decide) (by rfl) _ _ _ (by rfl) wc 50 i0 _ 16 Tryz.underlying23 hi0 hz0 hz1 hz2 rfl v1 (#[] ++ (oo.toList.take cap).toArray) (by rfl) (by first | exact hown1 | exact (hown1.alloc _).drew) _ _ _ _ #[x] (by rfl) (by rfl) (by first | exact one2A _ _ _ | exact one2B hgrow1 | exact one2C hgrow1) (fun h => by cases h) (by have := HSZ.out; first | (simp; done) | (simp; omega)) (by decide) (by first | assumption | exact And.left (by assumption)) ?_; intro v2 w2 hown2 hgrow2 hBw2)
                      | (refine step_append_R encA_1_I encA_len_I (by decide) (by rfl) _ _ _ (by rfl) wc 50 i0 _ 16 Tryz.underlying23 hi0 hz0 hz1 hz2 rfl v2 (#[] ++ (oo.toList.take cap).toArray ++ #[x]) (by rfl) (by first | exact hown2 | exact hown2.drew) _ _ _ (wc.heap.size + 9) (oo.toList.drop cap).toArray (by rfl) (by have := HSZ.out; first | (simp; done) | (simp; omega)) (rd_drop HH.out HG.out (by first | assumption | exact And.left (by assumption)) HSZ.out (by omega) (by have := HG.out; omega) (by omega)) (fun h => by cases h) (by have := HSZ.out; first | (simp; done) | (simp; omega)) (by decide) (by first | assumption | exact And.left (by assumption)) ?_; intro v3 w3 hown3 hgrow3 hBw3))
                  all_goals
                    go_wp2
                    exact ⟨⟨cap + 1, _, by go_num, by omega, own_mono_I (by rw [HPUT.out.size (by omega)] at hown3; exact hown3) (HBW.out.size), by first | exact HPUT.out | (rw [HX2.out]; exact HPUT.out), HBW.out.trans (hBw3.mono HBW.out.size)⟩, by simp [intOf]; omega⟩
                · skip
                  have HX : Hid (b < wc.heap.size ∧ wc.cell? ⟨b, off + k * 2, none⟩ = some (.int .i64 x.1) ∧ wc.cell? ⟨b, off + k * 2 + 1, none⟩ = some (.int .i64 x.2)) := ⟨Nat.lt_of_lt_of_le HXW.out.1 hBi.size, (hBi.cell (p := ⟨b, off + k * 2, none⟩) HXW.out.1).trans HXW.out.2.1, (hBi.cell (p := ⟨b, off + k * 2 + 1, none⟩) HXW.out.1).trans HXW.out.2.2⟩
                  have x0 := HX.out.2.1
                  have x1 := HX.out.2.2
                  have HBW : Hid (Below w.heap.size w wc) := HB2.out.trans (hBi.mono HB2.out.size)
                  have hbz : Below wc.heap.size wc wc := Below.refl _ _
                  have HH : Hid (HoldsK encA_I 2 wc g o0 oo) := holdsBel HH2.out HG2.out hBi
                  have HG : Hid (g < wc.heap.size) := Nat.lt_of_lt_of_le HG2.out hBi.size
                  have HPUT : Hid (InsP d (k + 1) (#[] ++ (oo.toList.take k).toArray ++ #[x] ++ (oo.toList.drop k).toArray)) := by
                    have := HI.out.put (k := k) hlt (by omega) (fun j hj => by rw [HX2.out]; exact HJ.out j hj) (fun h => by rw [HX2.out]; exact HT.out h)
                    rw [HX2.out] at this
                    exact this
                  clear hBi
                  go_wp2_with fail
                  go_region_held3 (fun w' => Below wc.heap.size wc w' ∧ w'.cell? ⟨b, off + k * 2, none⟩ = some (.int .i64 x.1) ∧ w'.cell? ⟨b, off + k * 2 + 1, none⟩ = some (.int .i64 x.2)) (first | assumption | exact keep3 HX.out (by assumption) | exact keep3 HX.out (And.left (by assumption)) | exact keep3 HX.out (Below.drew (by assumption)) | exact keep3 HX.out (Below.drew (And.left (by assumption))) | exact keep3 HX.out (belAlloc (by assumption) _) | exact keep3 HX.out (belAlloc (And.left (by assumption)) _) | exact keep3 HX.out (belAlloc (by assumption) _).drew | exact keep3 HX.out (belAlloc (And.left (by assumption)) _).drew | exact keep3 HX.out (belAlloc (Below.drew (by assumption)) _) | exact keep3 HX.out (belAlloc (Below.drew (And.left (by assumption))) _))
                    (first
                      | (refine step_append_R encA_1_I encA_len_I (by decide) (by rfl) _ _ _ (by rfl) wc 50 i0 _ 16 Tryz.underlying23 hi0 hz0 hz1 hz2 rfl _ #[] (by rfl) (by first | exact em2A _ _ | exact em2B _ _ _ | exact em2C _ _ _ (by simp)) _ _ _ (wc.heap.size + 9) (oo.toList.take k).toArray (by rfl) (by have := HSZ.out; first | (simp; done) | (simp; omega)) (rd_take HH.out HG.out (by first | assumption | exact And.left (by assumption)) HSZ.out (by omega) (by have := HG.out; omega)) (fun h => by cases h) (by have := HSZ.out; first | (simp; done) | (simp; omega)) (by decide) (by first | assumption | exact And.left (by assumption)) ?_; intro v1 w1 hown1 hgrow1 hBw1)
                      | (refine step_append_R encA_1_I encA_len_I (by decide) (by rfl) _ _ _ (by rfl) wc 50 i0 _ 16 Tryz.underlying23 hi0 hz0 hz1 hz2 rfl v1 (#[] ++ (oo.toList.take k).toArray) (by rfl) (by first | exact hown1 | exact (hown1.alloc _).drew) _ _ _ _ #[x] (by rfl) (by rfl) (by first | exact one2A _ _ _ | exact one2B hgrow1 | exact one2C hgrow1) (fun h => by cases h) (by have := HSZ.out; first | (simp; done) | (simp; omega)) (by decide) (by first | assumption | exact And.left (by assumption)) ?_; intro v2 w2 hown2 hgrow2 hBw2)
                      | (refine step_append_R encA_1_I encA_len_I (by decide) (by rfl) _ _ _ (by rfl) wc 50 i0 _ 16 Tryz.underlying23 hi0 hz0 hz1 hz2 rfl v2 (#[] ++ (oo.toList.take k).toArray ++ #[x]) (by rfl) (by first | exact hown2 | exact hown2.drew) _ _ _ (wc.heap.size + 9) (oo.toList.drop k).toArray (by rfl) (by have := HSZ.out; first | (simp; done) | (simp; omega)) (rd_drop HH.out HG.out (by first | assumption | exact And.left (by assumption)) HSZ.out (by omega) (by have := HG.out; omega) (by omega)) (fun h => by cases h) (by have := HSZ.out; first | (simp; done) | (simp; omega)) (by decide) (by first | assumption | exact And.left (by assumption)) ?_; intro v3 w3 hown3 hgrow3 hBw3))
                  all_goals
                    go_wp2
                    exact ⟨⟨k + 1, _, by go_num, by omega, own_mono_I (by rw [HPUT.out.size (by omega)] at hown3; exact hown3) (HBW.out.size), by first | exact HPUT.out | (rw [HX2.out]; exact HPUT.out), HBW.out.trans (hBw3.mono HBW.out.size)⟩, by simp [intOf]; omega⟩
            · have hkm : k < m := by simp at hT; exact hT.1
              have HT : Hid (lessA x oo[k]! = false) := by show _ = _; simp at hT; exact hT.2
              clear hT
              go_wp2
              exact ⟨⟨k + 1, by go_num, by omega, (fun j hj => by
                rcases Nat.lt_or_ge j k with h | h
                · exact HJ.out j h
                · obtain rfl : j = k := by omega
                  exact HT.out), hBi⟩, by simp [intOf]; omega⟩
    · obtain rfl : m = d.size := by omega
      obtain rfl := HI.out.fin
      have HO := Lib.hid hown
      clear hown
      have hlt' : ¬ (d.size : Int) < (d.size : Int) := by omega
      go_wp2
      go_ret
      exact ⟨_, rfl, HO.out, hB⟩
end Go.Proofs.YtgpejfkmdenonaaGreat
