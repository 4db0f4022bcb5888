/- known.Add, where it refuses; a row of its own with some elements taken out. known.Add, where it adds. -/
import Derived.Test.YtgpejfkmdenonaaGreatQKnI
namespace Go.Proofs.YtgpejfkmdenonaaGreat
open Go.RowKit Go.Sort Go.Lib
set_option maxRecDepth 100000
theorem two_blk (w : World) (o o' : Obj) : ((w.alloc o).alloc o').heap[w.heap.size]? = some o ∧ ((w.alloc o).alloc o').heap[w.heap.size + 1]? = some o' :=
  ⟨blk_alloc (heap_alloc_new w o), by rw [show w.heap.size + 1 = (w.alloc o).heap.size by simp]; exact heap_alloc_new _ _⟩
theorem blk3 {W : World} {g : Nat} {a b c : Value} {T : TypeId} (h : W.heap[g]? = some (.cells #[a, b, c] T (0, 0))) : (W.cell? ⟨g, 0, none⟩ = some a ∧ W.cell? ⟨g, 1, none⟩ = some b ∧ W.cell? ⟨g, 2, none⟩ = some c) ∧ ∀ i, W.frozen? ⟨g, i, none⟩ = false := by
  refine ⟨⟨?_, ?_, ?_⟩, fun i => by simp [World.frozen?, h]⟩
  · rw [cell_of_row W _ 0 _ _ (0, 0) h]; rfl
  · rw [cell_of_row W _ 1 _ _ (0, 0) h]; rfl
  · rw [cell_of_row W _ 2 _ _ (0, 0) h]; rfl
theorem blk_lt {W : World} {g : Nat} {o : Obj} (h : W.heap[g]? = some o) : g < W.heap.size := by
  rcases Nat.lt_or_ge g W.heap.size with h' | h'
  · exact h'
  · rw [Array.getElem?_eq_none h'] at h; cases h
theorem blk_bel {W W' : World} {g : Nat} {o : Obj} (h : W.heap[g]? = some o) (hb : Below W.heap.size W W') : W'.heap[g]? = some o := (hb.block g (blk_lt h)).trans h
set_option maxHeartbeats 4000000 in
theorem kAdd_bad (base : Int) (rs ats : Array (Int × Int)) (A1 : Option Addr) (c1 : Nat) (A2 : Option Addr) (c2 : Nat) (lo hi : Int) (atts : Array (Int × Int)) (A3 : Option Addr) (c3 : Nat) (w : World) (h1 : RdK encR 2 w.heap.size w A1 rs) (h2 : RdK encA_I 2 w.heap.size w A2 ats) (h3 : RdK encA_I 2 w.heap.size w A3 atts) (hs : atts.size ≤ 1000000) (hbad : addB ⟨base, rs, ats⟩ lo hi atts = false) :
    Calls Tryz.prog 9 #[.agg #[.int .i64 base, .slice A1 rs.size c1, .slice A2 ats.size c2], .int .i64 lo, .int .i64 hi, .slice A3 atts.size c3] w fun e w' => e = .returned (.tuple #[.agg #[.int .i64 0, .slice none 0 0, .slice none 0 0], .int .i64 2]) ∧ Below w.heap.size w w' := by
  have HC : Hid (∀ W, Below w.heap.size w W → Calls Tryz.prog 12 #[.agg #[.int .i64 base, .slice A1 rs.size c1, .slice A2 ats.size c2]] W fun e w' => e = .returned (.int .i64 (chkE ⟨base, rs, ats⟩)) ∧ Below W.heap.size W w') := fun W hb => kCheck_let base rs ats A1 c1 A2 c2 W ((h1.below hb).mono hb.size) ((h2.below hb).mono hb.size)
  have HRi : Hid (∀ W, Below w.heap.size w W → Calls Tryz.prog 22 #[.slice A3 atts.size c3, .int .i64 lo, .int .i64 hi] W fun e w' => e = .returned (.bool (riseL hi lo atts.toList)) ∧ Below W.heap.size W w') := fun W hb => rise_any A3 c3 atts lo hi W ((h3.below hb).mono hb.size) hs
  have HBd := Lib.hid hbad
  have q0 := chkE_ne ⟨base, rs, ats⟩
  clear h1 h2 h3 hbad
  generalize chkE ⟨base, rs, ats⟩ = ce at q0 HC
  have HT := Lib.hid (two_blk w (.cells #[.int .i64 base, .slice A1 rs.size c1, .slice A2 ats.size c2] 25) (.cells #[.int .i64 0, .slice none 0 0, .slice none 0 0] 25))
  cases hc : chkB ⟨base, rs, ats⟩
  · rw [hc] at q0
    clear hc
    go_enter Tryz.func9, Tryz.ntmps9
    go_wp2_with fail
    refine (HC.out _ (belAlloc (bel1 w _) _)).mono ?_
    rintro e w1 ⟨rfl, hb1⟩
    obtain ⟨⟨k0, k1, k2⟩, f0⟩ := blk3 (blk_bel HT.out.2 hb1)
    have HB1 := Lib.hid (belStep (belAlloc (bel1 w _) _) hb1)
    clear hb1
    go_wp2
    refine bodyPost_ret (v := .tuple #[.agg #[.int .i64 0, .slice none 0 0, .slice none 0 0], .int .i64 2]) (by simp [results, Tryz.results9, go_sem, k0, k1, k2]) rfl ⟨rfl, ?_⟩
    exact ((HB1.out.setCell (by simp) _).setCell (by simp) _).setCell (by simp) _
  · rw [hc] at q0
    have HQ : Hid (lo < 0 ∨ hi < lo ∨ 1000000 < hi ∨ riseL hi lo atts.toList = false) := by
      show _ ∨ _
      have h := HBd.out
      unfold addB at h
      rw [hc, Bool.true_and, Bool.and_eq_false_iff, decide_eq_false_iff_not] at h
      by_cases g1 : lo < 0
      · exact Or.inl g1
      · by_cases g2 : hi < lo
        · exact Or.inr (Or.inl g2)
        · by_cases g3 : 1000000 < hi
          · exact Or.inr (Or.inr (Or.inl g3))
          · exact Or.inr (Or.inr (Or.inr (by rcases h with h | h; exact absurd ⟨by omega, by omega, by omega⟩ h; exact h)))
    clear hc
    by_cases g1 : lo < 0
    · have d1 : decide (lo < 0) = true := by simpa using g1
      clear g1
      go_enter Tryz.func9, Tryz.ntmps9
      go_wp2_with fail
      refine (HC.out _ (belAlloc (bel1 w _) _)).mono ?_
      rintro e w1 ⟨rfl, hb1⟩
      obtain ⟨⟨k0, k1, k2⟩, f0⟩ := blk3 (blk_bel HT.out.2 hb1)
      have HB1 := Lib.hid (belStep (belAlloc (bel1 w _) _) hb1)
      clear hb1
      go_wp2
      refine bodyPost_ret (v := .tuple #[.agg #[.int .i64 0, .slice none 0 0, .slice none 0 0], .int .i64 2]) (by simp [results, Tryz.results9, go_sem, k0, k1, k2]) rfl ⟨rfl, ?_⟩
      exact ((HB1.out.setCell (by simp) _).setCell (by simp) _).setCell (by simp) _
    · have d1 : decide (lo < 0) = false := decide_eq_false g1
      by_cases g2 : hi < lo
      · have d2 : decide (hi < lo) = true := by simpa using g2
        clear g1 g2
        go_enter Tryz.func9, Tryz.ntmps9
        go_wp2_with fail
        refine (HC.out _ (belAlloc (bel1 w _) _)).mono ?_
        rintro e w1 ⟨rfl, hb1⟩
        obtain ⟨⟨k0, k1, k2⟩, f0⟩ := blk3 (blk_bel HT.out.2 hb1)
        have HB1 := Lib.hid (belStep (belAlloc (bel1 w _) _) hb1)
        clear hb1
        go_wp2
        refine bodyPost_ret (v := .tuple #[.agg #[.int .i64 0, .slice none 0 0, .slice none 0 0], .int .i64 2]) (by simp [results, Tryz.results9, go_sem, k0, k1, k2]) rfl ⟨rfl, ?_⟩
        exact ((HB1.out.setCell (by simp) _).setCell (by simp) _).setCell (by simp) _
      · have d2 : decide (hi < lo) = false := decide_eq_false g2
        by_cases g3 : 1000000 < hi
        · have d3 : decide (1000000 < hi) = true := by simpa using g3
          clear g1 g2 g3
          go_enter Tryz.func9, Tryz.ntmps9
          go_wp2_with fail
          refine (HC.out _ (belAlloc (bel1 w _) _)).mono ?_
          rintro e w1 ⟨rfl, hb1⟩
          obtain ⟨⟨k0, k1, k2⟩, f0⟩ := blk3 (blk_bel HT.out.2 hb1)
          have HB1 := Lib.hid (belStep (belAlloc (bel1 w _) _) hb1)
          clear hb1
          go_wp2
          refine bodyPost_ret (v := .tuple #[.agg #[.int .i64 0, .slice none 0 0, .slice none 0 0], .int .i64 2]) (by simp [results, Tryz.results9, go_sem, k0, k1, k2]) rfl ⟨rfl, ?_⟩
          exact ((HB1.out.setCell (by simp) _).setCell (by simp) _).setCell (by simp) _
        · have d3 : decide (1000000 < hi) = false := decide_eq_false g3
          have g4 : riseL hi lo atts.toList = false := by
            rcases HQ.out with g | g | g | g
            · exact absurd g g1
            · exact absurd g g2
            · exact absurd g g3
            · exact g
          rw [g4] at HRi
          clear g1 g2 g3 g4 HQ
          go_enter Tryz.func9, Tryz.ntmps9
          go_wp2_with fail
          refine (HC.out _ (belAlloc (bel1 w _) _)).mono ?_
          rintro e w1 ⟨rfl, hb1⟩
          have HT1 := Lib.hid (blk_bel HT.out.2 hb1)
          have HB1 := Lib.hid (belStep (belAlloc (bel1 w _) _) hb1)
          clear hb1
          go_wp2_with fail
          refine (HRi.out _ HB1.out).mono ?_
          rintro e w2 ⟨rfl, hb2⟩
          obtain ⟨⟨k0, k1, k2⟩, f0⟩ := blk3 (blk_bel HT1.out hb2)
          have HB2 := Lib.hid (belStep HB1.out hb2)
          clear hb2
          go_wp2
          refine bodyPost_ret (v := .tuple #[.agg #[.int .i64 0, .slice none 0 0, .slice none 0 0], .int .i64 2]) (by simp [results, Tryz.results9, go_sem, k0, k1, k2]) rfl ⟨rfl, ?_⟩
          exact ((HB2.out.setCell (by simp) _).setCell (by simp) _).setCell (by simp) _
set_option maxHeartbeats 1000000 in
theorem idxA_nil (fv : Value) (c : Nat) (w : World) :
    Calls Tryz.prog 52 #[.slice none 0 c, fv] w fun e w' => e = .returned (.int .i64 (-1)) ∧ w = w' := by
  go_enter Tryz.func52, Tryz.ntmps52
  go_wp2
  refine wp_loop_rounds 1 ?_; rw [rounds_succ]
  go_wp2
  go_ret
  exact ⟨rfl, rfl⟩
set_option maxHeartbeats 1000000 in
theorem delA_nil (fv : Value) (c : Nat) (w : World) :
    Calls Tryz.prog 23 #[.slice none 0 c, fv] w fun e w' => e = .returned (.slice none 0 c) ∧ w = w' := by
  go_enter Tryz.func23, Tryz.ntmps23
  go_wp2_with (go_at_call 52; refine (idxA_nil _ _ _).mono ?_; rintro e w' ⟨rfl, rfl⟩)
  go_ret
  exact ⟨rfl, rfl⟩
/-- DeleteFunc on a row of the call's own. -/
theorem delA_own (p : Int × Int → Bool) (g : Nat) (lb : Array Value) (eg : ∀ args w, (callFunc g args).run Tryz.prog w = .ok (.enter g args) w) (v : Value) (d : Array (Int × Int)) (B : Nat) (w : World)
    (hp : ∀ W x, (∀ i, i < B → W.heap[i]? = w.heap[i]?) → B ≤ W.heap.size → Calls Tryz.prog g (#[.agg (encA_I x).toArray] ++ lb) W fun e w' => e = .returned (.bool (p x)) ∧ Below W.heap.size W w')
    (hown : w.ownsRow B 50 2 v d.size (flatK encA_I 2 d).toList) (hB : B ≤ w.heap.size) (hsz : d.size ≤ 1000000) :
    Calls Tryz.prog 23 #[v, .func (.func g) #[] lb] w fun e w' => ∃ A c, e = .returned (.slice A (d.toList.filter fun x => !p x).toArray.size c) ∧ RdK encA_I 2 w'.heap.size w' A (d.toList.filter fun x => !p x).toArray ∧ (A = none → c = 0) ∧ (∀ g off, A = some ⟨g, off, none⟩ → B ≤ g) ∧ Below B w w' := by
  by_cases hn : v = .slice none 0 0
  · subst hn
    have h0 : d.size = 0 := by
      obtain ⟨_, ⟨_, h0⟩ | ⟨g, cap, cur, hv, _⟩⟩ := hown
      · exact h0
      · cases hv
    obtain rfl : d = #[] := Array.eq_empty_of_size_eq_zero h0
    refine (delA_nil _ 0 w).mono ?_
    rintro e w' ⟨rfl, rfl⟩
    exact ⟨none, 0, rfl, fun h => absurd h (by simp), fun _ => rfl, (fun g off e => by cases e), Below.refl _ _⟩
  · have hcap : ∀ gg cap, v = .slice (some ⟨gg, 0, none⟩) d.size cap → d.size ≤ cap := fun gg cap e => by
      obtain ⟨_, ⟨h1, _⟩ | ⟨g2, cap2, cur, hv, _, _, hnc, _⟩⟩ := hown
      · exact absurd h1 hn
      · rw [hv] at e
        injection e with _ _ e3
        omega
    obtain ⟨gb, cap, rfl, hgb, hlt, hH⟩ := holds_of_owns hown hn
    refine (attDel p g lb eg gb 0 cap d w (fun W x hg => hp W x (fun i hi => hg.block i (by omega) (fun e => by injection e with e; omega)) (Nat.le_trans hB hg.size)) hH hlt hsz (hcap _ _ rfl)).mono ?_
    rintro e w' ⟨rfl, hg, hr⟩
    exact ⟨_, _, rfl, hr, (fun h => by cases h), (fun g off e => by injection e with e; injection e with e1 e2; omega), ⟨hg.os, hg.tape, hg.output, hg.size, fun i hi => hg.block i (by omega) (fun e => by injection e with e; omega)⟩⟩
end Go.Proofs.YtgpejfkmdenonaaGreat
namespace Go.Proofs.YtgpejfkmdenonaaGreat
open Go.RowKit Go.Sort Go.Lib
set_option maxRecDepth 100000
theorem RdK.blocks {α : Type} [Inhabited α] {enc : α → List Value} {k B0 B : Nat} {w W : World} {A : Option Addr} {d : Array α} (h : RdK enc k B0 w A d) (hB : B0 ≤ B) (hb : ∀ i, i < B → W.heap[i]? = w.heap[i]?) : RdK enc k B0 W A d := fun h0 => by
  obtain ⟨b, off, e, hlt, hc⟩ := h h0
  exact ⟨b, off, e, hlt, fun t ht => (World.cell?_of_block (a := ⟨b, off + t, none⟩) (hb b (by omega))).trans (hc t ht)⟩
theorem RdK.far {α : Type} [Inhabited α] {enc : α → List Value} {k B : Nat} {w : World} {A : Option Addr} {d : Array α} (h : RdK enc k B w A d) (p : Addr) (v : Value) (hp : ∀ g off, A = some ⟨g, off, none⟩ → g ≠ p.block) : RdK enc k B (w.setCell p v) A d := fun h0 => by
  obtain ⟨b, off, e, hlt, hc⟩ := h h0
  exact ⟨b, off, e, hlt, fun t ht => (World.cell?_setCell_far w p ⟨b, off + t, none⟩ v (Ne.symm (hp b off e))).trans (hc t ht)⟩
theorem rdI_blk {w : World} {g : Nat} {d : Array Int} {T : TypeId} (h : w.heap[g]? = some (.cells (d.map encI_R) T (0, 0))) : RdI_R w.heap.size w (some ⟨g, 0, none⟩) d := fun _ =>
  ⟨g, 0, rfl, blk_lt h, fun t ht => by
    rw [Nat.zero_add, cell_of_row w g t _ _ (0, 0) h]
    simp [encI_R, ht]⟩
theorem SrtK.putLo {w w1 : World} {g : Nat} {dk : Array (Int × Int)} (h : SrtK encR 2 w g 0 dk w1) {k : Nat} (hk : k < dk.size) (a : Int) : SrtK encR 2 w g 0 (dk.setIfInBounds k (a, dk[k]!.2)) (w1.setCell ⟨g, k * 2, none⟩ (.int .i64 a)) := by
  have hik : k * 2 + 2 ≤ dk.size * 2 := by omega
  refine ⟨?_, h.lt, grown_trans_K h.grown (grown_setCell _ _ _ _)⟩
  unfold HoldsK
  rw [flatK_put encR_len dk k hk]
  have h1 := holds_setCells_c h.holds (k * 2) [.int .i64 a] (by rw [size_flatK]; simp; omega)
  have e1 : (flatK encR 2 dk)[k * 2 + 1]! = .int .i64 dk[k]!.2 := by
    rw [flat_at encR 2 dk k 1 hk (by decide)]; rfl
  have e : setMany (flatK encR 2 dk) (k * 2) (encR (a, dk[k]!.2)) = setMany (flatK encR 2 dk) (k * 2) [.int .i64 a] := by
    have hs : k * 2 + 1 < (flatK encR 2 dk).size := by rw [size_flatK]; omega
    apply Array.ext
    · simp
    · intro t h1 h2
      have ht : t < (flatK encR 2 dk).size := by simpa using h1
      rw [← getElem!_pos _ t h1, ← getElem!_pos _ t h2, get_setMany _ _ _ t ht, get_setMany _ _ _ t ht]
      by_cases c1 : t = k * 2
      · subst c1; simp [encR]
      · by_cases c2 : t = k * 2 + 1
        · subst c2
          rw [e1]
          simp [encR]
        · have l2 : (encR (a, dk[k]!.2)).length = 2 := rfl
          have l1 : [Value.int .i64 a].length = 1 := rfl
          rw [l2, l1, if_neg (by omega), if_neg (by omega)]
  rw [e]
  have h2 := h1
  rw [Nat.zero_add] at h2
  exact h2
def mxR (base : Int) (r : Int × Int) : Int × Int := (max r.1 (base + 1), r.2)
theorem moreK_eq (base lo hi : Int) (told : List Int) : moreK base lo hi told = (betL lo hi (lo + 1) told).toArray.map (mxR base) := by
  unfold moreK mxR
  simp
/-- Add's first loop, at a round's head. -/
def MxL (base : Int) (bt : Array (Int × Int)) (g : Nat) (w : World) (iv : Value) (wr : World) : Prop := ∃ (k : Nat) (dk : Array (Int × Int)), iv = .int .i64 (k : Int) ∧ k ≤ bt.size ∧ dk.size = bt.size ∧ (∀ j, j < k → dk[j]! = mxR base bt[j]!) ∧ (∀ j, k ≤ j → dk[j]! = bt[j]!) ∧ SrtK encR 2 w g 0 dk wr
theorem betL_ne (lo hi : Int) : ∀ (l : List Int) (at' : Int), betL lo hi at' l ≠ []
  | [], _ => by rw [betL]; simp
  | t :: l, at' => by
    rw [betL]
    split
    · simp
    · exact betL_ne lo hi l at'
set_option maxHeartbeats 16000000 in
theorem kAdd_ok (base : Int) (rs ats : Array (Int × Int)) (A1 : Option Addr) (c1 : Nat) (A2 : Option Addr) (c2 : Nat) (lo hi : Int) (atts : Array (Int × Int)) (A3 : Option Addr) (c3 : Nat) (w : World) (h1 : RdK encR 2 w.heap.size w A1 rs) (h2 : RdK encA_I 2 w.heap.size w A2 ats) (h3 : RdK encA_I 2 w.heap.size w A3 atts)
    (hA : AddA ⟨base, rs, ats⟩ lo hi atts) (s1 : rs.size ≤ 500) (s2 : ats.size ≤ 250) (s3 : atts.size ≤ 150) :
    Calls Tryz.prog 9 #[.agg #[.int .i64 base, .slice A1 rs.size c1, .slice A2 ats.size c2], .int .i64 lo, .int .i64 hi, .slice A3 atts.size c3] w fun e w' => ∃ v r, e = .returned (.tuple #[v, .int .i64 0]) ∧ KnV w' v r ∧ AddR ⟨base, rs, ats⟩ lo hi atts r ∧ r.rs.size ≤ rs.size + ats.size + atts.size + 1 ∧ Below w.heap.size w w' := by
  have HC : Hid (∀ W, Below w.heap.size w W → Calls Tryz.prog 12 #[.agg #[.int .i64 base, .slice A1 rs.size c1, .slice A2 ats.size c2]] W fun e w' => e = .returned (.int .i64 (chkE ⟨base, rs, ats⟩)) ∧ Below W.heap.size W w') := fun W hb => kCheck_let base rs ats A1 c1 A2 c2 W ((h1.below hb).mono hb.size) ((h2.below hb).mono hb.size)
  have HRi : Hid (∀ W, Below w.heap.size w W → Calls Tryz.prog 22 #[.slice A3 atts.size c3, .int .i64 lo, .int .i64 hi] W fun e w' => e = .returned (.bool (riseL hi lo atts.toList)) ∧ Below W.heap.size W w') := fun W hb => rise_any A3 c3 atts lo hi W ((h3.below hb).mono hb.size) (by omega)
  rw [hA.up] at HRi
  have q0 := chkE_ne ⟨base, rs, ats⟩
  rw [chk_iff.2 hA.chk] at q0
  have H1 := Lib.hid h1
  have H2 := Lib.hid h2
  have H3 := Lib.hid h3
  have HA := Lib.hid hA
  have hset : setE_R rs = 0 := hA.chk.rs
  have HSet := Lib.hid hset
  have b0 : 0 ≤ base := hA.chk.b0
  have b1 : base ≤ 1000000 := hA.chk.b1
  have l0 := hA.lo0
  have l1 := hA.le
  have l2 := hA.hi1
  have HU1 : Hid ((timesL ats.toList).Pairwise (· < ·)) := List.pairwise_map.2 ((riseL_iff _ _ _).1 hA.chk.up).1
  have HU3 : Hid ((timesL atts.toList).Pairwise (· < ·)) := List.pairwise_map.2 ((riseL_iff _ _ _).1 hA.up).1
  have d1 : decide (lo < 0) = false := decide_eq_false (by omega)
  have d2 : decide (hi < lo) = false := decide_eq_false (by omega)
  have d3 : decide (1000000 < hi) = false := decide_eq_false (by omega)
  clear h1 h2 h3 hA hset
  generalize chkE ⟨base, rs, ats⟩ = ce at q0 HC
  have HT := Lib.hid (two_blk w (.cells #[.int .i64 base, .slice A1 rs.size c1, .slice A2 ats.size c2] 25) (.cells #[.int .i64 0, .slice none 0 0, .slice none 0 0] 25))
  go_enter Tryz.func9, Tryz.ntmps9
  go_wp2_with fail
  refine (HC.out _ (belAlloc (bel1 w _) _)).mono ?_
  rintro e w1 ⟨rfl, hb1⟩
  have HK1 := Lib.hid (blk_bel HT.out.1 hb1)
  have HG1 := Lib.hid (blk_bel HT.out.2 hb1)
  have HB1 := Lib.hid (belStep (belAlloc (bel1 w _) _) hb1)
  clear hb1 HC HT
  go_wp2_with fail
  refine (HRi.out _ HB1.out).mono ?_
  rintro e w2 ⟨rfl, hb2⟩
  have HK2 := Lib.hid (blk_bel HK1.out hb2)
  have HG2 := Lib.hid (blk_bel HG1.out hb2)
  have HB2 := Lib.hid (belStep HB1.out hb2)
  clear hb2 HRi HK1 HG1 HB1
  have HCl := Lib.hid (CloneAny A3 c3 atts w2 ((H3.out.below HB2.out).mono HB2.out.size) (by omega))
  go_wp2_with fail
  refine HCl.out.mono ?_
  rintro e w3 ⟨v3, rfl, hown3, hb3⟩
  have hD := delA_own (addP base rs) 25 #[.pointer (some ⟨w.heap.size, 0, none⟩)] (enters_of Tryz.func25 (by kernel_rfl) rfl) v3 atts w2.heap.size w3 (fun W x hbl hsz => by
      have hr : RdK encR 2 w2.heap.size w2 A1 rs := (H1.out.below HB2.out).mono HB2.out.size
      have hgl := blk_lt HK2.out
      have hkW : W.heap[w.heap.size]? = _ := (hbl _ hgl).trans ((hb3.block _ hgl).trans HK2.out)
      obtain ⟨⟨k0, k1, _⟩, _⟩ := blk3 hkW
      exact kAdd1_any base rs A1 c1 x w.heap.size W (blk_lt hkW) k0 k1 (((hr.below hb3).blocks (Nat.le_refl _) hbl).mono hsz)) hown3 hb3.size (by omega)
  have HD := Lib.hid hD
  have HK3 := Lib.hid (blk_bel HK2.out hb3)
  have HG3 := Lib.hid (blk_bel HG2.out hb3)
  have HB3 := Lib.hid (belStep HB2.out hb3)
  have HL3 := Lib.hid hb3
  have hz2 : w.heap.size + 1 < w2.heap.size := blk_lt HG2.out
  clear hb3 hD hown3 HCl HK2 HG2
  go_wp2_with fail
  refine HD.out.mono ?_
  rintro e w4 ⟨Af, cf, rfl, hrf, nf, _, hb4⟩
  have HFe : Hid ((atts.toList.filter fun x => !addP base rs x).toArray = freshK ⟨base, rs, ats⟩ atts) := by
    show _ = _
    unfold freshK addP
    congr 2
    funext x
    rw [has_in HSet.out]
  rw [HFe.out] at hrf
  have HRF := Lib.hid hrf
  have hb4' : Below w2.heap.size w2 w4 := HL3.out.trans hb4
  have HB4 := Lib.hid (belStep HB2.out hb4')
  have HK4 := Lib.hid (show w4.heap[w.heap.size]? = _ from (hb4.block _ (by omega)).trans HK3.out)
  have HG4 := Lib.hid (show w4.heap[w.heap.size + 1]? = _ from (hb4.block _ hz2).trans HG3.out)
  obtain ⟨fr, hfr⟩ : ∃ fr, fr = (atts.toList.filter fun x => !addP base rs x).toArray := ⟨_, rfl⟩
  have hfs : fr.size ≤ 150 := by
    rw [hfr, HFe.out]
    have := List.length_filter_le (fun a : Int × Int => !(decide (a.1 ≤ base) || inR rs a.1)) atts.toList
    unfold freshK
    simp at this ⊢
    omega
  rw [← hfr]
  rw [← HFe.out, ← hfr] at HRF
  have HFr := Lib.hid (hfr.trans HFe.out)
  clear hfr hrf nf hb4 hb4' HD HK3 HG3 HFe HL3 HB3
  obtain ⟨⟨k0, k1, k2⟩, _⟩ := blk3 HK4.out
  have HM := Lib.hid (merged_any A2 c2 ats Af cf fr w4 ((H2.out.below HB4.out).mono HB4.out.size) HRF.out HU1.out (by omega) (by omega))
  go_wp2_with fail
  refine HM.out.mono ?_
  rintro e w5 ⟨Aa, ca, rfl, hra, na, ga, hb5⟩
  have HB5 := Lib.hid (belStep HB4.out hb5)
  have HK5 := Lib.hid (blk_bel HK4.out hb5)
  have HG5 := Lib.hid (blk_bel HG4.out hb5)
  have HRA := Lib.hid hra
  have HNA := Lib.hid na
  have HGA : Hid (∀ g off, Aa = some ⟨g, off, none⟩ → w.heap.size + 1 < g) := fun g off e => Nat.lt_of_lt_of_le (blk_lt HG4.out) (ga g off e)
  clear hra na ga hb5 HM k0 k1 k2 HK4 HG4 HRF
  obtain ⟨⟨k0, k1, k2⟩, _⟩ := blk3 HK5.out
  have HM2 := Lib.hid (merged_any A3 c3 atts A2 c2 ats w5 ((H3.out.below HB5.out).mono HB5.out.size) ((H2.out.below HB5.out).mono HB5.out.size) HU3.out (by omega) (by omega))
  go_wp2_with fail
  refine HM2.out.mono ?_
  rintro e w6 ⟨Am, cm, rfl, hrm, nm, gm', hb6⟩
  have HB6 := Lib.hid (belStep HB5.out hb6)
  have HK6 := Lib.hid (blk_bel HK5.out hb6)
  have HG6 := Lib.hid (blk_bel HG5.out hb6)
  have HRA6 := Lib.hid ((HRA.out.below hb6).mono hb6.size)
  have hms := mrgK_size atts ats
  have hHM : Hid (timesL (mrgK atts ats).toList = (timesA (mrgK atts ats)).toList) := by show _ = _; simp [timesA]
  obtain ⟨M, hM⟩ : ∃ M, mrgK atts ats = M := ⟨_, rfl⟩
  rw [hM] at hrm hms hHM
  rw [hM]
  have HTm := Lib.hid (times_any Am cm M w6 hrm (by omega))
  have HMe := Lib.hid hM
  clear hrm nm gm' hb6 HM2 k0 k1 k2 HK5 HG5 HB5 HRA hM
  go_wp2_with fail
  refine HTm.out.mono ?_
  rintro e w7 ⟨rfl, hblk7, hb7⟩
  have HB7 := Lib.hid (belStep HB6.out hb7)
  have HK7 := Lib.hid (blk_bel HK6.out hb7)
  have HG7 := Lib.hid (blk_bel HG6.out hb7)
  have HRA7 := Lib.hid ((HRA6.out.below hb7).mono hb7.size)
  have hMs : (timesA M).size ≤ 400 := by rw [timesA_size]; omega
  have HBt := Lib.hid (between_any lo hi (some ⟨w6.heap.size, 0, none⟩) M.size (timesA M) w7 (rdI_blk hblk7) l0 (by omega) (by omega) (by omega))
  clear hblk7 hb7 HTm HK6 HG6 HB6 HRA6
  go_wp2_with fail
  refine HBt.out.mono ?_
  rintro e w8 ⟨v8, rfl, hown8, hb8⟩
  have hbl := betL_len lo hi (timesA M).toList (lo + 1)
  have hbn := betL_ne lo hi (timesA M).toList (lo + 1)
  obtain ⟨bt, hbt⟩ : ∃ bt, (betL lo hi (lo + 1) (timesA M).toList).toArray = bt := ⟨_, rfl⟩
  have hbs : 0 < bt.size ∧ bt.size ≤ 401 ∧ bt.size ≤ M.size + 1 := by
    rw [← hbt]
    have := List.length_pos_iff.2 hbn
    have e : (timesA M).toList.length = (timesA M).size := by simp
    have e2 := timesA_size M
    simp
    omega
  rw [hbt] at hown8
  have hn8 : v8 ≠ .slice none 0 0 := by
    rintro rfl
    obtain ⟨_, ⟨_, h0⟩ | ⟨g, cap, cur, hv, _⟩⟩ := hown8
    · omega
    · cases hv
  obtain ⟨gm, cap, rfl, hgb, hlt8, hH8⟩ := holds_of_owns hown8 hn8
  have HB8 := Lib.hid (belStep HB7.out hb8)
  have HK8 := Lib.hid (blk_bel HK7.out hb8)
  have HG8 := Lib.hid (blk_bel HG7.out hb8)
  have HRA8 := Lib.hid (HRA7.out.below hb8)
  have hz78 := hb8.size
  have HGB := Lib.hid hgb
  have hgm : w.heap.size + 1 < gm := Nat.lt_of_lt_of_le (blk_lt HG7.out) hgb
  have HBT := Lib.hid hbt
  have HH8 := Lib.hid hH8
  have HMS := Lib.hid hMs
  obtain ⟨bs0, bs1, bs2⟩ := hbs
  clear hbl hbn hbt hown8 hn8 hb8 HBt HK7 HG7 HB7 HRA7 hMs hgb hH8
  go_wp2
  go_loopw [61] (fun iv wr => MxL base bt gm w8 iv wr) (fun i _ => bt.size - (intOf i).toNat)
  case atStart => exact ⟨0, bt, rfl, Nat.zero_le _, rfl, (fun j hj => absurd hj (by omega)), (fun _ _ => rfl), SrtK.refl HH8.out hlt8⟩
  case round =>
    obtain ⟨k, dk, rfl, hk, hds, hlo, hhi, hS⟩ := hrel
    have HLo := Lib.hid hlo
    have HHi := Lib.hid hhi
    have HS := Lib.hid hS
    have HDs := Lib.hid hds
    clear hlo hhi hS hds
    obtain ⟨⟨kb0, kb1, kb2⟩, fb⟩ := blk3 ((HS.out.grown.block _ (blk_lt HK8.out) (fun e => by injection e with e; omega)).trans HK8.out)
    by_cases hlt : k < bt.size
    · have kz : (k : Int) < (bt.size : Int) := by omega
      have cl := HS.out.holds.cell (i := k) (c := 0) (by rw [HDs.out]; exact hlt) (by decide)
      simp only [Nat.zero_add, Nat.add_zero] at cl
      obtain ⟨cl0, cl1⟩ := cl
      rw [HHi.out k (Nat.le_refl _)] at cl0
      obtain ⟨x, hx⟩ : ∃ x, bt[k]! = x := ⟨_, rfl⟩
      rw [hx] at cl0
      have HX := Lib.hid hx
      clear hx
      simp only [encR, List.getElem!_cons_zero] at cl0
      go_wp2
      go_still_tail 13, (by kernel_rfl)
      go_wp2
      go_roundw
      case rel =>
        have hds := HDs.out
        have hd2 : dk[k]!.2 = x.2 := by rw [HHi.out k (Nat.le_refl _), HX.out]
        refine ⟨k + 1, dk.setIfInBounds k (max x.1 (base + 1), dk[k]!.2), by go_num, by omega, by simpa using hds, fun j hj => ?_, fun j hj => ?_, (HS.out.putLo (by omega) _).below ((Below.refl _ _).drew)⟩
        · by_cases e : j = k
          · subst e
            rw [getElem!_set_same dk j _ (by omega), hd2, HX.out]
            rfl
          · rw [getElem!_set_other dk k j _ e]
            exact HLo.out j (by omega)
        · rw [getElem!_set_other dk k j _ (by omega)]
          exact HHi.out j (by omega)
      case measure => simp [intOf]; omega
    · have kend : k = bt.size := by omega
      have HDk : Hid (dk = moreK base lo hi (timesA M).toList) := by
        show _ = _
        rw [moreK_eq, HBT.out]
        refine arr_ext_K (by rw [HDs.out]; simp) fun j hj => ?_
        have hj' : j < bt.size := by rw [← HDs.out]; exact hj
        rw [HLo.out j (by omega)]
        simp [hj']
      have hbw : Below w.heap.size w wr := HB8.out.grown HS.out.grown HB8.out.size (fun k hk => by injection hk with hk; omega)
      have HG9 : Hid (wr.heap[w.heap.size + 1]? = _) := (HS.out.grown.block _ (blk_lt HG8.out) (fun e => by injection e with e; omega)).trans HG8.out
      have HK9 : Hid (wr.heap[w.heap.size]? = _) := (HS.out.grown.block _ (blk_lt HK8.out) (fun e => by injection e with e; omega)).trans HK8.out
      have hrd := RdK.of_holds HS.out.holds HS.out.lt1
      have hra9 : RdK encA_I 2 wr.heap.size wr Aa (mrgK ats fr) := (HRA8.out.blocks (Nat.le_refl _) (fun i hi => HS.out.grown.block i (by omega) (fun e => by injection e with e; have := HGB.out; omega))).mono (Nat.le_trans hz78 HS.out.grown.size)
      have hadd := gAdd_few A1 c1 rs (some ⟨gm, 0, none⟩) cap dk wr ((H1.out.below hbw).mono hbw.size) hrd HSet.out (by rw [HDs.out]; omega)
      rw [HDs.out] at hadd
      have HAd := Lib.hid hadd
      have HBW := Lib.hid hbw
      have HRd := Lib.hid hrd
      have HRA9 := Lib.hid hra9
      clear hadd hbw hrd hra9
      go_wp2_with fail
      refine HAd.out.mono ?_
      rintro e w9 ⟨v9, L, rfl, hIs, hLs, ⟨Al, cll, rfl, hrl, hnl⟩, hb9⟩
      have HIs := Lib.hid hIs
      have HLs := Lib.hid hLs
      have HRL := Lib.hid hrl
      have HB9 := Lib.hid (belStep HBW.out hb9)
      have HK10 := Lib.hid (blk_bel HK9.out hb9)
      have HG10 := Lib.hid (blk_bel HG9.out hb9)
      have HRd10 := Lib.hid ((HRd.out.below hb9).mono hb9.size)
      have HRA10 := Lib.hid ((HRA9.out.below hb9).mono hb9.size)
      clear hIs hLs hrl hnl hb9 HK9 HG9 HRA9 HRd HAd HBW HRA8 HB8 HK8 HG8 kb0 kb1 kb2 fb
      have HDS := Lib.hid (show dk.size = bt.size from HDs.out)
      go_wp2
      go_loopw [84] (fun iv wr => ∃ j : Nat, iv = .int .i64 (j : Int) ∧ j ≤ bt.size ∧ Below w9.heap.size w9 wr) (fun i _ => bt.size - (intOf i).toNat)
      case atStart => exact ⟨0, rfl, Nat.zero_le _, Below.refl _ _⟩
      case round =>
        obtain ⟨j, rfl, hj, hB⟩ := hrel
        have HB := Lib.hid hB
        clear hB
        by_cases hlt2 : j < bt.size
        · have jz : (j : Int) < (bt.size : Int) := by omega
          have hjd : j < dk.size := by rw [HDS.out]; exact hlt2
          obtain ⟨b, off, e, _, f⟩ := (HRd10.out.below HB.out).at_ (i := j) hjd
          injection e with e
          injection e with eb eo
          subst eb eo
          have e0 := f 0 (by omega)
          have e1 := f 1 (by omega)
          have hY : dk[j]!.1 ≤ dk[j]!.2 → hasB_R L dk[j]!.1 = true := fun hle => by
            have hL := HLs.out
            have hD := HDS.out
            rw [HIs.out.has (by omega)]
            unfold pAdd
            rw [Bool.and_eq_true, Bool.or_eq_true, may1_iff]
            have a1 := HLo.out j (by omega)
            have a2 : bt[j]!.2 ≤ hi := by
              rw [← HBT.out]
              have hm : (betL lo hi (lo + 1) (timesA M).toList).toArray[j]! ∈ betL lo hi (lo + 1) (timesA M).toList := by
                have hj2 : j < (betL lo hi (lo + 1) (timesA M).toList).toArray.size := by rw [HBT.out]; exact hlt2
                rw [getElem!_pos _ j hj2]
                simp
              exact betL_hi lo hi _ _ _ hm
            have a3 : dk[j]!.2 = bt[j]!.2 := by rw [a1]; rfl
            have a4 : dk[j]!.1 = max bt[j]!.1 (base + 1) := by rw [a1]; rfl
            refine ⟨by omega, Or.inr (inR_yes hjd ?_)⟩
            unfold inB_R
            rw [decide_eq_true_iff]
            exact ⟨Int.le_refl _, hle⟩
          have HY := Lib.hid hY
          clear hY
          generalize dk[j]! = y at e0 e1 HY
          simp only [Nat.zero_add, Nat.add_zero, encR, List.getElem!_cons_zero, List.getElem!_cons_succ] at e0 e1
          clear f
          by_cases hy : y.1 ≤ y.2
          · have hy' : decide (y.1 ≤ y.2) = true := by simpa using hy
            have hh := fun W (hb : Below wr.heap.size wr W) => gHas_any Al cll L y.1 W ((HRL.out.below (belStep HB.out hb)).mono (belStep HB.out hb).size)
            rw [HY.out hy] at hh
            have HH := Lib.hid hh
            clear hy hh HY
            go_wp2_with fail
            refine (HH.out _ (bel1 _ _)).mono ?_
            rintro e w10 ⟨rfl, hb10⟩
            go_wp2
            go_roundw
            case rel => exact ⟨j + 1, by go_num, by omega, belStep (belAlloc HB.out _) hb10⟩
            case measure => simp [intOf]; omega
          · have hy' : decide (y.1 ≤ y.2) = false := decide_eq_false hy
            clear hy HY
            go_wp2
            go_roundw
            case rel => exact ⟨j + 1, by go_num, by omega, belAlloc HB.out _⟩
            case measure => simp [intOf]; omega
        · have hlt2' : decide ((j : Int) < (bt.size : Int)) = false := decide_eq_false (by omega)
          have hall := mrgK_size ats fr
          have q4 : decide ((400 : Int) < ((mrgK ats fr).size : Int)) = false := decide_eq_false (by omega)
          obtain ⟨⟨k0, k1, k2⟩, _⟩ := blk3 (blk_bel HK10.out HB.out)
          have HGW := Lib.hid (blk_bel HG10.out HB.out)
          have HFo := Lib.hid (form_K base Al cll L Aa (mrgK ats fr).size ca wr ((HRL.out.below HB.out).mono HB.out.size))
          have HRAw := Lib.hid ((HRA10.out.below HB.out).mono HB.out.size)
          go_wp2_with fail
          refine HFo.out.mono ?_
          rintro e w11 ⟨Ao, out, co, rfl, hLess, hro, hno, hfo, hb11⟩
          have HLess := Lib.hid hLess
          have HRo := Lib.hid hro
          have HNo := Lib.hid hno
          have HFr2 : Hid (∀ g off, Ao = some ⟨g, off, none⟩ → g ≠ w.heap.size + 1) := fun g off e => by
            have h1 := hfo g off e
            have h2 := blk_lt HGW.out
            omega
          have HRA11 := Lib.hid ((HRAw.out.below hb11).mono hb11.size)
          have HB11 := Lib.hid (belStep (belStep HB9.out HB.out) hb11)
          obtain ⟨⟨m0, m1, m2⟩, f0⟩ := blk3 (blk_bel HGW.out hb11)
          clear hLess hro hno hfo hb11 k0 k1 k2
          go_wp2
          refine bodyPost_ret (v := .tuple #[.agg #[.int .i64 (preE L base), .slice Ao out.size co, .slice Aa (mrgK ats fr).size ca], .int .i64 0]) (by simp [results, Tryz.results9, go_sem, m0, m1, m2]) rfl ⟨_, ⟨preE L base, out, mrgK ats fr⟩, rfl, ?_, ?_, ?_, ?_⟩
          · refine ⟨Ao, co, Aa, ca, rfl, ?_, ?_, HNo.out, HNA.out⟩
            · exact (((HRo.out.far _ _ HFr2.out).far _ _ HFr2.out).far _ _ HFr2.out).mono (by simp)
            · have hne : ∀ g off, Aa = some ⟨g, off, none⟩ → g ≠ w.heap.size + 1 := fun g off e => by have := HGA.out g off e; omega
              exact (((HRA11.out.far _ _ hne).far _ _ hne).far _ _ hne).mono (by simp)
          · have hL := HLs.out
            have hAll : mrgK ats fr = allK ⟨base, rs, ats⟩ atts := by unfold allK; rw [← HFr.out]
            refine ⟨L, HIs.out.congr (fun n => ?_), by omega, ⟨rfl, HLess.out, hAll⟩⟩
            rw [HDk.out, ← hHM.out, ← HMe.out]
            exact more_p HA.out.chk l2 HA.out.up n
          · have hL := HLs.out
            have hset : setE_R L = 0 := HIs.out.set (by omega)
            have hp := (pre_has hset base).1
            have hc := (less_cut hset (b := preE L base) (by omega) HLess.out).2
            show out.size ≤ _
            omega
          · exact ((HB11.out.setCell (by simp) _).setCell (by simp) _).setCell (by simp) _
/-- What Add tells. -/
def AddOut (k : KN) (lo hi : Int) (atts : Array (Int × Int)) (w' : World) (e : Ending) : Prop :=
  (addB k lo hi atts = false ∧ e = .returned (.tuple #[.agg #[.int .i64 0, .slice none 0 0, .slice none 0 0], .int .i64 2])) ∨ (AddA k lo hi atts ∧ ∃ v r, e = .returned (.tuple #[v, .int .i64 0]) ∧ KnV w' v r ∧ AddR k lo hi atts r ∧ r.rs.size ≤ k.rs.size + k.ats.size + atts.size + 1)
theorem kAdd_any (v : Value) (k : KN) (lo hi : Int) (atts : Array (Int × Int)) (A3 : Option Addr) (c3 : Nat) (w : World) (h : KnV w v k) (h3 : RdK encA_I 2 w.heap.size w A3 atts) (s1 : k.rs.size ≤ 500) (s2 : k.ats.size ≤ 250) (s3 : atts.size ≤ 150) :
    Calls Tryz.prog 9 #[v, .int .i64 lo, .int .i64 hi, .slice A3 atts.size c3] w fun e w' => AddOut k lo hi atts w' e ∧ Below w.heap.size w w' := by
  obtain ⟨base, rs, ats⟩ := k
  obtain ⟨A1, c1, A2, c2, rfl, h1, h2, _, _⟩ := h
  cases hb : addB ⟨base, rs, ats⟩ lo hi atts
  · exact (kAdd_bad base rs ats A1 c1 A2 c2 lo hi atts A3 c3 w h1 h2 h3 (by omega) hb).mono fun e w' ⟨he, hw⟩ => ⟨Or.inl ⟨hb, he⟩, hw⟩
  · exact (kAdd_ok base rs ats A1 c1 A2 c2 lo hi atts A3 c3 w h1 h2 h3 (add_iff.1 hb) s1 s2 s3).mono fun e w' ⟨v, r, he, hk, ha, hs, hw⟩ => ⟨Or.inr ⟨add_iff.1 hb, v, r, he, hk, ha, hs⟩, hw⟩
end Go.Proofs.YtgpejfkmdenonaaGreat
